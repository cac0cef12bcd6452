import Derived.Test.YteeibieaapiomaaSbE
/- SRows -/
/- SiteRows: the walk. -/
namespace Go.Proofs.Yteeibieaapiomaa.D
open Go Go.Z Go.Proofs
set_option linter.unusedVariables false
section
variable {w0 w w' : World} {s : Nat} {q q' : SP} {E : List Ent} {I : List Bool} {m : ByteArray → Int} {N N' : List ND} {f : Bool} {R : Nat → Prop} {τ : Nat}
theorem IsS.oth (h : IsS w s q E I m N f) (hc : Chg w w' R) (hR : OneT w τ R) (h1 : τ ≠ 102) (h2 : τ ≠ 76) (h3 : τ ≠ 80) (h4 : τ ≠ 5) (h5 : τ ≠ 3) (h6 : τ ≠ 89) (h7 : τ ≠ 72) (h8 : τ ≠ 91) (h9 : τ ≠ 74) (h10 : τ ≠ 4) : IsS w' s q E I m N f :=
  ⟨h.blk.typ hc hR (Ne.symm h7), h.doc.typ hc hR h1 h2 h3 h4 h5 h6, h.mrk.typ hc hR (Ne.symm h8), h.own.typ hc hR (Ne.symm h9), h.iso.typ hc hR (Ne.symm h10), h.mp.typ hc hR⟩
theorem SF.tape (h : SF w0 w s q E I m N f) {bt : Nat} {cs : List Value} (hb : Blk w bt 30 cs) (hge : w0.heap.size ≤ bt) (hc : Chg w w' (· = bt)) : SF w0 w' s q E I m N f :=
  ⟨h.is.oth hc (fun k hk => ⟨_, hk ▸ hb⟩) (by decide) (by decide) (by decide) (by decide) (by decide) (by decide) (by decide) (by decide) (by decide) (by decide), h.inv, h.wf, h.ge, h.chg.trans hc (fun i hi hk => by rw [hk] at hi; omega)⟩
theorem Tp.site {bt : Nat} {a : Option Addr} {len cap : Nat} {zs : List Int} {at_ : Nat} (hT : Tp w0 w bt a len cap zs at_) (h : SF w0 w s q E I m N f) (hW : WrS w w' s q q') : Tp w0 w' bt a len cap zs at_ :=
  hT.oth hW.chg (h.is.noT hT.blk (by decide) (by decide) (by decide) (by decide) (by decide) (by decide) (by decide) (by decide)) h.ge
theorem Inv.rows (h : Inv E I m N) : (E.map Ent.n).getD 0 0 = 0 ∧ (∀ k, k < E.length → (E.map Ent.n).getD k 0 < N.length ∧ (N.getD ((E.map Ent.n).getD k 0) n0).kind = 1) ∧ (∀ j k, j < k → k < E.length → (E.map Ent.n).getD j 0 ≠ (E.map Ent.n).getD k 0) ∧ (E.map Ent.n).getD (E.length - 1) 0 = (lastE E).n := by
  have key : ∀ k, (E.map Ent.n).getD k 0 = (E.getD k en0).n := fun k => by
    rw [List.getD_eq_getElem?_getD, List.getD_eq_getElem?_getD, List.getElem?_map]
    cases E[k]? <;> rfl
  refine ⟨by rw [key, h.root]; rfl, fun k hk => ?_, fun j k hjk hk he => ?_, key _⟩
  · rw [key]
    have := h.el _ (getD_mem (d := en0) hk)
    exact ⟨this.1, this.2.2⟩
  · have hl : (E.map Ent.n).length = E.length := List.length_map ..
    rw [List.getD_eq_getElem?_getD, List.getD_eq_getElem?_getD, List.getElem?_eq_getElem (by omega), List.getElem?_eq_getElem (by omega)] at he
    exact List.pairwise_iff_getElem.1 h.nd j k _ _ hjk he
end
def rX : ND := ⟨1, 1, ⟨#[120]⟩, [], [], -1, []⟩
def rN (i : Nat) : List ND := rootN ++ List.replicate i rX
theorem rN_len (i : Nat) : (rN i).length = i + 1 := by simp [rN, rootN]
theorem rN_succ (i : Nat) : rN i ++ [rX] = rN (i + 1) := by unfold rN; rw [List.append_assoc, List.replicate_succ']
def nN : List ND := rN 6 ++ [⟨3, 0, ⟨#[]⟩, [], [110], -1, []⟩]
theorem nN_big : BigT nN := BigT.of (fun x hx => by
  have : nN = [⟨1, 1, ⟨#[]⟩, [], [], -1, []⟩, rX, rX, rX, rX, rX, rX, ⟨3, 0, ⟨#[]⟩, [], [110], -1, []⟩] := by rfl
  rw [this] at hx
  simp only [List.mem_cons, List.not_mem_nil, or_false] at hx
  rcases hx with rfl | rfl | rfl | rfl | rfl | rfl | rfl | rfl <;> exact ⟨by decide, by decide⟩)
theorem nN_el {n : Nat} (h : n < nN.length) (hk : (nN.getD n n0).kind = 1) : n < 7 := by
  have h8 : nN.length = 8 := by rfl
  have : n ≠ 7 := by rintro rfl; exact absurd hk (by decide)
  omega
set_option maxRecDepth 100000 in
set_option maxHeartbeats 16000000 in
theorem SiteRows_walk (a : Option Addr) (len cap : Nat) (zs : List Int) (w : World) (hrow : IsRow .i64 w a len cap zs) : Calls Try.prog 3 #[.slice a len cap] w fun e w' => e = .returned (.bool true) ∧ RowKit.Below w.heap.size w w' := by
  show Calls Try.prog 3 [Value.slice a len cap].toArray w _
  obtain ⟨hlc, hcm, _⟩ := hrow.le
  refine calls_zc (n := 129) (f := 3) (fn := Try.f3) Try.func3 rfl rfl (by simp) ?_
  refine zc_seq ?_
  refine zc_region ?_
  refine zl_pureL rfl ?_
  refine zl_nil ?_
  refine zk_seq ?_
  iterate 2 (refine zc_seq ?_)
  refine zc_region ?_
  refine zl_call (by first | exact want_none | exact want_L rfl) rfl (by decide) rfl known8_calls ?_
  rintro _ w1 ⟨rfl, hC1⟩
  refine ⟨_, rfl, ?_⟩
  refine zl_pureL rfl ?_
  refine zl_nil ?_
  refine zk_seq ?_
  refine zc_false rfl ?_
  refine zc_skip ?_
  refine zk_seq ?_
  refine zc_seq ?_
  refine zc_region ?_
  refine zl_call (by first | exact want_none | exact want_L rfl) rfl (by decide) rfl (sNew_calls hC1) ?_
  rintro _ w2 ⟨s, q, rfl, h2, _, _⟩
  refine ⟨_, rfl, ?_⟩
  refine zl_pureL rfl ?_
  refine zl_nil ?_
  refine zk_seq ?_
  iterate 2 (refine zc_seq ?_)
  refine zc_region ?_
  refine zl_pureL rfl ?_
  refine z_eqPN (by first | exact want_none | exact want_L rfl) (by decide) rfl rfl ?_
  iterate 2 (refine zl_pureL rfl ?_)
  refine zl_call (by first | exact want_none | exact want_L rfl) rfl (by decide) rfl (sDoc_calls h2.is) ?_
  rintro _ u ⟨rfl, hu⟩
  obtain rfl := hu.symm
  refine ⟨_, rfl, ?_⟩
  refine z_eqPN (by first | exact want_none | exact want_L rfl) (by decide) rfl rfl ?_
  refine zl_pureL rfl ?_
  refine zl_nil ?_
  refine zk_seq ?_
  refine zc_false rfl ?_
  refine zc_skip ?_
  refine zk_seq ?_
  refine zc_seq ?_
  refine zc_region ?_
  refine zl_pureL rfl ?_
  refine z_buildE #[.slice a len cap, .int .i64 0] (by first | exact want_none | exact want_L rfl) (by decide) rfl (by kernel_rfl) ?_
  refine z_box (by first | exact want_none | exact want_L rfl) (by decide) rfl (fun w3 bt hN3 => ?_)
  have hT3 : Tp w w3 bt a len cap zs 0 := ⟨hN3.blk, hrow, h2.chg.no hN3.chg, hN3.ge h2.chg, Nat.zero_le _⟩
  have h3 := h2.no hN3.chg
  refine zl_pureL rfl ?_
  refine zl_nil ?_
  refine zk_seq ?_
  iterate 2 (refine zc_seq ?_)
  refine zc_region ?_
  refine zl_pureL rfl ?_
  refine zl_nil ?_
  refine zk_seq ?_
  refine zc_block ?_
  refine zc_loopW (ι := Nat × SP) (fun k u => [(3, .pointer (some ⟨s, 0, none⟩)), (4, .pointer (some ⟨bt, 0, none⟩)), (5, .int .i64 (k.1 : Nat))])
    (fun k u => k.1 ≤ 6 ∧ SF w u s k.2 [en0] [true] (fun _ => 0) (rN k.1) false ∧ Tp w u bt a len cap zs 0) (fun k u => 6 - k.1) (0, q)
    ⟨Nat.zero_le _, h3, hT3⟩ ?_ ?_
  · exact ⟨rfl, rfl, rfl, trivial⟩
  rintro ⟨i, qi⟩ u ⟨hi, hS, hT⟩
  dsimp only at hi hS hT ⊢
  by_cases hlt : i < 6
  · iterate 2 (refine zc_seq ?_)
    refine zc_region ?_
    refine zl_pureL rfl ?_
    refine z_cmpB (r := true) want_none (by decide) rfl rfl rfl (iff_of_true rfl (by omega)) ?_
    refine zl_nil ?_
    refine zk_seq ?_
    refine zc_true rfl ?_
    refine zc_skip ?_
    refine zk_seq ?_
    refine zc_seq ?_
    refine zc_block ?_
    refine zc_region ?_
    refine zl_pureL rfl ?_
    refine zl_call (by first | exact want_none | exact want_L rfl) rfl (by decide) rfl (sDoc_calls hS.is) ?_
    rintro _ v ⟨rfl, hv⟩
    obtain rfl := hv.symm
    refine ⟨_, rfl, ?_⟩
    skip
    refine zl_call (by first | exact want_none | exact want_L rfl) rfl (by decide) rfl (hS.docElem (by rw [rN_len]; omega) 1 ⟨#[120]⟩ (AttrS.nil _) (Nat.zero_le _)) ?_
    rintro _ u2 ⟨rfl, q2, hq2, hW2, hS2⟩
    refine ⟨_, rfl, ?_⟩
    have e2 : rN i ++ [⟨1, 1, ⟨#[120]⟩, [], [], -1, []⟩] = rN (i + 1) := rN_succ i
    rw [e2] at hS2
    refine zl_nil ?_
    refine zk_norm_block ?_
    refine zk_seq ?_
    refine zc_region ?_
    refine zl_pureL rfl ?_
    refine z_add want_none (by decide) rfl rfl (by omega) (by omega) ?_
    refine zl_pureL rfl ?_
    refine zl_nil ?_
    exact zk_loopW (i + 1, q2) ⟨by dsimp only; omega, hS2, hT.site hS hW2⟩ (by dsimp only; omega) ⟨rfl, rfl, rfl, trivial⟩
  obtain rfl : i = 6 := by omega
  iterate 2 (refine zc_seq ?_)
  refine zc_region ?_
  refine zl_pureL rfl ?_
  refine z_cmpB (r := false) want_none (by decide) rfl rfl rfl (iff_of_false Bool.false_ne_true (by omega)) ?_
  refine zl_nil ?_
  refine zk_seq ?_
  refine zc_false rfl ?_
  refine zc_exit ?_
  iterate 2 (refine zk_exit_then ?_)
  refine zk_exit_block ?_
  refine zk_seq ?_
  refine zc_seq ?_
  refine zc_region ?_
  refine zl_pureL rfl ?_
  refine zl_call (by first | exact want_none | exact want_L rfl) rfl (by decide) rfl (sDoc_calls hS.is) ?_
  rintro _ v ⟨rfl, hv⟩
  obtain rfl := hv.symm
  refine ⟨_, rfl, ?_⟩
  skip
  refine zl_call (by first | exact want_none | exact want_L rfl) rfl (by decide) rfl (hS.docNote (by rw [rN_len]; omega) [110] (by decide)) ?_
  rintro _ u2 ⟨rfl, q2, hq2, hW2, hS2⟩
  refine ⟨_, rfl, ?_⟩
  rw [rN_len]
  have hT2 := hT.site hS hW2
  have hS2 : SF w u2 s q2 [en0] [true] (fun _ => 0) nN false := hS2
  refine zl_pureL rfl ?_
  refine zl_nil ?_
  refine zk_seq ?_
  iterate 2 (refine zc_seq ?_)
  refine zc_region ?_
  refine zl_pureL rfl ?_
  refine zl_nil ?_
  refine zk_seq ?_
  refine zc_block ?_
  refine zc_loopW (ι := Nat × SP × List Ent × List Bool × (ByteArray → Int) × Nat) (fun k u => [(3, .pointer (some ⟨s, 0, none⟩)), (4, .pointer (some ⟨bt, 0, none⟩)), (6, .int .i64 7), (7, .int .i64 (k.1 : Nat))])
    (fun k u => k.1 ≤ 40 ∧ SF w u s k.2.1 k.2.2.1 k.2.2.2.1 k.2.2.2.2.1 nN false ∧ Tp w u bt a len cap zs k.2.2.2.2.2) (fun k u => 40 - k.1) (0, q2, [en0], [true], (fun _ => 0), 0)
    ⟨Nat.zero_le _, hS2, hT2⟩ ?_ ?_
  · exact ⟨rfl, rfl, rfl, rfl, trivial⟩
  rintro ⟨i, qi, E, I, m, at_⟩ u3 ⟨hi, hS3, hT3⟩
  dsimp only at hi hS3 hT3 ⊢
  by_cases hlt : i < 40
  rotate_left
  · iterate 2 (refine zc_seq ?_)
    refine zc_region ?_
    refine zl_pureL rfl ?_
    refine z_cmpB (r := false) want_none (by decide) rfl rfl rfl (iff_of_false Bool.false_ne_true (by omega)) ?_
    iterate 2 (refine zl_pureL rfl ?_)
    refine zl_skip rfl ?_
    refine zl_pureL rfl ?_
    refine zl_nil ?_
    refine zk_seq ?_
    refine zc_false rfl ?_
    refine zc_exit ?_
    iterate 2 (refine zk_exit_then ?_)
    refine zk_exit_block ?_
    refine zk_seq ?_
    refine zc_seq ?_
    refine zc_region ?_
    refine zl_pureL rfl ?_
    refine zl_nil ?_
    refine zk_seq ?_
    refine zc_ret ?_
    exact zk_ret1 (.inr rfl) rfl rfl ⟨rfl, hS3.chg.below⟩
  iterate 2 (refine zc_seq ?_)
  refine zc_region ?_
  refine zl_pureL rfl ?_
  refine z_cmpB (r := true) want_none (by decide) rfl rfl rfl (iff_of_true rfl (by omega)) ?_
  iterate 2 (refine zl_pureL rfl ?_)
  refine zl_call (by first | exact want_none | exact want_L rfl) rfl (by decide) rfl (more_calls hT3) ?_
  rintro _ u4 ⟨rfl, hC4⟩
  refine ⟨_, rfl, ?_⟩
  have hS4 := hS3.no hC4
  have hT4 := hT3.no hC4
  by_cases hmore : at_ < len
  rotate_left
  · rw [decide_eq_false hmore]
    refine zl_pureL rfl ?_
    refine zl_nil ?_
    refine zk_seq ?_
    refine zc_false rfl ?_
    refine zc_exit ?_
    iterate 2 (refine zk_exit_then ?_)
    refine zk_exit_block ?_
    refine zk_seq ?_
    refine zc_seq ?_
    refine zc_region ?_
    refine zl_pureL rfl ?_
    refine zl_nil ?_
    refine zk_seq ?_
    refine zc_ret ?_
    exact zk_ret1 (.inr rfl) rfl rfl ⟨rfl, hS4.chg.below⟩
  rw [decide_eq_true hmore]
  refine zl_pureL rfl ?_
  refine zl_nil ?_
  refine zk_seq ?_
  refine zc_true rfl ?_
  refine zc_skip ?_
  refine zk_seq ?_
  refine zc_seq ?_
  refine zc_block ?_
  refine zc_seq ?_
  refine zc_region ?_
  refine zl_pureL rfl ?_
  refine zl_call (by first | exact want_none | exact want_L rfl) rfl (by decide) rfl (next'_calls hT4 9 (by decide) (by decide) rfl) ?_
  rintro _ u5 ⟨rfl, hT5, hC5⟩
  refine ⟨_, rfl, ?_⟩
  have hS5 := hS4.tape hT4.blk hT4.ge hC5
  refine zl_pureL rfl ?_
  refine zl_call (by first | exact want_none | exact want_L rfl) rfl (by decide) rfl (next'_calls hT5 9 (by decide) (by decide) rfl) ?_
  rintro _ u6 ⟨rfl, hT6, hC6⟩
  refine ⟨_, rfl, ?_⟩
  have hS6 := hS5.tape hT5.blk hT5.ge hC6
  iterate 2 (refine zl_pureL rfl ?_)
  refine zl_nil ?_
  refine zk_seq ?_
  iterate 2 (refine zc_seq ?_)
  refine zc_region ?_
  refine zl_pureL rfl ?_
  refine zl_call (by first | exact want_none | exact want_L rfl) rfl (by decide) rfl (next'_calls hT6 6 (by decide) (by decide) rfl) ?_
  rintro _ u7 ⟨rfl, hT7, hC7⟩
  refine ⟨_, rfl, ?_⟩
  have hS7 := hS6.tape hT6.blk hT6.ge hC7
  obtain ⟨at3, hat3⟩ : ∃ x, x = (nx zs len (nx zs len (nx zs len at_ 9).2 9).2 6).2 := ⟨_, rfl⟩
  obtain ⟨c, hc⟩ : ∃ x, x = (nx zs len (nx zs len (nx zs len at_ 9).2 9).2 6).1 := ⟨_, rfl⟩
  obtain ⟨x, hx⟩ : ∃ x, x = (nx zs len at_ 9).1 := ⟨_, rfl⟩
  obtain ⟨y, hy⟩ : ∃ x, x = (nx zs len (nx zs len at_ 9).2 9).1 := ⟨_, rfl⟩
  have hc6 : c < 6 := by rw [hc]; exact nx_lt _ _ _ 6 (by decide)
  rw [← hat3] at hT7
  rw [← hc, ← hx, ← hy]
  have hnl : nN.length ≤ 900000 := by decide
  refine zl_nil ?_
  refine zk_seq ?_
  refine zc_midTX (ι := SP × List Ent × List Bool × (ByteArray → Int)) (fun k u => SF w u s k.1 k.2.1 k.2.2.1 k.2.2.2 nN false ∧ Tp w u bt a len cap zs at3) (fun k => [(3, .pointer (some ⟨s, 0, none⟩)), (4, .pointer (some ⟨bt, 0, none⟩)), (6, .int .i64 7), (7, .int .i64 (i : Nat))]) ?_ ?_
  · have hcc : c = 0 ∨ c = 1 ∨ c = 2 ∨ c = 3 ∨ 4 ≤ c := by omega
    rcases hcc with rfl | rfl | rfl | rfl | h4
    · refine zc_block ?_
      refine zc_seq ?_
      refine zc_region ?_
      refine z_cmpB (r := true) want_none (by decide) rfl rfl rfl (iff_of_true rfl (by omega)) ?_
      refine zl_pureL rfl ?_
      refine zl_nil ?_
      refine zk_seq ?_
      refine zc_true rfl ?_
      refine zc_region ?_
      refine zl_pureL rfl ?_
      refine zl_call (by first | exact want_none | exact want_L rfl) rfl (by decide) rfl (hS7.popG hnl) ?_
      rintro _ u8 ⟨p, q', E', I', m', rfl, _, hW, hS8⟩
      refine ⟨_, rfl, ?_⟩
      have hT8 := hT7.site hS7 hW
      refine zl_nil ?_
      refine zk_norm_block ?_
      exact zk_midX (q', E', I', m') ⟨hS8, hT8⟩ ⟨rfl, rfl, rfl, rfl, trivial⟩
    · refine zc_block ?_
      refine zc_seq ?_
      refine zc_region ?_
      refine z_cmpB (r := false) want_none (by decide) rfl rfl rfl (iff_of_false Bool.false_ne_true (by omega)) ?_
      refine zl_pureL rfl ?_
      refine zl_nil ?_
      refine zk_seq ?_
      refine zc_false rfl ?_
      refine zc_seq ?_
      refine zc_region ?_
      refine z_cmpB (r := true) want_none (by decide) rfl rfl rfl (iff_of_true rfl (by omega)) ?_
      refine zl_pureL rfl ?_
      refine zl_nil ?_
      refine zk_seq ?_
      refine zc_true rfl ?_
      refine zc_region ?_
      iterate 3 (refine zl_pureL rfl ?_)
      refine zl_call (by first | exact want_none | exact want_L rfl) rfl (by decide) rfl (hS7.putG nN_big hnl _ _) ?_
      rintro _ u8 ⟨p, q', E', I', m', rfl, _, hW, hS8⟩
      refine ⟨_, rfl, ?_⟩
      have hT8 := hT7.site hS7 hW
      refine zl_nil ?_
      refine zk_norm_block ?_
      exact zk_midX (q', E', I', m') ⟨hS8, hT8⟩ ⟨rfl, rfl, rfl, rfl, trivial⟩
    · refine zc_block ?_
      refine zc_seq ?_
      refine zc_region ?_
      refine z_cmpB (r := false) want_none (by decide) rfl rfl rfl (iff_of_false Bool.false_ne_true (by omega)) ?_
      refine zl_pureL rfl ?_
      refine zl_nil ?_
      refine zk_seq ?_
      refine zc_false rfl ?_
      refine zc_seq ?_
      refine zc_region ?_
      refine z_cmpB (r := false) want_none (by decide) rfl rfl rfl (iff_of_false Bool.false_ne_true (by omega)) ?_
      refine zl_pureL rfl ?_
      refine zl_nil ?_
      refine zk_seq ?_
      refine zc_false rfl ?_
      refine zc_seq ?_
      refine zc_region ?_
      refine z_cmpB (r := true) want_none (by decide) rfl rfl rfl (iff_of_true rfl (by omega)) ?_
      refine zl_pureL rfl ?_
      refine zl_nil ?_
      refine zk_seq ?_
      refine zc_true rfl ?_
      refine zc_region ?_
      iterate 3 (refine zl_pureL rfl ?_)
      refine zl_call (by first | exact want_none | exact want_L rfl) rfl (by decide) rfl (hS7.swapG nN_big hnl _ _) ?_
      rintro _ u8 ⟨p, q', E', I', m', rfl, _, hW, hS8⟩
      refine ⟨_, rfl, ?_⟩
      have hT8 := hT7.site hS7 hW
      refine zl_nil ?_
      refine zk_norm_block ?_
      exact zk_midX (q', E', I', m') ⟨hS8, hT8⟩ ⟨rfl, rfl, rfl, rfl, trivial⟩
    · refine zc_block ?_
      refine zc_seq ?_
      refine zc_region ?_
      refine z_cmpB (r := false) want_none (by decide) rfl rfl rfl (iff_of_false Bool.false_ne_true (by omega)) ?_
      refine zl_pureL rfl ?_
      refine zl_nil ?_
      refine zk_seq ?_
      refine zc_false rfl ?_
      refine zc_seq ?_
      refine zc_region ?_
      refine z_cmpB (r := false) want_none (by decide) rfl rfl rfl (iff_of_false Bool.false_ne_true (by omega)) ?_
      refine zl_pureL rfl ?_
      refine zl_nil ?_
      refine zk_seq ?_
      refine zc_false rfl ?_
      refine zc_seq ?_
      refine zc_region ?_
      refine z_cmpB (r := false) want_none (by decide) rfl rfl rfl (iff_of_false Bool.false_ne_true (by omega)) ?_
      refine zl_pureL rfl ?_
      refine zl_nil ?_
      refine zk_seq ?_
      refine zc_false rfl ?_
      refine zc_seq ?_
      refine zc_region ?_
      refine z_cmpB (r := true) want_none (by decide) rfl rfl rfl (iff_of_true rfl (by omega)) ?_
      refine zl_pureL rfl ?_
      refine zl_nil ?_
      refine zk_seq ?_
      refine zc_true rfl ?_
      refine zc_region ?_
      iterate 2 (refine zl_pureL rfl ?_)
      refine zl_call (by first | exact want_none | exact want_L rfl) rfl (by decide) rfl (hS7.dropG hnl _) ?_
      rintro _ u8 ⟨p, q', E', I', m', rfl, _, hW, hS8⟩
      refine ⟨_, rfl, ?_⟩
      have hT8 := hT7.site hS7 hW
      refine zl_nil ?_
      refine zk_norm_block ?_
      exact zk_midX (q', E', I', m') ⟨hS8, hT8⟩ ⟨rfl, rfl, rfl, rfl, trivial⟩
    · refine zc_block ?_
      refine zc_seq ?_
      refine zc_region ?_
      refine z_cmpB (r := false) want_none (by decide) rfl rfl rfl (iff_of_false Bool.false_ne_true (by omega)) ?_
      refine zl_pureL rfl ?_
      refine zl_nil ?_
      refine zk_seq ?_
      refine zc_false rfl ?_
      refine zc_seq ?_
      refine zc_region ?_
      refine z_cmpB (r := false) want_none (by decide) rfl rfl rfl (iff_of_false Bool.false_ne_true (by omega)) ?_
      refine zl_pureL rfl ?_
      refine zl_nil ?_
      refine zk_seq ?_
      refine zc_false rfl ?_
      refine zc_seq ?_
      refine zc_region ?_
      refine z_cmpB (r := false) want_none (by decide) rfl rfl rfl (iff_of_false Bool.false_ne_true (by omega)) ?_
      refine zl_pureL rfl ?_
      refine zl_nil ?_
      refine zk_seq ?_
      refine zc_false rfl ?_
      refine zc_seq ?_
      refine zc_region ?_
      refine z_cmpB (r := false) want_none (by decide) rfl rfl rfl (iff_of_false Bool.false_ne_true (by omega)) ?_
      refine zl_pureL rfl ?_
      refine zl_nil ?_
      refine zk_seq ?_
      refine zc_false rfl ?_
      refine zc_region ?_
      iterate 2 (refine zl_pureL rfl ?_)
      refine zl_call (by first | exact want_none | exact want_L rfl) rfl (by decide) rfl (hS7.pushG nN_big hnl _) ?_
      rintro _ u8 ⟨p, q', E', I', m', rfl, _, hW, hS8⟩
      refine ⟨_, rfl, ?_⟩
      have hT8 := hT7.site hS7 hW
      refine zl_nil ?_
      refine zk_norm_block ?_
      exact zk_midX (q', E', I', m') ⟨hS8, hT8⟩ ⟨rfl, rfl, rfl, rfl, trivial⟩
  rintro ⟨q8, E8, I8, m8⟩ u8 ⟨hS8, hT8⟩
  dsimp only at hS8 hT8 ⊢
  have hel := hS8.inv.elen
  refine zc_seq ?_
  refine zc_region ?_
  refine zl_pureL rfl ?_
  refine zl_call (by first | exact want_none | exact want_L rfl) rfl (by decide) rfl (sOpen_calls hS8.is (by omega)) ?_
  rintro _ u9 ⟨vl, rfl, hI9, hC9⟩
  refine ⟨_, rfl, ?_⟩
  have hS9 := hS8.no hC9
  have hT9 := hT8.no hC9
  obtain ⟨r0, r1, r2, r3⟩ := hS8.inv.rows
  have hEp := hS8.inv.pos
  obtain ⟨n, hn⟩ : ∃ n, n = E8.length := ⟨_, rfl⟩
  obtain ⟨L, hL⟩ : ∃ L, L = E8.map Ent.n := ⟨_, rfl⟩
  have hLn : L.length = n := by rw [hL, hn, List.length_map]
  rw [← hL] at hI9 r0 r1 r2 r3
  rw [← hn] at r1 r2 r3 hEp hel
  obtain ⟨b, o, cL, hvl, hcL, hcc⟩ := RdS.some hI9.1.rd (by omega)
  rw [hLn] at hvl hcL
  subst hvl
  have hcell : ∀ k, k < n → u9.cell? ⟨b, o + k, none⟩ = some (.int .i64 ((L.getD k 0 : Nat) : Int)) := fun k hk => hcc k _ (intC_get L k (by omega))
  have g0 := hcell 0 (by omega)
  have gl := hcell (n - 1) (by omega)
  rw [r0] at g0
  rw [r3] at gl
  refine zl_pureL rfl ?_
  refine zl_nil ?_
  refine zk_seq ?_
  iterate 2 (refine zc_seq ?_)
  refine zc_draw [] (fun w' => Chg u9 w' No) (.take 0 (.take 1 (.take 2 (.take 3 (.take 4 (.take 5 (.take 6 (.take 7 (.take 8 (.take 9 (.take 10 (.take 12 (.take 13 (.take 14 (.take 15 (.take 16 (.take 17 (.all1 11 (.take 18 (.take 19 (.fin))))))))))))))))))))) (by rfl) (by kernel_rfl) (by kernel_rfl) (fun v1 hD1 _ => ⟨?_, ?_⟩)
  · exact hD1
  refine zs_take rfl (zt_pure rfl ?_)
  refine zs_rdL rfl want_none rfl (by decide) (fun _ hS => r_len rfl) ?_
  refine zs_rdL rfl want_none rfl (by decide) (fun _ hS => r_cmpB (r := false) rfl rfl rfl (iff_of_false Bool.false_ne_true (by omega))) ?_
  iterate 2 (refine zs_take rfl (zt_pure rfl ?_))
  refine zs_rdL rfl (want_L rfl) rfl (by decide) (fun _ hS => r_ia rfl rfl (by omega) (by omega)) ?_
  refine zs_rdL rfl (by first | exact want_none | exact want_L rfl) rfl (by decide) (fun _ hS => r_load1 rfl (cell_at (cell_no hS g0) (by omega))) ?_
  refine zs_rdL rfl (want_L rfl) rfl (by decide) (fun _ hS => r_cmpB (r := false) rfl rfl rfl (iff_of_false Bool.false_ne_true (by omega))) ?_
  iterate 5 (refine zs_take rfl (zt_pure rfl ?_))
  refine zs_rdL rfl (want_L rfl) rfl (by decide) (fun _ hS => r_len rfl) ?_
  refine zs_rdL rfl (want_L rfl) rfl (by decide) (fun _ hS => r_sub rfl rfl (by omega) (by omega)) ?_
  refine zs_rdL rfl (want_L rfl) rfl (by decide) (fun _ hS => r_ia rfl rfl (by omega) (by omega)) ?_
  refine zs_rdL rfl (by first | exact want_none | exact want_L rfl) rfl (by decide) (fun _ hS => r_load1 rfl (cell_at (cell_no hS gl) (by omega))) ?_
  skip
  refine zs_call rfl (by first | exact want_none | exact want_L rfl) rfl (by decide) rfl ((hS9.no hD1).top hnl) ?_
  rintro _ v2 ⟨rfl, hC2⟩
  have hD2 := hD1.no hC2
  refine ⟨_, rfl, hD2, ?_⟩
  refine zs_rdL rfl (want_L rfl) rfl (by decide) (fun _ hS => r_cmpB (r := false) rfl rfl rfl (iff_of_false Bool.false_ne_true (by omega))) ?_
  refine zs_take rfl (zt_pure rfl ?_)
  refine zs_fin ?_
  refine zk_seq ?_
  refine zc_false rfl ?_
  refine zc_skip ?_
  refine zk_seq ?_
  refine zc_seq ?_
  refine zc_region ?_
  refine zl_pureL rfl ?_
  refine zl_nil ?_
  refine zk_seq ?_
  refine zc_block ?_
  have hS10 := hS9.no hD2
  have hT10 := hT9.no hD2
  have hcell2 : ∀ k, k < n → v2.cell? ⟨b, o + k, none⟩ = some (.int .i64 ((L.getD k 0 : Nat) : Int)) := fun k hk => cell_no hD2 (hcell k hk)
  refine zc_loopW (ι := Nat) (fun k u => [(3, .pointer (some ⟨s, 0, none⟩)), (4, .pointer (some ⟨bt, 0, none⟩)), (6, .int .i64 7), (7, .int .i64 (i : Nat)), (10, .slice (some ⟨b, o, none⟩) n cL), (11, .int .i64 (k : Nat))]) (fun k u => 1 ≤ k ∧ k ≤ n ∧ Chg v2 u No) (fun k u => n - k) 1 ⟨Nat.le_refl _, by omega, Chg.refl _ _⟩ ?_ ?_
  · exact ⟨rfl, rfl, rfl, rfl, rfl, rfl, trivial⟩
  rintro k u ⟨hk1, hkn, hCk⟩
  by_cases hkl : k < n
  rotate_left
  · iterate 2 (refine zc_seq ?_)
    refine zc_region ?_
    iterate 2 (refine zl_pureL rfl ?_)
    refine z_len want_none (by decide) rfl ?_
    refine z_cmpB (r := false) want_none (by decide) rfl rfl rfl (iff_of_false Bool.false_ne_true (by omega)) ?_
    refine zl_nil ?_
    refine zk_seq ?_
    refine zc_false rfl ?_
    refine zc_exit ?_
    iterate 2 (refine zk_exit_then ?_)
    refine zk_exit_block ?_
    refine zk_norm_block ?_
    refine zk_seq ?_
    refine zc_region ?_
    refine zl_pureL rfl ?_
    refine z_add want_none (by decide) rfl rfl (by omega) (by omega) ?_
    refine zl_pureL rfl ?_
    refine zl_nil ?_
    exact zk_loopW (i + 1, q8, E8, I8, m8, at3) ⟨by dsimp only; omega, hS10.no hCk, hT10.no hCk⟩ (by dsimp only; omega) ⟨rfl, rfl, rfl, rfl, trivial⟩
  have gk := cell_no hCk (hcell2 k hkl)
  obtain ⟨lk, hlk⟩ : ∃ x, x = L.getD k 0 := ⟨_, rfl⟩
  rw [← hlk] at gk
  have hk0 : lk ≠ 0 := by have h0k := r2 0 k (by omega) hkl; rw [r0, ← hlk] at h0k; exact fun he => h0k he.symm
  have hk7 : lk < 7 := by have := r1 k hkl; rw [← hlk] at this; exact nN_el this.1 this.2
  iterate 2 (refine zc_seq ?_)
  refine zc_region ?_
  iterate 2 (refine zl_pureL rfl ?_)
  refine z_len want_none (by decide) rfl ?_
  refine z_cmpB (r := true) want_none (by decide) rfl rfl rfl (iff_of_true rfl (by omega)) ?_
  refine zl_nil ?_
  refine zk_seq ?_
  refine zc_true rfl ?_
  refine zc_skip ?_
  refine zk_seq ?_
  refine zc_seq ?_
  refine zc_block ?_
  iterate 2 (refine zc_seq ?_)
  refine zc_region ?_
  iterate 2 (refine zl_pureL rfl ?_)
  refine z_ia want_none (by decide) rfl rfl (by omega) (by omega) ?_
  refine z_load1 (by first | exact want_none | exact want_L rfl) (by decide) rfl (cell_at gk (by omega)) ?_
  refine z_cmpB (r := false) want_none (by decide) rfl rfl rfl (iff_of_false Bool.false_ne_true (by omega)) ?_
  iterate 3 (refine zl_pureL rfl ?_)
  refine z_ia (want_L rfl) (by decide) rfl rfl (by omega) (by omega) ?_
  refine z_load1 (by first | exact want_none | exact want_L rfl) (by decide) rfl (cell_at gk (by omega)) ?_
  refine zl_pureL rfl ?_
  refine z_cmpB (r := false) (want_L rfl) (by decide) rfl rfl rfl (iff_of_false Bool.false_ne_true (by omega)) ?_
  refine zl_pureL rfl ?_
  refine zl_nil ?_
  refine zk_seq ?_
  refine zc_false rfl ?_
  refine zc_skip ?_
  refine zk_seq ?_
  refine zc_seq ?_
  refine zc_region ?_
  refine zl_pureL rfl ?_
  refine zl_nil ?_
  refine zk_seq ?_
  refine zc_block ?_
  refine zc_loopW (ι := Nat) (fun j u => [(3, .pointer (some ⟨s, 0, none⟩)), (4, .pointer (some ⟨bt, 0, none⟩)), (6, .int .i64 7), (7, .int .i64 (i : Nat)), (10, .slice (some ⟨b, o, none⟩) n cL), (11, .int .i64 (k : Nat)), (12, .int .i64 (j : Nat))]) (fun j u' => j ≤ k ∧ Chg u u' No) (fun j u => k - j) 0 ⟨Nat.zero_le _, Chg.refl _ _⟩ ?_ ?_
  · exact ⟨rfl, rfl, rfl, rfl, rfl, rfl, rfl, trivial⟩
  rintro j u' ⟨hjk, hCj⟩
  by_cases hjl : j < k
  rotate_left
  · iterate 2 (refine zc_seq ?_)
    refine zc_region ?_
    iterate 2 (refine zl_pureL rfl ?_)
    refine z_cmpB (r := false) want_none (by decide) rfl rfl rfl (iff_of_false Bool.false_ne_true (by omega)) ?_
    refine zl_nil ?_
    refine zk_seq ?_
    refine zc_false rfl ?_
    refine zc_exit ?_
    iterate 2 (refine zk_exit_then ?_)
    refine zk_exit_block ?_
    refine zk_norm_block ?_
    refine zk_seq ?_
    refine zc_region ?_
    refine zl_pureL rfl ?_
    refine z_add want_none (by decide) rfl rfl (by omega) (by omega) ?_
    refine zl_pureL rfl ?_
    refine zl_nil ?_
    exact zk_loopW (k + 1) ⟨by omega, by omega, hCk.no hCj⟩ (by omega) ⟨rfl, rfl, rfl, rfl, rfl, rfl, trivial⟩
  have gj := cell_no (hCk.no hCj) (hcell2 j (by omega))
  have gk' := cell_no hCj gk
  have hne := r2 j k hjl hkl
  rw [← hlk] at hne
  obtain ⟨lj, hlj⟩ : ∃ x, x = L.getD j 0 := ⟨_, rfl⟩
  rw [← hlj] at gj hne
  iterate 2 (refine zc_seq ?_)
  refine zc_region ?_
  iterate 2 (refine zl_pureL rfl ?_)
  refine z_cmpB (r := true) want_none (by decide) rfl rfl rfl (iff_of_true rfl (by omega)) ?_
  refine zl_nil ?_
  refine zk_seq ?_
  refine zc_true rfl ?_
  refine zc_skip ?_
  refine zk_seq ?_
  refine zc_seq ?_
  refine zc_block ?_
  refine zc_seq ?_
  refine zc_draw [] (fun w' => Chg u' w' No) (.take 0 (.take 1 (.take 2 (.take 3 (.take 4 (.take 5 (.take 6 (.take 7 (.take 8 (.fin)))))))))) (by rfl) (by kernel_rfl) (by kernel_rfl) (fun v3 hD3 _ => ⟨?_, ?_⟩)
  · exact hD3
  iterate 2 (refine zs_take rfl (zt_pure rfl ?_))
  refine zs_rdL rfl want_none rfl (by decide) (fun _ hS => r_ia rfl rfl (by omega) (by omega)) ?_
  refine zs_rdL rfl (by first | exact want_none | exact want_L rfl) rfl (by decide) (fun _ hS => r_load1 rfl (cell_at (cell_no hS gj) (by omega))) ?_
  iterate 2 (refine zs_take rfl (zt_pure rfl ?_))
  refine zs_rdL rfl want_none rfl (by decide) (fun _ hS => r_ia rfl rfl (by omega) (by omega)) ?_
  refine zs_rdL rfl (by first | exact want_none | exact want_L rfl) rfl (by decide) (fun _ hS => r_load1 rfl (cell_at (cell_no hS gk') (by omega))) ?_
  refine zs_rdL rfl want_none rfl (by decide) (fun _ hS => r_cmpB (r := false) rfl rfl rfl (iff_of_false Bool.false_ne_true (by omega))) ?_
  refine zs_fin ?_
  refine zk_seq ?_
  refine zc_false rfl ?_
  refine zc_skip ?_
  refine zk_norm_block ?_
  refine zk_seq ?_
  refine zc_region ?_
  refine zl_pureL rfl ?_
  refine z_add want_none (by decide) rfl rfl (by omega) (by omega) ?_
  refine zl_pureL rfl ?_
  refine zl_nil ?_
  exact zk_loopW (j + 1) ⟨by omega, hCj.no hD3⟩ (by omega) ⟨rfl, rfl, rfl, rfl, rfl, rfl, rfl, trivial⟩
end Go.Proofs.Yteeibieaapiomaa.D
/- SMk -/
/- A Site and its marks. -/
namespace Go.Proofs.Yteeibieaapiomaa.D
open Go Go.Z Go.Proofs
set_option linter.unusedVariables false
theorem encA_MD : ∀ l : List At, M.encA l = encA l
  | [] => rfl
  | m :: r => by simp only [M.encA, encA, encA_MD r]
theorem AttrS.toD {w : World} {v : Value} {l : List At} (h : M.AttrS w v l) : AttrS w v l := by
  unfold AttrS
  rw [← encA_MD]; exact h
theorem AttrS.toM {w : World} {v : Value} {l : List At} (h : AttrS w v l) : M.AttrS w v l := by
  unfold M.AttrS
  rw [encA_MD]; exact h
def ndE (E : List Ent) : List Int := E.map (fun e => (e.n : Int))
def ndM (L : List M.Mark) : List Int := L.map M.Mark.node
def NamesOk (L : List M.Mark) (N : List ND) : Prop := ∀ x ∈ L, 0 ≤ x.node ∧ x.node < N.length ∧ (N.getD x.node.toNat n0).name = x.name ∧ x.attrs.length ≤ 2
theorem NamesOk.nodes {L : List M.Mark} {N N' : List ND} (h : NamesOk L N) (hK : sameK N N') : NamesOk L N' := fun x hx => by
  obtain ⟨h1, h2, h3, h4⟩ := h x hx
  have hk := hK.2 x.node.toNat (by omega)
  exact ⟨h1, by have := hK.1; omega, by rw [hk.2.2]; exact h3, h4⟩
theorem NamesOk.sub {L L' : List M.Mark} {N : List ND} (h : NamesOk L N) (hs : ∀ x ∈ L', x ∈ L) : NamesOk L' N := fun x hx => h x (hs x hx)
theorem pushM_sub (L : List M.Mark) (x : M.Mark) : ∃ L0, M.pushM L x = L0 ++ [x] ∧ L0.Sublist L := by
  unfold M.pushM
  split
  · refine ⟨_, rfl, ?_⟩
    unfold M.dropM
    conv => rhs; rw [← List.take_append_drop (M.firstF L x (M.beginN L L.length) (L.length - M.beginN L L.length)).toNat L]
    refine List.Sublist.append (List.Sublist.refl _) ?_
    rw [← List.drop_drop]
    exact List.drop_sublist _ _
  · exact ⟨L, rfl, List.Sublist.refl _⟩
section
variable {w0 w w' : World} {s : Nat} {q q' : SP} {E E' : List Ent} {I I' : List Bool} {m m' : ByteArray → Int} {N N' : List ND} {f : Bool} {L L' : List M.Mark} {v v' : Value}
theorem IsS.mrkW (h : IsS w s q E I m N f) (hI : M.IsM w 91 q.pm v L) (hc : Chg w w' (M.foot q.pm v)) (hb : Blk w' q.pm 91 [v']) : IsS w' s { q with vm := v' } E I m N f := by
  have n1 : ∀ {b t : Nat} {cs : List Value}, Blk w b t cs → t ≠ 91 → t ≠ 45 → ¬ M.foot q.pm v b := by
    rintro b t cs hb h1 h2 (he | he)
    · exact hb.ne hI.1 h1 he
    · obtain ⟨_, ms, hO, _⟩ := hI
      exact hO.ne he hb (Ne.symm h2) rfl
  have n2 : ¬ M.foot q.pm v q.r := by
    rintro (he | he)
    · exact h.mp.ne hI.1 he.symm
    · obtain ⟨_, ms, hO, _⟩ := hI
      obtain ⟨cs, hb⟩ := hO.blk he
      exact h.mp.ne hb rfl
  refine ⟨h.blk.chg hc (n1 h.blk (by decide) (by decide)), h.doc.chg hc (fun k hk hf => ?_) (fun b cells hb => n1 hb (by decide) (by decide)), hb, h.own.chg hc (fun k hk => by obtain ⟨cs, hb⟩ := h.own.blk hk; exact n1 hb (by decide) (by decide)), h.iso.chg hc (fun k hk => by obtain ⟨cs, hb⟩ := h.iso.blk hk; exact n1 hb (by decide) (by decide)), h.mp.chg hc n2⟩
  rcases hf with he | he
  · subst he
    exact h.doc.noT hI.1 (by decide) (by decide) (by decide) (by decide) (by decide) hk
  · obtain ⟨_, ms, hO, _⟩ := hI
    obtain ⟨cs, hb⟩ := hO.blk he
    exact h.doc.noT hb (by decide) (by decide) (by decide) (by decide) (by decide) hk
/-- a Site that was made since, and its marks -/
structure SM (w0 w : World) (s : Nat) (q : SP) (E : List Ent) (I : List Bool) (m : ByteArray → Int) (N : List ND) (L : List M.Mark) : Prop where
  sf : SF w0 w s q E I m N false
  mks : M.IsM w 91 q.pm q.vm L
  ge : ∀ k, M.foot q.pm q.vm k → w0.heap.size ≤ k
  big : BigT N
  nm : NamesOk L N
theorem SM.no (h : SM w0 w s q E I m N L) (hc : Chg w w' No) : SM w0 w' s q E I m N L := ⟨h.sf.no hc, h.mks.no hc, h.ge, h.big, h.nm⟩
theorem SM.site (h : SM w0 w s q E I m N L) (hS : SF w0 w' s q' E' I' m' N' false) (hq : SP.Eq q q') (hW : WrS w w' s q q') (hB : BigT N') (hn : NamesOk L N') : SM w0 w' s q' E' I' m' N' L := by
  have nt : ∀ {b t : Nat} {cs : List Value}, Blk w b t cs → (t = 91 ∨ t = 45 ∨ t = 89) → ¬ footS s q b := by
    rintro b t cs hb (rfl | rfl | rfl) <;> exact h.sf.is.noT hb (by decide) (by decide) (by decide) (by decide) (by decide) (by decide) (by decide) (by decide)
  refine ⟨hS, ?_, ?_, hB, hn⟩
  · rw [hq.pm, hq.vm]
    refine h.mks.chg hW.chg (nt h.mks.1 (.inl rfl)) (fun k hk => ?_) (fun b cells hb => nt hb (.inr (.inr rfl)))
    obtain ⟨_, ms, hO, _⟩ := h.mks
    obtain ⟨cs, hb⟩ := hO.blk hk
    exact nt hb (.inr (.inl rfl))
  · rw [hq.pm, hq.vm]; exact h.ge
theorem SM.marks (h : SM w0 w s q E I m N L) (hI : M.IsM w' 91 q.pm v' L') (hW : M.Wr w w' q.pm q.vm v') (hn : NamesOk L' N) : SM w0 w' s { q with vm := v' } E I m N L' :=
  ⟨⟨h.sf.is.mrkW h.mks hW.chg hI.1, h.sf.inv, h.sf.wf, h.sf.ge, h.sf.chg.trans hW.chg (fun i hi hk => by have := h.ge i hk; omega)⟩, hI, fun k hk => by
    rcases hk with hk | hk
    · exact h.ge k (.inl hk)
    · rcases hW.row with e | ⟨j, e, e2⟩
      · exact h.ge k (.inr (e ▸ hk))
      · have hk : v'.ownBlock = some k := hk
        rw [hk] at e; cases e; exact Nat.le_trans h.sf.chg.size e2, h.big, hn⟩
theorem SM.tape (h : SM w0 w s q E I m N L) {bt : Nat} {cs : List Value} (hb : Blk w bt 30 cs) (hge : w0.heap.size ≤ bt) (hc : Chg w w' (· = bt)) : SM w0 w' s q E I m N L :=
  ⟨h.sf.tape hb hge hc, h.mks.chg hc (fun he => absurd (hb.inj (he ▸ h.mks.1)).1 (by decide)) (fun k hk he => by
    obtain ⟨_, ms, hO, _⟩ := h.mks
    exact hO.ne hk hb (by decide) he) (fun b cells hb' he => absurd (hb'.inj (he ▸ hb)).1 (by decide)), h.ge, h.big, h.nm⟩
theorem SM.add (h : SM w0 w s q E I m N L) (hN : N.length < 100000) (nm : ByteArray) {va : Value} {l : List At} (ha : AttrS w va l) (hal : l.length ≤ 2) :
    Calls Try.prog 23 [.pointer (some ⟨s, 0, none⟩), .int .i64 1, .string nm, va].toArray w fun x w' => x = .returned (.int .i64 N.length) ∧ ∃ q' I' m' N', WrS w w' s q q' ∧ SP.Eq q q' ∧ N'.length = N.length + 1 ∧ (N'.getD N.length n0).name = nm ∧ SM w0 w' s q' (E ++ [⟨N.length, 1, nm⟩]) I' m' N' L := by
  refine (h.sf.add h.big hN 1 nm ha (by omega)).mono ?_
  rintro x w' ⟨rfl, q', I', m', N', p, hq, hW, hR, hB, hl, hS⟩
  have hwf3 : WF (N ++ [⟨1, 1, nm, l, [], -1, []⟩]) := h.sf.wf.add rfl rfl
  have hK := (sameK.snoc N ⟨1, 1, nm, l, [], -1, []⟩).trans (hR.sameK hwf3)
  have hnm : (N'.getD N.length n0).name = nm := by
    have := (hR.sameK hwf3).2 N.length (by simp)
    rw [this.2.2, getD_add, if_pos rfl]
  exact ⟨rfl, q', I', m', N', hW, hq, hl, hnm, h.site hS hq hW hB (h.nm.nodes hK)⟩
theorem SM.push (h : SM w0 w s q E I m N L) (hl : L.length ≤ 1000) {nd : Int} {nm : ByteArray} {va : Value} {l : List At} (ha : AttrS w va l) (hal : l.length ≤ 2) (h0 : 0 ≤ nd) (h1 : nd < N.length) (h2 : (N.getD nd.toNat n0).name = nm) :
    Calls Try.prog 26 [.pointer (some ⟨q.pm, 0, none⟩), .agg #[.int .i64 nd, .string nm, va]].toArray w fun x w' => x = .returned (.tuple #[]) ∧ ∃ v' L0, L0.Sublist L ∧ M.Wr w w' q.pm q.vm v' ∧ SM w0 w' s { q with vm := v' } E I m N (L0 ++ [⟨nd, nm, l⟩]) := by
  refine (M.push_calls h.mks (by omega) ha.toM (by omega) (fun x hx => by have := (h.nm x hx).2.2.2; omega)).mono ?_
  rintro x w' ⟨rfl, v', hI, hW⟩
  obtain ⟨L0, e0, hs⟩ := pushM_sub L ⟨nd, nm, l⟩
  rw [e0] at hI
  refine ⟨rfl, v', L0, hs, hW, h.marks hI hW (fun x hx => ?_)⟩
  rcases List.mem_append.1 hx with hx | hx
  · exact h.nm x (hs.subset hx)
  · rw [List.mem_singleton] at hx; subst hx
    exact ⟨h0, h1, h2, hal⟩
theorem SM.set (h : SM w0 w s q E I m N L) (hl : L.length ≤ 1000) {nd : Int} {nm : ByteArray} {va : Value} {l : List At} (ha : AttrS w va l) (hal : l.length ≤ 2) (h0 : 0 ≤ nd) (h1 : nd < N.length) (h2 : (N.getD nd.toNat n0).name = nm) (i : Nat) (hi : i < L.length) :
    Calls Try.prog 65 [.pointer (some ⟨q.pm, 0, none⟩), .int .i64 i, .agg #[.int .i64 nd, .string nm, va]].toArray w fun x w' => x = .returned (.bool true) ∧ ∃ v', M.Wr w w' q.pm q.vm v' ∧ SM w0 w' s { q with vm := v' } E I m N (L.set i ⟨nd, nm, l⟩) := by
  refine (M.set_calls h.mks (by omega) ha.toM (by omega) i hi).mono ?_
  rintro x w' ⟨rfl, v', hI, hW⟩
  refine ⟨rfl, v', hW, h.marks hI hW (fun x hx => ?_)⟩
  rcases List.mem_or_eq_of_mem_set hx with hx | hx
  · exact h.nm x hx
  · subst hx
    exact ⟨h0, h1, h2, hal⟩
end
end Go.Proofs.Yteeibieaapiomaa.D
/- SReb -/
/- A Site: Rebuild. -/
namespace Go.Proofs.Yteeibieaapiomaa.D
open Go Go.Z Go.Proofs
set_option linter.unusedVariables false
def begS (L : List M.Mark) (I : List Bool) : Nat → Nat
  | 0 => 0
  | k + 1 => if opn I (L.getD k M.Mark.z).node then k + 1 else begS L I k
theorem begS_succ (L : List M.Mark) (I : List Bool) (k : Nat) : begS L I (k + 1) = if opn I (L.getD k M.Mark.z).node then k + 1 else begS L I k := rfl
theorem begS_le (L : List M.Mark) (I : List Bool) : ∀ k, begS L I k ≤ k
  | 0 => Nat.le_refl _
  | k + 1 => by
    rw [begS_succ]
    split
    · exact Nat.le_refl _
    · have := begS_le L I k; omega
theorem begS_open (L : List M.Mark) (I : List Bool) : ∀ k, begS L I k = 0 ∨ opn I (L.getD (begS L I k - 1) M.Mark.z).node
  | 0 => .inl rfl
  | k + 1 => by
    rw [begS_succ]
    split
    · rename_i h; exact .inr h
    · exact begS_open L I k
section
variable {w0 w w' : World} {s : Nat} {q q' : SP} {E E' : List Ent} {I I' : List Bool} {m m' : ByteArray → Int} {N N' : List ND} {f : Bool} {L L' : List M.Mark} {v v' : Value}
theorem SM.attrs (h : SM w0 w s q E I m N L) : ∀ x ∈ L, x.attrs.length ≤ 100000 := fun x hx => by have := (h.nm x hx).2.2.2; omega
set_option maxRecDepth 100000 in
set_option maxHeartbeats 8000000 in
theorem sBegin_calls (h : SM w0 w s q E I m N L) (hl : L.length ≤ 1000) : Calls Try.prog 62 [.pointer (some ⟨s, 0, none⟩)].toArray w fun x w' => x = .returned (.int .i64 (begS L I L.length)) ∧ Chg w w' No := by
  have hb := h.sf.is.blk
  refine calls_zc (n := 35) (f := 62) (fn := Try.f62) Try.func62 rfl rfl (by simp) ?_
  refine zc_seq ?_
  refine zc_region ?_
  refine zl_pureL rfl ?_
  refine zl_nil ?_
  refine zk_seq ?_
  refine zc_seq ?_
  refine zc_region ?_
  iterate 2 (refine zl_pureL rfl ?_)
  refine z_fa want_none (by decide) rfl ?_
  refine z_loadB want_none (by decide) rfl (by assumption) (by rfl) ?_
  refine zl_call (by first | exact want_none | exact want_L rfl) rfl (by decide) rfl (M.len_calls h.mks) ?_
  rintro _ u ⟨rfl, hu⟩
  obtain rfl := hu.symm
  refine ⟨_, rfl, ?_⟩
  refine zl_pureL rfl ?_
  refine zl_nil ?_
  refine zk_seq ?_
  refine zc_seq ?_
  refine zc_block ?_
  refine zc_loopW (ι := Nat) (fun k u => [(0, .pointer (some ⟨s, 0, none⟩)), (3, .int .i64 k)]) (fun k u' => k ≤ L.length ∧ begS L I k = begS L I L.length ∧ Chg w u' No) (fun k u => k) L.length ⟨Nat.le_refl _, rfl, Chg.refl _ _⟩ ?_ ?_
  · exact ⟨rfl, rfl, trivial⟩
  rintro k u1 ⟨hk, hf, hC⟩
  rw [← hf]
  cases k with
  | zero =>
    iterate 2 (refine zc_seq ?_)
    refine zc_region ?_
    refine zl_pureL rfl ?_
    refine z_cmpB (r := false) want_none (by decide) rfl rfl rfl (iff_of_false Bool.false_ne_true (by omega)) ?_
    refine zl_nil ?_
    refine zk_seq ?_
    refine zc_false rfl ?_
    refine zc_exit ?_
    iterate 2 (refine zk_exit_then ?_)
    refine zk_exit_block ?_
    refine zk_seq ?_
    refine zc_seq ?_
    refine zc_region ?_
    iterate 2 (refine zl_pureL rfl ?_)
    refine zl_nil ?_
    refine zk_seq ?_
    refine zc_ret ?_
    exact zk_ret1 (.inr rfl) rfl rfl ⟨rfl, hC⟩
  | succ k =>
    have h1 := h.no hC
    have hb1 := hb.no hC
    rw [begS_succ]
    obtain ⟨x, hx⟩ : ∃ x, x = L.getD k M.Mark.z := ⟨_, rfl⟩
    have hxL : x ∈ L := by rw [hx]; exact getD_mem (by omega)
    have hx0 := (h.nm x hxL).1
    have hk1 : ((k + 1 : Nat) : Int) - 1 = (k : Nat) := by omega
    iterate 2 (refine zc_seq ?_)
    refine zc_region ?_
    refine zl_pureL rfl ?_
    refine z_cmpB (r := true) want_none (by decide) rfl rfl rfl (iff_of_true rfl (by omega)) ?_
    refine zl_nil ?_
    refine zk_seq ?_
    refine zc_true rfl ?_
    refine zc_skip ?_
    refine zk_seq ?_
    refine zc_block ?_
    refine zc_seq ?_
    refine zc_region ?_
    iterate 2 (refine zl_pureL rfl ?_)
    refine z_fa want_none (by decide) rfl ?_
    refine z_loadB want_none (by decide) rfl (by assumption) (by rfl) ?_
    refine zl_pureL rfl ?_
    refine z_sub want_none (by decide) rfl rfl (by omega) (by omega) ?_
    rw [hk1]
    refine zl_call (by first | exact want_none | exact want_L rfl) rfl (by decide) rfl (M.at_calls h1.mks (by omega) h.attrs k (by omega)) ?_
    rintro _ u2 ⟨av, rfl, ha, _, hC2⟩
    refine ⟨_, rfl, ?_⟩
    rw [← hx] at ha ⊢
    obtain ⟨Aa, ca, rfl, _⟩ := ha.form
    iterate 3 (refine zl_pureL rfl ?_)
    refine z_alloc (by first | exact want_none | exact want_L rfl) (by decide) (fun u3 b3 hN3 => ?_)
    have hb3 : Blk u3 b3 45 [.int .i64 0, .string ⟨#[]⟩, .slice none 0 0] := hN3.blk
    refine z_store (by first | exact want_none | exact want_L rfl) rfl rfl rfl (by assumption) (by first | exact Nat.le_refl _ | simp [Value.cells]) (by simp [Value.cells, Value.oneCell']) (fun u4 hU4 => ?_)
    have hb4 : Blk u4 b3 45 [.int .i64 x.node, .string x.name, .slice Aa x.attrs.length ca] := hU4.blk
    have hC4 : Chg w u4 No := hC.no (((hC2.no hN3.chg)).upd hU4 (by have := hN3.at_; have := hC2.size; omega))
    refine zl_pureL rfl ?_
    refine zl_nil ?_
    refine zk_seq ?_
    iterate 2 (refine zc_seq ?_)
    refine zc_region ?_
    refine z_fa want_none (by decide) rfl ?_
    refine z_loadB want_none (by decide) rfl (by assumption) (by rfl) ?_
    refine z_cmpB (r := false) want_none (by decide) rfl rfl rfl (iff_of_false Bool.false_ne_true (by omega)) ?_
    iterate 2 (refine zl_pureL rfl ?_)
    refine z_fa (want_L rfl) (by decide) rfl ?_
    refine z_loadB (want_L rfl) (by decide) rfl (by assumption) (by rfl) ?_
    refine zl_call (by first | exact want_none | exact want_L rfl) rfl (by decide) rfl (sOpened_calls (h.no hC4).sf.is x.node) ?_
    rintro _ u5 ⟨rfl, hu5⟩
    obtain rfl := hu5.symm
    refine ⟨_, rfl, ?_⟩
    by_cases ho : opn I x.node
    · rw [decide_eq_true ho, if_pos ho]
      refine zl_pureL rfl ?_
      refine zl_nil ?_
      refine zk_seq ?_
      refine zc_true rfl ?_
      refine zc_exit ?_
      refine zk_exit_then ?_
      refine zk_exit_block' rfl ?_
      refine zk_exit_then ?_
      refine zk_exit_block ?_
      refine zk_seq ?_
      refine zc_seq ?_
      refine zc_region ?_
      iterate 2 (refine zl_pureL rfl ?_)
      refine zl_nil ?_
      refine zk_seq ?_
      refine zc_ret ?_
      exact zk_ret1 (.inr rfl) rfl rfl ⟨rfl, hC4⟩
    · rw [decide_eq_false ho, if_neg ho]
      refine zl_pureL rfl ?_
      refine zl_nil ?_
      refine zk_seq ?_
      refine zc_false rfl ?_
      refine zc_skip ?_
      refine zk_seq ?_
      refine zc_region ?_
      refine zl_pureL rfl ?_
      refine z_sub want_none (by decide) rfl rfl (by omega) (by omega) ?_
      refine zl_pureL rfl ?_
      refine zl_nil ?_
      refine zk_norm_block ?_
      exact zk_loopW k ⟨by omega, rfl, hC4⟩ (by omega) ⟨rfl, get_int rfl (by omega), trivial⟩
end
end Go.Proofs.Yteeibieaapiomaa.D
/- SReb2 -/
/- A Site: Rebuild, the loop. -/
namespace Go.Proofs.Yteeibieaapiomaa.D
open Go Go.Z Go.Proofs
set_option linter.unusedVariables false
theorem take_set_succ {α : Type} (l : List α) (i : Nat) (y : α) (h : i < l.length) : (l.set i y).take (i + 1) = l.take i ++ [y] := by
  rw [List.set_eq_take_append_cons_drop, if_pos h, List.take_append, List.length_take, show i + 1 - min i l.length = 1 by omega, List.take_of_length_le (by rw [List.length_take]; omega)]
  rfl
theorem ndM_app (a b : List M.Mark) : ndM (a ++ b) = ndM a ++ ndM b := by unfold ndM; rw [List.map_append]
theorem ndE_app (a b : List Ent) : ndE (a ++ b) = ndE a ++ ndE b := by unfold ndE; rw [List.map_append]
section
variable {w0 w w' : World} {s : Nat} {q q' : SP} {E E' : List Ent} {I I' : List Bool} {m m' : ByteArray → Int} {N N' : List ND} {f : Bool} {L L' : List M.Mark} {v v' : Value}
theorem SM.oth45 (h : SM w0 w s q E I m N L) {b : Nat} {cs : List Value} (hb : Blk w b 45 cs) (hge : w0.heap.size ≤ b) (hrow : q.vm.ownBlock ≠ some b) (hc : Chg w w' (· = b)) : SM w0 w' s q E I m N L :=
  ⟨⟨h.sf.is.oth hc (fun k hk => ⟨_, hk ▸ hb⟩) (by decide) (by decide) (by decide) (by decide) (by decide) (by decide) (by decide) (by decide) (by decide) (by decide), h.sf.inv, h.sf.wf, h.sf.ge, h.sf.chg.trans hc (fun i hi hk => by rw [hk] at hi; omega)⟩,
    h.mks.chg hc (fun he => absurd (hb.inj (he ▸ h.mks.1)).1 (by decide)) (fun k hk he => hrow (he ▸ hk)) (fun b' cells hb' he => absurd (hb'.inj (he ▸ hb)).1 (by decide)), h.ge, h.big, h.nm⟩
set_option maxRecDepth 100000 in
set_option maxHeartbeats 16000000 in
theorem sRebuild_calls (h : SM w0 w s q E I m N L) (hl : L.length ≤ 1000) (hN : N.length ≤ 10000) (hsub : (ndM (L.take (begS L I L.length))).Sublist (ndE E)) :
    Calls Try.prog 28 [.pointer (some ⟨s, 0, none⟩)].toArray w fun x w' => x = .returned (.tuple #[]) ∧ ∃ q' E' I' m' N' L', SM w0 w' s q' E' I' m' N' L' ∧ L'.length = L.length ∧ (ndM L').Sublist (ndE E') ∧ N'.length ≤ N.length + L.length ∧ (begS L I L.length = L.length → E'.length = E.length ∧ N'.length = N.length) := by
  refine calls_zc (n := 39) (f := 28) (fn := Try.f28) Try.func28 rfl rfl (by simp) ?_
  refine zc_seq ?_
  refine zc_region ?_
  refine zl_pureL rfl ?_
  refine zl_call (by first | exact want_none | exact want_L rfl) rfl (by decide) rfl (sBegin_calls h hl) ?_
  rintro _ w1 ⟨rfl, hC1⟩
  refine ⟨_, rfl, ?_⟩
  have h1 := h.no hC1
  have hbl := begS_le L I L.length
  obtain ⟨b, hb⟩ : ∃ b, b = begS L I L.length := ⟨_, rfl⟩
  rw [← hb] at hsub hbl ⊢
  refine zl_pureL rfl ?_
  refine zl_nil ?_
  refine zk_seq ?_
  refine zc_block ?_
  refine zc_loopW (ι := Nat × SP × List Ent × List Bool × (ByteArray → Int) × List ND × List M.Mark) (fun k u => [(0, .pointer (some ⟨s, 0, none⟩)), (2, .int .i64 (k.1 : Nat))])
    (fun k u => SM w0 u s k.2.1 k.2.2.1 k.2.2.2.1 k.2.2.2.2.1 k.2.2.2.2.2.1 k.2.2.2.2.2.2 ∧ b ≤ k.1 ∧ k.1 ≤ L.length ∧ k.2.2.2.2.2.2.length = L.length ∧ (ndM (k.2.2.2.2.2.2.take k.1)).Sublist (ndE k.2.2.1) ∧ k.2.2.2.2.2.1.length ≤ N.length + (k.1 - b) ∧ (k.1 = b → k.2.2.1.length = E.length ∧ k.2.2.2.2.2.1.length = N.length)) (fun k u => L.length - k.1) (b, q, E, I, m, N, L)
    ⟨h1, Nat.le_refl _, hbl, rfl, hsub, Nat.le_add_right _ _, fun _ => ⟨rfl, rfl⟩⟩ ?_ ?_
  · exact ⟨rfl, rfl, trivial⟩
  rintro ⟨i, qi, Ei, Ii, mi, Ni, Li⟩ u ⟨hS, hbi, hil, hLl, hsb, hNl, heq⟩
  dsimp only at hS hbi hil hLl hsb hNl heq ⊢
  have hbk := hS.sf.is.blk
  iterate 2 (refine zc_seq ?_)
  refine zc_region ?_
  iterate 3 (refine zl_pureL rfl ?_)
  refine z_fa want_none (by decide) rfl ?_
  refine z_loadB want_none (by decide) rfl (by assumption) (by rfl) ?_
  refine zl_call (by first | exact want_none | exact want_L rfl) rfl (by decide) rfl (M.len_calls hS.mks) ?_
  rintro _ u0 ⟨rfl, hu⟩
  obtain rfl := hu.symm
  refine ⟨_, rfl, ?_⟩
  rw [hLl]
  by_cases hlt : i < L.length
  rotate_left
  · refine z_cmpB (r := false) want_none (by decide) rfl rfl rfl (iff_of_false Bool.false_ne_true (by omega)) ?_
    refine zl_nil ?_
    refine zk_seq ?_
    refine zc_false rfl ?_
    refine zc_exit ?_
    iterate 2 (refine zk_exit_then ?_)
    refine zk_exit_block ?_
    have e1 : i = L.length := by omega
    subst e1
    rw [List.take_of_length_le (by omega)] at hsb
    exact zk_ret0 (.inl rfl) rfl ⟨rfl, qi, Ei, Ii, mi, Ni, Li, hS, hLl, hsb, by omega, fun he => heq he.symm⟩
  obtain ⟨x, hx⟩ : ∃ x, x = Li.getD i M.Mark.z := ⟨_, rfl⟩
  have hxL : x ∈ Li := by rw [hx]; exact getD_mem (by omega)
  obtain ⟨x0, x1, x2, x3⟩ := hS.nm x hxL
  refine z_cmpB (r := true) want_none (by decide) rfl rfl rfl (iff_of_true rfl (by omega)) ?_
  refine zl_nil ?_
  refine zk_seq ?_
  refine zc_true rfl ?_
  refine zc_skip ?_
  refine zk_seq ?_
  refine zc_seq ?_
  refine zc_block ?_
  refine zc_seq ?_
  refine zc_region ?_
  iterate 2 (refine zl_pureL rfl ?_)
  refine z_fa want_none (by decide) rfl ?_
  refine z_loadB want_none (by decide) rfl (by assumption) (by rfl) ?_
  refine zl_pureL rfl ?_
  refine zl_call (by first | exact want_none | exact want_L rfl) rfl (by decide) rfl (M.at_calls hS.mks (by omega) hS.attrs i (by omega)) ?_
  rintro _ u2 ⟨av, rfl, ha, _, hC2⟩
  refine ⟨_, rfl, ?_⟩
  rw [← hx] at ha ⊢
  obtain ⟨Aa, ca, rfl, _⟩ := ha.form
  iterate 3 (refine zl_pureL rfl ?_)
  refine z_alloc (by first | exact want_none | exact want_L rfl) (by decide) (fun u3 b3 hN3 => ?_)
  have hb3 : Blk u3 b3 45 [.int .i64 0, .string ⟨#[]⟩, .slice none 0 0] := hN3.blk
  refine z_store (by first | exact want_none | exact want_L rfl) rfl rfl rfl (by assumption) (by first | exact Nat.le_refl _ | simp [Value.cells]) (by simp [Value.cells, Value.oneCell']) (fun u4 hU4 => ?_)
  have hb4 : Blk u4 b3 45 [.int .i64 x.node, .string x.name, .slice Aa x.attrs.length ca] := hU4.blk
  have hC4 : Chg u u4 No := ((hC2.no hN3.chg)).upd hU4 (by have := hN3.at_; have := hC2.size; omega)
  have h4 := hS.no hC4
  have ha4 : AttrS u4 (.slice Aa x.attrs.length ca) x.attrs := by
    have h45 : AttrS u3 (.slice Aa x.attrs.length ca) x.attrs := AttrS.toD (M.AttrS.no ha hN3.chg)
    exact RdS.upd h45 hU4 (by decide)
  have hge3 : w0.heap.size ≤ b3 := by have := hN3.at_; have := hC2.size; have := hS.sf.chg.size; omega
  have hrow : qi.vm.ownBlock ≠ some b3 := fun he => by
    have h5 := hS.mks.lt b3 (.inr he)
    have := hN3.at_; have := hC2.size
    omega
  refine zl_pureL rfl ?_
  refine zl_nil ?_
  refine zk_seq ?_
  refine zc_seq ?_
  refine zc_region ?_
  refine zl_pureL rfl ?_
  refine z_fa want_none (by decide) rfl ?_
  refine z_loadB want_none (by decide) rfl (by assumption) (by rfl) ?_
  refine z_fa want_none (by decide) rfl ?_
  refine z_loadB want_none (by decide) rfl (by assumption) (by rfl) ?_
  refine zl_call (by first | exact want_none | exact want_L rfl) rfl (by decide) rfl (h4.add (by omega) x.name ha4 x3) ?_
  rintro _ u5 ⟨rfl, q5, I5, m5, N5, hW5, hq5, hl5, hnm5, h5⟩
  refine ⟨_, rfl, ?_⟩
  have nt45 := h4.sf.is.noT hb4 (by decide) (by decide) (by decide) (by decide) (by decide) (by decide) (by decide) (by decide)
  have hb5 := hb4.chg hW5.chg nt45
  have ha5 : AttrS u5 (.slice Aa x.attrs.length ca) x.attrs := RdS.chg ha4 hW5.chg (fun b cells hb => h4.sf.is.noT hb (by decide) (by decide) (by decide) (by decide) (by decide) (by decide) (by decide) (by decide))
  refine z_fa want_none (by decide) rfl ?_
  refine z_store (by first | exact want_none | exact want_L rfl) rfl rfl rfl (by assumption) (by first | exact Nat.le_refl _ | simp [Value.cells]) (by simp [Value.cells, Value.oneCell']) (fun u6 hU6 => ?_)
  have hb6 : Blk u6 b3 45 [.int .i64 Ni.length, .string x.name, .slice Aa x.attrs.length ca] := hU6.blk
  have h6 := h5.oth45 hb5 hge3 (by rw [hq5.vm]; exact hrow) hU6.chg
  have ha6 : AttrS u6 (.slice Aa x.attrs.length ca) x.attrs := RdS.upd ha5 hU6 (by decide)
  have hbk6 := h6.sf.is.blk
  refine zl_nil ?_
  refine zk_seq ?_
  refine zc_draw [] (fun w' => Blk w' s 72 [.pointer (some ⟨q5.pd, 0, none⟩), .pointer (some ⟨q5.pm, 0, none⟩), q5.vo, q5.vi, .map (some q5.r), .bool false] ∧ Blk w' b3 45 [.int .i64 Ni.length, .string x.name, .slice Aa x.attrs.length ca]) (.take 0 (.take 1 (.take 2 (.take 3 (.take 4 (.take 5 (.all1 6 (.fin)))))))) (by rfl) (by kernel_rfl) (by kernel_rfl) (fun u7 hC7 _ => ⟨?_, ?_⟩)
  · exact ⟨hbk6.no hC7, hb6.no hC7⟩
  have h7 := h6.no hC7
  iterate 2 (refine zs_take rfl (zt_pure rfl ?_))
  refine zs_rdL rfl want_none rfl (by decide) (fun _ hS => r_fa rfl) ?_
  refine zs_rdL rfl want_none rfl (by decide) (fun _ hS => r_loadB rfl hS.1 (by rfl)) ?_
  refine zs_take rfl (zt_pure rfl ?_)
  refine zs_rdL rfl want_none rfl (by decide) (fun _ hS => r_loadAB rfl hS.2 (by rfl)) ?_
  refine zs_call rfl (by first | exact want_none | exact want_L rfl) rfl (by decide) rfl (h7.set (by omega) (ha6.no hC7) x3 (show (0 : Int) ≤ (Ni.length : Int) by omega) (by omega) (by rw [Int.toNat_natCast]; exact hnm5) i (by omega)) ?_
  rintro _ u8 ⟨rfl, v8, hW8, h8⟩
  refine ⟨_, rfl, ⟨h8.sf.is.blk, ?_⟩, ?_⟩
  · refine (hb6.no hC7).chg hW8.chg ?_
    rintro (he | he)
    · exact absurd ((hb6.no hC7).inj (he ▸ h7.mks.1)).1 (by decide)
    · rw [hq5.vm] at he; exact hrow he
  refine zs_fin ?_
  refine zk_norm_block ?_
  refine zk_seq ?_
  refine zc_region ?_
  refine zl_pureL rfl ?_
  refine z_add want_none (by decide) rfl rfl (by omega) (by omega) ?_
  refine zl_pureL rfl ?_
  refine zl_nil ?_
  have hLi : i < Li.length := by omega
  refine zk_loopW (i + 1, { q5 with vm := v8 }, Ei ++ [⟨Ni.length, 1, x.name⟩], I5, m5, N5, Li.set i ⟨Ni.length, x.name, x.attrs⟩) ⟨h8, by dsimp only; omega, by dsimp only; omega, by dsimp only; rw [List.length_set]; exact hLl, ?_, by dsimp only; omega, fun he => absurd he (by dsimp only; omega)⟩ (by dsimp only; omega) ⟨rfl, rfl, trivial⟩
  dsimp only
  rw [take_set_succ _ _ _ hLi, ndM_app, ndE_app]
  exact hsb.append (List.Sublist.refl _)
end
end Go.Proofs.Yteeibieaapiomaa.D
/- SRebL -/
/- SiteRebuilds: the law. -/
namespace Go.Proofs.Yteeibieaapiomaa.D
open Go Go.Z Go.Proofs
set_option linter.unusedVariables false
theorem front {α : Type} {l1 l2 r t : List α} {x : α} (h : (l1 ++ x :: l2).Sublist (r ++ t)) (nd : (r ++ t).Nodup) (hx : x ∈ r) : (l1 ++ [x]).Sublist r := by
  obtain ⟨a, b, he, ha, hb⟩ := List.sublist_append_iff.1 h
  have hxt : x ∉ t := fun hxt => (List.nodup_append.1 nd).2.2 x hx x hxt rfl
  rcases List.append_eq_append_iff.1 he with ⟨c, hc1, hc2⟩ | ⟨c, hc1, hc2⟩
  · -- a = l1 ++ c, x :: l2 = c ++ b
    cases c with
    | nil =>
      rw [List.nil_append] at hc2
      exact absurd (hb.subset (by rw [← hc2]; simp)) hxt
    | cons y c =>
      rw [List.cons_append] at hc2
      obtain ⟨rfl, _⟩ := List.cons.inj hc2
      refine List.Sublist.trans ?_ ha
      rw [hc1]
      exact List.Sublist.append (List.Sublist.refl _) (by simp)
  · exact absurd (hb.subset (by rw [hc2]; simp)) hxt
theorem ndE_map (E : List Ent) : ndE E = (E.map Ent.n).map (fun k : Nat => ((k : Nat) : Int)) := by unfold ndE; rw [List.map_map]; rfl
theorem ndE_nodup {E : List Ent} {I : List Bool} {m : ByteArray → Int} {N : List ND} (h : Inv E I m N) : (ndE E).Nodup := by
  rw [ndE_map]
  exact List.Pairwise.map _ (fun a b (hab : a ≠ b) he => hab (by omega)) h.nd
theorem reb_sub {E : List Ent} {I : List Bool} {m : ByteArray → Int} {N : List ND} {L : List M.Mark} {T : List Int} (hI : Inv E I m N) (hn : NamesOk L N) (h : (ndM L).Sublist (ndE E ++ T)) (nd : (ndE E ++ T).Nodup) : (ndM (L.take (begS L I L.length))).Sublist (ndE E) := by
  rcases begS_open L I L.length with h0 | h0
  · rw [h0]; simp [ndM]
  · have hle := begS_le L I L.length
    obtain ⟨b, hb⟩ : ∃ b, b = begS L I L.length := ⟨_, rfl⟩
    rw [← hb] at h0 hle ⊢
    cases b with
    | zero => simp [ndM]
    | succ b =>
      rw [Nat.add_sub_cancel] at h0
      have hbl : b < L.length := by omega
      have hmem : L.getD b M.Mark.z ∈ L := getD_mem hbl
      have hx := hn _ hmem
      obtain ⟨k, hk⟩ := Int.eq_ofNat_of_zero_le hx.1
      rw [hk] at h0
      have hkE := (hI.opn k).1 h0
      have e : L = L.take b ++ L.getD b M.Mark.z :: L.drop (b + 1) := by
        rw [List.getD_eq_getElem?_getD, List.getElem?_eq_getElem hbl]; simp
      have e2 : L.take (b + 1) = L.take b ++ [L.getD b M.Mark.z] := by
        rw [List.take_add_one, List.getD_eq_getElem?_getD, List.getElem?_eq_getElem hbl]; rfl
      rw [e, ndM_app] at h
      rw [e2, ndM_app]
      refine front h nd ?_
      show (L.getD b M.Mark.z).node ∈ ndE E
      rw [hk, ndE_map]
      exact List.mem_map.2 ⟨k, hkE, rfl⟩
/-- all open: nothing is done -/
theorem reb_all {E : List Ent} {I : List Bool} {m : ByteArray → Int} {N : List ND} {L : List M.Mark} (hI : Inv E I m N) (hn : NamesOk L N) (h : (ndM L).Sublist (ndE E)) : begS L I L.length = L.length := by
  cases hL : L.length with
  | zero => rfl
  | succ n =>
    rw [begS_succ, if_pos]
    have hmem : L.getD n M.Mark.z ∈ L := getD_mem (by omega)
    have hx := hn _ hmem
    obtain ⟨k, hk⟩ := Int.eq_ofNat_of_zero_le hx.1
    rw [hk]
    refine (hI.opn k).2 ?_
    have h1 : (L.getD n M.Mark.z).node ∈ ndE E := h.subset (List.mem_map.2 ⟨_, hmem, rfl⟩)
    rw [hk, ndE_map] at h1
    obtain ⟨j, hj, hjk⟩ := List.mem_map.1 h1
    obtain rfl : j = k := by omega
    exact hj
theorem ndM_drop (L : List M.Mark) (i : Nat) (h : i < L.length) : ndM (L.drop i) = (L.getD i M.Mark.z).node :: ndM (L.drop (i + 1)) := by
  rw [M.drop_cons M.Mark.z L i h]; rfl
theorem ndE_drop (R : List Nat) (k : Nat) (h : k < R.length) : (R.map (fun k : Nat => ((k : Nat) : Int))).drop k = ((R.getD k 0 : Nat) : Int) :: (R.map (fun k : Nat => ((k : Nat) : Int))).drop (k + 1) := by
  rw [List.drop_eq_getElem_cons (by rw [List.length_map]; exact h), List.getElem_map, List.getD_eq_getElem?_getD, List.getElem?_eq_getElem h]; rfl
theorem sub_step {x y : Int} {l r : List Int} (h : (x :: l).Sublist (y :: r)) (hne : y ≠ x) : (x :: l).Sublist r := by
  cases h with
  | cons _ h => exact h
  | cons_cons _ h => exact absurd rfl hne
/-- an element popped -/
theorem ndE_pop (E : List Ent) (h : E ≠ []) : ∃ t, ndE E = ndE E.dropLast ++ [t] := by
  refine ⟨((E.getLast h).n : Int), ?_⟩
  unfold ndE
  conv => lhs; rw [← List.dropLast_concat_getLast h]
  rw [List.map_append]; rfl
end Go.Proofs.Yteeibieaapiomaa.D
/- SRebuilds -/
/- SiteRebuilds: the walk. -/
namespace Go.Z
open Go
theorem r_field {P : Program} {n : Nat} {e : Env} {w : World} {d : Tmp} {ty : TypeId} {pos : String} {aft : Array Edge} {g : Option (Nat × Bool)} {s f : Nat} {x : Operand} {v u : Value} (hx : ev e x = some v) (hf : (Instr.field s v f).run P w = .ok u w) : Rd P n e w ⟨some d, .field s x f, ty, pos, aft, g⟩ u := fun A hA => by
  simp [execOp, hA.ev hx, hf]
end Go.Z
namespace Go.Proofs.Yteeibieaapiomaa.D
open Go Go.Z Go.Proofs
set_option linter.unusedVariables false
theorem fld7b (w : World) (c0 c1 c2 c3 c4 c5 c6 : Value) : (Instr.field 52 (.agg #[c0, c1, c2, c3, c4, c5, c6]) 2).run Try.prog w = .ok c2 w := by kernel_rfl
theorem told_at {w : World} {B : Nat} {A : Option Addr} {c : Nat} {L : List M.Mark} (h : M.Told w B (.slice A L.length c) L) (i : Nat) (hi : i < L.length) : ∃ b, A = some ⟨b, 0, none⟩ ∧ w.cell? ⟨b, i * 3, none⟩ = some (.int .i64 (L.getD i M.Mark.z).node) ∧ w.cell? ⟨b, i * 3 + 1, none⟩ = some (.string (L.getD i M.Mark.z).name) := by
  obtain ⟨ms, h2, h3, _⟩ := h
  have hlen := h3.length
  obtain ⟨h4, h5⟩ := h2.cases
  rcases h5 with ⟨he, h6, h7⟩ | ⟨b, cap, junk, he, h6, h7, h8, h9⟩
  · simp only [Value.slice.injEq] at he
    have := he.2.1; omega
  · obtain ⟨g1, g2, g3⟩ := h3.get M.MV.z M.Mark.z i hi
    obtain ⟨e1, e2, e3⟩ := M.encM_get ms i (by omega)
    have hlt : i * 3 + 2 < (M.encM ms).length := by rw [M.encM_len]; omega
    simp only [Value.slice.injEq] at he
    obtain ⟨rfl, _, _⟩ := he
    refine ⟨b, rfl, ?_, ?_⟩
    · rw [h8.cell, List.getElem?_append_left (by omega), e1, g1]
    · rw [h8.cell, List.getElem?_append_left (by omega), e2, g2]
theorem SM.new {w0 w : World} {s : Nat} {q : SP} {E : List Ent} {I : List Bool} {m : ByteArray → Int} {N : List ND} (h : SF w0 w s q E I m N false) (hv : q.vm = .slice none 0 0) (hg : w0.heap.size ≤ q.pm) (hB : BigT N) : SM w0 w s q E I m N [] := by
  refine ⟨h, ⟨h.is.mrk, [], ?_, trivial⟩, ?_, hB, fun x hx => by cases hx⟩
  · rw [hv]; exact Own.nil
  · rintro k (hk | hk)
    · rw [hk]; exact hg
    · rw [hv] at hk; cases hk
theorem nodeOf_name {L : List M.Mark} {N : List ND} (h : NamesOk L N) {x : M.Mark} (hx : x ∈ L) : (nodeOf N x.node).name = x.name := by
  obtain ⟨h0, h1, h2, _⟩ := h x hx
  obtain ⟨k, hk⟩ := Int.eq_ofNat_of_zero_le h0
  rw [hk] at h1 h2 ⊢
  have e : nodeOf N (k : Nat) = N.getD k n0 := if_pos ⟨by omega, by omega⟩
  rw [e]
  exact h2
set_option maxRecDepth 100000 in
set_option maxHeartbeats 32000000 in
theorem SiteRebuilds_walk (a : Option Addr) (len cap : Nat) (zs : List Int) (pops : Int) (w : World) (hrow : IsRow .i64 w a len cap zs) : Calls Try.prog 4 #[.slice a len cap, .int .i64 pops] w fun e w' => e = .returned (.bool true) ∧ RowKit.Below w.heap.size w w' := by
  show Calls Try.prog 4 [Value.slice a len cap, .int .i64 pops].toArray w _
  obtain ⟨hlc, hcm, _⟩ := hrow.le
  refine calls_zc (n := 139) (f := 4) (fn := Try.f4) Try.func4 rfl rfl (by simp) ?_
  refine zc_seq ?_
  refine zc_region ?_
  refine zl_pureL rfl ?_
  refine zl_nil ?_
  refine zk_seq ?_
  iterate 2 (refine zc_seq ?_)
  refine zc_region ?_
  refine zl_call (by first | exact want_none | exact want_L rfl) rfl (by decide) rfl known8_calls ?_
  rintro _ w1 ⟨rfl, hC1⟩
  refine ⟨_, rfl, ?_⟩
  refine zl_pureL rfl ?_
  refine zl_nil ?_
  refine zk_seq ?_
  refine zc_false rfl ?_
  refine zc_skip ?_
  refine zk_seq ?_
  refine zc_seq ?_
  refine zc_region ?_
  refine zl_call (by first | exact want_none | exact want_L rfl) rfl (by decide) rfl (sNew_calls hC1) ?_
  rintro _ w2 ⟨s, q, rfl, h2, hvm, hpm⟩
  refine ⟨_, rfl, ?_⟩
  refine zl_pureL rfl ?_
  refine zl_nil ?_
  refine zk_seq ?_
  iterate 2 (refine zc_seq ?_)
  refine zc_region ?_
  refine zl_pureL rfl ?_
  refine z_eqPN (by first | exact want_none | exact want_L rfl) (by decide) rfl rfl ?_
  iterate 2 (refine zl_pureL rfl ?_)
  refine zl_call (by first | exact want_none | exact want_L rfl) rfl (by decide) rfl (sDoc_calls h2.is) ?_
  rintro _ u ⟨rfl, hu⟩
  obtain rfl := hu.symm
  refine ⟨_, rfl, ?_⟩
  refine z_eqPN (by first | exact want_none | exact want_L rfl) (by decide) rfl rfl ?_
  iterate 3 (refine zl_pureL rfl ?_)
  refine zl_call (by first | exact want_none | exact want_L rfl) rfl (by decide) rfl (sMarks_calls h2.is) ?_
  rintro _ u ⟨rfl, hu⟩
  obtain rfl := hu.symm
  refine ⟨_, rfl, ?_⟩
  refine z_eqPN (by first | exact want_none | exact want_L rfl) (by decide) rfl rfl ?_
  refine zl_pureL rfl ?_
  refine zl_nil ?_
  refine zk_seq ?_
  refine zc_false rfl ?_
  refine zc_skip ?_
  refine zk_seq ?_
  refine zc_seq ?_
  refine zc_region ?_
  refine zl_pureL rfl ?_
  refine z_buildE #[.slice a len cap, .int .i64 0] (by first | exact want_none | exact want_L rfl) (by decide) rfl (by kernel_rfl) ?_
  refine z_box (by first | exact want_none | exact want_L rfl) (by decide) rfl (fun w3 bt hN3 => ?_)
  have hT3 : Tp w w3 bt a len cap zs 0 := ⟨hN3.blk, hrow, h2.chg.no hN3.chg, hN3.ge h2.chg, Nat.zero_le _⟩
  have h3 : SM w w3 s q [en0] [true] (fun _ => 0) rootN [] := SM.new (h2.no hN3.chg) hvm hpm (lnN_big [])
  refine zl_pureL rfl ?_
  refine zl_nil ?_
  refine zk_seq ?_
  refine zc_seq ?_
  refine zc_region ?_
  refine zl_pureL rfl ?_
  refine zl_call (by first | exact want_none | exact want_L rfl) rfl (by decide) rfl (h3.add (by decide) ⟨#[112]⟩ (AttrS.nil _) (Nat.zero_le _)) ?_
  rintro _ w4 ⟨rfl, q4, I4, m4, N4, hW4, hq4, hl4, _, h4⟩
  refine ⟨_, rfl, ?_⟩
  have hT4 := hT3.site h3.sf hW4
  have hl4 : N4.length = 2 := hl4
  refine zl_nil ?_
  refine zk_seq ?_
  iterate 2 (refine zc_seq ?_)
  refine zc_region ?_
  refine zl_pureL rfl ?_
  refine zl_nil ?_
  refine zk_seq ?_
  refine zc_block ?_
  refine zc_midBX (ι := SP × List Ent × List Bool × (ByteArray → Int) × List ND × List M.Mark) (fun k u => SM w u s k.1 k.2.1 k.2.2.1 k.2.2.2.1 k.2.2.2.2.1 k.2.2.2.2.2 ∧ (ndM k.2.2.2.2.2).Sublist (ndE k.2.1) ∧ k.2.2.2.2.2.length ≤ 8 ∧ k.2.2.2.2.1.length ≤ 10) (fun k => [(1, .int .i64 pops), (5, .pointer (some ⟨s, 0, none⟩))]) ?_ ?_
  · refine zc_loopW (ι := Nat × SP × List Ent × List Bool × (ByteArray → Int) × List ND × List M.Mark × Nat) (fun k u => [(1, .int .i64 pops), (5, .pointer (some ⟨s, 0, none⟩)), (6, .pointer (some ⟨bt, 0, none⟩)), (7, .int .i64 (k.1 : Nat))])
      (fun k u => k.1 ≤ 8 ∧ SM w u s k.2.1 k.2.2.1 k.2.2.2.1 k.2.2.2.2.1 k.2.2.2.2.2.1 k.2.2.2.2.2.2.1 ∧ (ndM k.2.2.2.2.2.2.1).Sublist (ndE k.2.2.1) ∧ k.2.2.2.2.2.2.1.length ≤ k.1 ∧ k.2.2.2.2.2.1.length = 2 + k.1 ∧ Tp w u bt a len cap zs k.2.2.2.2.2.2.2) (fun k u => 8 - k.1) (0, q4, [en0] ++ [⟨1, 1, ⟨#[112]⟩⟩], I4, m4, N4, [], 0)
      ⟨Nat.zero_le _, h4, List.nil_sublist _, Nat.le_refl _, hl4, hT4⟩ ?_ ?_
    · exact ⟨rfl, rfl, rfl, rfl, trivial⟩
    rintro ⟨i, qi, E, I, m, N, L, at_⟩ u ⟨hi, hS, hsub, hLl, hNl, hTp⟩
    dsimp only at hi hS hsub hLl hNl hTp ⊢
    by_cases hlt : i < 8 ∧ at_ < len
    · obtain ⟨hl8, hmore⟩ := hlt
      iterate 2 (refine zc_seq ?_)
      refine zc_region ?_
      refine zl_pureL rfl ?_
      refine z_cmpB (r := true) want_none (by decide) rfl rfl rfl (iff_of_true rfl (by omega)) ?_
      iterate 2 (refine zl_pureL rfl ?_)
      refine zl_call (by first | exact want_none | exact want_L rfl) rfl (by decide) rfl (more_calls hTp) ?_
      rintro _ u1 ⟨rfl, hC1⟩
      refine ⟨_, rfl, ?_⟩
      have hS1 := hS.no hC1
      have hTp1 := hTp.no hC1
      rw [decide_eq_true hmore]
      refine zl_pureL rfl ?_
      refine zl_nil ?_
      refine zk_seq ?_
      refine zc_true rfl ?_
      refine zc_skip ?_
      refine zk_seq ?_
      refine zc_seq ?_
      refine zc_block ?_
      refine zc_seq ?_
      refine zc_region ?_
      refine zl_pureL rfl ?_
      refine zl_call (by first | exact want_none | exact want_L rfl) rfl (by decide) rfl (next'_calls hTp1 5 (by decide) (by decide) rfl) ?_
      rintro _ u2 ⟨rfl, hTp2, hC2⟩
      refine ⟨_, rfl, ?_⟩
      have hS2 := hS1.tape hTp1.blk hTp1.ge hC2
      obtain ⟨at2, hat2⟩ : ∃ x, x = (nx zs len at_ 5).2 := ⟨_, rfl⟩
      obtain ⟨k, hk⟩ : ∃ x, x = (nx zs len at_ 5).1 := ⟨_, rfl⟩
      rw [← hat2] at hTp2
      rw [← hk]
      skip
      refine zl_call (by first | exact want_none | exact want_L rfl) rfl (by decide) rfl (M.name_calls (k : Nat)) ?_
      rintro _ u3 ⟨rfl, hC3⟩
      refine ⟨_, rfl, ?_⟩
      obtain ⟨nm, hnm⟩ : ∃ x, x = M.nameN (k : Nat) := ⟨_, rfl⟩
      rw [← hnm]
      have hS3 := hS2.no hC3
      have hTp3 := hTp2.no hC3
      refine zl_pureL rfl ?_
      refine zl_call (by first | exact want_none | exact want_L rfl) rfl (by decide) rfl (next'_calls hTp3 7 (by decide) (by decide) rfl) ?_
      rintro _ u4 ⟨rfl, hTp4, hC4⟩
      refine ⟨_, rfl, ?_⟩
      have hS4 := hS3.tape hTp3.blk hTp3.ge hC4
      obtain ⟨at4, hat4⟩ : ∃ x, x = (nx zs len at2 7).2 := ⟨_, rfl⟩
      obtain ⟨k2, hk2⟩ : ∃ x, x = (nx zs len at2 7).1 := ⟨_, rfl⟩
      rw [← hat4] at hTp4
      rw [← hk2]
      skip
      refine zl_call (by first | exact want_none | exact want_L rfl) rfl (by decide) rfl (M.attrs_calls (k2 : Nat)) ?_
      rintro _ u5 ⟨av, rfl, ha5, hC5⟩
      refine ⟨_, rfl, ?_⟩
      have hal := M.attrsN_len (k2 : Nat)
      obtain ⟨l, hl⟩ : ∃ x, x = M.attrsN (k2 : Nat) := ⟨_, rfl⟩
      rw [← hl] at ha5 hal
      obtain ⟨Aa, ca, rfl, _⟩ := ha5.form
      have hS5 := hS4.no hC5
      have hTp5 := hTp4.no hC5
      skip
      refine z_buildE #[.int .i64 0, .string nm, .slice Aa l.length ca] (by first | exact want_none | exact want_L rfl) (by decide) rfl (by kernel_rfl) ?_
      refine z_alloc (by first | exact want_none | exact want_L rfl) (by decide) (fun u6 b6 hN6 => ?_)
      have hb6 : Blk u6 b6 45 [.int .i64 0, .string ⟨#[]⟩, .slice none 0 0] := hN6.blk
      refine z_store (by first | exact want_none | exact want_L rfl) rfl rfl rfl (by assumption) (by first | exact Nat.le_refl _ | simp [Value.cells]) (by simp [Value.cells, Value.oneCell']) (fun u7 hU7 => ?_)
      have hb7 : Blk u7 b6 45 [.int .i64 0, .string nm, .slice Aa l.length ca] := hU7.blk
      have hC7 : Chg u5 u7 No := hN6.chg.upd hU7 (by have := hN6.at_; omega)
      have hS7 := hS5.no hC7
      have hTp7 := hTp5.no hC7
      have ha7 : AttrS u7 (.slice Aa l.length ca) l := by
        have h45 : AttrS u6 (.slice Aa l.length ca) l := AttrS.toD (M.AttrS.no ha5 hN6.chg)
        exact RdS.upd h45 hU7 (by decide)
      have hge6 : w.heap.size ≤ b6 := hN6.ge hS5.sf.chg
      have hrow6 : qi.vm.ownBlock ≠ some b6 := fun he => by
        have h5 := hS5.mks.lt b6 (.inr he)
        have := hN6.at_
        omega
      refine zl_nil ?_
      refine zk_seq ?_
      refine zc_seq ?_
      refine zc_region ?_
      refine zl_pureL rfl ?_
      refine z_fa want_none (by decide) rfl ?_
      refine z_loadB want_none (by decide) rfl (by assumption) (by rfl) ?_
      refine z_fa want_none (by decide) rfl ?_
      refine z_loadB want_none (by decide) rfl (by assumption) (by rfl) ?_
      refine zl_call (by first | exact want_none | exact want_L rfl) rfl (by decide) rfl (hS7.add (by omega) nm ha7 hal) ?_
      rintro _ u8 ⟨rfl, q8, I8, m8, N8, hW8, hq8, hl8', hnm8, hS8⟩
      refine ⟨_, rfl, ?_⟩
      have nt45 := hS7.sf.is.noT hb7 (by decide) (by decide) (by decide) (by decide) (by decide) (by decide) (by decide) (by decide)
      have hb8 := hb7.chg hW8.chg nt45
      have ha8 : AttrS u8 (.slice Aa l.length ca) l := RdS.chg ha7 hW8.chg (fun b cells hb => hS7.sf.is.noT hb (by decide) (by decide) (by decide) (by decide) (by decide) (by decide) (by decide) (by decide))
      have hTp8 := hTp7.site hS7.sf hW8
      refine z_fa want_none (by decide) rfl ?_
      refine z_store (by first | exact want_none | exact want_L rfl) rfl rfl rfl (by assumption) (by first | exact Nat.le_refl _ | simp [Value.cells]) (by simp [Value.cells, Value.oneCell']) (fun u9 hU9 => ?_)
      have hb9 : Blk u9 b6 45 [.int .i64 N.length, .string nm, .slice Aa l.length ca] := hU9.blk
      have hS9 := hS8.oth45 hb8 hge6 (by rw [hq8.vm]; exact hrow6) hU9.chg
      have ha9 : AttrS u9 (.slice Aa l.length ca) l := RdS.upd ha8 hU9 (by decide)
      have hTp9 : Tp w u9 bt a len cap zs at4 := hTp8.oth hU9.chg (fun he => absurd (hb8.inj (he ▸ hTp8.blk)).1 (by decide)) (fun k hk => by rw [hk]; exact hge6)
      refine zl_nil ?_
      refine zk_seq ?_
      refine zc_draw [] (fun w' => Blk w' b6 45 [.int .i64 N.length, .string nm, .slice Aa l.length ca]) (.take 0 (.take 2 (.all1 1 (.all1 3 (.fin))))) (by rfl) (by kernel_rfl) (by kernel_rfl) (fun v1 hD1 _ => ⟨?_, ?_⟩)
      · exact hb9.no hD1
      have hS10 := hS9.no hD1
      refine zs_take rfl (zt_pure rfl ?_)
      refine zs_rdL rfl want_none rfl (by decide) (fun _ hS => r_loadAB rfl hS (by rfl)) ?_
      refine zs_call rfl (by first | exact want_none | exact want_L rfl) rfl (by decide) rfl (sMarks_calls hS10.sf.is) ?_
      rintro _ v2 ⟨rfl, hv⟩
      obtain rfl := hv.symm
      refine ⟨_, rfl, hb9.no hD1, ?_⟩
      skip
      refine zs_call rfl (by first | exact want_none | exact want_L rfl) rfl (by decide) rfl (hS10.push (by omega) (ha9.no hD1) hal (show (0 : Int) ≤ (N.length : Int) by omega) (by omega) (by rw [Int.toNat_natCast]; exact hnm8)) ?_
      rintro _ u11 ⟨rfl, v11, L0, hL0, hW11, hS11⟩
      refine ⟨_, rfl, ?_, ?_⟩
      · refine (hb9.no hD1).chg hW11.chg ?_
        rintro (he | he)
        · exact absurd ((hb9.no hD1).inj (he ▸ hS10.mks.1)).1 (by decide)
        · rw [hq8.vm] at he; exact hrow6 he
      have hTp11 : Tp w u11 bt a len cap zs at4 := (hTp9.no hD1).oth hW11.chg (by
        rintro (he | he)
        · exact absurd ((hTp9.no hD1).blk.inj (he ▸ hS10.mks.1)).1 (by decide)
        · obtain ⟨_, ms, hO, _⟩ := hS10.mks
          exact hO.ne he (hTp9.no hD1).blk (by decide) rfl) hS10.ge
      refine zs_fin ?_
      refine zk_norm_block ?_
      refine zk_seq ?_
      refine zc_region ?_
      refine zl_pureL rfl ?_
      refine z_add want_none (by decide) rfl rfl (by omega) (by omega) ?_
      refine zl_pureL rfl ?_
      refine zl_nil ?_
      refine zk_loopW (i + 1, { q8 with vm := v11 }, E ++ [⟨N.length, 1, nm⟩], I8, m8, N8, L0 ++ [⟨N.length, nm, l⟩], at4) ⟨by dsimp only; omega, hS11, ?_, ?_, by dsimp only; omega, hTp11⟩ (by dsimp only; omega) ⟨rfl, rfl, rfl, rfl, trivial⟩
      · dsimp only
        rw [ndM_app, ndE_app]
        exact ((hL0.map _).trans hsub).append (List.Sublist.refl _)
      · dsimp only
        rw [List.length_append, List.length_singleton]
        have := hL0.length_le
        omega
    by_cases hl8 : i < 8
    · have hmore : ¬ at_ < len := fun h => hlt ⟨hl8, h⟩
      iterate 2 (refine zc_seq ?_)
      refine zc_region ?_
      refine zl_pureL rfl ?_
      refine z_cmpB (r := true) want_none (by decide) rfl rfl rfl (iff_of_true rfl (by omega)) ?_
      iterate 2 (refine zl_pureL rfl ?_)
      refine zl_call (by first | exact want_none | exact want_L rfl) rfl (by decide) rfl (more_calls hTp) ?_
      rintro _ u1 ⟨rfl, hC1⟩
      refine ⟨_, rfl, ?_⟩
      rw [decide_eq_false hmore]
      refine zl_pureL rfl ?_
      refine zl_nil ?_
      refine zk_seq ?_
      refine zc_false rfl ?_
      refine zc_exit ?_
      iterate 2 (refine zk_exit_then ?_)
      refine zk_exit_block ?_
      exact zk_midX (qi, E, I, m, N, L) ⟨hS.no hC1, hsub, by dsimp only; omega, by dsimp only; omega⟩ ⟨rfl, rfl, trivial⟩
    · iterate 2 (refine zc_seq ?_)
      refine zc_region ?_
      refine zl_pureL rfl ?_
      refine z_cmpB (r := false) want_none (by decide) rfl rfl rfl (iff_of_false Bool.false_ne_true (by omega)) ?_
      iterate 2 (refine zl_pureL rfl ?_)
      refine zl_skip rfl ?_
      refine zl_pureL rfl ?_
      refine zl_nil ?_
      refine zk_seq ?_
      refine zc_false rfl ?_
      refine zc_exit ?_
      iterate 2 (refine zk_exit_then ?_)
      refine zk_exit_block ?_
      exact zk_midX (qi, E, I, m, N, L) ⟨hS, hsub, by dsimp only; omega, by dsimp only; omega⟩ ⟨rfl, rfl, trivial⟩
  rintro ⟨q5, E0, I5, m5, N, L⟩ u ⟨hS5, hsub, hLl, hNl⟩
  dsimp only at hS5 hsub hLl hNl ⊢
  have hnd0 := ndE_nodup hS5.sf.inv
  obtain ⟨pz, hpz⟩ : ∃ x, x = pops % ((12 : Nat) : Int) := ⟨_, rfl⟩
  have hpz0 : 0 ≤ pz := by rw [hpz]; exact Int.emod_nonneg _ (by decide)
  have hpz12 : pz < 12 := by rw [hpz]; exact Int.emod_lt_of_pos _ (by decide)
  iterate 2 (refine zc_seq ?_)
  refine zc_region ?_
  refine zl_pureL rfl ?_
  refine zl_nil ?_
  refine zk_seq ?_
  refine zc_block ?_
  refine zc_loopW (ι := Nat × SP × List Ent × List Bool × (ByteArray → Int) × List Int) (fun k u => [(1, .int .i64 pops), (5, .pointer (some ⟨s, 0, none⟩)), (9, .int .i64 (k.1 : Nat))])
    (fun k u => k.1 ≤ 12 ∧ SM w u s k.2.1 k.2.2.1 k.2.2.2.1 k.2.2.2.2.1 N L ∧ ndE E0 = ndE k.2.2.1 ++ k.2.2.2.2.2) (fun k u => 12 - k.1) (0, q5, E0, I5, m5, [])
    ⟨Nat.zero_le _, hS5, (List.append_nil _).symm⟩ ?_ ?_
  · exact ⟨rfl, rfl, rfl, trivial⟩
  rintro ⟨i, q, E, I, m, T⟩ u1 ⟨hi, hS, hT⟩
  dsimp only at hi hS hT ⊢
  iterate 2 (refine zc_seq ?_)
  refine zc_region ?_
  iterate 2 (refine zl_pureL rfl ?_)
  refine zl_call (by first | exact want_none | exact want_L rfl) rfl (by decide) rfl (within8_calls (n := 12) (by decide) (by decide)) ?_
  rintro _ v ⟨rfl, hv⟩
  obtain rfl := hv.symm
  refine ⟨_, rfl, ?_⟩
  rw [← hpz]
  by_cases hlt : (i : Int) < pz
  · refine z_cmpB (r := true) want_none (by decide) rfl rfl rfl (iff_of_true rfl (by omega)) ?_
    refine zl_nil ?_
    refine zk_seq ?_
    refine zc_true rfl ?_
    refine zc_skip ?_
    refine zk_seq ?_
    refine zc_seq ?_
    refine zc_block ?_
    refine zc_region ?_
    refine zl_pureL rfl ?_
    refine zl_call (by first | exact want_none | exact want_L rfl) rfl (by decide) rfl (hS.sf.popZ (by omega) rfl) ?_
    rintro _ u2 ⟨rfl, q2, hq2, hW2, hif⟩
    refine ⟨_, rfl, ?_⟩
    by_cases h2e : 2 ≤ E.length
    · rw [if_pos h2e] at hif
      obtain ⟨t, ht⟩ := ndE_pop E (fun h => by rw [h] at h2e; exact absurd h2e (by decide))
      rw [decide_eq_true h2e]
      refine zl_nil ?_
      refine zk_norm_block ?_
      refine zk_seq ?_
      refine zc_region ?_
      refine zl_pureL rfl ?_
      refine z_add want_none (by decide) rfl rfl (by omega) (by omega) ?_
      refine zl_pureL rfl ?_
      refine zl_nil ?_
      exact zk_loopW (i + 1, q2, E.dropLast, _, _, t :: T) ⟨by dsimp only; omega, hS.site hif hq2 hW2 hS.big hS.nm, by dsimp only; rw [hT, ht, List.append_assoc]; rfl⟩ (by dsimp only; omega) ⟨rfl, rfl, rfl, trivial⟩
    · rw [if_neg h2e] at hif
      rw [decide_eq_false h2e]
      refine zl_nil ?_
      refine zk_norm_block ?_
      refine zk_seq ?_
      refine zc_region ?_
      refine zl_pureL rfl ?_
      refine z_add want_none (by decide) rfl rfl (by omega) (by omega) ?_
      refine zl_pureL rfl ?_
      refine zl_nil ?_
      exact zk_loopW (i + 1, q2, E, _, _, T) ⟨by dsimp only; omega, hS.site hif hq2 hW2 hS.big hS.nm, hT⟩ (by dsimp only; omega) ⟨rfl, rfl, rfl, trivial⟩
  rw [hT] at hsub hnd0
  refine z_cmpB (r := false) want_none (by decide) rfl rfl rfl (iff_of_false Bool.false_ne_true (by omega)) ?_
  refine zl_nil ?_
  refine zk_seq ?_
  refine zc_false rfl ?_
  refine zc_exit ?_
  iterate 2 (refine zk_exit_then ?_)
  refine zk_exit_block ?_
  refine zk_seq ?_
  refine zc_seq ?_
  refine zc_region ?_
  refine zl_pureL rfl ?_
  refine zl_call (by first | exact want_none | exact want_L rfl) rfl (by decide) rfl (sRebuild_calls hS (by omega) (by omega) (reb_sub hS.sf.inv hS.nm hsub hnd0)) ?_
  rintro _ u2 ⟨rfl, q2, E2, I2, m2, N2, L2, hS2, hl2, hsub2, hN2, _⟩
  refine ⟨_, rfl, ?_⟩
  have hel := hS2.sf.inv.elen
  refine zl_nil ?_
  refine zk_seq ?_
  refine zc_seq ?_
  refine zc_region ?_
  refine zl_pureL rfl ?_
  refine zl_call (by first | exact want_none | exact want_L rfl) rfl (by decide) rfl (sOpen_calls hS2.sf.is (by omega)) ?_
  rintro _ u3 ⟨vl, rfl, hI3, hC3⟩
  refine ⟨_, rfl, ?_⟩
  have hS3 := hS2.no hC3
  have hEp := hS2.sf.inv.pos
  obtain ⟨n, hn⟩ : ∃ n, n = E2.length := ⟨_, rfl⟩
  obtain ⟨R, hR⟩ : ∃ R, R = E2.map Ent.n := ⟨_, rfl⟩
  have hRn : R.length = n := by rw [hR, hn, List.length_map]
  have hsub3 : (ndM L2).Sublist (R.map (fun k : Nat => ((k : Nat) : Int))) := by rw [hR, ← ndE_map]; exact hsub2
  rw [← hR] at hI3
  obtain ⟨b, o, cL, hvl, hcL, hcc⟩ := RdS.some hI3.1.rd (by omega)
  rw [hRn] at hvl hcL
  subst hvl
  have hcell : ∀ k, k < n → u3.cell? ⟨b, o + k, none⟩ = some (.int .i64 ((R.getD k 0 : Nat) : Int)) := fun k hk => hcc k _ (intC_get R k (by omega))
  refine zl_pureL rfl ?_
  refine zl_nil ?_
  refine zk_seq ?_
  refine zc_seq ?_
  refine zc_region ?_
  refine zl_pureL rfl ?_
  refine zl_call (by first | exact want_none | exact want_L rfl) rfl (by decide) rfl (sMarks_calls hS3.sf.is) ?_
  rintro _ v ⟨rfl, hv⟩
  obtain rfl := hv.symm
  refine ⟨_, rfl, ?_⟩
  refine zl_call (by first | exact want_none | exact want_L rfl) rfl (by decide) rfl (M.all_calls hS3.mks (by omega) hS3.attrs) ?_
  rintro _ u4 ⟨vo, rfl, hT4, hC4⟩
  refine ⟨_, rfl, ?_⟩
  obtain ⟨A, cA, rfl, hcA⟩ := hT4.len
  have hS4 := hS3.no hC4
  refine zl_pureL rfl ?_
  refine zl_nil ?_
  refine zk_seq ?_
  refine zc_seq ?_
  refine zc_region ?_
  refine zl_pureL rfl ?_
  refine zl_call (by first | exact want_none | exact want_L rfl) rfl (by decide) rfl (sDoc_calls hS4.sf.is) ?_
  rintro _ v ⟨rfl, hv⟩
  obtain rfl := hv.symm
  refine ⟨_, rfl, ?_⟩
  refine zl_call (by first | exact want_none | exact want_L rfl) rfl (by decide) rfl (size_calls hS4.sf.is.doc) ?_
  rintro _ v ⟨rfl, hv⟩
  obtain rfl := hv.symm
  refine ⟨_, rfl, ?_⟩
  obtain ⟨nn, hnn⟩ : ∃ x, x = N2.length := ⟨_, rfl⟩
  rw [← hnn]
  refine zl_pureL rfl ?_
  refine zl_nil ?_
  refine zk_seq ?_
  refine zc_seq ?_
  refine zc_region ?_
  refine zl_pureL rfl ?_
  refine zl_nil ?_
  refine zk_seq ?_
  iterate 2 (refine zc_seq ?_)
  refine zc_region ?_
  refine zl_pureL rfl ?_
  refine zl_nil ?_
  refine zk_seq ?_
  refine zc_block ?_
  refine zc_loopW (ι := Nat × Nat) (fun k u => [(5, .pointer (some ⟨s, 0, none⟩)), (10, .slice (some ⟨b, o, none⟩) n cL), (11, .slice A L2.length cA), (12, .int .i64 nn), (13, .int .i64 (k.2 : Nat)), (14, .int .i64 (k.1 : Nat))])
    (fun k u => k.1 ≤ L2.length ∧ k.2 ≤ n ∧ (ndM (L2.drop k.1)).Sublist ((R.map (fun k : Nat => ((k : Nat) : Int))).drop k.2) ∧ Chg u4 u No) (fun k u => L2.length - k.1) (0, 0) ⟨Nat.zero_le _, Nat.zero_le _, hsub3, Chg.refl _ _⟩ ?_ ?_
  · exact ⟨rfl, rfl, rfl, rfl, rfl, rfl, trivial⟩
  rintro ⟨i, at_⟩ u5 ⟨hi, hat, hsb, hC5⟩
  dsimp only at hi hat hsb ⊢
  by_cases hlt : i < L2.length
  rotate_left
  · have hS5 := hS4.no hC5
    have hall := reb_all hS5.sf.inv hS5.nm hsub2
    iterate 2 (refine zc_seq ?_)
    refine zc_region ?_
    iterate 2 (refine zl_pureL rfl ?_)
    refine z_len want_none (by decide) rfl ?_
    refine z_cmpB (r := false) want_none (by decide) rfl rfl rfl (iff_of_false Bool.false_ne_true (by omega)) ?_
    refine zl_nil ?_
    refine zk_seq ?_
    refine zc_false rfl ?_
    refine zc_exit ?_
    iterate 2 (refine zk_exit_then ?_)
    refine zk_exit_block ?_
    refine zk_seq ?_
    refine zc_seq ?_
    refine zc_region ?_
    refine zl_pureL rfl ?_
    refine zl_call (by first | exact want_none | exact want_L rfl) rfl (by decide) rfl (sRebuild_calls hS5 (by omega) (by omega) (by rw [hall, List.take_of_length_le (Nat.le_refl _)]; exact hsub2)) ?_
    rintro _ u6 ⟨rfl, q6, E6, I6, m6, N6, L6, hS6, hl6, hsub6, hN6, heq⟩
    refine ⟨_, rfl, ?_⟩
    obtain ⟨e1, e2⟩ := heq hall
    refine zl_nil ?_
    refine zk_seq ?_
    refine zc_seq ?_
    refine zc_region ?_
    refine zl_pureL rfl ?_
    refine zl_call (by first | exact want_none | exact want_L rfl) rfl (by decide) rfl (sDoc_calls hS6.sf.is) ?_
    rintro _ v ⟨rfl, hv⟩
    obtain rfl := hv.symm
    refine ⟨_, rfl, ?_⟩
    refine zl_call (by first | exact want_none | exact want_L rfl) rfl (by decide) rfl (size_calls hS6.sf.is.doc) ?_
    rintro _ v ⟨rfl, hv⟩
    obtain rfl := hv.symm
    refine ⟨_, rfl, ?_⟩
    rw [e2, ← hnn]
    refine zl_pureL rfl ?_
    refine z_cmpB (r := true) want_none (by decide) rfl rfl rfl (iff_of_true rfl (by omega)) ?_
    iterate 2 (refine zl_pureL rfl ?_)
    refine zl_call (by first | exact want_none | exact want_L rfl) rfl (by decide) rfl (sOpen_calls hS6.sf.is (by omega)) ?_
    rintro _ u7 ⟨v7, rfl, hI7, hC7⟩
    refine ⟨_, rfl, ?_⟩
    have hl7 : (E6.map Ent.n).length = n := by rw [List.length_map, e1, hn]
    obtain ⟨b7, o7, c7, hv7, _, _⟩ := RdS.some hI7.1.rd (by omega)
    rw [hl7] at hv7
    subst hv7
    refine z_len (want_L rfl) (by decide) rfl ?_
    refine zl_pureL rfl ?_
    refine z_len (want_L rfl) (by decide) rfl ?_
    refine z_cmpB (r := true) (want_L rfl) (by decide) rfl rfl rfl (iff_of_true rfl (by omega)) ?_
    iterate 2 (refine zl_pureL rfl ?_)
    refine zl_nil ?_
    refine zk_seq ?_
    refine zc_ret ?_
    exact zk_ret1 (.inr rfl) rfl rfl ⟨rfl, (hS6.sf.chg.no hC7).below⟩
  obtain ⟨x, hx⟩ : ∃ x, x = L2.getD i M.Mark.z := ⟨_, rfl⟩
  have hxL : x ∈ L2 := by rw [hx]; exact getD_mem hlt
  obtain ⟨bA, rfl, hn0, hm0⟩ := told_at (hT4.no hC5) i hlt
  rw [← hx] at hn0 hm0
  iterate 2 (refine zc_seq ?_)
  refine zc_region ?_
  iterate 2 (refine zl_pureL rfl ?_)
  refine z_len want_none (by decide) rfl ?_
  refine z_cmpB (r := true) want_none (by decide) rfl rfl rfl (iff_of_true rfl (by omega)) ?_
  refine zl_nil ?_
  refine zk_seq ?_
  refine zc_true rfl ?_
  refine zc_skip ?_
  refine zk_seq ?_
  refine zc_seq ?_
  refine zc_block ?_
  refine zc_seq ?_
  refine zc_block ?_
  refine zc_loopW (ι := Nat) (fun k u => [(5, .pointer (some ⟨s, 0, none⟩)), (10, .slice (some ⟨b, o, none⟩) n cL), (11, .slice (some ⟨bA, 0, none⟩) L2.length cA), (12, .int .i64 nn), (13, .int .i64 (k : Nat)), (14, .int .i64 (i : Nat))])
    (fun k u => k ≤ n ∧ (ndM (L2.drop i)).Sublist ((R.map (fun k : Nat => ((k : Nat) : Int))).drop k) ∧ Chg u5 u No) (fun k u => n - k) at_ ⟨hat, hsb, Chg.refl _ _⟩ ?_ ?_
  · exact ⟨rfl, rfl, rfl, rfl, rfl, rfl, trivial⟩
  rintro k u6 ⟨hk, hsk, hC6⟩
  rw [ndM_drop L2 i hlt, ← hx] at hsk
  have hkn : k < n := by
    rcases Nat.lt_or_ge k n with h | h
    · exact h
    · have hl := hsk.length_le
      rw [List.length_cons, List.length_drop, List.length_map] at hl
      omega
  have hC56 := hC5.no hC6
  have gk := cell_no (hC4.no hC56) (hcell k hkn)
  have gn := cell_no hC6 hn0
  have gm := cell_no hC6 hm0
  rw [ndE_drop R k (by omega)] at hsk
  obtain ⟨rk, hrk⟩ : ∃ x, x = R.getD k 0 := ⟨_, rfl⟩
  rw [← hrk] at gk hsk
  have hxn := (hS4.nm x hxL)
  obtain ⟨xn, hxn'⟩ := Int.eq_ofNat_of_zero_le hxn.1
  by_cases hne : rk = xn
  rotate_left
  · rw [hxn'] at gn
    iterate 2 (refine zc_seq ?_)
    refine zc_draw [] (fun w' => Chg u6 w' No) (.take 0 (.take 1 (.take 2 (.take 3 (.take 4 (.take 5 (.take 6 (.take 7 (.take 8 (.take 9 (.take 10 (.take 11 (.take 12 (.take 13 (.take 14 (.take 15 (.fin))))))))))))))))) (by rfl) (by kernel_rfl) (by kernel_rfl) (fun v1 hD1 _ => ⟨?_, ?_⟩)
    · exact hD1
    iterate 2 (refine zs_take rfl (zt_pure rfl ?_))
    refine zs_rdL rfl want_none rfl (by decide) (fun _ hS => r_len rfl) ?_
    refine zs_rdL rfl want_none rfl (by decide) (fun _ hS => r_cmpB (r := true) rfl rfl rfl (iff_of_true rfl (by omega))) ?_
    iterate 3 (refine zs_take rfl (zt_pure rfl ?_))
    refine zs_rdL rfl (want_L rfl) rfl (by decide) (fun _ hS => r_ia rfl rfl (by omega) (by omega)) ?_
    refine zs_rdL rfl (by first | exact want_none | exact want_L rfl) rfl (by decide) (fun _ hS => r_load1 rfl (cell_at (cell_no hS gk) (by omega))) ?_
    iterate 2 (refine zs_take rfl (zt_pure rfl ?_))
    refine zs_rdL rfl (want_L rfl) rfl (by decide) (fun _ hS => r_ia rfl rfl (by omega) (by omega)) ?_
    refine zs_rdL rfl (want_L rfl) rfl (by decide) (fun _ hS => r_fa rfl) ?_
    refine zs_rdL rfl (by first | exact want_none | exact want_L rfl) rfl (by decide) (fun _ hS => r_load1 rfl (cell_at (cell_no hS gn) (by omega))) ?_
    refine zs_rdL rfl (want_L rfl) rfl (by decide) (fun _ hS => r_cmpB (r := true) rfl rfl rfl (iff_of_true rfl (by omega))) ?_
    refine zs_take rfl (zt_pure rfl ?_)
    refine zs_fin ?_
    refine zk_seq ?_
    refine zc_true rfl ?_
    refine zc_skip ?_
    refine zk_seq ?_
    refine zc_block ?_
    refine zc_region ?_
    refine zl_pureL rfl ?_
    refine z_add want_none (by decide) rfl rfl (by omega) (by omega) ?_
    refine zl_pureL rfl ?_
    refine zl_nil ?_
    refine zk_norm_block ?_
    refine zk_loopW (k + 1) ⟨by omega, ?_, hC6.no hD1⟩ (by omega) ⟨rfl, rfl, rfl, rfl, rfl, rfl, trivial⟩
    rw [ndM_drop L2 i hlt, ← hx]
    exact sub_step hsk (by rw [hxn']; omega)
  have hsk2 := hsk
  rw [hxn'] at gn
  subst hne
  iterate 2 (refine zc_seq ?_)
  refine zc_draw [] (fun w' => Chg u6 w' No) (.take 0 (.take 1 (.take 2 (.take 3 (.take 4 (.take 5 (.take 6 (.take 7 (.take 8 (.take 9 (.take 10 (.take 11 (.take 12 (.take 13 (.take 14 (.take 15 (.fin))))))))))))))))) (by rfl) (by kernel_rfl) (by kernel_rfl) (fun v1 hD1 _ => ⟨?_, ?_⟩)
  · exact hD1
  iterate 2 (refine zs_take rfl (zt_pure rfl ?_))
  refine zs_rdL rfl want_none rfl (by decide) (fun _ hS => r_len rfl) ?_
  refine zs_rdL rfl want_none rfl (by decide) (fun _ hS => r_cmpB (r := true) rfl rfl rfl (iff_of_true rfl (by omega))) ?_
  iterate 3 (refine zs_take rfl (zt_pure rfl ?_))
  refine zs_rdL rfl (want_L rfl) rfl (by decide) (fun _ hS => r_ia rfl rfl (by omega) (by omega)) ?_
  refine zs_rdL rfl (by first | exact want_none | exact want_L rfl) rfl (by decide) (fun _ hS => r_load1 rfl (cell_at (cell_no hS gk) (by omega))) ?_
  iterate 2 (refine zs_take rfl (zt_pure rfl ?_))
  refine zs_rdL rfl (want_L rfl) rfl (by decide) (fun _ hS => r_ia rfl rfl (by omega) (by omega)) ?_
  refine zs_rdL rfl (want_L rfl) rfl (by decide) (fun _ hS => r_fa rfl) ?_
  refine zs_rdL rfl (by first | exact want_none | exact want_L rfl) rfl (by decide) (fun _ hS => r_load1 rfl (cell_at (cell_no hS gn) (by omega))) ?_
  refine zs_rdL rfl (want_L rfl) rfl (by decide) (fun _ hS => r_cmpB (r := false) rfl rfl rfl (iff_of_false Bool.false_ne_true (by omega))) ?_
  refine zs_take rfl (zt_pure rfl ?_)
  refine zs_fin ?_
  refine zk_seq ?_
  refine zc_false rfl ?_
  refine zc_exit ?_
  iterate 2 (refine zk_exit_then ?_)
  refine zk_exit_block ?_
  refine zk_seq ?_
  refine zc_seq ?_
  have gn1 := cell_no hD1 gn
  have gm1 := cell_no hD1 gm
  have hS6 := hS4.no (hC56.no hD1)
  refine zc_draw [] (fun w' => Chg v1 w' No) (.take 0 (.take 1 (.take 2 (.take 3 (.take 4 (.take 5 (.take 7 (.take 8 (.take 9 (.take 10 (.take 11 (.take 14 (.take 15 (.take 16 (.take 17 (.take 18 (.all1 6 (.all1 12 (.take 13 (.take 19 (.take 20 (.fin)))))))))))))))))))))) (by rfl) (by kernel_rfl) (by kernel_rfl) (fun v2 hD2 _ => ⟨?_, ?_⟩)
  · exact hD2
  iterate 2 (refine zs_take rfl (zt_pure rfl ?_))
  refine zs_rdL rfl want_none rfl (by decide) (fun _ hS => r_len rfl) ?_
  refine zs_rdL rfl want_none rfl (by decide) (fun _ hS => r_cmpB (r := false) rfl rfl rfl (iff_of_false Bool.false_ne_true (by omega))) ?_
  iterate 4 (refine zs_take rfl (zt_pure rfl ?_))
  refine zs_rdL rfl (want_L rfl) rfl (by decide) (fun _ hS => r_ia rfl rfl (by omega) (by omega)) ?_
  refine zs_rdL rfl (want_L rfl) rfl (by decide) (fun _ hS => r_fa rfl) ?_
  refine zs_rdL rfl (by first | exact want_none | exact want_L rfl) rfl (by decide) (fun _ hS => r_load1 rfl (cell_at (cell_no hS gn1) (by omega))) ?_
  iterate 2 (refine zs_take rfl (zt_pure rfl ?_))
  refine zs_rdL rfl (want_L rfl) rfl (by decide) (fun _ hS => r_ia rfl rfl (by omega) (by omega)) ?_
  refine zs_rdL rfl (want_L rfl) rfl (by decide) (fun _ hS => r_fa rfl) ?_
  refine zs_rdL rfl (by first | exact want_none | exact want_L rfl) rfl (by decide) (fun _ hS => r_load1 rfl (cell_at (cell_no hS gm1) (by omega))) ?_
  skip
  refine zs_call rfl (by first | exact want_none | exact want_L rfl) rfl (by decide) rfl (sDoc_calls (hS6.no hD2).sf.is) ?_
  rintro _ v3 ⟨rfl, hv3⟩
  obtain rfl := hv3.symm
  refine ⟨_, rfl, hD2, ?_⟩
  skip
  refine zs_call rfl (by first | exact want_none | exact want_L rfl) rfl (by decide) rfl (node_calls (hS6.no hD2).sf.is.doc hS6.big rk) ?_
  rintro _ v4 ⟨va, rfl, _, _, hC8⟩
  have hD4 := hD2.no hC8
  refine ⟨_, rfl, hD4, ?_⟩
  have hname := nodeOf_name hS6.nm hxL
  rw [hxn'] at hname
  rw [hname]
  refine zs_rdL rfl (by first | exact want_none | exact want_L rfl) rfl (by decide) (fun w _ => r_field rfl (fld7b w _ _ _ _ _ _ _)) ?_
  refine zs_rdL rfl (by first | exact want_none | exact want_L rfl) rfl (by decide) (fun _ _ => r_neS0 rfl rfl rfl) ?_
  refine zs_take rfl (zt_pure rfl ?_)
  refine zs_fin ?_
  refine zk_seq ?_
  refine zc_false rfl ?_
  refine zc_skip ?_
  refine zk_norm_block ?_
  refine zk_seq ?_
  refine zc_region ?_
  refine zl_pureL rfl ?_
  refine z_add want_none (by decide) rfl rfl (by omega) (by omega) ?_
  refine zl_pureL rfl ?_
  refine zl_nil ?_
  exact zk_loopW (i + 1, k) ⟨by dsimp only; omega, hk, by
    dsimp only
    have h9 := (List.sublist_cons_self _ _).trans hsk2
    rw [ndE_drop R k (by omega), ← hrk]
    exact h9, hC56.no (hD1.no hD4)⟩ (by dsimp only; omega) ⟨rfl, rfl, rfl, rfl, rfl, rfl, trivial⟩
end Go.Proofs.Yteeibieaapiomaa.D
