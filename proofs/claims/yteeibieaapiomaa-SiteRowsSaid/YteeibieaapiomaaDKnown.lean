import Derived.Test.YteeibieaapiomaaDDoc8
/- What the laws share: a Doc made since; known; within. -/
namespace Go.Proofs.Yteeibieaapiomaa.D
open Go Go.Z Go.Proofs
set_option linter.unusedVariables false
/-- a Doc that was made since w0 -/
structure DF (w0 w : World) (p : Nat) (vl : Value) (Q : List PN) (N : List ND) : Prop where
  is : IsD w p vl Q N
  ge : ∀ k, foot p vl Q k → w0.heap.size ≤ k
  chg : Chg w0 w No
  wf : WF N
section
variable {w0 w w' : World} {p : Nat} {vl vl' : Value} {Q Q' : List PN} {N N' : List ND}
theorem DF.no (h : DF w0 w p vl Q N) (hc : Chg w w' No) : DF w0 w' p vl Q N := ⟨h.is.no hc, h.ge, h.chg.no hc, h.wf⟩
theorem DF.wr (h : DF w0 w p vl Q N) (hi : IsD w' p vl' Q' N') (hw : WrD w w' p vl Q vl' Q') (hf : WF N') : DF w0 w' p vl' Q' N' :=
  ⟨hi, fun k hk => (hw.ft k hk).elim (h.ge k) (fun h1 => Nat.le_trans h.chg.size h1), h.chg.trans hw.chg (fun i hi hk => by have := h.ge i hk; omega), hf⟩
theorem DF.chgW (h : DF w0 w p vl Q N) (hw : WrD w w' p vl Q vl' Q') : Chg w0 w' No := h.chg.trans hw.chg (fun i hi hk => by have := h.ge i hk; omega)
/-- what is no part of the Doc stays -/
theorem DF.blk (h : DF w0 w p vl Q N) (hw : WrD w w' p vl Q vl' Q') {b t : Nat} {cs : List Value} (hb : Blk w b t cs) (h1 : t ≠ 102) (h2 : t ≠ 76) (h3 : t ≠ 80) (h4 : t ≠ 5) (h5 : t ≠ 3) : Blk w' b t cs := by
  refine hb.chg hw.chg ?_
  rintro (he | he | ⟨i, hi, he⟩)
  · exact hb.ne h.is.blk h1 he
  · exact h.is.row.ne he hb (Ne.symm h2) rfl
  · exact (h.is.at_ i (by rw [← h.is.len]; exact hi)).ne he hb h3 h4 h5 rfl
theorem AttrS.wr {va : Value} {l : List At} (ha : AttrS w va l) (hw : WrD w w' p vl Q vl' Q') : AttrS w' va l := by
  obtain ⟨h1, h2, A, c, h3, h4, h5⟩ := ha
  refine ⟨h1, h2, A, c, h3, h4, fun hm => ?_⟩
  obtain ⟨b, o, cells, h6, h7, h8⟩ := h5 hm
  exact ⟨b, o, cells, h6, hw.k45 b cells h7, h8⟩
end
theorem BigT.of {N : List ND} (h : ∀ x ∈ N, x.text.length ≤ 1000000000 ∧ x.attrs.length ≤ 100000) : BigT N := fun i => by
  rcases Nat.lt_or_ge i N.length with hi | hi
  · exact h _ (getD_mem hi)
  · rw [List.getD_eq_getElem?_getD, List.getElem?_eq_none hi]; exact ⟨Nat.zero_le _, Nat.zero_le _⟩
theorem BigT.text {N : List ND} (h : BigT N) : ∀ i, (N.getD i n0).text.length ≤ 1000000000 := fun i => (h i).1
def kn1 : List ND := [⟨1, 1, ⟨#[]⟩, [], [], -1, [1]⟩, ⟨2, 0, ⟨#[]⟩, [], [97], 0, []⟩]
def kn2 : List ND := [⟨1, 1, ⟨#[]⟩, [], [], -1, [1]⟩, ⟨2, 0, ⟨#[]⟩, [], [97, 98], 0, []⟩]
theorem kn1_eq : writeN rootN [97] 0 0 = kn1 := by rfl
theorem kn2_eq : writeN kn1 [98] 0 1 = kn2 := by rfl
section
variable {w0 w : World} {p : Nat} {vl : Value} {Q : List PN} {N : List ND}
theorem DF.write (h : DF w0 w p vl Q N) (hl : N.length ≤ 100000) (hB : BigT N) (s : List UInt8) (hs : s.length ≤ 100000) {sb : ByteArray} (hsb : sb = bs s) (up ahead : Int) (N' : List ND) (hok : WriteOk N up ahead) (hN : writeN N s up.toNat ((placeN (ndOf N up).kids ahead).getD 0) = N') :
    Calls Try.prog 80 [.pointer (some ⟨p, 0, none⟩), .string sb, .int .i64 up, .int .i64 ahead].toArray w fun e w' => e = .returned (.bool true) ∧ ∃ vl' Q', DF w0 w' p vl' Q' N' ∧ WrD w w' p vl Q vl' Q' := by
  subst hsb
  refine (write_calls h.is h.wf hl s hs hB.text up ahead).mono ?_
  rintro e w' ⟨q, vl', Q', N2, rfl, hI, hW, hR⟩
  obtain ⟨rfl, rfl⟩ := hR.1 hok
  have hf := (hR.wf h.wf).1
  rw [hN] at hI hf
  exact ⟨rfl, vl', Q', h.wr hI hW hf, hW⟩
theorem DF.writeNo (h : DF w0 w p vl Q N) (hl : N.length ≤ 100000) (hB : BigT N) (s : List UInt8) (hs : s.length ≤ 100000) {sb : ByteArray} (hsb : sb = bs s) (up ahead : Int) (hok : ¬ WriteOk N up ahead) :
    Calls Try.prog 80 [.pointer (some ⟨p, 0, none⟩), .string sb, .int .i64 up, .int .i64 ahead].toArray w fun e w' => e = .returned (.bool false) ∧ ∃ vl' Q', DF w0 w' p vl' Q' N ∧ WrD w w' p vl Q vl' Q' := by
  subst hsb
  refine (write_calls h.is h.wf hl s hs hB.text up ahead).mono ?_
  rintro e w' ⟨q, vl', Q', N2, rfl, hI, hW, hR⟩
  obtain ⟨rfl, rfl⟩ := hR.2 hok
  exact ⟨rfl, vl', Q', h.wr hI hW h.wf, hW⟩
theorem DF.put (h : DF w0 w p vl Q N) (hl : N.length ≤ 100000) (n up ahead : Int) (N' : List ND) (hok : PutOk N n up ahead) (hN : layN N n.toNat up.toNat ((placeN (ndOf N up).kids ahead).getD 0) = N') :
    Calls Try.prog 55 [.pointer (some ⟨p, 0, none⟩), .int .i64 n, .int .i64 up, .int .i64 ahead].toArray w fun e w' => e = .returned (.bool true) ∧ ∃ vl' Q', DF w0 w' p vl' Q' N' ∧ WrD w w' p vl Q vl' Q' := by
  refine (put_calls h.is h.wf hl n up ahead).mono ?_
  rintro e w' ⟨q, Q', N2, rfl, hI, hW, hR⟩
  obtain ⟨rfl, rfl⟩ := hR.1 hok
  have hf := (hR.wf h.wf).1
  rw [hN] at hI hf
  exact ⟨rfl, vl, Q', h.wr hI hW hf, hW⟩
theorem DF.putNo (h : DF w0 w p vl Q N) (hl : N.length ≤ 100000) (n up ahead : Int) (hok : ¬ PutOk N n up ahead) :
    Calls Try.prog 55 [.pointer (some ⟨p, 0, none⟩), .int .i64 n, .int .i64 up, .int .i64 ahead].toArray w fun e w' => e = .returned (.bool false) ∧ ∃ vl' Q', DF w0 w' p vl' Q' N ∧ WrD w w' p vl Q vl' Q' := by
  refine (put_calls h.is h.wf hl n up ahead).mono ?_
  rintro e w' ⟨q, Q', N2, rfl, hI, hW, hR⟩
  obtain ⟨rfl, rfl⟩ := hR.2 hok
  exact ⟨rfl, vl, Q', h.wr hI hW h.wf, hW⟩
theorem DF.elem (h : DF w0 w p vl Q N) (hl : N.length ≤ 100000) (sp : Int) (nm : ByteArray) {va : Value} {l : List At} (ha : AttrS w va l) (hal : l.length ≤ 100000) :
    Calls Try.prog 11 [.pointer (some ⟨p, 0, none⟩), .int .i64 sp, .string nm, va].toArray w fun e w' => e = .returned (.int .i64 N.length) ∧ ∃ vl' Q', DF w0 w' p vl' Q' (N ++ [⟨1, sp, nm, l, [], -1, []⟩]) ∧ WrD w w' p vl Q vl' Q' := by
  refine (elem'_calls h.is hl sp nm ha hal).mono ?_
  rintro e w' ⟨rfl, vl', Q', hI, hW⟩
  exact ⟨rfl, vl', Q', h.wr hI hW (h.wf.add rfl rfl), hW⟩
theorem DF.note (h : DF w0 w p vl Q N) (hl : N.length ≤ 100000) (s : List UInt8) (hs : s.length ≤ 100000) {sb : ByteArray} (hsb : sb = bs s) :
    Calls Try.prog 12 [.pointer (some ⟨p, 0, none⟩), .string sb].toArray w fun e w' => e = .returned (.int .i64 N.length) ∧ ∃ vl' Q', DF w0 w' p vl' Q' (N ++ [⟨3, 0, ⟨#[]⟩, [], s, -1, []⟩]) ∧ WrD w w' p vl Q vl' Q' := by
  subst hsb
  refine (note_calls h.is hl s hs).mono ?_
  rintro e w' ⟨rfl, vl', Q', hI, hW⟩
  exact ⟨rfl, vl', Q', h.wr hI hW (h.wf.add rfl rfl), hW⟩
theorem DF.new {w0 w : World} (hc : Chg w0 w No) : Calls Try.prog 43 [].toArray w fun e w' => ∃ p vl Q, e = .returned (.pointer (some ⟨p, 0, none⟩)) ∧ DF w0 w' p vl Q rootN := by
  refine new_calls.mono ?_
  rintro e w' ⟨p, vl, Q, rfl, hI, hC, hge⟩
  exact ⟨p, vl, Q, rfl, hI, fun k hk => Nat.le_trans hc.size (hge k hk), hc.no hC, rootN_WF⟩
theorem DF.tree (h : DF w0 w p vl Q N) (hl : N.length ≤ 100000) (hB : BigT N) (n : Nat) (hn : n < N.length) (t : NT) (ht : TF N (N.getD n n0).kids t) {ni : Int} (hni : ni = (n : Int)) :
    Calls Try.prog 39 [.pointer (some ⟨p, 0, none⟩), .int .i64 ni].toArray w fun e w' => ∃ vo, e = .returned vo ∧ TreeOk w' (fun b => w.heap.size ≤ b) (fun b => w.heap.size ≤ b) vo t ∧ DF w0 w' p vl Q N ∧ Chg w w' No := by
  subst hni
  refine (tree_calls h.wf hl hB _ h.is n hn t ht (Nat.le_refl _)).mono ?_
  rintro e w' ⟨vo, rfl, hT, hC⟩
  exact ⟨vo, rfl, hT, h.no hC, hC⟩
end
theorem tmod_emod (a : Int) (n : Nat) (hn : 0 < n) : (0 ≤ a.tmod n ∧ a.tmod n = a % n ∧ a.tmod n < n) ∨ (a.tmod n < 0 ∧ a.tmod n + n = a % n ∧ -(n : Int) < a.tmod n) := by
  have h1 := Int.emod_nonneg a (show (n : Int) ≠ 0 by omega)
  have h2 := Int.emod_lt_of_pos a (show (0 : Int) < n by omega)
  have h3 := Int.tmod_lt_of_pos a (show (0 : Int) < n by omega)
  have h4 : -(n : Int) < a.tmod n := by
    have := Int.tmod_lt_of_pos (-a) (show (0 : Int) < n by omega)
    rw [Int.neg_tmod] at this; omega
  have h5 : ((n : Int)) ∣ (a % n - a.tmod n) := by
    have e1 := Int.emod_add_mul_ediv a n
    have e2 := Int.tmod_add_mul_tdiv a n
    refine ⟨a.tdiv n - a / n, ?_⟩
    rw [Int.mul_sub]; omega
  obtain ⟨q, hq⟩ := h5
  have hq0 : -1 < q := by
    apply Int.lt_of_not_ge; intro hge
    have : (n : Int) * q ≤ (n : Int) * (-1) := Int.mul_le_mul_of_nonneg_left hge (by omega)
    omega
  have hq1 : q < 2 := by
    apply Int.lt_of_not_ge; intro hge
    have : (n : Int) * 2 ≤ (n : Int) * q := Int.mul_le_mul_of_nonneg_left hge (by omega)
    omega
  have : q = 0 ∨ q = 1 := by omega
  rcases this with rfl | rfl
  · left; omega
  · right; omega
theorem within1_calls {w : World} {a : Int} {n : Nat} (hn : 0 < n) (hn2 : n ≤ 1000000000) :
    Calls Try.prog 47 [.int .i64 a, .int .i64 n].toArray w fun e w' => e = .returned (.int .i64 (a % n)) ∧ w' = w := by
  have hm := tmod_emod a n hn
  refine calls_zc (n := 15) (f := 47) (fn := Try.f47) Try.func47 rfl rfl (by simp) ?_
  refine zc_seq ?_
  refine zc_region ?_
  refine zl_pureL rfl ?_
  refine zl_nil ?_
  refine zk_seq ?_
  refine zc_seq ?_
  refine zc_region ?_
  iterate 2 (refine zl_pureL rfl ?_)
  refine z_rem (by first | exact want_none | exact want_L rfl) (by decide) rfl rfl (by omega) ?_
  refine zl_pureL rfl ?_
  refine zl_nil ?_
  refine zk_seq ?_
  iterate 2 (refine zc_seq ?_)
  refine zc_region ?_
  refine zl_pureL rfl ?_
  rcases hm with ⟨h1, h2, h3⟩ | ⟨h1, h2, h3⟩
  · refine z_cmpB (r := false) want_none (by decide) rfl rfl rfl (iff_of_false Bool.false_ne_true (by omega)) ?_
    refine zl_nil ?_
    refine zk_seq ?_
    refine zc_false rfl ?_
    refine zc_skip ?_
    refine zk_seq ?_
    refine zc_seq ?_
    refine zc_region ?_
    iterate 2 (refine zl_pureL rfl ?_)
    refine zl_nil ?_
    refine zk_seq ?_
    refine zc_ret ?_
    exact zk_ret1 (.inr rfl) rfl rfl ⟨by rw [h2], rfl⟩
  · refine z_cmpB (r := true) want_none (by decide) rfl rfl rfl (iff_of_true rfl (by omega)) ?_
    refine zl_nil ?_
    refine zk_seq ?_
    refine zc_true rfl ?_
    refine zc_region ?_
    iterate 2 (refine zl_pureL rfl ?_)
    refine z_add want_none (by decide) rfl rfl (by omega) (by omega) ?_
    refine zl_pureL rfl ?_
    refine zl_nil ?_
    refine zk_seq ?_
    refine zc_seq ?_
    refine zc_region ?_
    iterate 2 (refine zl_pureL rfl ?_)
    refine zl_nil ?_
    refine zk_seq ?_
    refine zc_ret ?_
    exact zk_ret1 (.inr rfl) rfl rfl ⟨by rw [h2], rfl⟩
end Go.Proofs.Yteeibieaapiomaa.D
