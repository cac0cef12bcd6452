import Derived.Test.YtjiehalanklapaaDDoc8
/- What the laws share: a Doc made since; known; within. -/
namespace Go.Proofs.Ytjiehalanklapaa.D
open Go Go.Z Go.Proofs
set_option linter.unusedVariables false
/-- a Doc that was made since w0 -/
structure DF (w0 w : World) (p : Nat) (vl : Value) (Q : List PN) (N : List ND) : Prop where
  is : IsD w p vl Q N
  ge : ∀ k, foot p vl Q k → w0.heap.size ≤ k
  chg : Chg w0 w No
  wf : WF N
section
variable {w0 w w' : World} {p : Nat} {vl vl' : Value} {Q Q' : List PN} {N N' : List ND}
theorem DF.no (h : DF w0 w p vl Q N) (hc : Chg w w' No) : DF w0 w' p vl Q N := ⟨h.is.no hc, h.ge, h.chg.no hc, h.wf⟩
theorem DF.wr (h : DF w0 w p vl Q N) (hi : IsD w' p vl' Q' N') (hw : WrD w w' p vl Q vl' Q') (hf : WF N') : DF w0 w' p vl' Q' N' :=
  ⟨hi, fun k hk => (hw.ft k hk).elim (h.ge k) (fun h1 => Nat.le_trans h.chg.size h1), h.chg.trans hw.chg (fun i hi hk => by have := h.ge i hk; omega), hf⟩
theorem DF.chgW (h : DF w0 w p vl Q N) (hw : WrD w w' p vl Q vl' Q') : Chg w0 w' No := h.chg.trans hw.chg (fun i hi hk => by have := h.ge i hk; omega)
/-- what is no part of the Doc stays -/
theorem DF.blk (h : DF w0 w p vl Q N) (hw : WrD w w' p vl Q vl' Q') {b t : Nat} {cs : List Value} (hb : Blk w b t cs) (h1 : t ≠ 69) (h2 : t ≠ 71) (h3 : t ≠ 75) (h4 : t ≠ 5) (h5 : t ≠ 3) : Blk w' b t cs := by
  refine hb.chg hw.chg ?_
  rintro (he | he | ⟨i, hi, he⟩)
  · exact hb.ne h.is.blk h1 he
  · exact h.is.row.ne he hb (Ne.symm h2) rfl
  · exact (h.is.at_ i (by rw [← h.is.len]; exact hi)).ne he hb h3 h4 h5 rfl
theorem AttrS.wr {va : Value} {l : List At} (ha : AttrS w va l) (hw : WrD w w' p vl Q vl' Q') : AttrS w' va l := by
  obtain ⟨h1, h2, A, c, h3, h4, h5⟩ := ha
  refine ⟨h1, h2, A, c, h3, h4, fun hm => ?_⟩
  obtain ⟨b, o, cells, h6, h7, h8⟩ := h5 hm
  exact ⟨b, o, cells, h6, hw.k45 b cells h7, h8⟩
end
theorem BigT.of {N : List ND} (h : ∀ x ∈ N, x.text.length ≤ 1000000000 ∧ x.attrs.length ≤ 100000) : BigT N := fun i => by
  rcases Nat.lt_or_ge i N.length with hi | hi
  · exact h _ (getD_mem hi)
  · rw [List.getD_eq_getElem?_getD, List.getElem?_eq_none hi]; exact ⟨Nat.zero_le _, Nat.zero_le _⟩
theorem BigT.text {N : List ND} (h : BigT N) : ∀ i, (N.getD i n0).text.length ≤ 1000000000 := fun i => (h i).1
def kn1 : List ND := [⟨1, 1, ⟨#[]⟩, [], [], -1, [1]⟩, ⟨2, 0, ⟨#[]⟩, [], [97], 0, []⟩]
def kn2 : List ND := [⟨1, 1, ⟨#[]⟩, [], [], -1, [1]⟩, ⟨2, 0, ⟨#[]⟩, [], [97, 98], 0, []⟩]
theorem kn1_eq : writeN rootN [97] 0 0 = kn1 := by rfl
theorem kn2_eq : writeN kn1 [98] 0 1 = kn2 := by rfl
theorem known_calls {w : World} : Calls Try.prog 12 [].toArray w fun e w' => e = .returned (.bool true) ∧ Chg w w' No := by
  refine calls_zc (n := 40) (f := 12) (fn := Try.f12) Try.func12 rfl rfl (by simp) ?_
  refine zc_seq ?_
  refine zc_region ?_
  refine zl_pureL rfl ?_
  refine zl_nil ?_
  refine zk_seq ?_
  refine zc_seq ?_
  refine zc_region ?_
  refine zl_call (by first | exact want_none | exact want_L rfl) rfl (by decide) rfl new_calls ?_
  rintro _ w1 ⟨p, vl, Q, rfl, hI, hC1, hge⟩
  refine ⟨_, rfl, ?_⟩
  have hD : DF w w1 p vl Q rootN := ⟨hI, hge, hC1, rootN_WF⟩
  refine zl_pureL rfl ?_
  refine zl_nil ?_
  refine zk_seq ?_
  iterate 2 (refine zc_seq ?_)
  refine zc_region ?_
  refine zl_pureL rfl ?_
  refine z_eqPN (by first | exact want_none | exact want_L rfl) (by decide) rfl rfl ?_
  refine zl_nil ?_
  refine zk_seq ?_
  refine zc_false rfl ?_
  refine zc_skip ?_
  refine zk_seq ?_
  refine zc_seq ?_
  refine zc_region ?_
  refine zl_pureL rfl ?_
  refine zl_call (by first | exact want_none | exact want_L rfl) rfl (by decide) rfl (write_calls hI rootN_WF (by decide) [97] (by decide) (BigT.of (by simp [rootN])).text 0 (-1)) ?_
  rintro _ w2 ⟨q2, vl2, Q2, N2, rfl, hI2, hW2, hR2⟩
  have hok2 : WriteOk rootN 0 (-1) := ⟨⟨by decide, by decide⟩, rfl, rfl⟩
  obtain ⟨rfl, rfl⟩ := hR2.1 hok2
  have hD2 := hD.wr hI2 hW2 (hR2.wf rootN_WF).1
  rw [show writeN rootN [97] (0 : Int).toNat ((placeN (ndOf rootN 0).kids (-1)).getD 0) = kn1 from kn1_eq] at hI2 hD2
  refine ⟨_, rfl, ?_⟩
  refine zl_pureL rfl ?_
  refine zl_call (by first | exact want_none | exact want_L rfl) rfl (by decide) rfl (write_calls hI2 hD2.wf (by decide) [98] (by decide) (BigT.of (by simp [kn1])).text 0 (-1)) ?_
  rintro _ w3 ⟨q3, vl3, Q3, N3, rfl, hI3, hW3, hR3⟩
  have hok3 : WriteOk kn1 0 (-1) := ⟨⟨by decide, by decide⟩, rfl, rfl⟩
  obtain ⟨rfl, rfl⟩ := hR3.1 hok3
  have hD3 := hD2.wr hI3 hW3 (hR3.wf hD2.wf).1
  rw [show writeN kn1 [98] (0 : Int).toNat ((placeN (ndOf kn1 0).kids (-1)).getD 0) = kn2 from kn2_eq] at hI3 hD3
  refine ⟨_, rfl, ?_⟩
  iterate 2 (refine zl_pureL rfl ?_)
  refine zl_nil ?_
  refine zk_seq ?_
  refine zc_seq ?_
  refine zc_region ?_
  refine zl_pureL rfl ?_
  have htf : TF kn2 (kn2.getD 0 n0).kids (.cons (hdOf (kn2.getD 1 n0)) .nil .nil) := .cons 1 [] .nil .nil .nil .nil
  refine zl_call (by first | exact want_none | exact want_L rfl) rfl (by decide) rfl (tree_calls hD3.wf (by decide) (BigT.of (by simp [kn2])) 1 hI3 0 (by decide) _ htf (by decide)) ?_
  rintro _ w4 ⟨v4, rfl, hT4, hC4⟩
  refine ⟨_, rfl, ?_⟩
  have hD4 := hD3.no hC4
  obtain ⟨b, o, c, x, k, r, A, K, e1, hv, hN, hA, hK⟩ := hT4.at'.at_ 0 (by decide)
  cases e1
  have hl1 : (NT.cons (hdOf (kn2.getD 1 n0)) .nil .nil).len = 1 := rfl
  rw [hl1] at hv
  subst hv
  refine zl_pureL rfl ?_
  refine zl_nil ?_
  refine zk_seq ?_
  refine zc_seq ?_
  refine zc_region ?_
  iterate 6 (refine zl_pureL rfl ?_)
  refine z_len (want_L rfl) (by decide) rfl ?_
  refine z_cmpB (r := true) (want_L rfl) (by decide) rfl rfl rfl (iff_of_true rfl (by omega)) ?_
  iterate 3 (refine zl_pureL rfl ?_)
  refine z_ia (want_L rfl) (by decide) rfl rfl (by omega) (by omega) ?_
  refine z_fa (want_L rfl) (by decide) rfl ?_
  refine z_load1 (by first | exact want_none | exact want_L rfl) (by decide) rfl (cell_at hN.c4 (by omega)) ?_
  refine z_eqLB (l := [97, 98]) (r := [97, 98]) (q := true) (by first | exact want_none | exact want_L rfl) (by decide) rfl rfl (iff_of_true rfl rfl) ?_
  iterate 3 (refine zl_pureL rfl ?_)
  refine zl_call (by first | exact want_none | exact want_L rfl) rfl (by decide) rfl (put_calls hD4.is hD4.wf (by decide) 0 0 (-1)) ?_
  rintro _ w5 ⟨q5, Q5, N5, rfl, hI5, hW5, hR5⟩
  obtain ⟨rfl, rfl⟩ := hR5.2 (fun hh => hh.2.2.2.1 rfl)
  have hD5 := hD4.wr hI5 hW5 hD4.wf
  refine ⟨_, rfl, ?_⟩
  iterate 4 (refine zl_pureL rfl ?_)
  refine zl_call (by first | exact want_none | exact want_L rfl) rfl (by decide) rfl (size_calls hI5) ?_
  rintro _ w6 ⟨rfl, hu⟩
  obtain rfl := hu.symm
  refine ⟨_, rfl, ?_⟩
  rw [show kn2.length = 2 from rfl]
  refine z_cmpB (r := true) (want_L rfl) (by decide) rfl rfl rfl (iff_of_true rfl (by omega)) ?_
  iterate 2 (refine zl_pureL rfl ?_)
  refine zl_nil ?_
  refine zk_seq ?_
  refine zc_ret ?_
  exact zk_ret1 (.inr rfl) rfl rfl ⟨rfl, hD5.chg⟩
/-! the calls, of a Doc made since -/
section
variable {w0 w : World} {p : Nat} {vl : Value} {Q : List PN} {N : List ND}
theorem DF.write (h : DF w0 w p vl Q N) (hl : N.length ≤ 100000) (hB : BigT N) (s : List UInt8) (hs : s.length ≤ 100000) {sb : ByteArray} (hsb : sb = bs s) (up ahead : Int) (N' : List ND) (hok : WriteOk N up ahead) (hN : writeN N s up.toNat ((placeN (ndOf N up).kids ahead).getD 0) = N') :
    Calls Try.prog 15 [.pointer (some ⟨p, 0, none⟩), .string sb, .int .i64 up, .int .i64 ahead].toArray w fun e w' => e = .returned (.bool true) ∧ ∃ vl' Q', DF w0 w' p vl' Q' N' ∧ WrD w w' p vl Q vl' Q' := by
  subst hsb
  refine (write_calls h.is h.wf hl s hs hB.text up ahead).mono ?_
  rintro e w' ⟨q, vl', Q', N2, rfl, hI, hW, hR⟩
  obtain ⟨rfl, rfl⟩ := hR.1 hok
  have hf := (hR.wf h.wf).1
  rw [hN] at hI hf
  exact ⟨rfl, vl', Q', h.wr hI hW hf, hW⟩
theorem DF.writeNo (h : DF w0 w p vl Q N) (hl : N.length ≤ 100000) (hB : BigT N) (s : List UInt8) (hs : s.length ≤ 100000) {sb : ByteArray} (hsb : sb = bs s) (up ahead : Int) (hok : ¬ WriteOk N up ahead) :
    Calls Try.prog 15 [.pointer (some ⟨p, 0, none⟩), .string sb, .int .i64 up, .int .i64 ahead].toArray w fun e w' => e = .returned (.bool false) ∧ ∃ vl' Q', DF w0 w' p vl' Q' N ∧ WrD w w' p vl Q vl' Q' := by
  subst hsb
  refine (write_calls h.is h.wf hl s hs hB.text up ahead).mono ?_
  rintro e w' ⟨q, vl', Q', N2, rfl, hI, hW, hR⟩
  obtain ⟨rfl, rfl⟩ := hR.2 hok
  exact ⟨rfl, vl', Q', h.wr hI hW h.wf, hW⟩
theorem DF.put (h : DF w0 w p vl Q N) (hl : N.length ≤ 100000) (n up ahead : Int) (N' : List ND) (hok : PutOk N n up ahead) (hN : layN N n.toNat up.toNat ((placeN (ndOf N up).kids ahead).getD 0) = N') :
    Calls Try.prog 16 [.pointer (some ⟨p, 0, none⟩), .int .i64 n, .int .i64 up, .int .i64 ahead].toArray w fun e w' => e = .returned (.bool true) ∧ ∃ vl' Q', DF w0 w' p vl' Q' N' ∧ WrD w w' p vl Q vl' Q' := by
  refine (put_calls h.is h.wf hl n up ahead).mono ?_
  rintro e w' ⟨q, Q', N2, rfl, hI, hW, hR⟩
  obtain ⟨rfl, rfl⟩ := hR.1 hok
  have hf := (hR.wf h.wf).1
  rw [hN] at hI hf
  exact ⟨rfl, vl, Q', h.wr hI hW hf, hW⟩
theorem DF.putNo (h : DF w0 w p vl Q N) (hl : N.length ≤ 100000) (n up ahead : Int) (hok : ¬ PutOk N n up ahead) :
    Calls Try.prog 16 [.pointer (some ⟨p, 0, none⟩), .int .i64 n, .int .i64 up, .int .i64 ahead].toArray w fun e w' => e = .returned (.bool false) ∧ ∃ vl' Q', DF w0 w' p vl' Q' N ∧ WrD w w' p vl Q vl' Q' := by
  refine (put_calls h.is h.wf hl n up ahead).mono ?_
  rintro e w' ⟨q, Q', N2, rfl, hI, hW, hR⟩
  obtain ⟨rfl, rfl⟩ := hR.2 hok
  exact ⟨rfl, vl, Q', h.wr hI hW h.wf, hW⟩
theorem DF.take (h : DF w0 w p vl Q N) (hl : N.length ≤ 100000) (n : Int) (N' : List ND) (hok : TakeOk N n) (hN : takeN N n.toNat = N') :
    Calls Try.prog 26 [.pointer (some ⟨p, 0, none⟩), .int .i64 n].toArray w fun e w' => e = .returned (.bool true) ∧ ∃ vl' Q', DF w0 w' p vl' Q' N' ∧ WrD w w' p vl Q vl' Q' := by
  refine (take_calls h.is h.wf hl n).mono ?_
  rintro e w' ⟨q, Q', N2, rfl, hI, hW, hR⟩
  obtain ⟨rfl, rfl⟩ := hR.1 hok
  have hf := (hR.wf h.wf).1
  rw [hN] at hI hf
  exact ⟨rfl, vl, Q', h.wr hI hW hf, hW⟩
theorem DF.takeNo (h : DF w0 w p vl Q N) (hl : N.length ≤ 100000) (n : Int) (hok : ¬ TakeOk N n) :
    Calls Try.prog 26 [.pointer (some ⟨p, 0, none⟩), .int .i64 n].toArray w fun e w' => e = .returned (.bool false) ∧ ∃ vl' Q', DF w0 w' p vl' Q' N ∧ WrD w w' p vl Q vl' Q' := by
  refine (take_calls h.is h.wf hl n).mono ?_
  rintro e w' ⟨q, Q', N2, rfl, hI, hW, hR⟩
  obtain ⟨rfl, rfl⟩ := hR.2 hok
  exact ⟨rfl, vl, Q', h.wr hI hW h.wf, hW⟩
theorem DF.move (h : DF w0 w p vl Q N) (hl : N.length ≤ 100000) (a b : Int) (N' : List ND) (hok : MoveOk N a b) (hN : moveN N a.toNat b.toNat = N') :
    Calls Try.prog 23 [.pointer (some ⟨p, 0, none⟩), .int .i64 a, .int .i64 b].toArray w fun e w' => e = .returned (.bool true) ∧ ∃ vl' Q', DF w0 w' p vl' Q' N' ∧ WrD w w' p vl Q vl' Q' := by
  refine (move_calls h.is h.wf hl a b).mono ?_
  rintro e w' ⟨q, Q', N2, rfl, hI, hW, hR⟩
  obtain ⟨rfl, rfl⟩ := hR.1 hok
  have hf := (hR.wf h.wf).1
  rw [hN] at hI hf
  exact ⟨rfl, vl, Q', h.wr hI hW hf, hW⟩
theorem DF.moveNo (h : DF w0 w p vl Q N) (hl : N.length ≤ 100000) (a b : Int) (hok : ¬ MoveOk N a b) :
    Calls Try.prog 23 [.pointer (some ⟨p, 0, none⟩), .int .i64 a, .int .i64 b].toArray w fun e w' => e = .returned (.bool false) ∧ ∃ vl' Q', DF w0 w' p vl' Q' N ∧ WrD w w' p vl Q vl' Q' := by
  refine (move_calls h.is h.wf hl a b).mono ?_
  rintro e w' ⟨q, Q', N2, rfl, hI, hW, hR⟩
  obtain ⟨rfl, rfl⟩ := hR.2 hok
  exact ⟨rfl, vl, Q', h.wr hI hW h.wf, hW⟩
theorem DF.elem (h : DF w0 w p vl Q N) (hl : N.length ≤ 100000) (sp : Int) (nm : ByteArray) {va : Value} {l : List At} (ha : AttrS w va l) (hal : l.length ≤ 100000) :
    Calls Try.prog 14 [.pointer (some ⟨p, 0, none⟩), .int .i64 sp, .string nm, va].toArray w fun e w' => e = .returned (.int .i64 N.length) ∧ ∃ vl' Q', DF w0 w' p vl' Q' (N ++ [⟨1, sp, nm, l, [], -1, []⟩]) ∧ WrD w w' p vl Q vl' Q' := by
  refine (elem'_calls h.is hl sp nm ha hal).mono ?_
  rintro e w' ⟨rfl, vl', Q', hI, hW⟩
  exact ⟨rfl, vl', Q', h.wr hI hW (h.wf.add rfl rfl), hW⟩
theorem DF.note (h : DF w0 w p vl Q N) (hl : N.length ≤ 100000) (s : List UInt8) (hs : s.length ≤ 100000) {sb : ByteArray} (hsb : sb = bs s) :
    Calls Try.prog 22 [.pointer (some ⟨p, 0, none⟩), .string sb].toArray w fun e w' => e = .returned (.int .i64 N.length) ∧ ∃ vl' Q', DF w0 w' p vl' Q' (N ++ [⟨3, 0, ⟨#[]⟩, [], s, -1, []⟩]) ∧ WrD w w' p vl Q vl' Q' := by
  subst hsb
  refine (note_calls h.is hl s hs).mono ?_
  rintro e w' ⟨rfl, vl', Q', hI, hW⟩
  exact ⟨rfl, vl', Q', h.wr hI hW (h.wf.add rfl rfl), hW⟩
theorem DF.new {w0 w : World} (hc : Chg w0 w No) : Calls Try.prog 13 [].toArray w fun e w' => ∃ p vl Q, e = .returned (.pointer (some ⟨p, 0, none⟩)) ∧ DF w0 w' p vl Q rootN := by
  refine new_calls.mono ?_
  rintro e w' ⟨p, vl, Q, rfl, hI, hC, hge⟩
  exact ⟨p, vl, Q, rfl, hI, fun k hk => Nat.le_trans hc.size (hge k hk), hc.no hC, rootN_WF⟩
theorem DF.tree (h : DF w0 w p vl Q N) (hl : N.length ≤ 100000) (hB : BigT N) (n : Nat) (hn : n < N.length) (t : NT) (ht : TF N (N.getD n n0).kids t) {ni : Int} (hni : ni = (n : Int)) :
    Calls Try.prog 19 [.pointer (some ⟨p, 0, none⟩), .int .i64 ni].toArray w fun e w' => ∃ vo, e = .returned vo ∧ TreeOk w' (fun b => w.heap.size ≤ b) (fun b => w.heap.size ≤ b) vo t ∧ DF w0 w' p vl Q N ∧ Chg w w' No := by
  subst hni
  refine (tree_calls h.wf hl hB _ h.is n hn t ht (Nat.le_refl _)).mono ?_
  rintro e w' ⟨vo, rfl, hT, hC⟩
  exact ⟨vo, rfl, hT, h.no hC, hC⟩
end
theorem tmod_emod (a : Int) (n : Nat) (hn : 0 < n) : (0 ≤ a.tmod n ∧ a.tmod n = a % n ∧ a.tmod n < n) ∨ (a.tmod n < 0 ∧ a.tmod n + n = a % n ∧ -(n : Int) < a.tmod n) := by
  have h1 := Int.emod_nonneg a (show (n : Int) ≠ 0 by omega)
  have h2 := Int.emod_lt_of_pos a (show (0 : Int) < n by omega)
  have h3 := Int.tmod_lt_of_pos a (show (0 : Int) < n by omega)
  have h4 : -(n : Int) < a.tmod n := by
    have := Int.tmod_lt_of_pos (-a) (show (0 : Int) < n by omega)
    rw [Int.neg_tmod] at this; omega
  have h5 : ((n : Int)) ∣ (a % n - a.tmod n) := by
    have e1 := Int.emod_add_mul_ediv a n
    have e2 := Int.tmod_add_mul_tdiv a n
    refine ⟨a.tdiv n - a / n, ?_⟩
    rw [Int.mul_sub]; omega
  obtain ⟨q, hq⟩ := h5
  have hq0 : -1 < q := by
    apply Int.lt_of_not_ge; intro hge
    have : (n : Int) * q ≤ (n : Int) * (-1) := Int.mul_le_mul_of_nonneg_left hge (by omega)
    omega
  have hq1 : q < 2 := by
    apply Int.lt_of_not_ge; intro hge
    have : (n : Int) * 2 ≤ (n : Int) * q := Int.mul_le_mul_of_nonneg_left hge (by omega)
    omega
  have : q = 0 ∨ q = 1 := by omega
  rcases this with rfl | rfl
  · left; omega
  · right; omega
theorem within_calls {w : World} {a : Int} {n : Nat} (hn : 0 < n) (hn2 : n ≤ 1000000000) :
    Calls Try.prog 21 [.int .i64 a, .int .i64 n].toArray w fun e w' => e = .returned (.int .i64 (a % n)) ∧ w' = w := by
  have hm := tmod_emod a n hn
  refine calls_zc (n := 15) (f := 21) (fn := Try.f21) Try.func21 rfl rfl (by simp) ?_
  refine zc_seq ?_
  refine zc_region ?_
  refine zl_pureL rfl ?_
  refine zl_nil ?_
  refine zk_seq ?_
  refine zc_seq ?_
  refine zc_region ?_
  iterate 2 (refine zl_pureL rfl ?_)
  refine z_rem (by first | exact want_none | exact want_L rfl) (by decide) rfl rfl (by omega) ?_
  refine zl_pureL rfl ?_
  refine zl_nil ?_
  refine zk_seq ?_
  iterate 2 (refine zc_seq ?_)
  refine zc_region ?_
  refine zl_pureL rfl ?_
  rcases hm with ⟨h1, h2, h3⟩ | ⟨h1, h2, h3⟩
  · refine z_cmpB (r := false) want_none (by decide) rfl rfl rfl (iff_of_false Bool.false_ne_true (by omega)) ?_
    refine zl_nil ?_
    refine zk_seq ?_
    refine zc_false rfl ?_
    refine zc_skip ?_
    refine zk_seq ?_
    refine zc_seq ?_
    refine zc_region ?_
    iterate 2 (refine zl_pureL rfl ?_)
    refine zl_nil ?_
    refine zk_seq ?_
    refine zc_ret ?_
    exact zk_ret1 (.inr rfl) rfl rfl ⟨by rw [h2], rfl⟩
  · refine z_cmpB (r := true) want_none (by decide) rfl rfl rfl (iff_of_true rfl (by omega)) ?_
    refine zl_nil ?_
    refine zk_seq ?_
    refine zc_true rfl ?_
    refine zc_region ?_
    iterate 2 (refine zl_pureL rfl ?_)
    refine z_add want_none (by decide) rfl rfl (by omega) (by omega) ?_
    refine zl_pureL rfl ?_
    refine zl_nil ?_
    refine zk_seq ?_
    refine zc_seq ?_
    refine zc_region ?_
    iterate 2 (refine zl_pureL rfl ?_)
    refine zl_nil ?_
    refine zk_seq ?_
    refine zc_ret ?_
    exact zk_ret1 (.inr rfl) rfl rfl ⟨by rw [h2], rfl⟩
theorem within1_calls {w : World} {a : Int} {n : Nat} (hn : 0 < n) (hn2 : n ≤ 1000000000) :
    Calls Try.prog 80 [.int .i64 a, .int .i64 n].toArray w fun e w' => e = .returned (.int .i64 (a % n)) ∧ w' = w := by
  have hm := tmod_emod a n hn
  refine calls_zc (n := 15) (f := 80) (fn := Try.f80) Try.func80 rfl rfl (by simp) ?_
  refine zc_seq ?_
  refine zc_region ?_
  refine zl_pureL rfl ?_
  refine zl_nil ?_
  refine zk_seq ?_
  refine zc_seq ?_
  refine zc_region ?_
  iterate 2 (refine zl_pureL rfl ?_)
  refine z_rem (by first | exact want_none | exact want_L rfl) (by decide) rfl rfl (by omega) ?_
  refine zl_pureL rfl ?_
  refine zl_nil ?_
  refine zk_seq ?_
  iterate 2 (refine zc_seq ?_)
  refine zc_region ?_
  refine zl_pureL rfl ?_
  rcases hm with ⟨h1, h2, h3⟩ | ⟨h1, h2, h3⟩
  · refine z_cmpB (r := false) want_none (by decide) rfl rfl rfl (iff_of_false Bool.false_ne_true (by omega)) ?_
    refine zl_nil ?_
    refine zk_seq ?_
    refine zc_false rfl ?_
    refine zc_skip ?_
    refine zk_seq ?_
    refine zc_seq ?_
    refine zc_region ?_
    iterate 2 (refine zl_pureL rfl ?_)
    refine zl_nil ?_
    refine zk_seq ?_
    refine zc_ret ?_
    exact zk_ret1 (.inr rfl) rfl rfl ⟨by rw [h2], rfl⟩
  · refine z_cmpB (r := true) want_none (by decide) rfl rfl rfl (iff_of_true rfl (by omega)) ?_
    refine zl_nil ?_
    refine zk_seq ?_
    refine zc_true rfl ?_
    refine zc_region ?_
    iterate 2 (refine zl_pureL rfl ?_)
    refine z_add want_none (by decide) rfl rfl (by omega) (by omega) ?_
    refine zl_pureL rfl ?_
    refine zl_nil ?_
    refine zk_seq ?_
    refine zc_seq ?_
    refine zc_region ?_
    iterate 2 (refine zl_pureL rfl ?_)
    refine zl_nil ?_
    refine zk_seq ?_
    refine zc_ret ?_
    exact zk_ret1 (.inr rfl) rfl rfl ⟨by rw [h2], rfl⟩
end Go.Proofs.Ytjiehalanklapaa.D
