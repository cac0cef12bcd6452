import Derived.Test.YtjiehalanklapaaDKnown
/- DomWrites: the walk. -/
namespace Go.Proofs.Ytjiehalanklapaa.D
open Go Go.Z Go.Proofs
set_option linter.unusedVariables false
def elN (nm : ByteArray) (up : Int) (K : List Nat) : ND := ⟨1, 1, nm, [], [], up, K⟩
def txN (s : List UInt8) (up : Int) : ND := ⟨2, 0, ⟨#[]⟩, [], s, up, []⟩
def wP : ByteArray := ⟨#[112]⟩
theorem w1_eq {a : List UInt8} (h : a ≠ []) : writeN (rootN ++ [elN wP (-1) []]) a 0 0 = [elN ⟨#[]⟩ (-1) [2], elN wP (-1) [], txN a 0] := by
  unfold writeN; rw [if_neg h, if_neg (fun hh => absurd hh.1 (by decide))]; rfl
theorem w2_eq {a b : List UInt8} (h : b ≠ []) : writeN [elN ⟨#[]⟩ (-1) [2], elN wP (-1) [], txN a 0] b 0 1 = [elN ⟨#[]⟩ (-1) [2], elN wP (-1) [], txN (a ++ b) 0] := by
  unfold writeN; rw [if_neg h, if_pos ⟨by decide, rfl⟩]; rfl
theorem w4_eq {t c : List UInt8} (h : c ≠ []) : writeN [elN ⟨#[]⟩ (-1) [2, 1], elN wP 0 [], txN t 0] c 0 2 = [elN ⟨#[]⟩ (-1) [2, 1, 3], elN wP 0 [], txN t 0, txN c 0] := by
  unfold writeN; rw [if_neg h, if_neg (fun hh => absurd hh.2 (by show ¬ (1 : Int) = 2; decide))]; rfl
theorem w5_eq {t c d : List UInt8} (h : c ≠ []) : writeN [elN ⟨#[]⟩ (-1) [2, 1, 3], elN wP 0 [], txN t 0, txN d 0] c 0 1 = [elN ⟨#[]⟩ (-1) [2, 1, 3], elN wP 0 [], txN (t ++ c) 0, txN d 0] := by
  unfold writeN; rw [if_neg h, if_pos ⟨by decide, rfl⟩]; rfl
theorem sz_bs {s : ByteArray} {l : List UInt8} (h : s = bs l) : s.size = l.length := by rw [h, bs_size]
theorem empty_bs {l : List UInt8} (h : bs l = ⟨#[]⟩) : l = [] := bs_inj.1 (h.trans (show (⟨#[]⟩ : ByteArray) = bs [] from rfl))
theorem empty_bs' {l : List UInt8} (h : ¬ bs l = ⟨#[]⟩) : l ≠ [] := fun hh => h (by rw [hh]; rfl)
theorem wT (t c : List UInt8) : TF [elN ⟨#[]⟩ (-1) [2, 1, 3], elN wP 0 [], txN t 0, txN c 0] [2, 1, 3] (.cons (hdOf (txN t 0)) .nil (.cons (hdOf (elN wP 0 [])) .nil (.cons (hdOf (txN c 0)) .nil .nil))) :=
  .cons 2 _ _ _ .nil (.cons 1 _ _ _ .nil (.cons 3 _ _ _ .nil .nil))
set_option maxHeartbeats 8000000 in
theorem DomWrites_walk (s0 s1 s2 : ByteArray) (w : World) (z0 : s0.size ≤ 140737488351232) (z1 : s1.size ≤ 140737488351232) (z2 : s2.size ≤ 140737488351232) :
    Calls Try.prog 3 #[.string s0, .string s1, .string s2] w fun e w' => e = .returned (.bool true) ∧ RowKit.Below w.heap.size w w' := by
  obtain ⟨a, rfl⟩ := bs_ex s0
  obtain ⟨b, rfl⟩ := bs_ex s1
  obtain ⟨c, rfl⟩ := bs_ex s2
  rw [bs_size] at z0 z1 z2
  show Calls Try.prog 3 [Value.string (bs a), .string (bs b), .string (bs c)].toArray w _
  refine calls_zc (n := 99) (f := 3) (fn := Try.f3) Try.func3 rfl rfl (by simp) ?_
  refine zc_seq ?_
  refine zc_region ?_
  refine zl_pureL rfl ?_
  refine zl_nil ?_
  refine zk_seq ?_
  iterate 2 (refine zc_seq ?_)
  refine zc_region ?_
  refine zl_call (by first | exact want_none | exact want_L rfl) rfl (by decide) rfl known_calls ?_
  rintro _ w1 ⟨rfl, hC1⟩
  refine ⟨_, rfl, ?_⟩
  refine zl_pureL rfl ?_
  refine zl_nil ?_
  refine zk_seq ?_
  refine zc_false rfl ?_
  refine zc_skip ?_
  refine zk_seq ?_
  iterate 2 (refine zc_seq ?_)
  refine zc_region ?_
  refine zl_pureL rfl ?_
  refine z_eqS (by first | exact want_none | exact want_L rfl) (by decide) rfl rfl (fun hc => ?_) (fun hc => ?_)
  · iterate 2 (refine zl_pureL rfl ?_)
    refine zl_skip rfl ?_
    iterate 3 (refine zl_pureL rfl ?_)
    refine zl_skip rfl ?_
    iterate 3 (refine zl_pureL rfl ?_)
    refine zl_skip rfl ?_
    refine zl_pureL rfl ?_
    iterate 2 (refine zl_skip rfl ?_)
    refine zl_pureL rfl ?_
    iterate 3 (refine zl_skip rfl ?_)
    refine zl_pureL rfl ?_
    refine zl_nil ?_
    refine zk_seq ?_
    refine zc_true rfl ?_
    refine zc_seq ?_
    refine zc_region ?_
    refine zl_pureL rfl ?_
    refine zl_nil ?_
    refine zk_seq ?_
    refine zc_ret ?_
    refine zk_ret_then ?_
    exact zk_ret1 (.inr rfl) rfl rfl ⟨rfl, hC1.below⟩
  have ha := empty_bs' (by assumption)
  iterate 2 (refine zl_pureL rfl ?_)
  refine z_eqS (by first | exact want_none | exact want_L rfl) (by decide) rfl rfl (fun hc => ?_) (fun hc => ?_)
  · iterate 3 (refine zl_pureL rfl ?_)
    refine zl_skip rfl ?_
    iterate 3 (refine zl_pureL rfl ?_)
    refine zl_skip rfl ?_
    refine zl_pureL rfl ?_
    iterate 2 (refine zl_skip rfl ?_)
    refine zl_pureL rfl ?_
    iterate 3 (refine zl_skip rfl ?_)
    refine zl_pureL rfl ?_
    refine zl_nil ?_
    refine zk_seq ?_
    refine zc_true rfl ?_
    refine zc_seq ?_
    refine zc_region ?_
    refine zl_pureL rfl ?_
    refine zl_nil ?_
    refine zk_seq ?_
    refine zc_ret ?_
    refine zk_ret_then ?_
    exact zk_ret1 (.inr rfl) rfl rfl ⟨rfl, hC1.below⟩
  have hb := empty_bs' (l := b) (by assumption)
  iterate 3 (refine zl_pureL rfl ?_)
  refine z_eqS (by first | exact want_none | exact want_L rfl) (by decide) rfl rfl (fun hc => ?_) (fun hc => ?_)
  · iterate 3 (refine zl_pureL rfl ?_)
    refine zl_skip rfl ?_
    refine zl_pureL rfl ?_
    iterate 2 (refine zl_skip rfl ?_)
    refine zl_pureL rfl ?_
    iterate 3 (refine zl_skip rfl ?_)
    refine zl_pureL rfl ?_
    refine zl_nil ?_
    refine zk_seq ?_
    refine zc_true rfl ?_
    refine zc_seq ?_
    refine zc_region ?_
    refine zl_pureL rfl ?_
    refine zl_nil ?_
    refine zk_seq ?_
    refine zc_ret ?_
    refine zk_ret_then ?_
    exact zk_ret1 (.inr rfl) rfl rfl ⟨rfl, hC1.below⟩
  have hc := empty_bs' (l := c) (by assumption)
  by_cases h300 : 300 < a.length + b.length + c.length
  · iterate 3 (refine zl_pureL rfl ?_)
    refine z_lenL (want_L rfl) (by decide) rfl ?_
    refine zl_pureL rfl ?_
    refine z_lenL (want_L rfl) (by decide) rfl ?_
    refine z_add (want_L rfl) (by decide) rfl rfl (by omega) (by omega) ?_
    refine zl_pureL rfl ?_
    refine z_lenL (want_L rfl) (by decide) rfl ?_
    refine z_add (want_L rfl) (by decide) rfl rfl (by omega) (by omega) ?_
    refine z_cmpB (r := true) (want_L rfl) (by decide) rfl rfl rfl (iff_of_true rfl (by omega)) ?_
    refine zl_pureL rfl ?_
    refine zl_nil ?_
    refine zk_seq ?_
    refine zc_true rfl ?_
    refine zc_seq ?_
    refine zc_region ?_
    refine zl_pureL rfl ?_
    refine zl_nil ?_
    refine zk_seq ?_
    refine zc_ret ?_
    refine zk_ret_then ?_
    exact zk_ret1 (.inr rfl) rfl rfl ⟨rfl, hC1.below⟩
  iterate 3 (refine zl_pureL rfl ?_)
  refine z_lenL (want_L rfl) (by decide) rfl ?_
  refine zl_pureL rfl ?_
  refine z_lenL (want_L rfl) (by decide) rfl ?_
  refine z_add (want_L rfl) (by decide) rfl rfl (by omega) (by omega) ?_
  refine zl_pureL rfl ?_
  refine z_lenL (want_L rfl) (by decide) rfl ?_
  refine z_add (want_L rfl) (by decide) rfl rfl (by omega) (by omega) ?_
  refine z_cmpB (r := false) (want_L rfl) (by decide) rfl rfl rfl (iff_of_false Bool.false_ne_true (by omega)) ?_
  refine zl_pureL rfl ?_
  refine zl_nil ?_
  refine zk_seq ?_
  refine zc_false rfl ?_
  refine zc_skip ?_
  refine zk_seq ?_
  refine zc_seq ?_
  refine zc_region ?_
  refine zl_call (by first | exact want_none | exact want_L rfl) rfl (by decide) rfl (DF.new hC1) ?_
  rintro _ w2 ⟨p, vl, Q, rfl, hD⟩
  refine ⟨_, rfl, ?_⟩
  refine zl_pureL rfl ?_
  refine zl_nil ?_
  refine zk_seq ?_
  iterate 2 (refine zc_seq ?_)
  refine zc_region ?_
  refine zl_pureL rfl ?_
  refine z_eqPN (by first | exact want_none | exact want_L rfl) (by decide) rfl rfl ?_
  refine zl_nil ?_
  refine zk_seq ?_
  refine zc_false rfl ?_
  refine zc_skip ?_
  refine zk_seq ?_
  refine zc_seq ?_
  refine zc_region ?_
  refine zl_pureL rfl ?_
  refine zl_call (by first | exact want_none | exact want_L rfl) rfl (by decide) rfl (hD.elem (by decide) 1 ⟨#[112]⟩ (AttrS.nil _) (by decide)) ?_
  rintro _ w3 ⟨rfl, vl3, Q3, hD3, _⟩
  refine ⟨_, rfl, ?_⟩
  rw [show ((rootN.length : Nat) : Int) = 1 from rfl]
  refine zl_pureL rfl ?_
  refine zl_nil ?_
  refine zk_seq ?_
  iterate 2 (refine zc_seq ?_)
  refine zc_region ?_
  iterate 2 (refine zl_pureL rfl ?_)
  refine zl_call (by first | exact want_none | exact want_L rfl) rfl (by decide) rfl (hD3.write (by decide) (BigT.of (by simp [rootN])) a (by omega) rfl 0 (-1) _ ⟨⟨by decide, by decide⟩, rfl, rfl⟩ (w1_eq ha)) ?_
  rintro _ w4 ⟨rfl, vl4, Q4, hD4, _⟩
  refine ⟨_, rfl, ?_⟩
  iterate 4 (refine zl_pureL rfl ?_)
  refine zl_call (by first | exact want_none | exact want_L rfl) rfl (by decide) rfl (hD4.write (by simp) (BigT.of (by simp [elN, txN]; omega)) b (by omega) rfl 0 (-1) _ ⟨⟨by decide, by simp⟩, rfl, rfl⟩ (w2_eq hb)) ?_
  rintro _ w5 ⟨rfl, vl5, Q5, hD5, _⟩
  refine ⟨_, rfl, ?_⟩
  iterate 5 (refine zl_pureL rfl ?_)
  have hna : ¬ Anc [elN ⟨#[]⟩ (-1) [2], elN wP (-1) [], txN (a ++ b) 0] 0 1 := fun hh => absurd (Anc.fresh hD5.wf (by simp) rfl hh) (by decide)
  refine zl_call (by first | exact want_none | exact want_L rfl) rfl (by decide) rfl (hD5.put (by simp) 1 0 (-1) [elN ⟨#[]⟩ (-1) [2, 1], elN wP 0 [], txN (a ++ b) 0] ⟨⟨by decide, by simp⟩, ⟨by decide, by simp⟩, rfl, by decide, by show (-1 : Int) < 0; decide, hna, rfl⟩ rfl) ?_
  rintro _ w6 ⟨rfl, vl6, Q6, hD6, _⟩
  refine ⟨_, rfl, ?_⟩
  iterate 5 (refine zl_pureL rfl ?_)
  refine zl_call (by first | exact want_none | exact want_L rfl) rfl (by decide) rfl (hD6.write (by simp) (BigT.of (by simp [elN, txN]; omega)) c (by omega) rfl 0 (-1) _ ⟨⟨by decide, by simp⟩, rfl, rfl⟩ (w4_eq hc)) ?_
  rintro _ w7 ⟨rfl, vl7, Q7, hD7, _⟩
  refine ⟨_, rfl, ?_⟩
  iterate 6 (refine zl_pureL rfl ?_)
  refine zl_call (by first | exact want_none | exact want_L rfl) rfl (by decide) rfl (hD7.write (by simp) (BigT.of (by simp [elN, txN]; omega)) c (by omega) rfl 0 1 _ ⟨⟨by decide, by simp⟩, rfl, rfl⟩ (w5_eq hc)) ?_
  rintro _ w8 ⟨rfl, vl8, Q8, hD8, _⟩
  refine ⟨_, rfl, ?_⟩
  have hB8 : BigT [elN ⟨#[]⟩ (-1) [2, 1, 3], elN wP 0 [], txN (a ++ b ++ c) 0, txN c 0] := BigT.of (by simp [elN, txN]; omega)
  iterate 5 (refine zl_pureL rfl ?_)
  refine zl_call (by first | exact want_none | exact want_L rfl) rfl (by decide) rfl (hD8.write (by simp) hB8 [] (by simp) rfl 0 1 [elN ⟨#[]⟩ (-1) [2, 1, 3], elN wP 0 [], txN (a ++ b ++ c) 0, txN c 0] ⟨⟨by decide, by simp⟩, rfl, rfl⟩ rfl) ?_
  rintro _ w9 ⟨rfl, vl9, Q9, hD9, _⟩
  refine ⟨_, rfl, ?_⟩
  iterate 2 (refine zl_pureL rfl ?_)
  refine zl_nil ?_
  refine zk_seq ?_
  refine zc_false rfl ?_
  refine zc_skip ?_
  refine zk_seq ?_
  refine zc_seq ?_
  refine zc_region ?_
  refine zl_pureL rfl ?_
  refine zl_call (by first | exact want_none | exact want_L rfl) rfl (by decide) rfl (hD9.tree (by simp) hB8 0 (by simp) _ (wT _ _) rfl) ?_
  rintro _ w10 ⟨v10, rfl, hT10, hD10, _⟩
  refine ⟨_, rfl, ?_⟩
  refine zl_call (by first | exact want_none | exact want_L rfl) rfl (by decide) rfl (texts_calls 100 hT10.at' (by simp [FewT, hdOf, txN, elN]) (by simp [NT.size]) (by decide)) ?_
  rintro _ w11 ⟨v11, rfl, hS11, hC11⟩
  refine ⟨_, rfl, ?_⟩
  have hD11 := hD10.no hC11
  have hab : (a ++ b).length = a.length + b.length := List.length_append
  iterate 2 (refine zl_pureL rfl ?_)
  refine z_catL want_none (by decide) rfl rfl (by omega) ?_
  refine zl_pureL rfl ?_
  refine z_catL want_none (by decide) rfl rfl (by omega) ?_
  refine zl_pureL rfl ?_
  refine z_bsE [.string (bs (a ++ b ++ c)), .string (bs c)] (by first | exact want_none | exact want_L rfl) (by decide) rfl (by decide) (by decide) (by kernel_rfl) (fun w12 b12 hN12 => ?_)
  have hD12 := hD11.no hN12.chg
  have hS12 : Strs w12 w11.heap.size (.slice (some ⟨b12, 0, none⟩) 2 2) [bs (a ++ b ++ c), bs c] := ⟨Own.mk' (junk := []) (by rfl) (by decide) (by decide) hN12.blk (by rfl) (by simp [strC, Value.oneCell']), fun k hk => by simp [Value.ownBlock] at hk; have := hN12.at_; omega⟩
  refine zl_call (by first | exact want_none | exact want_L rfl) rfl (by decide) rfl (strsSame_calls (hS11.no hN12.chg) hS12 (by simp [txts, hdOf, txN, elN]) (by simp)) ?_
  rintro _ w13 ⟨rfl, hC13⟩
  refine ⟨_, rfl, ?_⟩
  have hD13 := hD12.no hC13
  rw [decide_eq_true (show txts _ = [bs (a ++ b ++ c), bs c] from rfl)]
  iterate 2 (refine zl_pureL rfl ?_)
  refine zl_call (by first | exact want_none | exact want_L rfl) rfl (by decide) rfl (size_calls hD13.is) ?_
  rintro _ w14 ⟨rfl, hu⟩
  obtain rfl := hu.symm
  refine ⟨_, rfl, ?_⟩
  rw [show [elN ⟨#[]⟩ (-1) [2, 1, 3], elN wP 0 [], txN (a ++ b ++ c) 0, txN c 0].length = 4 from rfl]
  refine z_cmpB (r := true) (want_L rfl) (by decide) rfl rfl rfl (iff_of_true rfl (by omega)) ?_
  iterate 4 (refine zl_pureL rfl ?_)
  refine zl_call (by first | exact want_none | exact want_L rfl) rfl (by decide) rfl (hD13.writeNo (by simp) hB8 a (by omega) rfl 0 0 (fun hh => absurd hh.2.2 (by show ¬ (placeN [2, 1, 3] 0).isSome = true; decide))) ?_
  rintro _ w15 ⟨rfl, vl15, Q15, hD15, _⟩
  refine ⟨_, rfl, ?_⟩
  iterate 4 (refine zl_pureL rfl ?_)
  refine zl_call (by first | exact want_none | exact want_L rfl) rfl (by decide) rfl (hD15.writeNo (by simp) hB8 [] (by simp) rfl 9 (-1) (fun hh => absurd hh.1.2 (by simp))) ?_
  rintro _ w16 ⟨rfl, vl16, Q16, hD16, _⟩
  refine ⟨_, rfl, ?_⟩
  iterate 3 (refine zl_pureL rfl ?_)
  refine zl_nil ?_
  refine zk_seq ?_
  refine zc_ret ?_
  exact zk_ret1 (.inr rfl) rfl rfl ⟨rfl, hD16.chg.below⟩
end Go.Proofs.Ytjiehalanklapaa.D
