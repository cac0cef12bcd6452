import Derived.Test.YtbcmiijollpgeaaQ16
import Derived.Test.YtbcmiijollpgeaaPMade
/- PrintSafe: the walk. -/
namespace Go.Proofs.Ytbcmiijollpgeaa.T
open Go Go.Z Go.Proofs
set_option linter.unusedVariables false
def blkW : List UInt8 := [98, 108, 111, 99, 107, 113, 117, 111, 116, 101, 32, 104, 50, 32, 104, 51, 32, 104, 52, 32, 104, 53, 32, 104, 54, 32, 104, 114, 32, 111, 108, 32, 112, 32, 112, 114, 101, 32, 116, 97, 98, 108, 101, 32, 117, 108]
theorem blk_named : ([] : List UInt8) ∉ wordsN [] blkW := by decide +kernel
theorem right_calls {w : World} {v : Value} (t : AT) (hs : t.size ≤ big) (hok : t.ok) (h : TreeAt false w v t) : Calls Try.prog 17 [v].toArray w fun e w' => (∃ q : Bool, e = .returned (.bool q) ∧ (q = true → ∀ i x k r, i < t.len → t.dropN i = .cons x k r → x.name ∈ wordsN [] blkW)) ∧ Chg w w' No := by
  have hbig : big = 1000000000000 := rfl
  obtain ⟨A, c, rfl, hc⟩ := h.form
  refine calls_zc (n := 14) (f := 17) (fn := Try.f17) Try.func17 rfl rfl (by simp) ?_
  refine zc_seq ?_
  refine zc_region ?_
  refine zl_pureL rfl ?_
  refine zl_nil ?_
  refine zk_seq ?_
  refine zc_seq ?_
  refine zc_region ?_
  refine zl_pureL rfl ?_
  refine zl_call (by first | exact want_none | exact want_L rfl) rfl (by decide) rfl (of_calls t blkW (by decide) h hs) ?_
  rintro _ u2 ⟨⟨q, rfl, hq⟩, hC2⟩
  refine ⟨_, rfl, ?_⟩
  cases q
  · iterate 2 (refine zl_pureL rfl ?_)
    iterate 2 (refine zl_skip rfl ?_)
    iterate 3 (refine zl_pureL rfl ?_)
    refine zl_skip rfl ?_
    iterate 2 (refine zl_pureL rfl ?_)
    refine zl_nil ?_
    refine zk_seq ?_
    refine zc_ret ?_
    exact zk_ret1 (.inr rfl) rfl rfl ⟨⟨_, rfl, fun h => by cases h⟩, hC2⟩
  iterate 2 (refine zl_pureL rfl ?_)
  refine zl_call (by first | exact want_none | exact want_L rfl) rfl (by decide) rfl (deep_calls t.size t (Nat.le_refl _) hs (h.no hC2)) ?_
  rintro _ u3 ⟨⟨d, rfl, hd⟩, hC3⟩
  refine ⟨_, rfl, ?_⟩
  by_cases h40 : d ≤ 40
  · refine z_cmpB (r := true) (want_L rfl) (by decide) rfl rfl rfl (iff_of_true rfl (by omega)) ?_
    iterate 3 (refine zl_pureL rfl ?_)
    refine zl_call (by first | exact want_none | exact want_L rfl) rfl (by decide) rfl (each_calls _ t rfl hs hok ((h.no hC2).no hC3)) ?_
    rintro _ u4 ⟨⟨q, rfl⟩, hC4⟩
    refine ⟨_, rfl, ?_⟩
    iterate 2 (refine zl_pureL rfl ?_)
    refine zl_nil ?_
    refine zk_seq ?_
    refine zc_ret ?_
    exact zk_ret1 (.inr rfl) rfl rfl ⟨⟨_, rfl, fun _ => hq rfl⟩, (hC2.no hC3).no hC4⟩
  · refine z_cmpB (r := false) (want_L rfl) (by decide) rfl rfl rfl (iff_of_false Bool.false_ne_true (by omega)) ?_
    iterate 3 (refine zl_pureL rfl ?_)
    refine zl_skip rfl ?_
    iterate 2 (refine zl_pureL rfl ?_)
    refine zl_nil ?_
    refine zk_seq ?_
    refine zc_ret ?_
    exact zk_ret1 (.inr rfl) rfl rfl ⟨⟨_, rfl, fun h => by cases h⟩, hC2.no hC3⟩
theorem size_wt : ∀ t : AT, 10 * t.size ≤ t.wt
  | .nil => Nat.le_refl _
  | .cons x k r => by
    have h1 := size_wt k; have h2 := size_wt r
    simp only [AT.size, AT.wt]; omega
theorem count_succ (l : List UInt8) (i : Nat) (hi : i < l.length) : (l.take (i + 1)).count 60 = (l.take i).count 60 + (if Z.byteL l i = 60 then 1 else 0) := by
  rw [List.take_succ_eq_append_getElem hi, List.count_append, List.count_singleton]
  have e : Z.byteL l i = l[i].toNat := by unfold Z.byteL; rw [List.getD_eq_getElem?_getD, List.getElem?_eq_getElem hi]; rfl
  rw [e]
  by_cases h : l[i] = 60
  · rw [if_pos (by rw [h]; rfl), if_pos (by rw [h]; rfl)]
  · rw [if_neg (by simpa using h), if_neg (fun h2 => h (by
      have : l[i].toNat = (60 : UInt8).toNat := h2
      exact UInt8.toNat_inj.1 this))]
set_option maxRecDepth 100000 in
set_option maxHeartbeats 16000000 in
theorem PrintSafe_walk (a : Option Addr) (len cap : Nat) (zs : List Int) (w : World) (hrow : IsRow .i64 w a len cap zs) :
    Calls Try.prog 5 #[.slice a len cap] w fun e w' => e = .returned (.bool true) ∧ RowKit.Below w.heap.size w w' := by
  show Calls Try.prog 5 [Value.slice a len cap].toArray w _
  have hbig : big = 1000000000000 := rfl
  refine calls_zc (n := 47) (f := 5) (fn := Try.f5) Try.func5 rfl rfl (by simp) ?_
  refine zc_seq ?_
  refine zc_region ?_
  refine zl_pureL rfl ?_
  refine zl_nil ?_
  refine zk_seq ?_
  iterate 2 (refine zc_seq ?_)
  refine zc_region ?_
  refine zl_call (by first | exact want_none | exact want_L rfl) rfl (by decide) rfl known_calls ?_
  rintro _ w1 ⟨rfl, hC1⟩
  refine ⟨_, rfl, ?_⟩
  refine zl_pureL rfl ?_
  refine zl_nil ?_
  refine zk_seq ?_
  refine zc_false rfl ?_
  refine zc_skip ?_
  refine zk_seq ?_
  refine zc_seq ?_
  refine zc_region ?_
  refine zl_pureL rfl ?_
  refine zl_call (by first | exact want_none | exact want_L rfl) rfl (by decide) rfl (made_calls (hrow.no hC1)) ?_
  rintro _ w2 ⟨va, t, rfl, hta, hok, hwt, hpos, hC2⟩
  refine ⟨_, rfl, ?_⟩
  have hT := hta.weak
  obtain ⟨A, c, rfl, hc⟩ := hta.form
  have hlw := size_wt t
  have htl := text_len t
  have hsf := safe_text t hok
  have htg := t.tags_le
  refine zl_pureL rfl ?_
  refine zl_nil ?_
  refine zk_seq ?_
  refine zc_seq ?_
  refine zc_region ?_
  refine zl_pureL rfl ?_
  refine zl_call (by first | exact want_none | exact want_L rfl) rfl (by decide) rfl (text_calls hT (by omega)) ?_
  rintro _ w3 ⟨rfl, hC3⟩
  refine ⟨_, rfl, ?_⟩
  have hT3 := hT.no hC3
  obtain ⟨l, hl⟩ : ∃ x, x = t.text := ⟨_, rfl⟩
  rw [← hl] at hsf htl ⊢
  refine zl_pureL rfl ?_
  refine zl_nil ?_
  refine zk_seq ?_
  refine zc_seq ?_
  refine zc_region ?_
  refine zl_pureL rfl ?_
  refine zl_nil ?_
  refine zk_seq ?_
  iterate 2 (refine zc_seq ?_)
  refine zc_region ?_
  refine zl_pureL rfl ?_
  refine zl_nil ?_
  refine zk_seq ?_
  refine zc_block ?_
  refine zc_loopW (ι := Nat) (fun i u => [(3, .slice A t.len c), (4, .string (bs l)), (5, .int .i64 ((l.take i).count 60 : Nat)), (6, .int .i64 (i : Nat))]) (fun i u => i ≤ l.length ∧ u = w3) (fun i u => l.length - i) 0 ⟨Nat.zero_le _, rfl⟩ ⟨rfl, rfl, rfl, rfl, trivial⟩ ?_
  rintro i u ⟨hi, hu⟩
  obtain rfl := hu.symm
  by_cases hlt : i < l.length
  · have hcs := count_succ l i hlt
    have hcl : (l.take i).count 60 ≤ i := by have := List.count_le_length (a := (60 : UInt8)) (l := l.take i); rw [List.length_take] at this; omega
    by_cases h60 : Z.byteL l i = 60
    · rw [if_pos h60] at hcs
      iterate 2 (refine zc_seq ?_)
      refine zc_region ?_
      iterate 2 (refine zl_pureL rfl ?_)
      refine z_lenL want_none (by decide) rfl ?_
      refine z_cmpB (r := true) want_none (by decide) rfl rfl rfl (iff_of_true rfl (by omega)) ?_
      refine zl_nil ?_
      refine zk_seq ?_
      refine zc_true rfl ?_
      refine zc_skip ?_
      refine zk_seq ?_
      refine zc_seq ?_
      refine zc_block ?_
      refine zc_seq ?_
      refine zc_region ?_
      iterate 2 (refine zl_pureL rfl ?_)
      refine z_idxN want_none (by decide) rfl rfl (by omega) ?_
      refine z_cmpB (r := true) want_none (by decide) rfl rfl rfl (iff_of_true rfl (by omega)) ?_
      refine zl_nil ?_
      refine zk_seq ?_
      refine zc_true rfl ?_
      refine zc_region ?_
      refine zl_pureL rfl ?_
      refine z_add want_none (by decide) rfl rfl (by omega) (by omega) ?_
      refine zl_pureL rfl ?_
      refine zl_nil ?_
      refine zk_norm_block ?_
      refine zk_seq ?_
      refine zc_region ?_
      refine zl_pureL rfl ?_
      refine z_add want_none (by decide) rfl rfl (by omega) (by omega) ?_
      refine zl_pureL rfl ?_
      refine zl_nil ?_
      exact zk_loopW (i + 1) ⟨by omega, rfl⟩ (by omega) ⟨rfl, rfl, get_int rfl (by omega), get_int rfl (by omega), trivial⟩
    · rw [if_neg h60] at hcs
      iterate 2 (refine zc_seq ?_)
      refine zc_region ?_
      iterate 2 (refine zl_pureL rfl ?_)
      refine z_lenL want_none (by decide) rfl ?_
      refine z_cmpB (r := true) want_none (by decide) rfl rfl rfl (iff_of_true rfl (by omega)) ?_
      refine zl_nil ?_
      refine zk_seq ?_
      refine zc_true rfl ?_
      refine zc_skip ?_
      refine zk_seq ?_
      refine zc_seq ?_
      refine zc_block ?_
      refine zc_seq ?_
      refine zc_region ?_
      iterate 2 (refine zl_pureL rfl ?_)
      refine z_idxN want_none (by decide) rfl rfl (by omega) ?_
      refine z_cmpB (r := false) want_none (by decide) rfl rfl rfl (iff_of_false Bool.false_ne_true (by omega)) ?_
      refine zl_nil ?_
      refine zk_seq ?_
      refine zc_false rfl ?_
      refine zc_skip ?_
      refine zk_norm_block ?_
      refine zk_seq ?_
      refine zc_region ?_
      refine zl_pureL rfl ?_
      refine z_add want_none (by decide) rfl rfl (by omega) (by omega) ?_
      refine zl_pureL rfl ?_
      refine zl_nil ?_
      exact zk_loopW (i + 1) ⟨by omega, rfl⟩ (by omega) ⟨rfl, rfl, get_int rfl (by omega), get_int rfl (by omega), trivial⟩
  have hcnt : (l.take i).count 60 = t.tagsN := by rw [List.take_of_length_le (by omega)]; exact hsf.cnt
  rw [hcnt]
  have hCw : Chg w w3 No := (hC1.no hC2).no hC3
  iterate 2 (refine zc_seq ?_)
  refine zc_region ?_
  iterate 2 (refine zl_pureL rfl ?_)
  refine z_lenL want_none (by decide) rfl ?_
  refine z_cmpB (r := false) want_none (by decide) rfl rfl rfl (iff_of_false Bool.false_ne_true (by omega)) ?_
  refine zl_nil ?_
  refine zk_seq ?_
  refine zc_false rfl ?_
  refine zc_exit ?_
  iterate 2 (refine zk_exit_then ?_)
  refine zk_exit_block ?_
  refine zk_seq ?_
  refine zc_seq ?_
  refine zc_region ?_
  refine zl_pureL rfl ?_
  refine zl_call (by first | exact want_none | exact want_L rfl) rfl (by decide) rfl (index_calls l [13] (by omega) (by simp [big])) ?_
  rintro _ v ⟨⟨k, rfl, h1, h2, h3⟩, hv⟩
  obtain rfl := hv.symm
  refine ⟨_, rfl, ?_⟩
  have hk : k = -1 := h3 13 rfl hsf.cr
  subst hk
  refine z_cmpB (r := true) want_none (by decide) rfl rfl rfl (iff_of_true rfl (by omega)) ?_
  iterate 3 (refine zl_pureL rfl ?_)
  refine zl_call (by first | exact want_none | exact want_L rfl) rfl (by decide) rfl (tags_calls _ t rfl (by omega) hT3) ?_
  rintro _ v ⟨rfl, hv⟩
  obtain rfl := hv.symm
  refine ⟨_, rfl, ?_⟩
  refine z_cmpB (r := true) (want_L rfl) (by decide) rfl rfl rfl (iff_of_true rfl (by omega)) ?_
  iterate 3 (refine zl_pureL rfl ?_)
  refine zl_call (by first | exact want_none | exact want_L rfl) rfl (by decide) rfl (right_calls t (by omega) hok hT3) ?_
  rintro _ w4 ⟨⟨q, rfl, hq⟩, hC4⟩
  refine ⟨_, rfl, ?_⟩
  cases q
  · iterate 3 (refine zl_pureL rfl ?_)
    refine zl_skip rfl ?_
    iterate 4 (refine zl_pureL rfl ?_)
    refine zl_call (by first | exact want_none | exact want_L rfl) rfl (by decide) rfl (W.wholeR_calls (l := l) (by omega)) ?_
    rintro _ v ⟨rfl, hv⟩
    obtain rfl := hv.symm
    refine ⟨_, rfl, ?_⟩
    rw [hsf.wh]
    iterate 2 (refine zl_pureL rfl ?_)
    refine zl_nil ?_
    refine zk_seq ?_
    refine zc_ret ?_
    exact zk_ret1 (.inr rfl) rfl rfl ⟨rfl, (hCw.no hC4).below⟩
  · have hb : beginsN l [60] = true := by
      rw [hl]
      refine first_named hpos (fun x k r he h0 => ?_)
      have := hq rfl 0 x k r hpos he
      rw [h0] at this
      exact blk_named this
    iterate 3 (refine zl_pureL rfl ?_)
    refine zl_call (by first | exact want_none | exact want_L rfl) rfl (by decide) rfl (begins_calls l [60] (by omega) (by decide)) ?_
    rintro _ v ⟨rfl, hv⟩
    obtain rfl := hv.symm
    refine ⟨_, rfl, ?_⟩
    rw [hb]
    iterate 4 (refine zl_pureL rfl ?_)
    refine zl_call (by first | exact want_none | exact want_L rfl) rfl (by decide) rfl (W.wholeR_calls (l := l) (by omega)) ?_
    rintro _ v ⟨rfl, hv⟩
    obtain rfl := hv.symm
    refine ⟨_, rfl, ?_⟩
    rw [hsf.wh]
    iterate 2 (refine zl_pureL rfl ?_)
    refine zl_nil ?_
    refine zk_seq ?_
    refine zc_ret ?_
    exact zk_ret1 (.inr rfl) rfl rfl ⟨rfl, (hCw.no hC4).below⟩
end Go.Proofs.Ytbcmiijollpgeaa.T
