import Derived.Test.YtaagolhokejflaaMFour
/- The document's marks: the calls that only read. -/
namespace Go.Proofs.Ytaagolhokejflaa.M
open Go Go.Z Go.Proofs
set_option linter.unusedVariables false
theorem new68_calls {w : World} : Calls Try.prog 30 [].toArray w fun e w' => ∃ g, e = .returned (.pointer (some ⟨g, 0, none⟩)) ∧ IsM w' 68 g (.slice none 0 0) [] ∧ Chg w w' No ∧ w.heap.size ≤ g := by
  refine calls_zc (n := 3) (f := 30) (fn := Try.f30) Try.func30 rfl rfl (by simp) ?_
  refine zc_seq ?_
  refine zc_region ?_
  refine zl_pureL rfl ?_
  refine zl_nil ?_
  refine zk_seq ?_
  refine zc_seq ?_
  refine zc_region ?_
  refine z_buildE #[.slice none 0 0] (by first | exact want_none | exact want_L rfl) (by decide) rfl (by kernel_rfl) ?_
  refine z_box (by first | exact want_none | exact want_L rfl) (by decide) rfl (fun w1 b1 hN1 => ?_)
  refine zl_pureL rfl ?_
  refine zl_nil ?_
  refine zk_seq ?_
  refine zc_ret ?_
  exact zk_ret1 (.inr rfl) rfl rfl ⟨b1, rfl, ⟨hN1.blk, [], Own.nil, trivial⟩, hN1.chg, Nat.le_of_eq hN1.at_.symm⟩
theorem len68_calls {w : World} {g : Nat} {v : Value} {L : List Mark} (h : IsM w 68 g v L) :
    Calls Try.prog 31 [Value.pointer (some ⟨g, 0, none⟩)].toArray w fun e w' => e = .returned (.int .i64 L.length) ∧ w' = w := by
  obtain ⟨A, c, rfl, hc⟩ := h.form
  have hg := h.1
  refine calls_zc (n := 8) (f := 31) (fn := Try.f31) Try.func31 rfl rfl (by simp) ?_
  refine zc_seq ?_
  refine zc_region ?_
  refine zl_pureL rfl ?_
  refine zl_nil ?_
  refine zk_seq ?_
  refine zc_seq ?_
  refine zc_region ?_
  iterate 2 (refine zl_pureL rfl ?_)
  refine z_fa want_none (by decide) rfl ?_
  refine z_loadB want_none (by decide) rfl (by assumption) (by rfl) ?_
  refine z_len want_none (by decide) rfl ?_
  refine zl_pureL rfl ?_
  refine zl_nil ?_
  refine zk_seq ?_
  refine zc_ret ?_
  exact zk_ret1 (.inr rfl) rfl rfl ⟨rfl, rfl⟩
theorem wall68_calls {w : World} {g : Nat} {v : Value} {L : List Mark} (h : IsM w 68 g v L) (hl : L.length ≤ 100000) :
    Calls Try.prog 46 [Value.pointer (some ⟨g, 0, none⟩)].toArray w fun e w' => e = .returned (.int .i64 (beginN L L.length)) ∧ w' = w := by
  obtain ⟨A, c, hv, hc⟩ := h.form
  have hat := h.at_
  have hg := h.1
  subst hv
  refine calls_zc (n := 25) (f := 46) (fn := Try.f46) Try.func46 rfl rfl (by simp) ?_
  refine zc_seq ?_
  refine zc_region ?_
  refine zl_pureL rfl ?_
  refine zl_nil ?_
  refine zk_seq ?_
  iterate 2 (refine zc_seq ?_)
  refine zc_region ?_
  iterate 2 (refine zl_pureL rfl ?_)
  refine z_fa want_none (by decide) rfl ?_
  refine z_loadB want_none (by decide) rfl (by assumption) (by rfl) ?_
  refine z_len want_none (by decide) rfl ?_
  refine z_sub want_none (by decide) rfl rfl (by omega) (by omega) ?_
  refine zl_pureL rfl ?_
  refine zl_nil ?_
  refine zk_seq ?_
  refine zc_block ?_
  refine zc_loop (ι := Nat) (fun k => [(0, .pointer (some ⟨g, 0, none⟩)), (3, .int .i64 ((k : Int) - 1))]) (fun _ => w) (fun k => k ≤ L.length ∧ beginN L k = beginN L L.length) (fun k => k) L.length ⟨Nat.le_refl _, rfl⟩ ?_ ?_ ?_
  · rfl
  · exact ⟨rfl, rfl, trivial⟩
  rintro k ⟨hk, hb⟩
  cases k with
  | zero =>
    iterate 2 (refine zc_seq ?_)
    refine zc_region ?_
    refine zl_pureL rfl ?_
    refine z_cmpB (r := false) want_none (by decide) rfl rfl rfl (iff_of_false Bool.false_ne_true (by omega)) ?_
    refine zl_nil ?_
    refine zk_seq ?_
    refine zc_false rfl ?_
    refine zc_exit ?_
    iterate 2 (refine zk_exit_then ?_)
    refine zk_exit_block ?_
    refine zk_seq ?_
    refine zc_seq ?_
    refine zc_region ?_
    refine zl_pureL rfl ?_
    refine zl_nil ?_
    refine zk_seq ?_
    refine zc_ret ?_
    refine zk_ret1 (.inr rfl) rfl rfl ⟨?_, rfl⟩
    rw [← hb]; rfl
  | succ k =>
    obtain ⟨b, c', A', hv, h0, h1, h2, h3⟩ := hat k (by omega)
    cases hv
    iterate 2 (refine zc_seq ?_)
    refine zc_region ?_
    refine zl_pureL rfl ?_
    refine z_cmpB (r := true) want_none (by decide) rfl rfl rfl (iff_of_true rfl (by omega)) ?_
    refine zl_nil ?_
    refine zk_seq ?_
    refine zc_true rfl ?_
    refine zc_skip ?_
    refine zk_seq ?_
    refine zc_seq ?_
    refine zc_block ?_
    refine zc_seq ?_
    refine zc_region ?_
    iterate 2 (refine zl_pureL rfl ?_)
    refine z_fa want_none (by decide) rfl ?_
    refine z_loadB want_none (by decide) rfl (by assumption) (by rfl) ?_
    refine zl_pureL rfl ?_
    refine z_ia want_none (by decide) rfl rfl (by omega) (by omega) ?_
    refine z_fa want_none (by decide) rfl ?_
    refine z_load1 (by first | exact want_none | exact want_L rfl) (by decide) rfl (cell_at h0 (by omega)) ?_
    by_cases hc : (L.getD k Mark.z).node < 0
    · refine z_cmpB (r := true) want_none (by decide) rfl rfl rfl (iff_of_true rfl (by omega)) ?_
      refine zl_nil ?_
      refine zk_seq ?_
      refine zc_true rfl ?_
      refine zc_seq ?_
      refine zc_region ?_
      refine zl_pureL rfl ?_
      refine z_add want_none (by decide) rfl rfl (by omega) (by omega) ?_
      refine zl_pureL rfl ?_
      refine zl_nil ?_
      refine zk_seq ?_
      refine zc_ret ?_
      refine zk_ret_block ?_
      iterate 2 (refine zk_ret_then ?_)
      refine zk_ret_block ?_
      refine zk_ret_then ?_
      refine zk_ret1 (.inr rfl) rfl rfl ⟨?_, rfl⟩
      rw [← hb, beginN, if_neg (by omega)]; congr 2; omega
    · refine z_cmpB (r := false) want_none (by decide) rfl rfl rfl (iff_of_false Bool.false_ne_true (by omega)) ?_
      refine zl_nil ?_
      refine zk_seq ?_
      refine zc_false rfl ?_
      refine zc_skip ?_
      refine zk_norm_block ?_
      refine zk_seq ?_
      refine zc_region ?_
      refine zl_pureL rfl ?_
      refine z_sub want_none (by decide) rfl rfl (by omega) (by omega) ?_
      refine zl_pureL rfl ?_
      refine zl_nil ?_
      refine zk_loop k ⟨by omega, ?_⟩ (by omega) rfl ⟨rfl, get_int rfl (by omega), trivial⟩
      rw [← hb, beginN, if_pos (by omega)]
theorem is68_calls {w : World} {g : Nat} {v : Value} {L : List Mark} (h : IsM w 68 g v L) (i : Int) (hl : L.length ≤ 100000) :
    Calls Try.prog 47 [Value.pointer (some ⟨g, 0, none⟩), .int .i64 i].toArray w fun e w' => e = .returned (.bool (decide (0 ≤ i ∧ i < L.length))) ∧ w' = w := by
  obtain ⟨A, c, rfl, hc⟩ := h.form
  have hg := h.1
  refine calls_zc (n := 16) (f := 47) (fn := Try.f47) Try.func47 rfl rfl (by simp) ?_
  refine zc_seq ?_
  refine zc_region ?_
  refine zl_pureL rfl ?_
  refine zl_nil ?_
  refine zk_seq ?_
  refine zc_seq ?_
  refine zc_region ?_
  refine zl_pureL rfl ?_
  by_cases h0 : 0 ≤ i
  · by_cases h1 : i < L.length
    · refine z_cmpB (r := true) want_none (by decide) rfl rfl rfl (iff_of_true rfl (by omega)) ?_
      iterate 4 (refine zl_pureL rfl ?_)
      refine z_fa (want_L rfl) (by decide) rfl ?_
      refine z_loadB (want_L rfl) (by decide) rfl (by assumption) (by rfl) ?_
      refine z_len (want_L rfl) (by decide) rfl ?_
      refine z_cmpB (r := true) (want_L rfl) (by decide) rfl rfl rfl (iff_of_true rfl (by omega)) ?_
      iterate 2 (refine zl_pureL rfl ?_)
      refine zl_nil ?_
      refine zk_seq ?_
      refine zc_ret ?_
      exact zk_ret1 (.inr rfl) rfl rfl ⟨by simp [h0, h1], rfl⟩
    · refine z_cmpB (r := true) want_none (by decide) rfl rfl rfl (iff_of_true rfl (by omega)) ?_
      iterate 4 (refine zl_pureL rfl ?_)
      refine z_fa (want_L rfl) (by decide) rfl ?_
      refine z_loadB (want_L rfl) (by decide) rfl (by assumption) (by rfl) ?_
      refine z_len (want_L rfl) (by decide) rfl ?_
      refine z_cmpB (r := false) (want_L rfl) (by decide) rfl rfl rfl (iff_of_false Bool.false_ne_true (by omega)) ?_
      iterate 2 (refine zl_pureL rfl ?_)
      refine zl_nil ?_
      refine zk_seq ?_
      refine zc_ret ?_
      exact zk_ret1 (.inr rfl) rfl rfl ⟨by simp [h0, h1], rfl⟩
  · refine z_cmpB (r := false) want_none (by decide) rfl rfl rfl (iff_of_false Bool.false_ne_true (by omega)) ?_
    iterate 4 (refine zl_pureL rfl ?_)
    iterate 4 (refine zl_skip rfl ?_)
    iterate 2 (refine zl_pureL rfl ?_)
    refine zl_nil ?_
    refine zk_seq ?_
    refine zc_ret ?_
    exact zk_ret1 (.inr rfl) rfl rfl ⟨by simp [h0], rfl⟩
theorem find68_calls {w : World} {g : Nat} {v : Value} {L : List Mark} (nm : ByteArray) (h : IsM w 68 g v L) (hl : L.length ≤ 100000) :
    Calls Try.prog 49 [Value.pointer (some ⟨g, 0, none⟩), .string nm].toArray w fun e w' => e = .returned (.int .i64 (findN L nm L.length)) ∧ w' = w := by
  obtain ⟨A, c, hv, hc⟩ := h.form
  have hat := h.at_
  have hg := h.1
  subst hv
  refine calls_zc (n := 29) (f := 49) (fn := Try.f49) Try.func49 rfl rfl (by simp) ?_
  refine zc_seq ?_
  refine zc_region ?_
  refine zl_pureL rfl ?_
  refine zl_nil ?_
  refine zk_seq ?_
  iterate 2 (refine zc_seq ?_)
  refine zc_region ?_
  iterate 2 (refine zl_pureL rfl ?_)
  refine z_fa want_none (by decide) rfl ?_
  refine z_loadB want_none (by decide) rfl (by assumption) (by rfl) ?_
  refine z_len want_none (by decide) rfl ?_
  refine z_sub want_none (by decide) rfl rfl (by omega) (by omega) ?_
  refine zl_pureL rfl ?_
  refine zl_nil ?_
  refine zk_seq ?_
  refine zc_block ?_
  refine zc_loop (ι := Nat) (fun k => [(0, .pointer (some ⟨g, 0, none⟩)), (1, .string nm), (5, .int .i64 ((k : Int) - 1))]) (fun _ => w) (fun k => k ≤ L.length ∧ beginN L k = beginN L L.length ∧ findN L nm k = findN L nm L.length) (fun k => k) L.length ⟨Nat.le_refl _, rfl, rfl⟩ ?_ ?_ ?_
  · rfl
  · exact ⟨rfl, rfl, rfl, trivial⟩
  rintro k ⟨hk, hbg, hb⟩
  have hble := beginN_le L L.length
  cases k with
  | zero =>
    iterate 2 (refine zc_seq ?_)
    refine zc_region ?_
    iterate 2 (refine zl_pureL rfl ?_)
    refine zl_call (by first | exact want_none | exact want_L rfl) rfl (by decide) rfl (wall68_calls h hl) ?_
    rintro _ w1 ⟨rfl, rfl⟩
    refine ⟨_, rfl, ?_⟩
    refine z_cmpB (r := false) want_none (by decide) rfl rfl rfl (iff_of_false Bool.false_ne_true (by omega)) ?_
    refine zl_nil ?_
    refine zk_seq ?_
    refine zc_false rfl ?_
    refine zc_exit ?_
    iterate 2 (refine zk_exit_then ?_)
    refine zk_exit_block ?_
    refine zk_seq ?_
    refine zc_seq ?_
    refine zc_region ?_
    refine zl_pureL rfl ?_
    refine zl_nil ?_
    refine zk_seq ?_
    refine zc_ret ?_
    refine zk_ret1 (.inr rfl) rfl rfl ⟨?_, rfl⟩
    rw [← hb]; rfl
  | succ k =>
    obtain ⟨b, c', A', hv, h0, h1, h2, h3⟩ := hat k (by omega)
    cases hv
    iterate 2 (refine zc_seq ?_)
    refine zc_region ?_
    iterate 2 (refine zl_pureL rfl ?_)
    refine zl_call (by first | exact want_none | exact want_L rfl) rfl (by decide) rfl (wall68_calls h hl) ?_
    rintro _ w1 ⟨rfl, rfl⟩
    refine ⟨_, rfl, ?_⟩
    rw [beginN] at hbg
    by_cases hn : 0 ≤ (L.getD k Mark.z).node
    · rw [if_pos hn] at hbg
      have := beginN_le L k
      refine z_cmpB (r := true) want_none (by decide) rfl rfl rfl (iff_of_true rfl (by omega)) ?_
      refine zl_nil ?_
      refine zk_seq ?_
      refine zc_true rfl ?_
      refine zc_skip ?_
      refine zk_seq ?_
      refine zc_seq ?_
      refine zc_block ?_
      refine zc_seq ?_
      refine zc_region ?_
      iterate 2 (refine zl_pureL rfl ?_)
      refine z_fa want_none (by decide) rfl ?_
      refine z_loadB want_none (by decide) rfl (by assumption) (by rfl) ?_
      refine zl_pureL rfl ?_
      refine z_ia want_none (by decide) rfl rfl (by omega) (by omega) ?_
      refine z_fa want_none (by decide) rfl ?_
      refine z_load1 (by first | exact want_none | exact want_L rfl) (by decide) rfl (cell_at h1 (by omega)) ?_
      refine zl_pureL rfl ?_
      refine z_eqS (by first | exact want_none | exact want_L rfl) (by decide) rfl rfl (fun hc => ?_) (fun hc => ?_)
      · refine zl_nil ?_
        refine zk_seq ?_
        refine zc_true rfl ?_
        refine zc_seq ?_
        refine zc_region ?_
        iterate 2 (refine zl_pureL rfl ?_)
        refine zl_nil ?_
        refine zk_seq ?_
        refine zc_ret ?_
        refine zk_ret_block ?_
        iterate 2 (refine zk_ret_then ?_)
        refine zk_ret_block ?_
        refine zk_ret_then ?_
        refine zk_ret1 (.inr rfl) rfl rfl ⟨?_, rfl⟩
        rw [← hb, findN, if_pos hn, if_pos (by assumption)]; congr 2; omega
      · refine zl_nil ?_
        refine zk_seq ?_
        refine zc_false rfl ?_
        refine zc_skip ?_
        refine zk_norm_block ?_
        refine zk_seq ?_
        refine zc_region ?_
        refine zl_pureL rfl ?_
        refine z_sub want_none (by decide) rfl rfl (by omega) (by omega) ?_
        refine zl_pureL rfl ?_
        refine zl_nil ?_
        refine zk_loop k ⟨by omega, hbg, ?_⟩ (by omega) rfl ⟨rfl, rfl, get_int rfl (by omega), trivial⟩
        rw [← hb, findN, if_pos hn, if_neg (by assumption)]
    · rw [if_neg hn] at hbg
      refine z_cmpB (r := false) want_none (by decide) rfl rfl rfl (iff_of_false Bool.false_ne_true (by omega)) ?_
      refine zl_nil ?_
      refine zk_seq ?_
      refine zc_false rfl ?_
      refine zc_exit ?_
      iterate 2 (refine zk_exit_then ?_)
      refine zk_exit_block ?_
      refine zk_seq ?_
      refine zc_seq ?_
      refine zc_region ?_
      refine zl_pureL rfl ?_
      refine zl_nil ?_
      refine zk_seq ?_
      refine zc_ret ?_
      refine zk_ret1 (.inr rfl) rfl rfl ⟨?_, rfl⟩
      rw [← hb, findN, if_neg hn]
theorem of68_calls {w : World} {g : Nat} {v : Value} {L : List Mark} (nd : Int) (h : IsM w 68 g v L) (hl : L.length ≤ 100000) :
    Calls Try.prog 39 [Value.pointer (some ⟨g, 0, none⟩), .int .i64 nd].toArray w fun e w' => e = .returned (.int .i64 (ofN L nd 0 L.length)) ∧ w' = w := by
  obtain ⟨A, c, hv, hc⟩ := h.form
  have hat := h.at_
  have hg := h.1
  subst hv
  refine calls_zc (n := 26) (f := 39) (fn := Try.f39) Try.func39 rfl rfl (by simp) ?_
  refine zc_seq ?_
  refine zc_region ?_
  refine zl_pureL rfl ?_
  refine zl_nil ?_
  refine zk_seq ?_
  iterate 2 (refine zc_seq ?_)
  refine zc_region ?_
  refine zl_pureL rfl ?_
  refine zl_nil ?_
  refine zk_seq ?_
  refine zc_block ?_
  refine zc_loop (ι := Nat) (fun k => [(0, .pointer (some ⟨g, 0, none⟩)), (1, .int .i64 nd), (5, .int .i64 k)]) (fun _ => w) (fun k => k ≤ L.length ∧ ofN L nd k (L.length - k) = ofN L nd 0 L.length) (fun k => L.length - k) 0 ⟨Nat.zero_le _, rfl⟩ ?_ ?_ ?_
  · rfl
  · exact ⟨rfl, rfl, rfl, trivial⟩
  rintro k ⟨hk, hb⟩
  by_cases hlt : k < L.length
  · obtain ⟨b, c', A', hv, h0, h1, h2, h3⟩ := hat k hlt
    cases hv
    iterate 2 (refine zc_seq ?_)
    refine zc_region ?_
    iterate 3 (refine zl_pureL rfl ?_)
    refine z_fa want_none (by decide) rfl ?_
    refine z_loadB want_none (by decide) rfl (by assumption) (by rfl) ?_
    refine z_len want_none (by decide) rfl ?_
    refine z_cmpB (r := true) want_none (by decide) rfl rfl rfl (iff_of_true rfl (by omega)) ?_
    refine zl_nil ?_
    refine zk_seq ?_
    refine zc_true rfl ?_
    refine zc_skip ?_
    refine zk_seq ?_
    refine zc_seq ?_
    refine zc_block ?_
    refine zc_seq ?_
    refine zc_region ?_
    iterate 2 (refine zl_pureL rfl ?_)
    refine z_fa want_none (by decide) rfl ?_
    refine z_loadB want_none (by decide) rfl (by assumption) (by rfl) ?_
    refine zl_pureL rfl ?_
    refine z_ia want_none (by decide) rfl rfl (by omega) (by omega) ?_
    refine z_fa want_none (by decide) rfl ?_
    refine z_load1 (by first | exact want_none | exact want_L rfl) (by decide) rfl (cell_at h0 (by omega)) ?_
    by_cases hq : (L.getD k Mark.z).node = nd
    · refine zl_pureL rfl ?_
      refine z_cmpB (r := true) want_none (by decide) rfl rfl rfl (iff_of_true rfl (by omega)) ?_
      refine zl_nil ?_
      refine zk_seq ?_
      refine zc_true rfl ?_
      refine zc_seq ?_
      refine zc_region ?_
      iterate 2 (refine zl_pureL rfl ?_)
      refine zl_nil ?_
      refine zk_seq ?_
      refine zc_ret ?_
      refine zk_ret_block ?_
      iterate 2 (refine zk_ret_then ?_)
      refine zk_ret_block ?_
      refine zk_ret_then ?_
      refine zk_ret1 (.inr rfl) rfl rfl ⟨?_, rfl⟩
      rw [← hb, show L.length - k = (L.length - k - 1) + 1 by omega, ofN, if_pos hq]
    · refine zl_pureL rfl ?_
      refine z_cmpB (r := false) want_none (by decide) rfl rfl rfl (iff_of_false Bool.false_ne_true (by omega)) ?_
      refine zl_nil ?_
      refine zk_seq ?_
      refine zc_false rfl ?_
      refine zc_skip ?_
      refine zk_norm_block ?_
      refine zk_seq ?_
      refine zc_region ?_
      refine zl_pureL rfl ?_
      refine z_add want_none (by decide) rfl rfl (by omega) (by omega) ?_
      refine zl_pureL rfl ?_
      refine zl_nil ?_
      refine zk_loop (k + 1) ⟨by omega, ?_⟩ (by omega) rfl ⟨rfl, rfl, get_int rfl (by simp), trivial⟩
      rw [← hb, show L.length - k = (L.length - (k + 1)) + 1 by omega, ofN, if_neg hq]
  · obtain rfl : k = L.length := by omega
    iterate 2 (refine zc_seq ?_)
    refine zc_region ?_
    iterate 3 (refine zl_pureL rfl ?_)
    refine z_fa want_none (by decide) rfl ?_
    refine z_loadB want_none (by decide) rfl (by assumption) (by rfl) ?_
    refine z_len want_none (by decide) rfl ?_
    refine z_cmpB (r := false) want_none (by decide) rfl rfl rfl (iff_of_false Bool.false_ne_true (by omega)) ?_
    refine zl_nil ?_
    refine zk_seq ?_
    refine zc_false rfl ?_
    refine zc_exit ?_
    iterate 2 (refine zk_exit_then ?_)
    refine zk_exit_block ?_
    refine zk_seq ?_
    refine zc_seq ?_
    refine zc_region ?_
    refine zl_pureL rfl ?_
    refine zl_nil ?_
    refine zk_seq ?_
    refine zc_ret ?_
    refine zk_ret1 (.inr rfl) rfl rfl ⟨?_, rfl⟩
    rw [← hb, Nat.sub_self]; rfl
/-- what At tells of place i -/
def atV (ms : List MV) (L : List Mark) (i : Int) : Value := mval (ms.getD i.toNat MV.z)
set_option maxHeartbeats 1000000 in
theorem at68_calls {w : World} {g : Nat} {v : Value} {L : List Mark} (h : IsM w 68 g v L) (hl : L.length ≤ 100000) (i : Nat) (hi : i < L.length) :
    Calls Try.prog 48 [Value.pointer (some ⟨g, 0, none⟩), .int .i64 i].toArray w fun e w' => ∃ m : MV, e = .returned (.tuple #[mval m, .bool true]) ∧ MR w' m (L.getD i Mark.z) ∧ Chg w w' No := by
  obtain ⟨A, c, hv, hc⟩ := h.form
  have hat := h.at_
  have hg := h.1
  subst hv
  refine calls_zc (n := 18) (f := 48) (fn := Try.f48) Try.func48 rfl rfl (by simp) ?_
  refine zc_seq ?_
  refine zc_region ?_
  refine z_alloc (by first | exact want_none | exact want_L rfl) (by decide) (fun w1 b1 hN1 => ?_)
  have hb1 : Blk w1 b1 32 [.int .i64 0, .string ⟨#[]⟩, .slice none 0 0] := hN1.blk
  have hg1 := hg.no hN1.chg
  have h1 := h.no hN1.chg
  refine zl_pureL rfl ?_
  refine zl_nil ?_
  refine zk_seq ?_
  iterate 2 (refine zc_seq ?_)
  refine zc_region ?_
  iterate 2 (refine zl_pureL rfl ?_)
  refine zl_call (by first | exact want_none | exact want_L rfl) rfl (by decide) rfl (is68_calls h1 i hl) ?_
  rintro _ w2 ⟨rfl, rfl⟩
  refine ⟨_, rfl, ?_⟩
  rw [decide_eq_true (by omega)]
  obtain ⟨b, c', A', hv, e0, e1, e2, ha⟩ := h1.at_ i hi
  cases hv
  obtain ⟨A2, c2, rfl, _⟩ := ha.form
  refine zl_pureL rfl ?_
  refine zl_nil ?_
  refine zk_seq ?_
  refine zc_false rfl ?_
  refine zc_skip ?_
  refine zk_seq ?_
  refine zc_seq ?_
  refine zc_region ?_
  iterate 2 (refine zl_pureL rfl ?_)
  refine z_fa want_none (by decide) rfl ?_
  refine z_loadB want_none (by decide) rfl (by assumption) (by rfl) ?_
  refine zl_pureL rfl ?_
  refine z_ia want_none (by decide) rfl rfl (by omega) (by omega) ?_
  refine z_loadA (by rfl) (by first | exact want_none | exact want_L rfl) (by decide) rfl (agg3 e0 e1 e2 (by omega)) ?_
  skip
  refine z_store (by first | exact want_none | exact want_L rfl) rfl rfl rfl (by assumption) (by first | exact Nat.le_refl _ | simp [Value.cells]) (by simp [Value.cells, Value.oneCell']) (fun w3 hU => ?_)
  have hC3 := hN1.chg.upd hU (hN1.ge (Chg.refl _ No))
  have hb3 : Blk w3 b1 32 [.int .i64 (L.getD i Mark.z).node, .string (L.getD i Mark.z).name, .slice A2 (L.getD i Mark.z).attrs.length c2] := hU.blk
  refine zl_pureL rfl ?_
  refine zl_nil ?_
  refine zk_seq ?_
  refine zc_ret ?_
  refine zk_retCT (.inr rfl) rfl rfl rfl hb3 rfl ⟨⟨_, _, _⟩, rfl, ⟨rfl, rfl, ha.keep (K47.upd hU (by decide))⟩, hC3⟩
theorem at68_out {w : World} {g : Nat} {v : Value} {L : List Mark} (h : IsM w 68 g v L) (hl : L.length ≤ 100000) (i : Int) (hi : i < 0 ∨ (L.length : Int) ≤ i) :
    Calls Try.prog 48 [Value.pointer (some ⟨g, 0, none⟩), .int .i64 i].toArray w fun e w' => e = .returned (.tuple #[.agg #[.int .i64 0, .string ⟨#[]⟩, .slice none 0 0], .bool false]) ∧ Chg w w' No := by
  refine calls_zc (n := 18) (f := 48) (fn := Try.f48) Try.func48 rfl rfl (by simp) ?_
  refine zc_seq ?_
  refine zc_region ?_
  refine z_alloc (by first | exact want_none | exact want_L rfl) (by decide) (fun w1 b1 hN1 => ?_)
  have hb1 : Blk w1 b1 32 [.int .i64 0, .string ⟨#[]⟩, .slice none 0 0] := hN1.blk
  have h1 := h.no hN1.chg
  refine zl_pureL rfl ?_
  refine zl_nil ?_
  refine zk_seq ?_
  iterate 2 (refine zc_seq ?_)
  refine zc_region ?_
  iterate 2 (refine zl_pureL rfl ?_)
  refine zl_call (by first | exact want_none | exact want_L rfl) rfl (by decide) rfl (is68_calls h1 i hl) ?_
  rintro _ w2 ⟨rfl, rfl⟩
  refine ⟨_, rfl, ?_⟩
  rw [decide_eq_false (by omega)]
  refine zl_pureL rfl ?_
  refine zl_nil ?_
  refine zk_seq ?_
  refine zc_true rfl ?_
  refine zc_seq ?_
  refine zc_region ?_
  refine z_buildE #[.int .i64 0, .string ⟨#[]⟩, .slice none 0 0] (by first | exact want_none | exact want_L rfl) (by decide) rfl (by kernel_rfl) ?_
  refine z_store (by first | exact want_none | exact want_L rfl) rfl rfl rfl (by assumption) (by first | exact Nat.le_refl _ | simp [Value.cells]) (by simp [Value.cells, Value.oneCell']) (fun w4 hU4 => ?_)
  have hb4 : Blk w4 b1 32 [.int .i64 0, .string ⟨#[]⟩, .slice none 0 0] := hU4.blk
  refine zl_pureL rfl ?_
  refine zl_nil ?_
  refine zk_seq ?_
  refine zc_ret ?_
  refine zk_ret_then ?_
  exact zk_retCT (.inr rfl) rfl rfl rfl hb4 rfl ⟨rfl, hN1.chg.upd hU4 (hN1.ge (Chg.refl _ No))⟩
end Go.Proofs.Ytaagolhokejflaa.M
