import Derived.Test.YtaagolhokejflaaMObj
/- The calls that only read: begin, Len, Find, Of. -/
namespace Go.Proofs.Ytaagolhokejflaa.M
open Go Go.Z Go.Proofs
set_option linter.unusedVariables false
theorem len_calls {w : World} {g : Nat} {v : Value} {L : List Mark} (h : IsM w 62 g v L) :
    Calls Try.prog 16 [Value.pointer (some ⟨g, 0, none⟩)].toArray w fun e w' => e = .returned (.int .i64 L.length) ∧ w' = w := by
  obtain ⟨A, c, rfl, hc⟩ := h.form
  have hg := h.1
  refine calls_zc (n := 8) (f := 16) (fn := Try.f16) Try.func16 rfl rfl (by simp) ?_
  refine zc_seq ?_
  refine zc_region ?_
  refine zl_pureL rfl ?_
  refine zl_nil ?_
  refine zk_seq ?_
  refine zc_seq ?_
  refine zc_region ?_
  iterate 2 (refine zl_pureL rfl ?_)
  refine z_fa want_none (by decide) rfl ?_
  refine z_loadB want_none (by decide) rfl (by assumption) (by rfl) ?_
  refine z_len want_none (by decide) rfl ?_
  refine zl_pureL rfl ?_
  refine zl_nil ?_
  refine zk_seq ?_
  refine zc_ret ?_
  exact zk_ret1 (.inr rfl) rfl rfl ⟨rfl, rfl⟩

theorem begin_calls {w : World} {g : Nat} {v : Value} {L : List Mark} (h : IsM w 62 g v L) (hl : L.length ≤ 100000) :
    Calls Try.prog 40 [Value.pointer (some ⟨g, 0, none⟩)].toArray w fun e w' => e = .returned (.int .i64 (beginN L L.length)) ∧ w' = w := by
  obtain ⟨A, c, hv, hc⟩ := h.form
  have hat := h.at_
  have hg := h.1
  subst hv
  refine calls_zc (n := 26) (f := 40) (fn := Try.f40) Try.func40 rfl rfl (by simp) ?_
  refine zc_seq ?_
  refine zc_region ?_
  refine zl_pureL rfl ?_
  refine zl_nil ?_
  refine zk_seq ?_
  refine zc_seq ?_
  refine zc_region ?_
  iterate 2 (refine zl_pureL rfl ?_)
  refine z_fa want_none (by decide) rfl ?_
  refine z_loadB want_none (by decide) rfl (by assumption) (by rfl) ?_
  refine z_len want_none (by decide) rfl ?_
  refine zl_pureL rfl ?_
  refine zl_nil ?_
  refine zk_seq ?_
  refine zc_seq ?_
  refine zc_block ?_
  refine zc_loop (ι := Nat) (fun k => [(0, .pointer (some ⟨g, 0, none⟩)), (3, .int .i64 k)]) (fun _ => w) (fun k => k ≤ L.length ∧ beginN L k = beginN L L.length) (fun k => k) L.length ⟨Nat.le_refl _, rfl⟩ ?_ ?_ ?_
  · rfl
  · exact ⟨rfl, rfl, trivial⟩
  rintro k ⟨hk, hb⟩
  cases k with
  | zero =>
    iterate 2 (refine zc_seq ?_)
    refine zc_region ?_
    refine zl_pureL rfl ?_
    refine z_cmpB (r := false) want_none (by decide) rfl rfl rfl (iff_of_false Bool.false_ne_true (by omega)) ?_
    iterate 3 (refine zl_pureL rfl ?_)
    iterate 2 (refine zl_skip rfl ?_)
    refine zl_pureL rfl ?_
    iterate 5 (refine zl_skip rfl ?_)
    refine zl_pureL rfl ?_
    refine zl_nil ?_
    refine zk_seq ?_
    refine zc_false rfl ?_
    refine zc_exit ?_
    iterate 2 (refine zk_exit_then ?_)
    refine zk_exit_block ?_
    refine zk_seq ?_
    refine zc_seq ?_
    refine zc_region ?_
    iterate 2 (refine zl_pureL rfl ?_)
    refine zl_nil ?_
    refine zk_seq ?_
    refine zc_ret ?_
    refine zk_ret1 (.inr rfl) rfl rfl ⟨?_, rfl⟩
    rw [← hb]; rfl
  | succ k =>
    obtain ⟨b, c', A', hv, h0, h1, h2, h3⟩ := hat k (by omega)
    cases hv
    iterate 2 (refine zc_seq ?_)
    refine zc_region ?_
    refine zl_pureL rfl ?_
    refine z_cmpB (r := true) want_none (by decide) rfl rfl rfl (iff_of_true rfl (by omega)) ?_
    iterate 3 (refine zl_pureL rfl ?_)
    refine z_fa (want_L rfl) (by decide) rfl ?_
    refine z_loadB (want_L rfl) (by decide) rfl (by assumption) (by rfl) ?_
    refine zl_pureL rfl ?_
    refine z_sub (want_L rfl) (by decide) rfl rfl (by omega) (by omega) ?_
    refine z_ia (want_L rfl) (by decide) rfl rfl (by omega) (by omega) ?_
    refine z_fa (want_L rfl) (by decide) rfl ?_
    refine z_load1 (by first | exact want_none | exact want_L rfl) (by decide) rfl (cell_at h0 (by omega)) ?_
    skip
    refine z_cmp (by first | exact want_none | exact want_L rfl) (by decide) rfl rfl rfl (fun hc => ?_) (fun hc => ?_)
    · refine zl_pureL rfl ?_
      refine zl_nil ?_
      refine zk_seq ?_
      refine zc_true rfl ?_
      refine zc_skip ?_
      refine zk_seq ?_
      refine zc_block ?_
      refine zc_region ?_
      refine zl_pureL rfl ?_
      refine z_sub want_none (by decide) rfl rfl (by omega) (by omega) ?_
      refine zl_pureL rfl ?_
      refine zl_nil ?_
      refine zk_norm_block ?_
      refine zk_loop k ⟨by omega, ?_⟩ (by omega) rfl ⟨rfl, get_int rfl (by omega), trivial⟩
      rw [← hb, beginN, if_pos hc]
    · refine zl_pureL rfl ?_
      refine zl_nil ?_
      refine zk_seq ?_
      refine zc_false rfl ?_
      refine zc_exit ?_
      iterate 2 (refine zk_exit_then ?_)
      refine zk_exit_block ?_
      refine zk_seq ?_
      refine zc_seq ?_
      refine zc_region ?_
      iterate 2 (refine zl_pureL rfl ?_)
      refine zl_nil ?_
      refine zk_seq ?_
      refine zc_ret ?_
      refine zk_ret1 (.inr rfl) rfl rfl ⟨?_, rfl⟩
      rw [← hb, beginN, if_neg hc]

def findN (L : List Mark) (nm : ByteArray) : Nat → Int
  | 0 => -1
  | i + 1 => if 0 ≤ (L.getD i Mark.z).node then (if (L.getD i Mark.z).name = nm then (i : Int) else findN L nm i) else -1

theorem find_calls {w : World} {g : Nat} {v : Value} {L : List Mark} (nm : ByteArray) (h : IsM w 62 g v L) (hl : L.length ≤ 100000) :
    Calls Try.prog 17 [Value.pointer (some ⟨g, 0, none⟩), .string nm].toArray w fun e w' => e = .returned (.int .i64 (findN L nm L.length)) ∧ w' = w := by
  obtain ⟨A, c, hv, hc⟩ := h.form
  have hat := h.at_
  have hg := h.1
  subst hv
  refine calls_zc (n := 38) (f := 17) (fn := Try.f17) Try.func17 rfl rfl (by simp) ?_
  refine zc_seq ?_
  refine zc_region ?_
  refine zl_pureL rfl ?_
  refine zl_nil ?_
  refine zk_seq ?_
  iterate 2 (refine zc_seq ?_)
  refine zc_region ?_
  iterate 2 (refine zl_pureL rfl ?_)
  refine z_fa want_none (by decide) rfl ?_
  refine z_loadB want_none (by decide) rfl (by assumption) (by rfl) ?_
  refine z_len want_none (by decide) rfl ?_
  refine z_sub want_none (by decide) rfl rfl (by omega) (by omega) ?_
  refine zl_pureL rfl ?_
  refine zl_nil ?_
  refine zk_seq ?_
  refine zc_block ?_
  refine zc_loop (ι := Nat) (fun k => [(0, .pointer (some ⟨g, 0, none⟩)), (1, .string nm), (5, .int .i64 ((k : Int) - 1))]) (fun _ => w) (fun k => k ≤ L.length ∧ findN L nm k = findN L nm L.length) (fun k => k) L.length ⟨Nat.le_refl _, rfl⟩ ?_ ?_ ?_
  · rfl
  · exact ⟨rfl, rfl, rfl, trivial⟩
  rintro k ⟨hk, hb⟩
  cases k with
  | zero =>
    iterate 2 (refine zc_seq ?_)
    refine zc_region ?_
    refine zl_pureL rfl ?_
    refine z_cmpB (r := false) want_none (by decide) rfl rfl rfl (iff_of_false Bool.false_ne_true (by omega)) ?_
    iterate 3 (refine zl_pureL rfl ?_)
    iterate 2 (refine zl_skip rfl ?_)
    refine zl_pureL rfl ?_
    iterate 4 (refine zl_skip rfl ?_)
    refine zl_pureL rfl ?_
    refine zl_nil ?_
    refine zk_seq ?_
    refine zc_false rfl ?_
    refine zc_exit ?_
    iterate 2 (refine zk_exit_then ?_)
    refine zk_exit_block ?_
    refine zk_seq ?_
    refine zc_seq ?_
    refine zc_region ?_
    refine zl_pureL rfl ?_
    refine zl_nil ?_
    refine zk_seq ?_
    refine zc_ret ?_
    refine zk_ret1 (.inr rfl) rfl rfl ⟨?_, rfl⟩
    rw [← hb]; rfl
  | succ k =>
    obtain ⟨b, c', A', hv, h0, h1, h2, h3⟩ := hat k (by omega)
    cases hv
    iterate 2 (refine zc_seq ?_)
    refine zc_region ?_
    refine zl_pureL rfl ?_
    refine z_cmpB (r := true) want_none (by decide) rfl rfl rfl (iff_of_true rfl (by omega)) ?_
    iterate 3 (refine zl_pureL rfl ?_)
    refine z_fa (want_L rfl) (by decide) rfl ?_
    refine z_loadB (want_L rfl) (by decide) rfl (by assumption) (by rfl) ?_
    refine zl_pureL rfl ?_
    refine z_ia (want_L rfl) (by decide) rfl rfl (by omega) (by omega) ?_
    refine z_fa (want_L rfl) (by decide) rfl ?_
    refine z_load1 (by first | exact want_none | exact want_L rfl) (by decide) rfl (cell_at h0 (by omega)) ?_
    skip
    refine z_cmp (by first | exact want_none | exact want_L rfl) (by decide) rfl rfl rfl (fun hc => ?_) (fun hc => ?_)
    · refine zl_pureL rfl ?_
      refine zl_nil ?_
      refine zk_seq ?_
      refine zc_true rfl ?_
      refine zc_skip ?_
      refine zk_seq ?_
      refine zc_seq ?_
      refine zc_block ?_
      refine zc_seq ?_
      refine zc_region ?_
      iterate 2 (refine zl_pureL rfl ?_)
      refine z_fa want_none (by decide) rfl ?_
      refine z_loadB want_none (by decide) rfl (by assumption) (by rfl) ?_
      refine zl_pureL rfl ?_
      refine z_ia want_none (by decide) rfl rfl (by omega) (by omega) ?_
      refine z_fa want_none (by decide) rfl ?_
      refine z_load1 (by first | exact want_none | exact want_L rfl) (by decide) rfl (cell_at h1 (by omega)) ?_
      refine zl_pureL rfl ?_
      refine z_eqS (by first | exact want_none | exact want_L rfl) (by decide) rfl rfl (fun hc => ?_) (fun hc => ?_)
      · refine zl_nil ?_
        refine zk_seq ?_
        refine zc_true rfl ?_
        refine zc_seq ?_
        refine zc_region ?_
        iterate 2 (refine zl_pureL rfl ?_)
        refine zl_nil ?_
        refine zk_seq ?_
        refine zc_ret ?_
        refine zk_ret_block ?_
        iterate 2 (refine zk_ret_then ?_)
        refine zk_ret_block ?_
        refine zk_ret_then ?_
        refine zk_ret1 (.inr rfl) rfl rfl ⟨?_, rfl⟩
        rw [← hb, findN, if_pos (by omega), if_pos (by assumption)]; congr 2; omega
      · refine zl_nil ?_
        refine zk_seq ?_
        refine zc_false rfl ?_
        refine zc_skip ?_
        refine zk_norm_block ?_
        refine zk_seq ?_
        refine zc_region ?_
        refine zl_pureL rfl ?_
        refine z_sub want_none (by decide) rfl rfl (by omega) (by omega) ?_
        refine zl_pureL rfl ?_
        refine zl_nil ?_
        refine zk_loop k ⟨by omega, ?_⟩ (by omega) rfl ⟨rfl, rfl, get_int rfl (by omega), trivial⟩
        rw [← hb, findN, if_pos (by omega), if_neg (by assumption)]
    · refine zl_pureL rfl ?_
      refine zl_nil ?_
      refine zk_seq ?_
      refine zc_false rfl ?_
      refine zc_exit ?_
      iterate 2 (refine zk_exit_then ?_)
      refine zk_exit_block ?_
      refine zk_seq ?_
      refine zc_seq ?_
      refine zc_region ?_
      refine zl_pureL rfl ?_
      refine zl_nil ?_
      refine zk_seq ?_
      refine zc_ret ?_
      refine zk_ret1 (.inr rfl) rfl rfl ⟨?_, rfl⟩
      rw [← hb, findN, if_neg (by omega)]

/-- the place of the first mark of a node, from i on, k of them -/
def ofN (L : List Mark) (nd : Int) : Nat → Nat → Int
  | _, 0 => -1
  | i, k + 1 => if (L.getD i Mark.z).node = nd then (i : Int) else ofN L nd (i + 1) k

theorem of_calls {w : World} {g : Nat} {v : Value} {L : List Mark} (nd : Int) (h : IsM w 62 g v L) (hl : L.length ≤ 100000) :
    Calls Try.prog 25 [Value.pointer (some ⟨g, 0, none⟩), .int .i64 nd].toArray w fun e w' => e = .returned (.int .i64 (ofN L nd 0 L.length)) ∧ Chg w w' No := by
  obtain ⟨A, c, hv, hc⟩ := h.form
  have hg := h.1
  refine calls_zc (n := 23) (f := 25) (fn := Try.f25) Try.func25 rfl rfl (by simp) ?_
  subst hv
  refine zc_seq ?_
  refine zc_region ?_
  refine zl_pureL rfl ?_
  refine zl_nil ?_
  refine zk_seq ?_
  iterate 2 (refine zc_seq ?_)
  refine zc_region ?_
  iterate 2 (refine zl_pureL rfl ?_)
  refine z_fa want_none (by decide) rfl ?_
  refine z_loadB want_none (by decide) rfl (by assumption) (by rfl) ?_
  refine z_len want_none (by decide) rfl ?_
  refine zl_pureL rfl ?_
  refine zl_nil ?_
  refine zk_seq ?_
  refine zc_block ?_
  refine zc_loopW (ι := Nat) (fun k u => [(0, .pointer (some ⟨g, 0, none⟩)), (1, .int .i64 nd), (10, .slice A L.length c), (11, .int .i64 L.length), (12, .int .i64 k)])
    (fun k u => k ≤ L.length ∧ Chg w u No ∧ ofN L nd k (L.length - k) = ofN L nd 0 L.length) (fun k u => L.length - k) 0 ⟨Nat.zero_le _, Chg.refl _ _, rfl⟩ ?_ ?_
  · exact ⟨rfl, rfl, rfl, rfl, rfl, trivial⟩
  rintro k w1 ⟨hk, hC, hb⟩
  by_cases hlt : k < L.length
  · obtain ⟨b, c', A', hv, h0, h1, h2, h3⟩ := (h.no hC).at_ k hlt
    cases hv
    obtain ⟨A2, c2, rfl, _⟩ := h3.form
    refine zc_seq ?_
    refine zc_region ?_
    refine z_cmpB (r := true) want_none (by decide) rfl rfl rfl (iff_of_true rfl (by omega)) ?_
    refine zl_nil ?_
    refine zk_seq ?_
    refine zc_seq ?_
    refine zc_true rfl ?_
    refine zc_skip ?_
    refine zk_seq ?_
    refine zc_seq ?_
    refine zc_block ?_
    refine zc_seq ?_
    refine zc_region ?_
    refine zl_pureL rfl ?_
    refine z_ia want_none (by decide) rfl rfl (by omega) (by omega) ?_
    refine z_loadA (by rfl) (by first | exact want_none | exact want_L rfl) (by decide) rfl (agg3 h0 h1 h2 (by omega)) ?_
    refine z_alloc (by first | exact want_none | exact want_L rfl) (by decide) (fun w2 b2 hN => ?_)
    have hNb := hN.blk
    refine zl_pureL rfl ?_
    refine z_store (by first | exact want_none | exact want_L rfl) rfl rfl rfl (by assumption) (by first | exact Nat.le_refl _ | simp [Value.cells]) (by simp [Value.cells, Value.oneCell']) (fun w3 hU => ?_)
    have hC3 := (hC.new hN).upd hU (hN.ge hC)
    have hb2 : Blk w3 b2 32 [.int .i64 (L.getD k Mark.z).node, .string (L.getD k Mark.z).name, .slice A2 (L.getD k Mark.z).attrs.length c2] := hU.blk
    refine zl_nil ?_
    refine zk_seq ?_
    refine zc_seq ?_
    refine zc_region ?_
    refine z_fa want_none (by decide) rfl ?_
    refine z_loadB want_none (by decide) rfl (by assumption) (by rfl) ?_
    refine zl_pureL rfl ?_
    refine z_cmp (by first | exact want_none | exact want_L rfl) (by decide) rfl rfl rfl (fun hc => ?_) (fun hc => ?_)
    · refine zl_nil ?_
      refine zk_seq ?_
      refine zc_true rfl ?_
      refine zc_seq ?_
      refine zc_region ?_
      iterate 2 (refine zl_pureL rfl ?_)
      refine zl_nil ?_
      refine zk_seq ?_
      refine zc_ret ?_
      refine zk_ret_block ?_
      iterate 2 (refine zk_ret_then ?_)
      refine zk_ret_block ?_
      refine zk_ret_then ?_
      refine zk_ret1 (.inr rfl) rfl rfl ⟨?_, hC3⟩
      rw [← hb, show L.length - k = (L.length - k - 1) + 1 by omega, ofN, if_pos hc]
    · refine zl_nil ?_
      refine zk_seq ?_
      refine zc_false rfl ?_
      refine zc_skip ?_
      refine zk_norm_block ?_
      refine zk_seq ?_
      refine zc_region ?_
      refine z_add want_none (by decide) rfl rfl (by omega) (by omega) ?_
      refine zl_pureL rfl ?_
      refine zl_nil ?_
      refine zk_loopW (k + 1) ⟨by omega, hC3, ?_⟩ (by omega) ⟨rfl, rfl, rfl, rfl, get_int rfl (by omega), trivial⟩
      rw [← hb, show L.length - k = (L.length - (k + 1)) + 1 by omega, ofN, if_neg hc]
  · obtain rfl : k = L.length := by omega
    refine zc_seq ?_
    refine zc_region ?_
    refine z_cmpB (r := false) want_none (by decide) rfl rfl rfl (iff_of_false Bool.false_ne_true (by omega)) ?_
    refine zl_nil ?_
    refine zk_seq ?_
    refine zc_seq ?_
    refine zc_false rfl ?_
    refine zc_exit ?_
    iterate 2 (refine zk_exit_then ?_)
    refine zk_exit_block ?_
    refine zk_seq ?_
    refine zc_seq ?_
    refine zc_region ?_
    refine zl_pureL rfl ?_
    refine zl_nil ?_
    refine zk_seq ?_
    refine zc_ret ?_
    refine zk_ret1 (.inr rfl) rfl rfl ⟨?_, hC⟩
    rw [← hb, Nat.sub_self]; rfl
end Go.Proofs.Ytaagolhokejflaa.M
