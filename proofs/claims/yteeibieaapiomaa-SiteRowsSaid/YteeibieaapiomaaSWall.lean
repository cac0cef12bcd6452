import Derived.Test.YteeibieaapiomaaSStr
/- Walls of scopes. -/
namespace Go.Proofs.Yteeibieaapiomaa.D
open Go Go.Z Go.Proofs
set_option linter.unusedVariables false
def anyH : List ByteArray := [⟨#[97, 112, 112, 108, 101, 116]⟩, ⟨#[99, 97, 112, 116, 105, 111, 110]⟩, ⟨#[104, 116, 109, 108]⟩, ⟨#[109, 97, 114, 113, 117, 101, 101]⟩, ⟨#[111, 98, 106, 101, 99, 116]⟩, ⟨#[116, 97, 98, 108, 101]⟩, ⟨#[116, 100]⟩, ⟨#[116, 101, 109, 112, 108, 97, 116, 101]⟩, ⟨#[116, 104]⟩]
def anyM : List ByteArray := [⟨#[97, 110, 110, 111, 116, 97, 116, 105, 111, 110, 45, 120, 109, 108]⟩, ⟨#[109, 105]⟩, ⟨#[109, 110]⟩, ⟨#[109, 111]⟩, ⟨#[109, 115]⟩, ⟨#[109, 116, 101, 120, 116]⟩]
def anyS : List ByteArray := [⟨#[100, 101, 115, 99]⟩, ⟨#[102, 111, 114, 101, 105, 103, 110, 79, 98, 106, 101, 99, 116]⟩, ⟨#[116, 105, 116, 108, 101]⟩]
def walL : List ByteArray := [⟨#[111, 108]⟩, ⟨#[117, 108]⟩]
def walB : List ByteArray := [⟨#[98, 117, 116, 116, 111, 110]⟩]
def walT : List ByteArray := [⟨#[104, 116, 109, 108]⟩, ⟨#[116, 97, 98, 108, 101]⟩, ⟨#[116, 101, 109, 112, 108, 97, 116, 101]⟩]
def anyW (sp : Int) (nm : ByteArray) : Bool := if sp = 1 then memB nm anyH else if sp = 3 then memB nm anyM else if sp = 2 then memB nm anyS else false
def wallW (sc sp : Int) (nm : ByteArray) : Bool :=
  if sc = 1 then anyW sp nm else if sc = 2 then anyW sp nm || (decide (sp = 1) && memB nm walL) else if sc = 3 then anyW sp nm || (decide (sp = 1) && memB nm walB) else if sc = 4 then decide (sp = 1) && memB nm walT else false
set_option maxHeartbeats 8000000 in
theorem sAny_calls {w : World} (sp : Int) (nm : ByteArray) : Calls Try.prog 98 [.int .i64 sp, .string nm].toArray w fun x w' => x = .returned (.bool (anyW sp nm)) ∧ w' = w := by
  unfold anyW
  refine calls_zc (n := 41) (f := 98) (fn := Try.f98) Try.func98 rfl rfl (by simp) ?_
  by_cases h1 : sp = 1
  · subst h1
    rw [if_pos rfl]
    refine zc_seq ?_
    refine zc_region ?_
    refine zl_pureL rfl ?_
    refine zl_nil ?_
    refine zk_seq ?_
    iterate 2 (refine zc_seq ?_)
    refine zc_region ?_
    refine zl_pureL rfl ?_
    refine zl_nil ?_
    refine zk_seq ?_
    refine zc_block ?_
    refine zc_seq ?_
    refine zc_region ?_
    refine z_cmpB (r := true) want_none (by decide) rfl rfl rfl (iff_of_true rfl (by omega)) ?_
    refine zl_pureL rfl ?_
    refine zl_nil ?_
    refine zk_seq ?_
    refine zc_true rfl ?_
    refine zc_seq ?_
    refine zc_region ?_
    refine zl_pureL rfl ?_
    refine zl_nil ?_
    refine zk_seq ?_
    refine zc_block ?_
    iterate 2 (refine zc_seq ?_)
    refine zc_region ?_
    refine z_eqS (by first | exact want_none | exact want_L rfl) (by decide) rfl rfl (fun hc0 => ?_) (fun hc0 => ?_)
    · rw [memB_iff.2 (show nm ∈ anyH by rw [hc0]; simp [anyH])]
      refine zl_pureL rfl ?_
      refine zl_nil ?_
      refine zk_seq ?_
      refine zc_true rfl ?_
      refine zc_skip ?_
      refine zk_seq ?_
      refine zc_true rfl ?_
      refine zc_seq ?_
      refine zc_region ?_
      refine zl_pureL rfl ?_
      refine zl_nil ?_
      refine zk_seq ?_
      refine zc_ret ?_
      iterate 2 (refine zk_ret_block ?_)
      refine zk_ret_then ?_
      exact zk_ret1 (.inr rfl) rfl rfl ⟨rfl, rfl⟩
    refine zl_pureL rfl ?_
    refine zl_nil ?_
    refine zk_seq ?_
    refine zc_false rfl ?_
    refine zc_seq ?_
    refine zc_region ?_
    refine z_eqS (by first | exact want_none | exact want_L rfl) (by decide) rfl rfl (fun hc1 => ?_) (fun hc1 => ?_)
    · rw [memB_iff.2 (show nm ∈ anyH by rw [hc1]; simp [anyH])]
      refine zl_pureL rfl ?_
      refine zl_nil ?_
      refine zk_seq ?_
      refine zc_true rfl ?_
      refine zc_skip ?_
      refine zk_seq ?_
      refine zc_true rfl ?_
      refine zc_seq ?_
      refine zc_region ?_
      refine zl_pureL rfl ?_
      refine zl_nil ?_
      refine zk_seq ?_
      refine zc_ret ?_
      iterate 2 (refine zk_ret_block ?_)
      refine zk_ret_then ?_
      exact zk_ret1 (.inr rfl) rfl rfl ⟨rfl, rfl⟩
    refine zl_pureL rfl ?_
    refine zl_nil ?_
    refine zk_seq ?_
    refine zc_false rfl ?_
    refine zc_seq ?_
    refine zc_region ?_
    refine z_eqS (by first | exact want_none | exact want_L rfl) (by decide) rfl rfl (fun hc2 => ?_) (fun hc2 => ?_)
    · rw [memB_iff.2 (show nm ∈ anyH by rw [hc2]; simp [anyH])]
      refine zl_pureL rfl ?_
      refine zl_nil ?_
      refine zk_seq ?_
      refine zc_true rfl ?_
      refine zc_skip ?_
      refine zk_seq ?_
      refine zc_true rfl ?_
      refine zc_seq ?_
      refine zc_region ?_
      refine zl_pureL rfl ?_
      refine zl_nil ?_
      refine zk_seq ?_
      refine zc_ret ?_
      iterate 2 (refine zk_ret_block ?_)
      refine zk_ret_then ?_
      exact zk_ret1 (.inr rfl) rfl rfl ⟨rfl, rfl⟩
    refine zl_pureL rfl ?_
    refine zl_nil ?_
    refine zk_seq ?_
    refine zc_false rfl ?_
    refine zc_seq ?_
    refine zc_region ?_
    refine z_eqS (by first | exact want_none | exact want_L rfl) (by decide) rfl rfl (fun hc3 => ?_) (fun hc3 => ?_)
    · rw [memB_iff.2 (show nm ∈ anyH by rw [hc3]; simp [anyH])]
      refine zl_pureL rfl ?_
      refine zl_nil ?_
      refine zk_seq ?_
      refine zc_true rfl ?_
      refine zc_skip ?_
      refine zk_seq ?_
      refine zc_true rfl ?_
      refine zc_seq ?_
      refine zc_region ?_
      refine zl_pureL rfl ?_
      refine zl_nil ?_
      refine zk_seq ?_
      refine zc_ret ?_
      iterate 2 (refine zk_ret_block ?_)
      refine zk_ret_then ?_
      exact zk_ret1 (.inr rfl) rfl rfl ⟨rfl, rfl⟩
    refine zl_pureL rfl ?_
    refine zl_nil ?_
    refine zk_seq ?_
    refine zc_false rfl ?_
    refine zc_seq ?_
    refine zc_region ?_
    refine z_eqS (by first | exact want_none | exact want_L rfl) (by decide) rfl rfl (fun hc4 => ?_) (fun hc4 => ?_)
    · rw [memB_iff.2 (show nm ∈ anyH by rw [hc4]; simp [anyH])]
      refine zl_pureL rfl ?_
      refine zl_nil ?_
      refine zk_seq ?_
      refine zc_true rfl ?_
      refine zc_skip ?_
      refine zk_seq ?_
      refine zc_true rfl ?_
      refine zc_seq ?_
      refine zc_region ?_
      refine zl_pureL rfl ?_
      refine zl_nil ?_
      refine zk_seq ?_
      refine zc_ret ?_
      iterate 2 (refine zk_ret_block ?_)
      refine zk_ret_then ?_
      exact zk_ret1 (.inr rfl) rfl rfl ⟨rfl, rfl⟩
    refine zl_pureL rfl ?_
    refine zl_nil ?_
    refine zk_seq ?_
    refine zc_false rfl ?_
    refine zc_seq ?_
    refine zc_region ?_
    refine z_eqS (by first | exact want_none | exact want_L rfl) (by decide) rfl rfl (fun hc5 => ?_) (fun hc5 => ?_)
    · rw [memB_iff.2 (show nm ∈ anyH by rw [hc5]; simp [anyH])]
      refine zl_pureL rfl ?_
      refine zl_nil ?_
      refine zk_seq ?_
      refine zc_true rfl ?_
      refine zc_skip ?_
      refine zk_seq ?_
      refine zc_true rfl ?_
      refine zc_seq ?_
      refine zc_region ?_
      refine zl_pureL rfl ?_
      refine zl_nil ?_
      refine zk_seq ?_
      refine zc_ret ?_
      iterate 2 (refine zk_ret_block ?_)
      refine zk_ret_then ?_
      exact zk_ret1 (.inr rfl) rfl rfl ⟨rfl, rfl⟩
    refine zl_pureL rfl ?_
    refine zl_nil ?_
    refine zk_seq ?_
    refine zc_false rfl ?_
    refine zc_seq ?_
    refine zc_region ?_
    refine z_eqS (by first | exact want_none | exact want_L rfl) (by decide) rfl rfl (fun hc6 => ?_) (fun hc6 => ?_)
    · rw [memB_iff.2 (show nm ∈ anyH by rw [hc6]; simp [anyH])]
      refine zl_pureL rfl ?_
      refine zl_nil ?_
      refine zk_seq ?_
      refine zc_true rfl ?_
      refine zc_skip ?_
      refine zk_seq ?_
      refine zc_true rfl ?_
      refine zc_seq ?_
      refine zc_region ?_
      refine zl_pureL rfl ?_
      refine zl_nil ?_
      refine zk_seq ?_
      refine zc_ret ?_
      iterate 2 (refine zk_ret_block ?_)
      refine zk_ret_then ?_
      exact zk_ret1 (.inr rfl) rfl rfl ⟨rfl, rfl⟩
    refine zl_pureL rfl ?_
    refine zl_nil ?_
    refine zk_seq ?_
    refine zc_false rfl ?_
    refine zc_seq ?_
    refine zc_region ?_
    refine z_eqS (by first | exact want_none | exact want_L rfl) (by decide) rfl rfl (fun hc7 => ?_) (fun hc7 => ?_)
    · rw [memB_iff.2 (show nm ∈ anyH by rw [hc7]; simp [anyH])]
      refine zl_pureL rfl ?_
      refine zl_nil ?_
      refine zk_seq ?_
      refine zc_true rfl ?_
      refine zc_skip ?_
      refine zk_seq ?_
      refine zc_true rfl ?_
      refine zc_seq ?_
      refine zc_region ?_
      refine zl_pureL rfl ?_
      refine zl_nil ?_
      refine zk_seq ?_
      refine zc_ret ?_
      iterate 2 (refine zk_ret_block ?_)
      refine zk_ret_then ?_
      exact zk_ret1 (.inr rfl) rfl rfl ⟨rfl, rfl⟩
    refine zl_pureL rfl ?_
    refine zl_nil ?_
    refine zk_seq ?_
    refine zc_false rfl ?_
    refine zc_region ?_
    refine z_eqS (by first | exact want_none | exact want_L rfl) (by decide) rfl rfl (fun hc8 => ?_) (fun hc8 => ?_)
    · rw [memB_iff.2 (show nm ∈ anyH by rw [hc8]; simp [anyH])]
      refine zl_pureL rfl ?_
      refine zl_nil ?_
      refine zk_seq ?_
      refine zc_true rfl ?_
      refine zc_seq ?_
      refine zc_region ?_
      refine zl_pureL rfl ?_
      refine zl_nil ?_
      refine zk_seq ?_
      refine zc_ret ?_
      iterate 2 (refine zk_ret_block ?_)
      refine zk_ret_then ?_
      exact zk_ret1 (.inr rfl) rfl rfl ⟨rfl, rfl⟩
    rw [memB_no (fun hm => by
      simp only [anyH, List.mem_cons, List.not_mem_nil, or_false] at hm
      rcases hm with hm | hm | hm | hm | hm | hm | hm | hm | hm
      · exact hc0 hm
      · exact hc1 hm
      · exact hc2 hm
      · exact hc3 hm
      · exact hc4 hm
      · exact hc5 hm
      · exact hc6 hm
      · exact hc7 hm
      · exact hc8 hm
      )]
    refine zl_pureL rfl ?_
    refine zl_nil ?_
    refine zk_seq ?_
    refine zc_false rfl ?_
    refine zc_skip ?_
    iterate 2 (refine zk_norm_block ?_)
    refine zk_seq ?_
    refine zc_seq ?_
    refine zc_region ?_
    refine zl_pureL rfl ?_
    refine zl_nil ?_
    refine zk_seq ?_
    refine zc_ret ?_
    exact zk_ret1 (.inr rfl) rfl rfl ⟨rfl, rfl⟩
  rw [if_neg h1]
  by_cases h3 : sp = 3
  · subst h3
    rw [if_pos rfl]
    refine zc_seq ?_
    refine zc_region ?_
    refine zl_pureL rfl ?_
    refine zl_nil ?_
    refine zk_seq ?_
    iterate 2 (refine zc_seq ?_)
    refine zc_region ?_
    refine zl_pureL rfl ?_
    refine zl_nil ?_
    refine zk_seq ?_
    refine zc_block ?_
    refine zc_seq ?_
    refine zc_region ?_
    refine z_cmpB (r := false) want_none (by decide) rfl rfl rfl (iff_of_false Bool.false_ne_true (by omega)) ?_
    refine zl_pureL rfl ?_
    refine zl_nil ?_
    refine zk_seq ?_
    refine zc_false rfl ?_
    refine zc_seq ?_
    refine zc_region ?_
    refine z_cmpB (r := true) want_none (by decide) rfl rfl rfl (iff_of_true rfl (by omega)) ?_
    refine zl_pureL rfl ?_
    refine zl_nil ?_
    refine zk_seq ?_
    refine zc_true rfl ?_
    refine zc_seq ?_
    refine zc_region ?_
    refine zl_pureL rfl ?_
    refine zl_nil ?_
    refine zk_seq ?_
    refine zc_block ?_
    iterate 2 (refine zc_seq ?_)
    refine zc_region ?_
    refine z_eqS (by first | exact want_none | exact want_L rfl) (by decide) rfl rfl (fun hc0 => ?_) (fun hc0 => ?_)
    · rw [memB_iff.2 (show nm ∈ anyM by rw [hc0]; simp [anyM])]
      refine zl_pureL rfl ?_
      refine zl_nil ?_
      refine zk_seq ?_
      refine zc_true rfl ?_
      refine zc_skip ?_
      refine zk_seq ?_
      refine zc_true rfl ?_
      refine zc_seq ?_
      refine zc_region ?_
      refine zl_pureL rfl ?_
      refine zl_nil ?_
      refine zk_seq ?_
      refine zc_ret ?_
      iterate 2 (refine zk_ret_block ?_)
      refine zk_ret_then ?_
      exact zk_ret1 (.inr rfl) rfl rfl ⟨rfl, rfl⟩
    refine zl_pureL rfl ?_
    refine zl_nil ?_
    refine zk_seq ?_
    refine zc_false rfl ?_
    refine zc_seq ?_
    refine zc_region ?_
    refine z_eqS (by first | exact want_none | exact want_L rfl) (by decide) rfl rfl (fun hc1 => ?_) (fun hc1 => ?_)
    · rw [memB_iff.2 (show nm ∈ anyM by rw [hc1]; simp [anyM])]
      refine zl_pureL rfl ?_
      refine zl_nil ?_
      refine zk_seq ?_
      refine zc_true rfl ?_
      refine zc_skip ?_
      refine zk_seq ?_
      refine zc_true rfl ?_
      refine zc_seq ?_
      refine zc_region ?_
      refine zl_pureL rfl ?_
      refine zl_nil ?_
      refine zk_seq ?_
      refine zc_ret ?_
      iterate 2 (refine zk_ret_block ?_)
      refine zk_ret_then ?_
      exact zk_ret1 (.inr rfl) rfl rfl ⟨rfl, rfl⟩
    refine zl_pureL rfl ?_
    refine zl_nil ?_
    refine zk_seq ?_
    refine zc_false rfl ?_
    refine zc_seq ?_
    refine zc_region ?_
    refine z_eqS (by first | exact want_none | exact want_L rfl) (by decide) rfl rfl (fun hc2 => ?_) (fun hc2 => ?_)
    · rw [memB_iff.2 (show nm ∈ anyM by rw [hc2]; simp [anyM])]
      refine zl_pureL rfl ?_
      refine zl_nil ?_
      refine zk_seq ?_
      refine zc_true rfl ?_
      refine zc_skip ?_
      refine zk_seq ?_
      refine zc_true rfl ?_
      refine zc_seq ?_
      refine zc_region ?_
      refine zl_pureL rfl ?_
      refine zl_nil ?_
      refine zk_seq ?_
      refine zc_ret ?_
      iterate 2 (refine zk_ret_block ?_)
      refine zk_ret_then ?_
      exact zk_ret1 (.inr rfl) rfl rfl ⟨rfl, rfl⟩
    refine zl_pureL rfl ?_
    refine zl_nil ?_
    refine zk_seq ?_
    refine zc_false rfl ?_
    refine zc_seq ?_
    refine zc_region ?_
    refine z_eqS (by first | exact want_none | exact want_L rfl) (by decide) rfl rfl (fun hc3 => ?_) (fun hc3 => ?_)
    · rw [memB_iff.2 (show nm ∈ anyM by rw [hc3]; simp [anyM])]
      refine zl_pureL rfl ?_
      refine zl_nil ?_
      refine zk_seq ?_
      refine zc_true rfl ?_
      refine zc_skip ?_
      refine zk_seq ?_
      refine zc_true rfl ?_
      refine zc_seq ?_
      refine zc_region ?_
      refine zl_pureL rfl ?_
      refine zl_nil ?_
      refine zk_seq ?_
      refine zc_ret ?_
      iterate 2 (refine zk_ret_block ?_)
      refine zk_ret_then ?_
      exact zk_ret1 (.inr rfl) rfl rfl ⟨rfl, rfl⟩
    refine zl_pureL rfl ?_
    refine zl_nil ?_
    refine zk_seq ?_
    refine zc_false rfl ?_
    refine zc_seq ?_
    refine zc_region ?_
    refine z_eqS (by first | exact want_none | exact want_L rfl) (by decide) rfl rfl (fun hc4 => ?_) (fun hc4 => ?_)
    · rw [memB_iff.2 (show nm ∈ anyM by rw [hc4]; simp [anyM])]
      refine zl_pureL rfl ?_
      refine zl_nil ?_
      refine zk_seq ?_
      refine zc_true rfl ?_
      refine zc_skip ?_
      refine zk_seq ?_
      refine zc_true rfl ?_
      refine zc_seq ?_
      refine zc_region ?_
      refine zl_pureL rfl ?_
      refine zl_nil ?_
      refine zk_seq ?_
      refine zc_ret ?_
      iterate 2 (refine zk_ret_block ?_)
      refine zk_ret_then ?_
      exact zk_ret1 (.inr rfl) rfl rfl ⟨rfl, rfl⟩
    refine zl_pureL rfl ?_
    refine zl_nil ?_
    refine zk_seq ?_
    refine zc_false rfl ?_
    refine zc_region ?_
    refine z_eqS (by first | exact want_none | exact want_L rfl) (by decide) rfl rfl (fun hc5 => ?_) (fun hc5 => ?_)
    · rw [memB_iff.2 (show nm ∈ anyM by rw [hc5]; simp [anyM])]
      refine zl_pureL rfl ?_
      refine zl_nil ?_
      refine zk_seq ?_
      refine zc_true rfl ?_
      refine zc_seq ?_
      refine zc_region ?_
      refine zl_pureL rfl ?_
      refine zl_nil ?_
      refine zk_seq ?_
      refine zc_ret ?_
      iterate 2 (refine zk_ret_block ?_)
      refine zk_ret_then ?_
      exact zk_ret1 (.inr rfl) rfl rfl ⟨rfl, rfl⟩
    rw [memB_no (fun hm => by
      simp only [anyM, List.mem_cons, List.not_mem_nil, or_false] at hm
      rcases hm with hm | hm | hm | hm | hm | hm
      · exact hc0 hm
      · exact hc1 hm
      · exact hc2 hm
      · exact hc3 hm
      · exact hc4 hm
      · exact hc5 hm
      )]
    refine zl_pureL rfl ?_
    refine zl_nil ?_
    refine zk_seq ?_
    refine zc_false rfl ?_
    refine zc_skip ?_
    iterate 2 (refine zk_norm_block ?_)
    refine zk_seq ?_
    refine zc_seq ?_
    refine zc_region ?_
    refine zl_pureL rfl ?_
    refine zl_nil ?_
    refine zk_seq ?_
    refine zc_ret ?_
    exact zk_ret1 (.inr rfl) rfl rfl ⟨rfl, rfl⟩
  rw [if_neg h3]
  by_cases h2 : sp = 2
  · subst h2
    rw [if_pos rfl]
    refine zc_seq ?_
    refine zc_region ?_
    refine zl_pureL rfl ?_
    refine zl_nil ?_
    refine zk_seq ?_
    iterate 2 (refine zc_seq ?_)
    refine zc_region ?_
    refine zl_pureL rfl ?_
    refine zl_nil ?_
    refine zk_seq ?_
    refine zc_block ?_
    refine zc_seq ?_
    refine zc_region ?_
    refine z_cmpB (r := false) want_none (by decide) rfl rfl rfl (iff_of_false Bool.false_ne_true (by omega)) ?_
    refine zl_pureL rfl ?_
    refine zl_nil ?_
    refine zk_seq ?_
    refine zc_false rfl ?_
    refine zc_seq ?_
    refine zc_region ?_
    refine z_cmpB (r := false) want_none (by decide) rfl rfl rfl (iff_of_false Bool.false_ne_true (by omega)) ?_
    refine zl_pureL rfl ?_
    refine zl_nil ?_
    refine zk_seq ?_
    refine zc_false rfl ?_
    refine zc_seq ?_
    refine zc_region ?_
    refine z_cmpB (r := true) want_none (by decide) rfl rfl rfl (iff_of_true rfl (by omega)) ?_
    refine zl_pureL rfl ?_
    refine zl_nil ?_
    refine zk_seq ?_
    refine zc_true rfl ?_
    refine zc_seq ?_
    refine zc_region ?_
    refine zl_pureL rfl ?_
    refine z_eqS (by first | exact want_none | exact want_L rfl) (by decide) rfl rfl (fun hc0 => ?_) (fun hc0 => ?_)
    · rw [memB_iff.2 (show nm ∈ anyS by rw [hc0]; simp [anyS])]
      iterate 2 (refine zl_pureL rfl ?_)
      refine zl_skip rfl ?_
      iterate 3 (refine zl_pureL rfl ?_)
      refine zl_skip rfl ?_
      iterate 2 (refine zl_pureL rfl ?_)
      refine zl_nil ?_
      refine zk_seq ?_
      refine zc_ret ?_
      refine zk_ret_block ?_
      refine zk_ret_then ?_
      exact zk_ret1 (.inr rfl) rfl rfl ⟨rfl, rfl⟩
    iterate 2 (refine zl_pureL rfl ?_)
    refine z_eqS (by first | exact want_none | exact want_L rfl) (by decide) rfl rfl (fun hc1 => ?_) (fun hc1 => ?_)
    · rw [memB_iff.2 (show nm ∈ anyS by rw [hc1]; simp [anyS])]
      iterate 3 (refine zl_pureL rfl ?_)
      refine zl_skip rfl ?_
      iterate 2 (refine zl_pureL rfl ?_)
      refine zl_nil ?_
      refine zk_seq ?_
      refine zc_ret ?_
      refine zk_ret_block ?_
      refine zk_ret_then ?_
      exact zk_ret1 (.inr rfl) rfl rfl ⟨rfl, rfl⟩
    iterate 3 (refine zl_pureL rfl ?_)
    refine z_eqS (by first | exact want_none | exact want_L rfl) (by decide) rfl rfl (fun hc2 => ?_) (fun hc2 => ?_)
    · rw [memB_iff.2 (show nm ∈ anyS by rw [hc2]; simp [anyS])]
      iterate 2 (refine zl_pureL rfl ?_)
      refine zl_nil ?_
      refine zk_seq ?_
      refine zc_ret ?_
      refine zk_ret_block ?_
      refine zk_ret_then ?_
      exact zk_ret1 (.inr rfl) rfl rfl ⟨rfl, rfl⟩
    rw [memB_no (fun hm => by
      simp only [anyS, List.mem_cons, List.not_mem_nil, or_false] at hm
      rcases hm with hm | hm | hm
      · exact hc0 hm
      · exact hc1 hm
      · exact hc2 hm
      )]
    iterate 2 (refine zl_pureL rfl ?_)
    refine zl_nil ?_
    refine zk_seq ?_
    refine zc_ret ?_
    refine zk_ret_block ?_
    refine zk_ret_then ?_
    exact zk_ret1 (.inr rfl) rfl rfl ⟨rfl, rfl⟩
  rw [if_neg h2]
  refine zc_seq ?_
  refine zc_region ?_
  refine zl_pureL rfl ?_
  refine zl_nil ?_
  refine zk_seq ?_
  iterate 2 (refine zc_seq ?_)
  refine zc_region ?_
  refine zl_pureL rfl ?_
  refine zl_nil ?_
  refine zk_seq ?_
  refine zc_block ?_
  refine zc_seq ?_
  refine zc_region ?_
  refine z_cmpB (r := false) want_none (by decide) rfl rfl rfl (iff_of_false Bool.false_ne_true (by omega)) ?_
  refine zl_pureL rfl ?_
  refine zl_nil ?_
  refine zk_seq ?_
  refine zc_false rfl ?_
  refine zc_seq ?_
  refine zc_region ?_
  refine z_cmpB (r := false) want_none (by decide) rfl rfl rfl (iff_of_false Bool.false_ne_true (by omega)) ?_
  refine zl_pureL rfl ?_
  refine zl_nil ?_
  refine zk_seq ?_
  refine zc_false rfl ?_
  refine zc_seq ?_
  refine zc_region ?_
  refine z_cmpB (r := false) want_none (by decide) rfl rfl rfl (iff_of_false Bool.false_ne_true (by omega)) ?_
  refine zl_pureL rfl ?_
  refine zl_nil ?_
  refine zk_seq ?_
  refine zc_false rfl ?_
  refine zc_skip ?_
  refine zk_norm_block ?_
  refine zk_seq ?_
  refine zc_seq ?_
  refine zc_region ?_
  refine zl_pureL rfl ?_
  refine zl_nil ?_
  refine zk_seq ?_
  refine zc_ret ?_
  exact zk_ret1 (.inr rfl) rfl rfl ⟨rfl, rfl⟩
set_option maxHeartbeats 8000000 in
theorem sWall_calls {w : World} (sc sp : Int) (nm : ByteArray) : Calls Try.prog 76 [.int .i64 sc, .int .i64 sp, .string nm].toArray w fun x w' => x = .returned (.bool (wallW sc sp nm)) ∧ w' = w := by
  unfold wallW
  refine calls_zc (n := 59) (f := 76) (fn := Try.f76) Try.func76 rfl rfl (by simp) ?_
  by_cases c1 : sc = 1
  · subst c1
    rw [if_pos rfl]
    by_cases hs : sp = 1
    · refine zc_seq ?_
      refine zc_region ?_
      refine zl_pureL rfl ?_
      refine zl_nil ?_
      refine zk_seq ?_
      refine zc_seq ?_
      refine zc_region ?_
      refine zl_pureL rfl ?_
      refine z_cmpB (r := true) want_none (by decide) rfl rfl rfl (iff_of_true rfl (by omega)) ?_
      refine zl_pureL rfl ?_
      refine zl_nil ?_
      refine zk_seq ?_
      iterate 2 (refine zc_seq ?_)
      refine zc_region ?_
      refine zl_pureL rfl ?_
      refine zl_nil ?_
      refine zk_seq ?_
      refine zc_block ?_
      refine zc_seq ?_
      refine zc_region ?_
      refine z_cmpB (r := true) want_none (by decide) rfl rfl rfl (iff_of_true rfl (by omega)) ?_
      refine zl_pureL rfl ?_
      refine zl_nil ?_
      refine zk_seq ?_
      refine zc_true rfl ?_
      refine zc_seq ?_
      refine zc_region ?_
      iterate 2 (refine zl_pureL rfl ?_)
      refine zl_call (by first | exact want_none | exact want_L rfl) rfl (by decide) rfl (sAny_calls sp nm) ?_
      rintro _ u ⟨rfl, hu⟩
      obtain rfl := hu.symm
      refine ⟨_, rfl, ?_⟩
      refine zl_pureL rfl ?_
      refine zl_nil ?_
      refine zk_seq ?_
      refine zc_ret ?_
      refine zk_ret_block ?_
      refine zk_ret_then ?_
      exact zk_ret1 (.inr rfl) rfl rfl ⟨rfl, rfl⟩
    · refine zc_seq ?_
      refine zc_region ?_
      refine zl_pureL rfl ?_
      refine zl_nil ?_
      refine zk_seq ?_
      refine zc_seq ?_
      refine zc_region ?_
      refine zl_pureL rfl ?_
      refine z_cmpB (r := false) want_none (by decide) rfl rfl rfl (iff_of_false Bool.false_ne_true (by omega)) ?_
      refine zl_pureL rfl ?_
      refine zl_nil ?_
      refine zk_seq ?_
      iterate 2 (refine zc_seq ?_)
      refine zc_region ?_
      refine zl_pureL rfl ?_
      refine zl_nil ?_
      refine zk_seq ?_
      refine zc_block ?_
      refine zc_seq ?_
      refine zc_region ?_
      refine z_cmpB (r := true) want_none (by decide) rfl rfl rfl (iff_of_true rfl (by omega)) ?_
      refine zl_pureL rfl ?_
      refine zl_nil ?_
      refine zk_seq ?_
      refine zc_true rfl ?_
      refine zc_seq ?_
      refine zc_region ?_
      iterate 2 (refine zl_pureL rfl ?_)
      refine zl_call (by first | exact want_none | exact want_L rfl) rfl (by decide) rfl (sAny_calls sp nm) ?_
      rintro _ u ⟨rfl, hu⟩
      obtain rfl := hu.symm
      refine ⟨_, rfl, ?_⟩
      refine zl_pureL rfl ?_
      refine zl_nil ?_
      refine zk_seq ?_
      refine zc_ret ?_
      refine zk_ret_block ?_
      refine zk_ret_then ?_
      exact zk_ret1 (.inr rfl) rfl rfl ⟨rfl, rfl⟩
  rw [if_neg c1]
  by_cases c2 : sc = 2
  · subst c2
    rw [if_pos rfl]
    by_cases hs : sp = 1
    · subst hs
      refine zc_seq ?_
      refine zc_region ?_
      refine zl_pureL rfl ?_
      refine zl_nil ?_
      refine zk_seq ?_
      refine zc_seq ?_
      refine zc_region ?_
      refine zl_pureL rfl ?_
      refine z_cmpB (r := true) want_none (by decide) rfl rfl rfl (iff_of_true rfl (by omega)) ?_
      refine zl_pureL rfl ?_
      refine zl_nil ?_
      refine zk_seq ?_
      iterate 2 (refine zc_seq ?_)
      refine zc_region ?_
      refine zl_pureL rfl ?_
      refine zl_nil ?_
      refine zk_seq ?_
      refine zc_block ?_
      refine zc_seq ?_
      refine zc_region ?_
      refine z_cmpB (r := false) want_none (by decide) rfl rfl rfl (iff_of_false Bool.false_ne_true (by omega)) ?_
      refine zl_pureL rfl ?_
      refine zl_nil ?_
      refine zk_seq ?_
      refine zc_false rfl ?_
      refine zc_seq ?_
      refine zc_region ?_
      refine z_cmpB (r := true) want_none (by decide) rfl rfl rfl (iff_of_true rfl (by omega)) ?_
      refine zl_pureL rfl ?_
      refine zl_nil ?_
      refine zk_seq ?_
      refine zc_true rfl ?_
      refine zc_seq ?_
      refine zc_region ?_
      iterate 2 (refine zl_pureL rfl ?_)
      refine zl_call (by first | exact want_none | exact want_L rfl) rfl (by decide) rfl (sAny_calls 1 nm) ?_
      rintro _ u ⟨rfl, hu⟩
      obtain rfl := hu.symm
      refine ⟨_, rfl, ?_⟩
      cases hany : anyW 1 nm
      · rw [Bool.false_or, decide_eq_true (show (1 : Int) = 1 from rfl), Bool.true_and]
        iterate 4 (refine zl_pureL rfl ?_)
        refine z_eqS (by first | exact want_none | exact want_L rfl) (by decide) rfl rfl (fun hc0 => ?_) (fun hc0 => ?_)
        · rw [memB_iff.2 (show nm ∈ walL by rw [hc0]; simp [walL])]
          iterate 2 (refine zl_pureL rfl ?_)
          refine zl_skip rfl ?_
          iterate 4 (refine zl_pureL rfl ?_)
          refine zl_nil ?_
          refine zk_seq ?_
          refine zc_ret ?_
          refine zk_ret_block ?_
          refine zk_ret_then ?_
          exact zk_ret1 (.inr rfl) rfl rfl ⟨rfl, rfl⟩
        iterate 2 (refine zl_pureL rfl ?_)
        refine z_eqS (by first | exact want_none | exact want_L rfl) (by decide) rfl rfl (fun hc1 => ?_) (fun hc1 => ?_)
        · rw [memB_iff.2 (show nm ∈ walL by rw [hc1]; simp [walL])]
          iterate 4 (refine zl_pureL rfl ?_)
          refine zl_nil ?_
          refine zk_seq ?_
          refine zc_ret ?_
          refine zk_ret_block ?_
          refine zk_ret_then ?_
          exact zk_ret1 (.inr rfl) rfl rfl ⟨rfl, rfl⟩
        rw [memB_no (fun hm => by
          simp only [walL, List.mem_cons, List.not_mem_nil, or_false] at hm
          rcases hm with hm | hm
          · exact hc0 hm
          · exact hc1 hm
          )]
        iterate 4 (refine zl_pureL rfl ?_)
        refine zl_nil ?_
        refine zk_seq ?_
        refine zc_ret ?_
        refine zk_ret_block ?_
        refine zk_ret_then ?_
        exact zk_ret1 (.inr rfl) rfl rfl ⟨rfl, rfl⟩
      · rw [Bool.true_or]
        iterate 4 (refine zl_pureL rfl ?_)
        refine zl_skip rfl ?_
        iterate 2 (refine zl_pureL rfl ?_)
        refine zl_skip rfl ?_
        iterate 4 (refine zl_pureL rfl ?_)
        refine zl_nil ?_
        refine zk_seq ?_
        refine zc_ret ?_
        refine zk_ret_block ?_
        refine zk_ret_then ?_
        exact zk_ret1 (.inr rfl) rfl rfl ⟨rfl, rfl⟩
    · refine zc_seq ?_
      refine zc_region ?_
      refine zl_pureL rfl ?_
      refine zl_nil ?_
      refine zk_seq ?_
      refine zc_seq ?_
      refine zc_region ?_
      refine zl_pureL rfl ?_
      refine z_cmpB (r := false) want_none (by decide) rfl rfl rfl (iff_of_false Bool.false_ne_true (by omega)) ?_
      refine zl_pureL rfl ?_
      refine zl_nil ?_
      refine zk_seq ?_
      iterate 2 (refine zc_seq ?_)
      refine zc_region ?_
      refine zl_pureL rfl ?_
      refine zl_nil ?_
      refine zk_seq ?_
      refine zc_block ?_
      refine zc_seq ?_
      refine zc_region ?_
      refine z_cmpB (r := false) want_none (by decide) rfl rfl rfl (iff_of_false Bool.false_ne_true (by omega)) ?_
      refine zl_pureL rfl ?_
      refine zl_nil ?_
      refine zk_seq ?_
      refine zc_false rfl ?_
      refine zc_seq ?_
      refine zc_region ?_
      refine z_cmpB (r := true) want_none (by decide) rfl rfl rfl (iff_of_true rfl (by omega)) ?_
      refine zl_pureL rfl ?_
      refine zl_nil ?_
      refine zk_seq ?_
      refine zc_true rfl ?_
      refine zc_seq ?_
      refine zc_region ?_
      iterate 2 (refine zl_pureL rfl ?_)
      refine zl_call (by first | exact want_none | exact want_L rfl) rfl (by decide) rfl (sAny_calls sp nm) ?_
      rintro _ u ⟨rfl, hu⟩
      obtain rfl := hu.symm
      refine ⟨_, rfl, ?_⟩
      rw [decide_eq_false hs, Bool.false_and, Bool.or_false]
      cases anyW sp nm
      · iterate 4 (refine zl_pureL rfl ?_)
        refine zl_skip rfl ?_
        iterate 2 (refine zl_pureL rfl ?_)
        refine zl_skip rfl ?_
        iterate 4 (refine zl_pureL rfl ?_)
        refine zl_nil ?_
        refine zk_seq ?_
        refine zc_ret ?_
        refine zk_ret_block ?_
        refine zk_ret_then ?_
        exact zk_ret1 (.inr rfl) rfl rfl ⟨rfl, rfl⟩
      · iterate 4 (refine zl_pureL rfl ?_)
        refine zl_skip rfl ?_
        iterate 2 (refine zl_pureL rfl ?_)
        refine zl_skip rfl ?_
        iterate 4 (refine zl_pureL rfl ?_)
        refine zl_nil ?_
        refine zk_seq ?_
        refine zc_ret ?_
        refine zk_ret_block ?_
        refine zk_ret_then ?_
        exact zk_ret1 (.inr rfl) rfl rfl ⟨rfl, rfl⟩
  rw [if_neg c2]
  by_cases c3 : sc = 3
  · subst c3
    rw [if_pos rfl]
    by_cases hs : sp = 1
    · subst hs
      refine zc_seq ?_
      refine zc_region ?_
      refine zl_pureL rfl ?_
      refine zl_nil ?_
      refine zk_seq ?_
      refine zc_seq ?_
      refine zc_region ?_
      refine zl_pureL rfl ?_
      refine z_cmpB (r := true) want_none (by decide) rfl rfl rfl (iff_of_true rfl (by omega)) ?_
      refine zl_pureL rfl ?_
      refine zl_nil ?_
      refine zk_seq ?_
      iterate 2 (refine zc_seq ?_)
      refine zc_region ?_
      refine zl_pureL rfl ?_
      refine zl_nil ?_
      refine zk_seq ?_
      refine zc_block ?_
      refine zc_seq ?_
      refine zc_region ?_
      refine z_cmpB (r := false) want_none (by decide) rfl rfl rfl (iff_of_false Bool.false_ne_true (by omega)) ?_
      refine zl_pureL rfl ?_
      refine zl_nil ?_
      refine zk_seq ?_
      refine zc_false rfl ?_
      refine zc_seq ?_
      refine zc_region ?_
      refine z_cmpB (r := false) want_none (by decide) rfl rfl rfl (iff_of_false Bool.false_ne_true (by omega)) ?_
      refine zl_pureL rfl ?_
      refine zl_nil ?_
      refine zk_seq ?_
      refine zc_false rfl ?_
      refine zc_seq ?_
      refine zc_region ?_
      refine z_cmpB (r := true) want_none (by decide) rfl rfl rfl (iff_of_true rfl (by omega)) ?_
      refine zl_pureL rfl ?_
      refine zl_nil ?_
      refine zk_seq ?_
      refine zc_true rfl ?_
      refine zc_seq ?_
      refine zc_region ?_
      iterate 2 (refine zl_pureL rfl ?_)
      refine zl_call (by first | exact want_none | exact want_L rfl) rfl (by decide) rfl (sAny_calls 1 nm) ?_
      rintro _ u ⟨rfl, hu⟩
      obtain rfl := hu.symm
      refine ⟨_, rfl, ?_⟩
      cases hany : anyW 1 nm
      · rw [Bool.false_or, decide_eq_true (show (1 : Int) = 1 from rfl), Bool.true_and]
        iterate 4 (refine zl_pureL rfl ?_)
        refine z_eqS (by first | exact want_none | exact want_L rfl) (by decide) rfl rfl (fun hc0 => ?_) (fun hc0 => ?_)
        · rw [memB_iff.2 (show nm ∈ walB by rw [hc0]; simp [walB])]
          iterate 3 (refine zl_pureL rfl ?_)
          refine zl_nil ?_
          refine zk_seq ?_
          refine zc_ret ?_
          refine zk_ret_block ?_
          refine zk_ret_then ?_
          exact zk_ret1 (.inr rfl) rfl rfl ⟨rfl, rfl⟩
        rw [memB_no (fun hm => by
          simp only [walB, List.mem_cons, List.not_mem_nil, or_false] at hm
          exact hc0 hm
          )]
        iterate 3 (refine zl_pureL rfl ?_)
        refine zl_nil ?_
        refine zk_seq ?_
        refine zc_ret ?_
        refine zk_ret_block ?_
        refine zk_ret_then ?_
        exact zk_ret1 (.inr rfl) rfl rfl ⟨rfl, rfl⟩
      · rw [Bool.true_or]
        iterate 4 (refine zl_pureL rfl ?_)
        refine zl_skip rfl ?_
        iterate 3 (refine zl_pureL rfl ?_)
        refine zl_nil ?_
        refine zk_seq ?_
        refine zc_ret ?_
        refine zk_ret_block ?_
        refine zk_ret_then ?_
        exact zk_ret1 (.inr rfl) rfl rfl ⟨rfl, rfl⟩
    · refine zc_seq ?_
      refine zc_region ?_
      refine zl_pureL rfl ?_
      refine zl_nil ?_
      refine zk_seq ?_
      refine zc_seq ?_
      refine zc_region ?_
      refine zl_pureL rfl ?_
      refine z_cmpB (r := false) want_none (by decide) rfl rfl rfl (iff_of_false Bool.false_ne_true (by omega)) ?_
      refine zl_pureL rfl ?_
      refine zl_nil ?_
      refine zk_seq ?_
      iterate 2 (refine zc_seq ?_)
      refine zc_region ?_
      refine zl_pureL rfl ?_
      refine zl_nil ?_
      refine zk_seq ?_
      refine zc_block ?_
      refine zc_seq ?_
      refine zc_region ?_
      refine z_cmpB (r := false) want_none (by decide) rfl rfl rfl (iff_of_false Bool.false_ne_true (by omega)) ?_
      refine zl_pureL rfl ?_
      refine zl_nil ?_
      refine zk_seq ?_
      refine zc_false rfl ?_
      refine zc_seq ?_
      refine zc_region ?_
      refine z_cmpB (r := false) want_none (by decide) rfl rfl rfl (iff_of_false Bool.false_ne_true (by omega)) ?_
      refine zl_pureL rfl ?_
      refine zl_nil ?_
      refine zk_seq ?_
      refine zc_false rfl ?_
      refine zc_seq ?_
      refine zc_region ?_
      refine z_cmpB (r := true) want_none (by decide) rfl rfl rfl (iff_of_true rfl (by omega)) ?_
      refine zl_pureL rfl ?_
      refine zl_nil ?_
      refine zk_seq ?_
      refine zc_true rfl ?_
      refine zc_seq ?_
      refine zc_region ?_
      iterate 2 (refine zl_pureL rfl ?_)
      refine zl_call (by first | exact want_none | exact want_L rfl) rfl (by decide) rfl (sAny_calls sp nm) ?_
      rintro _ u ⟨rfl, hu⟩
      obtain rfl := hu.symm
      refine ⟨_, rfl, ?_⟩
      rw [decide_eq_false hs, Bool.false_and, Bool.or_false]
      cases anyW sp nm
      · iterate 4 (refine zl_pureL rfl ?_)
        refine zl_skip rfl ?_
        iterate 3 (refine zl_pureL rfl ?_)
        refine zl_nil ?_
        refine zk_seq ?_
        refine zc_ret ?_
        refine zk_ret_block ?_
        refine zk_ret_then ?_
        exact zk_ret1 (.inr rfl) rfl rfl ⟨rfl, rfl⟩
      · iterate 4 (refine zl_pureL rfl ?_)
        refine zl_skip rfl ?_
        iterate 3 (refine zl_pureL rfl ?_)
        refine zl_nil ?_
        refine zk_seq ?_
        refine zc_ret ?_
        refine zk_ret_block ?_
        refine zk_ret_then ?_
        exact zk_ret1 (.inr rfl) rfl rfl ⟨rfl, rfl⟩
  rw [if_neg c3]
  by_cases c4 : sc = 4
  · subst c4
    rw [if_pos rfl]
    by_cases hs : sp = 1
    · subst hs
      rw [decide_eq_true (show (1 : Int) = 1 from rfl), Bool.true_and]
      refine zc_seq ?_
      refine zc_region ?_
      refine zl_pureL rfl ?_
      refine zl_nil ?_
      refine zk_seq ?_
      refine zc_seq ?_
      refine zc_region ?_
      refine zl_pureL rfl ?_
      refine z_cmpB (r := true) want_none (by decide) rfl rfl rfl (iff_of_true rfl (by omega)) ?_
      refine zl_pureL rfl ?_
      refine zl_nil ?_
      refine zk_seq ?_
      iterate 2 (refine zc_seq ?_)
      refine zc_region ?_
      refine zl_pureL rfl ?_
      refine zl_nil ?_
      refine zk_seq ?_
      refine zc_block ?_
      refine zc_seq ?_
      refine zc_region ?_
      refine z_cmpB (r := false) want_none (by decide) rfl rfl rfl (iff_of_false Bool.false_ne_true (by omega)) ?_
      refine zl_pureL rfl ?_
      refine zl_nil ?_
      refine zk_seq ?_
      refine zc_false rfl ?_
      refine zc_seq ?_
      refine zc_region ?_
      refine z_cmpB (r := false) want_none (by decide) rfl rfl rfl (iff_of_false Bool.false_ne_true (by omega)) ?_
      refine zl_pureL rfl ?_
      refine zl_nil ?_
      refine zk_seq ?_
      refine zc_false rfl ?_
      refine zc_seq ?_
      refine zc_region ?_
      refine z_cmpB (r := false) want_none (by decide) rfl rfl rfl (iff_of_false Bool.false_ne_true (by omega)) ?_
      refine zl_pureL rfl ?_
      refine zl_nil ?_
      refine zk_seq ?_
      refine zc_false rfl ?_
      refine zc_seq ?_
      refine zc_region ?_
      refine z_cmpB (r := true) want_none (by decide) rfl rfl rfl (iff_of_true rfl (by omega)) ?_
      refine zl_pureL rfl ?_
      refine zl_nil ?_
      refine zk_seq ?_
      refine zc_true rfl ?_
      refine zc_seq ?_
      refine zc_region ?_
      iterate 3 (refine zl_pureL rfl ?_)
      refine z_eqS (by first | exact want_none | exact want_L rfl) (by decide) rfl rfl (fun hc0 => ?_) (fun hc0 => ?_)
      · rw [memB_iff.2 (show nm ∈ walT by rw [hc0]; simp [walT])]
        iterate 2 (refine zl_pureL rfl ?_)
        refine zl_skip rfl ?_
        iterate 3 (refine zl_pureL rfl ?_)
        refine zl_skip rfl ?_
        iterate 3 (refine zl_pureL rfl ?_)
        refine zl_nil ?_
        refine zk_seq ?_
        refine zc_ret ?_
        refine zk_ret_block ?_
        refine zk_ret_then ?_
        exact zk_ret1 (.inr rfl) rfl rfl ⟨rfl, rfl⟩
      iterate 2 (refine zl_pureL rfl ?_)
      refine z_eqS (by first | exact want_none | exact want_L rfl) (by decide) rfl rfl (fun hc1 => ?_) (fun hc1 => ?_)
      · rw [memB_iff.2 (show nm ∈ walT by rw [hc1]; simp [walT])]
        iterate 3 (refine zl_pureL rfl ?_)
        refine zl_skip rfl ?_
        iterate 3 (refine zl_pureL rfl ?_)
        refine zl_nil ?_
        refine zk_seq ?_
        refine zc_ret ?_
        refine zk_ret_block ?_
        refine zk_ret_then ?_
        exact zk_ret1 (.inr rfl) rfl rfl ⟨rfl, rfl⟩
      iterate 3 (refine zl_pureL rfl ?_)
      refine z_eqS (by first | exact want_none | exact want_L rfl) (by decide) rfl rfl (fun hc2 => ?_) (fun hc2 => ?_)
      · rw [memB_iff.2 (show nm ∈ walT by rw [hc2]; simp [walT])]
        iterate 3 (refine zl_pureL rfl ?_)
        refine zl_nil ?_
        refine zk_seq ?_
        refine zc_ret ?_
        refine zk_ret_block ?_
        refine zk_ret_then ?_
        exact zk_ret1 (.inr rfl) rfl rfl ⟨rfl, rfl⟩
      rw [memB_no (fun hm => by
        simp only [walT, List.mem_cons, List.not_mem_nil, or_false] at hm
        rcases hm with hm | hm | hm
        · exact hc0 hm
        · exact hc1 hm
        · exact hc2 hm
        )]
      iterate 3 (refine zl_pureL rfl ?_)
      refine zl_nil ?_
      refine zk_seq ?_
      refine zc_ret ?_
      refine zk_ret_block ?_
      refine zk_ret_then ?_
      exact zk_ret1 (.inr rfl) rfl rfl ⟨rfl, rfl⟩
    · rw [decide_eq_false hs, Bool.false_and]
      refine zc_seq ?_
      refine zc_region ?_
      refine zl_pureL rfl ?_
      refine zl_nil ?_
      refine zk_seq ?_
      refine zc_seq ?_
      refine zc_region ?_
      refine zl_pureL rfl ?_
      refine z_cmpB (r := false) want_none (by decide) rfl rfl rfl (iff_of_false Bool.false_ne_true (by omega)) ?_
      refine zl_pureL rfl ?_
      refine zl_nil ?_
      refine zk_seq ?_
      iterate 2 (refine zc_seq ?_)
      refine zc_region ?_
      refine zl_pureL rfl ?_
      refine zl_nil ?_
      refine zk_seq ?_
      refine zc_block ?_
      refine zc_seq ?_
      refine zc_region ?_
      refine z_cmpB (r := false) want_none (by decide) rfl rfl rfl (iff_of_false Bool.false_ne_true (by omega)) ?_
      refine zl_pureL rfl ?_
      refine zl_nil ?_
      refine zk_seq ?_
      refine zc_false rfl ?_
      refine zc_seq ?_
      refine zc_region ?_
      refine z_cmpB (r := false) want_none (by decide) rfl rfl rfl (iff_of_false Bool.false_ne_true (by omega)) ?_
      refine zl_pureL rfl ?_
      refine zl_nil ?_
      refine zk_seq ?_
      refine zc_false rfl ?_
      refine zc_seq ?_
      refine zc_region ?_
      refine z_cmpB (r := false) want_none (by decide) rfl rfl rfl (iff_of_false Bool.false_ne_true (by omega)) ?_
      refine zl_pureL rfl ?_
      refine zl_nil ?_
      refine zk_seq ?_
      refine zc_false rfl ?_
      refine zc_seq ?_
      refine zc_region ?_
      refine z_cmpB (r := true) want_none (by decide) rfl rfl rfl (iff_of_true rfl (by omega)) ?_
      refine zl_pureL rfl ?_
      refine zl_nil ?_
      refine zk_seq ?_
      refine zc_true rfl ?_
      refine zc_seq ?_
      refine zc_region ?_
      iterate 3 (refine zl_pureL rfl ?_)
      refine zl_skip rfl ?_
      iterate 2 (refine zl_pureL rfl ?_)
      refine zl_skip rfl ?_
      iterate 3 (refine zl_pureL rfl ?_)
      refine zl_skip rfl ?_
      iterate 3 (refine zl_pureL rfl ?_)
      refine zl_nil ?_
      refine zk_seq ?_
      refine zc_ret ?_
      refine zk_ret_block ?_
      refine zk_ret_then ?_
      exact zk_ret1 (.inr rfl) rfl rfl ⟨rfl, rfl⟩
  rw [if_neg c4]
  by_cases hs : sp = 1
  · refine zc_seq ?_
    refine zc_region ?_
    refine zl_pureL rfl ?_
    refine zl_nil ?_
    refine zk_seq ?_
    refine zc_seq ?_
    refine zc_region ?_
    refine zl_pureL rfl ?_
    refine z_cmpB (r := true) want_none (by decide) rfl rfl rfl (iff_of_true rfl (by omega)) ?_
    refine zl_pureL rfl ?_
    refine zl_nil ?_
    refine zk_seq ?_
    iterate 2 (refine zc_seq ?_)
    refine zc_region ?_
    refine zl_pureL rfl ?_
    refine zl_nil ?_
    refine zk_seq ?_
    refine zc_block ?_
    refine zc_seq ?_
    refine zc_region ?_
    refine z_cmpB (r := false) want_none (by decide) rfl rfl rfl (iff_of_false Bool.false_ne_true (by omega)) ?_
    refine zl_pureL rfl ?_
    refine zl_nil ?_
    refine zk_seq ?_
    refine zc_false rfl ?_
    refine zc_seq ?_
    refine zc_region ?_
    refine z_cmpB (r := false) want_none (by decide) rfl rfl rfl (iff_of_false Bool.false_ne_true (by omega)) ?_
    refine zl_pureL rfl ?_
    refine zl_nil ?_
    refine zk_seq ?_
    refine zc_false rfl ?_
    refine zc_seq ?_
    refine zc_region ?_
    refine z_cmpB (r := false) want_none (by decide) rfl rfl rfl (iff_of_false Bool.false_ne_true (by omega)) ?_
    refine zl_pureL rfl ?_
    refine zl_nil ?_
    refine zk_seq ?_
    refine zc_false rfl ?_
    refine zc_seq ?_
    refine zc_region ?_
    refine z_cmpB (r := false) want_none (by decide) rfl rfl rfl (iff_of_false Bool.false_ne_true (by omega)) ?_
    refine zl_pureL rfl ?_
    refine zl_nil ?_
    refine zk_seq ?_
    refine zc_false rfl ?_
    refine zc_skip ?_
    refine zk_norm_block ?_
    refine zk_seq ?_
    refine zc_seq ?_
    refine zc_region ?_
    refine zl_pureL rfl ?_
    refine zl_nil ?_
    refine zk_seq ?_
    refine zc_ret ?_
    exact zk_ret1 (.inr rfl) rfl rfl ⟨rfl, rfl⟩
  · refine zc_seq ?_
    refine zc_region ?_
    refine zl_pureL rfl ?_
    refine zl_nil ?_
    refine zk_seq ?_
    refine zc_seq ?_
    refine zc_region ?_
    refine zl_pureL rfl ?_
    refine z_cmpB (r := false) want_none (by decide) rfl rfl rfl (iff_of_false Bool.false_ne_true (by omega)) ?_
    refine zl_pureL rfl ?_
    refine zl_nil ?_
    refine zk_seq ?_
    iterate 2 (refine zc_seq ?_)
    refine zc_region ?_
    refine zl_pureL rfl ?_
    refine zl_nil ?_
    refine zk_seq ?_
    refine zc_block ?_
    refine zc_seq ?_
    refine zc_region ?_
    refine z_cmpB (r := false) want_none (by decide) rfl rfl rfl (iff_of_false Bool.false_ne_true (by omega)) ?_
    refine zl_pureL rfl ?_
    refine zl_nil ?_
    refine zk_seq ?_
    refine zc_false rfl ?_
    refine zc_seq ?_
    refine zc_region ?_
    refine z_cmpB (r := false) want_none (by decide) rfl rfl rfl (iff_of_false Bool.false_ne_true (by omega)) ?_
    refine zl_pureL rfl ?_
    refine zl_nil ?_
    refine zk_seq ?_
    refine zc_false rfl ?_
    refine zc_seq ?_
    refine zc_region ?_
    refine z_cmpB (r := false) want_none (by decide) rfl rfl rfl (iff_of_false Bool.false_ne_true (by omega)) ?_
    refine zl_pureL rfl ?_
    refine zl_nil ?_
    refine zk_seq ?_
    refine zc_false rfl ?_
    refine zc_seq ?_
    refine zc_region ?_
    refine z_cmpB (r := false) want_none (by decide) rfl rfl rfl (iff_of_false Bool.false_ne_true (by omega)) ?_
    refine zl_pureL rfl ?_
    refine zl_nil ?_
    refine zk_seq ?_
    refine zc_false rfl ?_
    refine zc_skip ?_
    refine zk_norm_block ?_
    refine zk_seq ?_
    refine zc_seq ?_
    refine zc_region ?_
    refine zl_pureL rfl ?_
    refine zl_nil ?_
    refine zk_seq ?_
    refine zc_ret ?_
    exact zk_ret1 (.inr rfl) rfl rfl ⟨rfl, rfl⟩
end Go.Proofs.Yteeibieaapiomaa.D
