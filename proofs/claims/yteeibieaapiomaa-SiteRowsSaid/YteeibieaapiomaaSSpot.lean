import Derived.Test.YteeibieaapiomaaSHas
/- A Site: where things go; Add, Type. -/
namespace Go.Proofs.Yteeibieaapiomaa.D
open Go Go.Z Go.Proofs
set_option linter.unusedVariables false
def sTab : List ByteArray := [⟨#[116, 97, 98, 108, 101]⟩]
def sTem : List ByteArray := [⟨#[116, 101, 109, 112, 108, 97, 116, 101]⟩]
def sFive : List ByteArray := [⟨#[116, 97, 98, 108, 101]⟩, ⟨#[116, 98, 111, 100, 121]⟩, ⟨#[116, 102, 111, 111, 116]⟩, ⟨#[116, 104, 101, 97, 100]⟩, ⟨#[116, 114]⟩]
def fosN (N : List ND) (E : List Ent) : Int × Int :=
  if lastF E sTab (E.length - 1) < lastF E sTem (E.length - 1) then ((E.getD (lastF E sTem (E.length - 1)) en0).n, -1)
  else if lastF E sTab (E.length - 1) = 0 then (0, -1)
  else if 0 ≤ upOf N (E.getD (lastF E sTab (E.length - 1)) en0).n then (upOf N (E.getD (lastF E sTab (E.length - 1)) en0).n, (E.getD (lastF E sTab (E.length - 1)) en0).n)
  else ((E.getD (lastF E sTab (E.length - 1) - 1) en0).n, -1)
def spotN (N : List ND) (E : List Ent) (f : Bool) (n : Int) : Int × Int := if f = true ∧ isNd N n sFive = true then fosN N E else (n, -1)
section
variable {w w' : World} {s : Nat} {q : SP} {E : List Ent} {I : List Bool} {m : ByteArray → Int} {N : List ND} {f : Bool}
theorem sFoster_calls (h : IsS w s q E I m N f) (b : Bool) : Calls Try.prog 37 [.pointer (some ⟨s, 0, none⟩), .bool b].toArray w fun x w' => x = .returned (.tuple #[]) ∧ IsS w' s q E I m N b ∧ WrS w w' s q q := by
  have hb := h.blk
  refine calls_zc (n := 8) (f := 37) (fn := Try.f37) Try.func37 rfl rfl (by simp) ?_
  refine zc_region ?_
  iterate 3 (refine zl_pureL rfl ?_)
  refine z_fa want_none (by decide) rfl ?_
  refine z_store (by first | exact want_none | exact want_L rfl) rfl rfl rfl (by assumption) (by first | exact Nat.le_refl _ | simp [Value.cells]) (by simp [Value.cells, Value.oneCell']) (fun w1 hU1 => ?_)
  refine zl_nil ?_
  exact zk_ret0 (.inl rfl) rfl ⟨rfl, h.blkW hU1 h.own h.iso, ⟨hU1.chg.mono (fun k _ hk => .inl hk), fun _ h => .inl h⟩⟩
set_option maxRecDepth 100000 in
set_option maxHeartbeats 16000000 in
theorem sSpot_calls (h : IsS w s q E I m N f) (hB : BigT N) (hE0 : 0 < E.length) (hE : E.length ≤ 1000000) (hinv : ∀ l, ¬ someM m l → lastF E l (E.length - 1) = 0) (n : Int) :
    Calls Try.prog 42 [.pointer (some ⟨s, 0, none⟩), .int .i64 n].toArray w fun x w' => x = .returned (.tuple #[.int .i64 (spotN N E f n).1, .int .i64 (spotN N E f n).2]) ∧ Chg w w' No := by
  have hb := h.blk
  obtain ⟨Ao, co, hvo, hco⟩ := h.own.rd.form
  rw [hvo] at hb
  refine calls_zc (n := 71) (f := 42) (fn := Try.f42) Try.func42 rfl rfl (by simp) ?_
  unfold spotN
  cases f
  · rw [if_neg (fun hh => absurd hh.1 Bool.false_ne_true)]
    refine zc_seq ?_
    refine zc_region ?_
    iterate 2 (refine zl_pureL rfl ?_)
    refine zl_nil ?_
    refine zk_seq ?_
    iterate 2 (refine zc_seq ?_)
    refine zc_region ?_
    iterate 2 (refine zl_pureL rfl ?_)
    refine z_fa want_none (by decide) rfl ?_
    refine z_loadB want_none (by decide) rfl (by assumption) (by rfl) ?_
    iterate 4 (refine zl_pureL rfl ?_)
    iterate 2 (refine zl_skip rfl ?_)
    iterate 2 (refine zl_pureL rfl ?_)
    refine zl_nil ?_
    refine zk_seq ?_
    refine zc_true rfl ?_
    refine zc_seq ?_
    refine zc_region ?_
    iterate 3 (refine zl_pureL rfl ?_)
    refine zl_nil ?_
    refine zk_seq ?_
    refine zc_ret ?_
    refine zk_ret_then ?_
    exact zk_ret2 (.inr rfl) rfl rfl rfl ⟨rfl, Chg.refl _ _⟩
  refine zc_seq ?_
  refine zc_region ?_
  iterate 2 (refine zl_pureL rfl ?_)
  refine zl_nil ?_
  refine zk_seq ?_
  iterate 2 (refine zc_seq ?_)
  refine zc_region ?_
  iterate 2 (refine zl_pureL rfl ?_)
  refine z_fa want_none (by decide) rfl ?_
  refine z_loadB want_none (by decide) rfl (by assumption) (by rfl) ?_
  iterate 4 (refine zl_pureL rfl ?_)
  refine z_bsE (nmsC sFive) (by first | exact want_none | exact want_L rfl) (by decide) rfl (by decide) (by decide) (by kernel_rfl) (fun w1 b1 hN1 => ?_)
  have hn1 : NS w1 (.slice (some ⟨b1, 0, none⟩) 5 5) sFive := RdS.new hN1 rfl (nmsC_one _)
  have h1 := h.no hN1.chg
  skip
  refine zl_call (by first | exact want_none | exact want_L rfl) rfl (by decide) rfl (sIsN_calls h1 hB hn1 (by decide) n) ?_
  rintro _ w2 ⟨rfl, hC2⟩
  have hC02 : Chg w w2 No := hN1.chg.no hC2
  refine ⟨_, rfl, ?_⟩
  cases hisn : isNd N n sFive
  · rw [if_neg (fun hh => absurd hh.2 Bool.false_ne_true)]
    iterate 2 (refine zl_pureL rfl ?_)
    refine zl_nil ?_
    refine zk_seq ?_
    refine zc_true rfl ?_
    refine zc_seq ?_
    refine zc_region ?_
    iterate 3 (refine zl_pureL rfl ?_)
    refine zl_nil ?_
    refine zk_seq ?_
    refine zc_ret ?_
    refine zk_ret_then ?_
    exact zk_ret2 (.inr rfl) rfl rfl rfl ⟨rfl, hC02⟩
  rw [if_pos ⟨rfl, rfl⟩]
  iterate 2 (refine zl_pureL rfl ?_)
  refine zl_nil ?_
  refine zk_seq ?_
  refine zc_false rfl ?_
  refine zc_skip ?_
  refine zk_seq ?_
  refine zc_seq ?_
  refine zc_region ?_
  refine zl_pureL rfl ?_
  refine z_bsE (nmsC sTab) (by first | exact want_none | exact want_L rfl) (by decide) rfl (by decide) (by decide) (by kernel_rfl) (fun w3 b3 hN3 => ?_)
  have hn3 : NS w3 (.slice (some ⟨b3, 0, none⟩) 1 1) sTab := RdS.new hN3 rfl (nmsC_one _)
  have hC03 := hC02.no hN3.chg
  skip
  refine zl_call (by first | exact want_none | exact want_L rfl) rfl (by decide) rfl (sLastOf_calls (h.no hC03) hn3 (by decide) hE0 hE (hinv _)) ?_
  rintro _ w4 ⟨rfl, hC4⟩
  have hC04 := hC03.no hC4
  refine ⟨_, rfl, ?_⟩
  refine zl_pureL rfl ?_
  refine z_bsE (nmsC sTem) (by first | exact want_none | exact want_L rfl) (by decide) rfl (by decide) (by decide) (by kernel_rfl) (fun w5 b5 hN5 => ?_)
  have hn5 : NS w5 (.slice (some ⟨b5, 0, none⟩) 1 1) sTem := RdS.new hN5 rfl (nmsC_one _)
  have hC05 := hC04.no hN5.chg
  skip
  refine zl_call (by first | exact want_none | exact want_L rfl) rfl (by decide) rfl (sLastOf_calls (h.no hC05) hn5 (by decide) hE0 hE (hinv _)) ?_
  rintro _ w6 ⟨rfl, hC6⟩
  have hC06 := hC05.no hC6
  refine ⟨_, rfl, ?_⟩
  unfold fosN
  have hl1 := lastF_le E sTab (E.length - 1)
  have hl2 := lastF_le E sTem (E.length - 1)
  obtain ⟨a, ha⟩ : ∃ a, a = lastF E sTab (E.length - 1) := ⟨_, rfl⟩
  obtain ⟨t, ht⟩ : ∃ t, t = lastF E sTem (E.length - 1) := ⟨_, rfl⟩
  rw [← ha] at hl1 ⊢
  rw [← ht] at hl2 ⊢
  have hb6 := hb.no hC06
  by_cases hat : a < t
  · rw [if_pos hat]
    obtain ⟨b, o, c', hv, h0, _, _⟩ := (h.no hC06).at_ t (by omega)
    rw [hvo] at hv
    cases hv
    iterate 2 (refine zl_pureL rfl ?_)
    refine zl_nil ?_
    refine zk_seq ?_
    refine zc_seq ?_
    refine zc_block ?_
    refine zc_seq ?_
    refine zc_region ?_
    iterate 2 (refine zl_pureL rfl ?_)
    refine z_cmpB (r := true) want_none (by decide) rfl rfl rfl (iff_of_true rfl (by omega)) ?_
    refine zl_pureL rfl ?_
    refine zl_nil ?_
    refine zk_seq ?_
    refine zc_true rfl ?_
    refine zc_seq ?_
    refine zc_region ?_
    iterate 2 (refine zl_pureL rfl ?_)
    refine z_fa want_none (by decide) rfl ?_
    refine z_loadB want_none (by decide) rfl (by assumption) (by rfl) ?_
    refine zl_pureL rfl ?_
    refine z_ia want_none (by decide) rfl rfl (by omega) (by omega) ?_
    refine z_fa want_none (by decide) rfl ?_
    refine z_load1 want_none (by decide) rfl (by assumption) ?_
    iterate 2 (refine zl_pureL rfl ?_)
    refine zl_nil ?_
    refine zk_seq ?_
    refine zc_ret ?_
    refine zk_ret_block ?_
    refine zk_ret_then ?_
    exact zk_ret2 (.inr rfl) rfl rfl rfl ⟨rfl, hC06⟩
  rw [if_neg hat]
  by_cases ha0 : a = 0
  · rw [if_pos ha0]
    iterate 2 (refine zl_pureL rfl ?_)
    refine zl_nil ?_
    refine zk_seq ?_
    refine zc_seq ?_
    refine zc_block ?_
    refine zc_seq ?_
    refine zc_region ?_
    iterate 2 (refine zl_pureL rfl ?_)
    refine z_cmpB (r := false) want_none (by decide) rfl rfl rfl (iff_of_false Bool.false_ne_true (by omega)) ?_
    refine zl_pureL rfl ?_
    refine zl_nil ?_
    refine zk_seq ?_
    refine zc_false rfl ?_
    refine zc_seq ?_
    refine zc_region ?_
    refine zl_pureL rfl ?_
    refine z_cmpB (r := true) want_none (by decide) rfl rfl rfl (iff_of_true rfl (by omega)) ?_
    refine zl_pureL rfl ?_
    refine zl_nil ?_
    refine zk_seq ?_
    refine zc_true rfl ?_
    refine zc_seq ?_
    refine zc_region ?_
    iterate 2 (refine zl_pureL rfl ?_)
    refine zl_nil ?_
    refine zk_seq ?_
    refine zc_ret ?_
    refine zk_ret_block ?_
    refine zk_ret_then ?_
    exact zk_ret2 (.inr rfl) rfl rfl rfl ⟨rfl, hC06⟩
  rw [if_neg ha0]
  obtain ⟨b, o, c', hv, h0, _, _⟩ := (h.no hC06).at_ a (by omega)
  rw [hvo] at hv
  cases hv
  iterate 2 (refine zl_pureL rfl ?_)
  refine zl_nil ?_
  refine zk_seq ?_
  refine zc_seq ?_
  refine zc_block ?_
  refine zc_seq ?_
  refine zc_region ?_
  iterate 2 (refine zl_pureL rfl ?_)
  refine z_cmpB (r := false) want_none (by decide) rfl rfl rfl (iff_of_false Bool.false_ne_true (by omega)) ?_
  refine zl_pureL rfl ?_
  refine zl_nil ?_
  refine zk_seq ?_
  refine zc_false rfl ?_
  refine zc_seq ?_
  refine zc_region ?_
  refine zl_pureL rfl ?_
  refine z_cmpB (r := false) want_none (by decide) rfl rfl rfl (iff_of_false Bool.false_ne_true (by omega)) ?_
  refine zl_pureL rfl ?_
  refine zl_nil ?_
  refine zk_seq ?_
  refine zc_false rfl ?_
  refine zc_skip ?_
  refine zk_norm_block ?_
  refine zk_seq ?_
  refine zc_seq ?_
  refine zc_region ?_
  iterate 2 (refine zl_pureL rfl ?_)
  refine z_fa want_none (by decide) rfl ?_
  refine z_loadB want_none (by decide) rfl (by assumption) (by rfl) ?_
  refine zl_pureL rfl ?_
  refine z_ia want_none (by decide) rfl rfl (by omega) (by omega) ?_
  refine z_fa want_none (by decide) rfl ?_
  refine z_load1 want_none (by decide) rfl (by assumption) ?_
  refine zl_pureL rfl ?_
  refine zl_nil ?_
  refine zk_seq ?_
  iterate 2 (refine zc_seq ?_)
  refine zc_region ?_
  iterate 2 (refine zl_pureL rfl ?_)
  refine z_fa want_none (by decide) rfl ?_
  refine z_loadB want_none (by decide) rfl (by assumption) (by rfl) ?_
  refine zl_pureL rfl ?_
  refine zl_call (by first | exact want_none | exact want_L rfl) rfl (by decide) rfl (up_calls (h.no hC06).doc (E.getD a en0).n) ?_
  rintro _ u ⟨rfl, hu⟩
  obtain rfl := hu.symm
  refine ⟨_, rfl, ?_⟩
  obtain ⟨up, hup⟩ : ∃ up, up = upOf N (E.getD a en0).n := ⟨_, rfl⟩
  rw [← hup]
  by_cases hu0 : 0 ≤ up
  · rw [if_pos hu0]
    refine zl_pureL rfl ?_
    refine zl_nil ?_
    refine zk_seq ?_
    refine zc_seq ?_
    refine zc_region ?_
    refine zl_pureL rfl ?_
    refine z_cmpB (r := true) want_none (by decide) rfl rfl rfl (iff_of_true rfl (by omega)) ?_
    refine zl_nil ?_
    refine zk_seq ?_
    refine zc_true rfl ?_
    refine zc_seq ?_
    refine zc_region ?_
    iterate 4 (refine zl_pureL rfl ?_)
    refine zl_nil ?_
    refine zk_seq ?_
    refine zc_ret ?_
    refine zk_ret_then ?_
    exact zk_ret2 (.inr rfl) rfl rfl rfl ⟨rfl, hC06⟩
  · rw [if_neg hu0]
    obtain ⟨b', o', c'', hv', h0', _, _⟩ := (h.no hC06).at_ (a - 1) (by omega)
    rw [hvo] at hv'
    cases hv'
    refine zl_pureL rfl ?_
    refine zl_nil ?_
    refine zk_seq ?_
    refine zc_seq ?_
    refine zc_region ?_
    refine zl_pureL rfl ?_
    refine z_cmpB (r := false) want_none (by decide) rfl rfl rfl (iff_of_false Bool.false_ne_true (by omega)) ?_
    refine zl_nil ?_
    refine zk_seq ?_
    refine zc_false rfl ?_
    refine zc_skip ?_
    refine zk_seq ?_
    refine zc_seq ?_
    refine zc_region ?_
    iterate 2 (refine zl_pureL rfl ?_)
    refine z_fa want_none (by decide) rfl ?_
    refine z_loadB want_none (by decide) rfl (by assumption) (by rfl) ?_
    refine zl_pureL rfl ?_
    refine z_sub want_none (by decide) rfl rfl (by omega) (by omega) ?_
    refine z_ia want_none (by decide) rfl rfl (by omega) (by omega) ?_
    refine z_fa want_none (by decide) rfl ?_
    refine z_load1 (by first | exact want_none | exact want_L rfl) (by decide) rfl (cell_at h0' (by omega)) ?_
    iterate 2 (refine zl_pureL rfl ?_)
    refine zl_nil ?_
    refine zk_seq ?_
    refine zc_ret ?_
    exact zk_ret2 (.inr rfl) rfl rfl rfl ⟨rfl, hC06⟩
end
end Go.Proofs.Yteeibieaapiomaa.D
