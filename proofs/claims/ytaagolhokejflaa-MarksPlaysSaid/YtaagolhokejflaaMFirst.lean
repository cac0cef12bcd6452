import Derived.Test.YtaagolhokejflaaMOut
import Derived.Test.YtaagolhokejflaaMLaw1
/- MarksFirst: the walk. -/
namespace Go.Proofs.Ytaagolhokejflaa.M
open Go Go.Z Go.Proofs
set_option linter.unusedVariables false
def aK : List At := [(⟨#[97]⟩, ⟨#[49]⟩), (⟨#[98]⟩, ⟨#[50]⟩)]
def aX : List At := [(⟨#[98]⟩, ⟨#[50]⟩), (⟨#[97]⟩, ⟨#[49]⟩)]
def aJ (d : Nat) : List At := [(⟨#[110]⟩, Utf8.encode (97 + d))]
def fK (k : Int) (i : Nat) : Mark := ⟨10 + i, nameN k, aK⟩
def fX (k : Int) : Mark := ⟨13, nameN k, aX⟩
def fJ (j : Int) (d : Nat) : Mark := ⟨100 + d, nameN j, aJ d⟩
def fRow (j : Int) (d q : Nat) : List Mark := (List.range q).map fun r => fJ j (d + r)
def fL (k j : Int) (n : Nat) : Nat → List Mark
  | 0 => []
  | i + 1 => fL k j n i ++ [fK k i] ++ fRow j (i * n) n
theorem alike_KK (k : Int) (r s : Nat) : alike (fK k r) (fK k s) = true := by
  have : tagSame aK aK = true := by decide
  simp [alike, keyEq, fK, this]
theorem alike_XK (k : Int) (s : Nat) : alike (fX k) (fK k s) = true := by
  have : tagSame aK aX = true := by decide
  have h2 : (aK.length : Int) = aX.length := by decide
  simp [alike, keyEq, fK, fX, this, h2]
theorem alike_KJ (k j : Int) (r d : Nat) : alike (fK k r) (fJ j d) = false := by simp [alike, keyEq, fK, fJ, aK, aJ]
theorem alike_XJ (k j : Int) (d : Nat) : alike (fX k) (fJ j d) = false := by simp [alike, keyEq, fX, fJ, aX, aJ]
theorem alike_JK (k j : Int) (r d : Nat) : alike (fJ j d) (fK k r) = false := by simp [alike, keyEq, fK, fJ, aK, aJ]
theorem alike_JJ (j : Int) {d d' : Nat} (hd : d < 31) (hd' : d' < 31) (h : d ≠ d') : alike (fJ j d) (fJ j d') = false := by
  have : Utf8.encode (97 + (d : Int)) ≠ Utf8.encode (97 + (d' : Int)) := fun he => h (by
    have := encode_inj (i := 97 + (d : Int)) (j := 97 + (d' : Int)) (by omega) (by omega) (by omega) (by omega) he; omega)
  simp [alike, keyEq, fJ, aJ, tagSame, atEq, this]
theorem fL_mem (k j : Int) (n : Nat) : ∀ (i : Nat) (m : Mark), m ∈ fL k j n i → (∃ r, r < i ∧ m = fK k r) ∨ ∃ d, d < i * n ∧ m = fJ j d
  | 0, m, h => by cases h
  | i + 1, m, h => by
    simp only [fL, List.mem_append, List.mem_singleton, fRow, List.mem_map, List.mem_range] at h
    rcases h with (h | rfl) | ⟨r, hr, rfl⟩
    · rcases fL_mem k j n i m h with ⟨r, h1, h2⟩ | ⟨d, h1, h2⟩
      · exact .inl ⟨r, by omega, h2⟩
      · exact .inr ⟨d, by rw [Nat.add_mul]; omega, h2⟩
    · exact .inl ⟨i, by omega, rfl⟩
    · exact .inr ⟨i * n + r, by rw [Nat.add_mul]; omega, rfl⟩
theorem fRow_K (k j : Int) (r d q : Nat) : (fRow j d q).filter (alike (fK k r)) = [] := List.filter_eq_nil_iff.2 (fun m hm => by
  simp only [fRow, List.mem_map] at hm
  obtain ⟨s, _, rfl⟩ := hm
  rw [alike_KJ]; exact Bool.false_ne_true)
theorem fRow_X (k j : Int) (d q : Nat) : (fRow j d q).filter (alike (fX k)) = [] := List.filter_eq_nil_iff.2 (fun m hm => by
  simp only [fRow, List.mem_map] at hm
  obtain ⟨s, _, rfl⟩ := hm
  rw [alike_XJ]; exact Bool.false_ne_true)
theorem fL_K (k j : Int) (n r : Nat) : ∀ i, ((fL k j n i).filter (alike (fK k r))).length = i
  | 0 => rfl
  | i + 1 => by
    unfold fL
    rw [List.filter_append, List.filter_append, fRow_K, List.append_nil, List.length_append, fL_K k j n r i, List.filter_cons, alike_KK]; rfl
theorem fL_X (k j : Int) (n : Nat) : ∀ i, ((fL k j n i).filter (alike (fX k))).length = i
  | 0 => rfl
  | i + 1 => by
    unfold fL
    rw [List.filter_append, List.filter_append, fRow_X, List.append_nil, List.length_append, fL_X k j n i, List.filter_cons, alike_XK]; rfl
theorem fRow_len (j : Int) (d q : Nat) : (fRow j d q).length = q := by simp [fRow]
theorem fL_len (k j : Int) (n : Nat) : ∀ i, (fL k j n i).length = i + i * n
  | 0 => by simp [fL]
  | i + 1 => by unfold fL; rw [List.length_append, List.length_append, fL_len k j n i, fRow_len, Nat.add_mul]; simp; omega
theorem pushK (k j : Int) (n i : Nat) (hi : i ≤ 2) : pushM (fL k j n i) (fK k i) = fL k j n i ++ [fK k i] ++ fRow j (i * n) 0 := by
  rw [pushM_few _ _ (by rw [fL_K]; exact hi)]; simp [fRow]
theorem pushJ (k j : Int) (n i q : Nat) (hi : i ≤ 2) (hn : n ≤ 3) (hq : q < n) : pushM (fL k j n i ++ [fK k i] ++ fRow j (i * n) q) (fJ j (i * n + q)) = fL k j n i ++ [fK k i] ++ fRow j (i * n) (q + 1) := by
  have hin : i * n ≤ 2 * 3 := Nat.mul_le_mul hi hn
  have : (fL k j n i ++ [fK k i] ++ fRow j (i * n) q).filter (alike (fJ j (i * n + q))) = [] := List.filter_eq_nil_iff.2 (fun m hm => by
    simp only [List.mem_append, List.mem_singleton, fRow, List.mem_map, List.mem_range] at hm
    rcases hm with (h | rfl) | ⟨r, hr, rfl⟩
    · rcases fL_mem k j n i m h with ⟨r, h1, rfl⟩ | ⟨d, h1, rfl⟩
      · rw [alike_JK]; exact Bool.false_ne_true
      · rw [alike_JJ j (by omega) (by omega) (by omega)]; exact Bool.false_ne_true
    · rw [alike_JK]; exact Bool.false_ne_true
    · rw [alike_JJ j (by omega) (by omega) (by omega)]; exact Bool.false_ne_true)
  rw [pushM_few _ _ (by rw [this]; exact Nat.zero_le _)]
  simp [fRow, List.range_succ]
theorem beginN_0 (L : List Mark) (h : ∀ m ∈ L, 0 ≤ m.node) : ∀ n, n ≤ L.length → beginN L n = 0
  | 0, _ => rfl
  | n + 1, hn => by
    unfold beginN
    rw [if_pos (h _ (getD_mem (by omega)))]
    exact beginN_0 L h n (by omega)
theorem fL_node (k j : Int) (n i : Nat) : ∀ m ∈ fL k j n i, 0 ≤ m.node := fun m hm => by
  rcases fL_mem k j n i m hm with ⟨r, _, rfl⟩ | ⟨d, _, rfl⟩
  · simp [fK]; omega
  · simp [fJ]; omega
theorem fL_few (k j : Int) (n i q : Nat) : Few (fL k j n i ++ [fK k i] ++ fRow j (i * n) q) := fun m hm => by
  simp only [List.mem_append, List.mem_singleton, fRow, List.mem_map, List.mem_range] at hm
  rcases hm with (h | rfl) | ⟨r, hr, rfl⟩
  · rcases fL_mem k j n i m h with ⟨r, h1, rfl⟩ | ⟨d, h1, rfl⟩
    · simp [fK, aK]
    · simp [fJ, aJ]
  · simp [fK, aK]
  · simp [fJ, aJ]
theorem fL_few0 (k j : Int) (n i : Nat) : Few (fL k j n i) := fun m hm => by
  rcases fL_mem k j n i m hm with ⟨r, h1, rfl⟩ | ⟨d, h1, rfl⟩
  · simp [fK, aK]
  · simp [fJ, aJ]
theorem fL3_head (k j : Int) (n : Nat) : (fL k j n 3).getD 0 Mark.z = fK k 0 := by simp [fL]
theorem pushX (k j : Int) (n : Nat) : pushM (fL k j n 3) (fX k) = (fL k j n 3).drop 1 ++ [fX k] := by
  have h0 := beginN_0 _ (fL_node k j n 3) _ (Nat.le_refl _)
  unfold pushM
  rw [h0]
  have h3 : manyF (fL k j n 3) (fX k) 0 = 3 := by unfold manyF; rw [List.drop_zero, fL_X]
  rw [if_pos (by rw [h3]; exact Nat.le_refl _)]
  have hl : (fL k j n 3).length - 0 = (2 + 3 * n) + 1 := by rw [fL_len]; omega
  have hf : firstF (fL k j n 3) (fX k) 0 ((fL k j n 3).length - 0) = 0 := by
    rw [hl]; unfold firstF; rw [fL3_head, alike_XK]; rfl
  rw [hf]
  simp [dropM]
theorem of10 (k j : Int) : ∀ n, n ≤ 3 → ofN ((fL k j n 3).drop 1 ++ [fX k]) 10 0 ((fL k j n 3).drop 1 ++ [fX k]).length = -1 ∧ 0 ≤ ofN ((fL k j n 3).drop 1 ++ [fX k]) 11 0 ((fL k j n 3).drop 1 ++ [fX k]).length
  | 0, _ => ⟨rfl, by show (0 : Int) ≤ 0; decide⟩
  | 1, _ => ⟨rfl, by show (0 : Int) ≤ 1; decide⟩
  | 2, _ => ⟨rfl, by show (0 : Int) ≤ 2; decide⟩
  | 3, _ => ⟨rfl, by show (0 : Int) ≤ 3; decide⟩
  | n + 4, h => by omega
theorem MS.front {w : World} {A : Option Addr} {c k : Nat} {L : List Mark} (h : MS w (.slice A L.length c) L) (hk : k ≤ L.length) : MS w (.slice A k c) (L.take k) := by
  obtain ⟨ms, h1, h2⟩ := h
  have hlen := h2.length
  rw [hlen] at h1
  obtain ⟨g1, g2, A', c', hv, hmc, h5⟩ := h1
  cases hv
  have hl : (ms.take k).length = k := by rw [List.length_take, hlen]; omega
  refine ⟨ms.take k, ⟨encM_len _, ?_, A, c, by rw [hl], by rw [hl]; omega, fun hm => ?_⟩, h2.take k⟩
  · rw [encM_take]; intro u hu; exact g2 u (List.mem_of_mem_take hu)
  · obtain ⟨b, o, cells, h6, h7, h8⟩ := h5 (by omega)
    refine ⟨b, o, cells, h6, h7, fun j u hj => h8 j u ?_⟩
    rw [encM_take, List.getElem?_take] at hj
    split at hj
    · exact hj
    · cases hj
theorem Told.flat {w : World} {B c m : Nat} {A : Option Addr} {L : List Mark} (h : Told w B (.slice A m c) L) : Flat A := by
  obtain ⟨ms, h1, h2, _⟩ := h
  obtain ⟨_, _, hv, _⟩ := h1.rd.form
  cases hv
  exact h1.flat
set_option maxHeartbeats 16000000 in
theorem MarksFirst_walk (k j b : Int) (w : World) : Calls Try.prog 5 #[.int .i64 k, .int .i64 j, .int .i64 b] w fun e w' => e = .returned (.bool true) ∧ RowKit.Below w.heap.size w w' := by
  show Calls Try.prog 5 [Value.int .i64 k, .int .i64 j, .int .i64 b].toArray w _
  refine calls_zc (n := 108) (f := 5) (fn := Try.f5) Try.func5 rfl rfl (by simp) ?_
  refine zc_seq ?_
  refine zc_region ?_
  refine zl_pureL rfl ?_
  refine zl_nil ?_
  refine zk_seq ?_
  iterate 2 (refine zc_seq ?_)
  refine zc_region ?_
  refine zl_call (by first | exact want_none | exact want_L rfl) rfl (by decide) rfl known_calls ?_
  rintro _ w1 ⟨rfl, hC1⟩
  refine ⟨_, rfl, ?_⟩
  refine zl_pureL rfl ?_
  refine zl_nil ?_
  refine zk_seq ?_
  refine zc_false rfl ?_
  refine zc_skip ?_
  refine zk_seq ?_
  refine zc_seq ?_
  refine zc_region ?_
  refine zl_call (by first | exact want_none | exact want_L rfl) rfl (by decide) rfl new_calls ?_
  rintro _ w2 ⟨g, rfl, hI, hC2, hge⟩
  refine ⟨_, rfl, ?_⟩
  refine zl_pureL rfl ?_
  refine zl_nil ?_
  refine zk_seq ?_
  iterate 2 (refine zc_seq ?_)
  refine zc_region ?_
  refine zl_pureL rfl ?_
  refine z_eqPN (by first | exact want_none | exact want_L rfl) (by decide) rfl rfl ?_
  refine zl_nil ?_
  refine zk_seq ?_
  refine zc_false rfl ?_
  refine zc_skip ?_
  refine zk_seq ?_
  refine zc_seq ?_
  refine zc_region ?_
  refine zl_pureL rfl ?_
  refine zl_call (by first | exact want_none | exact want_L rfl) rfl (by decide) rfl (within_calls (n := 4) (by decide) (by decide)) ?_
  rintro _ w3 ⟨rfl, rfl⟩
  refine ⟨_, rfl, ?_⟩
  have h4 : 0 ≤ b % 4 ∧ b % 4 < 4 := ⟨Int.emod_nonneg _ (by decide), Int.emod_lt_of_pos _ (by decide)⟩
  obtain ⟨n, hn⟩ := Int.eq_ofNat_of_zero_le h4.1
  rw [show b % (4 : Nat) = (n : Int) from hn]
  have hn3 : n ≤ 3 := by omega
  clear hn h4
  have hF : Fr w w3 62 g (.slice none 0 0) (fL k j n 0) := ⟨hI, by have := hC1.size; omega, (fun k hk => by cases hk), hC1.no hC2⟩
  refine zl_pureL rfl ?_
  refine zl_nil ?_
  refine zk_seq ?_
  refine zc_seq ?_
  refine zc_region ?_
  refine zl_pureL rfl ?_
  refine zl_nil ?_
  refine zk_seq ?_
  iterate 2 (refine zc_seq ?_)
  refine zc_region ?_
  refine zl_pureL rfl ?_
  refine zl_nil ?_
  refine zk_seq ?_
  refine zc_block ?_
  refine zc_loopW (ι := Nat × Value) (fun i u => [(0, .int .i64 k), (1, .int .i64 j), (7, .pointer (some ⟨g, 0, none⟩)), (8, .int .i64 n), (9, .int .i64 ((i.1 * n : Nat) : Int)), (10, .int .i64 i.1)])
    (fun i u => i.1 ≤ 3 ∧ Fr w u 62 g i.2 (fL k j n i.1)) (fun i u => 3 - i.1) (0, .slice none 0 0) ⟨Nat.zero_le _, hF⟩ ?_ ?_
  · refine ⟨rfl, rfl, rfl, rfl, ?_, rfl, trivial⟩
    rw [Nat.zero_mul]; rfl
  rintro ⟨i, v⟩ u ⟨hi, hF⟩
  dsimp only at hi hF
  have hpl := fL_len k j n i
  have hin : i * n ≤ 3 * 3 := Nat.mul_le_mul hi hn3
  by_cases hlt : i < 3
  · iterate 2 (refine zc_seq ?_)
    refine zc_region ?_
    refine zl_pureL rfl ?_
    refine z_cmpB (r := true) want_none (by decide) rfl rfl rfl (iff_of_true rfl (by omega)) ?_
    refine zl_nil ?_
    refine zk_seq ?_
    refine zc_true rfl ?_
    refine zc_skip ?_
    refine zk_seq ?_
    refine zc_seq ?_
    refine zc_block ?_
    refine zc_seq ?_
    refine zc_region ?_
    iterate 2 (refine zl_pureL rfl ?_)
    refine z_add want_none (by decide) rfl rfl (by omega) (by omega) ?_
    refine zl_pureL rfl ?_
    refine zl_call (by first | exact want_none | exact want_L rfl) rfl (by decide) rfl (name_calls k) ?_
    rintro _ u1 ⟨rfl, hC1'⟩
    refine ⟨_, rfl, ?_⟩
    refine z_buildE #[.string ⟨#[97]⟩, .string ⟨#[49]⟩] (by first | exact want_none | exact want_L rfl) (by decide) rfl (by kernel_rfl) ?_
    refine z_buildE #[.string ⟨#[98]⟩, .string ⟨#[50]⟩] (by first | exact want_none | exact want_L rfl) (by decide) rfl (by kernel_rfl) ?_
    refine z_bsE [.string ⟨#[97]⟩, .string ⟨#[49]⟩, .string ⟨#[98]⟩, .string ⟨#[50]⟩] (by first | exact want_none | exact want_L rfl) (by decide) rfl (by decide) (by decide) (by kernel_rfl) (fun u2 b2 hN2 => ?_)
    refine z_buildE #[.int .i64 (10 + i), .string (nameN k), .slice (some ⟨b2, 0, none⟩) 2 2] (by first | exact want_none | exact want_L rfl) (by decide) rfl (by kernel_rfl) ?_
    have hF2 := (hF.no hC1').no hN2.chg
    refine zl_call (by first | exact want_none | exact want_L rfl) rfl (by decide) rfl (push_calls hF2.is (by omega) (New.attr hN2 aK rfl 2 rfl) (by decide) (fL_few0 k j n i)) ?_
    rintro _ u3 ⟨rfl, v3, hI3, hW3⟩
    refine ⟨_, rfl, ?_⟩
    have hF3 := hF2.wr hI3 hW3
    have e := pushK k j n i (by omega)
    unfold fK at e
    rw [e] at hF3
    refine zl_nil ?_
    refine zk_seq ?_
    refine zc_seq ?_
    refine zc_region ?_
    refine zl_pureL rfl ?_
    refine zl_nil ?_
    refine zk_seq ?_
    refine zc_block ?_
    refine zc_loopW (ι := Nat × Value) (fun q u => [(0, .int .i64 k), (1, .int .i64 j), (7, .pointer (some ⟨g, 0, none⟩)), (8, .int .i64 n), (9, .int .i64 ((i * n : Nat) + q.1 : Int)), (10, .int .i64 i), (11, .int .i64 q.1)])
      (fun q u => q.1 ≤ n ∧ Fr w u 62 g q.2 (fL k j n i ++ [fK k i] ++ fRow j (i * n) q.1)) (fun q u => n - q.1) (0, v3) ⟨Nat.zero_le _, hF3⟩ ?_ ?_
    · exact ⟨rfl, rfl, rfl, rfl, get_int rfl (by simp), rfl, rfl, trivial⟩
    rintro ⟨q, vq⟩ u4 ⟨hq, hF4⟩
    dsimp only at hq hF4
    have hl4 : (fL k j n i ++ [fK k i] ++ fRow j (i * n) q).length = i + i * n + 1 + q := by
      rw [List.length_append, List.length_append, hpl, fRow_len]; rfl
    by_cases hqn : q < n
    · iterate 2 (refine zc_seq ?_)
      refine zc_region ?_
      iterate 2 (refine zl_pureL rfl ?_)
      refine z_cmpB (r := true) want_none (by decide) rfl rfl rfl (iff_of_true rfl (by omega)) ?_
      refine zl_nil ?_
      refine zk_seq ?_
      refine zc_true rfl ?_
      refine zc_skip ?_
      refine zk_seq ?_
      refine zc_seq ?_
      refine zc_block ?_
      refine zc_seq ?_
      refine zc_region ?_
      iterate 2 (refine zl_pureL rfl ?_)
      refine z_add want_none (by decide) rfl rfl (by omega) (by omega) ?_
      refine zl_pureL rfl ?_
      refine zl_call (by first | exact want_none | exact want_L rfl) rfl (by decide) rfl (name_calls j) ?_
      rintro _ u5 ⟨rfl, hC5⟩
      refine ⟨_, rfl, ?_⟩
      refine zl_pureL rfl ?_
      refine z_add want_none (by decide) rfl rfl (by omega) (by omega) ?_
      refine z_convI (j := 97 + ((i * n + q : Nat) : Int)) (by first | exact want_none | exact want_L rfl) (by decide) rfl (by rw [wrap_i32 (by omega) (by omega)]; omega) ?_
      refine z_convS (by first | exact want_none | exact want_L rfl) (by decide) rfl ?_
      have e := pushJ k j n i q (by omega) hn3 hqn
      unfold fJ aJ at e
      generalize Utf8.encode (97 + ((i * n + q : Nat) : Int)) = sv at e ⊢
      refine z_buildE #[.string ⟨#[110]⟩, .string sv] (by first | exact want_none | exact want_L rfl) (by decide) rfl (by kernel_rfl) ?_
      refine z_bs1 (by first | exact want_none | exact want_L rfl) (by decide) rfl (by rfl) (by rfl) (by decide) (by decide) (fun u6 b6 hN6 => ?_)
      refine z_buildE #[.int .i64 (100 + (((i * n : Nat) : Int) + q)), .string (nameN j), .slice (some ⟨b6, 0, none⟩) 1 1] (by first | exact want_none | exact want_L rfl) (by decide) rfl (by kernel_rfl) ?_
      have hF6 := (hF4.no hC5).no hN6.chg
      refine zl_call (by first | exact want_none | exact want_L rfl) rfl (by decide) rfl (push_calls hF6.is (by omega) (New.attr hN6 [(⟨#[110]⟩, sv)] rfl 1 rfl) (by simp) (fL_few k j n i q)) ?_
      rintro _ u7 ⟨rfl, v7, hI7, hW7⟩
      refine ⟨_, rfl, ?_⟩
      have hF7 := hF6.wr hI7 hW7
      rw [show ((i * n + q : Nat) : Int) = ((i * n : Nat) : Int) + q by omega] at e
      rw [e] at hF7
      refine zl_nil ?_
      refine zk_seq ?_
      refine zc_region ?_
      refine zl_pureL rfl ?_
      refine z_add want_none (by decide) rfl rfl (by omega) (by omega) ?_
      refine zl_pureL rfl ?_
      refine zl_nil ?_
      refine zk_norm_block ?_
      refine zk_seq ?_
      refine zc_region ?_
      refine zl_pureL rfl ?_
      refine z_add want_none (by decide) rfl rfl (by omega) (by omega) ?_
      refine zl_pureL rfl ?_
      refine zl_nil ?_
      exact zk_loopW (q + 1, v7) ⟨by omega, hF7⟩ (by simp; omega) ⟨rfl, rfl, rfl, rfl, get_int rfl (by simp; omega), rfl, get_int rfl (by simp), trivial⟩
    · obtain rfl : q = n := by omega
      iterate 2 (refine zc_seq ?_)
      refine zc_region ?_
      iterate 2 (refine zl_pureL rfl ?_)
      refine z_cmpB (r := false) want_none (by decide) rfl rfl rfl (iff_of_false Bool.false_ne_true (by omega)) ?_
      refine zl_nil ?_
      refine zk_seq ?_
      refine zc_false rfl ?_
      refine zc_exit ?_
      iterate 2 (refine zk_exit_then ?_)
      refine zk_exit_block ?_
      refine zk_norm_block ?_
      refine zk_seq ?_
      refine zc_region ?_
      refine zl_pureL rfl ?_
      refine z_add want_none (by decide) rfl rfl (by omega) (by omega) ?_
      refine zl_pureL rfl ?_
      refine zl_nil ?_
      refine zk_loopW (i + 1, vq) ⟨by omega, hF4⟩ (by simp; omega) ⟨rfl, rfl, rfl, rfl, get_int rfl ?_, get_int rfl (by simp), trivial⟩
      dsimp only
      rw [Nat.add_mul, Nat.one_mul]; omega
  · obtain rfl : i = 3 := by omega
    iterate 2 (refine zc_seq ?_)
    refine zc_region ?_
    refine zl_pureL rfl ?_
    refine z_cmpB (r := false) want_none (by decide) rfl rfl rfl (iff_of_false Bool.false_ne_true (by omega)) ?_
    refine zl_nil ?_
    refine zk_seq ?_
    refine zc_false rfl ?_
    refine zc_exit ?_
    iterate 2 (refine zk_exit_then ?_)
    refine zk_exit_block ?_
    refine zk_seq ?_
    refine zc_seq ?_
    refine zc_region ?_
    refine zl_pureL rfl ?_
    refine zl_call (by first | exact want_none | exact want_L rfl) rfl (by decide) rfl (all_calls hF.is (by omega) (fL_few0 k j n 3)) ?_
    rintro _ u1 ⟨vo, rfl, hT, hC1'⟩
    refine ⟨_, rfl, ?_⟩
    have hlt2 : ∀ k, foot g v k → k < u.heap.size := hF.is.lt
    obtain ⟨A1, c1, hvo, hc1⟩ := hT.len
    rw [hpl] at hvo hc1
    subst hvo
    have hF1 := hF.no hC1'
    refine zl_pureL rfl ?_
    refine zl_nil ?_
    refine zk_seq ?_
    refine zc_seq ?_
    refine zc_region ?_
    iterate 2 (refine zl_pureL rfl ?_)
    refine zl_call (by first | exact want_none | exact want_L rfl) rfl (by decide) rfl (name_calls k) ?_
    rintro _ u2 ⟨rfl, hC2'⟩
    refine ⟨_, rfl, ?_⟩
    refine z_buildE #[.string ⟨#[98]⟩, .string ⟨#[50]⟩] (by first | exact want_none | exact want_L rfl) (by decide) rfl (by kernel_rfl) ?_
    refine z_buildE #[.string ⟨#[97]⟩, .string ⟨#[49]⟩] (by first | exact want_none | exact want_L rfl) (by decide) rfl (by kernel_rfl) ?_
    refine z_bsE [.string ⟨#[98]⟩, .string ⟨#[50]⟩, .string ⟨#[97]⟩, .string ⟨#[49]⟩] (by first | exact want_none | exact want_L rfl) (by decide) rfl (by decide) (by decide) (by kernel_rfl) (fun u3 b3 hN3 => ?_)
    refine z_buildE #[.int .i64 13, .string (nameN k), .slice (some ⟨b3, 0, none⟩) 2 2] (by first | exact want_none | exact want_L rfl) (by decide) rfl (by kernel_rfl) ?_
    have hC13 := hC2'.no hN3.chg
    have hF3 := hF1.no hC13
    refine zl_call (by first | exact want_none | exact want_L rfl) rfl (by decide) rfl (push_calls hF3.is (by omega) (New.attr hN3 aX rfl 2 rfl) (by decide) (fL_few0 k j n 3)) ?_
    rintro _ u4 ⟨rfl, v4, hI4, hW4⟩
    refine ⟨_, rfl, ?_⟩
    have hF4 := hF3.wr hI4 hW4
    have hT4 := (hT.no hC13).chg hW4.chg hlt2
    have e := pushX k j n
    unfold fX at e
    rw [e] at hF4
    obtain ⟨o10, o11⟩ := of10 k j n hn3
    have hl4 : ((fL k j n 3).drop 1 ++ [fX k]).length = 3 + 3 * n := by simp [hpl] <;> omega
    have hl4a : ((fL k j n 3).drop 1 ++ [(⟨13, nameN k, aX⟩ : Mark)]).length = 3 + 3 * n := hl4
    have hf4 : Few ((fL k j n 3).drop 1 ++ [fX k]) := fun m hm => by
      rcases List.mem_append.1 hm with h | h
      · exact fL_few0 k j n 3 m (List.mem_of_mem_drop h)
      · simp only [List.mem_singleton] at h; subst h; simp [fX, aX]
    refine zl_nil ?_
    refine zk_seq ?_
    refine zc_seq ?_
    refine zc_region ?_
    refine zl_pureL rfl ?_
    refine zl_call (by first | exact want_none | exact want_L rfl) rfl (by decide) rfl (all_calls hF4.is (by omega) hf4) ?_
    rintro _ u5 ⟨vn, rfl, hTn, hC5⟩
    refine ⟨_, rfl, ?_⟩
    obtain ⟨A5, c5, hvn, hc5⟩ := hTn.len
    rw [hl4a] at hvn hc5
    subst hvn
    have hF5 := hF4.no hC5
    have hT5 := hT4.no hC5
    refine zl_pureL rfl ?_
    refine zl_nil ?_
    refine zk_seq ?_
    iterate 2 (refine zc_seq ?_)
    refine zc_region ?_
    refine zl_pureL rfl ?_
    refine z_len want_none (by decide) rfl ?_
    refine zl_pureL rfl ?_
    refine z_mul (by first | exact want_none | exact want_L rfl) (by decide) rfl rfl (by omega) (by omega) ?_
    refine z_add want_none (by decide) rfl rfl (by omega) (by omega) ?_
    refine z_cmpB (r := false) want_none (by decide) rfl rfl rfl (iff_of_false Bool.false_ne_true (by omega)) ?_
    iterate 2 (refine zl_pureL rfl ?_)
    refine z_len (want_L rfl) (by decide) rfl ?_
    refine zl_pureL rfl ?_
    refine z_len (want_L rfl) (by decide) rfl ?_
    refine z_cmpB (r := false) (want_L rfl) (by decide) rfl rfl rfl (iff_of_false Bool.false_ne_true (by omega)) ?_
    refine zl_pureL rfl ?_
    refine zl_nil ?_
    refine zk_seq ?_
    refine zc_false rfl ?_
    refine zc_skip ?_
    refine zk_seq ?_
    refine zc_seq ?_
    have hms1 : MS u5 (.slice A5 (3 + 3 * n) c5) ((fL k j n 3).drop 1 ++ [fX k]) := hTn.ms
    have hms2 : MS u5 (.slice A1 (3 + 3 * n) c1) (fL k j n 3) := hT5.ms
    obtain ⟨bn, on, cn, An, hvn, en0, _, _, _⟩ := hms1.at_ (2 + 3 * n) (by omega)
    rw [hl4] at hvn
    cases hvn
    have hlast : ((fL k j n 3).drop 1 ++ [fX k]).getD (2 + 3 * n) Mark.z = fX k := by
      rw [List.getD_eq_getElem?_getD, List.getElem?_append_right (by simp [hpl] <;> omega)]
      have : 2 + 3 * n - ((fL k j n 3).drop 1).length = 0 := by simp [hpl] <;> omega
      rw [this]; rfl
    rw [hlast] at en0
    have en0 : u5.cell? ⟨bn, on + (2 + 3 * n) * 3, none⟩ = some (.int .i64 13) := en0
    refine zc_draw [] (fun w' => Chg u5 w' No) (.take 0 (.take 1 (.take 2 (.take 3 (.take 4 (.take 5 (.take 6 (.all1 7 (.take 8 (.take 9 (.take 10 (.take 11 (.take 12 (.take 13 (.take 14 (.take 15 (.take 16 (.take 17 (.take 18 (.take 19 (.all1 20 (.take 21 (.take 22 (.take 23 (.take 24 (.all1 25 (.take 26 (.take 27 (.take 28 (.fin)))))))))))))))))))))))))))))) (by rfl) (by kernel_rfl) (by kernel_rfl) (fun w1 hC1 hH1 => ⟨?_, ?_⟩)
    · exact hC1
    iterate 2 (refine zs_take rfl (zt_pure rfl ?_))
    refine zs_rdL rfl want_none rfl (by decide) (fun _ hS => r_len rfl) ?_
    refine zs_rdL rfl want_none rfl (by decide) (fun _ hS => r_sub rfl rfl (by omega) (by omega)) ?_
    refine zs_rdL rfl (by first | exact want_none | exact want_L rfl) rfl (by decide) (fun _ hS => r_cutTo (k := 2 + 3 * n) (.inr ⟨_, _, rfl⟩) rfl (optI_eq rfl (by omega)) (by omega)) ?_
    refine zs_take rfl (zt_pure rfl ?_)
    refine zs_rdL rfl (by first | exact want_none | exact want_L rfl) rfl (by decide) (fun _ hS => r_cutFrom (k := 1) rfl rfl (by omega) (by omega)) ?_
    have hm1 : MS w1 (.slice (some ⟨bn, on, none⟩) (2 + 3 * n) c5) ((fL k j n 3).drop 1) := by
      have h1 := MS.front (k := 2 + 3 * n) (by rw [hl4]; exact hms1.no hC1) (by omega)
      rwa [List.take_append_of_le_length (by simp [hpl] <;> omega), List.take_of_length_le (by simp [hpl] <;> omega)] at h1
    have hm2 : MS w1 (.slice (cutA A1 c1 1 3) (3 + 3 * n - 1) (c1 - 1)) ((fL k j n 3).drop 1) := by
      have h1 := MS.cut (k := 1) (by rw [hpl]; exact hms2.no hC1) (by omega)
      rwa [hpl] at h1
    have hfd : Few ((fL k j n 3).drop 1) := fun m hm => fL_few0 k j n 3 m (List.mem_of_mem_drop hm)
    refine zs_call rfl (by first | exact want_none | exact want_L rfl) rfl (by decide) rfl (same7_calls hm1 hm2 (by simp [hpl] <;> omega) (by simp [hpl] <;> omega) hfd hfd) ?_
    rintro _ u6 ⟨r, rfl, hr, hC6⟩
    obtain rfl : r = true := hr.2 rfl
    have hC6 := hC1.no hC6
    refine ⟨_, rfl, hC6, ?_⟩
    iterate 3 (refine zs_take rfl (zt_pure rfl ?_))
    refine zs_rdL rfl (want_L rfl) rfl (by decide) (fun _ hS => r_len rfl) ?_
    refine zs_rdL rfl (want_L rfl) rfl (by decide) (fun _ hS => r_sub rfl rfl (by omega) (by omega)) ?_
    refine zs_rdL rfl (want_L rfl) rfl (by decide) (fun _ hS => r_ia rfl rfl (by omega) (by omega)) ?_
    refine zs_rdL rfl (want_L rfl) rfl (by decide) (fun _ hS => r_fa rfl) ?_
    refine zs_rdL rfl (by first | exact want_none | exact want_L rfl) rfl (by decide) (fun _ hS => r_load1 rfl (cell_at (cell_no hS en0) (by omega))) ?_
    refine zs_rdL rfl (want_L rfl) rfl (by decide) (fun _ hS => r_cmpB (r := true) rfl rfl rfl (iff_of_true rfl (by omega))) ?_
    iterate 3 (refine zs_take rfl (zt_pure rfl ?_))
    refine zs_call rfl (by first | exact want_none | exact want_L rfl) rfl (by decide) rfl (of_calls 10 (hF5.no hC6).is (by omega)) ?_
    rintro _ u7 ⟨rfl, hC7⟩
    have hC7 := hC6.no hC7
    refine ⟨_, rfl, hC7, ?_⟩
    rw [show ofN ((fL k j n 3).drop 1 ++ [(⟨13, nameN k, aX⟩ : Mark)]) 10 0 ((fL k j n 3).drop 1 ++ [(⟨13, nameN k, aX⟩ : Mark)]).length = -1 from o10]
    refine zs_rdL rfl (want_L rfl) rfl (by decide) (fun _ hS => r_cmpB (r := true) rfl rfl rfl (iff_of_true rfl (by omega))) ?_
    iterate 3 (refine zs_take rfl (zt_pure rfl ?_))
    refine zs_call rfl (by first | exact want_none | exact want_L rfl) rfl (by decide) rfl (of_calls 11 (hF5.no hC7).is (by omega)) ?_
    rintro _ u8 ⟨rfl, hC8⟩
    have hC8 := hC7.no hC8
    refine ⟨_, rfl, hC8, ?_⟩
    have o11' : 0 ≤ ofN ((fL k j n 3).drop 1 ++ [(⟨13, nameN k, aX⟩ : Mark)]) 11 0 ((fL k j n 3).drop 1 ++ [(⟨13, nameN k, aX⟩ : Mark)]).length := o11
    refine zs_rdL rfl (want_L rfl) rfl (by decide) (fun _ hS => r_cmpB (r := true) rfl rfl rfl (iff_of_true rfl (by omega))) ?_
    iterate 2 (refine zs_take rfl (zt_pure rfl ?_))
    refine zs_fin ?_
    refine zk_seq ?_
    refine zc_ret ?_
    exact zk_ret1 (.inr rfl) rfl rfl ⟨rfl, (hF5.no hC8).chg.below⟩
end Go.Proofs.Ytaagolhokejflaa.M
