import Derived.Test.YtaagolhokejflaaMOut
import Derived.Test.YtaagolhokejflaaMLaw1
/- MarksPlaces: the walk. -/
namespace Go.Proofs.Ytaagolhokejflaa.M
open Go Go.Z Go.Proofs
set_option linter.unusedVariables false
def plX (i : Nat) : Mark := ⟨i, Utf8.encode (97 + i), []⟩
def plN (c : Nat) : List Mark := (List.range c).map plX
theorem plN_len (c : Nat) : (plN c).length = c := by simp [plN]
theorem plN_push (c : Nat) (hc : c ≤ 20) : pushM (plN c) (plX c) = plN (c + 1) := by
  rw [pushM_fresh]
  · simp [plN, List.range_succ]
  · intro a ha he
    simp only [plN, List.mem_map, List.mem_range] at ha
    obtain ⟨j, hj, rfl⟩ := ha
    simp only [plX] at he
    have := encode_inj (i := 97 + (j : Int)) (j := 97 + (c : Int)) (by omega) (by omega) (by omega) (by omega) he
    omega
theorem plN_few (c : Nat) : Few (plN c) := by
  intro m hm
  simp only [plN, List.mem_map] at hm
  obtain ⟨j, _, rfl⟩ := hm
  exact Nat.zero_le _
theorem plN_at (c q : Nat) (h : q < c) : (plN c).getD q Mark.z = plX q := by
  simp [plN, List.getD_eq_getElem?_getD, List.getElem?_map, List.getElem?_range h]
def pX (nm : ByteArray) : Mark := ⟨50, nm, []⟩
theorem put_getD (L : List Mark) (p : Nat) (x : Mark) (hp : p ≤ L.length) (q : Nat) : (putM L p x).getD q Mark.z = if q < p then L.getD q Mark.z else if q = p then x else L.getD (q - 1) Mark.z := by
  unfold putM
  rw [List.getD_eq_getElem?_getD]
  by_cases h1 : q < p
  · rw [if_pos h1, List.getElem?_append_left (by simp; omega), List.getElem?_take, if_pos h1, List.getD_eq_getElem?_getD]
  · rw [if_neg h1, List.getElem?_append_right (by simp; omega)]
    have : (L.take p).length = p := by simp; omega
    rw [this]
    by_cases h2 : q = p
    · subst h2; simp
    · rw [if_neg h2, show q - p = (q - p - 1) + 1 by omega, List.getElem?_cons_succ, List.getElem?_drop, List.getD_eq_getElem?_getD, show p + (q - p - 1) = q - 1 by omega]
theorem put_len (L : List Mark) (p : Nat) (x : Mark) (hp : p ≤ L.length) : (putM L p x).length = L.length + 1 := by
  unfold putM; simp; omega
theorem put_drop (L : List Mark) (p : Nat) (x : Mark) (hp : p ≤ L.length) : dropM (putM L p x) p = L := by
  unfold dropM putM
  have h1 : (L.take p).length = p := by simp; omega
  rw [List.take_append_of_le_length (by omega), List.take_of_length_le (by omega), List.drop_append, h1, show p + 1 - p = 1 by omega, List.drop_eq_nil_of_le (by omega)]
  simp
theorem put_of (c p : Nat) (x : Mark) (hp : p < c) (hc : c ≤ 9) (hx : x.node = 50) : ofN (putM (plN c) p x) 50 0 (c + 1) = p := by
  refine ofN_hit _ _ _ _ _ (Nat.zero_le _) (by omega) ?_ ?_
  · intro q _ hq
    rw [put_getD _ _ _ (by rw [plN_len]; omega), if_pos hq, plN_at _ _ (by omega)]
    simp [plX]; omega
  · rw [put_getD _ _ _ (by rw [plN_len]; omega), if_neg (by omega), if_pos rfl, hx]
theorem set_getD (L : List Mark) (p : Nat) (x : Mark) (hp : p < L.length) (q : Nat) : (L.set p x).getD q Mark.z = if q = p then x else L.getD q Mark.z := by
  rw [List.getD_eq_getElem?_getD, List.getElem?_set]
  by_cases h : p = q
  · subst h; simp [hp]
  · rw [if_neg h, if_neg (fun e => h e.symm), List.getD_eq_getElem?_getD]
theorem set_of (c p : Nat) (x : Mark) (hp : p < c) (hc : c ≤ 9) (hx : x.node = 50) : ofN ((plN c).set p x) 50 0 c = p := by
  refine ofN_hit _ _ _ _ _ (Nat.zero_le _) (by omega) ?_ ?_
  · intro q _ hq
    rw [set_getD _ _ _ (by rw [plN_len]; omega), if_neg (by omega), plN_at _ _ (by omega)]
    simp [plX]; omega
  · rw [set_getD _ _ _ (by rw [plN_len]; omega), if_pos rfl, hx]
theorem set_of2 (c p : Nat) (x : Mark) (hp : p < c) (hc : c ≤ 9) (hx : x.node = 50) : ofN ((plN c).set p x) p 0 c = -1 := by
  refine ofN_miss _ _ _ _ ?_
  intro q _ hq
  rw [set_getD _ _ _ (by rw [plN_len]; omega)]
  split
  · rw [hx]; omega
  · rw [plN_at _ _ (by omega)]; simp [plX]; omega
theorem Told.wr {w w' : World} {B g : Nat} {v v' vo : Value} {L L0 : List Mark} (h : Told w B vo L) (hW : Wr w w' g v v') (hlt : ∀ k, foot g v k → k < B) : Told w' B vo L := h.chg hW.chg hlt
theorem Few.put {L : List Mark} {p : Nat} {x : Mark} (h : Few L) (hx : x.attrs.length ≤ 100000) : Few (putM L p x) := by
  intro m hm
  unfold putM at hm
  rcases List.mem_append.1 hm with h1 | h1
  · exact h m (List.mem_of_mem_take h1)
  · rcases List.mem_cons.1 h1 with rfl | h1
    · exact hx
    · exact h m (List.mem_of_mem_drop h1)
theorem Few.set {L : List Mark} {p : Nat} {x : Mark} (h : Few L) (hx : x.attrs.length ≤ 100000) : Few (L.set p x) := by
  intro m hm
  rcases List.mem_or_eq_of_mem_set hm with h1 | rfl
  · exact h m h1
  · exact hx
set_option maxHeartbeats 16000000 in
theorem MarksPlaces_walk (a b k : Int) (w : World) : Calls Try.prog 8 #[.int .i64 a, .int .i64 b, .int .i64 k] w fun e w' => e = .returned (.bool true) ∧ RowKit.Below w.heap.size w w' := by
  show Calls Try.prog 8 [Value.int .i64 a, .int .i64 b, .int .i64 k].toArray w _
  refine calls_zc (n := 138) (f := 8) (fn := Try.f8) Try.func8 rfl rfl (by simp) ?_
  refine zc_seq ?_
  refine zc_region ?_
  refine zl_pureL rfl ?_
  refine zl_nil ?_
  refine zk_seq ?_
  iterate 2 (refine zc_seq ?_)
  refine zc_region ?_
  refine zl_call (by first | exact want_none | exact want_L rfl) rfl (by decide) rfl known_calls ?_
  rintro _ w1 ⟨rfl, hC1⟩
  refine ⟨_, rfl, ?_⟩
  refine zl_pureL rfl ?_
  refine zl_nil ?_
  refine zk_seq ?_
  refine zc_false rfl ?_
  refine zc_skip ?_
  refine zk_seq ?_
  refine zc_seq ?_
  refine zc_region ?_
  refine zl_call (by first | exact want_none | exact want_L rfl) rfl (by decide) rfl new_calls ?_
  rintro _ w2 ⟨g, rfl, hI, hC2, hge⟩
  refine ⟨_, rfl, ?_⟩
  have hF : Fr w w2 62 g (.slice none 0 0) (plN 0) := ⟨hI, by have := hC1.size; omega, (fun k hk => by cases hk), hC1.no hC2⟩
  refine zl_pureL rfl ?_
  refine zl_nil ?_
  refine zk_seq ?_
  iterate 2 (refine zc_seq ?_)
  refine zc_region ?_
  refine zl_pureL rfl ?_
  refine z_eqPN (by first | exact want_none | exact want_L rfl) (by decide) rfl rfl ?_
  refine zl_nil ?_
  refine zk_seq ?_
  refine zc_false rfl ?_
  refine zc_skip ?_
  refine zk_seq ?_
  refine zc_seq ?_
  refine zc_region ?_
  refine zl_pureL rfl ?_
  refine zl_call (by first | exact want_none | exact want_L rfl) rfl (by decide) rfl (within_calls (n := 9) (by decide) (by decide)) ?_
  rintro _ w3 ⟨rfl, rfl⟩
  refine ⟨_, rfl, ?_⟩
  have h9 : 0 ≤ a % 9 ∧ a % 9 < 9 := ⟨Int.emod_nonneg _ (by decide), Int.emod_lt_of_pos _ (by decide)⟩
  obtain ⟨n, hn⟩ := Int.eq_ofNat_of_zero_le h9.1
  rw [show a % (9 : Nat) = (n : Int) from hn]
  have hn9 : n < 9 := by omega
  obtain ⟨c, hcn⟩ : ∃ c, c = n + 1 := ⟨_, rfl⟩
  have hc1 : 1 ≤ c ∧ c ≤ 9 := by omega
  have hcI : (1 : Int) + (n : Int) = (c : Int) := by omega
  refine z_add (by first | exact want_none | exact want_L rfl) (by decide) rfl rfl (by omega) (by omega) ?_
  rw [hcI]
  clear hcI hcn hn9 hn h9
  refine zl_pureL rfl ?_
  refine zl_nil ?_
  refine zk_seq ?_
  iterate 2 (refine zc_seq ?_)
  refine zc_region ?_
  refine zl_pureL rfl ?_
  refine zl_nil ?_
  refine zk_seq ?_
  refine zc_block ?_
  refine zc_loopW (ι := Nat × Value) (fun i u => [(1, .int .i64 b), (2, .int .i64 k), (7, .pointer (some ⟨g, 0, none⟩)), (8, .int .i64 c), (9, .int .i64 i.1)])
    (fun i u => i.1 ≤ c ∧ Fr w u 62 g i.2 (plN i.1)) (fun i u => c - i.1) (0, .slice none 0 0) ⟨Nat.zero_le _, hF⟩ ?_ ?_
  · exact ⟨rfl, rfl, rfl, rfl, rfl, trivial⟩
  rintro ⟨i, v⟩ u ⟨hi, hF⟩
  dsimp only at hi hF
  have hpl := plN_len i
  by_cases hlt : i < c
  · iterate 2 (refine zc_seq ?_)
    refine zc_region ?_
    iterate 2 (refine zl_pureL rfl ?_)
    refine z_cmpB (r := true) want_none (by decide) rfl rfl rfl (iff_of_true rfl (by omega)) ?_
    refine zl_nil ?_
    refine zk_seq ?_
    refine zc_true rfl ?_
    refine zc_skip ?_
    refine zk_seq ?_
    refine zc_seq ?_
    refine zc_block ?_
    refine zc_region ?_
    iterate 3 (refine zl_pureL rfl ?_)
    refine z_add want_none (by decide) rfl rfl (by omega) (by omega) ?_
    refine z_convI (j := 97 + i) (by first | exact want_none | exact want_L rfl) (by decide) rfl (wrap_i32 (by omega) (by omega)) ?_
    refine z_convS (by first | exact want_none | exact want_L rfl) (by decide) rfl ?_
    refine z_buildE #[.int .i64 i, .string (Utf8.encode (97 + i)), .slice none 0 0] (by first | exact want_none | exact want_L rfl) (by decide) rfl (by kernel_rfl) ?_
    refine zl_call (by first | exact want_none | exact want_L rfl) rfl (by decide) rfl (push_calls hF.is (by omega) (AttrS.nil u) (Nat.zero_le _) (plN_few _)) ?_
    rintro _ u1 ⟨rfl, v1, hI1, hW1⟩
    refine ⟨_, rfl, ?_⟩
    have hF1 := hF.wr hI1 hW1
    have e := plN_push i (by omega)
    unfold plX at e
    rw [e] at hF1
    refine zl_nil ?_
    refine zk_norm_block ?_
    refine zk_seq ?_
    refine zc_region ?_
    refine zl_pureL rfl ?_
    refine z_add want_none (by decide) rfl rfl (by omega) (by omega) ?_
    refine zl_pureL rfl ?_
    refine zl_nil ?_
    exact zk_loopW (i + 1, v1) ⟨by omega, hF1⟩ (by simp; omega) ⟨rfl, rfl, rfl, rfl, get_int rfl (by simp), trivial⟩
  · obtain rfl : i = c := by omega
    iterate 2 (refine zc_seq ?_)
    refine zc_region ?_
    iterate 2 (refine zl_pureL rfl ?_)
    refine z_cmpB (r := false) want_none (by decide) rfl rfl rfl (iff_of_false Bool.false_ne_true (by omega)) ?_
    refine zl_nil ?_
    refine zk_seq ?_
    refine zc_false rfl ?_
    refine zc_exit ?_
    iterate 2 (refine zk_exit_then ?_)
    refine zk_exit_block ?_
    refine zk_seq ?_
    refine zc_seq ?_
    refine zc_region ?_
    iterate 2 (refine zl_pureL rfl ?_)
    refine zl_call (by first | exact want_none | exact want_L rfl) rfl (by decide) rfl (within_calls (n := i) (by omega) (by omega)) ?_
    rintro _ u1 ⟨rfl, rfl⟩
    refine ⟨_, rfl, ?_⟩
    have hm0 := Int.emod_nonneg b (show (i : Int) ≠ 0 by omega)
    have hm1 := Int.emod_lt_of_pos b (show (0 : Int) < i by omega)
    obtain ⟨p, hp⟩ := Int.eq_ofNat_of_zero_le hm0
    rw [hp]
    have hpi : p < i := by omega
    clear hm0 hm1 hp
    refine zl_pureL rfl ?_
    refine zl_nil ?_
    refine zk_seq ?_
    refine zc_seq ?_
    refine zc_region ?_
    refine zl_pureL rfl ?_
    refine zl_call (by first | exact want_none | exact want_L rfl) rfl (by decide) rfl (all_calls hF.is (by omega) (plN_few _)) ?_
    rintro _ u2 ⟨vo, rfl, hT, hC2'⟩
    refine ⟨_, rfl, ?_⟩
    have hF2 := hF.no hC2'
    have hlt2 : ∀ k, foot g v k → k < u1.heap.size := hF.is.lt
    obtain ⟨Ao, co, rfl, hco⟩ := hT.len
    refine zl_pureL rfl ?_
    refine zl_nil ?_
    refine zk_seq ?_
    refine zc_seq ?_
    refine zc_region ?_
    refine zl_pureL rfl ?_
    refine zl_call (by first | exact want_none | exact want_L rfl) rfl (by decide) rfl (name_calls k) ?_
    rintro _ u3 ⟨rfl, hC3⟩
    refine ⟨_, rfl, ?_⟩
    refine z_buildE #[.int .i64 50, .string (nameN k), .slice none 0 0] (by first | exact want_none | exact want_L rfl) (by decide) rfl (by kernel_rfl) ?_
    refine z_alloc (by first | exact want_none | exact want_L rfl) (by decide) (fun u4 b4 hN4 => ?_)
    have hb4 := hN4.blk
    refine z_store (by first | exact want_none | exact want_L rfl) rfl rfl rfl (by assumption) (by first | exact Nat.le_refl _ | simp [Value.cells]) (by simp [Value.cells, Value.oneCell']) (fun u5 hU5 => ?_)
    have hb5 : Blk u5 b4 32 [.int .i64 50, .string (nameN k), .slice none 0 0] := hU5.blk
    have hC25 := (hC3.new hN4).upd hU5 (hN4.ge hC3)
    have hF5 := hF2.no hC25
    have hT5 := hT.no hC25
    have hnb5 : b4 ≠ g ∧ v.ownBlock ≠ some b4 := by
      have h1 := hN4.ge hC3
      have h2 := hF2.is.lt
      refine ⟨fun he => ?_, fun he => ?_⟩
      · have := h2 g (.inl rfl); omega
      · have := h2 b4 (.inr he); omega
    refine zl_nil ?_
    refine zk_seq ?_
    iterate 2 (refine zc_seq ?_)
    refine zc_region ?_
    iterate 2 (refine zl_pureL rfl ?_)
    refine z_loadAB want_none (by decide) rfl (by assumption) (by rfl) ?_
    refine zl_call (by first | exact want_none | exact want_L rfl) rfl (by decide) rfl (put_calls hF5.is (by omega) (AttrS.nil u5) (Nat.zero_le _) p (by omega)) ?_
    rintro _ u6 ⟨rfl, v6, hI6, hW6⟩
    refine ⟨_, rfl, ?_⟩
    have hF6 := hF5.wr hI6 hW6
    obtain ⟨hb6, hnv6⟩ := hW6.keep hb5 hnb5.1 hnb5.2
    have hl6 : (putM (plN i) p ⟨50, nameN k, []⟩).length = i + 1 := by rw [put_len _ _ _ (by omega), hpl]
    iterate 3 (refine zl_pureL rfl ?_)
    refine zl_call (by first | exact want_none | exact want_L rfl) rfl (by decide) rfl (of_calls 50 hF6.is (by omega)) ?_
    rintro _ u7 ⟨rfl, hC7⟩
    refine ⟨_, rfl, ?_⟩
    rw [hl6, put_of i p _ hpi hc1.2 rfl]
    have hF7 := hF6.no hC7
    refine zl_pureL rfl ?_
    refine z_cmpB (r := false) (want_L rfl) (by decide) rfl rfl rfl (iff_of_false Bool.false_ne_true (by omega)) ?_
    iterate 3 (refine zl_pureL rfl ?_)
    refine zl_call (by first | exact want_none | exact want_L rfl) rfl (by decide) rfl (len_calls hF7.is) ?_
    rintro _ u8 ⟨rfl, rfl⟩
    refine ⟨_, rfl, ?_⟩
    rw [hl6]
    refine zl_pureL rfl ?_
    refine z_add (want_L rfl) (by decide) rfl rfl (by omega) (by omega) ?_
    refine z_cmpB (r := false) (want_L rfl) (by decide) rfl rfl rfl (iff_of_false Bool.false_ne_true (by omega)) ?_
    iterate 4 (refine zl_pureL rfl ?_)
    refine zl_call (by first | exact want_none | exact want_L rfl) rfl (by decide) rfl (drop_calls hF7.is (by omega) p (by omega)) ?_
    rintro _ u9 ⟨rfl, v9, hI9, hW9⟩
    refine ⟨_, rfl, ?_⟩
    rw [put_drop _ _ _ (by omega)] at hI9
    have hF9 := hF7.wr hI9 hW9
    have hW59 := (hW6.no hC7).trans hW9
    obtain ⟨hb9, hnv9⟩ := hW59.keep hb5 hnb5.1 hnb5.2
    have hT9 := hT5.chg hW59.chg hlt2
    iterate 4 (refine zl_pureL rfl ?_)
    refine zl_call (by first | exact want_none | exact want_L rfl) rfl (by decide) rfl (all_calls hF9.is (by omega) (plN_few _)) ?_
    rintro _ u10 ⟨vq, rfl, hTq, hC10⟩
    refine ⟨_, rfl, ?_⟩
    refine zl_pureL rfl ?_
    refine zl_call (by first | exact want_none | exact want_L rfl) rfl (by decide) rfl (same7_calls hTq.ms (hT9.no hC10).ms (by omega) (by omega) (plN_few _) (plN_few _)) ?_
    rintro _ u11 ⟨r, rfl, hr, hC11⟩
    obtain rfl : r = true := hr.2 rfl
    refine ⟨_, rfl, ?_⟩
    have hC911 := hC10.no hC11
    have hF11 := hF9.no hC911
    have hb11 := hb9.no hC911
    iterate 5 (refine zl_pureL rfl ?_)
    refine z_loadAB (want_L rfl) (by decide) rfl (by assumption) (by rfl) ?_
    refine zl_call (by first | exact want_none | exact want_L rfl) rfl (by decide) rfl (set_calls hF11.is (by omega) (AttrS.nil _) (Nat.zero_le _) p (by omega)) ?_
    rintro _ u12 ⟨rfl, v12, hI12, hW12⟩
    refine ⟨_, rfl, ?_⟩
    have hF12 := hF11.wr hI12 hW12
    obtain ⟨hb12, hnv12⟩ := hW12.keep hb11 hnb5.1 hnv9
    have hl12 : ((plN i).set p ⟨50, nameN k, []⟩).length = i := by rw [List.length_set, hpl]
    iterate 4 (refine zl_pureL rfl ?_)
    refine zl_call (by first | exact want_none | exact want_L rfl) rfl (by decide) rfl (of_calls 50 hF12.is (by omega)) ?_
    rintro _ u13 ⟨rfl, hC13⟩
    refine ⟨_, rfl, ?_⟩
    rw [hl12, set_of i p _ hpi hc1.2 rfl]
    have hF13 := hF12.no hC13
    refine zl_pureL rfl ?_
    refine z_cmpB (r := false) (want_L rfl) (by decide) rfl rfl rfl (iff_of_false Bool.false_ne_true (by omega)) ?_
    iterate 4 (refine zl_pureL rfl ?_)
    refine zl_call (by first | exact want_none | exact want_L rfl) rfl (by decide) rfl (of_calls p hF13.is (by omega)) ?_
    rintro _ u14 ⟨rfl, hC14⟩
    refine ⟨_, rfl, ?_⟩
    rw [hl12, set_of2 i p _ hpi hc1.2 rfl]
    have hF14 := hF13.no hC14
    have hb14 := (hb12.no hC13).no hC14
    refine z_cmpB (r := false) (want_L rfl) (by decide) rfl rfl rfl (iff_of_false Bool.false_ne_true (by omega)) ?_
    iterate 3 (refine zl_pureL rfl ?_)
    refine zl_call (by first | exact want_none | exact want_L rfl) rfl (by decide) rfl (len_calls hF14.is) ?_
    rintro _ u15 ⟨rfl, rfl⟩
    refine ⟨_, rfl, ?_⟩
    rw [hl12]
    refine zl_pureL rfl ?_
    refine z_cmpB (r := false) (want_L rfl) (by decide) rfl rfl rfl (iff_of_false Bool.false_ne_true (by omega)) ?_
    refine zl_pureL rfl ?_
    refine zl_nil ?_
    refine zk_seq ?_
    refine zc_false rfl ?_
    refine zc_skip ?_
    refine zk_seq ?_
    refine zc_seq ?_
    refine zc_region ?_
    iterate 2 (refine zl_pureL rfl ?_)
    refine z_loadAB want_none (by decide) rfl (by assumption) (by rfl) ?_
    have hf14 : Few ((plN i).set p ⟨50, nameN k, []⟩) := (plN_few i).set (Nat.zero_le _)
    refine zl_call (by first | exact want_none | exact want_L rfl) rfl (by decide) rfl (put_calls hF14.is (by omega) (AttrS.nil _) (Nat.zero_le _) i (by omega)) ?_
    rintro _ u16 ⟨rfl, v16, hI16, hW16⟩
    refine ⟨_, rfl, ?_⟩
    have hF16 := hF14.wr hI16 hW16
    obtain ⟨hb16, hnv16⟩ := hW16.keep hb14 hnb5.1 hnv12
    have hl16 : (putM ((plN i).set p ⟨50, nameN k, []⟩) i ⟨50, nameN k, []⟩).length = i + 1 := by rw [put_len _ _ _ (by omega), hl12]
    iterate 3 (refine zl_pureL rfl ?_)
    refine z_add (want_L rfl) (by decide) rfl rfl (by omega) (by omega) ?_
    refine z_loadAB (want_L rfl) (by decide) rfl (by assumption) (by rfl) ?_
    refine zl_call (by first | exact want_none | exact want_L rfl) rfl (by decide) rfl (put_out hF16.is (by omega) (AttrS.nil _) (i + 2) (by omega)) ?_
    rintro _ u17 ⟨rfl, hC17⟩
    refine ⟨_, rfl, ?_⟩
    have hF17 := hF16.no hC17
    have hb17 := hb16.no hC17
    iterate 4 (refine zl_pureL rfl ?_)
    refine z_loadAB (want_L rfl) (by decide) rfl (by assumption) (by rfl) ?_
    refine zl_call (by first | exact want_none | exact want_L rfl) rfl (by decide) rfl (put_out hF17.is (by omega) (AttrS.nil _) (-1) (by omega)) ?_
    rintro _ u18 ⟨rfl, hC18⟩
    refine ⟨_, rfl, ?_⟩
    have hF18 := hF17.no hC18
    have hb18 := hb17.no hC18
    iterate 5 (refine zl_pureL rfl ?_)
    refine z_add (want_L rfl) (by decide) rfl rfl (by omega) (by omega) ?_
    refine z_loadAB (want_L rfl) (by decide) rfl (by assumption) (by rfl) ?_
    refine zl_call (by first | exact want_none | exact want_L rfl) rfl (by decide) rfl (set_out hF18.is (by omega) (AttrS.nil _) (i + 1) (by omega)) ?_
    rintro _ u19 ⟨rfl, hC19⟩
    refine ⟨_, rfl, ?_⟩
    have hF19 := hF18.no hC19
    have hb19 := hb18.no hC19
    iterate 5 (refine zl_pureL rfl ?_)
    refine z_add (want_L rfl) (by decide) rfl rfl (by omega) (by omega) ?_
    refine zl_call (by first | exact want_none | exact want_L rfl) rfl (by decide) rfl (drop_out hF19.is (by omega) (i + 1) (by omega)) ?_
    rintro _ u20 ⟨rfl, hC20⟩
    refine ⟨_, rfl, ?_⟩
    have hF20 := hF19.no hC20
    iterate 4 (refine zl_pureL rfl ?_)
    refine zl_call (by first | exact want_none | exact want_L rfl) rfl (by decide) rfl (len_calls hF20.is) ?_
    rintro _ u21 ⟨rfl, rfl⟩
    refine ⟨_, rfl, ?_⟩
    rw [hl16]
    refine zl_pureL rfl ?_
    refine z_add (want_L rfl) (by decide) rfl rfl (by omega) (by omega) ?_
    refine z_cmpB (r := true) (want_L rfl) (by decide) rfl rfl rfl (iff_of_true rfl (by omega)) ?_
    iterate 2 (refine zl_pureL rfl ?_)
    refine zl_nil ?_
    refine zk_seq ?_
    refine zc_ret ?_
    exact zk_ret1 (.inr rfl) rfl rfl ⟨rfl, hF20.chg.below⟩
end Go.Proofs.Ytaagolhokejflaa.M
