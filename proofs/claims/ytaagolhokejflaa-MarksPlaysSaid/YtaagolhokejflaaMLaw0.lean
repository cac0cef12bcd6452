import Derived.Test.YtaagolhokejflaaMPush
/- What the laws share: within, a list that a law made, known. -/
namespace Go.Proofs.Ytaagolhokejflaa.M
open Go Go.Z Go.Proofs
set_option linter.unusedVariables false
theorem tmod_emod (a : Int) (n : Nat) (hn : 0 < n) : (0 ≤ a.tmod n ∧ a.tmod n = a % n ∧ a.tmod n < n) ∨ (a.tmod n < 0 ∧ a.tmod n + n = a % n ∧ -(n : Int) < a.tmod n) := by
  have h1 := Int.emod_nonneg a (show (n : Int) ≠ 0 by omega)
  have h2 := Int.emod_lt_of_pos a (show (0 : Int) < n by omega)
  have h3 := Int.tmod_lt_of_pos a (show (0 : Int) < n by omega)
  have h4 : -(n : Int) < a.tmod n := by
    have := Int.tmod_lt_of_pos (-a) (show (0 : Int) < n by omega)
    rw [Int.neg_tmod] at this; omega
  have h5 : ((n : Int)) ∣ (a % n - a.tmod n) := by
    have e1 := Int.emod_add_mul_ediv a n
    have e2 := Int.tmod_add_mul_tdiv a n
    refine ⟨a.tdiv n - a / n, ?_⟩
    rw [Int.mul_sub]; omega
  obtain ⟨q, hq⟩ := h5
  have hq0 : -1 < q := by
    apply Int.lt_of_not_ge; intro hge
    have : (n : Int) * q ≤ (n : Int) * (-1) := Int.mul_le_mul_of_nonneg_left hge (by omega)
    omega
  have hq1 : q < 2 := by
    apply Int.lt_of_not_ge; intro hge
    have : (n : Int) * 2 ≤ (n : Int) * q := Int.mul_le_mul_of_nonneg_left hge (by omega)
    omega
  have : q = 0 ∨ q = 1 := by omega
  rcases this with rfl | rfl
  · left; omega
  · right; omega
theorem within_calls {w : World} {a : Int} {n : Nat} (hn : 0 < n) (hn2 : n ≤ 1000000000) :
    Calls Try.prog 10 [.int .i64 a, .int .i64 n].toArray w fun e w' => e = .returned (.int .i64 (a % n)) ∧ w' = w := by
  have hm := tmod_emod a n hn
  refine calls_zc (n := 15) (f := 10) (fn := Try.f10) Try.func10 rfl rfl (by simp) ?_
  refine zc_seq ?_
  refine zc_region ?_
  refine zl_pureL rfl ?_
  refine zl_nil ?_
  refine zk_seq ?_
  refine zc_seq ?_
  refine zc_region ?_
  iterate 2 (refine zl_pureL rfl ?_)
  refine z_rem (by first | exact want_none | exact want_L rfl) (by decide) rfl rfl (by omega) ?_
  refine zl_pureL rfl ?_
  refine zl_nil ?_
  refine zk_seq ?_
  iterate 2 (refine zc_seq ?_)
  refine zc_region ?_
  refine zl_pureL rfl ?_
  rcases hm with ⟨h1, h2, h3⟩ | ⟨h1, h2, h3⟩
  · refine z_cmpB (r := false) want_none (by decide) rfl rfl rfl (iff_of_false Bool.false_ne_true (by omega)) ?_
    refine zl_nil ?_
    refine zk_seq ?_
    refine zc_false rfl ?_
    refine zc_skip ?_
    refine zk_seq ?_
    refine zc_seq ?_
    refine zc_region ?_
    iterate 2 (refine zl_pureL rfl ?_)
    refine zl_nil ?_
    refine zk_seq ?_
    refine zc_ret ?_
    exact zk_ret1 (.inr rfl) rfl rfl ⟨by rw [h2], rfl⟩
  · refine z_cmpB (r := true) want_none (by decide) rfl rfl rfl (iff_of_true rfl (by omega)) ?_
    refine zl_nil ?_
    refine zk_seq ?_
    refine zc_true rfl ?_
    refine zc_region ?_
    iterate 2 (refine zl_pureL rfl ?_)
    refine z_add want_none (by decide) rfl rfl (by omega) (by omega) ?_
    refine zl_pureL rfl ?_
    refine zl_nil ?_
    refine zk_seq ?_
    refine zc_seq ?_
    refine zc_region ?_
    iterate 2 (refine zl_pureL rfl ?_)
    refine zl_nil ?_
    refine zk_seq ?_
    refine zc_ret ?_
    exact zk_ret1 (.inr rfl) rfl rfl ⟨by rw [h2], rfl⟩
theorem within1_calls {w : World} {a : Int} {n : Nat} (hn : 0 < n) (hn2 : n ≤ 1000000000) :
    Calls Try.prog 44 [.int .i64 a, .int .i64 n].toArray w fun e w' => e = .returned (.int .i64 (a % n)) ∧ w' = w := by
  have hm := tmod_emod a n hn
  refine calls_zc (n := 15) (f := 44) (fn := Try.f44) Try.func44 rfl rfl (by simp) ?_
  refine zc_seq ?_
  refine zc_region ?_
  refine zl_pureL rfl ?_
  refine zl_nil ?_
  refine zk_seq ?_
  refine zc_seq ?_
  refine zc_region ?_
  iterate 2 (refine zl_pureL rfl ?_)
  refine z_rem (by first | exact want_none | exact want_L rfl) (by decide) rfl rfl (by omega) ?_
  refine zl_pureL rfl ?_
  refine zl_nil ?_
  refine zk_seq ?_
  iterate 2 (refine zc_seq ?_)
  refine zc_region ?_
  refine zl_pureL rfl ?_
  rcases hm with ⟨h1, h2, h3⟩ | ⟨h1, h2, h3⟩
  · refine z_cmpB (r := false) want_none (by decide) rfl rfl rfl (iff_of_false Bool.false_ne_true (by omega)) ?_
    refine zl_nil ?_
    refine zk_seq ?_
    refine zc_false rfl ?_
    refine zc_skip ?_
    refine zk_seq ?_
    refine zc_seq ?_
    refine zc_region ?_
    iterate 2 (refine zl_pureL rfl ?_)
    refine zl_nil ?_
    refine zk_seq ?_
    refine zc_ret ?_
    exact zk_ret1 (.inr rfl) rfl rfl ⟨by rw [h2], rfl⟩
  · refine z_cmpB (r := true) want_none (by decide) rfl rfl rfl (iff_of_true rfl (by omega)) ?_
    refine zl_nil ?_
    refine zk_seq ?_
    refine zc_true rfl ?_
    refine zc_region ?_
    iterate 2 (refine zl_pureL rfl ?_)
    refine z_add want_none (by decide) rfl rfl (by omega) (by omega) ?_
    refine zl_pureL rfl ?_
    refine zl_nil ?_
    refine zk_seq ?_
    refine zc_seq ?_
    refine zc_region ?_
    iterate 2 (refine zl_pureL rfl ?_)
    refine zl_nil ?_
    refine zk_seq ?_
    refine zc_ret ?_
    exact zk_ret1 (.inr rfl) rfl rfl ⟨by rw [h2], rfl⟩
/-- a list that a law made: its blocks are newer than w0 -/
structure Fr (w0 w : World) (st g : Nat) (v : Value) (L : List Mark) : Prop where
  is : IsM w st g v L
  ge : w0.heap.size ≤ g
  new : NewS w0.heap.size v
  chg : Chg w0 w No
section
variable {w0 w w' : World} {st g : Nat} {v v' : Value} {L L' : List Mark}
theorem Fr.foot (h : Fr w0 w st g v L) : ∀ k, foot g v k → w0.heap.size ≤ k := by
  rintro k (rfl | hk)
  · exact h.ge
  · exact h.new k hk
theorem Fr.no (h : Fr w0 w st g v L) (hc : Chg w w' No) : Fr w0 w' st g v L := ⟨h.is.no hc, h.ge, h.new, h.chg.no hc⟩
theorem Fr.wr (h : Fr w0 w st g v L) (h' : IsM w' st g v' L') (hW : Wr w w' g v v') : Fr w0 w' st g v' L' := by
  refine ⟨h', h.ge, fun k hk => ?_, h.chg.trans hW.chg (fun i hi hf => by have := h.foot i hf; omega)⟩
  rcases hW.row with h1 | ⟨j, h1, h2⟩
  · exact h.new k (h1 ▸ hk)
  · rw [hk] at h1; cases h1; exact Nat.le_trans h.chg.size h2
end
/-- a block that is no part of it stays -/
theorem Wr.keep {w w' : World} {g : Nat} {v v' : Value} {b t : Nat} {cs : List Value} (hW : Wr w w' g v v') (hb : Blk w b t cs) (h1 : b ≠ g) (h2 : v.ownBlock ≠ some b) : Blk w' b t cs ∧ v'.ownBlock ≠ some b := by
  refine ⟨hb.chg hW.chg ?_, ?_⟩
  · rintro (he | he)
    · exact h1 he
    · exact h2 he
  · intro he
    rcases hW.row with h3 | ⟨j, h3, h4⟩
    · exact h2 (h3 ▸ he)
    · rw [he] at h3; cases h3; have := hb.lt; omega
/-- a block of another type stays -/
theorem Wr.other {w w' : World} {st g : Nat} {v v' : Value} {L : List Mark} {b t : Nat} {cs : List Value} (hW : Wr w w' g v v') (hI : IsM w st g v L) (hb : Blk w b t cs) (h1 : t ≠ st) (h2 : t ≠ 32) : Blk w' b t cs := by
  obtain ⟨hg, ms, hO, hA⟩ := hI
  exact (hW.keep hb (hb.ne hg h1) (fun he => hO.ne he hb (Ne.symm h2) rfl)).1
theorem Wr.k47 {w w' : World} {st g : Nat} {v v' : Value} {L : List Mark} (hW : Wr w w' g v v') (hI : IsM w st g v L) (h1 : 47 ≠ st) : K47 w w' := fun b c hb => hW.other hI hb h1 (by decide)
theorem dropM_len (L : List Mark) (i : Nat) : (dropM L i).length ≤ L.length := by unfold dropM; simp; omega
theorem pushM_len (L : List Mark) (x : Mark) : (pushM L x).length ≤ L.length + 1 := by
  unfold pushM
  split
  · have := dropM_len L (firstF L x (beginN L L.length) (L.length - beginN L L.length)).toNat
    simp; omega
  · simp
theorem pushM_mem (L : List Mark) (x m : Mark) (h : m ∈ pushM L x) : m ∈ L ∨ m = x := by
  unfold pushM at h
  rcases List.mem_append.1 h with h | h
  · split at h
    · unfold dropM at h
      rcases List.mem_append.1 h with h | h
      · exact .inl (List.mem_of_mem_take h)
      · exact .inl (List.mem_of_mem_drop h)
    · exact .inl h
  · exact .inr (by simpa using h)
/-- every mark has few attributes -/
def Few (L : List Mark) : Prop := ∀ m ∈ L, m.attrs.length ≤ 100000
theorem Few.push {L : List Mark} {x : Mark} (h : Few L) (hx : x.attrs.length ≤ 100000) : Few (pushM L x) := fun m hm => by
  rcases pushM_mem L x m hm with h1 | rfl
  · exact h m h1
  · exact hx
def sB : ByteArray := ⟨#[98]⟩
def knownL : Nat → List Mark
  | 0 => []
  | k + 1 => pushM (knownL k) ⟨k + 1, sB, []⟩
theorem knownL_len : ∀ k, (knownL k).length ≤ k
  | 0 => Nat.le_refl 0
  | k + 1 => by unfold knownL; have := pushM_len (knownL k) ⟨k + 1, sB, []⟩; have := knownL_len k; omega
theorem knownL_few : ∀ k, Few (knownL k)
  | 0 => by intro m hm; cases hm
  | k + 1 => (knownL_few k).push (Nat.zero_le _)
theorem known_val : (knownL 4).length = 3 ∧ findN (knownL 4 ++ [Mark.wall]) sB (knownL 4 ++ [Mark.wall]).length = -1 ∧ ofN (knownL 4 ++ [Mark.wall]) 4 0 (knownL 4 ++ [Mark.wall]).length = 2 ∧ ofN (knownL 4 ++ [Mark.wall]) 1 0 (knownL 4 ++ [Mark.wall]).length = -1 := by
  refine ⟨?_, ?_, ?_, ?_⟩ <;> decide +kernel
set_option maxHeartbeats 1000000 in
theorem known_calls {w : World} : Calls Try.prog 12 [].toArray w fun e w' => e = .returned (.bool true) ∧ Chg w w' No := by
  obtain ⟨k1, k2, k3, k4⟩ := known_val
  refine calls_zc (n := 37) (f := 12) (fn := Try.f12) Try.func12 rfl rfl (by simp) ?_
  refine zc_seq ?_
  refine zc_region ?_
  refine zl_pureL rfl ?_
  refine zl_nil ?_
  refine zk_seq ?_
  refine zc_seq ?_
  refine zc_region ?_
  refine zl_call (by first | exact want_none | exact want_L rfl) rfl (by decide) rfl new_calls ?_
  rintro _ w1 ⟨g, rfl, hI, hC, hge⟩
  refine ⟨_, rfl, ?_⟩
  have hF : Fr w w1 62 g (.slice none 0 0) (knownL 0) := ⟨hI, hge, (fun k hk => by cases hk), hC⟩
  refine zl_pureL rfl ?_
  refine zl_nil ?_
  refine zk_seq ?_
  iterate 2 (refine zc_seq ?_)
  refine zc_region ?_
  refine zl_pureL rfl ?_
  refine z_eqPN (by first | exact want_none | exact want_L rfl) (by decide) rfl rfl ?_
  refine zl_nil ?_
  refine zk_seq ?_
  refine zc_false rfl ?_
  refine zc_skip ?_
  refine zk_seq ?_
  iterate 2 (refine zc_seq ?_)
  refine zc_region ?_
  refine zl_pureL rfl ?_
  refine zl_nil ?_
  refine zk_seq ?_
  refine zc_block ?_
  refine zc_loopW (ι := Nat × Value) (fun k u => [(1, .pointer (some ⟨g, 0, none⟩)), (2, .int .i64 k.1)])
    (fun k u => k.1 ≤ 4 ∧ Fr w u 62 g k.2 (knownL k.1)) (fun k u => 4 - k.1) (0, .slice none 0 0) ⟨Nat.zero_le _, hF⟩ ?_ ?_
  · exact ⟨rfl, rfl, trivial⟩
  rintro ⟨k, v⟩ w2 ⟨hk, hF⟩
  dsimp only at hk hF
  have hl := knownL_len k
  by_cases hlt : k < 4
  · iterate 2 (refine zc_seq ?_)
    refine zc_region ?_
    refine zl_pureL rfl ?_
    refine z_cmpB (r := true) want_none (by decide) rfl rfl rfl (iff_of_true rfl (by omega)) ?_
    refine zl_nil ?_
    refine zk_seq ?_
    refine zc_true rfl ?_
    refine zc_skip ?_
    refine zk_seq ?_
    refine zc_seq ?_
    refine zc_block ?_
    refine zc_region ?_
    iterate 2 (refine zl_pureL rfl ?_)
    refine z_add want_none (by decide) rfl rfl (by omega) (by omega) ?_
    refine z_buildE #[.int .i64 (k + 1), .string sB, .slice none 0 0] (by first | exact want_none | exact want_L rfl) (by decide) rfl (by kernel_rfl) ?_
    refine zl_call (by first | exact want_none | exact want_L rfl) rfl (by decide) rfl (push_calls hF.is (by omega) (AttrS.nil w2) (Nat.zero_le _) (knownL_few k)) ?_
    rintro _ w3 ⟨rfl, v3, hI3, hW3⟩
    refine ⟨_, rfl, ?_⟩
    have hF3 := hF.wr hI3 hW3
    refine zl_nil ?_
    refine zk_norm_block ?_
    refine zk_seq ?_
    refine zc_region ?_
    refine zl_pureL rfl ?_
    refine z_add want_none (by decide) rfl rfl (by omega) (by omega) ?_
    refine zl_pureL rfl ?_
    refine zl_nil ?_
    exact zk_loopW (k + 1, v3) ⟨by omega, hF3⟩ (by simp; omega) ⟨rfl, rfl, trivial⟩
  · obtain rfl : k = 4 := by omega
    iterate 2 (refine zc_seq ?_)
    refine zc_region ?_
    refine zl_pureL rfl ?_
    refine z_cmpB (r := false) want_none (by decide) rfl rfl rfl (iff_of_false Bool.false_ne_true (by omega)) ?_
    refine zl_nil ?_
    refine zk_seq ?_
    refine zc_false rfl ?_
    refine zc_exit ?_
    iterate 2 (refine zk_exit_then ?_)
    refine zk_exit_block ?_
    refine zk_seq ?_
    refine zc_seq ?_
    refine zc_region ?_
    refine zl_pureL rfl ?_
    refine zl_call (by first | exact want_none | exact want_L rfl) rfl (by decide) rfl (len_calls hF.is) ?_
    rintro _ w3 ⟨rfl, rfl⟩
    refine ⟨_, rfl, ?_⟩
    refine zl_pureL rfl ?_
    refine zl_nil ?_
    refine zk_seq ?_
    refine zc_seq ?_
    refine zc_region ?_
    refine zl_pureL rfl ?_
    refine zl_call (by first | exact want_none | exact want_L rfl) rfl (by decide) rfl (wall_calls hF.is (by omega)) ?_
    rintro _ w4 ⟨rfl, v4, hI4, hW4⟩
    refine ⟨_, rfl, ?_⟩
    have hF4 := hF.wr hI4 hW4
    rw [k1]
    refine zl_nil ?_
    refine zk_seq ?_
    refine zc_seq ?_
    refine zc_region ?_
    refine zl_pureL rfl ?_
    refine z_cmpB (r := true) want_none (by decide) rfl rfl rfl (iff_of_true rfl (by omega)) ?_
    iterate 2 (refine zl_pureL rfl ?_)
    refine zl_call (by first | exact want_none | exact want_L rfl) rfl (by decide) rfl (find_calls sB hF4.is (by simp; omega)) ?_
    rintro _ w5 ⟨rfl, rfl⟩
    refine ⟨_, rfl, ?_⟩
    rw [k2]
    refine z_cmpB (r := true) (want_L rfl) (by decide) rfl rfl rfl (iff_of_true rfl (by omega)) ?_
    iterate 3 (refine zl_pureL rfl ?_)
    refine zl_call (by first | exact want_none | exact want_L rfl) rfl (by decide) rfl (of_calls 4 hF4.is (by simp; omega)) ?_
    rintro _ w6 ⟨rfl, hC6⟩
    refine ⟨_, rfl, ?_⟩
    rw [k3]
    have hF6 := hF4.no hC6
    refine z_cmpB (r := true) (want_L rfl) (by decide) rfl rfl rfl (iff_of_true rfl (by omega)) ?_
    iterate 3 (refine zl_pureL rfl ?_)
    refine zl_call (by first | exact want_none | exact want_L rfl) rfl (by decide) rfl (of_calls 1 hF6.is (by simp; omega)) ?_
    rintro _ w7 ⟨rfl, hC7⟩
    refine ⟨_, rfl, ?_⟩
    rw [k4]
    refine z_cmpB (r := true) (want_L rfl) (by decide) rfl rfl rfl (iff_of_true rfl (by omega)) ?_
    iterate 2 (refine zl_pureL rfl ?_)
    refine zl_nil ?_
    refine zk_seq ?_
    refine zc_ret ?_
    exact zk_ret1 (.inr rfl) rfl rfl ⟨rfl, (hF6.no hC7).chg⟩
end Go.Proofs.Ytaagolhokejflaa.M
