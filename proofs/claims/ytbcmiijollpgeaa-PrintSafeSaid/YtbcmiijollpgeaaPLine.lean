import Derived.Test.YtbcmiijollpgeaaPImg
/- A line of a tape. -/
namespace Go.Proofs.Ytbcmiijollpgeaa.T
open Go Go.Z Go.Proofs
set_option linter.unusedVariables false
/-- is a name among others: some answer -/
theorem in_calls {w : World} {v : Value} (l : List (List UInt8)) (x : List UInt8) (h : RdS w 9 1 v l.length (strs l)) (hl : l.length ≤ 1000) : Calls Try.prog 52 [v, .string (bs x)].toArray w fun e w' => (∃ q : Bool, e = .returned (.bool q)) ∧ w' = w := by
  obtain ⟨A, c, rfl, hc⟩ := h.form
  refine calls_zc (n := 18) (f := 52) (fn := Try.f52) Try.func52 rfl rfl (by simp) ?_
  refine zc_seq ?_
  refine zc_region ?_
  refine zl_pureL rfl ?_
  refine zl_nil ?_
  refine zk_seq ?_
  iterate 2 (refine zc_seq ?_)
  refine zc_region ?_
  refine zl_pureL rfl ?_
  refine zl_nil ?_
  refine zk_seq ?_
  refine zc_block ?_
  refine zc_loopW (ι := Nat) (fun i u => [(0, .slice A l.length c), (1, .string (bs x)), (5, .int .i64 i)]) (fun i u => i ≤ l.length ∧ u = w) (fun i u => l.length - i) 0 ⟨Nat.zero_le _, rfl⟩ ?_ ?_
  · exact ⟨rfl, rfl, rfl, trivial⟩
  rintro i u ⟨hi, rfl⟩
  by_cases hlt : i < l.length
  · obtain ⟨b, o, c', hv, _, hcell⟩ := h.some (by omega)
    cases hv
    have hc0 := hcell (i * 1) _ (by rw [Nat.mul_one]; exact strs_get l i hlt)
    iterate 2 (refine zc_seq ?_)
    refine zc_region ?_
    iterate 2 (refine zl_pureL rfl ?_)
    refine z_len want_none (by decide) rfl ?_
    refine z_cmpB (r := true) want_none (by decide) rfl rfl rfl (iff_of_true rfl (by omega)) ?_
    refine zl_nil ?_
    refine zk_seq ?_
    refine zc_true rfl ?_
    refine zc_skip ?_
    refine zk_seq ?_
    refine zc_seq ?_
    refine zc_block ?_
    refine zc_seq ?_
    refine zc_region ?_
    iterate 2 (refine zl_pureL rfl ?_)
    refine z_ia want_none (by decide) rfl rfl (by omega) (by omega) ?_
    refine z_load1 want_none (by decide) rfl (by assumption) ?_
    refine zl_pureL rfl ?_
    refine z_eqL (by first | exact want_none | exact want_L rfl) (by decide) rfl rfl (fun hc => ?_) (fun hc => ?_)
    · refine zl_nil ?_
      refine zk_seq ?_
      refine zc_true rfl ?_
      refine zc_seq ?_
      refine zc_region ?_
      refine zl_pureL rfl ?_
      refine zl_nil ?_
      refine zk_seq ?_
      refine zc_ret ?_
      refine zk_ret_block ?_
      iterate 2 (refine zk_ret_then ?_)
      refine zk_ret_block ?_
      refine zk_ret_then ?_
      exact zk_ret1 (.inr rfl) rfl rfl ⟨⟨true, rfl⟩, rfl⟩
    · refine zl_nil ?_
      refine zk_seq ?_
      refine zc_false rfl ?_
      refine zc_skip ?_
      refine zk_norm_block ?_
      refine zk_seq ?_
      refine zc_region ?_
      refine zl_pureL rfl ?_
      refine z_add want_none (by decide) rfl rfl (by omega) (by omega) ?_
      refine zl_pureL rfl ?_
      refine zl_nil ?_
      exact zk_loopW (i + 1) ⟨by omega, rfl⟩ (by omega) ⟨rfl, rfl, get_int rfl (by simp), trivial⟩
  · obtain rfl : i = l.length := by omega
    iterate 2 (refine zc_seq ?_)
    refine zc_region ?_
    iterate 2 (refine zl_pureL rfl ?_)
    refine z_len want_none (by decide) rfl ?_
    refine z_cmpB (r := false) want_none (by decide) rfl rfl rfl (iff_of_false Bool.false_ne_true (by omega)) ?_
    refine zl_nil ?_
    refine zk_seq ?_
    refine zc_false rfl ?_
    refine zc_exit ?_
    iterate 2 (refine zk_exit_then ?_)
    refine zk_exit_block ?_
    refine zk_seq ?_
    refine zc_seq ?_
    refine zc_region ?_
    refine zl_pureL rfl ?_
    refine zl_nil ?_
    refine zk_seq ?_
    refine zc_ret ?_
    exact zk_ret1 (.inr rfl) rfl rfl ⟨⟨false, rfl⟩, rfl⟩
theorem texts_calls {w : World} : Calls Try.prog 58 ([] : List Value).toArray w fun e w' => (∃ b, e = .returned (.slice (some ⟨b, 0, none⟩) 13 13) ∧ Blk w' b 9 (strs lTx)) ∧ Chg w w' No := by
  refine calls_zc (n := 2) (f := 58) (fn := Try.f58) Try.func58 rfl rfl (by simp) ?_
  refine zc_seq ?_
  refine zc_region ?_
  refine zl_pureL rfl ?_
  refine zl_nil ?_
  refine zk_seq ?_
  refine zc_seq ?_
  refine zc_region ?_
  refine z_bsE (strs lTx) (by first | exact want_none | exact want_L rfl) (by decide) rfl (by decide) (by decide) (by kernel_rfl) (fun w1 b1 hN1 => ?_)
  refine zl_pureL rfl ?_
  refine zl_nil ?_
  refine zk_seq ?_
  refine zc_ret ?_
  exact zk_ret1 (.inr rfl) rfl rfl ⟨⟨b1, rfl, hN1.blk⟩, hN1.chg⟩
def lnW : List UInt8 := [97, 32, 99, 111, 100, 101, 32, 101, 109, 32, 115, 116, 114, 111, 110, 103, 32, 115, 117, 98, 32, 115, 117, 112]
def lnN : List (List UInt8) := wordsN [] lnW
theorem lnN_len : lnN.length = 6 := by decide +kernel
theorem lnN_nm : ∀ x ∈ lnN, x ∈ lNm := by decide +kernel
/-- texts as they are -/
def lTx0 : List (List UInt8) := [] :: lTx
def AT.plain : AT → Prop
  | .nil => True
  | .cons x k r => x.text ∈ lTx0 ∧ r.plain
def AT.okp (t : AT) : Prop := t.ok ∧ t.plain
theorem AT.snoc_plain : ∀ {t : AT} {x : Hd} {k : AT}, t.plain → x.text ∈ lTx0 → (t.snoc x k).plain
  | .nil, x, k, _, hx => ⟨hx, trivial⟩
  | .cons y k' r, x, k, h, hx => ⟨h.1, AT.snoc_plain h.2 hx⟩
theorem AT.snoc_okp {t : AT} {x : Hd} {k : AT} (h : t.okp) (hx : HdOk x) (hk : k.ok) (hp : x.text ∈ lTx0) : (t.snoc x k).okp := ⟨AT.snoc_ok h.1 hx hk, AT.snoc_plain h.2 hp⟩
theorem mem0 : ([] : List UInt8) ∈ lTx0 := by decide
/-- how many arts a line may have -/
def lnZ : Nat → Nat
  | 0 => 3
  | r + 1 => 3 * (1 + lnZ r)
theorem lnZ_one : ∀ r, 1 ≤ lnZ r / 3
  | 0 => by decide
  | r + 1 => by simp [lnZ]
theorem lnZ_div (r : Nat) : lnZ (r + 1) / 3 = 1 + lnZ r := by simp [lnZ]
/-- what a maker of rows does -/
def MkC (f : Nat) (extra : List Value) (N : Nat) : Prop := ∀ {w : World} {B bt : Nat}, Tp w B bt → Calls Try.prog f (.pointer (some ⟨bt, 0, none⟩) :: extra).toArray w fun e w' => ∃ vo t, e = .returned vo ∧ Out w.heap.size w' vo t ∧ t.ok ∧ t.size ≤ N ∧ Tp w' B bt ∧ Chg w w' (· = bt)
/-- the same, of a line: never empty -/
def LineC (r : Nat) : Prop := ∀ {w : World} {B bt : Nat} {v : Value} (l : List (List UInt8)), Tp w B bt → RdS w 9 1 v l.length (strs l) → l.length + r ≤ 900 → ∀ {lv : Int}, lv = 6 - (r : Int) →
  Calls Try.prog 47 [.pointer (some ⟨bt, 0, none⟩), .int .i64 lv, v].toArray w fun e w' => ∃ vo t, e = .returned vo ∧ Out w.heap.size w' vo t ∧ t.okp ∧ 0 < t.len ∧ t.size ≤ lnZ r ∧ Tp w' B bt ∧ Chg w w' (· = bt)
theorem RdS.tp {w w' : World} {ty sz m : Nat} {v : Value} {cs : List Value} {B bt : Nat} (h : RdS w ty sz v m cs) (hT : Tp w B bt) (hc : Chg w w' (· = bt)) (ht : ty ≠ 30) : RdS w' ty sz v m cs := by
  obtain ⟨c0, hb⟩ := hT.blk
  exact RdS.chgAt h hc (fun _ b cells _ hk he => hk.ne hb ht he)
/-- the row of an art, made -/
theorem RdS.art {w w1 : World} {b : Nat} {m : MA} {x : Hd} {o : Nat → Prop} {k : AT} (hx : HO w m x) (hk : TreeOk w o m.kids k) (h : New w w1 b 38 (encM [m])) : RdS w1 38 5 (.slice (some ⟨b, 0, none⟩) 1 1) 1 (encM [m]) := by
  refine RdS.new h rfl ?_
  obtain ⟨A, c, hv, _⟩ := hx.2.1.form
  obtain ⟨A', n', c', hf⟩ := hx.2.2.2
  obtain ⟨A2, c2, hv', _⟩ := hk.form
  intro u hu
  simp only [encM, List.mem_cons, List.not_mem_nil, or_false] at hu
  rcases hu with rfl | rfl | rfl | rfl | rfl
  · rfl
  · rw [hv]; rfl
  · rfl
  · rw [hf]; rfl
  · rw [hv']; rfl
/-- the rule of an append of one art, at the end of a row that grows -/
theorem z_push {n : Nat} {e : Env} {w w0 : World} {Q : Exit → Act → World → Prop} {ops : Array Oper} {rest : List Oper} {d : Tmp} {ty : TypeId} {pos : String} {aft : Array Edge} {g : Option (Nat × Bool)} {s x : Operand} {B b : Nat} {vo : Value} {t : AT} {m : MA} {h : Hd} {k : AT}
    (hw : Want ops e g) (hdn : d < n) (hs : ev e s = some vo) (hx : ev e x = some (.slice (some ⟨b, 0, none⟩) 1 1)) (hO : Out B w0 vo t) (hm : HO w0 m h) (hk : TreeOk w0 (fun b => B ≤ b ∧ vo.ownBlock ≠ some b) m.kids k) (hB : B ≤ w0.heap.size) (hN : New w0 w b 38 (encM [m])) (hl : t.len ≤ 1000000000)
    (hq : ∀ v' w', Out B w' v' (t.snoc h k) → Chg w0 w' (fun j => vo.ownBlock = some j) → ZL Try.prog n ops rest ((d, v') :: e) w' Q) :
    ZL Try.prog n ops (⟨some d, .call { callee := .builtin .append, args := #[s, x], argTypes := #[23, 23] }, ty, pos, aft, g⟩ :: rest) e w Q := by
  obtain ⟨ms, g1, g2, g3⟩ := hO
  have hlen := Out.len B g3
  have hr := RdS.art hm hk hN
  refine z_appendO (by rfl) (by decide) hw hdn hs hx (g1.no hN.chg) hr (by omega) (by omega) (fun v' w' hO' hC' hr' => ?_)
  exact hq v' w' (Out.push g1 g2 g3 hm hk hB hN.chg hO' hC' hr') ((hN.chg.mono (fun _ _ h => h.elim)).trans hC' (fun _ _ h => h))
theorem Tp.own {w w' : World} {B bt B' : Nat} {vo : Value} {t : AT} (h : Tp w B bt) (hO : Out B' w vo t) (hB : B ≤ B') (hc : Chg w w' (fun j => vo.ownBlock = some j)) : Tp w' B bt := by
  obtain ⟨ms, g1, g2, g3⟩ := hO
  obtain ⟨cs, hb⟩ := h.blk
  exact h.oth hc (fun he => g1.ne he hb (by decide) rfl) (fun k _ hk => Nat.le_trans hB (g2 k hk))
theorem Chg.own {w0 w w' : World} {bt B' : Nat} {vo : Value} {t : AT} (h : Chg w0 w (· = bt)) (hO : Out B' w vo t) (hB : w0.heap.size ≤ B') (hc : Chg w w' (fun j => vo.ownBlock = some j)) : Chg w0 w' (· = bt) := by
  obtain ⟨ms, g1, g2, g3⟩ := hO
  exact h.trans hc (fun i hi he => by have := g2 i he; omega)
theorem cellsS_strs (l : List (List UInt8)) : cellsS l = strs l := rfl
set_option maxRecDepth 100000 in
set_option maxHeartbeats 16000000 in
theorem line_body (r : Nat) (hr6 : r ≤ 6) (hrec : ∀ r', r = r' + 1 → LineC r') : LineC r := by
  intro w B bt v l hT0 hv0 hl lv hlv
  obtain ⟨Av, cv, hvf, hcv⟩ := hv0.form
  subst hvf
  refine calls_zc (n := 113) (f := 47) (fn := Try.f47) Try.func47 rfl rfl (by simp) ?_
  refine zc_seq ?_
  refine zc_region ?_
  refine zl_pureL rfl ?_
  refine zl_nil ?_
  refine zk_seq ?_
  refine zc_seq ?_
  refine zc_region ?_
  refine zl_pureL rfl ?_
  refine zl_nil ?_
  refine zk_seq ?_
  refine zc_seq ?_
  refine zc_region ?_
  refine zl_pureL rfl ?_
  refine zl_call (by first | exact want_none | exact want_L rfl) rfl (by decide) rfl (next_calls hT0 3 (by decide) (by decide) rfl) ?_
  rintro _ w1 ⟨⟨kn, hkn, rfl⟩, hT1, hC1⟩
  refine ⟨_, rfl, ?_⟩
  refine z_add want_none (by decide) rfl rfl (by omega) (by omega) ?_
  refine zl_pureL rfl ?_
  refine zl_nil ?_
  refine zk_seq ?_
  iterate 2 (refine zc_seq ?_)
  refine zc_region ?_
  refine zl_pureL rfl ?_
  refine zl_nil ?_
  refine zk_seq ?_
  refine zc_block ?_
  refine zc_loopW (ι := Nat × Value × AT) (fun q u => [(0, .pointer (some ⟨bt, 0, none⟩)), (1, .int .i64 lv), (2, .slice Av l.length cv), (7, q.2.1), (8, .int .i64 (1 + (kn : Int))), (9, .int .i64 q.1)])
    (fun q u => q.1 ≤ 1 + kn ∧ Out w.heap.size u q.2.1 q.2.2 ∧ q.2.2.okp ∧ q.2.2.len = q.1 ∧ q.2.2.size + (1 + kn - q.1) * (lnZ r / 3) ≤ (1 + kn) * (lnZ r / 3) ∧ Tp u B bt ∧ Chg w u (· = bt)) (fun q u => 1 + kn - q.1) (0, nS, .nil) ⟨Nat.zero_le _, Out.nil, ⟨trivial, trivial⟩, rfl, by simp [AT.size], hT1, hC1⟩ ?_ ?_
  · exact ⟨rfl, rfl, rfl, rfl, rfl, rfl, trivial⟩
  rintro ⟨i, vo, t⟩ u ⟨hi, hO, hok, hlen, hsz, hT, hC⟩
  dsimp only at hi hO hok hlen hsz hT hC ⊢
  have hws := hC.size
  by_cases hlt : i < 1 + kn
  rotate_left
  · obtain rfl : i = 1 + kn := by omega
    iterate 2 (refine zc_seq ?_)
    refine zc_region ?_
    iterate 2 (refine zl_pureL rfl ?_)
    refine z_cmpB (r := false) want_none (by decide) rfl rfl rfl (iff_of_false Bool.false_ne_true (by omega)) ?_
    refine zl_nil ?_
    refine zk_seq ?_
    refine zc_false rfl ?_
    refine zc_exit ?_
    iterate 2 (refine zk_exit_then ?_)
    refine zk_exit_block ?_
    refine zk_seq ?_
    refine zc_seq ?_
    refine zc_region ?_
    iterate 2 (refine zl_pureL rfl ?_)
    refine zl_nil ?_
    refine zk_seq ?_
    refine zc_ret ?_
    have hz : (1 + kn) * (lnZ r / 3) ≤ lnZ r := by
      have h1 := Nat.mul_le_mul_right (lnZ r / 3) (show 1 + kn ≤ 3 by omega)
      have h2 := Nat.mul_div_le (lnZ r) 3
      omega
    refine zk_ret1 (.inr rfl) rfl rfl ⟨_, t, rfl, hO, hok, by omega, by omega, hT, hC⟩
  obtain ⟨A0, c0, hvo, hc0⟩ := hO.form
  subst hvo
  iterate 2 (refine zc_seq ?_)
  refine zc_region ?_
  iterate 2 (refine zl_pureL rfl ?_)
  refine z_cmpB (r := true) want_none (by decide) rfl rfl rfl (iff_of_true rfl (by omega)) ?_
  refine zl_nil ?_
  refine zk_seq ?_
  refine zc_true rfl ?_
  refine zc_skip ?_
  refine zk_seq ?_
  refine zc_seq ?_
  refine zc_block ?_
  refine zc_seq ?_
  refine zc_region ?_
  refine zl_pureL rfl ?_
  refine zl_call (by first | exact want_none | exact want_L rfl) rfl (by decide) rfl (next_calls hT 10 (by decide) (by decide) rfl) ?_
  rintro _ u1 ⟨⟨k1, hk1, rfl⟩, hTa, hCa⟩
  refine ⟨_, rfl, ?_⟩
  have hO1 := hO.tp hT hCa
  have hC1' : Chg w u1 (· = bt) := hC.trans hCa (fun _ _ h => h)
  refine zl_pureL rfl ?_
  refine zl_nil ?_
  refine zk_seq ?_
  refine zc_seq ?_
  refine zc_region ?_
  refine zl_call (by first | exact want_none | exact want_L rfl) rfl (by decide) rfl (wordsR_calls (l := lnW) (by decide)) ?_
  rintro _ u2 ⟨vn, rfl, hn1, hCb⟩
  refine ⟨_, rfl, ?_⟩
  rw [show wordsN [] lnW = lnN from rfl, lnN_len, cellsS_strs] at hn1
  have hO2 := hO1.no hCb
  have hTb := hTa.no hCb
  obtain ⟨bn, on, cn, hvn, _, _⟩ := RdS.some hn1.rd (by omega)
  subst hvn
  refine zl_pureL rfl ?_
  refine zl_call (by first | exact want_none | exact want_L rfl) rfl (by decide) rfl (next_calls hTb 6 (by decide) (by decide) rfl) ?_
  rintro _ u3 ⟨⟨j, hj, rfl⟩, hTc, hCc⟩
  refine ⟨_, rfl, ?_⟩
  have hO3 := hO2.tp hTb hCc
  have hC3 : Chg w u3 (· = bt) := (hC1'.no hCb).trans hCc (fun _ _ h => h)
  have hn3 := RdS.tp hn1.rd hTb hCc (by decide)
  obtain ⟨bn', on', cn', hvn, _, hcn⟩ := RdS.some hn3 (by omega)
  cases hvn
  have hcj := hcn j _ (strs_get lnN j (by rw [lnN_len]; exact hj))
  have hnm := lnN_nm _ (getD_mem lnN j (by rw [lnN_len]; exact hj))
  generalize lnN.getD j [] = nm at hcj hnm
  have hsu3 := hC3.size
  refine z_ia (by first | exact want_none | exact want_L rfl) (by decide) rfl rfl (by omega) (by omega) ?_
  refine z_load1 (by first | exact want_none | exact want_L rfl) (by decide) rfl (cell_at hcj (by omega)) ?_
  refine zl_pureL rfl ?_
  refine zl_nil ?_
  refine zk_seq ?_
  have hz1 := lnZ_one r
  refine zc_midBX (ι := Value × AT) (fun q u' => Out w.heap.size u' q.1 q.2 ∧ q.2.okp ∧ q.2.len = i + 1 ∧ q.2.size ≤ t.size + lnZ r / 3 ∧ Tp u' B bt ∧ Chg w u' (· = bt)) (fun q => [(0, .pointer (some ⟨bt, 0, none⟩)), (1, .int .i64 lv), (2, .slice Av l.length cv), (7, q.1), (8, .int .i64 (1 + (kn : Int))), (9, .int .i64 i)]) ?_ ?_
  rotate_left
  · rintro ⟨vo', t'⟩ u' ⟨g1, g2, g3, g4, g5, g6⟩
    dsimp only at g1 g2 g3 g4 g5 g6 ⊢
    refine zc_region ?_
    refine zl_pureL rfl ?_
    refine z_add want_none (by decide) rfl rfl (by omega) (by omega) ?_
    refine zl_pureL rfl ?_
    refine zl_nil ?_
    refine zk_loopW (i + 1, vo', t') ⟨by omega, g1, g2, g3, ?_, g5, g6⟩ (by show 1 + kn - (i + 1) < 1 + kn - i; omega) ⟨rfl, rfl, rfl, rfl, rfl, get_int rfl (by simp), trivial⟩
    dsimp only
    obtain ⟨m, hm⟩ : ∃ m, 1 + kn - i = m + 1 := ⟨1 + kn - i - 1, by omega⟩
    rw [hm, Nat.add_mul, Nat.one_mul] at hsz
    rw [show 1 + kn - (i + 1) = m by omega]; omega
  refine zc_block ?_
  refine zc_midX (ι := Bool) (fun q u' => u' = u3) (fun q => [(0, .pointer (some ⟨bt, 0, none⟩)), (1, .int .i64 lv), (2, .slice Av l.length cv), (7, .slice A0 t.len c0), (8, .int .i64 (1 + (kn : Int))), (9, .int .i64 i), (10, .int .i64 k1), (11, .string (bs nm)), (32, .bool q)]) ?_ ?_
  · by_cases hk4 : k1 < 4
    · by_cases hl0 : t.len = 0
      · refine zc_region ?_
        refine zl_pureL rfl ?_
        refine z_cmpB (r := true) want_none (by decide) rfl rfl rfl (iff_of_true rfl (by omega)) ?_
        iterate 2 (refine zl_pureL rfl ?_)
        refine z_len (want_L rfl) (by decide) rfl ?_
        refine z_cmpB (r := true) (want_L rfl) (by decide) rfl rfl rfl (iff_of_true rfl (by omega)) ?_
        iterate 3 (refine zl_pureL rfl ?_)
        iterate 6 (refine zl_skip rfl ?_)
        iterate 3 (refine zl_pureL rfl ?_)
        refine zl_nil ?_
        exact zk_midX true rfl ⟨rfl, rfl, rfl, rfl, rfl, rfl, rfl, rfl, rfl, trivial⟩
      · obtain ⟨b', o', c', x, kx, rx, A', F', K', e1, hv, hN, _⟩ := hO3.tree.at'.at_ (t.len - 1) (by omega)
        cases hv
        have hcx : u3.cell? ⟨b', o' + ((t.len : Int) - 1).toNat * 5 + 0, none⟩ = some (.string (bs x.name)) := by
          have e : ((t.len : Int) - 1).toNat = t.len - 1 := by omega
          rw [e]; exact hN.c0
        refine zc_region ?_
        refine zl_pureL rfl ?_
        refine z_cmpB (r := true) want_none (by decide) rfl rfl rfl (iff_of_true rfl (by omega)) ?_
        iterate 2 (refine zl_pureL rfl ?_)
        refine z_len (want_L rfl) (by decide) rfl ?_
        refine z_cmpB (r := false) (want_L rfl) (by decide) rfl rfl rfl (iff_of_false Bool.false_ne_true (by omega)) ?_
        iterate 3 (refine zl_pureL rfl ?_)
        refine z_len (want_L rfl) (by decide) rfl ?_
        refine z_sub (want_L rfl) (by decide) rfl rfl (by omega) (by omega) ?_
        refine z_ia (want_L rfl) (by decide) rfl rfl (by omega) (by omega) ?_
        refine z_fa (want_L rfl) (by decide) rfl ?_
        refine z_load1 (want_L rfl) (by decide) rfl (by assumption) ?_
        refine z_neL (r := []) (by first | exact want_none | exact want_L rfl) (by decide) rfl rfl (fun hc => ?_) (fun hc => ?_)
        · iterate 3 (refine zl_pureL rfl ?_)
          refine zl_nil ?_
          exact zk_midX true rfl ⟨rfl, rfl, rfl, rfl, rfl, rfl, rfl, rfl, rfl, trivial⟩
        · iterate 3 (refine zl_pureL rfl ?_)
          refine zl_nil ?_
          exact zk_midX false rfl ⟨rfl, rfl, rfl, rfl, rfl, rfl, rfl, rfl, rfl, trivial⟩
    · refine zc_region ?_
      refine zl_pureL rfl ?_
      refine z_cmpB (r := false) want_none (by decide) rfl rfl rfl (iff_of_false Bool.false_ne_true (by omega)) ?_
      iterate 2 (refine zl_pureL rfl ?_)
      iterate 2 (refine zl_skip rfl ?_)
      iterate 3 (refine zl_pureL rfl ?_)
      iterate 6 (refine zl_skip rfl ?_)
      iterate 3 (refine zl_pureL rfl ?_)
      refine zl_nil ?_
      exact zk_midX false rfl ⟨rfl, rfl, rfl, rfl, rfl, rfl, rfl, rfl, rfl, trivial⟩
  have hdBr : HdOk ⟨nBr, [], []⟩ := ⟨by decide, by simp, by simp, by decide⟩
  have hdTx : ∀ x ∈ lTx, HdOk ⟨[], [], x⟩ := fun x hx => ⟨(by decide : ([] : List UInt8) ∈ lNm), by simp, by simp, by unfold lTxs; simp only [List.mem_cons, List.mem_append]; exact .inr (.inr (.inl hx))⟩
  have hlt3 : t.len ≤ 3 := by omega
  rintro q uq hq
  obtain rfl := hq.symm
  cases q
  rotate_left
  · refine zc_true rfl ?_
    refine zc_region ?_
    refine zl_pureL rfl ?_
    refine zl_call (by first | exact want_none | exact want_L rfl) rfl (by decide) rfl texts_calls ?_
    rintro _ u4 ⟨⟨b4, rfl, hb4⟩, hX4⟩
    refine ⟨_, rfl, ?_⟩
    have hO4 := hO3.no hX4
    have hT4 := hTc.no hX4
    have hC4 : Chg w u4 (· = bt) := hC3.no hX4
    refine zl_pureL rfl ?_
    refine zl_call (by first | exact want_none | exact want_L rfl) rfl (by decide) rfl (next_calls hT4 13 (by decide) (by decide) rfl) ?_
    rintro _ u5 ⟨⟨kt, hkt, rfl⟩, hT5, hX5⟩
    refine ⟨_, rfl, ?_⟩
    have hO5 := hO4.tp hT4 hX5
    have hC5 : Chg w u5 (· = bt) := hC4.trans hX5 (fun _ _ h => h)
    have hb5 := keepT hT4 hX5 _ _ _ (by decide) hb4
    have hgt := (hb5.cell kt).trans (strs_get lTx kt hkt)
    have hmt := getD_mem lTx kt hkt
    generalize lTx.getD kt [] = tx at hgt hmt
    refine z_ia (by first | exact want_none | exact want_L rfl) (by decide) rfl rfl (by omega) (by omega) ?_
    refine z_load1 (by first | exact want_none | exact want_L rfl) (by decide) rfl (cell_at hgt (by omega)) ?_
    refine zl_pureL rfl ?_
    refine z_add want_none (by decide) rfl rfl (by omega) (by omega) ?_
    refine z_bs1 (by first | exact want_none | exact want_L rfl) (by decide) rfl (by rfl) (by rfl) (by decide) (by decide) (fun u6 b6 hN6 => ?_)
    have hO6 := hO5.no hN6.chg
    have hT6 := hT5.no hN6.chg
    have hC6 : Chg w u6 (· = bt) := hC5.no hN6.chg
    refine z_buildE #[.string (bs []), nS, .string (bs tx), .slice (some ⟨b6, 0, none⟩) 1 1, nS] (by first | exact want_none | exact want_L rfl) (by decide) rfl (by kernel_rfl) ?_
    refine z_bsE (encM [⟨[], nS, tx, .slice (some ⟨b6, 0, none⟩) 1 1, nS⟩]) (by first | exact want_none | exact want_L rfl) (by decide) rfl (by decide) (by decide) (by kernel_rfl) (fun p1 pb hP => ?_)
    skip
    refine z_push (h := ⟨[], [], tx⟩) (k := .nil) (m := ⟨[], nS, tx, .slice (some ⟨b6, 0, none⟩) 1 1, nS⟩) (by first | exact want_none | exact want_L rfl) (by decide) rfl rfl hO6 ⟨rfl, AtS.nil _, rfl, ⟨_, _, _, rfl⟩⟩ TreeOk.nil (by have := hC6.size; omega) hP (by omega) (fun p2 q2 hP2 hPC => ?_)
    have hPT := hT6.own hO6 (by have := hT0.lt; have := hT0.ge; omega) hPC
    have hPW := Chg.own hC6 hO6 (Nat.le_refl _) hPC
    obtain ⟨pA, pc, hpv, _⟩ := hP2.form
    subst hpv
    refine zl_pureL rfl ?_
    refine zl_nil ?_
    iterate 2 (refine zk_norm_block ?_)
    exact zk_midX (.slice pA _ pc, t.snoc ⟨[], [], tx⟩ .nil) ⟨hP2, AT.snoc_okp hok (hdTx tx hmt) trivial (List.mem_cons_of_mem _ hmt), by rw [AT.snoc_len, hlen], by rw [AT.snoc_size]; simp only [AT.size]; omega, hPT, hPW⟩ ⟨rfl, rfl, rfl, rfl, rfl, rfl, trivial⟩
  · by_cases hk4 : k1 = 4
    · subst hk4
      refine zc_false rfl ?_
      refine zc_seq ?_
      refine zc_region ?_
      refine zl_pureL rfl ?_
      refine z_cmpB (r := true) want_none (by decide) rfl rfl rfl (iff_of_true rfl (by omega)) ?_
      refine zl_pureL rfl ?_
      refine zl_nil ?_
      refine zk_seq ?_
      refine zc_true rfl ?_
      refine zc_region ?_
      refine zl_pureL rfl ?_
      refine z_buildE #[.string (bs nBr), nS, .string (bs []), nS, nS] (by first | exact want_none | exact want_L rfl) (by decide) rfl (by kernel_rfl) ?_
      refine z_bsE (encM [⟨nBr, nS, [], nS, nS⟩]) (by first | exact want_none | exact want_L rfl) (by decide) rfl (by decide) (by decide) (by kernel_rfl) (fun p1 pb hP => ?_)
      skip
      refine z_push (h := ⟨nBr, [], []⟩) (k := .nil) (m := ⟨nBr, nS, [], nS, nS⟩) (by first | exact want_none | exact want_L rfl) (by decide) rfl rfl hO3 ⟨rfl, AtS.nil _, rfl, isSl_nil⟩ TreeOk.nil (by have := hC3.size; omega) hP (by omega) (fun p2 q2 hP2 hPC => ?_)
      have hPT := hTc.own hO3 (by have := hT0.lt; have := hT0.ge; omega) hPC
      have hPW := Chg.own hC3 hO3 (Nat.le_refl _) hPC
      obtain ⟨pA, pc, hpv, _⟩ := hP2.form
      subst hpv
      refine zl_pureL rfl ?_
      refine zl_nil ?_
      iterate 2 (refine zk_norm_block ?_)
      exact zk_midX (.slice pA _ pc, t.snoc ⟨nBr, [], []⟩ .nil) ⟨hP2, AT.snoc_okp hok hdBr trivial mem0, by rw [AT.snoc_len, hlen], by rw [AT.snoc_size]; simp only [AT.size]; omega, hPT, hPW⟩ ⟨rfl, rfl, rfl, rfl, rfl, rfl, trivial⟩
    · by_cases hk5 : k1 = 5
      · subst hk5
        refine zc_false rfl ?_
        refine zc_seq ?_
        refine zc_region ?_
        refine zl_pureL rfl ?_
        refine z_cmpB (r := false) want_none (by decide) rfl rfl rfl (iff_of_false Bool.false_ne_true (by omega)) ?_
        refine zl_pureL rfl ?_
        refine zl_nil ?_
        refine zk_seq ?_
        refine zc_false rfl ?_
        refine zc_seq ?_
        refine zc_region ?_
        refine zl_pureL rfl ?_
        refine z_cmpB (r := true) want_none (by decide) rfl rfl rfl (iff_of_true rfl (by omega)) ?_
        refine zl_pureL rfl ?_
        refine zl_nil ?_
        refine zk_seq ?_
        refine zc_true rfl ?_
        refine zc_region ?_
        iterate 2 (refine zl_pureL rfl ?_)
        refine zl_call (by first | exact want_none | exact want_L rfl) rfl (by decide) rfl (image_calls hTc) ?_
        rintro _ u4 ⟨V, la, rfl, hAl, hl3, hla, hT4, hX4⟩
        refine ⟨_, rfl, ?_⟩
        have hO4 := hO3.tp hTc hX4
        have hC4 : Chg w u4 (· = bt) := hC3.trans hX4 (fun _ _ h => h)
        obtain ⟨VA, vc, rfl, _⟩ := hAl.form
        have hdI : HdOk ⟨nImg, la, []⟩ := ⟨(by decide : nImg ∈ lNm), hl3, hla, (by decide : ([] : List UInt8) ∈ lTxs)⟩
        refine z_bsE (encM [⟨nImg, .slice VA la.length vc, [], nS, nS⟩]) (by first | exact want_none | exact want_L rfl) (by decide) rfl (by decide) (by decide) (by kernel_rfl) (fun p1 pb hP => ?_)
        skip
        refine z_push (h := ⟨nImg, la, []⟩) (k := .nil) (m := ⟨nImg, .slice VA la.length vc, [], nS, nS⟩) (by first | exact want_none | exact want_L rfl) (by decide) rfl rfl hO4 ⟨rfl, hAl, rfl, isSl_nil⟩ TreeOk.nil (by have := hC4.size; omega) hP (by omega) (fun p2 q2 hP2 hPC => ?_)
        have hPT := hT4.own hO4 (by have := hT0.lt; have := hT0.ge; omega) hPC
        have hPW := Chg.own hC4 hO4 (Nat.le_refl _) hPC
        obtain ⟨pA, pc, hpv, _⟩ := hP2.form
        subst hpv
        refine zl_pureL rfl ?_
        refine zl_nil ?_
        iterate 2 (refine zk_norm_block ?_)
        exact zk_midX (.slice pA _ pc, t.snoc ⟨nImg, la, []⟩ .nil) ⟨hP2, AT.snoc_okp hok hdI trivial mem0, by rw [AT.snoc_len, hlen], by rw [AT.snoc_size]; simp only [AT.size]; omega, hPT, hPW⟩ ⟨rfl, rfl, rfl, rfl, rfl, rfl, trivial⟩
      · rcases r with _ | r'
        · refine zc_false rfl ?_
          refine zc_seq ?_
          refine zc_region ?_
          refine zl_pureL rfl ?_
          refine z_cmpB (r := false) want_none (by decide) rfl rfl rfl (iff_of_false Bool.false_ne_true (by omega)) ?_
          refine zl_pureL rfl ?_
          refine zl_nil ?_
          refine zk_seq ?_
          refine zc_false rfl ?_
          refine zc_seq ?_
          refine zc_region ?_
          refine zl_pureL rfl ?_
          refine z_cmpB (r := false) want_none (by decide) rfl rfl rfl (iff_of_false Bool.false_ne_true (by omega)) ?_
          refine zl_pureL rfl ?_
          refine zl_nil ?_
          refine zk_seq ?_
          refine zc_false rfl ?_
          refine zc_seq ?_
          refine zc_region ?_
          refine zl_pureL rfl ?_
          refine z_cmpB (r := false) want_none (by decide) rfl rfl rfl (iff_of_false Bool.false_ne_true (by omega)) ?_
          iterate 3 (refine zl_pureL rfl ?_)
          refine zl_skip rfl ?_
          iterate 3 (refine zl_pureL rfl ?_)
          refine zl_nil ?_
          refine zk_seq ?_
          refine zc_false rfl ?_
          refine zc_region ?_
          refine zl_pureL rfl ?_
          refine z_buildE #[.string (bs nBr), nS, .string (bs []), nS, nS] (by first | exact want_none | exact want_L rfl) (by decide) rfl (by kernel_rfl) ?_
          refine z_bsE (encM [⟨nBr, nS, [], nS, nS⟩]) (by first | exact want_none | exact want_L rfl) (by decide) rfl (by decide) (by decide) (by kernel_rfl) (fun p1 pb hP => ?_)
          skip
          refine z_push (h := ⟨nBr, [], []⟩) (k := .nil) (m := ⟨nBr, nS, [], nS, nS⟩) (by first | exact want_none | exact want_L rfl) (by decide) rfl rfl hO3 ⟨rfl, AtS.nil _, rfl, isSl_nil⟩ TreeOk.nil (by have := hC3.size; omega) hP (by omega) (fun p2 q2 hP2 hPC => ?_)
          have hPT := hTc.own hO3 (by have := hT0.lt; have := hT0.ge; omega) hPC
          have hPW := Chg.own hC3 hO3 (Nat.le_refl _) hPC
          obtain ⟨pA, pc, hpv, _⟩ := hP2.form
          subst hpv
          refine zl_pureL rfl ?_
          refine zl_nil ?_
          iterate 2 (refine zk_norm_block ?_)
          exact zk_midX (.slice pA _ pc, t.snoc ⟨nBr, [], []⟩ .nil) ⟨hP2, AT.snoc_okp hok hdBr trivial mem0, by rw [AT.snoc_len, hlen], by rw [AT.snoc_size]; simp only [AT.size]; omega, hPT, hPW⟩ ⟨rfl, rfl, rfl, rfl, rfl, rfl, trivial⟩
        · have hv3 := RdS.chg hv0 hC3 (fun b cells hb he => by obtain ⟨cs, h30⟩ := hT0.blk; exact hb.ne h30 (by decide) he)
          have hlv6 : lv = 5 - (r' : Int) := by rw [hlv]; omega
          refine zc_false rfl ?_
          refine zc_seq ?_
          refine zc_region ?_
          refine zl_pureL rfl ?_
          refine z_cmpB (r := false) want_none (by decide) rfl rfl rfl (iff_of_false Bool.false_ne_true (by omega)) ?_
          refine zl_pureL rfl ?_
          refine zl_nil ?_
          refine zk_seq ?_
          refine zc_false rfl ?_
          refine zc_seq ?_
          refine zc_region ?_
          refine zl_pureL rfl ?_
          refine z_cmpB (r := false) want_none (by decide) rfl rfl rfl (iff_of_false Bool.false_ne_true (by omega)) ?_
          refine zl_pureL rfl ?_
          refine zl_nil ?_
          refine zk_seq ?_
          refine zc_false rfl ?_
          refine zc_seq ?_
          refine zc_region ?_
          refine zl_pureL rfl ?_
          refine z_cmpB (r := true) want_none (by decide) rfl rfl rfl (iff_of_true rfl (by omega)) ?_
          iterate 3 (refine zl_pureL rfl ?_)
          refine zl_call (by first | exact want_none | exact want_L rfl) rfl (by decide) rfl (in_calls l nm hv3 (by omega)) ?_
          rintro _ uu ⟨⟨q2, rfl⟩, huu⟩
          obtain rfl := huu.symm
          refine ⟨_, rfl, ?_⟩
          cases q2
          rotate_left
          · iterate 3 (refine zl_pureL rfl ?_)
            refine zl_nil ?_
            refine zk_seq ?_
            refine zc_false rfl ?_
            refine zc_region ?_
            refine zl_pureL rfl ?_
            refine z_buildE #[.string (bs nBr), nS, .string (bs []), nS, nS] (by first | exact want_none | exact want_L rfl) (by decide) rfl (by kernel_rfl) ?_
            refine z_bsE (encM [⟨nBr, nS, [], nS, nS⟩]) (by first | exact want_none | exact want_L rfl) (by decide) rfl (by decide) (by decide) (by kernel_rfl) (fun p1 pb hP => ?_)
            skip
            refine z_push (h := ⟨nBr, [], []⟩) (k := .nil) (m := ⟨nBr, nS, [], nS, nS⟩) (by first | exact want_none | exact want_L rfl) (by decide) rfl rfl hO3 ⟨rfl, AtS.nil _, rfl, isSl_nil⟩ TreeOk.nil (by have := hC3.size; omega) hP (by omega) (fun p2 q2 hP2 hPC => ?_)
            have hPT := hTc.own hO3 (by have := hT0.lt; have := hT0.ge; omega) hPC
            have hPW := Chg.own hC3 hO3 (Nat.le_refl _) hPC
            obtain ⟨pA, pc, hpv, _⟩ := hP2.form
            subst hpv
            refine zl_pureL rfl ?_
            refine zl_nil ?_
            iterate 2 (refine zk_norm_block ?_)
            exact zk_midX (.slice pA _ pc, t.snoc ⟨nBr, [], []⟩ .nil) ⟨hP2, AT.snoc_okp hok hdBr trivial mem0, by rw [AT.snoc_len, hlen], by rw [AT.snoc_size]; simp only [AT.size]; omega, hPT, hPW⟩ ⟨rfl, rfl, rfl, rfl, rfl, rfl, trivial⟩
          iterate 3 (refine zl_pureL rfl ?_)
          refine zl_nil ?_
          refine zk_seq ?_
          refine zc_true rfl ?_
          refine zc_seq ?_
          refine zc_region ?_
          iterate 3 (refine zl_pureL rfl ?_)
          refine z_add want_none (by decide) rfl rfl (by omega) (by omega) ?_
          refine z_bs0 (by first | exact want_none | exact want_L rfl) (by decide) (fun u4 b4 hN4 => ?_)
          have hE4 : Own u4 9 1 (.slice (some ⟨b4, 0, none⟩) 0 0) 0 [] := Own.empty hN4
          refine zl_pureL rfl ?_
          refine z_appendO (by rfl) (by decide) (by first | exact want_none | exact want_L rfl) (by decide) rfl rfl hE4 (hv3.no hN4.chg) (by omega) (by omega) (fun v5 u5 hO5 hX5 hr5 => ?_)
          rw [List.nil_append, Nat.zero_add] at hO5
          obtain ⟨A5, c5, rfl, hc5⟩ := hO5.rd.form
          refine zl_pureL rfl ?_
          refine z_bs1 (by first | exact want_none | exact want_L rfl) (by decide) rfl (by rfl) (by rfl) (by decide) (by decide) (fun u6 b6 hN6 => ?_)
          have hr6' : RdS u6 9 1 (.slice (some ⟨b6, 0, none⟩) 1 1) 1 [.string (bs nm)] := RdS.new hN6 rfl (fun u hu => by simp only [List.mem_singleton] at hu; subst hu; rfl)
          skip
          refine z_appendO (by rfl) (by decide) (by first | exact want_none | exact want_L rfl) (by decide) rfl rfl (hO5.no hN6.chg) hr6' (by omega) (by omega) (fun v7 u7 hO7 hX7 hr7 => ?_)
          obtain ⟨A7, c7, rfl, hc7⟩ := hO7.rd.form
          have hge5 : ∀ k, (Value.slice A5 l.length c5).ownBlock = some k → u3.heap.size ≤ k := fun k hk => by
            rcases hr5 with e1 | ⟨q, e1, e2⟩
            · rw [e1] at hk; simp only [Value.ownBlock, Option.some.injEq] at hk; have := hN4.at_; omega
            · rw [hk] at e1; cases e1; have := hN4.chg.size; omega
          have hX35 : Chg u3 u5 No := (hN4.chg.no (Chg.refl _ _)).trans hX5 (fun k hk he => by simp only [Value.ownBlock, Option.some.injEq] at he; have := hN4.at_; omega)
          have hX37 : Chg u3 u7 No := (hX35.no hN6.chg).trans hX7 (fun k hk he => by have := hge5 k he; omega)
          have hT7 := hTc.no hX37
          have hs7 : (strs l ++ [.string (bs nm)]) = strs (l ++ [nm]) := by simp [strs]
          have hrd7 : RdS u7 9 1 (.slice A7 (l.length + 1) c7) (l ++ [nm]).length (strs (l ++ [nm])) := by
            rw [← hs7, List.length_append]; exact hO7.rd
          have hO3' := hO3.no hX37
          skip
          refine zl_call (by first | exact want_none | exact want_L rfl) rfl (by decide) rfl (hrec r' rfl (l ++ [nm]) hT7 hrd7 (by rw [List.length_append]; simp only [List.length_cons, List.length_nil]; omega) (lv := lv + 1) (by rw [hlv6]; omega)) ?_
          rintro _ u8 ⟨K, kt, rfl, hK8, hkok, hkl, hks, hT8, hX8⟩
          refine ⟨_, rfl, ?_⟩
          obtain ⟨AK, cK, rfl, _⟩ := hK8.form
          have hO8 := hO3'.tp hT7 hX8
          have hC8 : Chg w u8 (· = bt) := (hC3.no hX37).trans hX8 (fun _ _ h => h)
          have hs8 := hC8.size
          have hs37 := hX37.size
          have hs78 := hX8.size
          have hKu8 : TreeOk u8 (fun b => w.heap.size ≤ b ∧ (Value.slice A0 t.len c0).ownBlock ≠ some b) (.slice AK kt.len cK) kt := TreeOk.under hO3 (B2 := u7.heap.size) (by have := hC3.size; omega) (by omega) hK8.tree
          refine z_buildE #[.string (bs nm), nS, .string (bs []), nS, .slice AK kt.len cK] (by first | exact want_none | exact want_L rfl) (by decide) rfl (by kernel_rfl) ?_
          refine z_alloc (by first | exact want_none | exact want_L rfl) (by decide) (fun u9 b9 hN9 => ?_)
          have hb9 : Blk u9 b9 38 [.string ⟨#[]⟩, nS, .string ⟨#[]⟩, nS, nS] := hN9.blk
          refine z_store (by first | exact want_none | exact want_L rfl) rfl rfl rfl (by assumption) (by first | exact Nat.le_refl _ | simp [Value.cells]) (by simp [Value.cells, Value.oneCell']) (fun u10 hU10 => ?_)
          have hb10 : Blk u10 b9 38 [.string (bs nm), nS, .string (bs []), nS, .slice AK kt.len cK] := hU10.blk
          have hX10 : Chg u8 u10 No := hN9.chg.upd hU10 (hN9.ge (Chg.refl _ No))
          have hT10 := hT8.no hX10
          have hO10 := hO8.no hX10
          have hK10 := hKu8.no hX10
          have hC10 : Chg w u10 (· = bt) := hC8.no hX10
          have hdE : ∀ la : List At, la.length ≤ 3 → (∀ a ∈ la, a.1 ∈ lKey ∧ a.2 ∈ lVal) → HdOk ⟨nm, la, []⟩ := fun la h1 h2 => ⟨hnm, h1, h2, (by decide : ([] : List UInt8) ∈ lTxs)⟩
          have hsz4 := lnZ_div r'
          refine zl_nil ?_
          refine zk_seq ?_
          iterate 2 (refine zc_seq ?_)
          refine zc_region ?_
          refine zl_pureL rfl ?_
          refine z_eqL (r := [97]) (by first | exact want_none | exact want_L rfl) (by decide) rfl rfl (fun hca => ?_) (fun hca => ?_)
          · refine zl_nil ?_
            refine zk_seq ?_
            refine zc_true rfl ?_
            refine zc_region ?_
            refine z_bsE (strs lHref) (by first | exact want_none | exact want_L rfl) (by decide) rfl (by decide) (by decide) (by kernel_rfl) (fun u11 b11 hN11 => ?_)
            have hT11 := hT10.no hN11.chg
            refine zl_pureL rfl ?_
            refine zl_call (by first | exact want_none | exact want_L rfl) rfl (by decide) rfl (next_calls hT11 3 (by decide) (by decide) rfl) ?_
            rintro _ u12 ⟨⟨kh, hkh, rfl⟩, hT12, hX12⟩
            refine ⟨_, rfl, ?_⟩
            have hb12 := keepT hT11 hX12 _ _ _ (by decide) hN11.blk
            have hb912 := keepT hT11 hX12 _ _ _ (by decide) (hb10.no hN11.chg)
            have hO12 := (hO10.no hN11.chg).tp hT11 hX12
            have hK12 := (hK10.no hN11.chg).tp hT11 hX12
            have hC12 : Chg w u12 (· = bt) := (hC10.no hN11.chg).trans hX12 (fun _ _ h => h)
            have hgh := (hb12.cell kh).trans (strs_get lHref kh hkh)
            have hmh := getD_mem lHref kh hkh
            generalize lHref.getD kh [] = hv at hgh hmh
            refine z_ia (by first | exact want_none | exact want_L rfl) (by decide) rfl rfl (by omega) (by omega) ?_
            refine z_load1 (by first | exact want_none | exact want_L rfl) (by decide) rfl (cell_at hgh (by omega)) ?_
            refine z_buildE #[.string (bs [104, 114, 101, 102]), .string (bs hv)] (by first | exact want_none | exact want_L rfl) (by decide) rfl (by kernel_rfl) ?_
            refine z_bsE (encA [([104, 114, 101, 102], hv)]) (by first | exact want_none | exact want_L rfl) (by decide) rfl (by decide) (by decide) (by kernel_rfl) (fun u13 b13 hN13 => ?_)
            have hT13 := hT12.no hN13.chg
            have hO13 := hO12.no hN13.chg
            have hK13 := hK12.no hN13.chg
            have hb913 := hb912.no hN13.chg
            have hC13 : Chg w u13 (· = bt) := hC12.no hN13.chg
            have hA13 : AtS u13 (.slice (some ⟨b13, 0, none⟩) 1 1) [([104, 114, 101, 102], hv)] := RdS.new hN13 rfl (encA_one _)
            refine z_fa want_none (by decide) rfl ?_
            refine z_store (by first | exact want_none | exact want_L rfl) rfl rfl rfl (by assumption) (by first | exact Nat.le_refl _ | simp [Value.cells]) (by simp [Value.cells, Value.oneCell']) (fun u14 hU14 => ?_)
            have hb914 : Blk u14 b9 38 [.string (bs nm), .slice (some ⟨b13, 0, none⟩) 1 1, .string (bs []), nS, .slice AK kt.len cK] := hU14.blk
            have h9w : u8.heap.size ≤ b9 := hN9.ge (Chg.refl _ No)
            have hX813 : Chg u8 u13 (· = bt) := ((hX10.no hN11.chg).mono (S' := (· = bt)) (fun _ _ h => h.elim)).trans (hX12.no hN13.chg) (fun _ _ h => h)
            have hX814 : Chg u8 u14 (· = bt) := hX813.trans hU14.chg (fun k hk he => by omega)
            have hO14 := hO8.tp hT8 hX814
            have hK14 := hKu8.tp hT8 hX814
            have hT14 : Tp u14 B bt := hT13.oth hU14.chg (fun he => by obtain ⟨cs, hb⟩ := hT13.blk; exact hb.ne hb913 (by decide) he) (fun k _ hk => by have := hT0.ge; have := hT0.lt; omega)
            have hC14 : Chg w u14 (· = bt) := hC8.trans hX814 (fun _ _ h => h)
            have hA14 : AtS u14 (.slice (some ⟨b13, 0, none⟩) 1 1) [([104, 114, 101, 102], hv)] := RdS.chg hA13 hU14.chg (fun b cells hb he => hb.ne hb913 (by decide) he)
            have hdA := hdE [([104, 114, 101, 102], hv)] (by simp) (by
              intro a ha
              simp only [List.mem_cons, List.not_mem_nil, or_false] at ha
              subst ha
              refine ⟨(by decide : ([104, 114, 101, 102] : List UInt8) ∈ lKey), ?_⟩
              show hv ∈ lVal
              unfold lVal; simp only [List.mem_append]; exact .inl (.inr hmh))
            refine zl_nil ?_
            refine zk_seq ?_
            refine zc_region ?_
            refine zl_pureL rfl ?_
            refine z_loadAB want_none (by decide) rfl (by assumption) (by rfl) ?_
            refine z_bsE (encM [⟨nm, .slice (some ⟨b13, 0, none⟩) 1 1, [], nS, .slice AK kt.len cK⟩]) (by first | exact want_none | exact want_L rfl) (by decide) rfl (by decide) (by decide) (by kernel_rfl) (fun p1 pb hP => ?_)
            skip
            refine z_push (h := ⟨nm, [([104, 114, 101, 102], hv)], []⟩) (k := kt) (m := ⟨nm, .slice (some ⟨b13, 0, none⟩) 1 1, [], nS, .slice AK kt.len cK⟩) (by first | exact want_none | exact want_L rfl) (by decide) rfl rfl hO14 ⟨rfl, hA14, rfl, isSl_nil⟩ hK14 (by have := hC14.size; omega) hP (by omega) (fun p2 q2 hP2 hPC => ?_)
            have hPT := hT14.own hO14 (by have := hT0.lt; have := hT0.ge; omega) hPC
            have hPW := Chg.own hC14 hO14 (Nat.le_refl _) hPC
            obtain ⟨pA, pc, hpv, _⟩ := hP2.form
            subst hpv
            refine zl_pureL rfl ?_
            refine zl_nil ?_
            iterate 2 (refine zk_norm_block ?_)
            exact zk_midX (.slice pA _ pc, t.snoc ⟨nm, [([104, 114, 101, 102], hv)], []⟩ kt) ⟨hP2, AT.snoc_okp hok hdA hkok.1 mem0, by rw [AT.snoc_len, hlen], by rw [AT.snoc_size]; omega, hPT, hPW⟩ ⟨rfl, rfl, rfl, rfl, rfl, rfl, trivial⟩
          · have hdA := hdE [] (by simp) (by simp)
            refine zl_nil ?_
            refine zk_seq ?_
            refine zc_false rfl ?_
            refine zc_skip ?_
            refine zk_seq ?_
            refine zc_region ?_
            refine zl_pureL rfl ?_
            refine z_loadAB want_none (by decide) rfl (by assumption) (by rfl) ?_
            refine z_bsE (encM [⟨nm, nS, [], nS, .slice AK kt.len cK⟩]) (by first | exact want_none | exact want_L rfl) (by decide) rfl (by decide) (by decide) (by kernel_rfl) (fun p1 pb hP => ?_)
            skip
            refine z_push (h := ⟨nm, [], []⟩) (k := kt) (m := ⟨nm, nS, [], nS, .slice AK kt.len cK⟩) (by first | exact want_none | exact want_L rfl) (by decide) rfl rfl hO10 ⟨rfl, AtS.nil _, rfl, isSl_nil⟩ hK10 (by have := hC10.size; omega) hP (by omega) (fun p2 q2 hP2 hPC => ?_)
            have hPT := hT10.own hO10 (by have := hT0.lt; have := hT0.ge; omega) hPC
            have hPW := Chg.own hC10 hO10 (Nat.le_refl _) hPC
            obtain ⟨pA, pc, hpv, _⟩ := hP2.form
            subst hpv
            refine zl_pureL rfl ?_
            refine zl_nil ?_
            iterate 2 (refine zk_norm_block ?_)
            exact zk_midX (.slice pA _ pc, t.snoc ⟨nm, [], []⟩ kt) ⟨hP2, AT.snoc_okp hok hdA hkok.1 mem0, by rw [AT.snoc_len, hlen], by rw [AT.snoc_size]; omega, hPT, hPW⟩ ⟨rfl, rfl, rfl, rfl, rfl, rfl, trivial⟩
theorem line_calls : ∀ r, r ≤ 6 → LineC r
  | 0, h => line_body 0 h (fun r' hr => by omega)
  | r + 1, h => line_body (r + 1) h (fun r' hr => by
      obtain rfl : r = r' := by omega
      exact line_calls r (by omega))
end Go.Proofs.Ytbcmiijollpgeaa.T
