import Derived.Test.YtaagolhokejflaaMRead2
import Derived.Test.YtaagolhokejflaaMRead
/- A mark with a list of its own; keys. -/
namespace Go.Proofs.Ytaagolhokejflaa.M
open Go Go.Z Go.Proofs
set_option linter.unusedVariables false
/-- a slice of attributes whose row was made since a heap of size B -/
def NewS (B : Nat) (v : Value) : Prop := ∀ k, v.ownBlock = some k → B ≤ k
theorem own_calls {w : World} {nd : Int} {nm : ByteArray} {av : Value} {l : List At} (h : AttrS w av l) (hl : l.length ≤ 100000) :
    Calls Try.prog 43 [.agg #[.int .i64 nd, .string nm, av]].toArray w fun e w' => ∃ v', e = .returned (.agg #[.int .i64 nd, .string nm, v']) ∧ AttrS w' v' l ∧ NewS w.heap.size v' ∧ Chg w w' No := by
  obtain ⟨A, c, hv, hc⟩ := h.form
  subst hv
  refine calls_zc (n := 15) (f := 43) (fn := Try.f43) Try.func43 rfl rfl (by simp) ?_
  refine zc_seq ?_
  refine zc_region ?_
  refine z_box (by first | exact want_none | exact want_L rfl) (by decide) rfl (fun w1 b1 hN1 => ?_)
  have hb1 : Blk w1 b1 32 [.int .i64 nd, .string nm, .slice A l.length c] := hN1.blk
  refine z_alloc (by first | exact want_none | exact want_L rfl) (by decide) (fun w2 b2 hN2 => ?_)
  have hb1' := hb1.no hN2.chg
  have hb2 : Blk w2 b2 32 [.int .i64 0, .string ⟨#[]⟩, .slice none 0 0] := hN2.blk
  have hC2 := hN1.chg.new hN2
  refine zl_nil ?_
  refine zk_seq ?_
  refine zc_seq ?_
  refine zc_region ?_
  refine z_fa want_none (by decide) rfl ?_
  refine z_loadB want_none (by decide) rfl (by assumption) (by rfl) ?_
  refine z_len want_none (by decide) rfl ?_
  refine z_make (by first | exact want_none | exact want_L rfl) (by decide) rfl rfl (Nat.le_refl _) (by omega) (by omega) (fun w3 b3 hN3 => ?_)
  have hC3 := hC2.new hN3
  have hb1 := hb1'.no hN3.chg
  have hb2 := hb2.no hN3.chg
  clear hb1'
  have hb3 := hN3.blk
  refine zl_pureL rfl ?_
  refine zl_nil ?_
  refine zk_seq ?_
  refine zc_seq ?_
  refine zc_region ?_
  refine zl_pureL rfl ?_
  refine z_fa want_none (by decide) rfl ?_
  refine z_loadB want_none (by decide) rfl (by assumption) (by rfl) ?_
  refine z_copyG (o := 0) (by first | exact want_none | exact want_L rfl) (by decide) rfl rfl (RdS.no h hC3) hb3 (fun _ => rfl) (by simp [size_madeCells]) (fun w4 hU => ?_)
  have hlen : (madeCells (Value.agg #[.string ⟨#[]⟩, .string ⟨#[]⟩]).cells (l.length * 2)).toList.length = (encA l).length := by simp [size_madeCells, encA_len]
  rw [show Nat.min l.length l.length = l.length from Nat.min_self _, show (encA l).take (l.length * 2) = encA l by rw [← encA_len, List.take_length], lay_full hlen] at hU
  have hC4 := hC3.upd hU (hN3.ge hC2)
  have hb1 := hb1.chg hU.chg (by have := hN1.at_; have := hN3.at_; have := hb1.lt; have := hN1.size; have := hN2.size; show ¬ b1 = b3; omega)
  have hb2 := hb2.chg hU.chg (by have := hN2.at_; have := hN3.at_; have := hN2.size; show ¬ b2 = b3; omega)
  have hat : AttrS w4 (.slice (some ⟨b3, 0, none⟩) l.length l.length) l := RdS.blk hU.blk (encA_len l) (Nat.le_refl _) (encA_one l) 0 (fun j u hj => by simpa using hj)
  refine zl_nil ?_
  refine zk_seq ?_
  refine zc_seq ?_
  refine zc_region ?_
  refine zl_pureL rfl ?_
  refine z_fa want_none (by decide) rfl ?_
  refine z_store (by first | exact want_none | exact want_L rfl) rfl rfl rfl (by assumption) (by first | exact Nat.le_refl _ | simp [Value.cells]) (by simp [Value.cells, Value.oneCell']) (fun w5 hU5 => ?_)
  have hb1 : Blk w5 b1 32 [.int .i64 nd, .string nm, .slice (some ⟨b3, 0, none⟩) l.length l.length] := hU5.blk
  have hC5 := hC4.upd hU5 (hN1.ge (Chg.refl _ No))
  have hb2 := hb2.chg hU5.chg (by have := hN1.at_; have := hN2.at_; have := hN1.size; show ¬ b2 = b1; omega)
  have hat := RdS.upd hat hU5 (by decide)
  refine zl_nil ?_
  refine zk_seq ?_
  refine zc_seq ?_
  refine zc_region ?_
  refine z_loadAB want_none (by decide) rfl (by assumption) (by rfl) ?_
  refine z_store (by first | exact want_none | exact want_L rfl) rfl rfl rfl (by assumption) (by first | exact Nat.le_refl _ | simp [Value.cells]) (by simp [Value.cells, Value.oneCell']) (fun w6 hU6 => ?_)
  have hb2' : Blk w6 b2 32 [.int .i64 nd, .string nm, .slice (some ⟨b3, 0, none⟩) l.length l.length] := hU6.blk
  have hC6 := hC5.upd hU6 (hN2.ge hN1.chg)
  have hat := RdS.upd hat hU6 (by decide)
  refine zl_nil ?_
  refine zk_seq ?_
  refine zc_ret ?_
  refine zk_retC (.inr rfl) rfl rfl hb2' rfl ⟨_, rfl, hat, ?_, hC6⟩
  intro k hk
  simp only [Value.ownBlock, Option.some.injEq] at hk
  subst hk
  exact hN3.ge hC2
/-- keys held against each other -/
theorem eq_key {w : World} {a b : ByteArray} {m k : Int} (d : Nat) : (Op.equalIn (d + 5) 64 (.agg #[.string a, .int .i64 m]) (.agg #[.string b, .int .i64 k])).run Try.prog w = .ok (decide (a = b) && (decide (m = k) && true)) w := by
  refine eq_struct Try.underlying64 (by kernel_rfl) ?_
  refine eqF_cons (by rfl) (part1 rfl) (part1 rfl) eq_str ?_
  exact eqF_cons (by rfl) (part1 rfl) (part1 rfl) eq_int eqF_nil
theorem keyOf_calls {w : World} {nd : Int} {nm : ByteArray} {av : Value} {l : List At} (h : AttrS w av l) :
    Calls Try.prog 41 [.agg #[.int .i64 nd, .string nm, av]].toArray w fun e w' => e = .returned (.agg #[.string nm, .int .i64 l.length]) ∧ Chg w w' No := by
  obtain ⟨A, c, hv, hc⟩ := h.form
  subst hv
  refine calls_zc (n := 9) (f := 41) (fn := Try.f41) Try.func41 rfl rfl (by simp) ?_
  refine zc_seq ?_
  refine zc_region ?_
  refine z_box (by first | exact want_none | exact want_L rfl) (by decide) rfl (fun w1 b1 hN1 => ?_)
  have hb1 : Blk w1 b1 32 [.int .i64 nd, .string nm, .slice A l.length c] := hN1.blk
  refine z_alloc (by first | exact want_none | exact want_L rfl) (by decide) (fun w2 b2 hN2 => ?_)
  have hb1' := hb1.no hN2.chg
  have hb2 : Blk w2 b2 64 [.string ⟨#[]⟩, .int .i64 0] := hN2.blk
  refine zl_nil ?_
  refine zk_seq ?_
  refine zc_seq ?_
  refine zc_region ?_
  refine z_fa want_none (by decide) rfl ?_
  refine z_loadB want_none (by decide) rfl (by assumption) (by rfl) ?_
  refine z_fa want_none (by decide) rfl ?_
  refine z_loadB want_none (by decide) rfl (by assumption) (by rfl) ?_
  refine z_len want_none (by decide) rfl ?_
  refine z_buildE #[.string nm, .int .i64 l.length] (by first | exact want_none | exact want_L rfl) (by decide) rfl (by kernel_rfl) ?_
  refine z_store (by first | exact want_none | exact want_L rfl) rfl rfl rfl (by assumption) (by first | exact Nat.le_refl _ | simp [Value.cells]) (by simp [Value.cells, Value.oneCell']) (fun w3 hU => ?_)
  have hb3 : Blk w3 b2 64 [.string nm, .int .i64 l.length] := hU.blk
  refine zl_nil ?_
  refine zk_seq ?_
  refine zc_ret ?_
  exact zk_retC (.inr rfl) rfl rfl hb3 rfl ⟨rfl, (hN1.chg.new hN2).upd hU (hN2.ge hN1.chg)⟩
end Go.Proofs.Ytaagolhokejflaa.M
