import Derived.Test.YtjiehalanklapaaDKnown
/- DomKnown: the walk. -/
namespace Go.Proofs.Ytjiehalanklapaa.D
open Go Go.Z Go.Proofs
set_option linter.unusedVariables false
theorem TreeAt.lit {w w' : World} {b n : Nat} {cs : List Value} {ms : List MN} {t : NT} (h : New w w' b 48 cs) (hc : cs = encN ms) (hn : n = ms.length) (h1 : ∀ u ∈ cs, u.oneCell' = true) (hr : Rows w' t ms) : TreeAt w' (.slice (some ⟨b, 0, none⟩) n n) t := by
  subst hc; subst hn
  exact ⟨ms, RdS.new h (encN_len ms) h1, hr⟩
def lfM (k s : Int) (nm tx : ByteArray) (fr : Int) : MN := ⟨k, s, nm, .slice none 0 0, tx, fr, .slice none 0 0⟩
def lfH (k s : Int) (nm tx : ByteArray) (fr : Int) : Hd := ⟨k, s, nm, [], tx, fr⟩
theorem Rows.leaf {w : World} {k s : Int} {nm tx : ByteArray} {fr : Int} {r : NT} {q : List MN} (h : Rows w r q) : Rows w (.cons (lfH k s nm tx fr) .nil r) (lfM k s nm tx fr :: q) :=
  ⟨_, _, rfl, ⟨rfl, rfl, rfl, AttrS.nil w, rfl, rfl⟩, ⟨[], RdS.nil, rfl⟩, h⟩
def sE : ByteArray := ⟨#[]⟩
def sp : ByteArray := ⟨#[112]⟩
def sx : ByteArray := ⟨#[120]⟩
def sn : ByteArray := ⟨#[110]⟩
def hp : Hd := lfH 1 1 sp sE 0
def hx : Hd := lfH 2 0 sE sx 0
def knT : Nat → NT
  | 0 => .nil
  | 1 => .cons hp .nil .nil
  | 2 => .cons hx .nil (.cons hx .nil .nil)
  | 3 => .cons hp (.cons hx .nil (.cons hp .nil (.cons hx .nil .nil))) .nil
  | 4 => .cons (lfH 3 0 sE sE 0) .nil .nil
  | 5 => .cons (lfH 2 0 sE sE 0) .nil .nil
  | 6 => .cons (lfH 1 0 sp sE 0) .nil .nil
  | 7 => .cons (lfH 1 4 sp sE 0) .nil .nil
  | 8 => .cons (lfH 3 0 sn sE 0) .nil .nil
  | _ => .cons (lfH 2 0 sE sx (-1)) .nil .nil
def knB : Nat → Bool
  | 0 => true | 1 => true | 2 => false | 3 => true | 4 => true | _ => false
def knD : Nat → Nat
  | 0 => 0 | 1 => 1 | 2 => 1 | 3 => 2 | _ => 1
theorem kn_deep : ∀ i, i < 10 → deepT (knT i) = knD i := by
  intro i hi
  match i, hi with
  | 0, _ | 1, _ | 2, _ | 3, _ | 4, _ | 5, _ | 6, _ | 7, _ | 8, _ | 9, _ => rfl
theorem kn_size : ∀ i, i < 10 → (knT i).size ≤ 100 ∧ FewT (knT i) := by
  intro i hi
  match i, hi with
  | 0, _ | 1, _ | 2, _ | 3, _ | 4, _ | 5, _ | 6, _ | 7, _ | 8, _ | 9, _ => exact ⟨by decide, by simp [knT, FewT, hp, hx, lfH]⟩
theorem kn_sound : ∀ i, i < 10 → (SoundF false (knT i) ↔ knB i = true) := by
  intro i hi
  match i, hi with
  | 0, _ | 1, _ | 2, _ | 3, _ | 4, _ | 5, _ | 6, _ | 7, _ | 8, _ | 9, _ => simp [knT, knB, SoundF, sound1, Tw, hp, hx, lfH, sE, sp, sx, sn, NT.len]
theorem one7 {k s f : Int} {a b : ByteArray} {v1 v2 : Value} (h1 : v1.oneCell' = true) (h2 : v2.oneCell' = true) : ∀ u ∈ [Value.int .i64 k, .int .i64 s, .string a, v1, .string b, .int .i64 f, v2], u.oneCell' = true := by
  intro u hu
  simp only [List.mem_cons, List.not_mem_nil, or_false] at hu
  rcases hu with rfl | rfl | rfl | rfl | rfl | rfl | rfl
  · rfl
  · rfl
  · rfl
  · exact h1
  · rfl
  · rfl
  · exact h2
/-- a tree of one leaf, as it was just built -/
theorem TreeAt.one {w w' : World} {b : Nat} {k s fr : Int} {nm tx : ByteArray} (h : New w w' b 48 [.int .i64 k, .int .i64 s, .string nm, .slice none 0 0, .string tx, .int .i64 fr, .slice none 0 0]) : TreeAt w' (.slice (some ⟨b, 0, none⟩) 1 1) (.cons (lfH k s nm tx fr) .nil .nil) :=
  TreeAt.lit (ms := [lfM k s nm tx fr]) h rfl rfl (one7 rfl rfl) (Rows.leaf rfl)
def knV (b2 b3 b4 b5 b6 b7 b8 b9 b10 : Nat) : List Value := [.slice none 0 0, .slice (some ⟨b2, 0, none⟩) 1 1, .slice (some ⟨b3, 0, none⟩) 2 2, .slice (some ⟨b4, 0, none⟩) 1 1, .slice (some ⟨b5, 0, none⟩) 1 1, .slice (some ⟨b6, 0, none⟩) 1 1, .slice (some ⟨b7, 0, none⟩) 1 1, .slice (some ⟨b8, 0, none⟩) 1 1, .slice (some ⟨b9, 0, none⟩) 1 1, .slice (some ⟨b10, 0, none⟩) 1 1]
def knBV : List Value := [.bool true, .bool true, .bool false, .bool true, .bool true, .bool false, .bool false, .bool false, .bool false, .bool false]
def knDV : List Value := [.int .i64 0, .int .i64 1, .int .i64 1, .int .i64 2, .int .i64 1, .int .i64 1, .int .i64 1, .int .i64 1, .int .i64 1, .int .i64 1]
theorem knBV_get : ∀ i, i < 10 → knBV[i]? = some (.bool (knB i)) := by
  intro i hi
  match i, hi with
  | 0, _ | 1, _ | 2, _ | 3, _ | 4, _ | 5, _ | 6, _ | 7, _ | 8, _ | 9, _ => rfl
theorem knDV_get : ∀ i, i < 10 → knDV[i]? = some (.int .i64 (knD i : Nat)) := by
  intro i hi
  match i, hi with
  | 0, _ | 1, _ | 2, _ | 3, _ | 4, _ | 5, _ | 6, _ | 7, _ | 8, _ | 9, _ => rfl
theorem kn_all {w : World} {b2 b3 b4 b5 b6 b7 b8 b9 b10 : Nat} (h1 : TreeAt w (.slice (some ⟨b2, 0, none⟩) 1 1) (knT 1)) (h2 : TreeAt w (.slice (some ⟨b3, 0, none⟩) 2 2) (knT 2)) (h3 : TreeAt w (.slice (some ⟨b4, 0, none⟩) 1 1) (knT 3)) (h4 : TreeAt w (.slice (some ⟨b5, 0, none⟩) 1 1) (knT 4)) (h5 : TreeAt w (.slice (some ⟨b6, 0, none⟩) 1 1) (knT 5)) (h6 : TreeAt w (.slice (some ⟨b7, 0, none⟩) 1 1) (knT 6)) (h7 : TreeAt w (.slice (some ⟨b8, 0, none⟩) 1 1) (knT 7)) (h8 : TreeAt w (.slice (some ⟨b9, 0, none⟩) 1 1) (knT 8)) (h9 : TreeAt w (.slice (some ⟨b10, 0, none⟩) 1 1) (knT 9)) :
    ∀ i, i < 10 → ∃ v, (knV b2 b3 b4 b5 b6 b7 b8 b9 b10)[i]? = some v ∧ TreeAt w v (knT i) := by
  intro i hi
  match i, hi with
  | 0, _ => exact ⟨_, rfl, TreeAt.nil⟩
  | 1, _ => exact ⟨_, rfl, h1⟩
  | 2, _ => exact ⟨_, rfl, h2⟩
  | 3, _ => exact ⟨_, rfl, h3⟩
  | 4, _ => exact ⟨_, rfl, h4⟩
  | 5, _ => exact ⟨_, rfl, h5⟩
  | 6, _ => exact ⟨_, rfl, h6⟩
  | 7, _ => exact ⟨_, rfl, h7⟩
  | 8, _ => exact ⟨_, rfl, h8⟩
  | 9, _ => exact ⟨_, rfl, h9⟩
set_option maxHeartbeats 16000000 in
theorem DomKnown_walk (k : Int) (w : World) : Calls Try.prog 7 #[.int .i64 k] w fun e w' => e = .returned (.bool true) ∧ RowKit.Below w.heap.size w w' := by
  show Calls Try.prog 7 [Value.int .i64 k].toArray w _
  obtain ⟨i, hi⟩ := Int.eq_ofNat_of_zero_le (Int.emod_nonneg k (show ((10 : Nat) : Int) ≠ 0 by decide))
  have hi10 : i < 10 := by have := Int.emod_lt_of_pos k (show (0 : Int) < ((10 : Nat) : Int) by decide); omega
  refine calls_zc (n := 69) (f := 7) (fn := Try.f7) Try.func7 rfl rfl (by simp) ?_
  refine zc_seq ?_
  refine zc_region ?_
  refine zl_pureL rfl ?_
  refine zl_nil ?_
  refine zk_seq ?_
  refine zc_seq ?_
  refine zc_region ?_
  refine z_buildE #[.int .i64 1, .int .i64 1, .string sp, .slice none 0 0, .string sE, .int .i64 0, .slice none 0 0] (by first | exact want_none | exact want_L rfl) (by decide) rfl (by kernel_rfl) ?_
  refine z_alloc (by first | exact want_none | exact want_L rfl) (by decide) (fun w1 b1 hN1 => ?_)
  have hb1 : Blk w1 b1 48 [.int .i64 0, .int .i64 0, .string ⟨#[]⟩, .slice none 0 0, .string ⟨#[]⟩, .int .i64 0, .slice none 0 0] := hN1.blk
  refine z_store (by first | exact want_none | exact want_L rfl) rfl rfl rfl (by assumption) (by first | exact Nat.le_refl _ | simp [Value.cells]) (by simp [Value.cells, Value.oneCell']) (fun w2 hU2 => ?_)
  have hb2 : Blk w2 b1 48 [.int .i64 1, .int .i64 1, .string sp, .slice none 0 0, .string sE, .int .i64 0, .slice none 0 0] := hU2.blk
  have hC2 := hN1.chg.upd hU2 (hN1.ge (Chg.refl _ No))
  refine zl_nil ?_
  refine zk_seq ?_
  refine zc_seq ?_
  refine zc_region ?_
  refine z_buildE #[.int .i64 2, .int .i64 0, .string sE, .slice none 0 0, .string sx, .int .i64 0, .slice none 0 0] (by first | exact want_none | exact want_L rfl) (by decide) rfl (by kernel_rfl) ?_
  refine z_alloc (by first | exact want_none | exact want_L rfl) (by decide) (fun w3 b3 hN3 => ?_)
  have hb3 : Blk w3 b3 48 [.int .i64 0, .int .i64 0, .string ⟨#[]⟩, .slice none 0 0, .string ⟨#[]⟩, .int .i64 0, .slice none 0 0] := hN3.blk
  refine z_store (by first | exact want_none | exact want_L rfl) rfl rfl rfl (by assumption) (by first | exact Nat.le_refl _ | simp [Value.cells]) (by simp [Value.cells, Value.oneCell']) (fun w4 hU4 => ?_)
  have hb4 : Blk w4 b3 48 [.int .i64 2, .int .i64 0, .string sE, .slice none 0 0, .string sx, .int .i64 0, .slice none 0 0] := hU4.blk
  have hC24 := hN3.chg.upd hU4 (hN3.ge (Chg.refl _ No))
  have hb2 := hb2.no hC24
  have hC4 := hC2.no hC24
  refine zl_nil ?_
  refine zk_seq ?_
  refine zc_seq ?_
  refine zc_region ?_
  refine z_loadAB want_none (by decide) rfl (by assumption) (by rfl) ?_
  refine z_alloc (by first | exact want_none | exact want_L rfl) (by decide) (fun w5 b5 hN5 => ?_)
  have hb5 : Blk w5 b5 48 [.int .i64 0, .int .i64 0, .string ⟨#[]⟩, .slice none 0 0, .string ⟨#[]⟩, .int .i64 0, .slice none 0 0] := hN5.blk
  refine z_store (by first | exact want_none | exact want_L rfl) rfl rfl rfl (by assumption) (by first | exact Nat.le_refl _ | simp [Value.cells]) (by simp [Value.cells, Value.oneCell']) (fun w6 hU6 => ?_)
  have hb6 : Blk w6 b5 48 [.int .i64 1, .int .i64 1, .string sp, .slice none 0 0, .string sE, .int .i64 0, .slice none 0 0] := hU6.blk
  have hC46 := hN5.chg.upd hU6 (hN5.ge (Chg.refl _ No))
  have hb2 := hb2.no hC46
  have hb4 := hb4.no hC46
  have hC6 := hC4.no hC46
  refine zl_nil ?_
  refine zk_seq ?_
  refine zc_seq ?_
  refine zc_region ?_
  iterate 3 (refine z_loadAB want_none (by decide) rfl (by assumption) (by rfl) ?_)
  refine z_bsE [.int .i64 2, .int .i64 0, .string sE, .slice none 0 0, .string sx, .int .i64 0, .slice none 0 0, .int .i64 1, .int .i64 1, .string sp, .slice none 0 0, .string sE, .int .i64 0, .slice none 0 0, .int .i64 2, .int .i64 0, .string sE, .slice none 0 0, .string sx, .int .i64 0, .slice none 0 0] (by first | exact want_none | exact want_L rfl) (by decide) rfl (by decide) (by decide) (by kernel_rfl) (fun w7 b7 hN7 => ?_)
  have hT7 : TreeAt w7 (.slice (some ⟨b7, 0, none⟩) 3 3) (.cons hx .nil (.cons hp .nil (.cons hx .nil .nil))) :=
    TreeAt.lit (ms := [lfM 2 0 sE sx 0, lfM 1 1 sp sE 0, lfM 2 0 sE sx 0]) hN7 rfl rfl (by intro u hu; simp only [List.mem_cons, List.not_mem_nil, or_false] at hu; rcases hu with rfl | rfl | rfl | rfl | rfl | rfl | rfl | rfl | rfl | rfl | rfl | rfl | rfl | rfl | rfl | rfl | rfl | rfl | rfl | rfl | rfl <;> rfl) (Rows.leaf (Rows.leaf (Rows.leaf rfl)))
  have hb2 := hb2.no hN7.chg
  have hb4 := hb4.no hN7.chg
  have hb6 := hb6.no hN7.chg
  refine z_fa want_none (by decide) rfl ?_
  refine z_store (by first | exact want_none | exact want_L rfl) rfl rfl rfl (by assumption) (by first | exact Nat.le_refl _ | simp [Value.cells]) (by simp [Value.cells, Value.oneCell']) (fun w8 hU8 => ?_)
  have hb8 : Blk w8 b5 48 [.int .i64 1, .int .i64 1, .string sp, .slice none 0 0, .string sE, .int .i64 0, .slice (some ⟨b7, 0, none⟩) 3 3] := hU8.blk
  have hbn1 : b1 ≠ b5 := fun he => by have := hN5.at_; have := hC4.size; have := hN1.at_; have := hN1.size; have := hU2.chg.size; have := hC24.size; omega
  have hbn3 : b3 ≠ b5 := fun he => by have := hN5.at_; have := hN3.at_; have := hN3.size; have := hU4.chg.size; omega
  have hbn7 : b7 ≠ b5 := fun he => by have := hN5.at_; have := hN7.at_; have := hN5.size; have := hU6.chg.size; omega
  have hb2 := hb2.chg hU8.chg hbn1
  have hb4 := hb4.chg hU8.chg hbn3
  have hT8 : TreeAt w8 (.slice (some ⟨b7, 0, none⟩) 3 3) (.cons hx .nil (.cons hp .nil (.cons hx .nil .nil))) := by
    refine ⟨[lfM 2 0 sE sx 0, lfM 1 1 sp sE 0, lfM 2 0 sE sx 0], RdS.blk (hN7.blk.chg hU8.chg hbn7) rfl (Nat.le_refl _) ?_ 0 (fun j u hj => by rw [Nat.zero_add]; exact hj), Rows.leaf (Rows.leaf (Rows.leaf rfl))⟩
    intro u hu
    simp only [encN, lfM, List.mem_cons, List.not_mem_nil, or_false] at hu
    rcases hu with rfl | rfl | rfl | rfl | rfl | rfl | rfl | rfl | rfl | rfl | rfl | rfl | rfl | rfl | rfl | rfl | rfl | rfl | rfl | rfl | rfl <;> rfl
  have hC8 := (hC6.no hN7.chg).upd hU8 (hN5.ge hC4)
  refine zl_nil ?_
  refine zk_seq ?_
  refine zc_seq ?_
  refine zc_region ?_
  refine z_loadAB want_none (by decide) rfl (by assumption) (by rfl) ?_
  refine z_bs1 (by first | exact want_none | exact want_L rfl) (by decide) rfl (by rfl) (by rfl) (by decide) (by decide) (fun v1 c1 hM1 => ?_)
  have t1 := TreeAt.one hM1
  have hb2 := hb2.no hM1.chg
  have hb4 := hb4.no hM1.chg
  have hb8 := hb8.no hM1.chg
  have hC9 := hC8.no hM1.chg
  have hT9 := hT8.no hM1.chg
  iterate 2 (refine z_loadAB want_none (by decide) rfl (by assumption) (by rfl) ?_)
  refine z_bsE [.int .i64 2, .int .i64 0, .string sE, .slice none 0 0, .string sx, .int .i64 0, .slice none 0 0, .int .i64 2, .int .i64 0, .string sE, .slice none 0 0, .string sx, .int .i64 0, .slice none 0 0] (by first | exact want_none | exact want_L rfl) (by decide) rfl (by decide) (by decide) (by kernel_rfl) (fun v2 c2 hM2 => ?_)
  have t2 : TreeAt v2 (.slice (some ⟨c2, 0, none⟩) 2 2) (knT 2) :=
    TreeAt.lit (ms := [lfM 2 0 sE sx 0, lfM 2 0 sE sx 0]) hM2 rfl rfl (by intro u hu; simp only [List.mem_cons, List.not_mem_nil, or_false] at hu; rcases hu with rfl | rfl | rfl | rfl | rfl | rfl | rfl | rfl | rfl | rfl | rfl | rfl | rfl | rfl <;> rfl) (Rows.leaf (Rows.leaf rfl))
  have hb8 := hb8.no hM2.chg
  have hC10 := hC9.no hM2.chg
  have hT10 := hT9.no hM2.chg
  have t1 := t1.no hM2.chg
  refine z_loadAB want_none (by decide) rfl (by assumption) (by rfl) ?_
  refine z_bs1 (by first | exact want_none | exact want_L rfl) (by decide) rfl (by rfl) (by rfl) (by decide) (by decide) (fun v3 c3 hM3 => ?_)
  have t3 : TreeAt v3 (.slice (some ⟨c3, 0, none⟩) 1 1) (knT 3) := by
    obtain ⟨ks, hk1, hk2⟩ := hT10.no hM3.chg
    exact TreeAt.lit (ms := [⟨1, 1, sp, .slice none 0 0, sE, 0, .slice (some ⟨b7, 0, none⟩) 3 3⟩]) hM3 rfl rfl (one7 rfl rfl) ⟨_, _, rfl, ⟨rfl, rfl, rfl, AttrS.nil _, rfl, rfl⟩, ⟨ks, hk1, hk2⟩, rfl⟩
  have hC11 := hC10.no hM3.chg
  have t1 := t1.no hM3.chg
  have t2 := t2.no hM3.chg
  skip
  refine z_buildE #[.int .i64 3, .int .i64 0, .string sE, .slice none 0 0, .string sE, .int .i64 0, .slice none 0 0] (by first | exact want_none | exact want_L rfl) (by decide) rfl (by kernel_rfl) ?_
  refine z_bs1 (by first | exact want_none | exact want_L rfl) (by decide) rfl (by rfl) (by rfl) (by decide) (by decide) (fun v4 c4 hM4 => ?_)
  have t4 : TreeAt v4 (.slice (some ⟨c4, 0, none⟩) 1 1) (knT 4) := TreeAt.one hM4
  have hC12 := hC11.no hM4.chg
  have t1 := t1.no hM4.chg
  have t2 := t2.no hM4.chg
  have t3 := t3.no hM4.chg
  skip
  refine z_buildE #[.int .i64 2, .int .i64 0, .string sE, .slice none 0 0, .string sE, .int .i64 0, .slice none 0 0] (by first | exact want_none | exact want_L rfl) (by decide) rfl (by kernel_rfl) ?_
  refine z_bs1 (by first | exact want_none | exact want_L rfl) (by decide) rfl (by rfl) (by rfl) (by decide) (by decide) (fun v5 c5 hM5 => ?_)
  have t5 : TreeAt v5 (.slice (some ⟨c5, 0, none⟩) 1 1) (knT 5) := TreeAt.one hM5
  have hC13 := hC12.no hM5.chg
  have t1 := t1.no hM5.chg
  have t2 := t2.no hM5.chg
  have t3 := t3.no hM5.chg
  have t4 := t4.no hM5.chg
  skip
  refine z_buildE #[.int .i64 1, .int .i64 0, .string sp, .slice none 0 0, .string sE, .int .i64 0, .slice none 0 0] (by first | exact want_none | exact want_L rfl) (by decide) rfl (by kernel_rfl) ?_
  refine z_bs1 (by first | exact want_none | exact want_L rfl) (by decide) rfl (by rfl) (by rfl) (by decide) (by decide) (fun v6 c6 hM6 => ?_)
  have t6 : TreeAt v6 (.slice (some ⟨c6, 0, none⟩) 1 1) (knT 6) := TreeAt.one hM6
  have hC14 := hC13.no hM6.chg
  have t1 := t1.no hM6.chg
  have t2 := t2.no hM6.chg
  have t3 := t3.no hM6.chg
  have t4 := t4.no hM6.chg
  have t5 := t5.no hM6.chg
  skip
  refine z_buildE #[.int .i64 1, .int .i64 4, .string sp, .slice none 0 0, .string sE, .int .i64 0, .slice none 0 0] (by first | exact want_none | exact want_L rfl) (by decide) rfl (by kernel_rfl) ?_
  refine z_bs1 (by first | exact want_none | exact want_L rfl) (by decide) rfl (by rfl) (by rfl) (by decide) (by decide) (fun v7 c7 hM7 => ?_)
  have t7 : TreeAt v7 (.slice (some ⟨c7, 0, none⟩) 1 1) (knT 7) := TreeAt.one hM7
  have hC15 := hC14.no hM7.chg
  have t1 := t1.no hM7.chg
  have t2 := t2.no hM7.chg
  have t3 := t3.no hM7.chg
  have t4 := t4.no hM7.chg
  have t5 := t5.no hM7.chg
  have t6 := t6.no hM7.chg
  skip
  refine z_buildE #[.int .i64 3, .int .i64 0, .string sn, .slice none 0 0, .string sE, .int .i64 0, .slice none 0 0] (by first | exact want_none | exact want_L rfl) (by decide) rfl (by kernel_rfl) ?_
  refine z_bs1 (by first | exact want_none | exact want_L rfl) (by decide) rfl (by rfl) (by rfl) (by decide) (by decide) (fun v8 c8 hM8 => ?_)
  have t8 : TreeAt v8 (.slice (some ⟨c8, 0, none⟩) 1 1) (knT 8) := TreeAt.one hM8
  have hC16 := hC15.no hM8.chg
  have t1 := t1.no hM8.chg
  have t2 := t2.no hM8.chg
  have t3 := t3.no hM8.chg
  have t4 := t4.no hM8.chg
  have t5 := t5.no hM8.chg
  have t6 := t6.no hM8.chg
  have t7 := t7.no hM8.chg
  skip
  refine z_buildE #[.int .i64 2, .int .i64 0, .string sE, .slice none 0 0, .string sx, .int .i64 (-1), .slice none 0 0] (by first | exact want_none | exact want_L rfl) (by decide) rfl (by kernel_rfl) ?_
  refine z_bs1 (by first | exact want_none | exact want_L rfl) (by decide) rfl (by rfl) (by rfl) (by decide) (by decide) (fun v9 c9 hM9 => ?_)
  have t9 : TreeAt v9 (.slice (some ⟨c9, 0, none⟩) 1 1) (knT 9) := TreeAt.one hM9
  have hC17 := hC16.no hM9.chg
  have t1 := t1.no hM9.chg
  have t2 := t2.no hM9.chg
  have t3 := t3.no hM9.chg
  have t4 := t4.no hM9.chg
  have t5 := t5.no hM9.chg
  have t6 := t6.no hM9.chg
  have t7 := t7.no hM9.chg
  have t8 := t8.no hM9.chg
  skip
  refine z_bsE (knV c1 c2 c3 c4 c5 c6 c7 c8 c9) (by first | exact want_none | exact want_L rfl) (by decide) rfl (by decide) (by decide) (by kernel_rfl) (fun v10 c10 hM10 => ?_)
  refine zl_pureL rfl ?_
  refine zl_nil ?_
  refine zk_seq ?_
  refine zc_seq ?_
  refine zc_region ?_
  refine z_bsE knBV (by first | exact want_none | exact want_L rfl) (by decide) rfl (by decide) (by decide) (by kernel_rfl) (fun v11 c11 hM11 => ?_)
  refine zl_pureL rfl ?_
  refine zl_nil ?_
  refine zk_seq ?_
  refine zc_seq ?_
  refine zc_region ?_
  refine z_bsE knDV (by first | exact want_none | exact want_L rfl) (by decide) rfl (by decide) (by decide) (by kernel_rfl) (fun v12 c12 hM12 => ?_)
  have hall := kn_all t1 t2 t3 t4 t5 t6 t7 t8 t9
  obtain ⟨v, hv, ht⟩ := hall i hi10
  have hCx : Chg v9 v12 No := (hM10.chg.no hM11.chg).no hM12.chg
  have ht := ht.no hCx
  have g1 : v12.cell? ⟨c10, 0 + i, none⟩ = some v := by rw [Nat.zero_add]; exact (((hM10.blk.no hM11.chg).no hM12.chg).cell i).trans hv
  have g2 : v12.cell? ⟨c11, 0 + i, none⟩ = some (.bool (knB i)) := by rw [Nat.zero_add]; exact ((hM11.blk.no hM12.chg).cell i).trans (knBV_get i hi10)
  have g3 : v12.cell? ⟨c12, 0 + i, none⟩ = some (.int .i64 (knD i : Nat)) := by rw [Nat.zero_add]; exact (hM12.blk.cell i).trans (knDV_get i hi10)
  have hCz := hC17.no hCx
  obtain ⟨hsz, hfew⟩ := kn_size i hi10
  have hdp := kn_deep i hi10
  have hsd := kn_sound i hi10
  refine zl_pureL rfl ?_
  refine zl_nil ?_
  refine zk_seq ?_
  refine zc_seq ?_
  refine zc_region ?_
  iterate 2 (refine zl_pureL rfl ?_)
  refine z_len want_none (by decide) rfl ?_
  refine zl_call (by first | exact want_none | exact want_L rfl) rfl (by decide) rfl (within_calls (n := 10) (by decide) (by decide)) ?_
  rintro _ u ⟨rfl, hu⟩
  obtain rfl := hu.symm
  refine ⟨_, rfl, ?_⟩
  rw [hi]
  refine zl_pureL rfl ?_
  refine zl_nil ?_
  refine zk_seq ?_
  refine zc_seq ?_
  refine zc_draw [] (fun w' => Chg v12 w' No) (.all1 0 (.take 1 (.take 2 (.take 3 (.take 4 (.take 5 (.take 7 (.take 8 (.take 9 (.take 10 (.all1 6 (.take 11 (.take 12 (.take 13 (.take 14 (.take 15 (.take 16 (.take 17 (.take 19 (.take 20 (.take 21 (.take 22 (.all1 18 (.take 23 (.take 24 (.take 25 (.fin))))))))))))))))))))))))))) (by rfl) (by kernel_rfl) (by kernel_rfl) (fun z1 hD1 _ => ⟨?_, ?_⟩)
  · exact hD1
  skip
  refine zs_call rfl (by first | exact want_none | exact want_L rfl) rfl (by decide) rfl known_calls ?_
  rintro _ z2 ⟨rfl, hD2⟩
  have hD2 := hD1.no hD2
  refine ⟨_, rfl, hD2, ?_⟩
  iterate 3 (refine zs_take rfl (zt_pure rfl ?_))
  refine zs_rdL rfl (want_L rfl) rfl (by decide) (fun _ hS => r_ia rfl rfl (by omega) (by omega)) ?_
  refine zs_rdL rfl (by first | exact want_none | exact want_L rfl) rfl (by decide) (fun _ hS => r_load1 rfl (cell_at (cell_no hS g1) (by omega))) ?_
  iterate 2 (refine zs_take rfl (zt_pure rfl ?_))
  refine zs_rdL rfl (want_L rfl) rfl (by decide) (fun _ hS => r_ia rfl rfl (by omega) (by omega)) ?_
  refine zs_rdL rfl (by first | exact want_none | exact want_L rfl) rfl (by decide) (fun _ hS => r_load1 rfl (cell_at (cell_no hS g2) (by omega))) ?_
  skip
  refine zs_call rfl (by first | exact want_none | exact want_L rfl) rfl (by decide) rfl (sound_calls 100 (ht.no hD2) hfew hsz (by decide)) ?_
  rintro _ z3 ⟨q, rfl, hq, hD3⟩
  have hD3 := hD2.no hD3
  refine ⟨_, rfl, hD3, ?_⟩
  have hqb : q = knB i := Bool.eq_iff_iff.2 (hq.trans hsd)
  subst hqb
  refine zs_rdL rfl (by first | exact want_none | exact want_L rfl) rfl (by decide) (fun _ hS => r_eqT rfl rfl) ?_
  rw [show (knB i == knB i) = true from by simp]
  iterate 4 (refine zs_take rfl (zt_pure rfl ?_))
  refine zs_rdL rfl (want_L rfl) rfl (by decide) (fun _ hS => r_ia rfl rfl (by omega) (by omega)) ?_
  refine zs_rdL rfl (by first | exact want_none | exact want_L rfl) rfl (by decide) (fun _ hS => r_load1 rfl (cell_at (cell_no hS g1) (by omega))) ?_
  iterate 2 (refine zs_take rfl (zt_pure rfl ?_))
  refine zs_rdL rfl (want_L rfl) rfl (by decide) (fun _ hS => r_ia rfl rfl (by omega) (by omega)) ?_
  refine zs_rdL rfl (by first | exact want_none | exact want_L rfl) rfl (by decide) (fun _ hS => r_load1 rfl (cell_at (cell_no hS g3) (by omega))) ?_
  skip
  refine zs_call rfl (by first | exact want_none | exact want_L rfl) rfl (by decide) rfl (deep_calls 100 (ht.no hD3) hsz (by decide)) ?_
  rintro _ z4 ⟨rfl, hD4⟩
  have hD4 := hD3.no hD4
  refine ⟨_, rfl, hD4, ?_⟩
  rw [hdp]
  refine zs_rdL rfl (want_L rfl) rfl (by decide) (fun _ hS => r_cmpB (r := true) rfl rfl rfl (iff_of_true rfl (by omega))) ?_
  iterate 2 (refine zs_take rfl (zt_pure rfl ?_))
  refine zs_fin ?_
  refine zk_seq ?_
  refine zc_ret ?_
  exact zk_ret1 (.inr rfl) rfl rfl ⟨rfl, (hCz.no hD4).below⟩
end Go.Proofs.Ytjiehalanklapaa.D
