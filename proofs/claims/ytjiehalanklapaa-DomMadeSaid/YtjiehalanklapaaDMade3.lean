import Derived.Test.YtjiehalanklapaaDMade2
/- DomMade: the walk. -/
namespace Go.Proofs.Ytjiehalanklapaa.D
open Go Go.Z Go.Proofs
set_option linter.unusedVariables false
def mdR : List At := [(⟨#[97]⟩, ⟨#[]⟩), (⟨#[97]⟩, ⟨#[]⟩)]
theorem md1 {T : NT} (h : SoundF false T) : SoundF false (.cons hx .nil (.cons ⟨1, 1, sp, [], sE, 0⟩ T (.cons hx .nil .nil))) := by
  simp [SoundF, sound1, h, hx, lfH, sE, sp, sx, NT.len, Tw]
theorem md2 {T : NT} : ¬ SoundF false (.cons ⟨1, 1, sp, [], sE, 0⟩ T (.cons hx .nil (.cons hx .nil .nil))) := by
  simp [SoundF, sound1, hx, lfH, sE, sp, sx, NT.len, Tw]
theorem md3 {T : NT} : ¬ SoundF false (.cons ⟨1, 1, sE, [], sE, 0⟩ T .nil) := by
  simp [SoundF, sound1, sE]
theorem md4 {T : NT} : ¬ SoundF false (.cons ⟨1, 1, sp, [], sE, 0⟩ T (.cons ⟨1, 1, sp, mdR, sE, 0⟩ .nil .nil)) := by
  intro h
  have h1 := h.2.2.2.1
  rcases h1 with h1 | h1 | h1
  · exact h1.2.2.2.2.2.2 ⟨1, 0, by decide, by decide, rfl⟩
  · exact absurd h1.1 (by decide)
  · exact absurd h1.1 (by decide)
theorem md5 : ¬ SoundF false (.cons ⟨4, 0, sE, [], sE, 0⟩ .nil .nil) := by
  simp [SoundF, sound1]
set_option maxHeartbeats 16000000 in
theorem DomMade_walk (a : Option Addr) (len cap : Nat) (zs : List Int) (w : World) (hr : IsRow .i64 w a len cap zs) : Calls Try.prog 10 #[.slice a len cap] w fun e w' => e = .returned (.bool true) ∧ RowKit.Below w.heap.size w w' := by
  show Calls Try.prog 10 [Value.slice a len cap].toArray w _
  have hsz : (madeT zs len 6 0).1.size ≤ 22000 := made_size6
  obtain ⟨hsd, hfw⟩ := made_sound (zs := zs) (len := len) 6 0
  refine calls_zc (n := 62) (f := 10) (fn := Try.f10) Try.func10 rfl rfl (by simp) ?_
  refine zc_seq ?_
  refine zc_region ?_
  refine zl_pureL rfl ?_
  refine zl_nil ?_
  refine zk_seq ?_
  iterate 2 (refine zc_seq ?_)
  refine zc_region ?_
  refine zl_call (by first | exact want_none | exact want_L rfl) rfl (by decide) rfl known_calls ?_
  rintro _ w1 ⟨rfl, hC1⟩
  refine ⟨_, rfl, ?_⟩
  refine zl_pureL rfl ?_
  refine zl_nil ?_
  refine zk_seq ?_
  refine zc_false rfl ?_
  refine zc_skip ?_
  refine zk_seq ?_
  refine zc_seq ?_
  refine zc_region ?_
  refine zl_pureL rfl ?_
  refine zl_call (by first | exact want_none | exact want_L rfl) rfl (by decide) rfl (Made_calls hr hC1) ?_
  rintro _ w2 ⟨vo, rfl, hT2, hC2⟩
  refine ⟨_, rfl, ?_⟩
  have ht2 := hT2.at'
  have hC2 := hC1.no hC2
  generalize (madeT zs len 6 0).1 = T at hsz hsd hfw ht2
  obtain ⟨A, c, hvo, _⟩ := ht2.form
  subst hvo
  refine zl_pureL rfl ?_
  refine zl_nil ?_
  refine zk_seq ?_
  iterate 2 (refine zc_seq ?_)
  refine zc_region ?_
  refine zl_pureL rfl ?_
  refine zl_call (by first | exact want_none | exact want_L rfl) rfl (by decide) rfl (sound_calls 22000 ht2 hfw hsz (by decide)) ?_
  rintro _ w3 ⟨q3, rfl, hq3, hC3⟩
  refine ⟨_, rfl, ?_⟩
  obtain rfl := hq3.2 hsd
  iterate 3 (refine zl_pureL rfl ?_)
  refine zl_call (by first | exact want_none | exact want_L rfl) rfl (by decide) rfl (number_calls (ht2.no hC3) hfw (by omega)) ?_
  rintro _ w4 ⟨v4, rfl, ht4, hC4⟩
  refine ⟨_, rfl, ?_⟩
  refine zl_call (by first | exact want_none | exact want_L rfl) rfl (by decide) rfl (sound_calls 22000 ht4 (numT_few 1 _ hfw) (by rw [numT_size]; exact hsz) (by decide)) ?_
  rintro _ w5 ⟨q5, rfl, hq5, hC5⟩
  refine ⟨_, rfl, ?_⟩
  obtain rfl := hq5.2 (numT_sound 1 false _ hsd)
  have hC25 := (hC3.no hC4).no hC5
  have ht5 := ht2.no hC25
  have hC5' := hC2.no hC25
  iterate 2 (refine zl_pureL rfl ?_)
  refine zl_nil ?_
  refine zk_seq ?_
  refine zc_false rfl ?_
  refine zc_skip ?_
  refine zk_seq ?_
  refine zc_seq ?_
  refine zc_region ?_
  refine z_buildE #[.int .i64 2, .int .i64 0, .string sE, .slice none 0 0, .string sx, .int .i64 0, .slice none 0 0] (by first | exact want_none | exact want_L rfl) (by decide) rfl (by kernel_rfl) ?_
  refine z_alloc (by first | exact want_none | exact want_L rfl) (by decide) (fun x1 b1 hN1 => ?_)
  have hz1 : Blk x1 b1 48 [.int .i64 0, .int .i64 0, .string ⟨#[]⟩, .slice none 0 0, .string ⟨#[]⟩, .int .i64 0, .slice none 0 0] := hN1.blk
  skip
  refine z_store (by first | exact want_none | exact want_L rfl) rfl rfl rfl (by assumption) (by first | exact Nat.le_refl _ | simp [Value.cells]) (by simp [Value.cells, Value.oneCell']) (fun y1 hU1 => ?_)
  have hb1 : Blk y1 b1 48 [.int .i64 2, .int .i64 0, .string sE, .slice none 0 0, .string sx, .int .i64 0, .slice none 0 0] := hU1.blk
  have hD1 : Chg w5 y1 No := hN1.chg.upd hU1 (hN1.ge (Chg.refl _ No))
  have ht5 := ht5.no hD1
  refine zl_nil ?_
  refine zk_seq ?_
  refine zc_seq ?_
  refine zc_region ?_
  refine zl_pureL rfl ?_
  refine z_buildE #[.int .i64 1, .int .i64 1, .string sp, .slice none 0 0, .string sE, .int .i64 0, .slice A T.len c] (by first | exact want_none | exact want_L rfl) (by decide) rfl (by kernel_rfl) ?_
  refine z_alloc (by first | exact want_none | exact want_L rfl) (by decide) (fun x2 b2 hN2 => ?_)
  have hz2 : Blk x2 b2 48 [.int .i64 0, .int .i64 0, .string ⟨#[]⟩, .slice none 0 0, .string ⟨#[]⟩, .int .i64 0, .slice none 0 0] := hN2.blk
  skip
  refine z_store (by first | exact want_none | exact want_L rfl) rfl rfl rfl (by assumption) (by first | exact Nat.le_refl _ | simp [Value.cells]) (by simp [Value.cells, Value.oneCell']) (fun y2 hU2 => ?_)
  have hb2 : Blk y2 b2 48 [.int .i64 1, .int .i64 1, .string sp, .slice none 0 0, .string sE, .int .i64 0, .slice A T.len c] := hU2.blk
  have hD2 : Chg y1 y2 No := hN2.chg.upd hU2 (hN2.ge (Chg.refl _ No))
  have ht5 := ht5.no hD2
  have hb1 := hb1.no hD2
  refine zl_nil ?_
  refine zk_seq ?_
  refine zc_seq ?_
  refine zc_region ?_
  refine zl_pureL rfl ?_
  refine z_buildE #[.int .i64 1, .int .i64 1, .string sE, .slice none 0 0, .string sE, .int .i64 0, .slice A T.len c] (by first | exact want_none | exact want_L rfl) (by decide) rfl (by kernel_rfl) ?_
  refine z_alloc (by first | exact want_none | exact want_L rfl) (by decide) (fun x3 b3 hN3 => ?_)
  have hz3 : Blk x3 b3 48 [.int .i64 0, .int .i64 0, .string ⟨#[]⟩, .slice none 0 0, .string ⟨#[]⟩, .int .i64 0, .slice none 0 0] := hN3.blk
  skip
  refine z_store (by first | exact want_none | exact want_L rfl) rfl rfl rfl (by assumption) (by first | exact Nat.le_refl _ | simp [Value.cells]) (by simp [Value.cells, Value.oneCell']) (fun y3 hU3 => ?_)
  have hb3 : Blk y3 b3 48 [.int .i64 1, .int .i64 1, .string sE, .slice none 0 0, .string sE, .int .i64 0, .slice A T.len c] := hU3.blk
  have hD3 : Chg y2 y3 No := hN3.chg.upd hU3 (hN3.ge (Chg.refl _ No))
  have ht5 := ht5.no hD3
  have hb1 := hb1.no hD3
  have hb2 := hb2.no hD3
  refine zl_nil ?_
  refine zk_seq ?_
  refine zc_seq ?_
  refine zc_region ?_
  refine z_buildE #[.string ⟨#[97]⟩, .string ⟨#[]⟩] (by first | exact want_none | exact want_L rfl) (by decide) rfl (by kernel_rfl) ?_
  refine z_buildE #[.string ⟨#[97]⟩, .string ⟨#[]⟩] (by first | exact want_none | exact want_L rfl) (by decide) rfl (by kernel_rfl) ?_
  refine z_bsE (encA mdR) (by first | exact want_none | exact want_L rfl) (by decide) rfl (by decide) (by decide) (by kernel_rfl) (fun z1 ba hM => ?_)
  have hat : AttrS z1 (.slice (some ⟨ba, 0, none⟩) 2 2) mdR := RdS.new hM rfl (encA_one _)
  have ht5 := ht5.no hM.chg
  have hb1 := hb1.no hM.chg
  have hb2 := hb2.no hM.chg
  have hb3 := hb3.no hM.chg
  skip
  refine z_buildE #[.int .i64 1, .int .i64 1, .string sp, .slice (some ⟨ba, 0, none⟩) 2 2, .string sE, .int .i64 0, .slice none 0 0] (by first | exact want_none | exact want_L rfl) (by decide) rfl (by kernel_rfl) ?_
  refine z_alloc (by first | exact want_none | exact want_L rfl) (by decide) (fun x4 b4 hN4 => ?_)
  have hz4 : Blk x4 b4 48 [.int .i64 0, .int .i64 0, .string ⟨#[]⟩, .slice none 0 0, .string ⟨#[]⟩, .int .i64 0, .slice none 0 0] := hN4.blk
  skip
  refine z_store (by first | exact want_none | exact want_L rfl) rfl rfl rfl (by assumption) (by first | exact Nat.le_refl _ | simp [Value.cells]) (by simp [Value.cells, Value.oneCell']) (fun y4 hU4 => ?_)
  have hb4 : Blk y4 b4 48 [.int .i64 1, .int .i64 1, .string sp, .slice (some ⟨ba, 0, none⟩) 2 2, .string sE, .int .i64 0, .slice none 0 0] := hU4.blk
  have hD4 : Chg z1 y4 No := hN4.chg.upd hU4 (hN4.ge (Chg.refl _ No))
  have ht5 := ht5.no hD4
  have hb1 := hb1.no hD4
  have hb2 := hb2.no hD4
  have hb3 := hb3.no hD4
  have hat := hat.no hD4
  refine zl_nil ?_
  refine zk_seq ?_
  refine zc_seq ?_
  refine zc_region ?_
  iterate 3 (refine z_loadAB want_none (by decide) rfl (by assumption) (by rfl) ?_)
  have hCz : Chg w y4 No := ((((hC5'.no hD1).no hD2).no hD3).no hM.chg).no hD4
  skip
  refine z_bsE [.int .i64 2, .int .i64 0, .string sE, .slice none 0 0, .string sx, .int .i64 0, .slice none 0 0, .int .i64 1, .int .i64 1, .string sp, .slice none 0 0, .string sE, .int .i64 0, .slice A T.len c, .int .i64 2, .int .i64 0, .string sE, .slice none 0 0, .string sx, .int .i64 0, .slice none 0 0] (by first | exact want_none | exact want_L rfl) (by decide) rfl (by decide) (by decide) (by kernel_rfl) (fun m1 c1 hM1 => ?_)
  have tt1 : TreeAt m1 (.slice (some ⟨c1, 0, none⟩) 3 3) (.cons hx .nil (.cons ⟨1, 1, sp, [], sE, 0⟩ T (.cons hx .nil .nil))) := TreeAt.lit (ms := [lfM 2 0 sE sx 0, ⟨1, 1, sp, .slice none 0 0, sE, 0, .slice A T.len c⟩, lfM 2 0 sE sx 0]) hM1 rfl rfl (by simp [Value.oneCell']) (Rows.leaf (Rows.node (AttrS.nil _) (ht5.no hM1.chg) (Rows.leaf (rfl))))
  skip
  refine zl_call (by first | exact want_none | exact want_L rfl) rfl (by decide) rfl (sound_calls 23000 tt1 (by simp [FewT, hx, lfH, mdR, hfw]) (by simp only [NT.size]; omega) (by decide)) ?_
  rintro _ k1 ⟨s1, rfl, hs1, hE1⟩
  refine ⟨_, rfl, ?_⟩
  obtain rfl := hs1.2 (md1 hsd)
  have hF1 := hM1.chg.no hE1
  have ht5 := ht5.no hF1
  have hb1 := hb1.no hF1
  have hb2 := hb2.no hF1
  have hb3 := hb3.no hF1
  have hb4 := hb4.no hF1
  have hat := hat.no hF1
  have hCz := hCz.no hF1
  refine zl_pureL rfl ?_
  iterate 3 (refine z_loadAB (want_L rfl) (by decide) rfl (by assumption) (by rfl) ?_)
  refine z_bsE [.int .i64 1, .int .i64 1, .string sp, .slice none 0 0, .string sE, .int .i64 0, .slice A T.len c, .int .i64 2, .int .i64 0, .string sE, .slice none 0 0, .string sx, .int .i64 0, .slice none 0 0, .int .i64 2, .int .i64 0, .string sE, .slice none 0 0, .string sx, .int .i64 0, .slice none 0 0] (by first | exact want_none | exact want_L rfl) (by decide) rfl (by decide) (by decide) (by kernel_rfl) (fun m2 c2 hM2 => ?_)
  have tt2 : TreeAt m2 (.slice (some ⟨c2, 0, none⟩) 3 3) (.cons ⟨1, 1, sp, [], sE, 0⟩ T (.cons hx .nil (.cons hx .nil .nil))) := TreeAt.lit (ms := [⟨1, 1, sp, .slice none 0 0, sE, 0, .slice A T.len c⟩, lfM 2 0 sE sx 0, lfM 2 0 sE sx 0]) hM2 rfl rfl (by simp [Value.oneCell']) (Rows.node (AttrS.nil _) (ht5.no hM2.chg) (Rows.leaf (Rows.leaf (rfl))))
  skip
  refine zl_call (by first | exact want_none | exact want_L rfl) rfl (by decide) rfl (sound_calls 23000 tt2 (by simp [FewT, hx, lfH, mdR, hfw]) (by simp only [NT.size]; omega) (by decide)) ?_
  rintro _ k2 ⟨s2, rfl, hs2, hE2⟩
  refine ⟨_, rfl, ?_⟩
  obtain rfl : s2 = false := by cases s2 with | false => rfl | true => exact absurd (hs2.1 rfl) md2
  have hF2 := hM2.chg.no hE2
  have ht5 := ht5.no hF2
  have hb1 := hb1.no hF2
  have hb2 := hb2.no hF2
  have hb3 := hb3.no hF2
  have hb4 := hb4.no hF2
  have hat := hat.no hF2
  have hCz := hCz.no hF2
  iterate 3 (refine zl_pureL rfl ?_)
  refine z_loadAB (want_L rfl) (by decide) rfl (by assumption) (by rfl) ?_
  refine z_bsE [.int .i64 1, .int .i64 1, .string sE, .slice none 0 0, .string sE, .int .i64 0, .slice A T.len c] (by first | exact want_none | exact want_L rfl) (by decide) rfl (by decide) (by decide) (by kernel_rfl) (fun m3 c3 hM3 => ?_)
  have tt3 : TreeAt m3 (.slice (some ⟨c3, 0, none⟩) 1 1) (.cons ⟨1, 1, sE, [], sE, 0⟩ T .nil) := TreeAt.lit (ms := [⟨1, 1, sE, .slice none 0 0, sE, 0, .slice A T.len c⟩]) hM3 rfl rfl (by simp [Value.oneCell']) (Rows.node (AttrS.nil _) (ht5.no hM3.chg) (rfl))
  skip
  refine zl_call (by first | exact want_none | exact want_L rfl) rfl (by decide) rfl (sound_calls 23000 tt3 (by simp [FewT, hx, lfH, mdR, hfw]) (by simp only [NT.size]; omega) (by decide)) ?_
  rintro _ k3 ⟨s3, rfl, hs3, hE3⟩
  refine ⟨_, rfl, ?_⟩
  obtain rfl : s3 = false := by cases s3 with | false => rfl | true => exact absurd (hs3.1 rfl) md3
  have hF3 := hM3.chg.no hE3
  have ht5 := ht5.no hF3
  have hb1 := hb1.no hF3
  have hb2 := hb2.no hF3
  have hb3 := hb3.no hF3
  have hb4 := hb4.no hF3
  have hat := hat.no hF3
  have hCz := hCz.no hF3
  iterate 3 (refine zl_pureL rfl ?_)
  iterate 2 (refine z_loadAB (want_L rfl) (by decide) rfl (by assumption) (by rfl) ?_)
  refine z_bsE [.int .i64 1, .int .i64 1, .string sp, .slice none 0 0, .string sE, .int .i64 0, .slice A T.len c, .int .i64 1, .int .i64 1, .string sp, .slice (some ⟨ba, 0, none⟩) 2 2, .string sE, .int .i64 0, .slice none 0 0] (by first | exact want_none | exact want_L rfl) (by decide) rfl (by decide) (by decide) (by kernel_rfl) (fun m4 c4 hM4 => ?_)
  have tt4 : TreeAt m4 (.slice (some ⟨c4, 0, none⟩) 2 2) (.cons ⟨1, 1, sp, [], sE, 0⟩ T (.cons ⟨1, 1, sp, mdR, sE, 0⟩ .nil .nil)) := TreeAt.lit (ms := [⟨1, 1, sp, .slice none 0 0, sE, 0, .slice A T.len c⟩, ⟨1, 1, sp, .slice (some ⟨ba, 0, none⟩) 2 2, sE, 0, .slice none 0 0⟩]) hM4 rfl rfl (by simp [Value.oneCell']) (Rows.node (AttrS.nil _) (ht5.no hM4.chg) (Rows.node (hat.no hM4.chg) TreeAt.nil (rfl)))
  skip
  refine zl_call (by first | exact want_none | exact want_L rfl) rfl (by decide) rfl (sound_calls 23000 tt4 (by simp [FewT, hx, lfH, mdR, hfw]) (by simp only [NT.size]; omega) (by decide)) ?_
  rintro _ k4 ⟨s4, rfl, hs4, hE4⟩
  refine ⟨_, rfl, ?_⟩
  obtain rfl : s4 = false := by cases s4 with | false => rfl | true => exact absurd (hs4.1 rfl) md4
  have hF4 := hM4.chg.no hE4
  have ht5 := ht5.no hF4
  have hb1 := hb1.no hF4
  have hb2 := hb2.no hF4
  have hb3 := hb3.no hF4
  have hb4 := hb4.no hF4
  have hat := hat.no hF4
  have hCz := hCz.no hF4
  iterate 3 (refine zl_pureL rfl ?_)
  refine z_buildE #[.int .i64 4, .int .i64 0, .string sE, .slice none 0 0, .string sE, .int .i64 0, .slice none 0 0] (by first | exact want_none | exact want_L rfl) (by decide) rfl (by kernel_rfl) ?_
  refine z_bs1 (by first | exact want_none | exact want_L rfl) (by decide) rfl (by rfl) (by rfl) (by decide) (by decide) (fun m5 c5 hM5 => ?_)
  refine zl_call (by first | exact want_none | exact want_L rfl) rfl (by decide) rfl (sound_calls 100 (TreeAt.one hM5) (by simp [FewT, lfH]) (by simp [NT.size]) (by decide)) ?_
  rintro _ k5 ⟨s5, rfl, hs5, hE5⟩
  refine ⟨_, rfl, ?_⟩
  obtain rfl : s5 = false := by cases s5 with | false => rfl | true => exact absurd (hs5.1 rfl) md5
  iterate 3 (refine zl_pureL rfl ?_)
  refine zl_nil ?_
  refine zk_seq ?_
  refine zc_ret ?_
  exact zk_ret1 (.inr rfl) rfl rfl ⟨rfl, ((hCz.no hM5.chg).no hE5).below⟩
end Go.Proofs.Ytjiehalanklapaa.D
