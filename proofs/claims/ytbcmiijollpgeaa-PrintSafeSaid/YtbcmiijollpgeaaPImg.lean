import Derived.Test.YtbcmiijollpgeaaPDraw
/- An image of a tape. -/
namespace Go.Proofs.Ytbcmiijollpgeaa.T
open Go Go.Z Go.Proofs
set_option linter.unusedVariables false
def strs (l : List (List UInt8)) : List Value := l.map fun r => .string (bs r)
theorem strs_get (l : List (List UInt8)) (k : Nat) (h : k < l.length) : (strs l)[k]? = some (.string (bs (l.getD k []))) := by
  unfold strs
  rw [List.getElem?_map, List.getElem?_eq_getElem h, List.getD_eq_getElem?_getD, List.getElem?_eq_getElem h]; rfl
theorem getD_mem (l : List (List UInt8)) (k : Nat) (h : k < l.length) : l.getD k [] ∈ l := by
  rw [List.getD_eq_getElem?_getD, List.getElem?_eq_getElem h]; exact List.getElem_mem h
def kAlt : List UInt8 := [97, 108, 116]
def kSrc : List UInt8 := [115, 114, 99]
def kSet : List UInt8 := [115, 114, 99, 115, 101, 116]
/-- what the parts of the region tell -/
def GI (bt W : Nat) : Nat → Value → World → Prop
  | 0, v, w => ∃ b, v = .slice (some ⟨b, 0, none⟩) 3 3 ∧ Blk w b 9 (strs lAlt)
  | 1, v, w => v = .pointer (some ⟨bt, 0, none⟩)
  | 2, v, w => ∃ k : Nat, k < 3 ∧ v = .int .i64 k
  | 3, v, w => ∃ b k, k < 3 ∧ v = .pointer (some ⟨b, k, none⟩) ∧ Blk w b 9 (strs lAlt)
  | 4, v, w => ∃ s ∈ lAlt, v = .string (bs s)
  | 5, v, w => ∃ s ∈ lAlt, v = .agg #[.string (bs kAlt), .string (bs s)]
  | 6, v, w => ∃ b, v = .slice (some ⟨b, 0, none⟩) 3 3 ∧ Blk w b 9 (strs lSrc)
  | 7, v, w => v = .pointer (some ⟨bt, 0, none⟩)
  | 8, v, w => ∃ k : Nat, k < 3 ∧ v = .int .i64 k
  | 9, v, w => ∃ b k, k < 3 ∧ v = .pointer (some ⟨b, k, none⟩) ∧ Blk w b 9 (strs lSrc)
  | 10, v, w => ∃ s ∈ lSrc, v = .string (bs s)
  | 11, v, w => ∃ s ∈ lSrc, v = .agg #[.string (bs kSrc), .string (bs s)]
  | 12, v, w => ∃ b, ∃ s ∈ lAlt, ∃ t ∈ lSrc, v = .slice (some ⟨b, 0, none⟩) 2 2 ∧ Blk w b 33 (encA [(kAlt, s), (kSrc, t)]) ∧ W ≤ b
  | 13, v, w => ∃ b, ∃ s ∈ lAlt, ∃ t ∈ lSrc, v = .agg #[.string (bs nImg), .slice (some ⟨b, 0, none⟩) 2 2, .string (bs []), nS, nS] ∧ Blk w b 33 (encA [(kAlt, s), (kSrc, t)]) ∧ W ≤ b
  | 14, v, w => ∃ b, v = .pointer (some ⟨b, 0, none⟩) ∧ W ≤ b ∧ Blk w b 38 [.string ⟨#[]⟩, nS, .string ⟨#[]⟩, nS, nS]
  | _, _, _ => True
theorem GI.keep {bt W : Nat} {w w' : World} (h : ∀ b t cs, t ≠ 30 → Blk w b t cs → Blk w' b t cs) : ∀ j u, GI bt W j u w → GI bt W j u w'
  | 0, u, ⟨b, h1, h2⟩ => ⟨b, h1, h _ _ _ (by decide) h2⟩
  | 1, u, h1 => h1
  | 2, u, h1 => h1
  | 3, u, ⟨b, k, h1, h2, h3⟩ => ⟨b, k, h1, h2, h _ _ _ (by decide) h3⟩
  | 4, u, h1 => h1
  | 5, u, h1 => h1
  | 6, u, ⟨b, h1, h2⟩ => ⟨b, h1, h _ _ _ (by decide) h2⟩
  | 7, u, h1 => h1
  | 8, u, h1 => h1
  | 9, u, ⟨b, k, h1, h2, h3⟩ => ⟨b, k, h1, h2, h _ _ _ (by decide) h3⟩
  | 10, u, h1 => h1
  | 11, u, h1 => h1
  | 12, u, ⟨b, s, hs, t, ht, h1, h2, h3⟩ => ⟨b, s, hs, t, ht, h1, h _ _ _ (by decide) h2, h3⟩
  | 13, u, ⟨b, s, hs, t, ht, h1, h2, h3⟩ => ⟨b, s, hs, t, ht, h1, h _ _ _ (by decide) h2, h3⟩
  | 14, u, ⟨b, h1, h2, h3⟩ => ⟨b, h1, h2, h _ _ _ (by decide) h3⟩
  | _ + 15, u, h1 => trivial
theorem keepN {w w' : World} (hc : Chg w w' No) : ∀ b t cs, t ≠ 30 → Blk w b t cs → Blk w' b t cs := fun b t cs _ h => h.no hc
theorem keepT {w w' : World} {B bt : Nat} (hT : Tp w B bt) (hc : Chg w w' (· = bt)) : ∀ b t cs, t ≠ 30 → Blk w b t cs → Blk w' b t cs := fun b t cs ht h => by
  obtain ⟨c0, hb⟩ := hT.blk
  exact h.chg hc (fun he => h.ne hb ht he)
set_option maxRecDepth 100000 in
set_option maxHeartbeats 8000000 in
theorem image_calls {w : World} {B bt : Nat} (hT0 : Tp w B bt) : Calls Try.prog 59 [.pointer (some ⟨bt, 0, none⟩)].toArray w fun e w' => ∃ V l, e = .returned (.agg #[.string (bs nImg), V, .string (bs []), nS, nS]) ∧ AtS w' V l ∧ l.length ≤ 3 ∧ (∀ a ∈ l, a.1 ∈ lKey ∧ a.2 ∈ lVal) ∧ Tp w' B bt ∧ Chg w w' (· = bt) := by
  refine calls_zc (n := 33) (f := 59) (fn := Try.f59) Try.func59 rfl rfl (by simp) ?_
  refine zc_seq ?_
  refine zc_region ?_
  refine z_alloc (by first | exact want_none | exact want_L rfl) (by decide) (fun w1 b1 hN1 => ?_)
  have hb1 : Blk w1 b1 38 [.string ⟨#[]⟩, nS, .string ⟨#[]⟩, nS, nS] := hN1.blk
  have hT1 := hT0.no hN1.chg
  refine zl_nil ?_
  refine zk_seq ?_
  refine zc_seq ?_
  refine zc_drawI 15 (GI bt w1.heap.size) (fun u => Tp u B bt ∧ Chg w1 u (· = bt)) [(0, .pointer (some ⟨bt, 0, none⟩)), (2, .pointer (some ⟨b1, 0, none⟩))] (by rfl) (by kernel_rfl) (by kernel_rfl) ⟨rfl, rfl, trivial⟩ (fun u hu _ => ⟨hT1.no hu, hu.mono (fun _ _ h => h.elim)⟩) ?_ (by decide) (fun _ => ⟨by kernel_rfl, by kernel_rfl⟩) ?_
  · intro i hi a u hL
    obtain ⟨hok, ⟨hT, hC⟩, hd⟩ := hL
    have hsz := hC.size
    match i, hi with
    | 0, _ => exact ⟨4, rfl, wo_run rfl (by first | exact want_none | exact want_L rfl) rfl hok (run_bsE (strs lAlt) rfl (by decide) (by decide) (by kernel_rfl)) ⟨_, rfl, ⟨_, rfl, (New.mk' u 9 (strs lAlt)).blk⟩, ⟨hT.no (New.mk' u 9 (strs lAlt)).chg, hC.no (New.mk' u 9 (strs lAlt)).chg⟩, GI.keep (keepN (New.mk' u 9 (strs lAlt)).chg)⟩⟩
    | 1, _ => exact ⟨5, rfl, wo_pure rfl hok rfl ⟨_, rfl, rfl, ⟨hT, hC⟩, fun _ _ h => h⟩⟩
    | 2, _ =>
      obtain ⟨v1, h1, rfl⟩ := hd 1 (by kernel_rfl) _ rfl
      refine ⟨6, rfl, wo_call rfl (by first | exact want_none | exact want_L rfl) rfl (hok.cons h1) rfl (next_calls hT 3 (by decide) (by decide) rfl) ?_⟩
      rintro _ u' ⟨⟨k, hk, rfl⟩, hT', hC'⟩
      exact ⟨_, rfl, _, rfl, ⟨k, hk, rfl⟩, ⟨hT', hC.trans hC' (fun _ _ h => h)⟩, GI.keep (keepT hT hC')⟩
    | 3, _ =>
      obtain ⟨v0, h0, b, rfl, hb⟩ := hd 0 (by kernel_rfl) _ rfl
      obtain ⟨v2, h2, k, hk, rfl⟩ := hd 2 (by kernel_rfl) _ rfl
      exact ⟨7, rfl, wo_run rfl (by first | exact want_none | exact want_L rfl) rfl ((hok.cons h0).cons h2) (r_ia rfl rfl (by omega) (by omega)) ⟨_, rfl, ⟨b, k, hk, by simp, hb⟩, ⟨hT, hC⟩, fun _ _ h => h⟩⟩
    | 4, _ =>
      obtain ⟨v3, h3, b, k, hk, rfl, hb⟩ := hd 3 (by kernel_rfl) _ rfl
      exact ⟨8, rfl, wo_run rfl (by first | exact want_none | exact want_L rfl) rfl (hok.cons h3) (r_load1 rfl ((hb.cell k).trans (strs_get lAlt k hk))) ⟨_, rfl, ⟨_, getD_mem lAlt k hk, rfl⟩, ⟨hT, hC⟩, fun _ _ h => h⟩⟩
    | 5, _ =>
      obtain ⟨v4, h4, s, hs, rfl⟩ := hd 4 (by kernel_rfl) _ rfl
      exact ⟨9, rfl, wo_run rfl (by first | exact want_none | exact want_L rfl) rfl (hok.cons h4) (r_build' (cells := #[.string (bs kAlt), .string (bs s)]) rfl (by kernel_rfl)) ⟨_, rfl, ⟨s, hs, rfl⟩, ⟨hT, hC⟩, fun _ _ h => h⟩⟩
    | 6, _ => exact ⟨10, rfl, wo_run rfl (by first | exact want_none | exact want_L rfl) rfl hok (run_bsE (strs lSrc) rfl (by decide) (by decide) (by kernel_rfl)) ⟨_, rfl, ⟨_, rfl, (New.mk' u 9 (strs lSrc)).blk⟩, ⟨hT.no (New.mk' u 9 (strs lSrc)).chg, hC.no (New.mk' u 9 (strs lSrc)).chg⟩, GI.keep (keepN (New.mk' u 9 (strs lSrc)).chg)⟩⟩
    | 7, _ => exact ⟨11, rfl, wo_pure rfl hok rfl ⟨_, rfl, rfl, ⟨hT, hC⟩, fun _ _ h => h⟩⟩
    | 8, _ =>
      obtain ⟨v1, h1, rfl⟩ := hd 7 (by kernel_rfl) _ rfl
      refine ⟨12, rfl, wo_call rfl (by first | exact want_none | exact want_L rfl) rfl (hok.cons h1) rfl (next_calls hT 3 (by decide) (by decide) rfl) ?_⟩
      rintro _ u' ⟨⟨k, hk, rfl⟩, hT', hC'⟩
      exact ⟨_, rfl, _, rfl, ⟨k, hk, rfl⟩, ⟨hT', hC.trans hC' (fun _ _ h => h)⟩, GI.keep (keepT hT hC')⟩
    | 9, _ =>
      obtain ⟨v0, h0, b, rfl, hb⟩ := hd 6 (by kernel_rfl) _ rfl
      obtain ⟨v2, h2, k, hk, rfl⟩ := hd 8 (by kernel_rfl) _ rfl
      exact ⟨13, rfl, wo_run rfl (by first | exact want_none | exact want_L rfl) rfl ((hok.cons h0).cons h2) (r_ia rfl rfl (by omega) (by omega)) ⟨_, rfl, ⟨b, k, hk, by simp, hb⟩, ⟨hT, hC⟩, fun _ _ h => h⟩⟩
    | 10, _ =>
      obtain ⟨v3, h3, b, k, hk, rfl, hb⟩ := hd 9 (by kernel_rfl) _ rfl
      exact ⟨14, rfl, wo_run rfl (by first | exact want_none | exact want_L rfl) rfl (hok.cons h3) (r_load1 rfl ((hb.cell k).trans (strs_get lSrc k hk))) ⟨_, rfl, ⟨_, getD_mem lSrc k hk, rfl⟩, ⟨hT, hC⟩, fun _ _ h => h⟩⟩
    | 11, _ =>
      obtain ⟨v4, h4, s, hs, rfl⟩ := hd 10 (by kernel_rfl) _ rfl
      exact ⟨15, rfl, wo_run rfl (by first | exact want_none | exact want_L rfl) rfl (hok.cons h4) (r_build' (cells := #[.string (bs kSrc), .string (bs s)]) rfl (by kernel_rfl)) ⟨_, rfl, ⟨s, hs, rfl⟩, ⟨hT, hC⟩, fun _ _ h => h⟩⟩
    | 12, _ =>
      obtain ⟨v5, h5, s, hs, rfl⟩ := hd 5 (by kernel_rfl) _ rfl
      obtain ⟨v11, h11, t, ht, rfl⟩ := hd 11 (by kernel_rfl) _ rfl
      exact ⟨16, rfl, wo_run rfl (by first | exact want_none | exact want_L rfl) rfl ((hok.cons h5).cons h11) (run_bsE (encA [(kAlt, s), (kSrc, t)]) rfl (by decide) (by decide) (by kernel_rfl)) ⟨_, rfl, ⟨_, s, hs, t, ht, rfl, (New.mk' u 33 (encA [(kAlt, s), (kSrc, t)])).blk, hsz⟩, ⟨hT.no (New.mk' u 33 (encA [(kAlt, s), (kSrc, t)])).chg, hC.no (New.mk' u 33 (encA [(kAlt, s), (kSrc, t)])).chg⟩, GI.keep (keepN (New.mk' u 33 (encA [(kAlt, s), (kSrc, t)])).chg)⟩⟩
    | 13, _ =>
      obtain ⟨v12, h12, b, s, hs, t, ht, rfl, hb, hW⟩ := hd 12 (by kernel_rfl) _ rfl
      exact ⟨17, rfl, wo_run rfl (by first | exact want_none | exact want_L rfl) rfl (hok.cons h12) (r_build' (cells := #[.string (bs nImg), .slice (some ⟨b, 0, none⟩) 2 2, .string (bs []), nS, nS]) rfl (by kernel_rfl)) ⟨_, rfl, ⟨b, s, hs, t, ht, rfl, hb, hW⟩, ⟨hT, hC⟩, fun _ _ h => h⟩⟩
    | 14, _ => exact ⟨3, rfl, wo_run rfl (by first | exact want_none | exact want_L rfl) rfl hok (fun a ha => by simp [execOp, Instr.alloc, ZP.i38.zero u, newVar, newRow]; rfl) ⟨_, rfl, ⟨_, rfl, hsz, (New.mk' u 38 [.string ⟨#[]⟩, nS, .string ⟨#[]⟩, nS, nS]).blk⟩, ⟨hT.no (New.mk' u 38 [.string ⟨#[]⟩, nS, .string ⟨#[]⟩, nS, nS]).chg, hC.no (New.mk' u 38 [.string ⟨#[]⟩, nS, .string ⟨#[]⟩, nS, nS]).chg⟩, GI.keep (keepN (New.mk' u 38 [.string ⟨#[]⟩, nS, .string ⟨#[]⟩, nS, nS]).chg)⟩⟩
  intro a u hL
  obtain ⟨hok, ⟨hT, hC⟩, hd⟩ := hL
  obtain ⟨v13, h13, ba, s, hs, t, ht, rfl, hba, hWa⟩ := hd 13 (by decide) _ rfl
  obtain ⟨v14, h14, b3, rfl, hW3, hb3⟩ := hd 14 (by decide) _ rfl
  rw [if_pos (by decide)]
  refine wo_store rfl (by first | exact want_none | exact want_L rfl) ((hok.cons h13).cons h14) rfl rfl (by rfl) hb3 (by decide) (by simp [Value.cells, Value.oneCell']) (fun u2 hU2 => ?_)
  have hb4 : Blk u2 b3 38 [.string (bs nImg), .slice (some ⟨ba, 0, none⟩) 2 2, .string (bs []), nS, nS] := hU2.blk
  have hT2 : Tp u2 B bt := hT.oth hU2.chg (fun he => by obtain ⟨cs, hb⟩ := hT.blk; exact hb.ne hb3 (by decide) he) (fun k _ hk => by have := hT1.ge; have := hT1.lt; omega)
  have hba2 := hba.chg hU2.chg (fun he => hba.ne hb3 (by decide) he)
  have hC2 : Chg w1 u2 (· = bt) := hC.trans hU2.chg (fun i hi he => by omega)
  have hA2 : AtS u2 (.slice (some ⟨ba, 0, none⟩) 2 2) [(kAlt, s), (kSrc, t)] := RdS.blk hba2 rfl (Nat.le_refl _) (encA_one _) 0 (fun j u hj => by rw [Nat.zero_add]; exact hj)
  have hb12 : Blk u2 b1 38 [.string ⟨#[]⟩, nS, .string ⟨#[]⟩, nS, nS] := hb1.chg hC2 (fun he => by obtain ⟨cs, hb⟩ := hT1.blk; exact hb1.ne hb (by decide) he)
  refine np_zk (e := [(3, .pointer (some ⟨b3, 0, none⟩)), (0, .pointer (some ⟨bt, 0, none⟩)), (2, .pointer (some ⟨b1, 0, none⟩))]) ?_ (hok.cons h14)
  have hka : kAlt ∈ lKey ∧ kSrc ∈ lKey ∧ kSet ∈ lKey := by decide
  have hva : ∀ x ∈ lAlt, x ∈ lVal := fun x hx => by unfold lVal; simp only [List.mem_append]; exact .inl (.inl (.inl (.inl hx)))
  have hvs : ∀ x ∈ lSrc, x ∈ lVal := fun x hx => by unfold lVal; simp only [List.mem_append]; exact .inl (.inl (.inl (.inr hx)))
  have hvt : ∀ x ∈ lSet, x ∈ lVal := fun x hx => by unfold lVal; simp only [List.mem_append]; exact .inl (.inl (.inr hx))
  have hAs : ∀ a ∈ [(kAlt, s), (kSrc, t)], a.1 ∈ lKey ∧ a.2 ∈ lVal := by
    intro a ha
    simp only [List.mem_cons, List.not_mem_nil, or_false] at ha
    rcases ha with rfl | rfl
    · exact ⟨hka.1, hva s hs⟩
    · exact ⟨hka.2.1, hvs t ht⟩
  refine zk_seq ?_
  iterate 2 (refine zc_seq ?_)
  refine zc_region ?_
  refine zl_pureL rfl ?_
  refine zl_call (by first | exact want_none | exact want_L rfl) rfl (by decide) rfl (next_calls hT2 3 (by decide) (by decide) rfl) ?_
  rintro _ u3 ⟨⟨k, hk, rfl⟩, hT3, hC3⟩
  refine ⟨_, rfl, ?_⟩
  have hb5 := keepT hT2 hC3 _ _ _ (by decide) hb4
  have hb13 := keepT hT2 hC3 _ _ _ (by decide) hb12
  have hA3 := AtS.tp hA2 hT2 hC3
  have hba3 := keepT hT2 hC3 _ _ _ (by decide) hba2
  have hC13 : Chg w1 u3 (· = bt) := hC2.trans hC3 (fun _ _ h => h)
  by_cases hk0 : k = 0
  · subst hk0
    have hl2 : lSet.length = 2 := rfl
    have hO3 : Own u3 33 2 (.slice (some ⟨ba, 0, none⟩) 2 2) 2 (encA [(kAlt, s), (kSrc, t)]) := Own.mk' (junk := []) rfl (Nat.le_refl _) (by decide) (by rw [List.append_nil]; exact hba3) rfl (encA_one _)
    refine z_cmpB (r := true) want_none (by decide) rfl rfl rfl (iff_of_true rfl (by omega)) ?_
    refine zl_nil ?_
    refine zk_seq ?_
    refine zc_true rfl ?_
    refine zc_draw [11] (fun w' => Blk w' b3 38 [.string (bs nImg), .slice (some ⟨ba, 0, none⟩) 2 2, .string (bs []), nS, nS]) (.take 0 (.take 1 (.take 3 (.all2 2 (.all1 4 (.take 5 (.all1 6 (.take 7 (.all1 8 (.all1 9 (.take 10 (.last 11)))))))) 4 (.all1 2 (.take 5 (.all1 6 (.take 7 (.all1 8 (.all1 9 (.take 10 (.last 11)))))))))))) (by rfl) (by kernel_rfl) (by kernel_rfl) (fun z1 hZ1 _ => ⟨?_, ?_⟩)
    · exact hb5.no hZ1
    have hTa := hT3.no hZ1
    have hba' := hb5.no hZ1
    have hOa := hO3.no hZ1
    have hCa : Chg w1 z1 (· = bt) := hC13.no hZ1
    refine zs_rdL rfl want_none rfl (by decide) (fun _ hS => r_fa rfl) ?_
    refine zs_rdL rfl want_none rfl (by decide) (fun _ hS => r_loadB rfl hS (by rfl)) ?_
    refine zs_take rfl (zt_pure rfl ?_)
    refine zs_two ?_ ?_
    · refine zo_bsE (strs lSet) rfl (by first | exact want_none | exact want_L rfl) (by decide) rfl (by decide) (by decide) (by kernel_rfl) (fun z3 c3 hM3 => ?_)
      have hbb := hba'.no hM3.chg
      refine ⟨hbb, ?_⟩
      skip
      refine zs_call rfl (by first | exact want_none | exact want_L rfl) rfl (by decide) rfl (next_calls (hTa.no hM3.chg) 2 (by decide) (by decide) rfl) ?_
      rintro _ z4 ⟨⟨kk, hkk, rfl⟩, hTz, hC4⟩
      have hTm := hTa.no hM3.chg
      have hbz := keepT hTm hC4 _ _ _ (by decide) hbb
      have hq := keepT hTm hC4 _ _ _ (by decide) hM3.blk
      have hOz : Own z4 33 2 (.slice (some ⟨ba, 0, none⟩) 2 2) 2 (encA [(kAlt, s), (kSrc, t)]) := (hOa.no hM3.chg).chg hC4 (fun k hk he => by obtain ⟨cs, hb⟩ := hTm.blk; exact (hOa.no hM3.chg).ne hk hb (by decide) he)
      have hCz : Chg w1 z4 (· = bt) := (hCa.no hM3.chg).trans hC4 (fun _ _ h => h)
      refine ⟨_, rfl, hbz, ?_⟩
      refine zs_rdL rfl want_none rfl (by decide) (fun _ hS => r_ia rfl rfl (by omega) (by omega)) ?_
      refine zs_run rfl (by first | exact want_none | exact want_L rfl) rfl (by decide) (r_load1 rfl (cell_at ((hq.cell kk).trans (strs_get lSet kk hkk)) (by omega))) hbz ?_
      skip
      refine zs_rdL rfl (by first | exact want_none | exact want_L rfl) rfl (by decide) (fun _ hS => r_build' (cells := #[.string (bs kSet), .string (bs (lSet.getD kk []))]) rfl (by kernel_rfl)) ?_
      skip
      refine zs_bs1 rfl (by first | exact want_none | exact want_L rfl) (by decide) rfl (by rfl) (by rfl) (by decide) (by decide) (fun z5 c5 hM5 => ?_)
      have hb55 := hbz.no hM5.chg
      refine ⟨hb55, ?_⟩
      have hT5 := hTz.no hM5.chg
      have hO5 := hOz.no hM5.chg
      have hr5 : RdS z5 33 2 (.slice (some ⟨c5, 0, none⟩) 1 1) 1 (encA [(kSet, lSet.getD kk [])]) := RdS.new hM5 rfl (encA_one _)
      skip
      refine zs_appendO rfl (by rfl) (by decide) (by first | exact want_none | exact want_L rfl) (by decide) rfl rfl hO5 hr5 (by decide) (by decide) (fun v6 z6 hO6 hC6 hr6 => ?_)
      have hb66 := hb55.chg hC6 (fun he => hO5.ne he hb55 (by decide) rfl)
      have hT6 : Tp z6 B bt := hT5.oth hC6 (fun he => by obtain ⟨cs, hb⟩ := hT5.blk; exact hO5.ne he hb (by decide) rfl) (fun k _ hk => by simp only [Value.ownBlock, Option.some.injEq] at hk; have := hT1.ge; have := hT1.lt; omega)
      refine ⟨hb66, ?_⟩
      obtain ⟨A6, c6, rfl, hc6⟩ := hO6.rd.form
      refine zs_rdL rfl want_none rfl (by decide) (fun _ hS => r_fa rfl) ?_
      refine zs_storeL rfl (by first | exact want_none | exact want_L rfl) rfl rfl rfl (by assumption) (by first | exact Nat.le_refl _ | simp [Value.cells]) (by simp [Value.cells, Value.oneCell']) (fun z7 hU7 => ?_)
      have hb7 : Blk z7 b3 38 [.string (bs nImg), .slice A6 3 c6, .string (bs []), nS, nS] := hU7.blk
      have hT7 : Tp z7 B bt := hT6.oth hU7.chg (fun he => by obtain ⟨cs, hb⟩ := hT6.blk; exact hb.ne hb66 (by decide) he) (fun k _ hk => by have := hT1.ge; have := hT1.lt; omega)
      have hA7 : AtS z7 (.slice A6 3 c6) [(kAlt, s), (kSrc, t), (kSet, lSet.getD kk [])] := RdS.chg hO6.rd hU7.chg (fun b cells hb he => hb.ne hb66 (by decide) he)
      have hC7 : Chg w1 z7 (· = bt) := ((hCz.no hM5.chg).trans hC6 (fun k hk he => by simp only [Value.ownBlock, Option.some.injEq] at he; omega)).trans hU7.chg (fun k hk he => by omega)
      have hb17 : Blk z7 b1 38 [.string ⟨#[]⟩, nS, .string ⟨#[]⟩, nS, nS] := hb1.chg hC7 (fun he => by obtain ⟨cs, hb⟩ := hT1.blk; exact hb1.ne hb (by decide) he)
      refine zk_seq ?_
      refine zc_seq ?_
      refine zc_region ?_
      refine z_loadAB want_none (by decide) rfl (by assumption) (by rfl) ?_
      refine z_store (by first | exact want_none | exact want_L rfl) rfl rfl rfl (by assumption) (by first | exact Nat.le_refl _ | simp [Value.cells]) (by simp [Value.cells, Value.oneCell']) (fun z8 hU8 => ?_)
      have hb8 : Blk z8 b1 38 [.string (bs nImg), .slice A6 3 c6, .string (bs []), nS, nS] := hU8.blk
      refine zl_nil ?_
      refine zk_seq ?_
      refine zc_ret ?_
      refine zk_retC (.inr rfl) rfl rfl hb8 rfl ⟨_, [(kAlt, s), (kSrc, t), (kSet, lSet.getD kk [])], rfl, RdS.chg hA7 hU8.chg (fun b cells hb he => hb.ne hb17 (by decide) he), by simp, ?_, ?_, ?_⟩
      · intro a ha
        simp only [List.mem_cons, List.not_mem_nil, or_false] at ha
        rcases ha with rfl | rfl | rfl
        · exact ⟨hka.1, hva s hs⟩
        · exact ⟨hka.2.1, hvs t ht⟩
        · exact ⟨hka.2.2, hvt _ (getD_mem lSet kk hkk)⟩
      · exact hT7.oth hU8.chg (fun he => by obtain ⟨cs, hb⟩ := hT7.blk; exact hb.ne hb17 (by decide) he) (fun k _ hk => by have := hT0.ge; have := hT0.lt; have := hN1.at_; omega)
      · exact ((hN1.chg.mono (S' := (· = bt)) (fun _ _ h => h.elim)).trans hC7 (fun _ _ h => h)).trans hU8.chg (fun k hk he => by have := hN1.at_; omega)
    · refine zo_call rfl (by first | exact want_none | exact want_L rfl) rfl (by decide) rfl (next_calls hTa 2 (by decide) (by decide) rfl) ?_
      rintro _ z3 ⟨⟨kk, hkk, rfl⟩, hTb, hC4⟩
      have hbb := keepT hTa hC4 _ _ _ (by decide) hba'
      refine ⟨_, rfl, hbb, ?_⟩
      skip
      refine zs_bsE (strs lSet) rfl (by first | exact want_none | exact want_L rfl) (by decide) rfl (by decide) (by decide) (by kernel_rfl) (fun z4 c3 hM3 => ?_)
      have hbz := hbb.no hM3.chg
      refine ⟨hbz, ?_⟩
      have hTz := hTb.no hM3.chg
      have hq : Blk z4 c3 9 (strs lSet) := hM3.blk
      have hOz : Own z4 33 2 (.slice (some ⟨ba, 0, none⟩) 2 2) 2 (encA [(kAlt, s), (kSrc, t)]) := (hOa.chg hC4 (fun k hk he => by obtain ⟨cs, hb⟩ := hTa.blk; exact hOa.ne hk hb (by decide) he)).no hM3.chg
      have hCz : Chg w1 z4 (· = bt) := (hCa.trans hC4 (fun _ _ h => h)).no hM3.chg
      refine zs_rdL rfl want_none rfl (by decide) (fun _ hS => r_ia rfl rfl (by omega) (by omega)) ?_
      refine zs_run rfl (by first | exact want_none | exact want_L rfl) rfl (by decide) (r_load1 rfl (cell_at ((hq.cell kk).trans (strs_get lSet kk hkk)) (by omega))) hbz ?_
      skip
      refine zs_rdL rfl (by first | exact want_none | exact want_L rfl) rfl (by decide) (fun _ hS => r_build' (cells := #[.string (bs kSet), .string (bs (lSet.getD kk []))]) rfl (by kernel_rfl)) ?_
      skip
      refine zs_bs1 rfl (by first | exact want_none | exact want_L rfl) (by decide) rfl (by rfl) (by rfl) (by decide) (by decide) (fun z5 c5 hM5 => ?_)
      have hb55 := hbz.no hM5.chg
      refine ⟨hb55, ?_⟩
      have hT5 := hTz.no hM5.chg
      have hO5 := hOz.no hM5.chg
      have hr5 : RdS z5 33 2 (.slice (some ⟨c5, 0, none⟩) 1 1) 1 (encA [(kSet, lSet.getD kk [])]) := RdS.new hM5 rfl (encA_one _)
      skip
      refine zs_appendO rfl (by rfl) (by decide) (by first | exact want_none | exact want_L rfl) (by decide) rfl rfl hO5 hr5 (by decide) (by decide) (fun v6 z6 hO6 hC6 hr6 => ?_)
      have hb66 := hb55.chg hC6 (fun he => hO5.ne he hb55 (by decide) rfl)
      have hT6 : Tp z6 B bt := hT5.oth hC6 (fun he => by obtain ⟨cs, hb⟩ := hT5.blk; exact hO5.ne he hb (by decide) rfl) (fun k _ hk => by simp only [Value.ownBlock, Option.some.injEq] at hk; have := hT1.ge; have := hT1.lt; omega)
      refine ⟨hb66, ?_⟩
      obtain ⟨A6, c6, rfl, hc6⟩ := hO6.rd.form
      refine zs_rdL rfl want_none rfl (by decide) (fun _ hS => r_fa rfl) ?_
      refine zs_storeL rfl (by first | exact want_none | exact want_L rfl) rfl rfl rfl (by assumption) (by first | exact Nat.le_refl _ | simp [Value.cells]) (by simp [Value.cells, Value.oneCell']) (fun z7 hU7 => ?_)
      have hb7 : Blk z7 b3 38 [.string (bs nImg), .slice A6 3 c6, .string (bs []), nS, nS] := hU7.blk
      have hT7 : Tp z7 B bt := hT6.oth hU7.chg (fun he => by obtain ⟨cs, hb⟩ := hT6.blk; exact hb.ne hb66 (by decide) he) (fun k _ hk => by have := hT1.ge; have := hT1.lt; omega)
      have hA7 : AtS z7 (.slice A6 3 c6) [(kAlt, s), (kSrc, t), (kSet, lSet.getD kk [])] := RdS.chg hO6.rd hU7.chg (fun b cells hb he => hb.ne hb66 (by decide) he)
      have hC7 : Chg w1 z7 (· = bt) := ((hCz.no hM5.chg).trans hC6 (fun k hk he => by simp only [Value.ownBlock, Option.some.injEq] at he; omega)).trans hU7.chg (fun k hk he => by omega)
      have hb17 : Blk z7 b1 38 [.string ⟨#[]⟩, nS, .string ⟨#[]⟩, nS, nS] := hb1.chg hC7 (fun he => by obtain ⟨cs, hb⟩ := hT1.blk; exact hb1.ne hb (by decide) he)
      refine zk_seq ?_
      refine zc_seq ?_
      refine zc_region ?_
      refine z_loadAB want_none (by decide) rfl (by assumption) (by rfl) ?_
      refine z_store (by first | exact want_none | exact want_L rfl) rfl rfl rfl (by assumption) (by first | exact Nat.le_refl _ | simp [Value.cells]) (by simp [Value.cells, Value.oneCell']) (fun z8 hU8 => ?_)
      have hb8 : Blk z8 b1 38 [.string (bs nImg), .slice A6 3 c6, .string (bs []), nS, nS] := hU8.blk
      refine zl_nil ?_
      refine zk_seq ?_
      refine zc_ret ?_
      refine zk_retC (.inr rfl) rfl rfl hb8 rfl ⟨_, [(kAlt, s), (kSrc, t), (kSet, lSet.getD kk [])], rfl, RdS.chg hA7 hU8.chg (fun b cells hb he => hb.ne hb17 (by decide) he), by simp, ?_, ?_, ?_⟩
      · intro a ha
        simp only [List.mem_cons, List.not_mem_nil, or_false] at ha
        rcases ha with rfl | rfl | rfl
        · exact ⟨hka.1, hva s hs⟩
        · exact ⟨hka.2.1, hvs t ht⟩
        · exact ⟨hka.2.2, hvt _ (getD_mem lSet kk hkk)⟩
      · exact hT7.oth hU8.chg (fun he => by obtain ⟨cs, hb⟩ := hT7.blk; exact hb.ne hb17 (by decide) he) (fun k _ hk => by have := hT0.ge; have := hT0.lt; have := hN1.at_; omega)
      · exact ((hN1.chg.mono (S' := (· = bt)) (fun _ _ h => h.elim)).trans hC7 (fun _ _ h => h)).trans hU8.chg (fun k hk he => by have := hN1.at_; omega)
  · refine z_cmpB (r := false) want_none (by decide) rfl rfl rfl (iff_of_false Bool.false_ne_true (by omega)) ?_
    refine zl_nil ?_
    refine zk_seq ?_
    refine zc_false rfl ?_
    refine zc_skip ?_
    refine zk_seq ?_
    refine zc_seq ?_
    refine zc_region ?_
    refine z_loadAB want_none (by decide) rfl (by assumption) (by rfl) ?_
    refine z_store (by first | exact want_none | exact want_L rfl) rfl rfl rfl (by assumption) (by first | exact Nat.le_refl _ | simp [Value.cells]) (by simp [Value.cells, Value.oneCell']) (fun u4 hU4 => ?_)
    have hb8 : Blk u4 b1 38 [.string (bs nImg), .slice (some ⟨ba, 0, none⟩) 2 2, .string (bs []), nS, nS] := hU4.blk
    refine zl_nil ?_
    refine zk_seq ?_
    refine zc_ret ?_
    refine zk_retC (.inr rfl) rfl rfl hb8 rfl ⟨_, [(kAlt, s), (kSrc, t)], rfl, RdS.chg hA3 hU4.chg (fun b cells hb he => hb.ne hb13 (by decide) he), by simp, hAs, ?_, ?_⟩
    · exact hT3.oth hU4.chg (fun he => by obtain ⟨cs, hb⟩ := hT3.blk; exact hb.ne hb13 (by decide) he) (fun k _ hk => by have := hT0.ge; have := hT0.lt; have := hN1.at_; omega)
    · exact ((hN1.chg.mono (S' := (· = bt)) (fun _ _ h => h.elim)).trans hC13 (fun _ _ h => h)).trans hU4.chg (fun k hk he => by have := hN1.at_; omega)
end Go.Proofs.Ytbcmiijollpgeaa.T
