import Derived.Test.YtbcmiijollpgeaaGreatYF
set_option maxHeartbeats 32000000
set_option maxRecDepth 100000
namespace Go.Proofs.YtbcmiijollpgeaaGreat.D
open Go Go.Z Go.Proofs
theorem fld71 (w : World) (c0 c1 c2 c3 c4 c5 c6 : Value) : (Instr.field 80 (.agg #[c0, c1, c2, c3, c4, c5, c6]) 1).run Tryz.prog w = .ok c1 w := by kernel_rfl
section
variable {w w' w0 w1 w2 : World} {b t : Nat} {q q' q1 : SQ} {N N' : List ND} {n m k : Nat} {R R' : List Nat} {f g : FE} {fr fr' : List FE} {sk sk' : Bool} {x : Value} {e : Ending}
theorem bstate_calls (h : IsB w b t q N (n :: R) (f :: fr) sk) (hf : fr.length ≤ 900) : Calls Tryz.prog 24 [.pointer (some ⟨b, 0, none⟩)].toArray w fun e w' => e = .returned (.int .i64 0) ∧ Chg w w' No := by
 have hb0 := h.blk
 have hb := hb0
 have hbt0 := h.st.site.blk
 have hnN : n < N.length := h.st.zf.lt n (by simp)
 have hd : hdOf (N.getD n n0) = elemH f.nm f.al := h.st.zf.1
 have hx : nodeOf N (n : Nat) = N.getD n n0 := if_pos ⟨by omega, by omega⟩
 have k2 : (nodeOf N (n : Nat)).space = 1 := by rw [hx]; exact congrArg Hd.space hd
 refine zCz 27 Tryz.func24 ?_
 refine zS (zR (zP rfl (zN (zK (zS (zS (zR (zP rfl (zP rfl (zfa rfl (zlB rfl ?_)))))))))))
 refine zCF rfl rfl rfl (zN (zK (zF rfl (zA (zK (zS (zS ?_)))))))
 refine zc_draw [] (fun w' => Chg w w' No ∧ Blk w' b 64 [.pointer (some ⟨t, 0, none⟩), .int .i64 0, .string ⟨#[]⟩, .bool sk] ∧ Blk w' t 74 [.pointer (some ⟨q.r.pd, 0, none⟩), .pointer (some ⟨q.r.pm, 0, none⟩), q.r.vrow, .bool false]) (.take 0 (.take 1 (.take 2 (.take 3 (.take 4 (.take 5 (.take 6 (.take 7 (.take 8 (.take 9 (.take 10 (.all1 11 (.all1 12 (.take 13 (.take 14 (.fin)))))))))))))))) (by rfl) (by kernel_rfl) (by kernel_rfl) (fun w1 hC1 _ => ⟨?_, ?_⟩)
 ·exact ⟨hC1, hb0.no hC1, hbt0.no hC1⟩
 have C := hC1
 refine ztP rfl rfl (ztP rfl rfl (zRd rfl rfl (fun _ hS => r_fa rfl) ?_))
 refine zRd rfl rfl (fun _ hS => r_loadB rfl hS.2.1 (by rfl)) ?_
 refine ztP rfl rfl (zRd rfl rfl (fun _ hS => r_fa rfl) ?_)
 refine zRd rfl rfl (fun _ hS => r_loadB rfl hS.2.2 (by rfl)) ?_
 refine ztP rfl rfl (ztP rfl rfl (zRd rfl rfl (fun _ hS => r_fa rfl) ?_))
 refine zRd rfl rfl (fun _ hS => r_loadB rfl hS.2.1 (by rfl)) ?_
 refine zs_call rfl (want_L rfl) rfl (by decide) rfl (sTop_calls (h.no C).st (by simp only [List.length_cons]; omega)) ?_
 rintro _ w2 ⟨rfl, hC⟩
 have C := C.no hC
 refine ⟨_, rfl, ⟨C, hb0.no C, hbt0.no C⟩, ?_⟩
 refine zs_call rfl (want_L rfl) rfl (by decide) rfl (rNode_calls (h.no C).st.site.doc (n : Nat)) ?_
 rintro _ w5 ⟨va5, rfl, hA5, hC5⟩
 have C := C.no hC5
 refine ⟨_, rfl, ⟨C, hb0.no C, hbt0.no C⟩, ?_⟩
 rw [k2]
 refine zRd rfl rfl (fun _ hS => r_field rfl (fld71 _ _ _ _ _ _ _ _)) ?_
 refine zRd rfl rfl (fun _ hS => r_cmpB (r := false) rfl rfl rfl (iff_of_false Bool.false_ne_true (by omega))) ?_
 refine zs_fin ?_
 refine zK (zF rfl (zA (zK (zS (zR (zP rfl (zN (zK (zE ?_)))))))))
 exact zk_ret1 (.inr rfl) rfl rfl ⟨rfl, C⟩
-- TAKE (printed by ggen5.py)
theorem take_tag (h : IsB w b t q N (n :: R) (f :: fr) sk) (hf : fr.length ≤ 900) (k : Int) (hk : k = 1 ∨ k = 2) (nm tx : List UInt8) {va : Value} {al : List At} (ha : AttrS w va al) {fr2 : List FE} {sk2 : Bool} {n2 : Nat}
  (hhtml : ∀ w', IsB w' b t q N (n :: R) (f :: fr) false → AttrS w' va al → Calls Tryz.prog 54 [.pointer (some ⟨b, 0, none⟩), T.tokV k nm va tx].toArray w' (BPost w' b t q fr2 sk2 n2 (.tuple #[]))) :
  Calls Tryz.prog 25 [.pointer (some ⟨b, 0, none⟩), T.tokV k nm va tx].toArray w (BPost w b t q fr2 sk2 n2 (.tuple #[])) := by
 obtain ⟨A0, c0, rfl, _⟩ := ha.form
 have hnN : n < N.length := h.st.zf.lt n (by simp)
 have hd : hdOf (N.getD n n0) = elemH f.nm f.al := h.st.zf.1
 have hx : nodeOf N (n : Nat) = N.getD n n0 := if_pos ⟨by omega, by omega⟩
 have k2 : (nodeOf N (n : Nat)).space = 1 := by rw [hx]; exact congrArg Hd.space hd
 unfold T.tokV at hhtml ⊢
 refine zCz 119 Tryz.func25 ?_
 refine zS (zR ?_)
 refine zBx rfl (fun w1 b3 hN1 => ?_)
 have hb30 : Blk w1 b3 66 [.int .i64 k, .string (bs nm), .slice A0 al.length c0, .bool false, .string (bs tx)] := hN1.blk
 have h1 := h.no hN1.chg
 have hb := h1.blk
 refine zN (zK (zS (zR (zP rfl (zP rfl (zfa rfl (zlB rfl ?_)))))))
 refine zP rfl (zN (zK (zS (zR (zP rfl (zP rfl (zfa rfl ?_)))))))
 refine z_store (want_L rfl) rfl rfl rfl (by assumption) (by first | exact Nat.le_refl _ | simp [Value.cells]) (by simp [Value.cells, Value.oneCell']) (fun w2 hU2 => ?_)
 obtain ⟨h2, hW2⟩ := h1.skW hU2
 have hb2 := h2.blk
 have hkp := WrB.keep h1 hW2
 have hb32 := hkp.2 _ _ _ hb30 (by decide)
 have ha2 := (ha.no hN1.chg).keepB hkp
 have hbt2 := h2.st.site.blk
 have fin : ∀ {w3 : World} {x : Ending} {w4 : World}, Chg w2 w3 No → BPost w3 b t q fr2 sk2 n2 (.tuple #[]) x w4 → BPost w b t q fr2 sk2 n2 (.tuple #[]) x w4 := fun hC hp => BPost.preW ((WrB.of_no hN1.chg _ _ _).trans (hW2.trans (WrB.of_no hC _ _ _))) hp
 cases sk
 ·skip
  refine zN (zK (zS (zS (zR (zP rfl (zP rfl (zJ rfl (zJ rfl (zJ rfl (zP rfl (zP rfl (zJ rfl (zJ rfl (zJ rfl (zP rfl (zN (zK (zF rfl (zA (zK (zB (zS (zR (zP rfl (zP rfl (zfa rfl (zlB rfl ?_)))))))))))))))))))))))))))
  refine zCF rfl rfl rfl (zP rfl (zJ rfl (zJ rfl (zJ rfl (zP rfl (zP rfl (zN (zK (zF rfl (zS (zR (zP rfl (zP rfl (zfa rfl (zlB rfl ?_)))))))))))))))
  refine zCF rfl rfl rfl (zP rfl (zN (zK (zF rfl (zS (zR (zfa rfl (zlB rfl ?_))))))))
  refine zCF rfl rfl rfl (zP rfl (zN (zK (zF rfl (zS ?_)))))
  refine zc_draw [] (fun w' => Chg w2 w' No ∧ Blk w' b 64 [.pointer (some ⟨t, 0, none⟩), .int .i64 0, .string ⟨#[]⟩, .bool false] ∧ Blk w' t 74 [.pointer (some ⟨q.r.pd, 0, none⟩), .pointer (some ⟨q.r.pm, 0, none⟩), q.r.vrow, .bool false] ∧ Blk w' b3 66 [.int .i64 k, .string (bs nm), .slice A0 al.length c0, .bool false, .string (bs tx)]) (.take 0 (.take 1 (.take 2 (.take 3 (.take 4 (.take 5 (.take 6 (.take 7 (.take 8 (.take 9 (.take 10 (.all1 11 (.all1 12 (.take 13 (.take 14 (.take 15 (.take 16 (.take 17 (.take 18 (.take 19 (.take 20 (.take 22 (.all1 21 (.all1 23 (.take 24 (.take 25 (.take 26 (.fin)))))))))))))))))))))))))))) (by rfl) (by kernel_rfl) (by kernel_rfl) (fun w3 hC3 _ => ⟨?_, ?_⟩)
  ·exact ⟨hC3, hb2.no hC3, hbt2.no hC3, hb32.no hC3⟩
  have C := hC3
  refine ztP rfl rfl (ztP rfl rfl (zRd rfl rfl (fun _ hS => r_fa rfl) ?_))
  refine zRd rfl rfl (fun _ hS => r_loadB rfl hS.2.1 (by rfl)) ?_
  refine ztP rfl rfl (zRd rfl rfl (fun _ hS => r_fa rfl) ?_)
  refine zRd rfl rfl (fun _ hS => r_loadB rfl hS.2.2.1 (by rfl)) ?_
  refine ztP rfl rfl (ztP rfl rfl (zRd rfl rfl (fun _ hS => r_fa rfl) ?_))
  refine zRd rfl rfl (fun _ hS => r_loadB rfl hS.2.1 (by rfl)) ?_
  refine zs_call rfl (want_L rfl) rfl (by decide) rfl (sTop_calls (h2.no C).st (by simp only [List.length_cons]; omega)) ?_
  rintro _ w4 ⟨rfl, hC⟩
  have C := C.no hC
  refine ⟨_, rfl, ⟨C, hb2.no C, hbt2.no C, hb32.no C⟩, ?_⟩
  refine zs_call rfl (want_L rfl) rfl (by decide) rfl (rNode_calls (h2.no C).st.site.doc (n : Nat)) ?_
  rintro _ w5 ⟨va5, rfl, hA5, hC5⟩
  have C := C.no hC5
  have hb3' := hb32.no C
  refine ⟨_, rfl, ⟨C, hb2.no C, hbt2.no C, hb32.no C⟩, ?_⟩
  rw [k2]
  refine zRd rfl rfl (fun _ hS => r_field rfl (fld71 _ _ _ _ _ _ _ _)) ?_
  refine zRd rfl rfl (fun _ hS => r_cmpB (r := false) rfl rfl rfl (iff_of_false Bool.false_ne_true (by omega))) ?_
  refine ztP rfl rfl (ztP rfl rfl (ztP rfl rfl (ztP rfl rfl ?_)))
  iterate 3 (refine zs_take rfl (zt_skip rfl ?_))
  iterate 2 (refine zs_alone rfl (za_skip rfl ?_))
  refine ztP rfl rfl (ztP rfl rfl (ztP rfl rfl ?_))
  refine zs_fin ?_
  refine zK (zF rfl (zR (zP rfl (zlA rfl ?_))))
  refine zCl rfl (hhtml _ (h2.no C) (ha2.no C)) ?_
  rintro _ w6 hp
  obtain rfl := hp.1
  refine ⟨_, rfl, ?_⟩
  refine zN (zM ?_)
  exact zk_ret0 (.inl rfl) rfl (fin C hp)
 ·skip
  refine zN (zK (zS (zS (zR (zP rfl (zP rfl (zfa rfl (zlB rfl ?_))))))))
  refine zCF rfl rfl rfl (zP rfl (zP rfl (zJ rfl (zJ rfl (zJ rfl (zP rfl (zN (zK (zF rfl (zA (zK (zB (zS (zR (zP rfl (zP rfl (zfa rfl (zlB rfl ?_))))))))))))))))))
  refine zCF rfl rfl rfl (zP rfl (zJ rfl (zJ rfl (zJ rfl (zP rfl (zP rfl (zN (zK (zF rfl (zS (zR (zP rfl (zP rfl (zfa rfl (zlB rfl ?_)))))))))))))))
  refine zCF rfl rfl rfl (zP rfl (zN (zK (zF rfl (zS (zR (zfa rfl (zlB rfl ?_))))))))
  refine zCF rfl rfl rfl (zP rfl (zN (zK (zF rfl (zS ?_)))))
  refine zc_draw [] (fun w' => Chg w2 w' No ∧ Blk w' b 64 [.pointer (some ⟨t, 0, none⟩), .int .i64 0, .string ⟨#[]⟩, .bool false] ∧ Blk w' t 74 [.pointer (some ⟨q.r.pd, 0, none⟩), .pointer (some ⟨q.r.pm, 0, none⟩), q.r.vrow, .bool false] ∧ Blk w' b3 66 [.int .i64 k, .string (bs nm), .slice A0 al.length c0, .bool false, .string (bs tx)]) (.take 0 (.take 1 (.take 2 (.take 3 (.take 4 (.take 5 (.take 6 (.take 7 (.take 8 (.take 9 (.take 10 (.all1 11 (.all1 12 (.take 13 (.take 14 (.take 15 (.take 16 (.take 17 (.take 18 (.take 19 (.take 20 (.take 22 (.all1 21 (.all1 23 (.take 24 (.take 25 (.take 26 (.fin)))))))))))))))))))))))))))) (by rfl) (by kernel_rfl) (by kernel_rfl) (fun w3 hC3 _ => ⟨?_, ?_⟩)
  ·exact ⟨hC3, hb2.no hC3, hbt2.no hC3, hb32.no hC3⟩
  have C := hC3
  refine ztP rfl rfl (ztP rfl rfl (zRd rfl rfl (fun _ hS => r_fa rfl) ?_))
  refine zRd rfl rfl (fun _ hS => r_loadB rfl hS.2.1 (by rfl)) ?_
  refine ztP rfl rfl (zRd rfl rfl (fun _ hS => r_fa rfl) ?_)
  refine zRd rfl rfl (fun _ hS => r_loadB rfl hS.2.2.1 (by rfl)) ?_
  refine ztP rfl rfl (ztP rfl rfl (zRd rfl rfl (fun _ hS => r_fa rfl) ?_))
  refine zRd rfl rfl (fun _ hS => r_loadB rfl hS.2.1 (by rfl)) ?_
  refine zs_call rfl (want_L rfl) rfl (by decide) rfl (sTop_calls (h2.no C).st (by simp only [List.length_cons]; omega)) ?_
  rintro _ w4 ⟨rfl, hC⟩
  have C := C.no hC
  refine ⟨_, rfl, ⟨C, hb2.no C, hbt2.no C, hb32.no C⟩, ?_⟩
  refine zs_call rfl (want_L rfl) rfl (by decide) rfl (rNode_calls (h2.no C).st.site.doc (n : Nat)) ?_
  rintro _ w5 ⟨va5, rfl, hA5, hC5⟩
  have C := C.no hC5
  have hb3' := hb32.no C
  refine ⟨_, rfl, ⟨C, hb2.no C, hbt2.no C, hb32.no C⟩, ?_⟩
  rw [k2]
  refine zRd rfl rfl (fun _ hS => r_field rfl (fld71 _ _ _ _ _ _ _ _)) ?_
  refine zRd rfl rfl (fun _ hS => r_cmpB (r := false) rfl rfl rfl (iff_of_false Bool.false_ne_true (by omega))) ?_
  refine ztP rfl rfl (ztP rfl rfl (ztP rfl rfl (ztP rfl rfl ?_)))
  iterate 3 (refine zs_take rfl (zt_skip rfl ?_))
  iterate 2 (refine zs_alone rfl (za_skip rfl ?_))
  refine ztP rfl rfl (ztP rfl rfl (ztP rfl rfl ?_))
  refine zs_fin ?_
  refine zK (zF rfl (zR (zP rfl (zlA rfl ?_))))
  refine zCl rfl (hhtml _ (h2.no C) (ha2.no C)) ?_
  rintro _ w6 hp
  obtain rfl := hp.1
  refine ⟨_, rfl, ?_⟩
  refine zN (zM ?_)
  exact zk_ret0 (.inl rfl) rfl (fin C hp)
theorem take_text (h : IsB w b t q N (n :: R) (f :: fr) sk) (hf : fr.length ≤ 900) (v : List UInt8) (hv : v.length ≤ 10000000) (h10 : sk = true → T.beginsN v [10] = false) {fr2 : List FE} {sk2 : Bool} {n2 : Nat}
  (hhtml : ∀ w', IsB w' b t q N (n :: R) (f :: fr) false → AttrS w' T.nS [] → Calls Tryz.prog 54 [.pointer (some ⟨b, 0, none⟩), T.tokV 3 [] T.nS v].toArray w' (BPost w' b t q fr2 sk2 n2 (.tuple #[]))) :
  Calls Tryz.prog 25 [.pointer (some ⟨b, 0, none⟩), T.tokV 3 [] T.nS v].toArray w (BPost w b t q fr2 sk2 n2 (.tuple #[])) := by
 have hnN : n < N.length := h.st.zf.lt n (by simp)
 have hd : hdOf (N.getD n n0) = elemH f.nm f.al := h.st.zf.1
 have hx : nodeOf N (n : Nat) = N.getD n n0 := if_pos ⟨by omega, by omega⟩
 have k2 : (nodeOf N (n : Nat)).space = 1 := by rw [hx]; exact congrArg Hd.space hd
 unfold T.tokV at hhtml ⊢
 refine zCz 119 Tryz.func25 ?_
 refine zS (zR ?_)
 refine zBx rfl (fun w1 b3 hN1 => ?_)
 have hb30 : Blk w1 b3 66 [.int .i64 3, .string (bs []), .slice none 0 0, .bool false, .string (bs v)] := hN1.blk
 have h1 := h.no hN1.chg
 have hb := h1.blk
 refine zN (zK (zS (zR (zP rfl (zP rfl (zfa rfl (zlB rfl ?_)))))))
 refine zP rfl (zN (zK (zS (zR (zP rfl (zP rfl (zfa rfl ?_)))))))
 refine z_store (want_L rfl) rfl rfl rfl (by assumption) (by first | exact Nat.le_refl _ | simp [Value.cells]) (by simp [Value.cells, Value.oneCell']) (fun w2 hU2 => ?_)
 obtain ⟨h2, hW2⟩ := h1.skW hU2
 have hb2 := h2.blk
 have hkp := WrB.keep h1 hW2
 have hb32 := hkp.2 _ _ _ hb30 (by decide)
 have ha2 := AttrS.nS w2
 have hbt2 := h2.st.site.blk
 have fin : ∀ {w3 : World} {x : Ending} {w4 : World}, Chg w2 w3 No → BPost w3 b t q fr2 sk2 n2 (.tuple #[]) x w4 → BPost w b t q fr2 sk2 n2 (.tuple #[]) x w4 := fun hC hp => BPost.preW ((WrB.of_no hN1.chg _ _ _).trans (hW2.trans (WrB.of_no hC _ _ _))) hp
 cases sk
 ·skip
  refine zN (zK (zS (zS (zR (zP rfl (zP rfl (zJ rfl (zJ rfl (zJ rfl (zP rfl (zP rfl (zJ rfl (zJ rfl (zJ rfl (zP rfl (zN (zK (zF rfl (zA (zK (zB (zS (zR (zP rfl (zP rfl (zfa rfl (zlB rfl ?_)))))))))))))))))))))))))))
  refine zCF rfl rfl rfl (zP rfl (zJ rfl (zJ rfl (zJ rfl (zP rfl (zP rfl (zN (zK (zF rfl (zS (zR (zP rfl (zP rfl (zfa rfl (zlB rfl ?_)))))))))))))))
  refine zCF rfl rfl rfl (zP rfl (zN (zK (zF rfl (zS (zR (zfa rfl (zlB rfl ?_))))))))
  refine zCF rfl rfl rfl (zP rfl (zN (zK (zF rfl (zS ?_)))))
  refine zc_draw [] (fun w' => Chg w2 w' No ∧ Blk w' b 64 [.pointer (some ⟨t, 0, none⟩), .int .i64 0, .string ⟨#[]⟩, .bool false] ∧ Blk w' t 74 [.pointer (some ⟨q.r.pd, 0, none⟩), .pointer (some ⟨q.r.pm, 0, none⟩), q.r.vrow, .bool false] ∧ Blk w' b3 66 [.int .i64 3, .string (bs []), .slice none 0 0, .bool false, .string (bs v)]) (.take 0 (.take 1 (.take 2 (.take 3 (.take 4 (.take 5 (.take 6 (.take 7 (.take 8 (.take 9 (.take 10 (.all1 11 (.all1 12 (.take 13 (.take 14 (.take 15 (.take 16 (.take 17 (.take 18 (.take 19 (.take 20 (.take 22 (.all1 21 (.all1 23 (.take 24 (.take 25 (.take 26 (.fin)))))))))))))))))))))))))))) (by rfl) (by kernel_rfl) (by kernel_rfl) (fun w3 hC3 _ => ⟨?_, ?_⟩)
  ·exact ⟨hC3, hb2.no hC3, hbt2.no hC3, hb32.no hC3⟩
  have C := hC3
  refine ztP rfl rfl (ztP rfl rfl (zRd rfl rfl (fun _ hS => r_fa rfl) ?_))
  refine zRd rfl rfl (fun _ hS => r_loadB rfl hS.2.1 (by rfl)) ?_
  refine ztP rfl rfl (zRd rfl rfl (fun _ hS => r_fa rfl) ?_)
  refine zRd rfl rfl (fun _ hS => r_loadB rfl hS.2.2.1 (by rfl)) ?_
  refine ztP rfl rfl (ztP rfl rfl (zRd rfl rfl (fun _ hS => r_fa rfl) ?_))
  refine zRd rfl rfl (fun _ hS => r_loadB rfl hS.2.1 (by rfl)) ?_
  refine zs_call rfl (want_L rfl) rfl (by decide) rfl (sTop_calls (h2.no C).st (by simp only [List.length_cons]; omega)) ?_
  rintro _ w4 ⟨rfl, hC⟩
  have C := C.no hC
  refine ⟨_, rfl, ⟨C, hb2.no C, hbt2.no C, hb32.no C⟩, ?_⟩
  refine zs_call rfl (want_L rfl) rfl (by decide) rfl (rNode_calls (h2.no C).st.site.doc (n : Nat)) ?_
  rintro _ w5 ⟨va5, rfl, hA5, hC5⟩
  have C := C.no hC5
  have hb3' := hb32.no C
  refine ⟨_, rfl, ⟨C, hb2.no C, hbt2.no C, hb32.no C⟩, ?_⟩
  rw [k2]
  refine zRd rfl rfl (fun _ hS => r_field rfl (fld71 _ _ _ _ _ _ _ _)) ?_
  refine zRd rfl rfl (fun _ hS => r_cmpB (r := false) rfl rfl rfl (iff_of_false Bool.false_ne_true (by omega))) ?_
  refine ztP rfl rfl (ztP rfl rfl (ztP rfl rfl (ztP rfl rfl ?_)))
  iterate 3 (refine zs_take rfl (zt_skip rfl ?_))
  iterate 2 (refine zs_alone rfl (za_skip rfl ?_))
  refine ztP rfl rfl (ztP rfl rfl (ztP rfl rfl ?_))
  refine zs_fin ?_
  refine zK (zF rfl (zR (zP rfl (zlA rfl ?_))))
  refine zCl rfl (hhtml _ (h2.no C) (ha2.no C)) ?_
  rintro _ w6 hp
  obtain rfl := hp.1
  refine ⟨_, rfl, ?_⟩
  refine zN (zM ?_)
  exact zk_ret0 (.inl rfl) rfl (fin C hp)
 ·skip
  refine zN (zK (zS (zS (zR (zP rfl (zP rfl (zfa rfl (zlB rfl ?_))))))))
  refine zCT rfl rfl rfl (zP rfl (zP rfl (zfa rfl (zlB rfl ?_))))
  refine zCl rfl (T.begins_calls v [10] (show v.length ≤ 1000000000000 by omega) (by decide)) ?_
  rintro _ u ⟨rfl, hu⟩
  obtain rfl := hu.symm
  refine ⟨_, rfl, ?_⟩
  rw [h10 rfl]
  refine zP rfl (zN (zK (zF rfl (zA (zK (zB (zS (zR (zP rfl (zP rfl (zfa rfl (zlB rfl ?_))))))))))))
  refine zCF rfl rfl rfl (zP rfl (zJ rfl (zJ rfl (zJ rfl (zP rfl (zP rfl (zN (zK (zF rfl (zS (zR (zP rfl (zP rfl (zfa rfl (zlB rfl ?_)))))))))))))))
  refine zCF rfl rfl rfl (zP rfl (zN (zK (zF rfl (zS (zR (zfa rfl (zlB rfl ?_))))))))
  refine zCF rfl rfl rfl (zP rfl (zN (zK (zF rfl (zS ?_)))))
  refine zc_draw [] (fun w' => Chg w2 w' No ∧ Blk w' b 64 [.pointer (some ⟨t, 0, none⟩), .int .i64 0, .string ⟨#[]⟩, .bool false] ∧ Blk w' t 74 [.pointer (some ⟨q.r.pd, 0, none⟩), .pointer (some ⟨q.r.pm, 0, none⟩), q.r.vrow, .bool false] ∧ Blk w' b3 66 [.int .i64 3, .string (bs []), .slice none 0 0, .bool false, .string (bs v)]) (.take 0 (.take 1 (.take 2 (.take 3 (.take 4 (.take 5 (.take 6 (.take 7 (.take 8 (.take 9 (.take 10 (.all1 11 (.all1 12 (.take 13 (.take 14 (.take 15 (.take 16 (.take 17 (.take 18 (.take 19 (.take 20 (.take 22 (.all1 21 (.all1 23 (.take 24 (.take 25 (.take 26 (.fin)))))))))))))))))))))))))))) (by rfl) (by kernel_rfl) (by kernel_rfl) (fun w3 hC3 _ => ⟨?_, ?_⟩)
  ·exact ⟨hC3, hb2.no hC3, hbt2.no hC3, hb32.no hC3⟩
  have C := hC3
  refine ztP rfl rfl (ztP rfl rfl (zRd rfl rfl (fun _ hS => r_fa rfl) ?_))
  refine zRd rfl rfl (fun _ hS => r_loadB rfl hS.2.1 (by rfl)) ?_
  refine ztP rfl rfl (zRd rfl rfl (fun _ hS => r_fa rfl) ?_)
  refine zRd rfl rfl (fun _ hS => r_loadB rfl hS.2.2.1 (by rfl)) ?_
  refine ztP rfl rfl (ztP rfl rfl (zRd rfl rfl (fun _ hS => r_fa rfl) ?_))
  refine zRd rfl rfl (fun _ hS => r_loadB rfl hS.2.1 (by rfl)) ?_
  refine zs_call rfl (want_L rfl) rfl (by decide) rfl (sTop_calls (h2.no C).st (by simp only [List.length_cons]; omega)) ?_
  rintro _ w4 ⟨rfl, hC⟩
  have C := C.no hC
  refine ⟨_, rfl, ⟨C, hb2.no C, hbt2.no C, hb32.no C⟩, ?_⟩
  refine zs_call rfl (want_L rfl) rfl (by decide) rfl (rNode_calls (h2.no C).st.site.doc (n : Nat)) ?_
  rintro _ w5 ⟨va5, rfl, hA5, hC5⟩
  have C := C.no hC5
  have hb3' := hb32.no C
  refine ⟨_, rfl, ⟨C, hb2.no C, hbt2.no C, hb32.no C⟩, ?_⟩
  rw [k2]
  refine zRd rfl rfl (fun _ hS => r_field rfl (fld71 _ _ _ _ _ _ _ _)) ?_
  refine zRd rfl rfl (fun _ hS => r_cmpB (r := false) rfl rfl rfl (iff_of_false Bool.false_ne_true (by omega))) ?_
  refine ztP rfl rfl (ztP rfl rfl (ztP rfl rfl (ztP rfl rfl ?_)))
  iterate 3 (refine zs_take rfl (zt_skip rfl ?_))
  iterate 2 (refine zs_alone rfl (za_skip rfl ?_))
  refine ztP rfl rfl (ztP rfl rfl (ztP rfl rfl ?_))
  refine zs_fin ?_
  refine zK (zF rfl (zR (zP rfl (zlA rfl ?_))))
  refine zCl rfl (hhtml _ (h2.no C) (ha2.no C)) ?_
  rintro _ w6 hp
  obtain rfl := hp.1
  refine ⟨_, rfl, ?_⟩
  refine zN (zM ?_)
  exact zk_ret0 (.inl rfl) rfl (fin C hp)
theorem IsB.boxW (h : IsB w b t q N R fr sk) {b3 : Nat} {cs : List Value} (hb3 : Blk w b3 66 cs) (hC : Chg w w' (· = b3)) : IsB w' b t q N R fr sk := by
 refine ⟨h.blk.chg hC (fun he => absurd (h.blk.inj (he ▸ hb3)).1 (by decide)), ?_⟩
 have h := h.st
 refine ⟨h.site.chg hC (fun k hk he => ?_) (fun k cells hk he => absurd (hk.inj (he ▸ hb3)).1 (by decide)), ⟨h.mar.blk.chg hC (fun he => absurd (h.mar.blk.inj (he ▸ hb3)).1 (by decide)), h.mar.row.chg hC (fun k hk he => h.mar.row.ne hk hb3 (by decide) he)⟩, h.wf, h.zf, h.big⟩
 exact h.site.noT (ty := 66) (cs := cs) (he ▸ hb3) (by decide) (by decide) (by decide) (by decide) (by decide) hk
theorem take_nl (h : IsB w b t q N (n :: R) (f :: fr) sk) (hf : fr.length ≤ 900) (v : List UInt8) (hv : v.length ≤ 10000000) (hsk : sk = true) {fr2 : List FE} {sk2 : Bool} {n2 : Nat}
  (hhtml : ∀ w', IsB w' b t q N (n :: R) (f :: fr) false → AttrS w' T.nS [] → Calls Tryz.prog 54 [.pointer (some ⟨b, 0, none⟩), T.tokV 3 [] T.nS v].toArray w' (BPost w' b t q fr2 sk2 n2 (.tuple #[]))) :
  Calls Tryz.prog 25 [.pointer (some ⟨b, 0, none⟩), T.tokV 3 [] T.nS (10 :: v)].toArray w (BPost w b t q fr2 sk2 n2 (.tuple #[])) := by
 have hnN : n < N.length := h.st.zf.lt n (by simp)
 have hd : hdOf (N.getD n n0) = elemH f.nm f.al := h.st.zf.1
 have hx : nodeOf N (n : Nat) = N.getD n n0 := if_pos ⟨by omega, by omega⟩
 have k2 : (nodeOf N (n : Nat)).space = 1 := by rw [hx]; exact congrArg Hd.space hd
 unfold T.tokV at hhtml ⊢
 refine zCz 119 Tryz.func25 ?_
 refine zS (zR ?_)
 refine zBx rfl (fun w1 b3 hN1 => ?_)
 have hb30 : Blk w1 b3 66 [.int .i64 3, .string (bs []), .slice none 0 0, .bool false, .string (bs (10 :: v))] := hN1.blk
 have h1 := h.no hN1.chg
 have hb := h1.blk
 refine zN (zK (zS (zR (zP rfl (zP rfl (zfa rfl (zlB rfl ?_)))))))
 refine zP rfl (zN (zK (zS (zR (zP rfl (zP rfl (zfa rfl ?_)))))))
 refine z_store (want_L rfl) rfl rfl rfl (by assumption) (by first | exact Nat.le_refl _ | simp [Value.cells]) (by simp [Value.cells, Value.oneCell']) (fun w2 hU2 => ?_)
 obtain ⟨h2, hW2⟩ := h1.skW hU2
 have hb2 := h2.blk
 have hkp := WrB.keep h1 hW2
 have hb32 := hkp.2 _ _ _ hb30 (by decide)
 have ha2 := AttrS.nS w2
 have hbt2 := h2.st.site.blk
 have fin : ∀ {w3 : World} {x : Ending} {w4 : World}, Chg w2 w3 No → BPost w3 b t q fr2 sk2 n2 (.tuple #[]) x w4 → BPost w b t q fr2 sk2 n2 (.tuple #[]) x w4 := fun hC hp => BPost.preW ((WrB.of_no hN1.chg _ _ _).trans (hW2.trans (WrB.of_no hC _ _ _))) hp
 subst hsk
 refine zN (zK (zS (zS (zR (zP rfl (zP rfl (zfa rfl (zlB rfl ?_))))))))
 refine zCT rfl rfl rfl (zP rfl (zP rfl (zfa rfl (zlB rfl ?_))))
 refine zCl rfl (T.begins_calls (10 :: v) [10] (show (10 :: v).length ≤ 1000000000000 by simp only [List.length_cons]; omega) (by decide)) ?_
 rintro _ u ⟨rfl, hu⟩
 obtain rfl := hu.symm
 refine ⟨_, rfl, ?_⟩
 rw [show T.beginsN (10 :: v) [10] = true by unfold T.beginsN; simp]
 refine zP rfl (zN (zK (zT rfl (zR (zfa rfl (zlB rfl ?_))))))
 refine z_cutN 1 (v.length + 1) (want_L rfl) (by decide) rfl rfl rfl rfl (by simp) (by omega) (by simp) ?_
 rw [show ((10 :: v).drop 1).take (v.length + 1 - 1) = v by simp]
 refine zfa rfl ?_
 refine z_store (want_L rfl) rfl rfl rfl (by assumption) (by first | exact Nat.le_refl _ | simp [Value.cells]) (by simp [Value.cells, Value.oneCell']) (fun w2' hU2' => ?_)
 have hC2' : Chg w2 w2' (· = b3) := hU2'.chg
 have hnb3 : ¬ ftB b t q b3 := h2.noT hb32 (by decide)
 have h2 : IsB w2' b t q N (n :: R) (f :: fr) false := h2.boxW hb32 hC2'
 have hb2 := h2.blk
 have hbt2 := h2.st.site.blk
 have hb32 : Blk w2' b3 66 [.int .i64 3, .string (bs []), .slice none 0 0, .bool false, .string (bs v)] := hU2'.blk
 have ha2 := AttrS.nS w2'
 have hC12 : Chg w w2' (ftB b t q) := ((hN1.chg.mono (fun _ _ h => h.elim)).trans hW2.chg (fun k _ hk => hk)).trans hC2' (fun k hk he => by have := hN1.at_; omega)
 have hW2' : WrB w w2' b t q q := ⟨hC12, fun k hk => .inl hk⟩
 have fin : ∀ {w3 : World} {x : Ending} {w4 : World}, Chg w2' w3 No → BPost w3 b t q fr2 sk2 n2 (.tuple #[]) x w4 → BPost w b t q fr2 sk2 n2 (.tuple #[]) x w4 := fun hC hp => BPost.preW (hW2'.trans (WrB.of_no hC _ _ _)) hp
 refine zN (zK (zB (zS (zR (zP rfl (zP rfl (zfa rfl (zlB rfl ?_))))))))
 refine zCF rfl rfl rfl (zP rfl (zJ rfl (zJ rfl (zJ rfl (zP rfl (zP rfl (zN (zK (zF rfl (zS (zR (zP rfl (zP rfl (zfa rfl (zlB rfl ?_)))))))))))))))
 refine zCF rfl rfl rfl (zP rfl (zN (zK (zF rfl (zS (zR (zfa rfl (zlB rfl ?_))))))))
 refine zCF rfl rfl rfl (zP rfl (zN (zK (zF rfl (zS ?_)))))
 refine zc_draw [] (fun w' => Chg w2' w' No ∧ Blk w' b 64 [.pointer (some ⟨t, 0, none⟩), .int .i64 0, .string ⟨#[]⟩, .bool false] ∧ Blk w' t 74 [.pointer (some ⟨q.r.pd, 0, none⟩), .pointer (some ⟨q.r.pm, 0, none⟩), q.r.vrow, .bool false] ∧ Blk w' b3 66 [.int .i64 3, .string (bs []), .slice none 0 0, .bool false, .string (bs v)]) (.take 0 (.take 1 (.take 2 (.take 3 (.take 4 (.take 5 (.take 6 (.take 7 (.take 8 (.take 9 (.take 10 (.all1 11 (.all1 12 (.take 13 (.take 14 (.take 15 (.take 16 (.take 17 (.take 18 (.take 19 (.take 20 (.take 22 (.all1 21 (.all1 23 (.take 24 (.take 25 (.take 26 (.fin)))))))))))))))))))))))))))) (by rfl) (by kernel_rfl) (by kernel_rfl) (fun w3 hC3 _ => ⟨?_, ?_⟩)
 ·exact ⟨hC3, hb2.no hC3, hbt2.no hC3, hb32.no hC3⟩
 have C := hC3
 refine ztP rfl rfl (ztP rfl rfl (zRd rfl rfl (fun _ hS => r_fa rfl) ?_))
 refine zRd rfl rfl (fun _ hS => r_loadB rfl hS.2.1 (by rfl)) ?_
 refine ztP rfl rfl (zRd rfl rfl (fun _ hS => r_fa rfl) ?_)
 refine zRd rfl rfl (fun _ hS => r_loadB rfl hS.2.2.1 (by rfl)) ?_
 refine ztP rfl rfl (ztP rfl rfl (zRd rfl rfl (fun _ hS => r_fa rfl) ?_))
 refine zRd rfl rfl (fun _ hS => r_loadB rfl hS.2.1 (by rfl)) ?_
 refine zs_call rfl (want_L rfl) rfl (by decide) rfl (sTop_calls (h2.no C).st (by simp only [List.length_cons]; omega)) ?_
 rintro _ w4 ⟨rfl, hC⟩
 have C := C.no hC
 refine ⟨_, rfl, ⟨C, hb2.no C, hbt2.no C, hb32.no C⟩, ?_⟩
 refine zs_call rfl (want_L rfl) rfl (by decide) rfl (rNode_calls (h2.no C).st.site.doc (n : Nat)) ?_
 rintro _ w5 ⟨va5, rfl, hA5, hC5⟩
 have C := C.no hC5
 have hb3' := hb32.no C
 refine ⟨_, rfl, ⟨C, hb2.no C, hbt2.no C, hb32.no C⟩, ?_⟩
 rw [k2]
 refine zRd rfl rfl (fun _ hS => r_field rfl (fld71 _ _ _ _ _ _ _ _)) ?_
 refine zRd rfl rfl (fun _ hS => r_cmpB (r := false) rfl rfl rfl (iff_of_false Bool.false_ne_true (by omega))) ?_
 refine ztP rfl rfl (ztP rfl rfl (ztP rfl rfl (ztP rfl rfl ?_)))
 iterate 3 (refine zs_take rfl (zt_skip rfl ?_))
 iterate 2 (refine zs_alone rfl (za_skip rfl ?_))
 refine ztP rfl rfl (ztP rfl rfl (ztP rfl rfl ?_))
 refine zs_fin ?_
 refine zK (zF rfl (zR (zP rfl (zlA rfl ?_))))
 refine zCl rfl (hhtml _ (h2.no C) (ha2.no C)) ?_
 rintro _ w6 hp
 obtain rfl := hp.1
 refine ⟨_, rfl, ?_⟩
 refine zN (zM ?_)
 exact zk_ret0 (.inl rfl) rfl (fin C hp)
end
inductive Tok where
 | start (nm : List UInt8) (al : List T.At)
 | fin (nm : List UInt8)
 | text (v : List UInt8)
def Tok.txt : Tok → List UInt8
 | .start nm al => 60 :: (nm ++ (T.attrsS al ++ [62]))
 | .fin nm => 60 :: 47 :: (nm ++ [62])
 | .text v => T.safeN false v
abbrev St := List FE × Bool
def tableW : List UInt8 := [116, 97, 98, 108, 101]
def tbodyW : List UInt8 := [116, 98, 111, 100, 121]
def trW : List UInt8 := [116, 114]
def preW : List UInt8 := [112, 114, 101]
def plainG (fr : List FE) : Prop := lastN grN fr = [] ∨ lastN grN fr ∈ cellN
def topN : List FE → List UInt8
 | [] => []
 | f :: _ => f.nm
def stepT : Tok → St → St
 | .start nm al, s => (startF nm al s.1, decide (nm = preW))
 | .fin _, s => match s.1 with
  | f :: g :: fr => (g.shut f :: fr, false)
  | fr => (fr, false)
 | .text v, s => match s.1 with
  | f :: fr => (f.txt (if s.2 = true ∧ v.head? = some 10 then v.tail else v) :: fr, false)
  | [] => ([], false)
def StepOk : Tok → St → Prop
 | .start nm al, s => s.1 ≠ [] ∧ s.1.length ≤ 700 ∧ T.NmOk nm ∧ T.AtOk al ∧ ((nm ∈ startN ∧ plainG s.1 ∧ CondS nm s.1) ∨ (2 ≤ s.1.length ∧ ((nm = tbodyW ∧ topN s.1 = tableW) ∨ (nm = trW ∧ topN s.1 = tbodyW) ∨ (nm ∈ cellN ∧ topN s.1 = trW))))
 | .fin nm, s => s.1.length ≤ 700 ∧ 2 ≤ s.1.length ∧ topN s.1 = nm ∧ T.NmOk nm ∧ ((nm ∈ endN ∧ plainG s.1) ∨ nm = tableW ∨ nm = tbodyW ∨ nm = trW ∨ nm ∈ cellN)
 | .text v, s => s.1.length ≤ 700 ∧ v ≠ [] ∧ 0 ∉ v ∧ v.length ≤ 10000000 ∧ plainG s.1 ∧ (∃ f fr, s.1 = f :: fr ∧ ∀ x, f.done.lastH = some x → x.kind ≠ 2) ∧ (s.2 = true → v.head? = some 10 → v.tail ≠ [])
def BS (w : World) (b t : Nat) (q : SQ) (s : St) (n : Nat) : Prop := ∃ N R, IsB w b t q N R s.1 s.2 ∧ MOk q.M R s.1 ∧ N.length ≤ n
def SP (w : World) (b t : Nat) (q : SQ) (s : St) (n : Nat) (e : Ending) (w' : World) : Prop := e = .returned (.tuple #[]) ∧ ∃ q', BS w' b t q' s n ∧ WrB w w' b t q q'
section
variable {w w' w0 w1 w2 : World} {b t : Nat} {q q' q1 : SQ} {N N' : List ND} {n m k : Nat} {R R' : List Nat} {f g : FE} {fr fr' : List FE} {sk sk' : Bool} {x : Value} {e : Ending}
theorem BPost.sp (h : BPost w b t q fr sk n (.tuple #[]) e w') (hn : n ≤ m) : SP w b t q (fr, sk) m e w' := by
 obtain ⟨h1, q', N', R', h2, h3, h4, h5⟩ := h
 exact ⟨h1, q', ⟨N', R', h2, h3, by omega⟩, h4⟩
theorem html_plain (h : IsB w b t q N R (f :: fr) sk) (hf : fr.length ≤ 900) (k : Int) (nm tx : List UInt8) (hp : Plain k nm) {va : Value} {al : List At} (ha : AttrS w va al) {fr2 : List FE} {sk2 : Bool} {n2 : Nat} (hgr : plainG (f :: fr))
  (hbody : ∀ w', Chg w w' No → Calls Tryz.prog 96 [.pointer (some ⟨b, 0, none⟩), T.tokV k nm va tx].toArray w' (BPost w' b t q fr2 sk2 n2 (.tuple #[]))) :
  Calls Tryz.prog 54 [.pointer (some ⟨b, 0, none⟩), T.tokV k nm va tx].toArray w (BPost w b t q fr2 sk2 n2 (.tuple #[])) := by
 have hcell : ∀ w', Chg w w' No → Calls Tryz.prog 91 [.pointer (some ⟨b, 0, none⟩), T.tokV k nm va tx].toArray w' (BPost w' b t q fr2 sk2 n2 (.tuple #[])) := fun w1 hC => cell_of (h.no hC) hf k nm tx hp (ha.no hC) (fun w2 hC2 => hbody w2 (hC.no hC2))
 rcases hgr with h1 | h1
 ·exact html_body h hf k nm tx ha h1 hbody
 ·simp only [cellN, List.mem_cons, List.not_mem_nil, or_false] at h1
  rcases h1 with h1 | h1
  ·exact html_td h hf k nm tx ha h1 hcell
  ·exact html_th h hf k nm tx ha h1 hcell
theorem lastN_top (h : f.nm ∈ grN) : lastN grN (f :: g :: fr) = f.nm := if_pos h
theorem IsB.two (h : IsB w b t q N R (f :: g :: fr) sk) : ∃ n m R', R = n :: m :: R' := by
 have := h.st.len.1
 match R, this with
 | n :: m :: R', _ => exact ⟨n, m, R', rfl⟩
theorem IsB.one (h : IsB w b t q N R (f :: fr) sk) : ∃ n R', R = n :: R' := by
 have := h.st.len.1
 match R, this with
 | n :: R', _ => exact ⟨n, R', rfl⟩
theorem plain_start {nm : List UInt8} (h : nm ∈ startN) : Plain 1 nm := ⟨fun _ => (show ∀ a ∈ startN, a ∉ B.wd Y2 by decide +kernel) nm h, fun h => absurd h (by decide), fun h => absurd h (by decide), fun h => absurd h (by decide)⟩
theorem plain_end {nm : List UInt8} (h : nm ∈ endN) : Plain 2 nm := ⟨fun h => absurd h (by decide), fun _ => (show ∀ a ∈ endN, a ∉ B.wd Y1 by decide +kernel) nm h, fun _ => (show ∀ a ∈ endN, a ∉ B.wd Y3 by decide +kernel) nm h, fun _ => (show ∀ a ∈ endN, a ∉ B.wd Y4 by decide +kernel) nm h⟩
theorem plain_text (nm : List UInt8) : Plain 3 nm := ⟨fun h => absurd h (by decide), fun h => absurd h (by decide), fun h => absurd h (by decide), fun h => absurd h (by decide)⟩
theorem startF_open {nm : List UInt8} {al : List T.At} (h : nm ∉ leafN) : startF nm al (f :: fr) = ⟨nm, al, .nil⟩ :: f :: fr := if_neg h
theorem take_start {s : St} {nm : List UInt8} {al : List T.At} (h : BS w b t q s n) (ho : StepOk (.start nm al) s) (hn : n ≤ 1900000) {va : Value} (ha : AttrS w va (encT al)) :
  Calls Tryz.prog 25 [.pointer (some ⟨b, 0, none⟩), T.tokV 1 nm va []].toArray w (SP w b t q (stepT (.start nm al) s) (n + 1)) := by
 obtain ⟨fr0, sk⟩ := s
 obtain ⟨N, R, hB, hM, hN⟩ := h
 obtain ⟨hne, hl, hnm, hat, hc⟩ := ho
 dsimp only at *
 cases fr0 with
 | nil => exact absurd rfl hne
 | cons f fr =>
 have hal : al.length ≤ 1000000 := by have := hat.ln; omega
 simp only [List.length_cons] at hl
 have fin : Calls Tryz.prog 25 [.pointer (some ⟨b, 0, none⟩), T.tokV 1 nm va []].toArray w (BPost w b t q (startF nm al (f :: fr)) (decide (nm = preW)) (N.length + 1) (.tuple #[])) → Calls Tryz.prog 25 [.pointer (some ⟨b, 0, none⟩), T.tokV 1 nm va []].toArray w (SP w b t q (startF nm al (f :: fr), decide (nm = preW)) (n + 1)) := fun hh => hh.mono fun e w' hp => hp.sp (by omega)
 refine fin ?_
 rcases hc with ⟨hs, hg, hcs⟩ | ⟨h2, hc⟩
 ·obtain ⟨n1, R1, rfl⟩ := hB.one
  refine take_tag hB (by omega) 1 (.inl rfl) nm [] ha fun w' hB' ha' => ?_
  refine html_plain hB' (by omega) 1 nm [] (plain_start hs) ha' hg fun w2 hC2 => ?_
  exact body_start (hB'.no hC2) hM (by omega) (by omega) nm hs al (ha'.no hC2) hal hcs
 ·cases fr with
  | nil => simp at h2
  | cons g fr =>
  simp only [List.length_cons] at hl
  obtain ⟨n1, m1, R1, rfl⟩ := hB.two
  refine take_tag hB (by simp only [List.length_cons]; omega) 1 (.inl rfl) nm [] ha fun w' hB' ha' => ?_
  have htop : topN (f :: g :: fr) = f.nm := rfl
  rw [htop] at hc
  rcases hc with ⟨rfl, h1⟩ | ⟨rfl, h1⟩ | ⟨hcn, h1⟩
  ·have e1 : startF tbodyW al (f :: g :: fr) = ⟨tbodyW, al, .nil⟩ :: f :: g :: fr := startF_open (by decide)
   rw [e1, decide_eq_false (show tbodyW ≠ preW by decide)]
   refine html_table hB' (by simp only [List.length_cons]; omega) 1 tbodyW [] ha' (by rw [lastN_top (by rw [h1]; decide), h1]; rfl) fun w2 hC2 => ?_
   exact table_start (hB'.no hC2) hM (by omega) (by omega) h1 al (ha'.no hC2) hal
  ·have e1 : startF trW al (f :: g :: fr) = ⟨trW, al, .nil⟩ :: f :: g :: fr := startF_open (by decide)
   rw [e1, decide_eq_false (show trW ≠ preW by decide)]
   refine html_tbody hB' (by simp only [List.length_cons]; omega) 1 trW [] ha' (by rw [lastN_top (by rw [h1]; decide), h1]; rfl) fun w2 hC2 => ?_
   exact rows_start (hB'.no hC2) hM (by omega) (by omega) h1 al (ha'.no hC2) hal
  ·have e1 : startF nm al (f :: g :: fr) = ⟨nm, al, .nil⟩ :: f :: g :: fr := startF_open ((show ∀ a ∈ cellN, a ∉ leafN by decide) nm hcn)
   rw [e1, decide_eq_false ((show ∀ a ∈ cellN, a ≠ preW by decide) nm hcn)]
   refine html_tr hB' (by simp only [List.length_cons]; omega) 1 nm [] ha' (by rw [lastN_top (by rw [h1]; decide), h1]; rfl) fun w2 hC2 => ?_
   exact row_start (hB'.no hC2) hM (by omega) (by omega) h1 nm hcn al (ha'.no hC2) hal
theorem take_fin {s : St} {nm : List UInt8} (h : BS w b t q s n) (ho : StepOk (.fin nm) s) :
  Calls Tryz.prog 25 [.pointer (some ⟨b, 0, none⟩), T.tokV 2 nm T.nS []].toArray w (SP w b t q (stepT (.fin nm) s) (n + 1)) := by
 obtain ⟨fr0, sk⟩ := s
 obtain ⟨N, R, hB, hM, hN⟩ := h
 obtain ⟨hl, h2, htop, hnm, hc⟩ := ho
 dsimp only at *
 match fr0, h2 with
 | f :: g :: fr, _ =>
 simp only [List.length_cons] at hl
 obtain ⟨n1, m1, R1, rfl⟩ := hB.two
 have htop : f.nm = nm := htop
 subst htop
 have fin : Calls Tryz.prog 25 [.pointer (some ⟨b, 0, none⟩), T.tokV 2 f.nm T.nS []].toArray w (BPost w b t q (g.shut f :: fr) false N.length (.tuple #[])) → Calls Tryz.prog 25 [.pointer (some ⟨b, 0, none⟩), T.tokV 2 f.nm T.nS []].toArray w (SP w b t q (g.shut f :: fr, false) (n + 1)) := fun hh => hh.mono fun e w' hp => hp.sp (by omega)
 refine fin ?_
 refine take_tag hB (by simp only [List.length_cons]; omega) 2 (.inr rfl) f.nm [] (AttrS.nS w) fun w' hB' ha' => ?_
 rcases hc with ⟨hs, hg⟩ | h1 | h1 | h1 | h1
 ·refine html_plain hB' (by simp only [List.length_cons]; omega) 2 f.nm [] (plain_end hs) ha' hg fun w2 hC2 => ?_
  exact body_end (hB'.no hC2) hM (by omega) hs
 ·refine html_table hB' (by simp only [List.length_cons]; omega) 2 f.nm [] ha' (by rw [lastN_top (by rw [h1]; decide), h1]; rfl) fun w2 hC2 => ?_
  have := table_end (hB'.no hC2) hM (by omega) h1
  rw [h1]; exact this
 ·refine html_tbody hB' (by simp only [List.length_cons]; omega) 2 f.nm [] ha' (by rw [lastN_top (by rw [h1]; decide), h1]; rfl) fun w2 hC2 => ?_
  have := rows_end (hB'.no hC2) hM (by omega) h1
  rw [h1]; exact this
 ·refine html_tr hB' (by simp only [List.length_cons]; omega) 2 f.nm [] ha' (by rw [lastN_top (by rw [h1]; decide), h1]; rfl) fun w2 hC2 => ?_
  have := row_end (hB'.no hC2) hM (by omega) h1
  rw [h1]; exact this
 ·have hgr : f.nm ∈ grN := (show ∀ a ∈ cellN, a ∈ grN by decide) _ h1
  have h3 := h1
  simp only [cellN, List.mem_cons, List.not_mem_nil, or_false] at h3
  rcases h3 with h3 | h3
  ·refine html_td hB' (by simp only [List.length_cons]; omega) 2 f.nm [] ha' (by rw [lastN_top hgr, h3]) fun w2 hC2 => ?_
   exact cell_end (hB'.no hC2) hM (by omega) h1
  ·refine html_th hB' (by simp only [List.length_cons]; omega) 2 f.nm [] ha' (by rw [lastN_top hgr, h3]) fun w2 hC2 => ?_
   exact cell_end (hB'.no hC2) hM (by omega) h1
theorem take_txt {s : St} {v : List UInt8} (h : BS w b t q s n) (ho : StepOk (.text v) s) (hn : n ≤ 1900000) :
  Calls Tryz.prog 25 [.pointer (some ⟨b, 0, none⟩), T.tokV 3 [] T.nS v].toArray w (SP w b t q (stepT (.text v) s) (n + 1)) := by
 obtain ⟨fr0, sk⟩ := s
 obtain ⟨N, R, hB, hM, hN⟩ := h
 obtain ⟨hl, hv, h0, hvl, hg, ⟨f, fr, hfr, hlast⟩, hsk⟩ := ho
 dsimp only at *
 subst hfr
 simp only [List.length_cons] at hl
 obtain ⟨n1, R1, rfl⟩ := hB.one
 have body : ∀ (v2 : List UInt8), v2 ≠ [] → 0 ∉ v2 → v2.length ≤ 10000000 → ∀ w', IsB w' b t q N (n1 :: R1) (f :: fr) false → AttrS w' T.nS [] → Calls Tryz.prog 54 [.pointer (some ⟨b, 0, none⟩), T.tokV 3 [] T.nS v2].toArray w' (BPost w' b t q (f.txt v2 :: fr) false (N.length + 1) (.tuple #[])) := fun v2 g1 g2 g3 w' hB' ha' =>
  html_plain hB' (by omega) 3 [] v2 (plain_text []) ha' hg fun w2 hC2 => body_text (hB'.no hC2) hM (by omega) (by omega) v2 g1 g2 g3 hlast
 have key : Calls Tryz.prog 25 [.pointer (some ⟨b, 0, none⟩), T.tokV 3 [] T.nS v].toArray w (BPost w b t q (f.txt (if sk = true ∧ v.head? = some 10 then v.tail else v) :: fr) false (N.length + 1) (.tuple #[])) := by
  by_cases hc : sk = true ∧ v.head? = some 10
  ·rw [if_pos hc]
   obtain ⟨v', rfl⟩ : ∃ v', v = 10 :: v' := by
    cases v with
    | nil => exact absurd rfl hv
    | cons c r => have := hc.2; simp at this; exact ⟨r, by rw [this]⟩
   have h2 := hsk hc.1 hc.2
   exact take_nl hB (by omega) v' (by simp at hvl; omega) hc.1 (body v' h2 (fun hh => h0 (List.mem_cons_of_mem _ hh)) (by simp at hvl; omega))
  ·rw [if_neg hc]
   refine take_text hB (by omega) v hvl (fun h1 => ?_) (body v hv h0 hvl)
   unfold T.beginsN
   refine decide_eq_false fun he => hc ⟨h1, ?_⟩
   cases v with
   | nil => exact absurd rfl hv
   | cons c r => simp at he; rw [he]; rfl
 exact key.mono fun e w' hp => hp.sp (by omega)
end
theorem alikeD_calls {w : World} {v1 v2 : Value} {l1 l2 : List At} (h1 : AttrS w v1 l1) (h2 : AttrS w v2 l2) (hl1 : l1.length ≤ 10000000) (hl2 : l2.length ≤ 10000000) :
  Calls Tryz.prog 56 [v1, v2].toArray w fun e w' => e = .returned (.bool (decide (l1 = l2))) ∧ Chg w w' No := by
 obtain ⟨A1, c1, hv1, hc1⟩ := h1.form
 obtain ⟨A2, c2, hv2, hc2⟩ := h2.form
 subst hv1; subst hv2
 refine zCz 26 Tryz.func56 ?_
 refine zS (zR (zP rfl (zN (zK (zS (zS (zR (zP rfl (zLn rfl (zP rfl (zLn rfl ?_)))))))))))
 refine z_cmp (want_L rfl) (by decide) rfl rfl rfl (fun hc => ?_) (fun hc => ?_)
 ·refine zN (zK (zT rfl (zS (zR (zP rfl (zN (zK (zE (zQ ?_)))))))))
  refine zk_ret1 (.inr rfl) rfl rfl ⟨?_, Chg.refl _ _⟩
  have : ¬ l1 = l2 := fun h => by subst h; omega
  rw [decide_eq_false this]
 ·have hll : l1.length = l2.length := by omega
  refine zN (zK (zF rfl (zA (zK (zS (zS (zR (zP rfl (zN (zK (zB ?_)))))))))))
  refine zc_loopW (ι := Nat) (fun k u => [(0, .slice A1 l1.length c1), (1, .slice A2 l2.length c2), (5, .int .i64 k)])
   (fun k u => k ≤ l1.length ∧ Chg w u No ∧ l1.take k = l2.take k) (fun k u => l1.length - k) 0 ⟨Nat.zero_le _, Chg.refl _ _, rfl⟩ ?_ ?_
  ·exact ⟨rfl, rfl, rfl, trivial⟩
  rintro k w2 ⟨hk, hC, hb⟩
  by_cases hlt : k < l1.length
  ·obtain ⟨b, o, c', hv, g0, g1⟩ := (h1.no hC).at_ k hlt
   obtain ⟨b', o', c'', hv', g0', g1'⟩ := (h2.no hC).at_ k (by omega)
   cases hv; cases hv'
   refine zS (zS (zR (zP rfl (zP rfl (zLn rfl (zCT rfl rfl rfl (zN (zK (zT rfl (zA (zK (zS (zB (zS ?_))))))))))))))
   refine zc_draw [] (fun w' => Chg w2 w' No) (.take 0 (.take 1 (.take 2 (.take 3 (.take 4 (.take 5 (.take 6 (.take 7 (.take 8 (.fin)))))))))) (by rfl) (by kernel_rfl) (by kernel_rfl) (fun w1 hC1 hH1 => ⟨?_, ?_⟩)
   ·exact hC1
   refine ztP rfl rfl (ztP rfl rfl (zRd rfl rfl (fun _ hS => r_ia rfl rfl (by omega) (by omega)) ?_))
   refine zRd rfl rfl (fun _ hS => r_loadA (by rfl) rfl (agg2 (cell_no hS g0) (cell_no hS g1) (by omega))) ?_
   refine ztP rfl rfl (ztP rfl rfl (zRd rfl rfl (fun _ hS => r_ia rfl rfl (by omega) (by omega)) ?_))
   refine zRd rfl rfl (fun _ hS => r_loadA (by rfl) rfl (agg2 (cell_no hS g0') (cell_no hS g1') (by omega))) ?_
   refine zRd rfl rfl (fun _ hS => r_neA rfl rfl (by kernel_rfl) (fun d => eq_attr d)) ?_
   have hC2 := hC.no hC1
   cases hq : (decide ((l1.getD k at0).1 = (l2.getD k at0).1) && (decide ((l1.getD k at0).2 = (l2.getD k at0).2) && true))
   ·refine zs_fin ?_
    refine zK (zT rfl (zS (zR (zP rfl (zN (zK (zE (zW (zQ (zQ (zW (zQ ?_))))))))))))
    refine zk_ret1 (.inr rfl) rfl rfl ⟨?_, hC2⟩
    have : ¬ l1 = l2 := fun h => by subst h; simp at hq
    rw [decide_eq_false this]
   ·refine zs_fin ?_
    refine zK (zF rfl (zA (zM (zK (zR (zP rfl (zAd rfl rfl (zP rfl (zN ?_)))))))))
    refine zk_loopW (k + 1) ⟨by omega, hC2, ?_⟩ (by omega) ⟨rfl, rfl, get_int rfl (by omega), trivial⟩
    simp only [Bool.and_true, Bool.and_eq_true, decide_eq_true_eq] at hq
    rw [take_getD at0 hlt, take_getD at0 (by omega), hb, Prod.ext hq.1 hq.2]
  ·obtain rfl : k = l1.length := by omega
   refine zS (zS (zR (zP rfl (zP rfl (zLn rfl (zCF rfl rfl rfl (zN (zK (zF rfl (zL (zX (zX (zY (zK (zS (zR (zP rfl (zN (zK (zE ?_))))))))))))))))))))
   refine zk_ret1 (.inr rfl) rfl rfl ⟨?_, hC⟩
   rw [List.take_length, hll, List.take_length] at hb
   rw [decide_eq_true hb]
theorem oneD_calls {w : World} {x y : Hd} {A A' K K' : Value} {k k' : NT} (hA : AttrS w A x.attrs) (hA' : AttrS w A' y.attrs) (hK : TreeAt w K k) (hK' : TreeAt w K' k') (hal : x.attrs.length ≤ 10000000) (hal' : y.attrs.length ≤ 10000000) :
  Calls Tryz.prog 30 [.agg #[.int .i64 x.kind, .int .i64 x.space, .string x.name, A, .string x.text, .int .i64 x.fr, K], .agg #[.int .i64 y.kind, .int .i64 y.space, .string y.name, A', .string y.text, .int .i64 y.fr, K']].toArray w fun e w' => ∃ q, e = .returned (.bool q) ∧ (q = true ↔ x = y) ∧ Chg w w' No := by
 obtain ⟨A2, c2, rfl, _⟩ := hA.form
 obtain ⟨A3, c3, rfl, _⟩ := hK.form
 obtain ⟨A4, c4, rfl, _⟩ := hA'.form
 obtain ⟨A5, c5, rfl, _⟩ := hK'.form
 refine zCz 45 Tryz.func30 ?_
 refine zS (zR ?_)
 refine zBx rfl (fun w1 b1 hN1 => ?_)
 have hb1 : Blk w1 b1 80 [.int .i64 x.kind, .int .i64 x.space, .string x.name, .slice A2 x.attrs.length c2, .string x.text, .int .i64 x.fr, .slice A3 k.len c3] := hN1.blk
 refine zBx rfl (fun w2 b2 hN2 => ?_)
 have hb2 : Blk w2 b2 80 [.int .i64 y.kind, .int .i64 y.space, .string y.name, .slice A4 y.attrs.length c4, .string y.text, .int .i64 y.fr, .slice A5 k'.len c5] := hN2.blk
 have hb1 := hb1.no hN2.chg
 have hC := hN1.chg.no hN2.chg
 by_cases h1 : x.kind = y.kind
 ·by_cases h2 : x.space = y.space
  ·refine zP rfl (zN (zK (zS (zR (zfa rfl (zlB rfl ?_))))))
   refine zfa rfl (zlB rfl ?_)
   refine zCT rfl rfl rfl (zP rfl (zfa rfl (zlB rfl ?_)))
   refine zfa rfl (zlB rfl ?_)
   refine zCT rfl rfl rfl (zP rfl (zP rfl (zfa rfl (zlB rfl ?_))))
   refine zfa rfl (zlB rfl ?_)
   refine z_eqS (want_L rfl) (by decide) rfl rfl (fun hc => ?_) (fun hc => ?_)
   ·refine zP rfl (zP rfl (zfa rfl (zlB rfl ?_)))
    refine zfa rfl (zlB rfl ?_)
    refine zCl rfl (alikeD_calls (hA.no hC) (hA'.no hC) hal hal') ?_
    rintro _ w3 ⟨rfl, hC3⟩
    refine ⟨_, rfl, ?_⟩
    have hb1 := hb1.no hC3
    have hb2 := hb2.no hC3
    by_cases h4 : x.attrs = y.attrs
    ·rw [decide_eq_true h4]
     refine zP rfl (zP rfl (zfa rfl (zlB rfl ?_)))
     refine zfa rfl (zlB rfl ?_)
     refine z_eqS (want_L rfl) (by decide) rfl rfl (fun hc => ?_) (fun hc => ?_)
     ·by_cases h6 : x.fr = y.fr
      ·refine zP rfl (zP rfl (zfa rfl (zlB rfl ?_)))
       refine zfa rfl (zlB rfl ?_)
       refine zCT rfl rfl rfl (zP rfl (zP rfl (zN (zK (zE ?_)))))
       exact zk_ret1 (.inr rfl) rfl rfl ⟨true, rfl, iff_of_true rfl (Hd.ext' h1 h2 (by assumption) h4 (by assumption) h6), hC.no hC3⟩
      ·refine zP rfl (zP rfl (zfa rfl (zlB rfl ?_)))
       refine zfa rfl (zlB rfl ?_)
       refine zCF rfl rfl rfl (zP rfl (zP rfl (zN (zK (zE ?_)))))
       exact zk_ret1 (.inr rfl) rfl rfl ⟨false, rfl, no_ (fun h => h6 (by rw [h])), hC.no hC3⟩
     ·have hn : ¬ x.text = y.text := by assumption
      refine zP rfl (zP rfl (zJ rfl (zJ rfl (zJ rfl (zJ rfl (zJ rfl (zP rfl (zP rfl (zN (zK (zE ?_)))))))))))
      exact zk_ret1 (.inr rfl) rfl rfl ⟨false, rfl, no_ (fun h => hn (by rw [h])), hC.no hC3⟩
    ·rw [decide_eq_false h4]
     refine zP rfl (zP rfl (zJ rfl (zJ rfl (zJ rfl (zJ rfl (zJ rfl (zP rfl (zP rfl (zJ rfl (zJ rfl (zJ rfl (zJ rfl (zJ rfl (zP rfl (zP rfl (zN (zK (zE ?_))))))))))))))))))
     exact zk_ret1 (.inr rfl) rfl rfl ⟨false, rfl, no_ (fun h => h4 (by rw [h])), hC.no hC3⟩
   ·have hn : ¬ x.name = y.name := by assumption
    refine zP rfl (zP rfl (zJ rfl (zJ rfl (zJ rfl (zJ rfl (zJ rfl (zP rfl (zP rfl (zJ rfl (zJ rfl (zJ rfl (zJ rfl (zJ rfl (zP rfl (zP rfl (zJ rfl (zJ rfl (zJ rfl (zJ rfl (zJ rfl (zP rfl (zP rfl (zN (zK (zE ?_)))))))))))))))))))))))))
    exact zk_ret1 (.inr rfl) rfl rfl ⟨false, rfl, no_ (fun h => hn (by rw [h])), hC⟩
  ·refine zP rfl (zN (zK (zS (zR (zfa rfl (zlB rfl ?_))))))
   refine zfa rfl (zlB rfl ?_)
   refine zCT rfl rfl rfl (zP rfl (zfa rfl (zlB rfl ?_)))
   refine zfa rfl (zlB rfl ?_)
   refine zCF rfl rfl rfl (zP rfl (zP rfl (zJ rfl (zJ rfl (zJ rfl (zJ rfl (zJ rfl (zP rfl (zP rfl (zJ rfl (zJ rfl (zJ rfl (zJ rfl (zJ rfl (zP rfl (zP rfl (zJ rfl (zJ rfl (zJ rfl (zJ rfl (zJ rfl (zP rfl (zP rfl (zJ rfl (zJ rfl (zJ rfl (zJ rfl (zJ rfl (zP rfl (zP rfl (zN (zK (zE ?_)))))))))))))))))))))))))))))))))
   exact zk_ret1 (.inr rfl) rfl rfl ⟨false, rfl, no_ (fun h => h2 (by rw [h])), hC⟩
 ·refine zP rfl (zN (zK (zS (zR (zfa rfl (zlB rfl ?_))))))
  refine zfa rfl (zlB rfl ?_)
  refine zCF rfl rfl rfl (zP rfl (zJ rfl (zJ rfl (zJ rfl (zJ rfl (zJ rfl (zP rfl (zP rfl (zJ rfl (zJ rfl (zJ rfl (zJ rfl (zJ rfl (zP rfl (zP rfl (zJ rfl (zJ rfl (zJ rfl (zJ rfl (zJ rfl (zP rfl (zP rfl (zJ rfl (zJ rfl (zJ rfl (zJ rfl (zJ rfl (zP rfl (zP rfl (zJ rfl (zJ rfl (zJ rfl (zJ rfl (zJ rfl (zP rfl (zP rfl (zN (zK (zE ?_)))))))))))))))))))))))))))))))))))))))
  exact zk_ret1 (.inr rfl) rfl rfl ⟨false, rfl, no_ (fun h => h1 (by rw [h])), hC⟩
theorem sameR_calls : ∀ (f : Nat) {w : World} {v1 v2 : Value} {t1 t2 : NT}, TreeAt w v1 t1 → TreeAt w v2 t2 → FewT t1 → FewT t2 → t1.size ≤ f → f ≤ 10000000 →
  Calls Tryz.prog 11 [v1, v2].toArray w fun e w' => ∃ q, e = .returned (.bool q) ∧ (q = true ↔ t1 = t2) ∧ Chg w w' No := by
 intro f
 induction f with
 | zero =>
  intro w v1 v2 t1 t2 g1 g2 hf1 hf2 hs _
  obtain ⟨A1, c1, rfl, hc1⟩ := g1.form
  obtain ⟨A2, c2, rfl, hc2⟩ := g2.form
  cases t1 with
  | cons x k r => simp [NT.size] at hs
  | nil =>
   refine zCz 41 Tryz.func11 ?_
   by_cases h0 : t2.len = 0
   ·have h0' := len0 h0
    subst h0'
    refine zS (zR (zP rfl (zN (zK (zS (zS (zR (zP rfl (zLn rfl (zP rfl (zLn rfl (zCF rfl rfl rfl (zN (zK (zF rfl (zA (zK (zS (zS (zR (zP rfl (zN (zK (zB ?_))))))))))))))))))))))))
    refine zc_loopW (ι := Nat) (fun i u => [(0, .slice A1 0 c1), (1, .slice A2 0 c2), (5, .int .i64 0)]) (fun i u => u = w) (fun i u => 0) 0 rfl ?_ ?_
    ·exact ⟨rfl, rfl, rfl, trivial⟩
    rintro i u rfl
    refine zS (zS (zR (zP rfl (zP rfl (zLn rfl (zCF rfl rfl rfl (zN (zK (zF rfl (zL (zX (zX (zY (zK (zS (zR (zP rfl (zN (zK (zE ?_))))))))))))))))))))
    exact zk_ret1 (.inr rfl) rfl rfl ⟨true, rfl, iff_of_true rfl rfl, Chg.refl _ _⟩
   ·have hl : NT.nil.len = 0 := rfl
    rw [hl]
    refine zS (zR (zP rfl (zN (zK (zS (zS (zR (zP rfl (zLn rfl (zP rfl (zLn rfl (zCT rfl rfl rfl (zN (zK (zT rfl (zS (zR (zP rfl (zN (zK (zE (zQ ?_))))))))))))))))))))))
    exact zk_ret1 (.inr rfl) rfl rfl ⟨false, rfl, no_ (fun h => h0 (by rw [← h]; rfl)), Chg.refl _ _⟩
 | succ f ih =>
  intro w v1 v2 t1 t2 g1 g2 hf1 hf2 hs hf
  obtain ⟨A1, c1, hv1, hc1⟩ := g1.form
  obtain ⟨A2, c2, hv2, hc2⟩ := g2.form
  have hls := t1.len_size
  subst hv1; subst hv2
  refine zCz 41 Tryz.func11 ?_
  by_cases hll : t1.len = t2.len
  ·refine zS (zR (zP rfl (zN (zK (zS (zS (zR (zP rfl (zLn rfl (zP rfl (zLn rfl (zCF rfl rfl rfl (zN (zK (zF rfl (zA (zK (zS (zS (zR (zP rfl (zN (zK (zB ?_))))))))))))))))))))))))
   refine zc_loopW (ι := Nat) (fun i u => [(0, .slice A1 t1.len c1), (1, .slice A2 t2.len c2), (5, .int .i64 i)])
    (fun i u => i ≤ t1.len ∧ (t1.dropN i = t2.dropN i ↔ t1 = t2) ∧ Chg w u No) (fun i u => t1.len - i) 0 ⟨Nat.zero_le _, Iff.rfl, Chg.refl _ _⟩ ?_ ?_
   ·exact ⟨rfl, rfl, rfl, trivial⟩
   rintro i u ⟨hi, hd, hC⟩
   by_cases hlt : i < t1.len
   ·obtain ⟨b, o, c', x, k, r, A', K, e1, hv, hN, hA, hK⟩ := (g1.no hC).at_ i hlt
    obtain ⟨b', o', c'', y, k', r', A'', K', e2, hv', hN', hA', hK'⟩ := (g2.no hC).at_ i (by omega)
    cases hv; cases hv'
    have hsz := t1.drop_size i
    rw [e1] at hsz
    simp only [NT.size] at hsz
    obtain ⟨hxa, hfk, hfr⟩ := hf1.drop t1 i x k r e1
    obtain ⟨hya, hfk', hfr'⟩ := hf2.drop t2 i y k' r' e2
    have hnx : ¬ (x = y ∧ k = k') → ¬ t1 = t2 := fun hn h => by
     rw [← hd, e1, e2] at h
     simp only [NT.cons.injEq] at h
     exact hn ⟨h.1, h.2.1⟩
    refine zS (zS (zR (zP rfl (zP rfl (zLn rfl (zCT rfl rfl rfl (zN (zK (zT rfl (zA (zK (zS (zB (zS ?_))))))))))))))
    refine zc_draw [] (fun w' => Chg u w' No) (.take 0 (.take 1 (.take 2 (.take 3 (.take 4 (.take 5 (.take 6 (.take 7 (.all1 8 (.take 9 (.take 10 (.take 11 (.take 12 (.take 13 (.take 14 (.take 15 (.take 16 (.take 17 (.take 18 (.take 19 (.take 20 (.all1 21 (.take 22 (.take 23 (.fin))))))))))))))))))))))))) (by rfl) (by kernel_rfl) (by kernel_rfl) (fun w1 hC1 hH1 => ⟨?_, ?_⟩)
    ·exact hC1
    refine ztP rfl rfl (ztP rfl rfl (zRd rfl rfl (fun _ hS => r_ia rfl rfl (by omega) (by omega)) ?_))
    refine zRd rfl rfl (fun _ hS => r_loadA (by rfl) rfl ((hN.no hS).agg (by omega))) ?_
    refine ztP rfl rfl (ztP rfl rfl (zRd rfl rfl (fun _ hS => r_ia rfl rfl (by omega) (by omega)) ?_))
    refine zRd rfl rfl (fun _ hS => r_loadA (by rfl) rfl ((hN'.no hS).agg (by omega))) ?_
    refine zs_call rfl (want_L rfl) rfl (by decide) rfl (oneD_calls (hA.no hC1) (hA'.no hC1) (hK.no hC1) (hK'.no hC1) hxa hya) ?_
    rintro _ u2 ⟨q1, rfl, hq1, hC2⟩
    have hC2 := hC1.no hC2
    refine ⟨_, rfl, hC2, ?_⟩
    cases q1
    ·refine ztP rfl rfl (ztP rfl rfl (ztP rfl rfl (ztP rfl rfl ?_)))
     iterate 3 (refine zs_take rfl (zt_skip rfl ?_))
     refine ztP rfl rfl (ztP rfl rfl ?_)
     iterate 3 (refine zs_take rfl (zt_skip rfl ?_))
     refine zs_alone rfl (za_skip rfl ?_)
     refine ztP rfl rfl (ztP rfl rfl ?_)
     refine zs_fin ?_
     refine zK (zT rfl (zS (zR (zP rfl (zN (zK (zE (zW (zQ (zQ (zW (zQ ?_))))))))))))
     exact zk_ret1 (.inr rfl) rfl rfl ⟨false, rfl, no_ (hnx (fun h => absurd (hq1.2 h.1) Bool.false_ne_true)), hC.no hC2⟩
    refine ztP rfl rfl (ztP rfl rfl (ztP rfl rfl (ztP rfl rfl (zRd rfl rfl (fun _ hS => r_ia rfl rfl (by omega) (by omega)) ?_))))
    refine zRd rfl rfl (fun _ hS => r_fa rfl) ?_
    refine zRd rfl rfl (fun _ hS => r_load1 rfl (cell_at (hN.no hS).c6 (by omega))) ?_
    refine ztP rfl rfl (ztP rfl rfl (zRd rfl rfl (fun _ hS => r_ia rfl rfl (by omega) (by omega)) ?_))
    refine zRd rfl rfl (fun _ hS => r_fa rfl) ?_
    refine zRd rfl rfl (fun _ hS => r_load1 rfl (cell_at (hN'.no hS).c6 (by omega))) ?_
    refine zs_call rfl (want_L rfl) rfl (by decide) rfl (ih (hK.no hC2) (hK'.no hC2) hfk hfk' (by omega) (by omega)) ?_
    rintro _ u3 ⟨q2, rfl, hq2, hC3⟩
    have hC3 := hC2.no hC3
    refine ⟨_, rfl, hC3, ?_⟩
    cases q2
    ·refine ztP rfl rfl (ztP rfl rfl ?_)
     refine zs_fin ?_
     refine zK (zT rfl (zS (zR (zP rfl (zN (zK (zE (zW (zQ (zQ (zW (zQ ?_))))))))))))
     exact zk_ret1 (.inr rfl) rfl rfl ⟨false, rfl, no_ (hnx (fun h => absurd (hq2.2 h.2) Bool.false_ne_true)), hC.no hC3⟩
    ·refine ztP rfl rfl (ztP rfl rfl ?_)
     refine zs_fin ?_
     refine zK (zF rfl (zA (zM (zK (zR (zP rfl (zAd rfl rfl (zP rfl (zN ?_)))))))))
     exact zk_loopW (i + 1) ⟨by omega, drop_iff hd e1 e2 (hq1.1 rfl) (hq2.1 rfl), hC.no hC3⟩ (by omega) ⟨rfl, rfl, get_int rfl (by simp), trivial⟩
   ·obtain rfl : i = t1.len := by omega
    rw [t1.drop_len, hll, t2.drop_len] at hd
    refine zS (zS (zR (zP rfl (zP rfl (zLn rfl (zCF rfl rfl rfl (zN (zK (zF rfl (zL (zX (zX (zY (zK (zS (zR (zP rfl (zN (zK (zE ?_))))))))))))))))))))
    exact zk_ret1 (.inr rfl) rfl rfl ⟨true, rfl, iff_of_true rfl (hd.1 rfl), hC⟩
  ·refine zS (zR (zP rfl (zN (zK (zS (zS (zR (zP rfl (zLn rfl (zP rfl (zLn rfl (zCT rfl rfl rfl (zN (zK (zT rfl (zS (zR (zP rfl (zN (zK (zE (zQ ?_))))))))))))))))))))))
   exact zk_ret1 (.inr rfl) rfl rfl ⟨false, rfl, no_ (fun h => hll (by rw [h])), Chg.refl _ _⟩
def Tok.k : Tok → Int
 | .start _ _ => 1
 | .fin _ => 2
 | .text _ => 3
def Tok.nm : Tok → List UInt8
 | .start nm _ => nm
 | .fin nm => nm
 | .text _ => []
def Tok.tx : Tok → List UInt8
 | .text v => v
 | _ => []
def Tok.al : Tok → List T.At
 | .start _ al => al
 | _ => []
def Tok.isText : Tok → Bool
 | .text _ => true
 | _ => false
def flatT (ts : List Tok) : List UInt8 := ts.flatMap Tok.txt
def nextTag : List Tok → Prop
 | [] => True
 | t :: _ => t.isText = false
def RunOk : List Tok → St → Prop
 | [], _ => True
 | t :: ts, s => StepOk t s ∧ (t.isText = true → nextTag ts) ∧ RunOk ts (stepT t s)
def runT : List Tok → St → St
 | [], s => s
 | t :: ts, s => runT ts (stepT t s)
theorem flat_head (ts : List Tok) (h : nextTag ts) : (flatT ts).head? = none ∨ (flatT ts).head? = some 60 := by
 cases ts with
 | nil => exact .inl rfl
 | cons t r =>
  cases t with
  | start nm al => exact .inr rfl
  | fin nm => exact .inr rfl
  | text v => cases h
theorem Tok.k5 (t : Tok) : t.k = 1 ∨ t.k = 2 ∨ t.k = 3 := by cases t <;> simp [Tok.k]
theorem nextTok_calls {w : World} (s r : List UInt8) (p : Nat) (tok : Tok) {st : St} (ho : StepOk tok st) (hs : s.drop p = tok.txt ++ r) (hr : tok.isText = true → r.head? = none ∨ r.head? = some 60) (hl : s.length ≤ 1000000000) :
  Calls Tryz.prog 23 [.string (bs s), .int .i64 (p : Nat), .int .i64 0, .string (bs [])].toArray w fun e w' => (∃ A m c, e = .returned (.tuple #[T.tokV tok.k tok.nm (.slice A m c) tok.tx, .int .i64 ((p + tok.txt.length : Nat) : Int)]) ∧ AttrS w' (.slice A m c) (encT tok.al) ∧ (tok.k ≠ 1 → Value.slice A m c = T.nS)) ∧ Chg w w' No := by
 cases tok with
 | start nm al =>
  obtain ⟨_, _, hn, ha, _⟩ := ho
  have hs' : s.drop p = 60 :: (nm ++ (T.attrsS al ++ 62 :: r)) := by rw [hs]; simp [Tok.txt]
  refine (T.nextS_calls s nm r al p hs' hn ha hl).mono ?_
  rintro e w' ⟨⟨A, m, c, rfl, hA⟩, hC⟩
  refine ⟨⟨A, m, c, ?_, ?_, fun h => absurd rfl h⟩, hC⟩
  ·have : p + nm.length + (T.attrsS al).length + 2 = p + (Tok.start nm al).txt.length := by simp [Tok.txt]; omega
   rw [this]; rfl
  ·have := hA.1.rd
   unfold AttrS
   rw [encT_len, encT_enc]
   exact this
 | fin nm =>
  obtain ⟨_, _, _, hn, _⟩ := ho
  have hs' : s.drop p = 60 :: 47 :: (nm ++ 62 :: r) := by rw [hs]; simp [Tok.txt]
  refine (T.nextE_calls s nm r p hs' hn hl).mono ?_
  rintro e w' ⟨rfl, hC⟩
  refine ⟨⟨none, 0, 0, ?_, AttrS.nil _, fun _ => rfl⟩, hC⟩
  have : p + nm.length + 3 = p + (Tok.fin nm).txt.length := by simp [Tok.txt]; omega
  rw [this]; rfl
 | text v =>
  obtain ⟨_, hv, _, hvl, _⟩ := ho
  refine (T.nextT_calls s v r p hs hv (hr rfl) hl (by omega)).mono ?_
  rintro e w' ⟨rfl, hC⟩
  exact ⟨⟨none, 0, 0, rfl, AttrS.nil _, fun _ => rfl⟩, hC⟩
theorem takeTok_calls {w : World} {b t n : Nat} {q : SQ} {st : St} (tok : Tok) (h : BS w b t q st n) (ho : StepOk tok st) (hn : n ≤ 1900000) {A : Option Addr} {m c : Nat} (ha : AttrS w (.slice A m c) (encT tok.al)) (hv : tok.k ≠ 1 → Value.slice A m c = T.nS) :
  Calls Tryz.prog 25 [.pointer (some ⟨b, 0, none⟩), T.tokV tok.k tok.nm (.slice A m c) tok.tx].toArray w (SP w b t q (stepT tok st) (n + 1)) := by
 cases tok with
 | start nm al => exact take_start h ho hn ha
 | fin nm => rw [hv (show (2 : Int) ≠ 1 by decide)]; exact take_fin h ho
 | text v => rw [hv (show (3 : Int) ≠ 1 by decide)]; exact take_txt h ho hn
theorem AttrS.upd66 {w w' : World} {v : Value} {al : List At} {b : Nat} {cs : List Value} (h : AttrS w v al) (hU : Upd w w' b 66 cs) : AttrS w' v al := RdS.upd h hU (by decide)
theorem rsNew2_calls {w : World} : Calls Tryz.prog 22 [].toArray w fun x w' => ∃ t r, x = .returned (.pointer (some ⟨t, 0, none⟩)) ∧ IsT w' t r rootN [0] ∧ Blk w' r.pm 121 [.slice none 0 0] ∧ Chg w w' No ∧ (∀ k, footT t r k → w.heap.size ≤ k) ∧ w.heap.size ≤ r.pm := by
 refine zCz 6 Tryz.func22 ?_
 refine zS (zR (zP rfl (zN (zK (zS (zR ?_))))))
 refine zCl rfl rNew_calls ?_
 rintro _ w1 ⟨pd, vn, vu, vr, ms, ks, rfl, hI, hC1, hge⟩
 refine ⟨_, rfl, ?_⟩
 refine zCl rfl rmNew_calls ?_
 rintro _ w2 ⟨pm, rfl, hN2⟩
 refine ⟨_, rfl, ?_⟩
 refine zB1 rfl (fun w3 b3 hN3 => ?_)
 refine z_buildE #[.pointer (some ⟨pd, 0, none⟩), .pointer (some ⟨pm, 0, none⟩), .slice (some ⟨b3, 0, none⟩) 1 1, .bool false] (want_L rfl) (by decide) rfl (by kernel_rfl) ?_
 refine zBx rfl (fun w4 b4 hN4 => ?_)
 have hC2 := hC1.no hN2.chg
 have hC3 := hC2.no hN3.chg
 have hC4 := hC3.no hN4.chg
 have s1 := hC1.size
 have s2 := hN2.chg.size
 have s3 := hN3.chg.size
 have e3 := hN3.at_
 have e4 := hN4.at_
 have hO3 : Own w3 3 1 (.slice (some ⟨b3, 0, none⟩) 1 1) 1 (intC [0]) := Own.mk' (junk := []) rfl (Nat.le_refl _) (by decide) (by rw [List.append_nil]; exact hN3.blk) rfl (intC_one _)
 refine zP rfl (zN (zK (zE ?_)))
 refine zk_ret1 (.inr rfl) rfl rfl ⟨b4, ⟨pd, pm, vn, vu, vr, ms, ks, .slice (some ⟨b3, 0, none⟩) 1 1⟩, rfl, ⟨hN4.blk, ((hI.no hN2.chg).no hN3.chg).no hN4.chg, hO3.no hN4.chg, fun k hk hf => ?_⟩, (hN2.blk.no hN3.chg).no hN4.chg, hC4, ?_, hN2.ge hC1⟩
 ·simp only [Value.ownBlock, Option.some.injEq] at hk
  have := hI.lt k hf
  omega
 ·rintro k (hk | hk | hk)
  ·omega
  ·simp only [Value.ownBlock, Option.some.injEq] at hk; omega
  ·exact hge k hk
def rootF : FE := ⟨[], [], .nil⟩
theorem root_ZF : ZF rootN [] [0] ([rootF].map FE.ft) rootN.length := ⟨rfl, by decide, ⟨[], rfl, .nil _⟩, rfl⟩
theorem RunOk.few {t : Tok} {ts : List Tok} {s : St} (h : RunOk (t :: ts) s) : s.1.length ≤ 700 ∧ s.1 ≠ [] := by
 obtain ⟨h1, _⟩ := h
 cases t with
 | start nm al => exact ⟨h1.2.1, h1.1⟩
 | fin nm => exact ⟨h1.1, fun he => by have h2 := h1.2.1; rw [he] at h2; simp at h2⟩
 | text v =>
  obtain ⟨h2, _, _, _, _, ⟨f, fr, h3, _⟩, _⟩ := h1
  exact ⟨h2, by rw [h3]; simp⟩
theorem txt_pos {t : Tok} {s : St} (h : StepOk t s) : 1 ≤ t.txt.length := by
 cases t with
 | start nm al => simp [Tok.txt]
 | fin nm => simp [Tok.txt]
 | text v =>
  obtain ⟨_, hv, _⟩ := h
  obtain ⟨e0, k0, _, _, h3, h4, _⟩ := T.safe_step false v hv
  show 1 ≤ (T.safeN false v).length
  rw [h3]
  have := List.length_pos_iff.mpr h4
  rw [List.length_append]; omega
theorem RunOk.len : ∀ {ts : List Tok} {s : St}, RunOk ts s → ts.length ≤ (flatT ts).length
 | [], s, h => Nat.le_refl _
 | t :: ts, s, h => by
  have h1 := RunOk.len h.2.2
  have h2 := txt_pos h.1
  unfold flatT at h1 ⊢
  rw [List.flatMap_cons, List.length_append, List.length_cons]; omega
theorem parse_calls {w : World} (s : List UInt8) (toks : List Tok) (hs : s = flatT toks) (hl : s.length ≤ 1048576) (hok : RunOk toks ([rootF], false)) (F : FE) (sk : Bool) (hrun : runT toks ([rootF], false) = ([F], sk)) (hdeep : deepT F.done ≤ 200) :
  Calls Tryz.prog 9 [.string (bs s)].toArray w fun e w' => ∃ vo, e = .returned (.tuple #[vo, .int .i64 0]) ∧ TreeAt w' vo F.done ∧ F.done.size ≤ 10000000 ∧ Chg w w' No := by
 refine zCz 46 Tryz.func9 ?_
 refine zS (zR (zP rfl (zP rfl (zN (zK (zS (zS (zR (zP rfl (zLL rfl (zCF rfl rfl rfl (zN (zK (zF rfl (zA (zK (zS (zR ?_))))))))))))))))))
 refine zCl rfl rsNew2_calls ?_
 rintro _ w1 ⟨t, r, rfl, hT, hm, hC1, hge, hgm⟩
 refine ⟨_, rfl, ?_⟩
 refine z_buildE #[.pointer (some ⟨t, 0, none⟩), .int .i64 0, .string ⟨#[]⟩, .bool false] (want_L rfl) (by decide) rfl (by kernel_rfl) ?_
 refine zBx rfl (fun w2 b hN2 => ?_)
 have hgb := hN2.ge hC1
 have hS0 : IsS w2 t ⟨r, .slice none 0 0, []⟩ rootN [0] [rootF] := by
  refine ⟨hT.no hN2.chg, ⟨hm.no hN2.chg, Own.nil⟩, rootN_WF, root_ZF, fun i => ?_⟩
  cases i with
  | zero => exact Nat.zero_le _
  | succ i => exact Nat.zero_le _
 have hB0 : IsB w2 b t ⟨r, .slice none 0 0, []⟩ rootN [0] [rootF] false := ⟨hN2.blk, hS0⟩
 have hC2 : Chg w w2 No := hC1.no hN2.chg
 have hf0 : ∀ k, ftB b t ⟨r, .slice none 0 0, []⟩ k → w.heap.size ≤ k := by
  rintro k (rfl | hk | rfl | hk)
  ·exact hgb
  ·exact hge k hk
  ·exact hgm
  ·cases hk
 have hlen := hok.len
 rw [← hs] at hlen
 refine zP rfl (zN (zK (zS (zR (zP rfl (zN (zK (zS (zB ?_)))))))))
 refine zc_loopW (ι := List Tok × Nat × St × Nat) (fun q u => [(0, .string (bs s)), (4, .pointer (some ⟨b, 0, none⟩)), (5, .int .i64 (q.2.1 : Nat))])
  (fun q u => s.drop q.2.1 = flatT q.1 ∧ q.2.1 ≤ s.length ∧ RunOk q.1 q.2.2.1 ∧ runT q.1 q.2.2.1 = ([F], sk) ∧ q.2.2.2 + q.1.length ≤ s.length + 1 ∧ ∃ qq, BS u b t qq q.2.2.1 q.2.2.2 ∧ Chg w u No ∧ ∀ k, ftB b t qq k → w.heap.size ≤ k)
  (fun q u => q.1.length) (toks, 0, ([rootF], false), 1) ⟨hs, Nat.zero_le _, hok, hrun, by show 1 + toks.length ≤ _; omega, _, ⟨rootN, [0], hB0, rfl, Nat.le_refl _⟩, hC2, hf0⟩ ⟨rfl, rfl, rfl, trivial⟩ ?_
 rintro ⟨ts, p, st, n⟩ u ⟨hd, hp, hro, hrn, hn, qq, hBS, hCu, hfu⟩
 dsimp only at hd hp hro hrn hn hBS
 obtain ⟨NN, RR, hBu, hMu, hNn⟩ := hBS
 have hbu := hBu.blk
 have hfew : st.1.length ≤ 700 ∧ st.1 ≠ [] := by
  cases ts with
  | nil => cases hrn; exact ⟨by simp, by simp⟩
  | cons t0 ts => exact hro.few
 obtain ⟨f0, fr0, hst⟩ : ∃ f fr, st.1 = f :: fr := by
  cases h : st.1 with
  | nil => exact absurd h hfew.2
  | cons f fr => exact ⟨f, fr, rfl⟩
 have hBu' := hBu
 rw [hst] at hBu' hfew
 have hfe := hfew.1
 simp only [List.length_cons] at hfe
 obtain ⟨n0', R0', rfl⟩ := hBu'.one
 refine zB (zS ?_)
 refine zc_draw [] (fun w' => Chg u w' No ∧ Blk w' b 64 [.pointer (some ⟨t, 0, none⟩), .int .i64 0, .string ⟨#[]⟩, .bool st.2]) (.take 0 (.take 1 (.take 2 (.take 4 (.take 5 (.take 6 (.take 7 (.all2 3 (.all2 8 (.take 9 (.take 10 (.take 11 (.all1 12 (.all1 13 (.take 14 (.fin))))))) 12 (.all1 8 (.take 9 (.take 10 (.take 11 (.all1 13 (.take 14 (.fin)))))))) 12 (.all1 3 (.all1 8 (.take 9 (.take 10 (.take 11 (.all1 13 (.take 14 (.fin)))))))))))))))) (by rfl) (by kernel_rfl) (by kernel_rfl) (fun u1 hCu1 _ => ⟨?_, ?_⟩)
 ·exact ⟨hCu1, hbu.no hCu1⟩
 have C := hCu1
 refine ztP rfl rfl (ztP rfl rfl (ztP rfl rfl (ztP rfl rfl (ztP rfl rfl (zRd rfl rfl (fun _ hS => r_fa rfl) ?_)))))
 refine zRd rfl rfl (fun _ hS => r_loadB rfl hS.2 (by rfl)) ?_
 cases ts with
 | nil =>
  refine zs_two ?_ ?_
  ·refine zo_call rfl (want_L rfl) rfl (by decide) rfl (bstate_calls (hBu'.no C) (by omega)) ?_
   rintro _ ua ⟨rfl, hC⟩
   have C := C.no hC
   refine ⟨_, rfl, ⟨C, hbu.no C⟩, ?_⟩
   refine zs_two ?_ ?_
   ·obtain rfl : p = s.length := by
     have : (s.drop p).length = 0 := by rw [hd]; rfl
     rw [List.length_drop] at this; omega
    refine zo_call rfl (want_L rfl) rfl (by decide) rfl (T.next0_calls s (by omega)) ?_
    rintro _ uc ⟨rfl, hC⟩
    have C := C.no hC
    refine ⟨_, rfl, ⟨C, hbu.no C⟩, ?_⟩
    refine ztP rfl rfl (ztP rfl rfl (ztP rfl rfl ?_))
    refine zs_alloc rfl (want_L rfl) (by decide) (fun ub b6 hN6 => ?_)
    have hge6 := hN6.ge C
    have hb60 : Blk ub b6 66 [.int .i64 0, .string ⟨#[]⟩, .slice none 0 0, .bool false, .string ⟨#[]⟩] := hN6.blk
    have C := C.no hN6.chg
    have hb6 := hb60
    refine ⟨⟨C, hbu.no C⟩, ?_⟩
    unfold T.tokV
    refine zs_store rfl (want_L rfl) rfl rfl rfl (by assumption) (by first | exact Nat.le_refl _ | simp [Value.cells]) (by simp [Value.cells, Value.oneCell']) (fun ud hUd => ?_)
    have C0 := C
    have C : Chg u ud No := C.upd hUd hge6
    have hb6 : Blk ud b6 66 [.int .i64 5, .string (bs []), .slice none 0 0, .bool false, .string (bs [])] := hUd.blk
    refine ⟨⟨C, hbu.no C⟩, ?_⟩
    refine ztP rfl rfl ?_
    refine zs_fin ?_
    refine zK (zS (zS (zR (zfa rfl (zlB rfl ?_)))))
    refine zCT rfl rfl rfl (zN (zK (zT rfl (zL (zX ?_)))))
    refine zY' rfl ?_
    refine zX (zY (zK (zS (zR (zP rfl (zP rfl (zfa rfl ?_)))))))
    have hBe := hBu'.no C
    have hbe := hBe.blk
    have hbt := hBe.st.site.blk
    cases hrn
    simp only [List.cons.injEq] at hst
    obtain ⟨rfl, rfl⟩ := hst
    have hlen1 := hBe.st.len.1
    simp only [List.length_cons, List.length_nil] at hlen1
    obtain rfl : R0' = [] := List.eq_nil_of_length_eq_zero (by omega)
    obtain ⟨z1, z2, ⟨ks, z3, z4⟩, z5⟩ := hBe.st.zf
    have z5 : n0' = 0 := z5
    subst z5
    rw [List.append_nil] at z3
    have htf : TF NN (NN.getD 0 n0).kids F.done := by rw [z3]; exact z4.tf
    have hsz := TF.size hBe.st.wf z2 htf
    have hNl : NN.length ≤ 1100000 := by simp only [List.length_nil] at hn; omega
    refine zlB rfl ?_
    refine zP rfl (zfa rfl (zlB rfl ?_))
    refine zCl rfl (rTree_calls hBe.st.wf (by omega) F.done.size hBe.st.site.doc 0 z2 F.done htf (Nat.le_refl _)) ?_
    rintro _ ue ⟨vo, rfl, hTo, hCe⟩
    refine ⟨_, rfl, ?_⟩
    have hTa := hTo.at'
    obtain ⟨Ao, co, rfl, _⟩ := hTa.form
    refine zP rfl (zN (zK (zS (zS (zR (zP rfl ?_))))))
    refine zCl rfl (deepR_calls F.done.size hTa (Nat.le_refl _) (by omega)) ?_
    rintro _ uf ⟨rfl, hCf⟩
    refine ⟨_, rfl, ?_⟩
    refine zCF rfl rfl rfl (zN (zK (zF rfl (zA (zK (zS (zR (zP rfl (zP rfl (zP rfl (zN (zK (zE ?_)))))))))))))
    exact zk_ret2 (.inr rfl) rfl rfl rfl ⟨_, rfl, hTa.no hCf, by omega, ((hCu.no C).no hCe).no hCf⟩
   ·refine zo_alloc rfl (want_L rfl) (by decide) (fun ub b6 hN6 => ?_)
    have hge6 := hN6.ge C
    have hb60 : Blk ub b6 66 [.int .i64 0, .string ⟨#[]⟩, .slice none 0 0, .bool false, .string ⟨#[]⟩] := hN6.blk
    have C := C.no hN6.chg
    have hb6 := hb60
    refine ⟨⟨C, hbu.no C⟩, ?_⟩
    obtain rfl : p = s.length := by
     have : (s.drop p).length = 0 := by rw [hd]; rfl
     rw [List.length_drop] at this; omega
    refine zs_call rfl (want_L rfl) rfl (by decide) rfl (T.next0_calls s (by omega)) ?_
    rintro _ uc ⟨rfl, hC⟩
    have C := C.no hC
    have hb6 := hb6.no hC
    refine ⟨_, rfl, ⟨C, hbu.no C⟩, ?_⟩
    unfold T.tokV
    refine ztP rfl rfl (ztP rfl rfl (ztP rfl rfl ?_))
    refine zs_store rfl (want_L rfl) rfl rfl rfl (by assumption) (by first | exact Nat.le_refl _ | simp [Value.cells]) (by simp [Value.cells, Value.oneCell']) (fun ud hUd => ?_)
    have C0 := C
    have C : Chg u ud No := C.upd hUd hge6
    have hb6 : Blk ud b6 66 [.int .i64 5, .string (bs []), .slice none 0 0, .bool false, .string (bs [])] := hUd.blk
    refine ⟨⟨C, hbu.no C⟩, ?_⟩
    refine ztP rfl rfl ?_
    refine zs_fin ?_
    refine zK (zS (zS (zR (zfa rfl (zlB rfl ?_)))))
    refine zCT rfl rfl rfl (zN (zK (zT rfl (zL (zX ?_)))))
    refine zY' rfl ?_
    refine zX (zY (zK (zS (zR (zP rfl (zP rfl (zfa rfl ?_)))))))
    have hBe := hBu'.no C
    have hbe := hBe.blk
    have hbt := hBe.st.site.blk
    cases hrn
    simp only [List.cons.injEq] at hst
    obtain ⟨rfl, rfl⟩ := hst
    have hlen1 := hBe.st.len.1
    simp only [List.length_cons, List.length_nil] at hlen1
    obtain rfl : R0' = [] := List.eq_nil_of_length_eq_zero (by omega)
    obtain ⟨z1, z2, ⟨ks, z3, z4⟩, z5⟩ := hBe.st.zf
    have z5 : n0' = 0 := z5
    subst z5
    rw [List.append_nil] at z3
    have htf : TF NN (NN.getD 0 n0).kids F.done := by rw [z3]; exact z4.tf
    have hsz := TF.size hBe.st.wf z2 htf
    have hNl : NN.length ≤ 1100000 := by simp only [List.length_nil] at hn; omega
    refine zlB rfl ?_
    refine zP rfl (zfa rfl (zlB rfl ?_))
    refine zCl rfl (rTree_calls hBe.st.wf (by omega) F.done.size hBe.st.site.doc 0 z2 F.done htf (Nat.le_refl _)) ?_
    rintro _ ue ⟨vo, rfl, hTo, hCe⟩
    refine ⟨_, rfl, ?_⟩
    have hTa := hTo.at'
    obtain ⟨Ao, co, rfl, _⟩ := hTa.form
    refine zP rfl (zN (zK (zS (zS (zR (zP rfl ?_))))))
    refine zCl rfl (deepR_calls F.done.size hTa (Nat.le_refl _) (by omega)) ?_
    rintro _ uf ⟨rfl, hCf⟩
    refine ⟨_, rfl, ?_⟩
    refine zCF rfl rfl rfl (zN (zK (zF rfl (zA (zK (zS (zR (zP rfl (zP rfl (zP rfl (zN (zK (zE ?_)))))))))))))
    exact zk_ret2 (.inr rfl) rfl rfl rfl ⟨_, rfl, hTa.no hCf, by omega, ((hCu.no C).no hCe).no hCf⟩
  ·refine zo_alloc rfl (want_L rfl) (by decide) (fun ub b6 hN6 => ?_)
   have hge6 := hN6.ge C
   have hb60 : Blk ub b6 66 [.int .i64 0, .string ⟨#[]⟩, .slice none 0 0, .bool false, .string ⟨#[]⟩] := hN6.blk
   have C := C.no hN6.chg
   have hb6 := hb60
   refine ⟨⟨C, hbu.no C⟩, ?_⟩
   refine zs_call rfl (want_L rfl) rfl (by decide) rfl (bstate_calls (hBu'.no C) (by omega)) ?_
   rintro _ ua ⟨rfl, hC⟩
   have C := C.no hC
   have hb6 := hb6.no hC
   refine ⟨_, rfl, ⟨C, hbu.no C⟩, ?_⟩
   obtain rfl : p = s.length := by
    have : (s.drop p).length = 0 := by rw [hd]; rfl
    rw [List.length_drop] at this; omega
   refine zs_call rfl (want_L rfl) rfl (by decide) rfl (T.next0_calls s (by omega)) ?_
   rintro _ uc ⟨rfl, hC⟩
   have C := C.no hC
   have hb6 := hb6.no hC
   refine ⟨_, rfl, ⟨C, hbu.no C⟩, ?_⟩
   unfold T.tokV
   refine ztP rfl rfl (ztP rfl rfl (ztP rfl rfl ?_))
   refine zs_store rfl (want_L rfl) rfl rfl rfl (by assumption) (by first | exact Nat.le_refl _ | simp [Value.cells]) (by simp [Value.cells, Value.oneCell']) (fun ud hUd => ?_)
   have C0 := C
   have C : Chg u ud No := C.upd hUd hge6
   have hb6 : Blk ud b6 66 [.int .i64 5, .string (bs []), .slice none 0 0, .bool false, .string (bs [])] := hUd.blk
   refine ⟨⟨C, hbu.no C⟩, ?_⟩
   refine ztP rfl rfl ?_
   refine zs_fin ?_
   refine zK (zS (zS (zR (zfa rfl (zlB rfl ?_)))))
   refine zCT rfl rfl rfl (zN (zK (zT rfl (zL (zX ?_)))))
   refine zY' rfl ?_
   refine zX (zY (zK (zS (zR (zP rfl (zP rfl (zfa rfl ?_)))))))
   have hBe := hBu'.no C
   have hbe := hBe.blk
   have hbt := hBe.st.site.blk
   cases hrn
   simp only [List.cons.injEq] at hst
   obtain ⟨rfl, rfl⟩ := hst
   have hlen1 := hBe.st.len.1
   simp only [List.length_cons, List.length_nil] at hlen1
   obtain rfl : R0' = [] := List.eq_nil_of_length_eq_zero (by omega)
   obtain ⟨z1, z2, ⟨ks, z3, z4⟩, z5⟩ := hBe.st.zf
   have z5 : n0' = 0 := z5
   subst z5
   rw [List.append_nil] at z3
   have htf : TF NN (NN.getD 0 n0).kids F.done := by rw [z3]; exact z4.tf
   have hsz := TF.size hBe.st.wf z2 htf
   have hNl : NN.length ≤ 1100000 := by simp only [List.length_nil] at hn; omega
   refine zlB rfl ?_
   refine zP rfl (zfa rfl (zlB rfl ?_))
   refine zCl rfl (rTree_calls hBe.st.wf (by omega) F.done.size hBe.st.site.doc 0 z2 F.done htf (Nat.le_refl _)) ?_
   rintro _ ue ⟨vo, rfl, hTo, hCe⟩
   refine ⟨_, rfl, ?_⟩
   have hTa := hTo.at'
   obtain ⟨Ao, co, rfl, _⟩ := hTa.form
   refine zP rfl (zN (zK (zS (zS (zR (zP rfl ?_))))))
   refine zCl rfl (deepR_calls F.done.size hTa (Nat.le_refl _) (by omega)) ?_
   rintro _ uf ⟨rfl, hCf⟩
   refine ⟨_, rfl, ?_⟩
   refine zCF rfl rfl rfl (zN (zK (zF rfl (zA (zK (zS (zR (zP rfl (zP rfl (zP rfl (zN (zK (zE ?_)))))))))))))
   exact zk_ret2 (.inr rfl) rfl rfl rfl ⟨_, rfl, hTa.no hCf, by omega, ((hCu.no C).no hCe).no hCf⟩
 | cons tok ts =>
  refine zs_two ?_ ?_
  ·refine zo_call rfl (want_L rfl) rfl (by decide) rfl (bstate_calls (hBu'.no C) (by omega)) ?_
   rintro _ ua ⟨rfl, hC⟩
   have C := C.no hC
   refine ⟨_, rfl, ⟨C, hbu.no C⟩, ?_⟩
   refine zs_two ?_ ?_
   ·refine zo_call rfl (want_L rfl) rfl (by decide) rfl (nextTok_calls s (flatT ts) p tok hro.1 (by rw [hd]; rfl) (fun h => flat_head ts (hro.2.1 h)) (by omega)) ?_
    rintro _ uc ⟨⟨A, m, c, rfl, hA, hv⟩, hC⟩
    have C := C.no hC
    refine ⟨_, rfl, ⟨C, hbu.no C⟩, ?_⟩
    refine ztP rfl rfl (ztP rfl rfl (ztP rfl rfl ?_))
    refine zs_alloc rfl (want_L rfl) (by decide) (fun ub b6 hN6 => ?_)
    have hge6 := hN6.ge C
    have hb60 : Blk ub b6 66 [.int .i64 0, .string ⟨#[]⟩, .slice none 0 0, .bool false, .string ⟨#[]⟩] := hN6.blk
    have C := C.no hN6.chg
    have hb6 := hb60
    refine ⟨⟨C, hbu.no C⟩, ?_⟩
    have hA := hA.no hN6.chg
    unfold T.tokV
    refine zs_store rfl (want_L rfl) rfl rfl rfl (by assumption) (by first | exact Nat.le_refl _ | simp [Value.cells]) (by simp [Value.cells, Value.oneCell']) (fun ud hUd => ?_)
    have C0 := C
    have C : Chg u ud No := C.upd hUd hge6
    have hb6 : Blk ud b6 66 [.int .i64 tok.k, .string (bs tok.nm), .slice A m c, .bool false, .string (bs tok.tx)] := hUd.blk
    refine ⟨⟨C, hbu.no C⟩, ?_⟩
    have hk5 := tok.k5
    refine ztP rfl rfl ?_
    refine zs_fin ?_
    refine zK (zS (zS (zR (zfa rfl (zlB rfl ?_)))))
    refine zCF rfl rfl rfl (zN (zK (zF rfl (zA (zK (zS (zR (zP rfl (zP rfl (zN (zK (zR (zP rfl (zlA rfl ?_))))))))))))))
    have hbs2 : BS ud b t qq st n := ⟨NN, _, hBu.no C, hMu, hNn⟩
    simp only [List.length_cons] at hn
    refine zCl rfl (takeTok_calls tok hbs2 hro.1 (by omega) (AttrS.upd66 hA hUd) hv) ?_
    rintro _ ue ⟨rfl, q2, hB2, hW2⟩
    refine ⟨_, rfl, ?_⟩
    refine zN (zM ?_)
    refine zk_loopW (ts, p + tok.txt.length, stepT tok st, n + 1) ⟨?_, ?_, hro.2.2, hrn, by show n + 1 + ts.length ≤ _; omega, q2, hB2, (hCu.no C).trans hW2.chg (fun k hk hf => by have := hfu k hf; omega), fun k hk => ?_⟩ (by show ts.length < (tok :: ts).length; simp) ⟨rfl, rfl, get_int rfl (by simp), trivial⟩
    ·dsimp only
     rw [← List.drop_drop, hd]
     show (tok.txt ++ flatT ts).drop _ = _
     rw [List.drop_left]
    ·dsimp only
     have : (s.drop p).length = (tok.txt ++ flatT ts).length := by rw [hd]; rfl
     rw [List.length_drop, List.length_append] at this
     omega
    ·rcases hW2.ft k hk with h1 | h1
     ·exact hfu k h1
     ·have := (hCu.no C).size; omega
   ·refine zo_alloc rfl (want_L rfl) (by decide) (fun ub b6 hN6 => ?_)
    have hge6 := hN6.ge C
    have hb60 : Blk ub b6 66 [.int .i64 0, .string ⟨#[]⟩, .slice none 0 0, .bool false, .string ⟨#[]⟩] := hN6.blk
    have C := C.no hN6.chg
    have hb6 := hb60
    refine ⟨⟨C, hbu.no C⟩, ?_⟩
    refine zs_call rfl (want_L rfl) rfl (by decide) rfl (nextTok_calls s (flatT ts) p tok hro.1 (by rw [hd]; rfl) (fun h => flat_head ts (hro.2.1 h)) (by omega)) ?_
    rintro _ uc ⟨⟨A, m, c, rfl, hA, hv⟩, hC⟩
    have C := C.no hC
    have hb6 := hb6.no hC
    refine ⟨_, rfl, ⟨C, hbu.no C⟩, ?_⟩
    unfold T.tokV
    refine ztP rfl rfl (ztP rfl rfl (ztP rfl rfl ?_))
    refine zs_store rfl (want_L rfl) rfl rfl rfl (by assumption) (by first | exact Nat.le_refl _ | simp [Value.cells]) (by simp [Value.cells, Value.oneCell']) (fun ud hUd => ?_)
    have C0 := C
    have C : Chg u ud No := C.upd hUd hge6
    have hb6 : Blk ud b6 66 [.int .i64 tok.k, .string (bs tok.nm), .slice A m c, .bool false, .string (bs tok.tx)] := hUd.blk
    refine ⟨⟨C, hbu.no C⟩, ?_⟩
    have hk5 := tok.k5
    refine ztP rfl rfl ?_
    refine zs_fin ?_
    refine zK (zS (zS (zR (zfa rfl (zlB rfl ?_)))))
    refine zCF rfl rfl rfl (zN (zK (zF rfl (zA (zK (zS (zR (zP rfl (zP rfl (zN (zK (zR (zP rfl (zlA rfl ?_))))))))))))))
    have hbs2 : BS ud b t qq st n := ⟨NN, _, hBu.no C, hMu, hNn⟩
    simp only [List.length_cons] at hn
    refine zCl rfl (takeTok_calls tok hbs2 hro.1 (by omega) (AttrS.upd66 hA hUd) hv) ?_
    rintro _ ue ⟨rfl, q2, hB2, hW2⟩
    refine ⟨_, rfl, ?_⟩
    refine zN (zM ?_)
    refine zk_loopW (ts, p + tok.txt.length, stepT tok st, n + 1) ⟨?_, ?_, hro.2.2, hrn, by show n + 1 + ts.length ≤ _; omega, q2, hB2, (hCu.no C).trans hW2.chg (fun k hk hf => by have := hfu k hf; omega), fun k hk => ?_⟩ (by show ts.length < (tok :: ts).length; simp) ⟨rfl, rfl, get_int rfl (by simp), trivial⟩
    ·dsimp only
     rw [← List.drop_drop, hd]
     show (tok.txt ++ flatT ts).drop _ = _
     rw [List.drop_left]
    ·dsimp only
     have : (s.drop p).length = (tok.txt ++ flatT ts).length := by rw [hd]; rfl
     rw [List.length_drop, List.length_append] at this
     omega
    ·rcases hW2.ft k hk with h1 | h1
     ·exact hfu k h1
     ·have := (hCu.no C).size; omega
  ·refine zo_alloc rfl (want_L rfl) (by decide) (fun ub b6 hN6 => ?_)
   have hge6 := hN6.ge C
   have hb60 : Blk ub b6 66 [.int .i64 0, .string ⟨#[]⟩, .slice none 0 0, .bool false, .string ⟨#[]⟩] := hN6.blk
   have C := C.no hN6.chg
   have hb6 := hb60
   refine ⟨⟨C, hbu.no C⟩, ?_⟩
   refine zs_call rfl (want_L rfl) rfl (by decide) rfl (bstate_calls (hBu'.no C) (by omega)) ?_
   rintro _ ua ⟨rfl, hC⟩
   have C := C.no hC
   have hb6 := hb6.no hC
   refine ⟨_, rfl, ⟨C, hbu.no C⟩, ?_⟩
   refine zs_call rfl (want_L rfl) rfl (by decide) rfl (nextTok_calls s (flatT ts) p tok hro.1 (by rw [hd]; rfl) (fun h => flat_head ts (hro.2.1 h)) (by omega)) ?_
   rintro _ uc ⟨⟨A, m, c, rfl, hA, hv⟩, hC⟩
   have C := C.no hC
   have hb6 := hb6.no hC
   refine ⟨_, rfl, ⟨C, hbu.no C⟩, ?_⟩
   unfold T.tokV
   refine ztP rfl rfl (ztP rfl rfl (ztP rfl rfl ?_))
   refine zs_store rfl (want_L rfl) rfl rfl rfl (by assumption) (by first | exact Nat.le_refl _ | simp [Value.cells]) (by simp [Value.cells, Value.oneCell']) (fun ud hUd => ?_)
   have C0 := C
   have C : Chg u ud No := C.upd hUd hge6
   have hb6 : Blk ud b6 66 [.int .i64 tok.k, .string (bs tok.nm), .slice A m c, .bool false, .string (bs tok.tx)] := hUd.blk
   refine ⟨⟨C, hbu.no C⟩, ?_⟩
   have hk5 := tok.k5
   refine ztP rfl rfl ?_
   refine zs_fin ?_
   refine zK (zS (zS (zR (zfa rfl (zlB rfl ?_)))))
   refine zCF rfl rfl rfl (zN (zK (zF rfl (zA (zK (zS (zR (zP rfl (zP rfl (zN (zK (zR (zP rfl (zlA rfl ?_))))))))))))))
   have hbs2 : BS ud b t qq st n := ⟨NN, _, hBu.no C, hMu, hNn⟩
   simp only [List.length_cons] at hn
   refine zCl rfl (takeTok_calls tok hbs2 hro.1 (by omega) (AttrS.upd66 hA hUd) hv) ?_
   rintro _ ue ⟨rfl, q2, hB2, hW2⟩
   refine ⟨_, rfl, ?_⟩
   refine zN (zM ?_)
   refine zk_loopW (ts, p + tok.txt.length, stepT tok st, n + 1) ⟨?_, ?_, hro.2.2, hrn, by show n + 1 + ts.length ≤ _; omega, q2, hB2, (hCu.no C).trans hW2.chg (fun k hk hf => by have := hfu k hf; omega), fun k hk => ?_⟩ (by show ts.length < (tok :: ts).length; simp) ⟨rfl, rfl, get_int rfl (by simp), trivial⟩
   ·dsimp only
    rw [← List.drop_drop, hd]
    show (tok.txt ++ flatT ts).drop _ = _
    rw [List.drop_left]
   ·dsimp only
    have : (s.drop p).length = (tok.txt ++ flatT ts).length := by rw [hd]; rfl
    rw [List.length_drop, List.length_append] at this
    omega
   ·rcases hW2.ft k hk with h1 | h1
    ·exact hfu k h1
    ·have := (hCu.no C).size; omega
def blocksN : List (List UInt8) := [[98, 108, 111, 99, 107, 113, 117, 111, 116, 101], [104, 50], [104, 51], [104, 52], [104, 53], [104, 54], [104, 114], [111, 108], [112], [112, 114, 101], [116, 97, 98, 108, 101], [117, 108]]
def inlineN : List (List UInt8) := [[97], [98, 114], [99, 111, 100, 101], [101, 109], [105, 109, 103], [115, 116, 114, 111, 110, 103], [115, 117, 98], [115, 117, 112]]
def lineN : List (List UInt8) := [[104, 50], [104, 51], [104, 52], [104, 53], [104, 54], [112], [112, 114, 101]]
def inlN : List (List UInt8) := [[97], [99, 111, 100, 101], [101, 109], [115, 116, 114, 111, 110, 103], [115, 117, 98], [115, 117, 112]]
def liW : List UInt8 := [108, 105]
def olW : List UInt8 := [111, 108]
def ulW : List UInt8 := [117, 108]
def quoteW : List UInt8 := [98, 108, 111, 99, 107, 113, 117, 111, 116, 101]
def textH (v : List UInt8) : Hd := hdOf (textN v)
def bareN : T.AT → NT
 | .nil => .nil
 | .cons x k r => if x.name = [] then .cons (textH x.text) .nil (bareN r) else .cons (elemH x.name x.attrs) (bareN k) (bareN r)
def toksF (nl : Bool) : T.AT → List Tok
 | .nil => []
 | .cons x k r => if x.name = [] then .text (if nl = true then 10 :: x.text else x.text) :: toksF false r
  else if x.name ∈ leafN then .start x.name x.attrs :: toksF false r
  else .start x.name x.attrs :: (toksF (decide (x.name = preW) && k.feeds) k ++ .fin x.name :: toksF false r)
section
variable {nl : Bool} {x : T.Hd} {k r : T.AT}
theorem bare_text (h : x.name = []) : bareN (.cons x k r) = .cons (textH x.text) .nil (bareN r) := by rw [bareN, if_pos h]
theorem bare_elem (h : x.name ≠ []) : bareN (.cons x k r) = .cons (elemH x.name x.attrs) (bareN k) (bareN r) := by rw [bareN, if_neg h]
theorem toks_text (h : x.name = []) : toksF nl (.cons x k r) = .text (if nl = true then 10 :: x.text else x.text) :: toksF false r := by rw [toksF, if_pos h]
theorem toks_leaf (h : x.name ≠ []) (h2 : x.name ∈ leafN) : toksF nl (.cons x k r) = .start x.name x.attrs :: toksF false r := by rw [toksF, if_neg h, if_pos h2]
theorem toks_open (h : x.name ≠ []) (h2 : x.name ∉ leafN) : toksF nl (.cons x k r) = .start x.name x.attrs :: (toksF (decide (x.name = preW) && k.feeds) k ++ .fin x.name :: toksF false r) := by rw [toksF, if_neg h, if_neg h2]
end
def SA : T.AT → Prop
 | .nil => True
 | .cons x k r => (if x.name = [] then x.text ≠ [] ∧ 0 ∉ x.text ∧ x.text.length ≤ 1000000 else T.AtOk x.attrs ∧ T.kidsA x.name k ∧ SA k) ∧ SA r
inductive Cx where
 | blocks
 | line
 | list
 | table
 | tbody
 | tr
structure Path0 (fr : List FE) : Prop where
 nop : ∀ g ∈ fr, g.nm ≠ [112]
 nof : ∀ nm ∈ fmtN, nm ∉ upN fr
def CtxOk : Cx → List FE → T.AT → Prop
 | .blocks, fr, a => Path0 fr ∧ plainG fr ∧ topN fr ∉ B.wd (B.setW 5) ∧ T.ofA blocksN a
 | .line, fr, a => plainG fr ∧ T.lineA a ∧ ∀ nm ∈ fmtN, T.hasA nm a → nm ∉ upN fr
 | .list, fr, a => Path0 fr ∧ plainG fr ∧ 2 ≤ fr.length ∧ (topN fr = olW ∨ topN fr = ulW) ∧ T.ofA [liW] a
 | .table, fr, a => Path0 fr ∧ 2 ≤ fr.length ∧ topN fr = tableW ∧ T.ofA [tbodyW] a
 | .tbody, fr, a => Path0 fr ∧ 2 ≤ fr.length ∧ topN fr = tbodyW ∧ T.ofA [trW] a
 | .tr, fr, a => Path0 fr ∧ 2 ≤ fr.length ∧ topN fr = trW ∧ T.ofA cellN a
section
variable {f f' g : FE} {fr : List FE} {a : T.AT}
theorem lastN_same (l : List (List UInt8)) (h : f'.nm = f.nm) : lastN l (f' :: fr) = lastN l (f :: fr) := by
 cases fr with
 | nil => rfl
 | cons g fr => unfold lastN; rw [h]
theorem plainG_same (h : f'.nm = f.nm) (hp : plainG (f :: fr)) : plainG (f' :: fr) := by unfold plainG at *; rw [lastN_same _ h]; exact hp
theorem upN_same (h : f'.nm = f.nm) : upN (f' :: fr) = upN (f :: fr) := by unfold upN; rw [h]
theorem Path0.same (h : f'.nm = f.nm) (hp : Path0 (f :: fr)) : Path0 (f' :: fr) := by
 refine ⟨fun g hg => ?_, fun nm hn => by rw [upN_same h]; exact hp.nof nm hn⟩
 rcases List.mem_cons.1 hg with rfl | hg
 ·rw [h]; exact hp.nop f List.mem_cons_self
 ·exact hp.nop g (List.mem_cons_of_mem _ hg)
theorem CtxOk.tail {cx : Cx} {x : T.Hd} {k r : T.AT} (h : CtxOk cx (f :: fr) (.cons x k r)) (he : f'.nm = f.nm) : CtxOk cx (f' :: fr) r := by
 cases cx with
 | blocks =>
  obtain ⟨h1, h2, h3, h4⟩ := h
  exact ⟨h1.same he, plainG_same he h2, by show f'.nm ∉ _; rw [he]; exact h3, h4.2⟩
 | line =>
  obtain ⟨h1, h2, h3⟩ := h
  refine ⟨plainG_same he h1, h2.2.2, fun nm hn hh => ?_⟩
  rw [upN_same he]
  exact h3 nm hn (.inr (.inr hh))
 | list =>
  obtain ⟨h1, h2, h3, h4, h5⟩ := h
  exact ⟨h1.same he, plainG_same he h2, h3, by show f'.nm = _ ∨ f'.nm = _; rw [he]; exact h4, h5.2⟩
 | table =>
  obtain ⟨h1, h3, h4, h5⟩ := h
  exact ⟨h1.same he, h3, by show f'.nm = _; rw [he]; exact h4, h5.2⟩
 | tbody =>
  obtain ⟨h1, h3, h4, h5⟩ := h
  exact ⟨h1.same he, h3, by show f'.nm = _; rw [he]; exact h4, h5.2⟩
 | tr =>
  obtain ⟨h1, h3, h4, h5⟩ := h
  exact ⟨h1.same he, h3, by show f'.nm = _; rw [he]; exact h4, h5.2⟩
theorem plainG_in (h : g.nm ∉ grN) (hp : plainG (f :: fr)) : plainG (g :: f :: fr) := by
 have : lastN grN (g :: f :: fr) = lastN grN (f :: fr) := if_neg h
 unfold plainG at *
 rw [this]; exact hp
theorem plainG_cell (h : g.nm ∈ cellN) : plainG (g :: f :: fr) := by
 have : lastN grN (g :: f :: fr) = g.nm := if_pos ((show ∀ a ∈ cellN, a ∈ grN by decide) _ h)
 unfold plainG
 rw [this]; exact .inr h
theorem Path0.in_ (h : g.nm ∉ fmtN) (hp : g.nm ≠ [112]) (h0 : Path0 (f :: fr)) : Path0 (g :: f :: fr) := by
 refine ⟨fun g' hg => ?_, fun nm hn hh => ?_⟩
 ·rcases List.mem_cons.1 hg with rfl | hg
  ·exact hp
  ·exact h0.nop g' hg
 ·unfold upN at hh
  split at hh
  ·cases hh
  ·rcases List.mem_cons.1 hh with rfl | hh
   ·exact h hn
   ·exact h0.nof nm hn hh
theorem upN_line (h : g.nm ∉ fmtN) (h0 : ∀ nm ∈ fmtN, nm ∉ upN (f :: fr)) : ∀ nm ∈ fmtN, nm ∉ upN (g :: f :: fr) := fun nm hn hh => by
 unfold upN at hh
 split at hh
 ·cases hh
 ·rcases List.mem_cons.1 hh with rfl | hh
  ·exact h hn
  ·exact h0 nm hn hh
theorem CtxOk.start {cx : Cx} {x : T.Hd} {k r : T.AT} (h : CtxOk cx (f :: fr) (.cons x k r)) (hn : x.name ≠ []) (hk : T.kidsA x.name k) (al : List T.At) :
  T.NmOk x.name ∧ ((x.name ∈ startN ∧ plainG (f :: fr) ∧ CondS x.name (f :: fr)) ∨ (2 ≤ (f :: fr).length ∧ ((x.name = tbodyW ∧ topN (f :: fr) = tableW) ∨ (x.name = trW ∧ topN (f :: fr) = tbodyW) ∨ (x.name ∈ cellN ∧ topN (f :: fr) = trW)))) ∧
  (x.name ∉ leafN → (∃ cx', CtxOk cx' (⟨x.name, al, .nil⟩ :: f :: fr) k) ∧ ((x.name ∈ endN ∧ plainG (⟨x.name, al, .nil⟩ :: f :: fr)) ∨ x.name = tableW ∨ x.name = tbodyW ∨ x.name = trW ∨ x.name ∈ cellN)) := by
 obtain ⟨k1, k2, k3, k4, k5, k6, k7, k8, k9⟩ := hk
 have nmok : ∀ a ∈ (startN ++ [tbodyW, trW] ++ cellN : List (List UInt8)), T.NmOk a := by
  have : ∀ a ∈ (startN ++ [tbodyW, trW] ++ cellN : List (List UInt8)), a ≠ [] ∧ (∀ c ∈ a, T.lowC c) ∧ 97 ≤ (a.getD 0 0).toNat ∧ (a.getD 0 0).toNat ≤ 122 := by decide +kernel
  intro a ha
  obtain ⟨h1, h2, h3⟩ := this a ha
  refine ⟨h1, h2, ?_⟩
  cases a with
  | nil => exact absurd rfl h1
  | cons c q => exact ⟨c, q, rfl, h3⟩
 cases cx with
 | blocks =>
  obtain ⟨h1, h2, h3, h4, _⟩ := h
  have hs : x.name ∈ startN := (show ∀ a ∈ blocksN, a ∈ startN by decide) _ h4
  refine ⟨nmok _ (by simp [hs]), .inl ⟨hs, h2, ⟨fun _ => h1.nop, fun _ f' hf => ?_, fun he => ?_, fun hf => ?_⟩⟩, fun hl => ?_⟩
  ·cases hf; exact h3
  ·exact absurd h4 (by rw [he]; decide)
  ·exact absurd hf ((show ∀ a ∈ blocksN, a ∉ fmtN by decide) _ h4)
  ·by_cases hln : x.name ∈ lineN
   ·have hg : x.name ∉ grN := (show ∀ a ∈ lineN, a ∉ grN by decide) _ hln
    have hfm : x.name ∉ fmtN := (show ∀ a ∈ lineN, a ∉ fmtN by decide) _ hln
    exact ⟨⟨.line, plainG_in hg h2, k1 hln, fun nm hnm _ => upN_line (g := ⟨x.name, al, .nil⟩) hfm h1.nof nm hnm⟩, .inl ⟨(show ∀ a ∈ lineN, a ∈ endN by decide) _ hln, plainG_in hg h2⟩⟩
   ·have hb : x.name = olW ∨ x.name = ulW ∨ x.name = quoteW ∨ x.name = tableW := by
     have : ∀ a ∈ blocksN, a ∉ lineN → a ∉ leafN → a = olW ∨ a = ulW ∨ a = quoteW ∨ a = tableW := by decide
     exact this _ h4 hln hl
    rcases hb with e | e | e | e
    ·have e0 : Path0 (⟨x.name, al, .nil⟩ :: f :: fr) := Path0.in_ (g := ⟨x.name, al, .nil⟩) (by show x.name ∉ _; rw [e]; decide) (by show x.name ≠ _; rw [e]; decide) h1
     have e1 : plainG (⟨x.name, al, .nil⟩ :: f :: fr) := plainG_in (by show x.name ∉ _; rw [e]; decide) h2
     exact ⟨⟨.list, e0, e1, by simp, .inl e, k4 (.inl e)⟩, .inl ⟨by rw [e]; decide, e1⟩⟩
    ·have e0 : Path0 (⟨x.name, al, .nil⟩ :: f :: fr) := Path0.in_ (g := ⟨x.name, al, .nil⟩) (by show x.name ∉ _; rw [e]; decide) (by show x.name ≠ _; rw [e]; decide) h1
     have e1 : plainG (⟨x.name, al, .nil⟩ :: f :: fr) := plainG_in (by show x.name ∉ _; rw [e]; decide) h2
     exact ⟨⟨.list, e0, e1, by simp, .inr e, k4 (.inr e)⟩, .inl ⟨by rw [e]; decide, e1⟩⟩
    ·have e0 : Path0 (⟨x.name, al, .nil⟩ :: f :: fr) := Path0.in_ (g := ⟨x.name, al, .nil⟩) (by show x.name ∉ _; rw [e]; decide) (by show x.name ≠ _; rw [e]; decide) h1
     have e1 : plainG (⟨x.name, al, .nil⟩ :: f :: fr) := plainG_in (by show x.name ∉ _; rw [e]; decide) h2
     exact ⟨⟨.blocks, e0, e1, by show x.name ∉ _; rw [e]; decide +kernel, k5 e⟩, .inl ⟨by rw [e]; decide, e1⟩⟩
    ·have e0 : Path0 (⟨x.name, al, .nil⟩ :: f :: fr) := Path0.in_ (g := ⟨x.name, al, .nil⟩) (by show x.name ∉ _; rw [e]; decide) (by show x.name ≠ _; rw [e]; decide) h1
     exact ⟨⟨.table, e0, by simp, e, k6 e⟩, .inr (.inl e)⟩
 | line =>
  obtain ⟨h1, ⟨h2, _⟩, h3⟩ := h
  have hin : x.name ∈ inlineN := h2.resolve_left hn
  have hs : x.name ∈ startN := (show ∀ a ∈ inlineN, a ∈ startN by decide) _ hin
  have hnp : x.name ∉ pN := (show ∀ a ∈ inlineN, a ∉ pN by decide) _ hin
  refine ⟨nmok _ (by simp [hs]), .inl ⟨hs, h1, ⟨fun hh => absurd hh hnp, fun hh => absurd hh ((show ∀ a ∈ inlineN, a ∉ headN by decide) _ hin), fun he => ?_, fun hf => h3 _ hf (.inl rfl)⟩⟩, fun hl => ?_⟩
  ·exact absurd hin (by rw [he]; decide)
  ·have hi : x.name ∈ inlN := (show ∀ a ∈ inlineN, a ∉ leafN → a ∈ inlN by decide) _ hin hl
   have hg : x.name ∉ grN := (show ∀ a ∈ inlineN, a ∉ grN by decide) _ hin
   have hcl : x.name ∉ cellN := (show ∀ a ∈ inlineN, a ∉ cellN by decide) _ hin
   obtain ⟨g1, g2⟩ := k2 hi
   refine ⟨⟨.line, plainG_in hg h1, g1, fun nm hnm hh hu => ?_⟩, .inl ⟨(show ∀ a ∈ inlN, a ∈ endN by decide) _ hi, plainG_in hg h1⟩⟩
   have e : upN (⟨x.name, al, .nil⟩ :: f :: fr) = x.name :: upN (f :: fr) := if_neg hcl
   rw [e] at hu
   rcases List.mem_cons.1 hu with rfl | hu
   ·exact g2 hh
   ·exact h3 nm hnm (.inr (.inl hh)) hu
 | list =>
  obtain ⟨h1, h2, h3, h4, h5, _⟩ := h
  have e : x.name = liW := List.mem_singleton.1 h5
  refine ⟨nmok _ (by rw [e]; decide), .inl ⟨by rw [e]; decide, h2, ⟨fun _ => h1.nop, fun hh => absurd hh (by rw [e]; decide), fun _ => ?_, fun hf => absurd hf (by rw [e]; decide)⟩⟩, fun hl => ?_⟩
  ·cases fr with
   | nil => simp at h3
   | cons g fr => exact ⟨f, g, fr, rfl, h4⟩
  ·have e0 : Path0 (⟨x.name, al, .nil⟩ :: f :: fr) := Path0.in_ (g := ⟨x.name, al, .nil⟩) (by show x.name ∉ _; rw [e]; decide) (by show x.name ≠ _; rw [e]; decide) h1
   have e1 : plainG (⟨x.name, al, .nil⟩ :: f :: fr) := plainG_in (by show x.name ∉ _; rw [e]; decide) h2
   refine ⟨?_, .inl ⟨by rw [e]; decide, e1⟩⟩
   rcases k9 (.inl e) with hk | hk
   ·exact ⟨.blocks, e0, e1, by show x.name ∉ _; rw [e]; decide +kernel, hk⟩
   ·exact ⟨.line, e1, hk, fun nm hnm _ => e0.nof nm hnm⟩
 | table =>
  obtain ⟨h1, h3, h4, h5, _⟩ := h
  have e : x.name = tbodyW := List.mem_singleton.1 h5
  refine ⟨nmok _ (by rw [e]; decide), .inr ⟨h3, .inl ⟨e, h4⟩⟩, fun hl => ⟨⟨.tbody, ?_, by simp, e, k7 e⟩, .inr (.inr (.inl e))⟩⟩
  exact Path0.in_ (g := ⟨x.name, al, .nil⟩) (by show x.name ∉ _; rw [e]; decide) (by show x.name ≠ _; rw [e]; decide) h1
 | tbody =>
  obtain ⟨h1, h3, h4, h5, _⟩ := h
  have e : x.name = trW := List.mem_singleton.1 h5
  refine ⟨nmok _ (by rw [e]; decide), .inr ⟨h3, .inr (.inl ⟨e, h4⟩)⟩, fun hl => ⟨⟨.tr, ?_, by simp, e, k8 e⟩, .inr (.inr (.inr (.inl e)))⟩⟩
  exact Path0.in_ (g := ⟨x.name, al, .nil⟩) (by show x.name ∉ _; rw [e]; decide) (by show x.name ≠ _; rw [e]; decide) h1
 | tr =>
  obtain ⟨h1, h3, h4, h5, _⟩ := h
  have hfm : x.name ∉ fmtN := (show ∀ a ∈ cellN, a ∉ fmtN by decide) _ h5
  have hp : x.name ≠ [112] := (show ∀ a ∈ cellN, a ≠ [112] by decide) _ h5
  have e0 : Path0 (⟨x.name, al, .nil⟩ :: f :: fr) := Path0.in_ (g := ⟨x.name, al, .nil⟩) hfm hp h1
  have e1 : plainG (⟨x.name, al, .nil⟩ :: f :: fr) := plainG_cell h5
  refine ⟨nmok _ (by simp [h5]), .inr ⟨h3, .inr (.inr ⟨h5, h4⟩)⟩, fun hl => ⟨?_, .inr (.inr (.inr (.inr h5)))⟩⟩
  rcases k9 (.inr h5) with hk | hk
  ·exact ⟨.blocks, e0, e1, (show ∀ a ∈ cellN, a ∉ B.wd (B.setW 5) by decide +kernel) _ h5, hk⟩
  ·exact ⟨.line, e1, hk, fun nm hnm _ => e0.nof nm hnm⟩
end
def addA (f : FE) (a : T.AT) : FE := { f with done := f.done.app (bareN a) }
def endK (sk : Bool) : T.AT → Bool
 | .nil => sk
 | .cons _ _ _ => false
theorem lastH_app : ∀ (a b : NT), b ≠ .nil → (a.app b).lastH = b.lastH
 | .nil, b, _ => rfl
 | .cons x k .nil, b, h => by
  cases b with
  | nil => exact absurd rfl h
  | cons y k' r' => rfl
 | .cons x k (.cons y k' r), b, h => by
  have := lastH_app (.cons y k' r) b h
  exact this
theorem lastH_snoc (a : NT) (x : Hd) (k : NT) : (a.snoc x k).lastH = some x := by
 unfold NT.snoc
 rw [lastH_app _ _ (by simp)]; rfl
theorem CtxOk.text {cx : Cx} {f : FE} {fr : List FE} {x : T.Hd} {k r : T.AT} (h : CtxOk cx (f :: fr) (.cons x k r)) (hn : x.name = []) : plainG (f :: fr) ∧ T.headT r = false := by
 cases cx with
 | line => exact ⟨h.1, h.2.1.2.1 hn⟩
 | blocks => exact absurd h.2.2.2.1 (by rw [hn]; decide)
 | list => exact absurd h.2.2.2.2.1 (by rw [hn]; decide)
 | table => exact absurd h.2.2.2.1 (by rw [hn]; decide)
 | tbody => exact absurd h.2.2.2.1 (by rw [hn]; decide)
 | tr => exact absurd h.2.2.2.1 (by rw [hn]; decide)
theorem nextTag_toks {nl : Bool} {r : T.AT} {rest : List Tok} (hr : T.headT r = false) (hn : nextTag rest) : nextTag (toksF nl r ++ rest) := by
 cases r with
 | nil => exact hn
 | cons x k r =>
  have h : x.name ≠ [] := fun he => by simp [T.headT, he] at hr
  by_cases h2 : x.name ∈ leafN
  ·rw [toks_leaf h h2]; exact rfl
  ·rw [toks_open h h2]; exact rfl
theorem law : ∀ (a : T.AT) (cx : Cx) (f : FE) (fr : List FE) (sk nl : Bool) (rest : List Tok), CtxOk cx (f :: fr) a → SA a → (f :: fr).length + T.deepA a ≤ 700 → nl = (sk && a.feeds) → (T.headT a = true → ∀ x, f.done.lastH = some x → x.kind ≠ 2) → nextTag rest →
  (RunOk rest (addA f a :: fr, endK sk a) → RunOk (toksF nl a ++ rest) (f :: fr, sk)) ∧ runT (toksF nl a ++ rest) (f :: fr, sk) = runT rest (addA f a :: fr, endK sk a)
 | .nil, cx, f, fr, sk, nl, rest, hc, hs, hd, hnl, hl, hn => by
  have : addA f .nil = f := by unfold addA; rw [show bareN .nil = .nil from rfl, NT.app_nil]
  rw [this]
  exact ⟨id, rfl⟩
 | .cons x k r, cx, f, fr, sk, nl, rest, hc, hs, hd, hnl, hl, hn => by
  simp only [T.deepA] at hd
  obtain ⟨hs1, hsr⟩ := hs
  by_cases hx : x.name = []
  ·obtain ⟨hg, hr⟩ := hc.text hx
   rw [if_pos hx] at hs1
   obtain ⟨t1, t2, t3⟩ := hs1
   have hfeeds : (T.AT.cons x k r).feeds = decide (x.text.head? = some 10) := by
    show (decide (x.name = []) && decide (x.text.head? = some 10)) = _
    rw [hx]; simp
   rw [hfeeds] at hnl
   obtain ⟨v, hv⟩ : ∃ v, v = if nl = true then 10 :: x.text else x.text := ⟨_, rfl⟩
   have etoks : toksF nl (.cons x k r) = .text v :: toksF false r := by rw [toks_text hx, hv]
   have estep : stepT (.text v) (f :: fr, sk) = (f.txt x.text :: fr, false) := by
    show (f.txt (if sk = true ∧ v.head? = some 10 then v.tail else v) :: fr, false) = _
    congr 3
    rw [hv, hnl]
    cases sk
    ·simp
    ·by_cases h10 : x.text.head? = some 10
     ·simp [h10]
     ·simp [h10]
   have hlast : ∀ y, f.done.lastH = some y → y.kind ≠ 2 := hl (by simp [T.headT, hx])
   have hok : StepOk (.text v) (f :: fr, sk) := by
    refine ⟨by show (f :: fr).length ≤ 700; omega, ?_, ?_, ?_, hg, ⟨f, fr, rfl, hlast⟩, fun h1 h2 => ?_⟩
    ·rw [hv]; split
     ·simp
     ·exact t1
    ·rw [hv]; split
     ·intro hm; rcases List.mem_cons.1 hm with h | h
      ·exact absurd h (by decide)
      ·exact t2 h
     ·exact t2
    ·rw [hv]; split
     ·simp only [List.length_cons]; omega
     ·omega
    ·have h1 : sk = true := h1
     rw [hv] at h2 ⊢
     rw [hnl, h1] at h2 ⊢
     by_cases h10 : x.text.head? = some 10
     ·simp [h10]; exact t1
     ·simp [h10] at h2
   have ih := law r cx (f.txt x.text) fr false false rest (hc.tail rfl) hsr (by simp only [List.length_cons] at hd ⊢; omega) (by simp) (fun h => by rw [hr] at h; cases h) hn
   have eadd : addA (f.txt x.text) r = addA f (.cons x k r) := by
    unfold addA FE.txt FE.add
    rw [bare_text hx]
    show FE.mk f.nm f.al _ = FE.mk f.nm f.al _
    congr 1
    exact NT.snoc_app _ _ _ _
   have eend : endK false r = endK sk (.cons x k r) := by cases r <;> rfl
   rw [eadd, eend] at ih
   rw [etoks, List.cons_append]
   refine ⟨fun hh => ⟨hok, fun _ => nextTag_toks hr hn, ?_⟩, ?_⟩
   ·rw [estep]; exact ih.1 hh
   ·show runT (toksF false r ++ rest) (stepT (.text v) (f :: fr, sk)) = _
    rw [estep]; exact ih.2
  ·rw [if_neg hx] at hs1
   obtain ⟨ha, hk, hsk⟩ := hs1
   obtain ⟨c1, c2, c3⟩ := hc.start hx hk x.attrs
   have hok : StepOk (.start x.name x.attrs) (f :: fr, sk) := ⟨by simp, by show (f :: fr).length ≤ 700; omega, c1, ha, c2⟩
   have eend : ∀ s, endK s r = endK sk (.cons x k r) ∨ s ≠ false := fun s => by cases s <;> cases r <;> simp [endK]
   by_cases hlf : x.name ∈ leafN
   ·have etoks : toksF nl (.cons x k r) = .start x.name x.attrs :: toksF false r := toks_leaf hx hlf
    have hkn : k = .nil := hk.2.2.1 hlf
    have estep : stepT (.start x.name x.attrs) (f :: fr, sk) = (f.shut ⟨x.name, x.attrs, .nil⟩ :: fr, false) := by
     show (startF x.name x.attrs (f :: fr), decide (x.name = preW)) = _
     rw [decide_eq_false ((show ∀ a ∈ leafN, a ≠ preW by decide) _ hlf)]
     congr 1
     exact if_pos hlf
    have hl' : T.headT r = true → ∀ y, (f.shut ⟨x.name, x.attrs, .nil⟩).done.lastH = some y → y.kind ≠ 2 := fun _ y hy => by
     have : (f.shut ⟨x.name, x.attrs, .nil⟩).done.lastH = some (elemH x.name x.attrs) := lastH_snoc _ _ _
     rw [this] at hy; cases hy; show (1 : Int) ≠ 2; decide
    have ih := law r cx (f.shut ⟨x.name, x.attrs, .nil⟩) fr false false rest (hc.tail rfl) hsr (by simp only [List.length_cons] at hd ⊢; omega) (by simp) hl' hn
    have eadd : addA (f.shut ⟨x.name, x.attrs, .nil⟩) r = addA f (.cons x k r) := by
     unfold addA FE.shut FE.add
     rw [bare_elem hx, hkn]
     show FE.mk f.nm f.al _ = FE.mk f.nm f.al _
     congr 1
     exact NT.snoc_app _ _ _ _
    rw [eadd, (eend false).resolve_right (by simp)] at ih
    rw [etoks, List.cons_append]
    refine ⟨fun hh => ⟨hok, fun h => absurd h Bool.false_ne_true, ?_⟩, ?_⟩
    ·rw [estep]; exact ih.1 hh
    ·show runT (toksF false r ++ rest) (stepT (.start x.name x.attrs) (f :: fr, sk)) = _
     rw [estep]; exact ih.2
   ·obtain ⟨⟨cx', hc'⟩, hend⟩ := c3 hlf
    have etoks : toksF nl (.cons x k r) ++ rest = .start x.name x.attrs :: (toksF (decide (x.name = preW) && k.feeds) k ++ (.fin x.name :: (toksF false r ++ rest))) := by
     rw [toks_open hx hlf]; simp
    have estep : stepT (.start x.name x.attrs) (f :: fr, sk) = (⟨x.name, x.attrs, .nil⟩ :: f :: fr, decide (x.name = preW)) := by
     show (startF x.name x.attrs (f :: fr), decide (x.name = preW)) = _
     congr 1
     exact if_neg hlf
    have ihk := law k cx' ⟨x.name, x.attrs, .nil⟩ (f :: fr) (decide (x.name = preW)) (decide (x.name = preW) && k.feeds) (.fin x.name :: (toksF false r ++ rest)) hc' hsk (by simp only [List.length_cons] at hd ⊢; omega) rfl (fun _ y hy => by cases hy) rfl
    obtain ⟨g, hg⟩ : ∃ g, g = addA ⟨x.name, x.attrs, .nil⟩ k := ⟨_, rfl⟩
    have hgn : g.nm = x.name := by rw [hg]; rfl
    have hga : g.al = x.attrs := by rw [hg]; rfl
    have hgd : g.done = bareN k := by rw [hg]; rfl
    rw [← hg] at ihk
    have hl' : T.headT r = true → ∀ y, (f.shut g).done.lastH = some y → y.kind ≠ 2 := fun _ y hy => by
     have : (f.shut g).done.lastH = some (elemH g.nm g.al) := lastH_snoc _ _ _
     rw [this] at hy; cases hy; show (1 : Int) ≠ 2; decide
    have ih := law r cx (f.shut g) fr false false rest (hc.tail rfl) hsr (by simp only [List.length_cons] at hd ⊢; omega) (by simp) hl' hn
    have eadd : addA (f.shut g) r = addA f (.cons x k r) := by
     unfold addA FE.shut FE.add
     rw [hgn, hga, hgd]
     show FE.mk f.nm f.al _ = FE.mk f.nm f.al (f.done.app (bareN (.cons x k r)))
     rw [bare_elem hx]
     congr 1
     exact NT.snoc_app _ _ _ _
    rw [eadd, (eend false).resolve_right (by simp)] at ih
    have efin : ∀ s, stepT (.fin x.name) (g :: f :: fr, s) = (f.shut g :: fr, false) := fun s => rfl
    have okfin : ∀ s, StepOk (.fin x.name) (g :: f :: fr, s) := fun s => by
     refine ⟨by simp only [List.length_cons] at hd ⊢; omega, by simp, hgn, c1, ?_⟩
     rcases hend with ⟨h1, h2⟩ | h1
     ·exact .inl ⟨h1, plainG_same hgn h2⟩
     ·exact .inr h1
    rw [etoks]
    refine ⟨fun hh => ⟨hok, fun h => absurd h Bool.false_ne_true, ?_⟩, ?_⟩
    ·rw [estep]
     refine ihk.1 ⟨okfin _, fun h => absurd h Bool.false_ne_true, ?_⟩
     rw [efin]; exact ih.1 hh
    ·show runT (toksF _ k ++ _) (stepT (.start x.name x.attrs) (f :: fr, sk)) = _
     rw [estep, ihk.2]
     show runT (toksF false r ++ rest) (stepT (.fin x.name) (g :: f :: fr, _)) = _
     rw [efin]; exact ih.2
theorem flat_toks : ∀ (a : T.AT) (nl : Bool), (nl = true → a.feeds = true) → flatT (toksF nl a) = (if nl = true then [10] else []) ++ a.text
 | .nil, nl, h => by
  cases nl
  ·rfl
  ·exact absurd (h rfl) (by simp [T.AT.feeds])
 | .cons x k r, nl, h => by
  have ihr := flat_toks r false (fun h => by cases h)
  simp only [Bool.false_eq_true, if_false, List.nil_append] at ihr
  rw [T.AT.text]
  by_cases hx : x.name = []
  ·rw [toks_text hx, if_pos hx]
   unfold flatT at ihr ⊢
   rw [List.flatMap_cons, ihr]
   cases nl
   ·rfl
   ·show T.safeN false (10 :: x.text) ++ r.text = _
    have : T.safeN false (10 :: x.text) = 10 :: T.safeN false x.text := rfl
    rw [this]; rfl
  ·have hnl : nl = false := by
    cases nl
    ·rfl
    ·have := h rfl
     simp [T.AT.feeds, hx] at this
   subst hnl
   rw [if_neg hx]
   simp only [Bool.false_eq_true, if_false, List.nil_append]
   by_cases hlf : x.name ∈ leafN
   ·have h2 : x.name = T.nBr ∨ x.name = T.nHr ∨ x.name = T.nImg := (show ∀ a ∈ leafN, a = T.nBr ∨ a = T.nHr ∨ a = T.nImg by decide) _ hlf
    rw [toks_leaf hx hlf, if_pos h2]
    unfold flatT at ihr ⊢
    rw [List.flatMap_cons, ihr]
    simp [Tok.txt, T.openS]
   ·have h2 : ¬ (x.name = T.nBr ∨ x.name = T.nHr ∨ x.name = T.nImg) := fun h => hlf (by rcases h with h | h | h <;> rw [h] <;> decide)
    rw [toks_open hx hlf, if_neg h2]
    have ihk := flat_toks k (decide (x.name = preW) && k.feeds) (fun h => by simp only [Bool.and_eq_true] at h; exact h.2)
    unfold flatT at ihr ihk ⊢
    rw [List.flatMap_cons, List.flatMap_append, List.flatMap_cons, ihk, ihr]
    have e3 : (if (decide (x.name = preW) && k.feeds) = true then [10] else ([] : List UInt8)) = if x.name = T.nPre ∧ k.feeds = true then [10] else [] := by
     have : preW = T.nPre := rfl
     rw [this]
     simp only [Bool.and_eq_true, decide_eq_true_eq]
    rw [e3]
    simp [Tok.txt, T.openS]
theorem deep_bare : ∀ a : T.AT, SA a → deepT (bareN a) ≤ T.deepA a
 | .nil, _ => Nat.le_refl _
 | .cons x k r, hs => by
  obtain ⟨hs1, hsr⟩ := hs
  have h2 := deep_bare r hsr
  by_cases hx : x.name = []
  ·rw [bare_text hx]
   simp only [deepT, T.deepA]
   omega
  ·rw [bare_elem hx]
   rw [if_neg hx] at hs1
   have h1 := deep_bare k hs1.2.2
   simp only [deepT, T.deepA]
   omega
theorem parseA_calls {w : World} (a : T.AT) (ho : T.ofA blocksN a) (hs : SA a) (hd : T.deepA a ≤ 200) (hl : a.text.length ≤ 1048576) :
  Calls Tryz.prog 9 [.string (bs a.text)].toArray w fun e w' => ∃ vo, e = .returned (.tuple #[vo, .int .i64 0]) ∧ TreeAt w' vo (bareN a) ∧ (bareN a).size ≤ 10000000 ∧ Chg w w' No := by
 have hft := flat_toks a false (fun h => by cases h)
 simp only [Bool.false_eq_true, if_false, List.nil_append] at hft
 have hc : CtxOk .blocks [rootF] a := by
  refine ⟨⟨fun g hg => ?_, fun nm hn hh => ?_⟩, .inl rfl, by decide +kernel, ho⟩
  ·rw [List.mem_singleton.1 hg]; decide
  ·revert hn hh
   have : ∀ b ∈ fmtN, b ∉ upN [rootF] := by decide
   exact this nm
 have hlaw := law a .blocks rootF [] false false [] hc hs (by simp only [List.length_cons, List.length_nil]; omega) (by simp) (fun _ x hx => by cases hx) trivial
 rw [List.append_nil] at hlaw
 have := parse_calls (w := w) a.text (toksF false a) hft.symm hl (hlaw.1 trivial) (addA rootF a) (endK false a) hlaw.2 (by have := deep_bare a hs; show deepT (NT.nil.app (bareN a)) ≤ _; show deepT (bareN a) ≤ _; omega)
 exact this
theorem AttrS_of {w : World} {v : Value} {l : List T.At} (h : T.AttrS true w v l) : AttrS w v (encT l) := by
 have := h.2 rfl
 unfold AttrS
 rw [encT_len, encT_enc]
 exact this
theorem bareC_calls : ∀ (f : Nat) {w : World} {v : Value} {t : T.AT}, T.TreeAt true w v t → t.size ≤ f → f ≤ 10000000000 →
  Calls Tryz.prog 12 [v].toArray w fun e w' => ∃ vo, e = .returned vo ∧ TreeOk w' (fun b => w.heap.size ≤ b) (fun _ => True) vo (bareN t) ∧ Chg w w' No := by
 intro f
 induction f with
 | zero =>
  intro w v t h hs _
  cases t with
  | cons x k r => simp [T.AT.size] at hs
  | nil =>
   obtain ⟨A, c, rfl, hc⟩ := h.form
   refine zCz 37 Tryz.func12 ?_
   refine zS (zR (zP rfl (zN (zK (zS (zR (zP rfl (zN (zK (zS (zS (zR (zP rfl (zN (zK (zB ?_))))))))))))))))
   refine zc_loopW (ι := Nat) (fun i u => [(0, .slice A 0 c), (3, .slice none 0 0), (4, .int .i64 0)]) (fun i u => u = w) (fun i u => 0) 0 rfl ?_ ?_
   ·exact ⟨rfl, rfl, rfl, trivial⟩
   rintro i u hu
   obtain rfl := hu.symm
   refine zS (zS (zR (zP rfl (zP rfl (zLn rfl (zCF rfl rfl rfl (zN (zK (zF rfl (zL (zX (zX (zY (zK (zS (zR (zP rfl (zP rfl (zN (zK (zE ?_)))))))))))))))))))))
   exact zk_ret1 (.inr rfl) rfl rfl ⟨_, rfl, TreeOk.nil, Chg.refl _ _⟩
 | succ f ih =>
  intro w v t h hs hf
  obtain ⟨A, c, hv, hc⟩ := h.form
  have hls := t.len_size
  subst hv
  refine zCz 37 Tryz.func12 ?_
  refine zS (zR (zP rfl (zN (zK (zS (zR (zP rfl (zN (zK (zS (zS (zR (zP rfl (zN (zK (zB ?_))))))))))))))))
  refine zc_loopW (ι := Nat × Value × NT) (fun q u => [(0, .slice A t.len c), (3, q.2.1), (4, .int .i64 q.1)])
   (fun q u => q.1 ≤ t.len ∧ Out w.heap.size (fun _ => True) u q.2.1 q.2.2 ∧ q.2.2.len = q.1 ∧ q.2.2.app (bareN (t.dropN q.1)) = bareN t ∧ Chg w u No) (fun q u => t.len - q.1) (0, .slice none 0 0, .nil)
   ⟨Nat.zero_le _, Out.nil, rfl, rfl, Chg.refl _ _⟩ ?_ ?_
  ·exact ⟨rfl, rfl, rfl, trivial⟩
  rintro ⟨i, vo, T0⟩ u ⟨hi, hOut, hTl, hd, hC⟩
  dsimp only at hi hOut hTl hd ⊢
  by_cases hlt : i < t.len
  rotate_left
  ·obtain rfl : i = t.len := by omega
   rw [t.drop_len] at hd
   have hd : T0 = bareN t := by rw [← hd]; exact (NT.app_nil _).symm
   subst hd
   refine zS (zS (zR (zP rfl (zP rfl (zLn rfl (zCF rfl rfl rfl (zN (zK (zF rfl (zL (zX (zX (zY (zK (zS (zR (zP rfl (zP rfl (zN (zK (zE ?_)))))))))))))))))))))
   exact zk_ret1 (.inr rfl) rfl rfl ⟨_, rfl, hOut.tree, hC⟩
  obtain ⟨b, o, c', x, k, r, A', F', K', e1, hv, hN, hA, hF, hK⟩ := (h.no hC).at_ i hlt
  cases hv
  obtain ⟨FA, Fm, Fc, rfl⟩ := hF
  obtain ⟨AA, cA, rfl, _⟩ := hA.form
  obtain ⟨AK, cK, rfl, _⟩ := hK.form
  have hsz := t.drop_size i
  rw [e1] at hsz
  simp only [T.AT.size] at hsz
  have edrop := t.drop_succ i x k r e1
  obtain ⟨A0, c0, hv0, hc0⟩ := hOut.form
  subst hv0
  have hBu : w.heap.size ≤ u.heap.size := hC.size
  refine zS (zS (zR (zP rfl (zP rfl (zLn rfl (zCT rfl rfl rfl (zN (zK (zT rfl (zA (zK (zS (zB (zS (zR (zP rfl (zP rfl (zIa rfl rfl ?_))))))))))))))))))
  refine z_loadA (by rfl) (want_L rfl) (by decide) rfl (hN.agg (by omega)) ?_
  refine zAl (fun u1 b5 hN5 => ?_)
  have hb50 : Blk u1 b5 43 [.string ⟨#[]⟩, .slice none 0 0, .string ⟨#[]⟩, .slice none 0 0, .slice none 0 0] := hN5.blk
  have hge5 := hN5.ge (Chg.refl u No)
  refine z_store (want_L rfl) rfl rfl rfl (by assumption) (by first | exact Nat.le_refl _ | simp [Value.cells]) (by simp [Value.cells, Value.oneCell']) (fun u2 hU2 => ?_)
  have hb5 : Blk u2 b5 43 [.string (bs x.name), .slice AA x.attrs.length cA, .string (bs x.text), .slice FA Fm Fc, .slice AK k.len cK] := hU2.blk
  have hX2 : Chg u u2 No := hN5.chg.upd hU2 hge5
  have hC2 := hC.no hX2
  have hOut2 := hOut.no hX2
  refine zN (zK (zS (zR (zfa rfl (zlB rfl ?_)))))
  refine zEq (r := []) rfl rfl (fun hx => ?_) (fun hx => ?_)
  ·refine zN (zK (zT rfl (zR (zP rfl (zfa rfl (zlB rfl ?_))))))
   refine z_buildE #[.int .i64 2, .int .i64 0, .string ⟨#[]⟩, .slice none 0 0, .string (bs x.text), .int .i64 0, .slice none 0 0] (want_L rfl) (by decide) rfl (by kernel_rfl) ?_
   refine zB1 rfl (fun u3 b3 hN3 => ?_)
   have hx9 : HR u2 ⟨2, 0, ⟨#[]⟩, .slice none 0 0, bs x.text, 0, .slice none 0 0⟩ (textH x.text) := ⟨rfl, rfl, rfl, AttrS.nil _, rfl, rfl⟩
   have hR : RdS u3 80 7 (.slice (some ⟨b3, 0, none⟩) 1 1) 1 (encN [⟨2, 0, ⟨#[]⟩, .slice none 0 0, bs x.text, 0, .slice none 0 0⟩]) := RdS.node (ks := []) hx9 RdS.nil hN3
   obtain ⟨mz, g1, g2, g3⟩ := hOut2
   have hml := Rows.len _ mz (RowsOk.rows _ mz g3)
   have hb53 := hb5.no hN3.chg
   refine z_appendO (by rfl) (by decide) (want_L rfl) (by decide) rfl rfl (g1.no hN3.chg) hR (by omega) (by omega) (fun v4 u4 hO4 hX4 hr4 => ?_)
   have hOut4 := Out.push g1 g2 g3 hx9 (by intro hl b hb; trivial) TreeOk.nil (by have := hX2.size; omega) hN3.chg hO4 hX4 hr4
   obtain ⟨A4, c4, rfl, _⟩ := hO4.rd.form
   have hC4 : Chg w u4 No := (hC2.no hN3.chg).trans hX4 (fun j hj he => by have := g2 j he; omega)
   refine zP rfl (zN (zM (zK (zR (zP rfl (zAd rfl rfl (zP rfl (zN ?_))))))))
   refine zk_loopW (i + 1, .slice A4 (mz.length + 1) c4, T0.snoc (textH x.text) .nil) ⟨by omega, hOut4, by rw [NT.snoc_len, hTl], ?_, hC4⟩ (by show t.len - (i + 1) < t.len - i; omega) ⟨rfl, rfl, get_int rfl (by simp), trivial⟩
   dsimp only
   rw [edrop, NT.snoc_app, ← bare_text (k := k) hx, ← e1]
   exact hd
  ·refine zN (zK (zF rfl ?_))
   refine zc_draw [] (fun w' => Blk w' b5 43 [.string (bs x.name), .slice AA x.attrs.length cA, .string (bs x.text), .slice FA Fm Fc, .slice AK k.len cK]) (.take 0 (.take 1 (.take 2 (.take 3 (.take 4 (.take 5 (.take 6 (.all1 7 (.take 8 (.all1 9 (.all1 10 (.take 11 (.fin))))))))))))) (by rfl) (by kernel_rfl) (by kernel_rfl) (fun u3 hC3 _ => ⟨?_, ?_⟩)
   ·exact hb5.no hC3
   have hX3 := hX2.no hC3
   refine ztP rfl rfl (zRd rfl rfl (fun _ hS => r_fa rfl) ?_)
   refine zRd rfl rfl (fun _ hS => r_loadB rfl hS (by rfl)) ?_
   refine zRd rfl rfl (fun _ hS => r_fa rfl) ?_
   refine zRd rfl rfl (fun _ hS => r_loadB rfl hS (by rfl)) ?_
   refine zRd rfl rfl (fun _ hS => r_fa rfl) ?_
   refine zRd rfl rfl (fun _ hS => r_loadB rfl hS (by rfl)) ?_
   refine zs_call rfl (want_L rfl) rfl (by decide) rfl (ih ((hK.no hX3)) (by omega) (by omega)) ?_
   rintro _ u4 ⟨vk, rfl, hTk, hC4⟩
   have hX4 := hX3.no hC4
   obtain ⟨Ak, ck, rfl, _⟩ := hTk.at'.form
   refine ⟨_, rfl, hb5.no (hC3.no hC4), ?_⟩
   refine zRd rfl rfl (fun _ hS => r_build' (cells := #[.int .i64 1, .int .i64 1, .string (bs x.name), .slice AA x.attrs.length cA, .string ⟨#[]⟩, .int .i64 0, .slice Ak (bareN k).len ck]) rfl (by kernel_rfl)) ?_
   refine zs_bs1 rfl (want_L rfl) (by decide) rfl (by rfl) (by rfl) (by decide) (by decide) (fun u5 b3 hN3 => ?_)
   have hb55 := (hb5.no (hC3.no hC4)).no hN3.chg
   refine ⟨hb55, ?_⟩
   have ha4 : AttrS u4 (.slice AA x.attrs.length cA) (encT x.attrs) := AttrS_of (hA.no hX4)
   have hx9 : HR u4 ⟨1, 1, bs x.name, .slice AA x.attrs.length cA, ⟨#[]⟩, 0, .slice Ak (bareN k).len ck⟩ (elemH x.name x.attrs) := ⟨rfl, rfl, rfl, ha4, rfl, rfl⟩
   have hTk0 := hTk
   obtain ⟨kz, hk1, _, _⟩ := hTk0
   have hR : RdS u5 80 7 (.slice (some ⟨b3, 0, none⟩) 1 1) 1 (encN [⟨1, 1, bs x.name, .slice AA x.attrs.length cA, ⟨#[]⟩, 0, .slice Ak (bareN k).len ck⟩]) := RdS.node hx9 hk1 hN3
   have hOut4 := hOut.no hX4
   obtain ⟨mz, g1, g2, g3⟩ := hOut4
   have hml := Rows.len _ mz (RowsOk.rows _ mz g3)
   have hs4 := hX4.size
   have hs3 := hX3.size
   have hvlt : ∀ k, (Value.slice A0 T0.len c0).ownBlock = some k → k < u.heap.size := fun k hk => by obtain ⟨ms, q1, _, _⟩ := hOut; exact q1.lt hk
   refine zs_appendO rfl (by rfl) (by decide) (want_L rfl) (by decide) rfl rfl (g1.no hN3.chg) hR (by omega) (by omega) (fun v6 u6 hO6 hX6 hr6 => ?_)
   have hOut6 := Out.push g1 g2 g3 hx9 (by intro hl b hb; trivial) (hTk.mono (fun b hb hk => ⟨by omega, fun he => by have := hvlt b he; omega⟩) (fun b hb hk => trivial)) (by omega) hN3.chg hO6 hX6 hr6
   refine ⟨hb55.chg hX6 (fun he => by have := hvlt _ he; omega), ?_⟩
   obtain ⟨A6, c6, rfl, _⟩ := hO6.rd.form
   have hC6 : Chg w u6 No := ((hC.no hX4).no hN3.chg).trans hX6 (fun j hj he => by have := g2 j he; omega)
   refine ztP rfl rfl ?_
   refine zs_fin ?_
   refine zM (zK (zR (zP rfl (zAd rfl rfl (zP rfl (zN ?_))))))
   refine zk_loopW (i + 1, .slice A6 (mz.length + 1) c6, T0.snoc (elemH x.name x.attrs) (bareN k)) ⟨by omega, hOut6, by rw [NT.snoc_len, hTl], ?_, hC6⟩ (by show t.len - (i + 1) < t.len - i; omega) ⟨rfl, rfl, get_int rfl (by simp), trivial⟩
   dsimp only
   rw [edrop, NT.snoc_app, ← bare_elem hx, ← e1]
   exact hd
end Go.Proofs.YtbcmiijollpgeaaGreat.D
namespace Go.Proofs.YtbcmiijollpgeaaGreat.U
open Go Go.Z Go.Proofs
def leadN (c : Nat) : Nat × Nat × Nat :=
 if c < 128 then (1, 0, 0) else if 194 ≤ c ∧ c ≤ 223 then (2, 128, 191) else if c = 224 then (3, 160, 191) else if c = 237 then (3, 128, 159) else if 225 ≤ c ∧ c ≤ 239 then (3, 128, 191)
 else if c = 240 then (4, 144, 191) else if 241 ≤ c ∧ c ≤ 243 then (4, 128, 191) else if c = 244 then (4, 128, 143) else (0, 0, 0)
def leadV (c : Nat) : Value := .tuple #[.int .i64 (leadN c).1, .int .u8 (leadN c).2.1, .int .u8 (leadN c).2.2]
theorem lead_cases (c : Nat) : (c < 128 ∧ leadN c = (1, 0, 0)) ∨ (194 ≤ c ∧ c ≤ 223 ∧ leadN c = (2, 128, 191)) ∨ (c = 224 ∧ leadN c = (3, 160, 191)) ∨ (c = 237 ∧ leadN c = (3, 128, 159)) ∨ (225 ≤ c ∧ c ≤ 239 ∧ c ≠ 237 ∧ leadN c = (3, 128, 191)) ∨
  (c = 240 ∧ leadN c = (4, 144, 191)) ∨ (241 ≤ c ∧ c ≤ 243 ∧ leadN c = (4, 128, 191)) ∨ (c = 244 ∧ leadN c = (4, 128, 143)) ∨ ((128 ≤ c ∧ c < 194 ∨ 244 < c) ∧ leadN c = (0, 0, 0)) := by
 unfold leadN
 by_cases h1 : c < 128
 ·left; exact ⟨h1, by rw [if_pos h1]⟩
 by_cases h2 : 194 ≤ c ∧ c ≤ 223
 ·right; left; exact ⟨h2.1, h2.2, by rw [if_neg h1, if_pos h2]⟩
 by_cases h3 : c = 224
 ·right; right; left; subst h3; exact ⟨rfl, rfl⟩
 by_cases h4 : c = 237
 ·right; right; right; left; subst h4; exact ⟨rfl, rfl⟩
 by_cases h5 : 225 ≤ c ∧ c ≤ 239
 ·right; right; right; right; left; exact ⟨h5.1, h5.2, h4, by rw [if_neg h1, if_neg h2, if_neg h3, if_neg h4, if_pos h5]⟩
 by_cases h6 : c = 240
 ·right; right; right; right; right; left; subst h6; exact ⟨rfl, rfl⟩
 by_cases h7 : 241 ≤ c ∧ c ≤ 243
 ·right; right; right; right; right; right; left; exact ⟨h7.1, h7.2, by rw [if_neg h1, if_neg h2, if_neg h3, if_neg h4, if_neg h5, if_neg h6, if_pos h7]⟩
 by_cases h8 : c = 244
 ·right; right; right; right; right; right; right; left; subst h8; exact ⟨rfl, rfl⟩
 ·right; right; right; right; right; right; right; right; exact ⟨by omega, by rw [if_neg h1, if_neg h2, if_neg h3, if_neg h4, if_neg h5, if_neg h6, if_neg h7, if_neg h8]⟩
theorem leadN_le (c : Nat) : (leadN c).1 ≤ 4 ∧ (leadN c).2.1 ≤ 255 ∧ (leadN c).2.2 ≤ 255 := by
 rcases lead_cases c with ⟨_, h⟩ | ⟨_, _, h⟩ | ⟨_, h⟩ | ⟨_, h⟩ | ⟨_, _, _, h⟩ | ⟨_, h⟩ | ⟨_, _, h⟩ | ⟨_, h⟩ | ⟨_, h⟩ <;> rw [h] <;> decide
theorem leadR_calls {w : World} (c : Nat) : Calls Tryz.prog 63 [.int .u8 c].toArray w fun e w' => e = .returned (leadV c) ∧ w' = w := by
 unfold leadV
 refine zCz 41 Tryz.func63 ?_
 refine zS (zR (zP rfl (zP rfl (zP rfl (zN (zK (zS (zB (zS (zR (zP rfl ?_)))))))))))
 rcases lead_cases c with ⟨h1, hv⟩ | ⟨h1, h2, hv⟩ | ⟨h1, hv⟩ | ⟨h1, hv⟩ | ⟨h1, h2, h3, hv⟩ | ⟨h1, hv⟩ | ⟨h1, h2, hv⟩ | ⟨h1, hv⟩ | ⟨h1, hv⟩ <;> rw [hv]
 ·refine zCT rfl rfl rfl (zP rfl (zN (zK (zT rfl (zS (zR (zP rfl (zP rfl (zP rfl (zN (zK (zE (zW (zQ ?_))))))))))))))
  exact zk_ret3 (.inr rfl) rfl rfl rfl rfl ⟨rfl, rfl⟩
 ·refine zCF rfl rfl rfl (zP rfl (zN (zK (zF rfl (zS (zR (zP rfl (zCT rfl rfl rfl (zP rfl (zP rfl (zCT rfl rfl rfl (zP rfl (zP rfl (zN (zK (zT rfl (zS (zR (zP rfl (zP rfl (zP rfl (zN (zK (zE (zW (zQ ?_))))))))))))))))))))))))))
  exact zk_ret3 (.inr rfl) rfl rfl rfl rfl ⟨rfl, rfl⟩
 ·refine zCF rfl rfl rfl (zP rfl (zN (zK (zF rfl (zS (zR (zP rfl (zCT rfl rfl rfl (zP rfl (zP rfl (zCF rfl rfl rfl (zP rfl (zP rfl (zN (zK (zF rfl (zS (zR (zP rfl (zCT rfl rfl rfl (zP rfl (zN (zK (zT rfl (zS (zR (zP rfl (zP rfl (zP rfl (zN (zK (zE (zW (zQ ?_))))))))))))))))))))))))))))))))))
  exact zk_ret3 (.inr rfl) rfl rfl rfl rfl ⟨rfl, rfl⟩
 ·refine zCF rfl rfl rfl (zP rfl (zN (zK (zF rfl (zS (zR (zP rfl (zCT rfl rfl rfl (zP rfl (zP rfl (zCF rfl rfl rfl (zP rfl (zP rfl (zN (zK (zF rfl (zS (zR (zP rfl (zCF rfl rfl rfl (zP rfl (zN (zK (zF rfl (zS (zR (zP rfl (zCT rfl rfl rfl (zP rfl (zN (zK (zT rfl (zS (zR (zP rfl (zP rfl (zP rfl (zN (zK ?_)))))))))))))))))))))))))))))))))))))))
  refine zE (zW (zQ ?_))
  exact zk_ret3 (.inr rfl) rfl rfl rfl rfl ⟨rfl, rfl⟩
 ·refine zCF rfl rfl rfl (zP rfl (zN (zK (zF rfl (zS (zR (zP rfl (zCT rfl rfl rfl (zP rfl (zP rfl (zCF rfl rfl rfl (zP rfl (zP rfl (zN (zK (zF rfl (zS (zR (zP rfl (zCF rfl rfl rfl (zP rfl (zN (zK (zF rfl (zS (zR (zP rfl (zCF rfl rfl rfl (zP rfl (zN (zK (zF rfl (zS (zR (zP rfl (zCT rfl rfl rfl (zP rfl (zP rfl (zCT rfl rfl rfl ?_)))))))))))))))))))))))))))))))))))))))
  refine zP rfl (zP rfl (zN (zK (zT rfl (zS (zR (zP rfl (zP rfl (zP rfl (zN (zK (zE (zW (zQ ?_))))))))))))))
  exact zk_ret3 (.inr rfl) rfl rfl rfl rfl ⟨rfl, rfl⟩
 ·refine zCF rfl rfl rfl (zP rfl (zN (zK (zF rfl (zS (zR (zP rfl (zCT rfl rfl rfl (zP rfl (zP rfl (zCF rfl rfl rfl (zP rfl (zP rfl (zN (zK (zF rfl (zS (zR (zP rfl (zCF rfl rfl rfl (zP rfl (zN (zK (zF rfl (zS (zR (zP rfl (zCF rfl rfl rfl (zP rfl (zN (zK (zF rfl (zS (zR (zP rfl (zCT rfl rfl rfl (zP rfl (zP rfl (zCF rfl rfl rfl ?_)))))))))))))))))))))))))))))))))))))))
  refine zP rfl (zP rfl (zN (zK (zF rfl (zS (zR (zP rfl (zCT rfl rfl rfl (zP rfl (zN (zK (zT rfl (zS (zR (zP rfl (zP rfl (zP rfl (zN (zK (zE (zW (zQ ?_))))))))))))))))))))))
  exact zk_ret3 (.inr rfl) rfl rfl rfl rfl ⟨rfl, rfl⟩
 ·refine zCF rfl rfl rfl (zP rfl (zN (zK (zF rfl (zS (zR (zP rfl (zCT rfl rfl rfl (zP rfl (zP rfl (zCF rfl rfl rfl (zP rfl (zP rfl (zN (zK (zF rfl (zS (zR (zP rfl (zCF rfl rfl rfl (zP rfl (zN (zK (zF rfl (zS (zR (zP rfl (zCF rfl rfl rfl (zP rfl (zN (zK (zF rfl (zS (zR (zP rfl (zCT rfl rfl rfl (zP rfl (zP rfl (zCF rfl rfl rfl ?_)))))))))))))))))))))))))))))))))))))))
  refine zP rfl (zP rfl (zN (zK (zF rfl (zS (zR (zP rfl (zCF rfl rfl rfl (zP rfl (zN (zK (zF rfl (zS (zR (zP rfl (zCT rfl rfl rfl (zP rfl (zP rfl (zCT rfl rfl rfl (zP rfl (zP rfl (zN (zK (zT rfl (zS (zR (zP rfl (zP rfl (zP rfl (zN (zK (zE (zW (zQ ?_))))))))))))))))))))))))))))))))))
  exact zk_ret3 (.inr rfl) rfl rfl rfl rfl ⟨rfl, rfl⟩
 ·refine zCF rfl rfl rfl (zP rfl (zN (zK (zF rfl (zS (zR (zP rfl (zCT rfl rfl rfl (zP rfl (zP rfl (zCF rfl rfl rfl (zP rfl (zP rfl (zN (zK (zF rfl (zS (zR (zP rfl (zCF rfl rfl rfl (zP rfl (zN (zK (zF rfl (zS (zR (zP rfl (zCF rfl rfl rfl (zP rfl (zN (zK (zF rfl (zS (zR (zP rfl (zCT rfl rfl rfl (zP rfl (zP rfl (zCF rfl rfl rfl ?_)))))))))))))))))))))))))))))))))))))))
  refine zP rfl (zP rfl (zN (zK (zF rfl (zS (zR (zP rfl (zCF rfl rfl rfl (zP rfl (zN (zK (zF rfl (zS (zR (zP rfl (zCT rfl rfl rfl (zP rfl (zP rfl (zCF rfl rfl rfl (zP rfl (zP rfl (zN (zK (zF rfl (zS (zR (zP rfl (zCT rfl rfl rfl (zP rfl (zN (zK (zT rfl (zS (zR (zP rfl (zP rfl (zP rfl (zN (zK ?_)))))))))))))))))))))))))))))))))))))))
  refine zE (zW (zQ ?_))
  exact zk_ret3 (.inr rfl) rfl rfl rfl rfl ⟨rfl, rfl⟩
 ·rcases h1 with ⟨h1, h2⟩ | h1
  ·refine zCF rfl rfl rfl (zP rfl (zN (zK (zF rfl (zS (zR (zP rfl (zCF rfl rfl rfl (zP rfl (zP rfl (zJ rfl (zP rfl (zP rfl (zN (zK (zF rfl (zS (zR (zP rfl (zCF rfl rfl rfl (zP rfl (zN (zK (zF rfl (zS (zR (zP rfl (zCF rfl rfl rfl (zP rfl (zN (zK (zF rfl (zS (zR (zP rfl (zCF rfl rfl rfl (zP rfl (zP rfl (zJ rfl ?_)))))))))))))))))))))))))))))))))))))))
   refine zP rfl (zP rfl (zN (zK (zF rfl (zS (zR (zP rfl (zCF rfl rfl rfl (zP rfl (zN (zK (zF rfl (zS (zR (zP rfl (zCF rfl rfl rfl (zP rfl (zP rfl (zJ rfl (zP rfl (zP rfl (zN (zK (zF rfl (zS (zR (zP rfl (zCF rfl rfl rfl (zP rfl (zN (zK (zF rfl (zA (zM (zK (zS (zR (zP rfl (zP rfl (zP rfl ?_))))))))))))))))))))))))))))))))))))))))
   refine zN (zK (zE ?_))
   exact zk_ret3 (.inr rfl) rfl rfl rfl rfl ⟨rfl, rfl⟩
  ·refine zCF rfl rfl rfl (zP rfl (zN (zK (zF rfl (zS (zR (zP rfl (zCT rfl rfl rfl (zP rfl (zP rfl (zCF rfl rfl rfl (zP rfl (zP rfl (zN (zK (zF rfl (zS (zR (zP rfl (zCF rfl rfl rfl (zP rfl (zN (zK (zF rfl (zS (zR (zP rfl (zCF rfl rfl rfl (zP rfl (zN (zK (zF rfl (zS (zR (zP rfl (zCT rfl rfl rfl (zP rfl (zP rfl (zCF rfl rfl rfl ?_)))))))))))))))))))))))))))))))))))))))
   refine zP rfl (zP rfl (zN (zK (zF rfl (zS (zR (zP rfl (zCF rfl rfl rfl (zP rfl (zN (zK (zF rfl (zS (zR (zP rfl (zCT rfl rfl rfl (zP rfl (zP rfl (zCF rfl rfl rfl (zP rfl (zP rfl (zN (zK (zF rfl (zS (zR (zP rfl (zCF rfl rfl rfl (zP rfl (zN (zK (zF rfl (zA (zM (zK (zS (zR (zP rfl (zP rfl (zP rfl ?_))))))))))))))))))))))))))))))))))))))))
   refine zN (zK (zE ?_))
   exact zk_ret3 (.inr rfl) rfl rfl rfl rfl ⟨rfl, rfl⟩
theorem leadR_calls' {w : World} (c n lo hi : Nat) (hv : leadN c = (n, lo, hi)) : Calls Tryz.prog 63 [.int .u8 c].toArray w fun e w' => e = .returned (.tuple #[.int .i64 n, .int .u8 lo, .int .u8 hi]) ∧ w' = w := by
 have := leadR_calls (w := w) c
 unfold leadV at this
 rwa [hv] at this
theorem byte_drop (l : List UInt8) (i k : Nat) : byteL (l.drop i) k = byteL l (i + k) := by
 simp [byteL, List.getD_eq_getElem?_getD, List.getElem?_drop]
def contS (s : List UInt8) (n : Nat) : Nat → Nat → Nat → Nat → Nat
 | 0, k, _, _ => k
 | f + 1, k, lo, hi => if k < n ∧ k < s.length ∧ lo ≤ byteL s k ∧ byteL s k ≤ hi then contS s n f (k + 1) 128 191 else k
def sizeS (s : List UInt8) : Nat := if (leadN (byteL s 0)).1 = 0 then 0 else contS s (leadN (byteL s 0)).1 ((leadN (byteL s 0)).1 - 1) 1 (leadN (byteL s 0)).2.1 (leadN (byteL s 0)).2.2
def okS (s : List UInt8) : Bool := decide (0 < (leadN (byteL s 0)).1 ∧ sizeS s = (leadN (byteL s 0)).1)
theorem contS_le (s : List UInt8) (n : Nat) : ∀ f k lo hi, k ≤ s.length → contS s n f k lo hi ≤ s.length ∧ contS s n f k lo hi ≤ k + f
 | 0, k, _, _, h => ⟨h, Nat.le_refl _⟩
 | f + 1, k, lo, hi, h => by
  unfold contS
  split
  ·rename_i hc
   have := contS_le s n f (k + 1) 128 191 (by omega)
   omega
  ·omega
theorem sizeS_le (s : List UInt8) (h : s ≠ []) : sizeS s ≤ s.length ∧ sizeS s ≤ 4 := by
 have hl : 1 ≤ s.length := by cases s <;> simp_all
 have := leadN_le (byteL s 0)
 unfold sizeS
 split
 ·omega
 ·have := contS_le s (leadN (byteL s 0)).1 ((leadN (byteL s 0)).1 - 1) 1 (leadN (byteL s 0)).2.1 (leadN (byteL s 0)).2.2 hl
  omega
theorem okS_size {s : List UInt8} (h : okS s = true) : 1 ≤ sizeS s := by
 unfold okS at h; simp at h; omega
theorem part_calls {w : World} {l : List UInt8} (hl : l.length ≤ 2000000) (i : Nat) (hi : i < l.length) :
  Calls Tryz.prog 36 [.string (bs l), .int .i64 i].toArray w fun e w' => e = .returned (.tuple #[.int .i64 (sizeS (l.drop i)), .bool (okS (l.drop i))]) ∧ w' = w := by
 have hS : (l.drop i).length = l.length - i := by simp
 obtain ⟨n, lo, hi', hv⟩ : ∃ n lo hi, leadN (byteL l i) = (n, lo, hi) := ⟨_, _, _, rfl⟩
 have hle := leadN_le (byteL l i)
 have hv0 : leadN (byteL (l.drop i) 0) = (n, lo, hi') := by rw [byte_drop]; exact hv
 rw [hv] at hle
 obtain ⟨hn4, hlo, hhi⟩ := hle
 dsimp only at hn4 hlo hhi
 refine zCz 58 Tryz.func36 ?_
 refine zS (zR (zP rfl (zP rfl (zN (zK (zS (zR (zP rfl (zP rfl (zIx rfl rfl ?_))))))))))
 refine zCl rfl (leadR_calls' (byteL l i) n lo hi' hv) ?_
 rintro _ w1 ⟨rfl, rfl⟩
 refine ⟨_, rfl, ?_⟩
 by_cases h2 : n < 2
 ·have e1 : sizeS (l.drop i) = n := by
   unfold sizeS; rw [hv0]; dsimp only
   split
   ·omega
   ·rw [show n - 1 = 0 by omega]; show 1 = n; omega
  have e2 : okS (l.drop i) = decide (n = 1) := by
   unfold okS; rw [e1, hv0]; dsimp only
   by_cases hq : n = 1
   ·subst hq; rfl
   ·rw [decide_eq_false hq, decide_eq_false]; omega
  rw [e1, e2]
  refine zP rfl (zP rfl (zP rfl (zP rfl (zP rfl (zP rfl (zP rfl (zN (zK (zS (zS (zR (zP rfl (zCT rfl rfl rfl (zN (zK (zT rfl (zS (zR (zP rfl (zP rfl ?_))))))))))))))))))))
  refine z_cmpB (r := decide (n = 1)) (want_L rfl) (by decide) rfl rfl rfl (by simp; omega) ?_
  refine zP rfl (zP rfl (zN (zK (zE (zQ ?_)))))
  exact zk_ret2 (.inr rfl) rfl rfl rfl ⟨rfl, rfl⟩
 ·have e1 : sizeS (l.drop i) = contS (l.drop i) n (n - 1) 1 lo hi' := by unfold sizeS; rw [hv0]; rw [if_neg (by dsimp only; omega)]
  refine zP rfl (zP rfl (zP rfl (zP rfl (zP rfl (zP rfl (zP rfl (zN (zK (zS (zS (zR (zP rfl (zCF rfl rfl rfl (zN (zK (zF rfl (zA (zK (zS (zR (zP rfl (zN (zK (zS (zB ?_)))))))))))))))))))))))))
  refine zc_midB (fun u => u = w1) [(6, .int .i64 n), (9, .int .i64 (sizeS (l.drop i)))] ?_ ?_
  ·refine zc_loop (ι := Nat × Nat × Nat) (fun q => [(0, .string (bs l)), (1, .int .i64 i), (6, .int .i64 n), (7, .int .u8 q.2.1), (8, .int .u8 q.2.2), (9, .int .i64 q.1)]) (fun _ => w1)
    (fun q => 1 ≤ q.1 ∧ q.1 ≤ n ∧ sizeS (l.drop i) = contS (l.drop i) n (n - q.1) q.1 q.2.1 q.2.2) (fun q => n - q.1) (1, lo, hi') ⟨Nat.le_refl _, by omega, e1⟩ ?_ ?_ ?_
   ·rfl
   ·exact ⟨rfl, rfl, rfl, rfl, rfl, rfl, trivial⟩
   rintro ⟨k, lo, hi''⟩ ⟨hk1, hkn, hk⟩
   dsimp only at hk1 hkn hk ⊢
   by_cases hlt : k < n
   ·have hun : contS (l.drop i) n (n - k) k lo hi'' = if k < n ∧ k < (l.drop i).length ∧ lo ≤ byteL (l.drop i) k ∧ byteL (l.drop i) k ≤ hi'' then contS (l.drop i) n (n - (k + 1)) (k + 1) 128 191 else k := by
     rw [show n - k = (n - (k + 1)) + 1 by omega, contS]
    rw [hun, hS, byte_drop] at hk
    have hbad : ¬ (k < n ∧ k < l.length - i ∧ lo ≤ byteL l (i + k) ∧ byteL l (i + k) ≤ hi'') → sizeS (l.drop i) = k := fun hq => by
     rw [if_neg hq] at hk; exact hk
    by_cases hin : i + k < l.length
    ·have hbyte : (l.getD (i + k) 0).toNat = byteL l (i + k) := rfl
     by_cases hlo2 : lo ≤ byteL l (i + k)
     ·by_cases hhi2 : byteL l (i + k) ≤ hi''
      ·refine zS (zS (zR (zP rfl (zP rfl (zCT rfl rfl rfl (zP rfl (zP rfl (zP rfl (zAd rfl rfl (zP rfl (zLL rfl (zCT rfl rfl rfl (zP rfl (zP rfl (zP rfl (zP rfl (zP rfl (zAd rfl rfl (zIx rfl rfl (zP rfl (zCT rfl rfl rfl (zP rfl (zP rfl (zP rfl (zP rfl (zP rfl (zAd rfl rfl (zIx rfl rfl (zP rfl (zCT rfl rfl rfl (zP rfl (zN (zK (zT rfl (zA (zK (zB (zS (zR ?_)))))))))))))))))))))))))))))))))))))))
       refine zP rfl (zAd rfl rfl (zP rfl (zN (zK (zR (zP rfl (zP rfl (zN (zM ?_)))))))))
       refine zk_loop (k + 1, 128, 191) ⟨by omega, by omega, ?_⟩ (by simp; omega) rfl ⟨rfl, rfl, rfl, rfl, rfl, get_int rfl (by simp), trivial⟩
       rw [hk, if_pos ⟨hlt, by omega, hlo2, hhi2⟩]
      ·have g1 := hbad (fun h => hhi2 h.2.2.2)
       refine zS (zS (zR (zP rfl (zP rfl (zCT rfl rfl rfl (zP rfl (zP rfl (zP rfl (zAd rfl rfl (zP rfl (zLL rfl (zCT rfl rfl rfl (zP rfl (zP rfl (zP rfl (zP rfl (zP rfl (zAd rfl rfl (zIx rfl rfl (zP rfl (zCT rfl rfl rfl (zP rfl (zP rfl (zP rfl (zP rfl (zP rfl (zAd rfl rfl (zIx rfl rfl (zP rfl (zCF rfl rfl rfl (zP rfl (zN (zK (zF rfl (zL (zX (zX (zY ?_))))))))))))))))))))))))))))))))))))))
       exact zk_mid rfl ⟨rfl, get_int rfl (by omega), trivial⟩
     ·have g1 := hbad (fun h => hlo2 h.2.2.1)
      refine zS (zS (zR (zP rfl (zP rfl (zCT rfl rfl rfl (zP rfl (zP rfl (zP rfl (zAd rfl rfl (zP rfl (zLL rfl (zCT rfl rfl rfl (zP rfl (zP rfl (zP rfl (zP rfl (zP rfl (zAd rfl rfl (zIx rfl rfl (zP rfl (zCF rfl rfl rfl (zP rfl (zP rfl (zP rfl (zP rfl (zP rfl (zJ rfl (zJ rfl (zP rfl (zJ rfl (zP rfl (zN (zK (zF rfl (zL (zX (zX (zY ?_))))))))))))))))))))))))))))))))))))))
      exact zk_mid rfl ⟨rfl, get_int rfl (by omega), trivial⟩
    ·have g1 := hbad (fun h => hin (by omega))
     refine zS (zS (zR (zP rfl (zP rfl (zCT rfl rfl rfl (zP rfl (zP rfl (zP rfl (zAd rfl rfl (zP rfl (zLL rfl (zCF rfl rfl rfl (zP rfl (zP rfl (zP rfl (zP rfl (zP rfl (zJ rfl (zJ rfl (zP rfl (zJ rfl (zP rfl (zP rfl (zP rfl (zP rfl (zP rfl (zJ rfl (zJ rfl (zP rfl (zJ rfl (zP rfl (zN (zK (zF rfl (zL (zX (zX (zY ?_))))))))))))))))))))))))))))))))))))))
     exact zk_mid rfl ⟨rfl, get_int rfl (by omega), trivial⟩
   ·obtain rfl : k = n := by omega
    rw [Nat.sub_self] at hk
    have hk : sizeS (l.drop i) = k := hk
    refine zS (zS (zR (zP rfl (zP rfl (zCF rfl rfl rfl (zP rfl (zP rfl (zP rfl (zJ rfl (zP rfl (zJ rfl (zJ rfl (zP rfl (zP rfl (zP rfl (zP rfl (zP rfl (zJ rfl (zJ rfl (zP rfl (zJ rfl (zP rfl (zP rfl (zP rfl (zP rfl (zP rfl (zJ rfl (zJ rfl (zP rfl (zJ rfl (zP rfl (zN (zK (zF rfl (zL (zX (zX (zY ?_))))))))))))))))))))))))))))))))))))))
    exact zk_mid rfl ⟨rfl, get_int rfl (by omega), trivial⟩
  rintro u rfl
  refine zS (zR (zP rfl (zP rfl (zP rfl ?_))))
  refine z_cmpB (r := okS (l.drop i)) (want_L rfl) (by decide) rfl rfl rfl (by unfold okS; rw [hv0]; simp; omega) ?_
  refine zP rfl (zP rfl (zN (zK (zE ?_))))
  exact zk_ret2 (.inr rfl) rfl rfl rfl ⟨rfl, rfl⟩
def lost : List UInt8 := [239, 191, 189]
def bom : List UInt8 := [239, 187, 191]
def pieceS (s : List UInt8) : List UInt8 := if okS s then s.take (sizeS s) else lost
def decS : Nat → List UInt8 → List UInt8
 | 0, _ => []
 | f + 1, s => if s = [] then [] else pieceS s ++ decS f (s.drop (max (sizeS s) 1))
def dec (s : List UInt8) : List UInt8 := decS s.length s
theorem decS_nil : ∀ f, decS f [] = []
 | 0 => rfl
 | f + 1 => by simp [decS]
theorem decS_fuel : ∀ (f g : Nat) (s : List UInt8), s.length ≤ f → s.length ≤ g → decS f s = decS g s
 | 0, g, s, hf, hg => by
  have : s = [] := List.eq_nil_of_length_eq_zero (by omega)
  subst this; simp [decS_nil]
 | f + 1, 0, s, hf, hg => by
  have : s = [] := List.eq_nil_of_length_eq_zero (by omega)
  subst this; simp [decS_nil]
 | f + 1, g + 1, s, hf, hg => by
  unfold decS
  split
  ·rfl
  ·rw [decS_fuel f g _ (by rw [List.length_drop]; omega) (by rw [List.length_drop]; omega)]
theorem dec_cons (s : List UInt8) (h : s ≠ []) : dec s = pieceS s ++ dec (s.drop (max (sizeS s) 1)) := by
 have hl : 1 ≤ s.length := by cases s <;> simp_all
 unfold dec
 conv => lhs; rw [show s.length = (s.length - 1) + 1 by omega]; unfold decS
 rw [if_neg h, decS_fuel (s.length - 1) _ _ (by rw [List.length_drop]; omega) (Nat.le_refl _)]
theorem dec_nil : dec [] = [] := rfl
theorem piece_len (s : List UInt8) (h : s ≠ []) : (pieceS s).length ≤ 3 * max (sizeS s) 1 := by
 have := sizeS_le s h
 unfold pieceS
 split
 ·rw [List.length_take]; omega
 ·simp [lost]; omega
def stripN (l : List UInt8) : List UInt8 := if l.take 3 = bom then l.drop 3 else l
def decode (l : List UInt8) : List UInt8 := dec (stripN l)
theorem drop_ne {l : List UInt8} {i : Nat} (h : i < l.length) : l.drop i ≠ [] := by
 intro he; have := congrArg List.length he; rw [List.length_drop] at this; simp at this; omega
theorem take3 (l : List UInt8) : l.take 3 = bom ↔ 3 ≤ l.length ∧ byteL l 0 = 239 ∧ byteL l 1 = 187 ∧ byteL l 2 = 191 := by
 have key : ∀ b : UInt8, ∀ k : Nat, k < 256 → (b.toNat = k ↔ b = UInt8.ofNat k) := fun b k hk => by
  constructor
  ·intro h; rw [← h]; simp
  ·intro h; rw [h]; simp; omega
 match l with
 | [] => simp [bom, byteL]
 | [a] => simp [bom]
 | [a, b] => simp [bom]
 | a :: b :: c :: r =>
  simp only [List.take_succ_cons, List.take_zero, bom, List.cons.injEq, and_true, byteL, List.getD_cons_zero, List.getD_cons_succ, List.length_cons]
  rw [key a 239 (by omega), key b 187 (by omega), key c 191 (by omega)]
  simp
theorem decodeR_calls {w : World} {l : List UInt8} (hl : l.length ≤ 2000000) :
  Calls Tryz.prog 29 [.string (bs l)].toArray w fun e w' => e = .returned (.string (bs (decode l))) ∧ w' = w := by
 refine zCz 43 Tryz.func29 ?_
 refine zS (zR (zP rfl (zN (zK ?_))))
 refine zc_mid (fun u => u = w) [(0, .string (bs (stripN l)))] ?_ ?_
 ·by_cases h3 : 3 ≤ l.length
  ·refine zS (zR (zP rfl (zLL rfl (zCT rfl rfl rfl (zP rfl (zP rfl ?_))))))
   refine z_cutN 0 3 (want_L rfl) (by decide) rfl rfl rfl rfl rfl (by omega) h3 ?_
   refine z_eqLB (q := decide (l.take 3 = bom)) (want_L rfl) (by decide) rfl rfl (decide_eq_true_iff.trans Iff.rfl) ?_
   unfold stripN
   by_cases hb : l.take 3 = bom
   ·rw [decide_eq_true hb, if_pos hb]
    refine zP rfl (zN (zK (zT rfl (zR (zP rfl ?_)))))
    refine z_cutN 3 l.length (want_L rfl) (by decide) rfl rfl rfl rfl rfl h3 (Nat.le_refl _) ?_
    refine zP rfl (zN ?_)
    refine zk_mid rfl ⟨get_eq rfl ?_, trivial⟩
    rw [List.take_of_length_le (by rw [List.length_drop]; omega)]
   ·rw [decide_eq_false hb, if_neg hb]
    refine zP rfl (zN (zK (zF rfl (zA ?_))))
    exact zk_mid rfl ⟨rfl, trivial⟩
  ·have hb : ¬ l.take 3 = bom := fun hb => h3 ((take3 l).1 hb).1
   unfold stripN
   rw [if_neg hb]
   refine zS (zR (zP rfl (zLL rfl (zCF rfl rfl rfl (zP rfl (zP rfl (zJ rfl (zJ rfl (zP rfl (zN (zK (zF rfl (zA ?_)))))))))))))
   exact zk_mid rfl ⟨rfl, trivial⟩
 rintro u rfl
 have hsl : (stripN l).length ≤ 2000000 := by unfold stripN; split; exact Nat.le_trans (by simp) hl; exact hl
 unfold decode
 generalize stripN l = s at hsl ⊢
 refine zS (zR (zP rfl (zN (zK (zS (zR (zP rfl (zN (zK (zS (zB ?_)))))))))))
 refine zc_loop (ι := Nat × List UInt8) (fun q => [(0, .string (bs s)), (3, .string (bs q.2)), (4, .int .i64 q.1)]) (fun _ => u)
  (fun q => q.1 ≤ s.length ∧ q.2.length ≤ 3 * q.1 ∧ q.2 ++ dec (s.drop q.1) = dec s) (fun q => s.length - q.1) (0, []) ⟨Nat.zero_le _, Nat.le_refl _, rfl⟩ ?_ ?_ ?_
 ·rfl
 ·exact ⟨rfl, rfl, rfl, trivial⟩
 rintro ⟨i, out⟩ ⟨hi, hol, hd⟩
 dsimp only at hi hol hd ⊢
 by_cases hlt : i < s.length
 ·have hss := sizeS_le (s.drop i) (drop_ne hlt)
  rw [List.length_drop] at hss
  have hdc := dec_cons (s.drop i) (drop_ne hlt)
  rw [List.drop_drop] at hdc
  have hpl := piece_len (s.drop i) (drop_ne hlt)
  refine zS (zS (zR (zP rfl (zP rfl (zLL rfl (zCT rfl rfl rfl (zN (zK (zT rfl (zA (zK (zB (zS (zR (zP rfl (zP rfl ?_))))))))))))))))
  refine zCl rfl (part_calls hsl i hlt) ?_
  rintro _ u3 ⟨rfl, rfl⟩
  refine ⟨_, rfl, ?_⟩
  unfold pieceS at hdc hpl
  cases hok : okS (s.drop i)
  ·rw [hok] at hdc hpl
   refine zP rfl (zP rfl (zP rfl (zP rfl (zP rfl (zN (zK (zS (zS (zR (zP rfl (zN (zK (zF rfl (zR (zP rfl ?_)))))))))))))))
   refine z_catL want_none (by decide) rfl rfl (by simp only [List.length_append, List.length_cons, List.length_nil]; omega) ?_
   refine zP rfl (zN (zK (zR (zP rfl (zP rfl ?_)))))
   refine zl_run (want_L rfl) rfl (by decide) (r_max rfl rfl (c := ((max (sizeS (s.drop i)) 1 : Nat) : Int)) (by split <;> omega)) ?_
   refine zAd rfl rfl (zP rfl (zN (zM ?_)))
   refine zk_loop (i + max (sizeS (s.drop i)) 1, out ++ lost) ⟨by omega, by simp only [List.length_append]; simp [lost] at hpl ⊢; omega, ?_⟩ (by simp; omega) rfl ⟨rfl, rfl, get_int rfl (by simp), trivial⟩
   rw [List.append_assoc, ← hd, hdc]; rfl
  ·rw [hok] at hdc hpl
   have h1 := okS_size hok
   have htl : ((s.drop i).take (sizeS (s.drop i))).length = sizeS (s.drop i) := by rw [List.length_take, List.length_drop]; omega
   refine zP rfl (zP rfl (zP rfl (zP rfl (zP rfl (zN (zK (zS (zS (zR (zP rfl (zN (zK (zT rfl (zR (zP rfl (zP rfl (zP rfl (zP rfl (zP rfl (zAd rfl rfl ?_))))))))))))))))))))
   refine z_cutN i (i + sizeS (s.drop i)) (want_L rfl) (by decide) rfl rfl rfl rfl (by omega) (by omega) (by omega) ?_
   rw [show i + sizeS (s.drop i) - i = sizeS (s.drop i) by omega]
   refine z_catL want_none (by decide) rfl rfl (by omega) ?_
   refine zP rfl (zN (zK (zR (zP rfl (zP rfl ?_)))))
   refine zl_run (want_L rfl) rfl (by decide) (r_max rfl rfl (c := ((max (sizeS (s.drop i)) 1 : Nat) : Int)) (by split <;> omega)) ?_
   refine zAd rfl rfl (zP rfl (zN (zM ?_)))
   refine zk_loop (i + max (sizeS (s.drop i)) 1, out ++ (s.drop i).take (sizeS (s.drop i))) ⟨by omega, by simp only [List.length_append, htl]; omega, ?_⟩ (by simp; omega) rfl ⟨rfl, rfl, get_int rfl (by simp), trivial⟩
   rw [List.append_assoc, ← hd, hdc]; rfl
 ·obtain rfl : i = s.length := by omega
  rw [List.drop_length, dec_nil, List.append_nil] at hd
  subst hd
  refine zS (zS (zR (zP rfl (zP rfl (zLL rfl (zCF rfl rfl rfl (zN (zK (zF rfl (zL (zX (zX (zY (zK (zS (zR (zP rfl (zP rfl (zN (zK (zE ?_)))))))))))))))))))))
  exact zk_ret1 (.inr rfl) rfl rfl ⟨rfl, rfl⟩
def linesN : List UInt8 → List UInt8
 | [] => []
 | c :: r => if c = 13 then (if r.head? = some 10 then linesN r else 10 :: linesN r) else c :: linesN r
theorem drop_cons0 (l : List UInt8) (i : Nat) (h : i < l.length) : l.drop i = l.getD i 0 :: l.drop (i + 1) := by
 rw [List.drop_eq_getElem_cons h, List.getD_eq_getElem?_getD, List.getElem?_eq_getElem h]; rfl
def lineP (l : List UInt8) (i : Nat) : List UInt8 := if byteL l i ≠ 13 then [l.getD i 0] else if i + 1 < l.length ∧ byteL l (i + 1) = 10 then [] else [10]
theorem byte_eq (l : List UInt8) (i : Nat) (k : Nat) (hk : k < 256) : byteL l i = k ↔ l.getD i 0 = UInt8.ofNat k := by
 unfold byteL
 constructor
 ·intro h; rw [← h]; simp
 ·intro h; rw [h]; simp; omega
theorem linesN_cons (c : UInt8) (r : List UInt8) : linesN (c :: r) = if c = 13 then (if r.head? = some 10 then linesN r else 10 :: linesN r) else c :: linesN r := rfl
theorem lines_cons (l : List UInt8) (i : Nat) (h : i < l.length) : linesN (l.drop i) = lineP l i ++ linesN (l.drop (i + 1)) := by
 rw [drop_cons0 l i h, linesN_cons]
 unfold lineP
 have e13 : byteL l i = 13 ↔ l.getD i 0 = 13 := byte_eq l i 13 (by decide)
 by_cases h1 : byteL l i = 13
 ·rw [if_pos (e13.1 h1), if_neg (show ¬ (byteL l i ≠ 13) from fun h => h h1)]
  by_cases h2 : i + 1 < l.length
  ·have e10 : byteL l (i + 1) = 10 ↔ l.getD (i + 1) 0 = 10 := byte_eq l (i + 1) 10 (by decide)
   have hh : (l.drop (i + 1)).head? = some (l.getD (i + 1) 0) := by rw [drop_cons0 l (i + 1) h2]; rfl
   rw [hh]
   by_cases h3 : byteL l (i + 1) = 10
   ·rw [if_pos (by rw [e10.1 h3]), if_pos ⟨h2, h3⟩]; rfl
   ·rw [if_neg (fun h => h3 (e10.2 (Option.some.inj h))), if_neg (fun h => h3 h.2)]; rfl
  ·have hh : (l.drop (i + 1)).head? = none := by rw [List.drop_eq_nil_of_le (by omega)]; rfl
   rw [hh, if_neg (by simp), if_neg (fun h => h2 h.1)]; rfl
 ·rw [if_neg (fun h => h1 (e13.2 h)), if_pos h1]; rfl
theorem lines_no (l : List UInt8) (h : 13 ∉ l) : linesN l = l := by
 induction l with
 | nil => rfl
 | cons c r ih =>
  unfold linesN
  rw [if_neg (fun e => h (by rw [e]; exact List.mem_cons_self ..)), ih (fun e => h (List.mem_cons_of_mem _ e))]
theorem linesR_calls {w : World} {l : List UInt8} (hl : l.length ≤ 2000000) : Calls Tryz.prog 28 [.string (bs l)].toArray w fun e w' => e = .returned (.string (bs (linesN l))) ∧ w' = w := by
 refine zCz 39 Tryz.func28 ?_
 refine zS (zR (zP rfl (zN (zK (zS (zR (zP rfl (zN (zK (zS (zS (zR (zP rfl (zN (zK (zB ?_))))))))))))))))
 refine zc_loop (ι := Nat × List UInt8) (fun q => [(0, .string (bs l)), (3, .string (bs q.2)), (4, .int .i64 q.1)]) (fun _ => w)
  (fun q => q.1 ≤ l.length ∧ q.2.length ≤ q.1 ∧ q.2 ++ linesN (l.drop q.1) = linesN l) (fun q => l.length - q.1) (0, []) ⟨Nat.zero_le _, Nat.le_refl _, rfl⟩ ?_ ?_ ?_
 ·rfl
 ·exact ⟨rfl, rfl, rfl, trivial⟩
 rintro ⟨i, out⟩ ⟨hi, hol, hd⟩
 dsimp only at hi hol hd ⊢
 by_cases hlt : i < l.length
 ·have hlc := lines_cons l i hlt
  have hbi : (l.getD i 0).toNat = byteL l i := rfl
  unfold lineP at hlc
  by_cases h13 : byteL l i = 13
  ·rw [if_neg (by simp [h13])] at hlc
   by_cases h2 : i + 1 < l.length
   ·have hbi2 : (l.getD (i + 1) 0).toNat = byteL l (i + 1) := rfl
    by_cases h10 : byteL l (i + 1) = 10
    ·rw [if_pos ⟨h2, h10⟩] at hlc
     refine zS (zS (zR (zP rfl (zP rfl (zLL rfl (zCT rfl rfl rfl (zN (zK (zT rfl (zA (zK (zS (zB (zB (zS (zR (zP rfl (zP rfl (zIx rfl rfl (zCF rfl rfl rfl (zP rfl (zN (zK (zF rfl (zS (zR (zP rfl (zAd rfl rfl (zP rfl (zLL rfl (zCF rfl rfl rfl (zP rfl (zP rfl (zP rfl (zAd rfl rfl (z_idxP (want_L rfl) (by decide) rfl rfl (by omega) (zCF rfl rfl rfl (zP rfl (zP rfl ?_)))))))))))))))))))))))))))))))))))))))
     refine zN (zK (zF rfl (zA (zM (zM (zK (zR (zP rfl (zAd rfl rfl (zP rfl (zN ?_)))))))))))
     refine zk_loop (i + 1, out) ⟨by omega, by dsimp only; omega, ?_⟩ (by simp; omega) rfl ⟨rfl, rfl, get_int rfl (by simp), trivial⟩
     rw [← hd, hlc]; rfl
    ·rw [if_neg (fun h => h10 h.2)] at hlc
     refine zS (zS (zR (zP rfl (zP rfl (zLL rfl (zCT rfl rfl rfl (zN (zK (zT rfl (zA (zK (zS (zB (zB (zS (zR (zP rfl (zP rfl (zIx rfl rfl (zCF rfl rfl rfl (zP rfl (zN (zK (zF rfl (zS (zR (zP rfl (zAd rfl rfl (zP rfl (zLL rfl (zCF rfl rfl rfl (zP rfl (zP rfl (zP rfl (zAd rfl rfl (z_idxP (want_L rfl) (by decide) rfl rfl (by omega) (zCT rfl rfl rfl (zP rfl (zP rfl ?_)))))))))))))))))))))))))))))))))))))))
     refine zN (zK (zT rfl (zR (zP rfl ?_))))
     refine z_catL want_none (by decide) rfl rfl (by simp only [List.length_append, List.length_cons, List.length_nil]; omega) ?_
     refine zP rfl (zN (zM (zM (zK (zR (zP rfl (zAd rfl rfl (zP rfl (zN ?_)))))))))
     refine zk_loop (i + 1, out ++ [10]) ⟨by omega, by simp; omega, ?_⟩ (by simp; omega) rfl ⟨rfl, rfl, get_int rfl (by simp), trivial⟩
     rw [List.append_assoc, ← hd, hlc]
   ·rw [if_neg (fun h => h2 h.1)] at hlc
    refine zS (zS (zR (zP rfl (zP rfl (zLL rfl (zCT rfl rfl rfl (zN (zK (zT rfl (zA (zK (zS (zB (zB (zS (zR (zP rfl (zP rfl (zIx rfl rfl (zCF rfl rfl rfl (zP rfl (zN (zK (zF rfl (zS (zR (zP rfl (zAd rfl rfl (zP rfl (zLL rfl (zCT rfl rfl rfl (zP rfl (zP rfl (zP rfl (zJ rfl (zJ rfl (zJ rfl (zP rfl (zP rfl ?_)))))))))))))))))))))))))))))))))))))))
    refine zN (zK (zT rfl (zR (zP rfl ?_))))
    refine z_catL want_none (by decide) rfl rfl (by simp only [List.length_append, List.length_cons, List.length_nil]; omega) ?_
    refine zP rfl (zN (zM (zM (zK (zR (zP rfl (zAd rfl rfl (zP rfl (zN ?_)))))))))
    refine zk_loop (i + 1, out ++ [10]) ⟨by omega, by simp; omega, ?_⟩ (by simp; omega) rfl ⟨rfl, rfl, get_int rfl (by simp), trivial⟩
    rw [List.append_assoc, ← hd, hlc]
  ·rw [if_pos h13] at hlc
   refine zS (zS (zR (zP rfl (zP rfl (zLL rfl (zCT rfl rfl rfl (zN (zK (zT rfl (zA (zK (zS (zB (zB (zS (zR (zP rfl (zP rfl (zIx rfl rfl (zCT rfl rfl rfl (zP rfl (zN (zK (zT rfl (zR (zP rfl (zP rfl (zP rfl (zP rfl (zAd rfl rfl ?_))))))))))))))))))))))))))))))
   refine z_cutN i (i + 1) (want_L rfl) (by decide) rfl rfl rfl rfl (by omega) (by omega) (by omega) ?_
   rw [show (l.drop i).take (i + 1 - i) = [l.getD i 0] by rw [drop_cons0 l i hlt, show i + 1 - i = 1 by omega]; rfl]
   refine z_catL (r := [l.getD i 0]) (want_L rfl) (by decide) rfl rfl (by simp; omega) ?_
   refine zP rfl (zN (zM (zM (zK (zR (zP rfl (zAd rfl rfl (zP rfl (zN ?_)))))))))
   refine zk_loop (i + 1, out ++ [l.getD i 0]) ⟨by omega, by simp; omega, ?_⟩ (by simp; omega) rfl ⟨rfl, rfl, get_int rfl (by simp), trivial⟩
   rw [List.append_assoc, ← hd, hlc]
 ·obtain rfl : i = l.length := by omega
  rw [List.drop_length] at hd
  have hd : out = linesN l := by rw [← hd]; simp [linesN]
  subst hd
  refine zS (zS (zR (zP rfl (zP rfl (zLL rfl (zCF rfl rfl rfl (zN (zK (zF rfl (zL (zX (zX (zY (zK (zS (zR (zP rfl (zP rfl (zN (zK (zE ?_)))))))))))))))))))))
  exact zk_ret1 (.inr rfl) rfl rfl ⟨rfl, rfl⟩
def wholeF : Nat → List UInt8 → Bool
 | 0, _ => true
 | f + 1, s => if s = [] then true else okS s && wholeF f (s.drop (sizeS s))
def whole (s : List UInt8) : Bool := wholeF s.length s
theorem wholeF_nil : ∀ f, wholeF f [] = true
 | 0 => rfl
 | f + 1 => by simp [wholeF]
theorem wholeF_fuel : ∀ (f g : Nat) (s : List UInt8), s.length ≤ f → s.length ≤ g → wholeF f s = wholeF g s
 | 0, g, s, hf, hg => by
  have : s = [] := List.eq_nil_of_length_eq_zero (by omega)
  subst this; simp [wholeF_nil]
 | f + 1, 0, s, hf, hg => by
  have : s = [] := List.eq_nil_of_length_eq_zero (by omega)
  subst this; simp [wholeF_nil]
 | f + 1, g + 1, s, hf, hg => by
  unfold wholeF
  split
  ·rfl
  ·cases hok : okS s
   ·rfl
   ·have := okS_size hok
    rw [wholeF_fuel f g _ (by rw [List.length_drop]; omega) (by rw [List.length_drop]; omega)]
theorem whole_nil : whole [] = true := rfl
theorem whole_cons (s : List UInt8) (h : s ≠ []) : whole s = (okS s && whole (s.drop (sizeS s))) := by
 have hl : 1 ≤ s.length := by cases s <;> simp_all
 unfold whole
 conv => lhs; rw [show s.length = (s.length - 1) + 1 by omega]; unfold wholeF
 rw [if_neg h]
 cases hok : okS s
 ·rfl
 ·have := okS_size hok
  rw [wholeF_fuel (s.length - 1) _ _ (by rw [List.length_drop]; omega) (Nat.le_refl _)]
theorem wholeR_calls {w : World} {l : List UInt8} (hl : l.length ≤ 2000000) : Calls Tryz.prog 15 [.string (bs l)].toArray w fun e w' => e = .returned (.bool (whole l)) ∧ w' = w := by
 refine zCz 21 Tryz.func15 ?_
 refine zS (zR (zP rfl (zN (zK (zS (zR (zP rfl (zN (zK (zS (zB ?_)))))))))))
 refine zc_loop (ι := Nat) (fun p => [(0, .string (bs l)), (3, .int .i64 p)]) (fun _ => w) (fun p => p ≤ l.length ∧ whole (l.drop p) = whole l) (fun p => l.length - p) 0 ⟨Nat.zero_le _, rfl⟩ ?_ ?_ ?_
 ·rfl
 ·exact ⟨rfl, rfl, trivial⟩
 rintro p ⟨hp, hw⟩
 by_cases hlt : p < l.length
 ·have hss := sizeS_le (l.drop p) (drop_ne hlt)
  rw [List.length_drop] at hss
  have hwc := whole_cons (l.drop p) (drop_ne hlt)
  rw [List.drop_drop] at hwc
  refine zS (zS (zR (zP rfl (zP rfl (zLL rfl (zCT rfl rfl rfl (zN (zK (zT rfl (zA (zK (zB (zS (zR (zP rfl (zP rfl ?_))))))))))))))))
  refine zCl rfl (part_calls hl p hlt) ?_
  rintro _ u1 ⟨rfl, rfl⟩
  refine ⟨_, rfl, ?_⟩
  cases hok : okS (l.drop p)
  ·rw [hok, Bool.false_and] at hwc
   refine zP rfl (zP rfl (zP rfl (zP rfl (zP rfl (zN (zK (zS (zS (zR (zP rfl (zP rfl (zN (zK (zT rfl (zS (zR (zP rfl (zN (zK (zE (zQ (zW (zQ (zW (zQ ?_)))))))))))))))))))))))))
   exact zk_ret1 (.inr rfl) rfl rfl ⟨by rw [← hw, hwc], rfl⟩
  ·have h1 := okS_size hok
   rw [hok, Bool.true_and] at hwc
   refine zP rfl (zP rfl (zP rfl (zP rfl (zP rfl (zN (zK (zS (zS (zR (zP rfl (zP rfl (zN (zK (zF rfl (zA (zK (zR (zP rfl (zP rfl (zAd rfl rfl (zP rfl (zN (zM ?_)))))))))))))))))))))))
   exact zk_loop (p + sizeS (l.drop p)) ⟨by omega, by rw [← hwc, hw]⟩ (by omega) rfl ⟨rfl, get_int rfl (by simp), trivial⟩
 ·obtain rfl : p = l.length := by omega
  rw [List.drop_length, whole_nil] at hw
  refine zS (zS (zR (zP rfl (zP rfl (zLL rfl (zCF rfl rfl rfl (zN (zK (zF rfl (zL (zX (zX (zY (zK (zS (zR (zP rfl (zN (zK (zE ?_))))))))))))))))))))
  exact zk_ret1 (.inr rfl) rfl rfl ⟨by rw [← hw], rfl⟩
theorem contS_congr (s s' : List UInt8) (n : Nat) (hb : ∀ j, j < n → byteL s j = byteL s' j) (hl : n ≤ s.length) (hl' : n ≤ s'.length) : ∀ f k lo hi, contS s n f k lo hi = contS s' n f k lo hi
 | 0, k, _, _ => rfl
 | f + 1, k, lo, hi => by
  unfold contS
  by_cases hk : k < n
  ·rw [hb k hk, contS_congr s s' n hb hl hl' f (k + 1) 128 191]
   have e1 : (k < s.length) = True := eq_true (by omega)
   have e2 : (k < s'.length) = True := eq_true (by omega)
   simp only [e1, e2]
  ·rw [if_neg (fun h => hk h.1), if_neg (fun h => hk h.1)]
theorem byteL_app (s t : List UInt8) (n j : Nat) (hj : j < n) (hn : n ≤ s.length) : byteL (s.take n ++ t) j = byteL s j := by
 unfold byteL
 rw [List.getD_eq_getElem?_getD, List.getD_eq_getElem?_getD, List.getElem?_append_left (by simp; omega), List.getElem?_take, if_pos hj]
theorem sign_app {s : List UInt8} (t : List UInt8) (hne : s ≠ []) (h : okS s = true) : okS (s.take (sizeS s) ++ t) = true ∧ sizeS (s.take (sizeS s) ++ t) = sizeS s ∧ s.take (sizeS s) ++ t ≠ [] := by
 have h1 := okS_size h
 have hle := sizeS_le s hne
 have h0 : byteL (s.take (sizeS s) ++ t) 0 = byteL s 0 := byteL_app s t _ 0 (by omega) hle.1
 have hn : sizeS s = (leadN (byteL s 0)).1 := by unfold okS at h; simp at h; exact h.2
 have hsz : sizeS (s.take (sizeS s) ++ t) = sizeS s := by
  have hgen : ∀ u : List UInt8, byteL u 0 = byteL s 0 → sizeS u = contS u (leadN (byteL s 0)).1 ((leadN (byteL s 0)).1 - 1) 1 (leadN (byteL s 0)).2.1 (leadN (byteL s 0)).2.2 := by
   intro u hu
   unfold sizeS
   rw [hu]
   exact if_neg (by omega)
  rw [hgen _ h0]
  refine Eq.trans ?_ (hgen s rfl).symm
  refine contS_congr _ _ _ (fun j hj => byteL_app s t _ j (by omega) hle.1) ?_ (by omega) _ _ _ _
  rw [List.length_append, List.length_take]; omega
 refine ⟨?_, hsz, fun he => ?_⟩
 rotate_left
 ·have := congrArg List.length he
  rw [List.length_append, List.length_take, List.length_nil] at this
  omega
 unfold okS at h ⊢
 rw [hsz, h0]; exact h
theorem whole_app {s : List UInt8} (t : List UInt8) (hne : s ≠ []) (h : okS s = true) : whole (s.take (sizeS s) ++ t) = whole t := by
 obtain ⟨h1, h2, hN⟩ := sign_app t hne h
 have hle := sizeS_le s hne
 rw [whole_cons _ hN, h1, h2, Bool.true_and]
 congr 1
 rw [List.drop_append_of_le_length (by rw [List.length_take]; omega), List.drop_eq_nil_of_le (by rw [List.length_take]; omega)]; rfl
theorem dec_app {s : List UInt8} (t : List UInt8) (hne : s ≠ []) (h : okS s = true) : dec (s.take (sizeS s) ++ t) = s.take (sizeS s) ++ dec t := by
 obtain ⟨h1, h2, hN⟩ := sign_app t hne h
 have hle := sizeS_le s hne
 have h3 := okS_size h
 have hl : (s.take (sizeS s)).length = sizeS s := by rw [List.length_take]; omega
 rw [dec_cons _ hN, h2, show max (sizeS s) 1 = sizeS s by omega]
 unfold pieceS
 rw [if_pos h1, h2, List.take_append_of_le_length (by omega), List.take_of_length_le (by omega), List.drop_append_of_le_length (by omega), List.drop_eq_nil_of_le (by omega)]
 rfl
theorem whole_split {s : List UInt8} (hs : s ≠ []) (h : whole s = true) : okS s = true ∧ whole (s.drop (sizeS s)) = true ∧ s = s.take (sizeS s) ++ s.drop (sizeS s) := by
 rw [whole_cons s hs] at h
 simp only [Bool.and_eq_true] at h
 exact ⟨h.1, h.2, (List.take_append_drop _ _).symm⟩
theorem joins : ∀ (n : Nat) (a b : List UInt8), a.length ≤ n → whole a = true → dec (a ++ b) = a ++ dec b ∧ whole (a ++ b) = whole b
 | 0, a, b, h, hw => by
  have : a = [] := List.eq_nil_of_length_eq_zero (by omega)
  subst this; exact ⟨rfl, rfl⟩
 | n + 1, a, b, h, hw => by
  by_cases ha : a = []
  ·subst ha; exact ⟨rfl, rfl⟩
  ·obtain ⟨h1, h2, h3⟩ := whole_split ha hw
   have hs := okS_size h1
   obtain ⟨g1, g2⟩ := joins n (a.drop (sizeS a)) b (by rw [List.length_drop]; omega) h2
   have e : a ++ b = a.take (sizeS a) ++ (a.drop (sizeS a) ++ b) := by rw [← List.append_assoc, List.take_append_drop]
   rw [e, dec_app _ ha h1, whole_app _ ha h1, g1, g2, ← List.append_assoc, List.take_append_drop]
   exact ⟨rfl, rfl⟩
theorem dec_whole {a : List UInt8} (hw : whole a = true) : dec a = a := by
 have := (joins a.length a [] (Nat.le_refl _) hw).1
 rw [List.append_nil, dec_nil, List.append_nil] at this; exact this
theorem decode_whole {a : List UInt8} (hw : whole a = true) (hb : ¬ a.take 3 = bom) : decode a = a := by
 unfold decode stripN
 rw [if_neg hb]; exact dec_whole hw
theorem whole_and {a b : List UInt8} (ha : whole a = true) (hb : whole b = true) : whole (a ++ b) = true := by
 rw [(joins a.length a b (Nat.le_refl _) ha).2]; exact hb
theorem whole_one (c : UInt8) (h : c.toNat < 128) : whole [c] = true := by
 have hb : byteL [c] 0 = c.toNat := rfl
 have hv : leadN c.toNat = (1, 0, 0) := by
  rcases lead_cases c.toNat with ⟨g, hv⟩ | ⟨g, g', hv⟩ | ⟨g, hv⟩ | ⟨g, hv⟩ | ⟨g, g', g'', hv⟩ | ⟨g, hv⟩ | ⟨g, g', hv⟩ | ⟨g, hv⟩ | ⟨g, hv⟩ <;> first | omega | exact hv
 have hs : sizeS [c] = 1 := by
  unfold sizeS; rw [hb, hv]; rfl
 have ho : okS [c] = true := by
  unfold okS; rw [hs, hb, hv]; rfl
 rw [whole_cons _ (by simp), ho, hs]; rfl
theorem whole_low : ∀ l : List UInt8, (∀ c ∈ l, c.toNat < 128) → whole l = true
 | [], _ => rfl
 | c :: r, h => whole_and (a := [c]) (whole_one c (h c List.mem_cons_self)) (whole_low r (fun d hd => h d (List.mem_cons_of_mem _ hd)))
theorem cont_bytes (s : List UInt8) (n : Nat) : ∀ f k lo hi, 128 ≤ lo → hi ≤ 191 → ∀ j, k ≤ j → j < contS s n f k lo hi → 128 ≤ byteL s j ∧ byteL s j ≤ 191
 | 0, k, lo, hi, _, _, j, h1, h2 => by unfold contS at h2; omega
 | f + 1, k, lo, hi, hlo, hhi, j, h1, h2 => by
  unfold contS at h2
  split at h2
  ·rename_i hc
   by_cases hj : j = k
   ·subst hj; omega
   ·exact cont_bytes s n f (k + 1) 128 191 (by omega) (by omega) j (by omega) h2
  ·omega
theorem sign_bytes {s : List UInt8} (h : okS s = true) : (sizeS s = 1 ∧ byteL s 0 < 128) ∨ (2 ≤ sizeS s ∧ 194 ≤ byteL s 0 ∧ (byteL s 0 ≤ 223 → sizeS s = 2) ∧ ∀ j, 1 ≤ j → j < sizeS s → 128 ≤ byteL s j ∧ byteL s j ≤ 191) := by
 have hn : 0 < (leadN (byteL s 0)).1 ∧ sizeS s = (leadN (byteL s 0)).1 := by unfold okS at h; simp at h; exact h
 have hsz : sizeS s = contS s (leadN (byteL s 0)).1 ((leadN (byteL s 0)).1 - 1) 1 (leadN (byteL s 0)).2.1 (leadN (byteL s 0)).2.2 := by
  unfold sizeS; exact if_neg (by omega)
 have key : ∀ n lo hi, leadN (byteL s 0) = (n, lo, hi) → 2 ≤ n → 128 ≤ lo → hi ≤ 191 → 194 ≤ byteL s 0 → (byteL s 0 ≤ 223 → n = 2) →
   (sizeS s = 1 ∧ byteL s 0 < 128) ∨ (2 ≤ sizeS s ∧ 194 ≤ byteL s 0 ∧ (byteL s 0 ≤ 223 → sizeS s = 2) ∧ ∀ j, 1 ≤ j → j < sizeS s → 128 ≤ byteL s j ∧ byteL s j ≤ 191) := by
  intro n lo hi hv h2 hlo hhi h0 h3
  rw [hv] at hn hsz
  refine .inr ⟨by have := hn.2; dsimp only at this; omega, h0, fun hh => hn.2.trans (h3 hh), fun j h1 hj => ?_⟩
  rw [hsz] at hj
  exact cont_bytes s _ _ 1 lo hi hlo hhi j h1 hj
 rcases lead_cases (byteL s 0) with ⟨g, hv⟩ | ⟨g, g', hv⟩ | ⟨g, hv⟩ | ⟨g, hv⟩ | ⟨g, g', g'', hv⟩ | ⟨g, hv⟩ | ⟨g, g', hv⟩ | ⟨g, hv⟩ | ⟨g, hv⟩
 ·rw [hv] at hn; exact .inl ⟨hn.2, g⟩
 all_goals first
  | exact key _ _ _ hv (by omega) (by omega) (by omega) (by omega) (by omega)
  | (rw [hv] at hn; exact absurd hn.1 (Nat.lt_irrefl 0))
theorem esc_low (v : Bool) (s : List UInt8) : ∀ c ∈ T.escS v s, c.toNat < 128 ∧ c ≠ 13 ∧ c ≠ 0 := by
 unfold T.escS
 have h1 : ∀ c ∈ T.amp, c.toNat < 128 ∧ c ≠ 13 ∧ c ≠ 0 := by decide
 have h2 : ∀ c ∈ T.lt4, c.toNat < 128 ∧ c ≠ 13 ∧ c ≠ 0 := by decide
 have h3 : ∀ c ∈ T.gt4, c.toNat < 128 ∧ c ≠ 13 ∧ c ≠ 0 := by decide
 have h4 : ∀ c ∈ T.cr5, c.toNat < 128 ∧ c ≠ 13 ∧ c ≠ 0 := by decide
 have h5 : ∀ c ∈ T.quo, c.toNat < 128 ∧ c ≠ 13 ∧ c ≠ 0 := by decide
 have h6 : ∀ c ∈ T.nbs, c.toNat < 128 ∧ c ≠ 13 ∧ c ≠ 0 := by decide
 repeat' split
 all_goals first | assumption | exact fun c hc => by cases hc
theorem whole_safe (v : Bool) : ∀ (n : Nat) (l : List UInt8), l.length ≤ n → whole l = true → whole (T.safeN v l) = true
 | 0, l, h, _ => by
  have : l = [] := List.eq_nil_of_length_eq_zero (by omega)
  subst this; rfl
 | n + 1, l, h, hw => by
  by_cases hl : l = []
  ·subst hl; rfl
  ·obtain ⟨h1, h2, h3⟩ := whole_split hl hw
   have h4 := okS_size h1
   have h5 := sizeS_le l hl
   have ih := whole_safe v n (l.drop (sizeS l)) (by rw [List.length_drop]; omega) h2
   have hesc : T.escS v l ≠ [] → (T.escS v l = T.nbs → 1 < l.length) → (if T.escS v l = T.nbs then 2 else 1) = sizeS l → whole (T.safeN v l) = true := fun e1 e2 e3 => by
    rw [T.safe_esc v l hl e1 e2, e3]
    exact whole_and (whole_low _ (fun c hc => (esc_low v l c hc).1)) ih
   rcases sign_bytes h1 with ⟨g1, g2⟩ | ⟨g1, g2, g3, g4⟩
   ·rw [g1] at ih
    have hnn : T.escS v l ≠ T.nbs := by
     have g2' : T.byteL l 0 < 128 := g2
     unfold T.escS
     repeat' split
     all_goals first | (rename_i hc; omega) | decide
    by_cases he : T.escS v l = []
    ·rw [T.safe_as v l hl he]
     refine whole_and (a := [l.getD 0 0]) (whole_one _ g2) ih
    ·exact hesc he (fun hh => absurd hh hnn) (by rw [if_neg hnn, g1])
   ·by_cases hq : T.byteL l 0 = 194 ∧ T.byteL l 1 = 160
    ·have he : T.escS v l = T.nbs := by
      unfold T.escS
      rw [if_neg (by omega), if_neg (by omega), if_neg (by omega), if_neg (by omega), if_neg (by omega), if_pos hq]
     have hs2 : sizeS l = 2 := g3 (by have : byteL l 0 = 194 := hq.1; omega)
     exact hesc (by rw [he]; decide) (fun _ => by omega) (by rw [if_pos he, hs2])
    ·have := T.safe_more v l (sizeS l) 0 (by omega) (fun j _ hj => by
      refine T.esc_none v _ ?_ ?_
      ·show 128 ≤ T.byteL _ 0
       rw [T.byte_drop]
       by_cases hj0 : j = 0
       ·subst hj0; show 128 ≤ byteL l 0; omega
       ·exact (g4 j (by omega) (by omega)).1
      ·rw [T.byte_drop, T.byte_drop]
       by_cases hj0 : j = 0
       ·subst hj0; exact hq
       ·intro hh
        have := (g4 j (by omega) (by omega)).2
        have h8 : byteL l (j + 0) = 194 := hh.1
        rw [Nat.add_zero] at h8
        omega)
     rw [List.drop_zero, Nat.zero_add] at this
     rw [this, whole_app _ hl h1]
     exact ih
theorem safe_no (v : Bool) : ∀ (l : List UInt8) (q : Bool), 13 ∉ T.safeS v q l
 | [], q => by cases q <;> simp [T.safeS]
 | c :: r, true => by simp only [T.safeS]; exact safe_no v r false
 | c :: r, false => by
  simp only [T.safeS]
  split
  ·rename_i he
   intro hh
   rcases List.mem_cons.1 hh with h1 | h1
   ·have : T.byteL (c :: r) 0 = 13 := by show c.toNat = 13; rw [← h1]; rfl
    revert he
    unfold T.escS
    rw [if_neg (by omega), if_neg (by omega), if_neg (by omega), if_pos this]
    decide
   ·exact safe_no v r false h1
  ·intro hh
   rcases List.mem_append.1 hh with h1 | h1
   ·exact (esc_low v _ 13 h1).2.1 rfl
   ·exact safe_no v r _ h1
def lowN (l : List UInt8) : Prop := ∀ c ∈ l, c.toNat < 128 ∧ c ≠ 13
instance (l : List UInt8) : Decidable (lowN l) := inferInstanceAs (Decidable (∀ c ∈ l, c.toNat < 128 ∧ c ≠ 13))
def WoA (l : List T.At) : Prop := ∀ a ∈ l, lowN a.1 ∧ whole a.2 = true
def Wo : T.AT → Prop
 | .nil => True
 | .cons x k r => lowN x.name ∧ WoA x.attrs ∧ whole x.text = true ∧ Wo k ∧ Wo r
def Cl (l : List UInt8) : Prop := whole l = true ∧ 13 ∉ l
theorem Cl.app {a b : List UInt8} (ha : Cl a) (hb : Cl b) : Cl (a ++ b) := ⟨whole_and ha.1 hb.1, fun h => (List.mem_append.1 h).elim ha.2 hb.2⟩
theorem Cl.low {a : List UInt8} (h : lowN a) : Cl a := ⟨whole_low a (fun c hc => (h c hc).1), fun hh => (h 13 hh).2 rfl⟩
theorem Cl.safe (v : Bool) {a : List UInt8} (h : whole a = true) : Cl (T.safeN v a) := ⟨whole_safe v a.length a (Nat.le_refl _) h, safe_no v a false⟩
theorem Cl.nil : Cl [] := ⟨rfl, by simp⟩
theorem Cl.attrs : ∀ l : List T.At, WoA l → Cl (T.attrsS l)
 | [], _ => Cl.nil
 | a :: r, h => by
  have h1 := h a List.mem_cons_self
  exact ((((Cl.low (by decide)).app (Cl.low h1.1)).app (Cl.low (by decide))).app (Cl.safe true h1.2)).app (Cl.low (by decide)) |>.app (Cl.attrs r (fun b hb => h b (List.mem_cons_of_mem _ hb)))
theorem Cl.text : ∀ a : T.AT, Wo a → Cl a.text
 | .nil, _ => Cl.nil
 | .cons x k r, ⟨h1, h2, h3, h4, h5⟩ => by
  unfold T.AT.text
  refine Cl.app ?_ (Cl.text r h5)
  split
  ·exact Cl.safe false h3
  ·refine Cl.app ((((Cl.low (by decide)).app (Cl.low h1)).app (Cl.attrs _ h2)).app (Cl.low (by decide))) ?_
   split
   ·exact Cl.nil
   ·refine ((((Cl.app ?_ (Cl.text k h4))).app (Cl.low (by decide))).app (Cl.low h1)).app (Cl.low (by decide))
    split
    ·exact Cl.low (by decide)
    ·exact Cl.nil
theorem text_head {a : T.AT} {l : List (List UInt8)} (ho : T.ofA l a) (h0 : [] ∉ l) : ¬ a.text.take 3 = bom := by
 cases a with
 | nil => decide
 | cons x k r =>
  have hn : x.name ≠ [] := fun h => h0 (h ▸ ho.1)
  unfold T.AT.text
  rw [if_neg hn]
  intro hh
  have : ∀ t, ((T.openS x.name x.attrs ++ t : List UInt8).take 3).head? = some 60 := fun t => rfl
  have h3 := congrArg List.head? hh
  rw [List.append_assoc, this] at h3
  exact absurd h3 (by decide)
end Go.Proofs.YtbcmiijollpgeaaGreat.U
namespace Go.Proofs.YtbcmiijollpgeaaGreat.D
open Go Go.Z Go.Proofs
theorem pageA_calls {w : World} (a : T.AT) (ho : T.ofA blocksN a) (hs : SA a) (hd : T.deepA a ≤ 200) (hw : U.Wo a) (hl : a.text.length ≤ 1048576) :
  Calls Tryz.prog 10 [.string (bs a.text)].toArray w fun e w' => ∃ vo, e = .returned (.tuple #[vo, .int .i64 0]) ∧ TreeAt w' vo (bareN a) ∧ (bareN a).size ≤ 10000000 ∧ Chg w w' No := by
 obtain ⟨c1, c2⟩ := U.Cl.text a hw
 have e1 : U.decode a.text = a.text := U.decode_whole c1 (U.text_head ho (by decide))
 have e2 : U.linesN a.text = a.text := U.lines_no _ c2
 refine zCz 13 Tryz.func10 ?_
 refine zS (zR (zP rfl (zP rfl (zN (zK (zS (zS (zR (zP rfl (zLL rfl (zCF rfl rfl rfl (zN (zK (zF rfl (zA (zK (zS (zR (zP rfl ?_)))))))))))))))))))
 refine zCl rfl (U.decodeR_calls (l := a.text) (by omega)) ?_
 rintro _ w1 ⟨rfl, rfl⟩
 refine ⟨_, rfl, ?_⟩
 rw [e1]
 refine zCl rfl (U.linesR_calls (l := a.text) (by omega)) ?_
 rintro _ w2 ⟨rfl, rfl⟩
 refine ⟨_, rfl, ?_⟩
 rw [e2]
 refine zCl rfl (parseA_calls a ho hs hd hl) ?_
 rintro _ w3 ⟨vo, rfl, hT, hz, hC⟩
 refine ⟨_, rfl, ?_⟩
 refine zP rfl (zP rfl (zP rfl (zP rfl (zN (zK (zE ?_))))))
 exact zk_ret2 (.inr rfl) rfl rfl rfl ⟨vo, rfl, hT, hz, hC⟩
end Go.Proofs.YtbcmiijollpgeaaGreat.D
namespace Go.Proofs.YtbcmiijollpgeaaGreat.J
open Go Go.Z Go.Proofs
open T (big)
theorem cut1 (l : List UInt8) (i : Nat) (h : i < l.length) : (l.drop i).take (i + 1 - i) = [l.getD i 0] := by
 rw [T.drop_cons0 l i h, show i + 1 - i = 1 by omega]; rfl
theorem getD_in (l : List UInt8) (i : Nat) (h : i < l.length) : l.getD i 0 ∈ l := by
 rw [List.getD_eq_getElem?_getD, List.getElem?_eq_getElem h]; exact List.getElem_mem h
theorem in_getD {l : List UInt8} {c : UInt8} (h : c ∈ l) : ∃ j, j < l.length ∧ l.getD j 0 = c := by
 obtain ⟨j, hj, he⟩ := List.getElem_of_mem h
 exact ⟨j, hj, by rw [List.getD_eq_getElem?_getD, List.getElem?_eq_getElem hj]; exact he⟩
theorem index_calls {w : World} (l : List UInt8) (c : UInt8) (hl : l.length ≤ big) : Calls Tryz.prog 16 [.string (bs l), .string (bs [c]), .int .i64 0].toArray w fun e w' => (∃ k : Int, e = .returned (.int .i64 k) ∧ -1 ≤ k ∧ k ≤ l.length ∧ (0 ≤ k ↔ c ∈ l)) ∧ w' = w := by
 have hbig : big = 1000000000000 := rfl
 have h1 : ([c] : List UInt8).length = 1 := rfl
 obtain ⟨p, hp⟩ : ∃ p, p = [c] := ⟨_, rfl⟩
 rw [← hp] at h1 ⊢
 refine zCz 29 Tryz.func16 ?_
 repeat' (first | (show ZL _ _ _ _ _ _ _; first | (show ZL _ _ _ [] _ _ _; refine zN ?_) | refine a_pure ?_ | refine a_skip ?_ | (show ZL _ _ _ (⟨_, (.load _ _), _, _, _, _⟩ :: _) _ _ _; first | refine a_loadB rfl ?_ | refine a_load1 rfl ?_ | refine a_loadAB rfl ?_) | (show ZL _ _ _ (⟨_, (.call _), _, _, _, _⟩ :: _) _ _ _; first | refine a_len rfl ?_ | refine a_lenL rfl ?_ | refine a_min rfl rfl fun _ _ _ _ => ?_ | refine a_max rfl rfl fun _ _ _ _ => ?_) | (show ZL _ _ _ (⟨_, (.binOp .add _ _ _ _), _, _, _, _⟩ :: _) _ _ _; first | refine a_catW rfl rfl fun _ _ => ?_ | refine a_add rfl rfl ?_ | refine a_add8 rfl rfl ?_ | refine a_addW rfl rfl fun _ _ => ?_) | (show ZL _ _ _ (⟨_, (.binOp .sub _ _ _ _), _, _, _, _⟩ :: _) _ _ _; first | refine a_sub rfl rfl ?_ | refine a_subW rfl rfl fun _ _ => ?_) | (show ZL _ _ _ (⟨_, (.fieldAddr _ _ _), _, _, _, _⟩ :: _) _ _ _; refine a_fa rfl ?_) | (show ZL _ _ _ (⟨_, (.indexAddr _ _ _), _, _, _, _⟩ :: _) _ _ _; refine a_ia rfl rfl ?_) | (show ZL _ _ _ (⟨_, (.slice _ _ _ _ _), _, _, _, _⟩ :: _) _ _ _; refine a_cutW rfl rfl rfl fun _ _ => ?_) | (show ZL _ _ _ (⟨_, (.index _ _ _), _, _, _, _⟩ :: _) _ _ _; refine a_idxW rfl rfl fun _ _ => ?_) | (show ZL _ _ _ (⟨_, (.convert _ _ _), _, _, _, _⟩ :: _) _ _ _; refine a_conv rfl ?_) | (show ZL _ _ _ (⟨_, (.binOp _ _ _ _ _), _, _, _, _⟩ :: _) _ _ _; first | refine a_cmpT rfl rfl rfl ?_ | refine a_cmpF rfl rfl rfl ?_ | refine a_shr rfl rfl fun _ _ => ?_ | refine a_and rfl rfl fun _ _ => ?_ | refine a_mul rfl rfl ?_) | (show ZL _ _ _ (⟨_, (.binOp _ _ _ _ _), _, _, _, _⟩ :: _) _ _ _; first | refine a_cmp rfl rfl rfl (fun _ => ?_) fun _ => ?_ | refine a_eq rfl rfl (fun _ => ?_) fun _ => ?_ | refine a_ne rfl rfl (fun _ => ?_) fun _ => ?_)) | (show ZC _ _ _ _ _ _; first | refine zS ?_ | refine zR ?_ | refine zB ?_ | refine zA ?_ | refine zL ?_ | refine zE ?_ | refine zT rfl ?_ | refine zF rfl ?_) | (show ZK _ _ _ _ _; first | refine zK ?_ | refine zX ?_ | refine zQ ?_ | refine zW ?_ | refine zM ?_ | refine zY ?_ | refine zY' rfl ?_))
 refine zc_loopW (ι := Nat) (fun i u => [(0, .string (bs l)), (1, .string (bs p)), (7, .int .i64 (i : Nat))]) (fun i u => i ≤ l.length ∧ (∀ j, j < i → l.getD j 0 ≠ c) ∧ u = w) (fun i u => l.length + 1 - i) 0 ⟨Nat.zero_le _, fun j hj => absurd hj (Nat.not_lt_zero j), rfl⟩ ?_ ?_
 ·exact ⟨rfl, rfl, get_int rfl (by omega), trivial⟩
 rintro i u ⟨hi, hno, hu⟩
 obtain rfl := hu.symm
 by_cases hlt : i + p.length ≤ l.length
 ·refine zS (zS (zR (zP rfl (zP rfl (zLL rfl (zAd rfl rfl (zP rfl (zLL rfl (zCT rfl rfl rfl (zN (zK (zT rfl (zA (zK (zS (zB (zS (zR (zP rfl (zP rfl (zP rfl (zP rfl (zLL rfl (zAd rfl rfl ?_))))))))))))))))))))))))
  refine z_cutN i (i + p.length) (want_L rfl) (by decide) rfl rfl rfl rfl (by omega) (by omega) (by omega) ?_
  have hcut := cut1 l i (by omega)
  rw [h1] at *
  rw [hcut]
  refine zP rfl ?_
  refine zEq rfl rfl (fun hc => ?_) (fun hc => ?_)
  ·have hc : l.getD i 0 = c := by rw [hp] at hc; exact (List.cons.inj hc).1
   refine zN (zK (zT rfl (zS (zR (zP rfl (zP rfl (zN (zK (zE (zW (zQ (zQ (zW (zQ ?_))))))))))))))
   refine zk_ret1 (.inr rfl) rfl rfl ⟨⟨_, rfl, by omega, by omega, iff_of_true (by omega) (hc ▸ getD_in l i (by omega))⟩, rfl⟩
  ·refine zN (zK (zF rfl (zA (zM (zK (zR (zP rfl (zAd rfl rfl (zP rfl (zN ?_))))))))))
   refine zk_loopW (i + 1) ⟨by omega, fun j hj => ?_, rfl⟩ (by omega) ⟨rfl, rfl, get_int rfl (by omega), trivial⟩
   rcases Nat.lt_or_ge j i with h2 | h2
   ·exact hno j h2
   ·obtain rfl : j = i := by omega
    exact fun he => hc (by rw [he, hp])
 ·refine zS (zS (zR (zP rfl (zP rfl (zLL rfl (zAd rfl rfl (zP rfl (zLL rfl (zCF rfl rfl rfl (zN (zK (zF rfl (zL (zX (zX (zY (zK (zS (zR (zP rfl (zN (zK (zE ?_)))))))))))))))))))))))
  refine zk_ret1 (.inr rfl) rfl rfl ⟨⟨_, rfl, by omega, by omega, iff_of_false (by omega) (fun hm => ?_)⟩, rfl⟩
  obtain ⟨j, hj, he⟩ := in_getD hm
  exact hno j (by omega) he
theorem upTo_calls {w : World} (l p : List UInt8) (hl : l.length ≤ big) (hp : p.length ≤ big) (k : Nat) (hk : k ≤ l.length) (h1 : ∀ j, j < k → l.getD j 0 ∉ p) (h2 : k < l.length → l.getD k 0 ∈ p) :
  Calls Tryz.prog 166 [.string (bs l), .string (bs p)].toArray w fun e w' => e = .returned (.int .i64 k) ∧ w' = w := by
 have hbig : big = 1000000000000 := rfl
 refine zCz 23 Tryz.func166 ?_
 refine zS (zR (zP rfl (zN (zK (zS (zS (zR (zP rfl (zN (zK (zB ?_)))))))))))
 refine zc_loopW (ι := Nat) (fun i u => [(0, .string (bs l)), (1, .string (bs p)), (5, .int .i64 (i : Nat))]) (fun i u => i ≤ k ∧ u = w) (fun i u => k - i) 0 ⟨Nat.zero_le _, rfl⟩ ⟨rfl, rfl, rfl, trivial⟩ ?_
 rintro i u ⟨hi, hu⟩
 obtain rfl := hu.symm
 by_cases hlt : i < l.length
 ·refine zS (zS (zR (zP rfl (zP rfl (zLL rfl (zCT rfl rfl rfl (zN (zK (zT rfl (zA (zK (zS (zB (zS (zR (zP rfl (zP rfl (zP rfl (zP rfl (zAd rfl rfl ?_))))))))))))))))))))
  refine z_cutN i (i + 1) (want_L rfl) (by decide) rfl rfl rfl rfl rfl (by omega) (by omega) ?_
  rw [cut1 l i hlt]
  refine zCl rfl (index_calls p (l.getD i 0) hp) ?_
  rintro _ v ⟨⟨m, rfl, h3, h4, h5⟩, hv⟩
  obtain rfl := hv.symm
  refine ⟨_, rfl, ?_⟩
  rcases Nat.lt_or_ge i k with h6 | h6
  ·have h7 : ¬ 0 ≤ m := fun h => h1 i h6 (h5.1 h)
   refine zCF rfl rfl rfl (zN (zK (zF rfl (zA (zM (zK (zR (zP rfl (zAd rfl rfl (zP rfl (zN ?_)))))))))))
   exact zk_loopW (i + 1) ⟨by omega, rfl⟩ (by omega) ⟨rfl, rfl, get_int rfl (by omega), trivial⟩
  ·obtain rfl : i = k := by omega
   have h7 : 0 ≤ m := h5.2 (h2 hlt)
   refine zCT rfl rfl rfl (zN (zK (zT rfl (zS (zR (zP rfl (zP rfl (zN (zK (zE (zW (zQ (zQ (zW (zQ ?_)))))))))))))))
   exact zk_ret1 (.inr rfl) rfl rfl ⟨rfl, rfl⟩
 ·obtain rfl : k = l.length := by omega
  refine zS (zS (zR (zP rfl (zP rfl (zLL rfl (zCF rfl rfl rfl (zN (zK (zF rfl (zL (zX (zX (zY (zK (zS (zR (zP rfl (zLL rfl (zP rfl (zN (zK (zE ?_))))))))))))))))))))))
  exact zk_ret1 (.inr rfl) rfl rfl ⟨rfl, rfl⟩
def http : List UInt8 := [104, 116, 116, 112]
theorem web_calls {w : World} : Calls Tryz.prog 138 [.string (bs http)].toArray w fun e w' => e = .returned (.bool true) ∧ w' = w := by
 refine zCz 9 Tryz.func138 ?_
 refine zS (zR (zP rfl (zN (zK (zS (zR (zP rfl ?_)))))))
 refine zEq (r := http) rfl rfl (fun _ => ?_) (fun hc => absurd rfl hc)
 refine zP rfl (zP rfl (zJ rfl (zP rfl (zP rfl (zN (zK (zE ?_)))))))
 exact zk_ret1 (.inr rfl) rfl rfl ⟨rfl, rfl⟩
theorem digit_calls {w : World} (c : Nat) (h : ¬ (48 ≤ c ∧ c ≤ 57)) : Calls Tryz.prog 189 [.int .u8 c].toArray w fun e w' => e = .returned (.bool false) ∧ w' = w := by
 refine zCz 9 Tryz.func189 ?_
 by_cases h1 : 48 ≤ c
 all_goals (repeat (first | (show ZL _ _ _ _ _ _ _; first | (show ZL _ _ _ [] _ _ _; (refine zN ?_)) | (first | (show ZL _ _ _ (⟨_, (.move _), _, _, _, _⟩ :: _) _ _ _; (refine zP rfl ?_)) | (show ZL _ _ _ (⟨_, (.assign _), _, _, _, _⟩ :: _) _ _ _; (refine zP rfl ?_)) | (show ZL _ _ _ (⟨_, (.nilCheck _), _, _, _, _⟩ :: _) _ _ _; (refine zP rfl ?_)) | (show ZL _ _ _ (⟨_, (.pick _ _ _), _, _, _, _⟩ :: _) _ _ _; (refine zP rfl ?_)) | (show ZL _ _ _ (⟨_, (.extract _ _), _, _, _, _⟩ :: _) _ _ _; (refine zP rfl ?_)) | (show ZL _ _ _ (⟨_, (.unOp .not _ _), _, _, _, _⟩ :: _) _ _ _; (refine zP rfl ?_)) | (show ZL _ _ _ (⟨_, (.load _ _), _, _, _, _⟩ :: _) _ _ _; first | (refine z_loadB (by first | (exact want_none) | (exact want_L rfl)) (by decide) rfl (by assumption) (by rfl) ?_) | (refine z_load1 (by first | (exact want_none) | (exact want_L rfl)) (by decide) rfl (by assumption) ?_) | (refine z_loadAB (by first | (exact want_none) | (exact want_L rfl)) (by decide) rfl (by assumption) (by rfl) ?_)) | (show ZL _ _ _ (⟨_, (.fieldAddr _ _ _), _, _, _, _⟩ :: _) _ _ _; (refine z_fa (by first | (exact want_none) | (exact want_L rfl)) (by decide) rfl ?_)) | (show ZL _ _ _ (⟨_, (.indexAddr _ _ _), _, _, _, _⟩ :: _) _ _ _; (refine z_ia (by first | (exact want_none) | (exact want_L rfl)) (by decide) rfl rfl (by omega) (by omega) ?_)) | (show ZL _ _ _ (⟨_, (.call ⟨.builtin .len, _, _⟩), _, _, _, _⟩ :: _) _ _ _; first | (refine z_len (by first | (exact want_none) | (exact want_L rfl)) (by decide) rfl ?_) | (refine z_lenL (by first | (exact want_none) | (exact want_L rfl)) (by decide) rfl ?_) | (refine z_lenS (by first | (exact want_none) | (exact want_L rfl)) (by decide) rfl ?_)) | (show ZL _ _ _ (⟨_, (.binOp .add _ _ _ _), _, _, _, _⟩ :: _) _ _ _; first | (refine z_add (by first | (exact want_none) | (exact want_L rfl)) (by decide) rfl rfl (by omega) (by omega) ?_) | (refine z_catL (by first | (exact want_none) | (exact want_L rfl)) (by decide) rfl rfl (by omega) ?_) | (refine z_catL (by first | (exact want_none) | (exact want_L rfl)) (by decide) rfl rfl (by simp only [List.length_append, List.length_cons, List.length_nil]; omega) ?_)) | (show ZL _ _ _ (⟨_, (.binOp .sub _ _ _ _), _, _, _, _⟩ :: _) _ _ _; (refine z_sub (by first | (exact want_none) | (exact want_L rfl)) (by decide) rfl rfl (by omega) (by omega) ?_)) | (show ZL _ _ _ (⟨_, (.index _ _ _), _, _, _, _⟩ :: _) _ _ _; first | (refine z_idxP (by first | (exact want_none) | (exact want_L rfl)) (by decide) rfl rfl (by omega) ?_) | (refine z_idxM (by first | (exact want_none) | (exact want_L rfl)) (by decide) rfl rfl (by omega) (by omega) ?_) | (refine z_idxC 0 (by first | (exact want_none) | (exact want_L rfl)) (by decide) rfl rfl rfl (by omega) ?_) | (refine z_idxC 1 (by first | (exact want_none) | (exact want_L rfl)) (by decide) rfl rfl rfl (by omega) ?_) | (refine z_idxN (by first | (exact want_none) | (exact want_L rfl)) (by decide) rfl rfl (by omega) ?_) | (refine z_idxA (by first | (exact want_none) | (exact want_L rfl)) (by decide) rfl rfl (by omega) ?_)) | (show ZL _ _ _ (⟨_, (.binOp _ _ _ _ _), _, _, _, _⟩ :: _) _ _ _; first | (refine z_cmpB (r := true) (by first | (exact want_none) | (exact want_L rfl)) (by decide) rfl rfl rfl (iff_of_true rfl (by omega)) ?_) | (refine z_cmpB (r := false) (by first | (exact want_none) | (exact want_L rfl)) (by decide) rfl rfl rfl (iff_of_false Bool.false_ne_true (by omega)) ?_)) | (show ZL _ _ _ (⟨_, _, _, _, _, some _⟩ :: _) _ _ _; (refine zJ rfl ?_)))) | (show ZC _ _ _ _ _ _; first | (show ZC _ _ (.seq _ _) _ _ _; (refine zS ?_)) | (show ZC _ _ (.region _ _ false) _ _ _; (refine zR ?_)) | (show ZC _ _ (.block _ _) _ _ _; (refine zB ?_)) | (show ZC _ _ .skip _ _ _; (refine zA ?_)) | (show ZC _ _ (.exit _) _ _ _; (refine zL ?_)) | (show ZC _ _ .ret _ _ _; (refine zE ?_)) | (show ZC _ _ (.cond _ _ _) _ _ _; first | (refine zT rfl ?_) | (refine zF rfl ?_))) | (show ZK _ _ _ _ _; first | (refine zK ?_) | (refine zX ?_) | (refine zQ ?_) | (refine zW ?_) | (refine zM ?_) | (refine zY ?_) | (refine zY' rfl ?_)) | (show ZS _ _ _ _ _ _ _ _ _; first | (show ZS _ _ _ _ _ (.take _ _) _ _ _; (refine zs_take rfl ?_; first | (show ZT _ _ _ _ _ _ _ ⟨_, (.move _), _, _, _, _⟩ _ _ _; (refine zt_pure rfl ?_)) | (show ZT _ _ _ _ _ _ _ ⟨_, (.assign _), _, _, _, _⟩ _ _ _; (refine zt_pure rfl ?_)) | (show ZT _ _ _ _ _ _ _ ⟨_, (.nilCheck _), _, _, _, _⟩ _ _ _; (refine zt_pure rfl ?_)) | (show ZT _ _ _ _ _ _ _ ⟨_, (.pick _ _ _), _, _, _, _⟩ _ _ _; (refine zt_pure rfl ?_)) | (show ZT _ _ _ _ _ _ _ ⟨_, (.extract _ _), _, _, _, _⟩ _ _ _; (refine zt_pure rfl ?_)) | (show ZT _ _ _ _ _ _ _ ⟨_, (.unOp .not _ _), _, _, _, _⟩ _ _ _; (refine zt_pure rfl ?_)) | (show ZT _ _ _ _ _ _ _ ⟨_, (.load _ _), _, _, _, _⟩ _ _ _; first | (refine zt_rd (by first | (exact want_none) | (exact want_L rfl)) rfl (by decide) (fun _ hS => r_loadB rfl (by first | (exact hS) | (exact hS.1) | (exact hS.2) | (exact hS.2.1) | (exact hS.2.2) | (exact hS.2.2.1) | (exact hS.2.2.2) | (exact hS.2.2.2.1) | (exact hS.2.2.2.2) | (exact hS.2.2.2.2.1) | (exact hS.2.2.2.2.2)) (by rfl)) ?_) | (refine zt_rd (by first | (exact want_none) | (exact want_L rfl)) rfl (by decide) (fun _ hS => r_load1 rfl (by first | (exact hS) | (exact hS.1) | (exact hS.2) | (exact hS.2.1) | (exact hS.2.2) | (exact hS.2.2.1) | (exact hS.2.2.2) | (exact hS.2.2.2.1) | (exact hS.2.2.2.2) | (exact hS.2.2.2.2.1) | (exact hS.2.2.2.2.2))) ?_) | (refine zt_rd (by first | (exact want_none) | (exact want_L rfl)) rfl (by decide) (fun _ hS => r_loadAB rfl (by first | (exact hS) | (exact hS.1) | (exact hS.2) | (exact hS.2.1) | (exact hS.2.2) | (exact hS.2.2.1) | (exact hS.2.2.2) | (exact hS.2.2.2.1) | (exact hS.2.2.2.2) | (exact hS.2.2.2.2.1) | (exact hS.2.2.2.2.2)) (by rfl)) ?_)) | (show ZT _ _ _ _ _ _ _ ⟨_, (.fieldAddr _ _ _), _, _, _, _⟩ _ _ _; (refine zt_rd (by first | (exact want_none) | (exact want_L rfl)) rfl (by decide) (fun _ hS => r_fa rfl) ?_)) | (show ZT _ _ _ _ _ _ _ ⟨_, (.indexAddr _ _ _), _, _, _, _⟩ _ _ _; (refine zt_rd (by first | (exact want_none) | (exact want_L rfl)) rfl (by decide) (fun _ hS => r_ia rfl rfl (by omega) (by omega)) ?_)) | (show ZT _ _ _ _ _ _ _ ⟨_, (.call ⟨.builtin .len, _, _⟩), _, _, _, _⟩ _ _ _; first | (refine zt_rd (by first | (exact want_none) | (exact want_L rfl)) rfl (by decide) (fun _ hS => r_len rfl) ?_) | (refine zt_rd (by first | (exact want_none) | (exact want_L rfl)) rfl (by decide) (fun _ hS => r_lenL rfl) ?_) | (refine zt_rd (by first | (exact want_none) | (exact want_L rfl)) rfl (by decide) (fun _ hS => r_lenS rfl) ?_)) | (show ZT _ _ _ _ _ _ _ ⟨_, (.binOp .add _ _ _ _), _, _, _, _⟩ _ _ _; first | (refine zt_rd (by first | (exact want_none) | (exact want_L rfl)) rfl (by decide) (fun _ hS => r_add rfl rfl (by omega) (by omega)) ?_) | (refine zt_rd (by first | (exact want_none) | (exact want_L rfl)) rfl (by decide) (fun _ hS => r_catL rfl rfl (by omega)) ?_) | (refine zt_rd (by first | (exact want_none) | (exact want_L rfl)) rfl (by decide) (fun _ hS => r_catL rfl rfl (by simp only [List.length_append, List.length_cons, List.length_nil]; omega)) ?_)) | (show ZT _ _ _ _ _ _ _ ⟨_, (.binOp .sub _ _ _ _), _, _, _, _⟩ _ _ _; (refine zt_rd (by first | (exact want_none) | (exact want_L rfl)) rfl (by decide) (fun _ hS => r_sub rfl rfl (by omega) (by omega)) ?_)) | (show ZT _ _ _ _ _ _ _ ⟨_, (.index _ _ _), _, _, _, _⟩ _ _ _; (refine zt_rd (by first | (exact want_none) | (exact want_L rfl)) rfl (by decide) (fun _ hS => r_idxN rfl rfl (by omega)) ?_)) | (show ZT _ _ _ _ _ _ _ ⟨_, (.binOp _ _ _ _ _), _, _, _, _⟩ _ _ _; first | (refine zt_rd (by first | (exact want_none) | (exact want_L rfl)) rfl (by decide) (fun _ hS => r_cmpB (r := true) rfl rfl rfl (iff_of_true rfl (by omega))) ?_) | (refine zt_rd (by first | (exact want_none) | (exact want_L rfl)) rfl (by decide) (fun _ hS => r_cmpB (r := false) rfl rfl rfl (iff_of_false Bool.false_ne_true (by omega))) ?_)) | (show ZT _ _ _ _ _ _ _ ⟨_, _, _, _, _, some _⟩ _ _ _; (refine zt_skip rfl ?_)))) | (show ZS _ _ _ _ _ (.all1 _ _) _ _ _; (refine zs_alone rfl ?_; first | (show ZA _ _ _ _ _ _ _ ⟨_, (.move _), _, _, _, _⟩ _ _ _; (refine za_pure rfl ?_)) | (show ZA _ _ _ _ _ _ _ ⟨_, (.assign _), _, _, _, _⟩ _ _ _; (refine za_pure rfl ?_)) | (show ZA _ _ _ _ _ _ _ ⟨_, (.nilCheck _), _, _, _, _⟩ _ _ _; (refine za_pure rfl ?_)) | (show ZA _ _ _ _ _ _ _ ⟨_, (.pick _ _ _), _, _, _, _⟩ _ _ _; (refine za_pure rfl ?_)) | (show ZA _ _ _ _ _ _ _ ⟨_, (.extract _ _), _, _, _, _⟩ _ _ _; (refine za_pure rfl ?_)) | (show ZA _ _ _ _ _ _ _ ⟨_, (.unOp .not _ _), _, _, _, _⟩ _ _ _; (refine za_pure rfl ?_)) | (show ZA _ _ _ _ _ _ _ ⟨_, _, _, _, _, some _⟩ _ _ _; (refine za_skip rfl ?_)))) | (show ZS _ _ _ _ _ (.plain _ _) _ _ _; (refine zs_plainL rfl rfl ?_)) | (show ZS _ _ _ _ _ .fin _ _ _; (refine zs_fin ?_)))))
 all_goals exact zk_ret1 (.inr rfl) rfl rfl ⟨rfl, rfl⟩
theorem digits_calls {w : World} (l : List UInt8) (hl : l.length ≤ big) (h0 : 0 < l.length) (h : ¬ (48 ≤ Z.byteL l 0 ∧ Z.byteL l 0 ≤ 57)) : Calls Tryz.prog 191 [.string (bs l)].toArray w fun e w' => e = .returned (.bool false) ∧ w' = w := by
 have hbig : big = 1000000000000 := rfl
 refine zCz 17 Tryz.func191 ?_
 refine zS (zR (zP rfl (zN (zK (zS (zS (zR (zP rfl (zN (zK (zB ?_)))))))))))
 refine zc_loopW (ι := Nat) (fun i u => [(0, .string (bs l)), (3, .int .i64 (i : Nat))]) (fun i u => i = 0 ∧ u = w) (fun i u => l.length - i) 0 ⟨rfl, rfl⟩ ⟨rfl, rfl, trivial⟩ ?_
 rintro i u ⟨hi, hu⟩
 obtain rfl := hu.symm
 obtain rfl := hi.symm
 refine zS (zS (zR (zP rfl (zP rfl (zLL rfl (zCT rfl rfl rfl (zN (zK (zT rfl (zA (zK (zS (zB (zS (zR (zP rfl (zP rfl ?_)))))))))))))))))
 refine z_idxC 0 want_none (by decide) rfl rfl rfl (by omega) ?_
 refine zCl rfl (digit_calls _ h) ?_
 rintro _ v ⟨rfl, hv⟩
 obtain rfl := hv.symm
 refine ⟨_, rfl, ?_⟩
 refine zP rfl (zN (zK (zT rfl (zS (zR (zP rfl (zN (zK (zE (zW (zQ (zQ (zW (zQ ?_))))))))))))))
 exact zk_ret1 (.inr rfl) rfl rfl ⟨rfl, rfl⟩
theorem port_calls {w : World} : Calls Tryz.prog 168 [.string (bs http), .string (bs [])].toArray w fun e w' => e = .returned (.tuple #[.int .i64 0, .bool true]) ∧ w' = w := by
 refine zCz 33 Tryz.func168 ?_
 refine zS (zR (zP rfl (zP rfl (zN (zK (zS (zS (zR (zP rfl ?_)))))))))
 refine zEq (r := []) rfl rfl (fun _ => ?_) (fun hc => absurd rfl hc)
 refine zN (zK (zT rfl (zS (zR (zP rfl (zP rfl (zN (zK (zE (zQ ?_))))))))))
 exact zk_ret2 (.inr rfl) rfl rfl rfl ⟨rfl, rfl⟩
theorem trim_calls {w : World} (l : List UInt8) (hl : l.length ≤ big) (h0 : 0 < l.length) (h : ∀ j, j < l.length → 32 < Z.byteL l j) : Calls Tryz.prog 165 [.string (bs l)].toArray w fun e w' => e = .returned (.string (bs l)) ∧ w' = w := by
 have hbig : big = 1000000000000 := rfl
 refine zCz 62 Tryz.func165 ?_
 refine zS (zR (zP rfl (zN (zK (zS (zR (zP rfl (zLL rfl (zP rfl (zP rfl (zN (zK (zS (zB ?_))))))))))))))
 refine zc_midBX (ι := Unit) (fun k u => u = w) (fun k => [(0, .string (bs l)), (3, .int .i64 ((0 : Nat) : Int)), (4, .int .i64 l.length)]) ?_ ?_
 ·refine zc_loopW (ι := Unit) (fun i u => [(0, .string (bs l)), (3, .int .i64 ((0 : Nat) : Int)), (4, .int .i64 l.length)]) (fun i u => u = w) (fun i u => 0) () rfl ⟨rfl, rfl, rfl, trivial⟩ ?_
  rintro i u hu
  obtain rfl := hu.symm
  have := h 0 h0
  refine zS (zS (zR (zP rfl (zP rfl (zCT rfl rfl rfl (zP rfl (zP rfl (zP rfl ?_))))))))
  refine z_idxC 0 (want_L rfl) (by decide) rfl rfl rfl (by omega) ?_
  refine zCF rfl rfl rfl (zP rfl (zN (zK (zF rfl (zL (zX (zX (zY ?_))))))))
  exact zk_midX () rfl ⟨rfl, rfl, rfl, trivial⟩
 rintro k u hu
 obtain rfl := hu.symm
 refine zS (zB ?_)
 refine zc_midBX (ι := Unit) (fun k u => u = w) (fun k => [(0, .string (bs l)), (3, .int .i64 ((0 : Nat) : Int)), (4, .int .i64 l.length)]) ?_ ?_
 ·refine zc_loopW (ι := Unit) (fun i u => [(0, .string (bs l)), (3, .int .i64 ((0 : Nat) : Int)), (4, .int .i64 l.length)]) (fun i u => u = w) (fun i u => 0) () rfl ⟨rfl, rfl, rfl, trivial⟩ ?_
  rintro i u hu
  obtain rfl := hu.symm
  have := h (l.length - 1) (by omega)
  refine zS (zS (zR (zP rfl (zP rfl (zCT rfl rfl rfl (zP rfl (zP rfl (zP rfl (z_sub (want_L rfl) (by decide) rfl rfl (by omega) (by omega) ?_)))))))))
  refine z_idxM (want_L rfl) (by decide) rfl rfl (by omega) (by omega) ?_
  refine zCF rfl rfl rfl (zP rfl (zN (zK (zF rfl (zL (zX (zX (zY ?_))))))))
  exact zk_midX () rfl ⟨rfl, rfl, rfl, trivial⟩
 rintro k u hu
 obtain rfl := hu.symm
 refine zS (zR (zP rfl (zN (zK (zS (zS (zR (zP rfl (zP rfl (zN (zK (zB ?_))))))))))))
 refine zc_loopW (ι := Nat) (fun q u => [(0, .string (bs l)), (4, .int .i64 l.length), (5, .string (bs (l.take q))), (6, .int .i64 (q : Nat))]) (fun q u => q ≤ l.length ∧ u = w) (fun q u => l.length - q) 0 ⟨Nat.zero_le _, rfl⟩ ⟨rfl, rfl, rfl, rfl, trivial⟩ ?_
 rintro i u ⟨hi, hu⟩
 obtain rfl := hu.symm
 by_cases hlt : i < l.length
 ·have := h i hlt
  have hlk : (l.take i).length = i := by rw [List.length_take]; omega
  refine zS (zS (zR (zP rfl (zP rfl (zCT rfl rfl rfl (zN (zK (zT rfl (zA (zK (zS (zB (zS (zR (zP rfl (zP rfl (zIx rfl rfl (zCT rfl rfl rfl (zP rfl (zP rfl (zP rfl (zIx rfl rfl (zCT rfl rfl rfl (zP rfl (zP rfl (zP rfl (zP rfl (zIx rfl rfl (zCT rfl rfl rfl (zP rfl (zN (zK (zT rfl (zR (zP rfl (zP rfl (zP rfl (zP rfl (zAd rfl rfl ?_)))))))))))))))))))))))))))))))))))))))
  refine z_cutN i (i + 1) (want_L rfl) (by decide) rfl rfl rfl rfl rfl (by omega) (by omega) ?_
  have h1 : ((l.drop i).take (i + 1 - i)).length = 1 := by rw [List.length_take, List.length_drop]; omega
  refine z_catL (want_L rfl) (by decide) rfl rfl (by omega) ?_
  rw [T.take_step l i hlt]
  refine zP rfl (zN (zM (zK (zR (zP rfl (zAd rfl rfl (zP rfl (zN ?_))))))))
  exact zk_loopW (i + 1) ⟨by omega, rfl⟩ (by omega) ⟨rfl, rfl, rfl, get_int rfl (by omega), trivial⟩
 ·obtain rfl : i = l.length := by omega
  rw [List.take_length]
  refine zS (zS (zR (zP rfl (zP rfl (zCF rfl rfl rfl (zN (zK (zF rfl (zL (zX (zX (zY (zK (zS (zR (zP rfl (zP rfl (zN (zK (zE ?_))))))))))))))))))))
  exact zk_ret1 (.inr rfl) rfl rfl ⟨rfl, rfl⟩
theorem safe_calls {w : World} (l p : List UInt8) (hl : l.length ≤ 1000000) (hp : p.length ≤ big) (h : ∀ j, j < l.length → l.getD j 0 ∉ p ∧ 33 ≤ Z.byteL l j ∧ Z.byteL l j ≤ 126 ∧ Z.byteL l j ≠ 34 ∧ Z.byteL l j ≠ 60 ∧ Z.byteL l j ≠ 62 ∧ Z.byteL l j ≠ 96) :
  Calls Tryz.prog 169 [.string (bs l), .string (bs p)].toArray w fun e w' => e = .returned (.string (bs l)) ∧ w' = w := by
 have hbig : big = 1000000000000 := rfl
 refine zCz 67 Tryz.func169 ?_
 refine zS (zR (zP rfl (zN (zK (zS (zR (zP rfl (zN (zK (zS (zS (zR (zP rfl (zN (zK (zB ?_))))))))))))))))
 refine zc_loopW (ι := Nat) (fun q u => [(0, .string (bs l)), (1, .string (bs p)), (5, .string (bs (l.take q))), (6, .int .i64 (q : Nat))]) (fun q u => q ≤ l.length ∧ u = w) (fun q u => l.length - q) 0 ⟨Nat.zero_le _, rfl⟩ ⟨rfl, rfl, rfl, rfl, trivial⟩ ?_
 rintro i u ⟨hi, hu⟩
 obtain rfl := hu.symm
 by_cases hlt : i < l.length
 ·obtain ⟨g1, g2, g3, g4, g5, g6, g7⟩ := h i hlt
  have hlk : (l.take i).length = i := by rw [List.length_take]; omega
  refine zS (zS (zR (zP rfl (zP rfl (zLL rfl (zCT rfl rfl rfl (zN (zK (zT rfl (zA (zK (zS (zB (zS (zR (zP rfl (zP rfl (zIx rfl rfl (zP rfl (zN (zK (zS (zR (zP rfl (zCF rfl rfl rfl (zP rfl (zP rfl (zCF rfl rfl rfl (zP rfl (zP rfl (zP rfl (zCF rfl rfl rfl (zP rfl (zP rfl (zP rfl (zCF rfl rfl rfl (zP rfl (zP rfl (zP rfl ?_)))))))))))))))))))))))))))))))))))))))
  refine zCF rfl rfl rfl (zP rfl (zP rfl (zP rfl (zCF rfl rfl rfl (zP rfl (zP rfl (zP rfl (zP rfl (zP rfl (zP rfl (zAd rfl rfl ?_)))))))))))
  refine z_cutN i (i + 1) (want_L rfl) (by decide) rfl rfl rfl rfl rfl (by omega) (by omega) ?_
  rw [cut1 l i hlt]
  refine zCl rfl (index_calls p (l.getD i 0) hp) ?_
  rintro _ v ⟨⟨m, rfl, h3, h4, h5⟩, hv⟩
  obtain rfl := hv.symm
  refine ⟨_, rfl, ?_⟩
  have h7 : ¬ 0 ≤ m := fun h => g1 (h5.1 h)
  refine zCF rfl rfl rfl (zP rfl (zN (zK (zF rfl (zR (zP rfl (zP rfl (zP rfl (zP rfl (zAd rfl rfl ?_))))))))))
  refine z_cutN i (i + 1) (want_L rfl) (by decide) rfl rfl rfl rfl rfl (by omega) (by omega) ?_
  have h1 : ((l.drop i).take (i + 1 - i)).length = 1 := by rw [List.length_take, List.length_drop]; omega
  refine z_catL (want_L rfl) (by decide) rfl rfl (by omega) ?_
  rw [T.take_step l i hlt]
  refine zP rfl (zN (zM (zK (zR (zP rfl (zAd rfl rfl (zP rfl (zN ?_))))))))
  exact zk_loopW (i + 1) ⟨by omega, rfl⟩ (by omega) ⟨rfl, rfl, rfl, get_int rfl (by omega), trivial⟩
 ·obtain rfl : i = l.length := by omega
  rw [List.take_length]
  refine zS (zS (zR (zP rfl (zP rfl (zLL rfl (zCF rfl rfl rfl (zN (zK (zF rfl (zL (zX (zX (zY (zK (zS (zR (zP rfl (zP rfl (zN (zK (zE ?_)))))))))))))))))))))
  exact zk_ret1 (.inr rfl) rfl rfl ⟨rfl, rfl⟩
theorem dots_calls {w : World} : Calls Tryz.prog 195 [.string (bs [])].toArray w fun e w' => e = .returned (.int .i64 0) ∧ Chg w w' No := by
 refine zCz 13 Tryz.func195 ?_
 refine zS (zR (zP rfl (zN (zK (zS (zS (zR (zP rfl ?_))))))))
 refine zCl rfl (T.fold_calls [] (by simp [big]) (fun j hj => by simp at hj)) ?_
 rintro _ w1 ⟨rfl, hC⟩
 refine ⟨_, rfl, ?_⟩
 refine zN (zK (zB (zS (zS (zR ?_)))))
 refine zEq rfl rfl (fun hc => absurd hc (by decide)) (fun _ => ?_)
 refine zP rfl (zN (zK (zF rfl (zR ?_))))
 refine zEq rfl rfl (fun hc => absurd hc (by decide)) (fun _ => ?_)
 refine zP rfl (zN (zK (zF rfl (zS (zS (zR ?_))))))
 refine zEq rfl rfl (fun hc => absurd hc (by decide)) (fun _ => ?_)
 refine zP rfl (zN (zK (zF rfl (zS (zR ?_)))))
 refine zEq rfl rfl (fun hc => absurd hc (by decide)) (fun _ => ?_)
 refine zP rfl (zN (zK (zF rfl (zS (zR ?_)))))
 refine zEq rfl rfl (fun hc => absurd hc (by decide)) (fun _ => ?_)
 refine zP rfl (zN (zK (zF rfl (zR ?_))))
 refine zEq rfl rfl (fun hc => absurd hc (by decide)) (fun _ => ?_)
 refine zP rfl (zN (zK (zF rfl (zA (zM (zK (zS (zR (zP rfl (zN (zK (zE ?_))))))))))))
 exact zk_ret1 (.inr rfl) rfl rfl ⟨rfl, hC⟩
end Go.Proofs.YtbcmiijollpgeaaGreat.J
