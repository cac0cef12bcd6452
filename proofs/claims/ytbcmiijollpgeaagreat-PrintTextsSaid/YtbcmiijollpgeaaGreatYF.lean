import Derived.Test.YtbcmiijollpgeaaGreatYE
set_option maxHeartbeats 32000000
set_option maxRecDepth 100000
namespace Go.Z
open Go
theorem zo_skipL {P : Program} {n : Nat} {e : Env} {w : World} {Q : Exit → Act → World → Prop} {l : List Oper} {ks : List Nat} {S : World → Prop} {i : Nat} {o : Oper} {d : Tmp} {r : Ord} (hi : nth l i = some o) (hs : skipL n l e o = some d) (h : ZS P n l.toArray ks S r ((d, undef) :: e) w Q) : ZO P n l.toArray ks S i r e w Q := fun hS0 a ha => by
 obtain ⟨hd, hdn, hy⟩ := stepP_yields (P := P) (skipL_step hs)
 exact (hy a ha).wpOp (by rw [← nth_get]; exact hi) ⟨hS0, _, by rw [hd]; exact ha.put d undef hdn, h⟩
end Go.Z
namespace Go.Proofs.YtbcmiijollpgeaaGreat.D
open Go Go.Z Go.Proofs
def W1 : List UInt8 := [98, 111, 100, 121, 32, 99, 97, 112, 116, 105, 111, 110, 32, 99, 111, 108, 32, 99, 111, 108, 103, 114, 111, 117, 112, 32, 102, 114, 97, 109, 101, 32, 102, 114, 97, 109, 101, 115, 101, 116, 32, 104, 101, 97, 100, 32, 104, 116, 109, 108, 32, 116, 98, 111, 100, 121, 32, 116, 100, 32, 116, 102, 111, 111, 116, 32, 116, 104, 32, 116, 104, 101, 97, 100, 32, 116, 114]
def W2 : List UInt8 := [98, 97, 115, 101, 32, 98, 97, 115, 101, 102, 111, 110, 116, 32, 98, 103, 115, 111, 117, 110, 100, 32, 108, 105, 110, 107, 32, 109, 101, 116, 97, 32, 112, 97, 114, 97, 109, 32, 115, 111, 117, 114, 99, 101, 32, 116, 114, 97, 99, 107]
def W3 : List UInt8 := [97, 114, 101, 97, 32, 98, 114, 32, 101, 109, 98, 101, 100, 32, 105, 109, 103, 32, 105, 109, 97, 103, 101, 32, 105, 110, 112, 117, 116, 32, 107, 101, 121, 103, 101, 110, 32, 119, 98, 114]
def W4 : List UInt8 := [97, 112, 112, 108, 101, 116, 32, 109, 97, 114, 113, 117, 101, 101, 32, 111, 98, 106, 101, 99, 116]
def W5 : List UInt8 := [116, 97, 98, 108, 101, 32, 108, 105, 115, 116, 105, 110, 103, 32, 112, 114, 101]
def W6 : List UInt8 := [108, 105, 115, 116, 105, 110, 103, 32, 112, 114, 101]
def W7 : List UInt8 := [100, 100, 32, 100, 116]
def W8 : List UInt8 := [109, 97, 116, 104, 32, 115, 118, 103]
def W9 : List UInt8 := [114, 98, 32, 114, 112, 32, 114, 116, 32, 114, 116, 99]
def WA : List UInt8 := [111, 112, 116, 103, 114, 111, 117, 112, 32, 111, 112, 116, 105, 111, 110]
section
variable {w w' w0 w1 w2 : World} {b t : Nat} {q q' q1 : SQ} {N N' : List ND} {n m k : Nat} {R R' : List Nat} {f g : FE} {fr fr' : List FE} {sk sk' : Bool} {x : Value} {e : Ending}
theorem IsS.other (h : IsS w t q N R fr) {cs : List Value} (hb : Blk w b 64 cs) (hC : Chg w w' (· = b)) : IsS w' t q N R fr := by
 refine ⟨h.site.chg hC (fun k hk he => ?_) (fun k cells hk he => absurd (hk.inj (he ▸ hb)).1 (by decide)), ⟨h.mar.blk.chg hC (fun he => absurd (h.mar.blk.inj (he ▸ hb)).1 (by decide)), h.mar.row.chg hC (fun k hk he => h.mar.row.ne hk hb (by decide) he)⟩, h.wf, h.zf, h.big⟩
 exact h.site.noT (ty := 64) (cs := cs) (he ▸ hb) (by decide) (by decide) (by decide) (by decide) (by decide) hk
theorem IsB.skW (h : IsB w b t q N R fr sk) (hU : Upd w w' b 64 [.pointer (some ⟨t, 0, none⟩), .int .i64 0, .string ⟨#[]⟩, .bool sk']) : IsB w' b t q N R fr sk' ∧ WrB w w' b t q q :=
 ⟨⟨hU.blk, h.st.other h.blk hU.chg⟩, ⟨hU.chg.mono (fun k _ hk => .inl hk), fun k hk => .inl hk⟩⟩
def stN : List (List UInt8) := [[116, 101, 120, 116, 97, 114, 101, 97], [116, 105, 116, 108, 101], [105, 102, 114, 97, 109, 101], [110, 111, 101, 109, 98, 101, 100], [110, 111, 102, 114, 97, 109, 101, 115], [115, 99, 114, 105, 112, 116], [115, 116, 121, 108, 101], [120, 109, 112], [112, 108, 97, 105, 110, 116, 101, 120, 116]]
theorem state_calls (nm : List UInt8) (hn : nm ∉ stN) : Calls Tryz.prog 158 [.string (bs nm)].toArray w fun e w' => e = .returned (.int .i64 0) ∧ w' = w := by
 have hne : ∀ s ∈ stN, nm ≠ s := fun s hs he => hn (he ▸ hs)
 refine zCz 16 Tryz.func158 ?_
 refine zS (zR (zP rfl (zN (zK (zS (zS (zR (zP rfl (zN (zK (zB (zS (zS (zR ?_))))))))))))))
 refine zEq rfl rfl (fun hq => absurd hq (hne _ (by decide))) (fun _ => ?_)
 refine zP rfl (zN (zK (zF rfl (zR ?_))))
 refine zEq rfl rfl (fun hq => absurd hq (hne _ (by decide))) (fun _ => ?_)
 refine zP rfl (zN (zK (zF rfl (zS (zS (zR ?_))))))
 refine zEq rfl rfl (fun hq => absurd hq (hne _ (by decide))) (fun _ => ?_)
 refine zP rfl (zN (zK (zF rfl (zS (zR ?_)))))
 refine zEq rfl rfl (fun hq => absurd hq (hne _ (by decide))) (fun _ => ?_)
 refine zP rfl (zN (zK (zF rfl (zS (zR ?_)))))
 refine zEq rfl rfl (fun hq => absurd hq (hne _ (by decide))) (fun _ => ?_)
 refine zP rfl (zN (zK (zF rfl (zS (zR ?_)))))
 refine zEq rfl rfl (fun hq => absurd hq (hne _ (by decide))) (fun _ => ?_)
 refine zP rfl (zN (zK (zF rfl (zS (zR ?_)))))
 refine zEq rfl rfl (fun hq => absurd hq (hne _ (by decide))) (fun _ => ?_)
 refine zP rfl (zN (zK (zF rfl (zR ?_))))
 refine zEq rfl rfl (fun hq => absurd hq (hne _ (by decide))) (fun _ => ?_)
 refine zP rfl (zN (zK (zF rfl (zS (zR ?_)))))
 refine zEq rfl rfl (fun hq => absurd hq (hne _ (by decide))) (fun _ => ?_)
 refine zP rfl (zN (zK (zF rfl (zA (zM (zK (zS (zR (zP rfl (zN (zK (zE ?_))))))))))))
 exact zk_ret1 (.inr rfl) rfl rfl ⟨rfl, rfl⟩
theorem more_li (h : IsB w b t q N (n :: m :: R) (f :: g :: fr) sk) (hM : MOk q.M (n :: m :: R) (f :: g :: fr)) (hf : fr.length ≤ 700) (hl : N.length ≤ 1900000) (nm : List UInt8) (hn : nm ∈ ([[108, 105]] : List (List UInt8))) (al : List T.At) {va : Value} (ha : AttrS w va (encT al)) (hal : al.length ≤ 1000000) (hs : f.nm = [111, 108] ∨ f.nm = [117, 108]) (hp : ∀ g' ∈ f :: g :: fr, g'.nm ≠ [112]) :
  Calls Tryz.prog 160 [.pointer (some ⟨b, 0, none⟩), T.tokV 1 nm va []].toArray w (BPost w b t q (⟨nm, al, .nil⟩ :: f :: g :: fr) sk (N.length + 1) (.tuple #[])) := by
 obtain ⟨A0, c0, rfl, _⟩ := ha.form
 unfold T.tokV
 refine zCz 171 Tryz.func160 ?_
 refine zS (zR ?_)
 refine zBx rfl (fun w1 b3 hN1 => ?_)
 have hb30 : Blk w1 b3 66 [.int .i64 1, .string (bs nm), .slice A0 (encT al).length c0, .bool false, .string (bs [])] := hN1.blk
 have h1 := h.no hN1.chg
 have ha1 := ha.no hN1.chg
 have hb0 := h1.blk
 have hb := hb0
 have hb3 := hb30
 have C : Chg w1 w1 No := Chg.refl _ _
 obtain rfl := List.mem_singleton.1 hn
 refine zN (zK (zB (zS (zR (zfa rfl (zlB rfl ?_))))))
 refine zEq rfl rfl (fun _ => ?_) (fun hq => absurd rfl hq)
 refine zP rfl (zN (zK (zT rfl (zR (zP rfl (zlA rfl ?_))))))
 refine zB1 rfl (fun w2 cb hM2 => ?_)
 have hr : RdS w2 9 1 (.slice (some ⟨cb, 0, none⟩) 1 1) 1 (T.cellsS [[108, 105]]) := RdS.new hM2 rfl (T.cellsS_one _)
 have C := C.no hM2.chg
 refine zCl rfl (item_calls (h1.no C) hM (by omega) hl hs hp al (ha1.no C) hal hr) ?_
 rintro _ wz hp_
 obtain rfl := hp_.1
 refine ⟨_, rfl, ?_⟩
 refine zN (zM ?_)
 exact zk_ret0 (.inl rfl) rfl (BPost.pre (hN1.chg.no C) hp_)
theorem more_a (h : IsB w b t q N (n :: R) (f :: fr) sk) (hM : MOk q.M (n :: R) (f :: fr)) (hf : fr.length ≤ 700) (hl : N.length ≤ 1900000) (nm : List UInt8) (hn : nm ∈ ([[97]] : List (List UInt8))) (al : List T.At) {va : Value} (ha : AttrS w va (encT al)) (hal : al.length ≤ 1000000) (hup : [97] ∉ upN (f :: fr)) :
  Calls Tryz.prog 160 [.pointer (some ⟨b, 0, none⟩), T.tokV 1 nm va []].toArray w (BPost w b t q (⟨nm, al, .nil⟩ :: f :: fr) sk (N.length + 1) (.tuple #[])) := by
 obtain ⟨A0, c0, rfl, _⟩ := ha.form
 unfold T.tokV
 refine zCz 171 Tryz.func160 ?_
 refine zS (zR ?_)
 refine zBx rfl (fun w1 b3 hN1 => ?_)
 have hb30 : Blk w1 b3 66 [.int .i64 1, .string (bs nm), .slice A0 (encT al).length c0, .bool false, .string (bs [])] := hN1.blk
 have h1 := h.no hN1.chg
 have ha1 := ha.no hN1.chg
 have hb0 := h1.blk
 have hb := hb0
 have hb3 := hb30
 have C : Chg w1 w1 No := Chg.refl _ _
 obtain rfl := List.mem_singleton.1 hn
 refine zN (zK (zB (zS (zR (zfa rfl (zlB rfl ?_))))))
 refine zEq rfl rfl (fun hq => absurd hq (by decide)) (fun _ => ?_)
 refine zP rfl (zN (zK (zF rfl (zS (zR (zfa rfl (zlB rfl ?_)))))))
 refine zCl rfl (B.in_calls [97] W7 (by decide)) ?_
 rintro _ w2 ⟨rfl, hC⟩
 refine ⟨_, rfl, ?_⟩
 rw [decide_eq_false (show [97] ∉ B.wd W7 by decide +kernel)]
 have C := C.no hC
 have hb := hb0.no C
 have hb3 := hb30.no C
 refine zP rfl (zN (zK (zF rfl (zS (zR (zfa rfl (zlB rfl ?_)))))))
 refine zEq rfl rfl (fun _ => ?_) (fun hq => absurd rfl hq)
 refine zP rfl (zN (zK (zT rfl (zR (zP rfl (zlA rfl ?_))))))
 refine zCl rfl (anchor_calls (h1.no C) hM (by omega) hl al (ha1.no C) hal hup) ?_
 rintro _ wz hp
 obtain rfl := hp.1
 refine ⟨_, rfl, ?_⟩
 refine zN (zM ?_)
 exact zk_ret0 (.inl rfl) rfl (BPost.pre (hN1.chg.no C) hp)
theorem more_fmt (h : IsB w b t q N (n :: R) (f :: fr) sk) (hM : MOk q.M (n :: R) (f :: fr)) (hf : fr.length ≤ 700) (hl : N.length ≤ 1900000) (nm : List UInt8) (hn : nm ∈ ([[99, 111, 100, 101], [101, 109], [115, 116, 114, 111, 110, 103]] : List (List UInt8))) (al : List T.At) {va : Value} (ha : AttrS w va (encT al)) (hal : al.length ≤ 1000000) (hup : nm ∉ upN (f :: fr)) :
  Calls Tryz.prog 160 [.pointer (some ⟨b, 0, none⟩), T.tokV 1 nm va []].toArray w (BPost w b t q (⟨nm, al, .nil⟩ :: f :: fr) sk (N.length + 1) (.tuple #[])) := by
 obtain ⟨A0, c0, rfl, _⟩ := ha.form
 unfold T.tokV
 refine zCz 171 Tryz.func160 ?_
 refine zS (zR ?_)
 refine zBx rfl (fun w1 b3 hN1 => ?_)
 have hb30 : Blk w1 b3 66 [.int .i64 1, .string (bs nm), .slice A0 (encT al).length c0, .bool false, .string (bs [])] := hN1.blk
 have h1 := h.no hN1.chg
 have ha1 := ha.no hN1.chg
 have hb0 := h1.blk
 have hb := hb0
 have hb3 := hb30
 have C : Chg w1 w1 No := Chg.refl _ _
 refine zN (zK (zB (zS (zR (zfa rfl (zlB rfl ?_))))))
 refine zEq rfl rfl (fun hq => absurd hq ((show ∀ a ∈ ([[99, 111, 100, 101], [101, 109], [115, 116, 114, 111, 110, 103]] : List (List UInt8)), a ≠ [108, 105] by decide +kernel) nm hn)) (fun _ => ?_)
 refine zP rfl (zN (zK (zF rfl (zS (zR (zfa rfl (zlB rfl ?_)))))))
 refine zCl rfl (B.in_calls nm W7 (by decide)) ?_
 rintro _ w2 ⟨rfl, hC⟩
 refine ⟨_, rfl, ?_⟩
 rw [decide_eq_false ((show ∀ a ∈ ([[99, 111, 100, 101], [101, 109], [115, 116, 114, 111, 110, 103]] : List (List UInt8)), a ∉ B.wd W7 by decide +kernel) nm hn)]
 have C := C.no hC
 have hb := hb0.no C
 have hb3 := hb30.no C
 refine zP rfl (zN (zK (zF rfl (zS (zR (zfa rfl (zlB rfl ?_)))))))
 refine zEq rfl rfl (fun hq => absurd hq ((show ∀ a ∈ ([[99, 111, 100, 101], [101, 109], [115, 116, 114, 111, 110, 103]] : List (List UInt8)), a ≠ [97] by decide +kernel) nm hn)) (fun _ => ?_)
 refine zP rfl (zN (zK (zF rfl (zS (zR (zfa rfl (zlB rfl ?_)))))))
 refine zEq rfl rfl (fun hq => absurd hq ((show ∀ a ∈ ([[99, 111, 100, 101], [101, 109], [115, 116, 114, 111, 110, 103]] : List (List UInt8)), a ≠ [110, 111, 98, 114] by decide +kernel) nm hn)) (fun _ => ?_)
 refine zP rfl (zN (zK (zF rfl (zS (zR (zfa rfl (zlB rfl ?_)))))))
 refine zCl rfl (B.has_calls 2 nm (by decide) (by decide)) ?_
 rintro _ w3 ⟨rfl, hC⟩
 refine ⟨_, rfl, ?_⟩
 rw [decide_eq_true ((show ∀ a ∈ ([[99, 111, 100, 101], [101, 109], [115, 116, 114, 111, 110, 103]] : List (List UInt8)), a ∈ B.wd (B.setW 2) by decide +kernel) nm hn)]
 have C := C.no hC
 have hb := hb0.no C
 have hb3 := hb30.no C
 refine zP rfl (zN (zK (zT rfl (zS (zR (zP rfl (zP rfl (zfa rfl (zlB rfl ?_)))))))))
 refine zCl rfl (rebuild_calls (h1.no C).st (by omega) hM) ?_
 rintro _ w4 ⟨rfl, hC⟩
 refine ⟨_, rfl, ?_⟩
 have C := C.no hC
 have hb := hb0.no C
 have hb3 := hb30.no C
 refine zN (zK (zR (zP rfl (zlA rfl ?_))))
 refine zCl rfl (format_calls (h1.no C) hM (by omega) hl nm al (ha1.no C) hal ((show ∀ a ∈ ([[99, 111, 100, 101], [101, 109], [115, 116, 114, 111, 110, 103]] : List (List UInt8)), a ∈ fmtN by decide +kernel) nm hn) hup) ?_
 rintro _ wz hp
 obtain rfl := hp.1
 refine ⟨_, rfl, ?_⟩
 refine zN (zM ?_)
 exact zk_ret0 (.inl rfl) rfl (BPost.pre (hN1.chg.no C) hp)
theorem more_sub (h : IsB w b t q N (n :: R) (f :: fr) sk) (hM : MOk q.M (n :: R) (f :: fr)) (hf : fr.length ≤ 700) (hl : N.length ≤ 1900000) (nm : List UInt8) (hn : nm ∈ ([[115, 117, 98], [115, 117, 112]] : List (List UInt8))) (al : List T.At) {va : Value} (ha : AttrS w va (encT al)) (hal : al.length ≤ 1000000) :
  Calls Tryz.prog 160 [.pointer (some ⟨b, 0, none⟩), T.tokV 1 nm va []].toArray w (BPost w b t q (⟨nm, al, .nil⟩ :: f :: fr) sk (N.length + 1) (.tuple #[])) := by
 obtain ⟨A0, c0, rfl, _⟩ := ha.form
 unfold T.tokV
 refine zCz 171 Tryz.func160 ?_
 refine zS (zR ?_)
 refine zBx rfl (fun w1 b3 hN1 => ?_)
 have hb30 : Blk w1 b3 66 [.int .i64 1, .string (bs nm), .slice A0 (encT al).length c0, .bool false, .string (bs [])] := hN1.blk
 have h1 := h.no hN1.chg
 have ha1 := ha.no hN1.chg
 have hb0 := h1.blk
 have hb := hb0
 have hb3 := hb30
 have C : Chg w1 w1 No := Chg.refl _ _
 refine zN (zK (zB (zS (zR (zfa rfl (zlB rfl ?_))))))
 refine zEq rfl rfl (fun hq => absurd hq ((show ∀ a ∈ ([[115, 117, 98], [115, 117, 112]] : List (List UInt8)), a ≠ [108, 105] by decide +kernel) nm hn)) (fun _ => ?_)
 refine zP rfl (zN (zK (zF rfl (zS (zR (zfa rfl (zlB rfl ?_)))))))
 refine zCl rfl (B.in_calls nm W7 (by decide)) ?_
 rintro _ w2 ⟨rfl, hC⟩
 refine ⟨_, rfl, ?_⟩
 rw [decide_eq_false ((show ∀ a ∈ ([[115, 117, 98], [115, 117, 112]] : List (List UInt8)), a ∉ B.wd W7 by decide +kernel) nm hn)]
 have C := C.no hC
 have hb := hb0.no C
 have hb3 := hb30.no C
 refine zP rfl (zN (zK (zF rfl (zS (zR (zfa rfl (zlB rfl ?_)))))))
 refine zEq rfl rfl (fun hq => absurd hq ((show ∀ a ∈ ([[115, 117, 98], [115, 117, 112]] : List (List UInt8)), a ≠ [97] by decide +kernel) nm hn)) (fun _ => ?_)
 refine zP rfl (zN (zK (zF rfl (zS (zR (zfa rfl (zlB rfl ?_)))))))
 refine zEq rfl rfl (fun hq => absurd hq ((show ∀ a ∈ ([[115, 117, 98], [115, 117, 112]] : List (List UInt8)), a ≠ [110, 111, 98, 114] by decide +kernel) nm hn)) (fun _ => ?_)
 refine zP rfl (zN (zK (zF rfl (zS (zR (zfa rfl (zlB rfl ?_)))))))
 refine zCl rfl (B.has_calls 2 nm (by decide) (by decide)) ?_
 rintro _ w3 ⟨rfl, hC⟩
 refine ⟨_, rfl, ?_⟩
 rw [decide_eq_false ((show ∀ a ∈ ([[115, 117, 98], [115, 117, 112]] : List (List UInt8)), a ∉ B.wd (B.setW 2) by decide +kernel) nm hn)]
 have C := C.no hC
 have hb := hb0.no C
 have hb3 := hb30.no C
 refine zP rfl (zN (zK (zF rfl (zS (zR (zfa rfl (zlB rfl ?_)))))))
 refine zCl rfl (B.in_calls nm W8 (by decide)) ?_
 rintro _ w4 ⟨rfl, hC⟩
 refine ⟨_, rfl, ?_⟩
 rw [decide_eq_false ((show ∀ a ∈ ([[115, 117, 98], [115, 117, 112]] : List (List UInt8)), a ∉ B.wd W8 by decide +kernel) nm hn)]
 have C := C.no hC
 have hb := hb0.no C
 have hb3 := hb30.no C
 refine zP rfl (zN (zK (zF rfl (zS (zR (zfa rfl (zlB rfl ?_)))))))
 refine zCl rfl (B.in_calls nm W9 (by decide)) ?_
 rintro _ w5 ⟨rfl, hC⟩
 refine ⟨_, rfl, ?_⟩
 rw [decide_eq_false ((show ∀ a ∈ ([[115, 117, 98], [115, 117, 112]] : List (List UInt8)), a ∉ B.wd W9 by decide +kernel) nm hn)]
 have C := C.no hC
 have hb := hb0.no C
 have hb3 := hb30.no C
 refine zP rfl (zN (zK (zF rfl (zS (zS (zR (zfa rfl (zlB rfl ?_))))))))
 refine zEq rfl rfl (fun hq => absurd hq ((show ∀ a ∈ ([[115, 117, 98], [115, 117, 112]] : List (List UInt8)), a ≠ [98, 117, 116, 116, 111, 110] by decide +kernel) nm hn)) (fun _ => ?_)
 refine zP rfl (zP rfl (zP rfl (zJ rfl (zJ rfl (zJ rfl (zJ rfl (zP rfl (zN (zK (zF rfl (zA (zK (zS (zS ?_))))))))))))))
 refine zc_draw [] (fun w' => Blk w' b 64 [.pointer (some ⟨t, 0, none⟩), .int .i64 0, .string ⟨#[]⟩, .bool sk] ∧ Blk w' b3 66 [.int .i64 1, .string (bs nm), .slice A0 (encT al).length c0, .bool false, .string (bs [])]) (.take 0 (.take 1 (.all1 2 (.take 3 (.take 4 (.take 5 (.take 6 (.take 7 (.take 8 (.take 9 (.take 10 (.take 11 (.all2 12 (.all1 13 (.all1 14 (.take 15 (.fin)))) 13 (.all1 12 (.all1 14 (.take 15 (.fin))))))))))))))))) (by rfl) (by kernel_rfl) (by kernel_rfl) (fun wd hC _ => ⟨?_, ?_⟩)
 ·exact ⟨hb.no hC, hb3.no hC⟩
 have C := C.no hC
 have hb := hb0.no C
 have hb3 := hb30.no C
 refine zRd rfl rfl (fun _ hS => r_fa rfl) ?_
 refine zRd rfl rfl (fun _ hS => r_loadB rfl hS.2 (by rfl)) ?_
 refine zs_call rfl (want_L rfl) rfl (by decide) rfl (B.in_calls nm WA (by decide)) ?_
 rintro _ we ⟨rfl, hC⟩
 have C := C.no hC
 have hb := hb0.no C
 have hb3 := hb30.no C
 refine ⟨_, rfl, ⟨hb, hb3⟩, ?_⟩
 rw [decide_eq_false ((show ∀ a ∈ ([[115, 117, 98], [115, 117, 112]] : List (List UInt8)), a ∉ B.wd WA by decide +kernel) nm hn)]
 refine ztP rfl rfl (ztP rfl rfl (ztP rfl rfl ?_))
 iterate 2 (refine zs_take rfl (zt_skip rfl ?_))
 refine ztP rfl rfl (ztP rfl rfl ?_)
 iterate 2 (refine zs_take rfl (zt_skip rfl ?_))
 refine zs_two ?_ ?_
 ·refine zo_skipL rfl rfl ?_
  iterate 2 (refine zs_alone rfl (za_skip rfl ?_))
  refine ztP rfl rfl ?_
  refine zs_fin ?_
  refine zK (zF rfl (zA (zK (zS (zR (zP rfl (zP rfl (zfa rfl (zlB rfl ?_)))))))))
  refine zCl rfl (rebuild_calls (h1.no C).st (by omega) hM) ?_
  rintro _ w6 ⟨rfl, hC⟩
  refine ⟨_, rfl, ?_⟩
  have C := C.no hC
  have hb := hb0.no C
  have hb3 := hb30.no C
  refine zN (zK (zR (zP rfl (zlA rfl ?_))))
  refine zCl rfl (enter_calls (h1.no C) (by omega) hl nm al (ha1.no C) hal) ?_
  rintro _ wz hpz
  obtain rfl := hpz.1
  refine ⟨_, rfl, ?_⟩
  refine zN (zM ?_)
  refine zk_ret0 (.inl rfl) rfl (BPost.pre (hN1.chg.no C) (hpz.toB (h1.no C) (hM.open_ ?_ ?_)))
  ·exact ((show ∀ a ∈ ([[115, 117, 98], [115, 117, 112]] : List (List UInt8)), a ∉ fmtN by decide +kernel) nm hn)
  ·exact ((show ∀ a ∈ ([[115, 117, 98], [115, 117, 112]] : List (List UInt8)), a ∉ cellN by decide +kernel) nm hn)
 ·refine zo_skipL rfl rfl ?_
  iterate 2 (refine zs_alone rfl (za_skip rfl ?_))
  refine ztP rfl rfl ?_
  refine zs_fin ?_
  refine zK (zF rfl (zA (zK (zS (zR (zP rfl (zP rfl (zfa rfl (zlB rfl ?_)))))))))
  refine zCl rfl (rebuild_calls (h1.no C).st (by omega) hM) ?_
  rintro _ w6 ⟨rfl, hC⟩
  refine ⟨_, rfl, ?_⟩
  have C := C.no hC
  have hb := hb0.no C
  have hb3 := hb30.no C
  refine zN (zK (zR (zP rfl (zlA rfl ?_))))
  refine zCl rfl (enter_calls (h1.no C) (by omega) hl nm al (ha1.no C) hal) ?_
  rintro _ wz hpz
  obtain rfl := hpz.1
  refine ⟨_, rfl, ?_⟩
  refine zN (zM ?_)
  refine zk_ret0 (.inl rfl) rfl (BPost.pre (hN1.chg.no C) (hpz.toB (h1.no C) (hM.open_ ?_ ?_)))
  ·exact ((show ∀ a ∈ ([[115, 117, 98], [115, 117, 112]] : List (List UInt8)), a ∉ fmtN by decide +kernel) nm hn)
  ·exact ((show ∀ a ∈ ([[115, 117, 98], [115, 117, 112]] : List (List UInt8)), a ∉ cellN by decide +kernel) nm hn)
theorem opens_hr (h : IsB w b t q N (n :: R) (f :: fr) sk) (hM : MOk q.M (n :: R) (f :: fr)) (hf : fr.length ≤ 700) (hl : N.length ≤ 1900000) (nm : List UInt8) (hn : nm ∈ ([[104, 114]] : List (List UInt8))) (al : List T.At) {va : Value} (ha : AttrS w va (encT al)) (hal : al.length ≤ 1000000) (hp : ∀ g ∈ f :: fr, g.nm ≠ [112]) :
  Calls Tryz.prog 132 [.pointer (some ⟨b, 0, none⟩), T.tokV 1 nm va []].toArray w (BPost w b t q (f.shut ⟨nm, al, .nil⟩ :: fr) sk (N.length + 1) (.tuple #[])) := by
 obtain ⟨A0, c0, rfl, _⟩ := ha.form
 unfold T.tokV
 refine zCz 131 Tryz.func132 ?_
 refine zS (zR ?_)
 refine zBx rfl (fun w1 b3 hN1 => ?_)
 have hb30 : Blk w1 b3 66 [.int .i64 1, .string (bs nm), .slice A0 (encT al).length c0, .bool false, .string (bs [])] := hN1.blk
 have h1 := h.no hN1.chg
 have ha1 := ha.no hN1.chg
 have hb0 := h1.blk
 have hb := hb0
 have hb3 := hb30
 have C : Chg w1 w1 No := Chg.refl _ _
 refine zN (zK (zB (zS (zR (zfa rfl (zlB rfl ?_))))))
 refine zCl rfl (B.in_calls nm W1 (by decide)) ?_
 rintro _ w2 ⟨rfl, hC⟩
 refine ⟨_, rfl, ?_⟩
 rw [decide_eq_false ((show ∀ a ∈ ([[104, 114]] : List (List UInt8)), a ∉ B.wd W1 by decide +kernel) nm hn)]
 have C := C.no hC
 have hb := hb0.no C
 have hb3 := hb30.no C
 refine zP rfl (zN (zK (zF rfl (zS (zR (zfa rfl (zlB rfl ?_)))))))
 refine zCl rfl (B.in_calls nm W2 (by decide)) ?_
 rintro _ w3 ⟨rfl, hC⟩
 refine ⟨_, rfl, ?_⟩
 rw [decide_eq_false ((show ∀ a ∈ ([[104, 114]] : List (List UInt8)), a ∉ B.wd W2 by decide +kernel) nm hn)]
 have C := C.no hC
 have hb := hb0.no C
 have hb3 := hb30.no C
 refine zP rfl (zN (zK (zF rfl (zS (zR (zfa rfl (zlB rfl ?_)))))))
 refine zEq rfl rfl (fun _ => ?_) (fun hq => absurd ((show ∀ a ∈ ([[104, 114]] : List (List UInt8)), a = [104, 114] by decide +kernel) nm hn) hq)
 refine zP rfl (zN (zK (zT rfl (zS (zR (zP rfl ?_))))))
 refine zCl rfl (closeP_calls (h1.no C) (by omega) hp) ?_
 rintro _ w4 ⟨rfl, hC⟩
 refine ⟨_, rfl, ?_⟩
 have C := C.no hC
 have hb := hb0.no C
 have hb3 := hb30.no C
 refine zN (zK (zR (zP rfl (zlA rfl ?_))))
 refine zCl rfl (leaf_calls (h1.no C) hM (by omega) hl nm al (ha1.no C) hal) ?_
 rintro _ wz hp2
 obtain rfl := hp2.1
 refine ⟨_, rfl, ?_⟩
 refine zN (zM ?_)
 exact zk_ret0 (.inl rfl) rfl (BPost.pre (hN1.chg.no C) hp2)
theorem opens_br (h : IsB w b t q N (n :: R) (f :: fr) sk) (hM : MOk q.M (n :: R) (f :: fr)) (hf : fr.length ≤ 700) (hl : N.length ≤ 1900000) (nm : List UInt8) (hn : nm ∈ ([[98, 114], [105, 109, 103]] : List (List UInt8))) (al : List T.At) {va : Value} (ha : AttrS w va (encT al)) (hal : al.length ≤ 1000000) :
  Calls Tryz.prog 132 [.pointer (some ⟨b, 0, none⟩), T.tokV 1 nm va []].toArray w (BPost w b t q (f.shut ⟨nm, al, .nil⟩ :: fr) sk (N.length + 1) (.tuple #[])) := by
 obtain ⟨A0, c0, rfl, _⟩ := ha.form
 unfold T.tokV
 refine zCz 131 Tryz.func132 ?_
 refine zS (zR ?_)
 refine zBx rfl (fun w1 b3 hN1 => ?_)
 have hb30 : Blk w1 b3 66 [.int .i64 1, .string (bs nm), .slice A0 (encT al).length c0, .bool false, .string (bs [])] := hN1.blk
 have h1 := h.no hN1.chg
 have ha1 := ha.no hN1.chg
 have hb0 := h1.blk
 have hb := hb0
 have hb3 := hb30
 have C : Chg w1 w1 No := Chg.refl _ _
 refine zN (zK (zB (zS (zR (zfa rfl (zlB rfl ?_))))))
 refine zCl rfl (B.in_calls nm W1 (by decide)) ?_
 rintro _ w2 ⟨rfl, hC⟩
 refine ⟨_, rfl, ?_⟩
 rw [decide_eq_false ((show ∀ a ∈ ([[98, 114], [105, 109, 103]] : List (List UInt8)), a ∉ B.wd W1 by decide +kernel) nm hn)]
 have C := C.no hC
 have hb := hb0.no C
 have hb3 := hb30.no C
 refine zP rfl (zN (zK (zF rfl (zS (zR (zfa rfl (zlB rfl ?_)))))))
 refine zCl rfl (B.in_calls nm W2 (by decide)) ?_
 rintro _ w3 ⟨rfl, hC⟩
 refine ⟨_, rfl, ?_⟩
 rw [decide_eq_false ((show ∀ a ∈ ([[98, 114], [105, 109, 103]] : List (List UInt8)), a ∉ B.wd W2 by decide +kernel) nm hn)]
 have C := C.no hC
 have hb := hb0.no C
 have hb3 := hb30.no C
 refine zP rfl (zN (zK (zF rfl (zS (zR (zfa rfl (zlB rfl ?_)))))))
 refine zEq rfl rfl (fun hq => absurd hq ((show ∀ a ∈ ([[98, 114], [105, 109, 103]] : List (List UInt8)), a ≠ [104, 114] by decide +kernel) nm hn)) (fun _ => ?_)
 refine zP rfl (zN (zK (zF rfl (zS (zR (zfa rfl (zlB rfl ?_)))))))
 refine zCl rfl (B.in_calls nm W3 (by decide)) ?_
 rintro _ w4 ⟨rfl, hC⟩
 refine ⟨_, rfl, ?_⟩
 rw [decide_eq_true ((show ∀ a ∈ ([[98, 114], [105, 109, 103]] : List (List UInt8)), a ∈ B.wd W3 by decide +kernel) nm hn)]
 have C := C.no hC
 have hb := hb0.no C
 have hb3 := hb30.no C
 refine zP rfl (zN (zK (zT rfl (zS (zS (zR (zfa rfl (zlB rfl ?_))))))))
 refine zEq rfl rfl (fun hq => absurd hq ((show ∀ a ∈ ([[98, 114], [105, 109, 103]] : List (List UInt8)), a ≠ [105, 109, 97, 103, 101] by decide +kernel) nm hn)) (fun _ => ?_)
 refine zN (zK (zF rfl (zA (zK (zS (zR (zP rfl (zP rfl (zfa rfl (zlB rfl ?_))))))))))
 refine zCl rfl (rebuild_calls (h1.no C).st (by omega) hM) ?_
 rintro _ w5 ⟨rfl, hC⟩
 refine ⟨_, rfl, ?_⟩
 have C := C.no hC
 have hb := hb0.no C
 have hb3 := hb30.no C
 refine zN (zK (zR (zP rfl (zlA rfl ?_))))
 refine zCl rfl (leaf_calls (h1.no C) hM (by omega) hl nm al (ha1.no C) hal) ?_
 rintro _ wz hp
 obtain rfl := hp.1
 refine ⟨_, rfl, ?_⟩
 refine zN (zM ?_)
 exact zk_ret0 (.inl rfl) rfl (BPost.pre (hN1.chg.no C) hp)
theorem opens_block (h : IsB w b t q N (n :: R) (f :: fr) sk) (hM : MOk q.M (n :: R) (f :: fr)) (hf : fr.length ≤ 700) (hl : N.length ≤ 1900000) (nm : List UInt8) (hn : nm ∈ ([[112], [111, 108], [117, 108], [98, 108, 111, 99, 107, 113, 117, 111, 116, 101]] : List (List UInt8))) (al : List T.At) {va : Value} (ha : AttrS w va (encT al)) (hal : al.length ≤ 1000000) (hp : ∀ g ∈ f :: fr, g.nm ≠ [112]) :
  Calls Tryz.prog 132 [.pointer (some ⟨b, 0, none⟩), T.tokV 1 nm va []].toArray w (BPost w b t q (⟨nm, al, .nil⟩ :: f :: fr) false (N.length + 1) (.tuple #[])) := by
 obtain ⟨A0, c0, rfl, _⟩ := ha.form
 unfold T.tokV
 refine zCz 131 Tryz.func132 ?_
 refine zS (zR ?_)
 refine zBx rfl (fun w1 b3 hN1 => ?_)
 have hb30 : Blk w1 b3 66 [.int .i64 1, .string (bs nm), .slice A0 (encT al).length c0, .bool false, .string (bs [])] := hN1.blk
 have h1 := h.no hN1.chg
 have ha1 := ha.no hN1.chg
 have hb0 := h1.blk
 have hb := hb0
 have hb3 := hb30
 have C : Chg w1 w1 No := Chg.refl _ _
 refine zN (zK (zB (zS (zR (zfa rfl (zlB rfl ?_))))))
 refine zCl rfl (B.in_calls nm W1 (by decide)) ?_
 rintro _ w2 ⟨rfl, hC⟩
 refine ⟨_, rfl, ?_⟩
 rw [decide_eq_false ((show ∀ a ∈ ([[112], [111, 108], [117, 108], [98, 108, 111, 99, 107, 113, 117, 111, 116, 101]] : List (List UInt8)), a ∉ B.wd W1 by decide +kernel) nm hn)]
 have C := C.no hC
 have hb := hb0.no C
 have hb3 := hb30.no C
 refine zP rfl (zN (zK (zF rfl (zS (zR (zfa rfl (zlB rfl ?_)))))))
 refine zCl rfl (B.in_calls nm W2 (by decide)) ?_
 rintro _ w3 ⟨rfl, hC⟩
 refine ⟨_, rfl, ?_⟩
 rw [decide_eq_false ((show ∀ a ∈ ([[112], [111, 108], [117, 108], [98, 108, 111, 99, 107, 113, 117, 111, 116, 101]] : List (List UInt8)), a ∉ B.wd W2 by decide +kernel) nm hn)]
 have C := C.no hC
 have hb := hb0.no C
 have hb3 := hb30.no C
 refine zP rfl (zN (zK (zF rfl (zS (zR (zfa rfl (zlB rfl ?_)))))))
 refine zEq rfl rfl (fun hq => absurd hq ((show ∀ a ∈ ([[112], [111, 108], [117, 108], [98, 108, 111, 99, 107, 113, 117, 111, 116, 101]] : List (List UInt8)), a ≠ [104, 114] by decide +kernel) nm hn)) (fun _ => ?_)
 refine zP rfl (zN (zK (zF rfl (zS (zR (zfa rfl (zlB rfl ?_)))))))
 refine zCl rfl (B.in_calls nm W3 (by decide)) ?_
 rintro _ w4 ⟨rfl, hC⟩
 refine ⟨_, rfl, ?_⟩
 rw [decide_eq_false ((show ∀ a ∈ ([[112], [111, 108], [117, 108], [98, 108, 111, 99, 107, 113, 117, 111, 116, 101]] : List (List UInt8)), a ∉ B.wd W3 by decide +kernel) nm hn)]
 have C := C.no hC
 have hb := hb0.no C
 have hb3 := hb30.no C
 refine zP rfl (zN (zK (zF rfl (zS (zR (zfa rfl (zlB rfl ?_)))))))
 refine zCl rfl (state_calls nm ((show ∀ a ∈ ([[112], [111, 108], [117, 108], [98, 108, 111, 99, 107, 113, 117, 111, 116, 101]] : List (List UInt8)), a ∉ stN by decide +kernel) nm hn)) ?_
 rintro _ u ⟨rfl, hu⟩
 obtain rfl := hu.symm
 refine ⟨_, rfl, ?_⟩
 refine zCF rfl rfl rfl (zP rfl (zN (zK (zF rfl (zS (zR (zfa rfl (zlB rfl ?_))))))))
 refine zEq rfl rfl (fun hq => absurd hq ((show ∀ a ∈ ([[112], [111, 108], [117, 108], [98, 108, 111, 99, 107, 113, 117, 111, 116, 101]] : List (List UInt8)), a ≠ [116, 101, 109, 112, 108, 97, 116, 101] by decide +kernel) nm hn)) (fun _ => ?_)
 refine zP rfl (zN (zK (zF rfl (zS (zR (zfa rfl (zlB rfl ?_)))))))
 refine zCl rfl (B.in_calls nm W4 (by decide)) ?_
 rintro _ w5 ⟨rfl, hC⟩
 refine ⟨_, rfl, ?_⟩
 rw [decide_eq_false ((show ∀ a ∈ ([[112], [111, 108], [117, 108], [98, 108, 111, 99, 107, 113, 117, 111, 116, 101]] : List (List UInt8)), a ∉ B.wd W4 by decide +kernel) nm hn)]
 have C := C.no hC
 have hb := hb0.no C
 have hb3 := hb30.no C
 refine zP rfl (zN (zK (zF rfl (zS (zR (zfa rfl (zlB rfl ?_)))))))
 refine zCl rfl (B.has_calls 6 nm (by decide) (by decide)) ?_
 rintro _ w6 ⟨rfl, hC⟩
 refine ⟨_, rfl, ?_⟩
 rw [decide_eq_true ((show ∀ a ∈ ([[112], [111, 108], [117, 108], [98, 108, 111, 99, 107, 113, 117, 111, 116, 101]] : List (List UInt8)), a ∈ B.wd (B.setW 6) by decide +kernel) nm hn)]
 have C := C.no hC
 have hb := hb0.no C
 have hb3 := hb30.no C
 refine zP rfl (zJ rfl (zJ rfl (zJ rfl (zP rfl (zP rfl (zN (zK (zT rfl (zS (zR (zP rfl ?_)))))))))))
 refine zCl rfl (closeP_calls (h1.no C) (by omega) hp) ?_
 rintro _ w7 ⟨rfl, hC⟩
 refine ⟨_, rfl, ?_⟩
 have C := C.no hC
 have hb := hb0.no C
 have hb3 := hb30.no C
 refine zN (zK (zS (zR (zP rfl (zlA rfl ?_)))))
 refine zCl rfl (enter_calls (h1.no C) (by omega) hl nm al (ha1.no C) hal) ?_
 rintro _ wz hp2
 obtain rfl := hp2.1
 refine ⟨_, rfl, ?_⟩
 obtain ⟨_, qz, Nz, Rz, hBz, hMz, hWz, hnz⟩ := hp2.toB (h1.no C) (hM.open_ (f := ⟨nm, al, .nil⟩) ((show ∀ a ∈ ([[112], [111, 108], [117, 108], [98, 108, 111, 99, 107, 113, 117, 111, 116, 101]] : List (List UInt8)), a ∉ fmtN by decide +kernel) nm hn) ((show ∀ a ∈ ([[112], [111, 108], [117, 108], [98, 108, 111, 99, 107, 113, 117, 111, 116, 101]] : List (List UInt8)), a ∉ cellN by decide +kernel) nm hn))
 have hbz := hBz.blk
 have hb3z := (WrB.keep (h1.no C) hWz).2 _ _ _ hb3 (by decide)
 refine zN (zK (zR (zP rfl (zfa rfl (zlB rfl ?_)))))
 refine zCl rfl (B.in_calls nm W6 (by decide)) ?_
 rintro _ wy ⟨rfl, hCy⟩
 refine ⟨_, rfl, ?_⟩
 rw [decide_eq_false ((show ∀ a ∈ ([[112], [111, 108], [117, 108], [98, 108, 111, 99, 107, 113, 117, 111, 116, 101]] : List (List UInt8)), a ∉ B.wd W6 by decide +kernel) nm hn)]
 have hBy := hBz.no hCy
 have hby := hBy.blk
 refine zP rfl (zfa rfl ?_)
 refine z_store (want_L rfl) rfl rfl rfl (by assumption) (by first | exact Nat.le_refl _ | simp [Value.cells]) (by simp [Value.cells, Value.oneCell']) (fun wx hUx => ?_)
 obtain ⟨hBx, hWx⟩ := hBy.skW hUx
 refine zN (zM ?_)
 exact zk_ret0 (.inl rfl) rfl ⟨rfl, qz, Nz, Rz, hBx, hMz, (WrB.of_no (hN1.chg.no C) _ _ _).trans (hWz.trans ((WrB.of_no hCy _ _ _).trans hWx)), hnz⟩
theorem opens_table (h : IsB w b t q N (n :: R) (f :: fr) sk) (hM : MOk q.M (n :: R) (f :: fr)) (hf : fr.length ≤ 700) (hl : N.length ≤ 1900000) (nm : List UInt8) (hn : nm ∈ ([[116, 97, 98, 108, 101]] : List (List UInt8))) (al : List T.At) {va : Value} (ha : AttrS w va (encT al)) (hal : al.length ≤ 1000000) (hp : ∀ g ∈ f :: fr, g.nm ≠ [112]) :
  Calls Tryz.prog 132 [.pointer (some ⟨b, 0, none⟩), T.tokV 1 nm va []].toArray w (BPost w b t q (⟨nm, al, .nil⟩ :: f :: fr) false (N.length + 1) (.tuple #[])) := by
 obtain ⟨A0, c0, rfl, _⟩ := ha.form
 unfold T.tokV
 refine zCz 131 Tryz.func132 ?_
 refine zS (zR ?_)
 refine zBx rfl (fun w1 b3 hN1 => ?_)
 have hb30 : Blk w1 b3 66 [.int .i64 1, .string (bs nm), .slice A0 (encT al).length c0, .bool false, .string (bs [])] := hN1.blk
 have h1 := h.no hN1.chg
 have ha1 := ha.no hN1.chg
 have hb0 := h1.blk
 have hb := hb0
 have hb3 := hb30
 have C : Chg w1 w1 No := Chg.refl _ _
 refine zN (zK (zB (zS (zR (zfa rfl (zlB rfl ?_))))))
 refine zCl rfl (B.in_calls nm W1 (by decide)) ?_
 rintro _ w2 ⟨rfl, hC⟩
 refine ⟨_, rfl, ?_⟩
 rw [decide_eq_false ((show ∀ a ∈ ([[116, 97, 98, 108, 101]] : List (List UInt8)), a ∉ B.wd W1 by decide +kernel) nm hn)]
 have C := C.no hC
 have hb := hb0.no C
 have hb3 := hb30.no C
 refine zP rfl (zN (zK (zF rfl (zS (zR (zfa rfl (zlB rfl ?_)))))))
 refine zCl rfl (B.in_calls nm W2 (by decide)) ?_
 rintro _ w3 ⟨rfl, hC⟩
 refine ⟨_, rfl, ?_⟩
 rw [decide_eq_false ((show ∀ a ∈ ([[116, 97, 98, 108, 101]] : List (List UInt8)), a ∉ B.wd W2 by decide +kernel) nm hn)]
 have C := C.no hC
 have hb := hb0.no C
 have hb3 := hb30.no C
 refine zP rfl (zN (zK (zF rfl (zS (zR (zfa rfl (zlB rfl ?_)))))))
 refine zEq rfl rfl (fun hq => absurd hq ((show ∀ a ∈ ([[116, 97, 98, 108, 101]] : List (List UInt8)), a ≠ [104, 114] by decide +kernel) nm hn)) (fun _ => ?_)
 refine zP rfl (zN (zK (zF rfl (zS (zR (zfa rfl (zlB rfl ?_)))))))
 refine zCl rfl (B.in_calls nm W3 (by decide)) ?_
 rintro _ w4 ⟨rfl, hC⟩
 refine ⟨_, rfl, ?_⟩
 rw [decide_eq_false ((show ∀ a ∈ ([[116, 97, 98, 108, 101]] : List (List UInt8)), a ∉ B.wd W3 by decide +kernel) nm hn)]
 have C := C.no hC
 have hb := hb0.no C
 have hb3 := hb30.no C
 refine zP rfl (zN (zK (zF rfl (zS (zR (zfa rfl (zlB rfl ?_)))))))
 refine zCl rfl (state_calls nm ((show ∀ a ∈ ([[116, 97, 98, 108, 101]] : List (List UInt8)), a ∉ stN by decide +kernel) nm hn)) ?_
 rintro _ u ⟨rfl, hu⟩
 obtain rfl := hu.symm
 refine ⟨_, rfl, ?_⟩
 refine zCF rfl rfl rfl (zP rfl (zN (zK (zF rfl (zS (zR (zfa rfl (zlB rfl ?_))))))))
 refine zEq rfl rfl (fun hq => absurd hq ((show ∀ a ∈ ([[116, 97, 98, 108, 101]] : List (List UInt8)), a ≠ [116, 101, 109, 112, 108, 97, 116, 101] by decide +kernel) nm hn)) (fun _ => ?_)
 refine zP rfl (zN (zK (zF rfl (zS (zR (zfa rfl (zlB rfl ?_)))))))
 refine zCl rfl (B.in_calls nm W4 (by decide)) ?_
 rintro _ w5 ⟨rfl, hC⟩
 refine ⟨_, rfl, ?_⟩
 rw [decide_eq_false ((show ∀ a ∈ ([[116, 97, 98, 108, 101]] : List (List UInt8)), a ∉ B.wd W4 by decide +kernel) nm hn)]
 have C := C.no hC
 have hb := hb0.no C
 have hb3 := hb30.no C
 refine zP rfl (zN (zK (zF rfl (zS (zR (zfa rfl (zlB rfl ?_)))))))
 refine zCl rfl (B.has_calls 6 nm (by decide) (by decide)) ?_
 rintro _ w6 ⟨rfl, hC⟩
 refine ⟨_, rfl, ?_⟩
 rw [decide_eq_false ((show ∀ a ∈ ([[116, 97, 98, 108, 101]] : List (List UInt8)), a ∉ B.wd (B.setW 6) by decide +kernel) nm hn)]
 have C := C.no hC
 have hb := hb0.no C
 have hb3 := hb30.no C
 refine zP rfl (zfa rfl (zlB rfl ?_))
 refine zCl rfl (B.in_calls nm W5 (by decide)) ?_
 rintro _ w7 ⟨rfl, hC⟩
 refine ⟨_, rfl, ?_⟩
 rw [decide_eq_true ((show ∀ a ∈ ([[116, 97, 98, 108, 101]] : List (List UInt8)), a ∈ B.wd W5 by decide +kernel) nm hn)]
 have C := C.no hC
 have hb := hb0.no C
 have hb3 := hb30.no C
 refine zP rfl (zP rfl (zN (zK (zT rfl (zS (zR (zP rfl ?_)))))))
 refine zCl rfl (closeP_calls (h1.no C) (by omega) hp) ?_
 rintro _ w8 ⟨rfl, hC⟩
 refine ⟨_, rfl, ?_⟩
 have C := C.no hC
 have hb := hb0.no C
 have hb3 := hb30.no C
 refine zN (zK (zS (zR (zP rfl (zlA rfl ?_)))))
 refine zCl rfl (enter_calls (h1.no C) (by omega) hl nm al (ha1.no C) hal) ?_
 rintro _ wz hp2
 obtain rfl := hp2.1
 refine ⟨_, rfl, ?_⟩
 obtain ⟨_, qz, Nz, Rz, hBz, hMz, hWz, hnz⟩ := hp2.toB (h1.no C) (hM.open_ (f := ⟨nm, al, .nil⟩) ((show ∀ a ∈ ([[116, 97, 98, 108, 101]] : List (List UInt8)), a ∉ fmtN by decide +kernel) nm hn) ((show ∀ a ∈ ([[116, 97, 98, 108, 101]] : List (List UInt8)), a ∉ cellN by decide +kernel) nm hn))
 have hbz := hBz.blk
 have hb3z := (WrB.keep (h1.no C) hWz).2 _ _ _ hb3 (by decide)
 refine zN (zK (zR (zP rfl (zfa rfl (zlB rfl ?_)))))
 refine zCl rfl (B.in_calls nm W6 (by decide)) ?_
 rintro _ wy ⟨rfl, hCy⟩
 refine ⟨_, rfl, ?_⟩
 rw [decide_eq_false ((show ∀ a ∈ ([[116, 97, 98, 108, 101]] : List (List UInt8)), a ∉ B.wd W6 by decide +kernel) nm hn)]
 have hBy := hBz.no hCy
 have hby := hBy.blk
 refine zP rfl (zfa rfl ?_)
 refine z_store (want_L rfl) rfl rfl rfl (by assumption) (by first | exact Nat.le_refl _ | simp [Value.cells]) (by simp [Value.cells, Value.oneCell']) (fun wx hUx => ?_)
 obtain ⟨hBx, hWx⟩ := hBy.skW hUx
 refine zN (zM ?_)
 exact zk_ret0 (.inl rfl) rfl ⟨rfl, qz, Nz, Rz, hBx, hMz, (WrB.of_no (hN1.chg.no C) _ _ _).trans (hWz.trans ((WrB.of_no hCy _ _ _).trans hWx)), hnz⟩
theorem opens_pre (h : IsB w b t q N (n :: R) (f :: fr) sk) (hM : MOk q.M (n :: R) (f :: fr)) (hf : fr.length ≤ 700) (hl : N.length ≤ 1900000) (nm : List UInt8) (hn : nm ∈ ([[112, 114, 101]] : List (List UInt8))) (al : List T.At) {va : Value} (ha : AttrS w va (encT al)) (hal : al.length ≤ 1000000) (hp : ∀ g ∈ f :: fr, g.nm ≠ [112]) :
  Calls Tryz.prog 132 [.pointer (some ⟨b, 0, none⟩), T.tokV 1 nm va []].toArray w (BPost w b t q (⟨nm, al, .nil⟩ :: f :: fr) true (N.length + 1) (.tuple #[])) := by
 obtain ⟨A0, c0, rfl, _⟩ := ha.form
 unfold T.tokV
 refine zCz 131 Tryz.func132 ?_
 refine zS (zR ?_)
 refine zBx rfl (fun w1 b3 hN1 => ?_)
 have hb30 : Blk w1 b3 66 [.int .i64 1, .string (bs nm), .slice A0 (encT al).length c0, .bool false, .string (bs [])] := hN1.blk
 have h1 := h.no hN1.chg
 have ha1 := ha.no hN1.chg
 have hb0 := h1.blk
 have hb := hb0
 have hb3 := hb30
 have C : Chg w1 w1 No := Chg.refl _ _
 refine zN (zK (zB (zS (zR (zfa rfl (zlB rfl ?_))))))
 refine zCl rfl (B.in_calls nm W1 (by decide)) ?_
 rintro _ w2 ⟨rfl, hC⟩
 refine ⟨_, rfl, ?_⟩
 rw [decide_eq_false ((show ∀ a ∈ ([[112, 114, 101]] : List (List UInt8)), a ∉ B.wd W1 by decide +kernel) nm hn)]
 have C := C.no hC
 have hb := hb0.no C
 have hb3 := hb30.no C
 refine zP rfl (zN (zK (zF rfl (zS (zR (zfa rfl (zlB rfl ?_)))))))
 refine zCl rfl (B.in_calls nm W2 (by decide)) ?_
 rintro _ w3 ⟨rfl, hC⟩
 refine ⟨_, rfl, ?_⟩
 rw [decide_eq_false ((show ∀ a ∈ ([[112, 114, 101]] : List (List UInt8)), a ∉ B.wd W2 by decide +kernel) nm hn)]
 have C := C.no hC
 have hb := hb0.no C
 have hb3 := hb30.no C
 refine zP rfl (zN (zK (zF rfl (zS (zR (zfa rfl (zlB rfl ?_)))))))
 refine zEq rfl rfl (fun hq => absurd hq ((show ∀ a ∈ ([[112, 114, 101]] : List (List UInt8)), a ≠ [104, 114] by decide +kernel) nm hn)) (fun _ => ?_)
 refine zP rfl (zN (zK (zF rfl (zS (zR (zfa rfl (zlB rfl ?_)))))))
 refine zCl rfl (B.in_calls nm W3 (by decide)) ?_
 rintro _ w4 ⟨rfl, hC⟩
 refine ⟨_, rfl, ?_⟩
 rw [decide_eq_false ((show ∀ a ∈ ([[112, 114, 101]] : List (List UInt8)), a ∉ B.wd W3 by decide +kernel) nm hn)]
 have C := C.no hC
 have hb := hb0.no C
 have hb3 := hb30.no C
 refine zP rfl (zN (zK (zF rfl (zS (zR (zfa rfl (zlB rfl ?_)))))))
 refine zCl rfl (state_calls nm ((show ∀ a ∈ ([[112, 114, 101]] : List (List UInt8)), a ∉ stN by decide +kernel) nm hn)) ?_
 rintro _ u ⟨rfl, hu⟩
 obtain rfl := hu.symm
 refine ⟨_, rfl, ?_⟩
 refine zCF rfl rfl rfl (zP rfl (zN (zK (zF rfl (zS (zR (zfa rfl (zlB rfl ?_))))))))
 refine zEq rfl rfl (fun hq => absurd hq ((show ∀ a ∈ ([[112, 114, 101]] : List (List UInt8)), a ≠ [116, 101, 109, 112, 108, 97, 116, 101] by decide +kernel) nm hn)) (fun _ => ?_)
 refine zP rfl (zN (zK (zF rfl (zS (zR (zfa rfl (zlB rfl ?_)))))))
 refine zCl rfl (B.in_calls nm W4 (by decide)) ?_
 rintro _ w5 ⟨rfl, hC⟩
 refine ⟨_, rfl, ?_⟩
 rw [decide_eq_false ((show ∀ a ∈ ([[112, 114, 101]] : List (List UInt8)), a ∉ B.wd W4 by decide +kernel) nm hn)]
 have C := C.no hC
 have hb := hb0.no C
 have hb3 := hb30.no C
 refine zP rfl (zN (zK (zF rfl (zS (zR (zfa rfl (zlB rfl ?_)))))))
 refine zCl rfl (B.has_calls 6 nm (by decide) (by decide)) ?_
 rintro _ w6 ⟨rfl, hC⟩
 refine ⟨_, rfl, ?_⟩
 rw [decide_eq_false ((show ∀ a ∈ ([[112, 114, 101]] : List (List UInt8)), a ∉ B.wd (B.setW 6) by decide +kernel) nm hn)]
 have C := C.no hC
 have hb := hb0.no C
 have hb3 := hb30.no C
 refine zP rfl (zfa rfl (zlB rfl ?_))
 refine zCl rfl (B.in_calls nm W5 (by decide)) ?_
 rintro _ w7 ⟨rfl, hC⟩
 refine ⟨_, rfl, ?_⟩
 rw [decide_eq_true ((show ∀ a ∈ ([[112, 114, 101]] : List (List UInt8)), a ∈ B.wd W5 by decide +kernel) nm hn)]
 have C := C.no hC
 have hb := hb0.no C
 have hb3 := hb30.no C
 refine zP rfl (zP rfl (zN (zK (zT rfl (zS (zR (zP rfl ?_)))))))
 refine zCl rfl (closeP_calls (h1.no C) (by omega) hp) ?_
 rintro _ w8 ⟨rfl, hC⟩
 refine ⟨_, rfl, ?_⟩
 have C := C.no hC
 have hb := hb0.no C
 have hb3 := hb30.no C
 refine zN (zK (zS (zR (zP rfl (zlA rfl ?_)))))
 refine zCl rfl (enter_calls (h1.no C) (by omega) hl nm al (ha1.no C) hal) ?_
 rintro _ wz hp2
 obtain rfl := hp2.1
 refine ⟨_, rfl, ?_⟩
 obtain ⟨_, qz, Nz, Rz, hBz, hMz, hWz, hnz⟩ := hp2.toB (h1.no C) (hM.open_ (f := ⟨nm, al, .nil⟩) ((show ∀ a ∈ ([[112, 114, 101]] : List (List UInt8)), a ∉ fmtN by decide +kernel) nm hn) ((show ∀ a ∈ ([[112, 114, 101]] : List (List UInt8)), a ∉ cellN by decide +kernel) nm hn))
 have hbz := hBz.blk
 have hb3z := (WrB.keep (h1.no C) hWz).2 _ _ _ hb3 (by decide)
 refine zN (zK (zR (zP rfl (zfa rfl (zlB rfl ?_)))))
 refine zCl rfl (B.in_calls nm W6 (by decide)) ?_
 rintro _ wy ⟨rfl, hCy⟩
 refine ⟨_, rfl, ?_⟩
 rw [decide_eq_true ((show ∀ a ∈ ([[112, 114, 101]] : List (List UInt8)), a ∈ B.wd W6 by decide +kernel) nm hn)]
 have hBy := hBz.no hCy
 have hby := hBy.blk
 refine zP rfl (zfa rfl ?_)
 refine z_store (want_L rfl) rfl rfl rfl (by assumption) (by first | exact Nat.le_refl _ | simp [Value.cells]) (by simp [Value.cells, Value.oneCell']) (fun wx hUx => ?_)
 obtain ⟨hBx, hWx⟩ := hBy.skW hUx
 refine zN (zM ?_)
 exact zk_ret0 (.inl rfl) rfl ⟨rfl, qz, Nz, Rz, hBx, hMz, (WrB.of_no (hN1.chg.no C) _ _ _).trans (hWz.trans ((WrB.of_no hCy _ _ _).trans hWx)), hnz⟩
theorem opens_head (h : IsB w b t q N (n :: R) (f :: fr) sk) (hM : MOk q.M (n :: R) (f :: fr)) (hf : fr.length ≤ 700) (hl : N.length ≤ 1900000) (nm : List UInt8) (hn : nm ∈ ([[104, 50], [104, 51], [104, 52], [104, 53], [104, 54]] : List (List UInt8))) (al : List T.At) {va : Value} (ha : AttrS w va (encT al)) (hal : al.length ≤ 1000000) (hp : ∀ g ∈ f :: fr, g.nm ≠ [112]) (hh : f.nm ∉ B.wd (B.setW 5)) :
  Calls Tryz.prog 132 [.pointer (some ⟨b, 0, none⟩), T.tokV 1 nm va []].toArray w (BPost w b t q (⟨nm, al, .nil⟩ :: f :: fr) sk (N.length + 1) (.tuple #[])) := by
 obtain ⟨A0, c0, rfl, _⟩ := ha.form
 unfold T.tokV
 refine zCz 131 Tryz.func132 ?_
 refine zS (zR ?_)
 refine zBx rfl (fun w1 b3 hN1 => ?_)
 have hb30 : Blk w1 b3 66 [.int .i64 1, .string (bs nm), .slice A0 (encT al).length c0, .bool false, .string (bs [])] := hN1.blk
 have h1 := h.no hN1.chg
 have ha1 := ha.no hN1.chg
 have hb0 := h1.blk
 have hb := hb0
 have hb3 := hb30
 have C : Chg w1 w1 No := Chg.refl _ _
 refine zN (zK (zB (zS (zR (zfa rfl (zlB rfl ?_))))))
 refine zCl rfl (B.in_calls nm W1 (by decide)) ?_
 rintro _ w2 ⟨rfl, hC⟩
 refine ⟨_, rfl, ?_⟩
 rw [decide_eq_false ((show ∀ a ∈ ([[104, 50], [104, 51], [104, 52], [104, 53], [104, 54]] : List (List UInt8)), a ∉ B.wd W1 by decide +kernel) nm hn)]
 have C := C.no hC
 have hb := hb0.no C
 have hb3 := hb30.no C
 refine zP rfl (zN (zK (zF rfl (zS (zR (zfa rfl (zlB rfl ?_)))))))
 refine zCl rfl (B.in_calls nm W2 (by decide)) ?_
 rintro _ w3 ⟨rfl, hC⟩
 refine ⟨_, rfl, ?_⟩
 rw [decide_eq_false ((show ∀ a ∈ ([[104, 50], [104, 51], [104, 52], [104, 53], [104, 54]] : List (List UInt8)), a ∉ B.wd W2 by decide +kernel) nm hn)]
 have C := C.no hC
 have hb := hb0.no C
 have hb3 := hb30.no C
 refine zP rfl (zN (zK (zF rfl (zS (zR (zfa rfl (zlB rfl ?_)))))))
 refine zEq rfl rfl (fun hq => absurd hq ((show ∀ a ∈ ([[104, 50], [104, 51], [104, 52], [104, 53], [104, 54]] : List (List UInt8)), a ≠ [104, 114] by decide +kernel) nm hn)) (fun _ => ?_)
 refine zP rfl (zN (zK (zF rfl (zS (zR (zfa rfl (zlB rfl ?_)))))))
 refine zCl rfl (B.in_calls nm W3 (by decide)) ?_
 rintro _ w4 ⟨rfl, hC⟩
 refine ⟨_, rfl, ?_⟩
 rw [decide_eq_false ((show ∀ a ∈ ([[104, 50], [104, 51], [104, 52], [104, 53], [104, 54]] : List (List UInt8)), a ∉ B.wd W3 by decide +kernel) nm hn)]
 have C := C.no hC
 have hb := hb0.no C
 have hb3 := hb30.no C
 refine zP rfl (zN (zK (zF rfl (zS (zR (zfa rfl (zlB rfl ?_)))))))
 refine zCl rfl (state_calls nm ((show ∀ a ∈ ([[104, 50], [104, 51], [104, 52], [104, 53], [104, 54]] : List (List UInt8)), a ∉ stN by decide +kernel) nm hn)) ?_
 rintro _ u ⟨rfl, hu⟩
 obtain rfl := hu.symm
 refine ⟨_, rfl, ?_⟩
 refine zCF rfl rfl rfl (zP rfl (zN (zK (zF rfl (zS (zR (zfa rfl (zlB rfl ?_))))))))
 refine zEq rfl rfl (fun hq => absurd hq ((show ∀ a ∈ ([[104, 50], [104, 51], [104, 52], [104, 53], [104, 54]] : List (List UInt8)), a ≠ [116, 101, 109, 112, 108, 97, 116, 101] by decide +kernel) nm hn)) (fun _ => ?_)
 refine zP rfl (zN (zK (zF rfl (zS (zR (zfa rfl (zlB rfl ?_)))))))
 refine zCl rfl (B.in_calls nm W4 (by decide)) ?_
 rintro _ w5 ⟨rfl, hC⟩
 refine ⟨_, rfl, ?_⟩
 rw [decide_eq_false ((show ∀ a ∈ ([[104, 50], [104, 51], [104, 52], [104, 53], [104, 54]] : List (List UInt8)), a ∉ B.wd W4 by decide +kernel) nm hn)]
 have C := C.no hC
 have hb := hb0.no C
 have hb3 := hb30.no C
 refine zP rfl (zN (zK (zF rfl (zS (zR (zfa rfl (zlB rfl ?_)))))))
 refine zCl rfl (B.has_calls 6 nm (by decide) (by decide)) ?_
 rintro _ w6 ⟨rfl, hC⟩
 refine ⟨_, rfl, ?_⟩
 rw [decide_eq_false ((show ∀ a ∈ ([[104, 50], [104, 51], [104, 52], [104, 53], [104, 54]] : List (List UInt8)), a ∉ B.wd (B.setW 6) by decide +kernel) nm hn)]
 have C := C.no hC
 have hb := hb0.no C
 have hb3 := hb30.no C
 refine zP rfl (zfa rfl (zlB rfl ?_))
 refine zCl rfl (B.in_calls nm W5 (by decide)) ?_
 rintro _ w7 ⟨rfl, hC⟩
 refine ⟨_, rfl, ?_⟩
 rw [decide_eq_false ((show ∀ a ∈ ([[104, 50], [104, 51], [104, 52], [104, 53], [104, 54]] : List (List UInt8)), a ∉ B.wd W5 by decide +kernel) nm hn)]
 have C := C.no hC
 have hb := hb0.no C
 have hb3 := hb30.no C
 refine zP rfl (zP rfl (zN (zK (zF rfl (zS (zR (zfa rfl (zlB rfl ?_))))))))
 refine zCl rfl (B.has_calls 5 nm (by decide) (by decide)) ?_
 rintro _ w8 ⟨rfl, hC⟩
 refine ⟨_, rfl, ?_⟩
 rw [decide_eq_true ((show ∀ a ∈ ([[104, 50], [104, 51], [104, 52], [104, 53], [104, 54]] : List (List UInt8)), a ∈ B.wd (B.setW 5) by decide +kernel) nm hn)]
 have C := C.no hC
 have hb := hb0.no C
 have hb3 := hb30.no C
 refine zP rfl (zN (zK (zT rfl (zS (zR (zP rfl ?_))))))
 refine zCl rfl (closeP_calls (h1.no C) (by omega) hp) ?_
 rintro _ w9 ⟨rfl, hC⟩
 refine ⟨_, rfl, ?_⟩
 have C := C.no hC
 have hb := hb0.no C
 have hb3 := hb30.no C
 have hnN : n < N.length := h.st.zf.lt n (by simp)
 have hd : hdOf (N.getD n n0) = elemH f.nm f.al := h.st.zf.1
 refine zN (zK (zS (zS ?_)))
 refine zc_draw [] (fun w' => Blk w' b 64 [.pointer (some ⟨t, 0, none⟩), .int .i64 0, .string ⟨#[]⟩, .bool sk] ∧ Blk w' b3 66 [.int .i64 1, .string (bs nm), .slice A0 (encT al).length c0, .bool false, .string (bs [])]) (.take 0 (.take 1 (.take 2 (.take 3 (.take 4 (.take 5 (.take 6 (.take 7 (.all1 8 (.all1 9 (.all1 10 (.fin)))))))))))) (by rfl) (by kernel_rfl) (by kernel_rfl) (fun wd hC _ => ⟨?_, ?_⟩)
 ·exact ⟨hb.no hC, hb3.no hC⟩
 have C := C.no hC
 have hb := hb0.no C
 have hb3 := hb30.no C
 refine ztP rfl rfl (ztP rfl rfl (zRd rfl rfl (fun _ hS => r_fa rfl) ?_))
 refine zRd rfl rfl (fun _ hS => r_loadB rfl hS.1 (by rfl)) ?_
 refine ztP rfl rfl (ztP rfl rfl (zRd rfl rfl (fun _ hS => r_fa rfl) ?_))
 refine zRd rfl rfl (fun _ hS => r_loadB rfl hS.1 (by rfl)) ?_
 refine zs_call rfl (want_L rfl) rfl (by decide) rfl (sTop_calls (h1.no C).st (by simp only [List.length_cons]; omega)) ?_
 rintro _ we ⟨rfl, hC⟩
 have C := C.no hC
 have hb := hb0.no C
 have hb3 := hb30.no C
 refine ⟨_, rfl, ⟨hb, hb3⟩, ?_⟩
 refine zs_call rfl (want_L rfl) rfl (by decide) rfl (B.set_calls 5 (by decide) (by decide)) ?_
 rintro _ wf ⟨⟨A5, c5, rfl, hO⟩, hC⟩
 have C := C.no hC
 have hb := hb0.no C
 have hb3 := hb30.no C
 refine ⟨_, rfl, ⟨hb, hb3⟩, ?_⟩
 refine zs_call rfl (want_L rfl) rfl (by decide) rfl (rsIs2_calls (h1.no C).st.site hO (by decide +kernel) n hnN f.nm f.al hd) ?_
 rintro _ wg ⟨rfl, hC⟩
 have C := C.no hC
 have hb := hb0.no C
 have hb3 := hb30.no C
 refine ⟨_, rfl, ⟨hb, hb3⟩, ?_⟩
 rw [decide_eq_false (fun hx : n ≠ 0 ∧ f.nm ∈ B.wd (B.setW 5) => hh hx.2)]
 refine zs_fin ?_
 refine zK (zF rfl (zA (zK (zR (zP rfl (zlA rfl ?_))))))
 refine zCl rfl (enter_calls (h1.no C) (by omega) hl nm al (ha1.no C) hal) ?_
 rintro _ wz hpz
 obtain rfl := hpz.1
 refine ⟨_, rfl, ?_⟩
 refine zN (zM ?_)
 refine zk_ret0 (.inl rfl) rfl (BPost.pre (hN1.chg.no C) (hpz.toB (h1.no C) (hM.open_ ?_ ?_)))
 ·exact ((show ∀ a ∈ ([[104, 50], [104, 51], [104, 52], [104, 53], [104, 54]] : List (List UInt8)), a ∉ fmtN by decide +kernel) nm hn)
 ·exact ((show ∀ a ∈ ([[104, 50], [104, 51], [104, 52], [104, 53], [104, 54]] : List (List UInt8)), a ∉ cellN by decide +kernel) nm hn)
theorem opens_li (h : IsB w b t q N (n :: m :: R) (f :: g :: fr) sk) (hM : MOk q.M (n :: m :: R) (f :: g :: fr)) (hf : fr.length ≤ 700) (hl : N.length ≤ 1900000) (nm : List UInt8) (hn : nm ∈ ([[108, 105]] : List (List UInt8))) (al : List T.At) {va : Value} (ha : AttrS w va (encT al)) (hal : al.length ≤ 1000000) (hs : f.nm = [111, 108] ∨ f.nm = [117, 108]) (hp0 : ∀ g' ∈ f :: g :: fr, g'.nm ≠ [112]) :
  Calls Tryz.prog 132 [.pointer (some ⟨b, 0, none⟩), T.tokV 1 nm va []].toArray w (BPost w b t q (⟨nm, al, .nil⟩ :: f :: g :: fr) sk (N.length + 1) (.tuple #[])) := by
 obtain ⟨A0, c0, rfl, _⟩ := ha.form
 unfold T.tokV
 refine zCz 131 Tryz.func132 ?_
 refine zS (zR ?_)
 refine zBx rfl (fun w1 b3 hN1 => ?_)
 have hb30 : Blk w1 b3 66 [.int .i64 1, .string (bs nm), .slice A0 (encT al).length c0, .bool false, .string (bs [])] := hN1.blk
 have h1 := h.no hN1.chg
 have ha1 := ha.no hN1.chg
 have hb0 := h1.blk
 have hb := hb0
 have hb3 := hb30
 have C : Chg w1 w1 No := Chg.refl _ _
 refine zN (zK (zB (zS (zR (zfa rfl (zlB rfl ?_))))))
 refine zCl rfl (B.in_calls nm W1 (by decide)) ?_
 rintro _ w2 ⟨rfl, hC⟩
 refine ⟨_, rfl, ?_⟩
 rw [decide_eq_false ((show ∀ a ∈ ([[108, 105]] : List (List UInt8)), a ∉ B.wd W1 by decide +kernel) nm hn)]
 have C := C.no hC
 have hb := hb0.no C
 have hb3 := hb30.no C
 refine zP rfl (zN (zK (zF rfl (zS (zR (zfa rfl (zlB rfl ?_)))))))
 refine zCl rfl (B.in_calls nm W2 (by decide)) ?_
 rintro _ w3 ⟨rfl, hC⟩
 refine ⟨_, rfl, ?_⟩
 rw [decide_eq_false ((show ∀ a ∈ ([[108, 105]] : List (List UInt8)), a ∉ B.wd W2 by decide +kernel) nm hn)]
 have C := C.no hC
 have hb := hb0.no C
 have hb3 := hb30.no C
 refine zP rfl (zN (zK (zF rfl (zS (zR (zfa rfl (zlB rfl ?_)))))))
 refine zEq rfl rfl (fun hq => absurd hq ((show ∀ a ∈ ([[108, 105]] : List (List UInt8)), a ≠ [104, 114] by decide +kernel) nm hn)) (fun _ => ?_)
 refine zP rfl (zN (zK (zF rfl (zS (zR (zfa rfl (zlB rfl ?_)))))))
 refine zCl rfl (B.in_calls nm W3 (by decide)) ?_
 rintro _ w4 ⟨rfl, hC⟩
 refine ⟨_, rfl, ?_⟩
 rw [decide_eq_false ((show ∀ a ∈ ([[108, 105]] : List (List UInt8)), a ∉ B.wd W3 by decide +kernel) nm hn)]
 have C := C.no hC
 have hb := hb0.no C
 have hb3 := hb30.no C
 refine zP rfl (zN (zK (zF rfl (zS (zR (zfa rfl (zlB rfl ?_)))))))
 refine zCl rfl (state_calls nm ((show ∀ a ∈ ([[108, 105]] : List (List UInt8)), a ∉ stN by decide +kernel) nm hn)) ?_
 rintro _ u ⟨rfl, hu⟩
 obtain rfl := hu.symm
 refine ⟨_, rfl, ?_⟩
 refine zCF rfl rfl rfl (zP rfl (zN (zK (zF rfl (zS (zR (zfa rfl (zlB rfl ?_))))))))
 refine zEq rfl rfl (fun hq => absurd hq ((show ∀ a ∈ ([[108, 105]] : List (List UInt8)), a ≠ [116, 101, 109, 112, 108, 97, 116, 101] by decide +kernel) nm hn)) (fun _ => ?_)
 refine zP rfl (zN (zK (zF rfl (zS (zR (zfa rfl (zlB rfl ?_)))))))
 refine zCl rfl (B.in_calls nm W4 (by decide)) ?_
 rintro _ w5 ⟨rfl, hC⟩
 refine ⟨_, rfl, ?_⟩
 rw [decide_eq_false ((show ∀ a ∈ ([[108, 105]] : List (List UInt8)), a ∉ B.wd W4 by decide +kernel) nm hn)]
 have C := C.no hC
 have hb := hb0.no C
 have hb3 := hb30.no C
 refine zP rfl (zN (zK (zF rfl (zS (zR (zfa rfl (zlB rfl ?_)))))))
 refine zCl rfl (B.has_calls 6 nm (by decide) (by decide)) ?_
 rintro _ w6 ⟨rfl, hC⟩
 refine ⟨_, rfl, ?_⟩
 rw [decide_eq_false ((show ∀ a ∈ ([[108, 105]] : List (List UInt8)), a ∉ B.wd (B.setW 6) by decide +kernel) nm hn)]
 have C := C.no hC
 have hb := hb0.no C
 have hb3 := hb30.no C
 refine zP rfl (zfa rfl (zlB rfl ?_))
 refine zCl rfl (B.in_calls nm W5 (by decide)) ?_
 rintro _ w7 ⟨rfl, hC⟩
 refine ⟨_, rfl, ?_⟩
 rw [decide_eq_false ((show ∀ a ∈ ([[108, 105]] : List (List UInt8)), a ∉ B.wd W5 by decide +kernel) nm hn)]
 have C := C.no hC
 have hb := hb0.no C
 have hb3 := hb30.no C
 refine zP rfl (zP rfl (zN (zK (zF rfl (zS (zR (zfa rfl (zlB rfl ?_))))))))
 refine zCl rfl (B.has_calls 5 nm (by decide) (by decide)) ?_
 rintro _ w8 ⟨rfl, hC⟩
 refine ⟨_, rfl, ?_⟩
 rw [decide_eq_false ((show ∀ a ∈ ([[108, 105]] : List (List UInt8)), a ∉ B.wd (B.setW 5) by decide +kernel) nm hn)]
 have C := C.no hC
 have hb := hb0.no C
 have hb3 := hb30.no C
 refine zP rfl (zN (zK (zF rfl (zR (zP rfl (zlA rfl ?_))))))
 refine zCl rfl (more_li (h1.no C) hM (by omega) hl nm hn al (ha1.no C) hal hs hp0) ?_
 rintro _ wz hp
 obtain rfl := hp.1
 refine ⟨_, rfl, ?_⟩
 refine zN (zM ?_)
 exact zk_ret0 (.inl rfl) rfl (BPost.pre (hN1.chg.no C) hp)
theorem opens_a (h : IsB w b t q N (n :: R) (f :: fr) sk) (hM : MOk q.M (n :: R) (f :: fr)) (hf : fr.length ≤ 700) (hl : N.length ≤ 1900000) (nm : List UInt8) (hn : nm ∈ ([[97]] : List (List UInt8))) (al : List T.At) {va : Value} (ha : AttrS w va (encT al)) (hal : al.length ≤ 1000000) (hup : [97] ∉ upN (f :: fr)) :
  Calls Tryz.prog 132 [.pointer (some ⟨b, 0, none⟩), T.tokV 1 nm va []].toArray w (BPost w b t q (⟨nm, al, .nil⟩ :: f :: fr) sk (N.length + 1) (.tuple #[])) := by
 obtain ⟨A0, c0, rfl, _⟩ := ha.form
 unfold T.tokV
 refine zCz 131 Tryz.func132 ?_
 refine zS (zR ?_)
 refine zBx rfl (fun w1 b3 hN1 => ?_)
 have hb30 : Blk w1 b3 66 [.int .i64 1, .string (bs nm), .slice A0 (encT al).length c0, .bool false, .string (bs [])] := hN1.blk
 have h1 := h.no hN1.chg
 have ha1 := ha.no hN1.chg
 have hb0 := h1.blk
 have hb := hb0
 have hb3 := hb30
 have C : Chg w1 w1 No := Chg.refl _ _
 refine zN (zK (zB (zS (zR (zfa rfl (zlB rfl ?_))))))
 refine zCl rfl (B.in_calls nm W1 (by decide)) ?_
 rintro _ w2 ⟨rfl, hC⟩
 refine ⟨_, rfl, ?_⟩
 rw [decide_eq_false ((show ∀ a ∈ ([[97]] : List (List UInt8)), a ∉ B.wd W1 by decide +kernel) nm hn)]
 have C := C.no hC
 have hb := hb0.no C
 have hb3 := hb30.no C
 refine zP rfl (zN (zK (zF rfl (zS (zR (zfa rfl (zlB rfl ?_)))))))
 refine zCl rfl (B.in_calls nm W2 (by decide)) ?_
 rintro _ w3 ⟨rfl, hC⟩
 refine ⟨_, rfl, ?_⟩
 rw [decide_eq_false ((show ∀ a ∈ ([[97]] : List (List UInt8)), a ∉ B.wd W2 by decide +kernel) nm hn)]
 have C := C.no hC
 have hb := hb0.no C
 have hb3 := hb30.no C
 refine zP rfl (zN (zK (zF rfl (zS (zR (zfa rfl (zlB rfl ?_)))))))
 refine zEq rfl rfl (fun hq => absurd hq ((show ∀ a ∈ ([[97]] : List (List UInt8)), a ≠ [104, 114] by decide +kernel) nm hn)) (fun _ => ?_)
 refine zP rfl (zN (zK (zF rfl (zS (zR (zfa rfl (zlB rfl ?_)))))))
 refine zCl rfl (B.in_calls nm W3 (by decide)) ?_
 rintro _ w4 ⟨rfl, hC⟩
 refine ⟨_, rfl, ?_⟩
 rw [decide_eq_false ((show ∀ a ∈ ([[97]] : List (List UInt8)), a ∉ B.wd W3 by decide +kernel) nm hn)]
 have C := C.no hC
 have hb := hb0.no C
 have hb3 := hb30.no C
 refine zP rfl (zN (zK (zF rfl (zS (zR (zfa rfl (zlB rfl ?_)))))))
 refine zCl rfl (state_calls nm ((show ∀ a ∈ ([[97]] : List (List UInt8)), a ∉ stN by decide +kernel) nm hn)) ?_
 rintro _ u ⟨rfl, hu⟩
 obtain rfl := hu.symm
 refine ⟨_, rfl, ?_⟩
 refine zCF rfl rfl rfl (zP rfl (zN (zK (zF rfl (zS (zR (zfa rfl (zlB rfl ?_))))))))
 refine zEq rfl rfl (fun hq => absurd hq ((show ∀ a ∈ ([[97]] : List (List UInt8)), a ≠ [116, 101, 109, 112, 108, 97, 116, 101] by decide +kernel) nm hn)) (fun _ => ?_)
 refine zP rfl (zN (zK (zF rfl (zS (zR (zfa rfl (zlB rfl ?_)))))))
 refine zCl rfl (B.in_calls nm W4 (by decide)) ?_
 rintro _ w5 ⟨rfl, hC⟩
 refine ⟨_, rfl, ?_⟩
 rw [decide_eq_false ((show ∀ a ∈ ([[97]] : List (List UInt8)), a ∉ B.wd W4 by decide +kernel) nm hn)]
 have C := C.no hC
 have hb := hb0.no C
 have hb3 := hb30.no C
 refine zP rfl (zN (zK (zF rfl (zS (zR (zfa rfl (zlB rfl ?_)))))))
 refine zCl rfl (B.has_calls 6 nm (by decide) (by decide)) ?_
 rintro _ w6 ⟨rfl, hC⟩
 refine ⟨_, rfl, ?_⟩
 rw [decide_eq_false ((show ∀ a ∈ ([[97]] : List (List UInt8)), a ∉ B.wd (B.setW 6) by decide +kernel) nm hn)]
 have C := C.no hC
 have hb := hb0.no C
 have hb3 := hb30.no C
 refine zP rfl (zfa rfl (zlB rfl ?_))
 refine zCl rfl (B.in_calls nm W5 (by decide)) ?_
 rintro _ w7 ⟨rfl, hC⟩
 refine ⟨_, rfl, ?_⟩
 rw [decide_eq_false ((show ∀ a ∈ ([[97]] : List (List UInt8)), a ∉ B.wd W5 by decide +kernel) nm hn)]
 have C := C.no hC
 have hb := hb0.no C
 have hb3 := hb30.no C
 refine zP rfl (zP rfl (zN (zK (zF rfl (zS (zR (zfa rfl (zlB rfl ?_))))))))
 refine zCl rfl (B.has_calls 5 nm (by decide) (by decide)) ?_
 rintro _ w8 ⟨rfl, hC⟩
 refine ⟨_, rfl, ?_⟩
 rw [decide_eq_false ((show ∀ a ∈ ([[97]] : List (List UInt8)), a ∉ B.wd (B.setW 5) by decide +kernel) nm hn)]
 have C := C.no hC
 have hb := hb0.no C
 have hb3 := hb30.no C
 refine zP rfl (zN (zK (zF rfl (zR (zP rfl (zlA rfl ?_))))))
 refine zCl rfl (more_a (h1.no C) hM (by omega) hl nm hn al (ha1.no C) hal hup) ?_
 rintro _ wz hp
 obtain rfl := hp.1
 refine ⟨_, rfl, ?_⟩
 refine zN (zM ?_)
 exact zk_ret0 (.inl rfl) rfl (BPost.pre (hN1.chg.no C) hp)
theorem opens_fmt (h : IsB w b t q N (n :: R) (f :: fr) sk) (hM : MOk q.M (n :: R) (f :: fr)) (hf : fr.length ≤ 700) (hl : N.length ≤ 1900000) (nm : List UInt8) (hn : nm ∈ ([[99, 111, 100, 101], [101, 109], [115, 116, 114, 111, 110, 103]] : List (List UInt8))) (al : List T.At) {va : Value} (ha : AttrS w va (encT al)) (hal : al.length ≤ 1000000) (hup : nm ∉ upN (f :: fr)) :
  Calls Tryz.prog 132 [.pointer (some ⟨b, 0, none⟩), T.tokV 1 nm va []].toArray w (BPost w b t q (⟨nm, al, .nil⟩ :: f :: fr) sk (N.length + 1) (.tuple #[])) := by
 obtain ⟨A0, c0, rfl, _⟩ := ha.form
 unfold T.tokV
 refine zCz 131 Tryz.func132 ?_
 refine zS (zR ?_)
 refine zBx rfl (fun w1 b3 hN1 => ?_)
 have hb30 : Blk w1 b3 66 [.int .i64 1, .string (bs nm), .slice A0 (encT al).length c0, .bool false, .string (bs [])] := hN1.blk
 have h1 := h.no hN1.chg
 have ha1 := ha.no hN1.chg
 have hb0 := h1.blk
 have hb := hb0
 have hb3 := hb30
 have C : Chg w1 w1 No := Chg.refl _ _
 refine zN (zK (zB (zS (zR (zfa rfl (zlB rfl ?_))))))
 refine zCl rfl (B.in_calls nm W1 (by decide)) ?_
 rintro _ w2 ⟨rfl, hC⟩
 refine ⟨_, rfl, ?_⟩
 rw [decide_eq_false ((show ∀ a ∈ ([[99, 111, 100, 101], [101, 109], [115, 116, 114, 111, 110, 103]] : List (List UInt8)), a ∉ B.wd W1 by decide +kernel) nm hn)]
 have C := C.no hC
 have hb := hb0.no C
 have hb3 := hb30.no C
 refine zP rfl (zN (zK (zF rfl (zS (zR (zfa rfl (zlB rfl ?_)))))))
 refine zCl rfl (B.in_calls nm W2 (by decide)) ?_
 rintro _ w3 ⟨rfl, hC⟩
 refine ⟨_, rfl, ?_⟩
 rw [decide_eq_false ((show ∀ a ∈ ([[99, 111, 100, 101], [101, 109], [115, 116, 114, 111, 110, 103]] : List (List UInt8)), a ∉ B.wd W2 by decide +kernel) nm hn)]
 have C := C.no hC
 have hb := hb0.no C
 have hb3 := hb30.no C
 refine zP rfl (zN (zK (zF rfl (zS (zR (zfa rfl (zlB rfl ?_)))))))
 refine zEq rfl rfl (fun hq => absurd hq ((show ∀ a ∈ ([[99, 111, 100, 101], [101, 109], [115, 116, 114, 111, 110, 103]] : List (List UInt8)), a ≠ [104, 114] by decide +kernel) nm hn)) (fun _ => ?_)
 refine zP rfl (zN (zK (zF rfl (zS (zR (zfa rfl (zlB rfl ?_)))))))
 refine zCl rfl (B.in_calls nm W3 (by decide)) ?_
 rintro _ w4 ⟨rfl, hC⟩
 refine ⟨_, rfl, ?_⟩
 rw [decide_eq_false ((show ∀ a ∈ ([[99, 111, 100, 101], [101, 109], [115, 116, 114, 111, 110, 103]] : List (List UInt8)), a ∉ B.wd W3 by decide +kernel) nm hn)]
 have C := C.no hC
 have hb := hb0.no C
 have hb3 := hb30.no C
 refine zP rfl (zN (zK (zF rfl (zS (zR (zfa rfl (zlB rfl ?_)))))))
 refine zCl rfl (state_calls nm ((show ∀ a ∈ ([[99, 111, 100, 101], [101, 109], [115, 116, 114, 111, 110, 103]] : List (List UInt8)), a ∉ stN by decide +kernel) nm hn)) ?_
 rintro _ u ⟨rfl, hu⟩
 obtain rfl := hu.symm
 refine ⟨_, rfl, ?_⟩
 refine zCF rfl rfl rfl (zP rfl (zN (zK (zF rfl (zS (zR (zfa rfl (zlB rfl ?_))))))))
 refine zEq rfl rfl (fun hq => absurd hq ((show ∀ a ∈ ([[99, 111, 100, 101], [101, 109], [115, 116, 114, 111, 110, 103]] : List (List UInt8)), a ≠ [116, 101, 109, 112, 108, 97, 116, 101] by decide +kernel) nm hn)) (fun _ => ?_)
 refine zP rfl (zN (zK (zF rfl (zS (zR (zfa rfl (zlB rfl ?_)))))))
 refine zCl rfl (B.in_calls nm W4 (by decide)) ?_
 rintro _ w5 ⟨rfl, hC⟩
 refine ⟨_, rfl, ?_⟩
 rw [decide_eq_false ((show ∀ a ∈ ([[99, 111, 100, 101], [101, 109], [115, 116, 114, 111, 110, 103]] : List (List UInt8)), a ∉ B.wd W4 by decide +kernel) nm hn)]
 have C := C.no hC
 have hb := hb0.no C
 have hb3 := hb30.no C
 refine zP rfl (zN (zK (zF rfl (zS (zR (zfa rfl (zlB rfl ?_)))))))
 refine zCl rfl (B.has_calls 6 nm (by decide) (by decide)) ?_
 rintro _ w6 ⟨rfl, hC⟩
 refine ⟨_, rfl, ?_⟩
 rw [decide_eq_false ((show ∀ a ∈ ([[99, 111, 100, 101], [101, 109], [115, 116, 114, 111, 110, 103]] : List (List UInt8)), a ∉ B.wd (B.setW 6) by decide +kernel) nm hn)]
 have C := C.no hC
 have hb := hb0.no C
 have hb3 := hb30.no C
 refine zP rfl (zfa rfl (zlB rfl ?_))
 refine zCl rfl (B.in_calls nm W5 (by decide)) ?_
 rintro _ w7 ⟨rfl, hC⟩
 refine ⟨_, rfl, ?_⟩
 rw [decide_eq_false ((show ∀ a ∈ ([[99, 111, 100, 101], [101, 109], [115, 116, 114, 111, 110, 103]] : List (List UInt8)), a ∉ B.wd W5 by decide +kernel) nm hn)]
 have C := C.no hC
 have hb := hb0.no C
 have hb3 := hb30.no C
 refine zP rfl (zP rfl (zN (zK (zF rfl (zS (zR (zfa rfl (zlB rfl ?_))))))))
 refine zCl rfl (B.has_calls 5 nm (by decide) (by decide)) ?_
 rintro _ w8 ⟨rfl, hC⟩
 refine ⟨_, rfl, ?_⟩
 rw [decide_eq_false ((show ∀ a ∈ ([[99, 111, 100, 101], [101, 109], [115, 116, 114, 111, 110, 103]] : List (List UInt8)), a ∉ B.wd (B.setW 5) by decide +kernel) nm hn)]
 have C := C.no hC
 have hb := hb0.no C
 have hb3 := hb30.no C
 refine zP rfl (zN (zK (zF rfl (zR (zP rfl (zlA rfl ?_))))))
 refine zCl rfl (more_fmt (h1.no C) hM (by omega) hl nm hn al (ha1.no C) hal hup) ?_
 rintro _ wz hp
 obtain rfl := hp.1
 refine ⟨_, rfl, ?_⟩
 refine zN (zM ?_)
 exact zk_ret0 (.inl rfl) rfl (BPost.pre (hN1.chg.no C) hp)
theorem opens_sub (h : IsB w b t q N (n :: R) (f :: fr) sk) (hM : MOk q.M (n :: R) (f :: fr)) (hf : fr.length ≤ 700) (hl : N.length ≤ 1900000) (nm : List UInt8) (hn : nm ∈ ([[115, 117, 98], [115, 117, 112]] : List (List UInt8))) (al : List T.At) {va : Value} (ha : AttrS w va (encT al)) (hal : al.length ≤ 1000000) :
  Calls Tryz.prog 132 [.pointer (some ⟨b, 0, none⟩), T.tokV 1 nm va []].toArray w (BPost w b t q (⟨nm, al, .nil⟩ :: f :: fr) sk (N.length + 1) (.tuple #[])) := by
 obtain ⟨A0, c0, rfl, _⟩ := ha.form
 unfold T.tokV
 refine zCz 131 Tryz.func132 ?_
 refine zS (zR ?_)
 refine zBx rfl (fun w1 b3 hN1 => ?_)
 have hb30 : Blk w1 b3 66 [.int .i64 1, .string (bs nm), .slice A0 (encT al).length c0, .bool false, .string (bs [])] := hN1.blk
 have h1 := h.no hN1.chg
 have ha1 := ha.no hN1.chg
 have hb0 := h1.blk
 have hb := hb0
 have hb3 := hb30
 have C : Chg w1 w1 No := Chg.refl _ _
 refine zN (zK (zB (zS (zR (zfa rfl (zlB rfl ?_))))))
 refine zCl rfl (B.in_calls nm W1 (by decide)) ?_
 rintro _ w2 ⟨rfl, hC⟩
 refine ⟨_, rfl, ?_⟩
 rw [decide_eq_false ((show ∀ a ∈ ([[115, 117, 98], [115, 117, 112]] : List (List UInt8)), a ∉ B.wd W1 by decide +kernel) nm hn)]
 have C := C.no hC
 have hb := hb0.no C
 have hb3 := hb30.no C
 refine zP rfl (zN (zK (zF rfl (zS (zR (zfa rfl (zlB rfl ?_)))))))
 refine zCl rfl (B.in_calls nm W2 (by decide)) ?_
 rintro _ w3 ⟨rfl, hC⟩
 refine ⟨_, rfl, ?_⟩
 rw [decide_eq_false ((show ∀ a ∈ ([[115, 117, 98], [115, 117, 112]] : List (List UInt8)), a ∉ B.wd W2 by decide +kernel) nm hn)]
 have C := C.no hC
 have hb := hb0.no C
 have hb3 := hb30.no C
 refine zP rfl (zN (zK (zF rfl (zS (zR (zfa rfl (zlB rfl ?_)))))))
 refine zEq rfl rfl (fun hq => absurd hq ((show ∀ a ∈ ([[115, 117, 98], [115, 117, 112]] : List (List UInt8)), a ≠ [104, 114] by decide +kernel) nm hn)) (fun _ => ?_)
 refine zP rfl (zN (zK (zF rfl (zS (zR (zfa rfl (zlB rfl ?_)))))))
 refine zCl rfl (B.in_calls nm W3 (by decide)) ?_
 rintro _ w4 ⟨rfl, hC⟩
 refine ⟨_, rfl, ?_⟩
 rw [decide_eq_false ((show ∀ a ∈ ([[115, 117, 98], [115, 117, 112]] : List (List UInt8)), a ∉ B.wd W3 by decide +kernel) nm hn)]
 have C := C.no hC
 have hb := hb0.no C
 have hb3 := hb30.no C
 refine zP rfl (zN (zK (zF rfl (zS (zR (zfa rfl (zlB rfl ?_)))))))
 refine zCl rfl (state_calls nm ((show ∀ a ∈ ([[115, 117, 98], [115, 117, 112]] : List (List UInt8)), a ∉ stN by decide +kernel) nm hn)) ?_
 rintro _ u ⟨rfl, hu⟩
 obtain rfl := hu.symm
 refine ⟨_, rfl, ?_⟩
 refine zCF rfl rfl rfl (zP rfl (zN (zK (zF rfl (zS (zR (zfa rfl (zlB rfl ?_))))))))
 refine zEq rfl rfl (fun hq => absurd hq ((show ∀ a ∈ ([[115, 117, 98], [115, 117, 112]] : List (List UInt8)), a ≠ [116, 101, 109, 112, 108, 97, 116, 101] by decide +kernel) nm hn)) (fun _ => ?_)
 refine zP rfl (zN (zK (zF rfl (zS (zR (zfa rfl (zlB rfl ?_)))))))
 refine zCl rfl (B.in_calls nm W4 (by decide)) ?_
 rintro _ w5 ⟨rfl, hC⟩
 refine ⟨_, rfl, ?_⟩
 rw [decide_eq_false ((show ∀ a ∈ ([[115, 117, 98], [115, 117, 112]] : List (List UInt8)), a ∉ B.wd W4 by decide +kernel) nm hn)]
 have C := C.no hC
 have hb := hb0.no C
 have hb3 := hb30.no C
 refine zP rfl (zN (zK (zF rfl (zS (zR (zfa rfl (zlB rfl ?_)))))))
 refine zCl rfl (B.has_calls 6 nm (by decide) (by decide)) ?_
 rintro _ w6 ⟨rfl, hC⟩
 refine ⟨_, rfl, ?_⟩
 rw [decide_eq_false ((show ∀ a ∈ ([[115, 117, 98], [115, 117, 112]] : List (List UInt8)), a ∉ B.wd (B.setW 6) by decide +kernel) nm hn)]
 have C := C.no hC
 have hb := hb0.no C
 have hb3 := hb30.no C
 refine zP rfl (zfa rfl (zlB rfl ?_))
 refine zCl rfl (B.in_calls nm W5 (by decide)) ?_
 rintro _ w7 ⟨rfl, hC⟩
 refine ⟨_, rfl, ?_⟩
 rw [decide_eq_false ((show ∀ a ∈ ([[115, 117, 98], [115, 117, 112]] : List (List UInt8)), a ∉ B.wd W5 by decide +kernel) nm hn)]
 have C := C.no hC
 have hb := hb0.no C
 have hb3 := hb30.no C
 refine zP rfl (zP rfl (zN (zK (zF rfl (zS (zR (zfa rfl (zlB rfl ?_))))))))
 refine zCl rfl (B.has_calls 5 nm (by decide) (by decide)) ?_
 rintro _ w8 ⟨rfl, hC⟩
 refine ⟨_, rfl, ?_⟩
 rw [decide_eq_false ((show ∀ a ∈ ([[115, 117, 98], [115, 117, 112]] : List (List UInt8)), a ∉ B.wd (B.setW 5) by decide +kernel) nm hn)]
 have C := C.no hC
 have hb := hb0.no C
 have hb3 := hb30.no C
 refine zP rfl (zN (zK (zF rfl (zR (zP rfl (zlA rfl ?_))))))
 refine zCl rfl (more_sub (h1.no C) hM (by omega) hl nm hn al (ha1.no C) hal) ?_
 rintro _ wz hp
 obtain rfl := hp.1
 refine ⟨_, rfl, ?_⟩
 refine zN (zM ?_)
 exact zk_ret0 (.inl rfl) rfl (BPost.pre (hN1.chg.no C) hp)
end
def X1 : List UInt8 := [98, 111, 100, 121, 32, 104, 116, 109, 108]
def X2 : List UInt8 := [98, 117, 116, 116, 111, 110, 32, 108, 105, 115, 116, 105, 110, 103, 32, 112, 114, 101]
section
variable {w w' w0 w1 w2 : World} {b t : Nat} {q q' q1 : SQ} {N N' : List ND} {n m k : Nat} {R R' : List Nat} {f g : FE} {fr fr' : List FE} {sk sk' : Bool} {x : Value} {e : Ending}
theorem ends_block (h : IsB w b t q N (n :: m :: R) (f :: g :: fr) sk) (hM : MOk q.M (n :: m :: R) (f :: g :: fr)) (hf : fr.length ≤ 700) (hn : f.nm ∈ ([[111, 108], [117, 108], [98, 108, 111, 99, 107, 113, 117, 111, 116, 101]] : List (List UInt8))) :
  Calls Tryz.prog 133 [.pointer (some ⟨b, 0, none⟩), T.tokV 2 f.nm T.nS []].toArray w (BPost w b t q (g.shut f :: fr) sk N.length (.tuple #[])) := by
 unfold T.tokV
 refine zCz 140 Tryz.func133 ?_
 refine zS (zR ?_)
 refine zBx rfl (fun w1 b3 hN1 => ?_)
 have hb30 : Blk w1 b3 66 [.int .i64 2, .string (bs f.nm), .slice none 0 0, .bool false, .string (bs [])] := hN1.blk
 have h1 := h.no hN1.chg
 have hb0 := h1.blk
 have hb := hb0
 have hb3 := hb30
 have C : Chg w1 w1 No := Chg.refl _ _
 refine zN (zK (zS (zR (zfa rfl (zlB rfl ?_)))))
 refine zP rfl (zN (zK (zB (zS (zR (zP rfl ?_))))))
 refine zCl rfl (B.in_calls f.nm X1 (by decide)) ?_
 rintro _ w2 ⟨rfl, hC⟩
 refine ⟨_, rfl, ?_⟩
 rw [decide_eq_false ((show ∀ a ∈ ([[111, 108], [117, 108], [98, 108, 111, 99, 107, 113, 117, 111, 116, 101]] : List (List UInt8)), a ∉ B.wd X1 by decide +kernel) f.nm hn)]
 have C := C.no hC
 have hb := hb0.no C
 have hb3 := hb30.no C
 refine zP rfl (zN (zK (zF rfl (zS (zR (zP rfl ?_))))))
 refine zEq rfl rfl (fun hq => absurd hq ((show ∀ a ∈ ([[111, 108], [117, 108], [98, 108, 111, 99, 107, 113, 117, 111, 116, 101]] : List (List UInt8)), a ≠ [98, 114] by decide +kernel) f.nm hn)) (fun _ => ?_)
 refine zP rfl (zN (zK (zF rfl (zS (zR (zP rfl ?_))))))
 refine z_neL (want_L rfl) (by decide) rfl rfl (fun _ => ?_) (fun hq => absurd hq ((show ∀ a ∈ ([[111, 108], [117, 108], [98, 108, 111, 99, 107, 113, 117, 111, 116, 101]] : List (List UInt8)), a ≠ [112] by decide +kernel) f.nm hn))
 refine zP rfl (zP rfl ?_)
 refine zCl rfl (B.has_calls 6 f.nm (by decide) (by decide)) ?_
 rintro _ w3 ⟨rfl, hC⟩
 refine ⟨_, rfl, ?_⟩
 rw [decide_eq_true ((show ∀ a ∈ ([[111, 108], [117, 108], [98, 108, 111, 99, 107, 113, 117, 111, 116, 101]] : List (List UInt8)), a ∈ B.wd (B.setW 6) by decide +kernel) f.nm hn)]
 have C := C.no hC
 have hb := hb0.no C
 have hb3 := hb30.no C
 refine zP rfl (zP rfl (zP rfl (zJ rfl (zP rfl (zP rfl (zN (zK (zT rfl (zR (zP rfl (zP rfl ?_)))))))))))
 refine zCl rfl (shut_calls (h1.no C) hM (by omega) ((show ∀ a ∈ ([[111, 108], [117, 108], [98, 108, 111, 99, 107, 113, 117, 111, 116, 101]] : List (List UInt8)), a ∉ fmtN by decide +kernel) f.nm hn) ((show ∀ a ∈ ([[111, 108], [117, 108], [98, 108, 111, 99, 107, 113, 117, 111, 116, 101]] : List (List UInt8)), a ∉ cellN by decide +kernel) f.nm hn) [] (fun hi => absurd hi ((show ∀ a ∈ ([[111, 108], [117, 108], [98, 108, 111, 99, 107, 113, 117, 111, 116, 101]] : List (List UInt8)), a ∉ B.wd (B.setW 4) by decide +kernel) f.nm hn)) 1 (by decide)) ?_
 rintro _ wz hp
 obtain rfl := hp.1
 refine ⟨_, rfl, ?_⟩
 refine zN (zM ?_)
 exact zk_ret0 (.inl rfl) rfl (BPost.ret (BPost.pre (hN1.chg.no C) hp) (Chg.refl _ _))
theorem ends_pre (h : IsB w b t q N (n :: m :: R) (f :: g :: fr) sk) (hM : MOk q.M (n :: m :: R) (f :: g :: fr)) (hf : fr.length ≤ 700) (hn : f.nm ∈ ([[112, 114, 101]] : List (List UInt8))) :
  Calls Tryz.prog 133 [.pointer (some ⟨b, 0, none⟩), T.tokV 2 f.nm T.nS []].toArray w (BPost w b t q (g.shut f :: fr) sk N.length (.tuple #[])) := by
 unfold T.tokV
 refine zCz 140 Tryz.func133 ?_
 refine zS (zR ?_)
 refine zBx rfl (fun w1 b3 hN1 => ?_)
 have hb30 : Blk w1 b3 66 [.int .i64 2, .string (bs f.nm), .slice none 0 0, .bool false, .string (bs [])] := hN1.blk
 have h1 := h.no hN1.chg
 have hb0 := h1.blk
 have hb := hb0
 have hb3 := hb30
 have C : Chg w1 w1 No := Chg.refl _ _
 refine zN (zK (zS (zR (zfa rfl (zlB rfl ?_)))))
 refine zP rfl (zN (zK (zB (zS (zR (zP rfl ?_))))))
 refine zCl rfl (B.in_calls f.nm X1 (by decide)) ?_
 rintro _ w2 ⟨rfl, hC⟩
 refine ⟨_, rfl, ?_⟩
 rw [decide_eq_false ((show ∀ a ∈ ([[112, 114, 101]] : List (List UInt8)), a ∉ B.wd X1 by decide +kernel) f.nm hn)]
 have C := C.no hC
 have hb := hb0.no C
 have hb3 := hb30.no C
 refine zP rfl (zN (zK (zF rfl (zS (zR (zP rfl ?_))))))
 refine zEq rfl rfl (fun hq => absurd hq ((show ∀ a ∈ ([[112, 114, 101]] : List (List UInt8)), a ≠ [98, 114] by decide +kernel) f.nm hn)) (fun _ => ?_)
 refine zP rfl (zN (zK (zF rfl (zS (zR (zP rfl ?_))))))
 refine z_neL (want_L rfl) (by decide) rfl rfl (fun _ => ?_) (fun hq => absurd hq ((show ∀ a ∈ ([[112, 114, 101]] : List (List UInt8)), a ≠ [112] by decide +kernel) f.nm hn))
 refine zP rfl (zP rfl ?_)
 refine zCl rfl (B.has_calls 6 f.nm (by decide) (by decide)) ?_
 rintro _ w3 ⟨rfl, hC⟩
 refine ⟨_, rfl, ?_⟩
 rw [decide_eq_false ((show ∀ a ∈ ([[112, 114, 101]] : List (List UInt8)), a ∉ B.wd (B.setW 6) by decide +kernel) f.nm hn)]
 have C := C.no hC
 have hb := hb0.no C
 have hb3 := hb30.no C
 refine zP rfl (zP rfl (zP rfl ?_))
 refine zCl rfl (B.in_calls f.nm X2 (by decide)) ?_
 rintro _ w4 ⟨rfl, hC⟩
 refine ⟨_, rfl, ?_⟩
 rw [decide_eq_true ((show ∀ a ∈ ([[112, 114, 101]] : List (List UInt8)), a ∈ B.wd X2 by decide +kernel) f.nm hn)]
 have C := C.no hC
 have hb := hb0.no C
 have hb3 := hb30.no C
 refine zP rfl (zP rfl (zN (zK (zT rfl (zR (zP rfl (zP rfl ?_)))))))
 refine zCl rfl (shut_calls (h1.no C) hM (by omega) ((show ∀ a ∈ ([[112, 114, 101]] : List (List UInt8)), a ∉ fmtN by decide +kernel) f.nm hn) ((show ∀ a ∈ ([[112, 114, 101]] : List (List UInt8)), a ∉ cellN by decide +kernel) f.nm hn) [] (fun hi => absurd hi ((show ∀ a ∈ ([[112, 114, 101]] : List (List UInt8)), a ∉ B.wd (B.setW 4) by decide +kernel) f.nm hn)) 1 (by decide)) ?_
 rintro _ wz hp
 obtain rfl := hp.1
 refine ⟨_, rfl, ?_⟩
 refine zN (zM ?_)
 exact zk_ret0 (.inl rfl) rfl (BPost.ret (BPost.pre (hN1.chg.no C) hp) (Chg.refl _ _))
theorem ends_li (h : IsB w b t q N (n :: m :: R) (f :: g :: fr) sk) (hM : MOk q.M (n :: m :: R) (f :: g :: fr)) (hf : fr.length ≤ 700) (hn : f.nm ∈ ([[108, 105]] : List (List UInt8))) :
  Calls Tryz.prog 133 [.pointer (some ⟨b, 0, none⟩), T.tokV 2 f.nm T.nS []].toArray w (BPost w b t q (g.shut f :: fr) sk N.length (.tuple #[])) := by
 unfold T.tokV
 refine zCz 140 Tryz.func133 ?_
 refine zS (zR ?_)
 refine zBx rfl (fun w1 b3 hN1 => ?_)
 have hb30 : Blk w1 b3 66 [.int .i64 2, .string (bs f.nm), .slice none 0 0, .bool false, .string (bs [])] := hN1.blk
 have h1 := h.no hN1.chg
 have hb0 := h1.blk
 have hb := hb0
 have hb3 := hb30
 have C : Chg w1 w1 No := Chg.refl _ _
 refine zN (zK (zS (zR (zfa rfl (zlB rfl ?_)))))
 refine zP rfl (zN (zK (zB (zS (zR (zP rfl ?_))))))
 refine zCl rfl (B.in_calls f.nm X1 (by decide)) ?_
 rintro _ w2 ⟨rfl, hC⟩
 refine ⟨_, rfl, ?_⟩
 rw [decide_eq_false ((show ∀ a ∈ ([[108, 105]] : List (List UInt8)), a ∉ B.wd X1 by decide +kernel) f.nm hn)]
 have C := C.no hC
 have hb := hb0.no C
 have hb3 := hb30.no C
 refine zP rfl (zN (zK (zF rfl (zS (zR (zP rfl ?_))))))
 refine zEq rfl rfl (fun hq => absurd hq ((show ∀ a ∈ ([[108, 105]] : List (List UInt8)), a ≠ [98, 114] by decide +kernel) f.nm hn)) (fun _ => ?_)
 refine zP rfl (zN (zK (zF rfl (zS (zR (zP rfl ?_))))))
 refine z_neL (want_L rfl) (by decide) rfl rfl (fun _ => ?_) (fun hq => absurd hq ((show ∀ a ∈ ([[108, 105]] : List (List UInt8)), a ≠ [112] by decide +kernel) f.nm hn))
 refine zP rfl (zP rfl ?_)
 refine zCl rfl (B.has_calls 6 f.nm (by decide) (by decide)) ?_
 rintro _ w3 ⟨rfl, hC⟩
 refine ⟨_, rfl, ?_⟩
 rw [decide_eq_false ((show ∀ a ∈ ([[108, 105]] : List (List UInt8)), a ∉ B.wd (B.setW 6) by decide +kernel) f.nm hn)]
 have C := C.no hC
 have hb := hb0.no C
 have hb3 := hb30.no C
 refine zP rfl (zP rfl (zP rfl ?_))
 refine zCl rfl (B.in_calls f.nm X2 (by decide)) ?_
 rintro _ w4 ⟨rfl, hC⟩
 refine ⟨_, rfl, ?_⟩
 rw [decide_eq_false ((show ∀ a ∈ ([[108, 105]] : List (List UInt8)), a ∉ B.wd X2 by decide +kernel) f.nm hn)]
 have C := C.no hC
 have hb := hb0.no C
 have hb3 := hb30.no C
 refine zP rfl (zP rfl (zN (zK (zF rfl (zS (zR (zP rfl ?_)))))))
 refine zCl rfl (B.in_calls f.nm W4 (by decide)) ?_
 rintro _ w5 ⟨rfl, hC⟩
 refine ⟨_, rfl, ?_⟩
 rw [decide_eq_false ((show ∀ a ∈ ([[108, 105]] : List (List UInt8)), a ∉ B.wd W4 by decide +kernel) f.nm hn)]
 have C := C.no hC
 have hb := hb0.no C
 have hb3 := hb30.no C
 refine zP rfl (zN (zK (zF rfl (zS (zR (zP rfl ?_))))))
 refine zCl rfl (B.in_calls f.nm W7 (by decide)) ?_
 rintro _ w6 ⟨rfl, hC⟩
 refine ⟨_, rfl, ?_⟩
 rw [decide_eq_false ((show ∀ a ∈ ([[108, 105]] : List (List UInt8)), a ∉ B.wd W7 by decide +kernel) f.nm hn)]
 have C := C.no hC
 have hb := hb0.no C
 have hb3 := hb30.no C
 refine zP rfl (zN (zK (zF rfl (zS (zR (zP rfl ?_))))))
 refine zEq rfl rfl (fun _ => ?_) (fun hq => absurd ((show ∀ a ∈ ([[108, 105]] : List (List UInt8)), a = [108, 105] by decide +kernel) f.nm hn) hq)
 refine zP rfl (zN (zK (zT rfl (zR (zP rfl (zP rfl (zP rfl ?_)))))))
 refine zCl rfl (shut_calls (h1.no C) hM (by omega) ((show ∀ a ∈ ([[108, 105]] : List (List UInt8)), a ∉ fmtN by decide +kernel) f.nm hn) ((show ∀ a ∈ ([[108, 105]] : List (List UInt8)), a ∉ cellN by decide +kernel) f.nm hn) f.nm (fun _ => rfl) 2 (by decide)) ?_
 rintro _ wz hp
 obtain rfl := hp.1
 refine ⟨_, rfl, ?_⟩
 refine zN (zM ?_)
 exact zk_ret0 (.inl rfl) rfl (BPost.ret (BPost.pre (hN1.chg.no C) hp) (Chg.refl _ _))
theorem ends_p (h : IsB w b t q N (n :: m :: R) (f :: g :: fr) sk) (hM : MOk q.M (n :: m :: R) (f :: g :: fr)) (hf : fr.length ≤ 700) (hn : f.nm ∈ ([[112]] : List (List UInt8))) :
  Calls Tryz.prog 133 [.pointer (some ⟨b, 0, none⟩), T.tokV 2 f.nm T.nS []].toArray w (BPost w b t q (g.shut f :: fr) sk N.length (.tuple #[])) := by
 unfold T.tokV
 refine zCz 140 Tryz.func133 ?_
 refine zS (zR ?_)
 refine zBx rfl (fun w1 b3 hN1 => ?_)
 have hb30 : Blk w1 b3 66 [.int .i64 2, .string (bs f.nm), .slice none 0 0, .bool false, .string (bs [])] := hN1.blk
 have h1 := h.no hN1.chg
 have hb0 := h1.blk
 have hb := hb0
 have hb3 := hb30
 have C : Chg w1 w1 No := Chg.refl _ _
 refine zN (zK (zS (zR (zfa rfl (zlB rfl ?_)))))
 refine zP rfl (zN (zK (zB (zS (zR (zP rfl ?_))))))
 refine zCl rfl (B.in_calls f.nm X1 (by decide)) ?_
 rintro _ w2 ⟨rfl, hC⟩
 refine ⟨_, rfl, ?_⟩
 rw [decide_eq_false ((show ∀ a ∈ ([[112]] : List (List UInt8)), a ∉ B.wd X1 by decide +kernel) f.nm hn)]
 have C := C.no hC
 have hb := hb0.no C
 have hb3 := hb30.no C
 refine zP rfl (zN (zK (zF rfl (zS (zR (zP rfl ?_))))))
 refine zEq rfl rfl (fun hq => absurd hq ((show ∀ a ∈ ([[112]] : List (List UInt8)), a ≠ [98, 114] by decide +kernel) f.nm hn)) (fun _ => ?_)
 refine zP rfl (zN (zK (zF rfl (zS (zR (zP rfl ?_))))))
 refine z_neL (want_L rfl) (by decide) rfl rfl (fun hq => absurd ((show ∀ a ∈ ([[112]] : List (List UInt8)), a = [112] by decide +kernel) f.nm hn) hq) (fun _ => ?_)
 refine zP rfl (zP rfl (zJ rfl (zP rfl (zP rfl (zP rfl ?_)))))
 refine zCl rfl (B.in_calls f.nm X2 (by decide)) ?_
 rintro _ w3 ⟨rfl, hC⟩
 refine ⟨_, rfl, ?_⟩
 rw [decide_eq_false ((show ∀ a ∈ ([[112]] : List (List UInt8)), a ∉ B.wd X2 by decide +kernel) f.nm hn)]
 have C := C.no hC
 have hb := hb0.no C
 have hb3 := hb30.no C
 refine zP rfl (zP rfl (zN (zK (zF rfl (zS (zR (zP rfl ?_)))))))
 refine zCl rfl (B.in_calls f.nm W4 (by decide)) ?_
 rintro _ w4 ⟨rfl, hC⟩
 refine ⟨_, rfl, ?_⟩
 rw [decide_eq_false ((show ∀ a ∈ ([[112]] : List (List UInt8)), a ∉ B.wd W4 by decide +kernel) f.nm hn)]
 have C := C.no hC
 have hb := hb0.no C
 have hb3 := hb30.no C
 refine zP rfl (zN (zK (zF rfl (zS (zR (zP rfl ?_))))))
 refine zCl rfl (B.in_calls f.nm W7 (by decide)) ?_
 rintro _ w5 ⟨rfl, hC⟩
 refine ⟨_, rfl, ?_⟩
 rw [decide_eq_false ((show ∀ a ∈ ([[112]] : List (List UInt8)), a ∉ B.wd W7 by decide +kernel) f.nm hn)]
 have C := C.no hC
 have hb := hb0.no C
 have hb3 := hb30.no C
 refine zP rfl (zN (zK (zF rfl (zS (zR (zP rfl ?_))))))
 refine zEq rfl rfl (fun hq => absurd hq ((show ∀ a ∈ ([[112]] : List (List UInt8)), a ≠ [108, 105] by decide +kernel) f.nm hn)) (fun _ => ?_)
 refine zP rfl (zN (zK (zF rfl (zS (zR (zP rfl ?_))))))
 refine zCl rfl (B.has_calls 5 f.nm (by decide) (by decide)) ?_
 rintro _ w6 ⟨rfl, hC⟩
 refine ⟨_, rfl, ?_⟩
 rw [decide_eq_false ((show ∀ a ∈ ([[112]] : List (List UInt8)), a ∉ B.wd (B.setW 5) by decide +kernel) f.nm hn)]
 have C := C.no hC
 have hb := hb0.no C
 have hb3 := hb30.no C
 refine zP rfl (zN (zK (zF rfl (zS (zR (zP rfl ?_))))))
 refine zEq rfl rfl (fun _ => ?_) (fun hq => absurd ((show ∀ a ∈ ([[112]] : List (List UInt8)), a = [112] by decide +kernel) f.nm hn) hq)
 refine zP rfl (zN (zK (zT rfl (zS (zS (zR (zP rfl (zP rfl (zfa rfl (zlB rfl ?_))))))))))
 refine zP rfl ?_
 refine zB1 rfl (fun wa cb hMa => ?_)
 have hr : RdS wa 9 1 (.slice (some ⟨cb, 0, none⟩) 1 1) 1 (T.cellsS [f.nm]) := RdS.new hMa rfl (T.cellsS_one _)
 have C := C.no hMa.chg
 have hb := hb0.no C
 have hb3 := hb30.no C
 refine zCl rfl (sHas_calls (h1.no C).st (by simp only [List.length_cons]; omega) (l := [f.nm]) hr (by simp) 3 (by decide)) ?_
 rintro _ wb ⟨⟨y, rfl, hy, _⟩, hC⟩
 refine ⟨_, rfl, ?_⟩
 rw [hy (by simp) (by simp)]
 have C := C.no hC
 have hb := hb0.no C
 have hb3 := hb30.no C
 refine zP rfl (zN (zK (zF rfl (zA (zK (zS (zR (zP rfl (zP rfl (zfa rfl (zlB rfl ?_)))))))))))
 refine zP rfl ?_
 refine zCl rfl (sImply_calls (h1.no C).st (by omega) f.nm (fun _ => rfl)) ?_
 rintro _ wc ⟨rfl, hC⟩
 refine ⟨_, rfl, ?_⟩
 have C := C.no hC
 have hb := hb0.no C
 have hb3 := hb30.no C
 refine zN (zK (zR (zP rfl (zP rfl (zfa rfl (zlB rfl ?_))))))
 refine zP rfl ?_
 refine zB1 rfl (fun wa cb hMa => ?_)
 have hr : RdS wa 9 1 (.slice (some ⟨cb, 0, none⟩) 1 1) 1 (T.cellsS [f.nm]) := RdS.new hMa rfl (T.cellsS_one _)
 have C := C.no hMa.chg
 have hb := hb0.no C
 have hb3 := hb30.no C
 refine zCl rfl (sPopTo_calls (h1.no C).st (by omega) (l := [f.nm]) hr (by simp) (by simp)) ?_
 rintro _ wz hp
 obtain rfl := hp.1
 refine ⟨_, rfl, ?_⟩
 have hbp := BPost.pre (hN1.chg.no C) (hp.toB (h1.no C) ((hM.skip (mk1_none ((show ∀ a ∈ ([[112]] : List (List UInt8)), a ∉ fmtN by decide +kernel) f.nm hn) ((show ∀ a ∈ ([[112]] : List (List UInt8)), a ∉ cellN by decide +kernel) f.nm hn))).rename rfl))
 refine zN (zM ?_)
 exact zk_ret0 (.inl rfl) rfl (hbp.ret (Chg.refl _ _))
theorem ends_head (h : IsB w b t q N (n :: m :: R) (f :: g :: fr) sk) (hM : MOk q.M (n :: m :: R) (f :: g :: fr)) (hf : fr.length ≤ 700) (hn : f.nm ∈ ([[104, 50], [104, 51], [104, 52], [104, 53], [104, 54]] : List (List UInt8))) :
  Calls Tryz.prog 133 [.pointer (some ⟨b, 0, none⟩), T.tokV 2 f.nm T.nS []].toArray w (BPost w b t q (g.shut f :: fr) sk N.length (.tuple #[])) := by
 unfold T.tokV
 refine zCz 140 Tryz.func133 ?_
 refine zS (zR ?_)
 refine zBx rfl (fun w1 b3 hN1 => ?_)
 have hb30 : Blk w1 b3 66 [.int .i64 2, .string (bs f.nm), .slice none 0 0, .bool false, .string (bs [])] := hN1.blk
 have h1 := h.no hN1.chg
 have hb0 := h1.blk
 have hb := hb0
 have hb3 := hb30
 have C : Chg w1 w1 No := Chg.refl _ _
 refine zN (zK (zS (zR (zfa rfl (zlB rfl ?_)))))
 refine zP rfl (zN (zK (zB (zS (zR (zP rfl ?_))))))
 refine zCl rfl (B.in_calls f.nm X1 (by decide)) ?_
 rintro _ w2 ⟨rfl, hC⟩
 refine ⟨_, rfl, ?_⟩
 rw [decide_eq_false ((show ∀ a ∈ ([[104, 50], [104, 51], [104, 52], [104, 53], [104, 54]] : List (List UInt8)), a ∉ B.wd X1 by decide +kernel) f.nm hn)]
 have C := C.no hC
 have hb := hb0.no C
 have hb3 := hb30.no C
 refine zP rfl (zN (zK (zF rfl (zS (zR (zP rfl ?_))))))
 refine zEq rfl rfl (fun hq => absurd hq ((show ∀ a ∈ ([[104, 50], [104, 51], [104, 52], [104, 53], [104, 54]] : List (List UInt8)), a ≠ [98, 114] by decide +kernel) f.nm hn)) (fun _ => ?_)
 refine zP rfl (zN (zK (zF rfl (zS (zR (zP rfl ?_))))))
 refine z_neL (want_L rfl) (by decide) rfl rfl (fun _ => ?_) (fun hq => absurd hq ((show ∀ a ∈ ([[104, 50], [104, 51], [104, 52], [104, 53], [104, 54]] : List (List UInt8)), a ≠ [112] by decide +kernel) f.nm hn))
 refine zP rfl (zP rfl ?_)
 refine zCl rfl (B.has_calls 6 f.nm (by decide) (by decide)) ?_
 rintro _ w3 ⟨rfl, hC⟩
 refine ⟨_, rfl, ?_⟩
 rw [decide_eq_false ((show ∀ a ∈ ([[104, 50], [104, 51], [104, 52], [104, 53], [104, 54]] : List (List UInt8)), a ∉ B.wd (B.setW 6) by decide +kernel) f.nm hn)]
 have C := C.no hC
 have hb := hb0.no C
 have hb3 := hb30.no C
 refine zP rfl (zP rfl (zP rfl ?_))
 refine zCl rfl (B.in_calls f.nm X2 (by decide)) ?_
 rintro _ w4 ⟨rfl, hC⟩
 refine ⟨_, rfl, ?_⟩
 rw [decide_eq_false ((show ∀ a ∈ ([[104, 50], [104, 51], [104, 52], [104, 53], [104, 54]] : List (List UInt8)), a ∉ B.wd X2 by decide +kernel) f.nm hn)]
 have C := C.no hC
 have hb := hb0.no C
 have hb3 := hb30.no C
 refine zP rfl (zP rfl (zN (zK (zF rfl (zS (zR (zP rfl ?_)))))))
 refine zCl rfl (B.in_calls f.nm W4 (by decide)) ?_
 rintro _ w5 ⟨rfl, hC⟩
 refine ⟨_, rfl, ?_⟩
 rw [decide_eq_false ((show ∀ a ∈ ([[104, 50], [104, 51], [104, 52], [104, 53], [104, 54]] : List (List UInt8)), a ∉ B.wd W4 by decide +kernel) f.nm hn)]
 have C := C.no hC
 have hb := hb0.no C
 have hb3 := hb30.no C
 refine zP rfl (zN (zK (zF rfl (zS (zR (zP rfl ?_))))))
 refine zCl rfl (B.in_calls f.nm W7 (by decide)) ?_
 rintro _ w6 ⟨rfl, hC⟩
 refine ⟨_, rfl, ?_⟩
 rw [decide_eq_false ((show ∀ a ∈ ([[104, 50], [104, 51], [104, 52], [104, 53], [104, 54]] : List (List UInt8)), a ∉ B.wd W7 by decide +kernel) f.nm hn)]
 have C := C.no hC
 have hb := hb0.no C
 have hb3 := hb30.no C
 refine zP rfl (zN (zK (zF rfl (zS (zR (zP rfl ?_))))))
 refine zEq rfl rfl (fun hq => absurd hq ((show ∀ a ∈ ([[104, 50], [104, 51], [104, 52], [104, 53], [104, 54]] : List (List UInt8)), a ≠ [108, 105] by decide +kernel) f.nm hn)) (fun _ => ?_)
 refine zP rfl (zN (zK (zF rfl (zS (zR (zP rfl ?_))))))
 refine zCl rfl (B.has_calls 5 f.nm (by decide) (by decide)) ?_
 rintro _ w7 ⟨rfl, hC⟩
 refine ⟨_, rfl, ?_⟩
 rw [decide_eq_true ((show ∀ a ∈ ([[104, 50], [104, 51], [104, 52], [104, 53], [104, 54]] : List (List UInt8)), a ∈ B.wd (B.setW 5) by decide +kernel) f.nm hn)]
 have C := C.no hC
 have hb := hb0.no C
 have hb3 := hb30.no C
 refine zP rfl (zN (zK (zT rfl (zS ?_))))
 refine zc_draw [] (fun w' => Blk w' b 64 [.pointer (some ⟨t, 0, none⟩), .int .i64 0, .string ⟨#[]⟩, .bool sk]) (.take 0 (.take 1 (.take 2 (.take 3 (.all1 4 (.all1 5 (.fin))))))) (by rfl) (by kernel_rfl) (by kernel_rfl) (fun wd hC _ => ⟨?_, ?_⟩)
 ·exact hb.no hC
 have C := C.no hC
 have hb := hb0.no C
 refine ztP rfl rfl (ztP rfl rfl (zRd rfl rfl (fun _ hS => r_fa rfl) ?_))
 refine zRd rfl rfl (fun _ hS => r_loadB rfl hS (by rfl)) ?_
 refine zs_call rfl (want_L rfl) rfl (by decide) rfl (B.set_calls 5 (by decide) (by decide)) ?_
 rintro _ wf ⟨⟨A5, c5, rfl, hO⟩, hC⟩
 have C := C.no hC
 have hb := hb0.no C
 refine ⟨_, rfl, hb, ?_⟩
 refine zs_call rfl (want_L rfl) rfl (by decide) rfl (sHas_calls (h1.no C).st (by simp only [List.length_cons]; omega) hO (by decide +kernel) 1 (by decide)) ?_
 rintro _ wb ⟨⟨y, rfl, hy, _⟩, hC⟩
 have C := C.no hC
 have hb := hb0.no C
 have hb3 := hb30.no C
 refine ⟨_, rfl, hb, ?_⟩
 rw [hy (by simp) ((show ∀ a ∈ ([[104, 50], [104, 51], [104, 52], [104, 53], [104, 54]] : List (List UInt8)), a ∈ B.wd (B.setW 5) by decide +kernel) f.nm hn)]
 refine zs_fin ?_
 refine zK (zT rfl (zS (zR (zP rfl (zP rfl (zfa rfl (zlB rfl ?_)))))))
 refine zCl rfl (sImply_calls (h1.no C).st (by omega) [] (fun hi => absurd hi ((show ∀ a ∈ ([[104, 50], [104, 51], [104, 52], [104, 53], [104, 54]] : List (List UInt8)), a ∉ B.wd (B.setW 4) by decide +kernel) f.nm hn))) ?_
 rintro _ wc ⟨rfl, hC⟩
 refine ⟨_, rfl, ?_⟩
 have C := C.no hC
 have hb := hb0.no C
 have hb3 := hb30.no C
 refine zN (zK ?_)
 refine zc_draw [] (fun w' => Blk w' b 64 [.pointer (some ⟨t, 0, none⟩), .int .i64 0, .string ⟨#[]⟩, .bool sk]) (.take 0 (.take 1 (.take 2 (.take 3 (.all1 4 (.all1 5 (.fin))))))) (by rfl) (by kernel_rfl) (by kernel_rfl) (fun wd hC _ => ⟨?_, ?_⟩)
 ·exact hb.no hC
 have C := C.no hC
 have hb := hb0.no C
 refine ztP rfl rfl (ztP rfl rfl (zRd rfl rfl (fun _ hS => r_fa rfl) ?_))
 refine zRd rfl rfl (fun _ hS => r_loadB rfl hS (by rfl)) ?_
 refine zs_call rfl (want_L rfl) rfl (by decide) rfl (B.set_calls 5 (by decide) (by decide)) ?_
 rintro _ wf ⟨⟨A5, c5, rfl, hO⟩, hC⟩
 have C := C.no hC
 have hb := hb0.no C
 refine ⟨_, rfl, hb, ?_⟩
 refine zs_call rfl (want_L rfl) rfl (by decide) rfl (sPopTo_calls (h1.no C).st (by omega) hO (by decide +kernel) ((show ∀ a ∈ ([[104, 50], [104, 51], [104, 52], [104, 53], [104, 54]] : List (List UInt8)), a ∈ B.wd (B.setW 5) by decide +kernel) f.nm hn)) ?_
 rintro _ wz hp
 obtain rfl := hp.1
 have hbp := hp.toB (h1.no C) ((hM.skip (mk1_none ((show ∀ a ∈ ([[104, 50], [104, 51], [104, 52], [104, 53], [104, 54]] : List (List UInt8)), a ∉ fmtN by decide +kernel) f.nm hn) ((show ∀ a ∈ ([[104, 50], [104, 51], [104, 52], [104, 53], [104, 54]] : List (List UInt8)), a ∉ cellN by decide +kernel) f.nm hn))).rename rfl)
 refine ⟨_, rfl, ?_, ?_⟩
 ·obtain ⟨_, _, _, _, hB, _⟩ := hbp
  exact hB.blk
 refine zs_fin ?_
 refine zM ?_
 exact zk_ret0 (.inl rfl) rfl ((BPost.pre (hN1.chg.no C) hbp).ret (Chg.refl _ _))
theorem ends_fmt (h : IsB w b t q N (n :: m :: R) (f :: g :: fr) sk) (hM : MOk q.M (n :: m :: R) (f :: g :: fr)) (hf : fr.length ≤ 700) (hn : f.nm ∈ ([[97], [99, 111, 100, 101], [101, 109], [115, 116, 114, 111, 110, 103]] : List (List UInt8))) :
  Calls Tryz.prog 133 [.pointer (some ⟨b, 0, none⟩), T.tokV 2 f.nm T.nS []].toArray w (BPost w b t q (g.shut f :: fr) sk N.length (.tuple #[])) := by
 unfold T.tokV
 refine zCz 140 Tryz.func133 ?_
 refine zS (zR ?_)
 refine zBx rfl (fun w1 b3 hN1 => ?_)
 have hb30 : Blk w1 b3 66 [.int .i64 2, .string (bs f.nm), .slice none 0 0, .bool false, .string (bs [])] := hN1.blk
 have h1 := h.no hN1.chg
 have hb0 := h1.blk
 have hb := hb0
 have hb3 := hb30
 have C : Chg w1 w1 No := Chg.refl _ _
 refine zN (zK (zS (zR (zfa rfl (zlB rfl ?_)))))
 refine zP rfl (zN (zK (zB (zS (zR (zP rfl ?_))))))
 refine zCl rfl (B.in_calls f.nm X1 (by decide)) ?_
 rintro _ w2 ⟨rfl, hC⟩
 refine ⟨_, rfl, ?_⟩
 rw [decide_eq_false ((show ∀ a ∈ ([[97], [99, 111, 100, 101], [101, 109], [115, 116, 114, 111, 110, 103]] : List (List UInt8)), a ∉ B.wd X1 by decide +kernel) f.nm hn)]
 have C := C.no hC
 have hb := hb0.no C
 have hb3 := hb30.no C
 refine zP rfl (zN (zK (zF rfl (zS (zR (zP rfl ?_))))))
 refine zEq rfl rfl (fun hq => absurd hq ((show ∀ a ∈ ([[97], [99, 111, 100, 101], [101, 109], [115, 116, 114, 111, 110, 103]] : List (List UInt8)), a ≠ [98, 114] by decide +kernel) f.nm hn)) (fun _ => ?_)
 refine zP rfl (zN (zK (zF rfl (zS (zR (zP rfl ?_))))))
 refine z_neL (want_L rfl) (by decide) rfl rfl (fun _ => ?_) (fun hq => absurd hq ((show ∀ a ∈ ([[97], [99, 111, 100, 101], [101, 109], [115, 116, 114, 111, 110, 103]] : List (List UInt8)), a ≠ [112] by decide +kernel) f.nm hn))
 refine zP rfl (zP rfl ?_)
 refine zCl rfl (B.has_calls 6 f.nm (by decide) (by decide)) ?_
 rintro _ w3 ⟨rfl, hC⟩
 refine ⟨_, rfl, ?_⟩
 rw [decide_eq_false ((show ∀ a ∈ ([[97], [99, 111, 100, 101], [101, 109], [115, 116, 114, 111, 110, 103]] : List (List UInt8)), a ∉ B.wd (B.setW 6) by decide +kernel) f.nm hn)]
 have C := C.no hC
 have hb := hb0.no C
 have hb3 := hb30.no C
 refine zP rfl (zP rfl (zP rfl ?_))
 refine zCl rfl (B.in_calls f.nm X2 (by decide)) ?_
 rintro _ w4 ⟨rfl, hC⟩
 refine ⟨_, rfl, ?_⟩
 rw [decide_eq_false ((show ∀ a ∈ ([[97], [99, 111, 100, 101], [101, 109], [115, 116, 114, 111, 110, 103]] : List (List UInt8)), a ∉ B.wd X2 by decide +kernel) f.nm hn)]
 have C := C.no hC
 have hb := hb0.no C
 have hb3 := hb30.no C
 refine zP rfl (zP rfl (zN (zK (zF rfl (zS (zR (zP rfl ?_)))))))
 refine zCl rfl (B.in_calls f.nm W4 (by decide)) ?_
 rintro _ w5 ⟨rfl, hC⟩
 refine ⟨_, rfl, ?_⟩
 rw [decide_eq_false ((show ∀ a ∈ ([[97], [99, 111, 100, 101], [101, 109], [115, 116, 114, 111, 110, 103]] : List (List UInt8)), a ∉ B.wd W4 by decide +kernel) f.nm hn)]
 have C := C.no hC
 have hb := hb0.no C
 have hb3 := hb30.no C
 refine zP rfl (zN (zK (zF rfl (zS (zR (zP rfl ?_))))))
 refine zCl rfl (B.in_calls f.nm W7 (by decide)) ?_
 rintro _ w6 ⟨rfl, hC⟩
 refine ⟨_, rfl, ?_⟩
 rw [decide_eq_false ((show ∀ a ∈ ([[97], [99, 111, 100, 101], [101, 109], [115, 116, 114, 111, 110, 103]] : List (List UInt8)), a ∉ B.wd W7 by decide +kernel) f.nm hn)]
 have C := C.no hC
 have hb := hb0.no C
 have hb3 := hb30.no C
 refine zP rfl (zN (zK (zF rfl (zS (zR (zP rfl ?_))))))
 refine zEq rfl rfl (fun hq => absurd hq ((show ∀ a ∈ ([[97], [99, 111, 100, 101], [101, 109], [115, 116, 114, 111, 110, 103]] : List (List UInt8)), a ≠ [108, 105] by decide +kernel) f.nm hn)) (fun _ => ?_)
 refine zP rfl (zN (zK (zF rfl (zS (zR (zP rfl ?_))))))
 refine zCl rfl (B.has_calls 5 f.nm (by decide) (by decide)) ?_
 rintro _ w7 ⟨rfl, hC⟩
 refine ⟨_, rfl, ?_⟩
 rw [decide_eq_false ((show ∀ a ∈ ([[97], [99, 111, 100, 101], [101, 109], [115, 116, 114, 111, 110, 103]] : List (List UInt8)), a ∉ B.wd (B.setW 5) by decide +kernel) f.nm hn)]
 have C := C.no hC
 have hb := hb0.no C
 have hb3 := hb30.no C
 refine zP rfl (zN (zK (zF rfl (zS (zR (zP rfl ?_))))))
 refine zEq rfl rfl (fun hq => absurd hq ((show ∀ a ∈ ([[97], [99, 111, 100, 101], [101, 109], [115, 116, 114, 111, 110, 103]] : List (List UInt8)), a ≠ [112] by decide +kernel) f.nm hn)) (fun _ => ?_)
 refine zP rfl (zN (zK (zF rfl (zS (zR (zP rfl ?_))))))
 refine zEq rfl rfl (fun hq => absurd hq ((show ∀ a ∈ ([[97], [99, 111, 100, 101], [101, 109], [115, 116, 114, 111, 110, 103]] : List (List UInt8)), a ≠ [116, 101, 109, 112, 108, 97, 116, 101] by decide +kernel) f.nm hn)) (fun _ => ?_)
 refine zP rfl (zN (zK (zF rfl (zS (zR (zP rfl ?_))))))
 refine zCl rfl (B.has_calls 2 f.nm (by decide) (by decide)) ?_
 rintro _ w8 ⟨rfl, hC⟩
 refine ⟨_, rfl, ?_⟩
 rw [decide_eq_true ((show ∀ a ∈ ([[97], [99, 111, 100, 101], [101, 109], [115, 116, 114, 111, 110, 103]] : List (List UInt8)), a ∈ B.wd (B.setW 2) by decide +kernel) f.nm hn)]
 have C := C.no hC
 have hb := hb0.no C
 have hb3 := hb30.no C
 obtain ⟨M0, x, hqx, hx, h0⟩ := hM.snoc (y := (((n : Nat) : Int), f.nm)) (by unfold mk1; rw [if_pos ((show ∀ a ∈ ([[97], [99, 111, 100, 101], [101, 109], [115, 116, 114, 111, 110, 103]] : List (List UInt8)), a ∈ fmtN by decide +kernel) f.nm hn)])
 have hMl := h0.len
 simp only [List.length_cons] at hMl
 refine zP rfl (zP rfl (zP rfl (zfa rfl (zlB rfl ?_))))
 refine zP rfl ?_
 refine zCl rfl (close_calls (h1.no C).st (by omega) M0 x hqx (congrArg Prod.fst hx) (congrArg Prod.snd hx) (by omega)) ?_
 rintro _ wz hp
 obtain rfl := hp.1
 refine ⟨_, rfl, ?_⟩
 have hbp := BPost.pre (hN1.chg.no C) (hp.toB (h1.no C) (h0.rename rfl))
 refine zP rfl (zP rfl (zN (zK (zT rfl (zA (zM ?_))))))
 exact zk_ret0 (.inl rfl) rfl (hbp.ret (Chg.refl _ _))
theorem ends_sub (h : IsB w b t q N (n :: m :: R) (f :: g :: fr) sk) (hM : MOk q.M (n :: m :: R) (f :: g :: fr)) (hf : fr.length ≤ 700) (hn : f.nm ∈ ([[115, 117, 98], [115, 117, 112]] : List (List UInt8))) :
  Calls Tryz.prog 133 [.pointer (some ⟨b, 0, none⟩), T.tokV 2 f.nm T.nS []].toArray w (BPost w b t q (g.shut f :: fr) sk N.length (.tuple #[])) := by
 unfold T.tokV
 refine zCz 140 Tryz.func133 ?_
 refine zS (zR ?_)
 refine zBx rfl (fun w1 b3 hN1 => ?_)
 have hb30 : Blk w1 b3 66 [.int .i64 2, .string (bs f.nm), .slice none 0 0, .bool false, .string (bs [])] := hN1.blk
 have h1 := h.no hN1.chg
 have hb0 := h1.blk
 have hb := hb0
 have hb3 := hb30
 have C : Chg w1 w1 No := Chg.refl _ _
 refine zN (zK (zS (zR (zfa rfl (zlB rfl ?_)))))
 refine zP rfl (zN (zK (zB (zS (zR (zP rfl ?_))))))
 refine zCl rfl (B.in_calls f.nm X1 (by decide)) ?_
 rintro _ w2 ⟨rfl, hC⟩
 refine ⟨_, rfl, ?_⟩
 rw [decide_eq_false ((show ∀ a ∈ ([[115, 117, 98], [115, 117, 112]] : List (List UInt8)), a ∉ B.wd X1 by decide +kernel) f.nm hn)]
 have C := C.no hC
 have hb := hb0.no C
 have hb3 := hb30.no C
 refine zP rfl (zN (zK (zF rfl (zS (zR (zP rfl ?_))))))
 refine zEq rfl rfl (fun hq => absurd hq ((show ∀ a ∈ ([[115, 117, 98], [115, 117, 112]] : List (List UInt8)), a ≠ [98, 114] by decide +kernel) f.nm hn)) (fun _ => ?_)
 refine zP rfl (zN (zK (zF rfl (zS (zR (zP rfl ?_))))))
 refine z_neL (want_L rfl) (by decide) rfl rfl (fun _ => ?_) (fun hq => absurd hq ((show ∀ a ∈ ([[115, 117, 98], [115, 117, 112]] : List (List UInt8)), a ≠ [112] by decide +kernel) f.nm hn))
 refine zP rfl (zP rfl ?_)
 refine zCl rfl (B.has_calls 6 f.nm (by decide) (by decide)) ?_
 rintro _ w3 ⟨rfl, hC⟩
 refine ⟨_, rfl, ?_⟩
 rw [decide_eq_false ((show ∀ a ∈ ([[115, 117, 98], [115, 117, 112]] : List (List UInt8)), a ∉ B.wd (B.setW 6) by decide +kernel) f.nm hn)]
 have C := C.no hC
 have hb := hb0.no C
 have hb3 := hb30.no C
 refine zP rfl (zP rfl (zP rfl ?_))
 refine zCl rfl (B.in_calls f.nm X2 (by decide)) ?_
 rintro _ w4 ⟨rfl, hC⟩
 refine ⟨_, rfl, ?_⟩
 rw [decide_eq_false ((show ∀ a ∈ ([[115, 117, 98], [115, 117, 112]] : List (List UInt8)), a ∉ B.wd X2 by decide +kernel) f.nm hn)]
 have C := C.no hC
 have hb := hb0.no C
 have hb3 := hb30.no C
 refine zP rfl (zP rfl (zN (zK (zF rfl (zS (zR (zP rfl ?_)))))))
 refine zCl rfl (B.in_calls f.nm W4 (by decide)) ?_
 rintro _ w5 ⟨rfl, hC⟩
 refine ⟨_, rfl, ?_⟩
 rw [decide_eq_false ((show ∀ a ∈ ([[115, 117, 98], [115, 117, 112]] : List (List UInt8)), a ∉ B.wd W4 by decide +kernel) f.nm hn)]
 have C := C.no hC
 have hb := hb0.no C
 have hb3 := hb30.no C
 refine zP rfl (zN (zK (zF rfl (zS (zR (zP rfl ?_))))))
 refine zCl rfl (B.in_calls f.nm W7 (by decide)) ?_
 rintro _ w6 ⟨rfl, hC⟩
 refine ⟨_, rfl, ?_⟩
 rw [decide_eq_false ((show ∀ a ∈ ([[115, 117, 98], [115, 117, 112]] : List (List UInt8)), a ∉ B.wd W7 by decide +kernel) f.nm hn)]
 have C := C.no hC
 have hb := hb0.no C
 have hb3 := hb30.no C
 refine zP rfl (zN (zK (zF rfl (zS (zR (zP rfl ?_))))))
 refine zEq rfl rfl (fun hq => absurd hq ((show ∀ a ∈ ([[115, 117, 98], [115, 117, 112]] : List (List UInt8)), a ≠ [108, 105] by decide +kernel) f.nm hn)) (fun _ => ?_)
 refine zP rfl (zN (zK (zF rfl (zS (zR (zP rfl ?_))))))
 refine zCl rfl (B.has_calls 5 f.nm (by decide) (by decide)) ?_
 rintro _ w7 ⟨rfl, hC⟩
 refine ⟨_, rfl, ?_⟩
 rw [decide_eq_false ((show ∀ a ∈ ([[115, 117, 98], [115, 117, 112]] : List (List UInt8)), a ∉ B.wd (B.setW 5) by decide +kernel) f.nm hn)]
 have C := C.no hC
 have hb := hb0.no C
 have hb3 := hb30.no C
 refine zP rfl (zN (zK (zF rfl (zS (zR (zP rfl ?_))))))
 refine zEq rfl rfl (fun hq => absurd hq ((show ∀ a ∈ ([[115, 117, 98], [115, 117, 112]] : List (List UInt8)), a ≠ [112] by decide +kernel) f.nm hn)) (fun _ => ?_)
 refine zP rfl (zN (zK (zF rfl (zS (zR (zP rfl ?_))))))
 refine zEq rfl rfl (fun hq => absurd hq ((show ∀ a ∈ ([[115, 117, 98], [115, 117, 112]] : List (List UInt8)), a ≠ [116, 101, 109, 112, 108, 97, 116, 101] by decide +kernel) f.nm hn)) (fun _ => ?_)
 refine zP rfl (zN (zK (zF rfl (zS (zR (zP rfl ?_))))))
 refine zCl rfl (B.has_calls 2 f.nm (by decide) (by decide)) ?_
 rintro _ w8 ⟨rfl, hC⟩
 refine ⟨_, rfl, ?_⟩
 rw [decide_eq_false ((show ∀ a ∈ ([[115, 117, 98], [115, 117, 112]] : List (List UInt8)), a ∉ B.wd (B.setW 2) by decide +kernel) f.nm hn)]
 have C := C.no hC
 have hb := hb0.no C
 have hb3 := hb30.no C
 refine zP rfl (zP rfl (zP rfl (zJ rfl (zJ rfl (zP rfl (zJ rfl (zP rfl (zP rfl (zN (zK (zF rfl (zR (zP rfl (zP rfl ?_))))))))))))))
 refine zCl rfl (any_calls (h1.no C) hM (by omega) ((show ∀ a ∈ ([[115, 117, 98], [115, 117, 112]] : List (List UInt8)), a ∉ fmtN by decide +kernel) f.nm hn) ((show ∀ a ∈ ([[115, 117, 98], [115, 117, 112]] : List (List UInt8)), a ∉ cellN by decide +kernel) f.nm hn)) ?_
 rintro _ wz hp
 obtain rfl := hp.1
 refine ⟨_, rfl, ?_⟩
 refine zN (zM ?_)
 exact zk_ret0 (.inl rfl) rfl (BPost.ret (BPost.pre (hN1.chg.no C) hp) (Chg.refl _ _))
end
def Y1 : List UInt8 := [116, 100, 32, 116, 104]
def Y2 : List UInt8 := [99, 97, 112, 116, 105, 111, 110, 32, 99, 111, 108, 32, 99, 111, 108, 103, 114, 111, 117, 112, 32, 116, 98, 111, 100, 121, 32, 116, 100, 32, 116, 102, 111, 111, 116, 32, 116, 104, 32, 116, 104, 101, 97, 100, 32, 116, 114]
def Y3 : List UInt8 := [116, 97, 98, 108, 101, 32, 116, 98, 111, 100, 121, 32, 116, 102, 111, 111, 116, 32, 116, 104, 101, 97, 100, 32, 116, 114]
def Y4 : List UInt8 := [98, 111, 100, 121, 32, 99, 97, 112, 116, 105, 111, 110, 32, 99, 111, 108, 32, 99, 111, 108, 103, 114, 111, 117, 112, 32, 104, 116, 109, 108, 32, 116, 97, 98, 108, 101, 32, 116, 98, 111, 100, 121, 32, 116, 102, 111, 111, 116, 32, 116, 104, 101, 97, 100, 32, 116, 114]
def grN : List (List UInt8) := [[99, 97, 112, 116, 105, 111, 110], [116, 97, 98, 108, 101], [116, 98, 111, 100, 121], [116, 100], [116, 101, 109, 112, 108, 97, 116, 101], [116, 102, 111, 111, 116], [116, 104], [116, 104, 101, 97, 100], [116, 114]]
def leafN : List (List UInt8) := [[104, 114], [98, 114], [105, 109, 103]]
def headN : List (List UInt8) := [[104, 50], [104, 51], [104, 52], [104, 53], [104, 54]]
def pN : List (List UInt8) := [[104, 114], [112], [111, 108], [117, 108], [98, 108, 111, 99, 107, 113, 117, 111, 116, 101], [116, 97, 98, 108, 101], [112, 114, 101], [104, 50], [104, 51], [104, 52], [104, 53], [104, 54], [108, 105]]
def startN : List (List UInt8) := pN ++ [[98, 114], [105, 109, 103], [97], [99, 111, 100, 101], [101, 109], [115, 116, 114, 111, 110, 103], [115, 117, 98], [115, 117, 112]]
def endN : List (List UInt8) := [[111, 108], [117, 108], [98, 108, 111, 99, 107, 113, 117, 111, 116, 101], [112, 114, 101], [108, 105], [112], [104, 50], [104, 51], [104, 52], [104, 53], [104, 54], [97], [99, 111, 100, 101], [101, 109], [115, 116, 114, 111, 110, 103], [115, 117, 98], [115, 117, 112]]
structure CondS (nm : List UInt8) (fr : List FE) : Prop where
 nop : nm ∈ pN → ∀ g ∈ fr, g.nm ≠ [112]
 noh : nm ∈ headN → ∀ f, fr.head? = some f → f.nm ∉ B.wd (B.setW 5)
 li : nm = [108, 105] → ∃ f g fr', fr = f :: g :: fr' ∧ (f.nm = [111, 108] ∨ f.nm = [117, 108])
 fmt : nm ∈ fmtN → nm ∉ upN fr
def startF (nm : List UInt8) (al : List T.At) : List FE → List FE
 | [] => []
 | f :: fr => if nm ∈ leafN then f.shut ⟨nm, al, .nil⟩ :: fr else ⟨nm, al, .nil⟩ :: f :: fr
section
variable {w w' w0 w1 w2 : World} {b t : Nat} {q q' q1 : SQ} {N N' : List ND} {n m k : Nat} {R R' : List Nat} {f g : FE} {fr fr' : List FE} {sk sk' : Bool} {x : Value} {e : Ending}
theorem opens_calls (h : IsB w b t q N (n :: R) (f :: fr) false) (hM : MOk q.M (n :: R) (f :: fr)) (hf : fr.length ≤ 700) (hl : N.length ≤ 1900000) (nm : List UInt8) (hn : nm ∈ startN) (al : List T.At) {va : Value} (ha : AttrS w va (encT al)) (hal : al.length ≤ 1000000) (hc : CondS nm (f :: fr)) :
  Calls Tryz.prog 132 [.pointer (some ⟨b, 0, none⟩), T.tokV 1 nm va []].toArray w (BPost w b t q (startF nm al (f :: fr)) (decide (nm = [112, 114, 101])) (N.length + 1) (.tuple #[])) := by
 have cls : nm ∈ ([[104, 114]] : List (List UInt8)) ∨ nm ∈ ([[98, 114], [105, 109, 103]] : List (List UInt8)) ∨ nm ∈ ([[112], [111, 108], [117, 108], [98, 108, 111, 99, 107, 113, 117, 111, 116, 101]] : List (List UInt8)) ∨ nm ∈ ([[116, 97, 98, 108, 101]] : List (List UInt8)) ∨ nm ∈ ([[112, 114, 101]] : List (List UInt8)) ∨ nm ∈ ([[104, 50], [104, 51], [104, 52], [104, 53], [104, 54]] : List (List UInt8)) ∨ nm ∈ ([[108, 105]] : List (List UInt8)) ∨ nm ∈ ([[97]] : List (List UInt8)) ∨ nm ∈ ([[99, 111, 100, 101], [101, 109], [115, 116, 114, 111, 110, 103]] : List (List UInt8)) ∨ nm ∈ ([[115, 117, 98], [115, 117, 112]] : List (List UInt8)) := by
  revert hn
  have : ∀ a ∈ startN, a ∈ ([[104, 114]] : List (List UInt8)) ∨ a ∈ ([[98, 114], [105, 109, 103]] : List (List UInt8)) ∨ a ∈ ([[112], [111, 108], [117, 108], [98, 108, 111, 99, 107, 113, 117, 111, 116, 101]] : List (List UInt8)) ∨ a ∈ ([[116, 97, 98, 108, 101]] : List (List UInt8)) ∨ a ∈ ([[112, 114, 101]] : List (List UInt8)) ∨ a ∈ ([[104, 50], [104, 51], [104, 52], [104, 53], [104, 54]] : List (List UInt8)) ∨ a ∈ ([[108, 105]] : List (List UInt8)) ∨ a ∈ ([[97]] : List (List UInt8)) ∨ a ∈ ([[99, 111, 100, 101], [101, 109], [115, 116, 114, 111, 110, 103]] : List (List UInt8)) ∨ a ∈ ([[115, 117, 98], [115, 117, 112]] : List (List UInt8)) := by decide +kernel
  exact this nm
 have leaf : nm ∈ leafN → startF nm al (f :: fr) = f.shut ⟨nm, al, .nil⟩ :: fr := fun hh => if_pos hh
 have open_ : nm ∉ leafN → startF nm al (f :: fr) = ⟨nm, al, .nil⟩ :: f :: fr := fun hh => if_neg hh
 rcases cls with c | c | c | c | c | c | c | c | c | c
 ·rw [leaf ((show ∀ a ∈ ([[104, 114]] : List (List UInt8)), a ∈ leafN by decide +kernel) nm c), decide_eq_false ((show ∀ a ∈ ([[104, 114]] : List (List UInt8)), a ≠ [112, 114, 101] by decide +kernel) nm c)]
  exact opens_hr h hM hf hl nm c al ha hal (hc.nop ((show ∀ a ∈ ([[104, 114]] : List (List UInt8)), a ∈ pN by decide +kernel) nm c))
 ·rw [leaf ((show ∀ a ∈ ([[98, 114], [105, 109, 103]] : List (List UInt8)), a ∈ leafN by decide +kernel) nm c), decide_eq_false ((show ∀ a ∈ ([[98, 114], [105, 109, 103]] : List (List UInt8)), a ≠ [112, 114, 101] by decide +kernel) nm c)]
  exact opens_br h hM hf hl nm c al ha hal
 ·rw [open_ ((show ∀ a ∈ ([[112], [111, 108], [117, 108], [98, 108, 111, 99, 107, 113, 117, 111, 116, 101]] : List (List UInt8)), a ∉ leafN by decide +kernel) nm c), decide_eq_false ((show ∀ a ∈ ([[112], [111, 108], [117, 108], [98, 108, 111, 99, 107, 113, 117, 111, 116, 101]] : List (List UInt8)), a ≠ [112, 114, 101] by decide +kernel) nm c)]
  exact opens_block h hM hf hl nm c al ha hal (hc.nop ((show ∀ a ∈ ([[112], [111, 108], [117, 108], [98, 108, 111, 99, 107, 113, 117, 111, 116, 101]] : List (List UInt8)), a ∈ pN by decide +kernel) nm c))
 ·rw [open_ ((show ∀ a ∈ ([[116, 97, 98, 108, 101]] : List (List UInt8)), a ∉ leafN by decide +kernel) nm c), decide_eq_false ((show ∀ a ∈ ([[116, 97, 98, 108, 101]] : List (List UInt8)), a ≠ [112, 114, 101] by decide +kernel) nm c)]
  exact opens_table h hM hf hl nm c al ha hal (hc.nop ((show ∀ a ∈ ([[116, 97, 98, 108, 101]] : List (List UInt8)), a ∈ pN by decide +kernel) nm c))
 ·rw [open_ ((show ∀ a ∈ ([[112, 114, 101]] : List (List UInt8)), a ∉ leafN by decide +kernel) nm c), decide_eq_true ((show ∀ a ∈ ([[112, 114, 101]] : List (List UInt8)), a = [112, 114, 101] by decide +kernel) nm c)]
  exact opens_pre h hM hf hl nm c al ha hal (hc.nop ((show ∀ a ∈ ([[112, 114, 101]] : List (List UInt8)), a ∈ pN by decide +kernel) nm c))
 ·rw [open_ ((show ∀ a ∈ ([[104, 50], [104, 51], [104, 52], [104, 53], [104, 54]] : List (List UInt8)), a ∉ leafN by decide +kernel) nm c), decide_eq_false ((show ∀ a ∈ ([[104, 50], [104, 51], [104, 52], [104, 53], [104, 54]] : List (List UInt8)), a ≠ [112, 114, 101] by decide +kernel) nm c)]
  exact opens_head h hM hf hl nm c al ha hal (hc.nop ((show ∀ a ∈ ([[104, 50], [104, 51], [104, 52], [104, 53], [104, 54]] : List (List UInt8)), a ∈ pN by decide +kernel) nm c)) (hc.noh ((show ∀ a ∈ ([[104, 50], [104, 51], [104, 52], [104, 53], [104, 54]] : List (List UInt8)), a ∈ headN by decide +kernel) nm c) f rfl)
 ·rw [open_ ((show ∀ a ∈ ([[108, 105]] : List (List UInt8)), a ∉ leafN by decide +kernel) nm c), decide_eq_false ((show ∀ a ∈ ([[108, 105]] : List (List UInt8)), a ≠ [112, 114, 101] by decide +kernel) nm c)]
  obtain ⟨f', g, fr', he, hs⟩ := hc.li (List.mem_singleton.1 c)
  cases he
  obtain ⟨m, R, rfl⟩ : ∃ m R', R = m :: R' := by
   have := h.st.len.1
   cases R with
   | nil => simp at this
   | cons m R => exact ⟨m, R, rfl⟩
  simp only [List.length_cons] at hf
  exact opens_li h hM (by omega) hl nm c al ha hal hs (hc.nop (by rw [List.mem_singleton.1 c]; decide))
 ·rw [open_ ((show ∀ a ∈ ([[97]] : List (List UInt8)), a ∉ leafN by decide +kernel) nm c), decide_eq_false ((show ∀ a ∈ ([[97]] : List (List UInt8)), a ≠ [112, 114, 101] by decide +kernel) nm c)]
  exact opens_a h hM hf hl nm c al ha hal (by have := (hc.fmt ((show ∀ a ∈ ([[97]] : List (List UInt8)), a ∈ fmtN by decide +kernel) nm c)); rw [List.mem_singleton.1 c] at this; exact this)
 ·rw [open_ ((show ∀ a ∈ ([[99, 111, 100, 101], [101, 109], [115, 116, 114, 111, 110, 103]] : List (List UInt8)), a ∉ leafN by decide +kernel) nm c), decide_eq_false ((show ∀ a ∈ ([[99, 111, 100, 101], [101, 109], [115, 116, 114, 111, 110, 103]] : List (List UInt8)), a ≠ [112, 114, 101] by decide +kernel) nm c)]
  exact opens_fmt h hM hf hl nm c al ha hal (hc.fmt ((show ∀ a ∈ ([[99, 111, 100, 101], [101, 109], [115, 116, 114, 111, 110, 103]] : List (List UInt8)), a ∈ fmtN by decide +kernel) nm c))
 ·rw [open_ ((show ∀ a ∈ ([[115, 117, 98], [115, 117, 112]] : List (List UInt8)), a ∉ leafN by decide +kernel) nm c), decide_eq_false ((show ∀ a ∈ ([[115, 117, 98], [115, 117, 112]] : List (List UInt8)), a ≠ [112, 114, 101] by decide +kernel) nm c)]
  exact opens_sub h hM hf hl nm c al ha hal
theorem ends_calls (h : IsB w b t q N (n :: m :: R) (f :: g :: fr) sk) (hM : MOk q.M (n :: m :: R) (f :: g :: fr)) (hf : fr.length ≤ 700) (hn : f.nm ∈ endN) :
  Calls Tryz.prog 133 [.pointer (some ⟨b, 0, none⟩), T.tokV 2 f.nm T.nS []].toArray w (BPost w b t q (g.shut f :: fr) sk N.length (.tuple #[])) := by
 have cls : f.nm ∈ ([[111, 108], [117, 108], [98, 108, 111, 99, 107, 113, 117, 111, 116, 101]] : List (List UInt8)) ∨ f.nm ∈ ([[112, 114, 101]] : List (List UInt8)) ∨ f.nm ∈ ([[108, 105]] : List (List UInt8)) ∨ f.nm ∈ ([[112]] : List (List UInt8)) ∨ f.nm ∈ ([[104, 50], [104, 51], [104, 52], [104, 53], [104, 54]] : List (List UInt8)) ∨ f.nm ∈ ([[97], [99, 111, 100, 101], [101, 109], [115, 116, 114, 111, 110, 103]] : List (List UInt8)) ∨ f.nm ∈ ([[115, 117, 98], [115, 117, 112]] : List (List UInt8)) := by
  revert hn
  have : ∀ a ∈ endN, a ∈ ([[111, 108], [117, 108], [98, 108, 111, 99, 107, 113, 117, 111, 116, 101]] : List (List UInt8)) ∨ a ∈ ([[112, 114, 101]] : List (List UInt8)) ∨ a ∈ ([[108, 105]] : List (List UInt8)) ∨ a ∈ ([[112]] : List (List UInt8)) ∨ a ∈ ([[104, 50], [104, 51], [104, 52], [104, 53], [104, 54]] : List (List UInt8)) ∨ a ∈ ([[97], [99, 111, 100, 101], [101, 109], [115, 116, 114, 111, 110, 103]] : List (List UInt8)) ∨ a ∈ ([[115, 117, 98], [115, 117, 112]] : List (List UInt8)) := by decide +kernel
  exact this _
 rcases cls with c | c | c | c | c | c | c
 ·exact ends_block h hM hf c
 ·exact ends_pre h hM hf c
 ·exact ends_li h hM hf c
 ·exact ends_p h hM hf c
 ·exact ends_head h hM hf c
 ·exact ends_fmt h hM hf c
 ·exact ends_sub h hM hf c
theorem startK_calls {w : World} (k : Int) (nm tx ws : List UInt8) {va : Value} {al : List At} (ha : AttrS w va al) (hw : ws.length ≤ 1000) : Calls Tryz.prog 86 [T.tokV k nm va tx, .string (bs ws)].toArray w fun e w' => e = .returned (.bool (decide (k = 1 ∧ nm ∈ B.wd ws))) ∧ Chg w w' No := by
 obtain ⟨A, c, rfl, _⟩ := ha.form
 by_cases hk : k = 1
 ·subst hk
  refine (B.start1_calls nm tx ws hw).mono fun e w' hh => ?_
  have : decide (nm ∈ B.wd ws) = decide ((1 : Int) = 1 ∧ nm ∈ B.wd ws) := by simp
  rw [← this]; exact hh
 ·refine (B.start0_calls k nm tx ws hk hw).mono fun e w' hh => ?_
  rw [decide_eq_false (fun h => hk h.1)]; exact hh
theorem endK_calls {w : World} (k : Int) (nm tx ws : List UInt8) {va : Value} {al : List At} (ha : AttrS w va al) (hw : ws.length ≤ 1000) : Calls Tryz.prog 119 [T.tokV k nm va tx, .string (bs ws)].toArray w fun e w' => e = .returned (.bool (decide (k = 2 ∧ nm ∈ B.wd ws))) ∧ Chg w w' No := by
 obtain ⟨A, c, rfl, _⟩ := ha.form
 by_cases hk : k = 2
 ·subst hk
  refine (B.end1_calls nm tx ws hw).mono fun e w' hh => ?_
  have : decide (nm ∈ B.wd ws) = decide ((2 : Int) = 2 ∧ nm ∈ B.wd ws) := by simp
  rw [← this]; exact hh
 ·refine (B.end0_calls k nm tx ws hk hw).mono fun e w' hh => ?_
  rw [decide_eq_false (fun h => hk h.1)]; exact hh
theorem AttrS.nS (w : World) : AttrS w T.nS [] := AttrS.nil w
theorem body_start (h : IsB w b t q N (n :: R) (f :: fr) false) (hM : MOk q.M (n :: R) (f :: fr)) (hf : fr.length ≤ 700) (hl : N.length ≤ 1900000) (nm : List UInt8) (hn : nm ∈ startN) (al : List T.At) {va : Value} (ha : AttrS w va (encT al)) (hal : al.length ≤ 1000000) (hc : CondS nm (f :: fr)) :
  Calls Tryz.prog 96 [.pointer (some ⟨b, 0, none⟩), T.tokV 1 nm va []].toArray w (BPost w b t q (startF nm al (f :: fr)) (decide (nm = [112, 114, 101])) (N.length + 1) (.tuple #[])) := by
 obtain ⟨A0, c0, rfl, _⟩ := ha.form
 unfold T.tokV
 refine zCz 35 Tryz.func96 ?_
 refine zS (zR ?_)
 refine zBx rfl (fun w1 b3 hN1 => ?_)
 have h1 := h.no hN1.chg
 have hb := h1.blk
 have hb3 : Blk w1 b3 66 [.int .i64 1, .string (bs nm), .slice A0 (encT al).length c0, .bool false, .string (bs [])] := hN1.blk
 refine zN (zK (zS (zR (zfa rfl (zlB rfl ?_)))))
 refine zN (zK (zB (zS (zR (zCF rfl rfl rfl (zP rfl (zN (zK (zF rfl (zS (zR (zCT rfl rfl rfl (zP rfl (zN (zK (zT rfl (zR (zP rfl (zlA rfl ?_)))))))))))))))))))
 refine zCl rfl (opens_calls h1 hM hf hl nm hn al (ha.no hN1.chg) hal hc) ?_
 rintro _ wz hp
 obtain rfl := hp.1
 refine ⟨_, rfl, ?_⟩
 refine zN (zM ?_)
 exact zk_ret0 (.inl rfl) rfl (BPost.pre hN1.chg hp)
theorem body_end (h : IsB w b t q N (n :: m :: R) (f :: g :: fr) sk) (hM : MOk q.M (n :: m :: R) (f :: g :: fr)) (hf : fr.length ≤ 700) (hn : f.nm ∈ endN) :
  Calls Tryz.prog 96 [.pointer (some ⟨b, 0, none⟩), T.tokV 2 f.nm T.nS []].toArray w (BPost w b t q (g.shut f :: fr) sk N.length (.tuple #[])) := by
 unfold T.tokV
 refine zCz 35 Tryz.func96 ?_
 refine zS (zR ?_)
 refine zBx rfl (fun w1 b3 hN1 => ?_)
 have h1 := h.no hN1.chg
 have hb := h1.blk
 have hb3 : Blk w1 b3 66 [.int .i64 2, .string (bs f.nm), .slice none 0 0, .bool false, .string (bs [])] := hN1.blk
 refine zN (zK (zS (zR (zfa rfl (zlB rfl ?_)))))
 refine zN (zK (zB (zS (zR (zCF rfl rfl rfl (zP rfl (zN (zK (zF rfl (zS (zR (zCF rfl rfl rfl (zP rfl (zN (zK (zF rfl (zS (zR (zCT rfl rfl rfl (zP rfl (zN (zK (zT rfl (zR (zP rfl (zlA rfl ?_))))))))))))))))))))))))))
 refine zCl rfl (ends_calls h1 hM hf hn) ?_
 rintro _ wz hp
 obtain rfl := hp.1
 refine ⟨_, rfl, ?_⟩
 refine zN (zM ?_)
 exact zk_ret0 (.inl rfl) rfl (BPost.pre hN1.chg hp)
theorem body_text (h : IsB w b t q N (n :: R) (f :: fr) sk) (hM : MOk q.M (n :: R) (f :: fr)) (hf : fr.length ≤ 700) (hl : N.length ≤ 1900000) (v : List UInt8) (hv : v ≠ []) (h0 : 0 ∉ v) (hvl : v.length ≤ 10000000) (hlast : ∀ x, f.done.lastH = some x → x.kind ≠ 2) :
  Calls Tryz.prog 96 [.pointer (some ⟨b, 0, none⟩), T.tokV 3 [] T.nS v].toArray w (BPost w b t q (f.txt v :: fr) sk (N.length + 1) (.tuple #[])) := by
 unfold T.tokV
 refine zCz 35 Tryz.func96 ?_
 refine zS (zR ?_)
 refine zBx rfl (fun w1 b3 hN1 => ?_)
 have h1 := h.no hN1.chg
 have hb := h1.blk
 have hb3 : Blk w1 b3 66 [.int .i64 3, .string (bs []), .slice none 0 0, .bool false, .string (bs v)] := hN1.blk
 refine zN (zK (zS (zR (zfa rfl (zlB rfl ?_)))))
 refine zN (zK (zB (zS (zR (zCT rfl rfl rfl (zP rfl (zN (zK (zT rfl (zS (zR (zfa rfl (zlB rfl ?_)))))))))))))
 refine zCl rfl (T.drop0_calls v (show v.length ≤ 1000000000000 by omega) h0) ?_
 rintro _ u ⟨rfl, hu⟩
 obtain rfl := hu.symm
 refine ⟨_, rfl, ?_⟩
 refine zP rfl (zN (zK (zS (zR (zP rfl ?_)))))
 refine z_neL (r := []) (want_L rfl) (by decide) rfl rfl (fun _ => ?_) (fun hq => absurd hq hv)
 refine zN (zK (zT rfl (zS (zR (zP rfl (zP rfl (zfa rfl (zlB rfl ?_))))))))
 refine zCl rfl (rebuild_calls h1.st (by omega) hM) ?_
 rintro _ w2 ⟨rfl, hC2⟩
 refine ⟨_, rfl, ?_⟩
 have h2 := h1.no hC2
 have hb2 := h2.blk
 refine zN (zK (zR (zP rfl (zP rfl (zfa rfl (zlB rfl ?_))))))
 refine zP rfl ?_
 refine zCl rfl (sType_calls h2.st (by omega) (by omega) v hv hvl hlast) ?_
 rintro _ w3 hp
 obtain rfl := hp.1
 refine ⟨_, rfl, ?_⟩
 have hbp := BPost.pre (hN1.chg.no hC2) (hp.toB h2 (hM.rename rfl))
 refine zN (zM ?_)
 exact zk_ret0 (.inl rfl) rfl hbp
structure Plain (k : Int) (nm : List UInt8) : Prop where
 s2 : k = 1 → nm ∉ B.wd Y2
 e1 : k = 2 → nm ∉ B.wd Y1
 e3 : k = 2 → nm ∉ B.wd Y3
 e4 : k = 2 → nm ∉ B.wd Y4
theorem cell_of (h : IsB w b t q N R (f :: fr) sk) (hf : fr.length ≤ 900) (k : Int) (nm tx : List UInt8) (hp : Plain k nm) {va : Value} {al : List At} (ha : AttrS w va al) {fr2 : List FE} {sk2 : Bool} {n2 : Nat}
  (hbody : ∀ w', Chg w w' No → Calls Tryz.prog 96 [.pointer (some ⟨b, 0, none⟩), T.tokV k nm va tx].toArray w' (BPost w' b t q fr2 sk2 n2 (.tuple #[]))) :
  Calls Tryz.prog 91 [.pointer (some ⟨b, 0, none⟩), T.tokV k nm va tx].toArray w (BPost w b t q fr2 sk2 n2 (.tuple #[])) := by
 obtain ⟨A0, c0, rfl, _⟩ := ha.form
 have hst : ∀ {w' : World} (C : Chg w w' No) (ws : List UInt8), ws.length ≤ 1000 → (k = 1 → nm ∉ B.wd ws) → Calls Tryz.prog 86 [.agg [.int .i64 k, .string (bs nm), .slice A0 al.length c0, .bool false, .string (bs tx)].toArray, .string (bs ws)].toArray w' fun e w'' => e = .returned (.bool false) ∧ Chg w' w'' No := fun C ws h1 h2 => (startK_calls k nm tx ws (ha.no C) h1).mono fun e w'' hh => by
  rw [decide_eq_false (fun hx : k = 1 ∧ nm ∈ B.wd ws => h2 hx.1 hx.2)] at hh; exact hh
 have hen : ∀ {w' : World} (C : Chg w w' No) (ws : List UInt8), ws.length ≤ 1000 → (k = 2 → nm ∉ B.wd ws) → Calls Tryz.prog 119 [.agg [.int .i64 k, .string (bs nm), .slice A0 al.length c0, .bool false, .string (bs tx)].toArray, .string (bs ws)].toArray w' fun e w'' => e = .returned (.bool false) ∧ Chg w' w'' No := fun C ws h1 h2 => (endK_calls k nm tx ws (ha.no C) h1).mono fun e w'' hh => by
  rw [decide_eq_false (fun hx : k = 2 ∧ nm ∈ B.wd ws => h2 hx.1 hx.2)] at hh; exact hh
 unfold T.tokV at hbody ⊢
 refine zCz 44 Tryz.func91 ?_
 refine zS (zR ?_)
 refine zBx rfl (fun w1 b3 hN1 => ?_)
 have hb0 := h.blk
 have hb30 : Blk w1 b3 66 [.int .i64 k, .string (bs nm), .slice A0 al.length c0, .bool false, .string (bs tx)] := hN1.blk
 have hb := hb0.no hN1.chg
 refine zN (zK (zS ?_))
 refine zc_draw [] (fun w' => Chg w1 w' No ∧ Blk w' b 64 [.pointer (some ⟨t, 0, none⟩), .int .i64 0, .string ⟨#[]⟩, .bool sk] ∧ Blk w' b3 66 [.int .i64 k, .string (bs nm), .slice A0 al.length c0, .bool false, .string (bs tx)]) (.take 0 (.take 1 (.take 2 (.take 3 (.take 4 (.take 5 (.all1 6 (.all1 7 (.take 8 (.fin)))))))))) (by rfl) (by kernel_rfl) (by kernel_rfl) (fun w2 hC2 _ => ⟨?_, ?_⟩)
 ·exact ⟨hC2, hb.no hC2, hb30.no hC2⟩
 refine ztP rfl rfl (ztP rfl rfl (zRd rfl rfl (fun _ hS => r_fa rfl) ?_))
 refine zRd rfl rfl (fun _ hS => r_loadB rfl hS.2.1 (by rfl)) ?_
 refine zRd rfl rfl (fun _ hS => r_fa rfl) ?_
 refine zRd rfl rfl (fun _ hS => r_loadB rfl hS.2.2 (by rfl)) ?_
 refine zs_bs1 rfl (want_L rfl) (by decide) rfl (by rfl) (by rfl) (by decide) (by decide) (fun w3 cb hM3 => ?_)
 have C1 := hC2.no hM3.chg
 have hr : RdS w3 9 1 (.slice (some ⟨cb, 0, none⟩) 1 1) 1 (T.cellsS [nm]) := RdS.new hM3 rfl (T.cellsS_one _)
 refine ⟨⟨C1, hb.no C1, hb30.no C1⟩, ?_⟩
 refine zs_call rfl (want_L rfl) rfl (by decide) rfl (sHas_calls (h.no (hN1.chg.no C1)).st (by omega) (l := [nm]) hr (by simp) 4 (by decide)) ?_
 rintro _ w4 ⟨⟨y, rfl, _, _⟩, hC4⟩
 have C1 := C1.no hC4
 refine ⟨_, rfl, ⟨C1, hb.no C1, hb30.no C1⟩, ?_⟩
 have C := hN1.chg.no C1
 have hb3 := hb30.no C1
 refine ztP rfl rfl ?_
 refine zs_fin ?_
 refine zK (zB (zS (zR (zlA rfl ?_))))
 refine zCl rfl (hen C Y1 (by decide) hp.e1) ?_
 rintro _ w5 ⟨rfl, hC⟩
 refine ⟨_, rfl, ?_⟩
 have C := C.no hC
 have C1 := C1.no hC
 have hb3 := hb30.no C1
 refine zP rfl (zN (zK (zF rfl (zS (zR (zlA rfl ?_))))))
 refine zCl rfl (hst C Y2 (by decide) hp.s2) ?_
 rintro _ w6 ⟨rfl, hC⟩
 refine ⟨_, rfl, ?_⟩
 have C := C.no hC
 have C1 := C1.no hC
 have hb3 := hb30.no C1
 refine zP rfl (zlA rfl ?_)
 refine zCl rfl (hen C Y3 (by decide) hp.e3) ?_
 rintro _ w7 ⟨rfl, hC⟩
 refine ⟨_, rfl, ?_⟩
 have C := C.no hC
 have C1 := C1.no hC
 have hb3 := hb30.no C1
 refine zP rfl (zP rfl (zP rfl (zP rfl (zP rfl (zN (zK (zF rfl (zS (zR (zlA rfl ?_))))))))))
 refine zCl rfl (hen C Y4 (by decide) hp.e4) ?_
 rintro _ w8 ⟨rfl, hC⟩
 refine ⟨_, rfl, ?_⟩
 have C := C.no hC
 have C1 := C1.no hC
 have hb3 := hb30.no C1
 refine zP rfl (zN (zK (zF rfl (zR (zP rfl (zlA rfl ?_))))))
 refine zCl rfl (hbody _ C) ?_
 rintro _ w9 hpp
 obtain rfl := hpp.1
 refine ⟨_, rfl, ?_⟩
 refine zN (zM ?_)
 exact zk_ret0 (.inl rfl) rfl (BPost.pre C hpp)
theorem html_body (h : IsB w b t q N R (f :: fr) sk) (hf : fr.length ≤ 900) (k : Int) (nm tx : List UInt8) {va : Value} {al : List At} (ha : AttrS w va al) {fr2 : List FE} {sk2 : Bool} {n2 : Nat} (hgr : lastN grN (f :: fr) = [])
  (hbody : ∀ w', Chg w w' No → Calls Tryz.prog 96 [.pointer (some ⟨b, 0, none⟩), T.tokV k nm va tx].toArray w' (BPost w' b t q fr2 sk2 n2 (.tuple #[]))) :
  Calls Tryz.prog 54 [.pointer (some ⟨b, 0, none⟩), T.tokV k nm va tx].toArray w (BPost w b t q fr2 sk2 n2 (.tuple #[])) := by
 obtain ⟨A0, c0, rfl, _⟩ := ha.form
 have hlen := h.st.len.1
 simp only [List.length_cons] at hlen
 unfold T.tokV at hbody ⊢
 refine zCz 65 Tryz.func54 ?_
 refine zS (zR ?_)
 refine zBx rfl (fun w1 b3 hN1 => ?_)
 have h1 := h.no hN1.chg
 have hb0 := h1.blk
 have hb30 : Blk w1 b3 66 [.int .i64 k, .string (bs nm), .slice A0 al.length c0, .bool false, .string (bs tx)] := hN1.blk
 have hbt0 := h1.st.site.blk
 obtain ⟨bb, o, c, hv, hc, hcc⟩ := RdS.some h1.st.site.row.rd (h1.st.pos (by simp))
 rw [List.length_reverse, hlen] at hv hc
 rw [hv] at hbt0
 refine zN (zK (zS (zR (zP rfl (zP rfl (zfa rfl (zlB rfl ?_)))))))
 refine z_bsE (T.cellsS grN) (want_L rfl) (by decide) rfl (by decide) (by decide) (by kernel_rfl) (fun w2 cb hM2 => ?_)
 have hr : RdS w2 9 1 (.slice (some ⟨cb, 0, none⟩) 9 9) grN.length (T.cellsS grN) := RdS.new hM2 rfl (T.cellsS_one _)
 have C := hM2.chg
 refine zCl rfl ((h1.no C).st.lastI_calls (by simp only [List.length_cons]; omega) (by simp) hr (by decide)) ?_
 rintro _ w3 ⟨rfl, hC⟩
 refine ⟨_, rfl, ?_⟩
 have C := C.no hC
 have hb := hb0.no C
 have hb3 := hb30.no C
 have hbt := hbt0.no C
 rcases lastF_cases grN (f :: fr) with ⟨e1, e2⟩ | ⟨j, e1, e2, e3, e4, e5⟩
 rotate_left
 ·rw [hgr] at e5
  exact absurd e5 (by decide)
 rw [e1]
 refine zP rfl (zN (zK (zS (zR (zP rfl (zN (zK (zS (zS (zR (zP rfl (zCF rfl rfl rfl (zN (zK (zF rfl (zA (zK (zS (zR (zP rfl (zN (zK (zB (zS (zS (zR ?_))))))))))))))))))))))))))
 refine zEq (l := []) rfl rfl (fun hq => absurd hq (by decide)) (fun _ => ?_)
 refine zP rfl (zN (zK (zF rfl (zR ?_))))
 refine zEq (l := []) rfl rfl (fun hq => absurd hq (by decide)) (fun _ => ?_)
 refine zP rfl (zN (zK (zF rfl (zS (zR ?_)))))
 refine zEq (l := []) rfl rfl (fun hq => absurd hq (by decide)) (fun _ => ?_)
 refine zP rfl (zN (zK (zF rfl (zS (zR ?_)))))
 refine zEq (l := []) rfl rfl (fun hq => absurd hq (by decide)) (fun _ => ?_)
 refine zP rfl (zN (zK (zF rfl (zS (zS (zR ?_))))))
 refine zEq (l := []) rfl rfl (fun hq => absurd hq (by decide)) (fun _ => ?_)
 refine zP rfl (zN (zK (zF rfl (zS (zR ?_)))))
 refine zEq (l := []) rfl rfl (fun hq => absurd hq (by decide)) (fun _ => ?_)
 refine zP rfl (zN (zK (zF rfl (zR ?_))))
 refine zEq (l := []) rfl rfl (fun hq => absurd hq (by decide)) (fun _ => ?_)
 refine zP rfl (zN (zK (zF rfl (zS (zR ?_)))))
 refine zEq (l := []) rfl rfl (fun hq => absurd hq (by decide)) (fun _ => ?_)
 refine zP rfl (zN (zK (zF rfl (zR (zP rfl (zlA rfl ?_))))))
 refine zCl rfl (hbody _ (hN1.chg.no C)) ?_
 rintro _ w9 hpp
 obtain rfl := hpp.1
 refine ⟨_, rfl, ?_⟩
 refine zN (zM ?_)
 exact zk_ret0 (.inl rfl) rfl (BPost.pre (hN1.chg.no C) hpp)
theorem html_td (h : IsB w b t q N R (f :: fr) sk) (hf : fr.length ≤ 900) (k : Int) (nm tx : List UInt8) {va : Value} {al : List At} (ha : AttrS w va al) {fr2 : List FE} {sk2 : Bool} {n2 : Nat} (hgr : lastN grN (f :: fr) = [116, 100])
  (hbody : ∀ w', Chg w w' No → Calls Tryz.prog 91 [.pointer (some ⟨b, 0, none⟩), T.tokV k nm va tx].toArray w' (BPost w' b t q fr2 sk2 n2 (.tuple #[]))) :
  Calls Tryz.prog 54 [.pointer (some ⟨b, 0, none⟩), T.tokV k nm va tx].toArray w (BPost w b t q fr2 sk2 n2 (.tuple #[])) := by
 obtain ⟨A0, c0, rfl, _⟩ := ha.form
 have hlen := h.st.len.1
 simp only [List.length_cons] at hlen
 unfold T.tokV at hbody ⊢
 refine zCz 65 Tryz.func54 ?_
 refine zS (zR ?_)
 refine zBx rfl (fun w1 b3 hN1 => ?_)
 have h1 := h.no hN1.chg
 have hb0 := h1.blk
 have hb30 : Blk w1 b3 66 [.int .i64 k, .string (bs nm), .slice A0 al.length c0, .bool false, .string (bs tx)] := hN1.blk
 have hbt0 := h1.st.site.blk
 obtain ⟨bb, o, c, hv, hc, hcc⟩ := RdS.some h1.st.site.row.rd (h1.st.pos (by simp))
 rw [List.length_reverse, hlen] at hv hc
 rw [hv] at hbt0
 refine zN (zK (zS (zR (zP rfl (zP rfl (zfa rfl (zlB rfl ?_)))))))
 refine z_bsE (T.cellsS grN) (want_L rfl) (by decide) rfl (by decide) (by decide) (by kernel_rfl) (fun w2 cb hM2 => ?_)
 have hr : RdS w2 9 1 (.slice (some ⟨cb, 0, none⟩) 9 9) grN.length (T.cellsS grN) := RdS.new hM2 rfl (T.cellsS_one _)
 have C := hM2.chg
 refine zCl rfl ((h1.no C).st.lastI_calls (by simp only [List.length_cons]; omega) (by simp) hr (by decide)) ?_
 rintro _ w3 ⟨rfl, hC⟩
 refine ⟨_, rfl, ?_⟩
 have C := C.no hC
 have hb := hb0.no C
 have hb3 := hb30.no C
 have hbt := hbt0.no C
 rcases lastF_cases grN (f :: fr) with ⟨e1, e2⟩ | ⟨j, e1, e2, e3, e4, e5⟩
 ·rw [hgr] at e2
  cases e2
 rw [e1]
 rw [hgr] at e4
 simp only [List.length_cons] at e3
 have hjR : j < R.reverse.length := by rw [List.length_reverse]; omega
 have hcell := hcc j _ (intC_get _ j hjR)
 obtain ⟨al2, hd⟩ := h.st.rowN.hd j hjR
 have hnl := h.st.rowN.lt j hjR
 obtain ⟨nj, hnj⟩ : ∃ nj, nj = R.reverse.getD j 0 := ⟨_, rfl⟩
 rw [← hnj] at hcell hd hnl
 rw [e4] at hd
 have hx : nodeOf N (nj : Nat) = N.getD nj n0 := if_pos ⟨by omega, by omega⟩
 have k3 : (nodeOf N (nj : Nat)).name = bs [116, 100] := by rw [hx]; exact congrArg Hd.name hd
 refine zP rfl (zN (zK (zS (zR (zP rfl (zN (zK (zS (zS (zR (zP rfl (zCT rfl rfl rfl (zN (zK (zT rfl ?_)))))))))))))))
 refine zc_draw [] (fun w' => Chg w1 w' No ∧ Blk w' b 64 [.pointer (some ⟨t, 0, none⟩), .int .i64 0, .string ⟨#[]⟩, .bool sk] ∧ Blk w' t 74 [.pointer (some ⟨q.r.pd, 0, none⟩), .pointer (some ⟨q.r.pm, 0, none⟩), .slice (some ⟨bb, o, none⟩) (fr.length + 1) c, .bool false]) (.take 0 (.take 1 (.take 2 (.take 3 (.take 4 (.take 5 (.take 6 (.take 7 (.take 8 (.take 9 (.take 10 (.take 11 (.take 12 (.take 13 (.take 14 (.take 15 (.take 16 (.all1 17 (.take 18 (.take 19 (.fin))))))))))))))))))))) (by rfl) (by kernel_rfl) (by kernel_rfl) (fun w4 hC4 _ => ⟨?_, ?_⟩)
 ·exact ⟨C.no hC4, hb.no hC4, hbt.no hC4⟩
 have C := C.no hC4
 refine ztP rfl rfl (ztP rfl rfl (zRd rfl rfl (fun _ hS => r_fa rfl) ?_))
 refine zRd rfl rfl (fun _ hS => r_loadB rfl hS.2.1 (by rfl)) ?_
 refine ztP rfl rfl (zRd rfl rfl (fun _ hS => r_fa rfl) ?_)
 refine zRd rfl rfl (fun _ hS => r_loadB rfl hS.2.2 (by rfl)) ?_
 refine ztP rfl rfl (ztP rfl rfl (zRd rfl rfl (fun _ hS => r_fa rfl) ?_))
 refine zRd rfl rfl (fun _ hS => r_loadB rfl hS.2.1 (by rfl)) ?_
 refine ztP rfl rfl (zRd rfl rfl (fun _ hS => r_fa rfl) ?_)
 refine zRd rfl rfl (fun _ hS => r_loadB rfl hS.2.2 (by rfl)) ?_
 refine ztP rfl rfl (zRd rfl rfl (fun _ hS => r_ia rfl rfl (by omega) (by omega)) ?_)
 refine zRd rfl rfl (fun _ hS => r_load1 rfl (cell_at (cell_no hS.1 hcell) (by omega))) ?_
 refine zs_call rfl (want_L rfl) rfl (by decide) rfl (rNode_calls (h1.no C).st.site.doc (nj : Nat)) ?_
 rintro _ w5 ⟨va5, rfl, hA5, hC5⟩
 have C := C.no hC5
 refine ⟨_, rfl, ⟨C, hb0.no C, hbt0.no C⟩, ?_⟩
 rw [k3]
 have hb3 := hb30.no C
 refine zRd rfl rfl (fun _ hS => r_field rfl (fld72 _ _ _ _ _ _ _ _)) ?_
 refine ztP rfl rfl ?_
 refine zs_fin ?_
 refine zK (zS (zR (zP rfl (zN (zK (zB (zS (zS (zR ?_)))))))))
 refine zEq (l := [116, 100]) rfl rfl (fun _ => ?_) (fun hq => absurd rfl hq)
 refine zP rfl (zN (zK (zT rfl (zA (zK (zT rfl (zR (zP rfl (zlA rfl ?_)))))))))
 refine zCl rfl (hbody _ (hN1.chg.no C)) ?_
 rintro _ w9 hpp
 obtain rfl := hpp.1
 refine ⟨_, rfl, ?_⟩
 refine zN (zM ?_)
 exact zk_ret0 (.inl rfl) rfl (BPost.pre (hN1.chg.no C) hpp)
theorem html_th (h : IsB w b t q N R (f :: fr) sk) (hf : fr.length ≤ 900) (k : Int) (nm tx : List UInt8) {va : Value} {al : List At} (ha : AttrS w va al) {fr2 : List FE} {sk2 : Bool} {n2 : Nat} (hgr : lastN grN (f :: fr) = [116, 104])
  (hbody : ∀ w', Chg w w' No → Calls Tryz.prog 91 [.pointer (some ⟨b, 0, none⟩), T.tokV k nm va tx].toArray w' (BPost w' b t q fr2 sk2 n2 (.tuple #[]))) :
  Calls Tryz.prog 54 [.pointer (some ⟨b, 0, none⟩), T.tokV k nm va tx].toArray w (BPost w b t q fr2 sk2 n2 (.tuple #[])) := by
 obtain ⟨A0, c0, rfl, _⟩ := ha.form
 have hlen := h.st.len.1
 simp only [List.length_cons] at hlen
 unfold T.tokV at hbody ⊢
 refine zCz 65 Tryz.func54 ?_
 refine zS (zR ?_)
 refine zBx rfl (fun w1 b3 hN1 => ?_)
 have h1 := h.no hN1.chg
 have hb0 := h1.blk
 have hb30 : Blk w1 b3 66 [.int .i64 k, .string (bs nm), .slice A0 al.length c0, .bool false, .string (bs tx)] := hN1.blk
 have hbt0 := h1.st.site.blk
 obtain ⟨bb, o, c, hv, hc, hcc⟩ := RdS.some h1.st.site.row.rd (h1.st.pos (by simp))
 rw [List.length_reverse, hlen] at hv hc
 rw [hv] at hbt0
 refine zN (zK (zS (zR (zP rfl (zP rfl (zfa rfl (zlB rfl ?_)))))))
 refine z_bsE (T.cellsS grN) (want_L rfl) (by decide) rfl (by decide) (by decide) (by kernel_rfl) (fun w2 cb hM2 => ?_)
 have hr : RdS w2 9 1 (.slice (some ⟨cb, 0, none⟩) 9 9) grN.length (T.cellsS grN) := RdS.new hM2 rfl (T.cellsS_one _)
 have C := hM2.chg
 refine zCl rfl ((h1.no C).st.lastI_calls (by simp only [List.length_cons]; omega) (by simp) hr (by decide)) ?_
 rintro _ w3 ⟨rfl, hC⟩
 refine ⟨_, rfl, ?_⟩
 have C := C.no hC
 have hb := hb0.no C
 have hb3 := hb30.no C
 have hbt := hbt0.no C
 rcases lastF_cases grN (f :: fr) with ⟨e1, e2⟩ | ⟨j, e1, e2, e3, e4, e5⟩
 ·rw [hgr] at e2
  cases e2
 rw [e1]
 rw [hgr] at e4
 simp only [List.length_cons] at e3
 have hjR : j < R.reverse.length := by rw [List.length_reverse]; omega
 have hcell := hcc j _ (intC_get _ j hjR)
 obtain ⟨al2, hd⟩ := h.st.rowN.hd j hjR
 have hnl := h.st.rowN.lt j hjR
 obtain ⟨nj, hnj⟩ : ∃ nj, nj = R.reverse.getD j 0 := ⟨_, rfl⟩
 rw [← hnj] at hcell hd hnl
 rw [e4] at hd
 have hx : nodeOf N (nj : Nat) = N.getD nj n0 := if_pos ⟨by omega, by omega⟩
 have k3 : (nodeOf N (nj : Nat)).name = bs [116, 104] := by rw [hx]; exact congrArg Hd.name hd
 refine zP rfl (zN (zK (zS (zR (zP rfl (zN (zK (zS (zS (zR (zP rfl (zCT rfl rfl rfl (zN (zK (zT rfl ?_)))))))))))))))
 refine zc_draw [] (fun w' => Chg w1 w' No ∧ Blk w' b 64 [.pointer (some ⟨t, 0, none⟩), .int .i64 0, .string ⟨#[]⟩, .bool sk] ∧ Blk w' t 74 [.pointer (some ⟨q.r.pd, 0, none⟩), .pointer (some ⟨q.r.pm, 0, none⟩), .slice (some ⟨bb, o, none⟩) (fr.length + 1) c, .bool false]) (.take 0 (.take 1 (.take 2 (.take 3 (.take 4 (.take 5 (.take 6 (.take 7 (.take 8 (.take 9 (.take 10 (.take 11 (.take 12 (.take 13 (.take 14 (.take 15 (.take 16 (.all1 17 (.take 18 (.take 19 (.fin))))))))))))))))))))) (by rfl) (by kernel_rfl) (by kernel_rfl) (fun w4 hC4 _ => ⟨?_, ?_⟩)
 ·exact ⟨C.no hC4, hb.no hC4, hbt.no hC4⟩
 have C := C.no hC4
 refine ztP rfl rfl (ztP rfl rfl (zRd rfl rfl (fun _ hS => r_fa rfl) ?_))
 refine zRd rfl rfl (fun _ hS => r_loadB rfl hS.2.1 (by rfl)) ?_
 refine ztP rfl rfl (zRd rfl rfl (fun _ hS => r_fa rfl) ?_)
 refine zRd rfl rfl (fun _ hS => r_loadB rfl hS.2.2 (by rfl)) ?_
 refine ztP rfl rfl (ztP rfl rfl (zRd rfl rfl (fun _ hS => r_fa rfl) ?_))
 refine zRd rfl rfl (fun _ hS => r_loadB rfl hS.2.1 (by rfl)) ?_
 refine ztP rfl rfl (zRd rfl rfl (fun _ hS => r_fa rfl) ?_)
 refine zRd rfl rfl (fun _ hS => r_loadB rfl hS.2.2 (by rfl)) ?_
 refine ztP rfl rfl (zRd rfl rfl (fun _ hS => r_ia rfl rfl (by omega) (by omega)) ?_)
 refine zRd rfl rfl (fun _ hS => r_load1 rfl (cell_at (cell_no hS.1 hcell) (by omega))) ?_
 refine zs_call rfl (want_L rfl) rfl (by decide) rfl (rNode_calls (h1.no C).st.site.doc (nj : Nat)) ?_
 rintro _ w5 ⟨va5, rfl, hA5, hC5⟩
 have C := C.no hC5
 refine ⟨_, rfl, ⟨C, hb0.no C, hbt0.no C⟩, ?_⟩
 rw [k3]
 have hb3 := hb30.no C
 refine zRd rfl rfl (fun _ hS => r_field rfl (fld72 _ _ _ _ _ _ _ _)) ?_
 refine ztP rfl rfl ?_
 refine zs_fin ?_
 refine zK (zS (zR (zP rfl (zN (zK (zB (zS (zS (zR ?_)))))))))
 refine zEq (l := [116, 104]) rfl rfl (fun hq => absurd hq (by decide)) (fun _ => ?_)
 refine zP rfl (zN (zK (zF rfl (zR ?_))))
 refine zEq (l := [116, 104]) rfl rfl (fun _ => ?_) (fun hq => absurd rfl hq)
 refine zP rfl (zN (zK (zT rfl (zR (zP rfl (zlA rfl ?_))))))
 refine zCl rfl (hbody _ (hN1.chg.no C)) ?_
 rintro _ w9 hpp
 obtain rfl := hpp.1
 refine ⟨_, rfl, ?_⟩
 refine zN (zM ?_)
 exact zk_ret0 (.inl rfl) rfl (BPost.pre (hN1.chg.no C) hpp)
theorem html_table (h : IsB w b t q N R (f :: fr) sk) (hf : fr.length ≤ 900) (k : Int) (nm tx : List UInt8) {va : Value} {al : List At} (ha : AttrS w va al) {fr2 : List FE} {sk2 : Bool} {n2 : Nat} (hgr : lastN grN (f :: fr) = [116, 97, 98, 108, 101])
  (hbody : ∀ w', Chg w w' No → Calls Tryz.prog 93 [.pointer (some ⟨b, 0, none⟩), T.tokV k nm va tx].toArray w' (BPost w' b t q fr2 sk2 n2 (.tuple #[]))) :
  Calls Tryz.prog 54 [.pointer (some ⟨b, 0, none⟩), T.tokV k nm va tx].toArray w (BPost w b t q fr2 sk2 n2 (.tuple #[])) := by
 obtain ⟨A0, c0, rfl, _⟩ := ha.form
 have hlen := h.st.len.1
 simp only [List.length_cons] at hlen
 unfold T.tokV at hbody ⊢
 refine zCz 65 Tryz.func54 ?_
 refine zS (zR ?_)
 refine zBx rfl (fun w1 b3 hN1 => ?_)
 have h1 := h.no hN1.chg
 have hb0 := h1.blk
 have hb30 : Blk w1 b3 66 [.int .i64 k, .string (bs nm), .slice A0 al.length c0, .bool false, .string (bs tx)] := hN1.blk
 have hbt0 := h1.st.site.blk
 obtain ⟨bb, o, c, hv, hc, hcc⟩ := RdS.some h1.st.site.row.rd (h1.st.pos (by simp))
 rw [List.length_reverse, hlen] at hv hc
 rw [hv] at hbt0
 refine zN (zK (zS (zR (zP rfl (zP rfl (zfa rfl (zlB rfl ?_)))))))
 refine z_bsE (T.cellsS grN) (want_L rfl) (by decide) rfl (by decide) (by decide) (by kernel_rfl) (fun w2 cb hM2 => ?_)
 have hr : RdS w2 9 1 (.slice (some ⟨cb, 0, none⟩) 9 9) grN.length (T.cellsS grN) := RdS.new hM2 rfl (T.cellsS_one _)
 have C := hM2.chg
 refine zCl rfl ((h1.no C).st.lastI_calls (by simp only [List.length_cons]; omega) (by simp) hr (by decide)) ?_
 rintro _ w3 ⟨rfl, hC⟩
 refine ⟨_, rfl, ?_⟩
 have C := C.no hC
 have hb := hb0.no C
 have hb3 := hb30.no C
 have hbt := hbt0.no C
 rcases lastF_cases grN (f :: fr) with ⟨e1, e2⟩ | ⟨j, e1, e2, e3, e4, e5⟩
 ·rw [hgr] at e2
  cases e2
 rw [e1]
 rw [hgr] at e4
 simp only [List.length_cons] at e3
 have hjR : j < R.reverse.length := by rw [List.length_reverse]; omega
 have hcell := hcc j _ (intC_get _ j hjR)
 obtain ⟨al2, hd⟩ := h.st.rowN.hd j hjR
 have hnl := h.st.rowN.lt j hjR
 obtain ⟨nj, hnj⟩ : ∃ nj, nj = R.reverse.getD j 0 := ⟨_, rfl⟩
 rw [← hnj] at hcell hd hnl
 rw [e4] at hd
 have hx : nodeOf N (nj : Nat) = N.getD nj n0 := if_pos ⟨by omega, by omega⟩
 have k3 : (nodeOf N (nj : Nat)).name = bs [116, 97, 98, 108, 101] := by rw [hx]; exact congrArg Hd.name hd
 refine zP rfl (zN (zK (zS (zR (zP rfl (zN (zK (zS (zS (zR (zP rfl (zCT rfl rfl rfl (zN (zK (zT rfl ?_)))))))))))))))
 refine zc_draw [] (fun w' => Chg w1 w' No ∧ Blk w' b 64 [.pointer (some ⟨t, 0, none⟩), .int .i64 0, .string ⟨#[]⟩, .bool sk] ∧ Blk w' t 74 [.pointer (some ⟨q.r.pd, 0, none⟩), .pointer (some ⟨q.r.pm, 0, none⟩), .slice (some ⟨bb, o, none⟩) (fr.length + 1) c, .bool false]) (.take 0 (.take 1 (.take 2 (.take 3 (.take 4 (.take 5 (.take 6 (.take 7 (.take 8 (.take 9 (.take 10 (.take 11 (.take 12 (.take 13 (.take 14 (.take 15 (.take 16 (.all1 17 (.take 18 (.take 19 (.fin))))))))))))))))))))) (by rfl) (by kernel_rfl) (by kernel_rfl) (fun w4 hC4 _ => ⟨?_, ?_⟩)
 ·exact ⟨C.no hC4, hb.no hC4, hbt.no hC4⟩
 have C := C.no hC4
 refine ztP rfl rfl (ztP rfl rfl (zRd rfl rfl (fun _ hS => r_fa rfl) ?_))
 refine zRd rfl rfl (fun _ hS => r_loadB rfl hS.2.1 (by rfl)) ?_
 refine ztP rfl rfl (zRd rfl rfl (fun _ hS => r_fa rfl) ?_)
 refine zRd rfl rfl (fun _ hS => r_loadB rfl hS.2.2 (by rfl)) ?_
 refine ztP rfl rfl (ztP rfl rfl (zRd rfl rfl (fun _ hS => r_fa rfl) ?_))
 refine zRd rfl rfl (fun _ hS => r_loadB rfl hS.2.1 (by rfl)) ?_
 refine ztP rfl rfl (zRd rfl rfl (fun _ hS => r_fa rfl) ?_)
 refine zRd rfl rfl (fun _ hS => r_loadB rfl hS.2.2 (by rfl)) ?_
 refine ztP rfl rfl (zRd rfl rfl (fun _ hS => r_ia rfl rfl (by omega) (by omega)) ?_)
 refine zRd rfl rfl (fun _ hS => r_load1 rfl (cell_at (cell_no hS.1 hcell) (by omega))) ?_
 refine zs_call rfl (want_L rfl) rfl (by decide) rfl (rNode_calls (h1.no C).st.site.doc (nj : Nat)) ?_
 rintro _ w5 ⟨va5, rfl, hA5, hC5⟩
 have C := C.no hC5
 refine ⟨_, rfl, ⟨C, hb0.no C, hbt0.no C⟩, ?_⟩
 rw [k3]
 have hb3 := hb30.no C
 refine zRd rfl rfl (fun _ hS => r_field rfl (fld72 _ _ _ _ _ _ _ _)) ?_
 refine ztP rfl rfl ?_
 refine zs_fin ?_
 refine zK (zS (zR (zP rfl (zN (zK (zB (zS (zS (zR ?_)))))))))
 refine zEq (l := [116, 97, 98, 108, 101]) rfl rfl (fun hq => absurd hq (by decide)) (fun _ => ?_)
 refine zP rfl (zN (zK (zF rfl (zR ?_))))
 refine zEq (l := [116, 97, 98, 108, 101]) rfl rfl (fun hq => absurd hq (by decide)) (fun _ => ?_)
 refine zP rfl (zN (zK (zF rfl (zS (zR ?_)))))
 refine zEq (l := [116, 97, 98, 108, 101]) rfl rfl (fun hq => absurd hq (by decide)) (fun _ => ?_)
 refine zP rfl (zN (zK (zF rfl (zS (zR ?_)))))
 refine zEq (l := [116, 97, 98, 108, 101]) rfl rfl (fun _ => ?_) (fun hq => absurd rfl hq)
 refine zP rfl (zN (zK (zT rfl (zR (zP rfl (zlA rfl ?_))))))
 refine zCl rfl (hbody _ (hN1.chg.no C)) ?_
 rintro _ w9 hpp
 obtain rfl := hpp.1
 refine ⟨_, rfl, ?_⟩
 refine zN (zM ?_)
 exact zk_ret0 (.inl rfl) rfl (BPost.pre (hN1.chg.no C) hpp)
theorem html_tbody (h : IsB w b t q N R (f :: fr) sk) (hf : fr.length ≤ 900) (k : Int) (nm tx : List UInt8) {va : Value} {al : List At} (ha : AttrS w va al) {fr2 : List FE} {sk2 : Bool} {n2 : Nat} (hgr : lastN grN (f :: fr) = [116, 98, 111, 100, 121])
  (hbody : ∀ w', Chg w w' No → Calls Tryz.prog 94 [.pointer (some ⟨b, 0, none⟩), T.tokV k nm va tx].toArray w' (BPost w' b t q fr2 sk2 n2 (.tuple #[]))) :
  Calls Tryz.prog 54 [.pointer (some ⟨b, 0, none⟩), T.tokV k nm va tx].toArray w (BPost w b t q fr2 sk2 n2 (.tuple #[])) := by
 obtain ⟨A0, c0, rfl, _⟩ := ha.form
 have hlen := h.st.len.1
 simp only [List.length_cons] at hlen
 unfold T.tokV at hbody ⊢
 refine zCz 65 Tryz.func54 ?_
 refine zS (zR ?_)
 refine zBx rfl (fun w1 b3 hN1 => ?_)
 have h1 := h.no hN1.chg
 have hb0 := h1.blk
 have hb30 : Blk w1 b3 66 [.int .i64 k, .string (bs nm), .slice A0 al.length c0, .bool false, .string (bs tx)] := hN1.blk
 have hbt0 := h1.st.site.blk
 obtain ⟨bb, o, c, hv, hc, hcc⟩ := RdS.some h1.st.site.row.rd (h1.st.pos (by simp))
 rw [List.length_reverse, hlen] at hv hc
 rw [hv] at hbt0
 refine zN (zK (zS (zR (zP rfl (zP rfl (zfa rfl (zlB rfl ?_)))))))
 refine z_bsE (T.cellsS grN) (want_L rfl) (by decide) rfl (by decide) (by decide) (by kernel_rfl) (fun w2 cb hM2 => ?_)
 have hr : RdS w2 9 1 (.slice (some ⟨cb, 0, none⟩) 9 9) grN.length (T.cellsS grN) := RdS.new hM2 rfl (T.cellsS_one _)
 have C := hM2.chg
 refine zCl rfl ((h1.no C).st.lastI_calls (by simp only [List.length_cons]; omega) (by simp) hr (by decide)) ?_
 rintro _ w3 ⟨rfl, hC⟩
 refine ⟨_, rfl, ?_⟩
 have C := C.no hC
 have hb := hb0.no C
 have hb3 := hb30.no C
 have hbt := hbt0.no C
 rcases lastF_cases grN (f :: fr) with ⟨e1, e2⟩ | ⟨j, e1, e2, e3, e4, e5⟩
 ·rw [hgr] at e2
  cases e2
 rw [e1]
 rw [hgr] at e4
 simp only [List.length_cons] at e3
 have hjR : j < R.reverse.length := by rw [List.length_reverse]; omega
 have hcell := hcc j _ (intC_get _ j hjR)
 obtain ⟨al2, hd⟩ := h.st.rowN.hd j hjR
 have hnl := h.st.rowN.lt j hjR
 obtain ⟨nj, hnj⟩ : ∃ nj, nj = R.reverse.getD j 0 := ⟨_, rfl⟩
 rw [← hnj] at hcell hd hnl
 rw [e4] at hd
 have hx : nodeOf N (nj : Nat) = N.getD nj n0 := if_pos ⟨by omega, by omega⟩
 have k3 : (nodeOf N (nj : Nat)).name = bs [116, 98, 111, 100, 121] := by rw [hx]; exact congrArg Hd.name hd
 refine zP rfl (zN (zK (zS (zR (zP rfl (zN (zK (zS (zS (zR (zP rfl (zCT rfl rfl rfl (zN (zK (zT rfl ?_)))))))))))))))
 refine zc_draw [] (fun w' => Chg w1 w' No ∧ Blk w' b 64 [.pointer (some ⟨t, 0, none⟩), .int .i64 0, .string ⟨#[]⟩, .bool sk] ∧ Blk w' t 74 [.pointer (some ⟨q.r.pd, 0, none⟩), .pointer (some ⟨q.r.pm, 0, none⟩), .slice (some ⟨bb, o, none⟩) (fr.length + 1) c, .bool false]) (.take 0 (.take 1 (.take 2 (.take 3 (.take 4 (.take 5 (.take 6 (.take 7 (.take 8 (.take 9 (.take 10 (.take 11 (.take 12 (.take 13 (.take 14 (.take 15 (.take 16 (.all1 17 (.take 18 (.take 19 (.fin))))))))))))))))))))) (by rfl) (by kernel_rfl) (by kernel_rfl) (fun w4 hC4 _ => ⟨?_, ?_⟩)
 ·exact ⟨C.no hC4, hb.no hC4, hbt.no hC4⟩
 have C := C.no hC4
 refine ztP rfl rfl (ztP rfl rfl (zRd rfl rfl (fun _ hS => r_fa rfl) ?_))
 refine zRd rfl rfl (fun _ hS => r_loadB rfl hS.2.1 (by rfl)) ?_
 refine ztP rfl rfl (zRd rfl rfl (fun _ hS => r_fa rfl) ?_)
 refine zRd rfl rfl (fun _ hS => r_loadB rfl hS.2.2 (by rfl)) ?_
 refine ztP rfl rfl (ztP rfl rfl (zRd rfl rfl (fun _ hS => r_fa rfl) ?_))
 refine zRd rfl rfl (fun _ hS => r_loadB rfl hS.2.1 (by rfl)) ?_
 refine ztP rfl rfl (zRd rfl rfl (fun _ hS => r_fa rfl) ?_)
 refine zRd rfl rfl (fun _ hS => r_loadB rfl hS.2.2 (by rfl)) ?_
 refine ztP rfl rfl (zRd rfl rfl (fun _ hS => r_ia rfl rfl (by omega) (by omega)) ?_)
 refine zRd rfl rfl (fun _ hS => r_load1 rfl (cell_at (cell_no hS.1 hcell) (by omega))) ?_
 refine zs_call rfl (want_L rfl) rfl (by decide) rfl (rNode_calls (h1.no C).st.site.doc (nj : Nat)) ?_
 rintro _ w5 ⟨va5, rfl, hA5, hC5⟩
 have C := C.no hC5
 refine ⟨_, rfl, ⟨C, hb0.no C, hbt0.no C⟩, ?_⟩
 rw [k3]
 have hb3 := hb30.no C
 refine zRd rfl rfl (fun _ hS => r_field rfl (fld72 _ _ _ _ _ _ _ _)) ?_
 refine ztP rfl rfl ?_
 refine zs_fin ?_
 refine zK (zS (zR (zP rfl (zN (zK (zB (zS (zS (zR ?_)))))))))
 refine zEq (l := [116, 98, 111, 100, 121]) rfl rfl (fun hq => absurd hq (by decide)) (fun _ => ?_)
 refine zP rfl (zN (zK (zF rfl (zR ?_))))
 refine zEq (l := [116, 98, 111, 100, 121]) rfl rfl (fun hq => absurd hq (by decide)) (fun _ => ?_)
 refine zP rfl (zN (zK (zF rfl (zS (zR ?_)))))
 refine zEq (l := [116, 98, 111, 100, 121]) rfl rfl (fun hq => absurd hq (by decide)) (fun _ => ?_)
 refine zP rfl (zN (zK (zF rfl (zS (zR ?_)))))
 refine zEq (l := [116, 98, 111, 100, 121]) rfl rfl (fun hq => absurd hq (by decide)) (fun _ => ?_)
 refine zP rfl (zN (zK (zF rfl (zS (zS (zR ?_))))))
 refine zEq (l := [116, 98, 111, 100, 121]) rfl rfl (fun _ => ?_) (fun hq => absurd rfl hq)
 refine zP rfl (zN (zK (zT rfl (zA (zK (zT rfl (zR (zP rfl (zlA rfl ?_)))))))))
 refine zCl rfl (hbody _ (hN1.chg.no C)) ?_
 rintro _ w9 hpp
 obtain rfl := hpp.1
 refine ⟨_, rfl, ?_⟩
 refine zN (zM ?_)
 exact zk_ret0 (.inl rfl) rfl (BPost.pre (hN1.chg.no C) hpp)
theorem html_tr (h : IsB w b t q N R (f :: fr) sk) (hf : fr.length ≤ 900) (k : Int) (nm tx : List UInt8) {va : Value} {al : List At} (ha : AttrS w va al) {fr2 : List FE} {sk2 : Bool} {n2 : Nat} (hgr : lastN grN (f :: fr) = [116, 114])
  (hbody : ∀ w', Chg w w' No → Calls Tryz.prog 95 [.pointer (some ⟨b, 0, none⟩), T.tokV k nm va tx].toArray w' (BPost w' b t q fr2 sk2 n2 (.tuple #[]))) :
  Calls Tryz.prog 54 [.pointer (some ⟨b, 0, none⟩), T.tokV k nm va tx].toArray w (BPost w b t q fr2 sk2 n2 (.tuple #[])) := by
 obtain ⟨A0, c0, rfl, _⟩ := ha.form
 have hlen := h.st.len.1
 simp only [List.length_cons] at hlen
 unfold T.tokV at hbody ⊢
 refine zCz 65 Tryz.func54 ?_
 refine zS (zR ?_)
 refine zBx rfl (fun w1 b3 hN1 => ?_)
 have h1 := h.no hN1.chg
 have hb0 := h1.blk
 have hb30 : Blk w1 b3 66 [.int .i64 k, .string (bs nm), .slice A0 al.length c0, .bool false, .string (bs tx)] := hN1.blk
 have hbt0 := h1.st.site.blk
 obtain ⟨bb, o, c, hv, hc, hcc⟩ := RdS.some h1.st.site.row.rd (h1.st.pos (by simp))
 rw [List.length_reverse, hlen] at hv hc
 rw [hv] at hbt0
 refine zN (zK (zS (zR (zP rfl (zP rfl (zfa rfl (zlB rfl ?_)))))))
 refine z_bsE (T.cellsS grN) (want_L rfl) (by decide) rfl (by decide) (by decide) (by kernel_rfl) (fun w2 cb hM2 => ?_)
 have hr : RdS w2 9 1 (.slice (some ⟨cb, 0, none⟩) 9 9) grN.length (T.cellsS grN) := RdS.new hM2 rfl (T.cellsS_one _)
 have C := hM2.chg
 refine zCl rfl ((h1.no C).st.lastI_calls (by simp only [List.length_cons]; omega) (by simp) hr (by decide)) ?_
 rintro _ w3 ⟨rfl, hC⟩
 refine ⟨_, rfl, ?_⟩
 have C := C.no hC
 have hb := hb0.no C
 have hb3 := hb30.no C
 have hbt := hbt0.no C
 rcases lastF_cases grN (f :: fr) with ⟨e1, e2⟩ | ⟨j, e1, e2, e3, e4, e5⟩
 ·rw [hgr] at e2
  cases e2
 rw [e1]
 rw [hgr] at e4
 simp only [List.length_cons] at e3
 have hjR : j < R.reverse.length := by rw [List.length_reverse]; omega
 have hcell := hcc j _ (intC_get _ j hjR)
 obtain ⟨al2, hd⟩ := h.st.rowN.hd j hjR
 have hnl := h.st.rowN.lt j hjR
 obtain ⟨nj, hnj⟩ : ∃ nj, nj = R.reverse.getD j 0 := ⟨_, rfl⟩
 rw [← hnj] at hcell hd hnl
 rw [e4] at hd
 have hx : nodeOf N (nj : Nat) = N.getD nj n0 := if_pos ⟨by omega, by omega⟩
 have k3 : (nodeOf N (nj : Nat)).name = bs [116, 114] := by rw [hx]; exact congrArg Hd.name hd
 refine zP rfl (zN (zK (zS (zR (zP rfl (zN (zK (zS (zS (zR (zP rfl (zCT rfl rfl rfl (zN (zK (zT rfl ?_)))))))))))))))
 refine zc_draw [] (fun w' => Chg w1 w' No ∧ Blk w' b 64 [.pointer (some ⟨t, 0, none⟩), .int .i64 0, .string ⟨#[]⟩, .bool sk] ∧ Blk w' t 74 [.pointer (some ⟨q.r.pd, 0, none⟩), .pointer (some ⟨q.r.pm, 0, none⟩), .slice (some ⟨bb, o, none⟩) (fr.length + 1) c, .bool false]) (.take 0 (.take 1 (.take 2 (.take 3 (.take 4 (.take 5 (.take 6 (.take 7 (.take 8 (.take 9 (.take 10 (.take 11 (.take 12 (.take 13 (.take 14 (.take 15 (.take 16 (.all1 17 (.take 18 (.take 19 (.fin))))))))))))))))))))) (by rfl) (by kernel_rfl) (by kernel_rfl) (fun w4 hC4 _ => ⟨?_, ?_⟩)
 ·exact ⟨C.no hC4, hb.no hC4, hbt.no hC4⟩
 have C := C.no hC4
 refine ztP rfl rfl (ztP rfl rfl (zRd rfl rfl (fun _ hS => r_fa rfl) ?_))
 refine zRd rfl rfl (fun _ hS => r_loadB rfl hS.2.1 (by rfl)) ?_
 refine ztP rfl rfl (zRd rfl rfl (fun _ hS => r_fa rfl) ?_)
 refine zRd rfl rfl (fun _ hS => r_loadB rfl hS.2.2 (by rfl)) ?_
 refine ztP rfl rfl (ztP rfl rfl (zRd rfl rfl (fun _ hS => r_fa rfl) ?_))
 refine zRd rfl rfl (fun _ hS => r_loadB rfl hS.2.1 (by rfl)) ?_
 refine ztP rfl rfl (zRd rfl rfl (fun _ hS => r_fa rfl) ?_)
 refine zRd rfl rfl (fun _ hS => r_loadB rfl hS.2.2 (by rfl)) ?_
 refine ztP rfl rfl (zRd rfl rfl (fun _ hS => r_ia rfl rfl (by omega) (by omega)) ?_)
 refine zRd rfl rfl (fun _ hS => r_load1 rfl (cell_at (cell_no hS.1 hcell) (by omega))) ?_
 refine zs_call rfl (want_L rfl) rfl (by decide) rfl (rNode_calls (h1.no C).st.site.doc (nj : Nat)) ?_
 rintro _ w5 ⟨va5, rfl, hA5, hC5⟩
 have C := C.no hC5
 refine ⟨_, rfl, ⟨C, hb0.no C, hbt0.no C⟩, ?_⟩
 rw [k3]
 have hb3 := hb30.no C
 refine zRd rfl rfl (fun _ hS => r_field rfl (fld72 _ _ _ _ _ _ _ _)) ?_
 refine ztP rfl rfl ?_
 refine zs_fin ?_
 refine zK (zS (zR (zP rfl (zN (zK (zB (zS (zS (zR ?_)))))))))
 refine zEq (l := [116, 114]) rfl rfl (fun hq => absurd hq (by decide)) (fun _ => ?_)
 refine zP rfl (zN (zK (zF rfl (zR ?_))))
 refine zEq (l := [116, 114]) rfl rfl (fun hq => absurd hq (by decide)) (fun _ => ?_)
 refine zP rfl (zN (zK (zF rfl (zS (zR ?_)))))
 refine zEq (l := [116, 114]) rfl rfl (fun hq => absurd hq (by decide)) (fun _ => ?_)
 refine zP rfl (zN (zK (zF rfl (zS (zR ?_)))))
 refine zEq (l := [116, 114]) rfl rfl (fun hq => absurd hq (by decide)) (fun _ => ?_)
 refine zP rfl (zN (zK (zF rfl (zS (zS (zR ?_))))))
 refine zEq (l := [116, 114]) rfl rfl (fun hq => absurd hq (by decide)) (fun _ => ?_)
 refine zP rfl (zN (zK (zF rfl (zS (zR ?_)))))
 refine zEq (l := [116, 114]) rfl rfl (fun hq => absurd hq (by decide)) (fun _ => ?_)
 refine zP rfl (zN (zK (zF rfl (zR ?_))))
 refine zEq (l := [116, 114]) rfl rfl (fun hq => absurd hq (by decide)) (fun _ => ?_)
 refine zP rfl (zN (zK (zF rfl (zS (zR ?_)))))
 refine zEq (l := [116, 114]) rfl rfl (fun _ => ?_) (fun hq => absurd rfl hq)
 refine zP rfl (zN (zK (zT rfl (zR (zP rfl (zlA rfl ?_))))))
 refine zCl rfl (hbody _ (hN1.chg.no C)) ?_
 rintro _ w9 hpp
 obtain rfl := hpp.1
 refine ⟨_, rfl, ?_⟩
 refine zN (zM ?_)
 exact zk_ret0 (.inl rfl) rfl (BPost.pre (hN1.chg.no C) hpp)
end
def V1 : List UInt8 := [99, 97, 112, 116, 105, 111, 110]
def V2 : List UInt8 := [99, 111, 108, 32, 99, 111, 108, 103, 114, 111, 117, 112]
def V3 : List UInt8 := [116, 98, 111, 100, 121, 32, 116, 102, 111, 111, 116, 32, 116, 104, 101, 97, 100]
def V4 : List UInt8 := [116, 100, 32, 116, 104, 32, 116, 114]
def V5 : List UInt8 := [116, 97, 98, 108, 101]
def V6 : List UInt8 := [116, 114]
section
variable {w w' w0 w1 w2 : World} {b t : Nat} {q q' q1 : SQ} {N N' : List ND} {n m k : Nat} {R R' : List Nat} {f g : FE} {fr fr' : List FE} {sk sk' : Bool} {x : Value} {e : Ending}
theorem back_calls (h : IsB w b t q N (n :: m :: R) (f :: g :: fr) sk) (hf : fr.length ≤ 900) {v : Value} {l : List (List UInt8)} (hr : RdS w 9 1 v l.length (T.cellsS l)) (hl : l.length ≤ 100000) (hfl : f.nm ∈ l) (hne : f.nm ≠ [116, 101, 109, 112, 108, 97, 116, 101]) :
  Calls Tryz.prog 127 [.pointer (some ⟨b, 0, none⟩), v].toArray w fun e w' => e = .returned (.tuple #[]) ∧ Chg w w' No := by
 obtain ⟨A0, c0, rfl, _⟩ := hr.form
 have hf1 : (f :: g :: fr).length ≤ 1000 := by simp only [List.length_cons]; omega
 have hb0 := h.blk
 have hb := hb0
 have hnN : n < N.length := h.st.zf.lt n (by simp)
 have hpos : 0 < n := by have := h.st.zf.pos 0 (by simp); simpa using this
 have hd : hdOf (N.getD n n0) = elemH f.nm f.al := h.st.zf.1
 refine zCz 43 Tryz.func127 ?_
 refine zB ?_
 refine zc_loopW (ι := Nat) (fun k u => [(0, .pointer (some ⟨b, 0, none⟩)), (1, .slice A0 l.length c0)]) (fun k u => u = w) (fun k u => 0) 0 rfl ⟨rfl, rfl, trivial⟩ ?_
 rintro k u hu
 obtain rfl := hu.symm
 refine zS (zS ?_)
 refine zc_draw [] (fun w' => Chg w w' No ∧ Blk w' b 64 [.pointer (some ⟨t, 0, none⟩), .int .i64 0, .string ⟨#[]⟩, .bool sk]) (.take 0 (.take 1 (.take 2 (.take 3 (.all1 4 (.take 5 (.take 6 (.take 7 (.take 8 (.take 9 (.take 10 (.take 11 (.take 12 (.take 13 (.take 14 (.all2 15 (.all1 16 (.all1 17 (.take 18 (.take 19 (.take 20 (.take 21 (.take 22 (.take 23 (.take 24 (.take 25 (.take 26 (.take 27 (.take 28 (.take 30 (.all1 29 (.all1 31 (.take 32 (.take 33 (.fin))))))))))))))))))) 16 (.all1 15 (.all1 17 (.take 18 (.take 19 (.take 20 (.take 21 (.take 22 (.take 23 (.take 24 (.take 25 (.take 26 (.take 27 (.take 28 (.take 30 (.all1 29 (.all1 31 (.take 32 (.take 33 (.fin))))))))))))))))))))))))))))))))))) (by rfl) (by kernel_rfl) (by kernel_rfl) (fun w1 hC1 _ => ⟨?_, ?_⟩)
 ·exact ⟨hC1, hb.no hC1⟩
 have C := hC1
 refine ztP rfl rfl (ztP rfl rfl (zRd rfl rfl (fun _ hS => r_fa rfl) ?_))
 refine zRd rfl rfl (fun _ hS => r_loadB rfl hS.2 (by rfl)) ?_
 refine zs_call rfl (want_L rfl) rfl (by decide) rfl (sTop_calls (h.no C).st hf1) ?_
 rintro _ w2 ⟨rfl, hC⟩
 have C := C.no hC
 refine ⟨_, rfl, ⟨C, hb0.no C⟩, ?_⟩
 refine zRd rfl rfl (fun _ hS => r_cmpB (r := true) rfl rfl rfl (iff_of_true rfl (by omega))) ?_
 refine ztP rfl rfl (ztP rfl rfl (ztP rfl rfl (zRd rfl rfl (fun _ hS => r_fa rfl) ?_)))
 refine zRd rfl rfl (fun _ hS => r_loadB rfl hS.2 (by rfl)) ?_
 refine ztP rfl rfl (ztP rfl rfl (zRd rfl rfl (fun _ hS => r_fa rfl) ?_))
 refine zRd rfl rfl (fun _ hS => r_loadB rfl hS.2 (by rfl)) ?_
 refine zs_two ?_ ?_
 ·refine zo_call rfl (want_L rfl) rfl (by decide) rfl (sTop_calls (h.no C).st hf1) ?_
  rintro _ w3 ⟨rfl, hC⟩
  have C := C.no hC
  refine ⟨_, rfl, ⟨C, hb0.no C⟩, ?_⟩
  refine zs_bs1 rfl (want_L rfl) (by decide) rfl (by rfl) (by rfl) (by decide) (by decide) (fun w3' cb hM3 => ?_)
  have C := C.no hM3.chg
  have hr0 : RdS w3' 9 1 (.slice (some ⟨cb, 0, none⟩) 1 1) 1 (T.cellsS [[116, 101, 109, 112, 108, 97, 116, 101]]) := RdS.new hM3 rfl (T.cellsS_one _)
  refine ⟨⟨C, hb0.no C⟩, ?_⟩
  refine zs_call rfl (want_L rfl) rfl (by decide) rfl (rsIs2_calls (h.no C).st.site (l := [[116, 101, 109, 112, 108, 97, 116, 101]]) hr0 (by decide) n hnN f.nm f.al hd) ?_
  rintro _ w4 ⟨rfl, hC⟩
  have C := C.no hC
  refine ⟨_, rfl, ⟨C, hb0.no C⟩, ?_⟩
  rw [decide_eq_false (fun hh : n ≠ 0 ∧ f.nm ∈ [[116, 101, 109, 112, 108, 97, 116, 101]] => hne (by simpa using hh.2))]
  refine ztP rfl rfl (ztP rfl rfl (ztP rfl rfl (ztP rfl rfl (ztP rfl rfl (zRd rfl rfl (fun _ hS => r_fa rfl) ?_)))))
  refine zRd rfl rfl (fun _ hS => r_loadB rfl hS.2 (by rfl)) ?_
  refine ztP rfl rfl (ztP rfl rfl (zRd rfl rfl (fun _ hS => r_fa rfl) ?_))
  refine zRd rfl rfl (fun _ hS => r_loadB rfl hS.2 (by rfl)) ?_
  refine ztP rfl rfl ?_
  refine zs_call rfl (want_L rfl) rfl (by decide) rfl (sTop_calls (h.no C).st hf1) ?_
  rintro _ w5 ⟨rfl, hC⟩
  have C := C.no hC
  refine ⟨_, rfl, ⟨C, hb0.no C⟩, ?_⟩
  refine zs_call rfl (want_L rfl) rfl (by decide) rfl (rsIs2_calls (h.no C).st.site (hr.no C) hl n hnN f.nm f.al hd) ?_
  rintro _ w6 ⟨rfl, hC⟩
  have C := C.no hC
  refine ⟨_, rfl, ⟨C, hb0.no C⟩, ?_⟩
  rw [decide_eq_true (⟨by omega, hfl⟩ : n ≠ 0 ∧ f.nm ∈ l)]
  refine ztP rfl rfl (ztP rfl rfl ?_)
  refine zs_fin ?_
  refine zK (zF rfl (zL (zX (zX (zY ?_)))))
  exact zk_ret0 (.inl rfl) rfl ⟨rfl, C⟩
 ·refine zo_bs1 rfl (want_L rfl) (by decide) rfl (by rfl) (by rfl) (by decide) (by decide) (fun w3 cb hM3 => ?_)
  have C := C.no hM3.chg
  have hr0 : RdS w3 9 1 (.slice (some ⟨cb, 0, none⟩) 1 1) 1 (T.cellsS [[116, 101, 109, 112, 108, 97, 116, 101]]) := RdS.new hM3 rfl (T.cellsS_one _)
  refine ⟨⟨C, hb0.no C⟩, ?_⟩
  refine zs_call rfl (want_L rfl) rfl (by decide) rfl (sTop_calls (h.no C).st hf1) ?_
  rintro _ w3' ⟨rfl, hC⟩
  have C := C.no hC
  have hr0 := hr0.no hC
  refine ⟨_, rfl, ⟨C, hb0.no C⟩, ?_⟩
  refine zs_call rfl (want_L rfl) rfl (by decide) rfl (rsIs2_calls (h.no C).st.site (l := [[116, 101, 109, 112, 108, 97, 116, 101]]) hr0 (by decide) n hnN f.nm f.al hd) ?_
  rintro _ w4 ⟨rfl, hC⟩
  have C := C.no hC
  refine ⟨_, rfl, ⟨C, hb0.no C⟩, ?_⟩
  rw [decide_eq_false (fun hh : n ≠ 0 ∧ f.nm ∈ [[116, 101, 109, 112, 108, 97, 116, 101]] => hne (by simpa using hh.2))]
  refine ztP rfl rfl (ztP rfl rfl (ztP rfl rfl (ztP rfl rfl (ztP rfl rfl (zRd rfl rfl (fun _ hS => r_fa rfl) ?_)))))
  refine zRd rfl rfl (fun _ hS => r_loadB rfl hS.2 (by rfl)) ?_
  refine ztP rfl rfl (ztP rfl rfl (zRd rfl rfl (fun _ hS => r_fa rfl) ?_))
  refine zRd rfl rfl (fun _ hS => r_loadB rfl hS.2 (by rfl)) ?_
  refine ztP rfl rfl ?_
  refine zs_call rfl (want_L rfl) rfl (by decide) rfl (sTop_calls (h.no C).st hf1) ?_
  rintro _ w5 ⟨rfl, hC⟩
  have C := C.no hC
  refine ⟨_, rfl, ⟨C, hb0.no C⟩, ?_⟩
  refine zs_call rfl (want_L rfl) rfl (by decide) rfl (rsIs2_calls (h.no C).st.site (hr.no C) hl n hnN f.nm f.al hd) ?_
  rintro _ w6 ⟨rfl, hC⟩
  have C := C.no hC
  refine ⟨_, rfl, ⟨C, hb0.no C⟩, ?_⟩
  rw [decide_eq_true (⟨by omega, hfl⟩ : n ≠ 0 ∧ f.nm ∈ l)]
  refine ztP rfl rfl (ztP rfl rfl ?_)
  refine zs_fin ?_
  refine zK (zF rfl (zL (zX (zX (zY ?_)))))
  exact zk_ret0 (.inl rfl) rfl ⟨rfl, C⟩
theorem table_start (h : IsB w b t q N (n :: m :: R) (f :: g :: fr) sk) (hM : MOk q.M (n :: m :: R) (f :: g :: fr)) (hf : fr.length ≤ 700) (hl : N.length ≤ 1900000) (hfn : f.nm = [116, 97, 98, 108, 101])  (al : List T.At) {va : Value} (ha : AttrS w va (encT al)) (hal : al.length ≤ 1000000) :
  Calls Tryz.prog 93 [.pointer (some ⟨b, 0, none⟩), T.tokV 1 [116, 98, 111, 100, 121] va []].toArray w (BPost w b t q (⟨[116, 98, 111, 100, 121], al, .nil⟩ :: f :: g :: fr) sk (N.length + 1) (.tuple #[])) := by
 obtain ⟨A0, c0, rfl, _⟩ := ha.form
 have AV := ha
 unfold T.tokV
 refine zCz 139 Tryz.func93 ?_
 refine zS (zR ?_)
 refine zBx rfl (fun w1 b3 hN1 => ?_)
 have hb30 : Blk w1 b3 66 [.int .i64 1, .string (bs [116, 98, 111, 100, 121]), .slice A0 (encT al).length c0, .bool false, .string (bs [])] := hN1.blk
 have h1 := h.no hN1.chg
 have AV := AV.no hN1.chg
 have hb0 := h1.blk
 have hb := hb0
 have hb3 := hb30
 have C : Chg w1 w1 No := Chg.refl _ _
 refine zN (zK (zB (zS ?_)))
 refine zc_draw [] (fun w' => Chg w1 w' No ∧ Blk w' b 64 [.pointer (some ⟨t, 0, none⟩), .int .i64 0, .string ⟨#[]⟩, .bool sk] ∧ Blk w' b3 66 [.int .i64 1, .string (bs [116, 98, 111, 100, 121]), .slice A0 (encT al).length c0, .bool false, .string (bs [])]) (.take 0 (.take 1 (.take 2 (.take 3 (.take 4 (.take 5 (.take 6 (.take 7 (.take 8 (.take 9 (.take 10 (.take 11 (.all2 12 (.all1 13 (.all1 14 (.take 15 (.take 16 (.take 17 (.take 18 (.all1 19 (.all1 20 (.take 21 (.take 22 (.fin))))))))))) 13 (.all1 12 (.all1 14 (.take 15 (.take 16 (.take 17 (.take 18 (.all1 19 (.all1 20 (.take 21 (.take 22 (.fin)))))))))))))))))))))))) (by rfl) (by kernel_rfl) (by kernel_rfl) (fun wd hC _ => ⟨?_, ?_⟩)
 ·exact ⟨hC, hb.no hC, hb3.no hC⟩
 have C := hC
 have hb := hb0.no C
 have hb3 := hb30.no C
 refine zRd rfl rfl (fun _ hS => r_fa rfl) ?_
 refine zRd rfl rfl (fun _ hS => r_loadB rfl hS.2.2 (by rfl)) ?_
 refine zRd rfl rfl (fun _ hS => r_cmpB (r := false) rfl rfl rfl (iff_of_false Bool.false_ne_true (by omega))) ?_
 refine ztP rfl rfl (ztP rfl rfl (ztP rfl rfl ?_))
 iterate 2 (refine zs_take rfl (zt_skip rfl ?_))
 refine ztP rfl rfl (ztP rfl rfl ?_)
 iterate 2 (refine zs_take rfl (zt_skip rfl ?_))
 refine zs_two ?_ ?_
 ·refine zo_skipL rfl rfl ?_
  iterate 2 (refine zs_alone rfl (za_skip rfl ?_))
  refine ztP rfl rfl (ztP rfl rfl ?_)
  iterate 2 (refine zs_take rfl (zt_skip rfl ?_))
  iterate 2 (refine zs_alone rfl (za_skip rfl ?_))
  refine ztP rfl rfl (ztP rfl rfl ?_)
  refine zs_fin ?_
  refine zK (zF rfl (zS (zR (zlA rfl ?_))))
  refine zCl rfl (startK_calls 1 [116, 98, 111, 100, 121] [] V1 (AV.no C) (by decide)) ?_
  rintro _ wx ⟨rfl, hC⟩
  refine ⟨_, rfl, ?_⟩
  rw [decide_eq_false (fun hx : (1 : Int) = 1 ∧ [116, 98, 111, 100, 121] ∈ B.wd V1 => absurd hx.2 (by decide +kernel))]
  have C := C.no hC
  have hb := hb0.no C
  have hb3 := hb30.no C
  refine zP rfl (zN (zK (zF rfl (zS (zR (zlA rfl ?_))))))
  refine zCl rfl (startK_calls 1 [116, 98, 111, 100, 121] [] V2 (AV.no C) (by decide)) ?_
  rintro _ wx ⟨rfl, hC⟩
  refine ⟨_, rfl, ?_⟩
  rw [decide_eq_false (fun hx : (1 : Int) = 1 ∧ [116, 98, 111, 100, 121] ∈ B.wd V2 => absurd hx.2 (by decide +kernel))]
  have C := C.no hC
  have hb := hb0.no C
  have hb3 := hb30.no C
  refine zP rfl (zN (zK (zF rfl (zS (zR (zlA rfl ?_))))))
  refine zCl rfl (startK_calls 1 [116, 98, 111, 100, 121] [] V3 (AV.no C) (by decide)) ?_
  rintro _ wx ⟨rfl, hC⟩
  refine ⟨_, rfl, ?_⟩
  rw [decide_eq_true (⟨rfl, (by decide +kernel)⟩ : (1 : Int) = 1 ∧ [116, 98, 111, 100, 121] ∈ B.wd V3)]
  have C := C.no hC
  have hb := hb0.no C
  have hb3 := hb30.no C
  refine zP rfl (zN (zK (zT rfl (zS (zR (zP rfl ?_))))))
  refine zB1 rfl (fun wx cb hMx => ?_)
  have hr : RdS wx 9 1 (.slice (some ⟨cb, 0, none⟩) 1 1) 1 (T.cellsS [[116, 97, 98, 108, 101]]) := RdS.new hMx rfl (T.cellsS_one _)
  have hC := hMx.chg
  have C := C.no hC
  have hb := hb0.no C
  have hb3 := hb30.no C
  refine zCl rfl (back_calls (h1.no C) (by omega) (l := [[116, 97, 98, 108, 101]]) hr (by decide) (by rw [hfn]; decide) (by rw [hfn]; decide)) ?_
  rintro _ wy ⟨rfl, hC⟩
  refine ⟨_, rfl, ?_⟩
  have C := C.no hC
  have hb := hb0.no C
  have hb3 := hb30.no C
  refine zN (zK (zR (zP rfl (zlA rfl ?_))))
  refine zCl rfl (enter_calls (h1.no C) (by simp only [List.length_cons]; omega) hl [116, 98, 111, 100, 121] al (AV.no C) hal) ?_
  rintro _ wz hp
  obtain rfl := hp.1
  refine ⟨_, rfl, ?_⟩
  refine zN (zM ?_)
  exact zk_ret0 (.inl rfl) rfl (BPost.pre (hN1.chg.no C) (hp.toB (h1.no C) (hM.open_ (f := ⟨[116, 98, 111, 100, 121], al, .nil⟩) (show [116, 98, 111, 100, 121] ∉ fmtN by decide) (show [116, 98, 111, 100, 121] ∉ cellN by decide))))
 ·refine zo_skipL rfl rfl ?_
  iterate 2 (refine zs_alone rfl (za_skip rfl ?_))
  refine ztP rfl rfl (ztP rfl rfl ?_)
  iterate 2 (refine zs_take rfl (zt_skip rfl ?_))
  iterate 2 (refine zs_alone rfl (za_skip rfl ?_))
  refine ztP rfl rfl (ztP rfl rfl ?_)
  refine zs_fin ?_
  refine zK (zF rfl (zS (zR (zlA rfl ?_))))
  refine zCl rfl (startK_calls 1 [116, 98, 111, 100, 121] [] V1 (AV.no C) (by decide)) ?_
  rintro _ wx ⟨rfl, hC⟩
  refine ⟨_, rfl, ?_⟩
  rw [decide_eq_false (fun hx : (1 : Int) = 1 ∧ [116, 98, 111, 100, 121] ∈ B.wd V1 => absurd hx.2 (by decide +kernel))]
  have C := C.no hC
  have hb := hb0.no C
  have hb3 := hb30.no C
  refine zP rfl (zN (zK (zF rfl (zS (zR (zlA rfl ?_))))))
  refine zCl rfl (startK_calls 1 [116, 98, 111, 100, 121] [] V2 (AV.no C) (by decide)) ?_
  rintro _ wx ⟨rfl, hC⟩
  refine ⟨_, rfl, ?_⟩
  rw [decide_eq_false (fun hx : (1 : Int) = 1 ∧ [116, 98, 111, 100, 121] ∈ B.wd V2 => absurd hx.2 (by decide +kernel))]
  have C := C.no hC
  have hb := hb0.no C
  have hb3 := hb30.no C
  refine zP rfl (zN (zK (zF rfl (zS (zR (zlA rfl ?_))))))
  refine zCl rfl (startK_calls 1 [116, 98, 111, 100, 121] [] V3 (AV.no C) (by decide)) ?_
  rintro _ wx ⟨rfl, hC⟩
  refine ⟨_, rfl, ?_⟩
  rw [decide_eq_true (⟨rfl, (by decide +kernel)⟩ : (1 : Int) = 1 ∧ [116, 98, 111, 100, 121] ∈ B.wd V3)]
  have C := C.no hC
  have hb := hb0.no C
  have hb3 := hb30.no C
  refine zP rfl (zN (zK (zT rfl (zS (zR (zP rfl ?_))))))
  refine zB1 rfl (fun wx cb hMx => ?_)
  have hr : RdS wx 9 1 (.slice (some ⟨cb, 0, none⟩) 1 1) 1 (T.cellsS [[116, 97, 98, 108, 101]]) := RdS.new hMx rfl (T.cellsS_one _)
  have hC := hMx.chg
  have C := C.no hC
  have hb := hb0.no C
  have hb3 := hb30.no C
  refine zCl rfl (back_calls (h1.no C) (by omega) (l := [[116, 97, 98, 108, 101]]) hr (by decide) (by rw [hfn]; decide) (by rw [hfn]; decide)) ?_
  rintro _ wy ⟨rfl, hC⟩
  refine ⟨_, rfl, ?_⟩
  have C := C.no hC
  have hb := hb0.no C
  have hb3 := hb30.no C
  refine zN (zK (zR (zP rfl (zlA rfl ?_))))
  refine zCl rfl (enter_calls (h1.no C) (by simp only [List.length_cons]; omega) hl [116, 98, 111, 100, 121] al (AV.no C) hal) ?_
  rintro _ wz hp
  obtain rfl := hp.1
  refine ⟨_, rfl, ?_⟩
  refine zN (zM ?_)
  exact zk_ret0 (.inl rfl) rfl (BPost.pre (hN1.chg.no C) (hp.toB (h1.no C) (hM.open_ (f := ⟨[116, 98, 111, 100, 121], al, .nil⟩) (show [116, 98, 111, 100, 121] ∉ fmtN by decide) (show [116, 98, 111, 100, 121] ∉ cellN by decide))))
theorem table_end (h : IsB w b t q N (n :: m :: R) (f :: g :: fr) sk) (hM : MOk q.M (n :: m :: R) (f :: g :: fr)) (hf : fr.length ≤ 700) (hfn : f.nm = [116, 97, 98, 108, 101]) :
  Calls Tryz.prog 93 [.pointer (some ⟨b, 0, none⟩), T.tokV 2 [116, 97, 98, 108, 101] T.nS []].toArray w (BPost w b t q (g.shut f :: fr) sk N.length (.tuple #[])) := by
 have AV := AttrS.nS w
 unfold T.tokV
 refine zCz 139 Tryz.func93 ?_
 refine zS (zR ?_)
 refine zBx rfl (fun w1 b3 hN1 => ?_)
 have hb30 : Blk w1 b3 66 [.int .i64 2, .string (bs [116, 97, 98, 108, 101]), .slice none 0 0, .bool false, .string (bs [])] := hN1.blk
 have h1 := h.no hN1.chg
 have AV := AV.no hN1.chg
 have hb0 := h1.blk
 have hb := hb0
 have hb3 := hb30
 have C : Chg w1 w1 No := Chg.refl _ _
 refine zN (zK (zB (zS ?_)))
 refine zc_draw [] (fun w' => Chg w1 w' No ∧ Blk w' b 64 [.pointer (some ⟨t, 0, none⟩), .int .i64 0, .string ⟨#[]⟩, .bool sk] ∧ Blk w' b3 66 [.int .i64 2, .string (bs [116, 97, 98, 108, 101]), .slice none 0 0, .bool false, .string (bs [])]) (.take 0 (.take 1 (.take 2 (.take 3 (.take 4 (.take 5 (.take 6 (.take 7 (.take 8 (.take 9 (.take 10 (.take 11 (.all2 12 (.all1 13 (.all1 14 (.take 15 (.take 16 (.take 17 (.take 18 (.all1 19 (.all1 20 (.take 21 (.take 22 (.fin))))))))))) 13 (.all1 12 (.all1 14 (.take 15 (.take 16 (.take 17 (.take 18 (.all1 19 (.all1 20 (.take 21 (.take 22 (.fin)))))))))))))))))))))))) (by rfl) (by kernel_rfl) (by kernel_rfl) (fun wd hC _ => ⟨?_, ?_⟩)
 ·exact ⟨hC, hb.no hC, hb3.no hC⟩
 have C := hC
 have hb := hb0.no C
 have hb3 := hb30.no C
 refine zRd rfl rfl (fun _ hS => r_fa rfl) ?_
 refine zRd rfl rfl (fun _ hS => r_loadB rfl hS.2.2 (by rfl)) ?_
 refine zRd rfl rfl (fun _ hS => r_cmpB (r := false) rfl rfl rfl (iff_of_false Bool.false_ne_true (by omega))) ?_
 refine ztP rfl rfl (ztP rfl rfl (ztP rfl rfl ?_))
 iterate 2 (refine zs_take rfl (zt_skip rfl ?_))
 refine ztP rfl rfl (ztP rfl rfl ?_)
 iterate 2 (refine zs_take rfl (zt_skip rfl ?_))
 refine zs_two ?_ ?_
 ·refine zo_skipL rfl rfl ?_
  iterate 2 (refine zs_alone rfl (za_skip rfl ?_))
  refine ztP rfl rfl (ztP rfl rfl ?_)
  iterate 2 (refine zs_take rfl (zt_skip rfl ?_))
  iterate 2 (refine zs_alone rfl (za_skip rfl ?_))
  refine ztP rfl rfl (ztP rfl rfl ?_)
  refine zs_fin ?_
  refine zK (zF rfl (zS (zR (zlA rfl ?_))))
  refine zCl rfl (startK_calls 2 [116, 97, 98, 108, 101] [] V1 (AV.no C) (by decide)) ?_
  rintro _ wx ⟨rfl, hC⟩
  refine ⟨_, rfl, ?_⟩
  rw [decide_eq_false (fun hx : (2 : Int) = 1 ∧ [116, 97, 98, 108, 101] ∈ B.wd V1 => absurd hx.1 (by decide))]
  have C := C.no hC
  have hb := hb0.no C
  have hb3 := hb30.no C
  refine zP rfl (zN (zK (zF rfl (zS (zR (zlA rfl ?_))))))
  refine zCl rfl (startK_calls 2 [116, 97, 98, 108, 101] [] V2 (AV.no C) (by decide)) ?_
  rintro _ wx ⟨rfl, hC⟩
  refine ⟨_, rfl, ?_⟩
  rw [decide_eq_false (fun hx : (2 : Int) = 1 ∧ [116, 97, 98, 108, 101] ∈ B.wd V2 => absurd hx.1 (by decide))]
  have C := C.no hC
  have hb := hb0.no C
  have hb3 := hb30.no C
  refine zP rfl (zN (zK (zF rfl (zS (zR (zlA rfl ?_))))))
  refine zCl rfl (startK_calls 2 [116, 97, 98, 108, 101] [] V3 (AV.no C) (by decide)) ?_
  rintro _ wx ⟨rfl, hC⟩
  refine ⟨_, rfl, ?_⟩
  rw [decide_eq_false (fun hx : (2 : Int) = 1 ∧ [116, 97, 98, 108, 101] ∈ B.wd V3 => absurd hx.1 (by decide))]
  have C := C.no hC
  have hb := hb0.no C
  have hb3 := hb30.no C
  refine zP rfl (zN (zK (zF rfl (zS (zR (zlA rfl ?_))))))
  refine zCl rfl (startK_calls 2 [116, 97, 98, 108, 101] [] V4 (AV.no C) (by decide)) ?_
  rintro _ wx ⟨rfl, hC⟩
  refine ⟨_, rfl, ?_⟩
  rw [decide_eq_false (fun hx : (2 : Int) = 1 ∧ [116, 97, 98, 108, 101] ∈ B.wd V4 => absurd hx.1 (by decide))]
  have C := C.no hC
  have hb := hb0.no C
  have hb3 := hb30.no C
  refine zP rfl (zN (zK (zF rfl (zS (zR (zlA rfl ?_))))))
  refine zCl rfl (startK_calls 2 [116, 97, 98, 108, 101] [] V5 (AV.no C) (by decide)) ?_
  rintro _ wx ⟨rfl, hC⟩
  refine ⟨_, rfl, ?_⟩
  rw [decide_eq_false (fun hx : (2 : Int) = 1 ∧ [116, 97, 98, 108, 101] ∈ B.wd V5 => absurd hx.1 (by decide))]
  have C := C.no hC
  have hb := hb0.no C
  have hb3 := hb30.no C
  refine zP rfl (zN (zK (zF rfl (zS (zR (zlA rfl ?_))))))
  refine zCl rfl (endK_calls 2 [116, 97, 98, 108, 101] [] V5 (AV.no C) (by decide)) ?_
  rintro _ wx ⟨rfl, hC⟩
  refine ⟨_, rfl, ?_⟩
  rw [decide_eq_true (⟨rfl, (by decide +kernel)⟩ : (2 : Int) = 2 ∧ [116, 97, 98, 108, 101] ∈ B.wd V5)]
  have C := C.no hC
  have hb := hb0.no C
  have hb3 := hb30.no C
  refine zP rfl (zN (zK (zT rfl (zS (zR (zP rfl (zP rfl (zfa rfl (zlB rfl ?_)))))))))
  refine zB1 rfl (fun wx cb hMx => ?_)
  have hr : RdS wx 9 1 (.slice (some ⟨cb, 0, none⟩) 1 1) 1 (T.cellsS [[116, 97, 98, 108, 101]]) := RdS.new hMx rfl (T.cellsS_one _)
  have hC := hMx.chg
  have C := C.no hC
  have hb := hb0.no C
  have hb3 := hb30.no C
  refine zCl rfl (sHas_calls (h1.no C).st (by simp only [List.length_cons]; omega) (l := [[116, 97, 98, 108, 101]]) hr (by simp) 4 (by decide)) ?_
  rintro _ wy ⟨⟨y, rfl, hy, _⟩, hC⟩
  refine ⟨_, rfl, ?_⟩
  rw [hy (by simp) (by rw [hfn]; decide)]
  have C := C.no hC
  have hb := hb0.no C
  have hb3 := hb30.no C
  refine zN (zK (zT rfl (zR (zP rfl (zP rfl (zfa rfl (zlB rfl ?_)))))))
  refine zB1 rfl (fun wx cb hMx => ?_)
  have hr : RdS wx 9 1 (.slice (some ⟨cb, 0, none⟩) 1 1) 1 (T.cellsS [[116, 97, 98, 108, 101]]) := RdS.new hMx rfl (T.cellsS_one _)
  have hC := hMx.chg
  have C := C.no hC
  have hb := hb0.no C
  have hb3 := hb30.no C
  refine zCl rfl (sPopTo_calls (h1.no C).st (by omega) (l := [[116, 97, 98, 108, 101]]) hr (by simp) (by rw [hfn]; decide)) ?_
  rintro _ wz hp
  obtain rfl := hp.1
  refine ⟨_, rfl, ?_⟩
  have hbp := BPost.pre (hN1.chg.no C) (hp.toB (h1.no C) ((hM.skip (mk1_none (by rw [hfn]; decide) (by rw [hfn]; decide))).rename rfl))
  refine zN (zM ?_)
  exact zk_ret0 (.inl rfl) rfl (hbp.ret (Chg.refl _ _))
 ·refine zo_skipL rfl rfl ?_
  iterate 2 (refine zs_alone rfl (za_skip rfl ?_))
  refine ztP rfl rfl (ztP rfl rfl ?_)
  iterate 2 (refine zs_take rfl (zt_skip rfl ?_))
  iterate 2 (refine zs_alone rfl (za_skip rfl ?_))
  refine ztP rfl rfl (ztP rfl rfl ?_)
  refine zs_fin ?_
  refine zK (zF rfl (zS (zR (zlA rfl ?_))))
  refine zCl rfl (startK_calls 2 [116, 97, 98, 108, 101] [] V1 (AV.no C) (by decide)) ?_
  rintro _ wx ⟨rfl, hC⟩
  refine ⟨_, rfl, ?_⟩
  rw [decide_eq_false (fun hx : (2 : Int) = 1 ∧ [116, 97, 98, 108, 101] ∈ B.wd V1 => absurd hx.1 (by decide))]
  have C := C.no hC
  have hb := hb0.no C
  have hb3 := hb30.no C
  refine zP rfl (zN (zK (zF rfl (zS (zR (zlA rfl ?_))))))
  refine zCl rfl (startK_calls 2 [116, 97, 98, 108, 101] [] V2 (AV.no C) (by decide)) ?_
  rintro _ wx ⟨rfl, hC⟩
  refine ⟨_, rfl, ?_⟩
  rw [decide_eq_false (fun hx : (2 : Int) = 1 ∧ [116, 97, 98, 108, 101] ∈ B.wd V2 => absurd hx.1 (by decide))]
  have C := C.no hC
  have hb := hb0.no C
  have hb3 := hb30.no C
  refine zP rfl (zN (zK (zF rfl (zS (zR (zlA rfl ?_))))))
  refine zCl rfl (startK_calls 2 [116, 97, 98, 108, 101] [] V3 (AV.no C) (by decide)) ?_
  rintro _ wx ⟨rfl, hC⟩
  refine ⟨_, rfl, ?_⟩
  rw [decide_eq_false (fun hx : (2 : Int) = 1 ∧ [116, 97, 98, 108, 101] ∈ B.wd V3 => absurd hx.1 (by decide))]
  have C := C.no hC
  have hb := hb0.no C
  have hb3 := hb30.no C
  refine zP rfl (zN (zK (zF rfl (zS (zR (zlA rfl ?_))))))
  refine zCl rfl (startK_calls 2 [116, 97, 98, 108, 101] [] V4 (AV.no C) (by decide)) ?_
  rintro _ wx ⟨rfl, hC⟩
  refine ⟨_, rfl, ?_⟩
  rw [decide_eq_false (fun hx : (2 : Int) = 1 ∧ [116, 97, 98, 108, 101] ∈ B.wd V4 => absurd hx.1 (by decide))]
  have C := C.no hC
  have hb := hb0.no C
  have hb3 := hb30.no C
  refine zP rfl (zN (zK (zF rfl (zS (zR (zlA rfl ?_))))))
  refine zCl rfl (startK_calls 2 [116, 97, 98, 108, 101] [] V5 (AV.no C) (by decide)) ?_
  rintro _ wx ⟨rfl, hC⟩
  refine ⟨_, rfl, ?_⟩
  rw [decide_eq_false (fun hx : (2 : Int) = 1 ∧ [116, 97, 98, 108, 101] ∈ B.wd V5 => absurd hx.1 (by decide))]
  have C := C.no hC
  have hb := hb0.no C
  have hb3 := hb30.no C
  refine zP rfl (zN (zK (zF rfl (zS (zR (zlA rfl ?_))))))
  refine zCl rfl (endK_calls 2 [116, 97, 98, 108, 101] [] V5 (AV.no C) (by decide)) ?_
  rintro _ wx ⟨rfl, hC⟩
  refine ⟨_, rfl, ?_⟩
  rw [decide_eq_true (⟨rfl, (by decide +kernel)⟩ : (2 : Int) = 2 ∧ [116, 97, 98, 108, 101] ∈ B.wd V5)]
  have C := C.no hC
  have hb := hb0.no C
  have hb3 := hb30.no C
  refine zP rfl (zN (zK (zT rfl (zS (zR (zP rfl (zP rfl (zfa rfl (zlB rfl ?_)))))))))
  refine zB1 rfl (fun wx cb hMx => ?_)
  have hr : RdS wx 9 1 (.slice (some ⟨cb, 0, none⟩) 1 1) 1 (T.cellsS [[116, 97, 98, 108, 101]]) := RdS.new hMx rfl (T.cellsS_one _)
  have hC := hMx.chg
  have C := C.no hC
  have hb := hb0.no C
  have hb3 := hb30.no C
  refine zCl rfl (sHas_calls (h1.no C).st (by simp only [List.length_cons]; omega) (l := [[116, 97, 98, 108, 101]]) hr (by simp) 4 (by decide)) ?_
  rintro _ wy ⟨⟨y, rfl, hy, _⟩, hC⟩
  refine ⟨_, rfl, ?_⟩
  rw [hy (by simp) (by rw [hfn]; decide)]
  have C := C.no hC
  have hb := hb0.no C
  have hb3 := hb30.no C
  refine zN (zK (zT rfl (zR (zP rfl (zP rfl (zfa rfl (zlB rfl ?_)))))))
  refine zB1 rfl (fun wx cb hMx => ?_)
  have hr : RdS wx 9 1 (.slice (some ⟨cb, 0, none⟩) 1 1) 1 (T.cellsS [[116, 97, 98, 108, 101]]) := RdS.new hMx rfl (T.cellsS_one _)
  have hC := hMx.chg
  have C := C.no hC
  have hb := hb0.no C
  have hb3 := hb30.no C
  refine zCl rfl (sPopTo_calls (h1.no C).st (by omega) (l := [[116, 97, 98, 108, 101]]) hr (by simp) (by rw [hfn]; decide)) ?_
  rintro _ wz hp
  obtain rfl := hp.1
  refine ⟨_, rfl, ?_⟩
  have hbp := BPost.pre (hN1.chg.no C) (hp.toB (h1.no C) ((hM.skip (mk1_none (by rw [hfn]; decide) (by rw [hfn]; decide))).rename rfl))
  refine zN (zM ?_)
  exact zk_ret0 (.inl rfl) rfl (hbp.ret (Chg.refl _ _))
theorem rows_start (h : IsB w b t q N (n :: m :: R) (f :: g :: fr) sk) (hM : MOk q.M (n :: m :: R) (f :: g :: fr)) (hf : fr.length ≤ 700) (hl : N.length ≤ 1900000) (hfn : f.nm = [116, 98, 111, 100, 121])  (al : List T.At) {va : Value} (ha : AttrS w va (encT al)) (hal : al.length ≤ 1000000) :
  Calls Tryz.prog 94 [.pointer (some ⟨b, 0, none⟩), T.tokV 1 [116, 114] va []].toArray w (BPost w b t q (⟨[116, 114], al, .nil⟩ :: f :: g :: fr) sk (N.length + 1) (.tuple #[])) := by
 obtain ⟨A0, c0, rfl, _⟩ := ha.form
 have AV := ha
 unfold T.tokV
 refine zCz 70 Tryz.func94 ?_
 refine zS (zR ?_)
 refine zBx rfl (fun w1 b3 hN1 => ?_)
 have hb30 : Blk w1 b3 66 [.int .i64 1, .string (bs [116, 114]), .slice A0 (encT al).length c0, .bool false, .string (bs [])] := hN1.blk
 have h1 := h.no hN1.chg
 have AV := AV.no hN1.chg
 have hb0 := h1.blk
 have hb := hb0
 have hb3 := hb30
 have C : Chg w1 w1 No := Chg.refl _ _
 refine zN (zK (zB (zS (zR (zlA rfl ?_)))))
 refine zCl rfl (startK_calls 1 [116, 114] [] V6 (AV.no C) (by decide)) ?_
 rintro _ wx ⟨rfl, hC⟩
 refine ⟨_, rfl, ?_⟩
 rw [decide_eq_true (⟨rfl, (by decide +kernel)⟩ : (1 : Int) = 1 ∧ [116, 114] ∈ B.wd V6)]
 have C := C.no hC
 have hb := hb0.no C
 have hb3 := hb30.no C
 refine zP rfl (zN (zK (zT rfl (zS (zR (zP rfl ?_))))))
 refine z_bsE (T.cellsS [[116, 98, 111, 100, 121], [116, 102, 111, 111, 116], [116, 104, 101, 97, 100]]) (want_L rfl) (by decide) rfl (by decide) (by decide) (by kernel_rfl) (fun wx cb hMx => ?_)
 have hr : RdS wx 9 1 (.slice (some ⟨cb, 0, none⟩) 3 3) 3 (T.cellsS [[116, 98, 111, 100, 121], [116, 102, 111, 111, 116], [116, 104, 101, 97, 100]]) := RdS.new hMx rfl (T.cellsS_one _)
 have hC := hMx.chg
 have C := C.no hC
 have hb := hb0.no C
 have hb3 := hb30.no C
 refine zCl rfl (back_calls (h1.no C) (by omega) (l := [[116, 98, 111, 100, 121], [116, 102, 111, 111, 116], [116, 104, 101, 97, 100]]) hr (by decide) (by rw [hfn]; decide) (by rw [hfn]; decide)) ?_
 rintro _ wy ⟨rfl, hC⟩
 refine ⟨_, rfl, ?_⟩
 have C := C.no hC
 have hb := hb0.no C
 have hb3 := hb30.no C
 refine zN (zK (zR (zP rfl (zlA rfl ?_))))
 refine zCl rfl (enter_calls (h1.no C) (by simp only [List.length_cons]; omega) hl [116, 114] al (AV.no C) hal) ?_
 rintro _ wz hp
 obtain rfl := hp.1
 refine ⟨_, rfl, ?_⟩
 refine zN (zM ?_)
 exact zk_ret0 (.inl rfl) rfl (BPost.pre (hN1.chg.no C) (hp.toB (h1.no C) (hM.open_ (f := ⟨[116, 114], al, .nil⟩) (show [116, 114] ∉ fmtN by decide) (show [116, 114] ∉ cellN by decide))))
theorem rows_end (h : IsB w b t q N (n :: m :: R) (f :: g :: fr) sk) (hM : MOk q.M (n :: m :: R) (f :: g :: fr)) (hf : fr.length ≤ 700) (hfn : f.nm = [116, 98, 111, 100, 121]) :
  Calls Tryz.prog 94 [.pointer (some ⟨b, 0, none⟩), T.tokV 2 [116, 98, 111, 100, 121] T.nS []].toArray w (BPost w b t q (g.shut f :: fr) sk N.length (.tuple #[])) := by
 have AV := AttrS.nS w
 unfold T.tokV
 refine zCz 70 Tryz.func94 ?_
 refine zS (zR ?_)
 refine zBx rfl (fun w1 b3 hN1 => ?_)
 have hb30 : Blk w1 b3 66 [.int .i64 2, .string (bs [116, 98, 111, 100, 121]), .slice none 0 0, .bool false, .string (bs [])] := hN1.blk
 have h1 := h.no hN1.chg
 have AV := AV.no hN1.chg
 have hb0 := h1.blk
 have hb := hb0
 have hb3 := hb30
 have C : Chg w1 w1 No := Chg.refl _ _
 refine zN (zK (zB (zS (zR (zlA rfl ?_)))))
 refine zCl rfl (startK_calls 2 [116, 98, 111, 100, 121] [] V6 (AV.no C) (by decide)) ?_
 rintro _ wx ⟨rfl, hC⟩
 refine ⟨_, rfl, ?_⟩
 rw [decide_eq_false (fun hx : (2 : Int) = 1 ∧ [116, 98, 111, 100, 121] ∈ B.wd V6 => absurd hx.1 (by decide))]
 have C := C.no hC
 have hb := hb0.no C
 have hb3 := hb30.no C
 refine zP rfl (zN (zK (zF rfl (zS (zR (zlA rfl ?_))))))
 refine zCl rfl (startK_calls 2 [116, 98, 111, 100, 121] [] Y1 (AV.no C) (by decide)) ?_
 rintro _ wx ⟨rfl, hC⟩
 refine ⟨_, rfl, ?_⟩
 rw [decide_eq_false (fun hx : (2 : Int) = 1 ∧ [116, 98, 111, 100, 121] ∈ B.wd Y1 => absurd hx.1 (by decide))]
 have C := C.no hC
 have hb := hb0.no C
 have hb3 := hb30.no C
 refine zP rfl (zN (zK (zF rfl (zS (zR (zlA rfl ?_))))))
 refine zCl rfl (endK_calls 2 [116, 98, 111, 100, 121] [] V3 (AV.no C) (by decide)) ?_
 rintro _ wx ⟨rfl, hC⟩
 refine ⟨_, rfl, ?_⟩
 rw [decide_eq_true (⟨rfl, (by decide +kernel)⟩ : (2 : Int) = 2 ∧ [116, 98, 111, 100, 121] ∈ B.wd V3)]
 have C := C.no hC
 have hb := hb0.no C
 have hb3 := hb30.no C
 refine zP rfl (zN (zK (zT rfl (zS ?_))))
 refine zc_draw [] (fun w' => Chg w1 w' No ∧ Blk w' b 64 [.pointer (some ⟨t, 0, none⟩), .int .i64 0, .string ⟨#[]⟩, .bool sk] ∧ Blk w' b3 66 [.int .i64 2, .string (bs [116, 98, 111, 100, 121]), .slice none 0 0, .bool false, .string (bs [])]) (.take 0 (.take 1 (.take 2 (.take 3 (.take 4 (.take 5 (.all1 6 (.all1 7 (.fin))))))))) (by rfl) (by kernel_rfl) (by kernel_rfl) (fun wd hC _ => ⟨?_, ?_⟩)
 ·exact ⟨C.no hC, hb.no hC, hb3.no hC⟩
 have C := C.no hC
 have hb := hb0.no C
 have hb3 := hb30.no C
 refine ztP rfl rfl (ztP rfl rfl (zRd rfl rfl (fun _ hS => r_fa rfl) ?_))
 refine zRd rfl rfl (fun _ hS => r_loadB rfl hS.2.1 (by rfl)) ?_
 refine zRd rfl rfl (fun _ hS => r_fa rfl) ?_
 refine zRd rfl rfl (fun _ hS => r_loadB rfl hS.2.2 (by rfl)) ?_
 refine zs_bs1 rfl (want_L rfl) (by decide) rfl (by rfl) (by rfl) (by decide) (by decide) (fun wx cb hMx => ?_)
 have hr : RdS wx 9 1 (.slice (some ⟨cb, 0, none⟩) 1 1) 1 (T.cellsS [[116, 98, 111, 100, 121]]) := RdS.new hMx rfl (T.cellsS_one _)
 have C := C.no hMx.chg
 refine ⟨⟨C, hb0.no C, hb30.no C⟩, ?_⟩
 refine zs_call rfl (want_L rfl) rfl (by decide) rfl (sHas_calls (h1.no C).st (by simp only [List.length_cons]; omega) (l := [[116, 98, 111, 100, 121]]) hr (by simp) 4 (by decide)) ?_
 rintro _ wy ⟨⟨y, rfl, hy, _⟩, hC⟩
 have C := C.no hC
 have hb := hb0.no C
 have hb3 := hb30.no C
 refine ⟨_, rfl, ⟨C, hb, hb3⟩, ?_⟩
 rw [hy (by simp) (by rw [hfn]; decide)]
 refine zs_fin ?_
 refine zK (zT rfl (zS (zR (zP rfl ?_))))
 refine z_bsE (T.cellsS [[116, 98, 111, 100, 121], [116, 102, 111, 111, 116], [116, 104, 101, 97, 100]]) (want_L rfl) (by decide) rfl (by decide) (by decide) (by kernel_rfl) (fun wx cb hMx => ?_)
 have hr : RdS wx 9 1 (.slice (some ⟨cb, 0, none⟩) 3 3) 3 (T.cellsS [[116, 98, 111, 100, 121], [116, 102, 111, 111, 116], [116, 104, 101, 97, 100]]) := RdS.new hMx rfl (T.cellsS_one _)
 have hC := hMx.chg
 have C := C.no hC
 have hb := hb0.no C
 have hb3 := hb30.no C
 refine zCl rfl (back_calls (h1.no C) (by omega) (l := [[116, 98, 111, 100, 121], [116, 102, 111, 111, 116], [116, 104, 101, 97, 100]]) hr (by decide) (by rw [hfn]; decide) (by rw [hfn]; decide)) ?_
 rintro _ wy ⟨rfl, hC⟩
 refine ⟨_, rfl, ?_⟩
 have C := C.no hC
 have hb := hb0.no C
 have hb3 := hb30.no C
 refine zN (zK (zR (zP rfl (zP rfl (zfa rfl (zlB rfl ?_))))))
 refine zCl rfl (sPop_calls (h1.no C).st (by omega)) ?_
 rintro _ wz hp
 obtain rfl := hp.1
 refine ⟨_, rfl, ?_⟩
 have hbp := BPost.pre (hN1.chg.no C) (hp.toB (h1.no C) ((hM.skip (mk1_none (by rw [hfn]; decide) (by rw [hfn]; decide))).rename rfl))
 refine zN (zM ?_)
 exact zk_ret0 (.inl rfl) rfl (hbp.ret (Chg.refl _ _))
theorem row_start (h : IsB w b t q N (n :: m :: R) (f :: g :: fr) sk) (hM : MOk q.M (n :: m :: R) (f :: g :: fr)) (hf : fr.length ≤ 700) (hl : N.length ≤ 1900000) (hfn : f.nm = [116, 114]) (nm : List UInt8) (hn : nm ∈ cellN) (al : List T.At) {va : Value} (ha : AttrS w va (encT al)) (hal : al.length ≤ 1000000) :
  Calls Tryz.prog 95 [.pointer (some ⟨b, 0, none⟩), T.tokV 1 nm va []].toArray w (BPost w b t q (⟨nm, al, .nil⟩ :: f :: g :: fr) sk (N.length + 1) (.tuple #[])) := by
 obtain ⟨A0, c0, rfl, _⟩ := ha.form
 have AV := ha
 unfold T.tokV
 refine zCz 70 Tryz.func95 ?_
 refine zS (zR ?_)
 refine zBx rfl (fun w1 b3 hN1 => ?_)
 have hb30 : Blk w1 b3 66 [.int .i64 1, .string (bs nm), .slice A0 (encT al).length c0, .bool false, .string (bs [])] := hN1.blk
 have h1 := h.no hN1.chg
 have AV := AV.no hN1.chg
 have hb0 := h1.blk
 have hb := hb0
 have hb3 := hb30
 have C : Chg w1 w1 No := Chg.refl _ _
 refine zN (zK (zB (zS (zR (zlA rfl ?_)))))
 refine zCl rfl (startK_calls 1 nm [] Y1 (AV.no C) (by decide)) ?_
 rintro _ wx ⟨rfl, hC⟩
 refine ⟨_, rfl, ?_⟩
 rw [decide_eq_true (⟨rfl, ((show ∀ a ∈ cellN, a ∈ B.wd Y1 by decide +kernel) nm hn)⟩ : (1 : Int) = 1 ∧ nm ∈ B.wd Y1)]
 have C := C.no hC
 have hb := hb0.no C
 have hb3 := hb30.no C
 refine zP rfl (zN (zK (zT rfl (zS (zR (zP rfl ?_))))))
 refine zB1 rfl (fun wx cb hMx => ?_)
 have hr : RdS wx 9 1 (.slice (some ⟨cb, 0, none⟩) 1 1) 1 (T.cellsS [[116, 114]]) := RdS.new hMx rfl (T.cellsS_one _)
 have hC := hMx.chg
 have C := C.no hC
 have hb := hb0.no C
 have hb3 := hb30.no C
 refine zCl rfl (back_calls (h1.no C) (by omega) (l := [[116, 114]]) hr (by decide) (by rw [hfn]; decide) (by rw [hfn]; decide)) ?_
 rintro _ wy ⟨rfl, hC⟩
 refine ⟨_, rfl, ?_⟩
 have C := C.no hC
 have hb := hb0.no C
 have hb3 := hb30.no C
 have hMl := hM.len
 simp only [List.length_cons] at hMl
 refine zN (zK (zS (zR (zP rfl (zlA rfl ?_)))))
 refine zCl rfl (enter_calls (h1.no C) (by simp only [List.length_cons]; omega) hl nm al (AV.no C) hal) ?_
 rintro _ wz ⟨rfl, q1, N1, g1, g2, g3, g4⟩
 refine ⟨_, rfl, ?_⟩
 obtain ⟨i1, i2⟩ := (h1.no C).stW g1 g2
 have hbz := i1.blk
 have hbt := i1.st.site.blk
 refine zN (zK (zR (zP rfl (zP rfl (zfa rfl (zlB rfl ?_))))))
 refine zP rfl (zfa rfl (zlB rfl ?_))
 refine zCl rfl (mkWall_calls i1.st.mar (by rw [g3]; omega)) ?_
 rintro _ wv ⟨rfl, vm, g5, g6, g7⟩
 refine ⟨_, rfl, ?_⟩
 obtain ⟨j1, j2⟩ := i1.st.mkW g5 g6 g7
 obtain ⟨j3, j4⟩ := i1.stW j1 j2
 refine zN (zM ?_)
 refine zk_ret0 (.inl rfl) rfl ⟨rfl, _, N1, N.length :: n :: m :: R, j3, ?_, (WrB.of_no (hN1.chg.no C) _ _ _).trans (i2.trans j4), g4⟩
 show (q1.M ++ [MK.wall]).map MK.key = mks (n :: m :: R) (f :: g :: fr) ++ mk1 N.length nm
 rw [List.map_append, g3, hM, show mk1 N.length nm = [((-1 : Int), [])] by unfold mk1; rw [if_neg ((show ∀ a ∈ cellN, a ∉ fmtN by decide) nm hn), if_pos hn]]
 rfl
theorem row_end (h : IsB w b t q N (n :: m :: R) (f :: g :: fr) sk) (hM : MOk q.M (n :: m :: R) (f :: g :: fr)) (hf : fr.length ≤ 700) (hfn : f.nm = [116, 114]) :
  Calls Tryz.prog 95 [.pointer (some ⟨b, 0, none⟩), T.tokV 2 [116, 114] T.nS []].toArray w (BPost w b t q (g.shut f :: fr) sk N.length (.tuple #[])) := by
 have AV := AttrS.nS w
 unfold T.tokV
 refine zCz 70 Tryz.func95 ?_
 refine zS (zR ?_)
 refine zBx rfl (fun w1 b3 hN1 => ?_)
 have hb30 : Blk w1 b3 66 [.int .i64 2, .string (bs [116, 114]), .slice none 0 0, .bool false, .string (bs [])] := hN1.blk
 have h1 := h.no hN1.chg
 have AV := AV.no hN1.chg
 have hb0 := h1.blk
 have hb := hb0
 have hb3 := hb30
 have C : Chg w1 w1 No := Chg.refl _ _
 refine zN (zK (zB (zS (zR (zlA rfl ?_)))))
 refine zCl rfl (startK_calls 2 [116, 114] [] Y1 (AV.no C) (by decide)) ?_
 rintro _ wx ⟨rfl, hC⟩
 refine ⟨_, rfl, ?_⟩
 rw [decide_eq_false (fun hx : (2 : Int) = 1 ∧ [116, 114] ∈ B.wd Y1 => absurd hx.1 (by decide))]
 have C := C.no hC
 have hb := hb0.no C
 have hb3 := hb30.no C
 refine zP rfl (zN (zK (zF rfl (zS (zR (zlA rfl ?_))))))
 refine zCl rfl (endK_calls 2 [116, 114] [] V6 (AV.no C) (by decide)) ?_
 rintro _ wx ⟨rfl, hC⟩
 refine ⟨_, rfl, ?_⟩
 rw [decide_eq_true (⟨rfl, (by decide +kernel)⟩ : (2 : Int) = 2 ∧ [116, 114] ∈ B.wd V6)]
 have C := C.no hC
 have hb := hb0.no C
 have hb3 := hb30.no C
 refine zP rfl (zN (zK (zT rfl (zS (zR (zP rfl ?_))))))
 refine zB1 rfl (fun wx cb hMx => ?_)
 have hr : RdS wx 9 1 (.slice (some ⟨cb, 0, none⟩) 1 1) 1 (T.cellsS [[116, 114]]) := RdS.new hMx rfl (T.cellsS_one _)
 have hC := hMx.chg
 have C := C.no hC
 have hb := hb0.no C
 have hb3 := hb30.no C
 refine zCl rfl (back_calls (h1.no C) (by omega) (l := [[116, 114]]) hr (by decide) (by rw [hfn]; decide) (by rw [hfn]; decide)) ?_
 rintro _ wy ⟨rfl, hC⟩
 refine ⟨_, rfl, ?_⟩
 have C := C.no hC
 have hb := hb0.no C
 have hb3 := hb30.no C
 refine zN (zK (zR (zP rfl (zP rfl (zfa rfl (zlB rfl ?_))))))
 refine zCl rfl (sPop_calls (h1.no C).st (by omega)) ?_
 rintro _ wz hp
 obtain rfl := hp.1
 refine ⟨_, rfl, ?_⟩
 have hbp := BPost.pre (hN1.chg.no C) (hp.toB (h1.no C) ((hM.skip (mk1_none (by rw [hfn]; decide) (by rw [hfn]; decide))).rename rfl))
 refine zN (zM ?_)
 exact zk_ret0 (.inl rfl) rfl (hbp.ret (Chg.refl _ _))
theorem cell_end (h : IsB w b t q N (n :: m :: R) (f :: g :: fr) sk) (hM : MOk q.M (n :: m :: R) (f :: g :: fr)) (hf : fr.length ≤ 700) (hn : f.nm ∈ cellN) :
  Calls Tryz.prog 91 [.pointer (some ⟨b, 0, none⟩), T.tokV 2 f.nm T.nS []].toArray w (BPost w b t q (g.shut f :: fr) sk N.length (.tuple #[])) := by
 have AV := AttrS.nS w
 unfold T.tokV
 refine zCz 44 Tryz.func91 ?_
 refine zS (zR ?_)
 refine zBx rfl (fun w1 b3 hN1 => ?_)
 have hb30 : Blk w1 b3 66 [.int .i64 2, .string (bs f.nm), .slice none 0 0, .bool false, .string (bs [])] := hN1.blk
 have h1 := h.no hN1.chg
 have AV := AV.no hN1.chg
 have hb0 := h1.blk
 have hb := hb0
 have hb3 := hb30
 refine zN (zK (zS ?_))
 refine zc_draw [] (fun w' => Chg w1 w' No ∧ Blk w' b 64 [.pointer (some ⟨t, 0, none⟩), .int .i64 0, .string ⟨#[]⟩, .bool sk] ∧ Blk w' b3 66 [.int .i64 2, .string (bs f.nm), .slice none 0 0, .bool false, .string (bs [])]) (.take 0 (.take 1 (.take 2 (.take 3 (.take 4 (.take 5 (.all1 6 (.all1 7 (.take 8 (.fin)))))))))) (by rfl) (by kernel_rfl) (by kernel_rfl) (fun w2 hC2 _ => ⟨?_, ?_⟩)
 ·exact ⟨hC2, hb.no hC2, hb30.no hC2⟩
 refine ztP rfl rfl (ztP rfl rfl (zRd rfl rfl (fun _ hS => r_fa rfl) ?_))
 refine zRd rfl rfl (fun _ hS => r_loadB rfl hS.2.1 (by rfl)) ?_
 refine zRd rfl rfl (fun _ hS => r_fa rfl) ?_
 refine zRd rfl rfl (fun _ hS => r_loadB rfl hS.2.2 (by rfl)) ?_
 refine zs_bs1 rfl (want_L rfl) (by decide) rfl (by rfl) (by rfl) (by decide) (by decide) (fun w3 cb hM3 => ?_)
 have C := hC2.no hM3.chg
 have hr : RdS w3 9 1 (.slice (some ⟨cb, 0, none⟩) 1 1) 1 (T.cellsS [f.nm]) := RdS.new hM3 rfl (T.cellsS_one _)
 refine ⟨⟨C, hb0.no C, hb30.no C⟩, ?_⟩
 refine zs_call rfl (want_L rfl) rfl (by decide) rfl (sHas_calls (h1.no C).st (by simp only [List.length_cons]; omega) (l := [f.nm]) hr (by simp) 4 (by decide)) ?_
 rintro _ w4 ⟨⟨y, rfl, hy, _⟩, hC⟩
 have C := C.no hC
 have hb := hb0.no C
 have hb3 := hb30.no C
 refine ⟨_, rfl, ⟨C, hb, hb3⟩, ?_⟩
 rw [hy (by simp) (by simp)]
 refine ztP rfl rfl ?_
 refine zs_fin ?_
 refine zK (zB (zS (zR (zlA rfl ?_))))
 refine zCl rfl (endK_calls 2 f.nm [] Y1 (AV.no C) (by decide)) ?_
 rintro _ wx ⟨rfl, hC⟩
 refine ⟨_, rfl, ?_⟩
 rw [decide_eq_true (⟨rfl, ((show ∀ a ∈ cellN, a ∈ B.wd Y1 by decide +kernel) f.nm hn)⟩ : (2 : Int) = 2 ∧ f.nm ∈ B.wd Y1)]
 have C := C.no hC
 have hb := hb0.no C
 have hb3 := hb30.no C
 refine zP rfl (zN (zK (zT rfl (zS (zR (zP rfl (zN (zK (zT rfl (zR (zP rfl (zfa rfl (zlB rfl ?_)))))))))))))
 refine zB1 rfl (fun wx cb hMx => ?_)
 have hr : RdS wx 9 1 (.slice (some ⟨cb, 0, none⟩) 1 1) 1 (T.cellsS [f.nm]) := RdS.new hMx rfl (T.cellsS_one _)
 have C := C.no hMx.chg
 refine zCl rfl (closeC_calls (h1.no C) hM (by omega) hn (l := [f.nm]) hr (by simp) (by simp)) ?_
 rintro _ wz hp
 obtain rfl := hp.1
 refine ⟨_, rfl, ?_⟩
 refine zN (zM ?_)
 exact zk_ret0 (.inl rfl) rfl (BPost.pre (hN1.chg.no C) hp)
end
end Go.Proofs.YtbcmiijollpgeaaGreat.D
