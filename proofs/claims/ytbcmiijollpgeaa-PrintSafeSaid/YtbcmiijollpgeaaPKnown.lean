import Derived.Test.YtbcmiijollpgeaaPText
/- What the document fixes; of these articles just these texts come. -/
namespace Go.Proofs.Ytbcmiijollpgeaa.T
open Go Go.Z Go.Proofs
set_option linter.unusedVariables false
theorem Rows.one {s : Bool} {w : World} : ∀ (t : AT) (ms : List MA), Rows s w t ms → ∀ u ∈ encM ms, u.oneCell' = true
  | .nil, ms, h, u, hu => by
    have : ms = [] := h
    subst this; simp [encM] at hu
  | .cons x k r, ms, h, u, hu => by
    obtain ⟨m, q, rfl, ⟨_, h2, _, A, n, c, h3⟩, ⟨ks, h4, _⟩, h5⟩ := h
    obtain ⟨A1, c1, h6, _⟩ := h2.form
    obtain ⟨A2, c2, h7, _⟩ := h4.form
    simp only [encM, List.mem_cons] at hu
    rcases hu with rfl | rfl | rfl | rfl | rfl | hu
    · rfl
    · rw [h6]; rfl
    · rfl
    · rw [h3]; rfl
    · rw [h7]; rfl
    · exact Rows.one r q h5 u hu
theorem tree_new {s : Bool} {w w' : World} {b : Nat} {t : AT} {ms : List MA} (hN : New w w' b 38 (encM ms)) (hR : Rows s w t ms) : TreeAt s w' (.slice (some ⟨b, 0, none⟩) ms.length ms.length) t :=
  ⟨ms, Rx.of (RdS.new hN (encM_len ms) (Rows.one t ms hR)), Rows.no hN.chg t ms hR⟩
abbrev nS : Value := .slice none 0 0
theorem isSl_nil : isSl nS := ⟨none, 0, 0, rfl⟩
/-- one art more ahead -/
theorem rows_cons {s : Bool} {w : World} {nm tx : List UInt8} {A K : Value} {l : List At} {k r : AT} {q : List MA} (hA : AttrS s w A l) (hK : TreeAt s w K k) (hr : Rows s w r q) : Rows s w (.cons ⟨nm, l, tx⟩ k r) (⟨nm, A, tx, nS, K⟩ :: q) :=
  ⟨_, q, rfl, ⟨rfl, hA, rfl, isSl_nil⟩, hK, hr⟩
theorem rows_nil {s : Bool} {w : World} : Rows s w .nil [] := rfl
/-- an art of a text, of a name, of a name and kids -/
abbrev aT (tx : List UInt8) : AT := .cons ⟨[], [], tx⟩ .nil .nil
abbrev aN (nm : List UInt8) (k : AT) : AT := .cons ⟨nm, [], []⟩ k .nil
theorem att_new {s : Bool} {w w' : World} {b : Nat} {l : List At} (hN : New w w' b 33 (encA l)) : AttrS s w' (.slice (some ⟨b, 0, none⟩) l.length l.length) l :=
  Rx.of (RdS.new hN (encA_len l) (encA_one l))
set_option maxRecDepth 100000 in
set_option maxHeartbeats 4000000 in
theorem known_calls {w : World} : Calls Try.prog 7 ([] : List Value).toArray w fun e w' => e = .returned (.bool true) ∧ Chg w w' No := by
  have hbig : big = 1000000000000 := rfl
  refine calls_zc (n := 12) (f := 7) (fn := Try.f7) Try.func7 rfl rfl (by simp) ?_
  refine zc_seq ?_
  refine zc_region ?_
  refine zl_pureL rfl ?_
  refine zl_nil ?_
  refine zk_seq ?_
  refine zc_seq ?_
  refine zc_region ?_
  refine z_buildE #[.string (bs nHr), nS, .string (bs []), nS, nS] (by first | exact want_none | exact want_L rfl) (by decide) rfl (by kernel_rfl) ?_
  refine z_buildE #[.string (bs []), nS, .string (bs [13]), nS, nS] (by first | exact want_none | exact want_L rfl) (by decide) rfl (by kernel_rfl) ?_
  refine z_bsE (encM [⟨nHr, nS, [], nS, nS⟩, ⟨[], nS, [13], nS, nS⟩]) (by first | exact want_none | exact want_L rfl) (by decide) rfl (by decide) (by decide) (by kernel_rfl) (fun w1 b1 hN1 => ?_)
  have hT1 := tree_new (s := true) hN1 (rows_cons (nm := nHr) (tx := []) (AttrS.nil w) TreeAt.nil (rows_cons (nm := []) (tx := [13]) (AttrS.nil w) TreeAt.nil rows_nil))
  refine zl_call (by first | exact want_none | exact want_L rfl) rfl (by decide) rfl (text_calls hT1.weak (by decide)) ?_
  rintro _ w2 ⟨rfl, hC2⟩
  refine ⟨_, rfl, ?_⟩
  refine z_eqL (r := [60, 104, 114, 62, 38, 35, 49, 51, 59]) (by first | exact want_none | exact want_L rfl) (by decide) rfl rfl (fun hc => ?_) (fun hc => absurd (by decide) hc)
  refine zl_pureL rfl ?_
  refine z_buildE #[.string (bs [98]), .string (bs [34])] (by first | exact want_none | exact want_L rfl) (by decide) rfl (by kernel_rfl) ?_
  refine z_bsE (encA [([98], [34])]) (by first | exact want_none | exact want_L rfl) (by decide) rfl (by decide) (by decide) (by kernel_rfl) (fun w3 b3 hN3 => ?_)
  have hA3 := att_new (s := false) hN3
  refine zl_call (by first | exact want_none | exact want_L rfl) rfl (by decide) rfl (open_calls [97] hA3 (by decide)) ?_
  rintro _ w4 ⟨rfl, hC4⟩
  refine ⟨_, rfl, ?_⟩
  refine z_eqL (r := [60, 97, 32, 98, 61, 34, 38, 113, 117, 111, 116, 59, 34, 62]) (by first | exact want_none | exact want_L rfl) (by decide) rfl rfl (fun hc => ?_) (fun hc => absurd (by decide) hc)
  iterate 2 (refine zl_pureL rfl ?_)
  refine zl_nil ?_
  refine zk_seq ?_
  refine zc_ret ?_
  exact zk_ret1 (.inr rfl) rfl rfl ⟨rfl, ((hN1.chg.no hC2).no hN3.chg).no hC4⟩
end Go.Proofs.Ytbcmiijollpgeaa.T
