import Derived.Test.YtbcmiijollpgeaaPTab2
/- Blocks of a tape: what the parts of the drawn regions tell (printed by gent.py). -/
namespace Go.Proofs.Ytbcmiijollpgeaa.T
open Go Go.Z Go.Proofs
set_option linter.unusedVariables false
def lP : List (List UInt8) := [[112], [112], [112, 114, 101], [112]]
def lH : List (List UInt8) := [[104, 50], [104, 51], [104, 52], [104, 53], [104, 54]]
theorem lP_nm : ∀ x ∈ lP, x ∈ lNm := by decide
theorem lH_nm : ∀ x ∈ lH, x ∈ lNm := by decide
def GP (bt kk : Nat) (Bz N : Nat) (vC : Value) (tC : AT) : Nat → Value → World → Prop
  | 0, v, w => v = vC
  | 1, v, w => ∃ b, v = .slice (some ⟨b, 0, none⟩) 4 4 ∧ Blk w b 9 (strs lP)
  | 2, v, w => v = .int .i64 kk
  | 3, v, w => ∃ b, v = .pointer (some ⟨b, kk, none⟩) ∧ Blk w b 9 (strs lP)
  | 4, v, w => ∃ s ∈ lP, v = .string (bs s)
  | 5, v, w => v = .pointer (some ⟨bt, 0, none⟩)
  | 6, v, w => ∃ kt, KidOk w Bz N vC v kt
  | 7, v, w => ∃ s ∈ lP, ∃ K kt, v = .agg #[.string (bs s), nS, .string (bs []), nS, K] ∧ KidOk w Bz N vC K kt
  | 8, v, w => ∃ s ∈ lP, ∃ K kt, RdS w 38 5 v 1 (encM [mE s K]) ∧ KidOk w Bz N vC K kt
  | 9, v, w => ∃ s ∈ lP, ∃ kt, Out Bz w v (tC.snoc ⟨s, [], []⟩ kt) ∧ kt.ok ∧ kt.size ≤ N
  | _, _, _ => True
theorem GP.tp {bt kk : Nat} {Bz N B : Nat} {vC : Value} {tC : AT} {w w' : World} (hT : Tp w B bt) (hc : Chg w w' (· = bt)) : ∀ j u, GP bt kk Bz N vC tC j u w → GP bt kk Bz N vC tC j u w'
  | 0, u, h => h
  | 1, u, ⟨b, h1, h2⟩ => ⟨b, h1, keepT hT hc _ _ _ (by decide) h2⟩
  | 2, u, h => h
  | 3, u, ⟨b, h1, h2⟩ => ⟨b, h1, keepT hT hc _ _ _ (by decide) h2⟩
  | 4, u, h => h
  | 5, u, h => h
  | 6, u, ⟨kt, h⟩ => ⟨kt, h.tp hT hc⟩
  | 7, u, ⟨s, hs, K, kt, h1, h2⟩ => ⟨s, hs, K, kt, h1, h2.tp hT hc⟩
  | 8, u, ⟨s, hs, K, kt, h1, h2⟩ => ⟨s, hs, K, kt, RdS.tp h1 hT hc (by decide), h2.tp hT hc⟩
  | 9, u, ⟨s, hs, kt, h1, h2⟩ => ⟨s, hs, kt, h1.tp hT hc, h2⟩
  | _ + 10, u, h => trivial
theorem GP.no {bt kk : Nat} {Bz N B : Nat} {vC : Value} {tC : AT} {w w' : World} (hT : Tp w B bt) (hc : Chg w w' No) (j : Nat) (u : Value) (h : GP bt kk Bz N vC tC j u w) : GP bt kk Bz N vC tC j u w' := GP.tp hT (hc.mono (fun _ _ h => h.elim)) j u h
def killGP : Nat → Nat
  | 8 => 9
  | _ => 100
theorem GP.own {bt kk : Nat} {Bz N : Nat} {vC : Value} {tC : AT} {w w' : World} (hO : Out Bz w vC tC) (hc : Chg w w' (fun j => vC.ownBlock = some j)) : ∀ j u, j ≠ 9 → killGP j ≠ 9 → GP bt kk Bz N vC tC j u w → GP bt kk Bz N vC tC j u w'
  | 0, u, _, _, h => h
  | 1, u, _, _, ⟨b, h1, h2⟩ => ⟨b, h1, hO.blk hc h2⟩
  | 2, u, _, _, h => h
  | 3, u, _, _, ⟨b, h1, h2⟩ => ⟨b, h1, hO.blk hc h2⟩
  | 4, u, _, _, h => h
  | 5, u, _, _, h => h
  | 6, u, _, _, ⟨kt, h⟩ => ⟨kt, h.own hO hc⟩
  | 7, u, _, _, ⟨s, hs, K, kt, h1, h2⟩ => ⟨s, hs, K, kt, h1, h2.own hO hc⟩
  | 8, u, _, hk, h => absurd rfl hk
  | 9, u, h13, _, h => absurd rfl h13
  | _ + 10, u, _, _, h => trivial
def GH (bt kk : Nat) (Bz N : Nat) (vC : Value) (tC : AT) : Nat → Value → World → Prop
  | 0, v, w => v = vC
  | 1, v, w => v = .pointer (some ⟨bt, 0, none⟩)
  | 2, v, w => ∃ k : Nat, k < 5 ∧ v = .int .i64 k
  | 3, v, w => ∃ k : Nat, k < 5 ∧ v = .int .i64 (50 + (k : Int))
  | 4, v, w => ∃ k : Nat, k < 5 ∧ v = .int .u8 (UInt8.ofNat (50 + k)).toNat
  | 5, v, w => ∃ b, ∃ k : Nat, k < 5 ∧ v = .slice (some ⟨b, 0, none⟩) 1 1 ∧ Blk w b 5 (cellsB [UInt8.ofNat (50 + k)])
  | 6, v, w => ∃ k : Nat, k < 5 ∧ v = .string (bs [UInt8.ofNat (50 + k)])
  | 7, v, w => ∃ s ∈ lH, v = .string (bs s)
  | 8, v, w => v = .pointer (some ⟨bt, 0, none⟩)
  | 9, v, w => ∃ kt, KidOk w Bz N vC v kt
  | 10, v, w => ∃ s ∈ lH, ∃ K kt, v = .agg #[.string (bs s), nS, .string (bs []), nS, K] ∧ KidOk w Bz N vC K kt
  | 11, v, w => ∃ s ∈ lH, ∃ K kt, RdS w 38 5 v 1 (encM [mE s K]) ∧ KidOk w Bz N vC K kt
  | 12, v, w => ∃ s ∈ lH, ∃ kt, Out Bz w v (tC.snoc ⟨s, [], []⟩ kt) ∧ kt.ok ∧ kt.size ≤ N
  | _, _, _ => True
theorem GH.tp {bt kk : Nat} {Bz N B : Nat} {vC : Value} {tC : AT} {w w' : World} (hT : Tp w B bt) (hc : Chg w w' (· = bt)) : ∀ j u, GH bt kk Bz N vC tC j u w → GH bt kk Bz N vC tC j u w'
  | 0, u, h => h
  | 1, u, h => h
  | 2, u, h => h
  | 3, u, h => h
  | 4, u, h => h
  | 5, u, ⟨b, k, h1, h2, h3⟩ => ⟨b, k, h1, h2, keepT hT hc _ _ _ (by decide) h3⟩
  | 6, u, h => h
  | 7, u, h => h
  | 8, u, h => h
  | 9, u, ⟨kt, h⟩ => ⟨kt, h.tp hT hc⟩
  | 10, u, ⟨s, hs, K, kt, h1, h2⟩ => ⟨s, hs, K, kt, h1, h2.tp hT hc⟩
  | 11, u, ⟨s, hs, K, kt, h1, h2⟩ => ⟨s, hs, K, kt, RdS.tp h1 hT hc (by decide), h2.tp hT hc⟩
  | 12, u, ⟨s, hs, kt, h1, h2⟩ => ⟨s, hs, kt, h1.tp hT hc, h2⟩
  | _ + 13, u, h => trivial
theorem GH.no {bt kk : Nat} {Bz N B : Nat} {vC : Value} {tC : AT} {w w' : World} (hT : Tp w B bt) (hc : Chg w w' No) (j : Nat) (u : Value) (h : GH bt kk Bz N vC tC j u w) : GH bt kk Bz N vC tC j u w' := GH.tp hT (hc.mono (fun _ _ h => h.elim)) j u h
def killGH : Nat → Nat
  | 11 => 12
  | _ => 100
theorem GH.own {bt kk : Nat} {Bz N : Nat} {vC : Value} {tC : AT} {w w' : World} (hO : Out Bz w vC tC) (hc : Chg w w' (fun j => vC.ownBlock = some j)) : ∀ j u, j ≠ 12 → killGH j ≠ 12 → GH bt kk Bz N vC tC j u w → GH bt kk Bz N vC tC j u w'
  | 0, u, _, _, h => h
  | 1, u, _, _, h => h
  | 2, u, _, _, h => h
  | 3, u, _, _, h => h
  | 4, u, _, _, h => h
  | 5, u, _, _, ⟨b, k, h1, h2, h3⟩ => ⟨b, k, h1, h2, hO.blk hc h3⟩
  | 6, u, _, _, h => h
  | 7, u, _, _, h => h
  | 8, u, _, _, h => h
  | 9, u, _, _, ⟨kt, h⟩ => ⟨kt, h.own hO hc⟩
  | 10, u, _, _, ⟨s, hs, K, kt, h1, h2⟩ => ⟨s, hs, K, kt, h1, h2.own hO hc⟩
  | 11, u, _, hk, h => absurd rfl hk
  | 12, u, h13, _, h => absurd rfl h13
  | _ + 13, u, _, _, h => trivial
end Go.Proofs.Ytbcmiijollpgeaa.T
