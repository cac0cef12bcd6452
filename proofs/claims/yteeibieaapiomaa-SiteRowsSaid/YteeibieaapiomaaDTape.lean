import Derived.Test.YteeibieaapiomaaDWords
import Derived.Test.YteeibieaapiomaaDKnown
/- Nodes made of a tape of numbers: plain lists; the tape. -/
namespace Go.Proofs.Yteeibieaapiomaa.D
open Go Go.Z Go.Proofs
set_option linter.unusedVariables false
/-- a row of numbers that is handed in -/
def IsRow (k : IntKind) (w : World) (a : Option Addr) (len cap : Nat) (zs : List Int) : Prop :=
  (a = none ∧ len = 0 ∧ cap = 0 ∧ zs = []) ∨
  ∃ x, a = some x ∧ len ≤ cap ∧ cap ≤ maxLen ∧ zs.length = cap ∧ (∀ i, i < zs.length → w.cell? (x.add i) = some (.int k (zs.getD i 0))) ∧ ∀ n ∈ zs, (Lit.int k n).wf = true
theorem IsRow.le {k : IntKind} {w : World} {a : Option Addr} {len cap : Nat} {zs : List Int} (h : IsRow k w a len cap zs) : len ≤ cap ∧ cap ≤ 9223372036854775807 ∧ zs.length = cap := by
  rcases h with ⟨rfl, rfl, rfl, rfl⟩ | ⟨x, rfl, h1, h2, h3, _⟩
  · exact ⟨Nat.le_refl _, by decide, rfl⟩
  · exact ⟨h1, by simpa [maxLen] using h2, h3⟩
theorem IsRow.at_ {k : IntKind} {w : World} {a : Option Addr} {len cap : Nat} {zs : List Int} (h : IsRow k w a len cap zs) (i : Nat) (hi : i < len) : ∃ b o, a = some ⟨b, o, none⟩ ∧ w.cell? ⟨b, o + i, none⟩ = some (.int k (zs.getD i 0)) := by
  rcases h with ⟨rfl, rfl, rfl, rfl⟩ | ⟨x, rfl, h1, h2, h3, h4, h5⟩
  · omega
  · have h0 := h4 0 (by omega)
    have hx : x.add 0 = x := by unfold Addr.add; rw [if_pos rfl]
    rw [hx] at h0
    obtain ⟨b, o, s⟩ := x
    have hs : s = none := by
      unfold World.cell? at h0
      split at h0
      · split at h0
        · cases h0
        · rename_i hn; simpa using hn
      · cases h0
    subst hs
    refine ⟨b, o, rfl, ?_⟩
    have := h4 i (by omega)
    rwa [addr_add] at this
/-- the next number, from 0 to n - 1 -/
def nx (zs : List Int) (len at_ n : Nat) : Nat × Nat := if at_ < len then ((zs.getD at_ 0 % (n : Int)).toNat, at_ + 1) else (0, at_)
theorem nx_lt (zs : List Int) (len at_ n : Nat) (hn : 0 < n) : (nx zs len at_ n).1 < n := by
  unfold nx
  split
  · have h0 := Int.emod_nonneg (zs.getD at_ 0) (show (n : Int) ≠ 0 by omega)
    have h1 := Int.emod_lt_of_pos (zs.getD at_ 0) (show (0 : Int) < n by omega)
    show (zs.getD at_ 0 % (n : Int)).toNat < n
    omega
  · exact hn
/-- a tape that was made since w0 -/
structure Tp (w0 w : World) (bt : Nat) (a : Option Addr) (len cap : Nat) (zs : List Int) (at_ : Nat) : Prop where
  blk : Blk w bt 30 [.slice a len cap, .int .i64 at_]
  row : IsRow .i64 w0 a len cap zs
  chg : Chg w0 w No
  ge : w0.heap.size ≤ bt
  le : at_ ≤ len
theorem Tp.no {w0 w w' : World} {bt : Nat} {a : Option Addr} {len cap : Nat} {zs : List Int} {at_ : Nat} (h : Tp w0 w bt a len cap zs at_) (hc : Chg w w' No) : Tp w0 w' bt a len cap zs at_ := ⟨h.blk.no hc, h.row, h.chg.no hc, h.ge, h.le⟩
theorem Tp.oth {w0 w w' : World} {bt : Nat} {a : Option Addr} {len cap : Nat} {zs : List Int} {at_ : Nat} {S : Nat → Prop} (h : Tp w0 w bt a len cap zs at_) (hc : Chg w w' S) (h1 : ¬ S bt) (h2 : ∀ k, S k → w0.heap.size ≤ k) : Tp w0 w' bt a len cap zs at_ :=
  ⟨h.blk.chg hc h1, h.row, h.chg.trans hc (fun i hi hs => by have := h2 i hs; omega), h.ge, h.le⟩
theorem more_calls {w0 w : World} {bt : Nat} {a : Option Addr} {len cap : Nat} {zs : List Int} {at_ : Nat} (h : Tp w0 w bt a len cap zs at_) :
    Calls Try.prog 13 [.pointer (some ⟨bt, 0, none⟩)].toArray w fun e w' => e = .returned (.bool (decide (at_ < len))) ∧ Chg w w' No := by
  refine calls_zc (n := 13) (f := 13) (fn := Try.f13) Try.func13 rfl rfl (by simp) ?_
  refine zc_seq ?_
  refine zc_region ?_
  refine zl_pureL rfl ?_
  refine zl_nil ?_
  refine zk_seq ?_
  refine zc_seq ?_
  refine zc_draw [] (fun w' => Blk w' bt 30 [.slice a len cap, .int .i64 at_]) (.take 0 (.take 1 (.take 2 (.take 3 (.take 4 (.take 5 (.take 6 (.take 7 (.take 8 (.take 9 (.take 10 (.fin)))))))))))) (by rfl) (by kernel_rfl) (by kernel_rfl) (fun w1 hC1 hH1 => ⟨?_, ?_⟩)
  · exact h.blk.no hC1
  iterate 2 (refine zs_take rfl (zt_pure rfl ?_))
  refine zs_rdL rfl want_none rfl (by decide) (fun _ hS => r_fa rfl) ?_
  refine zs_rdL rfl want_none rfl (by decide) (fun _ hS => r_loadB rfl hS (by rfl)) ?_
  iterate 2 (refine zs_take rfl (zt_pure rfl ?_))
  refine zs_rdL rfl want_none rfl (by decide) (fun _ hS => r_fa rfl) ?_
  refine zs_rdL rfl want_none rfl (by decide) (fun _ hS => r_loadB rfl hS (by rfl)) ?_
  refine zs_rdL rfl want_none rfl (by decide) (fun _ hS => r_len rfl) ?_
  refine zs_rdL rfl (by first | exact want_none | exact want_L rfl) rfl (by decide) (fun _ hS => r_cmpB (r := decide (at_ < len)) rfl rfl rfl (by simp)) ?_
  refine zs_take rfl (zt_pure rfl ?_)
  refine zs_fin ?_
  refine zk_seq ?_
  refine zc_ret ?_
  exact zk_ret1 (.inr rfl) rfl rfl ⟨rfl, hC1⟩
theorem next'_calls {w0 w : World} {bt : Nat} {a : Option Addr} {len cap : Nat} {zs : List Int} {at_ : Nat} (h : Tp w0 w bt a len cap zs at_) (n : Nat) (hn : 0 < n) (hn2 : n ≤ 1000000000) {ni : Int} (hni : ni = (n : Int)) :
    Calls Try.prog 14 [.pointer (some ⟨bt, 0, none⟩), .int .i64 ni].toArray w fun e w' => e = .returned (.int .i64 ((nx zs len at_ n).1 : Nat)) ∧ Tp w0 w' bt a len cap zs (nx zs len at_ n).2 ∧ Chg w w' (· = bt) := by
  subst hni
  obtain ⟨hlc, hcm, _⟩ := h.row.le
  have hat := h.le
  refine calls_zc (n := 35) (f := 14) (fn := Try.f14) Try.func14 rfl rfl (by simp) ?_
  refine zc_seq ?_
  refine zc_region ?_
  refine zl_pureL rfl ?_
  refine zl_nil ?_
  refine zk_seq ?_
  iterate 2 (refine zc_seq ?_)
  refine zc_draw [] (fun w' => Blk w' bt 30 [.slice a len cap, .int .i64 at_]) (.take 0 (.take 1 (.take 2 (.take 3 (.take 4 (.take 5 (.take 6 (.take 7 (.take 8 (.take 9 (.fin))))))))))) (by rfl) (by kernel_rfl) (by kernel_rfl) (fun w1 hC1 hH1 => ⟨?_, ?_⟩)
  · exact h.blk.no hC1
  have h1 := h.no hC1
  have h1b := h1.blk
  have hCa : Chg w w1 No := hC1
  iterate 2 (refine zs_take rfl (zt_pure rfl ?_))
  refine zs_rdL rfl want_none rfl (by decide) (fun _ hS => r_fa rfl) ?_
  refine zs_rdL rfl want_none rfl (by decide) (fun _ hS => r_loadB rfl hS (by rfl)) ?_
  iterate 2 (refine zs_take rfl (zt_pure rfl ?_))
  refine zs_rdL rfl want_none rfl (by decide) (fun _ hS => r_fa rfl) ?_
  refine zs_rdL rfl want_none rfl (by decide) (fun _ hS => r_loadB rfl hS (by rfl)) ?_
  refine zs_rdL rfl want_none rfl (by decide) (fun _ hS => r_len rfl) ?_
  by_cases hlt : at_ < len
  · refine zs_rdL rfl want_none rfl (by decide) (fun _ hS => r_cmpB (r := false) rfl rfl rfl (iff_of_false Bool.false_ne_true (by omega))) ?_
    refine zs_fin ?_
    refine zk_seq ?_
    refine zc_false rfl ?_
    refine zc_skip ?_
    refine zk_seq ?_
    refine zc_seq ?_
    refine zc_region ?_
    iterate 2 (refine zl_pureL rfl ?_)
    refine z_fa want_none (by decide) rfl ?_
    refine z_loadB want_none (by decide) rfl (by assumption) (by rfl) ?_
    refine z_add want_none (by decide) rfl rfl (by omega) (by omega) ?_
    refine zl_pureL rfl ?_
    refine z_fa want_none (by decide) rfl ?_
    refine z_store (by first | exact want_none | exact want_L rfl) rfl rfl rfl (by assumption) (by first | exact Nat.le_refl _ | simp [Value.cells]) (by simp [Value.cells, Value.oneCell']) (fun w2 hU2 => ?_)
    have h2 : Blk w2 bt 30 [.slice a len cap, .int .i64 (at_ + 1)] := hU2.blk
    obtain ⟨b, o, ha, hc⟩ := h.row.at_ at_ hlt
    have hrow := h.row
    subst ha
    have hC2 : Chg w0 w2 No := h1.chg.upd hU2 h.ge
    have hc2 := cell_no hC2 hc
    refine zl_nil ?_
    refine zk_seq ?_
    refine zc_seq ?_
    refine zc_draw [] (fun w' => Chg w2 w' No ∧ Blk w' bt 30 [.slice (some ⟨b, o, none⟩) len cap, .int .i64 (at_ + 1)]) (.take 0 (.take 1 (.take 2 (.take 3 (.take 4 (.take 5 (.take 6 (.take 7 (.take 8 (.take 9 (.take 10 (.take 11 (.all1 12 (.take 13 (.fin))))))))))))))) (by rfl) (by kernel_rfl) (by kernel_rfl) (fun w3 hC3 _ => ⟨?_, ?_⟩)
    · exact ⟨hC3, h2.no hC3⟩
    iterate 2 (refine zs_take rfl (zt_pure rfl ?_))
    refine zs_rdL rfl want_none rfl (by decide) (fun _ hS => r_fa rfl) ?_
    refine zs_rdL rfl want_none rfl (by decide) (fun _ hS => r_loadB rfl hS.2 (by rfl)) ?_
    iterate 2 (refine zs_take rfl (zt_pure rfl ?_))
    refine zs_rdL rfl want_none rfl (by decide) (fun _ hS => r_fa rfl) ?_
    refine zs_rdL rfl want_none rfl (by decide) (fun _ hS => r_loadB rfl hS.2 (by rfl)) ?_
    refine zs_rdL rfl want_none rfl (by decide) (fun _ hS => r_sub rfl rfl (by omega) (by omega)) ?_
    refine zs_rdL rfl want_none rfl (by decide) (fun _ hS => r_ia rfl rfl (by omega) (by omega)) ?_
    refine zs_rdL rfl (by first | exact want_none | exact want_L rfl) rfl (by decide) (fun _ hS => r_load1 rfl (cell_at (cell_no hS.1 hc2) (by omega))) ?_
    refine zs_take rfl (zt_pure rfl ?_)
    refine zs_call rfl (by first | exact want_none | exact want_L rfl) rfl (by decide) rfl (within1_calls (n := n) hn hn2) ?_
    rintro _ w4 ⟨rfl, hw4⟩
    obtain rfl := hw4.symm
    refine ⟨_, rfl, ⟨hC3, h2.no hC3⟩, ?_⟩
    have hm0 := Int.emod_nonneg (zs.getD at_ 0) (show (n : Int) ≠ 0 by omega)
    have e1 : nx zs len at_ n = ((zs.getD at_ 0 % (n : Int)).toNat, at_ + 1) := if_pos hlt
    refine zs_take rfl (zt_pure rfl ?_)
    refine zs_fin ?_
    refine zk_seq ?_
    refine zc_ret ?_
    refine zk_ret1 (.inr rfl) rfl rfl ⟨?_, ?_, ?_⟩
    · rw [e1]; show _ = Ending.returned (.int .i64 ((zs.getD at_ 0 % (n : Int)).toNat : Int)); rw [Int.toNat_of_nonneg hm0]
    · rw [e1]; exact ⟨h2.no hC3, hrow, hC2.no hC3, h.ge, hlt⟩
    · exact (((hCa.mono (S' := (· = bt)) (fun _ _ h => h.elim)).trans hU2.chg (fun _ _ h => h))).no hC3
  · have e1 : nx zs len at_ n = (0, at_) := if_neg hlt
    refine zs_rdL rfl want_none rfl (by decide) (fun _ hS => r_cmpB (r := true) rfl rfl rfl (iff_of_true rfl (by omega))) ?_
    refine zs_fin ?_
    refine zk_seq ?_
    refine zc_true rfl ?_
    refine zc_seq ?_
    refine zc_region ?_
    refine zl_pureL rfl ?_
    refine zl_nil ?_
    refine zk_seq ?_
    refine zc_ret ?_
    refine zk_ret_then ?_
    exact zk_ret1 (.inr rfl) rfl rfl ⟨by rw [e1]; rfl, by rw [e1]; exact h1, hC1.mono (fun _ _ h => h.elim)⟩
def mdW : List UInt8 := [100, 105, 118, 32, 112, 32, 98, 32, 97, 32, 115, 112, 97, 110, 32, 115, 101, 99, 116, 105, 111, 110, 32, 104, 49, 32, 104, 50, 32, 117, 108, 32, 108, 105, 32, 116, 97, 98, 108, 101, 32, 116, 98, 111, 100, 121, 32, 116, 114, 32, 116, 100, 32, 105, 109, 103, 32, 98, 114, 32, 101, 109, 32, 115, 99, 114, 105, 112, 116, 32, 97, 114, 116, 105, 99, 108, 101, 32, 98, 108, 111, 99, 107, 113, 117, 111, 116, 101, 32, 112, 114, 101, 32, 99, 111, 100, 101, 32, 105, 32, 115, 118, 103]
def mdN : List (List UInt8) := wordsN [] mdW
theorem mdN_len : mdN.length = 24 := by decide +kernel
theorem mdN_ne : ∀ i, i < 24 → mdN.getD i [] ≠ [] := by decide +kernel
def txT : Nat → ByteArray
  | 0 => ⟨#[111, 110, 101]⟩
  | 1 => ⟨#[32]⟩
  | 2 => ⟨#[116, 119, 111, 44, 32, 116, 104, 114, 101, 101]⟩
  | 3 => ⟨#[10]⟩
  | 4 => ⟨#[228, 184, 150]⟩
  | 5 => ⟨#[102, 111, 117, 114, 46]⟩
  | 6 => ⟨#[97, 32, 108, 111, 110, 103, 32, 116, 101, 120, 116, 44, 32, 119, 105, 116, 104, 32, 99, 111, 109, 109, 97, 115, 44, 32, 97, 110, 100, 32, 109, 111, 114, 101, 32, 111, 102, 32, 105, 116]⟩
  | _ => ⟨#[120]⟩
def ntT : Nat → ByteArray
  | 0 => ⟨#[]⟩
  | _ => ⟨#[110, 111, 116, 101]⟩
def clT : Nat → ByteArray
  | 0 => ⟨#[109, 97, 105, 110]⟩
  | 1 => ⟨#[102, 111, 111, 116, 101, 114]⟩
  | 2 => ⟨#[115, 112, 111, 110, 115, 111, 114]⟩
  | 3 => ⟨#[101, 110, 116, 114, 121]⟩
  | _ => ⟨#[120]⟩
def hrT : Nat → ByteArray
  | 0 => ⟨#[104, 116, 116, 112, 58, 47, 47, 97, 47, 98]⟩
  | 1 => ⟨#[99]⟩
  | 2 => ⟨#[109, 97, 105, 108, 116, 111, 58, 120]⟩
  | _ => ⟨#[106, 97, 118, 97, 115, 99, 114, 105, 112, 116, 58, 49]⟩
def sCl : ByteArray := ⟨#[99, 108, 97, 115, 115]⟩
def sHr : ByteArray := ⟨#[104, 114, 101, 102]⟩
def elS (zs : List Int) (len at_ : Nat) : Nat × Nat := if (nx zs len at_ 6).1 = 0 then (1 + (nx zs len (nx zs len at_ 6).2 3).1, (nx zs len (nx zs len at_ 6).2 3).2) else (1, (nx zs len at_ 6).2)
def elC (zs : List Int) (len at_ : Nat) : List At × Nat := if (nx zs len at_ 3).1 = 0 then ([(sCl, clT (nx zs len (nx zs len at_ 3).2 5).1)], (nx zs len (nx zs len at_ 3).2 5).2) else ([], (nx zs len at_ 3).2)
def elH (zs : List Int) (len at_ : Nat) : List At × Nat := if (nx zs len at_ 4).1 = 0 then ([(sHr, hrT (nx zs len (nx zs len at_ 4).2 4).1)], (nx zs len (nx zs len at_ 4).2 4).2) else ([], (nx zs len at_ 4).2)
/-- an element's head, and where the tape stands then -/
def elT (zs : List Int) (len at_ : Nat) : Hd × Nat :=
  (⟨1, (elS zs len (nx zs len at_ 24).2).1, bs (mdN.getD (nx zs len at_ 24).1 []), (elC zs len (elS zs len (nx zs len at_ 24).2).2).1 ++ (elH zs len (elC zs len (elS zs len (nx zs len at_ 24).2).2).2).1, ⟨#[]⟩, 0⟩, (elH zs len (elC zs len (elS zs len (nx zs len at_ 24).2).2).2).2)
def itemsT (zs : List Int) (len : Nat) (rec : Nat → NT × Nat) : Nat → Bool → Nat → NT × Nat
  | 0, _, at_ => (.nil, at_)
  | m + 1, pt, at_ =>
    if at_ < len then
      if (nx zs len at_ 6).1 < 2 ∧ pt = false then
        (.cons ⟨2, 0, ⟨#[]⟩, [], txT (nx zs len (nx zs len at_ 6).2 8).1, 0⟩ .nil (itemsT zs len rec m true (nx zs len (nx zs len at_ 6).2 8).2).1, (itemsT zs len rec m true (nx zs len (nx zs len at_ 6).2 8).2).2)
      else if (nx zs len at_ 6).1 = 2 then
        (.cons ⟨3, 0, ⟨#[]⟩, [], ntT (nx zs len (nx zs len at_ 6).2 2).1, 0⟩ .nil (itemsT zs len rec m false (nx zs len (nx zs len at_ 6).2 2).2).1, (itemsT zs len rec m false (nx zs len (nx zs len at_ 6).2 2).2).2)
      else
        (.cons (elT zs len (nx zs len at_ 6).2).1 (rec (elT zs len (nx zs len at_ 6).2).2).1 (itemsT zs len rec m false (rec (elT zs len (nx zs len at_ 6).2).2).2).1, (itemsT zs len rec m false (rec (elT zs len (nx zs len at_ 6).2).2).2).2)
    else (.nil, at_)
def madeT (zs : List Int) (len : Nat) : Nat → Nat → NT × Nat
  | 0, at_ => itemsT zs len (fun a => (.nil, a)) (1 + (nx zs len at_ 4).1) false (nx zs len at_ 4).2
  | d + 1, at_ => itemsT zs len (madeT zs len d) (1 + (nx zs len at_ 4).1) false (nx zs len at_ 4).2
end Go.Proofs.Yteeibieaapiomaa.D
