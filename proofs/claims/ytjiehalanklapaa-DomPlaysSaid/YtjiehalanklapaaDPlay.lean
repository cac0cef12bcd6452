import Derived.Test.YtjiehalanklapaaRTree
import Derived.Test.YtjiehalanklapaaDKnown
import Derived.Test.YtjiehalanklapaaDSame2
/- Both Docs beside one another, over the same nodes. -/
namespace Go.Proofs.Ytjiehalanklapaa.D
open Go Go.Z Go.Proofs
set_option linter.unusedVariables false
/-! how much the nodes hold -/
def BT (m : Nat) (N : List ND) : Prop := ∀ i, (N.getD i n0).text.length ≤ m ∧ (N.getD i n0).attrs.length ≤ 1
theorem BT.mono {m m' : Nat} {N : List ND} (h : BT m N) (hm : m ≤ m') : BT m' N := fun i => ⟨Nat.le_trans (h i).1 hm, (h i).2⟩
theorem BT.big {m : Nat} {N : List ND} (h : BT m N) (hm : m ≤ 1000000000) : BigT N := fun i => ⟨Nat.le_trans (h i).1 hm, Nat.le_trans (h i).2 (by decide)⟩
theorem BT.snoc {m : Nat} {N : List ND} (h : BT m N) {x : ND} (h1 : x.text.length ≤ m) (h2 : x.attrs.length ≤ 1) : BT m (N ++ [x]) := fun i => by
  rw [getD_add]; split
  · exact ⟨h1, h2⟩
  · exact h i
def sameT (N N' : List ND) : Prop := ∀ i, (N'.getD i n0).text = (N.getD i n0).text ∧ (N'.getD i n0).attrs = (N.getD i n0).attrs
theorem sameT.refl (N : List ND) : sameT N N := fun i => ⟨rfl, rfl⟩
theorem sameT.trans {a b c : List ND} (h : sameT a b) (k : sameT b c) : sameT a c := fun i => ⟨(k i).1.trans (h i).1, (k i).2.trans (h i).2⟩
theorem sameT.bt {m : Nat} {N N' : List ND} (h : sameT N N') (hb : BT m N) : BT m N' := fun i => by rw [(h i).1, (h i).2]; exact hb i
theorem sameT.set {N M : List ND} (h : sameT N M) (i : Nat) {x : ND} (h1 : x.text = (N.getD i n0).text) (h2 : x.attrs = (N.getD i n0).attrs) : sameT N (M.set i x) := fun j => by
  rcases Nat.lt_or_ge i M.length with hi | hi
  · rw [getD_set _ _ _ _ _ hi]
    split
    · rename_i hj; subst hj; exact ⟨h1, h2⟩
    · exact h j
  · rw [List.set_eq_of_length_le hi]; exact h j
theorem sameT_ups : ∀ (ks : List Nat) (N : List ND) (b : Nat), sameT N (upsN N ks b)
  | [], N, b => sameT.refl N
  | k :: r, N, b => by
    unfold upsN
    refine sameT.trans ?_ (sameT_ups r _ b)
    exact (sameT.refl N).set k (by rfl) (by rfl)
theorem sameT_lay (N : List ND) (n up a : Nat) : sameT N (layN N n up a) := by
  unfold layN
  exact ((sameT.refl N).set up (by rfl) (by rfl)).set n (by rfl) (by rfl)
theorem sameT_take (N : List ND) (n : Nat) : sameT N (takeN N n) := by
  unfold takeN
  exact ((sameT.refl N).set _ (by rfl) (by rfl)).set n (by rfl) (by rfl)
theorem sameT_move (N : List ND) (a b : Nat) : sameT N (moveN N a b) := by
  have h := sameT_ups (N.getD a n0).kids N b
  unfold moveN
  exact (h.set b (by exact (h b).1) (by exact (h b).2)).set a (by exact (h a).1) (by exact (h a).2)
theorem PutR.bt {N N' : List ND} {n up ahead : Int} {q : Bool} {m : Nat} (h : PutR N n up ahead q N') (hb : BT m N) : BT m N' := by
  by_cases ho : PutOk N n up ahead
  · rw [(h.1 ho).2]; exact (sameT_lay _ _ _ _).bt hb
  · rw [(h.2 ho).2]; exact hb
theorem TakeR.bt {N N' : List ND} {n : Int} {q : Bool} {m : Nat} (h : TakeR N n q N') (hb : BT m N) : BT m N' := by
  by_cases ho : TakeOk N n
  · rw [(h.1 ho).2]; exact (sameT_take _ _).bt hb
  · rw [(h.2 ho).2]; exact hb
theorem MoveR.bt {N N' : List ND} {a b : Int} {q : Bool} {m : Nat} (h : MoveR N a b q N') (hb : BT m N) : BT m N' := by
  by_cases ho : MoveOk N a b
  · rw [(h.1 ho).2]; exact (sameT_move _ _ _).bt hb
  · rw [(h.2 ho).2]; exact hb
theorem WriteR.bt {N N' : List ND} {s : List UInt8} {up ahead : Int} {q : Bool} {m : Nat} (h : WriteR N s up ahead q N') (hb : BT m N) : BT (m + s.length) N' := by
  by_cases ho : WriteOk N up ahead
  · rw [(h.1 ho).2]
    unfold writeN
    split
    · exact hb.mono (by omega)
    · split
      · intro j
        rcases Nat.lt_or_ge (lastK N up.toNat ((placeN (ndOf N up).kids ahead).getD 0)) N.length with hi | hi
        · rw [getD_set _ _ _ _ _ hi]
          split
          · have := hb (lastK N up.toNat ((placeN (ndOf N up).kids ahead).getD 0))
            refine ⟨?_, this.2⟩
            dsimp only
            rw [List.length_append]; omega
          · exact (hb.mono (by omega)) j
        · rw [List.set_eq_of_length_le hi]; exact (hb.mono (by omega)) j
      · exact (sameT_lay _ _ _ _).bt ((hb.mono (by omega)).snoc (by simp [textN]) (by simp [textN]))
  · rw [(h.2 ho).2]; exact hb.mono (by omega)
/-! two Docs -/
section
variable {w w' : World} {p p' : Nat} {vl vl' : Value} {Q Q' : List PN} {N N1 N2 N' : List ND} {vn vu vr vn' vu' vr' : Value} {ms ms' : List MN} {ks ks' : List Value} {W : Nat}
theorem IsD.noT (h : IsD w p vl Q N) {b t : Nat} {cs : List Value} (hb : Blk w b t cs) (h1 : t ≠ 69) (h2 : t ≠ 71) (h3 : t ≠ 75) (h4 : t ≠ 5) (h5 : t ≠ 3) : ¬ foot p vl Q b := by
  rintro (he | he | ⟨i, hi, he⟩)
  · exact hb.ne h.blk h1 he
  · exact h.row.ne he hb (Ne.symm h2) rfl
  · exact (h.at_ i (by rw [← h.len]; exact hi)).ne he hb h3 h4 h5 rfl
theorem IsR.noT (h : IsR w p vn vu vr ms ks N) {b t : Nat} {cs : List Value} (hb : Blk w b t cs) (h1 : t ≠ 63) (h2 : t ≠ 48) (h3 : t ≠ 3) (h4 : t ≠ 35) : ¬ fR p vn vu vr ks b := by
  rintro (he | hk | hk | hk | ⟨i, hi, hk⟩)
  · exact hb.ne h.blk h1 he
  · exact h.own.ne hk hb (Ne.symm h2) rfl
  · exact h.ups.ne hk hb (Ne.symm h3) rfl
  · exact h.rws.ne hk hb (Ne.symm h4) rfl
  · exact (h.kid i (by rw [← h.lk]; exact hi)).1.ne hk hb (Ne.symm h3) rfl
/-- both, each over nodes of its own; all that they write is newer than W -/
structure BB (w : World) (p p' W : Nat) (N1 N2 : List ND) : Prop where
  ex : ∃ vl Q vn vu vr ms ks, IsD w p vl Q N1 ∧ IsR w p' vn vu vr ms ks N2 ∧ (∀ k, foot p vl Q k → ¬ fR p' vn vu vr ks k) ∧ (∀ k, foot p vl Q k → W ≤ k) ∧ ∀ k, fR p' vn vu vr ks k → W ≤ k
structure Keep (W : Nat) (w w' : World) : Prop where
  chg : Chg w w' (fun k => W ≤ k)
  blk : ∀ b t cs, t = 59 ∨ t = 45 ∨ t = 9 → Blk w b t cs → Blk w' b t cs
theorem Keep.refl : Keep W w w := ⟨Chg.refl _ _, fun _ _ _ _ h => h⟩
theorem Keep.trans {w1 : World} (h : Keep W w w1) (k : Keep W w1 w') : Keep W w w' := ⟨h.chg.trans k.chg (fun _ _ h => h), fun b t cs ht hb => k.blk b t cs ht (h.blk b t cs ht hb)⟩
theorem Keep.no (hc : Chg w w' No) : Keep W w w' := ⟨hc.mono (fun _ _ h => h.elim), fun b t cs _ hb => hb.no hc⟩
theorem BB.no (h : BB w p p' W N1 N2) (hc : Chg w w' No) : BB w' p p' W N1 N2 := by
  obtain ⟨vl, Q, vn, vu, vr, ms, ks, h1, h2, h3⟩ := h.ex
  exact ⟨vl, Q, vn, vu, vr, ms, ks, h1.no hc, h2.no hc, h3⟩
theorem BB.dstep (hD : IsD w p vl Q N1) (hR : IsR w p' vn vu vr ms ks N2) (hs : ∀ k, foot p vl Q k → ¬ fR p' vn vu vr ks k) (hW1 : ∀ k, foot p vl Q k → W ≤ k) (hW2 : ∀ k, fR p' vn vu vr ks k → W ≤ k) (hWs : W ≤ w.heap.size)
    (hw : WrD w w' p vl Q vl' Q') (hD' : IsD w' p vl' Q' N') : BB w' p p' W N' N2 ∧ Keep W w w' := by
  refine ⟨⟨vl', Q', vn, vu, vr, ms, ks, hD', hR.chg hw.chg (fun k hk hf => hs k hf hk) (fun b cells hb => hD.noT hb (by decide) (by decide) (by decide) (by decide) (by decide)), fun k hf hr => ?_, fun k hf => ?_, hW2⟩, hw.chg.mono (fun k _ hk => hW1 k hk), fun b t cs ht hb => hb.chg hw.chg (hD.noT hb ?_ ?_ ?_ ?_ ?_)⟩
  · rcases hw.ft k hf with h | h
    · exact hs k h hr
    · have := hR.lt k hr; omega
  · rcases hw.ft k hf with h | h
    · exact hW1 k h
    · omega
  all_goals rcases ht with rfl | rfl | rfl <;> decide
theorem BB.rstep (hD : IsD w p vl Q N1) (hR : IsR w p' vn vu vr ms ks N2) (hs : ∀ k, foot p vl Q k → ¬ fR p' vn vu vr ks k) (hW1 : ∀ k, foot p vl Q k → W ≤ k) (hW2 : ∀ k, fR p' vn vu vr ks k → W ≤ k) (hWs : W ≤ w.heap.size)
    (hw : WrR w w' p' vn vu vr ks vn' vu' vr' ks') (hR' : IsR w' p' vn' vu' vr' ms' ks' N') : BB w' p p' W N1 N' ∧ Keep W w w' := by
  refine ⟨⟨vl, Q, vn', vu', vr', ms', ks', hD.chg hw.chg (fun k hk hf => hs k hk hf) (fun b cells hb => hR.no45 b cells hb), hR', fun k hf hr => ?_, hW1, fun k hf => ?_⟩, hw.chg.mono (fun k _ hk => hW2 k hk), fun b t cs ht hb => hb.chg hw.chg (hR.noT hb ?_ ?_ ?_ ?_)⟩
  · rcases hw.ft k hr with h | h
    · exact hs k hf h
    · have := hD.lt k hf; omega
  · rcases hw.ft k hf with h | h
    · exact hW2 k h
    · omega
  all_goals rcases ht with rfl | rfl | rfl <;> decide
end
section
variable {w : World} {p p' : Nat} {N1 N2 : List ND} {W : Nat}
theorem bElem (h : BB w p p' W N1 N2) (hWs : W ≤ w.heap.size) (hl : N1.length ≤ 100000) (sp : Int) (nm : ByteArray) {l : List At} {va : Value} (ha : AttrS w va l) (hal : l.length ≤ 100000) :
    Calls Try.prog 14 [.pointer (some ⟨p, 0, none⟩), .int .i64 sp, .string nm, va].toArray w fun e w' => e = .returned (.int .i64 N1.length) ∧ BB w' p p' W (N1 ++ [⟨1, sp, nm, l, [], -1, []⟩]) N2 ∧ Keep W w w' := by
  obtain ⟨vl, Q, vn, vu, vr, ms, ks, hD, hR, hs, h1, h2⟩ := h.ex
  refine (elem'_calls hD hl sp nm ha hal).mono fun e w' ⟨he, vl', Q', hD', hw⟩ => ⟨he, BB.dstep hD hR hs h1 h2 hWs hw hD'⟩
theorem bElemR (h : BB w p p' W N1 N2) (hWs : W ≤ w.heap.size) (hl : N2.length ≤ 100000) (sp : Int) (nm : ByteArray) {l : List At} {va : Value} (ha : AttrS w va l) (hal : l.length ≤ 100000) :
    Calls Try.prog 57 [.pointer (some ⟨p', 0, none⟩), .int .i64 sp, .string nm, va].toArray w fun e w' => e = .returned (.int .i64 N2.length) ∧ BB w' p p' W N1 (N2 ++ [⟨1, sp, nm, l, [], -1, []⟩]) ∧ Keep W w w' := by
  obtain ⟨vl, Q, vn, vu, vr, ms, ks, hD, hR, hs, h1, h2⟩ := h.ex
  refine (rElem'_calls hR hl sp nm ha hal).mono fun e w' ⟨he, vn', vu', vr', ms', ks', hR', hw⟩ => ⟨he, BB.rstep hD hR hs h1 h2 hWs hw hR'⟩
theorem bNote (h : BB w p p' W N1 N2) (hWs : W ≤ w.heap.size) (hl : N1.length ≤ 100000) (s : List UInt8) (hsl : s.length ≤ 100000) :
    Calls Try.prog 22 [.pointer (some ⟨p, 0, none⟩), .string (bs s)].toArray w fun e w' => e = .returned (.int .i64 N1.length) ∧ BB w' p p' W (N1 ++ [⟨3, 0, ⟨#[]⟩, [], s, -1, []⟩]) N2 ∧ Keep W w w' := by
  obtain ⟨vl, Q, vn, vu, vr, ms, ks, hD, hR, hs, h1, h2⟩ := h.ex
  refine (note_calls hD hl s hsl).mono fun e w' ⟨he, vl', Q', hD', hw⟩ => ⟨he, BB.dstep hD hR hs h1 h2 hWs hw hD'⟩
theorem bNoteR (h : BB w p p' W N1 N2) (hWs : W ≤ w.heap.size) (hl : N2.length ≤ 100000) (s : List UInt8) :
    Calls Try.prog 58 [.pointer (some ⟨p', 0, none⟩), .string (bs s)].toArray w fun e w' => e = .returned (.int .i64 N2.length) ∧ BB w' p p' W N1 (N2 ++ [⟨3, 0, ⟨#[]⟩, [], s, -1, []⟩]) ∧ Keep W w w' := by
  obtain ⟨vl, Q, vn, vu, vr, ms, ks, hD, hR, hs, h1, h2⟩ := h.ex
  refine (rNote_calls hR hl s).mono fun e w' ⟨he, vn', vu', vr', ms', ks', hR', hw⟩ => ⟨he, BB.rstep hD hR hs h1 h2 hWs hw hR'⟩
theorem bPut (h : BB w p p' W N1 N2) (hWs : W ≤ w.heap.size) (hW : WF N1) (hl : N1.length ≤ 100000) (n up ahead : Int) :
    Calls Try.prog 16 [.pointer (some ⟨p, 0, none⟩), .int .i64 n, .int .i64 up, .int .i64 ahead].toArray w fun e w' => ∃ q N', e = .returned (.bool q) ∧ PutR N1 n up ahead q N' ∧ BB w' p p' W N' N2 ∧ Keep W w w' := by
  obtain ⟨vl, Q, vn, vu, vr, ms, ks, hD, hR, hs, h1, h2⟩ := h.ex
  refine (put_calls hD hW hl n up ahead).mono fun e w' ⟨q, Q', N', he, hD', hw, hr⟩ => ⟨q, N', he, hr, BB.dstep hD hR hs h1 h2 hWs hw hD'⟩
theorem bPutR (h : BB w p p' W N1 N2) (hWs : W ≤ w.heap.size) (hW : WF N2) (hl : N2.length ≤ 100000) (n up ahead : Int) :
    Calls Try.prog 62 [.pointer (some ⟨p', 0, none⟩), .int .i64 n, .int .i64 up, .int .i64 ahead].toArray w fun e w' => ∃ q N', e = .returned (.bool q) ∧ PutR N2 n up ahead q N' ∧ BB w' p p' W N1 N' ∧ Keep W w w' := by
  obtain ⟨vl, Q, vn, vu, vr, ms, ks, hD, hR, hs, h1, h2⟩ := h.ex
  refine (rPut_calls hR hW hl n up ahead).mono fun e w' ⟨q, ks', N', he, hR', hw, hr⟩ => ⟨q, N', he, hr, BB.rstep hD hR hs h1 h2 hWs hw hR'⟩
theorem bTake (h : BB w p p' W N1 N2) (hWs : W ≤ w.heap.size) (hW : WF N1) (hl : N1.length ≤ 100000) (n : Int) :
    Calls Try.prog 26 [.pointer (some ⟨p, 0, none⟩), .int .i64 n].toArray w fun e w' => ∃ q N', e = .returned (.bool q) ∧ TakeR N1 n q N' ∧ BB w' p p' W N' N2 ∧ Keep W w w' := by
  obtain ⟨vl, Q, vn, vu, vr, ms, ks, hD, hR, hs, h1, h2⟩ := h.ex
  refine (take_calls hD hW hl n).mono fun e w' ⟨q, Q', N', he, hD', hw, hr⟩ => ⟨q, N', he, hr, BB.dstep hD hR hs h1 h2 hWs hw hD'⟩
theorem bTakeR (h : BB w p p' W N1 N2) (hWs : W ≤ w.heap.size) (hW : WF N2) (hl : N2.length ≤ 100000) (n : Int) :
    Calls Try.prog 59 [.pointer (some ⟨p', 0, none⟩), .int .i64 n].toArray w fun e w' => ∃ q N', e = .returned (.bool q) ∧ TakeR N2 n q N' ∧ BB w' p p' W N1 N' ∧ Keep W w w' := by
  obtain ⟨vl, Q, vn, vu, vr, ms, ks, hD, hR, hs, h1, h2⟩ := h.ex
  refine (rTake_calls hR hW hl n).mono fun e w' ⟨q, ks', N', he, hR', hw, hr⟩ => ⟨q, N', he, hr, BB.rstep hD hR hs h1 h2 hWs hw hR'⟩
theorem bMove (h : BB w p p' W N1 N2) (hWs : W ≤ w.heap.size) (hW : WF N1) (hl : N1.length ≤ 100000) (a b : Int) :
    Calls Try.prog 23 [.pointer (some ⟨p, 0, none⟩), .int .i64 a, .int .i64 b].toArray w fun e w' => ∃ q N', e = .returned (.bool q) ∧ MoveR N1 a b q N' ∧ BB w' p p' W N' N2 ∧ Keep W w w' := by
  obtain ⟨vl, Q, vn, vu, vr, ms, ks, hD, hR, hs, h1, h2⟩ := h.ex
  refine (move_calls hD hW hl a b).mono fun e w' ⟨q, Q', N', he, hD', hw, hr⟩ => ⟨q, N', he, hr, BB.dstep hD hR hs h1 h2 hWs hw hD'⟩
theorem bMoveR (h : BB w p p' W N1 N2) (hWs : W ≤ w.heap.size) (hW : WF N2) (hl : N2.length ≤ 100000) (a b : Int) :
    Calls Try.prog 60 [.pointer (some ⟨p', 0, none⟩), .int .i64 a, .int .i64 b].toArray w fun e w' => ∃ q N', e = .returned (.bool q) ∧ MoveR N2 a b q N' ∧ BB w' p p' W N1 N' ∧ Keep W w w' := by
  obtain ⟨vl, Q, vn, vu, vr, ms, ks, hD, hR, hs, h1, h2⟩ := h.ex
  refine (rMove_calls hR hW hl a b).mono fun e w' ⟨q, ks', N', he, hR', hw, hr⟩ => ⟨q, N', he, hr, BB.rstep hD hR hs h1 h2 hWs hw hR'⟩
theorem bWrite (h : BB w p p' W N1 N2) (hWs : W ≤ w.heap.size) (hW : WF N1) (hl : N1.length ≤ 99999) (s : List UInt8) (hsl : s.length ≤ 100000) (ht : ∀ i, (N1.getD i n0).text.length ≤ 1000000000) (up ahead : Int) :
    Calls Try.prog 15 [.pointer (some ⟨p, 0, none⟩), .string (bs s), .int .i64 up, .int .i64 ahead].toArray w fun e w' => ∃ q N', e = .returned (.bool q) ∧ WriteR N1 s up ahead q N' ∧ BB w' p p' W N' N2 ∧ Keep W w w' := by
  obtain ⟨vl, Q, vn, vu, vr, ms, ks, hD, hR, hs, h1, h2⟩ := h.ex
  refine (write_calls hD hW (by omega) s hsl ht up ahead).mono fun e w' ⟨q, vl', Q', N', he, hD', hw, hr⟩ => ⟨q, N', he, hr, BB.dstep hD hR hs h1 h2 hWs hw hD'⟩
theorem bWriteR (h : BB w p p' W N1 N2) (hWs : W ≤ w.heap.size) (hW : WF N2) (hl : N2.length ≤ 99999) (s : List UInt8) (hsl : s.length ≤ 100000) (ht : ∀ i, (N2.getD i n0).text.length ≤ 1000000000) (up ahead : Int) :
    Calls Try.prog 61 [.pointer (some ⟨p', 0, none⟩), .string (bs s), .int .i64 up, .int .i64 ahead].toArray w fun e w' => ∃ q N', e = .returned (.bool q) ∧ WriteR N2 s up ahead q N' ∧ BB w' p p' W N1 N' ∧ Keep W w w' := by
  obtain ⟨vl, Q, vn, vu, vr, ms, ks, hD, hR, hs, h1, h2⟩ := h.ex
  refine (rWrite_calls hR hW hl s hsl ht up ahead).mono fun e w' ⟨q, vn', vu', vr', ms', ks', N', he, hR', hw, hr⟩ => ⟨q, N', he, hr, BB.rstep hD hR hs h1 h2 hWs hw hR'⟩
end
end Go.Proofs.Ytjiehalanklapaa.D
