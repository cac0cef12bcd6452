import Derived.Test.YtjiehalanklapaaRDraw
/- The document's Doc: a node more. -/
namespace Go.Z
open Go
section
variable {P : Program} {n : Nat} {e : Env} {w : World} {Q : Exit → Act → World → Prop} {ops : Array Oper} {K : Act → World → Prop} {i : Nat} {d : Tmp} {a : Act} {ty : TypeId} {pos : String} {aft : Array Edge} {g : Option (Nat × Bool)}
theorem wo_append {s x : Operand} {t el : TypeId} {sz k m m' : Nat} {z v xv : Value} {xs news : List Value} [hu : Und P t (.slice el)] [hz : Inf P el sz k z] (hzs : z.cells.size = sz) (hsz : 0 < sz)
    (hi : ops[i]? = some ⟨some d, .call { callee := .builtin .append, args := #[s, x], argTypes := #[t, t] }, ty, pos, aft, g⟩) (hw : Want ops e g) (ha : Ok n e a)
    (hs : ev e s = some v) (hx : ev e x = some xv) (hown : Own w el sz v m xs) (hnews : RdS w el sz xv m' news) (h63 : m + m' ≤ 9223372036854775807) (hby : (m + m') * k ≤ 140737488355328)
    (h : ∀ v' w', Own w' el sz v' (m + m') (xs ++ news) → Chg w w' (fun k => v.ownBlock = some k) → (v'.ownBlock = v.ownBlock ∨ ∃ k, v'.ownBlock = some k ∧ w.heap.size ≤ k) → K (a.put (some d) v') w') : wpOp P ops (NP Q) i K a w := by
  obtain ⟨v', w', hr, h1, h2, h3⟩ := append_run (P := P) (n := n) (d := d) (ty := ty) (pos := pos) (aft := aft) (g := g) (t := t) hzs hsz hs hx hown hnews h63 hby
  exact wo_run hi hw rfl ha hr (h v' w' h1 h2 h3)
theorem gS {ops : Array Oper} {G : Nat → Value → World → Prop} {i d0 : Nat} {v : Value} (h0 : dstOf ops i = some d0) (hG : G i v w) : ∀ d, dstOf ops i = some d → ∃ u, a.put (some d0) v = a.put (some d) u ∧ G i u w := fun d hd => by
  rw [h0] at hd; cases hd; exact ⟨v, rfl, hG⟩
theorem gN {ops : Array Oper} {G : Nat → Value → World → Prop} {i : Nat} {a' : Act} (h0 : dstOf ops i = none) : ∀ d, dstOf ops i = some d → ∃ u, a' = a.put (some d) u ∧ G i u w := fun d hd => by
  rw [h0] at hd; cases hd
theorem gT {ops : Array Oper} {i d0 : Nat} {a' : Act} (h0 : dstOf ops i = some d0) : dstOf ops i = none → a' = a := fun hd => by
  rw [h0] at hd; cases hd
theorem gd_eq {b : Array Bool} {i : Nat} (h : i < b.size) : (b.setIfInBounds i true).getD i false = true := by simp [h]
/-! what a change of blocks of one type leaves -/
variable {w' : World} {R : Nat → Prop} {τ : Nat}
def OneT (w : World) (τ : Nat) (R : Nat → Prop) : Prop := ∀ k, R k → ∃ cs, Blk w k τ cs
theorem Own.typ {t sz m : Nat} {v : Value} {cs : List Value} (h : Own w t sz v m cs) (hc : Chg w w' R) (hR : OneT w τ R) (ht : t ≠ τ) : Own w' t sz v m cs := h.chg hc (fun k hk hs => by obtain ⟨cs', hb⟩ := hR k hs; exact h.ne hk hb ht rfl)
theorem RdS.typ {t sz m : Nat} {v : Value} {cs : List Value} (h : RdS w t sz v m cs) (hc : Chg w w' R) (hR : OneT w τ R) (ht : t ≠ τ) : RdS w' t sz v m cs := RdS.chg h hc (fun b cells hb hs => by obtain ⟨cs', hb2⟩ := hR b hs; exact ht (hb.inj hb2).1)
theorem Blk.typ {b t : Nat} {cs : List Value} (h : Blk w b t cs) (hc : Chg w w' R) (hR : OneT w τ R) (ht : t ≠ τ) : Blk w' b t cs := h.chg hc (fun hs => by obtain ⟨cs', hb2⟩ := hR b hs; exact ht (h.inj hb2).1)
end
end Go.Z
namespace Go.Proofs.Ytjiehalanklapaa.D
open Go Go.Z Go.Proofs
set_option linter.unusedVariables false
abbrev mOne : Value := .int .i64 (-1)
def NX (t sz : Nat) (v0 : Value) (W m : Nat) (cs : List Value) (v : Value) (w : World) : Prop := Own w t sz v m cs ∧ (v.ownBlock = v0.ownBlock ∨ ∃ k, v.ownBlock = some k ∧ W ≤ k)
structure LayA where
  p : Nat
  nb : Nat
  W : Nat
  n : Nat
  vn : Value
  vu : Value
  vr : Value
  cn : List Value
  cu : List Value
  cr : List Value
  mc : List Value
def GL (q : LayA) : Nat → Value → World → Prop
  | 0, v, _ => v = pv q.p
  | 1, v, _ => v = pv q.p
  | 2, v, _ => v = pv q.p
  | 3, v, _ => v = pv q.p
  | 4, v, _ => v = pv q.p
  | 5, v, _ => v = .pointer (some ⟨q.p, 0, none⟩)
  | 6, v, _ => v = q.vn
  | 7, v, _ => v = .agg q.mc.toArray
  | 8, v, w => RdS w 48 7 v 1 q.mc
  | 9, v, w => NX 48 7 q.vn q.W (q.n + 1) (q.cn ++ q.mc) v w
  | 10, v, _ => v = pv q.p
  | 11, v, _ => v = pv q.p
  | 12, v, _ => v = .pointer (some ⟨q.p, 1, none⟩)
  | 13, v, _ => v = q.vu
  | 14, v, w => RdS w 3 1 v 1 [mOne]
  | 15, v, w => NX 3 1 q.vu q.W (q.n + 1) (q.cu ++ [mOne]) v w
  | 16, v, _ => v = pv q.p
  | 17, v, _ => v = pv q.p
  | 18, v, _ => v = .pointer (some ⟨q.p, 2, none⟩)
  | 19, v, _ => v = q.vr
  | 20, v, w => RdS w 35 1 v 1 [nV]
  | 21, v, w => NX 35 1 q.vr q.W (q.n + 1) (q.cr ++ [nV]) v w
  | 22, v, _ => v = pv q.p
  | 23, v, _ => v = .pointer (some ⟨q.p, 0, none⟩)
  | 25, v, _ => v = pv q.p
  | 26, v, _ => v = .pointer (some ⟨q.p, 1, none⟩)
  | 28, v, _ => v = pv q.p
  | 29, v, _ => v = .pointer (some ⟨q.p, 2, none⟩)
  | _, _, _ => True
def killL : Nat → Nat
  | 8 => 9
  | 14 => 15
  | 20 => 21
  | _ => 31
section
variable {q : LayA} {w w' : World} {R : Nat → Prop} {τ : Nat}
theorem NX.no {t sz W m : Nat} {v0 v : Value} {cs : List Value} (h : NX t sz v0 W m cs v w) (hc : Chg w w' No) : NX t sz v0 W m cs v w' := ⟨h.1.no hc, h.2⟩
theorem NX.typ {t sz W m : Nat} {v0 v : Value} {cs : List Value} (h : NX t sz v0 W m cs v w) (hc : Chg w w' R) (hR : OneT w τ R) (ht : t ≠ τ) : NX t sz v0 W m cs v w' := ⟨h.1.typ hc hR ht, h.2⟩
theorem GL.no (hc : Chg w w' No) : ∀ j v, GL q j v w → GL q j v w'
  | 0, v, h => h
  | 1, v, h => h
  | 2, v, h => h
  | 3, v, h => h
  | 4, v, h => h
  | 5, v, h => h
  | 6, v, h => h
  | 7, v, h => h
  | 8, v, h => RdS.no h hc
  | 9, v, h => NX.no h hc
  | 10, v, h => h
  | 11, v, h => h
  | 12, v, h => h
  | 13, v, h => h
  | 14, v, h => RdS.no h hc
  | 15, v, h => NX.no h hc
  | 16, v, h => h
  | 17, v, h => h
  | 18, v, h => h
  | 19, v, h => h
  | 20, v, h => RdS.no h hc
  | 21, v, h => NX.no h hc
  | 22, v, h => h
  | 23, v, h => h
  | 24, v, h => h
  | 25, v, h => h
  | 26, v, h => h
  | 27, v, h => h
  | 28, v, h => h
  | 29, v, h => h
  | 30, v, h => h
  | _ + 31, _, _ => trivial
theorem GL.typ (hc : Chg w w' R) (hR : OneT w τ R) : ∀ j v, (j = 8 ∨ j = 9 → 48 ≠ τ) → (j = 14 ∨ j = 15 → 3 ≠ τ) → (j = 20 ∨ j = 21 → 35 ≠ τ) → GL q j v w → GL q j v w'
  | 0, v, _, _, _, h => h
  | 1, v, _, _, _, h => h
  | 2, v, _, _, _, h => h
  | 3, v, _, _, _, h => h
  | 4, v, _, _, _, h => h
  | 5, v, _, _, _, h => h
  | 6, v, _, _, _, h => h
  | 7, v, _, _, _, h => h
  | 8, v, h1, h2, h3, h => RdS.typ h hc hR (h1 (.inl rfl))
  | 9, v, h1, h2, h3, h => NX.typ h hc hR (h1 (.inr rfl))
  | 10, v, _, _, _, h => h
  | 11, v, _, _, _, h => h
  | 12, v, _, _, _, h => h
  | 13, v, _, _, _, h => h
  | 14, v, h1, h2, h3, h => RdS.typ h hc hR (h2 (.inl rfl))
  | 15, v, h1, h2, h3, h => NX.typ h hc hR (h2 (.inr rfl))
  | 16, v, _, _, _, h => h
  | 17, v, _, _, _, h => h
  | 18, v, _, _, _, h => h
  | 19, v, _, _, _, h => h
  | 20, v, h1, h2, h3, h => RdS.typ h hc hR (h3 (.inl rfl))
  | 21, v, h1, h2, h3, h => NX.typ h hc hR (h3 (.inr rfl))
  | 22, v, _, _, _, h => h
  | 23, v, _, _, _, h => h
  | 24, v, _, _, _, h => h
  | 25, v, _, _, _, h => h
  | 26, v, _, _, _, h => h
  | 27, v, _, _, _, h => h
  | 28, v, _, _, _, h => h
  | 29, v, _, _, _, h => h
  | 30, v, _, _, _, h => h
  | _ + 31, _, _, _, _, _ => trivial
def SL (q : LayA) (k : Nat) : Prop := k = q.p ∨ q.vn.ownBlock = some k ∨ q.vu.ownBlock = some k ∨ q.vr.ownBlock = some k
structure TL (q : LayA) (w0 : World) (b : Array Bool) (w : World) : Prop where
  chg : Chg w0 w (SL q)
  nb : Blk w q.nb 48 q.mc
  o9 : b.getD 9 false = false → Own w 48 7 q.vn q.n q.cn
  o15 : b.getD 15 false = false → Own w 3 1 q.vu q.n q.cu
  o21 : b.getD 21 false = false → Own w 35 1 q.vr q.n q.cr
  b0 : b.getD 24 false = false → Blk w q.p 63 [q.vn, q.vu, q.vr]
  b1 : b.getD 24 false = true → b.getD 27 false = false → ∃ v, Blk w q.p 63 [v, q.vu, q.vr] ∧ NX 48 7 q.vn q.W (q.n + 1) (q.cn ++ q.mc) v w
  b2 : b.getD 27 false = true → b.getD 30 false = false → ∃ v u, Blk w q.p 63 [v, u, q.vr] ∧ NX 48 7 q.vn q.W (q.n + 1) (q.cn ++ q.mc) v w ∧ NX 3 1 q.vu q.W (q.n + 1) (q.cu ++ [mOne]) u w
  b3 : b.getD 30 false = true → ∃ v u r, Blk w q.p 63 [v, u, r] ∧ NX 48 7 q.vn q.W (q.n + 1) (q.cn ++ q.mc) v w ∧ NX 3 1 q.vu q.W (q.n + 1) (q.cu ++ [mOne]) u w ∧ NX 35 1 q.vr q.W (q.n + 1) (q.cr ++ [nV]) r w
variable {w0 : World} {b : Array Bool}
theorem TL.no (h : TL q w0 b w) (hc : Chg w w' No) {i : Nat} (h1 : i ≠ 9) (h2 : i ≠ 15) (h3 : i ≠ 21) (h4 : i ≠ 24) (h5 : i ≠ 27) (h6 : i ≠ 30) : TL q w0 (b.setIfInBounds i true) w' :=
  ⟨h.chg.no hc, h.nb.no hc, fun hb => (h.o9 (by rwa [gd_ne h1] at hb)).no hc, fun hb => (h.o15 (by rwa [gd_ne h2] at hb)).no hc, fun hb => (h.o21 (by rwa [gd_ne h3] at hb)).no hc, fun hb => (h.b0 (by rwa [gd_ne h4] at hb)).no hc,
    fun ha hb => by
      obtain ⟨v, g1, g2⟩ := h.b1 (by rwa [gd_ne h4] at ha) (by rwa [gd_ne h5] at hb)
      exact ⟨v, g1.no hc, g2.no hc⟩,
    fun ha hb => by
      obtain ⟨v, u, g1, g2, g3⟩ := h.b2 (by rwa [gd_ne h5] at ha) (by rwa [gd_ne h6] at hb)
      exact ⟨v, u, g1.no hc, g2.no hc, g3.no hc⟩,
    fun hb => by
      obtain ⟨v, u, r, g1, g2, g3, g4⟩ := h.b3 (by rwa [gd_ne h6] at hb)
      exact ⟨v, u, r, g1.no hc, g2.no hc, g3.no hc, g4.no hc⟩⟩
/-- one of the three rows has grown -/
theorem TL.grow (h : TL q w0 b w) (hc : Chg w w' R) (hR : OneT w τ R) (hsub : ∀ k, R k → SL q k) (hnb : ¬ R q.nb) {i : Nat} (hi : i < b.size) (h24 : b.getD 24 false = false) (h27 : b.getD 27 false = false) (h30 : b.getD 30 false = false) (h4 : i ≠ 24) (h5 : i ≠ 27) (h6 : i ≠ 30)
    (k9 : i = 9 ∨ (i ≠ 9 ∧ 48 ≠ τ)) (k15 : i = 15 ∨ (i ≠ 15 ∧ 3 ≠ τ)) (k21 : i = 21 ∨ (i ≠ 21 ∧ 35 ≠ τ)) (k63 : 63 ≠ τ) : TL q w0 (b.setIfInBounds i true) w' := by
  refine ⟨h.chg.trans hc (fun k _ hk => hsub k hk), h.nb.chg hc hnb, fun hb => ?_, fun hb => ?_, fun hb => ?_, fun hb => (h.b0 h24).typ hc hR k63, fun ha => ?_, fun ha => ?_, fun ha => ?_⟩
  · rcases k9 with rfl | ⟨k, k'⟩
    · rw [gd_eq hi] at hb; cases hb
    · rw [gd_ne k] at hb; exact (h.o9 hb).typ hc hR k'
  · rcases k15 with rfl | ⟨k, k'⟩
    · rw [gd_eq hi] at hb; cases hb
    · rw [gd_ne k] at hb; exact (h.o15 hb).typ hc hR k'
  · rcases k21 with rfl | ⟨k, k'⟩
    · rw [gd_eq hi] at hb; cases hb
    · rw [gd_ne k] at hb; exact (h.o21 hb).typ hc hR k'
  · rw [gd_ne h4, h24] at ha; cases ha
  · rw [gd_ne h5, h27] at ha; cases ha
  · rw [gd_ne h6, h30] at ha; cases ha
end
set_option maxRecDepth 100000 in
set_option maxHeartbeats 16000000 in
theorem rLay_calls {w : World} {p : Nat} {vn vu vr va : Value} {ms : List MN} {ks : List Value} {N : List ND} (h : IsR w p vn vu vr ms ks N) (hl : N.length ≤ 100000) (x : ND) (hu : x.up = -1) (hk : x.kids = []) (hA : AttrS w va x.attrs) :
    Calls Try.prog 74 [.pointer (some ⟨p, 0, none⟩), .agg #[.int .i64 x.kind, .int .i64 x.space, .string x.name, va, .string (bs x.text), .int .i64 0, .slice none 0 0]].toArray w fun e w' => e = .returned (.int .i64 N.length) ∧ ∃ vn' vu' vr' ms' ks', IsR w' p vn' vu' vr' ms' ks' (N ++ [x]) ∧ WrR w w' p vn vu vr ks vn' vu' vr' ks' := by
  obtain ⟨Aa, ca, rfl, _⟩ := hA.form
  have hvn := h.formN
  have hvu := h.formU
  have hvr := h.formR
  refine calls_zc (n := 39) (f := 74) (fn := Try.f74) Try.func74 rfl rfl (by simp) ?_
  refine zc_seq ?_
  refine zc_region ?_
  refine z_box (by first | exact want_none | exact want_L rfl) (by decide) rfl (fun w1 nb hN1 => ?_)
  have hnb : Blk w1 nb 48 [.int .i64 x.kind, .int .i64 x.space, .string x.name, .slice Aa x.attrs.length ca, .string (bs x.text), .int .i64 0, .slice none 0 0] := hN1.blk
  have h1 := h.no hN1.chg
  have hnbge : w.heap.size ≤ nb := hN1.ge (Chg.refl _ No)
  have hnn : ∀ k, fR p vn vu vr ks k → k ≠ nb := fun k hk he => by have := h.lt k hk; omega
  obtain ⟨q, hq⟩ : ∃ q : LayA, q = ⟨p, nb, w1.heap.size, N.length, vn, vu, vr, encN ms, upC N, ks, [.int .i64 x.kind, .int .i64 x.space, .string x.name, .slice Aa x.attrs.length ca, .string (bs x.text), .int .i64 0, .slice none 0 0]⟩ := ⟨_, rfl⟩
  have hT0 : ∀ w', Chg w1 w' No → TL q w1 (Array.replicate 31 false) w' := fun w' hc => by
    subst hq
    exact ⟨hc.mono (fun _ _ h => h.elim), hnb.no hc, fun _ => h1.own.no hc, fun _ => h1.ups.no hc, fun _ => h1.rws.no hc, fun _ => h1.blk.no hc, (fun ha => by rw [gd_rep] at ha; cases ha), (fun ha => by rw [gd_rep] at ha; cases ha), (fun ha => by rw [gd_rep] at ha; cases ha)⟩
  have hqp : q.p = p := by rw [hq]
  have hqW : q.W = w1.heap.size := by rw [hq]
  have hqn : q.n = N.length := by rw [hq]
  have hqvn : q.vn = vn := by rw [hq]
  have hqvu : q.vu = vu := by rw [hq]
  have hqvr : q.vr = vr := by rw [hq]
  have hqnb : q.nb = nb := by rw [hq]
  have hqmc : q.mc = [.int .i64 x.kind, .int .i64 x.space, .string x.name, .slice Aa x.attrs.length ca, .string (bs x.text), .int .i64 0, .slice none 0 0] := by rw [hq]
  have hmcl : q.mc.length = 7 := by rw [hqmc]; rfl
  have hmc1 : ∀ u ∈ q.mc, u.oneCell' = true := by rw [hqmc]; simp [Value.oneCell']
  refine zl_pureL rfl ?_
  refine zl_nil ?_
  refine zk_seq ?_
  refine zc_seq ?_
  refine zc_drawS (GL q) killL (TL q w1) [(0, .pointer (some ⟨p, 0, none⟩)), (3, .pointer (some ⟨nb, 0, none⟩))] (by rfl) (by kernel_rfl) (by kernel_rfl) ⟨rfl, rfl, trivial⟩ (fun w' hc _ => hT0 w' hc) ?_ ?_
  · intro i' hi' b a y hbsz hbi hcl hwt hL
    obtain ⟨hok', hTL, hd⟩ := hL
    have hb31 : b.size = 31 := hbsz
    have hi31 : i' < 31 := hi'
    have g : ∀ j, waits _ i' j = true → (killL j = i' ∨ 31 ≤ killL j) → ∀ dj, dstOf _ j = some dj → ∃ v, a.tmps[dj]? = some v ∧ GL q j v y := fun j hw hk dj hdj => by
      obtain ⟨v, h1, h2⟩ := hd j hw dj hdj
      exact ⟨v, h1, h2 (fun hh => hh hk)⟩
    have cl : ∀ k, waits _ k i' = true → b.getD k false = false := fun k hw => by
      rcases hk' : b.getD k false with _ | _
      · rfl
      · have := hcl k i' hk' hw; rw [hbi] at this; cases this
    have hsize : w1.heap.size ≤ y.heap.size := hTL.chg.size
    match i', hi31 with
    | 0, _ =>
      exact wo_pure rfl hok' rfl ⟨gS (d0 := 5) rfl (show _ = pv q.p by rw [hqp]; rfl), gT (d0 := 5) rfl, hTL.no (Chg.refl _ No) (by decide) (by decide) (by decide) (by decide) (by decide) (by decide), fun _ _ _ _ h => h⟩
    | 1, _ =>
      exact wo_pure rfl hok' rfl ⟨gS (d0 := 6) rfl (show _ = pv q.p by rw [hqp]; rfl), gT (d0 := 6) rfl, hTL.no (Chg.refl _ No) (by decide) (by decide) (by decide) (by decide) (by decide) (by decide), fun _ _ _ _ h => h⟩
    | 2, _ =>
      exact wo_pure rfl hok' rfl ⟨gS (d0 := 7) rfl (show _ = pv q.p by rw [hqp]; rfl), gT (d0 := 7) rfl, hTL.no (Chg.refl _ No) (by decide) (by decide) (by decide) (by decide) (by decide) (by decide), fun _ _ _ _ h => h⟩
    | 3, _ =>
      exact wo_pure rfl hok' rfl ⟨gS (d0 := 8) rfl (show _ = pv q.p by rw [hqp]; rfl), gT (d0 := 8) rfl, hTL.no (Chg.refl _ No) (by decide) (by decide) (by decide) (by decide) (by decide) (by decide), fun _ _ _ _ h => h⟩
    | 4, _ =>
      obtain ⟨v, hv, e1⟩ := g 3 (by kernel_rfl) (by decide) _ rfl
      have e2 : v = .pointer (some ⟨p, 0, none⟩) := by rw [show v = pv q.p from e1, hqp]; rfl
      subst e2
      exact wo_pure rfl (hok'.cons hv) rfl ⟨gS (d0 := 9) rfl (show _ = pv q.p by rw [hqp]; rfl), gT (d0 := 9) rfl, hTL.no (Chg.refl _ No) (by decide) (by decide) (by decide) (by decide) (by decide) (by decide), fun _ _ _ _ h => h⟩
    | 5, _ =>
      obtain ⟨v, hv, e1⟩ := g 4 (by kernel_rfl) (by decide) _ rfl
      have e2 : v = .pointer (some ⟨p, 0, none⟩) := by rw [show v = pv q.p from e1, hqp]; rfl
      subst e2
      exact wo_run rfl (by first | exact want_none | exact want_L rfl) rfl (hok'.cons hv) (r_fa rfl) ⟨gS (d0 := 10) rfl (show _ = Value.pointer (some ⟨q.p, 0, none⟩) by rw [hqp]), gT (d0 := 10) rfl, hTL.no (Chg.refl _ No) (by decide) (by decide) (by decide) (by decide) (by decide) (by decide), fun _ _ _ _ h => h⟩
    | 6, _ =>
      obtain ⟨v, hv, e1⟩ := g 5 (by kernel_rfl) (by decide) _ rfl
      have e2 : v = .pointer (some ⟨p, 0, none⟩) := by rw [show v = Value.pointer (some ⟨q.p, 0, none⟩) from e1, hqp]
      subst e2
      have hB := hTL.b0 (cl 24 (by kernel_rfl))
      rw [hqp] at hB
      exact wo_run rfl (by first | exact want_none | exact want_L rfl) rfl (hok'.cons hv) (r_loadB rfl hB (by rfl)) ⟨gS (d0 := 11) rfl (show _ = q.vn from rfl), gT (d0 := 11) rfl, hTL.no (Chg.refl _ No) (by decide) (by decide) (by decide) (by decide) (by decide) (by decide), fun _ _ _ _ h => h⟩
    | 7, _ =>
      have hB := hTL.nb
      rw [hqnb] at hB
      exact wo_run rfl (by first | exact want_none | exact want_L rfl) rfl hok' (r_loadAB rfl hB hmcl) ⟨gS (d0 := 12) rfl (show _ = Value.agg q.mc.toArray from rfl), gT (d0 := 12) rfl, hTL.no (Chg.refl _ No) (by decide) (by decide) (by decide) (by decide) (by decide) (by decide), fun _ _ _ _ h => h⟩
    | 8, _ =>
      obtain ⟨v, hv, e1⟩ := g 7 (by kernel_rfl) (by decide) _ rfl
      have e2 : v = .agg q.mc.toArray := e1
      subst e2
      have hN := New.mk' y 48 q.mc
      exact wo_run rfl (by first | exact want_none | exact want_L rfl) rfl (hok'.cons hv) (run_bs1 rfl (by rfl) (by simp [Value.cells, hmcl]) (by decide) (by decide)) ⟨gS (d0 := 13) rfl (show RdS _ 48 7 _ 1 q.mc from RdS.new (New.mk' y 48 q.mc) (by rw [hmcl]) hmc1), gT (d0 := 13) rfl, hTL.no hN.chg (by decide) (by decide) (by decide) (by decide) (by decide) (by decide), fun j u _ _ h => GL.no hN.chg j u h⟩
    | 9, _ =>
      obtain ⟨v1, hv1, e1⟩ := g 6 (by kernel_rfl) (by decide) _ rfl
      obtain ⟨v2, hv2, e2⟩ := g 8 (by kernel_rfl) (by decide) _ rfl
      have e1 : v1 = q.vn := e1
      subst e1
      have hO := hTL.o9 hbi
      have hR : OneT y 48 (fun k => q.vn.ownBlock = some k) := fun k hk => hO.blk hk
      refine wo_append (by rfl) (by decide) rfl (by first | exact want_none | exact want_L rfl) ((hok'.cons hv1).cons hv2) rfl rfl hO e2 (by omega) (by omega) (fun v' y' hO' hC' hr' => ?_)
      exact ⟨gS (d0 := 14) rfl (show NX _ _ _ _ _ _ _ _ from ⟨hO', hr'.imp id (fun ⟨k, h3, h4⟩ => ⟨k, h3, by omega⟩)⟩), gT (d0 := 14) rfl, hTL.grow hC' hR (fun k hk => .inr (.inl hk)) (fun he => hnn nb (.inr (.inl (by rw [← hqvn, he, hqnb]))) rfl) (by omega) (cl 24 (by kernel_rfl)) (cl 27 (by kernel_rfl)) (cl 30 (by kernel_rfl)) (by decide) (by decide) (by decide) (.inl rfl) (.inr ⟨by decide, by decide⟩) (.inr ⟨by decide, by decide⟩) (by decide), fun j u hj hkj h => GL.typ hC' hR j u (by rintro (rfl | rfl); exact absurd rfl hkj; exact absurd rfl hj) (by intro _; decide) (by intro _; decide) h⟩
    | 10, _ =>
      exact wo_pure rfl hok' rfl ⟨gS (d0 := 15) rfl (show _ = pv q.p by rw [hqp]; rfl), gT (d0 := 15) rfl, hTL.no (Chg.refl _ No) (by decide) (by decide) (by decide) (by decide) (by decide) (by decide), fun _ _ _ _ h => h⟩
    | 11, _ =>
      obtain ⟨v, hv, e1⟩ := g 10 (by kernel_rfl) (by decide) _ rfl
      have e2 : v = .pointer (some ⟨p, 0, none⟩) := by rw [show v = pv q.p from e1, hqp]; rfl
      subst e2
      exact wo_pure rfl (hok'.cons hv) rfl ⟨gS (d0 := 16) rfl (show _ = pv q.p by rw [hqp]; rfl), gT (d0 := 16) rfl, hTL.no (Chg.refl _ No) (by decide) (by decide) (by decide) (by decide) (by decide) (by decide), fun _ _ _ _ h => h⟩
    | 12, _ =>
      obtain ⟨v, hv, e1⟩ := g 11 (by kernel_rfl) (by decide) _ rfl
      have e2 : v = .pointer (some ⟨p, 0, none⟩) := by rw [show v = pv q.p from e1, hqp]; rfl
      subst e2
      exact wo_run rfl (by first | exact want_none | exact want_L rfl) rfl (hok'.cons hv) (r_fa rfl) ⟨gS (d0 := 17) rfl (show _ = Value.pointer (some ⟨q.p, 1, none⟩) by rw [hqp]), gT (d0 := 17) rfl, hTL.no (Chg.refl _ No) (by decide) (by decide) (by decide) (by decide) (by decide) (by decide), fun _ _ _ _ h => h⟩
    | 13, _ =>
      obtain ⟨v, hv, e1⟩ := g 12 (by kernel_rfl) (by decide) _ rfl
      have e2 : v = .pointer (some ⟨p, 1, none⟩) := by rw [show v = Value.pointer (some ⟨q.p, 1, none⟩) from e1, hqp]
      subst e2
      have hB := hTL.b0 (cl 24 (by kernel_rfl))
      rw [hqp] at hB
      exact wo_run rfl (by first | exact want_none | exact want_L rfl) rfl (hok'.cons hv) (r_loadB rfl hB (by rfl)) ⟨gS (d0 := 18) rfl (show _ = q.vu from rfl), gT (d0 := 18) rfl, hTL.no (Chg.refl _ No) (by decide) (by decide) (by decide) (by decide) (by decide) (by decide), fun _ _ _ _ h => h⟩
    | 14, _ =>
      have hN := New.mk' y 3 [mOne]
      exact wo_run rfl (by first | exact want_none | exact want_L rfl) rfl hok' (run_bs1 rfl (by rfl) (by rfl) (by decide) (by decide)) ⟨gS (d0 := 19) rfl (show RdS _ 3 1 _ 1 [mOne] from RdS.new (New.mk' y 3 [mOne]) rfl (by simp [Value.oneCell'])), gT (d0 := 19) rfl, hTL.no hN.chg (by decide) (by decide) (by decide) (by decide) (by decide) (by decide), fun j u _ _ h => GL.no hN.chg j u h⟩
    | 15, _ =>
      obtain ⟨v1, hv1, e1⟩ := g 13 (by kernel_rfl) (by decide) _ rfl
      obtain ⟨v2, hv2, e2⟩ := g 14 (by kernel_rfl) (by decide) _ rfl
      have e1 : v1 = q.vu := e1
      subst e1
      have hO := hTL.o15 hbi
      have hR : OneT y 3 (fun k => q.vu.ownBlock = some k) := fun k hk => hO.blk hk
      refine wo_append (by rfl) (by decide) rfl (by first | exact want_none | exact want_L rfl) ((hok'.cons hv1).cons hv2) rfl rfl hO e2 (by omega) (by omega) (fun v' y' hO' hC' hr' => ?_)
      exact ⟨gS (d0 := 20) rfl (show NX _ _ _ _ _ _ _ _ from ⟨hO', hr'.imp id (fun ⟨k, h3, h4⟩ => ⟨k, h3, by omega⟩)⟩), gT (d0 := 20) rfl, hTL.grow hC' hR (fun k hk => .inr (.inr (.inl hk))) (fun he => hnn nb (.inr (.inr (.inl (by rw [← hqvu, he, hqnb])))) rfl) (by omega) (cl 24 (by kernel_rfl)) (cl 27 (by kernel_rfl)) (cl 30 (by kernel_rfl)) (by decide) (by decide) (by decide) (.inr ⟨by decide, by decide⟩) (.inl rfl) (.inr ⟨by decide, by decide⟩) (by decide), fun j u hj hkj h => GL.typ hC' hR j u (by intro _; decide) (by rintro (rfl | rfl); exact absurd rfl hkj; exact absurd rfl hj) (by intro _; decide) h⟩
    | 16, _ =>
      exact wo_pure rfl hok' rfl ⟨gS (d0 := 21) rfl (show _ = pv q.p by rw [hqp]; rfl), gT (d0 := 21) rfl, hTL.no (Chg.refl _ No) (by decide) (by decide) (by decide) (by decide) (by decide) (by decide), fun _ _ _ _ h => h⟩
    | 17, _ =>
      obtain ⟨v, hv, e1⟩ := g 16 (by kernel_rfl) (by decide) _ rfl
      have e2 : v = .pointer (some ⟨p, 0, none⟩) := by rw [show v = pv q.p from e1, hqp]; rfl
      subst e2
      exact wo_pure rfl (hok'.cons hv) rfl ⟨gS (d0 := 22) rfl (show _ = pv q.p by rw [hqp]; rfl), gT (d0 := 22) rfl, hTL.no (Chg.refl _ No) (by decide) (by decide) (by decide) (by decide) (by decide) (by decide), fun _ _ _ _ h => h⟩
    | 18, _ =>
      obtain ⟨v, hv, e1⟩ := g 17 (by kernel_rfl) (by decide) _ rfl
      have e2 : v = .pointer (some ⟨p, 0, none⟩) := by rw [show v = pv q.p from e1, hqp]; rfl
      subst e2
      exact wo_run rfl (by first | exact want_none | exact want_L rfl) rfl (hok'.cons hv) (r_fa rfl) ⟨gS (d0 := 23) rfl (show _ = Value.pointer (some ⟨q.p, 2, none⟩) by rw [hqp]), gT (d0 := 23) rfl, hTL.no (Chg.refl _ No) (by decide) (by decide) (by decide) (by decide) (by decide) (by decide), fun _ _ _ _ h => h⟩
    | 19, _ =>
      obtain ⟨v, hv, e1⟩ := g 18 (by kernel_rfl) (by decide) _ rfl
      have e2 : v = .pointer (some ⟨p, 2, none⟩) := by rw [show v = Value.pointer (some ⟨q.p, 2, none⟩) from e1, hqp]
      subst e2
      have hB := hTL.b0 (cl 24 (by kernel_rfl))
      rw [hqp] at hB
      exact wo_run rfl (by first | exact want_none | exact want_L rfl) rfl (hok'.cons hv) (r_loadB rfl hB (by rfl)) ⟨gS (d0 := 24) rfl (show _ = q.vr from rfl), gT (d0 := 24) rfl, hTL.no (Chg.refl _ No) (by decide) (by decide) (by decide) (by decide) (by decide) (by decide), fun _ _ _ _ h => h⟩
    | 20, _ =>
      have hN := New.mk' y 35 [nV]
      exact wo_run rfl (by first | exact want_none | exact want_L rfl) rfl hok' (run_bs1 rfl (by rfl) (by rfl) (by decide) (by decide)) ⟨gS (d0 := 25) rfl (show RdS _ 35 1 _ 1 [nV] from RdS.new (New.mk' y 35 [nV]) rfl (by simp [Value.oneCell'])), gT (d0 := 25) rfl, hTL.no hN.chg (by decide) (by decide) (by decide) (by decide) (by decide) (by decide), fun j u _ _ h => GL.no hN.chg j u h⟩
    | 21, _ =>
      obtain ⟨v1, hv1, e1⟩ := g 19 (by kernel_rfl) (by decide) _ rfl
      obtain ⟨v2, hv2, e2⟩ := g 20 (by kernel_rfl) (by decide) _ rfl
      have e1 : v1 = q.vr := e1
      subst e1
      have hO := hTL.o21 hbi
      have hR : OneT y 35 (fun k => q.vr.ownBlock = some k) := fun k hk => hO.blk hk
      refine wo_append (by rfl) (by decide) rfl (by first | exact want_none | exact want_L rfl) ((hok'.cons hv1).cons hv2) rfl rfl hO e2 (by omega) (by omega) (fun v' y' hO' hC' hr' => ?_)
      exact ⟨gS (d0 := 26) rfl (show NX _ _ _ _ _ _ _ _ from ⟨hO', hr'.imp id (fun ⟨k, h3, h4⟩ => ⟨k, h3, by omega⟩)⟩), gT (d0 := 26) rfl, hTL.grow hC' hR (fun k hk => .inr (.inr (.inr hk))) (fun he => hnn nb (.inr (.inr (.inr (.inl (by rw [← hqvr, he, hqnb]))))) rfl) (by omega) (cl 24 (by kernel_rfl)) (cl 27 (by kernel_rfl)) (cl 30 (by kernel_rfl)) (by decide) (by decide) (by decide) (.inr ⟨by decide, by decide⟩) (.inr ⟨by decide, by decide⟩) (.inl rfl) (by decide), fun j u hj hkj h => GL.typ hC' hR j u (by intro _; decide) (by intro _; decide) (by rintro (rfl | rfl); exact absurd rfl hkj; exact absurd rfl hj) h⟩
    | 22, _ =>
      obtain ⟨v, hv, e1⟩ := g 0 (by kernel_rfl) (by decide) _ rfl
      have e2 : v = .pointer (some ⟨p, 0, none⟩) := by rw [show v = pv q.p from e1, hqp]; rfl
      subst e2
      exact wo_pure rfl (hok'.cons hv) rfl ⟨gS (d0 := 27) rfl (show _ = pv q.p by rw [hqp]; rfl), gT (d0 := 27) rfl, hTL.no (Chg.refl _ No) (by decide) (by decide) (by decide) (by decide) (by decide) (by decide), fun _ _ _ _ h => h⟩
    | 23, _ =>
      obtain ⟨v, hv, e1⟩ := g 22 (by kernel_rfl) (by decide) _ rfl
      have e2 : v = .pointer (some ⟨p, 0, none⟩) := by rw [show v = pv q.p from e1, hqp]; rfl
      subst e2
      exact wo_run rfl (by first | exact want_none | exact want_L rfl) rfl (hok'.cons hv) (r_fa rfl) ⟨gS (d0 := 28) rfl (show _ = Value.pointer (some ⟨q.p, 0, none⟩) by rw [hqp]), gT (d0 := 28) rfl, hTL.no (Chg.refl _ No) (by decide) (by decide) (by decide) (by decide) (by decide) (by decide), fun _ _ _ _ h => h⟩
    | 24, _ =>
      obtain ⟨v, hv, e1⟩ := g 23 (by kernel_rfl) (by decide) _ rfl
      have e2 : v = .pointer (some ⟨p, 0, none⟩) := by rw [show v = Value.pointer (some ⟨q.p, 0, none⟩) from e1, hqp]
      subst e2
      obtain ⟨u, hu', e3⟩ := g 9 (by kernel_rfl) (by decide) _ rfl
      have e3 : NX 48 7 q.vn q.W (q.n + 1) (q.cn ++ q.mc) u y := e3
      obtain ⟨Au, cu', hus, _⟩ := e3.1.rd.form
      subst hus
      have hB := hTL.b0 hbi
      rw [hqp] at hB
      refine wo_store rfl (by first | exact want_none | exact want_L rfl) ((hok'.cons hv).cons hu') rfl rfl (by rfl) hB (by simp [Value.cells]) (by simp [Value.cells, Value.oneCell']) (fun y' hU => ?_)
      have hB' : Blk y' q.p 63 [.slice Au (q.n + 1) cu', q.vu, q.vr] := by rw [hqp]; exact hU.blk
      have hR : OneT y 63 (fun k => k = p) := fun k hk => ⟨_, hk ▸ hB⟩
      have hC' : Chg y y' (fun k => k = p) := hU.chg
      exact ⟨gN rfl, fun _ => rfl, ⟨hTL.chg.trans hC' (fun k _ hk => .inl (by rw [hqp]; exact hk)), hTL.nb.typ hC' hR (by decide), (fun hb => (hTL.o9 (by rwa [gd_ne (by decide)] at hb)).typ hC' hR (by decide)), (fun hb => (hTL.o15 (by rwa [gd_ne (by decide)] at hb)).typ hC' hR (by decide)), (fun hb => (hTL.o21 (by rwa [gd_ne (by decide)] at hb)).typ hC' hR (by decide)), (fun hb => by rw [gd_eq (by omega)] at hb; cases hb), (fun _ _ => ⟨_, hB', e3.typ hC' hR (by decide)⟩), (fun ha => by rw [gd_ne (by decide), cl 27 (by kernel_rfl)] at ha; cases ha), (fun ha => by rw [gd_ne (by decide), cl 30 (by kernel_rfl)] at ha; cases ha)⟩, fun j u hj hkj h => GL.typ hC' hR j u (fun _ => by decide) (fun _ => by decide) (fun _ => by decide) h⟩
    | 25, _ =>
      obtain ⟨v, hv, e1⟩ := g 1 (by kernel_rfl) (by decide) _ rfl
      have e2 : v = .pointer (some ⟨p, 0, none⟩) := by rw [show v = pv q.p from e1, hqp]; rfl
      subst e2
      exact wo_pure rfl (hok'.cons hv) rfl ⟨gS (d0 := 29) rfl (show _ = pv q.p by rw [hqp]; rfl), gT (d0 := 29) rfl, hTL.no (Chg.refl _ No) (by decide) (by decide) (by decide) (by decide) (by decide) (by decide), fun _ _ _ _ h => h⟩
    | 26, _ =>
      obtain ⟨v, hv, e1⟩ := g 25 (by kernel_rfl) (by decide) _ rfl
      have e2 : v = .pointer (some ⟨p, 0, none⟩) := by rw [show v = pv q.p from e1, hqp]; rfl
      subst e2
      exact wo_run rfl (by first | exact want_none | exact want_L rfl) rfl (hok'.cons hv) (r_fa rfl) ⟨gS (d0 := 30) rfl (show _ = Value.pointer (some ⟨q.p, 1, none⟩) by rw [hqp]), gT (d0 := 30) rfl, hTL.no (Chg.refl _ No) (by decide) (by decide) (by decide) (by decide) (by decide) (by decide), fun _ _ _ _ h => h⟩
    | 27, _ =>
      obtain ⟨v, hv, e1⟩ := g 26 (by kernel_rfl) (by decide) _ rfl
      have e2 : v = .pointer (some ⟨p, 1, none⟩) := by rw [show v = Value.pointer (some ⟨q.p, 1, none⟩) from e1, hqp]
      subst e2
      obtain ⟨u, hu', e3⟩ := g 15 (by kernel_rfl) (by decide) _ rfl
      have e3 : NX 3 1 q.vu q.W (q.n + 1) (q.cu ++ [mOne]) u y := e3
      obtain ⟨Au, cu', hus, _⟩ := e3.1.rd.form
      subst hus
      obtain ⟨x1, hB, n1⟩ := hTL.b1 (hwt 24 (by kernel_rfl)) hbi
      rw [hqp] at hB
      refine wo_store rfl (by first | exact want_none | exact want_L rfl) ((hok'.cons hv).cons hu') rfl rfl (by rfl) hB (by simp [Value.cells]) (by simp [Value.cells, Value.oneCell']) (fun y' hU => ?_)
      have hB' : Blk y' q.p 63 [x1, .slice Au (q.n + 1) cu', q.vr] := by rw [hqp]; exact hU.blk
      have hR : OneT y 63 (fun k => k = p) := fun k hk => ⟨_, hk ▸ hB⟩
      have hC' : Chg y y' (fun k => k = p) := hU.chg
      exact ⟨gN rfl, fun _ => rfl, ⟨hTL.chg.trans hC' (fun k _ hk => .inl (by rw [hqp]; exact hk)), hTL.nb.typ hC' hR (by decide), (fun hb => (hTL.o9 (by rwa [gd_ne (by decide)] at hb)).typ hC' hR (by decide)), (fun hb => (hTL.o15 (by rwa [gd_ne (by decide)] at hb)).typ hC' hR (by decide)), (fun hb => (hTL.o21 (by rwa [gd_ne (by decide)] at hb)).typ hC' hR (by decide)), (fun hb => by rw [gd_ne (by decide), hwt 24 (by kernel_rfl)] at hb; cases hb), (fun _ hb => by rw [gd_eq (by omega)] at hb; cases hb), (fun _ _ => ⟨_, _, hB', n1.typ hC' hR (by decide), e3.typ hC' hR (by decide)⟩), (fun ha => by rw [gd_ne (by decide), cl 30 (by kernel_rfl)] at ha; cases ha)⟩, fun j u hj hkj h => GL.typ hC' hR j u (fun _ => by decide) (fun _ => by decide) (fun _ => by decide) h⟩
    | 28, _ =>
      obtain ⟨v, hv, e1⟩ := g 2 (by kernel_rfl) (by decide) _ rfl
      have e2 : v = .pointer (some ⟨p, 0, none⟩) := by rw [show v = pv q.p from e1, hqp]; rfl
      subst e2
      exact wo_pure rfl (hok'.cons hv) rfl ⟨gS (d0 := 31) rfl (show _ = pv q.p by rw [hqp]; rfl), gT (d0 := 31) rfl, hTL.no (Chg.refl _ No) (by decide) (by decide) (by decide) (by decide) (by decide) (by decide), fun _ _ _ _ h => h⟩
    | 29, _ =>
      obtain ⟨v, hv, e1⟩ := g 28 (by kernel_rfl) (by decide) _ rfl
      have e2 : v = .pointer (some ⟨p, 0, none⟩) := by rw [show v = pv q.p from e1, hqp]; rfl
      subst e2
      exact wo_run rfl (by first | exact want_none | exact want_L rfl) rfl (hok'.cons hv) (r_fa rfl) ⟨gS (d0 := 32) rfl (show _ = Value.pointer (some ⟨q.p, 2, none⟩) by rw [hqp]), gT (d0 := 32) rfl, hTL.no (Chg.refl _ No) (by decide) (by decide) (by decide) (by decide) (by decide) (by decide), fun _ _ _ _ h => h⟩
    | 30, _ =>
      obtain ⟨v, hv, e1⟩ := g 29 (by kernel_rfl) (by decide) _ rfl
      have e2 : v = .pointer (some ⟨p, 2, none⟩) := by rw [show v = Value.pointer (some ⟨q.p, 2, none⟩) from e1, hqp]
      subst e2
      obtain ⟨u, hu', e3⟩ := g 21 (by kernel_rfl) (by decide) _ rfl
      have e3 : NX 35 1 q.vr q.W (q.n + 1) (q.cr ++ [nV]) u y := e3
      obtain ⟨Au, cu', hus, _⟩ := e3.1.rd.form
      subst hus
      obtain ⟨x1, x2, hB, n1, n2⟩ := hTL.b2 (hwt 27 (by kernel_rfl)) hbi
      rw [hqp] at hB
      refine wo_store rfl (by first | exact want_none | exact want_L rfl) ((hok'.cons hv).cons hu') rfl rfl (by rfl) hB (by simp [Value.cells]) (by simp [Value.cells, Value.oneCell']) (fun y' hU => ?_)
      have hB' : Blk y' q.p 63 [x1, x2, .slice Au (q.n + 1) cu'] := by rw [hqp]; exact hU.blk
      have hR : OneT y 63 (fun k => k = p) := fun k hk => ⟨_, hk ▸ hB⟩
      have hC' : Chg y y' (fun k => k = p) := hU.chg
      exact ⟨gN rfl, fun _ => rfl, ⟨hTL.chg.trans hC' (fun k _ hk => .inl (by rw [hqp]; exact hk)), hTL.nb.typ hC' hR (by decide), (fun hb => (hTL.o9 (by rwa [gd_ne (by decide)] at hb)).typ hC' hR (by decide)), (fun hb => (hTL.o15 (by rwa [gd_ne (by decide)] at hb)).typ hC' hR (by decide)), (fun hb => (hTL.o21 (by rwa [gd_ne (by decide)] at hb)).typ hC' hR (by decide)), (fun hb => by rw [gd_ne (by decide), hwt 24 (by kernel_rfl)] at hb; cases hb), (fun _ hb => by rw [gd_ne (by decide), hwt 27 (by kernel_rfl)] at hb; cases hb), (fun _ hb => by rw [gd_eq (by omega)] at hb; cases hb), (fun _ => ⟨_, _, _, hB', n1.typ hC' hR (by decide), n2.typ hC' hR (by decide), e3.typ hC' hR (by decide)⟩)⟩, fun j u hj hkj h => GL.typ hC' hR j u (fun _ => by decide) (fun _ => by decide) (fun _ => by decide) h⟩
    | k + 31, hk => omega
  · intro b a y hall hL
    obtain ⟨hok', hTL, _⟩ := hL
    obtain ⟨v', u', r', hB, n1, n2, n3⟩ := hTL.b3 (hall 30 (by decide))
    have hC := hTL.chg
    subst hq
    dsimp only [SL] at hB n1 n2 n3 hC
    refine np_zk (e := [(0, .pointer (some ⟨p, 0, none⟩)), (3, .pointer (some ⟨nb, 0, none⟩))]) ?_ hok'
    obtain ⟨An, cn, hv', hcn⟩ := n1.1.rd.form
    subst hv'
    refine zk_seq ?_
    refine zc_seq ?_
    refine zc_region ?_
    iterate 2 (refine zl_pureL rfl ?_)
    refine z_fa want_none (by decide) rfl ?_
    refine z_loadB want_none (by decide) rfl (by assumption) (by rfl) ?_
    refine z_len want_none (by decide) rfl ?_
    refine z_sub want_none (by decide) rfl rfl (by omega) (by omega) ?_
    refine zl_pureL rfl ?_
    refine zl_nil ?_
    refine zk_seq ?_
    refine zc_ret ?_
    have hS : ∀ k, SL ⟨p, nb, w1.heap.size, N.length, vn, vu, vr, encN ms, upC N, ks, [.int .i64 x.kind, .int .i64 x.space, .string x.name, .slice Aa x.attrs.length ca, .string (bs x.text), .int .i64 0, .slice none 0 0]⟩ k → fR p vn vu vr ks k := fun k hk => by
      rcases hk with hk | hk | hk | hk
      · exact .inl hk
      · exact .inr (.inl hk)
      · exact .inr (.inr (.inl hk))
      · exact .inr (.inr (.inr (.inl hk)))
    have h45 : ∀ b cells, Blk w1 b 45 cells → ¬ (b = p ∨ vn.ownBlock = some b ∨ vu.ownBlock = some b ∨ vr.ownBlock = some b) := fun b cells hb hk => h1.no45 b cells hb (hS b hk)
    have hsz1 := hN1.chg.size
    have hA' : AttrS y (.slice Aa x.attrs.length ca) x.attrs := RdS.chg (hA.no hN1.chg) hC h45
    refine zk_ret1 (.inr rfl) rfl rfl ⟨by congr 2; omega, _, u', r', ms ++ [⟨x.kind, x.space, x.name, .slice Aa x.attrs.length ca, bs x.text, 0, nV⟩], ks ++ [nV], ⟨hB, ?_, ?_, ?_, by simp [h.lm], by simp [h.lk], ?_, ?_⟩, ?_, ?_, ?_⟩
    · rw [List.length_append, encN_app]; exact n1.1
    · rw [List.length_append, upC_app]
      have : upC [x] = [mOne] := by simp [upC, hu]
      rw [this]; exact n2.1
    · rw [List.length_append]; exact n3.1
    · intro i hi
      rw [getD_snoc, getD_snoc, h.lm]
      by_cases hin : i = N.length
      · rw [if_pos hin, if_pos hin]
        exact ⟨⟨rfl, rfl, rfl, hA', rfl, rfl⟩, rfl⟩
      · rw [if_neg hin, if_neg hin]
        have hi' : i < N.length := by simp at hi; omega
        exact ⟨(h1.at_ i hi').1.chg' hC h45, (h1.at_ i hi').2⟩
    · intro i hi
      rw [getD_snoc, getD_snoc, h.lk]
      by_cases hin : i = N.length
      · rw [if_pos hin, if_pos hin, hk]
        exact ⟨Own.nil, fun k hk => by cases hk⟩
      · rw [if_neg hin, if_neg hin]
        have hi' : i < N.length := by simp at hi; omega
        obtain ⟨hK, hK2⟩ := h1.kid i hi'
        refine ⟨hK.chg hC (fun k hk hs => ?_), fun k hk he => ?_⟩
        · rcases hs with hs | hs | hs | hs
          · exact hK.ne hk h1.blk (by decide) hs
          · obtain ⟨cs, hb⟩ := h1.own.blk hs; exact hK.ne hk hb (by decide) rfl
          · exact hK2 k hk hs
          · obtain ⟨cs, hb⟩ := h1.rws.blk hs; exact hK.ne hk hb (by decide) rfl
        · rcases n2.2 with e1 | ⟨k', e1, e2⟩
          · rw [e1] at he; exact hK2 k hk he
          · rw [he] at e1; cases e1; have := hK.lt hk; omega
    · exact (hN1.chg.mono (fun _ _ h => h.elim)).trans hC (fun k _ hk => hS k hk)
    · rintro k (hk' | hk' | hk' | hk' | ⟨i, hi, hk'⟩)
      · exact .inl (.inl hk')
      · rcases n1.2 with e1 | ⟨k', e1, e2⟩
        · exact .inl (.inr (.inl (e1 ▸ hk')))
        · rw [hk'] at e1; cases e1; exact .inr (by omega)
      · rcases n2.2 with e1 | ⟨k', e1, e2⟩
        · exact .inl (.inr (.inr (.inl (e1 ▸ hk'))))
        · rw [hk'] at e1; cases e1; exact .inr (by omega)
      · rcases n3.2 with e1 | ⟨k', e1, e2⟩
        · exact .inl (.inr (.inr (.inr (.inl (e1 ▸ hk')))))
        · rw [hk'] at e1; cases e1; exact .inr (by omega)
      · rw [getD_snoc] at hk'
        by_cases hin : i = ks.length
        · rw [if_pos hin] at hk'; cases hk'
        · rw [if_neg hin] at hk'
          exact .inl (.inr (.inr (.inr (.inr ⟨i, by simp at hi; omega, hk'⟩))))
    · exact fun b cells hb => (hb.no hN1.chg).chg hC (h45 b cells (hb.no hN1.chg))
end Go.Proofs.Ytjiehalanklapaa.D
