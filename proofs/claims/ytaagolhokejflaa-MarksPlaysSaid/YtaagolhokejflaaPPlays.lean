import Derived.Test.YtaagolhokejflaaPSame
/- MarksPlays: the walk. -/
namespace Go.Proofs.Ytaagolhokejflaa.M
open Go Go.Z Go.Proofs
set_option linter.unusedVariables false
theorem tab7 : ∀ b1, b1 < 7 → ∀ b2, b2 < 7 → rsame (attrsL b1) (attrsL b2) = (decide (((attrsL b1).length : Int) = (attrsL b2).length) && true && tagSame (attrsL b1) (attrsL b2)) := by decide +kernel
def At7 (m : Mark) : Prop := ∃ b, b < 7 ∧ m.attrs = attrsL b
theorem At7.few {L : List Mark} (h : ∀ m ∈ L, At7 m) : Few L := fun m hm => by
  obtain ⟨b, hb, e⟩ := h m hm
  rw [e]
  have : ∀ b, b < 7 → (attrsL b).length ≤ 100000 := by decide
  exact this b hb
theorem At7.cmp {L : List Mark} (h : ∀ m ∈ L, At7 m) {nd : Int} {nm : ByteArray} {b : Nat} (hb : b < 7) : ∀ m ∈ L, (decide (m.name = nm) && rsame m.attrs (attrsL b)) = alike ⟨nd, nm, attrsL b⟩ m := fun m hm => by
  obtain ⟨b1, hb1, e⟩ := h m hm
  unfold alike keyEq
  rw [e, tab7 b1 hb1 b hb]
  cases decide (m.name = nm) <;> simp
theorem clearN_mem {L : List Mark} {m : Mark} (h : m ∈ clearN L) : m ∈ L := List.mem_of_mem_take h
theorem putM_mem {L : List Mark} {i : Nat} {x m : Mark} (h : m ∈ putM L i x) : m ∈ L ∨ m = x := by
  unfold putM at h
  rcases List.mem_append.1 h with h | h
  · exact .inl (List.mem_of_mem_take h)
  · rcases List.mem_cons.1 h with h | h
    · exact .inr h
    · exact .inl (List.mem_of_mem_drop h)
theorem set_mem' {L : List Mark} {i : Nat} {x m : Mark} (h : m ∈ L.set i x) : m ∈ L ∨ m = x := List.mem_or_eq_of_mem_set h
/-- a row of calls that is handed in -/
def IsOps (w : World) (a : Option Addr) (len cap : Nat) : Prop :=
  (a = none ∧ len = 0 ∧ cap = 0) ∨ ∃ x, a = some x ∧ len ≤ cap ∧ cap ≤ maxLen ∧ ∀ i, i < len → ∃ k p n t : Int, w.cell? (x.add (i * 4)) = some (.int .i64 k) ∧ w.cell? (x.add (i * 4 + 1)) = some (.int .i64 p) ∧ w.cell? (x.add (i * 4 + 2)) = some (.int .i64 n) ∧ w.cell? (x.add (i * 4 + 3)) = some (.int .i64 t)
theorem IsOps.le {w : World} {a : Option Addr} {len cap : Nat} (h : IsOps w a len cap) : len ≤ cap ∧ cap ≤ 9223372036854775807 := by
  rcases h with ⟨rfl, rfl, rfl⟩ | ⟨x, rfl, h1, h2, h3⟩
  · exact ⟨Nat.le_refl _, by decide⟩
  · exact ⟨h1, by simpa [maxLen] using h2⟩
theorem IsOps.at_ {w : World} {a : Option Addr} {len cap : Nat} (h : IsOps w a len cap) (i : Nat) (hi : i < len) : ∃ b o, a = some ⟨b, o, none⟩ ∧ ∃ k p n t : Int, w.cell? ⟨b, o + i * 4, none⟩ = some (.int .i64 k) ∧ w.cell? ⟨b, o + i * 4 + 1, none⟩ = some (.int .i64 p) ∧ w.cell? ⟨b, o + i * 4 + 2, none⟩ = some (.int .i64 n) ∧ w.cell? ⟨b, o + i * 4 + 3, none⟩ = some (.int .i64 t) := by
  rcases h with ⟨rfl, rfl, rfl⟩ | ⟨x, rfl, h1, h2, h3⟩
  · omega
  · obtain ⟨b, o, s⟩ := x
    have hs : s = none := by
      obtain ⟨k, p, n, t, g0, _⟩ := h3 0 (by omega)
      have := World.cell?_spot g0
      simpa [Addr.add] using this
    subst hs
    obtain ⟨k, p, n, t, g0, g1, g2, g3⟩ := h3 i hi
    rw [addr_add] at g0 g1 g2 g3
    exact ⟨b, o, rfl, k, p, n, t, g0, by rw [Nat.add_assoc]; exact g1, by rw [Nat.add_assoc]; exact g2, by rw [Nat.add_assoc]; exact g3⟩
/-- what one call makes of both -/
structure Go1 (w0 w : World) (i g g2 : Nat) (v v2 : Value) (L : List Mark) : Prop where
  tw : Tw w0 w g v L g2 v2 L
  len : L.length ≤ i
  at7 : ∀ m ∈ L, At7 m
set_option maxHeartbeats 32000000 in
theorem MarksPlays_walk (a : Option Addr) (len cap : Nat) (w : World) (hr : IsOps w a len cap) :
    Calls Try.prog 9 #[.slice a len cap] w fun e w' => e = .returned (.bool true) ∧ RowKit.Below w.heap.size w w' := by
  have hle := hr.le
  show Calls Try.prog 9 [Value.slice a len cap].toArray w _
  refine calls_zc (n := 134) (f := 9) (fn := Try.f9) Try.func9 rfl rfl (by simp) ?_
  refine zc_seq ?_
  refine zc_region ?_
  refine zl_pureL rfl ?_
  refine zl_nil ?_
  refine zk_seq ?_
  iterate 2 (refine zc_seq ?_)
  refine zc_region ?_
  refine zl_call (by first | exact want_none | exact want_L rfl) rfl (by decide) rfl known_calls ?_
  rintro _ w1 ⟨rfl, hC1⟩
  refine ⟨_, rfl, ?_⟩
  refine zl_pureL rfl ?_
  refine zl_nil ?_
  refine zk_seq ?_
  refine zc_false rfl ?_
  refine zc_skip ?_
  refine zk_seq ?_
  refine zc_seq ?_
  refine zc_region ?_
  refine zl_call (by first | exact want_none | exact want_L rfl) rfl (by decide) rfl new_calls ?_
  rintro _ w2 ⟨g, rfl, hI, hC2, hge⟩
  refine ⟨_, rfl, ?_⟩
  have hF : Fr w w2 62 g (.slice none 0 0) [] := ⟨hI, by have := hC1.size; omega, (fun k hk => by cases hk), hC1.no hC2⟩
  refine zl_call (by first | exact want_none | exact want_L rfl) rfl (by decide) rfl new68_calls ?_
  rintro _ w3 ⟨g2, rfl, hJ, hC3, hge2⟩
  refine ⟨_, rfl, ?_⟩
  have hT : Tw w w3 g (.slice none 0 0) [] g2 (.slice none 0 0) [] := ⟨hF.no hC3, ⟨hJ, by have := hF.chg.size; omega, (fun k hk => by cases hk), hF.chg.no hC3⟩, fun k hk => by cases hk⟩
  iterate 2 (refine zl_pureL rfl ?_)
  refine zl_nil ?_
  refine zk_seq ?_
  iterate 2 (refine zc_seq ?_)
  refine zc_region ?_
  refine zl_pureL rfl ?_
  refine z_eqPN (by first | exact want_none | exact want_L rfl) (by decide) rfl rfl ?_
  refine zl_nil ?_
  refine zk_seq ?_
  refine zc_false rfl ?_
  refine zc_skip ?_
  refine zk_seq ?_
  iterate 2 (refine zc_seq ?_)
  refine zc_region ?_
  refine zl_pureL rfl ?_
  refine zl_nil ?_
  refine zk_seq ?_
  refine zc_block ?_
  refine zc_loopW (ι := Nat × Value × Value × List Mark) (fun q u => [(0, .slice a len cap), (3, .pointer (some ⟨g, 0, none⟩)), (4, .pointer (some ⟨g2, 0, none⟩)), (5, .int .i64 q.1)])
    (fun q u => q.1 ≤ 60 ∧ q.1 ≤ len ∧ Go1 w u q.1 g g2 q.2.1 q.2.2.1 q.2.2.2) (fun q u => 60 - q.1) (0, .slice none 0 0, .slice none 0 0, []) ⟨Nat.zero_le _, Nat.zero_le _, ⟨hT, Nat.le_refl _, fun m hm => by cases hm⟩⟩ ?_ ?_
  · exact ⟨rfl, rfl, rfl, rfl, trivial⟩
  rintro ⟨i, v, v2, L⟩ u ⟨hi, hil, hG⟩
  dsimp only at hi hil hG ⊢
  obtain ⟨hT, hLi, h7⟩ := hG
  by_cases hlt : i < len
  · by_cases h60 : i < 60
    · obtain ⟨b, o, rfl, k, p, n, t, c0, c1, c2, c3⟩ := hr.at_ i hlt
      have hCu := hT.a.chg
      iterate 2 (refine zc_seq ?_)
      refine zc_region ?_
      iterate 2 (refine zl_pureL rfl ?_)
      refine z_len want_none (by decide) rfl ?_
      refine z_cmpB (r := true) want_none (by decide) rfl rfl rfl (iff_of_true rfl (by omega)) ?_
      iterate 2 (refine zl_pureL rfl ?_)
      refine z_cmpB (r := true) (want_L rfl) (by decide) rfl rfl rfl (iff_of_true rfl (by omega)) ?_
      refine zl_pureL rfl ?_
      refine zl_nil ?_
      refine zk_seq ?_
      refine zc_true rfl ?_
      refine zc_skip ?_
      refine zk_seq ?_
      refine zc_seq ?_
      refine zc_block ?_
      refine zc_seq ?_
      refine zc_region ?_
      iterate 2 (refine zl_pureL rfl ?_)
      refine z_ia want_none (by decide) rfl rfl (by omega) (by omega) ?_
      refine z_loadA (by rfl) (by first | exact want_none | exact want_L rfl) (by decide) rfl (agg4 (cell_no hCu c0) (cell_no hCu c1) (cell_no hCu c2) (cell_no hCu c3) (by omega)) ?_
      refine z_alloc (by first | exact want_none | exact want_L rfl) (by decide) (fun u1 bo hN1 => ?_)
      have hb1 : Blk u1 bo 58 [.int .i64 0, .int .i64 0, .int .i64 0, .int .i64 0] := hN1.blk
      skip
      refine z_store (by first | exact want_none | exact want_L rfl) rfl rfl rfl (by assumption) (by first | exact Nat.le_refl _ | simp [Value.cells]) (by simp [Value.cells, Value.oneCell']) (fun u2 hU2 => ?_)
      have hb2 : Blk u2 bo 58 [.int .i64 k, .int .i64 p, .int .i64 n, .int .i64 t] := hU2.blk
      have hC02 := hN1.chg.upd hU2 (hN1.ge (Chg.refl _ No))
      have hT2 := hT.no hC02
      refine zl_nil ?_
      refine zk_seq ?_
      refine zc_midX (ι := Nat × Value) (fun q u' => Chg u2 u' No ∧ Blk u' bo 58 [.int .i64 k, .int .i64 p, .int .i64 n, .int .i64 t] ∧ Blk u' q.1 32 [.int .i64 i, .string (nameN n), q.2] ∧ AttrS u' q.2 (attrsN t) ∧ u2.heap.size ≤ q.1)
        (fun q => [(0, .slice (some ⟨b, o, none⟩) len cap), (3, .pointer (some ⟨g, 0, none⟩)), (4, .pointer (some ⟨g2, 0, none⟩)), (5, .int .i64 i), (6, .pointer (some ⟨bo, 0, none⟩)), (7, .pointer (some ⟨q.1, 0, none⟩))]) ?_ ?_
      · refine zc_draw [9] (fun w' => Chg u2 w' No ∧ Blk w' bo 58 [.int .i64 k, .int .i64 p, .int .i64 n, .int .i64 t]) (.take 0 (.take 1 (.take 2 (.take 4 (.take 5 (.all2 3 (.all2 6 (.take 7 (.all1 8 (.last 9))) 8 (.all1 6 (.take 7 (.last 9)))) 8 (.all1 3 (.all1 6 (.take 7 (.last 9)))))))))) (by rfl) (by kernel_rfl) (by kernel_rfl) (fun w1 hC1 hH1 => ⟨?_, ?_⟩)
        · exact ⟨‹Chg u2 _ No›, hb2.no ‹Chg u2 _ No›⟩
        have hC3 := ‹Chg u2 _ No›
        refine zs_take rfl (zt_pure rfl ?_)
        refine zs_rdL rfl want_none rfl (by decide) (fun _ hS => r_fa rfl) ?_
        refine zs_rdL rfl want_none rfl (by decide) (fun _ hS => r_loadB rfl hS.2 (by rfl)) ?_
        refine zs_rdL rfl want_none rfl (by decide) (fun _ hS => r_fa rfl) ?_
        refine zs_rdL rfl want_none rfl (by decide) (fun _ hS => r_loadB rfl hS.2 (by rfl)) ?_
        refine zs_two ?_ ?_
        · refine zo_call rfl (by first | exact want_none | exact want_L rfl) rfl (by decide) rfl (name_calls n) ?_
          rintro _ u4 ⟨rfl, hC4⟩
          have hC4 := hC3.no hC4
          refine ⟨_, rfl, ⟨hC4, hb2.no hC4⟩, ?_⟩
          skip
          refine zs_two ?_ ?_
          · refine zo_call rfl (by first | exact want_none | exact want_L rfl) rfl (by decide) rfl (attrs_calls t) ?_
            rintro _ u5 ⟨va, rfl, ha5, hC5⟩
            have hC5 := hC4.no hC5
            refine ⟨_, rfl, ⟨hC5, hb2.no hC5⟩, ?_⟩
            obtain ⟨A5, c5, rfl, _⟩ := ha5.form
            skip
            refine zs_rdL rfl (by first | exact want_none | exact want_L rfl) rfl (by decide) (fun _ hS => r_build' (cells := #[.int .i64 i, .string (nameN n), .slice A5 (attrsN t).length c5]) rfl (by kernel_rfl)) ?_
            refine zs_alloc rfl (by first | exact want_none | exact want_L rfl) (by decide) (fun u6 b6 hN6 => ?_)
            have hC6 := hC5.new hN6
            refine ⟨⟨hC6, hb2.no hC6⟩, ?_⟩
            have hb6 : Blk u6 b6 32 [.int .i64 0, .string ⟨#[]⟩, .slice none 0 0] := hN6.blk
            skip
            refine zs_storeL rfl (by first | exact want_none | exact want_L rfl) rfl rfl rfl (by assumption) (by first | exact Nat.le_refl _ | simp [Value.cells]) (by simp [Value.cells, Value.oneCell']) (fun u7 hU7 => ?_)
            have hC7 := hC6.upd hU7 (hN6.ge hC5)
            skip
            exact zk_midX (b6, .slice A5 _ c5) ⟨hC7, hb2.no hC7, hU7.blk, (ha5.no hN6.chg).keep (K47.upd hU7 (by decide)), hN6.ge hC5⟩ ⟨rfl, rfl, rfl, rfl, rfl, rfl, trivial⟩
          · refine zo_alloc rfl (by first | exact want_none | exact want_L rfl) (by decide) (fun u6 b6 hN6 => ?_)
            have hC6 := hC4.new hN6
            refine ⟨⟨hC6, hb2.no hC6⟩, ?_⟩
            skip
            refine zs_call rfl (by first | exact want_none | exact want_L rfl) rfl (by decide) rfl (attrs_calls t) ?_
            rintro _ u5 ⟨va, rfl, ha5, hC5⟩
            have hb6 : Blk u5 b6 32 [.int .i64 0, .string ⟨#[]⟩, .slice none 0 0] := hN6.blk.no hC5
            have hC5 := hC6.no hC5
            refine ⟨_, rfl, ⟨hC5, hb2.no hC5⟩, ?_⟩
            obtain ⟨A5, c5, rfl, _⟩ := ha5.form
            skip
            refine zs_rdL rfl (by first | exact want_none | exact want_L rfl) rfl (by decide) (fun _ hS => r_build' (cells := #[.int .i64 i, .string (nameN n), .slice A5 (attrsN t).length c5]) rfl (by kernel_rfl)) ?_
            refine zs_storeL rfl (by first | exact want_none | exact want_L rfl) rfl rfl rfl (by assumption) (by first | exact Nat.le_refl _ | simp [Value.cells]) (by simp [Value.cells, Value.oneCell']) (fun u7 hU7 => ?_)
            have hC7 := hC5.upd hU7 (hN6.ge hC4)
            skip
            exact zk_midX (b6, .slice A5 _ c5) ⟨hC7, hb2.no hC7, hU7.blk, ha5.keep (K47.upd hU7 (by decide)), hN6.ge hC4⟩ ⟨rfl, rfl, rfl, rfl, rfl, rfl, trivial⟩
        · refine zo_alloc rfl (by first | exact want_none | exact want_L rfl) (by decide) (fun u6 b6 hN6 => ?_)
          have hC6 := hC3.new hN6
          refine ⟨⟨hC6, hb2.no hC6⟩, ?_⟩
          skip
          refine zs_call rfl (by first | exact want_none | exact want_L rfl) rfl (by decide) rfl (name_calls n) ?_
          rintro _ u4 ⟨rfl, hC4⟩
          have hb4 : Blk u4 b6 32 [.int .i64 0, .string ⟨#[]⟩, .slice none 0 0] := hN6.blk.no hC4
          have hC4 := hC6.no hC4
          refine ⟨_, rfl, ⟨hC4, hb2.no hC4⟩, ?_⟩
          skip
          refine zs_call rfl (by first | exact want_none | exact want_L rfl) rfl (by decide) rfl (attrs_calls t) ?_
          rintro _ u5 ⟨va, rfl, ha5, hC5⟩
          have hb6 := hb4.no hC5
          have hC5 := hC4.no hC5
          refine ⟨_, rfl, ⟨hC5, hb2.no hC5⟩, ?_⟩
          obtain ⟨A5, c5, rfl, _⟩ := ha5.form
          skip
          refine zs_rdL rfl (by first | exact want_none | exact want_L rfl) rfl (by decide) (fun _ hS => r_build' (cells := #[.int .i64 i, .string (nameN n), .slice A5 (attrsN t).length c5]) rfl (by kernel_rfl)) ?_
          refine zs_storeL rfl (by first | exact want_none | exact want_L rfl) rfl rfl rfl (by assumption) (by first | exact Nat.le_refl _ | simp [Value.cells]) (by simp [Value.cells, Value.oneCell']) (fun u7 hU7 => ?_)
          have hC7 := hC5.upd hU7 (hN6.ge hC3)
          skip
          exact zk_midX (b6, .slice A5 _ c5) ⟨hC7, hb2.no hC7, hU7.blk, ha5.keep (K47.upd hU7 (by decide)), hN6.ge hC3⟩ ⟨rfl, rfl, rfl, rfl, rfl, rfl, trivial⟩
      rintro ⟨b7, va⟩ u3 ⟨hC3, hb3, hx3, ha3, hge3⟩
      dsimp only at hb3 hx3 ha3 hge3 ⊢
      obtain ⟨A5, c5, rfl, _⟩ := ha3.form
      have hT3 := hT2.no hC3
      have htl : (t % 7).toNat < 7 := by have := Int.emod_lt_of_pos t (show (0 : Int) < 7 by decide); have := Int.emod_nonneg t (show (7 : Int) ≠ 0 by decide); omega
      have hxa : At7 ⟨i, nameN n, attrsN t⟩ := ⟨_, htl, rfl⟩
      have hv7 : v.ownBlock ≠ some b7 := fun he => by have := hT2.a.is.lt _ (.inr he); omega
      have hv7' : v2.ownBlock ≠ some b7 := fun he => by have := hT2.b.is.lt _ (.inr he); omega
      have hf := At7.few h7
      have hLl := hT3.b.is
      refine zc_seq ?_
      refine zc_draw [] (fun w' => Chg u3 w' No ∧ Blk w' bo 58 [.int .i64 k, .int .i64 p, .int .i64 n, .int .i64 t]) (.take 0 (.take 1 (.take 2 (.all1 3 (.take 4 (.all1 5 (.take 6 (.take 7 (.fin))))))))) (by rfl) (by kernel_rfl) (by kernel_rfl) (fun w1 hC1 hH1 => ⟨?_, ?_⟩)
      · exact ⟨‹Chg u3 _ No›, hb3.no ‹Chg u3 _ No›⟩
      have hC4 := ‹Chg u3 _ No›
      refine zs_rdL rfl want_none rfl (by decide) (fun _ hS => r_fa rfl) ?_
      refine zs_rdL rfl want_none rfl (by decide) (fun _ hS => r_loadB rfl hS.2 (by rfl)) ?_
      refine zs_take rfl (zt_pure rfl ?_)
      refine zs_call rfl (by first | exact want_none | exact want_L rfl) rfl (by decide) rfl (len68_calls (hT3.b.is.no hC4)) ?_
      rintro _ u4 ⟨rfl, hu⟩
      obtain rfl := hu.symm
      refine ⟨_, rfl, ⟨hC4, hb3.no hC4⟩, ?_⟩
      refine zs_rdL rfl want_none rfl (by decide) (fun _ hS => r_add rfl rfl (by omega) (by omega)) ?_
      rw [show (L.length : Int) + 3 = ((L.length + 3 : Nat) : Int) by omega]
      refine zs_call rfl (by first | exact want_none | exact want_L rfl) rfl (by decide) rfl (within_calls (n := L.length + 3) (by omega) (by omega)) ?_
      rintro _ u4 ⟨rfl, hu⟩
      obtain rfl := hu.symm
      refine ⟨_, rfl, ⟨hC4, hb3.no hC4⟩, ?_⟩
      have hp0 : 0 ≤ p % ((L.length + 3 : Nat) : Int) ∧ p % ((L.length + 3 : Nat) : Int) < L.length + 3 := ⟨Int.emod_nonneg _ (by omega), by have := Int.emod_lt_of_pos p (show (0 : Int) < ((L.length + 3 : Nat) : Int) by omega); omega⟩
      generalize p % ((L.length + 3 : Nat) : Int) = pw at hp0 ⊢
      have hT4 := hT3.no hC4
      have hb4 := hb3.no hC4
      have hx4 := hx3.no hC4
      have ha4 := ha3.no hC4
      clear hT3 hb3 hx3 ha3 hT2 hLl
      refine zs_rdL rfl want_none rfl (by decide) (fun _ hS => r_sub rfl rfl (by omega) (by omega)) ?_
      refine zs_take rfl (zt_pure rfl ?_)
      refine zs_fin ?_
      refine zk_seq ?_
      refine zc_seq ?_
      refine zc_region ?_
      iterate 2 (refine zl_pureL rfl ?_)
      refine zl_nil ?_
      refine zk_seq ?_
      iterate 2 (refine zc_seq ?_)
      refine zc_region ?_
      refine z_fa want_none (by decide) rfl ?_
      refine z_loadB want_none (by decide) rfl (by assumption) (by rfl) ?_
      refine zl_call (by first | exact want_none | exact want_L rfl) rfl (by decide) rfl (within_calls (n := 9) (by decide) (by decide)) ?_
      rintro _ u4 ⟨rfl, hu⟩
      obtain rfl := hu.symm
      refine ⟨_, rfl, ?_⟩
      obtain ⟨kk, hkk⟩ := Int.eq_ofNat_of_zero_le (Int.emod_nonneg k (show ((9 : Nat) : Int) ≠ 0 by decide))
      have hk9 : kk < 9 := by have := Int.emod_lt_of_pos k (show (0 : Int) < ((9 : Nat) : Int) by decide); omega
      rw [hkk]
      refine zl_nil ?_
      refine zk_seq ?_
      refine zc_midTX (ι := Bool × Value × Value × List Mark) (fun q u' => Go1 w u' (i + 1) g g2 q.2.1 q.2.2.1 q.2.2.2)
        (fun q => [(0, .slice (some ⟨b, o, none⟩) len cap), (3, .pointer (some ⟨g, 0, none⟩)), (4, .pointer (some ⟨g2, 0, none⟩)), (5, .int .i64 i), (9, .bool q.1), (10, .bool q.1)]) ?_ ?_
      · have hcl : (clearN L).length ≤ i + 1 := by unfold clearN; simp; omega
        have hd : ∀ u5 v5, Wr w1 u5 g v v5 → Blk u5 b7 32 [.int .i64 i, .string (nameN n), .slice A5 (attrsN t).length c5] ∧ AttrS u5 (.slice A5 (attrsN t).length c5) (attrsN t) := fun u5 v5 hW =>
          ⟨(hW.keep hx4 (hx4.ne hT4.a.is.1 (by decide)) hv7).1, ha4.keep (hW.k47 hT4.a.is (by decide))⟩
        have hal : (attrsN t).length ≤ 100000 := (At7.few (L := [⟨i, nameN n, attrsN t⟩]) (fun m hm => by simp only [List.mem_singleton] at hm; subst hm; exact hxa)) _ (List.mem_singleton.2 rfl)
        by_cases k1 : kk = 1
        · subst k1
          refine zc_block ?_
          refine zc_seq ?_
          refine zc_region ?_
          refine z_cmpB (r := true) want_none (by decide) rfl rfl rfl (iff_of_true rfl (by omega)) ?_
          refine zl_pureL rfl ?_
          refine zl_nil ?_
          refine zk_seq ?_
          refine zc_true rfl ?_
          refine zc_seq ?_
          refine zc_region ?_
          refine zl_pureL rfl ?_
          refine zl_call (by first | exact want_none | exact want_L rfl) rfl (by decide) rfl (wall_calls hT4.a.is (by omega)) ?_
          rintro _ u5 ⟨rfl, v5, hI5, hW5⟩
          refine ⟨_, rfl, ?_⟩
          have hT5 := hT4.first hI5 hW5
          refine zl_nil ?_
          refine zk_seq ?_
          refine zc_region ?_
          refine zl_pureL rfl ?_
          refine zl_call (by first | exact want_none | exact want_L rfl) rfl (by decide) rfl (wall32_calls hT5.b.is (by omega)) ?_
          rintro _ u6 ⟨rfl, v6, hI6, hW6⟩
          refine ⟨_, rfl, ?_⟩
          have hT6 := hT5.second hI6 hW6
          refine zl_nil ?_
          refine zk_norm_block ?_
          exact zk_midX (true, v5, v6, L ++ [Mark.wall]) ⟨hT6, by simp; omega, fun m hm => by
            rcases List.mem_append.1 hm with hm | hm
            · exact h7 m hm
            · simp only [List.mem_singleton] at hm; subst hm; exact ⟨0, by decide, rfl⟩⟩ ⟨rfl, rfl, rfl, rfl, rfl, rfl, trivial⟩
        by_cases k2 : kk = 2
        · subst k2
          refine zc_block ?_
          refine zc_seq ?_
          refine zc_region ?_
          refine z_cmpB (r := false) want_none (by decide) rfl rfl rfl (iff_of_false Bool.false_ne_true (by omega)) ?_
          refine zl_pureL rfl ?_
          refine zl_nil ?_
          refine zk_seq ?_
          refine zc_false rfl ?_
          refine zc_seq ?_
          refine zc_region ?_
          refine z_cmpB (r := true) want_none (by decide) rfl rfl rfl (iff_of_true rfl (by omega)) ?_
          refine zl_pureL rfl ?_
          refine zl_nil ?_
          refine zk_seq ?_
          refine zc_true rfl ?_
          refine zc_seq ?_
          refine zc_region ?_
          refine zl_pureL rfl ?_
          refine zl_call (by first | exact want_none | exact want_L rfl) rfl (by decide) rfl (clear_calls hT4.a.is (by omega)) ?_
          rintro _ u5 ⟨rfl, v5, hI5, hW5⟩
          refine ⟨_, rfl, ?_⟩
          have hT5 := hT4.first hI5 hW5
          refine zl_nil ?_
          refine zk_seq ?_
          refine zc_region ?_
          refine zl_pureL rfl ?_
          refine zl_call (by first | exact want_none | exact want_L rfl) rfl (by decide) rfl (clear33_calls hT5.b.is (by omega)) ?_
          rintro _ u6 ⟨rfl, v6, hI6, hW6⟩
          refine ⟨_, rfl, ?_⟩
          have hT6 := hT5.second hI6 hW6
          refine zl_nil ?_
          refine zk_norm_block ?_
          exact zk_midX (true, v5, v6, clearN L) ⟨hT6, hcl, fun m hm => h7 m (clearN_mem hm)⟩ ⟨rfl, rfl, rfl, rfl, rfl, rfl, trivial⟩
        have hout : ∀ q : Bool, Go1 w w1 (i + 1) g g2 v v2 L := fun _ => ⟨hT4, by omega, h7⟩
        by_cases k3 : kk = 3
        · subst k3
          by_cases hin : 0 ≤ pw - 1 ∧ pw - 1 < L.length
          · obtain ⟨j, hj⟩ := Int.eq_ofNat_of_zero_le hin.1
            rw [hj]
            refine zc_block ?_
            refine zc_seq ?_
            refine zc_region ?_
            refine z_cmpB (r := false) want_none (by decide) rfl rfl rfl (iff_of_false Bool.false_ne_true (by omega)) ?_
            refine zl_pureL rfl ?_
            refine zl_nil ?_
            refine zk_seq ?_
            refine zc_false rfl ?_
            refine zc_seq ?_
            refine zc_region ?_
            refine z_cmpB (r := false) want_none (by decide) rfl rfl rfl (iff_of_false Bool.false_ne_true (by omega)) ?_
            refine zl_pureL rfl ?_
            refine zl_nil ?_
            refine zk_seq ?_
            refine zc_false rfl ?_
            refine zc_seq ?_
            refine zc_region ?_
            refine z_cmpB (r := true) want_none (by decide) rfl rfl rfl (iff_of_true rfl (by omega)) ?_
            refine zl_pureL rfl ?_
            refine zl_nil ?_
            refine zk_seq ?_
            refine zc_true rfl ?_
            refine zc_region ?_
            iterate 2 (refine zl_pureL rfl ?_)
            refine zl_call (by first | exact want_none | exact want_L rfl) rfl (by decide) rfl (drop_calls hT4.a.is (by omega) j (by omega)) ?_
            rintro _ u5 ⟨rfl, v5, hI5, hW5⟩
            refine ⟨_, rfl, ?_⟩
            have hT5 := hT4.first hI5 hW5
            iterate 2 (refine zl_pureL rfl ?_)
            refine zl_call (by first | exact want_none | exact want_L rfl) rfl (by decide) rfl (drop34_calls hT5.b.is (by omega) j (by omega)) ?_
            rintro _ u6 ⟨rfl, v6, hI6, hW6⟩
            refine ⟨_, rfl, ?_⟩
            have hT6 := hT5.second hI6 hW6
            iterate 2 (refine zl_pureL rfl ?_)
            refine zl_nil ?_
            refine zk_norm_block ?_
            exact zk_midX (true, v5, v6, dropM L j) ⟨hT6, Nat.le_trans (dropM_len L j) (by omega), fun m hm => h7 m (dropM_mem hm)⟩ ⟨rfl, rfl, rfl, rfl, rfl, rfl, trivial⟩
          · refine zc_block ?_
            refine zc_seq ?_
            refine zc_region ?_
            refine z_cmpB (r := false) want_none (by decide) rfl rfl rfl (iff_of_false Bool.false_ne_true (by omega)) ?_
            refine zl_pureL rfl ?_
            refine zl_nil ?_
            refine zk_seq ?_
            refine zc_false rfl ?_
            refine zc_seq ?_
            refine zc_region ?_
            refine z_cmpB (r := false) want_none (by decide) rfl rfl rfl (iff_of_false Bool.false_ne_true (by omega)) ?_
            refine zl_pureL rfl ?_
            refine zl_nil ?_
            refine zk_seq ?_
            refine zc_false rfl ?_
            refine zc_seq ?_
            refine zc_region ?_
            refine z_cmpB (r := true) want_none (by decide) rfl rfl rfl (iff_of_true rfl (by omega)) ?_
            refine zl_pureL rfl ?_
            refine zl_nil ?_
            refine zk_seq ?_
            refine zc_true rfl ?_
            refine zc_region ?_
            iterate 2 (refine zl_pureL rfl ?_)
            refine zl_call (by first | exact want_none | exact want_L rfl) rfl (by decide) rfl (drop_out hT4.a.is (by omega) _ (by omega)) ?_
            rintro _ u5 ⟨rfl, hC5⟩
            refine ⟨_, rfl, ?_⟩
            have hT5 := hT4.no hC5
            iterate 2 (refine zl_pureL rfl ?_)
            refine zl_call (by first | exact want_none | exact want_L rfl) rfl (by decide) rfl (drop34_out hT5.b.is (by omega) _ (by omega)) ?_
            rintro _ u6 ⟨rfl, hu⟩
            obtain rfl := hu.symm
            refine ⟨_, rfl, ?_⟩
            iterate 2 (refine zl_pureL rfl ?_)
            refine zl_nil ?_
            refine zk_norm_block ?_
            exact zk_midX (false, v, v2, L) ⟨hT5, Nat.le_succ_of_le hLi, h7⟩ ⟨rfl, rfl, rfl, rfl, rfl, rfl, trivial⟩
        by_cases k4 : kk = 4
        · subst k4
          refine zc_block ?_
          refine zc_seq ?_
          refine zc_region ?_
          refine z_cmpB (r := false) want_none (by decide) rfl rfl rfl (iff_of_false Bool.false_ne_true (by omega)) ?_
          refine zl_pureL rfl ?_
          refine zl_nil ?_
          refine zk_seq ?_
          refine zc_false rfl ?_
          refine zc_seq ?_
          refine zc_region ?_
          refine z_cmpB (r := false) want_none (by decide) rfl rfl rfl (iff_of_false Bool.false_ne_true (by omega)) ?_
          refine zl_pureL rfl ?_
          refine zl_nil ?_
          refine zk_seq ?_
          refine zc_false rfl ?_
          refine zc_seq ?_
          refine zc_region ?_
          refine z_cmpB (r := false) want_none (by decide) rfl rfl rfl (iff_of_false Bool.false_ne_true (by omega)) ?_
          refine zl_pureL rfl ?_
          refine zl_nil ?_
          refine zk_seq ?_
          refine zc_false rfl ?_
          refine zc_seq ?_
          refine zc_region ?_
          refine z_cmpB (r := true) want_none (by decide) rfl rfl rfl (iff_of_true rfl (by omega)) ?_
          refine zl_pureL rfl ?_
          refine zl_nil ?_
          refine zk_seq ?_
          refine zc_true rfl ?_
          refine zc_draw [] (fun w' => Blk w' b7 32 [.int .i64 i, .string (nameN n), .slice A5 (attrsN t).length c5]) (.take 0 (.take 1 (.take 2 (.take 4 (.take 5 (.take 6 (.all1 3 (.all1 7 (.take 8 (.take 9 (.fin))))))))))) (by rfl) (by kernel_rfl) (by kernel_rfl) (fun w1 hC1 hH1 => ⟨?_, ?_⟩)
          · exact hx4.no hC1
          have hT5 := hT4.no hC1
          have hx5 := hx4.no hC1
          have ha5 := ha4.no hC1
          iterate 2 (refine zs_take rfl (zt_pure rfl ?_))
          refine zs_rdL rfl want_none rfl (by decide) (fun _ hS => r_loadAB rfl hS (by rfl)) ?_
          iterate 2 (refine zs_take rfl (zt_pure rfl ?_))
          refine zs_rdL rfl want_none rfl (by decide) (fun _ hS => r_loadAB rfl hS (by rfl)) ?_
          by_cases hin : 0 ≤ pw - 1 ∧ pw - 1 < L.length
          · obtain ⟨j, hj⟩ := Int.eq_ofNat_of_zero_le hin.1
            rw [hj]
            refine zs_call rfl (by first | exact want_none | exact want_L rfl) rfl (by decide) rfl (set_calls hT5.a.is (by omega) ha5 hal j (by omega)) ?_
            rintro _ u6 ⟨rfl, v6, hI6, hW6⟩
            have hx6 := (hW6.keep hx5 (hx5.ne hT5.a.is.1 (by decide)) hv7).1
            have ha6 := ha5.keep (hW6.k47 hT5.a.is (by decide))
            have hT6 := hT5.first hI6 hW6
            refine ⟨_, rfl, hx6, ?_⟩
            skip
            refine zs_call rfl (by first | exact want_none | exact want_L rfl) rfl (by decide) rfl (set35_calls hT6.b.is (by omega) ha6 j (by omega)) ?_
            rintro _ u7 ⟨rfl, v7, hI7, hW7⟩
            refine ⟨_, rfl, (hW7.keep hx6 (hx6.ne hT6.b.is.1 (by decide)) hv7').1, ?_⟩
            have hT7 := hT6.second hI7 hW7
            iterate 2 (refine zs_take rfl (zt_pure rfl ?_))
            refine zs_fin ?_
            refine zk_norm_block ?_
            exact zk_midX (true, v6, v7, L.set j ⟨i, nameN n, attrsN t⟩) ⟨hT7, by simp; omega, fun m hm => by
              rcases set_mem' hm with hm | hm
              · exact h7 m hm
              · subst hm; exact hxa⟩ ⟨rfl, rfl, rfl, rfl, rfl, rfl, trivial⟩
          · refine zs_call rfl (by first | exact want_none | exact want_L rfl) rfl (by decide) rfl (set_out hT5.a.is (by omega) ha5 _ (by omega)) ?_
            rintro _ u6 ⟨rfl, hC6⟩
            have hT6 := hT5.no hC6
            refine ⟨_, rfl, hx5.no hC6, ?_⟩
            skip
            refine zs_call rfl (by first | exact want_none | exact want_L rfl) rfl (by decide) rfl (set35_out hT6.b.is (by omega) (ha5.no hC6) _ (by omega)) ?_
            rintro _ u7 ⟨rfl, hC7⟩
            refine ⟨_, rfl, (hx5.no hC6).no hC7, ?_⟩
            iterate 2 (refine zs_take rfl (zt_pure rfl ?_))
            refine zs_fin ?_
            refine zk_norm_block ?_
            exact zk_midX (false, v, v2, L) ⟨hT6.no hC7, Nat.le_succ_of_le hLi, h7⟩ ⟨rfl, rfl, rfl, rfl, rfl, rfl, trivial⟩
        by_cases k5 : kk = 5
        · subst k5
          refine zc_block ?_
          refine zc_seq ?_
          refine zc_region ?_
          refine z_cmpB (r := false) want_none (by decide) rfl rfl rfl (iff_of_false Bool.false_ne_true (by omega)) ?_
          refine zl_pureL rfl ?_
          refine zl_nil ?_
          refine zk_seq ?_
          refine zc_false rfl ?_
          refine zc_seq ?_
          refine zc_region ?_
          refine z_cmpB (r := false) want_none (by decide) rfl rfl rfl (iff_of_false Bool.false_ne_true (by omega)) ?_
          refine zl_pureL rfl ?_
          refine zl_nil ?_
          refine zk_seq ?_
          refine zc_false rfl ?_
          refine zc_seq ?_
          refine zc_region ?_
          refine z_cmpB (r := false) want_none (by decide) rfl rfl rfl (iff_of_false Bool.false_ne_true (by omega)) ?_
          refine zl_pureL rfl ?_
          refine zl_nil ?_
          refine zk_seq ?_
          refine zc_false rfl ?_
          refine zc_seq ?_
          refine zc_region ?_
          refine z_cmpB (r := false) want_none (by decide) rfl rfl rfl (iff_of_false Bool.false_ne_true (by omega)) ?_
          refine zl_pureL rfl ?_
          refine zl_nil ?_
          refine zk_seq ?_
          refine zc_false rfl ?_
          refine zc_seq ?_
          refine zc_region ?_
          refine z_cmpB (r := true) want_none (by decide) rfl rfl rfl (iff_of_true rfl (by omega)) ?_
          refine zl_pureL rfl ?_
          refine zl_nil ?_
          refine zk_seq ?_
          refine zc_true rfl ?_
          refine zc_draw [] (fun w' => Blk w' b7 32 [.int .i64 i, .string (nameN n), .slice A5 (attrsN t).length c5]) (.take 0 (.take 1 (.take 2 (.take 4 (.take 5 (.take 6 (.all1 3 (.all1 7 (.take 8 (.take 9 (.fin))))))))))) (by rfl) (by kernel_rfl) (by kernel_rfl) (fun w1 hC1 hH1 => ⟨?_, ?_⟩)
          · exact hx4.no hC1
          have hT5 := hT4.no hC1
          have hx5 := hx4.no hC1
          have ha5 := ha4.no hC1
          iterate 2 (refine zs_take rfl (zt_pure rfl ?_))
          refine zs_rdL rfl want_none rfl (by decide) (fun _ hS => r_loadAB rfl hS (by rfl)) ?_
          iterate 2 (refine zs_take rfl (zt_pure rfl ?_))
          refine zs_rdL rfl want_none rfl (by decide) (fun _ hS => r_loadAB rfl hS (by rfl)) ?_
          by_cases hin : 0 ≤ pw - 1 ∧ pw - 1 ≤ L.length
          · obtain ⟨j, hj⟩ := Int.eq_ofNat_of_zero_le hin.1
            rw [hj]
            refine zs_call rfl (by first | exact want_none | exact want_L rfl) rfl (by decide) rfl (put_calls hT5.a.is (by omega) ha5 hal j (by omega)) ?_
            rintro _ u6 ⟨rfl, v6, hI6, hW6⟩
            have hx6 := (hW6.keep hx5 (hx5.ne hT5.a.is.1 (by decide)) hv7).1
            have ha6 := ha5.keep (hW6.k47 hT5.a.is (by decide))
            have hT6 := hT5.first hI6 hW6
            refine ⟨_, rfl, hx6, ?_⟩
            skip
            refine zs_call rfl (by first | exact want_none | exact want_L rfl) rfl (by decide) rfl (put36_calls hT6.b.is (by omega) ha6 j (by omega)) ?_
            rintro _ u7 ⟨rfl, v7, hI7, hW7⟩
            refine ⟨_, rfl, (hW7.keep hx6 (hx6.ne hT6.b.is.1 (by decide)) hv7').1, ?_⟩
            have hT7 := hT6.second hI7 hW7
            iterate 2 (refine zs_take rfl (zt_pure rfl ?_))
            refine zs_fin ?_
            refine zk_norm_block ?_
            exact zk_midX (true, v6, v7, putM L j ⟨i, nameN n, attrsN t⟩) ⟨hT7, by unfold putM; simp; omega, fun m hm => by
              rcases putM_mem hm with hm | hm
              · exact h7 m hm
              · subst hm; exact hxa⟩ ⟨rfl, rfl, rfl, rfl, rfl, rfl, trivial⟩
          · refine zs_call rfl (by first | exact want_none | exact want_L rfl) rfl (by decide) rfl (put_out hT5.a.is (by omega) ha5 _ (by omega)) ?_
            rintro _ u6 ⟨rfl, hC6⟩
            have hT6 := hT5.no hC6
            refine ⟨_, rfl, hx5.no hC6, ?_⟩
            skip
            refine zs_call rfl (by first | exact want_none | exact want_L rfl) rfl (by decide) rfl (put36_out hT6.b.is (by omega) (ha5.no hC6) _ (by omega)) ?_
            rintro _ u7 ⟨rfl, hC7⟩
            refine ⟨_, rfl, (hx5.no hC6).no hC7, ?_⟩
            iterate 2 (refine zs_take rfl (zt_pure rfl ?_))
            refine zs_fin ?_
            refine zk_norm_block ?_
            exact zk_midX (false, v, v2, L) ⟨hT6.no hC7, Nat.le_succ_of_le hLi, h7⟩ ⟨rfl, rfl, rfl, rfl, rfl, rfl, trivial⟩
        by_cases k6 : kk = 6
        · subst k6
          refine zc_block ?_
          refine zc_seq ?_
          refine zc_region ?_
          refine z_cmpB (r := false) want_none (by decide) rfl rfl rfl (iff_of_false Bool.false_ne_true (by omega)) ?_
          refine zl_pureL rfl ?_
          refine zl_nil ?_
          refine zk_seq ?_
          refine zc_false rfl ?_
          refine zc_seq ?_
          refine zc_region ?_
          refine z_cmpB (r := false) want_none (by decide) rfl rfl rfl (iff_of_false Bool.false_ne_true (by omega)) ?_
          refine zl_pureL rfl ?_
          refine zl_nil ?_
          refine zk_seq ?_
          refine zc_false rfl ?_
          refine zc_seq ?_
          refine zc_region ?_
          refine z_cmpB (r := false) want_none (by decide) rfl rfl rfl (iff_of_false Bool.false_ne_true (by omega)) ?_
          refine zl_pureL rfl ?_
          refine zl_nil ?_
          refine zk_seq ?_
          refine zc_false rfl ?_
          refine zc_seq ?_
          refine zc_region ?_
          refine z_cmpB (r := false) want_none (by decide) rfl rfl rfl (iff_of_false Bool.false_ne_true (by omega)) ?_
          refine zl_pureL rfl ?_
          refine zl_nil ?_
          refine zk_seq ?_
          refine zc_false rfl ?_
          refine zc_seq ?_
          refine zc_region ?_
          refine z_cmpB (r := false) want_none (by decide) rfl rfl rfl (iff_of_false Bool.false_ne_true (by omega)) ?_
          refine zl_pureL rfl ?_
          refine zl_nil ?_
          refine zk_seq ?_
          refine zc_false rfl ?_
          refine zc_seq ?_
          refine zc_region ?_
          refine z_cmpB (r := true) want_none (by decide) rfl rfl rfl (iff_of_true rfl (by omega)) ?_
          refine zl_pureL rfl ?_
          refine zl_nil ?_
          refine zk_seq ?_
          refine zc_true rfl ?_
          refine zc_draw [] (fun w' => Blk w' bo 58 [.int .i64 k, .int .i64 p, .int .i64 n, .int .i64 t]) (.take 0 (.take 1 (.take 2 (.take 4 (.take 5 (.take 6 (.all1 3 (.all1 7 (.take 8 (.take 9 (.fin))))))))))) (by rfl) (by kernel_rfl) (by kernel_rfl) (fun w1 hC1 hH1 => ⟨?_, ?_⟩)
          · exact hb4.no hC1
          have hT5 := hT4.no hC1
          have hb5 := hb4.no hC1
          refine zs_take rfl (zt_pure rfl ?_)
          refine zs_rdL rfl want_none rfl (by decide) (fun _ hS => r_fa rfl) ?_
          refine zs_rdL rfl want_none rfl (by decide) (fun _ hS => r_loadB rfl hS (by rfl)) ?_
          refine zs_take rfl (zt_pure rfl ?_)
          refine zs_rdL rfl want_none rfl (by decide) (fun _ hS => r_fa rfl) ?_
          refine zs_rdL rfl want_none rfl (by decide) (fun _ hS => r_loadB rfl hS (by rfl)) ?_
          by_cases hin : 0 ≤ p ∧ p < L.length
          · obtain ⟨j, rfl⟩ := Int.eq_ofNat_of_zero_le hin.1
            refine zs_call rfl (by first | exact want_none | exact want_L rfl) rfl (by decide) rfl (drop_calls hT5.a.is (by omega) j (by omega)) ?_
            rintro _ u6 ⟨rfl, v6, hI6, hW6⟩
            have hb6 := hW6.other hT5.a.is hb5 (by decide) (by decide)
            have hT6 := hT5.first hI6 hW6
            refine ⟨_, rfl, hb6, ?_⟩
            skip
            refine zs_call rfl (by first | exact want_none | exact want_L rfl) rfl (by decide) rfl (drop34_calls hT6.b.is (by omega) j (by omega)) ?_
            rintro _ u7 ⟨rfl, v7, hI7, hW7⟩
            refine ⟨_, rfl, hW7.other hT6.b.is hb6 (by decide) (by decide), ?_⟩
            have hT7 := hT6.second hI7 hW7
            iterate 2 (refine zs_take rfl (zt_pure rfl ?_))
            refine zs_fin ?_
            refine zk_norm_block ?_
            exact zk_midX (true, v6, v7, dropM L j) ⟨hT7, Nat.le_trans (dropM_len L j) (by omega), fun m hm => h7 m (dropM_mem hm)⟩ ⟨rfl, rfl, rfl, rfl, rfl, rfl, trivial⟩
          · refine zs_call rfl (by first | exact want_none | exact want_L rfl) rfl (by decide) rfl (drop_out hT5.a.is (by omega) _ (by omega)) ?_
            rintro _ u6 ⟨rfl, hC6⟩
            have hT6 := hT5.no hC6
            refine ⟨_, rfl, hb5.no hC6, ?_⟩
            skip
            refine zs_call rfl (by first | exact want_none | exact want_L rfl) rfl (by decide) rfl (drop34_out hT6.b.is (by omega) _ (by omega)) ?_
            rintro _ u7 ⟨rfl, hu⟩
            obtain rfl := hu.symm
            refine ⟨_, rfl, hb5.no hC6, ?_⟩
            iterate 2 (refine zs_take rfl (zt_pure rfl ?_))
            refine zs_fin ?_
            refine zk_norm_block ?_
            exact zk_midX (false, v, v2, L) ⟨hT6, Nat.le_succ_of_le hLi, h7⟩ ⟨rfl, rfl, rfl, rfl, rfl, rfl, trivial⟩
        refine zc_block ?_
        refine zc_seq ?_
        refine zc_region ?_
        refine z_cmpB (r := false) want_none (by decide) rfl rfl rfl (iff_of_false Bool.false_ne_true (by omega)) ?_
        refine zl_pureL rfl ?_
        refine zl_nil ?_
        refine zk_seq ?_
        refine zc_false rfl ?_
        refine zc_seq ?_
        refine zc_region ?_
        refine z_cmpB (r := false) want_none (by decide) rfl rfl rfl (iff_of_false Bool.false_ne_true (by omega)) ?_
        refine zl_pureL rfl ?_
        refine zl_nil ?_
        refine zk_seq ?_
        refine zc_false rfl ?_
        refine zc_seq ?_
        refine zc_region ?_
        refine z_cmpB (r := false) want_none (by decide) rfl rfl rfl (iff_of_false Bool.false_ne_true (by omega)) ?_
        refine zl_pureL rfl ?_
        refine zl_nil ?_
        refine zk_seq ?_
        refine zc_false rfl ?_
        refine zc_seq ?_
        refine zc_region ?_
        refine z_cmpB (r := false) want_none (by decide) rfl rfl rfl (iff_of_false Bool.false_ne_true (by omega)) ?_
        refine zl_pureL rfl ?_
        refine zl_nil ?_
        refine zk_seq ?_
        refine zc_false rfl ?_
        refine zc_seq ?_
        refine zc_region ?_
        refine z_cmpB (r := false) want_none (by decide) rfl rfl rfl (iff_of_false Bool.false_ne_true (by omega)) ?_
        refine zl_pureL rfl ?_
        refine zl_nil ?_
        refine zk_seq ?_
        refine zc_false rfl ?_
        refine zc_seq ?_
        refine zc_region ?_
        refine z_cmpB (r := false) want_none (by decide) rfl rfl rfl (iff_of_false Bool.false_ne_true (by omega)) ?_
        refine zl_pureL rfl ?_
        refine zl_nil ?_
        refine zk_seq ?_
        refine zc_false rfl ?_
        refine zc_seq ?_
        refine zc_region ?_
        refine zl_pureL rfl ?_
        refine z_loadAB want_none (by decide) rfl (by assumption) (by rfl) ?_
        refine zl_call (by first | exact want_none | exact want_L rfl) rfl (by decide) rfl (push_calls hT4.a.is (by omega) ha4 hal hf) ?_
        rintro _ u5 ⟨rfl, v5, hI5, hW5⟩
        refine ⟨_, rfl, ?_⟩
        have hT5 := hT4.first hI5 hW5
        obtain ⟨hx5, ha5⟩ := hd u5 v5 hW5
        refine zl_nil ?_
        refine zk_seq ?_
        refine zc_region ?_
        refine zl_pureL rfl ?_
        refine z_loadAB want_none (by decide) rfl (by assumption) (by rfl) ?_
        refine zl_call (by first | exact want_none | exact want_L rfl) rfl (by decide) rfl (push37_calls hT5.b.is (by omega) ha5 hal hf (At7.cmp h7 htl)) ?_
        rintro _ u6 ⟨rfl, v6, hI6, hW6⟩
        refine ⟨_, rfl, ?_⟩
        have hT6 := hT5.second hI6 hW6
        refine zl_nil ?_
        refine zk_norm_block ?_
        exact zk_midX (true, v5, v6, pushM L ⟨i, nameN n, attrsN t⟩) ⟨hT6, Nat.le_trans (pushM_len _ _) (Nat.succ_le_succ hLi), fun m hm => by
          rcases pushM_mem _ _ _ hm with hm | hm
          · exact h7 m hm
          · subst hm; exact hxa⟩ ⟨rfl, rfl, rfl, rfl, rfl, rfl, trivial⟩
      rintro ⟨q, v', v2', L'⟩ u6 ⟨hT6, hL6, h76⟩
      dsimp only at hT6 hL6 h76 ⊢
      have hf6 := At7.few h76
      refine zc_seq ?_
      refine zc_region ?_
      iterate 2 (refine zl_pureL rfl ?_)
      refine z_neT (by first | exact want_none | exact want_L rfl) (by decide) rfl rfl ?_
      rw [show (!(q == q)) = false by simp]
      iterate 3 (refine zl_pureL rfl ?_)
      refine zl_call (by first | exact want_none | exact want_L rfl) rfl (by decide) rfl (same38_calls hT6 (by omega) hf6) ?_
      rintro _ u7 ⟨rfl, hC7⟩
      refine ⟨_, rfl, ?_⟩
      have hT7 := hT6.no hC7
      iterate 5 (refine zl_pureL rfl ?_)
      refine zl_call (by first | exact want_none | exact want_L rfl) rfl (by decide) rfl (of_calls i hT7.a.is (by omega)) ?_
      rintro _ u8 ⟨rfl, hC8⟩
      refine ⟨_, rfl, ?_⟩
      have hT8 := hT7.no hC8
      iterate 2 (refine zl_pureL rfl ?_)
      refine zl_call (by first | exact want_none | exact want_L rfl) rfl (by decide) rfl (of68_calls i hT8.b.is (by omega)) ?_
      rintro _ u9 ⟨rfl, hu⟩
      obtain rfl := hu.symm
      refine ⟨_, rfl, ?_⟩
      refine z_cmpB (r := false) (by first | exact want_none | exact want_L rfl) (by decide) rfl rfl rfl (by simp) ?_
      iterate 4 (refine zl_pureL rfl ?_)
      refine z_quo (by first | exact want_none | exact want_L rfl) (by decide) rfl rfl (by decide) ?_
      refine zl_call (by first | exact want_none | exact want_L rfl) rfl (by decide) rfl (of_calls _ hT8.a.is (by omega)) ?_
      rintro _ u10 ⟨rfl, hC10⟩
      refine ⟨_, rfl, ?_⟩
      have hT10 := hT8.no hC10
      iterate 2 (refine zl_pureL rfl ?_)
      refine z_quo (by first | exact want_none | exact want_L rfl) (by decide) rfl rfl (by decide) ?_
      refine zl_call (by first | exact want_none | exact want_L rfl) rfl (by decide) rfl (of68_calls _ hT10.b.is (by omega)) ?_
      rintro _ u11 ⟨rfl, hu⟩
      obtain rfl := hu.symm
      refine ⟨_, rfl, ?_⟩
      refine z_cmpB (r := false) (by first | exact want_none | exact want_L rfl) (by decide) rfl rfl rfl (by simp) ?_
      refine zl_pureL rfl ?_
      refine zl_nil ?_
      refine zk_seq ?_
      refine zc_false rfl ?_
      refine zc_skip ?_
      refine zk_norm_block ?_
      refine zk_seq ?_
      refine zc_region ?_
      refine zl_pureL rfl ?_
      refine z_add want_none (by decide) rfl rfl (by omega) (by omega) ?_
      refine zl_pureL rfl ?_
      refine zl_nil ?_
      exact zk_loopW (i + 1, v', v2', L') ⟨by omega, by omega, ⟨hT10, hL6, h76⟩⟩ (by simp; omega) ⟨rfl, rfl, rfl, get_int rfl (by simp), trivial⟩
    · iterate 2 (refine zc_seq ?_)
      refine zc_region ?_
      iterate 2 (refine zl_pureL rfl ?_)
      refine z_len want_none (by decide) rfl ?_
      refine z_cmpB (r := true) want_none (by decide) rfl rfl rfl (iff_of_true rfl (by omega)) ?_
      iterate 2 (refine zl_pureL rfl ?_)
      refine z_cmpB (r := false) (want_L rfl) (by decide) rfl rfl rfl (iff_of_false Bool.false_ne_true (by omega)) ?_
      refine zl_pureL rfl ?_
      refine zl_nil ?_
      refine zk_seq ?_
      refine zc_false rfl ?_
      refine zc_exit ?_
      iterate 2 (refine zk_exit_then ?_)
      refine zk_exit_block ?_
      refine zk_seq ?_
      refine zc_seq ?_
      refine zc_region ?_
      refine zl_pureL rfl ?_
      refine zl_nil ?_
      refine zk_seq ?_
      refine zc_ret ?_
      exact zk_ret1 (.inr rfl) rfl rfl ⟨rfl, hT.a.chg.below⟩
  · iterate 2 (refine zc_seq ?_)
    refine zc_region ?_
    iterate 2 (refine zl_pureL rfl ?_)
    refine z_len want_none (by decide) rfl ?_
    refine z_cmpB (r := false) want_none (by decide) rfl rfl rfl (iff_of_false Bool.false_ne_true (by omega)) ?_
    iterate 2 (refine zl_pureL rfl ?_)
    refine zl_skip rfl ?_
    refine zl_pureL rfl ?_
    refine zl_nil ?_
    refine zk_seq ?_
    refine zc_false rfl ?_
    refine zc_exit ?_
    iterate 2 (refine zk_exit_then ?_)
    refine zk_exit_block ?_
    refine zk_seq ?_
    refine zc_seq ?_
    refine zc_region ?_
    refine zl_pureL rfl ?_
    refine zl_nil ?_
    refine zk_seq ?_
    refine zc_ret ?_
    exact zk_ret1 (.inr rfl) rfl rfl ⟨rfl, hT.a.chg.below⟩
end Go.Proofs.Ytaagolhokejflaa.M
