import Derived.Test.YteeibieaapiomaaSOpen
/- What stays true of a Site when elements are put, dropped, swapped. -/
namespace Go.Proofs.Yteeibieaapiomaa.D
open Go Go.Z Go.Proofs
set_option linter.unusedVariables false
section
variable {w0 w w' : World} {s : Nat} {q q' : SP} {E : List Ent} {I : List Bool} {m : ByteArray → Int} {N N' : List ND} {f : Bool} {T T' : List Ent}
theorem Inv.cons (h : Inv E I m N) : ∃ T, E = en0 :: T := by
  cases E with
  | nil => have := h.pos; simp at this
  | cons a r => have := h.root; exact ⟨r, by rw [List.getD_cons_zero] at this; rw [this]⟩
theorem Inv.perm (h : Inv (en0 :: T) I m N) (hp : T.Perm T') : Inv (en0 :: T') I m N := by
  have hp' : ((en0 :: T).map Ent.n).Perm ((en0 :: T').map Ent.n) := (hp.cons en0).map _
  refine ⟨by simp, rfl, hp'.nodup_iff.1 h.nd, fun e he => h.el e ((hp.cons en0).mem_iff.2 he), fun n => (h.io n).trans hp'.mem_iff, h.il, fun k => ?_⟩
  rw [h.cn]
  unfold cntL
  rw [List.tail_cons, List.tail_cons, hp.countP_eq]
theorem insE_cons (T : List Ent) (i : Nat) (e : Ent) : insE (en0 :: T) (i + 1) e = en0 :: insE T i e := rfl
theorem delE_cons (T : List Ent) (i : Nat) : delE (en0 :: T) (i + 1) = en0 :: delE T i := rfl
theorem insE_perm (T : List Ent) (i : Nat) (e : Ent) : (T ++ [e]).Perm (insE T i e) := by
  unfold insE
  refine List.perm_append_comm.trans ?_
  rw [List.append_assoc]
  refine List.Perm.trans ?_ (List.perm_append_comm_assoc [e] (T.take i) (T.drop i))
  rw [List.take_append_drop]
theorem delE_perm (T : List Ent) (k : Nat) (h : k < T.length) : T.Perm (delE T k ++ [T.getD k en0]) := by
  have : T = T.take k ++ (T.getD k en0 :: T.drop (k + 1)) := by
    rw [List.getD_eq_getElem?_getD, List.getElem?_eq_getElem h]
    simp
  unfold delE
  refine (List.Perm.of_eq this).trans ?_
  rw [List.append_assoc]
  exact List.Perm.append_left _ (List.perm_append_comm (l₁ := [T.getD k en0]) (l₂ := T.drop (k + 1)))
theorem Inv.put (h : Inv E I m N) {i n : Nat} (hi : 1 ≤ i) (hn : n < N.length) (hf : freshB N I n = true) : Inv (insE E i (entN N n)) (comI I n) (cntM m (entN N n) 1) N := by
  obtain ⟨T, rfl⟩ := h.cons
  obtain ⟨j, rfl⟩ : ∃ j, i = j + 1 := ⟨i - 1, by omega⟩
  have := h.push hn hf
  rw [insE_cons]
  exact Inv.perm this (insE_perm T j _)
theorem Inv.drop (h : Inv E I m N) {k : Nat} (hk : 1 ≤ k) (hkE : k < E.length) : Inv (delE E k) (I.set (E.getD k en0).n false) (cntM m (E.getD k en0) (-1)) N := by
  obtain ⟨T, rfl⟩ := h.cons
  obtain ⟨j, rfl⟩ : ∃ j, k = j + 1 := ⟨k - 1, by omega⟩
  have hj : j < T.length := by simpa using hkE
  have h1 := h.perm (delE_perm T j hj)
  have hl : lastE (en0 :: (delE T j ++ [T.getD j en0])) = T.getD j en0 := by
    unfold lastE
    rw [List.getD_eq_getElem?_getD, List.length_cons, List.length_append, List.length_singleton]
    simp
  have h2 := (h1.pop (by simp)).1
  rw [hl] at h2
  rw [delE_cons, List.getD_cons_succ]
  have hd : (en0 :: (delE T j ++ [T.getD j en0])).dropLast = en0 :: delE T j := by
    rw [← List.cons_append, List.dropLast_concat]
  rw [hd] at h2
  exact h2
theorem set_perm (T : List Ent) (k : Nat) (e : Ent) (h : k < T.length) : (delE T k ++ [e]).Perm (T.set k e) := by
  rw [List.set_eq_take_append_cons_drop, if_pos h]
  unfold delE
  rw [List.append_assoc]
  exact List.Perm.append_left _ (List.perm_append_comm (l₁ := T.drop (k + 1)) (l₂ := [e]))
theorem opn_set {I : List Bool} {j : Nat} {n : Int} (h : opn (I.set j false) n) : opn I n := by
  obtain ⟨h1, h2, h3⟩ := h
  rw [List.length_set] at h2
  refine ⟨h1, h2, ?_⟩
  rcases Nat.lt_or_ge j I.length with hj | hj
  · rw [getD_set _ _ _ _ _ hj] at h3
    split at h3
    · cases h3
    · exact h3
  · rw [List.set_eq_of_length_le hj] at h3; exact h3
theorem Inv.swap (h : Inv E I m N) {k n : Nat} (hk : 1 ≤ k) (hkE : k < E.length) (hn : n < N.length) (hf : freshB N I n = true) : Inv (E.set k (entN N n)) (comI (I.set (E.getD k en0).n false) n) (cntM (cntM m (E.getD k en0) (-1)) (entN N n) 1) N := by
  have h1 := h.drop hk hkE
  have hf1 : freshB N (I.set (E.getD k en0).n false) n = true := by
    unfold freshB at hf ⊢
    rw [decide_eq_true_eq] at hf ⊢
    exact ⟨hf.1, fun ho => hf.2 (opn_set ho)⟩
  have h2 := h1.push hn hf1
  obtain ⟨T, rfl⟩ := h.cons
  obtain ⟨j, rfl⟩ : ∃ j, k = j + 1 := ⟨k - 1, by omega⟩
  rw [delE_cons] at h2
  rw [List.set_cons_succ]
  exact Inv.perm h2 (set_perm T j _ (by simpa using hkE))
theorem Inv.small1 (h : Inv E I m N) (hN : N.length ≤ 900000) (e : Ent) : SmallM (cntM m e (-1)) := fun k => by
  have hs := h.small hN
  have h0 : ∀ k, 0 ≤ m k := fun k => by rw [h.cn]; unfold cntL; omega
  unfold cntM
  split
  · unfold updM
    split
    · have := hs e.nm; have := h0 e.nm; omega
    · have := hs k; omega
  · have := hs k; omega
theorem Inv.lens (h : Inv E I m N) (k : Nat) (hk : k < E.length) : (E.getD k en0).n < I.length := by
  have hm : (E.getD k en0).n ∈ E.map Ent.n := List.mem_map.2 ⟨_, getD_mem hk, rfl⟩
  have := (h.io _).2 hm
  rcases Nat.lt_or_ge (E.getD k en0).n I.length with h1 | h1
  · exact h1
  · rw [List.getD_eq_getElem?_getD (l := I), List.getElem?_eq_none h1] at this; cases this
theorem freshB_is {n : Int} (hf : freshB N I n = true) : ∃ k : Nat, n = k ∧ k < N.length := by
  unfold freshB at hf
  rw [decide_eq_true_eq] at hf
  have h1 := hf.1
  unfold nodeOf at h1
  split at h1
  · rename_i hin; exact ⟨n.toNat, by have := hin.1; omega, by have := hin.2; have := hin.1; omega⟩
  · simp [n0] at h1
theorem SF.putG (h : SF w0 w s q E I m N f) (hB : BigT N) (hN : N.length ≤ 900000) (i n : Int) :
    Calls Try.prog 16 [.pointer (some ⟨s, 0, none⟩), .int .i64 i, .int .i64 n].toArray w fun x w' => ∃ p q' E' I' m', x = .returned (.bool p) ∧ SP.Eq q q' ∧ WrS w w' s q q' ∧ SF w0 w' s q' E' I' m' N f := by
  have hel := h.inv.elen
  have hil := h.inv.il
  refine (sPut_calls h.is hB i n (by omega) h.inv.pos (by omega) (by omega) (h.inv.small hN)).mono ?_
  rintro x w' ⟨p, vo, vi, rfl, hW, ⟨rfl, hf, hi, hI⟩ | ⟨rfl, hI⟩⟩
  · obtain ⟨k, rfl, hk⟩ := freshB_is hf
    exact ⟨_, { q with vo := vo, vi := vi }, _, _, _, rfl, ⟨rfl, rfl, rfl⟩, hW, h.wr hI hW (h.inv.put (by omega) hk hf) h.wf⟩
  · exact ⟨_, { q with vo := vo, vi := vi }, _, _, _, rfl, ⟨rfl, rfl, rfl⟩, hW, h.wr hI hW h.inv h.wf⟩
theorem SF.dropG (h : SF w0 w s q E I m N f) (hN : N.length ≤ 900000) (n : Int) :
    Calls Try.prog 18 [.pointer (some ⟨s, 0, none⟩), .int .i64 n].toArray w fun x w' => ∃ p q' E' I' m', x = .returned (.bool p) ∧ SP.Eq q q' ∧ WrS w w' s q q' ∧ SF w0 w' s q' E' I' m' N f := by
  have hel := h.inv.elen
  refine (sDrop_calls h.is h.inv.pos (by omega) h.inv.lens (h.inv.small hN) n).mono ?_
  rintro x w' ⟨p, vo, rfl, hW, ⟨rfl, k, hk1, hkE, hkn, hI⟩ | ⟨rfl, hI⟩⟩
  · exact ⟨_, { q with vo := vo }, _, _, _, rfl, ⟨rfl, rfl, rfl⟩, hW, h.wr hI hW (h.inv.drop hk1 hkE) h.wf⟩
  · exact ⟨_, { q with vo := vo }, _, _, _, rfl, ⟨rfl, rfl, rfl⟩, hW, h.wr hI hW h.inv h.wf⟩
theorem SF.swapG (h : SF w0 w s q E I m N f) (hB : BigT N) (hN : N.length ≤ 900000) (n n2 : Int) :
    Calls Try.prog 17 [.pointer (some ⟨s, 0, none⟩), .int .i64 n, .int .i64 n2].toArray w fun x w' => ∃ p q' E' I' m', x = .returned (.bool p) ∧ SP.Eq q q' ∧ WrS w w' s q q' ∧ SF w0 w' s q' E' I' m' N f := by
  have hel := h.inv.elen
  have hil := h.inv.il
  refine (sSwap_calls h.is hB (by omega) h.inv.pos (by omega) h.inv.lens (by omega) (h.inv.small hN) (fun e _ => h.inv.small1 hN e) n n2).mono ?_
  rintro x w' ⟨p, vo, vi, rfl, hW, ⟨rfl, hf, k, hk1, hkE, hkn, hI⟩ | ⟨rfl, hI⟩⟩
  · obtain ⟨j, rfl, hj⟩ := freshB_is hf
    exact ⟨_, { q with vo := vo, vi := vi }, _, _, _, rfl, ⟨rfl, rfl, rfl⟩, hW, h.wr hI hW (h.inv.swap hk1 hkE hj hf) h.wf⟩
  · exact ⟨_, { q with vo := vo, vi := vi }, _, _, _, rfl, ⟨rfl, rfl, rfl⟩, hW, h.wr hI hW h.inv h.wf⟩
theorem SF.popG (h : SF w0 w s q E I m N f) (hN : N.length ≤ 900000) :
    Calls Try.prog 15 [.pointer (some ⟨s, 0, none⟩)].toArray w fun x w' => ∃ p q' E' I' m', x = .returned (.bool p) ∧ SP.Eq q q' ∧ WrS w w' s q q' ∧ SF w0 w' s q' E' I' m' N f := by
  refine (h.pop hN).mono ?_
  rintro x w' ⟨rfl, q', hq, hW, hI⟩
  split at hI
  · exact ⟨_, q', _, _, _, rfl, hq, hW, hI⟩
  · exact ⟨_, q', _, _, _, rfl, hq, hW, hI⟩
set_option maxHeartbeats 8000000 in
theorem SF.pushG (h : SF w0 w s q E I m N f) (hB : BigT N) (hN : N.length ≤ 900000) (n : Int) :
    Calls Try.prog 19 [.pointer (some ⟨s, 0, none⟩), .int .i64 n].toArray w fun x w' => ∃ p q' E' I' m', x = .returned (.bool p) ∧ SP.Eq q q' ∧ WrS w w' s q q' ∧ SF w0 w' s q' E' I' m' N f := by
  have hb := h.is.blk
  obtain ⟨A, c, hv, hc⟩ := h.is.own.rd.form
  rw [hv] at hb
  refine calls_zc (n := 13) (f := 19) (fn := Try.f19) Try.func19 rfl rfl (by simp) ?_
  refine zc_seq ?_
  refine zc_region ?_
  refine zl_pureL rfl ?_
  refine zl_nil ?_
  refine zk_seq ?_
  refine zc_seq ?_
  refine zc_region ?_
  iterate 3 (refine zl_pureL rfl ?_)
  refine z_fa want_none (by decide) rfl ?_
  refine z_loadB want_none (by decide) rfl (by assumption) (by rfl) ?_
  refine z_len want_none (by decide) rfl ?_
  refine zl_pureL rfl ?_
  refine zl_call (by first | exact want_none | exact want_L rfl) rfl (by decide) rfl (h.putG hB hN _ _) ?_
  rintro _ w1 ⟨p, q', E', I', m', rfl, h1⟩
  refine ⟨_, rfl, ?_⟩
  refine zl_pureL rfl ?_
  refine zl_nil ?_
  refine zk_seq ?_
  refine zc_ret ?_
  exact zk_ret1 (.inr rfl) rfl rfl ⟨p, q', E', I', m', rfl, h1⟩
theorem SF.docElem (h : SF w0 w s q E I m N f) (hN : N.length ≤ 90000) (sp : Int) (nm : ByteArray) {va : Value} {l : List At} (ha : AttrS w va l) (hal : l.length ≤ 100000) :
    Calls Try.prog 11 [.pointer (some ⟨q.pd, 0, none⟩), .int .i64 sp, .string nm, va].toArray w fun x w' => x = .returned (.int .i64 N.length) ∧ ∃ q', SP.Eq q q' ∧ WrS w w' s q q' ∧ SF w0 w' s q' E I m (N ++ [⟨1, sp, nm, l, [], -1, []⟩]) f := by
  refine (elem'_calls h.is.doc (by omega) sp nm ha hal).mono ?_
  rintro x w' ⟨rfl, vl', Q', hI, hW⟩
  exact ⟨rfl, { q with vl := vl', Q := Q' }, ⟨rfl, rfl, rfl⟩, WrS.doc hW, h.wr (h.is.docW hI hW) (WrS.doc hW) (h.inv.nodes (sameK.snoc _ _)) (h.wf.add rfl rfl)⟩
theorem SF.docNote (h : SF w0 w s q E I m N f) (hN : N.length ≤ 90000) (t : List UInt8) (ht : t.length ≤ 100000) :
    Calls Try.prog 12 [.pointer (some ⟨q.pd, 0, none⟩), .string (bs t)].toArray w fun x w' => x = .returned (.int .i64 N.length) ∧ ∃ q', SP.Eq q q' ∧ WrS w w' s q q' ∧ SF w0 w' s q' E I m (N ++ [⟨3, 0, ⟨#[]⟩, [], t, -1, []⟩]) f := by
  refine (note_calls h.is.doc (by omega) t ht).mono ?_
  rintro x w' ⟨rfl, vl', Q', hI, hW⟩
  exact ⟨rfl, { q with vl := vl', Q := Q' }, ⟨rfl, rfl, rfl⟩, WrS.doc hW, h.wr (h.is.docW hI hW) (WrS.doc hW) (h.inv.nodes (sameK.snoc _ _)) (h.wf.add rfl rfl)⟩
end
end Go.Proofs.Yteeibieaapiomaa.D
