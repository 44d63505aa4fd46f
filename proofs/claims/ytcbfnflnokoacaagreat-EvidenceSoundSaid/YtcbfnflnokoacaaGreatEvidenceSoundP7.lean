/-
  EvidenceSound proved: for every input the law returns true, and each argument reads as it did. Conditions: none.
-/
import Derived.Test.YtcbfnflnokoacaaGreatEvidenceSoundP6
namespace Go.Proofs.YtcbfnflnokoacaaGreat
set_option maxRecDepth 100000
set_option maxHeartbeats 4000000
open Go Go.RowKit Go.Own Go.Shelf
theorem firstE_0 {x : Int} {r : List Int} (h : firstE (x :: r) = 0) : x = 0 ∧ firstE r = 0 := by
  by_cases hx : x = 0
  · rw [firstE, if_pos hx] at h; exact ⟨hx, h⟩
  · rw [firstE, if_neg hx] at h; exact absurd h hx
theorem evi_0 {m : Msg} (h : m.evi = 0) : m.chk = 0 ∧ m.k = 8 := by
  unfold Msg.evi at h
  by_cases h1 : m.chk = 0
  · rw [if_pos h1] at h
    by_cases h2 : m.k = 8
    · exact ⟨h1, h2⟩
    · rw [if_neg h2] at h; omega
  · rw [if_neg h1] at h; exact absurd h h1
theorem pf_of {m : Msg} (h : m.chk = 0) (hk : m.k = 8) : m.pf = 1 ∨ m.pf = 2 ∨ m.pf = 3 := by
  unfold Msg.chk at h
  by_cases hf : m.form
  · have := hf.2 hk; omega
  · rw [if_neg hf] at h; omega
theorem off_0 {p : Par} {m : Msg} {o : Off} (h : offe p m = (o, 0)) : p.check.1 = 0 ∧ m.chk = 0 ∧ m.k = 8 ∧ m.cla = true ∧ (m.pf = 3 ∧ o = ⟨m.p.v, 2, m.p.h⟩ ∨ (m.pf = 1 ∨ m.pf = 2) ∧ p.first (max m.a.t m.b.t) = (o.h, 0) ∧ o = ⟨m.a.v, 1, o.h⟩) := by
  rw [offe] at h
  by_cases h0 : offE p m = 0
  · rw [if_pos h0] at h
    obtain ⟨h1, h2⟩ := firstE_0 h0
    obtain ⟨h2, h3⟩ := firstE_0 h2
    obtain ⟨h3, _⟩ := firstE_0 h3
    obtain ⟨h4, h5⟩ := evi_0 h2
    have hc : m.cla = true := by cases hc : m.cla with | true => rfl | false => rw [hc] at h3; simp at h3
    by_cases hh : (hgt p m).2 = 0
    · rw [if_pos hh] at h
      refine ⟨h1, h4, h5, hc, ?_⟩
      rcases pf_of h4 h5 with hp | hp | hp
      · rw [if_neg (by omega)] at h
        simp only [Prod.mk.injEq, and_true] at h
        have : hgt p m = p.first (max m.a.t m.b.t) := if_pos (.inl hp)
        refine .inr ⟨.inl hp, ?_, ?_⟩
        · rw [← h, ← this, ← hh]
        · rw [← h]
      · rw [if_neg (by omega)] at h
        simp only [Prod.mk.injEq, and_true] at h
        have : hgt p m = p.first (max m.a.t m.b.t) := if_pos (.inr hp)
        refine .inr ⟨.inr hp, ?_, ?_⟩
        · rw [← h, ← this, ← hh]
        · rw [← h]
      · rw [if_pos hp] at h
        simp only [Prod.mk.injEq, and_true] at h
        have : hgt p m = (m.p.h, 0) := if_neg (by omega)
        exact .inl ⟨hp, by rw [← h, this]⟩
    · rw [if_neg hh] at h; simp only [Prod.mk.injEq] at h; exact absurd h.2 hh
  · rw [if_neg h0] at h; simp only [Prod.mk.injEq] at h; exact absurd h.2 h0
theorem sgnd_0 {l : List Sel} {m : Msg} (h : sgnd l m = 0) : ∀ x ∈ m.sls, x ∈ l := by
  obtain ⟨_, h2⟩ := firstE_0 h
  obtain ⟨h2, _⟩ := firstE_0 h2
  unfold hasE at h2
  by_cases ha : m.sls.all (fun x => decide (x ∈ l)) = true
  · intro x hx; exact of_decide_eq_true (List.all_eq_true.1 ha x hx)
  · rw [if_neg ha] at h2; omega
theorem jud_0 {p : Par} {l : List Sel} {n : Int} {m : Msg} {o : Off} (h : jud p l n m = (o, 0)) : offe p m = (o, 0) ∧ ¬ n ≤ o.v ∧ ∀ x ∈ m.sls, x ∈ l := by
  rw [jud] at h
  by_cases h0 : (offe p m).2 = 0
  · rw [if_pos h0] at h
    by_cases h1 : n ≤ (offe p m).1.v
    · rw [if_pos h1] at h; simp at h
    · rw [if_neg h1] at h
      by_cases h2 : sgnd l m = 0
      · rw [if_pos h2] at h
        simp only [Prod.mk.injEq, and_true] at h
        subst h
        exact ⟨by rw [← h0], h1, sgnd_0 h2⟩
      · rw [if_neg h2] at h; simp only [Prod.mk.injEq] at h; exact absurd h.2 h2
  · rw [if_neg h0] at h; simp only [Prod.mk.injEq] at h; exact absurd h.2 h0
theorem jud_bad {p : Par} {l : List Sel} {n : Int} {m : Msg} (h : ¬ (jud p l n m).2 = 0) : jud p l n m = (offZ, (jud p l n m).2) := by
  unfold jud at h ⊢
  split
  · rename_i h0
    rw [if_pos h0] at h
    split
    · rfl
    · rename_i h1
      rw [if_neg h1] at h
      split
      · rename_i h2; rw [if_pos h2] at h; exact absurd rfl h
      · rfl
  · rfl
theorem pCheck_0 {p : Par} (w : World) (hp : p.Ok) (h : p.check.1 = 0) : Calls Tryz.prog 31 #[.agg p.cells] w fun e w' => e = .returned (.tuple #[.int .i64 0, .int .i64 p.check.2]) ∧ Keeps Nob w w' := by
  have := pCheck_ok p hp w; rw [h] at this; exact this
theorem pFirst_is {p : Par} {t h : Int} (w : World) (hp : p.Ok) (ht : i64ok t) (hf : p.first t = (h, 0)) : Calls Tryz.prog 34 #[.agg p.cells, .int .i64 t] w fun e w' => e = .returned (.tuple #[.int .i64 h, .int .i64 0]) ∧ Keeps Nob w w' := by
  have := pFirst_ok p hp t ht w; rw [hf] at this; exact this
theorem mCheck_0 {m : Msg} (w : World) (hr : m.R) (h : m.chk = 0) : Calls Tryz.prog 36 #[.agg (Msg.c m)] w fun e w' => e = .returned (.int .i64 0) ∧ Keeps Nob w w' := by
  have := mCheck_any m w hr; rw [h] at this; exact this
theorem vDigest_fine {a : Att} (w : World) (ha : a.Ok) (hf : a.fine) : Calls Tryz.prog 39 #[.agg (Att.c a)] w fun e w' => e = .returned (.tuple #[.agg (B a.dg).toArray, .int .i64 0]) ∧ Keeps Nob w w' := by
  have := vDigest_any a w ha; rw [Att.err_ok hf] at this; exact this
theorem vDigestBlock_fine {a : Pro} (w : World) (ha : a.Ok) (hf : a.fine) : Calls Tryz.prog 37 #[.agg (Pro.c a)] w fun e w' => e = .returned (.tuple #[.agg (B a.dg).toArray, .int .i64 0]) ∧ Keeps Nob w w' := by
  have := vDigestBlock_any a w ha; rw [Pro.err_ok hf] at this; exact this
noncomputable def qc84_0 (n : Nat) : Code := partOf Tryz.f7 n
theorem sound_long (p : Par) (v : Value) (l : List Sel) (n : Int) (m : Msg) (w : World) (hp : p.Ok) (ho : m.Ok) (hl : SelsAt w v l) (hlr : ∀ y ∈ l, y.r.length = 32) (hlen : 60 < l.length) :
    Calls Tryz.prog 7 #[.agg p.cells, v, .int .i64 n, .agg (Msg.c m)] w (fun e w' => e = .returned (.bool true) ∧ Keeps Nob w w') := by
  have hr := ho.R
  have hll := hl.len_le
  have K0 : Keeps Nob w w := Keeps.refl _ _
  refine sy_enter (qc84_0 1) ⟨#[.agg p.cells, v, .int .i64 n, .agg (Msg.c m), ud, ud, ud, ud, ud, ud, ud, ud, ud, ud, ud, ud, ud, ud, ud, ud, ud, ud, ud, ud, ud, ud, ud, ud, ud, ud, ud, ud, ud, ud, ud, ud, ud, ud, ud, ud, ud, ud, ud, ud, ud, ud, ud, ud, ud, ud, ud, ud, ud, ud, ud, ud, ud, ud, ud, ud, ud, ud, ud, ud, ud, ud, ud, ud, ud, ud, ud, ud, ud, ud, ud, ud, ud, ud, ud, ud, ud, ud, ud, ud, ud, ud, ud, ud, ud, ud, ud, ud, ud, ud, ud, ud, ud, ud, ud, ud, ud, ud, ud, ud, ud, ud, ud, ud, ud, ud, ud, ud, ud, ud, ud, ud, ud, ud, ud, ud, ud, ud, ud, ud, ud, ud, ud, ud, ud, ud, ud, ud, ud, ud, ud, ud, ud, ud, ud, ud, ud, ud, ud, ud, ud, ud, ud, ud, ud, ud, ud, ud, ud, ud, ud, ud, ud, ud, ud, ud, ud, ud, ud, ud, ud, ud, ud, ud, ud, ud, ud, ud, ud, ud, ud, ud, ud, ud, ud, ud, ud, ud, ud, ud, ud, ud, ud, ud, ud, ud, ud, ud, ud, ud, ud, ud, ud, ud, ud, ud, ud, ud, ud, ud, ud, ud, ud, ud, ud, ud, ud, ud, ud, ud, ud, ud, ud, ud, ud, ud, ud, ud, ud, ud, ud, ud, ud, ud, ud, ud, ud, ud, ud, ud, ud, ud, ud, ud, ud, ud, ud, ud, ud], []⟩ Tryz.func7 (by kernel_rfl) (by kernel_rfl) <| sy_sq (qc84_0 2) (qc84_0 3) <| sy_reg <| rg_q 0 [0, 1, 2] ?_
  obtain ⟨V1, eV1, gp, egp, h2, kV1⟩ := alloc_step w p.cells 45
  have n3 : w.heap.size ≤ gp := egp ▸ K0.size
  refine prq (pT gp 0) (w' := V1) (by rw [← eV1, ← egp]; exact exec_box 45 (.tmp 0) (by kernel_rfl) (.agg p.cells) (by kernel_rfl)) ?_
  clear eV1
  have h4 : SelsAt V1 v l := hl.keepsN kV1
  have K5 := K0.nn kV1
  have z6 := kV1.size
  obtain ⟨V7, eV7, gm, egm, h8, kV7⟩ := alloc_step V1 ((Msg.c m)) 38
  have n9 : gp < gm := egm ▸ lt_of_block h2
  have n10 : w.heap.size ≤ gm := egm ▸ K5.size
  refine prq (pT gm 0) (w' := V7) (by rw [← eV7, ← egm]; exact exec_box 38 (.tmp 3) (by kernel_rfl) (.agg (Msg.c m)) (by kernel_rfl)) ?_
  clear eV7
  have h11 : SelsAt V7 v l := h4.keepsN kV7
  have K13 := K5.nn kV7
  have z14 := kV7.size
  refine pkq (.bool false) <| ps_end <| then_n <| sy_sq (qc84_0 6) (qc84_0 7) <| sy_reg <| rg_q 1 [0, 1] ?_
  refine pcq 5 #[] Tryz.func5 ((evidenceKnown_ok _).mono ?_)
  rintro e V15 ⟨rfl, kV15⟩
  refine ⟨_, rfl, ?_⟩
  have h16 : SelsAt V15 v l := h11.keepsN kV15
  have K19 := K13.nn kV15
  have z20 := kV15.size
  refine pkq (.bool true) <| ps_end <| then_n <| sy_sq (qc84_0 14) (qc84_0 15) <| sy_sq (qc84_0 28) (qc84_0 29) <| sy_reg <| rg_q 2 [0, 1, 2] <| pkq (v) <| ppq (iN l.length) (exec_len_sl (.tmp 27) 46 30 (by kernel_rfl) Tryz.underlying46 (by kernel_rfl) h16) <| ppq (.bool true) (dct ((((l.length : Nat) : Int)) > ((60) : Int)) (by omega)) <| ps_end <| then_n <| sy_ys (.tmp 29) (qc84_0 58) (qc84_0 59) <| sy_sq (qc84_0 116) (qc84_0 117) ?_
  refine sy_reg <| rg_q 3 [0, 1] <| pkq (.bool true) <| pkq (.bool true) <| ps_end <| then_n <| sy_ret (by kernel_rfl) <| then_r <| sy_out (.bool true) rfl (by kernel_rfl) ?_
  exact ⟨rfl, K19⟩
theorem sound_bad (p : Par) (v : Value) (l : List Sel) (n : Int) (m : Msg) (w : World) (hp : p.Ok) (ho : m.Ok) (hl : SelsAt w v l) (hlr : ∀ y ∈ l, y.r.length = 32) (x : Int) (hlen : ¬ 60 < l.length) (hj : jud p l n m = (⟨0, 0, 0⟩, x)) (hx : ¬ x = 0) :
    Calls Tryz.prog 7 #[.agg p.cells, v, .int .i64 n, .agg (Msg.c m)] w (fun e w' => e = .returned (.bool true) ∧ Keeps Nob w w') := by
  have hr := ho.R
  have hll := hl.len_le
  have K0 : Keeps Nob w w := Keeps.refl _ _
  refine sy_enter (qc84_0 1) ⟨#[.agg p.cells, v, .int .i64 n, .agg (Msg.c m), ud, ud, ud, ud, ud, ud, ud, ud, ud, ud, ud, ud, ud, ud, ud, ud, ud, ud, ud, ud, ud, ud, ud, ud, ud, ud, ud, ud, ud, ud, ud, ud, ud, ud, ud, ud, ud, ud, ud, ud, ud, ud, ud, ud, ud, ud, ud, ud, ud, ud, ud, ud, ud, ud, ud, ud, ud, ud, ud, ud, ud, ud, ud, ud, ud, ud, ud, ud, ud, ud, ud, ud, ud, ud, ud, ud, ud, ud, ud, ud, ud, ud, ud, ud, ud, ud, ud, ud, ud, ud, ud, ud, ud, ud, ud, ud, ud, ud, ud, ud, ud, ud, ud, ud, ud, ud, ud, ud, ud, ud, ud, ud, ud, ud, ud, ud, ud, ud, ud, ud, ud, ud, ud, ud, ud, ud, ud, ud, ud, ud, ud, ud, ud, ud, ud, ud, ud, ud, ud, ud, ud, ud, ud, ud, ud, ud, ud, ud, ud, ud, ud, ud, ud, ud, ud, ud, ud, ud, ud, ud, ud, ud, ud, ud, ud, ud, ud, ud, ud, ud, ud, ud, ud, ud, ud, ud, ud, ud, ud, ud, ud, ud, ud, ud, ud, ud, ud, ud, ud, ud, ud, ud, ud, ud, ud, ud, ud, ud, ud, ud, ud, ud, ud, ud, ud, ud, ud, ud, ud, ud, ud, ud, ud, ud, ud, ud, ud, ud, ud, ud, ud, ud, ud, ud, ud, ud, ud, ud, ud, ud, ud, ud, ud, ud, ud, ud, ud, ud, ud], []⟩ Tryz.func7 (by kernel_rfl) (by kernel_rfl) <| sy_sq (qc84_0 2) (qc84_0 3) <| sy_reg <| rg_q 0 [0, 1, 2] ?_
  obtain ⟨V1, eV1, gp, egp, h2, kV1⟩ := alloc_step w p.cells 45
  have n3 : w.heap.size ≤ gp := egp ▸ K0.size
  refine prq (pT gp 0) (w' := V1) (by rw [← eV1, ← egp]; exact exec_box 45 (.tmp 0) (by kernel_rfl) (.agg p.cells) (by kernel_rfl)) ?_
  clear eV1
  have h4 : SelsAt V1 v l := hl.keepsN kV1
  have K5 := K0.nn kV1
  have z6 := kV1.size
  obtain ⟨V7, eV7, gm, egm, h8, kV7⟩ := alloc_step V1 ((Msg.c m)) 38
  have n9 : gp < gm := egm ▸ lt_of_block h2
  have n10 : w.heap.size ≤ gm := egm ▸ K5.size
  refine prq (pT gm 0) (w' := V7) (by rw [← eV7, ← egm]; exact exec_box 38 (.tmp 3) (by kernel_rfl) (.agg (Msg.c m)) (by kernel_rfl)) ?_
  clear eV7
  have h11 : SelsAt V7 v l := h4.keepsN kV7
  have h12 := kV7.bk h2
  have K13 := K5.nn kV7
  have z14 := kV7.size
  refine pkq (.bool false) <| ps_end <| then_n <| sy_sq (qc84_0 6) (qc84_0 7) <| sy_reg <| rg_q 1 [0, 1] ?_
  refine pcq 5 #[] Tryz.func5 ((evidenceKnown_ok _).mono ?_)
  rintro e V15 ⟨rfl, kV15⟩
  refine ⟨_, rfl, ?_⟩
  have h16 : SelsAt V15 v l := h11.keepsN kV15
  have h17 := kV15.bk h12
  have h18 := kV15.bk h8
  have K19 := K13.nn kV15
  have z20 := kV15.size
  refine pkq (.bool true) <| ps_end <| then_n <| sy_sq (qc84_0 14) (qc84_0 15) <| sy_sq (qc84_0 28) (qc84_0 29) <| sy_reg <| rg_q 2 [0, 1, 2] <| pkq (v) <| ppq (iN l.length) (exec_len_sl (.tmp 27) 46 30 (by kernel_rfl) Tryz.underlying46 (by kernel_rfl) h16) <| ppq (.bool false) (dcf ((((l.length : Nat) : Int)) > ((60) : Int)) (by omega)) <| ps_end <| then_n <| sy_n (.tmp 29) (qc84_0 58) (qc84_0 59) <| sy_sk ?_
  refine then_n <| sy_sq (qc84_0 30) (qc84_0 31) <| sy_reg <| rg_q 4 [0, 1, 2, 3, 4, 5, 6, 7, 8, 9, 10] <| ppq (.agg (p.cells)) (exec_load_row 45 (.tmp 4) (by kernel_rfl) gp (by kernel_rfl) _ _ (0, 0) _ (h17) Tryz.underlying45 rfl (by kernel_rfl)) <| pkq (v) <| pkq (.int .i64 n) <| ppq (.agg (Msg.c m)) (exec_load_row 38 (.tmp 7) (by kernel_rfl) gm (by kernel_rfl) _ _ (0, 0) _ (h18) Tryz.underlying38 rfl (by rw [Msg.c_size hr]; kernel_rfl)) ?_
  refine pcq 20 #[.agg (p.cells), v, .int .i64 n, .agg (Msg.c m)] Tryz.func20 ((eJudge_is _ hp ho h16 hlr hj).mono ?_)
  rintro e V21 ⟨rfl, kV21⟩
  refine ⟨_, rfl, ?_⟩
  have h23 := kV21.bk h17
  have h24 := kV21.bk h18
  have K25 := K19.nn kV21
  have z26 := kV21.size
  refine pkq (.tuple #[.agg (Off.cs ⟨0, 0, 0⟩), .int .i64 x]) <| pkq (.agg (Off.cs ⟨0, 0, 0⟩)) <| pkq (.int .i64 x) ?_
  obtain ⟨V27, eV27, go, ego, h28, kV27⟩ := alloc_step V21 (#[.int .i64 0, .int .i64 0, .int .i64 0]) 49
  have n29 : gp < go := ego ▸ lt_of_block h23
  have n30 : gm < go := ego ▸ lt_of_block h24
  have n31 : w.heap.size ≤ go := ego ▸ K25.size
  refine prq (pT go 0) (w' := V27) (by rw [← eV27, ← ego]; exact exec_alloc0 49 (by kernel_rfl) (.agg (#[.int .i64 0, .int .i64 0, .int .i64 0])) (by kernel_rfl)) ?_
  clear eV27
  have K35 := K25.nn kV27
  have z36 := kV27.size
  obtain ⟨V37, eV37, kV37⟩ := rowset_step V27 go ((Off.cs ⟨0, 0, 0⟩))
  have h38 : V37.heap[go]? = some (.cells (Off.cs ⟨0, 0, 0⟩) 49 (0, 0)) := eV37 ▸ setRow_heap _ _ _ _ _ _ h28
  refine pzq (w' := V37) (by rw [← eV37]; exact exec_store_row 49 (.tmp 10) (.tmp 37) (by kernel_rfl) go ((Off.cs ⟨0, 0, 0⟩)) (by kernel_rfl) (by kernel_rfl) 49 (#[.int .i64 0, .int .i64 0, .int .i64 0]) h28 (by kernel_rfl) rfl (by kernel_rfl)) ?_
  clear eV37
  have K42 := K35.no kV37 (by omega)
  have z43 := kV37.size
  refine pkq (.int .i64 x) <| ps_end <| then_n <| sy_sq (qc84_0 62) (qc84_0 63) <| sy_sq (qc84_0 124) (qc84_0 125) <| sy_reg <| rg_q 5 [0, 1] <| pkq (.int .i64 x) <| ppq (.bool true) (nqt ((x) : Int) ((0) : Int) (by omega)) <| ps_end <| then_n <| sy_ys (.tmp 40) (qc84_0 250) (qc84_0 251) <| sy_sq (qc84_0 500) (qc84_0 501) <| sy_reg ?_
  refine rg_q 6 [0, 1, 2, 3, 4, 5, 6] <| pkq (.bool true) <| pkq (.bool true) <| ppq (.agg (Off.cs ⟨0, 0, 0⟩)) (exec_load_row 49 (.tmp 10) (by kernel_rfl) go (by kernel_rfl) _ _ (0, 0) _ (h38) Tryz.underlying49 rfl (by kernel_rfl)) <| pkq (.agg (Off.cs offZ)) <| ppq (.bool true) (exec_cast (congrArg Value.bool (by simp)) (exec_binop .eql 49 49 (.tmp 43) (.tmp 44) (by kernel_rfl) (.agg (Off.cs offZ)) (.agg (Off.cs offZ)) _ (by kernel_rfl) (by kernel_rfl) (run_eqGuard_agg _ _ _ _ _ _ _ off_guard) (off_eq _ _ _))) <| pkq (.bool true) <| pkq (.bool true) <| ps_end <| sy_a ⟨#[.agg p.cells, v, .int .i64 n, .agg (Msg.c m), pT gp 0, ud, ud, pT gm 0, .bool true, .bool true, pT go 0, .int .i64 x, ud, ud, ud, ud, ud, ud, ud, ud, ud, ud, ud, ud, ud, ud, .bool true, v, iN l.length, .bool false, ud, .tuple #[.agg (Off.cs ⟨0, 0, 0⟩), .int .i64 x], .agg (p.cells), v, .int .i64 n, .agg (Msg.c m), .tuple #[.agg (Off.cs ⟨0, 0, 0⟩), .int .i64 x], .agg (Off.cs ⟨0, 0, 0⟩), .int .i64 x, .int .i64 x, .bool true, .bool true, .bool true, .agg (Off.cs ⟨0, 0, 0⟩), .agg (Off.cs offZ), .bool true, .bool true, ud, ud, ud, ud, ud, ud, ud, ud, ud, ud, ud, ud, ud, ud, ud, ud, ud, ud, ud, ud, ud, ud, ud, ud, ud, ud, ud, ud, ud, ud, ud, ud, ud, ud, ud, ud, ud, ud, ud, ud, ud, ud, ud, ud, ud, ud, ud, ud, ud, ud, ud, ud, ud, ud, ud, ud, ud, ud, ud, ud, ud, ud, ud, ud, ud, ud, ud, ud, ud, ud, ud, ud, ud, ud, ud, ud, ud, ud, ud, ud, ud, ud, ud, ud, ud, ud, ud, ud, ud, ud, ud, ud, ud, ud, ud, ud, ud, ud, ud, ud, ud, ud, ud, ud, ud, ud, ud, ud, ud, ud, ud, ud, ud, ud, ud, ud, ud, ud, ud, ud, ud, ud, ud, ud, ud, ud, ud, ud, ud, ud, ud, ud, ud, ud, ud, ud, ud, ud, ud, ud, ud, ud, ud, ud, ud, ud, ud, ud, ud, ud, ud, ud, ud, ud, ud, ud, ud, ud, ud, ud, ud, ud, ud, ud, ud, ud, ud, ud, ud, ud, ud, ud, ud, ud, ud, ud, ud, ud, ud, ud, ud, ud, ud, ud, ud, ud, ud, ud, ud, ud, ud, ud, ud, ud, ud, ud], []⟩ <| then_n <| sy_ret (by kernel_rfl) <| then_r <| sy_out (.bool true) rfl (by kernel_rfl) ?_
  exact ⟨rfl, K42⟩
theorem sound_P (p : Par) (v : Value) (l : List Sel) (n : Int) (m : Msg) (w : World) (hp : p.Ok) (ho : m.Ok) (hl : SelsAt w v l) (hlr : ∀ y ∈ l, y.r.length = 32) (hlen : ¬ 60 < l.length) (hj : jud p l n m = (⟨m.p.v, 2, m.p.h⟩, 0)) (hn : ¬ n ≤ m.p.v) (hpf : m.pf = 3) (hc : p.check.1 = 0) (hch : m.chk = 0) (hk : m.k = 8) (hfp : m.p.fine) (hfq : m.q.fine) (hv : m.p.v = m.q.v) (hh : m.p.h = m.q.h) (hdd : ¬ m.p.dg = m.q.dg) (hs1 : (⟨m.p.v, m.p.dg, m.p.g⟩ : Sel) ∈ l) (hs2 : (⟨m.p.v, m.q.dg, m.q.g⟩ : Sel) ∈ l) :
    Calls Tryz.prog 7 #[.agg p.cells, v, .int .i64 n, .agg (Msg.c m)] w (fun e w' => e = .returned (.bool true) ∧ Keeps Nob w w') := by
  have hr := ho.R
  have hll := hl.len_le
  have K0 : Keeps Nob w w := Keeps.refl _ _
  refine sy_enter (qc84_0 1) ⟨#[.agg p.cells, v, .int .i64 n, .agg (Msg.c m), ud, ud, ud, ud, ud, ud, ud, ud, ud, ud, ud, ud, ud, ud, ud, ud, ud, ud, ud, ud, ud, ud, ud, ud, ud, ud, ud, ud, ud, ud, ud, ud, ud, ud, ud, ud, ud, ud, ud, ud, ud, ud, ud, ud, ud, ud, ud, ud, ud, ud, ud, ud, ud, ud, ud, ud, ud, ud, ud, ud, ud, ud, ud, ud, ud, ud, ud, ud, ud, ud, ud, ud, ud, ud, ud, ud, ud, ud, ud, ud, ud, ud, ud, ud, ud, ud, ud, ud, ud, ud, ud, ud, ud, ud, ud, ud, ud, ud, ud, ud, ud, ud, ud, ud, ud, ud, ud, ud, ud, ud, ud, ud, ud, ud, ud, ud, ud, ud, ud, ud, ud, ud, ud, ud, ud, ud, ud, ud, ud, ud, ud, ud, ud, ud, ud, ud, ud, ud, ud, ud, ud, ud, ud, ud, ud, ud, ud, ud, ud, ud, ud, ud, ud, ud, ud, ud, ud, ud, ud, ud, ud, ud, ud, ud, ud, ud, ud, ud, ud, ud, ud, ud, ud, ud, ud, ud, ud, ud, ud, ud, ud, ud, ud, ud, ud, ud, ud, ud, ud, ud, ud, ud, ud, ud, ud, ud, ud, ud, ud, ud, ud, ud, ud, ud, ud, ud, ud, ud, ud, ud, ud, ud, ud, ud, ud, ud, ud, ud, ud, ud, ud, ud, ud, ud, ud, ud, ud, ud, ud, ud, ud, ud, ud, ud, ud, ud, ud, ud, ud], []⟩ Tryz.func7 (by kernel_rfl) (by kernel_rfl) <| sy_sq (qc84_0 2) (qc84_0 3) <| sy_reg <| rg_q 0 [0, 1, 2] ?_
  obtain ⟨V1, eV1, gp, egp, h2, kV1⟩ := alloc_step w p.cells 45
  have n3 : w.heap.size ≤ gp := egp ▸ K0.size
  refine prq (pT gp 0) (w' := V1) (by rw [← eV1, ← egp]; exact exec_box 45 (.tmp 0) (by kernel_rfl) (.agg p.cells) (by kernel_rfl)) ?_
  clear eV1
  have h4 : SelsAt V1 v l := hl.keepsN kV1
  have K5 := K0.nn kV1
  have z6 := kV1.size
  obtain ⟨V7, eV7, gm, egm, h8, kV7⟩ := alloc_step V1 ((Msg.c m)) 38
  have n9 : gp < gm := egm ▸ lt_of_block h2
  have n10 : w.heap.size ≤ gm := egm ▸ K5.size
  refine prq (pT gm 0) (w' := V7) (by rw [← eV7, ← egm]; exact exec_box 38 (.tmp 3) (by kernel_rfl) (.agg (Msg.c m)) (by kernel_rfl)) ?_
  clear eV7
  have h11 : SelsAt V7 v l := h4.keepsN kV7
  have h12 := kV7.bk h2
  have K13 := K5.nn kV7
  have z14 := kV7.size
  refine pkq (.bool false) <| ps_end <| then_n <| sy_sq (qc84_0 6) (qc84_0 7) <| sy_reg <| rg_q 1 [0, 1] ?_
  refine pcq 5 #[] Tryz.func5 ((evidenceKnown_ok _).mono ?_)
  rintro e V15 ⟨rfl, kV15⟩
  refine ⟨_, rfl, ?_⟩
  have h16 : SelsAt V15 v l := h11.keepsN kV15
  have h17 := kV15.bk h12
  have h18 := kV15.bk h8
  have K19 := K13.nn kV15
  have z20 := kV15.size
  refine pkq (.bool true) <| ps_end <| then_n <| sy_sq (qc84_0 14) (qc84_0 15) <| sy_sq (qc84_0 28) (qc84_0 29) <| sy_reg <| rg_q 2 [0, 1, 2] <| pkq (v) <| ppq (iN l.length) (exec_len_sl (.tmp 27) 46 30 (by kernel_rfl) Tryz.underlying46 (by kernel_rfl) h16) <| ppq (.bool false) (dcf ((((l.length : Nat) : Int)) > ((60) : Int)) (by omega)) <| ps_end <| then_n <| sy_n (.tmp 29) (qc84_0 58) (qc84_0 59) <| sy_sk ?_
  refine then_n <| sy_sq (qc84_0 30) (qc84_0 31) <| sy_reg <| rg_q 4 [0, 1, 2, 3, 4, 5, 6, 7, 8, 9, 10] <| ppq (.agg (p.cells)) (exec_load_row 45 (.tmp 4) (by kernel_rfl) gp (by kernel_rfl) _ _ (0, 0) _ (h17) Tryz.underlying45 rfl (by kernel_rfl)) <| pkq (v) <| pkq (.int .i64 n) <| ppq (.agg (Msg.c m)) (exec_load_row 38 (.tmp 7) (by kernel_rfl) gm (by kernel_rfl) _ _ (0, 0) _ (h18) Tryz.underlying38 rfl (by rw [Msg.c_size hr]; kernel_rfl)) ?_
  refine pcq 20 #[.agg (p.cells), v, .int .i64 n, .agg (Msg.c m)] Tryz.func20 ((eJudge_is _ hp ho h16 hlr hj).mono ?_)
  rintro e V21 ⟨rfl, kV21⟩
  refine ⟨_, rfl, ?_⟩
  have h22 : SelsAt V21 v l := h16.keepsN kV21
  have h23 := kV21.bk h17
  have h24 := kV21.bk h18
  have K25 := K19.nn kV21
  have z26 := kV21.size
  refine pkq (.tuple #[.agg (Off.cs ⟨m.p.v, 2, m.p.h⟩), .int .i64 0]) <| pkq (.agg (Off.cs ⟨m.p.v, 2, m.p.h⟩)) <| pkq (.int .i64 0) ?_
  obtain ⟨V27, eV27, go, ego, h28, kV27⟩ := alloc_step V21 (#[.int .i64 0, .int .i64 0, .int .i64 0]) 49
  have n29 : gp < go := ego ▸ lt_of_block h23
  have n30 : gm < go := ego ▸ lt_of_block h24
  have n31 : w.heap.size ≤ go := ego ▸ K25.size
  refine prq (pT go 0) (w' := V27) (by rw [← eV27, ← ego]; exact exec_alloc0 49 (by kernel_rfl) (.agg (#[.int .i64 0, .int .i64 0, .int .i64 0])) (by kernel_rfl)) ?_
  clear eV27
  have h32 : SelsAt V27 v l := h22.keepsN kV27
  have h33 := kV27.bk h23
  have h34 := kV27.bk h24
  have K35 := K25.nn kV27
  have z36 := kV27.size
  obtain ⟨V37, eV37, kV37⟩ := rowset_step V27 go ((Off.cs ⟨m.p.v, 2, m.p.h⟩))
  have h38 : V37.heap[go]? = some (.cells (Off.cs ⟨m.p.v, 2, m.p.h⟩) 49 (0, 0)) := eV37 ▸ setRow_heap _ _ _ _ _ _ h28
  refine pzq (w' := V37) (by rw [← eV37]; exact exec_store_row 49 (.tmp 10) (.tmp 37) (by kernel_rfl) go ((Off.cs ⟨m.p.v, 2, m.p.h⟩)) (by kernel_rfl) (by kernel_rfl) 49 (#[.int .i64 0, .int .i64 0, .int .i64 0]) h28 (by kernel_rfl) rfl (by kernel_rfl)) ?_
  clear eV37
  have h39 : SelsAt V37 v l := Sl.keepsB hl h32 kV37 (fun j e => by first | (unfold Own.One at e; omega) | omega)
  have h40 := kV37.bo h33 (by omega)
  have h41 := kV37.bo h34 (by omega)
  have K42 := K35.no kV37 (by omega)
  have z43 := kV37.size
  refine pkq (.int .i64 0) <| ps_end <| then_n <| sy_sq (qc84_0 62) (qc84_0 63) <| sy_sq (qc84_0 124) (qc84_0 125) <| sy_reg <| rg_q 5 [0, 1] <| pkq (.int .i64 0) <| pkq (.bool false) <| ps_end <| then_n <| sy_n (.tmp 40) (qc84_0 250) (qc84_0 251) <| sy_sk <| then_n ?_
  refine sy_sq (qc84_0 126) (qc84_0 127) <| sy_sq (qc84_0 252) (qc84_0 253) <| sy_reg <| rg_q 7 [0, 1, 2, 3, 4, 5, 6] <| ppq (.agg (p.cells)) (exec_load_row 45 (.tmp 4) (by kernel_rfl) gp (by kernel_rfl) _ _ (0, 0) _ (h40) Tryz.underlying45 rfl (by kernel_rfl)) ?_
  refine pcq 31 #[.agg (p.cells)] Tryz.func31 ((pCheck_0 _ hp hc).mono ?_)
  rintro e V44 ⟨rfl, kV44⟩
  refine ⟨_, rfl, ?_⟩
  have h45 : SelsAt V44 v l := h39.keepsN kV44
  have h46 := kV44.bk h40
  have h47 := kV44.bk h41
  have h48 := kV44.bk h38
  have K49 := K42.nn kV44
  have z50 := kV44.size
  refine pkq (.tuple #[.int .i64 0, .int .i64 p.check.2]) <| pkq (.int .i64 0) <| pkq (.int .i64 p.check.2) <| pkq (.int .i64 0) <| pkq (.int .i64 p.check.2) <| ps_end <| sy_a ⟨#[.agg p.cells, v, .int .i64 n, .agg (Msg.c m), pT gp 0, ud, ud, pT gm 0, .bool false, .bool true, pT go 0, .int .i64 0, .int .i64 0, .int .i64 p.check.2, ud, ud, ud, ud, ud, ud, ud, ud, ud, ud, ud, ud, .bool true, v, iN l.length, .bool false, ud, .tuple #[.agg (Off.cs ⟨m.p.v, 2, m.p.h⟩), .int .i64 0], .agg (p.cells), v, .int .i64 n, .agg (Msg.c m), .tuple #[.agg (Off.cs ⟨m.p.v, 2, m.p.h⟩), .int .i64 0], .agg (Off.cs ⟨m.p.v, 2, m.p.h⟩), .int .i64 0, .int .i64 0, .bool false, ud, ud, ud, ud, ud, ud, .tuple #[.int .i64 0, .int .i64 p.check.2], .agg (p.cells), .tuple #[.int .i64 0, .int .i64 p.check.2], .int .i64 0, .int .i64 p.check.2, ud, ud, ud, ud, ud, ud, ud, ud, ud, ud, ud, ud, ud, ud, ud, ud, ud, ud, ud, ud, ud, ud, ud, ud, ud, ud, ud, ud, ud, ud, ud, ud, ud, ud, ud, ud, ud, ud, ud, ud, ud, ud, ud, ud, ud, ud, ud, ud, ud, ud, ud, ud, ud, ud, ud, ud, ud, ud, ud, ud, ud, ud, ud, ud, ud, ud, ud, ud, ud, ud, ud, ud, ud, ud, ud, ud, ud, ud, ud, ud, ud, ud, ud, ud, ud, ud, ud, ud, ud, ud, ud, ud, ud, ud, ud, ud, ud, ud, ud, ud, ud, ud, ud, ud, ud, ud, ud, ud, ud, ud, ud, ud, ud, ud, ud, ud, ud, ud, ud, ud, ud, ud, ud, ud, ud, ud, ud, ud, ud, ud, ud, ud, ud, ud, ud, ud, ud, ud, ud, ud, ud, ud, ud, ud, ud, ud, ud, ud, ud, ud, ud, ud, ud, ud, ud, ud, ud, ud, ud, ud, ud, ud, ud, ud, ud, ud, ud, ud, ud, ud, ud, ud, ud, ud, ud, ud, ud, ud, ud, ud, ud, ud, ud, ud, ud, ud, ud, ud, ud, ud, ud], []⟩ <| then_n <| sy_sq (qc84_0 506) (qc84_0 507) <| sy_reg <| rg_q 8 [0, 1, 2, 3, 4, 5, 6, 7, 8, 9, 10, 11, 12, 13, 14, 15, 16, 17] <| pkq (.int .i64 0) <| pkq (.bool false) <| pkq (.bool false) ?_
  refine ppq (.agg (Msg.c m)) (exec_load_row 38 (.tmp 7) (by kernel_rfl) gm (by kernel_rfl) _ _ (0, 0) _ (h47) Tryz.underlying38 rfl (by rw [Msg.c_size hr]; kernel_rfl)) ?_
  refine pcq 36 #[.agg (Msg.c m)] Tryz.func36 ((mCheck_0 _ hr hch).mono ?_)
  rintro e V51 ⟨rfl, kV51⟩
  refine ⟨_, rfl, ?_⟩
  have h52 : SelsAt V51 v l := h45.keepsN kV51
  have h53 := kV51.bk h46
  have h54 := kV51.bk h47
  have h55 := kV51.bk h48
  have K56 := K49.nn kV51
  have z57 := kV51.size
  refine pkq (.bool false) <| pkq (.bool false) <| pkq (.bool false) <| pkq (pT gm 0) <| ppq (.int .i64 m.k) (exec_ld 3 (.tmp 60) gm 0 Tryz.underlying3 (rc (h54) (Msg.get_n hr NF.k))) <| ppq (.bool false) (nqf ((m.k) : Int) ((8) : Int) (by omega)) <| pkq (.bool false) <| pkq (.bool false) <| pkq (pT go 0) <| ppq (.int .i64 m.p.v) (exec_ld 3 (.tmp 65) go 0 Tryz.underlying3 (rc (h55) (rfl))) <| pkq (.int .i64 n) <| ppq (.bool false) (dcf (((m.p.v) : Int) ≥ ((n) : Int)) (by omega)) <| pkq (.bool false) <| ps_end ?_
  refine then_n <| sy_n (.tmp 69) (qc84_0 1014) (qc84_0 1015) <| sy_sk <| then_n <| sy_sq (qc84_0 254) (qc84_0 255) <| sy_sq (qc84_0 508) (qc84_0 509) <| sy_reg <| rg_q 10 [0, 1, 2] <| pkq (pT gm 11) <| ppq (.int .i64 m.pf) (exec_ld 3 (.tmp 70) gm 11 Tryz.underlying3 (rc (h54) (Msg.get_n hr NF.pf))) <| ppq (.bool true) (eqt ((m.pf) : Int) ((3) : Int) (by omega)) <| ps_end <| then_n <| sy_ys (.tmp 72) (qc84_0 1018) (qc84_0 1019) ?_
  refine sy_sq (qc84_0 2036) (qc84_0 2037) <| sy_reg <| rg_q 11 [0, 1, 2, 3, 4, 5, 6, 7, 8] <| pkq (pT gm 84) <| ppq (.agg (Pro.c m.p)) (exec_load_seg 28 (.tmp 74) (by kernel_rfl) gm 84 (by kernel_rfl) (Pro.c m.p).toList _ _ _ h54 (Msg.seg_P hr) Tryz.underlying28 rfl (by rw [Pro.tl hr.p]; kernel_rfl)) ?_
  refine pcq 37 #[.agg (Pro.c m.p)] Tryz.func37 ((vDigestBlock_fine _ ho.p hfp).mono ?_)
  rintro e V58 ⟨rfl, kV58⟩
  refine ⟨_, rfl, ?_⟩
  have h59 : SelsAt V58 v l := h52.keepsN kV58
  have h60 := kV58.bk h53
  have h61 := kV58.bk h54
  have h62 := kV58.bk h55
  have K63 := K56.nn kV58
  have z64 := kV58.size
  refine pkq (.tuple #[.agg (B m.p.dg).toArray, .int .i64 0]) <| pkq (.agg (B m.p.dg).toArray) <| pkq (.int .i64 0) ?_
  obtain ⟨V65, eV65, gc, egc, h66, kV65⟩ := alloc_step V58 (zr_u8_32) 23
  have n67 : gp < gc := egc ▸ lt_of_block h60
  have n68 : gm < gc := egc ▸ lt_of_block h61
  have n69 : go < gc := egc ▸ lt_of_block h62
  have n70 : w.heap.size ≤ gc := egc ▸ K63.size
  refine prq (pT gc 0) (w' := V65) (by rw [← eV65, ← egc]; exact exec_alloc0 23 (by kernel_rfl) (.agg (zr_u8_32)) (by kernel_rfl)) ?_
  clear eV65
  have h71 : SelsAt V65 v l := h59.keepsN kV65
  have h72 := kV65.bk h60
  have h73 := kV65.bk h61
  have h74 := kV65.bk h62
  have K75 := K63.nn kV65
  have z76 := kV65.size
  obtain ⟨V77, eV77, kV77⟩ := rowset_step V65 gc ((B m.p.dg).toArray)
  have h78 : V77.heap[gc]? = some (.cells ((B m.p.dg).toArray) 23 (0, 0)) := eV77 ▸ setRow_heap _ _ _ _ _ _ h66
  refine pzq (w' := V77) (by rw [← eV77]; exact exec_store_row 23 (.tmp 14) (.tmp 77) (by kernel_rfl) gc ((B m.p.dg).toArray) (by kernel_rfl) (by kernel_rfl) 23 (zr_u8_32) h66 (by rw [Bz_size, Pro.dg_len]; kernel_rfl) (by rw [Bz_size, Pro.dg_len]; rfl) (by rw [List.all_toArray]; exact List.all_eq_true.2 (B_one _))) ?_
  clear eV77
  have h79 : SelsAt V77 v l := Sl.keepsB hl h71 kV77 (fun j e => by first | (unfold Own.One at e; omega) | omega)
  have h80 := kV77.bo h72 (by omega)
  have h81 := kV77.bo h73 (by omega)
  have h82 := kV77.bo h74 (by omega)
  have K83 := K75.no kV77 (by omega)
  have z84 := kV77.size
  refine pkq (.int .i64 0) <| ps_end <| sy_a ⟨#[.agg p.cells, v, .int .i64 n, .agg (Msg.c m), pT gp 0, ud, ud, pT gm 0, .bool false, .bool true, pT go 0, .int .i64 0, .int .i64 0, .int .i64 p.check.2, pT gc 0, .int .i64 0, ud, ud, ud, ud, ud, ud, ud, ud, ud, ud, .bool true, v, iN l.length, .bool false, ud, .tuple #[.agg (Off.cs ⟨m.p.v, 2, m.p.h⟩), .int .i64 0], .agg (p.cells), v, .int .i64 n, .agg (Msg.c m), .tuple #[.agg (Off.cs ⟨m.p.v, 2, m.p.h⟩), .int .i64 0], .agg (Off.cs ⟨m.p.v, 2, m.p.h⟩), .int .i64 0, .int .i64 0, .bool false, ud, ud, ud, ud, ud, ud, .tuple #[.int .i64 0, .int .i64 p.check.2], .agg (p.cells), .tuple #[.int .i64 0, .int .i64 p.check.2], .int .i64 0, .int .i64 p.check.2, .int .i64 0, .bool false, .bool false, .agg (Msg.c m), .int .i64 0, .bool false, .bool false, .bool false, pT gm 0, .int .i64 m.k, .bool false, .bool false, .bool false, pT go 0, .int .i64 m.p.v, .int .i64 n, .bool false, .bool false, pT gm 11, .int .i64 m.pf, .bool true, .tuple #[.agg (B m.p.dg).toArray, .int .i64 0], pT gm 84, .agg (Pro.c m.p), .tuple #[.agg (B m.p.dg).toArray, .int .i64 0], .agg (B m.p.dg).toArray, .int .i64 0, ud, ud, ud, ud, ud, ud, ud, ud, ud, ud, ud, ud, ud, ud, ud, ud, ud, ud, ud, ud, ud, ud, ud, ud, ud, ud, ud, ud, ud, ud, ud, ud, ud, ud, ud, ud, ud, ud, ud, ud, ud, ud, ud, ud, ud, ud, ud, ud, ud, ud, ud, ud, ud, ud, ud, ud, ud, ud, ud, ud, ud, ud, ud, ud, ud, ud, ud, ud, ud, ud, ud, ud, ud, ud, ud, ud, ud, ud, ud, ud, ud, ud, ud, ud, ud, ud, ud, ud, ud, ud, ud, ud, ud, ud, ud, ud, ud, ud, ud, ud, ud, ud, ud, ud, ud, ud, ud, ud, ud, ud, ud, ud, ud, ud, ud, ud, ud, ud, ud, ud, ud, ud, ud, ud, ud, ud, ud, ud, ud, ud, ud, ud, ud, ud, ud, ud, ud, ud, ud, ud, ud, ud, ud, ud, ud, ud, ud, ud, ud, ud, ud, ud, ud, ud, ud, ud, ud, ud, ud, ud, ud, ud, ud, ud], []⟩ <| then_n <| sy_sq (qc84_0 4074) (qc84_0 4075) <| sy_reg <| rg_q 12 [0, 1, 2, 3, 4, 5, 6, 7, 8] <| pkq (pT gm 119) <| ppq (.agg (Pro.c m.q)) (exec_load_seg 28 (.tmp 80) (by kernel_rfl) gm 119 (by kernel_rfl) (Pro.c m.q).toList _ _ _ h81 (Msg.seg_Q hr) Tryz.underlying28 rfl (by rw [Pro.tl hr.q]; kernel_rfl)) ?_
  refine pcq 37 #[.agg (Pro.c m.q)] Tryz.func37 ((vDigestBlock_fine _ ho.q hfq).mono ?_)
  rintro e V85 ⟨rfl, kV85⟩
  refine ⟨_, rfl, ?_⟩
  have h86 : SelsAt V85 v l := h79.keepsN kV85
  have h87 := kV85.bk h80
  have h88 := kV85.bk h81
  have h89 := kV85.bk h82
  have h90 := kV85.bk h78
  have K91 := K83.nn kV85
  have z92 := kV85.size
  refine pkq (.tuple #[.agg (B m.q.dg).toArray, .int .i64 0]) <| pkq (.agg (B m.q.dg).toArray) <| pkq (.int .i64 0) ?_
  obtain ⟨V93, eV93, gd, egd, h94, kV93⟩ := alloc_step V85 (zr_u8_32) 23
  have n95 : gp < gd := egd ▸ lt_of_block h87
  have n96 : gm < gd := egd ▸ lt_of_block h88
  have n97 : go < gd := egd ▸ lt_of_block h89
  have n98 : gc < gd := egd ▸ lt_of_block h90
  have n99 : w.heap.size ≤ gd := egd ▸ K91.size
  refine prq (pT gd 0) (w' := V93) (by rw [← eV93, ← egd]; exact exec_alloc0 23 (by kernel_rfl) (.agg (zr_u8_32)) (by kernel_rfl)) ?_
  clear eV93
  have h100 : SelsAt V93 v l := h86.keepsN kV93
  have h102 := kV93.bk h88
  have h103 := kV93.bk h89
  have h104 := kV93.bk h90
  have K105 := K91.nn kV93
  have z106 := kV93.size
  obtain ⟨V107, eV107, kV107⟩ := rowset_step V93 gd ((B m.q.dg).toArray)
  have h108 : V107.heap[gd]? = some (.cells ((B m.q.dg).toArray) 23 (0, 0)) := eV107 ▸ setRow_heap _ _ _ _ _ _ h94
  refine pzq (w' := V107) (by rw [← eV107]; exact exec_store_row 23 (.tmp 16) (.tmp 83) (by kernel_rfl) gd ((B m.q.dg).toArray) (by kernel_rfl) (by kernel_rfl) 23 (zr_u8_32) h94 (by rw [Bz_size, Pro.dg_len]; kernel_rfl) (by rw [Bz_size, Pro.dg_len]; rfl) (by rw [List.all_toArray]; exact List.all_eq_true.2 (B_one _))) ?_
  clear eV107
  have h109 : SelsAt V107 v l := Sl.keepsB hl h100 kV107 (fun j e => by first | (unfold Own.One at e; omega) | omega)
  have h111 := kV107.bo h102 (by omega)
  have h112 := kV107.bo h103 (by omega)
  have h113 := kV107.bo h104 (by omega)
  have K114 := K105.no kV107 (by omega)
  have z115 := kV107.size
  refine pkq (.int .i64 0) <| ps_end <| then_n <| sy_sq (qc84_0 8150) (qc84_0 8151) <| sy_reg <| rg_q 13 [0, 1, 2, 3, 4, 5, 6, 7, 8, 9, 10, 11, 12, 13, 14, 15, 16, 17, 18, 19, 20, 21, 22, 23, 24, 25, 26, 27, 28, 29, 30, 31, 32, 33, 34, 35, 36, 37, 38, 39, 40, 41, 42, 43, 44, 45, 46, 47, 48, 49, 50, 51, 52, 53, 54, 55] <| pkq (.bool true) <| pkq (.bool true) <| ppq (.agg ((B m.p.dg).toArray)) (exec_load_row 23 (.tmp 14) (by kernel_rfl) gc (by kernel_rfl) _ _ (0, 0) _ (h113) Tryz.underlying23 rfl (by rw [Bz_size, (Pro.dg_len m.p)]; kernel_rfl)) <| ppq (.agg ((B m.q.dg).toArray)) (exec_load_row 23 (.tmp 16) (by kernel_rfl) gd (by kernel_rfl) _ _ (0, 0) _ (h108) Tryz.underlying23 rfl (by rw [Bz_size, (Pro.dg_len m.q)]; kernel_rfl)) <| ppq (.bool true) (exec_cast (congrArg Value.bool ((ne_dec _ _).trans (decide_eq_true hdd))) (exec_binop .neq 23 23 (.tmp 87) (.tmp 88) (by kernel_rfl) (.agg (B m.p.dg).toArray) (.agg (B m.q.dg).toArray) _ (by kernel_rfl) (by kernel_rfl) (run_eqGuard_agg _ _ _ _ _ _ _ hash_guard) (hash_ne _ _ (Pro.dg_len m.p) (Pro.dg_len m.q) _))) <| pkq (.bool true) <| pkq (.bool true) <| pkq (pT gm 84) ?_
  refine pkq (pT gm 84) <| ppq (.int .i64 m.p.v) (exec_ld 3 (.tmp 93) gm 84 Tryz.underlying3 (rc (h111) (Msg.get_n hr NF.pv))) <| pkq (pT gm 119) <| pkq (pT gm 119) <| ppq (.int .i64 m.q.v) (exec_ld 3 (.tmp 96) gm 119 Tryz.underlying3 (rc (h111) (Msg.get_n hr NF.qv))) <| ppq (.bool true) (eqt ((m.p.v) : Int) ((m.q.v) : Int) (by omega)) <| pkq (.bool true) <| pkq (.bool true) <| pkq (pT gm 84) <| pkq (pT gm 85) <| ppq (.int .i64 m.p.h) (exec_ld 3 (.tmp 102) gm 85 Tryz.underlying3 (rc (h111) (Msg.get_n hr NF.ph))) <| pkq (pT gm 119) <| pkq (pT gm 120) <| ppq (.int .i64 m.q.h) (exec_ld 3 (.tmp 105) gm 120 Tryz.underlying3 (rc (h111) (Msg.get_n hr NF.qh))) ?_
  refine ppq (.bool true) (eqt ((m.p.h) : Int) ((m.q.h) : Int) (by omega)) <| pkq (.bool true) <| pkq (.bool true) <| pkq (v) <| pkq (pT go 0) <| ppq (.int .i64 m.p.v) (exec_ld 3 (.tmp 111) go 0 Tryz.underlying3 (rc (h112) (rfl))) <| ppq (.agg ((B m.p.dg).toArray)) (exec_load_row 23 (.tmp 14) (by kernel_rfl) gc (by kernel_rfl) _ _ (0, 0) _ (h113) Tryz.underlying23 rfl (by rw [Bz_size, (Pro.dg_len m.p)]; kernel_rfl)) <| pkq (pT gm 84) <| pkq (pT gm 118) <| ppq (uN m.p.g) (exec_ld 24 (.tmp 115) gm 118 Tryz.underlying24 (rc (h111) (Msg.get_a hr AF.pg))) ?_
  refine pcq 38 #[v, .int .i64 m.p.v, .agg ((B m.p.dg).toArray), uN m.p.g] Tryz.func38 ((lehas_is (x := ⟨m.p.v, m.p.dg, m.p.g⟩) _ h109 hlr m.p.dg_len (decide_eq_true hs1)).mono ?_)
  rintro e V116 ⟨rfl, kV116⟩
  refine ⟨_, rfl, ?_⟩
  have h117 : SelsAt V116 v l := h109.keepsN kV116
  have h119 := kV116.bk h111
  have h120 := kV116.bk h112
  have h122 := kV116.bk h108
  have K123 := K114.nn kV116
  have z124 := kV116.size
  refine pkq (.bool true) <| pkq (.bool true) <| pkq (v) <| pkq (pT go 0) <| ppq (.int .i64 m.p.v) (exec_ld 3 (.tmp 121) go 0 Tryz.underlying3 (rc (h120) (rfl))) <| ppq (.agg ((B m.q.dg).toArray)) (exec_load_row 23 (.tmp 16) (by kernel_rfl) gd (by kernel_rfl) _ _ (0, 0) _ (h122) Tryz.underlying23 rfl (by rw [Bz_size, (Pro.dg_len m.q)]; kernel_rfl)) <| pkq (pT gm 119) <| pkq (pT gm 153) <| ppq (uN m.q.g) (exec_ld 24 (.tmp 125) gm 153 Tryz.underlying24 (rc (h119) (Msg.get_a hr AF.qg))) ?_
  refine pcq 38 #[v, .int .i64 m.p.v, .agg ((B m.q.dg).toArray), uN m.q.g] Tryz.func38 ((lehas_is (x := ⟨m.p.v, m.q.dg, m.q.g⟩) _ h117 hlr m.q.dg_len (decide_eq_true hs2)).mono ?_)
  rintro e V125 ⟨rfl, kV125⟩
  refine ⟨_, rfl, ?_⟩
  have h128 := kV125.bk h119
  have h129 := kV125.bk h120
  have K132 := K123.nn kV125
  have z133 := kV125.size
  refine pkq (.bool true) <| pkq (.bool true) <| ppq (.agg (Off.cs ⟨m.p.v, 2, m.p.h⟩)) (exec_load_row 49 (.tmp 10) (by kernel_rfl) go (by kernel_rfl) _ _ (0, 0) _ (h129) Tryz.underlying49 rfl (by kernel_rfl)) <| pkq (pT gm 84) <| pkq (pT gm 84) <| ppq (.int .i64 m.p.v) (exec_ld 3 (.tmp 132) gm 84 Tryz.underlying3 (rc (h128) (Msg.get_n hr NF.pv))) <| pkq (pT gm 84) <| pkq (pT gm 85) <| ppq (.int .i64 m.p.h) (exec_ld 3 (.tmp 135) gm 85 Tryz.underlying3 (rc (h128) (Msg.get_n hr NF.ph))) <| pkq (.agg (Off.cs ⟨m.p.v, 2, m.p.h⟩)) <| ppq (.bool true) (exec_cast (congrArg Value.bool (by simp)) (exec_binop .eql 49 49 (.tmp 130) (.tmp 137) (by kernel_rfl) (.agg (Off.cs ⟨m.p.v, 2, m.p.h⟩)) (.agg (Off.cs ⟨m.p.v, 2, m.p.h⟩)) _ (by kernel_rfl) (by kernel_rfl) (run_eqGuard_agg _ _ _ _ _ _ _ off_guard) (off_eq _ _ _))) <| pkq (.bool true) <| pkq (.bool true) <| ps_end ?_
  refine sy_a ⟨#[.agg p.cells, v, .int .i64 n, .agg (Msg.c m), pT gp 0, ud, ud, pT gm 0, .bool true, .bool true, pT go 0, .int .i64 0, .int .i64 0, .int .i64 p.check.2, pT gc 0, .int .i64 0, pT gd 0, .int .i64 0, ud, ud, ud, ud, ud, ud, ud, ud, .bool true, v, iN l.length, .bool false, ud, .tuple #[.agg (Off.cs ⟨m.p.v, 2, m.p.h⟩), .int .i64 0], .agg (p.cells), v, .int .i64 n, .agg (Msg.c m), .tuple #[.agg (Off.cs ⟨m.p.v, 2, m.p.h⟩), .int .i64 0], .agg (Off.cs ⟨m.p.v, 2, m.p.h⟩), .int .i64 0, .int .i64 0, .bool false, ud, ud, ud, ud, ud, ud, .tuple #[.int .i64 0, .int .i64 p.check.2], .agg (p.cells), .tuple #[.int .i64 0, .int .i64 p.check.2], .int .i64 0, .int .i64 p.check.2, .int .i64 0, .bool false, .bool false, .agg (Msg.c m), .int .i64 0, .bool false, .bool false, .bool false, pT gm 0, .int .i64 m.k, .bool false, .bool false, .bool false, pT go 0, .int .i64 m.p.v, .int .i64 n, .bool false, .bool false, pT gm 11, .int .i64 m.pf, .bool true, .tuple #[.agg (B m.p.dg).toArray, .int .i64 0], pT gm 84, .agg (Pro.c m.p), .tuple #[.agg (B m.p.dg).toArray, .int .i64 0], .agg (B m.p.dg).toArray, .int .i64 0, .tuple #[.agg (B m.q.dg).toArray, .int .i64 0], pT gm 119, .agg (Pro.c m.q), .tuple #[.agg (B m.q.dg).toArray, .int .i64 0], .agg (B m.q.dg).toArray, .int .i64 0, .bool true, .bool true, .agg ((B m.p.dg).toArray), .agg ((B m.q.dg).toArray), .bool true, .bool true, .bool true, pT gm 84, pT gm 84, .int .i64 m.p.v, pT gm 119, pT gm 119, .int .i64 m.q.v, .bool true, .bool true, .bool true, pT gm 84, pT gm 85, .int .i64 m.p.h, pT gm 119, pT gm 120, .int .i64 m.q.h, .bool true, .bool true, .bool true, v, pT go 0, .int .i64 m.p.v, .agg ((B m.p.dg).toArray), pT gm 84, pT gm 118, uN m.p.g, .bool true, .bool true, .bool true, v, pT go 0, .int .i64 m.p.v, .agg ((B m.q.dg).toArray), pT gm 119, pT gm 153, uN m.q.g, .bool true, .bool true, .bool true, .agg (Off.cs ⟨m.p.v, 2, m.p.h⟩), pT gm 84, pT gm 84, .int .i64 m.p.v, pT gm 84, pT gm 85, .int .i64 m.p.h, .agg (Off.cs ⟨m.p.v, 2, m.p.h⟩), .bool true, .bool true, ud, ud, ud, ud, ud, ud, ud, ud, ud, ud, ud, ud, ud, ud, ud, ud, ud, ud, ud, ud, ud, ud, ud, ud, ud, ud, ud, ud, ud, ud, ud, ud, ud, ud, ud, ud, ud, ud, ud, ud, ud, ud, ud, ud, ud, ud, ud, ud, ud, ud, ud, ud, ud, ud, ud, ud, ud, ud, ud, ud, ud, ud, ud, ud, ud, ud, ud, ud, ud, ud, ud, ud, ud, ud, ud, ud, ud, ud, ud, ud, ud, ud, ud, ud, ud, ud, ud, ud, ud, ud, ud, ud, ud, ud, ud, ud, ud, ud, ud, ud, ud, ud, ud], []⟩ <| then_n <| sy_ret (by kernel_rfl) <| then_r <| sy_out (.bool true) rfl (by kernel_rfl) ?_
  exact ⟨rfl, K132⟩
theorem sound_D (p : Par) (v : Value) (l : List Sel) (n : Int) (m : Msg) (w : World) (hp : p.Ok) (ho : m.Ok) (hl : SelsAt w v l) (hlr : ∀ y ∈ l, y.r.length = 32) (h : Int) (hlen : ¬ 60 < l.length) (hj : jud p l n m = (⟨m.a.v, 1, h⟩, 0)) (hn : ¬ n ≤ m.a.v) (hpf : m.pf = 1) (hfi : p.first (max m.a.t m.b.t) = (h, 0)) (hc : p.check.1 = 0) (hch : m.chk = 0) (hk : m.k = 8) (hfa : m.a.fine) (hfb : m.b.fine) (hv : m.a.v = m.b.v) (ht : m.a.t = m.b.t) (hdd : ¬ m.a.dg = m.b.dg) (hsa : (⟨m.a.v, m.a.dg, m.a.g⟩ : Sel) ∈ l) (hsb : (⟨m.b.v, m.b.dg, m.b.g⟩ : Sel) ∈ l) :
    Calls Tryz.prog 7 #[.agg p.cells, v, .int .i64 n, .agg (Msg.c m)] w (fun e w' => e = .returned (.bool true) ∧ Keeps Nob w w') := by
  have hr := ho.R
  have hll := hl.len_le
  have hmx : i64ok (max m.a.t m.b.t) := by have h1 := ho.a.t; have h2 := ho.b.t; unfold i64ok; unfold i64b at h1 h2; omega
  have K0 : Keeps Nob w w := Keeps.refl _ _
  refine sy_enter (qc84_0 1) ⟨#[.agg p.cells, v, .int .i64 n, .agg (Msg.c m), ud, ud, ud, ud, ud, ud, ud, ud, ud, ud, ud, ud, ud, ud, ud, ud, ud, ud, ud, ud, ud, ud, ud, ud, ud, ud, ud, ud, ud, ud, ud, ud, ud, ud, ud, ud, ud, ud, ud, ud, ud, ud, ud, ud, ud, ud, ud, ud, ud, ud, ud, ud, ud, ud, ud, ud, ud, ud, ud, ud, ud, ud, ud, ud, ud, ud, ud, ud, ud, ud, ud, ud, ud, ud, ud, ud, ud, ud, ud, ud, ud, ud, ud, ud, ud, ud, ud, ud, ud, ud, ud, ud, ud, ud, ud, ud, ud, ud, ud, ud, ud, ud, ud, ud, ud, ud, ud, ud, ud, ud, ud, ud, ud, ud, ud, ud, ud, ud, ud, ud, ud, ud, ud, ud, ud, ud, ud, ud, ud, ud, ud, ud, ud, ud, ud, ud, ud, ud, ud, ud, ud, ud, ud, ud, ud, ud, ud, ud, ud, ud, ud, ud, ud, ud, ud, ud, ud, ud, ud, ud, ud, ud, ud, ud, ud, ud, ud, ud, ud, ud, ud, ud, ud, ud, ud, ud, ud, ud, ud, ud, ud, ud, ud, ud, ud, ud, ud, ud, ud, ud, ud, ud, ud, ud, ud, ud, ud, ud, ud, ud, ud, ud, ud, ud, ud, ud, ud, ud, ud, ud, ud, ud, ud, ud, ud, ud, ud, ud, ud, ud, ud, ud, ud, ud, ud, ud, ud, ud, ud, ud, ud, ud, ud, ud, ud, ud, ud, ud, ud], []⟩ Tryz.func7 (by kernel_rfl) (by kernel_rfl) <| sy_sq (qc84_0 2) (qc84_0 3) <| sy_reg <| rg_q 0 [0, 1, 2] ?_
  obtain ⟨V1, eV1, gp, egp, h2, kV1⟩ := alloc_step w p.cells 45
  have n3 : w.heap.size ≤ gp := egp ▸ K0.size
  refine prq (pT gp 0) (w' := V1) (by rw [← eV1, ← egp]; exact exec_box 45 (.tmp 0) (by kernel_rfl) (.agg p.cells) (by kernel_rfl)) ?_
  clear eV1
  have h4 : SelsAt V1 v l := hl.keepsN kV1
  have K5 := K0.nn kV1
  have z6 := kV1.size
  obtain ⟨V7, eV7, gm, egm, h8, kV7⟩ := alloc_step V1 ((Msg.c m)) 38
  have n9 : gp < gm := egm ▸ lt_of_block h2
  have n10 : w.heap.size ≤ gm := egm ▸ K5.size
  refine prq (pT gm 0) (w' := V7) (by rw [← eV7, ← egm]; exact exec_box 38 (.tmp 3) (by kernel_rfl) (.agg (Msg.c m)) (by kernel_rfl)) ?_
  clear eV7
  have h11 : SelsAt V7 v l := h4.keepsN kV7
  have h12 := kV7.bk h2
  have K13 := K5.nn kV7
  have z14 := kV7.size
  refine pkq (.bool false) <| ps_end <| then_n <| sy_sq (qc84_0 6) (qc84_0 7) <| sy_reg <| rg_q 1 [0, 1] ?_
  refine pcq 5 #[] Tryz.func5 ((evidenceKnown_ok _).mono ?_)
  rintro e V15 ⟨rfl, kV15⟩
  refine ⟨_, rfl, ?_⟩
  have h16 : SelsAt V15 v l := h11.keepsN kV15
  have h17 := kV15.bk h12
  have h18 := kV15.bk h8
  have K19 := K13.nn kV15
  have z20 := kV15.size
  refine pkq (.bool true) <| ps_end <| then_n <| sy_sq (qc84_0 14) (qc84_0 15) <| sy_sq (qc84_0 28) (qc84_0 29) <| sy_reg <| rg_q 2 [0, 1, 2] <| pkq (v) <| ppq (iN l.length) (exec_len_sl (.tmp 27) 46 30 (by kernel_rfl) Tryz.underlying46 (by kernel_rfl) h16) <| ppq (.bool false) (dcf ((((l.length : Nat) : Int)) > ((60) : Int)) (by omega)) <| ps_end <| then_n <| sy_n (.tmp 29) (qc84_0 58) (qc84_0 59) <| sy_sk ?_
  refine then_n <| sy_sq (qc84_0 30) (qc84_0 31) <| sy_reg <| rg_q 4 [0, 1, 2, 3, 4, 5, 6, 7, 8, 9, 10] <| ppq (.agg (p.cells)) (exec_load_row 45 (.tmp 4) (by kernel_rfl) gp (by kernel_rfl) _ _ (0, 0) _ (h17) Tryz.underlying45 rfl (by kernel_rfl)) <| pkq (v) <| pkq (.int .i64 n) <| ppq (.agg (Msg.c m)) (exec_load_row 38 (.tmp 7) (by kernel_rfl) gm (by kernel_rfl) _ _ (0, 0) _ (h18) Tryz.underlying38 rfl (by rw [Msg.c_size hr]; kernel_rfl)) ?_
  refine pcq 20 #[.agg (p.cells), v, .int .i64 n, .agg (Msg.c m)] Tryz.func20 ((eJudge_is _ hp ho h16 hlr hj).mono ?_)
  rintro e V21 ⟨rfl, kV21⟩
  refine ⟨_, rfl, ?_⟩
  have h22 : SelsAt V21 v l := h16.keepsN kV21
  have h23 := kV21.bk h17
  have h24 := kV21.bk h18
  have K25 := K19.nn kV21
  have z26 := kV21.size
  refine pkq (.tuple #[.agg (Off.cs ⟨m.a.v, 1, h⟩), .int .i64 0]) <| pkq (.agg (Off.cs ⟨m.a.v, 1, h⟩)) <| pkq (.int .i64 0) ?_
  obtain ⟨V27, eV27, go, ego, h28, kV27⟩ := alloc_step V21 (#[.int .i64 0, .int .i64 0, .int .i64 0]) 49
  have n29 : gp < go := ego ▸ lt_of_block h23
  have n30 : gm < go := ego ▸ lt_of_block h24
  have n31 : w.heap.size ≤ go := ego ▸ K25.size
  refine prq (pT go 0) (w' := V27) (by rw [← eV27, ← ego]; exact exec_alloc0 49 (by kernel_rfl) (.agg (#[.int .i64 0, .int .i64 0, .int .i64 0])) (by kernel_rfl)) ?_
  clear eV27
  have h32 : SelsAt V27 v l := h22.keepsN kV27
  have h33 := kV27.bk h23
  have h34 := kV27.bk h24
  have K35 := K25.nn kV27
  have z36 := kV27.size
  obtain ⟨V37, eV37, kV37⟩ := rowset_step V27 go ((Off.cs ⟨m.a.v, 1, h⟩))
  have h38 : V37.heap[go]? = some (.cells (Off.cs ⟨m.a.v, 1, h⟩) 49 (0, 0)) := eV37 ▸ setRow_heap _ _ _ _ _ _ h28
  refine pzq (w' := V37) (by rw [← eV37]; exact exec_store_row 49 (.tmp 10) (.tmp 37) (by kernel_rfl) go ((Off.cs ⟨m.a.v, 1, h⟩)) (by kernel_rfl) (by kernel_rfl) 49 (#[.int .i64 0, .int .i64 0, .int .i64 0]) h28 (by kernel_rfl) rfl (by kernel_rfl)) ?_
  clear eV37
  have h39 : SelsAt V37 v l := Sl.keepsB hl h32 kV37 (fun j e => by first | (unfold Own.One at e; omega) | omega)
  have h40 := kV37.bo h33 (by omega)
  have h41 := kV37.bo h34 (by omega)
  have K42 := K35.no kV37 (by omega)
  have z43 := kV37.size
  refine pkq (.int .i64 0) <| ps_end <| then_n <| sy_sq (qc84_0 62) (qc84_0 63) <| sy_sq (qc84_0 124) (qc84_0 125) <| sy_reg <| rg_q 5 [0, 1] <| pkq (.int .i64 0) <| pkq (.bool false) <| ps_end <| then_n <| sy_n (.tmp 40) (qc84_0 250) (qc84_0 251) <| sy_sk <| then_n ?_
  refine sy_sq (qc84_0 126) (qc84_0 127) <| sy_sq (qc84_0 252) (qc84_0 253) <| sy_reg <| rg_q 7 [0, 1, 2, 3, 4, 5, 6] <| ppq (.agg (p.cells)) (exec_load_row 45 (.tmp 4) (by kernel_rfl) gp (by kernel_rfl) _ _ (0, 0) _ (h40) Tryz.underlying45 rfl (by kernel_rfl)) ?_
  refine pcq 31 #[.agg (p.cells)] Tryz.func31 ((pCheck_0 _ hp hc).mono ?_)
  rintro e V44 ⟨rfl, kV44⟩
  refine ⟨_, rfl, ?_⟩
  have h45 : SelsAt V44 v l := h39.keepsN kV44
  have h46 := kV44.bk h40
  have h47 := kV44.bk h41
  have h48 := kV44.bk h38
  have K49 := K42.nn kV44
  have z50 := kV44.size
  refine pkq (.tuple #[.int .i64 0, .int .i64 p.check.2]) <| pkq (.int .i64 0) <| pkq (.int .i64 p.check.2) <| pkq (.int .i64 0) <| pkq (.int .i64 p.check.2) <| ps_end <| sy_a ⟨#[.agg p.cells, v, .int .i64 n, .agg (Msg.c m), pT gp 0, ud, ud, pT gm 0, .bool false, .bool true, pT go 0, .int .i64 0, .int .i64 0, .int .i64 p.check.2, ud, ud, ud, ud, ud, ud, ud, ud, ud, ud, ud, ud, .bool true, v, iN l.length, .bool false, ud, .tuple #[.agg (Off.cs ⟨m.a.v, 1, h⟩), .int .i64 0], .agg (p.cells), v, .int .i64 n, .agg (Msg.c m), .tuple #[.agg (Off.cs ⟨m.a.v, 1, h⟩), .int .i64 0], .agg (Off.cs ⟨m.a.v, 1, h⟩), .int .i64 0, .int .i64 0, .bool false, ud, ud, ud, ud, ud, ud, .tuple #[.int .i64 0, .int .i64 p.check.2], .agg (p.cells), .tuple #[.int .i64 0, .int .i64 p.check.2], .int .i64 0, .int .i64 p.check.2, ud, ud, ud, ud, ud, ud, ud, ud, ud, ud, ud, ud, ud, ud, ud, ud, ud, ud, ud, ud, ud, ud, ud, ud, ud, ud, ud, ud, ud, ud, ud, ud, ud, ud, ud, ud, ud, ud, ud, ud, ud, ud, ud, ud, ud, ud, ud, ud, ud, ud, ud, ud, ud, ud, ud, ud, ud, ud, ud, ud, ud, ud, ud, ud, ud, ud, ud, ud, ud, ud, ud, ud, ud, ud, ud, ud, ud, ud, ud, ud, ud, ud, ud, ud, ud, ud, ud, ud, ud, ud, ud, ud, ud, ud, ud, ud, ud, ud, ud, ud, ud, ud, ud, ud, ud, ud, ud, ud, ud, ud, ud, ud, ud, ud, ud, ud, ud, ud, ud, ud, ud, ud, ud, ud, ud, ud, ud, ud, ud, ud, ud, ud, ud, ud, ud, ud, ud, ud, ud, ud, ud, ud, ud, ud, ud, ud, ud, ud, ud, ud, ud, ud, ud, ud, ud, ud, ud, ud, ud, ud, ud, ud, ud, ud, ud, ud, ud, ud, ud, ud, ud, ud, ud, ud, ud, ud, ud, ud, ud, ud, ud, ud, ud, ud, ud, ud, ud, ud, ud, ud, ud], []⟩ <| then_n <| sy_sq (qc84_0 506) (qc84_0 507) <| sy_reg <| rg_q 8 [0, 1, 2, 3, 4, 5, 6, 7, 8, 9, 10, 11, 12, 13, 14, 15, 16, 17] <| pkq (.int .i64 0) <| pkq (.bool false) <| pkq (.bool false) ?_
  refine ppq (.agg (Msg.c m)) (exec_load_row 38 (.tmp 7) (by kernel_rfl) gm (by kernel_rfl) _ _ (0, 0) _ (h47) Tryz.underlying38 rfl (by rw [Msg.c_size hr]; kernel_rfl)) ?_
  refine pcq 36 #[.agg (Msg.c m)] Tryz.func36 ((mCheck_0 _ hr hch).mono ?_)
  rintro e V51 ⟨rfl, kV51⟩
  refine ⟨_, rfl, ?_⟩
  have h52 : SelsAt V51 v l := h45.keepsN kV51
  have h53 := kV51.bk h46
  have h54 := kV51.bk h47
  have h55 := kV51.bk h48
  have K56 := K49.nn kV51
  have z57 := kV51.size
  refine pkq (.bool false) <| pkq (.bool false) <| pkq (.bool false) <| pkq (pT gm 0) <| ppq (.int .i64 m.k) (exec_ld 3 (.tmp 60) gm 0 Tryz.underlying3 (rc (h54) (Msg.get_n hr NF.k))) <| ppq (.bool false) (nqf ((m.k) : Int) ((8) : Int) (by omega)) <| pkq (.bool false) <| pkq (.bool false) <| pkq (pT go 0) <| ppq (.int .i64 m.a.v) (exec_ld 3 (.tmp 65) go 0 Tryz.underlying3 (rc (h55) (rfl))) <| pkq (.int .i64 n) <| ppq (.bool false) (dcf (((m.a.v) : Int) ≥ ((n) : Int)) (by omega)) <| pkq (.bool false) <| ps_end ?_
  refine then_n <| sy_n (.tmp 69) (qc84_0 1014) (qc84_0 1015) <| sy_sk <| then_n <| sy_sq (qc84_0 254) (qc84_0 255) <| sy_sq (qc84_0 508) (qc84_0 509) <| sy_reg <| rg_q 10 [0, 1, 2] <| pkq (pT gm 11) <| ppq (.int .i64 m.pf) (exec_ld 3 (.tmp 70) gm 11 Tryz.underlying3 (rc (h54) (Msg.get_n hr NF.pf))) <| ppq (.bool false) (eqf ((m.pf) : Int) ((3) : Int) (by omega)) <| ps_end <| then_n <| sy_n (.tmp 72) (qc84_0 1018) (qc84_0 1019) ?_
  refine sy_sk <| then_n <| sy_sq (qc84_0 510) (qc84_0 511) <| sy_reg <| rg_q 14 [0, 1, 2, 3, 4, 5, 6, 7, 8, 9, 10, 11, 12, 13] <| ppq (.agg (p.cells)) (exec_load_row 45 (.tmp 4) (by kernel_rfl) gp (by kernel_rfl) _ _ (0, 0) _ (h53) Tryz.underlying45 rfl (by kernel_rfl)) <| pkq (pT gm 12) <| pkq (pT gm 14) <| ppq (.int .i64 m.a.t) (exec_ld 3 (.tmp 143) gm 14 Tryz.underlying3 (rc (h54) (Msg.get_n hr NF.at_))) <| pkq (pT gm 48) <| pkq (pT gm 50) <| ppq (.int .i64 m.b.t) (exec_ld 3 (.tmp 146) gm 50 Tryz.underlying3 (rc (h54) (Msg.get_n hr NF.bt))) <| ppq (.int .i64 (max m.a.t m.b.t)) (exec_max (.tmp 144) (.tmp 147) #[3, 3] (by kernel_rfl) .i64 m.a.t m.b.t (by kernel_rfl) (by kernel_rfl)) ?_
  refine pcq 34 #[.agg (p.cells), .int .i64 (max m.a.t m.b.t)] Tryz.func34 ((pFirst_is _ hp hmx hfi).mono ?_)
  rintro e V58 ⟨rfl, kV58⟩
  refine ⟨_, rfl, ?_⟩
  have h59 : SelsAt V58 v l := h52.keepsN kV58
  have h60 := kV58.bk h53
  have h61 := kV58.bk h54
  have h62 := kV58.bk h55
  have K63 := K56.nn kV58
  have z64 := kV58.size
  refine pkq (.tuple #[.int .i64 h, .int .i64 0]) <| pkq (.int .i64 h) <| pkq (.int .i64 0) <| pkq (.int .i64 h) <| pkq (.int .i64 0) <| ps_end <| sy_a ⟨#[.agg p.cells, v, .int .i64 n, .agg (Msg.c m), pT gp 0, ud, ud, pT gm 0, .bool false, .bool true, pT go 0, .int .i64 0, .int .i64 0, .int .i64 p.check.2, ud, ud, ud, ud, .int .i64 h, .int .i64 0, ud, ud, ud, ud, ud, ud, .bool true, v, iN l.length, .bool false, ud, .tuple #[.agg (Off.cs ⟨m.a.v, 1, h⟩), .int .i64 0], .agg (p.cells), v, .int .i64 n, .agg (Msg.c m), .tuple #[.agg (Off.cs ⟨m.a.v, 1, h⟩), .int .i64 0], .agg (Off.cs ⟨m.a.v, 1, h⟩), .int .i64 0, .int .i64 0, .bool false, ud, ud, ud, ud, ud, ud, .tuple #[.int .i64 0, .int .i64 p.check.2], .agg (p.cells), .tuple #[.int .i64 0, .int .i64 p.check.2], .int .i64 0, .int .i64 p.check.2, .int .i64 0, .bool false, .bool false, .agg (Msg.c m), .int .i64 0, .bool false, .bool false, .bool false, pT gm 0, .int .i64 m.k, .bool false, .bool false, .bool false, pT go 0, .int .i64 m.a.v, .int .i64 n, .bool false, .bool false, pT gm 11, .int .i64 m.pf, .bool false, ud, ud, ud, ud, ud, ud, ud, ud, ud, ud, ud, ud, ud, ud, ud, ud, ud, ud, ud, ud, ud, ud, ud, ud, ud, ud, ud, ud, ud, ud, ud, ud, ud, ud, ud, ud, ud, ud, ud, ud, ud, ud, ud, ud, ud, ud, ud, ud, ud, ud, ud, ud, ud, ud, ud, ud, ud, ud, ud, ud, ud, ud, ud, ud, ud, ud, ud, .tuple #[.int .i64 h, .int .i64 0], .agg (p.cells), pT gm 12, pT gm 14, .int .i64 m.a.t, pT gm 48, pT gm 50, .int .i64 m.b.t, .int .i64 (max m.a.t m.b.t), .tuple #[.int .i64 h, .int .i64 0], .int .i64 h, .int .i64 0, ud, ud, ud, ud, ud, ud, ud, ud, ud, ud, ud, ud, ud, ud, ud, ud, ud, ud, ud, ud, ud, ud, ud, ud, ud, ud, ud, ud, ud, ud, ud, ud, ud, ud, ud, ud, ud, ud, ud, ud, ud, ud, ud, ud, ud, ud, ud, ud, ud, ud, ud, ud, ud, ud, ud, ud, ud, ud, ud, ud, ud, ud, ud, ud, ud, ud, ud, ud, ud, ud, ud, ud, ud, ud, ud, ud, ud, ud, ud, ud, ud, ud, ud, ud, ud, ud, ud, ud, ud, ud, ud], []⟩ <| then_n <| sy_sq (qc84_0 1022) (qc84_0 1023) <| sy_reg <| rg_q 15 [0, 1, 2, 3, 4, 5, 6, 7, 8] <| pkq (pT gm 12) <| ppq (.agg (Att.c m.a)) (exec_load_seg 26 (.tmp 153) (by kernel_rfl) gm 12 (by kernel_rfl) (Att.c m.a).toList _ _ _ h61 (Msg.seg_A hr) Tryz.underlying26 rfl (by rw [Att.tl hr.a]; kernel_rfl)) ?_
  refine pcq 39 #[.agg (Att.c m.a)] Tryz.func39 ((vDigest_fine _ ho.a hfa).mono ?_)
  rintro e V65 ⟨rfl, kV65⟩
  refine ⟨_, rfl, ?_⟩
  have h66 : SelsAt V65 v l := h59.keepsN kV65
  have h67 := kV65.bk h60
  have h68 := kV65.bk h61
  have h69 := kV65.bk h62
  have K70 := K63.nn kV65
  have z71 := kV65.size
  refine pkq (.tuple #[.agg (B m.a.dg).toArray, .int .i64 0]) <| pkq (.agg (B m.a.dg).toArray) <| pkq (.int .i64 0) ?_
  obtain ⟨V72, eV72, gc, egc, h73, kV72⟩ := alloc_step V65 (zr_u8_32) 23
  have n74 : gp < gc := egc ▸ lt_of_block h67
  have n75 : gm < gc := egc ▸ lt_of_block h68
  have n76 : go < gc := egc ▸ lt_of_block h69
  have n77 : w.heap.size ≤ gc := egc ▸ K70.size
  refine prq (pT gc 0) (w' := V72) (by rw [← eV72, ← egc]; exact exec_alloc0 23 (by kernel_rfl) (.agg (zr_u8_32)) (by kernel_rfl)) ?_
  clear eV72
  have h78 : SelsAt V72 v l := h66.keepsN kV72
  have h79 := kV72.bk h67
  have h80 := kV72.bk h68
  have h81 := kV72.bk h69
  have K82 := K70.nn kV72
  have z83 := kV72.size
  obtain ⟨V84, eV84, kV84⟩ := rowset_step V72 gc ((B m.a.dg).toArray)
  have h85 : V84.heap[gc]? = some (.cells ((B m.a.dg).toArray) 23 (0, 0)) := eV84 ▸ setRow_heap _ _ _ _ _ _ h73
  refine pzq (w' := V84) (by rw [← eV84]; exact exec_store_row 23 (.tmp 20) (.tmp 156) (by kernel_rfl) gc ((B m.a.dg).toArray) (by kernel_rfl) (by kernel_rfl) 23 (zr_u8_32) h73 (by rw [Bz_size, Att.dg_len]; kernel_rfl) (by rw [Bz_size, Att.dg_len]; rfl) (by rw [List.all_toArray]; exact List.all_eq_true.2 (B_one _))) ?_
  clear eV84
  have h86 : SelsAt V84 v l := Sl.keepsB hl h78 kV84 (fun j e => by first | (unfold Own.One at e; omega) | omega)
  have h87 := kV84.bo h79 (by omega)
  have h88 := kV84.bo h80 (by omega)
  have h89 := kV84.bo h81 (by omega)
  have K90 := K82.no kV84 (by omega)
  have z91 := kV84.size
  refine pkq (.int .i64 0) <| ps_end <| then_n <| sy_sq (qc84_0 2046) (qc84_0 2047) <| sy_reg <| rg_q 16 [0, 1, 2, 3, 4, 5, 6, 7, 8] <| pkq (pT gm 48) <| ppq (.agg (Att.c m.b)) (exec_load_seg 26 (.tmp 159) (by kernel_rfl) gm 48 (by kernel_rfl) (Att.c m.b).toList _ _ _ h88 (Msg.seg_B hr) Tryz.underlying26 rfl (by rw [Att.tl hr.b]; kernel_rfl)) ?_
  refine pcq 39 #[.agg (Att.c m.b)] Tryz.func39 ((vDigest_fine _ ho.b hfb).mono ?_)
  rintro e V92 ⟨rfl, kV92⟩
  refine ⟨_, rfl, ?_⟩
  have h93 : SelsAt V92 v l := h86.keepsN kV92
  have h94 := kV92.bk h87
  have h95 := kV92.bk h88
  have h96 := kV92.bk h89
  have h97 := kV92.bk h85
  have K98 := K90.nn kV92
  have z99 := kV92.size
  refine pkq (.tuple #[.agg (B m.b.dg).toArray, .int .i64 0]) <| pkq (.agg (B m.b.dg).toArray) <| pkq (.int .i64 0) ?_
  obtain ⟨V100, eV100, gd, egd, h101, kV100⟩ := alloc_step V92 (zr_u8_32) 23
  have n102 : gp < gd := egd ▸ lt_of_block h94
  have n103 : gm < gd := egd ▸ lt_of_block h95
  have n104 : go < gd := egd ▸ lt_of_block h96
  have n105 : gc < gd := egd ▸ lt_of_block h97
  have n106 : w.heap.size ≤ gd := egd ▸ K98.size
  refine prq (pT gd 0) (w' := V100) (by rw [← eV100, ← egd]; exact exec_alloc0 23 (by kernel_rfl) (.agg (zr_u8_32)) (by kernel_rfl)) ?_
  clear eV100
  have h107 : SelsAt V100 v l := h93.keepsN kV100
  have h109 := kV100.bk h95
  have h110 := kV100.bk h96
  have h111 := kV100.bk h97
  have K112 := K98.nn kV100
  have z113 := kV100.size
  obtain ⟨V114, eV114, kV114⟩ := rowset_step V100 gd ((B m.b.dg).toArray)
  have h115 : V114.heap[gd]? = some (.cells ((B m.b.dg).toArray) 23 (0, 0)) := eV114 ▸ setRow_heap _ _ _ _ _ _ h101
  refine pzq (w' := V114) (by rw [← eV114]; exact exec_store_row 23 (.tmp 22) (.tmp 162) (by kernel_rfl) gd ((B m.b.dg).toArray) (by kernel_rfl) (by kernel_rfl) 23 (zr_u8_32) h101 (by rw [Bz_size, Att.dg_len]; kernel_rfl) (by rw [Bz_size, Att.dg_len]; rfl) (by rw [List.all_toArray]; exact List.all_eq_true.2 (B_one _))) ?_
  clear eV114
  have h116 : SelsAt V114 v l := Sl.keepsB hl h107 kV114 (fun j e => by first | (unfold Own.One at e; omega) | omega)
  have h118 := kV114.bo h109 (by omega)
  have h119 := kV114.bo h110 (by omega)
  have h120 := kV114.bo h111 (by omega)
  have K121 := K112.no kV114 (by omega)
  have z122 := kV114.size
  refine pkq (.int .i64 0) <| ps_end <| then_n <| sy_sq (qc84_0 4094) (qc84_0 4095) <| sy_reg <| rg_q 17 [0, 1, 2, 3, 4, 5, 6, 7, 8, 9, 10, 11, 12] <| pkq (pT gm 12) <| pkq (pT gm 14) <| ppq (.int .i64 m.a.t) (exec_ld 3 (.tmp 165) gm 14 Tryz.underlying3 (rc (h118) (Msg.get_n hr NF.at_))) <| pkq (pT gm 48) <| pkq (pT gm 50) <| ppq (.int .i64 m.b.t) (exec_ld 3 (.tmp 168) gm 50 Tryz.underlying3 (rc (h118) (Msg.get_n hr NF.bt))) <| ppq (.bool true) (eqt ((m.a.t) : Int) ((m.b.t) : Int) (by omega)) <| pkq (.bool true) ?_
  refine ppq (.agg ((B m.a.dg).toArray)) (exec_load_row 23 (.tmp 20) (by kernel_rfl) gc (by kernel_rfl) _ _ (0, 0) _ (h120) Tryz.underlying23 rfl (by rw [Bz_size, (Att.dg_len m.a)]; kernel_rfl)) <| ppq (.agg ((B m.b.dg).toArray)) (exec_load_row 23 (.tmp 22) (by kernel_rfl) gd (by kernel_rfl) _ _ (0, 0) _ (h115) Tryz.underlying23 rfl (by rw [Bz_size, (Att.dg_len m.b)]; kernel_rfl)) <| ppq (.bool true) (exec_cast (congrArg Value.bool ((ne_dec _ _).trans (decide_eq_true hdd))) (exec_binop .neq 23 23 (.tmp 172) (.tmp 173) (by kernel_rfl) (.agg (B m.a.dg).toArray) (.agg (B m.b.dg).toArray) _ (by kernel_rfl) (by kernel_rfl) (run_eqGuard_agg _ _ _ _ _ _ _ hash_guard) (hash_ne _ _ (Att.dg_len m.a) (Att.dg_len m.b) _))) <| pkq (.bool true) <| pkq (.bool true) <| ps_end <| sy_a ⟨#[.agg p.cells, v, .int .i64 n, .agg (Msg.c m), pT gp 0, ud, ud, pT gm 0, .bool false, .bool true, pT go 0, .int .i64 0, .int .i64 0, .int .i64 p.check.2, ud, ud, ud, ud, .int .i64 h, .int .i64 0, pT gc 0, .int .i64 0, pT gd 0, .int .i64 0, .bool true, ud, .bool true, v, iN l.length, .bool false, ud, .tuple #[.agg (Off.cs ⟨m.a.v, 1, h⟩), .int .i64 0], .agg (p.cells), v, .int .i64 n, .agg (Msg.c m), .tuple #[.agg (Off.cs ⟨m.a.v, 1, h⟩), .int .i64 0], .agg (Off.cs ⟨m.a.v, 1, h⟩), .int .i64 0, .int .i64 0, .bool false, ud, ud, ud, ud, ud, ud, .tuple #[.int .i64 0, .int .i64 p.check.2], .agg (p.cells), .tuple #[.int .i64 0, .int .i64 p.check.2], .int .i64 0, .int .i64 p.check.2, .int .i64 0, .bool false, .bool false, .agg (Msg.c m), .int .i64 0, .bool false, .bool false, .bool false, pT gm 0, .int .i64 m.k, .bool false, .bool false, .bool false, pT go 0, .int .i64 m.a.v, .int .i64 n, .bool false, .bool false, pT gm 11, .int .i64 m.pf, .bool false, ud, ud, ud, ud, ud, ud, ud, ud, ud, ud, ud, ud, ud, ud, ud, ud, ud, ud, ud, ud, ud, ud, ud, ud, ud, ud, ud, ud, ud, ud, ud, ud, ud, ud, ud, ud, ud, ud, ud, ud, ud, ud, ud, ud, ud, ud, ud, ud, ud, ud, ud, ud, ud, ud, ud, ud, ud, ud, ud, ud, ud, ud, ud, ud, ud, ud, ud, .tuple #[.int .i64 h, .int .i64 0], .agg (p.cells), pT gm 12, pT gm 14, .int .i64 m.a.t, pT gm 48, pT gm 50, .int .i64 m.b.t, .int .i64 (max m.a.t m.b.t), .tuple #[.int .i64 h, .int .i64 0], .int .i64 h, .int .i64 0, .tuple #[.agg (B m.a.dg).toArray, .int .i64 0], pT gm 12, .agg (Att.c m.a), .tuple #[.agg (B m.a.dg).toArray, .int .i64 0], .agg (B m.a.dg).toArray, .int .i64 0, .tuple #[.agg (B m.b.dg).toArray, .int .i64 0], pT gm 48, .agg (Att.c m.b), .tuple #[.agg (B m.b.dg).toArray, .int .i64 0], .agg (B m.b.dg).toArray, .int .i64 0, pT gm 12, pT gm 14, .int .i64 m.a.t, pT gm 48, pT gm 50, .int .i64 m.b.t, .bool true, .bool true, .agg ((B m.a.dg).toArray), .agg ((B m.b.dg).toArray), .bool true, .bool true, ud, ud, ud, ud, ud, ud, ud, ud, ud, ud, ud, ud, ud, ud, ud, ud, ud, ud, ud, ud, ud, ud, ud, ud, ud, ud, ud, ud, ud, ud, ud, ud, ud, ud, ud, ud, ud, ud, ud, ud, ud, ud, ud, ud, ud, ud, ud, ud, ud, ud, ud, ud, ud, ud, ud, ud, ud, ud, ud, ud, ud, ud, ud, ud, ud, ud, ud], []⟩ <| then_n <| sy_sq (qc84_0 8190) (qc84_0 8191) <| sy_reg <| rg_q 18 [0, 1, 2, 3, 4, 5, 6, 7, 8, 9, 10, 11, 12, 13, 14, 15, 16] ?_
  by_cases c0 : m.a.s < m.b.s
  · refine pkq (pT gm 12) <| pkq (pT gm 13) <| ppq (.int .i64 m.a.s) (exec_ld 3 (.tmp 177) gm 13 Tryz.underlying3 (rc (h118) (Msg.get_n hr NF.as_))) <| pkq (pT gm 48) <| pkq (pT gm 49) <| ppq (.int .i64 m.b.s) (exec_ld 3 (.tmp 180) gm 49 Tryz.underlying3 (rc (h118) (Msg.get_n hr NF.bs))) <| ppq (.bool true) (dct (((m.a.s) : Int) < ((m.b.s) : Int)) (by omega)) <| pkq (.bool true) <| pkq (pT gm 12) <| pkq (pT gm 14) <| ppq (.int .i64 m.a.t) (exec_ld 3 (.tmp 185) gm 14 Tryz.underlying3 (rc (h118) (Msg.get_n hr NF.at_))) <| pkq (pT gm 48) <| pkq (pT gm 50) <| ppq (.int .i64 m.b.t) (exec_ld 3 (.tmp 188) gm 50 Tryz.underlying3 (rc (h118) (Msg.get_n hr NF.bt))) ?_
    refine ppq (.bool false) (dcf (((m.a.t) : Int) > ((m.b.t) : Int)) (by omega)) <| pkq (.bool false) <| pkq (.bool false) <| ps_end <| then_n <| sy_sq (qc84_0 16382) (qc84_0 16383) <| sy_reg <| rg_q 19 [0, 1, 2, 3, 4, 5, 6, 7, 8, 9, 10, 11, 12, 13, 14, 15, 16, 17, 18, 19, 20, 21, 22, 23, 24, 25, 26, 27, 28, 29, 30, 31, 32, 33, 34, 35, 36, 37, 38, 39, 40, 41, 42, 43, 44, 45, 46, 47, 48, 49, 50, 51] <| pkq (.bool true) <| pkq (.bool true) <| pkq (.int .i64 0) <| pkq (.bool true) <| pkq (.bool true) <| pkq (.bool true) ?_
    refine pkq (pT gm 12) <| pkq (pT gm 12) <| ppq (.int .i64 m.a.v) (exec_ld 3 (.tmp 199) gm 12 Tryz.underlying3 (rc (h118) (Msg.get_n hr NF.av))) <| pkq (pT gm 48) <| pkq (pT gm 48) <| ppq (.int .i64 m.b.v) (exec_ld 3 (.tmp 202) gm 48 Tryz.underlying3 (rc (h118) (Msg.get_n hr NF.bv))) <| ppq (.bool true) (eqt ((m.a.v) : Int) ((m.b.v) : Int) (by omega)) <| pkq (.bool true) <| pkq (.bool true) <| pkq (pT gm 11) <| ppq (.int .i64 m.pf) (exec_ld 3 (.tmp 207) gm 11 Tryz.underlying3 (rc (h118) (Msg.get_n hr NF.pf))) <| ppq (.bool true) (eqt ((m.pf) : Int) ((1) : Int) (by omega)) <| pkq (.bool true) <| pkq (.bool true) ?_
    refine pkq (.bool true) <| pkq (.bool true) <| pnq <| pnq <| pnq <| pnq <| pnq <| pnq <| pkq (.bool true) <| pkq (.bool true) <| pkq (.bool true) <| pkq (v) <| pkq (pT gm 12) <| ppq (.agg (Att.c m.a)) (exec_load_seg 26 (.tmp 224) (by kernel_rfl) gm 12 (by kernel_rfl) (Att.c m.a).toList _ _ _ h118 (Msg.seg_A hr) Tryz.underlying26 rfl (by rw [Att.tl hr.a]; kernel_rfl)) ?_
    refine pcq 40 #[v, .agg (Att.c m.a)] Tryz.func40 ((lesigned_ok _ l m.a _ ho.a hfa h116 hlr hsa).mono ?_)
    rintro e V123 ⟨rfl, kV123⟩
    refine ⟨_, rfl, ?_⟩
    have h124 : SelsAt V123 v l := h116.keepsN kV123
    have h126 := kV123.bk h118
    have h127 := kV123.bk h119
    have K130 := K121.nn kV123
    have z131 := kV123.size
    refine pkq (.bool true) <| pkq (.bool true) <| pkq (v) <| pkq (pT gm 48) <| ppq (.agg (Att.c m.b)) (exec_load_seg 26 (.tmp 230) (by kernel_rfl) gm 48 (by kernel_rfl) (Att.c m.b).toList _ _ _ h126 (Msg.seg_B hr) Tryz.underlying26 rfl (by rw [Att.tl hr.b]; kernel_rfl)) ?_
    refine pcq 40 #[v, .agg (Att.c m.b)] Tryz.func40 ((lesigned_ok _ l m.b _ ho.b hfb h124 hlr hsb).mono ?_)
    rintro e V132 ⟨rfl, kV132⟩
    refine ⟨_, rfl, ?_⟩
    have h135 := kV132.bk h126
    have h136 := kV132.bk h127
    have K139 := K130.nn kV132
    have z140 := kV132.size
    refine pkq (.bool true) <| pkq (.bool true) <| ppq (.agg (Off.cs ⟨m.a.v, 1, h⟩)) (exec_load_row 49 (.tmp 10) (by kernel_rfl) go (by kernel_rfl) _ _ (0, 0) _ (h136) Tryz.underlying49 rfl (by kernel_rfl)) <| pkq (pT gm 12) <| pkq (pT gm 12) <| ppq (.int .i64 m.a.v) (exec_ld 3 (.tmp 237) gm 12 Tryz.underlying3 (rc (h135) (Msg.get_n hr NF.av))) <| pkq (.int .i64 h) <| pkq (.agg (Off.cs ⟨m.a.v, 1, h⟩)) <| ppq (.bool true) (exec_cast (congrArg Value.bool (by simp)) (exec_binop .eql 49 49 (.tmp 235) (.tmp 240) (by kernel_rfl) (.agg (Off.cs ⟨m.a.v, 1, h⟩)) (.agg (Off.cs ⟨m.a.v, 1, h⟩)) _ (by kernel_rfl) (by kernel_rfl) (run_eqGuard_agg _ _ _ _ _ _ _ off_guard) (off_eq _ _ _))) <| pkq (.bool true) <| pkq (.bool true) <| ps_end <| sy_a ⟨#[.agg p.cells, v, .int .i64 n, .agg (Msg.c m), pT gp 0, ud, ud, pT gm 0, .bool true, .bool true, pT go 0, .int .i64 0, .int .i64 0, .int .i64 p.check.2, ud, ud, ud, ud, .int .i64 h, .int .i64 0, pT gc 0, .int .i64 0, pT gd 0, .int .i64 0, .bool true, .bool false, .bool true, v, iN l.length, .bool false, ud, .tuple #[.agg (Off.cs ⟨m.a.v, 1, h⟩), .int .i64 0], .agg (p.cells), v, .int .i64 n, .agg (Msg.c m), .tuple #[.agg (Off.cs ⟨m.a.v, 1, h⟩), .int .i64 0], .agg (Off.cs ⟨m.a.v, 1, h⟩), .int .i64 0, .int .i64 0, .bool false, ud, ud, ud, ud, ud, ud, .tuple #[.int .i64 0, .int .i64 p.check.2], .agg (p.cells), .tuple #[.int .i64 0, .int .i64 p.check.2], .int .i64 0, .int .i64 p.check.2, .int .i64 0, .bool false, .bool false, .agg (Msg.c m), .int .i64 0, .bool false, .bool false, .bool false, pT gm 0, .int .i64 m.k, .bool false, .bool false, .bool false, pT go 0, .int .i64 m.a.v, .int .i64 n, .bool false, .bool false, pT gm 11, .int .i64 m.pf, .bool false, ud, ud, ud, ud, ud, ud, ud, ud, ud, ud, ud, ud, ud, ud, ud, ud, ud, ud, ud, ud, ud, ud, ud, ud, ud, ud, ud, ud, ud, ud, ud, ud, ud, ud, ud, ud, ud, ud, ud, ud, ud, ud, ud, ud, ud, ud, ud, ud, ud, ud, ud, ud, ud, ud, ud, ud, ud, ud, ud, ud, ud, ud, ud, ud, ud, ud, ud, .tuple #[.int .i64 h, .int .i64 0], .agg (p.cells), pT gm 12, pT gm 14, .int .i64 m.a.t, pT gm 48, pT gm 50, .int .i64 m.b.t, .int .i64 (max m.a.t m.b.t), .tuple #[.int .i64 h, .int .i64 0], .int .i64 h, .int .i64 0, .tuple #[.agg (B m.a.dg).toArray, .int .i64 0], pT gm 12, .agg (Att.c m.a), .tuple #[.agg (B m.a.dg).toArray, .int .i64 0], .agg (B m.a.dg).toArray, .int .i64 0, .tuple #[.agg (B m.b.dg).toArray, .int .i64 0], pT gm 48, .agg (Att.c m.b), .tuple #[.agg (B m.b.dg).toArray, .int .i64 0], .agg (B m.b.dg).toArray, .int .i64 0, pT gm 12, pT gm 14, .int .i64 m.a.t, pT gm 48, pT gm 50, .int .i64 m.b.t, .bool true, .bool true, .agg ((B m.a.dg).toArray), .agg ((B m.b.dg).toArray), .bool true, .bool true, pT gm 12, pT gm 13, .int .i64 m.a.s, pT gm 48, pT gm 49, .int .i64 m.b.s, .bool true, .bool true, pT gm 12, pT gm 14, .int .i64 m.a.t, pT gm 48, pT gm 50, .int .i64 m.b.t, .bool false, .bool false, .bool true, .bool true, .int .i64 0, .bool true, .bool true, .bool true, pT gm 12, pT gm 12, .int .i64 m.a.v, pT gm 48, pT gm 48, .int .i64 m.b.v, .bool true, .bool true, .bool true, pT gm 11, .int .i64 m.pf, .bool true, .bool true, .bool true, .bool true, .bool true, ud, ud, ud, ud, ud, ud, .bool true, .bool true, .bool true, v, pT gm 12, .agg (Att.c m.a), .bool true, .bool true, .bool true, v, pT gm 48, .agg (Att.c m.b), .bool true, .bool true, .bool true, .agg (Off.cs ⟨m.a.v, 1, h⟩), pT gm 12, pT gm 12, .int .i64 m.a.v, .int .i64 h, .agg (Off.cs ⟨m.a.v, 1, h⟩), .bool true, .bool true], []⟩ <| then_n ?_
    refine sy_ret (by kernel_rfl) <| sy_out (.bool true) rfl (by kernel_rfl) ?_
    exact ⟨rfl, K139⟩
  · refine pkq (pT gm 12) <| pkq (pT gm 13) <| ppq (.int .i64 m.a.s) (exec_ld 3 (.tmp 177) gm 13 Tryz.underlying3 (rc (h118) (Msg.get_n hr NF.as_))) <| pkq (pT gm 48) <| pkq (pT gm 49) <| ppq (.int .i64 m.b.s) (exec_ld 3 (.tmp 180) gm 49 Tryz.underlying3 (rc (h118) (Msg.get_n hr NF.bs))) <| ppq (.bool false) (dcf (((m.a.s) : Int) < ((m.b.s) : Int)) (by omega)) <| pkq (.bool false) <| pnq <| pnq <| pnq <| pnq <| pnq <| pnq ?_
    refine pnq <| pkq (.bool false) <| pkq (.bool false) <| ps_end <| then_n <| sy_sq (qc84_0 16382) (qc84_0 16383) <| sy_reg <| rg_q 19 [0, 1, 2, 3, 4, 5, 6, 7, 8, 9, 10, 11, 12, 13, 14, 15, 16, 17, 18, 19, 20, 21, 22, 23, 24, 25, 26, 27, 28, 29, 30, 31, 32, 33, 34, 35, 36, 37, 38, 39, 40, 41, 42, 43, 44, 45, 46, 47, 48, 49, 50, 51] <| pkq (.bool true) <| pkq (.bool true) <| pkq (.int .i64 0) <| pkq (.bool true) <| pkq (.bool true) <| pkq (.bool true) ?_
    refine pkq (pT gm 12) <| pkq (pT gm 12) <| ppq (.int .i64 m.a.v) (exec_ld 3 (.tmp 199) gm 12 Tryz.underlying3 (rc (h118) (Msg.get_n hr NF.av))) <| pkq (pT gm 48) <| pkq (pT gm 48) <| ppq (.int .i64 m.b.v) (exec_ld 3 (.tmp 202) gm 48 Tryz.underlying3 (rc (h118) (Msg.get_n hr NF.bv))) <| ppq (.bool true) (eqt ((m.a.v) : Int) ((m.b.v) : Int) (by omega)) <| pkq (.bool true) <| pkq (.bool true) <| pkq (pT gm 11) <| ppq (.int .i64 m.pf) (exec_ld 3 (.tmp 207) gm 11 Tryz.underlying3 (rc (h118) (Msg.get_n hr NF.pf))) <| ppq (.bool true) (eqt ((m.pf) : Int) ((1) : Int) (by omega)) <| pkq (.bool true) <| pkq (.bool true) ?_
    refine pkq (.bool true) <| pkq (.bool true) <| pnq <| pnq <| pnq <| pnq <| pnq <| pnq <| pkq (.bool true) <| pkq (.bool true) <| pkq (.bool true) <| pkq (v) <| pkq (pT gm 12) <| ppq (.agg (Att.c m.a)) (exec_load_seg 26 (.tmp 224) (by kernel_rfl) gm 12 (by kernel_rfl) (Att.c m.a).toList _ _ _ h118 (Msg.seg_A hr) Tryz.underlying26 rfl (by rw [Att.tl hr.a]; kernel_rfl)) ?_
    refine pcq 40 #[v, .agg (Att.c m.a)] Tryz.func40 ((lesigned_ok _ l m.a _ ho.a hfa h116 hlr hsa).mono ?_)
    rintro e V141 ⟨rfl, kV141⟩
    refine ⟨_, rfl, ?_⟩
    have h142 : SelsAt V141 v l := h116.keepsN kV141
    have h144 := kV141.bk h118
    have h145 := kV141.bk h119
    have K148 := K121.nn kV141
    have z149 := kV141.size
    refine pkq (.bool true) <| pkq (.bool true) <| pkq (v) <| pkq (pT gm 48) <| ppq (.agg (Att.c m.b)) (exec_load_seg 26 (.tmp 230) (by kernel_rfl) gm 48 (by kernel_rfl) (Att.c m.b).toList _ _ _ h144 (Msg.seg_B hr) Tryz.underlying26 rfl (by rw [Att.tl hr.b]; kernel_rfl)) ?_
    refine pcq 40 #[v, .agg (Att.c m.b)] Tryz.func40 ((lesigned_ok _ l m.b _ ho.b hfb h142 hlr hsb).mono ?_)
    rintro e V150 ⟨rfl, kV150⟩
    refine ⟨_, rfl, ?_⟩
    have h153 := kV150.bk h144
    have h154 := kV150.bk h145
    have K157 := K148.nn kV150
    have z158 := kV150.size
    refine pkq (.bool true) <| pkq (.bool true) <| ppq (.agg (Off.cs ⟨m.a.v, 1, h⟩)) (exec_load_row 49 (.tmp 10) (by kernel_rfl) go (by kernel_rfl) _ _ (0, 0) _ (h154) Tryz.underlying49 rfl (by kernel_rfl)) <| pkq (pT gm 12) <| pkq (pT gm 12) <| ppq (.int .i64 m.a.v) (exec_ld 3 (.tmp 237) gm 12 Tryz.underlying3 (rc (h153) (Msg.get_n hr NF.av))) <| pkq (.int .i64 h) <| pkq (.agg (Off.cs ⟨m.a.v, 1, h⟩)) <| ppq (.bool true) (exec_cast (congrArg Value.bool (by simp)) (exec_binop .eql 49 49 (.tmp 235) (.tmp 240) (by kernel_rfl) (.agg (Off.cs ⟨m.a.v, 1, h⟩)) (.agg (Off.cs ⟨m.a.v, 1, h⟩)) _ (by kernel_rfl) (by kernel_rfl) (run_eqGuard_agg _ _ _ _ _ _ _ off_guard) (off_eq _ _ _))) <| pkq (.bool true) <| pkq (.bool true) <| ps_end <| sy_a ⟨#[.agg p.cells, v, .int .i64 n, .agg (Msg.c m), pT gp 0, ud, ud, pT gm 0, .bool true, .bool true, pT go 0, .int .i64 0, .int .i64 0, .int .i64 p.check.2, ud, ud, ud, ud, .int .i64 h, .int .i64 0, pT gc 0, .int .i64 0, pT gd 0, .int .i64 0, .bool true, .bool false, .bool true, v, iN l.length, .bool false, ud, .tuple #[.agg (Off.cs ⟨m.a.v, 1, h⟩), .int .i64 0], .agg (p.cells), v, .int .i64 n, .agg (Msg.c m), .tuple #[.agg (Off.cs ⟨m.a.v, 1, h⟩), .int .i64 0], .agg (Off.cs ⟨m.a.v, 1, h⟩), .int .i64 0, .int .i64 0, .bool false, ud, ud, ud, ud, ud, ud, .tuple #[.int .i64 0, .int .i64 p.check.2], .agg (p.cells), .tuple #[.int .i64 0, .int .i64 p.check.2], .int .i64 0, .int .i64 p.check.2, .int .i64 0, .bool false, .bool false, .agg (Msg.c m), .int .i64 0, .bool false, .bool false, .bool false, pT gm 0, .int .i64 m.k, .bool false, .bool false, .bool false, pT go 0, .int .i64 m.a.v, .int .i64 n, .bool false, .bool false, pT gm 11, .int .i64 m.pf, .bool false, ud, ud, ud, ud, ud, ud, ud, ud, ud, ud, ud, ud, ud, ud, ud, ud, ud, ud, ud, ud, ud, ud, ud, ud, ud, ud, ud, ud, ud, ud, ud, ud, ud, ud, ud, ud, ud, ud, ud, ud, ud, ud, ud, ud, ud, ud, ud, ud, ud, ud, ud, ud, ud, ud, ud, ud, ud, ud, ud, ud, ud, ud, ud, ud, ud, ud, ud, .tuple #[.int .i64 h, .int .i64 0], .agg (p.cells), pT gm 12, pT gm 14, .int .i64 m.a.t, pT gm 48, pT gm 50, .int .i64 m.b.t, .int .i64 (max m.a.t m.b.t), .tuple #[.int .i64 h, .int .i64 0], .int .i64 h, .int .i64 0, .tuple #[.agg (B m.a.dg).toArray, .int .i64 0], pT gm 12, .agg (Att.c m.a), .tuple #[.agg (B m.a.dg).toArray, .int .i64 0], .agg (B m.a.dg).toArray, .int .i64 0, .tuple #[.agg (B m.b.dg).toArray, .int .i64 0], pT gm 48, .agg (Att.c m.b), .tuple #[.agg (B m.b.dg).toArray, .int .i64 0], .agg (B m.b.dg).toArray, .int .i64 0, pT gm 12, pT gm 14, .int .i64 m.a.t, pT gm 48, pT gm 50, .int .i64 m.b.t, .bool true, .bool true, .agg ((B m.a.dg).toArray), .agg ((B m.b.dg).toArray), .bool true, .bool true, pT gm 12, pT gm 13, .int .i64 m.a.s, pT gm 48, pT gm 49, .int .i64 m.b.s, .bool false, .bool false, ud, ud, ud, ud, ud, ud, ud, .bool false, .bool true, .bool true, .int .i64 0, .bool true, .bool true, .bool true, pT gm 12, pT gm 12, .int .i64 m.a.v, pT gm 48, pT gm 48, .int .i64 m.b.v, .bool true, .bool true, .bool true, pT gm 11, .int .i64 m.pf, .bool true, .bool true, .bool true, .bool true, .bool true, ud, ud, ud, ud, ud, ud, .bool true, .bool true, .bool true, v, pT gm 12, .agg (Att.c m.a), .bool true, .bool true, .bool true, v, pT gm 48, .agg (Att.c m.b), .bool true, .bool true, .bool true, .agg (Off.cs ⟨m.a.v, 1, h⟩), pT gm 12, pT gm 12, .int .i64 m.a.v, .int .i64 h, .agg (Off.cs ⟨m.a.v, 1, h⟩), .bool true, .bool true], []⟩ <| then_n ?_
    refine sy_ret (by kernel_rfl) <| sy_out (.bool true) rfl (by kernel_rfl) ?_
    exact ⟨rfl, K157⟩
theorem sound_S (p : Par) (v : Value) (l : List Sel) (n : Int) (m : Msg) (w : World) (hp : p.Ok) (ho : m.Ok) (hl : SelsAt w v l) (hlr : ∀ y ∈ l, y.r.length = 32) (h : Int) (hlen : ¬ 60 < l.length) (hj : jud p l n m = (⟨m.a.v, 1, h⟩, 0)) (hn : ¬ n ≤ m.a.v) (hpf : m.pf = 2) (hfi : p.first (max m.a.t m.b.t) = (h, 0)) (hc : p.check.1 = 0) (hch : m.chk = 0) (hk : m.k = 8) (hfa : m.a.fine) (hfb : m.b.fine) (hv : m.a.v = m.b.v) (hss : m.a.s < m.b.s) (ht : m.a.t > m.b.t) (hsa : (⟨m.a.v, m.a.dg, m.a.g⟩ : Sel) ∈ l) (hsb : (⟨m.b.v, m.b.dg, m.b.g⟩ : Sel) ∈ l) :
    Calls Tryz.prog 7 #[.agg p.cells, v, .int .i64 n, .agg (Msg.c m)] w (fun e w' => e = .returned (.bool true) ∧ Keeps Nob w w') := by
  have hr := ho.R
  have hll := hl.len_le
  have hmx : i64ok (max m.a.t m.b.t) := by have h1 := ho.a.t; have h2 := ho.b.t; unfold i64ok; unfold i64b at h1 h2; omega
  have K0 : Keeps Nob w w := Keeps.refl _ _
  refine sy_enter (qc84_0 1) ⟨#[.agg p.cells, v, .int .i64 n, .agg (Msg.c m), ud, ud, ud, ud, ud, ud, ud, ud, ud, ud, ud, ud, ud, ud, ud, ud, ud, ud, ud, ud, ud, ud, ud, ud, ud, ud, ud, ud, ud, ud, ud, ud, ud, ud, ud, ud, ud, ud, ud, ud, ud, ud, ud, ud, ud, ud, ud, ud, ud, ud, ud, ud, ud, ud, ud, ud, ud, ud, ud, ud, ud, ud, ud, ud, ud, ud, ud, ud, ud, ud, ud, ud, ud, ud, ud, ud, ud, ud, ud, ud, ud, ud, ud, ud, ud, ud, ud, ud, ud, ud, ud, ud, ud, ud, ud, ud, ud, ud, ud, ud, ud, ud, ud, ud, ud, ud, ud, ud, ud, ud, ud, ud, ud, ud, ud, ud, ud, ud, ud, ud, ud, ud, ud, ud, ud, ud, ud, ud, ud, ud, ud, ud, ud, ud, ud, ud, ud, ud, ud, ud, ud, ud, ud, ud, ud, ud, ud, ud, ud, ud, ud, ud, ud, ud, ud, ud, ud, ud, ud, ud, ud, ud, ud, ud, ud, ud, ud, ud, ud, ud, ud, ud, ud, ud, ud, ud, ud, ud, ud, ud, ud, ud, ud, ud, ud, ud, ud, ud, ud, ud, ud, ud, ud, ud, ud, ud, ud, ud, ud, ud, ud, ud, ud, ud, ud, ud, ud, ud, ud, ud, ud, ud, ud, ud, ud, ud, ud, ud, ud, ud, ud, ud, ud, ud, ud, ud, ud, ud, ud, ud, ud, ud, ud, ud, ud, ud, ud, ud, ud], []⟩ Tryz.func7 (by kernel_rfl) (by kernel_rfl) <| sy_sq (qc84_0 2) (qc84_0 3) <| sy_reg <| rg_q 0 [0, 1, 2] ?_
  obtain ⟨V1, eV1, gp, egp, h2, kV1⟩ := alloc_step w p.cells 45
  have n3 : w.heap.size ≤ gp := egp ▸ K0.size
  refine prq (pT gp 0) (w' := V1) (by rw [← eV1, ← egp]; exact exec_box 45 (.tmp 0) (by kernel_rfl) (.agg p.cells) (by kernel_rfl)) ?_
  clear eV1
  have h4 : SelsAt V1 v l := hl.keepsN kV1
  have K5 := K0.nn kV1
  have z6 := kV1.size
  obtain ⟨V7, eV7, gm, egm, h8, kV7⟩ := alloc_step V1 ((Msg.c m)) 38
  have n9 : gp < gm := egm ▸ lt_of_block h2
  have n10 : w.heap.size ≤ gm := egm ▸ K5.size
  refine prq (pT gm 0) (w' := V7) (by rw [← eV7, ← egm]; exact exec_box 38 (.tmp 3) (by kernel_rfl) (.agg (Msg.c m)) (by kernel_rfl)) ?_
  clear eV7
  have h11 : SelsAt V7 v l := h4.keepsN kV7
  have h12 := kV7.bk h2
  have K13 := K5.nn kV7
  have z14 := kV7.size
  refine pkq (.bool false) <| ps_end <| then_n <| sy_sq (qc84_0 6) (qc84_0 7) <| sy_reg <| rg_q 1 [0, 1] ?_
  refine pcq 5 #[] Tryz.func5 ((evidenceKnown_ok _).mono ?_)
  rintro e V15 ⟨rfl, kV15⟩
  refine ⟨_, rfl, ?_⟩
  have h16 : SelsAt V15 v l := h11.keepsN kV15
  have h17 := kV15.bk h12
  have h18 := kV15.bk h8
  have K19 := K13.nn kV15
  have z20 := kV15.size
  refine pkq (.bool true) <| ps_end <| then_n <| sy_sq (qc84_0 14) (qc84_0 15) <| sy_sq (qc84_0 28) (qc84_0 29) <| sy_reg <| rg_q 2 [0, 1, 2] <| pkq (v) <| ppq (iN l.length) (exec_len_sl (.tmp 27) 46 30 (by kernel_rfl) Tryz.underlying46 (by kernel_rfl) h16) <| ppq (.bool false) (dcf ((((l.length : Nat) : Int)) > ((60) : Int)) (by omega)) <| ps_end <| then_n <| sy_n (.tmp 29) (qc84_0 58) (qc84_0 59) <| sy_sk ?_
  refine then_n <| sy_sq (qc84_0 30) (qc84_0 31) <| sy_reg <| rg_q 4 [0, 1, 2, 3, 4, 5, 6, 7, 8, 9, 10] <| ppq (.agg (p.cells)) (exec_load_row 45 (.tmp 4) (by kernel_rfl) gp (by kernel_rfl) _ _ (0, 0) _ (h17) Tryz.underlying45 rfl (by kernel_rfl)) <| pkq (v) <| pkq (.int .i64 n) <| ppq (.agg (Msg.c m)) (exec_load_row 38 (.tmp 7) (by kernel_rfl) gm (by kernel_rfl) _ _ (0, 0) _ (h18) Tryz.underlying38 rfl (by rw [Msg.c_size hr]; kernel_rfl)) ?_
  refine pcq 20 #[.agg (p.cells), v, .int .i64 n, .agg (Msg.c m)] Tryz.func20 ((eJudge_is _ hp ho h16 hlr hj).mono ?_)
  rintro e V21 ⟨rfl, kV21⟩
  refine ⟨_, rfl, ?_⟩
  have h22 : SelsAt V21 v l := h16.keepsN kV21
  have h23 := kV21.bk h17
  have h24 := kV21.bk h18
  have K25 := K19.nn kV21
  have z26 := kV21.size
  refine pkq (.tuple #[.agg (Off.cs ⟨m.a.v, 1, h⟩), .int .i64 0]) <| pkq (.agg (Off.cs ⟨m.a.v, 1, h⟩)) <| pkq (.int .i64 0) ?_
  obtain ⟨V27, eV27, go, ego, h28, kV27⟩ := alloc_step V21 (#[.int .i64 0, .int .i64 0, .int .i64 0]) 49
  have n29 : gp < go := ego ▸ lt_of_block h23
  have n30 : gm < go := ego ▸ lt_of_block h24
  have n31 : w.heap.size ≤ go := ego ▸ K25.size
  refine prq (pT go 0) (w' := V27) (by rw [← eV27, ← ego]; exact exec_alloc0 49 (by kernel_rfl) (.agg (#[.int .i64 0, .int .i64 0, .int .i64 0])) (by kernel_rfl)) ?_
  clear eV27
  have h32 : SelsAt V27 v l := h22.keepsN kV27
  have h33 := kV27.bk h23
  have h34 := kV27.bk h24
  have K35 := K25.nn kV27
  have z36 := kV27.size
  obtain ⟨V37, eV37, kV37⟩ := rowset_step V27 go ((Off.cs ⟨m.a.v, 1, h⟩))
  have h38 : V37.heap[go]? = some (.cells (Off.cs ⟨m.a.v, 1, h⟩) 49 (0, 0)) := eV37 ▸ setRow_heap _ _ _ _ _ _ h28
  refine pzq (w' := V37) (by rw [← eV37]; exact exec_store_row 49 (.tmp 10) (.tmp 37) (by kernel_rfl) go ((Off.cs ⟨m.a.v, 1, h⟩)) (by kernel_rfl) (by kernel_rfl) 49 (#[.int .i64 0, .int .i64 0, .int .i64 0]) h28 (by kernel_rfl) rfl (by kernel_rfl)) ?_
  clear eV37
  have h39 : SelsAt V37 v l := Sl.keepsB hl h32 kV37 (fun j e => by first | (unfold Own.One at e; omega) | omega)
  have h40 := kV37.bo h33 (by omega)
  have h41 := kV37.bo h34 (by omega)
  have K42 := K35.no kV37 (by omega)
  have z43 := kV37.size
  refine pkq (.int .i64 0) <| ps_end <| then_n <| sy_sq (qc84_0 62) (qc84_0 63) <| sy_sq (qc84_0 124) (qc84_0 125) <| sy_reg <| rg_q 5 [0, 1] <| pkq (.int .i64 0) <| pkq (.bool false) <| ps_end <| then_n <| sy_n (.tmp 40) (qc84_0 250) (qc84_0 251) <| sy_sk <| then_n ?_
  refine sy_sq (qc84_0 126) (qc84_0 127) <| sy_sq (qc84_0 252) (qc84_0 253) <| sy_reg <| rg_q 7 [0, 1, 2, 3, 4, 5, 6] <| ppq (.agg (p.cells)) (exec_load_row 45 (.tmp 4) (by kernel_rfl) gp (by kernel_rfl) _ _ (0, 0) _ (h40) Tryz.underlying45 rfl (by kernel_rfl)) ?_
  refine pcq 31 #[.agg (p.cells)] Tryz.func31 ((pCheck_0 _ hp hc).mono ?_)
  rintro e V44 ⟨rfl, kV44⟩
  refine ⟨_, rfl, ?_⟩
  have h45 : SelsAt V44 v l := h39.keepsN kV44
  have h46 := kV44.bk h40
  have h47 := kV44.bk h41
  have h48 := kV44.bk h38
  have K49 := K42.nn kV44
  have z50 := kV44.size
  refine pkq (.tuple #[.int .i64 0, .int .i64 p.check.2]) <| pkq (.int .i64 0) <| pkq (.int .i64 p.check.2) <| pkq (.int .i64 0) <| pkq (.int .i64 p.check.2) <| ps_end <| sy_a ⟨#[.agg p.cells, v, .int .i64 n, .agg (Msg.c m), pT gp 0, ud, ud, pT gm 0, .bool false, .bool true, pT go 0, .int .i64 0, .int .i64 0, .int .i64 p.check.2, ud, ud, ud, ud, ud, ud, ud, ud, ud, ud, ud, ud, .bool true, v, iN l.length, .bool false, ud, .tuple #[.agg (Off.cs ⟨m.a.v, 1, h⟩), .int .i64 0], .agg (p.cells), v, .int .i64 n, .agg (Msg.c m), .tuple #[.agg (Off.cs ⟨m.a.v, 1, h⟩), .int .i64 0], .agg (Off.cs ⟨m.a.v, 1, h⟩), .int .i64 0, .int .i64 0, .bool false, ud, ud, ud, ud, ud, ud, .tuple #[.int .i64 0, .int .i64 p.check.2], .agg (p.cells), .tuple #[.int .i64 0, .int .i64 p.check.2], .int .i64 0, .int .i64 p.check.2, ud, ud, ud, ud, ud, ud, ud, ud, ud, ud, ud, ud, ud, ud, ud, ud, ud, ud, ud, ud, ud, ud, ud, ud, ud, ud, ud, ud, ud, ud, ud, ud, ud, ud, ud, ud, ud, ud, ud, ud, ud, ud, ud, ud, ud, ud, ud, ud, ud, ud, ud, ud, ud, ud, ud, ud, ud, ud, ud, ud, ud, ud, ud, ud, ud, ud, ud, ud, ud, ud, ud, ud, ud, ud, ud, ud, ud, ud, ud, ud, ud, ud, ud, ud, ud, ud, ud, ud, ud, ud, ud, ud, ud, ud, ud, ud, ud, ud, ud, ud, ud, ud, ud, ud, ud, ud, ud, ud, ud, ud, ud, ud, ud, ud, ud, ud, ud, ud, ud, ud, ud, ud, ud, ud, ud, ud, ud, ud, ud, ud, ud, ud, ud, ud, ud, ud, ud, ud, ud, ud, ud, ud, ud, ud, ud, ud, ud, ud, ud, ud, ud, ud, ud, ud, ud, ud, ud, ud, ud, ud, ud, ud, ud, ud, ud, ud, ud, ud, ud, ud, ud, ud, ud, ud, ud, ud, ud, ud, ud, ud, ud, ud, ud, ud, ud, ud, ud, ud, ud, ud, ud], []⟩ <| then_n <| sy_sq (qc84_0 506) (qc84_0 507) <| sy_reg <| rg_q 8 [0, 1, 2, 3, 4, 5, 6, 7, 8, 9, 10, 11, 12, 13, 14, 15, 16, 17] <| pkq (.int .i64 0) <| pkq (.bool false) <| pkq (.bool false) ?_
  refine ppq (.agg (Msg.c m)) (exec_load_row 38 (.tmp 7) (by kernel_rfl) gm (by kernel_rfl) _ _ (0, 0) _ (h47) Tryz.underlying38 rfl (by rw [Msg.c_size hr]; kernel_rfl)) ?_
  refine pcq 36 #[.agg (Msg.c m)] Tryz.func36 ((mCheck_0 _ hr hch).mono ?_)
  rintro e V51 ⟨rfl, kV51⟩
  refine ⟨_, rfl, ?_⟩
  have h52 : SelsAt V51 v l := h45.keepsN kV51
  have h53 := kV51.bk h46
  have h54 := kV51.bk h47
  have h55 := kV51.bk h48
  have K56 := K49.nn kV51
  have z57 := kV51.size
  refine pkq (.bool false) <| pkq (.bool false) <| pkq (.bool false) <| pkq (pT gm 0) <| ppq (.int .i64 m.k) (exec_ld 3 (.tmp 60) gm 0 Tryz.underlying3 (rc (h54) (Msg.get_n hr NF.k))) <| ppq (.bool false) (nqf ((m.k) : Int) ((8) : Int) (by omega)) <| pkq (.bool false) <| pkq (.bool false) <| pkq (pT go 0) <| ppq (.int .i64 m.a.v) (exec_ld 3 (.tmp 65) go 0 Tryz.underlying3 (rc (h55) (rfl))) <| pkq (.int .i64 n) <| ppq (.bool false) (dcf (((m.a.v) : Int) ≥ ((n) : Int)) (by omega)) <| pkq (.bool false) <| ps_end ?_
  refine then_n <| sy_n (.tmp 69) (qc84_0 1014) (qc84_0 1015) <| sy_sk <| then_n <| sy_sq (qc84_0 254) (qc84_0 255) <| sy_sq (qc84_0 508) (qc84_0 509) <| sy_reg <| rg_q 10 [0, 1, 2] <| pkq (pT gm 11) <| ppq (.int .i64 m.pf) (exec_ld 3 (.tmp 70) gm 11 Tryz.underlying3 (rc (h54) (Msg.get_n hr NF.pf))) <| ppq (.bool false) (eqf ((m.pf) : Int) ((3) : Int) (by omega)) <| ps_end <| then_n <| sy_n (.tmp 72) (qc84_0 1018) (qc84_0 1019) ?_
  refine sy_sk <| then_n <| sy_sq (qc84_0 510) (qc84_0 511) <| sy_reg <| rg_q 14 [0, 1, 2, 3, 4, 5, 6, 7, 8, 9, 10, 11, 12, 13] <| ppq (.agg (p.cells)) (exec_load_row 45 (.tmp 4) (by kernel_rfl) gp (by kernel_rfl) _ _ (0, 0) _ (h53) Tryz.underlying45 rfl (by kernel_rfl)) <| pkq (pT gm 12) <| pkq (pT gm 14) <| ppq (.int .i64 m.a.t) (exec_ld 3 (.tmp 143) gm 14 Tryz.underlying3 (rc (h54) (Msg.get_n hr NF.at_))) <| pkq (pT gm 48) <| pkq (pT gm 50) <| ppq (.int .i64 m.b.t) (exec_ld 3 (.tmp 146) gm 50 Tryz.underlying3 (rc (h54) (Msg.get_n hr NF.bt))) <| ppq (.int .i64 (max m.a.t m.b.t)) (exec_max (.tmp 144) (.tmp 147) #[3, 3] (by kernel_rfl) .i64 m.a.t m.b.t (by kernel_rfl) (by kernel_rfl)) ?_
  refine pcq 34 #[.agg (p.cells), .int .i64 (max m.a.t m.b.t)] Tryz.func34 ((pFirst_is _ hp hmx hfi).mono ?_)
  rintro e V58 ⟨rfl, kV58⟩
  refine ⟨_, rfl, ?_⟩
  have h59 : SelsAt V58 v l := h52.keepsN kV58
  have h60 := kV58.bk h53
  have h61 := kV58.bk h54
  have h62 := kV58.bk h55
  have K63 := K56.nn kV58
  have z64 := kV58.size
  refine pkq (.tuple #[.int .i64 h, .int .i64 0]) <| pkq (.int .i64 h) <| pkq (.int .i64 0) <| pkq (.int .i64 h) <| pkq (.int .i64 0) <| ps_end <| sy_a ⟨#[.agg p.cells, v, .int .i64 n, .agg (Msg.c m), pT gp 0, ud, ud, pT gm 0, .bool false, .bool true, pT go 0, .int .i64 0, .int .i64 0, .int .i64 p.check.2, ud, ud, ud, ud, .int .i64 h, .int .i64 0, ud, ud, ud, ud, ud, ud, .bool true, v, iN l.length, .bool false, ud, .tuple #[.agg (Off.cs ⟨m.a.v, 1, h⟩), .int .i64 0], .agg (p.cells), v, .int .i64 n, .agg (Msg.c m), .tuple #[.agg (Off.cs ⟨m.a.v, 1, h⟩), .int .i64 0], .agg (Off.cs ⟨m.a.v, 1, h⟩), .int .i64 0, .int .i64 0, .bool false, ud, ud, ud, ud, ud, ud, .tuple #[.int .i64 0, .int .i64 p.check.2], .agg (p.cells), .tuple #[.int .i64 0, .int .i64 p.check.2], .int .i64 0, .int .i64 p.check.2, .int .i64 0, .bool false, .bool false, .agg (Msg.c m), .int .i64 0, .bool false, .bool false, .bool false, pT gm 0, .int .i64 m.k, .bool false, .bool false, .bool false, pT go 0, .int .i64 m.a.v, .int .i64 n, .bool false, .bool false, pT gm 11, .int .i64 m.pf, .bool false, ud, ud, ud, ud, ud, ud, ud, ud, ud, ud, ud, ud, ud, ud, ud, ud, ud, ud, ud, ud, ud, ud, ud, ud, ud, ud, ud, ud, ud, ud, ud, ud, ud, ud, ud, ud, ud, ud, ud, ud, ud, ud, ud, ud, ud, ud, ud, ud, ud, ud, ud, ud, ud, ud, ud, ud, ud, ud, ud, ud, ud, ud, ud, ud, ud, ud, ud, .tuple #[.int .i64 h, .int .i64 0], .agg (p.cells), pT gm 12, pT gm 14, .int .i64 m.a.t, pT gm 48, pT gm 50, .int .i64 m.b.t, .int .i64 (max m.a.t m.b.t), .tuple #[.int .i64 h, .int .i64 0], .int .i64 h, .int .i64 0, ud, ud, ud, ud, ud, ud, ud, ud, ud, ud, ud, ud, ud, ud, ud, ud, ud, ud, ud, ud, ud, ud, ud, ud, ud, ud, ud, ud, ud, ud, ud, ud, ud, ud, ud, ud, ud, ud, ud, ud, ud, ud, ud, ud, ud, ud, ud, ud, ud, ud, ud, ud, ud, ud, ud, ud, ud, ud, ud, ud, ud, ud, ud, ud, ud, ud, ud, ud, ud, ud, ud, ud, ud, ud, ud, ud, ud, ud, ud, ud, ud, ud, ud, ud, ud, ud, ud, ud, ud, ud, ud], []⟩ <| then_n <| sy_sq (qc84_0 1022) (qc84_0 1023) <| sy_reg <| rg_q 15 [0, 1, 2, 3, 4, 5, 6, 7, 8] <| pkq (pT gm 12) <| ppq (.agg (Att.c m.a)) (exec_load_seg 26 (.tmp 153) (by kernel_rfl) gm 12 (by kernel_rfl) (Att.c m.a).toList _ _ _ h61 (Msg.seg_A hr) Tryz.underlying26 rfl (by rw [Att.tl hr.a]; kernel_rfl)) ?_
  refine pcq 39 #[.agg (Att.c m.a)] Tryz.func39 ((vDigest_fine _ ho.a hfa).mono ?_)
  rintro e V65 ⟨rfl, kV65⟩
  refine ⟨_, rfl, ?_⟩
  have h66 : SelsAt V65 v l := h59.keepsN kV65
  have h67 := kV65.bk h60
  have h68 := kV65.bk h61
  have h69 := kV65.bk h62
  have K70 := K63.nn kV65
  have z71 := kV65.size
  refine pkq (.tuple #[.agg (B m.a.dg).toArray, .int .i64 0]) <| pkq (.agg (B m.a.dg).toArray) <| pkq (.int .i64 0) ?_
  obtain ⟨V72, eV72, gc, egc, h73, kV72⟩ := alloc_step V65 (zr_u8_32) 23
  have n74 : gp < gc := egc ▸ lt_of_block h67
  have n75 : gm < gc := egc ▸ lt_of_block h68
  have n76 : go < gc := egc ▸ lt_of_block h69
  have n77 : w.heap.size ≤ gc := egc ▸ K70.size
  refine prq (pT gc 0) (w' := V72) (by rw [← eV72, ← egc]; exact exec_alloc0 23 (by kernel_rfl) (.agg (zr_u8_32)) (by kernel_rfl)) ?_
  clear eV72
  have h78 : SelsAt V72 v l := h66.keepsN kV72
  have h79 := kV72.bk h67
  have h80 := kV72.bk h68
  have h81 := kV72.bk h69
  have K82 := K70.nn kV72
  have z83 := kV72.size
  obtain ⟨V84, eV84, kV84⟩ := rowset_step V72 gc ((B m.a.dg).toArray)
  have h85 : V84.heap[gc]? = some (.cells ((B m.a.dg).toArray) 23 (0, 0)) := eV84 ▸ setRow_heap _ _ _ _ _ _ h73
  refine pzq (w' := V84) (by rw [← eV84]; exact exec_store_row 23 (.tmp 20) (.tmp 156) (by kernel_rfl) gc ((B m.a.dg).toArray) (by kernel_rfl) (by kernel_rfl) 23 (zr_u8_32) h73 (by rw [Bz_size, Att.dg_len]; kernel_rfl) (by rw [Bz_size, Att.dg_len]; rfl) (by rw [List.all_toArray]; exact List.all_eq_true.2 (B_one _))) ?_
  clear eV84
  have h86 : SelsAt V84 v l := Sl.keepsB hl h78 kV84 (fun j e => by first | (unfold Own.One at e; omega) | omega)
  have h87 := kV84.bo h79 (by omega)
  have h88 := kV84.bo h80 (by omega)
  have h89 := kV84.bo h81 (by omega)
  have K90 := K82.no kV84 (by omega)
  have z91 := kV84.size
  refine pkq (.int .i64 0) <| ps_end <| then_n <| sy_sq (qc84_0 2046) (qc84_0 2047) <| sy_reg <| rg_q 16 [0, 1, 2, 3, 4, 5, 6, 7, 8] <| pkq (pT gm 48) <| ppq (.agg (Att.c m.b)) (exec_load_seg 26 (.tmp 159) (by kernel_rfl) gm 48 (by kernel_rfl) (Att.c m.b).toList _ _ _ h88 (Msg.seg_B hr) Tryz.underlying26 rfl (by rw [Att.tl hr.b]; kernel_rfl)) ?_
  refine pcq 39 #[.agg (Att.c m.b)] Tryz.func39 ((vDigest_fine _ ho.b hfb).mono ?_)
  rintro e V92 ⟨rfl, kV92⟩
  refine ⟨_, rfl, ?_⟩
  have h93 : SelsAt V92 v l := h86.keepsN kV92
  have h94 := kV92.bk h87
  have h95 := kV92.bk h88
  have h96 := kV92.bk h89
  have h97 := kV92.bk h85
  have K98 := K90.nn kV92
  have z99 := kV92.size
  refine pkq (.tuple #[.agg (B m.b.dg).toArray, .int .i64 0]) <| pkq (.agg (B m.b.dg).toArray) <| pkq (.int .i64 0) ?_
  obtain ⟨V100, eV100, gd, egd, h101, kV100⟩ := alloc_step V92 (zr_u8_32) 23
  have n102 : gp < gd := egd ▸ lt_of_block h94
  have n103 : gm < gd := egd ▸ lt_of_block h95
  have n104 : go < gd := egd ▸ lt_of_block h96
  have n105 : gc < gd := egd ▸ lt_of_block h97
  have n106 : w.heap.size ≤ gd := egd ▸ K98.size
  refine prq (pT gd 0) (w' := V100) (by rw [← eV100, ← egd]; exact exec_alloc0 23 (by kernel_rfl) (.agg (zr_u8_32)) (by kernel_rfl)) ?_
  clear eV100
  have h107 : SelsAt V100 v l := h93.keepsN kV100
  have h109 := kV100.bk h95
  have h110 := kV100.bk h96
  have K112 := K98.nn kV100
  have z113 := kV100.size
  obtain ⟨V114, eV114, kV114⟩ := rowset_step V100 gd ((B m.b.dg).toArray)
  refine pzq (w' := V114) (by rw [← eV114]; exact exec_store_row 23 (.tmp 22) (.tmp 162) (by kernel_rfl) gd ((B m.b.dg).toArray) (by kernel_rfl) (by kernel_rfl) 23 (zr_u8_32) h101 (by rw [Bz_size, Att.dg_len]; kernel_rfl) (by rw [Bz_size, Att.dg_len]; rfl) (by rw [List.all_toArray]; exact List.all_eq_true.2 (B_one _))) ?_
  clear eV114
  have h116 : SelsAt V114 v l := Sl.keepsB hl h107 kV114 (fun j e => by first | (unfold Own.One at e; omega) | omega)
  have h118 := kV114.bo h109 (by omega)
  have h119 := kV114.bo h110 (by omega)
  have K121 := K112.no kV114 (by omega)
  have z122 := kV114.size
  refine pkq (.int .i64 0) <| ps_end <| then_n <| sy_sq (qc84_0 4094) (qc84_0 4095) <| sy_reg <| rg_q 17 [0, 1, 2, 3, 4, 5, 6, 7, 8, 9, 10, 11, 12] <| pkq (pT gm 12) <| pkq (pT gm 14) <| ppq (.int .i64 m.a.t) (exec_ld 3 (.tmp 165) gm 14 Tryz.underlying3 (rc (h118) (Msg.get_n hr NF.at_))) <| pkq (pT gm 48) <| pkq (pT gm 50) <| ppq (.int .i64 m.b.t) (exec_ld 3 (.tmp 168) gm 50 Tryz.underlying3 (rc (h118) (Msg.get_n hr NF.bt))) <| ppq (.bool false) (eqf ((m.a.t) : Int) ((m.b.t) : Int) (by omega)) <| pkq (.bool false) ?_
  refine pnq <| pnq <| pnq <| pkq (.bool false) <| pkq (.bool false) <| ps_end <| sy_a ⟨#[.agg p.cells, v, .int .i64 n, .agg (Msg.c m), pT gp 0, ud, ud, pT gm 0, .bool false, .bool true, pT go 0, .int .i64 0, .int .i64 0, .int .i64 p.check.2, ud, ud, ud, ud, .int .i64 h, .int .i64 0, pT gc 0, .int .i64 0, pT gd 0, .int .i64 0, .bool false, ud, .bool true, v, iN l.length, .bool false, ud, .tuple #[.agg (Off.cs ⟨m.a.v, 1, h⟩), .int .i64 0], .agg (p.cells), v, .int .i64 n, .agg (Msg.c m), .tuple #[.agg (Off.cs ⟨m.a.v, 1, h⟩), .int .i64 0], .agg (Off.cs ⟨m.a.v, 1, h⟩), .int .i64 0, .int .i64 0, .bool false, ud, ud, ud, ud, ud, ud, .tuple #[.int .i64 0, .int .i64 p.check.2], .agg (p.cells), .tuple #[.int .i64 0, .int .i64 p.check.2], .int .i64 0, .int .i64 p.check.2, .int .i64 0, .bool false, .bool false, .agg (Msg.c m), .int .i64 0, .bool false, .bool false, .bool false, pT gm 0, .int .i64 m.k, .bool false, .bool false, .bool false, pT go 0, .int .i64 m.a.v, .int .i64 n, .bool false, .bool false, pT gm 11, .int .i64 m.pf, .bool false, ud, ud, ud, ud, ud, ud, ud, ud, ud, ud, ud, ud, ud, ud, ud, ud, ud, ud, ud, ud, ud, ud, ud, ud, ud, ud, ud, ud, ud, ud, ud, ud, ud, ud, ud, ud, ud, ud, ud, ud, ud, ud, ud, ud, ud, ud, ud, ud, ud, ud, ud, ud, ud, ud, ud, ud, ud, ud, ud, ud, ud, ud, ud, ud, ud, ud, ud, .tuple #[.int .i64 h, .int .i64 0], .agg (p.cells), pT gm 12, pT gm 14, .int .i64 m.a.t, pT gm 48, pT gm 50, .int .i64 m.b.t, .int .i64 (max m.a.t m.b.t), .tuple #[.int .i64 h, .int .i64 0], .int .i64 h, .int .i64 0, .tuple #[.agg (B m.a.dg).toArray, .int .i64 0], pT gm 12, .agg (Att.c m.a), .tuple #[.agg (B m.a.dg).toArray, .int .i64 0], .agg (B m.a.dg).toArray, .int .i64 0, .tuple #[.agg (B m.b.dg).toArray, .int .i64 0], pT gm 48, .agg (Att.c m.b), .tuple #[.agg (B m.b.dg).toArray, .int .i64 0], .agg (B m.b.dg).toArray, .int .i64 0, pT gm 12, pT gm 14, .int .i64 m.a.t, pT gm 48, pT gm 50, .int .i64 m.b.t, .bool false, .bool false, ud, ud, ud, .bool false, ud, ud, ud, ud, ud, ud, ud, ud, ud, ud, ud, ud, ud, ud, ud, ud, ud, ud, ud, ud, ud, ud, ud, ud, ud, ud, ud, ud, ud, ud, ud, ud, ud, ud, ud, ud, ud, ud, ud, ud, ud, ud, ud, ud, ud, ud, ud, ud, ud, ud, ud, ud, ud, ud, ud, ud, ud, ud, ud, ud, ud, ud, ud, ud, ud, ud, ud], []⟩ <| then_n <| sy_sq (qc84_0 8190) (qc84_0 8191) <| sy_reg <| rg_q 18 [0, 1, 2, 3, 4, 5, 6, 7, 8, 9, 10, 11, 12, 13, 14, 15, 16] <| pkq (pT gm 12) <| pkq (pT gm 13) <| ppq (.int .i64 m.a.s) (exec_ld 3 (.tmp 177) gm 13 Tryz.underlying3 (rc (h118) (Msg.get_n hr NF.as_))) ?_
  refine pkq (pT gm 48) <| pkq (pT gm 49) <| ppq (.int .i64 m.b.s) (exec_ld 3 (.tmp 180) gm 49 Tryz.underlying3 (rc (h118) (Msg.get_n hr NF.bs))) <| ppq (.bool true) (dct (((m.a.s) : Int) < ((m.b.s) : Int)) (by omega)) <| pkq (.bool true) <| pkq (pT gm 12) <| pkq (pT gm 14) <| ppq (.int .i64 m.a.t) (exec_ld 3 (.tmp 185) gm 14 Tryz.underlying3 (rc (h118) (Msg.get_n hr NF.at_))) <| pkq (pT gm 48) <| pkq (pT gm 50) <| ppq (.int .i64 m.b.t) (exec_ld 3 (.tmp 188) gm 50 Tryz.underlying3 (rc (h118) (Msg.get_n hr NF.bt))) <| ppq (.bool true) (dct (((m.a.t) : Int) > ((m.b.t) : Int)) (by omega)) <| pkq (.bool true) <| pkq (.bool true) ?_
  refine ps_end <| then_n <| sy_sq (qc84_0 16382) (qc84_0 16383) <| sy_reg <| rg_q 19 [0, 1, 2, 3, 4, 5, 6, 7, 8, 9, 10, 11, 12, 13, 14, 15, 16, 17, 18, 19, 20, 21, 22, 23, 24, 25, 26, 27, 28, 29, 30, 31, 32, 33, 34, 35, 36, 37, 38, 39, 40, 41, 42, 43, 44, 45, 46, 47, 48, 49, 50, 51] <| pkq (.bool true) <| pkq (.bool true) <| pkq (.int .i64 0) <| pkq (.bool true) <| pkq (.bool true) <| pkq (.bool true) <| pkq (pT gm 12) <| pkq (pT gm 12) <| ppq (.int .i64 m.a.v) (exec_ld 3 (.tmp 199) gm 12 Tryz.underlying3 (rc (h118) (Msg.get_n hr NF.av))) ?_
  refine pkq (pT gm 48) <| pkq (pT gm 48) <| ppq (.int .i64 m.b.v) (exec_ld 3 (.tmp 202) gm 48 Tryz.underlying3 (rc (h118) (Msg.get_n hr NF.bv))) <| ppq (.bool true) (eqt ((m.a.v) : Int) ((m.b.v) : Int) (by omega)) <| pkq (.bool true) <| pkq (.bool true) <| pkq (pT gm 11) <| ppq (.int .i64 m.pf) (exec_ld 3 (.tmp 207) gm 11 Tryz.underlying3 (rc (h118) (Msg.get_n hr NF.pf))) <| ppq (.bool false) (eqf ((m.pf) : Int) ((1) : Int) (by omega)) <| pkq (.bool false) <| pnq <| pkq (.bool false) <| pkq (.bool false) <| pkq (pT gm 11) ?_
  refine ppq (.int .i64 m.pf) (exec_ld 3 (.tmp 214) gm 11 Tryz.underlying3 (rc (h118) (Msg.get_n hr NF.pf))) <| ppq (.bool true) (eqt ((m.pf) : Int) ((2) : Int) (by omega)) <| pkq (.bool true) <| pkq (.bool true) <| pkq (.bool true) <| pkq (.bool true) <| pkq (.bool true) <| pkq (.bool true) <| pkq (v) <| pkq (pT gm 12) <| ppq (.agg (Att.c m.a)) (exec_load_seg 26 (.tmp 224) (by kernel_rfl) gm 12 (by kernel_rfl) (Att.c m.a).toList _ _ _ h118 (Msg.seg_A hr) Tryz.underlying26 rfl (by rw [Att.tl hr.a]; kernel_rfl)) ?_
  refine pcq 40 #[v, .agg (Att.c m.a)] Tryz.func40 ((lesigned_ok _ l m.a _ ho.a hfa h116 hlr hsa).mono ?_)
  rintro e V123 ⟨rfl, kV123⟩
  refine ⟨_, rfl, ?_⟩
  have h124 : SelsAt V123 v l := h116.keepsN kV123
  have h126 := kV123.bk h118
  have h127 := kV123.bk h119
  have K130 := K121.nn kV123
  have z131 := kV123.size
  refine pkq (.bool true) <| pkq (.bool true) <| pkq (v) <| pkq (pT gm 48) <| ppq (.agg (Att.c m.b)) (exec_load_seg 26 (.tmp 230) (by kernel_rfl) gm 48 (by kernel_rfl) (Att.c m.b).toList _ _ _ h126 (Msg.seg_B hr) Tryz.underlying26 rfl (by rw [Att.tl hr.b]; kernel_rfl)) ?_
  refine pcq 40 #[v, .agg (Att.c m.b)] Tryz.func40 ((lesigned_ok _ l m.b _ ho.b hfb h124 hlr hsb).mono ?_)
  rintro e V132 ⟨rfl, kV132⟩
  refine ⟨_, rfl, ?_⟩
  have h135 := kV132.bk h126
  have h136 := kV132.bk h127
  have K139 := K130.nn kV132
  have z140 := kV132.size
  refine pkq (.bool true) <| pkq (.bool true) <| ppq (.agg (Off.cs ⟨m.a.v, 1, h⟩)) (exec_load_row 49 (.tmp 10) (by kernel_rfl) go (by kernel_rfl) _ _ (0, 0) _ (h136) Tryz.underlying49 rfl (by kernel_rfl)) <| pkq (pT gm 12) <| pkq (pT gm 12) <| ppq (.int .i64 m.a.v) (exec_ld 3 (.tmp 237) gm 12 Tryz.underlying3 (rc (h135) (Msg.get_n hr NF.av))) <| pkq (.int .i64 h) <| pkq (.agg (Off.cs ⟨m.a.v, 1, h⟩)) <| ppq (.bool true) (exec_cast (congrArg Value.bool (by simp)) (exec_binop .eql 49 49 (.tmp 235) (.tmp 240) (by kernel_rfl) (.agg (Off.cs ⟨m.a.v, 1, h⟩)) (.agg (Off.cs ⟨m.a.v, 1, h⟩)) _ (by kernel_rfl) (by kernel_rfl) (run_eqGuard_agg _ _ _ _ _ _ _ off_guard) (off_eq _ _ _))) <| pkq (.bool true) <| pkq (.bool true) <| ps_end <| sy_a ⟨#[.agg p.cells, v, .int .i64 n, .agg (Msg.c m), pT gp 0, ud, ud, pT gm 0, .bool true, .bool true, pT go 0, .int .i64 0, .int .i64 0, .int .i64 p.check.2, ud, ud, ud, ud, .int .i64 h, .int .i64 0, pT gc 0, .int .i64 0, pT gd 0, .int .i64 0, .bool false, .bool true, .bool true, v, iN l.length, .bool false, ud, .tuple #[.agg (Off.cs ⟨m.a.v, 1, h⟩), .int .i64 0], .agg (p.cells), v, .int .i64 n, .agg (Msg.c m), .tuple #[.agg (Off.cs ⟨m.a.v, 1, h⟩), .int .i64 0], .agg (Off.cs ⟨m.a.v, 1, h⟩), .int .i64 0, .int .i64 0, .bool false, ud, ud, ud, ud, ud, ud, .tuple #[.int .i64 0, .int .i64 p.check.2], .agg (p.cells), .tuple #[.int .i64 0, .int .i64 p.check.2], .int .i64 0, .int .i64 p.check.2, .int .i64 0, .bool false, .bool false, .agg (Msg.c m), .int .i64 0, .bool false, .bool false, .bool false, pT gm 0, .int .i64 m.k, .bool false, .bool false, .bool false, pT go 0, .int .i64 m.a.v, .int .i64 n, .bool false, .bool false, pT gm 11, .int .i64 m.pf, .bool false, ud, ud, ud, ud, ud, ud, ud, ud, ud, ud, ud, ud, ud, ud, ud, ud, ud, ud, ud, ud, ud, ud, ud, ud, ud, ud, ud, ud, ud, ud, ud, ud, ud, ud, ud, ud, ud, ud, ud, ud, ud, ud, ud, ud, ud, ud, ud, ud, ud, ud, ud, ud, ud, ud, ud, ud, ud, ud, ud, ud, ud, ud, ud, ud, ud, ud, ud, .tuple #[.int .i64 h, .int .i64 0], .agg (p.cells), pT gm 12, pT gm 14, .int .i64 m.a.t, pT gm 48, pT gm 50, .int .i64 m.b.t, .int .i64 (max m.a.t m.b.t), .tuple #[.int .i64 h, .int .i64 0], .int .i64 h, .int .i64 0, .tuple #[.agg (B m.a.dg).toArray, .int .i64 0], pT gm 12, .agg (Att.c m.a), .tuple #[.agg (B m.a.dg).toArray, .int .i64 0], .agg (B m.a.dg).toArray, .int .i64 0, .tuple #[.agg (B m.b.dg).toArray, .int .i64 0], pT gm 48, .agg (Att.c m.b), .tuple #[.agg (B m.b.dg).toArray, .int .i64 0], .agg (B m.b.dg).toArray, .int .i64 0, pT gm 12, pT gm 14, .int .i64 m.a.t, pT gm 48, pT gm 50, .int .i64 m.b.t, .bool false, .bool false, ud, ud, ud, .bool false, pT gm 12, pT gm 13, .int .i64 m.a.s, pT gm 48, pT gm 49, .int .i64 m.b.s, .bool true, .bool true, pT gm 12, pT gm 14, .int .i64 m.a.t, pT gm 48, pT gm 50, .int .i64 m.b.t, .bool true, .bool true, .bool true, .bool true, .int .i64 0, .bool true, .bool true, .bool true, pT gm 12, pT gm 12, .int .i64 m.a.v, pT gm 48, pT gm 48, .int .i64 m.b.v, .bool true, .bool true, .bool true, pT gm 11, .int .i64 m.pf, .bool false, .bool false, ud, .bool false, .bool false, pT gm 11, .int .i64 m.pf, .bool true, .bool true, .bool true, .bool true, .bool true, .bool true, .bool true, v, pT gm 12, .agg (Att.c m.a), .bool true, .bool true, .bool true, v, pT gm 48, .agg (Att.c m.b), .bool true, .bool true, .bool true, .agg (Off.cs ⟨m.a.v, 1, h⟩), pT gm 12, pT gm 12, .int .i64 m.a.v, .int .i64 h, .agg (Off.cs ⟨m.a.v, 1, h⟩), .bool true, .bool true], []⟩ <| then_n ?_
  refine sy_ret (by kernel_rfl) <| sy_out (.bool true) rfl (by kernel_rfl) ?_
  exact ⟨rfl, K139⟩
theorem evidenceSound_ok (p : Par) (hp : p.Ok) (v : Value) (l : List Sel) (n : Int) (_ : i64b n) (m : Msg) (w : World) (hsl : SelsAt w v l ∧ ∀ y ∈ l, y.r.length = 32) (ho : m.Ok) : Calls Tryz.prog 7 #[.agg p.cells, v, .int .i64 n, .agg (Msg.c m)] w fun e w' => e = .returned (.bool true) ∧ Keeps Nob w w' := by
  obtain ⟨hl, hlr⟩ := hsl
  by_cases hlen : 60 < l.length
  · exact sound_long p v l n m w hp ho hl hlr hlen
  by_cases hx : (jud p l n m).2 = 0
  · have hj : jud p l n m = ((jud p l n m).1, 0) := by rw [← hx]
    obtain ⟨hof, hn, hs⟩ := jud_0 hj
    generalize (jud p l n m).1 = o at hj hof hn
    obtain ⟨hc, hch, hk, hcl, ⟨hpf, rfl⟩ | ⟨hpf, hfi, ho1⟩⟩ := off_0 hof
    · have h3 : doubP m.p m.q = true := by have h := hcl; unfold Msg.cla at h; rwa [if_neg (by omega), if_neg (by omega)] at h
      obtain ⟨hfp, hfq, hv, hh, hd⟩ := of_decide_eq_true h3
      have hsl : m.sls = [m.p.sel, m.q.sel] := if_pos hpf
      rw [hsl] at hs
      have h1 := hs _ List.mem_cons_self; have h2 := hs m.q.sel (List.mem_cons_of_mem _ List.mem_cons_self)
      rw [Pro.sel_ok hfp] at h1; rw [Pro.sel_ok hfq, ← hv] at h2
      exact sound_P p v l n m w hp ho hl hlr hlen hj hn hpf hc hch hk hfp hfq hv hh (by rw [Pro.dg, Pro.dg, if_pos hfp, if_pos hfq]; exact hd) h1 h2
    · have hsl : m.sls = [m.a.sel, m.b.sel] := if_neg (by omega)
      rw [hsl] at hs
      have h1 := hs _ List.mem_cons_self; have h2 := hs m.b.sel (List.mem_cons_of_mem _ List.mem_cons_self)
      rw [ho1] at hj hn
      rcases hpf with hpf | hpf
      · have h3 : doub m.a m.b = true := by have h := hcl; unfold Msg.cla at h; rwa [if_pos hpf] at h
        obtain ⟨hfa, hfb, hv, ht, hd⟩ := of_decide_eq_true h3
        rw [Att.sel_ok hfa] at h1; rw [Att.sel_ok hfb] at h2
        exact sound_D p v l n m w hp ho hl hlr o.h hlen hj hn hpf hfi hc hch hk hfa hfb hv ht (by rw [Att.dg, Att.dg, if_pos hfa, if_pos hfb]; exact hd) h1 h2
      · have h3 : surr m.a m.b = true := by have h := hcl; unfold Msg.cla at h; rwa [if_neg (by omega), if_pos hpf] at h
        obtain ⟨hfa, hfb, hv, hss, ht⟩ := of_decide_eq_true h3
        rw [Att.sel_ok hfa] at h1; rw [Att.sel_ok hfb] at h2
        exact sound_S p v l n m w hp ho hl hlr o.h hlen hj hn hpf hfi hc hch hk hfa hfb hv hss ht h1 h2
  · exact sound_bad p v l n m w hp ho hl hlr _ hlen (jud_bad hx) hx
end Go.Proofs.YtcbfnflnokoacaaGreat
namespace Go.Proofs.YtcbfnflnokoacaaGreat
set_option maxRecDepth 100000
set_option maxHeartbeats 4000000
open Go Go.RowKit Go.Own Go.ChangeShapes Go.WideShapes Go.ChangeAt Go.WideElems
theorem hash_cells {H : Type} {enc : TypeId × Value → H} {W : World} {sp : Nat → Bool} {held : Bool} {n off : Nat} {cs : List Value} {y : Option (DataW H × List MemPlace)} {z : DataW H × List MemPlace} (h : DataW.trod enc Tryz.prog W 0 sp held n 23 ((cs.drop off).take (Tryz.prog.cellsOf 23)) = y) (hy : y = some z) :
    ∃ l : List UInt8, l.length = 32 ∧ (cs.drop off).take 32 = B l := by
  subst hy
  have hh : Tryz.prog.cellsOf 23 = 32 := by kernel_rfl
  rw [hh] at h
  generalize (cs.drop off).take 32 = c at *
  obtain ⟨xs, m, _, _, hc, hxl, hel⟩ := DataW.trod_array Tryz.underlying23 h
  have hC : Tryz.prog.cellsOf 5 = 1 := by kernel_rfl
  rw [hC] at hel
  obtain ⟨l, hl, hq⟩ := list_of (fun i (x : UInt8) => c[i]? = some (.int .u8 (x.toNat : Int))) 32 (fun i hlt => by
    have h1 := hel i hlt
    rw [List.getElem?_eq_getElem (show i < xs.length by omega)] at h1
    obtain ⟨q, e1, _, e3⟩ := DataW.trod_int Tryz.underlying5 h1
    obtain ⟨x, rfl⟩ := u8_nat e3
    refine ⟨x, ?_⟩
    have h2 : ((c.drop (i * 1)).take 1)[0]? = some (.int .u8 (x.toNat : Int)) := by rw [e1]; rfl
    rw [List.getElem?_take_of_lt (by omega), List.getElem?_drop] at h2
    simpa using h2)
  refine ⟨l, hl, List.ext_getElem? fun i => ?_⟩
  by_cases hi : i < 32
  · obtain ⟨x, hx⟩ : ∃ x, l[i]? = some x := ⟨_, List.getElem?_eq_getElem (by omega)⟩
    rw [hq i x hx, B_get _ _ _ hx]
  · have h32 : c.length = 32 := by rw [hc, hh]
    rw [List.getElem?_eq_none (by omega), List.getElem?_eq_none (by rw [B_length]; omega)]
theorem att_cells {H : Type} {enc : TypeId × Value → H} {W : World} {sp : Nat → Bool} {held : Bool} {n : Nat} {cs : List Value} {z : DataW H × List MemPlace} (h : DataW.trod enc Tryz.prog W 0 sp held n 26 cs = some z) (hl : cs.length = 36) : ∃ a : Att, cs = a.c.toList ∧ a.Ok := by
  have hi : Tryz.prog.cellsOf 3 = 1 := by kernel_rfl
  have hu : Tryz.prog.cellsOf 24 = 1 := by kernel_rfl
  obtain ⟨xs, n', _, _, _, hxl, hf⟩ := DataW.trod_struct Tryz.underlying26 h
  obtain ⟨q0, e0, f0⟩ := field_int Tryz.underlying3 hi (hf 0 _ rfl) (List.getElem?_eq_getElem (by rw [hxl]; decide))
  obtain ⟨q1, e1, f1⟩ := field_int Tryz.underlying3 hi (hf 1 _ rfl) (List.getElem?_eq_getElem (by rw [hxl]; decide))
  obtain ⟨q2, e2, f2⟩ := field_int Tryz.underlying3 hi (hf 2 _ rfl) (List.getElem?_eq_getElem (by rw [hxl]; decide))
  obtain ⟨r, hr, er⟩ := hash_cells (off := 3) (hf 3 _ rfl) (List.getElem?_eq_getElem (by rw [hxl]; decide))
  obtain ⟨q4, e4, f4⟩ := field_int Tryz.underlying24 hu (hf 4 _ rfl) (List.getElem?_eq_getElem (by rw [hxl]; decide))
  obtain ⟨g, hg, rfl⟩ := u64_nat f4
  refine ⟨⟨q0, q1, q2, r, g⟩, ?_, ⟨bounds_i64 f0, bounds_i64 f1, bounds_i64 f2, hr, hg⟩⟩
  match cs, hl, e0, e1, e2, er, e4 with
  | a :: b :: c :: r', hl, e0, e1, e2, er, e4 =>
    have e0 : some a = some (Value.int .i64 q0) := e0
    cases e0
    have e1 : some b = some (Value.int .i64 q1) := e1
    have e2 : some c = some (Value.int .i64 q2) := e2
    cases e1; cases e2
    have e4 : r'[32]? = some (Value.int .u64 (g : Int)) := e4
    have er : r'.take 32 = B r := er
    have hl : r'.length = 33 := by simpa using hl
    simp only [Att.c, List.cons.injEq, true_and]
    rw [← er]
    conv => lhs; rw [← List.take_append_drop 32 r']
    congr 1
    rw [List.drop_eq_getElem_cons (by omega), List.drop_of_length_le (by omega)]
    rw [List.getElem?_eq_getElem (by omega)] at e4
    rw [Option.some.inj e4]
theorem pro_cells {H : Type} {enc : TypeId × Value → H} {W : World} {sp : Nat → Bool} {held : Bool} {n : Nat} {cs : List Value} {z : DataW H × List MemPlace} (h : DataW.trod enc Tryz.prog W 0 sp held n 28 cs = some z) (hl : cs.length = 35) : ∃ a : Pro, cs = a.c.toList ∧ a.Ok := by
  have hi : Tryz.prog.cellsOf 3 = 1 := by kernel_rfl
  have hu : Tryz.prog.cellsOf 24 = 1 := by kernel_rfl
  obtain ⟨xs, n', _, _, _, hxl, hf⟩ := DataW.trod_struct Tryz.underlying28 h
  obtain ⟨q0, e0, f0⟩ := field_int Tryz.underlying3 hi (hf 0 _ rfl) (List.getElem?_eq_getElem (by rw [hxl]; decide))
  obtain ⟨q1, e1, f1⟩ := field_int Tryz.underlying3 hi (hf 1 _ rfl) (List.getElem?_eq_getElem (by rw [hxl]; decide))
  obtain ⟨r, hr, er⟩ := hash_cells (off := 2) (hf 2 _ rfl) (List.getElem?_eq_getElem (by rw [hxl]; decide))
  obtain ⟨q4, e4, f4⟩ := field_int Tryz.underlying24 hu (hf 3 _ rfl) (List.getElem?_eq_getElem (by rw [hxl]; decide))
  obtain ⟨g, hg, rfl⟩ := u64_nat f4
  refine ⟨⟨q0, q1, r, g⟩, ?_, ⟨bounds_i64 f0, bounds_i64 f1, hr, hg⟩⟩
  match cs, hl, e0, e1, er, e4 with
  | a :: b :: r', hl, e0, e1, er, e4 =>
    have e0 : some a = some (Value.int .i64 q0) := e0
    cases e0
    have e1 : some b = some (Value.int .i64 q1) := e1
    cases e1
    have e4 : r'[32]? = some (Value.int .u64 (g : Int)) := e4
    have er : r'.take 32 = B r := er
    have hl : r'.length = 33 := by simpa using hl
    simp only [Pro.c, List.cons.injEq, true_and]
    rw [← er]
    conv => lhs; rw [← List.take_append_drop 32 r']
    congr 1
    rw [List.drop_eq_getElem_cons (by omega), List.drop_of_length_le (by omega)]
    rw [List.getElem?_eq_getElem (by omega)] at e4
    rw [Option.some.inj e4]
end Go.Proofs.YtcbfnflnokoacaaGreat
namespace Go.Proofs.YtcbfnflnokoacaaGreat
set_option maxRecDepth 100000
set_option maxHeartbeats 4000000
open Go Go.RowKit Go.Own Go.ChangeShapes Go.WideShapes Go.ChangeAt Go.WideElems
theorem sel_cells {H : Type} {enc : TypeId × Value → H} {W : World} {sp : Nat → Bool} {held : Bool} {n : Nat} {cs : List Value} {z : DataW H × List MemPlace} (h : DataW.trod enc Tryz.prog W 0 sp held n 30 cs = some z) (hl : cs.length = 34) : ∃ x : Sel, cs = x.cl ∧ x.Ok := by
  have hi : Tryz.prog.cellsOf 3 = 1 := by kernel_rfl
  have hu : Tryz.prog.cellsOf 24 = 1 := by kernel_rfl
  obtain ⟨xs, n', _, _, _, hxl, hf⟩ := DataW.trod_struct Tryz.underlying30 h
  obtain ⟨q0, e0, f0⟩ := field_int Tryz.underlying3 hi (hf 0 _ rfl) (List.getElem?_eq_getElem (by rw [hxl]; decide))
  obtain ⟨r, hr, er⟩ := hash_cells (off := 1) (hf 1 _ rfl) (List.getElem?_eq_getElem (by rw [hxl]; decide))
  obtain ⟨q4, e4, f4⟩ := field_int Tryz.underlying24 hu (hf 2 _ rfl) (List.getElem?_eq_getElem (by rw [hxl]; decide))
  obtain ⟨g, hg, rfl⟩ := u64_nat f4
  refine ⟨⟨q0, r, g⟩, ?_, ⟨bounds_i64 f0, hr, hg⟩⟩
  match cs, hl, e0, er, e4 with
  | c0 :: r', hl, e0, er, e4 =>
    have e0 : some c0 = some (Value.int .i64 q0) := e0
    cases e0
    have er : r'.take 32 = B r := er
    have e4 : r'[32]? = some (.int .u64 ((g : Nat) : Int)) := e4
    have hl : r'.length = 33 := by simpa using hl
    show _ :: r' = _ :: (B r ++ [_])
    congr 1
    rw [← er]
    conv => lhs; rw [← List.take_append_drop 32 r']
    congr 1
    apply List.ext_getElem?
    intro i
    rw [List.getElem?_drop]
    match i with
    | 0 => exact e4
    | i + 1 => rw [List.getElem?_eq_none (by omega), List.getElem?_eq_none (by simp)]
theorem open_sels {H : Type} {enc : TypeId × Value → H} {W : World} {sp : Nat → Bool} {held : Bool} {v : Value} {d : DataW H} {ps : List MemPlace} (h : DataW.Trod enc Tryz.prog W 0 sp held 46 v d ps) (hv : ∃ a len cap, v = .slice a len cap) : ∃ l : List Sel, SelsAt W v l ∧ ∀ x ∈ l, x.r.length = 32 := by
  have hC : Tryz.prog.cellsOf 30 = 34 := by kernel_rfl
  obtain ⟨a, len, cap, rfl, hl, hm, hnz, hi⟩ := open_elemsN Tryz.underlying46 (by rw [hC]; omega) h hv
  rw [hC] at hi
  obtain ⟨l, hll, hq⟩ := list_of (fun i (x : Sel) => x.Ok ∧ ∃ b o, a = some ⟨b, o, none⟩ ∧ ∀ (j : Nat) (u : Value), x.cl[j]? = some u → W.cell? ⟨b, o + i * 34 + j, none⟩ = some u) len (fun i hlt => by
    obtain ⟨b, o, cs, n, y, ha, hcl, hcell, ht⟩ := hi i hlt
    obtain ⟨x, rfl, hok⟩ := sel_cells ht hcl
    exact ⟨x, hok, b, o, ha, fun j u hj => (hcell j (by have := (List.getElem?_eq_some_iff.1 hj).1; omega)).trans hj⟩)
  subst hll
  refine ⟨l, ⟨⟨a, cap, rfl, hl, hm, hnz⟩, fun k x hk => ?_⟩, fun x hx => ?_⟩
  · obtain ⟨hok, b, o, rfl, hc⟩ := hq k x hk
    exact ⟨b, o, cap, rfl, World.block_lt_of_cell? W _ (hc 0 (.int .i64 x.v) rfl), hc⟩
  · obtain ⟨k, hk⟩ := List.getElem?_of_mem hx
    exact (hq k x hk).1.r
end Go.Proofs.YtcbfnflnokoacaaGreat
namespace Go.Proofs.YtcbfnflnokoacaaGreat
set_option maxRecDepth 100000
set_option maxHeartbeats 4000000
open Go Go.RowKit Go.Own Go.ChangeShapes Go.WideShapes Go.ChangeAt Go.WideElems
section
variable {H : Type} {enc : TypeId × Value → H} {W : World} {sp : Nat → Bool} {held : Bool} {n off : Nat} {cs : List Value} {y : Option (DataW H × List MemPlace)} {z : DataW H × List MemPlace}
theorem sub_att (h : DataW.trod enc Tryz.prog W 0 sp held n 26 ((cs.drop off).take (Tryz.prog.cellsOf 26)) = y) (hy : y = some z) (hl : off + 36 ≤ cs.length) : ∃ a : Att, (cs.drop off).take 36 = a.c.toList ∧ a.Ok := by
  subst hy
  have hh : Tryz.prog.cellsOf 26 = 36 := by kernel_rfl
  rw [hh] at h
  exact att_cells h (by rw [List.length_take, List.length_drop]; omega)
theorem sub_pro (h : DataW.trod enc Tryz.prog W 0 sp held n 28 ((cs.drop off).take (Tryz.prog.cellsOf 28)) = y) (hy : y = some z) (hl : off + 35 ≤ cs.length) : ∃ a : Pro, (cs.drop off).take 35 = a.c.toList ∧ a.Ok := by
  subst hy
  have hh : Tryz.prog.cellsOf 28 = 35 := by kernel_rfl
  rw [hh] at h
  exact pro_cells h (by rw [List.length_take, List.length_drop]; omega)
theorem of_take {off k j : Nat} {v : Value} (h : ((cs.drop off).take k)[j]? = some v) : cs[off + j]? = some v := by
  rw [List.getElem?_take] at h
  split at h
  · rwa [List.getElem?_drop] at h
  · cases h
theorem sub_stamp (h : DataW.trod enc Tryz.prog W 0 sp held n 36 ((cs.drop off).take (Tryz.prog.cellsOf 36)) = y) (hy : y = some z) :
    ∃ a b c d : Int, (cs[off]? = some (.int .i64 a) ∧ cs[off + 1]? = some (.int .i64 b) ∧ cs[off + 2]? = some (.int .i64 c) ∧ cs[off + 3]? = some (.int .i64 d)) ∧ i64b a ∧ i64b b ∧ i64b c ∧ i64b d := by
  subst hy
  have hh : Tryz.prog.cellsOf 36 = 4 := by kernel_rfl
  have hi : Tryz.prog.cellsOf 3 = 1 := by kernel_rfl
  rw [hh] at h
  obtain ⟨xs, n', _, _, _, hxl, hf⟩ := DataW.trod_struct Tryz.underlying36 h
  obtain ⟨q0, e0, f0⟩ := field_int Tryz.underlying3 hi (hf 0 _ rfl) (List.getElem?_eq_getElem (by rw [hxl]; decide))
  obtain ⟨q1, e1, f1⟩ := field_int Tryz.underlying3 hi (hf 1 _ rfl) (List.getElem?_eq_getElem (by rw [hxl]; decide))
  obtain ⟨q2, e2, f2⟩ := field_int Tryz.underlying3 hi (hf 2 _ rfl) (List.getElem?_eq_getElem (by rw [hxl]; decide))
  obtain ⟨q3, e3, f3⟩ := field_int Tryz.underlying3 hi (hf 3 _ rfl) (List.getElem?_eq_getElem (by rw [hxl]; decide))
  exact ⟨q0, q1, q2, q3, ⟨of_take (j := 0) e0, of_take (j := 1) e1, of_take (j := 2) e2, of_take (j := 3) e3⟩, bounds_i64 f0, bounds_i64 f1, bounds_i64 f2, bounds_i64 f3⟩
theorem drop_split (cs : List Value) (a k : Nat) : cs.drop a = (cs.drop a).take k ++ cs.drop (a + k) := by rw [← List.drop_drop, List.take_append_drop]
theorem msg_cells (h : DataW.trod enc Tryz.prog W 0 sp held n 38 cs = some z) (hl : cs.length = 154) : ∃ m : Msg, cs = m.c.toList ∧ m.Ok := by
  have hi : Tryz.prog.cellsOf 3 = 1 := by kernel_rfl
  have hu : Tryz.prog.cellsOf 24 = 1 := by kernel_rfl
  obtain ⟨xs, n', _, _, _, hxl, hf⟩ := DataW.trod_struct Tryz.underlying38 h
  obtain ⟨q0, e0, f0⟩ := field_int Tryz.underlying3 hi (hf 0 _ rfl) (List.getElem?_eq_getElem (by rw [hxl]; decide))
  obtain ⟨q1, e1, f1⟩ := field_int Tryz.underlying3 hi (hf 1 _ rfl) (List.getElem?_eq_getElem (by rw [hxl]; decide))
  obtain ⟨q2, e2, f2⟩ := field_int Tryz.underlying3 hi (hf 2 _ rfl) (List.getElem?_eq_getElem (by rw [hxl]; decide))
  obtain ⟨q3, e3, f3⟩ := field_int Tryz.underlying3 hi (hf 3 _ rfl) (List.getElem?_eq_getElem (by rw [hxl]; decide))
  obtain ⟨q4, e4, f4⟩ := field_int Tryz.underlying24 hu (hf 4 _ rfl) (List.getElem?_eq_getElem (by rw [hxl]; decide))
  obtain ⟨q5, e5, f5⟩ := field_int Tryz.underlying24 hu (hf 5 _ rfl) (List.getElem?_eq_getElem (by rw [hxl]; decide))
  obtain ⟨sv, ss, sp', sf, ⟨s0, s1, s2, s3⟩, b0, b1, b2, b3⟩ := sub_stamp (off := 6) (hf 6 _ rfl) (List.getElem?_eq_getElem (by rw [hxl]; decide))
  obtain ⟨q7, e7, f7⟩ := field_int Tryz.underlying3 hi (hf 7 _ rfl) (List.getElem?_eq_getElem (by rw [hxl]; decide))
  obtain ⟨q8, e8, f8⟩ := field_int Tryz.underlying3 hi (hf 8 _ rfl) (List.getElem?_eq_getElem (by rw [hxl]; decide))
  obtain ⟨va, ea, ha⟩ := sub_att (off := 12) (hf 9 _ rfl) (List.getElem?_eq_getElem (by rw [hxl]; decide)) (by omega)
  obtain ⟨vb, eb, hb⟩ := sub_att (off := 48) (hf 10 _ rfl) (List.getElem?_eq_getElem (by rw [hxl]; decide)) (by omega)
  obtain ⟨vp, ep, hp⟩ := sub_pro (off := 84) (hf 11 _ rfl) (List.getElem?_eq_getElem (by rw [hxl]; decide)) (by omega)
  obtain ⟨vq, eq, hq⟩ := sub_pro (off := 119) (hf 12 _ rfl) (List.getElem?_eq_getElem (by rw [hxl]; decide)) (by omega)
  obtain ⟨g4, hg4, rfl⟩ := u64_nat f4
  obtain ⟨g5, hg5, rfl⟩ := u64_nat f5
  refine ⟨⟨q0, q1, q2, q3, g4, g5, sv, ss, sp', sf, q7, q8, va, vb, vp, vq⟩, ?_, ⟨bounds_i64 f0, bounds_i64 f1, bounds_i64 f2, bounds_i64 f3, hg4, hg5, b0, b1, b2, b3, bounds_i64 f7, bounds_i64 f8, ha, hb, hp, hq⟩⟩
  have hhd : cs.take 12 = Msg.hd ⟨q0, q1, q2, q3, g4, g5, sv, ss, sp', sf, q7, q8, va, vb, vp, vq⟩ := by
    apply List.ext_getElem?
    intro i
    by_cases h12 : i < 12
    · rw [List.getElem?_take_of_lt h12]
      match i, h12 with
      | 0, _ => exact e0
      | 1, _ => exact e1
      | 2, _ => exact e2
      | 3, _ => exact e3
      | 4, _ => exact e4
      | 5, _ => exact e5
      | 6, _ => exact s0
      | 7, _ => exact s1
      | 8, _ => exact s2
      | 9, _ => exact s3
      | 10, _ => exact e7
      | 11, _ => exact e8
    · rw [List.getElem?_eq_none (by rw [List.length_take]; omega), List.getElem?_eq_none (by rw [Msg.hd_len]; omega)]
  show cs = Msg.cl _
  rw [Msg.cl_a, ← hhd, ← ea, ← eb, ← ep, ← eq]
  conv => lhs; rw [← List.take_append_drop 12 cs]
  congr 1
  conv => lhs; rw [drop_split cs 12 36, drop_split cs 48 36, drop_split cs 84 35]
  congr 1; congr 1; congr 1
  rw [List.take_of_length_le (by rw [List.length_drop]; omega)]
theorem open_msg {v : Value} {d : DataW H} {ps : List MemPlace} {R : Reach} {base : Nat} (h : DataW.Trod enc Tryz.prog W 0 sp held 38 v d ps) (hv : Value.okWide Tryz.prog W R base 38 v) : ∃ m : Msg, v = .agg m.c ∧ m.Ok := by
  obtain ⟨cs, rfl, hsz⟩ := okWide_struct Tryz.underlying38 hv
  have hC : Tryz.prog.cellsOf 38 = 154 := by kernel_rfl
  rw [hC] at hsz
  obtain ⟨fuel, ht⟩ := h
  have ht : DataW.trod enc Tryz.prog W 0 sp held fuel 38 cs.toList = some (d, ps) := ht
  obtain ⟨a, ha, hok⟩ := msg_cells ht (by simpa using hsz)
  exact ⟨a, congrArg Value.agg (Array.toList_inj.1 ha), hok⟩
end
end Go.Proofs.YtcbfnflnokoacaaGreat
namespace Go.Proofs.YtcbfnflnokoacaaGreat
set_option maxRecDepth 100000
open Go Go.RowKit Go.Own Go.ChangeShapes Go.WideShapes Go.ChangeAt Go.WideElems
theorem open_params {H : Type} {enc : TypeId × Value → H} {W : World} {sp : Nat → Bool} {held : Bool} {v : Value} {d : DataW H} {ps : List MemPlace} {R : Reach} {base : Nat} (h : DataW.Trod enc Tryz.prog W 0 sp held 45 v d ps) (hv : Value.okWide Tryz.prog W R base 45 v) :
    ∃ p : Par, v = p.v ∧ p.Ok := by
  obtain ⟨cs, rfl, hsz⟩ := okWide_struct Tryz.underlying45 hv
  have hC : Tryz.prog.cellsOf 45 = 11 := by kernel_rfl
  have hi : Tryz.prog.cellsOf 3 = 1 := by kernel_rfl
  have hu : Tryz.prog.cellsOf 24 = 1 := by kernel_rfl
  rw [hC] at hsz
  obtain ⟨fuel, ht⟩ := h
  have ht : DataW.trod enc Tryz.prog W 0 sp held fuel 45 cs.toList = some (d, ps) := ht
  obtain ⟨xs, n', _, _, _, hxl, hf⟩ := DataW.trod_struct Tryz.underlying45 ht
  obtain ⟨q0, e0, f0⟩ := field_int Tryz.underlying3 hi (hf 0 _ rfl) (List.getElem?_eq_getElem (by rw [hxl]; decide))
  obtain ⟨q1, e1, f1⟩ := field_int Tryz.underlying3 hi (hf 1 _ rfl) (List.getElem?_eq_getElem (by rw [hxl]; decide))
  obtain ⟨q2, e2, f2⟩ := field_int Tryz.underlying3 hi (hf 2 _ rfl) (List.getElem?_eq_getElem (by rw [hxl]; decide))
  obtain ⟨q3, e3, f3⟩ := field_int Tryz.underlying3 hi (hf 3 _ rfl) (List.getElem?_eq_getElem (by rw [hxl]; decide))
  obtain ⟨q4, e4, f4⟩ := field_int Tryz.underlying3 hi (hf 4 _ rfl) (List.getElem?_eq_getElem (by rw [hxl]; decide))
  obtain ⟨q5, e5, f5⟩ := field_int Tryz.underlying3 hi (hf 5 _ rfl) (List.getElem?_eq_getElem (by rw [hxl]; decide))
  obtain ⟨q6, e6, f6⟩ := field_int Tryz.underlying3 hi (hf 6 _ rfl) (List.getElem?_eq_getElem (by rw [hxl]; decide))
  obtain ⟨q7, e7, f7⟩ := field_int Tryz.underlying24 hu (hf 7 _ rfl) (List.getElem?_eq_getElem (by rw [hxl]; decide))
  obtain ⟨q8, e8, f8⟩ := field_int Tryz.underlying24 hu (hf 8 _ rfl) (List.getElem?_eq_getElem (by rw [hxl]; decide))
  obtain ⟨q9, e9, f9⟩ := field_int Tryz.underlying3 hi (hf 9 _ rfl) (List.getElem?_eq_getElem (by rw [hxl]; decide))
  obtain ⟨q10, e10, f10⟩ := field_int Tryz.underlying24 hu (hf 10 _ rfl) (List.getElem?_eq_getElem (by rw [hxl]; decide))
  have ui : ∀ {a : Int}, (Lit.int .i64 a).wf = true → i64ok a := fun h => bounds_i64 h
  have uu : ∀ {a : Int}, (Lit.int .u64 a).wf = true → u64ok a := fun h => by
    obtain ⟨n, h1, rfl⟩ := u64_nat h
    unfold u64ok; omega
  refine ⟨⟨q0, q1, q2, q3, q4, q5, q6, q7, q8, q9, q10⟩, ?_, ⟨ui f0, ui f1, ui f2, ui f3, ui f4, ui f5, ui f6, uu f7, uu f8, ui f9, uu f10⟩⟩
  have : cs = #[.int .i64 q0, .int .i64 q1, .int .i64 q2, .int .i64 q3, .int .i64 q4, .int .i64 q5, .int .i64 q6, .int .u64 q7, .int .u64 q8, .int .i64 q9, .int .u64 q10] := by
    apply Array.ext_getElem?
    intro i
    by_cases hlt : i < 11
    · have h' : i = 0 ∨ i = 1 ∨ i = 2 ∨ i = 3 ∨ i = 4 ∨ i = 5 ∨ i = 6 ∨ i = 7 ∨ i = 8 ∨ i = 9 ∨ i = 10 := by omega
      have tl : ∀ j : Nat, cs[j]? = cs.toList[j]? := fun j => by simp
      rw [tl]
      rcases h' with rfl | rfl | rfl | rfl | rfl | rfl | rfl | rfl | rfl | rfl | rfl <;> assumption
    · rw [Array.getElem?_eq_none (by omega), Array.getElem?_eq_none (by simp; omega)]
  rw [this]; rfl
end Go.Proofs.YtcbfnflnokoacaaGreat
namespace Go.Proofs.YtcbfnflnokoacaaGreat.evidenceSound
open Go.ChangeShapes Go.WideShapes Go.ChangeAt Go.RowKit Go.Own
open Go.ChangeMaps (open_string shut_string)
theorem own : ownKnob Tryz.prog.godebug = none := by kernel_rfl
theorem laid : laidOutB Tryz.prog = true := by kernel_rfl
set_option maxRecDepth 100000 in
theorem lifted (os : Os) (started : os.Started) (H : Type) (enc : TypeId × Value → H) :
    ReturnsInHanded {} Tryz.checked os 7 .any (Rows.evidenceSoundSpec.pre6 enc Tryz.prog Tryz.f7 Rows.evidenceSoundRow.domain false) (Rows.evidenceSoundSpec.post enc Tryz.prog Tryz.f7 false true false false) := by
  refine returnsInHanded_of_change (C := Tryz.checked) own started (by kernel_rfl) Tryz.func7
    (ChangeSpec.witness6 (enc := enc) (C := Tryz.checked) false ⟨#[], #[.agg #[.int .i64 0, .int .i64 0, .int .i64 0, .int .i64 0, .int .i64 0, .int .i64 0, .int .i64 0, .int .u64 0, .int .u64 0, .int .i64 0, .int .u64 0], .slice none 0 0, .int .i64 0, .agg #[.int .i64 0, .int .i64 0, .int .i64 0, .int .i64 0, .int .u64 0, .int .u64 0, .int .i64 0, .int .i64 0, .int .i64 0, .int .i64 0, .int .i64 0, .int .i64 0, .int .i64 0, .int .i64 0, .int .i64 0, .int .u8 0, .int .u8 0, .int .u8 0, .int .u8 0, .int .u8 0, .int .u8 0, .int .u8 0, .int .u8 0, .int .u8 0, .int .u8 0, .int .u8 0, .int .u8 0, .int .u8 0, .int .u8 0, .int .u8 0, .int .u8 0, .int .u8 0, .int .u8 0, .int .u8 0, .int .u8 0, .int .u8 0, .int .u8 0, .int .u8 0, .int .u8 0, .int .u8 0, .int .u8 0, .int .u8 0, .int .u8 0, .int .u8 0, .int .u8 0, .int .u8 0, .int .u8 0, .int .u64 0, .int .i64 0, .int .i64 0, .int .i64 0, .int .u8 0, .int .u8 0, .int .u8 0, .int .u8 0, .int .u8 0, .int .u8 0, .int .u8 0, .int .u8 0, .int .u8 0, .int .u8 0, .int .u8 0, .int .u8 0, .int .u8 0, .int .u8 0, .int .u8 0, .int .u8 0, .int .u8 0, .int .u8 0, .int .u8 0, .int .u8 0, .int .u8 0, .int .u8 0, .int .u8 0, .int .u8 0, .int .u8 0, .int .u8 0, .int .u8 0, .int .u8 0, .int .u8 0, .int .u8 0, .int .u8 0, .int .u8 0, .int .u64 0, .int .i64 0, .int .i64 0, .int .u8 0, .int .u8 0, .int .u8 0, .int .u8 0, .int .u8 0, .int .u8 0, .int .u8 0, .int .u8 0, .int .u8 0, .int .u8 0, .int .u8 0, .int .u8 0, .int .u8 0, .int .u8 0, .int .u8 0, .int .u8 0, .int .u8 0, .int .u8 0, .int .u8 0, .int .u8 0, .int .u8 0, .int .u8 0, .int .u8 0, .int .u8 0, .int .u8 0, .int .u8 0, .int .u8 0, .int .u8 0, .int .u8 0, .int .u8 0, .int .u8 0, .int .u8 0, .int .u64 0, .int .i64 0, .int .i64 0, .int .u8 0, .int .u8 0, .int .u8 0, .int .u8 0, .int .u8 0, .int .u8 0, .int .u8 0, .int .u8 0, .int .u8 0, .int .u8 0, .int .u8 0, .int .u8 0, .int .u8 0, .int .u8 0, .int .u8 0, .int .u8 0, .int .u8 0, .int .u8 0, .int .u8 0, .int .u8 0, .int .u8 0, .int .u8 0, .int .u8 0, .int .u8 0, .int .u8 0, .int .u8 0, .int .u8 0, .int .u8 0, .int .u8 0, .int .u8 0, .int .u8 0, .int .u8 0, .int .u64 0]], []⟩ 8 (by kernel_rfl) (by kernel_rfl) (by kernel_rfl) (by kernel_rfl)) ?_
  intro W base args ds gs before hval0 hW hcnd _
  have hval : ∀ (j : Nat) t v, Tryz.f7.params[j]? = some t → args[j]? = some v → Value.okWide Tryz.prog W .any base t v := hval0
  have hW' := hW
  obtain ⟨p, q, hA0, hV, rfl, hfz, hnd⟩ := hW
  have hA : DataW.TrodAll enc Tryz.prog W 0 (fun _ => true) true Tryz.f7.params.toList args.toList ds p := hA0
  rw [Tryz.params7] at hA hval
  obtain ⟨v0, vs0, d0, ds0, p0, q0, hargs, rfl, rfl, h0, r0⟩ := trodAll_cons hA
  obtain ⟨v1, vs1, d1, ds1, p1, q1, rfl, rfl, rfl, h1, r1⟩ := trodAll_cons r0
  obtain ⟨v2, vs2, d2, ds2, p2, q2, rfl, rfl, rfl, h2, r2⟩ := trodAll_cons r1
  obtain ⟨v3, vs3, d3, ds3, p3, q3, rfl, rfl, rfl, h3, r3⟩ := trodAll_cons r2
  obtain ⟨rfl, rfl, rfl⟩ := trodAll_nil r3
  obtain rfl : args = #[v0, v1, v2, v3] := by cases args; simp_all
  obtain ⟨rfl, rfl⟩ := trodVars_none hV
  obtain ⟨p0, rfl, hp0⟩ := open_params h0 (hval 0 45 v0 rfl rfl)
  obtain ⟨l1, hl1⟩ := open_sels h1 (okWide_slice Tryz.underlying46 (hval 1 46 v1 rfl rfl))
  obtain ⟨a2, rfl, rfl, rfl, w2⟩ := open_int Tryz.underlying3 (hval 2 3 v2 rfl rfl) h2
  obtain ⟨x3, rfl, hm3⟩ := open_msg h3 (hval 3 38 v3 rfl rfl)
  clear hA0 hval0
  refine (evidenceSound_ok p0 hp0 v1 l1 a2 (bounds_i64 w2) x3 W hl1 hm3).mono fun e W' ⟨he, hg⟩ => ?_
  subst he
  exact ⟨_, rfl, law_post laid (by kernel_rfl) rfl Tryz.underlying4 rfl rfl hW' (hg.below (Nat.le_refl _) (fun _ _ x => x))⟩
theorem proved : Rows.EvidenceSoundSaid :=
  OpenClaim.holds_of_wide 7 Tryz.f7 rfl rfl rfl rfl rfl rfl rfl ⟨rfl, rfl, rfl, rfl, rfl⟩ rfl rfl rfl rfl rfl (by kernel_rfl) Tryz.func7 (by kernel_rfl)
    (of_decide_eq_true (by kernel_rfl)) (by unfold Func.isWrapper; first | (rw [if_pos (by decide +kernel)]; kernel_rfl) | (rw [if_neg (by decide +kernel)]; exact ⟨rfl, rfl⟩))
    (fun os started H enc _ => lifted os started H enc)
end Go.Proofs.YtcbfnflnokoacaaGreat.evidenceSound
