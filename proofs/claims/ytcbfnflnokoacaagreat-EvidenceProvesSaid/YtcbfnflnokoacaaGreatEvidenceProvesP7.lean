/-
  EvidenceProves proved: for every input the law returns true, and each argument reads as it did. Conditions: none.
-/
import Derived.Test.YtcbfnflnokoacaaGreatEvidenceProvesP6
namespace Go.Proofs.YtcbfnflnokoacaaGreat
set_option maxRecDepth 100000
set_option maxHeartbeats 4000000
open Go Go.RowKit Go.Own Go.Shelf
theorem rdoubV {a b : Att} {r : Bool} (w : World) (ha : a.Ok) (hb : b.Ok) (h : doub a b = r) : Calls Tryz.prog 45 #[.agg (Att.c a), .agg (Att.c b)] w fun e w' => e = .returned (.bool r) ∧ Keeps Nob w w' := by subst h; exact rvDoubles_ok a b w ha hb
theorem rsurrV {a b : Att} {r : Bool} (w : World) (ha : a.Ok) (hb : b.Ok) (h : surr a b = r) : Calls Tryz.prog 46 #[.agg (Att.c a), .agg (Att.c b)] w fun e w' => e = .returned (.bool r) ∧ Keeps Nob w w' := by subst h; exact rvSurrounds_ok a b w ha hb
theorem rdoubPV {a b : Pro} {r : Bool} (w : World) (ha : a.Ok) (hb : b.Ok) (h : doubP a b = r) : Calls Tryz.prog 47 #[.agg (Pro.c a), .agg (Pro.c b)] w fun e w' => e = .returned (.bool r) ∧ Keeps Nob w w' := by subst h; exact rvDoublesBlock_ok a b w ha hb
noncomputable def qc91_3 (n : Nat) : Code := partOf Tryz.f9 n
theorem reSeal_ok (a : Att) (w : World) (ha : a.Ok) :
    Calls Tryz.prog 9 #[.agg (Att.c a)] w (fun e w' => e = .returned (.tuple #[.agg (Sel.c a.sel), .int .i64 a.err]) ∧ Keeps Nob w w') := by
  have hr := ha.r
  have K0 : Keeps Nob w w := Keeps.refl _ _
  refine sy_enter (qc91_3 1) ⟨#[.agg (Att.c a), ud, ud, ud, ud, ud, ud, ud, ud, ud, ud, ud, ud, ud, ud, ud, ud, ud, ud, ud, ud], []⟩ Tryz.func9 (by kernel_rfl) (by kernel_rfl) <| sy_sq (qc91_3 2) (qc91_3 3) <| sy_reg <| rg_q 0 [0, 1, 2] ?_
  obtain ⟨V1, eV1, ga, ega, h2, kV1⟩ := alloc_step w ((Att.c a)) 26
  have n3 : w.heap.size ≤ ga := ega ▸ K0.size
  refine prq (pT ga 0) (w' := V1) (by rw [← eV1, ← ega]; exact exec_box 26 (.tmp 0) (by kernel_rfl) (.agg (Att.c a)) (by kernel_rfl)) ?_
  clear eV1
  have K4 := K0.nn kV1
  have z5 := kV1.size
  obtain ⟨V6, eV6, gs, egs, h7, kV6⟩ := alloc_step V1 ((Sel.c selZ)) 30
  have n8 : ga < gs := egs ▸ lt_of_block h2
  have n9 : w.heap.size ≤ gs := egs ▸ K4.size
  refine prq (pT gs 0) (w' := V6) (by rw [← eV6, ← egs]; exact exec_alloc0 30 (by kernel_rfl) (.agg ((Sel.c selZ))) (by kernel_rfl)) ?_
  clear eV6
  have h10 := kV6.bk h2
  have K11 := K4.nn kV6
  have z12 := kV6.size
  refine pkq (.int .i64 0) <| ps_end <| then_n <| sy_sq (qc91_3 6) (qc91_3 7) <| sy_reg <| rg_q 1 [0, 1, 2, 3, 4, 5, 6, 7] <| ppq (.agg (Att.c a)) (exec_load_row 26 (.tmp 1) (by kernel_rfl) ga (by kernel_rfl) _ _ (0, 0) _ (h10) Tryz.underlying26 rfl (by rw [Att.c_size _ hr]; kernel_rfl)) ?_
  refine pcq 42 #[.agg (Att.c a)] Tryz.func42 ((rvDigest_any a _ ha).mono ?_)
  rintro e V13 ⟨rfl, kV13⟩
  refine ⟨_, rfl, ?_⟩
  have h14 := kV13.bk h10
  have h15 := kV13.bk h7
  have K16 := K11.nn kV13
  have z17 := kV13.size
  refine pkq (.tuple #[.agg (B a.dg).toArray, .int .i64 a.err]) <| pkq (.agg (B a.dg).toArray) <| pkq (.int .i64 a.err) ?_
  obtain ⟨V18, eV18, gx, egx, h19, kV18⟩ := alloc_step V13 (zr_u8_32) 23
  have n20 : ga < gx := egx ▸ lt_of_block h14
  have n21 : gs < gx := egx ▸ lt_of_block h15
  have n22 : w.heap.size ≤ gx := egx ▸ K16.size
  refine prq (pT gx 0) (w' := V18) (by rw [← eV18, ← egx]; exact exec_alloc0 23 (by kernel_rfl) (.agg (zr_u8_32)) (by kernel_rfl)) ?_
  clear eV18
  have h23 := kV18.bk h14
  have h24 := kV18.bk h15
  have K25 := K16.nn kV18
  have z26 := kV18.size
  obtain ⟨V27, eV27, kV27⟩ := rowset_step V18 gx ((B a.dg).toArray)
  have h28 : V27.heap[gx]? = some (.cells ((B a.dg).toArray) 23 (0, 0)) := eV27 ▸ setRow_heap _ _ _ _ _ _ h19
  refine pzq (w' := V27) (by rw [← eV27]; exact exec_store_row 23 (.tmp 4) (.tmp 9) (by kernel_rfl) gx ((B a.dg).toArray) (by kernel_rfl) (by kernel_rfl) 23 (zr_u8_32) h19 (by rw [Bz_size, Att.dg_len]; kernel_rfl) (by rw [Bz_size, Att.dg_len]; rfl) (by rw [List.all_toArray]; exact List.all_eq_true.2 (B_one _))) ?_
  clear eV27
  have h29 := kV27.bo h23 (by omega)
  have h30 := kV27.bo h24 (by omega)
  have K31 := K25.no kV27 (by omega)
  have z32 := kV27.size
  refine pkq (.int .i64 a.err) <| ps_end <| then_n <| sy_sq (qc91_3 14) (qc91_3 15) <| sy_sq (qc91_3 28) (qc91_3 29) <| sy_reg <| rg_q 2 [0, 1] ?_
  by_cases c0 : a.fine
  · have e0 := Att.err_ok c0
    refine pkq (.int .i64 a.err) <| ppq (.bool false) (nqf ((a.err) : Int) ((0) : Int) (by omega)) <| ps_end <| then_n <| sy_n (.tmp 12) (qc91_3 58) (qc91_3 59) <| sy_sk <| then_n <| sy_sq (qc91_3 30) (qc91_3 31) <| sy_reg <| rg_q 4 [0, 1, 2, 3, 4, 5, 6, 7] <| pkq (pT ga 0) <| ppq (.int .i64 a.v) (exec_ld 3 (.tmp 15) ga 0 Tryz.underlying3 (rc (h29) (Att.c_0 _))) <| ppq (.agg ((B a.dg).toArray)) (exec_load_row 23 (.tmp 4) (by kernel_rfl) gx (by kernel_rfl) _ _ (0, 0) _ (h28) Tryz.underlying23 rfl (by rw [Bz_size, (Att.dg_len a)]; kernel_rfl)) <| pkq (pT ga 35) ?_
    refine ppq (uN a.g) (exec_ld 24 (.tmp 18) ga 35 Tryz.underlying24 (rc (h29) (Att.c_tag _ hr))) <| ppq (.agg (Sel.c ⟨a.v, a.dg, a.g⟩)) (exec_build_fill 30 #[(0, .tmp 16), (1, .tmp 17), (2, .tmp 19)] (by kernel_rfl) [(0, .int .i64 a.v), (1, .agg ((B a.dg).toArray)), (2, uN a.g)] (by kernel_rfl) _ Tryz.underlying30 (.agg selZ.c) (fun _ => by kernel_rfl) #[(0, 1), (1, 32), (33, 1)] (fun _ => by kernel_rfl) _ (fill_sel a.v a.dg a.g a.dg_len)) ?_
    obtain ⟨V33, eV33, kV33⟩ := rowset_step V27 gs ((Sel.c ⟨a.v, a.dg, a.g⟩))
    have h34 : V33.heap[gs]? = some (.cells (Sel.c ⟨a.v, a.dg, a.g⟩) 30 (0, 0)) := eV33 ▸ setRow_heap _ _ _ _ _ _ h30
    refine pzq (w' := V33) (by rw [← eV33]; exact exec_store_row 30 (.tmp 2) (.tmp 20) (by kernel_rfl) gs ((Sel.c ⟨a.v, a.dg, a.g⟩)) (by kernel_rfl) (by kernel_rfl) 30 ((Sel.c selZ)) h30 (by rw [Sel.c_size _ (show (⟨a.v, a.dg, a.g⟩ : Sel).r.length = 32 from a.dg_len)]; kernel_rfl) (by rw [Sel.c_size _ (show (⟨a.v, a.dg, a.g⟩ : Sel).r.length = 32 from a.dg_len)]; rfl) (Sel.c_one _)) ?_
    clear eV33
    have K37 := K31.no kV33 (by omega)
    have z38 := kV33.size
    refine pkq (.int .i64 0) <| ps_end <| then_n <| sy_ret (by kernel_rfl) <| sy_out (.tuple #[.agg (Sel.c ⟨a.v, a.dg, a.g⟩), .int .i64 0]) rfl (results_row_tmp (p := 2) (q := 3) (ty := 30) (by kernel_rfl) _ _ gs 30 (Sel.c ⟨a.v, a.dg, a.g⟩) (0, 0) _ (.int .i64 0) (by kernel_rfl) h34 Tryz.underlying30 rfl (by rw [Sel.c_size _ (show (⟨a.v, a.dg, a.g⟩ : Sel).r.length = 32 from a.dg_len)]; kernel_rfl) (by kernel_rfl)) ?_
    exact ⟨by simp only [Att.sel_ok c0, e0], K37⟩
  · have e0 := Att.err_no c0
    refine pkq (.int .i64 a.err) <| ppq (.bool true) (nqt ((a.err) : Int) ((0) : Int) (by omega)) <| ps_end <| then_n <| sy_ys (.tmp 12) (qc91_3 58) (qc91_3 59) <| sy_sq (qc91_3 116) (qc91_3 117) <| sy_reg <| rg_q 3 [0, 1, 2, 3] <| pkq (.agg (Sel.c selZ)) <| pkq (.int .i64 a.err) ?_
    obtain ⟨V39, eV39, kV39⟩ := rowset_step V27 gs ((Sel.c selZ))
    have h40 : V39.heap[gs]? = some (.cells (Sel.c selZ) 30 (0, 0)) := eV39 ▸ setRow_heap _ _ _ _ _ _ h30
    refine pzq (w' := V39) (by rw [← eV39]; exact exec_store_row 30 (.tmp 2) (.tmp 13) (by kernel_rfl) gs ((Sel.c selZ)) (by kernel_rfl) (by kernel_rfl) 30 ((Sel.c selZ)) h30 (by rw [Sel.c_size _ selZ_r]; kernel_rfl) rfl (Sel.c_one _)) ?_
    clear eV39
    have K43 := K31.no kV39 (by omega)
    have z44 := kV39.size
    refine pkq (.int .i64 a.err) <| ps_end <| then_n <| sy_ret (by kernel_rfl) <| then_r <| sy_out (.tuple #[.agg (Sel.c selZ), .int .i64 a.err]) rfl (results_row_tmp (p := 2) (q := 3) (ty := 30) (by kernel_rfl) _ _ gs 30 (Sel.c selZ) (0, 0) _ (.int .i64 a.err) (by kernel_rfl) h40 Tryz.underlying30 rfl (by rw [Sel.c_size _ selZ_r]; kernel_rfl) (by kernel_rfl)) ?_
    exact ⟨by simp only [Att.sel_no c0], K43⟩
noncomputable def qc91_1 (n : Nat) : Code := partOf Tryz.f11 n
theorem reSealBlock_ok (a : Pro) (w : World) (ha : a.Ok) :
    Calls Tryz.prog 11 #[.agg (Pro.c a)] w (fun e w' => e = .returned (.tuple #[.agg (Sel.c a.sel), .int .i64 a.err]) ∧ Keeps Nob w w') := by
  have hr := ha.r
  have K0 : Keeps Nob w w := Keeps.refl _ _
  refine sy_enter (qc91_1 1) ⟨#[.agg (Pro.c a), ud, ud, ud, ud, ud, ud, ud, ud, ud, ud, ud, ud, ud, ud, ud, ud, ud, ud, ud, ud], []⟩ Tryz.func11 (by kernel_rfl) (by kernel_rfl) <| sy_sq (qc91_1 2) (qc91_1 3) <| sy_reg <| rg_q 0 [0, 1, 2] ?_
  obtain ⟨V1, eV1, ga, ega, h2, kV1⟩ := alloc_step w ((Pro.c a)) 28
  have n3 : w.heap.size ≤ ga := ega ▸ K0.size
  refine prq (pT ga 0) (w' := V1) (by rw [← eV1, ← ega]; exact exec_box 28 (.tmp 0) (by kernel_rfl) (.agg (Pro.c a)) (by kernel_rfl)) ?_
  clear eV1
  have K4 := K0.nn kV1
  have z5 := kV1.size
  obtain ⟨V6, eV6, gs, egs, h7, kV6⟩ := alloc_step V1 ((Sel.c selZ)) 30
  have n8 : ga < gs := egs ▸ lt_of_block h2
  have n9 : w.heap.size ≤ gs := egs ▸ K4.size
  refine prq (pT gs 0) (w' := V6) (by rw [← eV6, ← egs]; exact exec_alloc0 30 (by kernel_rfl) (.agg ((Sel.c selZ))) (by kernel_rfl)) ?_
  clear eV6
  have h10 := kV6.bk h2
  have K11 := K4.nn kV6
  have z12 := kV6.size
  refine pkq (.int .i64 0) <| ps_end <| then_n <| sy_sq (qc91_1 6) (qc91_1 7) <| sy_reg <| rg_q 1 [0, 1, 2, 3, 4, 5, 6, 7] <| ppq (.agg (Pro.c a)) (exec_load_row 28 (.tmp 1) (by kernel_rfl) ga (by kernel_rfl) _ _ (0, 0) _ (h10) Tryz.underlying28 rfl (by rw [Pro.c_size _ hr]; kernel_rfl)) ?_
  refine pcq 44 #[.agg (Pro.c a)] Tryz.func44 ((rvDigestBlock_any a _ ha).mono ?_)
  rintro e V13 ⟨rfl, kV13⟩
  refine ⟨_, rfl, ?_⟩
  have h14 := kV13.bk h10
  have h15 := kV13.bk h7
  have K16 := K11.nn kV13
  have z17 := kV13.size
  refine pkq (.tuple #[.agg (B a.dg).toArray, .int .i64 a.err]) <| pkq (.agg (B a.dg).toArray) <| pkq (.int .i64 a.err) ?_
  obtain ⟨V18, eV18, gx, egx, h19, kV18⟩ := alloc_step V13 (zr_u8_32) 23
  have n20 : ga < gx := egx ▸ lt_of_block h14
  have n21 : gs < gx := egx ▸ lt_of_block h15
  have n22 : w.heap.size ≤ gx := egx ▸ K16.size
  refine prq (pT gx 0) (w' := V18) (by rw [← eV18, ← egx]; exact exec_alloc0 23 (by kernel_rfl) (.agg (zr_u8_32)) (by kernel_rfl)) ?_
  clear eV18
  have h23 := kV18.bk h14
  have h24 := kV18.bk h15
  have K25 := K16.nn kV18
  have z26 := kV18.size
  obtain ⟨V27, eV27, kV27⟩ := rowset_step V18 gx ((B a.dg).toArray)
  have h28 : V27.heap[gx]? = some (.cells ((B a.dg).toArray) 23 (0, 0)) := eV27 ▸ setRow_heap _ _ _ _ _ _ h19
  refine pzq (w' := V27) (by rw [← eV27]; exact exec_store_row 23 (.tmp 4) (.tmp 9) (by kernel_rfl) gx ((B a.dg).toArray) (by kernel_rfl) (by kernel_rfl) 23 (zr_u8_32) h19 (by rw [Bz_size, Pro.dg_len]; kernel_rfl) (by rw [Bz_size, Pro.dg_len]; rfl) (by rw [List.all_toArray]; exact List.all_eq_true.2 (B_one _))) ?_
  clear eV27
  have h29 := kV27.bo h23 (by omega)
  have h30 := kV27.bo h24 (by omega)
  have K31 := K25.no kV27 (by omega)
  have z32 := kV27.size
  refine pkq (.int .i64 a.err) <| ps_end <| then_n <| sy_sq (qc91_1 14) (qc91_1 15) <| sy_sq (qc91_1 28) (qc91_1 29) <| sy_reg <| rg_q 2 [0, 1] ?_
  by_cases c0 : a.fine
  · have e0 := Pro.err_ok c0
    refine pkq (.int .i64 a.err) <| ppq (.bool false) (nqf ((a.err) : Int) ((0) : Int) (by omega)) <| ps_end <| then_n <| sy_n (.tmp 12) (qc91_1 58) (qc91_1 59) <| sy_sk <| then_n <| sy_sq (qc91_1 30) (qc91_1 31) <| sy_reg <| rg_q 4 [0, 1, 2, 3, 4, 5, 6, 7] <| pkq (pT ga 0) <| ppq (.int .i64 a.v) (exec_ld 3 (.tmp 15) ga 0 Tryz.underlying3 (rc (h29) (Pro.c_0 _))) <| ppq (.agg ((B a.dg).toArray)) (exec_load_row 23 (.tmp 4) (by kernel_rfl) gx (by kernel_rfl) _ _ (0, 0) _ (h28) Tryz.underlying23 rfl (by rw [Bz_size, (Pro.dg_len a)]; kernel_rfl)) <| pkq (pT ga 34) ?_
    refine ppq (uN a.g) (exec_ld 24 (.tmp 18) ga 34 Tryz.underlying24 (rc (h29) (Pro.c_tag _ hr))) <| ppq (.agg (Sel.c ⟨a.v, a.dg, a.g⟩)) (exec_build_fill 30 #[(0, .tmp 16), (1, .tmp 17), (2, .tmp 19)] (by kernel_rfl) [(0, .int .i64 a.v), (1, .agg ((B a.dg).toArray)), (2, uN a.g)] (by kernel_rfl) _ Tryz.underlying30 (.agg selZ.c) (fun _ => by kernel_rfl) #[(0, 1), (1, 32), (33, 1)] (fun _ => by kernel_rfl) _ (fill_sel a.v a.dg a.g a.dg_len)) ?_
    obtain ⟨V33, eV33, kV33⟩ := rowset_step V27 gs ((Sel.c ⟨a.v, a.dg, a.g⟩))
    have h34 : V33.heap[gs]? = some (.cells (Sel.c ⟨a.v, a.dg, a.g⟩) 30 (0, 0)) := eV33 ▸ setRow_heap _ _ _ _ _ _ h30
    refine pzq (w' := V33) (by rw [← eV33]; exact exec_store_row 30 (.tmp 2) (.tmp 20) (by kernel_rfl) gs ((Sel.c ⟨a.v, a.dg, a.g⟩)) (by kernel_rfl) (by kernel_rfl) 30 ((Sel.c selZ)) h30 (by rw [Sel.c_size _ (show (⟨a.v, a.dg, a.g⟩ : Sel).r.length = 32 from a.dg_len)]; kernel_rfl) (by rw [Sel.c_size _ (show (⟨a.v, a.dg, a.g⟩ : Sel).r.length = 32 from a.dg_len)]; rfl) (Sel.c_one _)) ?_
    clear eV33
    have K37 := K31.no kV33 (by omega)
    have z38 := kV33.size
    refine pkq (.int .i64 0) <| ps_end <| then_n <| sy_ret (by kernel_rfl) <| sy_out (.tuple #[.agg (Sel.c ⟨a.v, a.dg, a.g⟩), .int .i64 0]) rfl (results_row_tmp (p := 2) (q := 3) (ty := 30) (by kernel_rfl) _ _ gs 30 (Sel.c ⟨a.v, a.dg, a.g⟩) (0, 0) _ (.int .i64 0) (by kernel_rfl) h34 Tryz.underlying30 rfl (by rw [Sel.c_size _ (show (⟨a.v, a.dg, a.g⟩ : Sel).r.length = 32 from a.dg_len)]; kernel_rfl) (by kernel_rfl)) ?_
    exact ⟨by simp only [Pro.sel_ok c0, e0], K37⟩
  · have e0 := Pro.err_no c0
    refine pkq (.int .i64 a.err) <| ppq (.bool true) (nqt ((a.err) : Int) ((0) : Int) (by omega)) <| ps_end <| then_n <| sy_ys (.tmp 12) (qc91_1 58) (qc91_1 59) <| sy_sq (qc91_1 116) (qc91_1 117) <| sy_reg <| rg_q 3 [0, 1, 2, 3] <| pkq (.agg (Sel.c selZ)) <| pkq (.int .i64 a.err) ?_
    obtain ⟨V39, eV39, kV39⟩ := rowset_step V27 gs ((Sel.c selZ))
    have h40 : V39.heap[gs]? = some (.cells (Sel.c selZ) 30 (0, 0)) := eV39 ▸ setRow_heap _ _ _ _ _ _ h30
    refine pzq (w' := V39) (by rw [← eV39]; exact exec_store_row 30 (.tmp 2) (.tmp 13) (by kernel_rfl) gs ((Sel.c selZ)) (by kernel_rfl) (by kernel_rfl) 30 ((Sel.c selZ)) h30 (by rw [Sel.c_size _ selZ_r]; kernel_rfl) rfl (Sel.c_one _)) ?_
    clear eV39
    have K43 := K31.no kV39 (by omega)
    have z44 := kV39.size
    refine pkq (.int .i64 a.err) <| ps_end <| then_n <| sy_ret (by kernel_rfl) <| then_r <| sy_out (.tuple #[.agg (Sel.c selZ), .int .i64 a.err]) rfl (results_row_tmp (p := 2) (q := 3) (ty := 30) (by kernel_rfl) _ _ gs 30 (Sel.c selZ) (0, 0) _ (.int .i64 a.err) (by kernel_rfl) h40 Tryz.underlying30 rfl (by rw [Sel.c_size _ selZ_r]; kernel_rfl) (by kernel_rfl)) ?_
    exact ⟨by simp only [Pro.sel_no c0], K43⟩
noncomputable def qc91_2 (n : Nat) : Code := partOf Tryz.f13 n
theorem reProve_ok (a b : Att) (w : World) (ha : a.Ok) (hb : b.Ok) :
    Calls Tryz.prog 13 #[.agg (Att.c a), .agg (Att.c b)] w (fun e w' => e = .returned (.tuple #[.agg (Msg.c (proves a b).1), .bool (proves a b).2]) ∧ Keeps Nob w w') := by
  have hr := ha.r
  have hs := hb.r
  have K0 : Keeps Nob w w := Keeps.refl _ _
  refine sy_enter (qc91_2 1) ⟨#[.agg (Att.c a), .agg (Att.c b), ud, ud, ud, ud, ud, ud, ud, ud, ud, ud, ud, ud, ud, ud, ud, ud, ud, ud, ud, ud, ud, ud, ud, ud, ud, ud], []⟩ Tryz.func13 (by kernel_rfl) (by kernel_rfl) <| sy_sq (qc91_2 2) (qc91_2 3) <| sy_reg <| rg_q 0 [0, 1, 2, 3] ?_
  obtain ⟨V1, eV1, ga, ega, h2, kV1⟩ := alloc_step w ((Att.c a)) 26
  have n3 : w.heap.size ≤ ga := ega ▸ K0.size
  refine prq (pT ga 0) (w' := V1) (by rw [← eV1, ← ega]; exact exec_box 26 (.tmp 0) (by kernel_rfl) (.agg (Att.c a)) (by kernel_rfl)) ?_
  clear eV1
  have K4 := K0.nn kV1
  have z5 := kV1.size
  obtain ⟨V6, eV6, gb, egb, h7, kV6⟩ := alloc_step V1 ((Att.c b)) 26
  have n8 : ga < gb := egb ▸ lt_of_block h2
  have n9 : w.heap.size ≤ gb := egb ▸ K4.size
  refine prq (pT gb 0) (w' := V6) (by rw [← eV6, ← egb]; exact exec_box 26 (.tmp 1) (by kernel_rfl) (.agg (Att.c b)) (by kernel_rfl)) ?_
  clear eV6
  have h10 := kV6.bk h2
  have K11 := K4.nn kV6
  have z12 := kV6.size
  obtain ⟨V13, eV13, gr, egr, h14, kV13⟩ := alloc_step V6 ((Msg.c msgZ)) 38
  have n15 : ga < gr := egr ▸ lt_of_block h10
  have n16 : gb < gr := egr ▸ lt_of_block h7
  have n17 : w.heap.size ≤ gr := egr ▸ K11.size
  refine prq (pT gr 0) (w' := V13) (by rw [← eV13, ← egr]; exact exec_alloc0 38 (by kernel_rfl) (.agg ((Msg.c msgZ))) (by kernel_rfl)) ?_
  clear eV13
  have h18 := kV13.bk h10
  have h19 := kV13.bk h7
  have K20 := K11.nn kV13
  have z21 := kV13.size
  refine pkq (.bool false) <| ps_end <| then_n <| sy_sq (qc91_2 6) (qc91_2 7) <| sy_bk 0 (qc91_2 12) <| sy_sq (qc91_2 24) (qc91_2 25) <| sy_reg <| rg_q 1 [0, 1, 2, 3] ?_
  by_cases c0 : doub a b = true
  · refine ppq (.agg (Att.c a)) (exec_load_row 26 (.tmp 2) (by kernel_rfl) ga (by kernel_rfl) _ _ (0, 0) _ (h18) Tryz.underlying26 rfl (by rw [Att.c_size _ hr]; kernel_rfl)) <| ppq (.agg (Att.c b)) (exec_load_row 26 (.tmp 3) (by kernel_rfl) gb (by kernel_rfl) _ _ (0, 0) _ (h19) Tryz.underlying26 rfl (by rw [Att.c_size _ hs]; kernel_rfl)) ?_
    refine pcq 45 #[.agg (Att.c a), .agg (Att.c b)] Tryz.func45 ((rdoubV _ ha hb c0).mono ?_)
    rintro e V22 ⟨rfl, kV22⟩
    refine ⟨_, rfl, ?_⟩
    have h23 := kV22.bk h18
    have h24 := kV22.bk h19
    have h25 := kV22.bk h14
    have K26 := K20.nn kV22
    have z27 := kV22.size
    refine pkq (.bool true) <| ps_end <| then_n <| sy_ys (.tmp 6) (qc91_2 50) (qc91_2 51) <| sy_sq (qc91_2 100) (qc91_2 101) <| sy_reg <| rg_q 2 [0, 1, 2, 3, 4] <| ppq (.agg (Att.c a)) (exec_load_row 26 (.tmp 2) (by kernel_rfl) ga (by kernel_rfl) _ _ (0, 0) _ (h23) Tryz.underlying26 rfl (by rw [Att.c_size _ hr]; kernel_rfl)) <| ppq (.agg (Att.c b)) (exec_load_row 26 (.tmp 3) (by kernel_rfl) gb (by kernel_rfl) _ _ (0, 0) _ (h24) Tryz.underlying26 rfl (by rw [Att.c_size _ hs]; kernel_rfl)) <| ppq (.agg (Msg.c (evMs 1 a b))) (exec_build_fill 38 #[(0, .const (.int .i64 8)), (8, .const (.int .i64 1)), (9, .tmp 10), (10, .tmp 11)] (by kernel_rfl) [(0, .int .i64 8), (8, .int .i64 1), (9, .agg (Att.c a)), (10, .agg (Att.c b))] (by kernel_rfl) _ Tryz.underlying38 (.agg msgZ.c) (fun _ => by kernel_rfl) #[(0, 1), (1, 1), (2, 1), (3, 1), (4, 1), (5, 1), (6, 4), (10, 1), (11, 1), (12, 36), (48, 36), (84, 35), (119, 35)] (fun _ => by kernel_rfl) _ (fill_pf 1 a b hr hs)) ?_
    obtain ⟨V28, eV28, kV28⟩ := rowset_step V22 gr ((Msg.c (evMs 1 a b)))
    have h29 : V28.heap[gr]? = some (.cells (Msg.c ((evMs 1 a b))) 38 (0, 0)) := eV28 ▸ setRow_heap _ _ _ _ _ _ h25
    refine pzq (w' := V28) (by rw [← eV28]; exact exec_store_row 38 (.tmp 4) (.tmp 12) (by kernel_rfl) gr ((Msg.c (evMs 1 a b))) (by kernel_rfl) (by kernel_rfl) 38 ((Msg.c msgZ)) h25 (by rw [Msg.c_size (evMs_R hr hs)]; kernel_rfl) (by rw [Msg.c_size (evMs_R hr hs)]; exact (Msg.c_size msgZ_R).symm) (Msg.c_one _)) ?_
    clear eV28
    have K32 := K26.no kV28 (by omega)
    have z33 := kV28.size
    refine pkq (.bool true) <| ps_end <| then_n <| sy_ret (by kernel_rfl) <| blk_r <| then_r <| sy_out (.tuple #[.agg (Msg.c ((evMs 1 a b))), .bool true]) rfl (results_row_tmp (p := 4) (q := 5) (ty := 38) (by kernel_rfl) _ _ gr 38 (Msg.c ((evMs 1 a b))) (0, 0) _ (.bool true) (by kernel_rfl) h29 Tryz.underlying38 rfl (by rw [Msg.c_size (evMs_R hr hs)]; kernel_rfl) (by kernel_rfl)) ?_
    exact ⟨by rw [proves, if_pos c0]; (try rfl), K32⟩
  · have c0' := bnot c0
    refine ppq (.agg (Att.c a)) (exec_load_row 26 (.tmp 2) (by kernel_rfl) ga (by kernel_rfl) _ _ (0, 0) _ (h18) Tryz.underlying26 rfl (by rw [Att.c_size _ hr]; kernel_rfl)) <| ppq (.agg (Att.c b)) (exec_load_row 26 (.tmp 3) (by kernel_rfl) gb (by kernel_rfl) _ _ (0, 0) _ (h19) Tryz.underlying26 rfl (by rw [Att.c_size _ hs]; kernel_rfl)) ?_
    refine pcq 45 #[.agg (Att.c a), .agg (Att.c b)] Tryz.func45 ((rdoubV _ ha hb c0').mono ?_)
    rintro e V34 ⟨rfl, kV34⟩
    refine ⟨_, rfl, ?_⟩
    have h35 := kV34.bk h18
    have h36 := kV34.bk h19
    have h37 := kV34.bk h14
    have K38 := K20.nn kV34
    have z39 := kV34.size
    refine pkq (.bool false) <| ps_end <| then_n <| sy_n (.tmp 6) (qc91_2 50) (qc91_2 51) <| sy_sq (qc91_2 102) (qc91_2 103) <| sy_reg <| rg_q 3 [0, 1, 2, 3] ?_
    by_cases c1 : surr a b = true
    · refine ppq (.agg (Att.c a)) (exec_load_row 26 (.tmp 2) (by kernel_rfl) ga (by kernel_rfl) _ _ (0, 0) _ (h35) Tryz.underlying26 rfl (by rw [Att.c_size _ hr]; kernel_rfl)) <| ppq (.agg (Att.c b)) (exec_load_row 26 (.tmp 3) (by kernel_rfl) gb (by kernel_rfl) _ _ (0, 0) _ (h36) Tryz.underlying26 rfl (by rw [Att.c_size _ hs]; kernel_rfl)) ?_
      refine pcq 46 #[.agg (Att.c a), .agg (Att.c b)] Tryz.func46 ((rsurrV _ ha hb c1).mono ?_)
      rintro e V40 ⟨rfl, kV40⟩
      refine ⟨_, rfl, ?_⟩
      have h41 := kV40.bk h35
      have h42 := kV40.bk h36
      have h43 := kV40.bk h37
      have K44 := K38.nn kV40
      have z45 := kV40.size
      refine pkq (.bool true) <| ps_end <| then_n <| sy_ys (.tmp 13) (qc91_2 206) (qc91_2 207) <| sy_sq (qc91_2 412) (qc91_2 413) <| sy_reg <| rg_q 4 [0, 1, 2, 3, 4] <| ppq (.agg (Att.c a)) (exec_load_row 26 (.tmp 2) (by kernel_rfl) ga (by kernel_rfl) _ _ (0, 0) _ (h41) Tryz.underlying26 rfl (by rw [Att.c_size _ hr]; kernel_rfl)) <| ppq (.agg (Att.c b)) (exec_load_row 26 (.tmp 3) (by kernel_rfl) gb (by kernel_rfl) _ _ (0, 0) _ (h42) Tryz.underlying26 rfl (by rw [Att.c_size _ hs]; kernel_rfl)) <| ppq (.agg (Msg.c (evMs 2 a b))) (exec_build_fill 38 #[(0, .const (.int .i64 8)), (8, .const (.int .i64 2)), (9, .tmp 17), (10, .tmp 18)] (by kernel_rfl) [(0, .int .i64 8), (8, .int .i64 2), (9, .agg (Att.c a)), (10, .agg (Att.c b))] (by kernel_rfl) _ Tryz.underlying38 (.agg msgZ.c) (fun _ => by kernel_rfl) #[(0, 1), (1, 1), (2, 1), (3, 1), (4, 1), (5, 1), (6, 4), (10, 1), (11, 1), (12, 36), (48, 36), (84, 35), (119, 35)] (fun _ => by kernel_rfl) _ (fill_pf 2 a b hr hs)) ?_
      obtain ⟨V46, eV46, kV46⟩ := rowset_step V40 gr ((Msg.c (evMs 2 a b)))
      have h47 : V46.heap[gr]? = some (.cells (Msg.c ((evMs 2 a b))) 38 (0, 0)) := eV46 ▸ setRow_heap _ _ _ _ _ _ h43
      refine pzq (w' := V46) (by rw [← eV46]; exact exec_store_row 38 (.tmp 4) (.tmp 19) (by kernel_rfl) gr ((Msg.c (evMs 2 a b))) (by kernel_rfl) (by kernel_rfl) 38 ((Msg.c msgZ)) h43 (by rw [Msg.c_size (evMs_R hr hs)]; kernel_rfl) (by rw [Msg.c_size (evMs_R hr hs)]; exact (Msg.c_size msgZ_R).symm) (Msg.c_one _)) ?_
      clear eV46
      have K50 := K44.no kV46 (by omega)
      have z51 := kV46.size
      refine pkq (.bool true) <| ps_end <| then_n <| sy_ret (by kernel_rfl) <| blk_r <| then_r <| sy_out (.tuple #[.agg (Msg.c ((evMs 2 a b))), .bool true]) rfl (results_row_tmp (p := 4) (q := 5) (ty := 38) (by kernel_rfl) _ _ gr 38 (Msg.c ((evMs 2 a b))) (0, 0) _ (.bool true) (by kernel_rfl) h47 Tryz.underlying38 rfl (by rw [Msg.c_size (evMs_R hr hs)]; kernel_rfl) (by kernel_rfl)) ?_
      exact ⟨by rw [proves, if_neg c0, if_pos c1]; (try rfl), K50⟩
    · have c1' := bnot c1
      refine ppq (.agg (Att.c a)) (exec_load_row 26 (.tmp 2) (by kernel_rfl) ga (by kernel_rfl) _ _ (0, 0) _ (h35) Tryz.underlying26 rfl (by rw [Att.c_size _ hr]; kernel_rfl)) <| ppq (.agg (Att.c b)) (exec_load_row 26 (.tmp 3) (by kernel_rfl) gb (by kernel_rfl) _ _ (0, 0) _ (h36) Tryz.underlying26 rfl (by rw [Att.c_size _ hs]; kernel_rfl)) ?_
      refine pcq 46 #[.agg (Att.c a), .agg (Att.c b)] Tryz.func46 ((rsurrV _ ha hb c1').mono ?_)
      rintro e V52 ⟨rfl, kV52⟩
      refine ⟨_, rfl, ?_⟩
      have h53 := kV52.bk h35
      have h54 := kV52.bk h36
      have h55 := kV52.bk h37
      have K56 := K38.nn kV52
      have z57 := kV52.size
      refine pkq (.bool false) <| ps_end <| then_n <| sy_n (.tmp 13) (qc91_2 206) (qc91_2 207) <| sy_sq (qc91_2 414) (qc91_2 415) <| sy_reg <| rg_q 5 [0, 1, 2, 3] ?_
      by_cases c2 : surr b a = true
      · refine ppq (.agg (Att.c b)) (exec_load_row 26 (.tmp 3) (by kernel_rfl) gb (by kernel_rfl) _ _ (0, 0) _ (h54) Tryz.underlying26 rfl (by rw [Att.c_size _ hs]; kernel_rfl)) <| ppq (.agg (Att.c a)) (exec_load_row 26 (.tmp 2) (by kernel_rfl) ga (by kernel_rfl) _ _ (0, 0) _ (h53) Tryz.underlying26 rfl (by rw [Att.c_size _ hr]; kernel_rfl)) ?_
        refine pcq 46 #[.agg (Att.c b), .agg (Att.c a)] Tryz.func46 ((rsurrV _ hb ha c2).mono ?_)
        rintro e V58 ⟨rfl, kV58⟩
        refine ⟨_, rfl, ?_⟩
        have h59 := kV58.bk h53
        have h60 := kV58.bk h54
        have h61 := kV58.bk h55
        have K62 := K56.nn kV58
        have z63 := kV58.size
        refine pkq (.bool true) <| ps_end <| then_n <| sy_ys (.tmp 20) (qc91_2 830) (qc91_2 831) <| sy_sq (qc91_2 1660) (qc91_2 1661) <| sy_reg <| rg_q 6 [0, 1, 2, 3, 4] <| ppq (.agg (Att.c b)) (exec_load_row 26 (.tmp 3) (by kernel_rfl) gb (by kernel_rfl) _ _ (0, 0) _ (h60) Tryz.underlying26 rfl (by rw [Att.c_size _ hs]; kernel_rfl)) <| ppq (.agg (Att.c a)) (exec_load_row 26 (.tmp 2) (by kernel_rfl) ga (by kernel_rfl) _ _ (0, 0) _ (h59) Tryz.underlying26 rfl (by rw [Att.c_size _ hr]; kernel_rfl)) <| ppq (.agg (Msg.c (evMs 2 b a))) (exec_build_fill 38 #[(0, .const (.int .i64 8)), (8, .const (.int .i64 2)), (9, .tmp 24), (10, .tmp 25)] (by kernel_rfl) [(0, .int .i64 8), (8, .int .i64 2), (9, .agg (Att.c b)), (10, .agg (Att.c a))] (by kernel_rfl) _ Tryz.underlying38 (.agg msgZ.c) (fun _ => by kernel_rfl) #[(0, 1), (1, 1), (2, 1), (3, 1), (4, 1), (5, 1), (6, 4), (10, 1), (11, 1), (12, 36), (48, 36), (84, 35), (119, 35)] (fun _ => by kernel_rfl) _ (fill_pf 2 b a hs hr)) ?_
        obtain ⟨V64, eV64, kV64⟩ := rowset_step V58 gr ((Msg.c (evMs 2 b a)))
        have h65 : V64.heap[gr]? = some (.cells (Msg.c ((evMs 2 b a))) 38 (0, 0)) := eV64 ▸ setRow_heap _ _ _ _ _ _ h61
        refine pzq (w' := V64) (by rw [← eV64]; exact exec_store_row 38 (.tmp 4) (.tmp 26) (by kernel_rfl) gr ((Msg.c (evMs 2 b a))) (by kernel_rfl) (by kernel_rfl) 38 ((Msg.c msgZ)) h61 (by rw [Msg.c_size (evMs_R hs hr)]; kernel_rfl) (by rw [Msg.c_size (evMs_R hs hr)]; exact (Msg.c_size msgZ_R).symm) (Msg.c_one _)) ?_
        clear eV64
        have K68 := K62.no kV64 (by omega)
        have z69 := kV64.size
        refine pkq (.bool true) <| ps_end <| then_n <| sy_ret (by kernel_rfl) <| blk_r <| then_r <| sy_out (.tuple #[.agg (Msg.c ((evMs 2 b a))), .bool true]) rfl (results_row_tmp (p := 4) (q := 5) (ty := 38) (by kernel_rfl) _ _ gr 38 (Msg.c ((evMs 2 b a))) (0, 0) _ (.bool true) (by kernel_rfl) h65 Tryz.underlying38 rfl (by rw [Msg.c_size (evMs_R hs hr)]; kernel_rfl) (by kernel_rfl)) ?_
        exact ⟨by rw [proves, if_neg c0, if_neg c1, if_pos c2]; (try rfl), K68⟩
      · have c2' := bnot c2
        refine ppq (.agg (Att.c b)) (exec_load_row 26 (.tmp 3) (by kernel_rfl) gb (by kernel_rfl) _ _ (0, 0) _ (h54) Tryz.underlying26 rfl (by rw [Att.c_size _ hs]; kernel_rfl)) <| ppq (.agg (Att.c a)) (exec_load_row 26 (.tmp 2) (by kernel_rfl) ga (by kernel_rfl) _ _ (0, 0) _ (h53) Tryz.underlying26 rfl (by rw [Att.c_size _ hr]; kernel_rfl)) ?_
        refine pcq 46 #[.agg (Att.c b), .agg (Att.c a)] Tryz.func46 ((rsurrV _ hb ha c2').mono ?_)
        rintro e V70 ⟨rfl, kV70⟩
        refine ⟨_, rfl, ?_⟩
        have h73 := kV70.bk h55
        have K74 := K56.nn kV70
        have z75 := kV70.size
        refine pkq (.bool false) <| ps_end <| then_n <| sy_n (.tmp 20) (qc91_2 830) (qc91_2 831) <| sy_sk <| blk_n <| then_n <| sy_sq (qc91_2 14) (qc91_2 15) <| sy_reg <| rg_q 7 [0, 1, 2] <| pkq (.agg (Msg.c msgZ)) ?_
        obtain ⟨V76, eV76, kV76⟩ := rowset_step V70 gr ((Msg.c msgZ))
        have h77 : V76.heap[gr]? = some (.cells (Msg.c msgZ) 38 (0, 0)) := eV76 ▸ setRow_heap _ _ _ _ _ _ h73
        refine pzq (w' := V76) (by rw [← eV76]; exact exec_store_row 38 (.tmp 4) (.tmp 27) (by kernel_rfl) gr ((Msg.c msgZ)) (by kernel_rfl) (by kernel_rfl) 38 ((Msg.c msgZ)) h73 (by rw [Msg.c_size msgZ_R]; kernel_rfl) rfl (Msg.c_one _)) ?_
        clear eV76
        have K80 := K74.no kV76 (by omega)
        have z81 := kV76.size
        refine pkq (.bool false) <| ps_end <| then_n <| sy_ret (by kernel_rfl) <| sy_out (.tuple #[.agg (Msg.c msgZ), .bool false]) rfl (results_row_tmp (p := 4) (q := 5) (ty := 38) (by kernel_rfl) _ _ gr 38 (Msg.c msgZ) (0, 0) _ (.bool false) (by kernel_rfl) h77 Tryz.underlying38 rfl (by rw [Msg.c_size msgZ_R]; kernel_rfl) (by kernel_rfl)) ?_
        exact ⟨by rw [proves, if_neg c0, if_neg c1, if_neg c2]; (try rfl), K80⟩
noncomputable def qc91_0 (n : Nat) : Code := partOf Tryz.f15 n
theorem reProveBlock_ok (p q : Pro) (w : World) (ha : p.Ok) (hb : q.Ok) :
    Calls Tryz.prog 15 #[.agg (Pro.c p), .agg (Pro.c q)] w (fun e w' => e = .returned (.tuple #[.agg (Msg.c (provesP p q).1), .bool (provesP p q).2]) ∧ Keeps Nob w w') := by
  have hr := ha.r
  have hs := hb.r
  have K0 : Keeps Nob w w := Keeps.refl _ _
  refine sy_enter (qc91_0 1) ⟨#[.agg (Pro.c p), .agg (Pro.c q), ud, ud, ud, ud, ud, ud, ud, ud, ud, ud, ud, ud], []⟩ Tryz.func15 (by kernel_rfl) (by kernel_rfl) <| sy_sq (qc91_0 2) (qc91_0 3) <| sy_reg <| rg_q 0 [0, 1, 2, 3] ?_
  obtain ⟨V1, eV1, ga, ega, h2, kV1⟩ := alloc_step w ((Pro.c p)) 28
  have n3 : w.heap.size ≤ ga := ega ▸ K0.size
  refine prq (pT ga 0) (w' := V1) (by rw [← eV1, ← ega]; exact exec_box 28 (.tmp 0) (by kernel_rfl) (.agg (Pro.c p)) (by kernel_rfl)) ?_
  clear eV1
  have K4 := K0.nn kV1
  have z5 := kV1.size
  obtain ⟨V6, eV6, gb, egb, h7, kV6⟩ := alloc_step V1 ((Pro.c q)) 28
  have n8 : ga < gb := egb ▸ lt_of_block h2
  have n9 : w.heap.size ≤ gb := egb ▸ K4.size
  refine prq (pT gb 0) (w' := V6) (by rw [← eV6, ← egb]; exact exec_box 28 (.tmp 1) (by kernel_rfl) (.agg (Pro.c q)) (by kernel_rfl)) ?_
  clear eV6
  have h10 := kV6.bk h2
  have K11 := K4.nn kV6
  have z12 := kV6.size
  obtain ⟨V13, eV13, gr, egr, h14, kV13⟩ := alloc_step V6 ((Msg.c msgZ)) 38
  have n15 : ga < gr := egr ▸ lt_of_block h10
  have n16 : gb < gr := egr ▸ lt_of_block h7
  have n17 : w.heap.size ≤ gr := egr ▸ K11.size
  refine prq (pT gr 0) (w' := V13) (by rw [← eV13, ← egr]; exact exec_alloc0 38 (by kernel_rfl) (.agg ((Msg.c msgZ))) (by kernel_rfl)) ?_
  clear eV13
  have h18 := kV13.bk h10
  have h19 := kV13.bk h7
  have K20 := K11.nn kV13
  have z21 := kV13.size
  refine pkq (.bool false) <| ps_end <| then_n <| sy_sq (qc91_0 6) (qc91_0 7) <| sy_sq (qc91_0 12) (qc91_0 13) <| sy_reg <| rg_q 1 [0, 1, 2, 3] ?_
  by_cases c0 : doubP p q = true
  · refine ppq (.agg (Pro.c p)) (exec_load_row 28 (.tmp 2) (by kernel_rfl) ga (by kernel_rfl) _ _ (0, 0) _ (h18) Tryz.underlying28 rfl (by rw [Pro.c_size _ hr]; kernel_rfl)) <| ppq (.agg (Pro.c q)) (exec_load_row 28 (.tmp 3) (by kernel_rfl) gb (by kernel_rfl) _ _ (0, 0) _ (h19) Tryz.underlying28 rfl (by rw [Pro.c_size _ hs]; kernel_rfl)) ?_
    refine pcq 47 #[.agg (Pro.c p), .agg (Pro.c q)] Tryz.func47 ((rdoubPV _ ha hb c0).mono ?_)
    rintro e V22 ⟨rfl, kV22⟩
    refine ⟨_, rfl, ?_⟩
    have h23 := kV22.bk h18
    have h24 := kV22.bk h19
    have h25 := kV22.bk h14
    have K26 := K20.nn kV22
    have z27 := kV22.size
    refine pkq (.bool false) <| ps_end <| then_n <| sy_n (.tmp 9) (qc91_0 26) (qc91_0 27) <| sy_sk <| then_n <| sy_sq (qc91_0 14) (qc91_0 15) <| sy_reg <| rg_q 3 [0, 1, 2, 3, 4] <| ppq (.agg (Pro.c p)) (exec_load_row 28 (.tmp 2) (by kernel_rfl) ga (by kernel_rfl) _ _ (0, 0) _ (h23) Tryz.underlying28 rfl (by rw [Pro.c_size _ hr]; kernel_rfl)) <| ppq (.agg (Pro.c q)) (exec_load_row 28 (.tmp 3) (by kernel_rfl) gb (by kernel_rfl) _ _ (0, 0) _ (h24) Tryz.underlying28 rfl (by rw [Pro.c_size _ hs]; kernel_rfl)) <| ppq (.agg (Msg.c (evP p q))) (exec_build_fill 38 #[(0, .const (.int .i64 8)), (8, .const (.int .i64 3)), (11, .tmp 11), (12, .tmp 12)] (by kernel_rfl) [(0, .int .i64 8), (8, .int .i64 3), (11, .agg (Pro.c p)), (12, .agg (Pro.c q))] (by kernel_rfl) _ Tryz.underlying38 (.agg msgZ.c) (fun _ => by kernel_rfl) #[(0, 1), (1, 1), (2, 1), (3, 1), (4, 1), (5, 1), (6, 4), (10, 1), (11, 1), (12, 36), (48, 36), (84, 35), (119, 35)] (fun _ => by kernel_rfl) _ (fill_pq p q hr hs)) ?_
    obtain ⟨V28, eV28, kV28⟩ := rowset_step V22 gr ((Msg.c (evP p q)))
    have h29 : V28.heap[gr]? = some (.cells (Msg.c ((evP p q))) 38 (0, 0)) := eV28 ▸ setRow_heap _ _ _ _ _ _ h25
    refine pzq (w' := V28) (by rw [← eV28]; exact exec_store_row 38 (.tmp 4) (.tmp 13) (by kernel_rfl) gr ((Msg.c (evP p q))) (by kernel_rfl) (by kernel_rfl) 38 ((Msg.c msgZ)) h25 (by rw [Msg.c_size (evP_R hr hs)]; kernel_rfl) (by rw [Msg.c_size (evP_R hr hs)]; exact (Msg.c_size msgZ_R).symm) (Msg.c_one _)) ?_
    clear eV28
    have K32 := K26.no kV28 (by omega)
    have z33 := kV28.size
    refine pkq (.bool true) <| ps_end <| then_n <| sy_ret (by kernel_rfl) <| sy_out (.tuple #[.agg (Msg.c ((evP p q))), .bool true]) rfl (results_row_tmp (p := 4) (q := 5) (ty := 38) (by kernel_rfl) _ _ gr 38 (Msg.c ((evP p q))) (0, 0) _ (.bool true) (by kernel_rfl) h29 Tryz.underlying38 rfl (by rw [Msg.c_size (evP_R hr hs)]; kernel_rfl) (by kernel_rfl)) ?_
    exact ⟨by rw [provesP, if_pos c0]; (try rfl), K32⟩
  · have c0' := bnot c0
    refine ppq (.agg (Pro.c p)) (exec_load_row 28 (.tmp 2) (by kernel_rfl) ga (by kernel_rfl) _ _ (0, 0) _ (h18) Tryz.underlying28 rfl (by rw [Pro.c_size _ hr]; kernel_rfl)) <| ppq (.agg (Pro.c q)) (exec_load_row 28 (.tmp 3) (by kernel_rfl) gb (by kernel_rfl) _ _ (0, 0) _ (h19) Tryz.underlying28 rfl (by rw [Pro.c_size _ hs]; kernel_rfl)) ?_
    refine pcq 47 #[.agg (Pro.c p), .agg (Pro.c q)] Tryz.func47 ((rdoubPV _ ha hb c0').mono ?_)
    rintro e V34 ⟨rfl, kV34⟩
    refine ⟨_, rfl, ?_⟩
    have h37 := kV34.bk h14
    have K38 := K20.nn kV34
    have z39 := kV34.size
    refine pkq (.bool true) <| ps_end <| then_n <| sy_ys (.tmp 9) (qc91_0 26) (qc91_0 27) <| sy_sq (qc91_0 52) (qc91_0 53) <| sy_reg <| rg_q 2 [0, 1, 2] <| pkq (.agg (Msg.c msgZ)) ?_
    obtain ⟨V40, eV40, kV40⟩ := rowset_step V34 gr ((Msg.c msgZ))
    have h41 : V40.heap[gr]? = some (.cells (Msg.c msgZ) 38 (0, 0)) := eV40 ▸ setRow_heap _ _ _ _ _ _ h37
    refine pzq (w' := V40) (by rw [← eV40]; exact exec_store_row 38 (.tmp 4) (.tmp 10) (by kernel_rfl) gr ((Msg.c msgZ)) (by kernel_rfl) (by kernel_rfl) 38 ((Msg.c msgZ)) h37 (by rw [Msg.c_size msgZ_R]; kernel_rfl) rfl (Msg.c_one _)) ?_
    clear eV40
    have K44 := K38.no kV40 (by omega)
    have z45 := kV40.size
    refine pkq (.bool false) <| ps_end <| then_n <| sy_ret (by kernel_rfl) <| then_r <| sy_out (.tuple #[.agg (Msg.c msgZ), .bool false]) rfl (results_row_tmp (p := 4) (q := 5) (ty := 38) (by kernel_rfl) _ _ gr 38 (Msg.c msgZ) (0, 0) _ (.bool false) (by kernel_rfl) h41 Tryz.underlying38 rfl (by rw [Msg.c_size msgZ_R]; kernel_rfl) (by kernel_rfl)) ?_
    exact ⟨by rw [provesP, if_neg c0]; (try rfl), K44⟩
end Go.Proofs.YtcbfnflnokoacaaGreat
namespace Go.Proofs.YtcbfnflnokoacaaGreat
set_option maxRecDepth 100000
set_option maxHeartbeats 4000000
open Go Go.RowKit Go.Own Go.Shelf
end Go.Proofs.YtcbfnflnokoacaaGreat
namespace Go.Proofs.YtcbfnflnokoacaaGreat
set_option maxRecDepth 100000
set_option maxHeartbeats 4000000
open Go Go.RowKit Go.Own Go.Shelf
end Go.Proofs.YtcbfnflnokoacaaGreat
namespace Go.Proofs.YtcbfnflnokoacaaGreat
set_option maxRecDepth 100000
set_option maxHeartbeats 4000000
open Go Go.RowKit Go.Own Go.Shelf
theorem msgZ_Ok : msgZ.Ok := ⟨i64b_0, i64b_0, i64b_0, i64b_0, u64_0, u64_0, i64b_0, i64b_0, i64b_0, i64b_0, i64b_0, i64b_0, attZ_ok, attZ_ok, proZ_ok, proZ_ok⟩
theorem proves_Ok {a b : Att} (ha : a.Ok) (hb : b.Ok) : (proves a b).1.Ok := by
  unfold proves
  split
  · exact evMs_Ok (pf := 1) i64b_1 ha hb
  split
  · exact evMs_Ok (pf := 2) i64b_2 ha hb
  split
  · exact evMs_Ok (pf := 2) i64b_2 hb ha
  · exact msgZ_Ok
theorem provesP_Ok {a b : Pro} (ha : a.Ok) (hb : b.Ok) : (provesP a b).1.Ok := by
  unfold provesP
  split
  · exact evP_Ok ha hb
  · exact msgZ_Ok
end Go.Proofs.YtcbfnflnokoacaaGreat
namespace Go.Proofs.YtcbfnflnokoacaaGreat
set_option maxRecDepth 100000
set_option maxHeartbeats 4000000
open Go Go.RowKit Go.Own Go.Shelf
theorem bools_eq (b : Bool) (w : World) : (binOp .eql 4 (.bool b) (.bool b)).run Tryz.prog w = .ok (.bool true) w := by
  cases b <;> kernel_rfl
noncomputable def qc95_0 (n : Nat) : Code := partOf Tryz.f3 n
theorem evidenceProves_ok (a b : Att) (p q : Pro) (w : World) (ha : a.Ok) (hb : b.Ok) (hp : p.Ok) (hq : q.Ok) :
    Calls Tryz.prog 3 #[.agg (Att.c a), .agg (Att.c b), .agg (Pro.c p), .agg (Pro.c q)] w (fun e w' => e = .returned (.bool true) ∧ Keeps Nob w w') := by
  have hm := (proves_Ok ha hb).R
  have hn := (provesP_Ok hp hq).R
  have K0 : Keeps Nob w w := Keeps.refl _ _
  refine sy_enter (qc95_0 1) ⟨#[.agg (Att.c a), .agg (Att.c b), .agg (Pro.c p), .agg (Pro.c q), ud, ud, ud, ud, ud, ud, ud, ud, ud, ud, ud, ud, ud, ud, ud, ud, ud, ud, ud, ud, ud, ud, ud, ud, ud, ud, ud, ud, ud, ud, ud, ud, ud, ud, ud, ud, ud, ud, ud, ud, ud, ud, ud, ud, ud, ud, ud, ud, ud, ud, ud, ud, ud, ud, ud, ud, ud, ud, ud, ud, ud, ud, ud, ud, ud, ud, ud, ud, ud, ud, ud, ud, ud, ud, ud, ud, ud, ud, ud, ud, ud, ud, ud, ud, ud, ud, ud, ud, ud, ud, ud, ud, ud, ud, ud, ud, ud, ud, ud, ud, ud, ud, ud, ud], []⟩ Tryz.func3 (by kernel_rfl) (by kernel_rfl) <| sy_sq (qc95_0 2) (qc95_0 3) <| sy_reg <| rg_q 0 [0, 1, 2, 3, 4] ?_
  obtain ⟨V1, eV1, ga, ega, h2, kV1⟩ := alloc_step w ((Att.c a)) 26
  have n3 : w.heap.size ≤ ga := ega ▸ K0.size
  refine prq (pT ga 0) (w' := V1) (by rw [← eV1, ← ega]; exact exec_box 26 (.tmp 0) (by kernel_rfl) (.agg (Att.c a)) (by kernel_rfl)) ?_
  clear eV1
  have K4 := K0.nn kV1
  have z5 := kV1.size
  obtain ⟨V6, eV6, gb, egb, h7, kV6⟩ := alloc_step V1 ((Att.c b)) 26
  have n8 : ga < gb := egb ▸ lt_of_block h2
  have n9 : w.heap.size ≤ gb := egb ▸ K4.size
  refine prq (pT gb 0) (w' := V6) (by rw [← eV6, ← egb]; exact exec_box 26 (.tmp 1) (by kernel_rfl) (.agg (Att.c b)) (by kernel_rfl)) ?_
  clear eV6
  have h10 := kV6.bk h2
  have K11 := K4.nn kV6
  have z12 := kV6.size
  obtain ⟨V13, eV13, gp, egp, h14, kV13⟩ := alloc_step V6 ((Pro.c p)) 28
  have n15 : ga < gp := egp ▸ lt_of_block h10
  have n16 : gb < gp := egp ▸ lt_of_block h7
  have n17 : w.heap.size ≤ gp := egp ▸ K11.size
  refine prq (pT gp 0) (w' := V13) (by rw [← eV13, ← egp]; exact exec_box 28 (.tmp 2) (by kernel_rfl) (.agg (Pro.c p)) (by kernel_rfl)) ?_
  clear eV13
  have h18 := kV13.bk h10
  have h19 := kV13.bk h7
  have K20 := K11.nn kV13
  have z21 := kV13.size
  obtain ⟨V22, eV22, gq, egq, h23, kV22⟩ := alloc_step V13 ((Pro.c q)) 28
  have n24 : ga < gq := egq ▸ lt_of_block h18
  have n25 : gb < gq := egq ▸ lt_of_block h19
  have n26 : gp < gq := egq ▸ lt_of_block h14
  have n27 : w.heap.size ≤ gq := egq ▸ K20.size
  refine prq (pT gq 0) (w' := V22) (by rw [← eV22, ← egq]; exact exec_box 28 (.tmp 3) (by kernel_rfl) (.agg (Pro.c q)) (by kernel_rfl)) ?_
  clear eV22
  have h28 := kV22.bk h18
  have h29 := kV22.bk h19
  have h30 := kV22.bk h14
  have K31 := K20.nn kV22
  have z32 := kV22.size
  refine pkq (.bool false) <| ps_end <| then_n <| sy_sq (qc95_0 6) (qc95_0 7) <| sy_reg <| rg_q 1 [0, 1, 2, 3, 4, 5, 6, 7] <| ppq (.agg (Att.c a)) (exec_load_row 26 (.tmp 4) (by kernel_rfl) ga (by kernel_rfl) _ _ (0, 0) _ (h28) Tryz.underlying26 rfl (by rw [Att.c_size _ ha.r]; kernel_rfl)) ?_
  refine pcq 8 #[.agg (Att.c a)] Tryz.func8 ((eSeal_ok a _ ha).mono ?_)
  rintro e V33 ⟨rfl, kV33⟩
  refine ⟨_, rfl, ?_⟩
  have h34 := kV33.bk h28
  have h35 := kV33.bk h29
  have h36 := kV33.bk h30
  have h37 := kV33.bk h23
  have K38 := K31.nn kV33
  have z39 := kV33.size
  refine pkq (.tuple #[.agg (Sel.c a.sel), .int .i64 a.err]) <| pkq (.agg (Sel.c a.sel)) <| pkq (.int .i64 a.err) ?_
  obtain ⟨V40, eV40, s1, es1, h41, kV40⟩ := alloc_step V33 ((Sel.c selZ)) 30
  have n42 : ga < s1 := es1 ▸ lt_of_block h34
  have n43 : gb < s1 := es1 ▸ lt_of_block h35
  have n44 : gp < s1 := es1 ▸ lt_of_block h36
  have n45 : gq < s1 := es1 ▸ lt_of_block h37
  have n46 : w.heap.size ≤ s1 := es1 ▸ K38.size
  refine prq (pT s1 0) (w' := V40) (by rw [← eV40, ← es1]; exact exec_alloc0 30 (by kernel_rfl) (.agg ((Sel.c selZ))) (by kernel_rfl)) ?_
  clear eV40
  have h47 := kV40.bk h34
  have h48 := kV40.bk h35
  have h49 := kV40.bk h36
  have h50 := kV40.bk h37
  have K51 := K38.nn kV40
  have z52 := kV40.size
  obtain ⟨V53, eV53, kV53⟩ := rowset_step V40 s1 ((Sel.c a.sel))
  have h54 : V53.heap[s1]? = some (.cells (Sel.c a.sel) 30 (0, 0)) := eV53 ▸ setRow_heap _ _ _ _ _ _ h41
  refine pzq (w' := V53) (by rw [← eV53]; exact exec_store_row 30 (.tmp 9) (.tmp 28) (by kernel_rfl) s1 ((Sel.c a.sel)) (by kernel_rfl) (by kernel_rfl) 30 ((Sel.c selZ)) h41 (by rw [Sel.c_size _ a.sel_r]; kernel_rfl) (by rw [Sel.c_size _ a.sel_r]; rfl) (Sel.c_one _)) ?_
  clear eV53
  have h55 := kV53.bo h47 (by omega)
  have h56 := kV53.bo h48 (by omega)
  have h57 := kV53.bo h49 (by omega)
  have h58 := kV53.bo h50 (by omega)
  have K59 := K51.no kV53 (by omega)
  have z60 := kV53.size
  refine pkq (.int .i64 a.err) <| ps_end <| then_n <| sy_sq (qc95_0 14) (qc95_0 15) <| sy_reg <| rg_q 2 [0, 1, 2, 3, 4, 5, 6, 7] <| ppq (.agg (Att.c a)) (exec_load_row 26 (.tmp 4) (by kernel_rfl) ga (by kernel_rfl) _ _ (0, 0) _ (h55) Tryz.underlying26 rfl (by rw [Att.c_size _ ha.r]; kernel_rfl)) ?_
  refine pcq 9 #[.agg (Att.c a)] Tryz.func9 ((reSeal_ok a _ ha).mono ?_)
  rintro e V61 ⟨rfl, kV61⟩
  refine ⟨_, rfl, ?_⟩
  have h62 := kV61.bk h55
  have h63 := kV61.bk h56
  have h64 := kV61.bk h57
  have h65 := kV61.bk h58
  have h66 := kV61.bk h54
  have K67 := K59.nn kV61
  have z68 := kV61.size
  refine pkq (.tuple #[.agg (Sel.c a.sel), .int .i64 a.err]) <| pkq (.agg (Sel.c a.sel)) <| pkq (.int .i64 a.err) ?_
  obtain ⟨V69, eV69, s2, es2, h70, kV69⟩ := alloc_step V61 ((Sel.c selZ)) 30
  have n71 : ga < s2 := es2 ▸ lt_of_block h62
  have n72 : gb < s2 := es2 ▸ lt_of_block h63
  have n73 : gp < s2 := es2 ▸ lt_of_block h64
  have n74 : gq < s2 := es2 ▸ lt_of_block h65
  have n75 : s1 < s2 := es2 ▸ lt_of_block h66
  have n76 : w.heap.size ≤ s2 := es2 ▸ K67.size
  refine prq (pT s2 0) (w' := V69) (by rw [← eV69, ← es2]; exact exec_alloc0 30 (by kernel_rfl) (.agg ((Sel.c selZ))) (by kernel_rfl)) ?_
  clear eV69
  have h77 := kV69.bk h62
  have h78 := kV69.bk h63
  have h79 := kV69.bk h64
  have h80 := kV69.bk h65
  have h81 := kV69.bk h66
  have K82 := K67.nn kV69
  have z83 := kV69.size
  obtain ⟨V84, eV84, kV84⟩ := rowset_step V69 s2 ((Sel.c a.sel))
  have h85 : V84.heap[s2]? = some (.cells (Sel.c a.sel) 30 (0, 0)) := eV84 ▸ setRow_heap _ _ _ _ _ _ h70
  refine pzq (w' := V84) (by rw [← eV84]; exact exec_store_row 30 (.tmp 11) (.tmp 33) (by kernel_rfl) s2 ((Sel.c a.sel)) (by kernel_rfl) (by kernel_rfl) 30 ((Sel.c selZ)) h70 (by rw [Sel.c_size _ a.sel_r]; kernel_rfl) (by rw [Sel.c_size _ a.sel_r]; rfl) (Sel.c_one _)) ?_
  clear eV84
  have h86 := kV84.bo h77 (by omega)
  have h87 := kV84.bo h78 (by omega)
  have h88 := kV84.bo h79 (by omega)
  have h89 := kV84.bo h80 (by omega)
  have h90 := kV84.bo h81 (by omega)
  have K91 := K82.no kV84 (by omega)
  have z92 := kV84.size
  refine pkq (.int .i64 a.err) <| ps_end <| then_n <| sy_sq (qc95_0 30) (qc95_0 31) <| sy_reg <| rg_q 3 [0, 1, 2, 3, 4, 5, 6, 7] <| ppq (.agg (Pro.c p)) (exec_load_row 28 (.tmp 6) (by kernel_rfl) gp (by kernel_rfl) _ _ (0, 0) _ (h88) Tryz.underlying28 rfl (by rw [Pro.c_size _ hp.r]; kernel_rfl)) ?_
  refine pcq 10 #[.agg (Pro.c p)] Tryz.func10 ((eSealBlock_ok p _ hp).mono ?_)
  rintro e V93 ⟨rfl, kV93⟩
  refine ⟨_, rfl, ?_⟩
  have h94 := kV93.bk h86
  have h95 := kV93.bk h87
  have h96 := kV93.bk h88
  have h97 := kV93.bk h89
  have h98 := kV93.bk h90
  have h99 := kV93.bk h85
  have K100 := K91.nn kV93
  have z101 := kV93.size
  refine pkq (.tuple #[.agg (Sel.c p.sel), .int .i64 p.err]) <| pkq (.agg (Sel.c p.sel)) <| pkq (.int .i64 p.err) ?_
  obtain ⟨V102, eV102, s3, es3, h103, kV102⟩ := alloc_step V93 ((Sel.c selZ)) 30
  have n104 : ga < s3 := es3 ▸ lt_of_block h94
  have n105 : gb < s3 := es3 ▸ lt_of_block h95
  have n106 : gp < s3 := es3 ▸ lt_of_block h96
  have n107 : gq < s3 := es3 ▸ lt_of_block h97
  have n108 : s1 < s3 := es3 ▸ lt_of_block h98
  have n109 : s2 < s3 := es3 ▸ lt_of_block h99
  have n110 : w.heap.size ≤ s3 := es3 ▸ K100.size
  refine prq (pT s3 0) (w' := V102) (by rw [← eV102, ← es3]; exact exec_alloc0 30 (by kernel_rfl) (.agg ((Sel.c selZ))) (by kernel_rfl)) ?_
  clear eV102
  have h111 := kV102.bk h94
  have h112 := kV102.bk h95
  have h113 := kV102.bk h96
  have h114 := kV102.bk h97
  have h115 := kV102.bk h98
  have h116 := kV102.bk h99
  have K117 := K100.nn kV102
  have z118 := kV102.size
  obtain ⟨V119, eV119, kV119⟩ := rowset_step V102 s3 ((Sel.c p.sel))
  have h120 : V119.heap[s3]? = some (.cells (Sel.c p.sel) 30 (0, 0)) := eV119 ▸ setRow_heap _ _ _ _ _ _ h103
  refine pzq (w' := V119) (by rw [← eV119]; exact exec_store_row 30 (.tmp 13) (.tmp 38) (by kernel_rfl) s3 ((Sel.c p.sel)) (by kernel_rfl) (by kernel_rfl) 30 ((Sel.c selZ)) h103 (by rw [Sel.c_size _ p.sel_r]; kernel_rfl) (by rw [Sel.c_size _ p.sel_r]; rfl) (Sel.c_one _)) ?_
  clear eV119
  have h121 := kV119.bo h111 (by omega)
  have h122 := kV119.bo h112 (by omega)
  have h123 := kV119.bo h113 (by omega)
  have h124 := kV119.bo h114 (by omega)
  have h125 := kV119.bo h115 (by omega)
  have h126 := kV119.bo h116 (by omega)
  have K127 := K117.no kV119 (by omega)
  have z128 := kV119.size
  refine pkq (.int .i64 p.err) <| ps_end <| sy_a ⟨#[.agg (Att.c a), .agg (Att.c b), .agg (Pro.c p), .agg (Pro.c q), pT ga 0, pT gb 0, pT gp 0, pT gq 0, .bool false, pT s1 0, .int .i64 a.err, pT s2 0, .int .i64 a.err, pT s3 0, .int .i64 p.err, ud, ud, ud, ud, ud, ud, ud, ud, ud, ud, .tuple #[.agg (Sel.c a.sel), .int .i64 a.err], .agg (Att.c a), .tuple #[.agg (Sel.c a.sel), .int .i64 a.err], .agg (Sel.c a.sel), .int .i64 a.err, .tuple #[.agg (Sel.c a.sel), .int .i64 a.err], .agg (Att.c a), .tuple #[.agg (Sel.c a.sel), .int .i64 a.err], .agg (Sel.c a.sel), .int .i64 a.err, .tuple #[.agg (Sel.c p.sel), .int .i64 p.err], .agg (Pro.c p), .tuple #[.agg (Sel.c p.sel), .int .i64 p.err], .agg (Sel.c p.sel), .int .i64 p.err, ud, ud, ud, ud, ud, ud, ud, ud, ud, ud, ud, ud, ud, ud, ud, ud, ud, ud, ud, ud, ud, ud, ud, ud, ud, ud, ud, ud, ud, ud, ud, ud, ud, ud, ud, ud, ud, ud, ud, ud, ud, ud, ud, ud, ud, ud, ud, ud, ud, ud, ud, ud, ud, ud, ud, ud, ud, ud, ud, ud, ud, ud, ud, ud, ud, ud, ud, ud], []⟩ <| then_n <| sy_sq (qc95_0 62) (qc95_0 63) <| sy_reg <| rg_q 4 [0, 1, 2, 3, 4, 5, 6, 7] <| ppq (.agg (Pro.c p)) (exec_load_row 28 (.tmp 6) (by kernel_rfl) gp (by kernel_rfl) _ _ (0, 0) _ (h123) Tryz.underlying28 rfl (by rw [Pro.c_size _ hp.r]; kernel_rfl)) ?_
  refine pcq 11 #[.agg (Pro.c p)] Tryz.func11 ((reSealBlock_ok p _ hp).mono ?_)
  rintro e V129 ⟨rfl, kV129⟩
  refine ⟨_, rfl, ?_⟩
  have h130 := kV129.bk h121
  have h131 := kV129.bk h122
  have h132 := kV129.bk h123
  have h133 := kV129.bk h124
  have h134 := kV129.bk h125
  have h135 := kV129.bk h126
  have h136 := kV129.bk h120
  have K137 := K127.nn kV129
  have z138 := kV129.size
  refine pkq (.tuple #[.agg (Sel.c p.sel), .int .i64 p.err]) <| pkq (.agg (Sel.c p.sel)) <| pkq (.int .i64 p.err) ?_
  obtain ⟨V139, eV139, s4, es4, h140, kV139⟩ := alloc_step V129 ((Sel.c selZ)) 30
  have n141 : ga < s4 := es4 ▸ lt_of_block h130
  have n142 : gb < s4 := es4 ▸ lt_of_block h131
  have n143 : gp < s4 := es4 ▸ lt_of_block h132
  have n144 : gq < s4 := es4 ▸ lt_of_block h133
  have n145 : s1 < s4 := es4 ▸ lt_of_block h134
  have n146 : s2 < s4 := es4 ▸ lt_of_block h135
  have n147 : s3 < s4 := es4 ▸ lt_of_block h136
  have n148 : w.heap.size ≤ s4 := es4 ▸ K137.size
  refine prq (pT s4 0) (w' := V139) (by rw [← eV139, ← es4]; exact exec_alloc0 30 (by kernel_rfl) (.agg ((Sel.c selZ))) (by kernel_rfl)) ?_
  clear eV139
  have h149 := kV139.bk h130
  have h150 := kV139.bk h131
  have h151 := kV139.bk h132
  have h152 := kV139.bk h133
  have h153 := kV139.bk h134
  have h154 := kV139.bk h135
  have h155 := kV139.bk h136
  have K156 := K137.nn kV139
  have z157 := kV139.size
  obtain ⟨V158, eV158, kV158⟩ := rowset_step V139 s4 ((Sel.c p.sel))
  have h159 : V158.heap[s4]? = some (.cells (Sel.c p.sel) 30 (0, 0)) := eV158 ▸ setRow_heap _ _ _ _ _ _ h140
  refine pzq (w' := V158) (by rw [← eV158]; exact exec_store_row 30 (.tmp 15) (.tmp 43) (by kernel_rfl) s4 ((Sel.c p.sel)) (by kernel_rfl) (by kernel_rfl) 30 ((Sel.c selZ)) h140 (by rw [Sel.c_size _ p.sel_r]; kernel_rfl) (by rw [Sel.c_size _ p.sel_r]; rfl) (Sel.c_one _)) ?_
  clear eV158
  have h160 := kV158.bo h149 (by omega)
  have h161 := kV158.bo h150 (by omega)
  have h162 := kV158.bo h151 (by omega)
  have h163 := kV158.bo h152 (by omega)
  have h164 := kV158.bo h153 (by omega)
  have h165 := kV158.bo h154 (by omega)
  have h166 := kV158.bo h155 (by omega)
  have K167 := K156.no kV158 (by omega)
  have z168 := kV158.size
  refine pkq (.int .i64 p.err) <| ps_end <| then_n <| sy_sq (qc95_0 126) (qc95_0 127) <| sy_sq (qc95_0 252) (qc95_0 253) <| sy_reg <| rg_q 5 [0, 1, 2, 3, 4, 5, 6, 7, 8, 9, 10, 11, 12, 13, 14, 15, 16, 17] <| ppq (.agg (Sel.c a.sel)) (exec_load_row 30 (.tmp 9) (by kernel_rfl) s1 (by kernel_rfl) _ _ (0, 0) _ (h164) Tryz.underlying30 rfl (by rw [Sel.c_size _ a.sel_r]; kernel_rfl)) <| ppq (.agg (Sel.c a.sel)) (exec_load_row 30 (.tmp 11) (by kernel_rfl) s2 (by kernel_rfl) _ _ (0, 0) _ (h165) Tryz.underlying30 rfl (by rw [Sel.c_size _ a.sel_r]; kernel_rfl)) <| ppq (.bool false) (exec_cast (congrArg Value.bool (by simp)) (exec_binop .neq 30 30 (.tmp 45) (.tmp 46) (by kernel_rfl) (.agg (Sel.c a.sel)) (.agg (Sel.c a.sel)) _ (by kernel_rfl) (by kernel_rfl) (run_eqGuard_agg _ _ _ _ _ _ _ sel_guard) (sel_ne _ _ a.sel_r a.sel_r _))) <| pkq (.bool false) <| pkq (.int .i64 a.err) <| pkq (.int .i64 a.err) <| ppq (.bool false) (nqf ((a.err) : Int) ((a.err) : Int) (by omega)) ?_
  refine pkq (.bool false) <| pkq (.bool false) <| ppq (.agg (Sel.c p.sel)) (exec_load_row 30 (.tmp 13) (by kernel_rfl) s3 (by kernel_rfl) _ _ (0, 0) _ (h166) Tryz.underlying30 rfl (by rw [Sel.c_size _ p.sel_r]; kernel_rfl)) <| ppq (.agg (Sel.c p.sel)) (exec_load_row 30 (.tmp 15) (by kernel_rfl) s4 (by kernel_rfl) _ _ (0, 0) _ (h159) Tryz.underlying30 rfl (by rw [Sel.c_size _ p.sel_r]; kernel_rfl)) <| ppq (.bool false) (exec_cast (congrArg Value.bool (by simp)) (exec_binop .neq 30 30 (.tmp 54) (.tmp 55) (by kernel_rfl) (.agg (Sel.c p.sel)) (.agg (Sel.c p.sel)) _ (by kernel_rfl) (by kernel_rfl) (run_eqGuard_agg _ _ _ _ _ _ _ sel_guard) (sel_ne _ _ p.sel_r p.sel_r _))) <| pkq (.bool false) <| pkq (.bool false) <| pkq (.int .i64 p.err) <| pkq (.int .i64 p.err) <| ppq (.bool false) (nqf ((p.err) : Int) ((p.err) : Int) (by omega)) <| pkq (.bool false) <| ps_end <| sy_a ⟨#[.agg (Att.c a), .agg (Att.c b), .agg (Pro.c p), .agg (Pro.c q), pT ga 0, pT gb 0, pT gp 0, pT gq 0, .bool false, pT s1 0, .int .i64 a.err, pT s2 0, .int .i64 a.err, pT s3 0, .int .i64 p.err, pT s4 0, .int .i64 p.err, ud, ud, ud, ud, ud, ud, ud, ud, .tuple #[.agg (Sel.c a.sel), .int .i64 a.err], .agg (Att.c a), .tuple #[.agg (Sel.c a.sel), .int .i64 a.err], .agg (Sel.c a.sel), .int .i64 a.err, .tuple #[.agg (Sel.c a.sel), .int .i64 a.err], .agg (Att.c a), .tuple #[.agg (Sel.c a.sel), .int .i64 a.err], .agg (Sel.c a.sel), .int .i64 a.err, .tuple #[.agg (Sel.c p.sel), .int .i64 p.err], .agg (Pro.c p), .tuple #[.agg (Sel.c p.sel), .int .i64 p.err], .agg (Sel.c p.sel), .int .i64 p.err, .tuple #[.agg (Sel.c p.sel), .int .i64 p.err], .agg (Pro.c p), .tuple #[.agg (Sel.c p.sel), .int .i64 p.err], .agg (Sel.c p.sel), .int .i64 p.err, .agg (Sel.c a.sel), .agg (Sel.c a.sel), .bool false, .bool false, .int .i64 a.err, .int .i64 a.err, .bool false, .bool false, .bool false, .agg (Sel.c p.sel), .agg (Sel.c p.sel), .bool false, .bool false, .bool false, .int .i64 p.err, .int .i64 p.err, .bool false, .bool false, ud, ud, ud, ud, ud, ud, ud, ud, ud, ud, ud, ud, ud, ud, ud, ud, ud, ud, ud, ud, ud, ud, ud, ud, ud, ud, ud, ud, ud, ud, ud, ud, ud, ud, ud, ud, ud, ud, ud, ud, ud, ud, ud, ud, ud], []⟩ <| then_n ?_
  refine sy_n (.tmp 62) (qc95_0 506) (qc95_0 507) <| sy_sk <| then_n <| sy_sq (qc95_0 254) (qc95_0 255) <| sy_reg <| rg_q 7 [0, 1, 2, 3, 4, 5, 6, 7, 8] <| ppq (.agg (Att.c a)) (exec_load_row 26 (.tmp 4) (by kernel_rfl) ga (by kernel_rfl) _ _ (0, 0) _ (h160) Tryz.underlying26 rfl (by rw [Att.c_size _ ha.r]; kernel_rfl)) <| ppq (.agg (Att.c b)) (exec_load_row 26 (.tmp 5) (by kernel_rfl) gb (by kernel_rfl) _ _ (0, 0) _ (h161) Tryz.underlying26 rfl (by rw [Att.c_size _ hb.r]; kernel_rfl)) ?_
  refine pcq 12 #[.agg (Att.c a), .agg (Att.c b)] Tryz.func12 ((eProve_ok a b _ ha hb).mono ?_)
  rintro e V169 ⟨rfl, kV169⟩
  refine ⟨_, rfl, ?_⟩
  have h170 := kV169.bk h160
  have h171 := kV169.bk h161
  have h172 := kV169.bk h162
  have h173 := kV169.bk h163
  have h174 := kV169.bk h164
  have h175 := kV169.bk h165
  have h176 := kV169.bk h166
  have h177 := kV169.bk h159
  have K178 := K167.nn kV169
  have z179 := kV169.size
  refine pkq (.tuple #[.agg (Msg.c (proves a b).1), .bool (proves a b).2]) <| pkq (.agg (Msg.c (proves a b).1)) <| pkq (.bool (proves a b).2) ?_
  obtain ⟨V180, eV180, m1, em1, h181, kV180⟩ := alloc_step V169 ((Msg.c msgZ)) 38
  have n182 : ga < m1 := em1 ▸ lt_of_block h170
  have n183 : gb < m1 := em1 ▸ lt_of_block h171
  have n184 : gp < m1 := em1 ▸ lt_of_block h172
  have n185 : gq < m1 := em1 ▸ lt_of_block h173
  have n186 : s1 < m1 := em1 ▸ lt_of_block h174
  have n187 : s2 < m1 := em1 ▸ lt_of_block h175
  have n188 : s3 < m1 := em1 ▸ lt_of_block h176
  have n189 : s4 < m1 := em1 ▸ lt_of_block h177
  have n190 : w.heap.size ≤ m1 := em1 ▸ K178.size
  refine prq (pT m1 0) (w' := V180) (by rw [← eV180, ← em1]; exact exec_alloc0 38 (by kernel_rfl) (.agg ((Msg.c msgZ))) (by kernel_rfl)) ?_
  clear eV180
  have h191 := kV180.bk h170
  have h192 := kV180.bk h171
  have h193 := kV180.bk h172
  have h194 := kV180.bk h173
  have h195 := kV180.bk h174
  have h196 := kV180.bk h175
  have h197 := kV180.bk h176
  have h198 := kV180.bk h177
  have K199 := K178.nn kV180
  have z200 := kV180.size
  obtain ⟨V201, eV201, kV201⟩ := rowset_step V180 m1 ((Msg.c (proves a b).1))
  have h202 : V201.heap[m1]? = some (.cells (Msg.c ((proves a b).1)) 38 (0, 0)) := eV201 ▸ setRow_heap _ _ _ _ _ _ h181
  refine pzq (w' := V201) (by rw [← eV201]; exact exec_store_row 38 (.tmp 17) (.tmp 67) (by kernel_rfl) m1 ((Msg.c (proves a b).1)) (by kernel_rfl) (by kernel_rfl) 38 ((Msg.c msgZ)) h181 (by rw [Msg.c_size hm]; kernel_rfl) (by rw [Msg.c_size hm]; exact (Msg.c_size msgZ_R).symm) (Msg.c_one _)) ?_
  clear eV201
  have h203 := kV201.bo h191 (by omega)
  have h204 := kV201.bo h192 (by omega)
  have h205 := kV201.bo h193 (by omega)
  have h206 := kV201.bo h194 (by omega)
  have h207 := kV201.bo h195 (by omega)
  have h208 := kV201.bo h196 (by omega)
  have h209 := kV201.bo h197 (by omega)
  have h210 := kV201.bo h198 (by omega)
  have K211 := K199.no kV201 (by omega)
  have z212 := kV201.size
  refine pkq (.bool (proves a b).2) <| ps_end <| then_n <| sy_sq (qc95_0 510) (qc95_0 511) <| sy_reg <| rg_q 8 [0, 1, 2, 3, 4, 5, 6, 7, 8] <| ppq (.agg (Att.c a)) (exec_load_row 26 (.tmp 4) (by kernel_rfl) ga (by kernel_rfl) _ _ (0, 0) _ (h203) Tryz.underlying26 rfl (by rw [Att.c_size _ ha.r]; kernel_rfl)) <| ppq (.agg (Att.c b)) (exec_load_row 26 (.tmp 5) (by kernel_rfl) gb (by kernel_rfl) _ _ (0, 0) _ (h204) Tryz.underlying26 rfl (by rw [Att.c_size _ hb.r]; kernel_rfl)) ?_
  refine pcq 13 #[.agg (Att.c a), .agg (Att.c b)] Tryz.func13 ((reProve_ok a b _ ha hb).mono ?_)
  rintro e V213 ⟨rfl, kV213⟩
  refine ⟨_, rfl, ?_⟩
  have h214 := kV213.bk h203
  have h215 := kV213.bk h204
  have h216 := kV213.bk h205
  have h217 := kV213.bk h206
  have h218 := kV213.bk h207
  have h219 := kV213.bk h208
  have h220 := kV213.bk h209
  have h221 := kV213.bk h210
  have h222 := kV213.bk h202
  have K223 := K211.nn kV213
  have z224 := kV213.size
  refine pkq (.tuple #[.agg (Msg.c (proves a b).1), .bool (proves a b).2]) <| pkq (.agg (Msg.c (proves a b).1)) <| pkq (.bool (proves a b).2) ?_
  obtain ⟨V225, eV225, m2, em2, h226, kV225⟩ := alloc_step V213 ((Msg.c msgZ)) 38
  have n227 : ga < m2 := em2 ▸ lt_of_block h214
  have n228 : gb < m2 := em2 ▸ lt_of_block h215
  have n229 : gp < m2 := em2 ▸ lt_of_block h216
  have n230 : gq < m2 := em2 ▸ lt_of_block h217
  have n231 : s1 < m2 := em2 ▸ lt_of_block h218
  have n232 : s2 < m2 := em2 ▸ lt_of_block h219
  have n233 : s3 < m2 := em2 ▸ lt_of_block h220
  have n234 : s4 < m2 := em2 ▸ lt_of_block h221
  have n235 : m1 < m2 := em2 ▸ lt_of_block h222
  have n236 : w.heap.size ≤ m2 := em2 ▸ K223.size
  refine prq (pT m2 0) (w' := V225) (by rw [← eV225, ← em2]; exact exec_alloc0 38 (by kernel_rfl) (.agg ((Msg.c msgZ))) (by kernel_rfl)) ?_
  clear eV225
  have h237 := kV225.bk h214
  have h238 := kV225.bk h215
  have h239 := kV225.bk h216
  have h240 := kV225.bk h217
  have h241 := kV225.bk h218
  have h242 := kV225.bk h219
  have h243 := kV225.bk h220
  have h244 := kV225.bk h221
  have h245 := kV225.bk h222
  have K246 := K223.nn kV225
  have z247 := kV225.size
  obtain ⟨V248, eV248, kV248⟩ := rowset_step V225 m2 ((Msg.c (proves a b).1))
  have h249 : V248.heap[m2]? = some (.cells (Msg.c ((proves a b).1)) 38 (0, 0)) := eV248 ▸ setRow_heap _ _ _ _ _ _ h226
  refine pzq (w' := V248) (by rw [← eV248]; exact exec_store_row 38 (.tmp 19) (.tmp 73) (by kernel_rfl) m2 ((Msg.c (proves a b).1)) (by kernel_rfl) (by kernel_rfl) 38 ((Msg.c msgZ)) h226 (by rw [Msg.c_size hm]; kernel_rfl) (by rw [Msg.c_size hm]; exact (Msg.c_size msgZ_R).symm) (Msg.c_one _)) ?_
  clear eV248
  have h250 := kV248.bo h237 (by omega)
  have h251 := kV248.bo h238 (by omega)
  have h252 := kV248.bo h239 (by omega)
  have h253 := kV248.bo h240 (by omega)
  have h254 := kV248.bo h241 (by omega)
  have h255 := kV248.bo h242 (by omega)
  have h256 := kV248.bo h243 (by omega)
  have h257 := kV248.bo h244 (by omega)
  have h258 := kV248.bo h245 (by omega)
  have K259 := K246.no kV248 (by omega)
  have z260 := kV248.size
  refine pkq (.bool (proves a b).2) <| ps_end <| then_n <| sy_sq (qc95_0 1022) (qc95_0 1023) <| sy_reg <| rg_q 9 [0, 1, 2, 3, 4, 5, 6, 7, 8] <| ppq (.agg (Pro.c p)) (exec_load_row 28 (.tmp 6) (by kernel_rfl) gp (by kernel_rfl) _ _ (0, 0) _ (h252) Tryz.underlying28 rfl (by rw [Pro.c_size _ hp.r]; kernel_rfl)) <| ppq (.agg (Pro.c q)) (exec_load_row 28 (.tmp 7) (by kernel_rfl) gq (by kernel_rfl) _ _ (0, 0) _ (h253) Tryz.underlying28 rfl (by rw [Pro.c_size _ hq.r]; kernel_rfl)) ?_
  refine pcq 14 #[.agg (Pro.c p), .agg (Pro.c q)] Tryz.func14 ((eProveBlock_ok p q _ hp hq).mono ?_)
  rintro e V261 ⟨rfl, kV261⟩
  refine ⟨_, rfl, ?_⟩
  have h262 := kV261.bk h250
  have h263 := kV261.bk h251
  have h264 := kV261.bk h252
  have h265 := kV261.bk h253
  have h266 := kV261.bk h254
  have h267 := kV261.bk h255
  have h268 := kV261.bk h256
  have h269 := kV261.bk h257
  have h270 := kV261.bk h258
  have h271 := kV261.bk h249
  have K272 := K259.nn kV261
  have z273 := kV261.size
  refine pkq (.tuple #[.agg (Msg.c (provesP p q).1), .bool (provesP p q).2]) <| pkq (.agg (Msg.c (provesP p q).1)) <| pkq (.bool (provesP p q).2) ?_
  obtain ⟨V274, eV274, m3, em3, h275, kV274⟩ := alloc_step V261 ((Msg.c msgZ)) 38
  have n276 : ga < m3 := em3 ▸ lt_of_block h262
  have n277 : gb < m3 := em3 ▸ lt_of_block h263
  have n278 : gp < m3 := em3 ▸ lt_of_block h264
  have n279 : gq < m3 := em3 ▸ lt_of_block h265
  have n280 : s1 < m3 := em3 ▸ lt_of_block h266
  have n281 : s2 < m3 := em3 ▸ lt_of_block h267
  have n282 : s3 < m3 := em3 ▸ lt_of_block h268
  have n283 : s4 < m3 := em3 ▸ lt_of_block h269
  have n284 : m1 < m3 := em3 ▸ lt_of_block h270
  have n285 : m2 < m3 := em3 ▸ lt_of_block h271
  have n286 : w.heap.size ≤ m3 := em3 ▸ K272.size
  refine prq (pT m3 0) (w' := V274) (by rw [← eV274, ← em3]; exact exec_alloc0 38 (by kernel_rfl) (.agg ((Msg.c msgZ))) (by kernel_rfl)) ?_
  clear eV274
  have h287 := kV274.bk h262
  have h288 := kV274.bk h263
  have h289 := kV274.bk h264
  have h290 := kV274.bk h265
  have h291 := kV274.bk h266
  have h292 := kV274.bk h267
  have h293 := kV274.bk h268
  have h294 := kV274.bk h269
  have h295 := kV274.bk h270
  have h296 := kV274.bk h271
  have K297 := K272.nn kV274
  have z298 := kV274.size
  obtain ⟨V299, eV299, kV299⟩ := rowset_step V274 m3 ((Msg.c (provesP p q).1))
  have h300 : V299.heap[m3]? = some (.cells (Msg.c ((provesP p q).1)) 38 (0, 0)) := eV299 ▸ setRow_heap _ _ _ _ _ _ h275
  refine pzq (w' := V299) (by rw [← eV299]; exact exec_store_row 38 (.tmp 21) (.tmp 79) (by kernel_rfl) m3 ((Msg.c (provesP p q).1)) (by kernel_rfl) (by kernel_rfl) 38 ((Msg.c msgZ)) h275 (by rw [Msg.c_size hn]; kernel_rfl) (by rw [Msg.c_size hn]; exact (Msg.c_size msgZ_R).symm) (Msg.c_one _)) ?_
  clear eV299
  have h301 := kV299.bo h287 (by omega)
  have h302 := kV299.bo h288 (by omega)
  have h303 := kV299.bo h289 (by omega)
  have h304 := kV299.bo h290 (by omega)
  have h305 := kV299.bo h291 (by omega)
  have h306 := kV299.bo h292 (by omega)
  have h307 := kV299.bo h293 (by omega)
  have h308 := kV299.bo h294 (by omega)
  have h309 := kV299.bo h295 (by omega)
  have h310 := kV299.bo h296 (by omega)
  have K311 := K297.no kV299 (by omega)
  have z312 := kV299.size
  refine pkq (.bool (provesP p q).2) <| ps_end <| sy_a ⟨#[.agg (Att.c a), .agg (Att.c b), .agg (Pro.c p), .agg (Pro.c q), pT ga 0, pT gb 0, pT gp 0, pT gq 0, .bool false, pT s1 0, .int .i64 a.err, pT s2 0, .int .i64 a.err, pT s3 0, .int .i64 p.err, pT s4 0, .int .i64 p.err, pT m1 0, .bool (proves a b).2, pT m2 0, .bool (proves a b).2, pT m3 0, .bool (provesP p q).2, ud, ud, .tuple #[.agg (Sel.c a.sel), .int .i64 a.err], .agg (Att.c a), .tuple #[.agg (Sel.c a.sel), .int .i64 a.err], .agg (Sel.c a.sel), .int .i64 a.err, .tuple #[.agg (Sel.c a.sel), .int .i64 a.err], .agg (Att.c a), .tuple #[.agg (Sel.c a.sel), .int .i64 a.err], .agg (Sel.c a.sel), .int .i64 a.err, .tuple #[.agg (Sel.c p.sel), .int .i64 p.err], .agg (Pro.c p), .tuple #[.agg (Sel.c p.sel), .int .i64 p.err], .agg (Sel.c p.sel), .int .i64 p.err, .tuple #[.agg (Sel.c p.sel), .int .i64 p.err], .agg (Pro.c p), .tuple #[.agg (Sel.c p.sel), .int .i64 p.err], .agg (Sel.c p.sel), .int .i64 p.err, .agg (Sel.c a.sel), .agg (Sel.c a.sel), .bool false, .bool false, .int .i64 a.err, .int .i64 a.err, .bool false, .bool false, .bool false, .agg (Sel.c p.sel), .agg (Sel.c p.sel), .bool false, .bool false, .bool false, .int .i64 p.err, .int .i64 p.err, .bool false, .bool false, .tuple #[.agg (Msg.c (proves a b).1), .bool (proves a b).2], .agg (Att.c a), .agg (Att.c b), .tuple #[.agg (Msg.c (proves a b).1), .bool (proves a b).2], .agg (Msg.c (proves a b).1), .bool (proves a b).2, .tuple #[.agg (Msg.c (proves a b).1), .bool (proves a b).2], .agg (Att.c a), .agg (Att.c b), .tuple #[.agg (Msg.c (proves a b).1), .bool (proves a b).2], .agg (Msg.c (proves a b).1), .bool (proves a b).2, .tuple #[.agg (Msg.c (provesP p q).1), .bool (provesP p q).2], .agg (Pro.c p), .agg (Pro.c q), .tuple #[.agg (Msg.c (provesP p q).1), .bool (provesP p q).2], .agg (Msg.c (provesP p q).1), .bool (provesP p q).2, ud, ud, ud, ud, ud, ud, ud, ud, ud, ud, ud, ud, ud, ud, ud, ud, ud, ud, ud, ud, ud, ud, ud, ud, ud, ud, ud], []⟩ <| then_n <| sy_sq (qc95_0 2046) (qc95_0 2047) <| sy_reg <| rg_q 10 [0, 1, 2, 3, 4, 5, 6, 7, 8] <| ppq (.agg (Pro.c p)) (exec_load_row 28 (.tmp 6) (by kernel_rfl) gp (by kernel_rfl) _ _ (0, 0) _ (h303) Tryz.underlying28 rfl (by rw [Pro.c_size _ hp.r]; kernel_rfl)) <| ppq (.agg (Pro.c q)) (exec_load_row 28 (.tmp 7) (by kernel_rfl) gq (by kernel_rfl) _ _ (0, 0) _ (h304) Tryz.underlying28 rfl (by rw [Pro.c_size _ hq.r]; kernel_rfl)) ?_
  refine pcq 15 #[.agg (Pro.c p), .agg (Pro.c q)] Tryz.func15 ((reProveBlock_ok p q _ hp hq).mono ?_)
  rintro e V313 ⟨rfl, kV313⟩
  refine ⟨_, rfl, ?_⟩
  have h314 := kV313.bk h301
  have h315 := kV313.bk h302
  have h316 := kV313.bk h303
  have h317 := kV313.bk h304
  have h318 := kV313.bk h305
  have h319 := kV313.bk h306
  have h320 := kV313.bk h307
  have h321 := kV313.bk h308
  have h322 := kV313.bk h309
  have h323 := kV313.bk h310
  have h324 := kV313.bk h300
  have K325 := K311.nn kV313
  have z326 := kV313.size
  refine pkq (.tuple #[.agg (Msg.c (provesP p q).1), .bool (provesP p q).2]) <| pkq (.agg (Msg.c (provesP p q).1)) <| pkq (.bool (provesP p q).2) ?_
  obtain ⟨V327, eV327, m4, em4, h328, kV327⟩ := alloc_step V313 ((Msg.c msgZ)) 38
  have n329 : ga < m4 := em4 ▸ lt_of_block h314
  have n330 : gb < m4 := em4 ▸ lt_of_block h315
  have n331 : gp < m4 := em4 ▸ lt_of_block h316
  have n332 : gq < m4 := em4 ▸ lt_of_block h317
  have n333 : s1 < m4 := em4 ▸ lt_of_block h318
  have n334 : s2 < m4 := em4 ▸ lt_of_block h319
  have n335 : s3 < m4 := em4 ▸ lt_of_block h320
  have n336 : s4 < m4 := em4 ▸ lt_of_block h321
  have n337 : m1 < m4 := em4 ▸ lt_of_block h322
  have n338 : m2 < m4 := em4 ▸ lt_of_block h323
  have n339 : m3 < m4 := em4 ▸ lt_of_block h324
  have n340 : w.heap.size ≤ m4 := em4 ▸ K325.size
  refine prq (pT m4 0) (w' := V327) (by rw [← eV327, ← em4]; exact exec_alloc0 38 (by kernel_rfl) (.agg ((Msg.c msgZ))) (by kernel_rfl)) ?_
  clear eV327
  have h349 := kV327.bk h322
  have h350 := kV327.bk h323
  have h351 := kV327.bk h324
  have K352 := K325.nn kV327
  have z353 := kV327.size
  obtain ⟨V354, eV354, kV354⟩ := rowset_step V327 m4 ((Msg.c (provesP p q).1))
  have h355 : V354.heap[m4]? = some (.cells (Msg.c ((provesP p q).1)) 38 (0, 0)) := eV354 ▸ setRow_heap _ _ _ _ _ _ h328
  refine pzq (w' := V354) (by rw [← eV354]; exact exec_store_row 38 (.tmp 23) (.tmp 85) (by kernel_rfl) m4 ((Msg.c (provesP p q).1)) (by kernel_rfl) (by kernel_rfl) 38 ((Msg.c msgZ)) h328 (by rw [Msg.c_size hn]; kernel_rfl) (by rw [Msg.c_size hn]; exact (Msg.c_size msgZ_R).symm) (Msg.c_one _)) ?_
  clear eV354
  have h364 := kV354.bo h349 (by omega)
  have h365 := kV354.bo h350 (by omega)
  have h366 := kV354.bo h351 (by omega)
  have K367 := K352.no kV354 (by omega)
  have z368 := kV354.size
  refine pkq (.bool (provesP p q).2) <| ps_end <| then_n <| sy_sq (qc95_0 4094) (qc95_0 4095) <| sy_reg <| rg_q 11 [0, 1, 2, 3, 4, 5, 6, 7, 8, 9, 10, 11, 12, 13, 14, 15, 16, 17, 18, 19, 20, 21] <| ppq (.agg (Msg.c ((proves a b).1))) (exec_load_row 38 (.tmp 17) (by kernel_rfl) m1 (by kernel_rfl) _ _ (0, 0) _ (h364) Tryz.underlying38 rfl (by rw [Msg.c_size hm]; kernel_rfl)) <| ppq (.agg (Msg.c ((proves a b).1))) (exec_load_row 38 (.tmp 19) (by kernel_rfl) m2 (by kernel_rfl) _ _ (0, 0) _ (h365) Tryz.underlying38 rfl (by rw [Msg.c_size hm]; kernel_rfl)) <| ppq (.bool true) (exec_cast (congrArg Value.bool (by simp)) (exec_binop .eql 38 38 (.tmp 87) (.tmp 88) (by kernel_rfl) (.agg (Msg.c (proves a b).1)) (.agg (Msg.c (proves a b).1)) _ (by kernel_rfl) (by kernel_rfl) (run_eqGuard_agg _ _ _ _ _ _ _ msg_guard) (msg_eq _ _ hm hm _))) <| pkq (.bool true) <| pkq (.bool (proves a b).2) <| pkq (.bool (proves a b).2) <| ppq (.bool true) (exec_binop .eql 4 4 (.tmp 91) (.tmp 92) (by kernel_rfl) (.bool (proves a b).2) (.bool (proves a b).2) _ (by kernel_rfl) (by kernel_rfl) (by kernel_rfl) (bools_eq _ _)) <| pkq (.bool true) ?_
  refine pkq (.bool true) <| ppq (.agg (Msg.c ((provesP p q).1))) (exec_load_row 38 (.tmp 21) (by kernel_rfl) m3 (by kernel_rfl) _ _ (0, 0) _ (h366) Tryz.underlying38 rfl (by rw [Msg.c_size hn]; kernel_rfl)) <| ppq (.agg (Msg.c ((provesP p q).1))) (exec_load_row 38 (.tmp 23) (by kernel_rfl) m4 (by kernel_rfl) _ _ (0, 0) _ (h355) Tryz.underlying38 rfl (by rw [Msg.c_size hn]; kernel_rfl)) <| ppq (.bool true) (exec_cast (congrArg Value.bool (by simp)) (exec_binop .eql 38 38 (.tmp 96) (.tmp 97) (by kernel_rfl) (.agg (Msg.c (provesP p q).1)) (.agg (Msg.c (provesP p q).1)) _ (by kernel_rfl) (by kernel_rfl) (run_eqGuard_agg _ _ _ _ _ _ _ msg_guard) (msg_eq _ _ hn hn _))) <| pkq (.bool true) <| pkq (.bool true) <| pkq (.bool (provesP p q).2) <| pkq (.bool (provesP p q).2) <| ppq (.bool true) (exec_binop .eql 4 4 (.tmp 101) (.tmp 102) (by kernel_rfl) (.bool (provesP p q).2) (.bool (provesP p q).2) _ (by kernel_rfl) (by kernel_rfl) (by kernel_rfl) (bools_eq _ _)) <| pkq (.bool true) <| pkq (.bool true) ?_
  refine pcq 16 #[] Tryz.func16 ((leawake_ok _).mono ?_)
  rintro e V369 ⟨rfl, kV369⟩
  refine ⟨_, rfl, ?_⟩
  have K382 := K367.nn kV369
  have z383 := kV369.size
  refine pkq (.bool true) <| pkq (.bool true) <| ps_end <| sy_a ⟨#[.agg (Att.c a), .agg (Att.c b), .agg (Pro.c p), .agg (Pro.c q), pT ga 0, pT gb 0, pT gp 0, pT gq 0, .bool true, pT s1 0, .int .i64 a.err, pT s2 0, .int .i64 a.err, pT s3 0, .int .i64 p.err, pT s4 0, .int .i64 p.err, pT m1 0, .bool (proves a b).2, pT m2 0, .bool (proves a b).2, pT m3 0, .bool (provesP p q).2, pT m4 0, .bool (provesP p q).2, .tuple #[.agg (Sel.c a.sel), .int .i64 a.err], .agg (Att.c a), .tuple #[.agg (Sel.c a.sel), .int .i64 a.err], .agg (Sel.c a.sel), .int .i64 a.err, .tuple #[.agg (Sel.c a.sel), .int .i64 a.err], .agg (Att.c a), .tuple #[.agg (Sel.c a.sel), .int .i64 a.err], .agg (Sel.c a.sel), .int .i64 a.err, .tuple #[.agg (Sel.c p.sel), .int .i64 p.err], .agg (Pro.c p), .tuple #[.agg (Sel.c p.sel), .int .i64 p.err], .agg (Sel.c p.sel), .int .i64 p.err, .tuple #[.agg (Sel.c p.sel), .int .i64 p.err], .agg (Pro.c p), .tuple #[.agg (Sel.c p.sel), .int .i64 p.err], .agg (Sel.c p.sel), .int .i64 p.err, .agg (Sel.c a.sel), .agg (Sel.c a.sel), .bool false, .bool false, .int .i64 a.err, .int .i64 a.err, .bool false, .bool false, .bool false, .agg (Sel.c p.sel), .agg (Sel.c p.sel), .bool false, .bool false, .bool false, .int .i64 p.err, .int .i64 p.err, .bool false, .bool false, .tuple #[.agg (Msg.c (proves a b).1), .bool (proves a b).2], .agg (Att.c a), .agg (Att.c b), .tuple #[.agg (Msg.c (proves a b).1), .bool (proves a b).2], .agg (Msg.c (proves a b).1), .bool (proves a b).2, .tuple #[.agg (Msg.c (proves a b).1), .bool (proves a b).2], .agg (Att.c a), .agg (Att.c b), .tuple #[.agg (Msg.c (proves a b).1), .bool (proves a b).2], .agg (Msg.c (proves a b).1), .bool (proves a b).2, .tuple #[.agg (Msg.c (provesP p q).1), .bool (provesP p q).2], .agg (Pro.c p), .agg (Pro.c q), .tuple #[.agg (Msg.c (provesP p q).1), .bool (provesP p q).2], .agg (Msg.c (provesP p q).1), .bool (provesP p q).2, .tuple #[.agg (Msg.c (provesP p q).1), .bool (provesP p q).2], .agg (Pro.c p), .agg (Pro.c q), .tuple #[.agg (Msg.c (provesP p q).1), .bool (provesP p q).2], .agg (Msg.c (provesP p q).1), .bool (provesP p q).2, .agg (Msg.c ((proves a b).1)), .agg (Msg.c ((proves a b).1)), .bool true, .bool true, .bool (proves a b).2, .bool (proves a b).2, .bool true, .bool true, .bool true, .agg (Msg.c ((provesP p q).1)), .agg (Msg.c ((provesP p q).1)), .bool true, .bool true, .bool true, .bool (provesP p q).2, .bool (provesP p q).2, .bool true, .bool true, .bool true, .bool true, .bool true], []⟩ <| then_n <| sy_ret (by kernel_rfl) <| sy_out (.bool true) rfl (by kernel_rfl) ?_
  exact ⟨rfl, K382⟩
end Go.Proofs.YtcbfnflnokoacaaGreat
namespace Go.Proofs.YtcbfnflnokoacaaGreat
set_option maxRecDepth 100000
set_option maxHeartbeats 4000000
open Go Go.RowKit Go.Own Go.ChangeShapes Go.WideShapes Go.ChangeAt Go.WideElems
theorem hash_cells {H : Type} {enc : TypeId × Value → H} {W : World} {sp : Nat → Bool} {held : Bool} {n off : Nat} {cs : List Value} {y : Option (DataW H × List MemPlace)} {z : DataW H × List MemPlace} (h : DataW.trod enc Tryz.prog W 0 sp held n 23 ((cs.drop off).take (Tryz.prog.cellsOf 23)) = y) (hy : y = some z) :
    ∃ l : List UInt8, l.length = 32 ∧ (cs.drop off).take 32 = B l := by
  subst hy
  have hh : Tryz.prog.cellsOf 23 = 32 := by kernel_rfl
  rw [hh] at h
  generalize (cs.drop off).take 32 = c at *
  obtain ⟨xs, m, _, _, hc, hxl, hel⟩ := DataW.trod_array Tryz.underlying23 h
  have hC : Tryz.prog.cellsOf 5 = 1 := by kernel_rfl
  rw [hC] at hel
  obtain ⟨l, hl, hq⟩ := list_of (fun i (x : UInt8) => c[i]? = some (.int .u8 (x.toNat : Int))) 32 (fun i hlt => by
    have h1 := hel i hlt
    rw [List.getElem?_eq_getElem (show i < xs.length by omega)] at h1
    obtain ⟨q, e1, _, e3⟩ := DataW.trod_int Tryz.underlying5 h1
    obtain ⟨x, rfl⟩ := u8_nat e3
    refine ⟨x, ?_⟩
    have h2 : ((c.drop (i * 1)).take 1)[0]? = some (.int .u8 (x.toNat : Int)) := by rw [e1]; rfl
    rw [List.getElem?_take_of_lt (by omega), List.getElem?_drop] at h2
    simpa using h2)
  refine ⟨l, hl, List.ext_getElem? fun i => ?_⟩
  by_cases hi : i < 32
  · obtain ⟨x, hx⟩ : ∃ x, l[i]? = some x := ⟨_, List.getElem?_eq_getElem (by omega)⟩
    rw [hq i x hx, B_get _ _ _ hx]
  · have h32 : c.length = 32 := by rw [hc, hh]
    rw [List.getElem?_eq_none (by omega), List.getElem?_eq_none (by rw [B_length]; omega)]
theorem att_cells {H : Type} {enc : TypeId × Value → H} {W : World} {sp : Nat → Bool} {held : Bool} {n : Nat} {cs : List Value} {z : DataW H × List MemPlace} (h : DataW.trod enc Tryz.prog W 0 sp held n 26 cs = some z) (hl : cs.length = 36) : ∃ a : Att, cs = a.c.toList ∧ a.Ok := by
  have hi : Tryz.prog.cellsOf 3 = 1 := by kernel_rfl
  have hu : Tryz.prog.cellsOf 24 = 1 := by kernel_rfl
  obtain ⟨xs, n', _, _, _, hxl, hf⟩ := DataW.trod_struct Tryz.underlying26 h
  obtain ⟨q0, e0, f0⟩ := field_int Tryz.underlying3 hi (hf 0 _ rfl) (List.getElem?_eq_getElem (by rw [hxl]; decide))
  obtain ⟨q1, e1, f1⟩ := field_int Tryz.underlying3 hi (hf 1 _ rfl) (List.getElem?_eq_getElem (by rw [hxl]; decide))
  obtain ⟨q2, e2, f2⟩ := field_int Tryz.underlying3 hi (hf 2 _ rfl) (List.getElem?_eq_getElem (by rw [hxl]; decide))
  obtain ⟨r, hr, er⟩ := hash_cells (off := 3) (hf 3 _ rfl) (List.getElem?_eq_getElem (by rw [hxl]; decide))
  obtain ⟨q4, e4, f4⟩ := field_int Tryz.underlying24 hu (hf 4 _ rfl) (List.getElem?_eq_getElem (by rw [hxl]; decide))
  obtain ⟨g, hg, rfl⟩ := u64_nat f4
  refine ⟨⟨q0, q1, q2, r, g⟩, ?_, ⟨bounds_i64 f0, bounds_i64 f1, bounds_i64 f2, hr, hg⟩⟩
  match cs, hl, e0, e1, e2, er, e4 with
  | a :: b :: c :: r', hl, e0, e1, e2, er, e4 =>
    have e0 : some a = some (Value.int .i64 q0) := e0
    cases e0
    have e1 : some b = some (Value.int .i64 q1) := e1
    have e2 : some c = some (Value.int .i64 q2) := e2
    cases e1; cases e2
    have e4 : r'[32]? = some (Value.int .u64 (g : Int)) := e4
    have er : r'.take 32 = B r := er
    have hl : r'.length = 33 := by simpa using hl
    simp only [Att.c, List.cons.injEq, true_and]
    rw [← er]
    conv => lhs; rw [← List.take_append_drop 32 r']
    congr 1
    rw [List.drop_eq_getElem_cons (by omega), List.drop_of_length_le (by omega)]
    rw [List.getElem?_eq_getElem (by omega)] at e4
    rw [Option.some.inj e4]
theorem pro_cells {H : Type} {enc : TypeId × Value → H} {W : World} {sp : Nat → Bool} {held : Bool} {n : Nat} {cs : List Value} {z : DataW H × List MemPlace} (h : DataW.trod enc Tryz.prog W 0 sp held n 28 cs = some z) (hl : cs.length = 35) : ∃ a : Pro, cs = a.c.toList ∧ a.Ok := by
  have hi : Tryz.prog.cellsOf 3 = 1 := by kernel_rfl
  have hu : Tryz.prog.cellsOf 24 = 1 := by kernel_rfl
  obtain ⟨xs, n', _, _, _, hxl, hf⟩ := DataW.trod_struct Tryz.underlying28 h
  obtain ⟨q0, e0, f0⟩ := field_int Tryz.underlying3 hi (hf 0 _ rfl) (List.getElem?_eq_getElem (by rw [hxl]; decide))
  obtain ⟨q1, e1, f1⟩ := field_int Tryz.underlying3 hi (hf 1 _ rfl) (List.getElem?_eq_getElem (by rw [hxl]; decide))
  obtain ⟨r, hr, er⟩ := hash_cells (off := 2) (hf 2 _ rfl) (List.getElem?_eq_getElem (by rw [hxl]; decide))
  obtain ⟨q4, e4, f4⟩ := field_int Tryz.underlying24 hu (hf 3 _ rfl) (List.getElem?_eq_getElem (by rw [hxl]; decide))
  obtain ⟨g, hg, rfl⟩ := u64_nat f4
  refine ⟨⟨q0, q1, r, g⟩, ?_, ⟨bounds_i64 f0, bounds_i64 f1, hr, hg⟩⟩
  match cs, hl, e0, e1, er, e4 with
  | a :: b :: r', hl, e0, e1, er, e4 =>
    have e0 : some a = some (Value.int .i64 q0) := e0
    cases e0
    have e1 : some b = some (Value.int .i64 q1) := e1
    cases e1
    have e4 : r'[32]? = some (Value.int .u64 (g : Int)) := e4
    have er : r'.take 32 = B r := er
    have hl : r'.length = 33 := by simpa using hl
    simp only [Pro.c, List.cons.injEq, true_and]
    rw [← er]
    conv => lhs; rw [← List.take_append_drop 32 r']
    congr 1
    rw [List.drop_eq_getElem_cons (by omega), List.drop_of_length_le (by omega)]
    rw [List.getElem?_eq_getElem (by omega)] at e4
    rw [Option.some.inj e4]
theorem open_att {H : Type} {enc : TypeId × Value → H} {W : World} {sp : Nat → Bool} {held : Bool} {v : Value} {d : DataW H} {ps : List MemPlace} {R : Reach} {base : Nat} (h : DataW.Trod enc Tryz.prog W 0 sp held 26 v d ps) (hv : Value.okWide Tryz.prog W R base 26 v) : ∃ a : Att, v = .agg a.c ∧ a.Ok := by
  obtain ⟨cs, rfl, hsz⟩ := okWide_struct Tryz.underlying26 hv
  have hC : Tryz.prog.cellsOf 26 = 36 := by kernel_rfl
  rw [hC] at hsz
  obtain ⟨fuel, ht⟩ := h
  have ht : DataW.trod enc Tryz.prog W 0 sp held fuel 26 cs.toList = some (d, ps) := ht
  obtain ⟨a, ha, hok⟩ := att_cells ht (by simpa using hsz)
  exact ⟨a, congrArg Value.agg (Array.toList_inj.1 ha), hok⟩
theorem open_pro {H : Type} {enc : TypeId × Value → H} {W : World} {sp : Nat → Bool} {held : Bool} {v : Value} {d : DataW H} {ps : List MemPlace} {R : Reach} {base : Nat} (h : DataW.Trod enc Tryz.prog W 0 sp held 28 v d ps) (hv : Value.okWide Tryz.prog W R base 28 v) : ∃ a : Pro, v = .agg a.c ∧ a.Ok := by
  obtain ⟨cs, rfl, hsz⟩ := okWide_struct Tryz.underlying28 hv
  have hC : Tryz.prog.cellsOf 28 = 35 := by kernel_rfl
  rw [hC] at hsz
  obtain ⟨fuel, ht⟩ := h
  have ht : DataW.trod enc Tryz.prog W 0 sp held fuel 28 cs.toList = some (d, ps) := ht
  obtain ⟨a, ha, hok⟩ := pro_cells ht (by simpa using hsz)
  exact ⟨a, congrArg Value.agg (Array.toList_inj.1 ha), hok⟩
end Go.Proofs.YtcbfnflnokoacaaGreat
namespace Go.Proofs.YtcbfnflnokoacaaGreat.evidenceProves
open Go.ChangeShapes Go.WideShapes Go.ChangeAt Go.RowKit Go.Own
open Go.ChangeMaps (open_string shut_string)
theorem own : ownKnob Tryz.prog.godebug = none := by kernel_rfl
theorem laid : laidOutB Tryz.prog = true := by kernel_rfl
set_option maxRecDepth 100000 in
theorem lifted (os : Os) (started : os.Started) (H : Type) (enc : TypeId × Value → H) :
    ReturnsInHanded {} Tryz.checked os 3 .any (Rows.evidenceProvesSpec.pre6 enc Tryz.prog Tryz.f3 Rows.evidenceProvesRow.domain false) (Rows.evidenceProvesSpec.post enc Tryz.prog Tryz.f3 false true false false) := by
  refine returnsInHanded_of_change (C := Tryz.checked) own started (by kernel_rfl) Tryz.func3
    (ChangeSpec.witness6 (enc := enc) (C := Tryz.checked) false ⟨#[], #[.agg #[.int .i64 0, .int .i64 0, .int .i64 0, .int .u8 0, .int .u8 0, .int .u8 0, .int .u8 0, .int .u8 0, .int .u8 0, .int .u8 0, .int .u8 0, .int .u8 0, .int .u8 0, .int .u8 0, .int .u8 0, .int .u8 0, .int .u8 0, .int .u8 0, .int .u8 0, .int .u8 0, .int .u8 0, .int .u8 0, .int .u8 0, .int .u8 0, .int .u8 0, .int .u8 0, .int .u8 0, .int .u8 0, .int .u8 0, .int .u8 0, .int .u8 0, .int .u8 0, .int .u8 0, .int .u8 0, .int .u8 0, .int .u64 0], .agg #[.int .i64 0, .int .i64 0, .int .i64 0, .int .u8 0, .int .u8 0, .int .u8 0, .int .u8 0, .int .u8 0, .int .u8 0, .int .u8 0, .int .u8 0, .int .u8 0, .int .u8 0, .int .u8 0, .int .u8 0, .int .u8 0, .int .u8 0, .int .u8 0, .int .u8 0, .int .u8 0, .int .u8 0, .int .u8 0, .int .u8 0, .int .u8 0, .int .u8 0, .int .u8 0, .int .u8 0, .int .u8 0, .int .u8 0, .int .u8 0, .int .u8 0, .int .u8 0, .int .u8 0, .int .u8 0, .int .u8 0, .int .u64 0], .agg #[.int .i64 0, .int .i64 0, .int .u8 0, .int .u8 0, .int .u8 0, .int .u8 0, .int .u8 0, .int .u8 0, .int .u8 0, .int .u8 0, .int .u8 0, .int .u8 0, .int .u8 0, .int .u8 0, .int .u8 0, .int .u8 0, .int .u8 0, .int .u8 0, .int .u8 0, .int .u8 0, .int .u8 0, .int .u8 0, .int .u8 0, .int .u8 0, .int .u8 0, .int .u8 0, .int .u8 0, .int .u8 0, .int .u8 0, .int .u8 0, .int .u8 0, .int .u8 0, .int .u8 0, .int .u8 0, .int .u64 0], .agg #[.int .i64 0, .int .i64 0, .int .u8 0, .int .u8 0, .int .u8 0, .int .u8 0, .int .u8 0, .int .u8 0, .int .u8 0, .int .u8 0, .int .u8 0, .int .u8 0, .int .u8 0, .int .u8 0, .int .u8 0, .int .u8 0, .int .u8 0, .int .u8 0, .int .u8 0, .int .u8 0, .int .u8 0, .int .u8 0, .int .u8 0, .int .u8 0, .int .u8 0, .int .u8 0, .int .u8 0, .int .u8 0, .int .u8 0, .int .u8 0, .int .u8 0, .int .u8 0, .int .u8 0, .int .u8 0, .int .u64 0]], []⟩ 8 (by kernel_rfl) (by kernel_rfl) (by kernel_rfl) (by kernel_rfl)) ?_
  intro W base args ds gs before hval0 hW hcnd _
  have hval : ∀ (j : Nat) t v, Tryz.f3.params[j]? = some t → args[j]? = some v → Value.okWide Tryz.prog W .any base t v := hval0
  have hW' := hW
  obtain ⟨p, q, hA0, hV, rfl, hfz, hnd⟩ := hW
  have hA : DataW.TrodAll enc Tryz.prog W 0 (fun _ => true) true Tryz.f3.params.toList args.toList ds p := hA0
  rw [Tryz.params3] at hA hval
  obtain ⟨v0, vs0, d0, ds0, p0, q0, hargs, rfl, rfl, h0, r0⟩ := trodAll_cons hA
  obtain ⟨v1, vs1, d1, ds1, p1, q1, rfl, rfl, rfl, h1, r1⟩ := trodAll_cons r0
  obtain ⟨v2, vs2, d2, ds2, p2, q2, rfl, rfl, rfl, h2, r2⟩ := trodAll_cons r1
  obtain ⟨v3, vs3, d3, ds3, p3, q3, rfl, rfl, rfl, h3, r3⟩ := trodAll_cons r2
  obtain ⟨rfl, rfl, rfl⟩ := trodAll_nil r3
  obtain rfl : args = #[v0, v1, v2, v3] := by cases args; simp_all
  obtain ⟨rfl, rfl⟩ := trodVars_none hV
  obtain ⟨x0, rfl, ha0⟩ := open_att h0 (hval 0 26 v0 rfl rfl)
  obtain ⟨x1, rfl, ha1⟩ := open_att h1 (hval 1 26 v1 rfl rfl)
  obtain ⟨x2, rfl, hp2⟩ := open_pro h2 (hval 2 28 v2 rfl rfl)
  obtain ⟨x3, rfl, hp3⟩ := open_pro h3 (hval 3 28 v3 rfl rfl)
  clear hA0 hval0
  refine (evidenceProves_ok x0 x1 x2 x3 W ha0 ha1 hp2 hp3).mono fun e W' ⟨he, hg⟩ => ?_
  subst he
  exact ⟨_, rfl, law_post laid (by kernel_rfl) rfl Tryz.underlying4 rfl rfl hW' (hg.below (Nat.le_refl _) (fun _ _ x => x))⟩
theorem proved : Rows.EvidenceProvesSaid :=
  OpenClaim.holds_of_wide 3 Tryz.f3 rfl rfl rfl rfl rfl rfl rfl ⟨rfl, rfl, rfl, rfl, rfl⟩ rfl rfl rfl rfl rfl (by kernel_rfl) Tryz.func3 (by kernel_rfl)
    (of_decide_eq_true (by kernel_rfl)) (by unfold Func.isWrapper; first | (rw [if_pos (by decide +kernel)]; kernel_rfl) | (rw [if_neg (by decide +kernel)]; exact ⟨rfl, rfl⟩))
    (fun os started H enc _ => lifted os started H enc)
end Go.Proofs.YtcbfnflnokoacaaGreat.evidenceProves
