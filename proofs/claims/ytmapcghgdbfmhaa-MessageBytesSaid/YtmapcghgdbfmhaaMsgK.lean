/-
  Messages: the document's Check and Actor (printed by msg7.py). Conditions: none.
-/
import Derived.Test.YtmapcghgdbfmhaaMsgJ
namespace Go.Proofs.Ytmapcghgdbfmhaa
open Go Go.RowKit Go.Own Go.Shelf
def ownB (m : Msg) : Msg := { onlyK m.k with f := m.f }
theorem ownB_R (m : Msg) : (ownB m).R := ⟨rfl, rfl, rfl, rfl⟩
def ownK (m : Msg) : Nat → Msg
  | 1 => { ownB m with t := m.t, am := m.am }
  | 2 => { ownB m with mn := m.mn, am := m.am }
  | 3 => { ownB m with vl := m.vl, am := m.am }
  | 4 => { ownB m with sv := m.sv, ss := m.ss, sp := m.sp, sf := m.sf, am := m.am }
  | 5 => { ownB m with sv := m.sv, ss := m.ss, sp := m.sp, sf := m.sf, am := m.am, t := m.t }
  | 6 => { ownB m with a := m.a }
  | 7 => { ownB m with p := m.p }
  | 8 => if m.pf = 3 then { ownB m with pf := m.pf, p := m.p, q := m.q } else { ownB m with pf := m.pf, a := m.a, b := m.b }
  | 9 => { ownB m with vl := m.vl }
  | 11 => { onlyK m.k with n := m.n }
  | _ => ownB m
theorem onlyN_R (m : Msg) : (({ onlyK m.k with n := m.n } : Msg)).R := ⟨rfl, rfl, rfl, rfl⟩

noncomputable def part_rmown (n : Nat) : Code := partOf Try.f55 n
noncomputable abbrev o_rmown (n k : Nat) : Oper := (opsAt (part_rmown n)).getD k default
set_option maxRecDepth 100000 in
set_option maxHeartbeats 4000000 in
theorem rmown_1 (m : Msg) (w : World) (hr : m.R) (hk : m.k = 1) :
    Calls Try.prog 55 #[.agg (Msg.c m)] w (fun e w' => e = .returned (.agg (Msg.c (ownK m 1))) ∧ Keeps Nob w w') := by
  have K0 : Keeps Nob w w := Keeps.refl _ _
  refine sy_enter (part_rmown 1) ⟨#[.agg (Msg.c m), undef, undef, undef, undef, undef, undef, undef, undef, undef, undef, undef, undef, undef, undef, undef, undef, undef, undef, undef, undef, undef, undef, undef, undef, undef, undef, undef, undef, undef, undef, undef, undef, undef, undef, undef, undef, undef, undef, undef, undef, undef, undef, undef, undef, undef, undef, undef, undef, undef, undef, undef, undef, undef, undef, undef, undef, undef, undef, undef, undef, undef, undef, undef, undef, undef, undef, undef, undef, undef, undef, undef, undef, undef, undef, undef, undef, undef, undef, undef, undef, undef, undef, undef, undef, undef, undef, undef, undef, undef, undef, undef, undef, undef, undef, undef, undef], []⟩ Try.func55 (by kernel_rfl) (by kernel_rfl) ?_
  refine sy_sq (part_rmown 2) (part_rmown 3) ?_
  refine sy_reg ?_
  refine rg_plain 0 (opsAt (part_rmown 2)) [0, 1] (by kernel_rfl) (by kernel_rfl) ?_
  obtain ⟨V1, eV1, gm, egm, h2, kV1⟩ := alloc_step w ((Msg.c m)) 35
  have n3 : w.heap.size ≤ gm := egm ▸ K0.size
  refine ps_r (o_rmown 2 0) (pT gm 0) (w' := V1) (by rw [← eV1, ← egm]; exact exec_box 35 (.tmp 0) (by kernel_rfl) (.agg (Msg.c m)) (by kernel_rfl)) ?_
  clear eV1
  have K4 := K0.nn kV1
  obtain ⟨V5, eV5, ga, ega, h6, kV5⟩ := alloc_step V1 ((Msg.c msgZ)) 35
  have n7 : gm < ga := ega ▸ lt_of_block h2
  have n8 : w.heap.size ≤ ga := ega ▸ K4.size
  refine ps_r (o_rmown 2 1) (pT ga 0) (w' := V5) (by rw [← eV5, ← ega]; exact exec_alloc0 35 (by kernel_rfl) (.agg ((Msg.c msgZ))) (by kernel_rfl)) ?_
  clear eV5
  have h9 := kV5.bk h2
  have K10 := K4.nn kV5
  refine ps_end ?_
  refine then_n ?_
  refine sy_sq (part_rmown 6) (part_rmown 7) ?_
  refine sy_reg ?_
  refine rg_plain 1 (opsAt (part_rmown 6)) [0, 1, 2, 3, 4, 5, 6] (by kernel_rfl) (by kernel_rfl) ?_
  refine ps_k (o_rmown 6 0) (pT gm 0) ?_
  refine ps_p (o_rmown 6 1) (.int .i64 m.k) (exec_ld 3 (.tmp 4) gm 0 Try.underlying3 (rc (h9) (Msg.get_n hr NF.k))) ?_
  refine ps_k (o_rmown 6 2) (pT gm 1) ?_
  refine ps_p (o_rmown 6 3) (.int .i64 m.f) (exec_ld 3 (.tmp 6) gm 1 Try.underlying3 (rc (h9) (Msg.get_n hr NF.f))) ?_
  refine ps_k (o_rmown 6 4) (.agg (Msg.c (ownB m))) ?_
  obtain ⟨V11, eV11, gx, egx, h12, kV11⟩ := alloc_step V5 ((Msg.c msgZ)) 35
  have n13 : gm < gx := egx ▸ lt_of_block h9
  have n14 : ga < gx := egx ▸ lt_of_block h6
  have n15 : w.heap.size ≤ gx := egx ▸ K10.size
  refine ps_r (o_rmown 6 5) (pT gx 0) (w' := V11) (by rw [← eV11, ← egx]; exact exec_alloc0 35 (by kernel_rfl) (.agg ((Msg.c msgZ))) (by kernel_rfl)) ?_
  clear eV11
  have h16 := kV11.bk h9
  have h17 := kV11.bk h6
  have K18 := K10.nn kV11
  obtain ⟨V19, eV19, kV19⟩ := rowset_step V11 gx ((Msg.c (ownB m)))
  have h20 : V19.heap[gx]? = some (.cells (Msg.c ((ownB m))) 35 (0, 0)) := eV19 ▸ setRow_heap _ _ _ _ _ _ h12
  refine ps_s (o_rmown 6 6) (w' := V19) (by rw [← eV19]; exact exec_store_row 35 (.tmp 3) (.tmp 8) (by kernel_rfl) gx ((Msg.c (ownB m))) (by kernel_rfl) (by kernel_rfl) 35 ((Msg.c msgZ)) h12 (by rw [Msg.c_size (ownB_R m)]; kernel_rfl) (by rw [Msg.c_size (ownB_R m)]; exact (Msg.c_size msgZ_R).symm) (Msg.c_one _)) ?_
  clear eV19
  have h21 := kV19.bo h16 (by omega)
  have h22 := kV19.bo h17 (by omega)
  have K23 := K18.no kV19 (by omega)
  refine ps_end ?_
  refine then_n ?_
  refine sy_sq (part_rmown 14) (part_rmown 15) ?_
  refine sy_sq (part_rmown 28) (part_rmown 29) ?_
  refine sy_reg ?_
  refine rg_plain 2 (opsAt (part_rmown 28)) [0, 1] (by kernel_rfl) (by kernel_rfl) ?_
  refine ps_k (o_rmown 28 0) (pT gm 0) ?_
  refine ps_p (o_rmown 28 1) (.int .i64 m.k) (exec_ld 3 (.tmp 9) gm 0 Try.underlying3 (rc (h21) (Msg.get_n hr NF.k))) ?_
  refine ps_end ?_
  refine then_n ?_
  refine sy_bk 0 (part_rmown 58) ?_
  refine sy_sq (part_rmown 116) (part_rmown 117) ?_
  refine sy_reg ?_
  refine rg_plain 3 (opsAt (part_rmown 116)) [0, 1] (by kernel_rfl) (by kernel_rfl) ?_
  refine ps_p (o_rmown 116 0) (.bool true) (eqt ((m.k) : Int) ((1) : Int) (by omega)) ?_
  refine ps_k (o_rmown 116 1) (.bool true) ?_
  refine ps_end ?_
  refine then_n ?_
  refine sy_ys (.tmp 11) (part_rmown 234) (part_rmown 235) ?_
  refine sy_np ?_
  refine sy_reg ?_
  refine an_begin 4 8 (opsAt (part_rmown 234)) (fun W => (W.heap[gm]? = some (.cells (Msg.c m) 35 (0, 0)))) #[false, false, false, false, false, false, false, false] (by kernel_rfl) (by kernel_rfl) (by kernel_rfl) (by kernel_rfl) ?_
  obtain ⟨V24, eV24, kV24⟩ := drew_step V19
  rw [eV24]
  clear eV24
  have h25 := kV24.bk h21
  have h26 := kV24.bk h22
  have h27 := kV24.bk h20
  have K28 := K23.nn kV24
  refine an_k 0 (o_rmown 234 0) (pT gm 3) h25 ?_
  refine an_v 1 (o_rmown 234 1) (.int .i64 m.t) (fun W hS => exec_ld 3 (.tmp 13) gm 3 Try.underlying3 (rc (hS) (Msg.get_n hr NF.t))) h25 ?_
  refine an_k 2 (o_rmown 234 2) (pT gm 4) h25 ?_
  refine an_v 3 (o_rmown 234 3) (uN m.am) (fun W hS => exec_ld 25 (.tmp 15) gm 4 Try.underlying25 (rc (hS) (Msg.get_a hr AF.am))) h25 ?_
  refine an_k 4 (o_rmown 234 4) (pT gx 3) h25 ?_
  refine an_o 5 ?_
  obtain ⟨V29, eV29, kV29⟩ := cell_step V24 gx 3 (.int .i64 m.t)
  have h30 : V29.heap[gx]? = some (.cells (Msg.c (NF.set ((ownB m)) m.t .t)) 35 (0, 0)) := eV29 ▸ ((heap_setCell_same _ gx 3 _ _ (.int .i64 m.t) h27).trans (congrArg (fun c => some (Obj.cells c 35 (0, 0))) (show (Msg.c ((ownB m)) : Array Value).setIfInBounds 3 (.int .i64 m.t) = Msg.c (NF.set ((ownB m)) m.t .t) from Msg.set_n (ownB_R m) NF.t _)))
  refine on_s (o_rmown 234 5) (w' := V29) (by rw [← eV29]; exact exec_store_cell 3 (.tmp 17) (.tmp 14) (by kernel_rfl) gx 3 (by kernel_rfl) (.int .i64 m.t) (by kernel_rfl) (by kernel_rfl) (by kernel_rfl) (.int .i64 (((ownB m)).t)) (rc (h27) (Msg.get_n (ownB_R m) NF.t)) (frozen_of_row _ _ _ _ _ h27) (by kernel_rfl)) ?_
  clear eV29
  have h31 := kV29.bo h25 (by omega)
  have h32 := kV29.bo h26 (by omega)
  have K33 := K28.no kV29 (by omega)
  refine ⟨h31, ?_⟩
  refine an_k 6 (o_rmown 234 6) (pT gx 4) h31 ?_
  refine an_o 7 ?_
  obtain ⟨V34, eV34, kV34⟩ := cell_step V29 gx 4 (.int .u64 ((m.am : Nat) : Int))
  have h35 : V34.heap[gx]? = some (.cells (Msg.c (AF.set (NF.set ((ownB m)) m.t .t) m.am .am)) 35 (0, 0)) := eV34 ▸ ((heap_setCell_same _ gx 4 _ _ (.int .u64 ((m.am : Nat) : Int)) h30).trans (congrArg (fun c => some (Obj.cells c 35 (0, 0))) (show (Msg.c (NF.set ((ownB m)) m.t .t) : Array Value).setIfInBounds 4 (.int .u64 ((m.am : Nat) : Int)) = Msg.c (AF.set (NF.set ((ownB m)) m.t .t) m.am .am) from Msg.set_a (NF.R (ownB_R m)) AF.am _)))
  refine on_s (o_rmown 234 7) (w' := V34) (by rw [← eV34]; exact exec_store_cell 25 (.tmp 18) (.tmp 16) (by kernel_rfl) gx 4 (by kernel_rfl) (uN m.am) (by kernel_rfl) (by kernel_rfl) (by kernel_rfl) (uN ((NF.set ((ownB m)) m.t .t).am)) (rc (h30) (Msg.get_a (NF.R (ownB_R m)) AF.am)) (frozen_of_row _ _ _ _ _ h30) (by kernel_rfl)) ?_
  clear eV34
  have h36 := kV34.bo h31 (by omega)
  have h37 := kV34.bo h32 (by omega)
  have K38 := K33.no kV34 (by omega)
  refine ⟨h36, ?_⟩
  refine an_end (by kernel_rfl) ?_
  refine blk_n ?_
  refine then_n ?_
  refine sy_sq (part_rmown 30) (part_rmown 31) ?_
  refine sy_reg ?_
  refine rg_plain 26 (opsAt (part_rmown 30)) [0, 1] (by kernel_rfl) (by kernel_rfl) ?_
  refine ps_p (o_rmown 30 0) (.agg (Msg.c (AF.set (NF.set ((ownB m)) m.t .t) m.am .am))) (exec_load_row 35 (.tmp 3) (by kernel_rfl) gx (by kernel_rfl) _ _ (0, 0) _ (h35) Try.underlying35 rfl (by rw [Msg.c_size (AF.R (NF.R (ownB_R m)))]; kernel_rfl)) ?_
  obtain ⟨V39, eV39, kV39⟩ := rowset_step V34 ga ((Msg.c (AF.set (NF.set ((ownB m)) m.t .t) m.am .am)))
  have h40 : V39.heap[ga]? = some (.cells (Msg.c (AF.set (NF.set ((ownB m)) m.t .t) m.am .am)) 35 (0, 0)) := eV39 ▸ setRow_heap _ _ _ _ _ _ h37
  refine ps_s (o_rmown 30 1) (w' := V39) (by rw [← eV39]; exact exec_store_row 35 (.tmp 2) (.tmp 96) (by kernel_rfl) ga ((Msg.c (AF.set (NF.set ((ownB m)) m.t .t) m.am .am))) (by kernel_rfl) (by kernel_rfl) 35 ((Msg.c msgZ)) h37 (by rw [Msg.c_size (AF.R (NF.R (ownB_R m)))]; kernel_rfl) (by rw [Msg.c_size (AF.R (NF.R (ownB_R m)))]; exact (Msg.c_size msgZ_R).symm) (Msg.c_one _)) ?_
  clear eV39
  have h41 := kV39.bo h36 (by omega)
  have h42 := kV39.bo h35 (by omega)
  have K43 := K38.no kV39 (by omega)
  refine ps_end ?_
  refine then_n ?_
  refine sy_ret (by kernel_rfl) ?_
  refine sy_out (.agg (Msg.c (AF.set (NF.set ((ownB m)) m.t .t) m.am .am))) rfl (results_cell_row (p := 2) (ty := 35) (by kernel_rfl) _ _ ga 35 (Msg.c (AF.set (NF.set ((ownB m)) m.t .t) m.am .am)) (0, 0) _ (by kernel_rfl) h40 Try.underlying35 rfl (by rw [Msg.c_size (AF.R (NF.R (ownB_R m)))]; kernel_rfl)) ?_
  exact ⟨rfl, K43⟩
set_option maxRecDepth 100000 in
set_option maxHeartbeats 4000000 in
theorem rmown_2 (m : Msg) (w : World) (hr : m.R) (hk : m.k = 2) :
    Calls Try.prog 55 #[.agg (Msg.c m)] w (fun e w' => e = .returned (.agg (Msg.c (ownK m 2))) ∧ Keeps Nob w w') := by
  have K0 : Keeps Nob w w := Keeps.refl _ _
  refine sy_enter (part_rmown 1) ⟨#[.agg (Msg.c m), undef, undef, undef, undef, undef, undef, undef, undef, undef, undef, undef, undef, undef, undef, undef, undef, undef, undef, undef, undef, undef, undef, undef, undef, undef, undef, undef, undef, undef, undef, undef, undef, undef, undef, undef, undef, undef, undef, undef, undef, undef, undef, undef, undef, undef, undef, undef, undef, undef, undef, undef, undef, undef, undef, undef, undef, undef, undef, undef, undef, undef, undef, undef, undef, undef, undef, undef, undef, undef, undef, undef, undef, undef, undef, undef, undef, undef, undef, undef, undef, undef, undef, undef, undef, undef, undef, undef, undef, undef, undef, undef, undef, undef, undef, undef, undef], []⟩ Try.func55 (by kernel_rfl) (by kernel_rfl) ?_
  refine sy_sq (part_rmown 2) (part_rmown 3) ?_
  refine sy_reg ?_
  refine rg_plain 0 (opsAt (part_rmown 2)) [0, 1] (by kernel_rfl) (by kernel_rfl) ?_
  obtain ⟨V1, eV1, gm, egm, h2, kV1⟩ := alloc_step w ((Msg.c m)) 35
  have n3 : w.heap.size ≤ gm := egm ▸ K0.size
  refine ps_r (o_rmown 2 0) (pT gm 0) (w' := V1) (by rw [← eV1, ← egm]; exact exec_box 35 (.tmp 0) (by kernel_rfl) (.agg (Msg.c m)) (by kernel_rfl)) ?_
  clear eV1
  have K4 := K0.nn kV1
  obtain ⟨V5, eV5, ga, ega, h6, kV5⟩ := alloc_step V1 ((Msg.c msgZ)) 35
  have n7 : gm < ga := ega ▸ lt_of_block h2
  have n8 : w.heap.size ≤ ga := ega ▸ K4.size
  refine ps_r (o_rmown 2 1) (pT ga 0) (w' := V5) (by rw [← eV5, ← ega]; exact exec_alloc0 35 (by kernel_rfl) (.agg ((Msg.c msgZ))) (by kernel_rfl)) ?_
  clear eV5
  have h9 := kV5.bk h2
  have K10 := K4.nn kV5
  refine ps_end ?_
  refine then_n ?_
  refine sy_sq (part_rmown 6) (part_rmown 7) ?_
  refine sy_reg ?_
  refine rg_plain 1 (opsAt (part_rmown 6)) [0, 1, 2, 3, 4, 5, 6] (by kernel_rfl) (by kernel_rfl) ?_
  refine ps_k (o_rmown 6 0) (pT gm 0) ?_
  refine ps_p (o_rmown 6 1) (.int .i64 m.k) (exec_ld 3 (.tmp 4) gm 0 Try.underlying3 (rc (h9) (Msg.get_n hr NF.k))) ?_
  refine ps_k (o_rmown 6 2) (pT gm 1) ?_
  refine ps_p (o_rmown 6 3) (.int .i64 m.f) (exec_ld 3 (.tmp 6) gm 1 Try.underlying3 (rc (h9) (Msg.get_n hr NF.f))) ?_
  refine ps_k (o_rmown 6 4) (.agg (Msg.c (ownB m))) ?_
  obtain ⟨V11, eV11, gx, egx, h12, kV11⟩ := alloc_step V5 ((Msg.c msgZ)) 35
  have n13 : gm < gx := egx ▸ lt_of_block h9
  have n14 : ga < gx := egx ▸ lt_of_block h6
  have n15 : w.heap.size ≤ gx := egx ▸ K10.size
  refine ps_r (o_rmown 6 5) (pT gx 0) (w' := V11) (by rw [← eV11, ← egx]; exact exec_alloc0 35 (by kernel_rfl) (.agg ((Msg.c msgZ))) (by kernel_rfl)) ?_
  clear eV11
  have h16 := kV11.bk h9
  have h17 := kV11.bk h6
  have K18 := K10.nn kV11
  obtain ⟨V19, eV19, kV19⟩ := rowset_step V11 gx ((Msg.c (ownB m)))
  have h20 : V19.heap[gx]? = some (.cells (Msg.c ((ownB m))) 35 (0, 0)) := eV19 ▸ setRow_heap _ _ _ _ _ _ h12
  refine ps_s (o_rmown 6 6) (w' := V19) (by rw [← eV19]; exact exec_store_row 35 (.tmp 3) (.tmp 8) (by kernel_rfl) gx ((Msg.c (ownB m))) (by kernel_rfl) (by kernel_rfl) 35 ((Msg.c msgZ)) h12 (by rw [Msg.c_size (ownB_R m)]; kernel_rfl) (by rw [Msg.c_size (ownB_R m)]; exact (Msg.c_size msgZ_R).symm) (Msg.c_one _)) ?_
  clear eV19
  have h21 := kV19.bo h16 (by omega)
  have h22 := kV19.bo h17 (by omega)
  have K23 := K18.no kV19 (by omega)
  refine ps_end ?_
  refine then_n ?_
  refine sy_sq (part_rmown 14) (part_rmown 15) ?_
  refine sy_sq (part_rmown 28) (part_rmown 29) ?_
  refine sy_reg ?_
  refine rg_plain 2 (opsAt (part_rmown 28)) [0, 1] (by kernel_rfl) (by kernel_rfl) ?_
  refine ps_k (o_rmown 28 0) (pT gm 0) ?_
  refine ps_p (o_rmown 28 1) (.int .i64 m.k) (exec_ld 3 (.tmp 9) gm 0 Try.underlying3 (rc (h21) (Msg.get_n hr NF.k))) ?_
  refine ps_end ?_
  refine then_n ?_
  refine sy_bk 0 (part_rmown 58) ?_
  refine sy_sq (part_rmown 116) (part_rmown 117) ?_
  refine sy_reg ?_
  refine rg_plain 3 (opsAt (part_rmown 116)) [0, 1] (by kernel_rfl) (by kernel_rfl) ?_
  refine ps_p (o_rmown 116 0) (.bool false) (eqf ((m.k) : Int) ((1) : Int) (by omega)) ?_
  refine ps_k (o_rmown 116 1) (.bool false) ?_
  refine ps_end ?_
  refine then_n ?_
  refine sy_n (.tmp 11) (part_rmown 234) (part_rmown 235) ?_
  refine sy_sq (part_rmown 470) (part_rmown 471) ?_
  refine sy_reg ?_
  refine rg_plain 5 (opsAt (part_rmown 470)) [0, 1] (by kernel_rfl) (by kernel_rfl) ?_
  refine ps_p (o_rmown 470 0) (.bool true) (eqt ((m.k) : Int) ((2) : Int) (by omega)) ?_
  refine ps_k (o_rmown 470 1) (.bool true) ?_
  refine ps_end ?_
  refine then_n ?_
  refine sy_ys (.tmp 19) (part_rmown 942) (part_rmown 943) ?_
  refine sy_np ?_
  refine sy_reg ?_
  refine an_begin 6 8 (opsAt (part_rmown 942)) (fun W => (W.heap[gm]? = some (.cells (Msg.c m) 35 (0, 0)))) #[false, false, false, false, false, false, false, false] (by kernel_rfl) (by kernel_rfl) (by kernel_rfl) (by kernel_rfl) ?_
  obtain ⟨V24, eV24, kV24⟩ := drew_step V19
  rw [eV24]
  clear eV24
  have h25 := kV24.bk h21
  have h26 := kV24.bk h22
  have h27 := kV24.bk h20
  have K28 := K23.nn kV24
  refine an_k 0 (o_rmown 942 0) (pT gm 5) h25 ?_
  refine an_v 1 (o_rmown 942 1) (uN m.mn) (fun W hS => exec_ld 25 (.tmp 21) gm 5 Try.underlying25 (rc (hS) (Msg.get_a hr AF.mn))) h25 ?_
  refine an_k 2 (o_rmown 942 2) (pT gm 4) h25 ?_
  refine an_v 3 (o_rmown 942 3) (uN m.am) (fun W hS => exec_ld 25 (.tmp 23) gm 4 Try.underlying25 (rc (hS) (Msg.get_a hr AF.am))) h25 ?_
  refine an_k 4 (o_rmown 942 4) (pT gx 5) h25 ?_
  refine an_o 5 ?_
  obtain ⟨V29, eV29, kV29⟩ := cell_step V24 gx 5 (.int .u64 ((m.mn : Nat) : Int))
  have h30 : V29.heap[gx]? = some (.cells (Msg.c (AF.set ((ownB m)) m.mn .mn)) 35 (0, 0)) := eV29 ▸ ((heap_setCell_same _ gx 5 _ _ (.int .u64 ((m.mn : Nat) : Int)) h27).trans (congrArg (fun c => some (Obj.cells c 35 (0, 0))) (show (Msg.c ((ownB m)) : Array Value).setIfInBounds 5 (.int .u64 ((m.mn : Nat) : Int)) = Msg.c (AF.set ((ownB m)) m.mn .mn) from Msg.set_a (ownB_R m) AF.mn _)))
  refine on_s (o_rmown 942 5) (w' := V29) (by rw [← eV29]; exact exec_store_cell 25 (.tmp 25) (.tmp 22) (by kernel_rfl) gx 5 (by kernel_rfl) (uN m.mn) (by kernel_rfl) (by kernel_rfl) (by kernel_rfl) (uN (((ownB m)).mn)) (rc (h27) (Msg.get_a (ownB_R m) AF.mn)) (frozen_of_row _ _ _ _ _ h27) (by kernel_rfl)) ?_
  clear eV29
  have h31 := kV29.bo h25 (by omega)
  have h32 := kV29.bo h26 (by omega)
  have K33 := K28.no kV29 (by omega)
  refine ⟨h31, ?_⟩
  refine an_k 6 (o_rmown 942 6) (pT gx 4) h31 ?_
  refine an_o 7 ?_
  obtain ⟨V34, eV34, kV34⟩ := cell_step V29 gx 4 (.int .u64 ((m.am : Nat) : Int))
  have h35 : V34.heap[gx]? = some (.cells (Msg.c (AF.set (AF.set ((ownB m)) m.mn .mn) m.am .am)) 35 (0, 0)) := eV34 ▸ ((heap_setCell_same _ gx 4 _ _ (.int .u64 ((m.am : Nat) : Int)) h30).trans (congrArg (fun c => some (Obj.cells c 35 (0, 0))) (show (Msg.c (AF.set ((ownB m)) m.mn .mn) : Array Value).setIfInBounds 4 (.int .u64 ((m.am : Nat) : Int)) = Msg.c (AF.set (AF.set ((ownB m)) m.mn .mn) m.am .am) from Msg.set_a (AF.R (ownB_R m)) AF.am _)))
  refine on_s (o_rmown 942 7) (w' := V34) (by rw [← eV34]; exact exec_store_cell 25 (.tmp 26) (.tmp 24) (by kernel_rfl) gx 4 (by kernel_rfl) (uN m.am) (by kernel_rfl) (by kernel_rfl) (by kernel_rfl) (uN ((AF.set ((ownB m)) m.mn .mn).am)) (rc (h30) (Msg.get_a (AF.R (ownB_R m)) AF.am)) (frozen_of_row _ _ _ _ _ h30) (by kernel_rfl)) ?_
  clear eV34
  have h36 := kV34.bo h31 (by omega)
  have h37 := kV34.bo h32 (by omega)
  have K38 := K33.no kV34 (by omega)
  refine ⟨h36, ?_⟩
  refine an_end (by kernel_rfl) ?_
  refine blk_n ?_
  refine then_n ?_
  refine sy_sq (part_rmown 30) (part_rmown 31) ?_
  refine sy_reg ?_
  refine rg_plain 26 (opsAt (part_rmown 30)) [0, 1] (by kernel_rfl) (by kernel_rfl) ?_
  refine ps_p (o_rmown 30 0) (.agg (Msg.c (AF.set (AF.set ((ownB m)) m.mn .mn) m.am .am))) (exec_load_row 35 (.tmp 3) (by kernel_rfl) gx (by kernel_rfl) _ _ (0, 0) _ (h35) Try.underlying35 rfl (by rw [Msg.c_size (AF.R (AF.R (ownB_R m)))]; kernel_rfl)) ?_
  obtain ⟨V39, eV39, kV39⟩ := rowset_step V34 ga ((Msg.c (AF.set (AF.set ((ownB m)) m.mn .mn) m.am .am)))
  have h40 : V39.heap[ga]? = some (.cells (Msg.c (AF.set (AF.set ((ownB m)) m.mn .mn) m.am .am)) 35 (0, 0)) := eV39 ▸ setRow_heap _ _ _ _ _ _ h37
  refine ps_s (o_rmown 30 1) (w' := V39) (by rw [← eV39]; exact exec_store_row 35 (.tmp 2) (.tmp 96) (by kernel_rfl) ga ((Msg.c (AF.set (AF.set ((ownB m)) m.mn .mn) m.am .am))) (by kernel_rfl) (by kernel_rfl) 35 ((Msg.c msgZ)) h37 (by rw [Msg.c_size (AF.R (AF.R (ownB_R m)))]; kernel_rfl) (by rw [Msg.c_size (AF.R (AF.R (ownB_R m)))]; exact (Msg.c_size msgZ_R).symm) (Msg.c_one _)) ?_
  clear eV39
  have h41 := kV39.bo h36 (by omega)
  have h42 := kV39.bo h35 (by omega)
  have K43 := K38.no kV39 (by omega)
  refine ps_end ?_
  refine sy_a ⟨#[.agg (Msg.c m), pT gm 0, pT ga 0, pT gx 0, pT gm 0, .int .i64 m.k, pT gm 1, .int .i64 m.f, .agg (Msg.c (ownB m)), pT gm 0, .int .i64 m.k, .bool false, .bool false, undef, undef, undef, undef, undef, undef, .bool true, .bool true, pT gm 5, uN m.mn, pT gm 4, uN m.am, pT gx 5, pT gx 4, undef, undef, undef, undef, undef, undef, undef, undef, undef, undef, undef, undef, undef, undef, undef, undef, undef, undef, undef, undef, undef, undef, undef, undef, undef, undef, undef, undef, undef, undef, undef, undef, undef, undef, undef, undef, undef, undef, undef, undef, undef, undef, undef, undef, undef, undef, undef, undef, undef, undef, undef, undef, undef, undef, undef, undef, undef, undef, undef, undef, undef, undef, undef, undef, undef, undef, undef, undef, undef, .agg (Msg.c (AF.set (AF.set ((ownB m)) m.mn .mn) m.am .am))], []⟩ ?_
  refine then_n ?_
  refine sy_ret (by kernel_rfl) ?_
  refine sy_out (.agg (Msg.c (AF.set (AF.set ((ownB m)) m.mn .mn) m.am .am))) rfl (results_cell_row (p := 2) (ty := 35) (by kernel_rfl) _ _ ga 35 (Msg.c (AF.set (AF.set ((ownB m)) m.mn .mn) m.am .am)) (0, 0) _ (by kernel_rfl) h40 Try.underlying35 rfl (by rw [Msg.c_size (AF.R (AF.R (ownB_R m)))]; kernel_rfl)) ?_
  exact ⟨rfl, K43⟩
set_option maxRecDepth 100000 in
set_option maxHeartbeats 4000000 in
theorem rmown_3 (m : Msg) (w : World) (hr : m.R) (hk : m.k = 3) :
    Calls Try.prog 55 #[.agg (Msg.c m)] w (fun e w' => e = .returned (.agg (Msg.c (ownK m 3))) ∧ Keeps Nob w w') := by
  have K0 : Keeps Nob w w := Keeps.refl _ _
  refine sy_enter (part_rmown 1) ⟨#[.agg (Msg.c m), undef, undef, undef, undef, undef, undef, undef, undef, undef, undef, undef, undef, undef, undef, undef, undef, undef, undef, undef, undef, undef, undef, undef, undef, undef, undef, undef, undef, undef, undef, undef, undef, undef, undef, undef, undef, undef, undef, undef, undef, undef, undef, undef, undef, undef, undef, undef, undef, undef, undef, undef, undef, undef, undef, undef, undef, undef, undef, undef, undef, undef, undef, undef, undef, undef, undef, undef, undef, undef, undef, undef, undef, undef, undef, undef, undef, undef, undef, undef, undef, undef, undef, undef, undef, undef, undef, undef, undef, undef, undef, undef, undef, undef, undef, undef, undef], []⟩ Try.func55 (by kernel_rfl) (by kernel_rfl) ?_
  refine sy_sq (part_rmown 2) (part_rmown 3) ?_
  refine sy_reg ?_
  refine rg_plain 0 (opsAt (part_rmown 2)) [0, 1] (by kernel_rfl) (by kernel_rfl) ?_
  obtain ⟨V1, eV1, gm, egm, h2, kV1⟩ := alloc_step w ((Msg.c m)) 35
  have n3 : w.heap.size ≤ gm := egm ▸ K0.size
  refine ps_r (o_rmown 2 0) (pT gm 0) (w' := V1) (by rw [← eV1, ← egm]; exact exec_box 35 (.tmp 0) (by kernel_rfl) (.agg (Msg.c m)) (by kernel_rfl)) ?_
  clear eV1
  have K4 := K0.nn kV1
  obtain ⟨V5, eV5, ga, ega, h6, kV5⟩ := alloc_step V1 ((Msg.c msgZ)) 35
  have n7 : gm < ga := ega ▸ lt_of_block h2
  have n8 : w.heap.size ≤ ga := ega ▸ K4.size
  refine ps_r (o_rmown 2 1) (pT ga 0) (w' := V5) (by rw [← eV5, ← ega]; exact exec_alloc0 35 (by kernel_rfl) (.agg ((Msg.c msgZ))) (by kernel_rfl)) ?_
  clear eV5
  have h9 := kV5.bk h2
  have K10 := K4.nn kV5
  refine ps_end ?_
  refine then_n ?_
  refine sy_sq (part_rmown 6) (part_rmown 7) ?_
  refine sy_reg ?_
  refine rg_plain 1 (opsAt (part_rmown 6)) [0, 1, 2, 3, 4, 5, 6] (by kernel_rfl) (by kernel_rfl) ?_
  refine ps_k (o_rmown 6 0) (pT gm 0) ?_
  refine ps_p (o_rmown 6 1) (.int .i64 m.k) (exec_ld 3 (.tmp 4) gm 0 Try.underlying3 (rc (h9) (Msg.get_n hr NF.k))) ?_
  refine ps_k (o_rmown 6 2) (pT gm 1) ?_
  refine ps_p (o_rmown 6 3) (.int .i64 m.f) (exec_ld 3 (.tmp 6) gm 1 Try.underlying3 (rc (h9) (Msg.get_n hr NF.f))) ?_
  refine ps_k (o_rmown 6 4) (.agg (Msg.c (ownB m))) ?_
  obtain ⟨V11, eV11, gx, egx, h12, kV11⟩ := alloc_step V5 ((Msg.c msgZ)) 35
  have n13 : gm < gx := egx ▸ lt_of_block h9
  have n14 : ga < gx := egx ▸ lt_of_block h6
  have n15 : w.heap.size ≤ gx := egx ▸ K10.size
  refine ps_r (o_rmown 6 5) (pT gx 0) (w' := V11) (by rw [← eV11, ← egx]; exact exec_alloc0 35 (by kernel_rfl) (.agg ((Msg.c msgZ))) (by kernel_rfl)) ?_
  clear eV11
  have h16 := kV11.bk h9
  have h17 := kV11.bk h6
  have K18 := K10.nn kV11
  obtain ⟨V19, eV19, kV19⟩ := rowset_step V11 gx ((Msg.c (ownB m)))
  have h20 : V19.heap[gx]? = some (.cells (Msg.c ((ownB m))) 35 (0, 0)) := eV19 ▸ setRow_heap _ _ _ _ _ _ h12
  refine ps_s (o_rmown 6 6) (w' := V19) (by rw [← eV19]; exact exec_store_row 35 (.tmp 3) (.tmp 8) (by kernel_rfl) gx ((Msg.c (ownB m))) (by kernel_rfl) (by kernel_rfl) 35 ((Msg.c msgZ)) h12 (by rw [Msg.c_size (ownB_R m)]; kernel_rfl) (by rw [Msg.c_size (ownB_R m)]; exact (Msg.c_size msgZ_R).symm) (Msg.c_one _)) ?_
  clear eV19
  have h21 := kV19.bo h16 (by omega)
  have h22 := kV19.bo h17 (by omega)
  have K23 := K18.no kV19 (by omega)
  refine ps_end ?_
  refine then_n ?_
  refine sy_sq (part_rmown 14) (part_rmown 15) ?_
  refine sy_sq (part_rmown 28) (part_rmown 29) ?_
  refine sy_reg ?_
  refine rg_plain 2 (opsAt (part_rmown 28)) [0, 1] (by kernel_rfl) (by kernel_rfl) ?_
  refine ps_k (o_rmown 28 0) (pT gm 0) ?_
  refine ps_p (o_rmown 28 1) (.int .i64 m.k) (exec_ld 3 (.tmp 9) gm 0 Try.underlying3 (rc (h21) (Msg.get_n hr NF.k))) ?_
  refine ps_end ?_
  refine then_n ?_
  refine sy_bk 0 (part_rmown 58) ?_
  refine sy_sq (part_rmown 116) (part_rmown 117) ?_
  refine sy_reg ?_
  refine rg_plain 3 (opsAt (part_rmown 116)) [0, 1] (by kernel_rfl) (by kernel_rfl) ?_
  refine ps_p (o_rmown 116 0) (.bool false) (eqf ((m.k) : Int) ((1) : Int) (by omega)) ?_
  refine ps_k (o_rmown 116 1) (.bool false) ?_
  refine ps_end ?_
  refine then_n ?_
  refine sy_n (.tmp 11) (part_rmown 234) (part_rmown 235) ?_
  refine sy_sq (part_rmown 470) (part_rmown 471) ?_
  refine sy_reg ?_
  refine rg_plain 5 (opsAt (part_rmown 470)) [0, 1] (by kernel_rfl) (by kernel_rfl) ?_
  refine ps_p (o_rmown 470 0) (.bool false) (eqf ((m.k) : Int) ((2) : Int) (by omega)) ?_
  refine ps_k (o_rmown 470 1) (.bool false) ?_
  refine ps_end ?_
  refine then_n ?_
  refine sy_n (.tmp 19) (part_rmown 942) (part_rmown 943) ?_
  refine sy_sq (part_rmown 1886) (part_rmown 1887) ?_
  refine sy_reg ?_
  refine rg_plain 7 (opsAt (part_rmown 1886)) [0, 1] (by kernel_rfl) (by kernel_rfl) ?_
  refine ps_p (o_rmown 1886 0) (.bool true) (eqt ((m.k) : Int) ((3) : Int) (by omega)) ?_
  refine ps_k (o_rmown 1886 1) (.bool true) ?_
  refine ps_end ?_
  refine then_n ?_
  refine sy_ys (.tmp 27) (part_rmown 3774) (part_rmown 3775) ?_
  refine sy_np ?_
  refine sy_reg ?_
  refine an_begin 8 8 (opsAt (part_rmown 3774)) (fun W => (W.heap[gm]? = some (.cells (Msg.c m) 35 (0, 0)))) #[false, false, false, false, false, false, false, false] (by kernel_rfl) (by kernel_rfl) (by kernel_rfl) (by kernel_rfl) ?_
  obtain ⟨V24, eV24, kV24⟩ := drew_step V19
  rw [eV24]
  clear eV24
  have h25 := kV24.bk h21
  have h26 := kV24.bk h22
  have h27 := kV24.bk h20
  have K28 := K23.nn kV24
  refine an_k 0 (o_rmown 3774 0) (pT gm 2) h25 ?_
  refine an_v 1 (o_rmown 3774 1) (.int .i64 m.vl) (fun W hS => exec_ld 3 (.tmp 29) gm 2 Try.underlying3 (rc (hS) (Msg.get_n hr NF.vl))) h25 ?_
  refine an_k 2 (o_rmown 3774 2) (pT gm 4) h25 ?_
  refine an_v 3 (o_rmown 3774 3) (uN m.am) (fun W hS => exec_ld 25 (.tmp 31) gm 4 Try.underlying25 (rc (hS) (Msg.get_a hr AF.am))) h25 ?_
  refine an_k 4 (o_rmown 3774 4) (pT gx 2) h25 ?_
  refine an_o 5 ?_
  obtain ⟨V29, eV29, kV29⟩ := cell_step V24 gx 2 (.int .i64 m.vl)
  have h30 : V29.heap[gx]? = some (.cells (Msg.c (NF.set ((ownB m)) m.vl .vl)) 35 (0, 0)) := eV29 ▸ ((heap_setCell_same _ gx 2 _ _ (.int .i64 m.vl) h27).trans (congrArg (fun c => some (Obj.cells c 35 (0, 0))) (show (Msg.c ((ownB m)) : Array Value).setIfInBounds 2 (.int .i64 m.vl) = Msg.c (NF.set ((ownB m)) m.vl .vl) from Msg.set_n (ownB_R m) NF.vl _)))
  refine on_s (o_rmown 3774 5) (w' := V29) (by rw [← eV29]; exact exec_store_cell 3 (.tmp 33) (.tmp 30) (by kernel_rfl) gx 2 (by kernel_rfl) (.int .i64 m.vl) (by kernel_rfl) (by kernel_rfl) (by kernel_rfl) (.int .i64 (((ownB m)).vl)) (rc (h27) (Msg.get_n (ownB_R m) NF.vl)) (frozen_of_row _ _ _ _ _ h27) (by kernel_rfl)) ?_
  clear eV29
  have h31 := kV29.bo h25 (by omega)
  have h32 := kV29.bo h26 (by omega)
  have K33 := K28.no kV29 (by omega)
  refine ⟨h31, ?_⟩
  refine an_k 6 (o_rmown 3774 6) (pT gx 4) h31 ?_
  refine an_o 7 ?_
  obtain ⟨V34, eV34, kV34⟩ := cell_step V29 gx 4 (.int .u64 ((m.am : Nat) : Int))
  have h35 : V34.heap[gx]? = some (.cells (Msg.c (AF.set (NF.set ((ownB m)) m.vl .vl) m.am .am)) 35 (0, 0)) := eV34 ▸ ((heap_setCell_same _ gx 4 _ _ (.int .u64 ((m.am : Nat) : Int)) h30).trans (congrArg (fun c => some (Obj.cells c 35 (0, 0))) (show (Msg.c (NF.set ((ownB m)) m.vl .vl) : Array Value).setIfInBounds 4 (.int .u64 ((m.am : Nat) : Int)) = Msg.c (AF.set (NF.set ((ownB m)) m.vl .vl) m.am .am) from Msg.set_a (NF.R (ownB_R m)) AF.am _)))
  refine on_s (o_rmown 3774 7) (w' := V34) (by rw [← eV34]; exact exec_store_cell 25 (.tmp 34) (.tmp 32) (by kernel_rfl) gx 4 (by kernel_rfl) (uN m.am) (by kernel_rfl) (by kernel_rfl) (by kernel_rfl) (uN ((NF.set ((ownB m)) m.vl .vl).am)) (rc (h30) (Msg.get_a (NF.R (ownB_R m)) AF.am)) (frozen_of_row _ _ _ _ _ h30) (by kernel_rfl)) ?_
  clear eV34
  have h36 := kV34.bo h31 (by omega)
  have h37 := kV34.bo h32 (by omega)
  have K38 := K33.no kV34 (by omega)
  refine ⟨h36, ?_⟩
  refine an_end (by kernel_rfl) ?_
  refine sy_a ⟨#[.agg (Msg.c m), pT gm 0, pT ga 0, pT gx 0, pT gm 0, .int .i64 m.k, pT gm 1, .int .i64 m.f, .agg (Msg.c (ownB m)), pT gm 0, .int .i64 m.k, .bool false, .bool false, undef, undef, undef, undef, undef, undef, .bool false, .bool false, undef, undef, undef, undef, undef, undef, .bool true, .bool true, pT gm 2, .int .i64 m.vl, pT gm 4, uN m.am, pT gx 2, pT gx 4, undef, undef, undef, undef, undef, undef, undef, undef, undef, undef, undef, undef, undef, undef, undef, undef, undef, undef, undef, undef, undef, undef, undef, undef, undef, undef, undef, undef, undef, undef, undef, undef, undef, undef, undef, undef, undef, undef, undef, undef, undef, undef, undef, undef, undef, undef, undef, undef, undef, undef, undef, undef, undef, undef, undef, undef, undef, undef, undef, undef, undef, undef], []⟩ ?_
  refine blk_n ?_
  refine then_n ?_
  refine sy_sq (part_rmown 30) (part_rmown 31) ?_
  refine sy_reg ?_
  refine rg_plain 26 (opsAt (part_rmown 30)) [0, 1] (by kernel_rfl) (by kernel_rfl) ?_
  refine ps_p (o_rmown 30 0) (.agg (Msg.c (AF.set (NF.set ((ownB m)) m.vl .vl) m.am .am))) (exec_load_row 35 (.tmp 3) (by kernel_rfl) gx (by kernel_rfl) _ _ (0, 0) _ (h35) Try.underlying35 rfl (by rw [Msg.c_size (AF.R (NF.R (ownB_R m)))]; kernel_rfl)) ?_
  obtain ⟨V39, eV39, kV39⟩ := rowset_step V34 ga ((Msg.c (AF.set (NF.set ((ownB m)) m.vl .vl) m.am .am)))
  have h40 : V39.heap[ga]? = some (.cells (Msg.c (AF.set (NF.set ((ownB m)) m.vl .vl) m.am .am)) 35 (0, 0)) := eV39 ▸ setRow_heap _ _ _ _ _ _ h37
  refine ps_s (o_rmown 30 1) (w' := V39) (by rw [← eV39]; exact exec_store_row 35 (.tmp 2) (.tmp 96) (by kernel_rfl) ga ((Msg.c (AF.set (NF.set ((ownB m)) m.vl .vl) m.am .am))) (by kernel_rfl) (by kernel_rfl) 35 ((Msg.c msgZ)) h37 (by rw [Msg.c_size (AF.R (NF.R (ownB_R m)))]; kernel_rfl) (by rw [Msg.c_size (AF.R (NF.R (ownB_R m)))]; exact (Msg.c_size msgZ_R).symm) (Msg.c_one _)) ?_
  clear eV39
  have h41 := kV39.bo h36 (by omega)
  have h42 := kV39.bo h35 (by omega)
  have K43 := K38.no kV39 (by omega)
  refine ps_end ?_
  refine then_n ?_
  refine sy_ret (by kernel_rfl) ?_
  refine sy_out (.agg (Msg.c (AF.set (NF.set ((ownB m)) m.vl .vl) m.am .am))) rfl (results_cell_row (p := 2) (ty := 35) (by kernel_rfl) _ _ ga 35 (Msg.c (AF.set (NF.set ((ownB m)) m.vl .vl) m.am .am)) (0, 0) _ (by kernel_rfl) h40 Try.underlying35 rfl (by rw [Msg.c_size (AF.R (NF.R (ownB_R m)))]; kernel_rfl)) ?_
  exact ⟨rfl, K43⟩
set_option maxRecDepth 100000 in
set_option maxHeartbeats 4000000 in
theorem rmown_4 (m : Msg) (w : World) (hr : m.R) (hk : m.k = 4) :
    Calls Try.prog 55 #[.agg (Msg.c m)] w (fun e w' => e = .returned (.agg (Msg.c (ownK m 4))) ∧ Keeps Nob w w') := by
  have K0 : Keeps Nob w w := Keeps.refl _ _
  refine sy_enter (part_rmown 1) ⟨#[.agg (Msg.c m), undef, undef, undef, undef, undef, undef, undef, undef, undef, undef, undef, undef, undef, undef, undef, undef, undef, undef, undef, undef, undef, undef, undef, undef, undef, undef, undef, undef, undef, undef, undef, undef, undef, undef, undef, undef, undef, undef, undef, undef, undef, undef, undef, undef, undef, undef, undef, undef, undef, undef, undef, undef, undef, undef, undef, undef, undef, undef, undef, undef, undef, undef, undef, undef, undef, undef, undef, undef, undef, undef, undef, undef, undef, undef, undef, undef, undef, undef, undef, undef, undef, undef, undef, undef, undef, undef, undef, undef, undef, undef, undef, undef, undef, undef, undef, undef], []⟩ Try.func55 (by kernel_rfl) (by kernel_rfl) ?_
  refine sy_sq (part_rmown 2) (part_rmown 3) ?_
  refine sy_reg ?_
  refine rg_plain 0 (opsAt (part_rmown 2)) [0, 1] (by kernel_rfl) (by kernel_rfl) ?_
  obtain ⟨V1, eV1, gm, egm, h2, kV1⟩ := alloc_step w ((Msg.c m)) 35
  have n3 : w.heap.size ≤ gm := egm ▸ K0.size
  refine ps_r (o_rmown 2 0) (pT gm 0) (w' := V1) (by rw [← eV1, ← egm]; exact exec_box 35 (.tmp 0) (by kernel_rfl) (.agg (Msg.c m)) (by kernel_rfl)) ?_
  clear eV1
  have K4 := K0.nn kV1
  obtain ⟨V5, eV5, ga, ega, h6, kV5⟩ := alloc_step V1 ((Msg.c msgZ)) 35
  have n7 : gm < ga := ega ▸ lt_of_block h2
  have n8 : w.heap.size ≤ ga := ega ▸ K4.size
  refine ps_r (o_rmown 2 1) (pT ga 0) (w' := V5) (by rw [← eV5, ← ega]; exact exec_alloc0 35 (by kernel_rfl) (.agg ((Msg.c msgZ))) (by kernel_rfl)) ?_
  clear eV5
  have h9 := kV5.bk h2
  have K10 := K4.nn kV5
  refine ps_end ?_
  refine then_n ?_
  refine sy_sq (part_rmown 6) (part_rmown 7) ?_
  refine sy_reg ?_
  refine rg_plain 1 (opsAt (part_rmown 6)) [0, 1, 2, 3, 4, 5, 6] (by kernel_rfl) (by kernel_rfl) ?_
  refine ps_k (o_rmown 6 0) (pT gm 0) ?_
  refine ps_p (o_rmown 6 1) (.int .i64 m.k) (exec_ld 3 (.tmp 4) gm 0 Try.underlying3 (rc (h9) (Msg.get_n hr NF.k))) ?_
  refine ps_k (o_rmown 6 2) (pT gm 1) ?_
  refine ps_p (o_rmown 6 3) (.int .i64 m.f) (exec_ld 3 (.tmp 6) gm 1 Try.underlying3 (rc (h9) (Msg.get_n hr NF.f))) ?_
  refine ps_k (o_rmown 6 4) (.agg (Msg.c (ownB m))) ?_
  obtain ⟨V11, eV11, gx, egx, h12, kV11⟩ := alloc_step V5 ((Msg.c msgZ)) 35
  have n13 : gm < gx := egx ▸ lt_of_block h9
  have n14 : ga < gx := egx ▸ lt_of_block h6
  have n15 : w.heap.size ≤ gx := egx ▸ K10.size
  refine ps_r (o_rmown 6 5) (pT gx 0) (w' := V11) (by rw [← eV11, ← egx]; exact exec_alloc0 35 (by kernel_rfl) (.agg ((Msg.c msgZ))) (by kernel_rfl)) ?_
  clear eV11
  have h16 := kV11.bk h9
  have h17 := kV11.bk h6
  have K18 := K10.nn kV11
  obtain ⟨V19, eV19, kV19⟩ := rowset_step V11 gx ((Msg.c (ownB m)))
  have h20 : V19.heap[gx]? = some (.cells (Msg.c ((ownB m))) 35 (0, 0)) := eV19 ▸ setRow_heap _ _ _ _ _ _ h12
  refine ps_s (o_rmown 6 6) (w' := V19) (by rw [← eV19]; exact exec_store_row 35 (.tmp 3) (.tmp 8) (by kernel_rfl) gx ((Msg.c (ownB m))) (by kernel_rfl) (by kernel_rfl) 35 ((Msg.c msgZ)) h12 (by rw [Msg.c_size (ownB_R m)]; kernel_rfl) (by rw [Msg.c_size (ownB_R m)]; exact (Msg.c_size msgZ_R).symm) (Msg.c_one _)) ?_
  clear eV19
  have h21 := kV19.bo h16 (by omega)
  have h22 := kV19.bo h17 (by omega)
  have K23 := K18.no kV19 (by omega)
  refine ps_end ?_
  refine then_n ?_
  refine sy_sq (part_rmown 14) (part_rmown 15) ?_
  refine sy_sq (part_rmown 28) (part_rmown 29) ?_
  refine sy_reg ?_
  refine rg_plain 2 (opsAt (part_rmown 28)) [0, 1] (by kernel_rfl) (by kernel_rfl) ?_
  refine ps_k (o_rmown 28 0) (pT gm 0) ?_
  refine ps_p (o_rmown 28 1) (.int .i64 m.k) (exec_ld 3 (.tmp 9) gm 0 Try.underlying3 (rc (h21) (Msg.get_n hr NF.k))) ?_
  refine ps_end ?_
  refine then_n ?_
  refine sy_bk 0 (part_rmown 58) ?_
  refine sy_sq (part_rmown 116) (part_rmown 117) ?_
  refine sy_reg ?_
  refine rg_plain 3 (opsAt (part_rmown 116)) [0, 1] (by kernel_rfl) (by kernel_rfl) ?_
  refine ps_p (o_rmown 116 0) (.bool false) (eqf ((m.k) : Int) ((1) : Int) (by omega)) ?_
  refine ps_k (o_rmown 116 1) (.bool false) ?_
  refine ps_end ?_
  refine then_n ?_
  refine sy_n (.tmp 11) (part_rmown 234) (part_rmown 235) ?_
  refine sy_sq (part_rmown 470) (part_rmown 471) ?_
  refine sy_reg ?_
  refine rg_plain 5 (opsAt (part_rmown 470)) [0, 1] (by kernel_rfl) (by kernel_rfl) ?_
  refine ps_p (o_rmown 470 0) (.bool false) (eqf ((m.k) : Int) ((2) : Int) (by omega)) ?_
  refine ps_k (o_rmown 470 1) (.bool false) ?_
  refine ps_end ?_
  refine then_n ?_
  refine sy_n (.tmp 19) (part_rmown 942) (part_rmown 943) ?_
  refine sy_sq (part_rmown 1886) (part_rmown 1887) ?_
  refine sy_reg ?_
  refine rg_plain 7 (opsAt (part_rmown 1886)) [0, 1] (by kernel_rfl) (by kernel_rfl) ?_
  refine ps_p (o_rmown 1886 0) (.bool false) (eqf ((m.k) : Int) ((3) : Int) (by omega)) ?_
  refine ps_k (o_rmown 1886 1) (.bool false) ?_
  refine ps_end ?_
  refine then_n ?_
  refine sy_n (.tmp 27) (part_rmown 3774) (part_rmown 3775) ?_
  refine sy_sq (part_rmown 7550) (part_rmown 7551) ?_
  refine sy_reg ?_
  refine rg_plain 9 (opsAt (part_rmown 7550)) [0, 1] (by kernel_rfl) (by kernel_rfl) ?_
  refine ps_p (o_rmown 7550 0) (.bool true) (eqt ((m.k) : Int) ((4) : Int) (by omega)) ?_
  refine ps_k (o_rmown 7550 1) (.bool true) ?_
  refine ps_end ?_
  refine then_n ?_
  refine sy_ys (.tmp 35) (part_rmown 15102) (part_rmown 15103) ?_
  refine sy_np ?_
  refine sy_reg ?_
  refine an_begin 10 8 (opsAt (part_rmown 15102)) (fun W => (W.heap[gm]? = some (.cells (Msg.c m) 35 (0, 0)))) #[false, false, false, false, false, false, false, false] (by kernel_rfl) (by kernel_rfl) (by kernel_rfl) (by kernel_rfl) ?_
  obtain ⟨V24, eV24, kV24⟩ := drew_step V19
  rw [eV24]
  clear eV24
  have h25 := kV24.bk h21
  have h26 := kV24.bk h22
  have h27 := kV24.bk h20
  have K28 := K23.nn kV24
  refine an_k 0 (o_rmown 15102 0) (pT gm 6) h25 ?_
  refine an_v 1 (o_rmown 15102 1) (.agg (Msg.st m)) (fun W hS => exec_load_seg 27 (.tmp 37) (by kernel_rfl) gm 6 (by kernel_rfl) (Msg.st m).toList _ _ _ hS (Msg.seg_S _) Try.underlying27 rfl (by kernel_rfl)) h25 ?_
  refine an_k 2 (o_rmown 15102 2) (pT gm 4) h25 ?_
  refine an_v 3 (o_rmown 15102 3) (uN m.am) (fun W hS => exec_ld 25 (.tmp 39) gm 4 Try.underlying25 (rc (hS) (Msg.get_a hr AF.am))) h25 ?_
  refine an_k 4 (o_rmown 15102 4) (pT gx 6) h25 ?_
  refine an_o 5 ?_
  obtain ⟨V29, eV29⟩ : ∃ V, V24.setCells gx 6 (Msg.st m).toList = V := ⟨_, rfl⟩
  have kV29 : Keeps (One gx) V24 V29 := eV29 ▸ Keeps.setCells _ _ _ _
  have h30 : V29.heap[gx]? = some (.cells (Msg.c (putS ((ownB m)) m)) 35 (0, 0)) := eV29 ▸ (heap_setCells gx _ _ 6 _ _ h27 (show 6 + (Msg.st m).toList.length ≤ _ by rw [(show (Msg.st m).toList.length = 4 from rfl), Msg.c_size (ownB_R m)]; decide)).trans (congrArg (fun c => some (Obj.cells c 35 (0, 0))) (Msg.set_S (ownB_R m) _))
  refine on_s (o_rmown 15102 5) (w' := V29) (by rw [← eV29]; exact exec_store_mid 27 (.tmp 41) (.tmp 38) (by kernel_rfl) gx 6 (by kernel_rfl) (Msg.st m) (by kernel_rfl) _ _ h27 (show 6 + (Msg.st m).toList.length ≤ _ by rw [(show (Msg.st m).toList.length = 4 from rfl), Msg.c_size (ownB_R m)]; decide) (by kernel_rfl) (by kernel_rfl)) ?_
  clear eV29
  have h31 := kV29.bo h25 (by omega)
  have h32 := kV29.bo h26 (by omega)
  have K33 := K28.no kV29 (by omega)
  refine ⟨h31, ?_⟩
  refine an_k 6 (o_rmown 15102 6) (pT gx 4) h31 ?_
  refine an_o 7 ?_
  obtain ⟨V34, eV34, kV34⟩ := cell_step V29 gx 4 (.int .u64 ((m.am : Nat) : Int))
  have h35 : V34.heap[gx]? = some (.cells (Msg.c (AF.set (putS ((ownB m)) m) m.am .am)) 35 (0, 0)) := eV34 ▸ ((heap_setCell_same _ gx 4 _ _ (.int .u64 ((m.am : Nat) : Int)) h30).trans (congrArg (fun c => some (Obj.cells c 35 (0, 0))) (show (Msg.c (putS ((ownB m)) m) : Array Value).setIfInBounds 4 (.int .u64 ((m.am : Nat) : Int)) = Msg.c (AF.set (putS ((ownB m)) m) m.am .am) from Msg.set_a (putS_R (ownB_R m)) AF.am _)))
  refine on_s (o_rmown 15102 7) (w' := V34) (by rw [← eV34]; exact exec_store_cell 25 (.tmp 42) (.tmp 40) (by kernel_rfl) gx 4 (by kernel_rfl) (uN m.am) (by kernel_rfl) (by kernel_rfl) (by kernel_rfl) (uN ((putS ((ownB m)) m).am)) (rc (h30) (Msg.get_a (putS_R (ownB_R m)) AF.am)) (frozen_of_row _ _ _ _ _ h30) (by kernel_rfl)) ?_
  clear eV34
  have h36 := kV34.bo h31 (by omega)
  have h37 := kV34.bo h32 (by omega)
  have K38 := K33.no kV34 (by omega)
  refine ⟨h36, ?_⟩
  refine an_end (by kernel_rfl) ?_
  refine sy_a ⟨#[.agg (Msg.c m), pT gm 0, pT ga 0, pT gx 0, pT gm 0, .int .i64 m.k, pT gm 1, .int .i64 m.f, .agg (Msg.c (ownB m)), pT gm 0, .int .i64 m.k, .bool false, .bool false, undef, undef, undef, undef, undef, undef, .bool false, .bool false, undef, undef, undef, undef, undef, undef, .bool false, .bool false, undef, undef, undef, undef, undef, undef, .bool true, .bool true, pT gm 6, .agg (Msg.st m), pT gm 4, uN m.am, pT gx 6, pT gx 4, undef, undef, undef, undef, undef, undef, undef, undef, undef, undef, undef, undef, undef, undef, undef, undef, undef, undef, undef, undef, undef, undef, undef, undef, undef, undef, undef, undef, undef, undef, undef, undef, undef, undef, undef, undef, undef, undef, undef, undef, undef, undef, undef, undef, undef, undef, undef, undef, undef, undef, undef, undef, undef, undef], []⟩ ?_
  refine blk_n ?_
  refine then_n ?_
  refine sy_sq (part_rmown 30) (part_rmown 31) ?_
  refine sy_reg ?_
  refine rg_plain 26 (opsAt (part_rmown 30)) [0, 1] (by kernel_rfl) (by kernel_rfl) ?_
  refine ps_p (o_rmown 30 0) (.agg (Msg.c (AF.set (putS ((ownB m)) m) m.am .am))) (exec_load_row 35 (.tmp 3) (by kernel_rfl) gx (by kernel_rfl) _ _ (0, 0) _ (h35) Try.underlying35 rfl (by rw [Msg.c_size (AF.R (putS_R (ownB_R m)))]; kernel_rfl)) ?_
  obtain ⟨V39, eV39, kV39⟩ := rowset_step V34 ga ((Msg.c (AF.set (putS ((ownB m)) m) m.am .am)))
  have h40 : V39.heap[ga]? = some (.cells (Msg.c (AF.set (putS ((ownB m)) m) m.am .am)) 35 (0, 0)) := eV39 ▸ setRow_heap _ _ _ _ _ _ h37
  refine ps_s (o_rmown 30 1) (w' := V39) (by rw [← eV39]; exact exec_store_row 35 (.tmp 2) (.tmp 96) (by kernel_rfl) ga ((Msg.c (AF.set (putS ((ownB m)) m) m.am .am))) (by kernel_rfl) (by kernel_rfl) 35 ((Msg.c msgZ)) h37 (by rw [Msg.c_size (AF.R (putS_R (ownB_R m)))]; kernel_rfl) (by rw [Msg.c_size (AF.R (putS_R (ownB_R m)))]; exact (Msg.c_size msgZ_R).symm) (Msg.c_one _)) ?_
  clear eV39
  have h41 := kV39.bo h36 (by omega)
  have h42 := kV39.bo h35 (by omega)
  have K43 := K38.no kV39 (by omega)
  refine ps_end ?_
  refine then_n ?_
  refine sy_ret (by kernel_rfl) ?_
  refine sy_out (.agg (Msg.c (AF.set (putS ((ownB m)) m) m.am .am))) rfl (results_cell_row (p := 2) (ty := 35) (by kernel_rfl) _ _ ga 35 (Msg.c (AF.set (putS ((ownB m)) m) m.am .am)) (0, 0) _ (by kernel_rfl) h40 Try.underlying35 rfl (by rw [Msg.c_size (AF.R (putS_R (ownB_R m)))]; kernel_rfl)) ?_
  exact ⟨rfl, K43⟩
set_option maxRecDepth 100000 in
set_option maxHeartbeats 4000000 in
theorem rmown_5 (m : Msg) (w : World) (hr : m.R) (hk : m.k = 5) :
    Calls Try.prog 55 #[.agg (Msg.c m)] w (fun e w' => e = .returned (.agg (Msg.c (ownK m 5))) ∧ Keeps Nob w w') := by
  have K0 : Keeps Nob w w := Keeps.refl _ _
  refine sy_enter (part_rmown 1) ⟨#[.agg (Msg.c m), undef, undef, undef, undef, undef, undef, undef, undef, undef, undef, undef, undef, undef, undef, undef, undef, undef, undef, undef, undef, undef, undef, undef, undef, undef, undef, undef, undef, undef, undef, undef, undef, undef, undef, undef, undef, undef, undef, undef, undef, undef, undef, undef, undef, undef, undef, undef, undef, undef, undef, undef, undef, undef, undef, undef, undef, undef, undef, undef, undef, undef, undef, undef, undef, undef, undef, undef, undef, undef, undef, undef, undef, undef, undef, undef, undef, undef, undef, undef, undef, undef, undef, undef, undef, undef, undef, undef, undef, undef, undef, undef, undef, undef, undef, undef, undef], []⟩ Try.func55 (by kernel_rfl) (by kernel_rfl) ?_
  refine sy_sq (part_rmown 2) (part_rmown 3) ?_
  refine sy_reg ?_
  refine rg_plain 0 (opsAt (part_rmown 2)) [0, 1] (by kernel_rfl) (by kernel_rfl) ?_
  obtain ⟨V1, eV1, gm, egm, h2, kV1⟩ := alloc_step w ((Msg.c m)) 35
  have n3 : w.heap.size ≤ gm := egm ▸ K0.size
  refine ps_r (o_rmown 2 0) (pT gm 0) (w' := V1) (by rw [← eV1, ← egm]; exact exec_box 35 (.tmp 0) (by kernel_rfl) (.agg (Msg.c m)) (by kernel_rfl)) ?_
  clear eV1
  have K4 := K0.nn kV1
  obtain ⟨V5, eV5, ga, ega, h6, kV5⟩ := alloc_step V1 ((Msg.c msgZ)) 35
  have n7 : gm < ga := ega ▸ lt_of_block h2
  have n8 : w.heap.size ≤ ga := ega ▸ K4.size
  refine ps_r (o_rmown 2 1) (pT ga 0) (w' := V5) (by rw [← eV5, ← ega]; exact exec_alloc0 35 (by kernel_rfl) (.agg ((Msg.c msgZ))) (by kernel_rfl)) ?_
  clear eV5
  have h9 := kV5.bk h2
  have K10 := K4.nn kV5
  refine ps_end ?_
  refine then_n ?_
  refine sy_sq (part_rmown 6) (part_rmown 7) ?_
  refine sy_reg ?_
  refine rg_plain 1 (opsAt (part_rmown 6)) [0, 1, 2, 3, 4, 5, 6] (by kernel_rfl) (by kernel_rfl) ?_
  refine ps_k (o_rmown 6 0) (pT gm 0) ?_
  refine ps_p (o_rmown 6 1) (.int .i64 m.k) (exec_ld 3 (.tmp 4) gm 0 Try.underlying3 (rc (h9) (Msg.get_n hr NF.k))) ?_
  refine ps_k (o_rmown 6 2) (pT gm 1) ?_
  refine ps_p (o_rmown 6 3) (.int .i64 m.f) (exec_ld 3 (.tmp 6) gm 1 Try.underlying3 (rc (h9) (Msg.get_n hr NF.f))) ?_
  refine ps_k (o_rmown 6 4) (.agg (Msg.c (ownB m))) ?_
  obtain ⟨V11, eV11, gx, egx, h12, kV11⟩ := alloc_step V5 ((Msg.c msgZ)) 35
  have n13 : gm < gx := egx ▸ lt_of_block h9
  have n14 : ga < gx := egx ▸ lt_of_block h6
  have n15 : w.heap.size ≤ gx := egx ▸ K10.size
  refine ps_r (o_rmown 6 5) (pT gx 0) (w' := V11) (by rw [← eV11, ← egx]; exact exec_alloc0 35 (by kernel_rfl) (.agg ((Msg.c msgZ))) (by kernel_rfl)) ?_
  clear eV11
  have h16 := kV11.bk h9
  have h17 := kV11.bk h6
  have K18 := K10.nn kV11
  obtain ⟨V19, eV19, kV19⟩ := rowset_step V11 gx ((Msg.c (ownB m)))
  have h20 : V19.heap[gx]? = some (.cells (Msg.c ((ownB m))) 35 (0, 0)) := eV19 ▸ setRow_heap _ _ _ _ _ _ h12
  refine ps_s (o_rmown 6 6) (w' := V19) (by rw [← eV19]; exact exec_store_row 35 (.tmp 3) (.tmp 8) (by kernel_rfl) gx ((Msg.c (ownB m))) (by kernel_rfl) (by kernel_rfl) 35 ((Msg.c msgZ)) h12 (by rw [Msg.c_size (ownB_R m)]; kernel_rfl) (by rw [Msg.c_size (ownB_R m)]; exact (Msg.c_size msgZ_R).symm) (Msg.c_one _)) ?_
  clear eV19
  have h21 := kV19.bo h16 (by omega)
  have h22 := kV19.bo h17 (by omega)
  have K23 := K18.no kV19 (by omega)
  refine ps_end ?_
  refine then_n ?_
  refine sy_sq (part_rmown 14) (part_rmown 15) ?_
  refine sy_sq (part_rmown 28) (part_rmown 29) ?_
  refine sy_reg ?_
  refine rg_plain 2 (opsAt (part_rmown 28)) [0, 1] (by kernel_rfl) (by kernel_rfl) ?_
  refine ps_k (o_rmown 28 0) (pT gm 0) ?_
  refine ps_p (o_rmown 28 1) (.int .i64 m.k) (exec_ld 3 (.tmp 9) gm 0 Try.underlying3 (rc (h21) (Msg.get_n hr NF.k))) ?_
  refine ps_end ?_
  refine then_n ?_
  refine sy_bk 0 (part_rmown 58) ?_
  refine sy_sq (part_rmown 116) (part_rmown 117) ?_
  refine sy_reg ?_
  refine rg_plain 3 (opsAt (part_rmown 116)) [0, 1] (by kernel_rfl) (by kernel_rfl) ?_
  refine ps_p (o_rmown 116 0) (.bool false) (eqf ((m.k) : Int) ((1) : Int) (by omega)) ?_
  refine ps_k (o_rmown 116 1) (.bool false) ?_
  refine ps_end ?_
  refine then_n ?_
  refine sy_n (.tmp 11) (part_rmown 234) (part_rmown 235) ?_
  refine sy_sq (part_rmown 470) (part_rmown 471) ?_
  refine sy_reg ?_
  refine rg_plain 5 (opsAt (part_rmown 470)) [0, 1] (by kernel_rfl) (by kernel_rfl) ?_
  refine ps_p (o_rmown 470 0) (.bool false) (eqf ((m.k) : Int) ((2) : Int) (by omega)) ?_
  refine ps_k (o_rmown 470 1) (.bool false) ?_
  refine ps_end ?_
  refine then_n ?_
  refine sy_n (.tmp 19) (part_rmown 942) (part_rmown 943) ?_
  refine sy_sq (part_rmown 1886) (part_rmown 1887) ?_
  refine sy_reg ?_
  refine rg_plain 7 (opsAt (part_rmown 1886)) [0, 1] (by kernel_rfl) (by kernel_rfl) ?_
  refine ps_p (o_rmown 1886 0) (.bool false) (eqf ((m.k) : Int) ((3) : Int) (by omega)) ?_
  refine ps_k (o_rmown 1886 1) (.bool false) ?_
  refine ps_end ?_
  refine then_n ?_
  refine sy_n (.tmp 27) (part_rmown 3774) (part_rmown 3775) ?_
  refine sy_sq (part_rmown 7550) (part_rmown 7551) ?_
  refine sy_reg ?_
  refine rg_plain 9 (opsAt (part_rmown 7550)) [0, 1] (by kernel_rfl) (by kernel_rfl) ?_
  refine ps_p (o_rmown 7550 0) (.bool false) (eqf ((m.k) : Int) ((4) : Int) (by omega)) ?_
  refine ps_k (o_rmown 7550 1) (.bool false) ?_
  refine ps_end ?_
  refine then_n ?_
  refine sy_n (.tmp 35) (part_rmown 15102) (part_rmown 15103) ?_
  refine sy_sq (part_rmown 30206) (part_rmown 30207) ?_
  refine sy_reg ?_
  refine rg_plain 11 (opsAt (part_rmown 30206)) [0, 1] (by kernel_rfl) (by kernel_rfl) ?_
  refine ps_p (o_rmown 30206 0) (.bool true) (eqt ((m.k) : Int) ((5) : Int) (by omega)) ?_
  refine ps_k (o_rmown 30206 1) (.bool true) ?_
  refine ps_end ?_
  refine then_n ?_
  refine sy_ys (.tmp 43) (part_rmown 60414) (part_rmown 60415) ?_
  refine sy_np ?_
  refine sy_reg ?_
  refine an_begin 12 12 (opsAt (part_rmown 60414)) (fun W => (W.heap[gm]? = some (.cells (Msg.c m) 35 (0, 0)))) #[false, false, false, false, false, false, false, false, false, false, false, false] (by kernel_rfl) (by kernel_rfl) (by kernel_rfl) (by kernel_rfl) ?_
  obtain ⟨V24, eV24, kV24⟩ := drew_step V19
  rw [eV24]
  clear eV24
  have h25 := kV24.bk h21
  have h26 := kV24.bk h22
  have h27 := kV24.bk h20
  have K28 := K23.nn kV24
  refine an_k 0 (o_rmown 60414 0) (pT gm 6) h25 ?_
  refine an_v 1 (o_rmown 60414 1) (.agg (Msg.st m)) (fun W hS => exec_load_seg 27 (.tmp 45) (by kernel_rfl) gm 6 (by kernel_rfl) (Msg.st m).toList _ _ _ hS (Msg.seg_S _) Try.underlying27 rfl (by kernel_rfl)) h25 ?_
  refine an_k 2 (o_rmown 60414 2) (pT gm 4) h25 ?_
  refine an_v 3 (o_rmown 60414 3) (uN m.am) (fun W hS => exec_ld 25 (.tmp 47) gm 4 Try.underlying25 (rc (hS) (Msg.get_a hr AF.am))) h25 ?_
  refine an_k 4 (o_rmown 60414 4) (pT gm 3) h25 ?_
  refine an_v 5 (o_rmown 60414 5) (.int .i64 m.t) (fun W hS => exec_ld 3 (.tmp 49) gm 3 Try.underlying3 (rc (hS) (Msg.get_n hr NF.t))) h25 ?_
  refine an_k 6 (o_rmown 60414 6) (pT gx 6) h25 ?_
  refine an_o 7 ?_
  obtain ⟨V29, eV29⟩ : ∃ V, V24.setCells gx 6 (Msg.st m).toList = V := ⟨_, rfl⟩
  have kV29 : Keeps (One gx) V24 V29 := eV29 ▸ Keeps.setCells _ _ _ _
  have h30 : V29.heap[gx]? = some (.cells (Msg.c (putS ((ownB m)) m)) 35 (0, 0)) := eV29 ▸ (heap_setCells gx _ _ 6 _ _ h27 (show 6 + (Msg.st m).toList.length ≤ _ by rw [(show (Msg.st m).toList.length = 4 from rfl), Msg.c_size (ownB_R m)]; decide)).trans (congrArg (fun c => some (Obj.cells c 35 (0, 0))) (Msg.set_S (ownB_R m) _))
  refine on_s (o_rmown 60414 7) (w' := V29) (by rw [← eV29]; exact exec_store_mid 27 (.tmp 51) (.tmp 46) (by kernel_rfl) gx 6 (by kernel_rfl) (Msg.st m) (by kernel_rfl) _ _ h27 (show 6 + (Msg.st m).toList.length ≤ _ by rw [(show (Msg.st m).toList.length = 4 from rfl), Msg.c_size (ownB_R m)]; decide) (by kernel_rfl) (by kernel_rfl)) ?_
  clear eV29
  have h31 := kV29.bo h25 (by omega)
  have h32 := kV29.bo h26 (by omega)
  have K33 := K28.no kV29 (by omega)
  refine ⟨h31, ?_⟩
  refine an_k 8 (o_rmown 60414 8) (pT gx 4) h31 ?_
  refine an_o 9 ?_
  obtain ⟨V34, eV34, kV34⟩ := cell_step V29 gx 4 (.int .u64 ((m.am : Nat) : Int))
  have h35 : V34.heap[gx]? = some (.cells (Msg.c (AF.set (putS ((ownB m)) m) m.am .am)) 35 (0, 0)) := eV34 ▸ ((heap_setCell_same _ gx 4 _ _ (.int .u64 ((m.am : Nat) : Int)) h30).trans (congrArg (fun c => some (Obj.cells c 35 (0, 0))) (show (Msg.c (putS ((ownB m)) m) : Array Value).setIfInBounds 4 (.int .u64 ((m.am : Nat) : Int)) = Msg.c (AF.set (putS ((ownB m)) m) m.am .am) from Msg.set_a (putS_R (ownB_R m)) AF.am _)))
  refine on_s (o_rmown 60414 9) (w' := V34) (by rw [← eV34]; exact exec_store_cell 25 (.tmp 52) (.tmp 48) (by kernel_rfl) gx 4 (by kernel_rfl) (uN m.am) (by kernel_rfl) (by kernel_rfl) (by kernel_rfl) (uN ((putS ((ownB m)) m).am)) (rc (h30) (Msg.get_a (putS_R (ownB_R m)) AF.am)) (frozen_of_row _ _ _ _ _ h30) (by kernel_rfl)) ?_
  clear eV34
  have h36 := kV34.bo h31 (by omega)
  have h37 := kV34.bo h32 (by omega)
  have K38 := K33.no kV34 (by omega)
  refine ⟨h36, ?_⟩
  refine an_k 10 (o_rmown 60414 10) (pT gx 3) h36 ?_
  refine an_o 11 ?_
  obtain ⟨V39, eV39, kV39⟩ := cell_step V34 gx 3 (.int .i64 m.t)
  have h40 : V39.heap[gx]? = some (.cells (Msg.c (NF.set (AF.set (putS ((ownB m)) m) m.am .am) m.t .t)) 35 (0, 0)) := eV39 ▸ ((heap_setCell_same _ gx 3 _ _ (.int .i64 m.t) h35).trans (congrArg (fun c => some (Obj.cells c 35 (0, 0))) (show (Msg.c (AF.set (putS ((ownB m)) m) m.am .am) : Array Value).setIfInBounds 3 (.int .i64 m.t) = Msg.c (NF.set (AF.set (putS ((ownB m)) m) m.am .am) m.t .t) from Msg.set_n (AF.R (putS_R (ownB_R m))) NF.t _)))
  refine on_s (o_rmown 60414 11) (w' := V39) (by rw [← eV39]; exact exec_store_cell 3 (.tmp 53) (.tmp 50) (by kernel_rfl) gx 3 (by kernel_rfl) (.int .i64 m.t) (by kernel_rfl) (by kernel_rfl) (by kernel_rfl) (.int .i64 ((AF.set (putS ((ownB m)) m) m.am .am).t)) (rc (h35) (Msg.get_n (AF.R (putS_R (ownB_R m))) NF.t)) (frozen_of_row _ _ _ _ _ h35) (by kernel_rfl)) ?_
  clear eV39
  have h41 := kV39.bo h36 (by omega)
  have h42 := kV39.bo h37 (by omega)
  have K43 := K38.no kV39 (by omega)
  refine ⟨h41, ?_⟩
  refine an_end (by kernel_rfl) ?_
  refine sy_a ⟨#[.agg (Msg.c m), pT gm 0, pT ga 0, pT gx 0, pT gm 0, .int .i64 m.k, pT gm 1, .int .i64 m.f, .agg (Msg.c (ownB m)), pT gm 0, .int .i64 m.k, .bool false, .bool false, undef, undef, undef, undef, undef, undef, .bool false, .bool false, undef, undef, undef, undef, undef, undef, .bool false, .bool false, undef, undef, undef, undef, undef, undef, .bool false, .bool false, undef, undef, undef, undef, undef, undef, .bool true, .bool true, pT gm 6, .agg (Msg.st m), pT gm 4, uN m.am, pT gm 3, .int .i64 m.t, pT gx 6, pT gx 4, pT gx 3, undef, undef, undef, undef, undef, undef, undef, undef, undef, undef, undef, undef, undef, undef, undef, undef, undef, undef, undef, undef, undef, undef, undef, undef, undef, undef, undef, undef, undef, undef, undef, undef, undef, undef, undef, undef, undef, undef, undef, undef, undef, undef, undef], []⟩ ?_
  refine blk_n ?_
  refine then_n ?_
  refine sy_sq (part_rmown 30) (part_rmown 31) ?_
  refine sy_reg ?_
  refine rg_plain 26 (opsAt (part_rmown 30)) [0, 1] (by kernel_rfl) (by kernel_rfl) ?_
  refine ps_p (o_rmown 30 0) (.agg (Msg.c (NF.set (AF.set (putS ((ownB m)) m) m.am .am) m.t .t))) (exec_load_row 35 (.tmp 3) (by kernel_rfl) gx (by kernel_rfl) _ _ (0, 0) _ (h40) Try.underlying35 rfl (by rw [Msg.c_size (NF.R (AF.R (putS_R (ownB_R m))))]; kernel_rfl)) ?_
  obtain ⟨V44, eV44, kV44⟩ := rowset_step V39 ga ((Msg.c (NF.set (AF.set (putS ((ownB m)) m) m.am .am) m.t .t)))
  have h45 : V44.heap[ga]? = some (.cells (Msg.c (NF.set (AF.set (putS ((ownB m)) m) m.am .am) m.t .t)) 35 (0, 0)) := eV44 ▸ setRow_heap _ _ _ _ _ _ h42
  refine ps_s (o_rmown 30 1) (w' := V44) (by rw [← eV44]; exact exec_store_row 35 (.tmp 2) (.tmp 96) (by kernel_rfl) ga ((Msg.c (NF.set (AF.set (putS ((ownB m)) m) m.am .am) m.t .t))) (by kernel_rfl) (by kernel_rfl) 35 ((Msg.c msgZ)) h42 (by rw [Msg.c_size (NF.R (AF.R (putS_R (ownB_R m))))]; kernel_rfl) (by rw [Msg.c_size (NF.R (AF.R (putS_R (ownB_R m))))]; exact (Msg.c_size msgZ_R).symm) (Msg.c_one _)) ?_
  clear eV44
  have h46 := kV44.bo h41 (by omega)
  have h47 := kV44.bo h40 (by omega)
  have K48 := K43.no kV44 (by omega)
  refine ps_end ?_
  refine then_n ?_
  refine sy_ret (by kernel_rfl) ?_
  refine sy_out (.agg (Msg.c (NF.set (AF.set (putS ((ownB m)) m) m.am .am) m.t .t))) rfl (results_cell_row (p := 2) (ty := 35) (by kernel_rfl) _ _ ga 35 (Msg.c (NF.set (AF.set (putS ((ownB m)) m) m.am .am) m.t .t)) (0, 0) _ (by kernel_rfl) h45 Try.underlying35 rfl (by rw [Msg.c_size (NF.R (AF.R (putS_R (ownB_R m))))]; kernel_rfl)) ?_
  exact ⟨rfl, K48⟩
set_option maxRecDepth 100000 in
set_option maxHeartbeats 4000000 in
theorem rmown_6 (m : Msg) (w : World) (hr : m.R) (hk : m.k = 6) :
    Calls Try.prog 55 #[.agg (Msg.c m)] w (fun e w' => e = .returned (.agg (Msg.c (ownK m 6))) ∧ Keeps Nob w w') := by
  have K0 : Keeps Nob w w := Keeps.refl _ _
  refine sy_enter (part_rmown 1) ⟨#[.agg (Msg.c m), undef, undef, undef, undef, undef, undef, undef, undef, undef, undef, undef, undef, undef, undef, undef, undef, undef, undef, undef, undef, undef, undef, undef, undef, undef, undef, undef, undef, undef, undef, undef, undef, undef, undef, undef, undef, undef, undef, undef, undef, undef, undef, undef, undef, undef, undef, undef, undef, undef, undef, undef, undef, undef, undef, undef, undef, undef, undef, undef, undef, undef, undef, undef, undef, undef, undef, undef, undef, undef, undef, undef, undef, undef, undef, undef, undef, undef, undef, undef, undef, undef, undef, undef, undef, undef, undef, undef, undef, undef, undef, undef, undef, undef, undef, undef, undef], []⟩ Try.func55 (by kernel_rfl) (by kernel_rfl) ?_
  refine sy_sq (part_rmown 2) (part_rmown 3) ?_
  refine sy_reg ?_
  refine rg_plain 0 (opsAt (part_rmown 2)) [0, 1] (by kernel_rfl) (by kernel_rfl) ?_
  obtain ⟨V1, eV1, gm, egm, h2, kV1⟩ := alloc_step w ((Msg.c m)) 35
  have n3 : w.heap.size ≤ gm := egm ▸ K0.size
  refine ps_r (o_rmown 2 0) (pT gm 0) (w' := V1) (by rw [← eV1, ← egm]; exact exec_box 35 (.tmp 0) (by kernel_rfl) (.agg (Msg.c m)) (by kernel_rfl)) ?_
  clear eV1
  have K4 := K0.nn kV1
  obtain ⟨V5, eV5, ga, ega, h6, kV5⟩ := alloc_step V1 ((Msg.c msgZ)) 35
  have n7 : gm < ga := ega ▸ lt_of_block h2
  have n8 : w.heap.size ≤ ga := ega ▸ K4.size
  refine ps_r (o_rmown 2 1) (pT ga 0) (w' := V5) (by rw [← eV5, ← ega]; exact exec_alloc0 35 (by kernel_rfl) (.agg ((Msg.c msgZ))) (by kernel_rfl)) ?_
  clear eV5
  have h9 := kV5.bk h2
  have K10 := K4.nn kV5
  refine ps_end ?_
  refine then_n ?_
  refine sy_sq (part_rmown 6) (part_rmown 7) ?_
  refine sy_reg ?_
  refine rg_plain 1 (opsAt (part_rmown 6)) [0, 1, 2, 3, 4, 5, 6] (by kernel_rfl) (by kernel_rfl) ?_
  refine ps_k (o_rmown 6 0) (pT gm 0) ?_
  refine ps_p (o_rmown 6 1) (.int .i64 m.k) (exec_ld 3 (.tmp 4) gm 0 Try.underlying3 (rc (h9) (Msg.get_n hr NF.k))) ?_
  refine ps_k (o_rmown 6 2) (pT gm 1) ?_
  refine ps_p (o_rmown 6 3) (.int .i64 m.f) (exec_ld 3 (.tmp 6) gm 1 Try.underlying3 (rc (h9) (Msg.get_n hr NF.f))) ?_
  refine ps_k (o_rmown 6 4) (.agg (Msg.c (ownB m))) ?_
  obtain ⟨V11, eV11, gx, egx, h12, kV11⟩ := alloc_step V5 ((Msg.c msgZ)) 35
  have n13 : gm < gx := egx ▸ lt_of_block h9
  have n14 : ga < gx := egx ▸ lt_of_block h6
  have n15 : w.heap.size ≤ gx := egx ▸ K10.size
  refine ps_r (o_rmown 6 5) (pT gx 0) (w' := V11) (by rw [← eV11, ← egx]; exact exec_alloc0 35 (by kernel_rfl) (.agg ((Msg.c msgZ))) (by kernel_rfl)) ?_
  clear eV11
  have h16 := kV11.bk h9
  have h17 := kV11.bk h6
  have K18 := K10.nn kV11
  obtain ⟨V19, eV19, kV19⟩ := rowset_step V11 gx ((Msg.c (ownB m)))
  have h20 : V19.heap[gx]? = some (.cells (Msg.c ((ownB m))) 35 (0, 0)) := eV19 ▸ setRow_heap _ _ _ _ _ _ h12
  refine ps_s (o_rmown 6 6) (w' := V19) (by rw [← eV19]; exact exec_store_row 35 (.tmp 3) (.tmp 8) (by kernel_rfl) gx ((Msg.c (ownB m))) (by kernel_rfl) (by kernel_rfl) 35 ((Msg.c msgZ)) h12 (by rw [Msg.c_size (ownB_R m)]; kernel_rfl) (by rw [Msg.c_size (ownB_R m)]; exact (Msg.c_size msgZ_R).symm) (Msg.c_one _)) ?_
  clear eV19
  have h21 := kV19.bo h16 (by omega)
  have h22 := kV19.bo h17 (by omega)
  have K23 := K18.no kV19 (by omega)
  refine ps_end ?_
  refine then_n ?_
  refine sy_sq (part_rmown 14) (part_rmown 15) ?_
  refine sy_sq (part_rmown 28) (part_rmown 29) ?_
  refine sy_reg ?_
  refine rg_plain 2 (opsAt (part_rmown 28)) [0, 1] (by kernel_rfl) (by kernel_rfl) ?_
  refine ps_k (o_rmown 28 0) (pT gm 0) ?_
  refine ps_p (o_rmown 28 1) (.int .i64 m.k) (exec_ld 3 (.tmp 9) gm 0 Try.underlying3 (rc (h21) (Msg.get_n hr NF.k))) ?_
  refine ps_end ?_
  refine then_n ?_
  refine sy_bk 0 (part_rmown 58) ?_
  refine sy_sq (part_rmown 116) (part_rmown 117) ?_
  refine sy_reg ?_
  refine rg_plain 3 (opsAt (part_rmown 116)) [0, 1] (by kernel_rfl) (by kernel_rfl) ?_
  refine ps_p (o_rmown 116 0) (.bool false) (eqf ((m.k) : Int) ((1) : Int) (by omega)) ?_
  refine ps_k (o_rmown 116 1) (.bool false) ?_
  refine ps_end ?_
  refine then_n ?_
  refine sy_n (.tmp 11) (part_rmown 234) (part_rmown 235) ?_
  refine sy_sq (part_rmown 470) (part_rmown 471) ?_
  refine sy_reg ?_
  refine rg_plain 5 (opsAt (part_rmown 470)) [0, 1] (by kernel_rfl) (by kernel_rfl) ?_
  refine ps_p (o_rmown 470 0) (.bool false) (eqf ((m.k) : Int) ((2) : Int) (by omega)) ?_
  refine ps_k (o_rmown 470 1) (.bool false) ?_
  refine ps_end ?_
  refine then_n ?_
  refine sy_n (.tmp 19) (part_rmown 942) (part_rmown 943) ?_
  refine sy_sq (part_rmown 1886) (part_rmown 1887) ?_
  refine sy_reg ?_
  refine rg_plain 7 (opsAt (part_rmown 1886)) [0, 1] (by kernel_rfl) (by kernel_rfl) ?_
  refine ps_p (o_rmown 1886 0) (.bool false) (eqf ((m.k) : Int) ((3) : Int) (by omega)) ?_
  refine ps_k (o_rmown 1886 1) (.bool false) ?_
  refine ps_end ?_
  refine then_n ?_
  refine sy_n (.tmp 27) (part_rmown 3774) (part_rmown 3775) ?_
  refine sy_sq (part_rmown 7550) (part_rmown 7551) ?_
  refine sy_reg ?_
  refine rg_plain 9 (opsAt (part_rmown 7550)) [0, 1] (by kernel_rfl) (by kernel_rfl) ?_
  refine ps_p (o_rmown 7550 0) (.bool false) (eqf ((m.k) : Int) ((4) : Int) (by omega)) ?_
  refine ps_k (o_rmown 7550 1) (.bool false) ?_
  refine ps_end ?_
  refine then_n ?_
  refine sy_n (.tmp 35) (part_rmown 15102) (part_rmown 15103) ?_
  refine sy_sq (part_rmown 30206) (part_rmown 30207) ?_
  refine sy_reg ?_
  refine rg_plain 11 (opsAt (part_rmown 30206)) [0, 1] (by kernel_rfl) (by kernel_rfl) ?_
  refine ps_p (o_rmown 30206 0) (.bool false) (eqf ((m.k) : Int) ((5) : Int) (by omega)) ?_
  refine ps_k (o_rmown 30206 1) (.bool false) ?_
  refine ps_end ?_
  refine then_n ?_
  refine sy_n (.tmp 43) (part_rmown 60414) (part_rmown 60415) ?_
  refine sy_sq (part_rmown 120830) (part_rmown 120831) ?_
  refine sy_reg ?_
  refine rg_plain 13 (opsAt (part_rmown 120830)) [0, 1] (by kernel_rfl) (by kernel_rfl) ?_
  refine ps_p (o_rmown 120830 0) (.bool true) (eqt ((m.k) : Int) ((6) : Int) (by omega)) ?_
  refine ps_k (o_rmown 120830 1) (.bool true) ?_
  refine ps_end ?_
  refine then_n ?_
  refine sy_ys (.tmp 54) (part_rmown 241662) (part_rmown 241663) ?_
  refine sy_reg ?_
  refine rg_plain 14 (opsAt (part_rmown 241662)) [0, 1, 2, 3] (by kernel_rfl) (by kernel_rfl) ?_
  refine ps_k (o_rmown 241662 0) (pT gm 12) ?_
  refine ps_p (o_rmown 241662 1) (.agg (Att.c m.a)) (exec_load_seg 31 (.tmp 56) (by kernel_rfl) gm 12 (by kernel_rfl) (Att.c m.a).toList _ _ _ h21 (Msg.seg_A hr) Try.underlying31 rfl (by rw [Att.tl hr.a]; kernel_rfl)) ?_
  refine ps_k (o_rmown 241662 2) (pT gx 12) ?_
  obtain ⟨V24, eV24⟩ : ∃ V, V19.setCells gx 12 (Att.c m.a).toList = V := ⟨_, rfl⟩
  have kV24 : Keeps (One gx) V19 V24 := eV24 ▸ Keeps.setCells _ _ _ _
  have h25 : V24.heap[gx]? = some (.cells (Msg.c (putA ((ownB m)) m.a)) 35 (0, 0)) := eV24 ▸ (heap_setCells gx _ _ 12 _ _ h20 (show 12 + (Att.c m.a).toList.length ≤ _ by rw [(show (Att.c m.a).toList.length = 36 from Att.tl hr.a), Msg.c_size (ownB_R m)]; decide)).trans (congrArg (fun c => some (Obj.cells c 35 (0, 0))) (Msg.set_A (ownB_R m) _ hr.a))
  refine ps_s (o_rmown 241662 3) (w' := V24) (by rw [← eV24]; exact exec_store_mid 31 (.tmp 58) (.tmp 57) (by kernel_rfl) gx 12 (by kernel_rfl) (Att.c m.a) (by kernel_rfl) _ _ h20 (show 12 + (Att.c m.a).toList.length ≤ _ by rw [(show (Att.c m.a).toList.length = 36 from Att.tl hr.a), Msg.c_size (ownB_R m)]; decide) (by rw [Att.c_size _ hr.a]; kernel_rfl) (Att.c_one _)) ?_
  clear eV24
  have h26 := kV24.bo h21 (by omega)
  have h27 := kV24.bo h22 (by omega)
  have K28 := K23.no kV24 (by omega)
  refine ps_end ?_
  refine sy_a ⟨#[.agg (Msg.c m), pT gm 0, pT ga 0, pT gx 0, pT gm 0, .int .i64 m.k, pT gm 1, .int .i64 m.f, .agg (Msg.c (ownB m)), pT gm 0, .int .i64 m.k, .bool false, .bool false, undef, undef, undef, undef, undef, undef, .bool false, .bool false, undef, undef, undef, undef, undef, undef, .bool false, .bool false, undef, undef, undef, undef, undef, undef, .bool false, .bool false, undef, undef, undef, undef, undef, undef, .bool false, .bool false, undef, undef, undef, undef, undef, undef, undef, undef, undef, .bool true, .bool true, pT gm 12, .agg (Att.c m.a), pT gx 12, undef, undef, undef, undef, undef, undef, undef, undef, undef, undef, undef, undef, undef, undef, undef, undef, undef, undef, undef, undef, undef, undef, undef, undef, undef, undef, undef, undef, undef, undef, undef, undef, undef, undef, undef, undef, undef, undef], []⟩ ?_
  refine blk_n ?_
  refine then_n ?_
  refine sy_sq (part_rmown 30) (part_rmown 31) ?_
  refine sy_reg ?_
  refine rg_plain 26 (opsAt (part_rmown 30)) [0, 1] (by kernel_rfl) (by kernel_rfl) ?_
  refine ps_p (o_rmown 30 0) (.agg (Msg.c (putA ((ownB m)) m.a))) (exec_load_row 35 (.tmp 3) (by kernel_rfl) gx (by kernel_rfl) _ _ (0, 0) _ (h25) Try.underlying35 rfl (by rw [Msg.c_size (putA_R (ownB_R m) hr.a)]; kernel_rfl)) ?_
  obtain ⟨V29, eV29, kV29⟩ := rowset_step V24 ga ((Msg.c (putA ((ownB m)) m.a)))
  have h30 : V29.heap[ga]? = some (.cells (Msg.c (putA ((ownB m)) m.a)) 35 (0, 0)) := eV29 ▸ setRow_heap _ _ _ _ _ _ h27
  refine ps_s (o_rmown 30 1) (w' := V29) (by rw [← eV29]; exact exec_store_row 35 (.tmp 2) (.tmp 96) (by kernel_rfl) ga ((Msg.c (putA ((ownB m)) m.a))) (by kernel_rfl) (by kernel_rfl) 35 ((Msg.c msgZ)) h27 (by rw [Msg.c_size (putA_R (ownB_R m) hr.a)]; kernel_rfl) (by rw [Msg.c_size (putA_R (ownB_R m) hr.a)]; exact (Msg.c_size msgZ_R).symm) (Msg.c_one _)) ?_
  clear eV29
  have h31 := kV29.bo h26 (by omega)
  have h32 := kV29.bo h25 (by omega)
  have K33 := K28.no kV29 (by omega)
  refine ps_end ?_
  refine then_n ?_
  refine sy_ret (by kernel_rfl) ?_
  refine sy_out (.agg (Msg.c (putA ((ownB m)) m.a))) rfl (results_cell_row (p := 2) (ty := 35) (by kernel_rfl) _ _ ga 35 (Msg.c (putA ((ownB m)) m.a)) (0, 0) _ (by kernel_rfl) h30 Try.underlying35 rfl (by rw [Msg.c_size (putA_R (ownB_R m) hr.a)]; kernel_rfl)) ?_
  exact ⟨rfl, K33⟩
set_option maxRecDepth 100000 in
set_option maxHeartbeats 4000000 in
theorem rmown_7 (m : Msg) (w : World) (hr : m.R) (hk : m.k = 7) :
    Calls Try.prog 55 #[.agg (Msg.c m)] w (fun e w' => e = .returned (.agg (Msg.c (ownK m 7))) ∧ Keeps Nob w w') := by
  have K0 : Keeps Nob w w := Keeps.refl _ _
  refine sy_enter (part_rmown 1) ⟨#[.agg (Msg.c m), undef, undef, undef, undef, undef, undef, undef, undef, undef, undef, undef, undef, undef, undef, undef, undef, undef, undef, undef, undef, undef, undef, undef, undef, undef, undef, undef, undef, undef, undef, undef, undef, undef, undef, undef, undef, undef, undef, undef, undef, undef, undef, undef, undef, undef, undef, undef, undef, undef, undef, undef, undef, undef, undef, undef, undef, undef, undef, undef, undef, undef, undef, undef, undef, undef, undef, undef, undef, undef, undef, undef, undef, undef, undef, undef, undef, undef, undef, undef, undef, undef, undef, undef, undef, undef, undef, undef, undef, undef, undef, undef, undef, undef, undef, undef, undef], []⟩ Try.func55 (by kernel_rfl) (by kernel_rfl) ?_
  refine sy_sq (part_rmown 2) (part_rmown 3) ?_
  refine sy_reg ?_
  refine rg_plain 0 (opsAt (part_rmown 2)) [0, 1] (by kernel_rfl) (by kernel_rfl) ?_
  obtain ⟨V1, eV1, gm, egm, h2, kV1⟩ := alloc_step w ((Msg.c m)) 35
  have n3 : w.heap.size ≤ gm := egm ▸ K0.size
  refine ps_r (o_rmown 2 0) (pT gm 0) (w' := V1) (by rw [← eV1, ← egm]; exact exec_box 35 (.tmp 0) (by kernel_rfl) (.agg (Msg.c m)) (by kernel_rfl)) ?_
  clear eV1
  have K4 := K0.nn kV1
  obtain ⟨V5, eV5, ga, ega, h6, kV5⟩ := alloc_step V1 ((Msg.c msgZ)) 35
  have n7 : gm < ga := ega ▸ lt_of_block h2
  have n8 : w.heap.size ≤ ga := ega ▸ K4.size
  refine ps_r (o_rmown 2 1) (pT ga 0) (w' := V5) (by rw [← eV5, ← ega]; exact exec_alloc0 35 (by kernel_rfl) (.agg ((Msg.c msgZ))) (by kernel_rfl)) ?_
  clear eV5
  have h9 := kV5.bk h2
  have K10 := K4.nn kV5
  refine ps_end ?_
  refine then_n ?_
  refine sy_sq (part_rmown 6) (part_rmown 7) ?_
  refine sy_reg ?_
  refine rg_plain 1 (opsAt (part_rmown 6)) [0, 1, 2, 3, 4, 5, 6] (by kernel_rfl) (by kernel_rfl) ?_
  refine ps_k (o_rmown 6 0) (pT gm 0) ?_
  refine ps_p (o_rmown 6 1) (.int .i64 m.k) (exec_ld 3 (.tmp 4) gm 0 Try.underlying3 (rc (h9) (Msg.get_n hr NF.k))) ?_
  refine ps_k (o_rmown 6 2) (pT gm 1) ?_
  refine ps_p (o_rmown 6 3) (.int .i64 m.f) (exec_ld 3 (.tmp 6) gm 1 Try.underlying3 (rc (h9) (Msg.get_n hr NF.f))) ?_
  refine ps_k (o_rmown 6 4) (.agg (Msg.c (ownB m))) ?_
  obtain ⟨V11, eV11, gx, egx, h12, kV11⟩ := alloc_step V5 ((Msg.c msgZ)) 35
  have n13 : gm < gx := egx ▸ lt_of_block h9
  have n14 : ga < gx := egx ▸ lt_of_block h6
  have n15 : w.heap.size ≤ gx := egx ▸ K10.size
  refine ps_r (o_rmown 6 5) (pT gx 0) (w' := V11) (by rw [← eV11, ← egx]; exact exec_alloc0 35 (by kernel_rfl) (.agg ((Msg.c msgZ))) (by kernel_rfl)) ?_
  clear eV11
  have h16 := kV11.bk h9
  have h17 := kV11.bk h6
  have K18 := K10.nn kV11
  obtain ⟨V19, eV19, kV19⟩ := rowset_step V11 gx ((Msg.c (ownB m)))
  have h20 : V19.heap[gx]? = some (.cells (Msg.c ((ownB m))) 35 (0, 0)) := eV19 ▸ setRow_heap _ _ _ _ _ _ h12
  refine ps_s (o_rmown 6 6) (w' := V19) (by rw [← eV19]; exact exec_store_row 35 (.tmp 3) (.tmp 8) (by kernel_rfl) gx ((Msg.c (ownB m))) (by kernel_rfl) (by kernel_rfl) 35 ((Msg.c msgZ)) h12 (by rw [Msg.c_size (ownB_R m)]; kernel_rfl) (by rw [Msg.c_size (ownB_R m)]; exact (Msg.c_size msgZ_R).symm) (Msg.c_one _)) ?_
  clear eV19
  have h21 := kV19.bo h16 (by omega)
  have h22 := kV19.bo h17 (by omega)
  have K23 := K18.no kV19 (by omega)
  refine ps_end ?_
  refine then_n ?_
  refine sy_sq (part_rmown 14) (part_rmown 15) ?_
  refine sy_sq (part_rmown 28) (part_rmown 29) ?_
  refine sy_reg ?_
  refine rg_plain 2 (opsAt (part_rmown 28)) [0, 1] (by kernel_rfl) (by kernel_rfl) ?_
  refine ps_k (o_rmown 28 0) (pT gm 0) ?_
  refine ps_p (o_rmown 28 1) (.int .i64 m.k) (exec_ld 3 (.tmp 9) gm 0 Try.underlying3 (rc (h21) (Msg.get_n hr NF.k))) ?_
  refine ps_end ?_
  refine then_n ?_
  refine sy_bk 0 (part_rmown 58) ?_
  refine sy_sq (part_rmown 116) (part_rmown 117) ?_
  refine sy_reg ?_
  refine rg_plain 3 (opsAt (part_rmown 116)) [0, 1] (by kernel_rfl) (by kernel_rfl) ?_
  refine ps_p (o_rmown 116 0) (.bool false) (eqf ((m.k) : Int) ((1) : Int) (by omega)) ?_
  refine ps_k (o_rmown 116 1) (.bool false) ?_
  refine ps_end ?_
  refine then_n ?_
  refine sy_n (.tmp 11) (part_rmown 234) (part_rmown 235) ?_
  refine sy_sq (part_rmown 470) (part_rmown 471) ?_
  refine sy_reg ?_
  refine rg_plain 5 (opsAt (part_rmown 470)) [0, 1] (by kernel_rfl) (by kernel_rfl) ?_
  refine ps_p (o_rmown 470 0) (.bool false) (eqf ((m.k) : Int) ((2) : Int) (by omega)) ?_
  refine ps_k (o_rmown 470 1) (.bool false) ?_
  refine ps_end ?_
  refine then_n ?_
  refine sy_n (.tmp 19) (part_rmown 942) (part_rmown 943) ?_
  refine sy_sq (part_rmown 1886) (part_rmown 1887) ?_
  refine sy_reg ?_
  refine rg_plain 7 (opsAt (part_rmown 1886)) [0, 1] (by kernel_rfl) (by kernel_rfl) ?_
  refine ps_p (o_rmown 1886 0) (.bool false) (eqf ((m.k) : Int) ((3) : Int) (by omega)) ?_
  refine ps_k (o_rmown 1886 1) (.bool false) ?_
  refine ps_end ?_
  refine then_n ?_
  refine sy_n (.tmp 27) (part_rmown 3774) (part_rmown 3775) ?_
  refine sy_sq (part_rmown 7550) (part_rmown 7551) ?_
  refine sy_reg ?_
  refine rg_plain 9 (opsAt (part_rmown 7550)) [0, 1] (by kernel_rfl) (by kernel_rfl) ?_
  refine ps_p (o_rmown 7550 0) (.bool false) (eqf ((m.k) : Int) ((4) : Int) (by omega)) ?_
  refine ps_k (o_rmown 7550 1) (.bool false) ?_
  refine ps_end ?_
  refine then_n ?_
  refine sy_n (.tmp 35) (part_rmown 15102) (part_rmown 15103) ?_
  refine sy_sq (part_rmown 30206) (part_rmown 30207) ?_
  refine sy_reg ?_
  refine rg_plain 11 (opsAt (part_rmown 30206)) [0, 1] (by kernel_rfl) (by kernel_rfl) ?_
  refine ps_p (o_rmown 30206 0) (.bool false) (eqf ((m.k) : Int) ((5) : Int) (by omega)) ?_
  refine ps_k (o_rmown 30206 1) (.bool false) ?_
  refine ps_end ?_
  refine then_n ?_
  refine sy_n (.tmp 43) (part_rmown 60414) (part_rmown 60415) ?_
  refine sy_sq (part_rmown 120830) (part_rmown 120831) ?_
  refine sy_reg ?_
  refine rg_plain 13 (opsAt (part_rmown 120830)) [0, 1] (by kernel_rfl) (by kernel_rfl) ?_
  refine ps_p (o_rmown 120830 0) (.bool false) (eqf ((m.k) : Int) ((6) : Int) (by omega)) ?_
  refine ps_k (o_rmown 120830 1) (.bool false) ?_
  refine ps_end ?_
  refine then_n ?_
  refine sy_n (.tmp 54) (part_rmown 241662) (part_rmown 241663) ?_
  refine sy_sq (part_rmown 483326) (part_rmown 483327) ?_
  refine sy_reg ?_
  refine rg_plain 15 (opsAt (part_rmown 483326)) [0, 1] (by kernel_rfl) (by kernel_rfl) ?_
  refine ps_p (o_rmown 483326 0) (.bool true) (eqt ((m.k) : Int) ((7) : Int) (by omega)) ?_
  refine ps_k (o_rmown 483326 1) (.bool true) ?_
  refine ps_end ?_
  refine sy_a ⟨#[.agg (Msg.c m), pT gm 0, pT ga 0, pT gx 0, pT gm 0, .int .i64 m.k, pT gm 1, .int .i64 m.f, .agg (Msg.c (ownB m)), pT gm 0, .int .i64 m.k, .bool false, .bool false, undef, undef, undef, undef, undef, undef, .bool false, .bool false, undef, undef, undef, undef, undef, undef, .bool false, .bool false, undef, undef, undef, undef, undef, undef, .bool false, .bool false, undef, undef, undef, undef, undef, undef, .bool false, .bool false, undef, undef, undef, undef, undef, undef, undef, undef, undef, .bool false, .bool false, undef, undef, undef, .bool true, .bool true, undef, undef, undef, undef, undef, undef, undef, undef, undef, undef, undef, undef, undef, undef, undef, undef, undef, undef, undef, undef, undef, undef, undef, undef, undef, undef, undef, undef, undef, undef, undef, undef, undef, undef, undef, undef], []⟩ ?_
  refine then_n ?_
  refine sy_ys (.tmp 59) (part_rmown 966654) (part_rmown 966655) ?_
  refine sy_reg ?_
  refine rg_plain 16 (opsAt (part_rmown 966654)) [0, 1, 2, 3] (by kernel_rfl) (by kernel_rfl) ?_
  refine ps_k (o_rmown 966654 0) (pT gm 84) ?_
  refine ps_p (o_rmown 966654 1) (.agg (Pro.c m.p)) (exec_load_seg 33 (.tmp 61) (by kernel_rfl) gm 84 (by kernel_rfl) (Pro.c m.p).toList _ _ _ h21 (Msg.seg_P hr) Try.underlying33 rfl (by rw [Pro.tl hr.p]; kernel_rfl)) ?_
  refine ps_k (o_rmown 966654 2) (pT gx 84) ?_
  obtain ⟨V24, eV24⟩ : ∃ V, V19.setCells gx 84 (Pro.c m.p).toList = V := ⟨_, rfl⟩
  have kV24 : Keeps (One gx) V19 V24 := eV24 ▸ Keeps.setCells _ _ _ _
  have h25 : V24.heap[gx]? = some (.cells (Msg.c (putP ((ownB m)) m.p)) 35 (0, 0)) := eV24 ▸ (heap_setCells gx _ _ 84 _ _ h20 (show 84 + (Pro.c m.p).toList.length ≤ _ by rw [(show (Pro.c m.p).toList.length = 35 from Pro.tl hr.p), Msg.c_size (ownB_R m)]; decide)).trans (congrArg (fun c => some (Obj.cells c 35 (0, 0))) (Msg.set_P (ownB_R m) _ hr.p))
  refine ps_s (o_rmown 966654 3) (w' := V24) (by rw [← eV24]; exact exec_store_mid 33 (.tmp 63) (.tmp 62) (by kernel_rfl) gx 84 (by kernel_rfl) (Pro.c m.p) (by kernel_rfl) _ _ h20 (show 84 + (Pro.c m.p).toList.length ≤ _ by rw [(show (Pro.c m.p).toList.length = 35 from Pro.tl hr.p), Msg.c_size (ownB_R m)]; decide) (by rw [Pro.c_size _ hr.p]; kernel_rfl) (Pro.c_one _)) ?_
  clear eV24
  have h26 := kV24.bo h21 (by omega)
  have h27 := kV24.bo h22 (by omega)
  have K28 := K23.no kV24 (by omega)
  refine ps_end ?_
  refine blk_n ?_
  refine then_n ?_
  refine sy_sq (part_rmown 30) (part_rmown 31) ?_
  refine sy_reg ?_
  refine rg_plain 26 (opsAt (part_rmown 30)) [0, 1] (by kernel_rfl) (by kernel_rfl) ?_
  refine ps_p (o_rmown 30 0) (.agg (Msg.c (putP ((ownB m)) m.p))) (exec_load_row 35 (.tmp 3) (by kernel_rfl) gx (by kernel_rfl) _ _ (0, 0) _ (h25) Try.underlying35 rfl (by rw [Msg.c_size (putP_R (ownB_R m) hr.p)]; kernel_rfl)) ?_
  obtain ⟨V29, eV29, kV29⟩ := rowset_step V24 ga ((Msg.c (putP ((ownB m)) m.p)))
  have h30 : V29.heap[ga]? = some (.cells (Msg.c (putP ((ownB m)) m.p)) 35 (0, 0)) := eV29 ▸ setRow_heap _ _ _ _ _ _ h27
  refine ps_s (o_rmown 30 1) (w' := V29) (by rw [← eV29]; exact exec_store_row 35 (.tmp 2) (.tmp 96) (by kernel_rfl) ga ((Msg.c (putP ((ownB m)) m.p))) (by kernel_rfl) (by kernel_rfl) 35 ((Msg.c msgZ)) h27 (by rw [Msg.c_size (putP_R (ownB_R m) hr.p)]; kernel_rfl) (by rw [Msg.c_size (putP_R (ownB_R m) hr.p)]; exact (Msg.c_size msgZ_R).symm) (Msg.c_one _)) ?_
  clear eV29
  have h31 := kV29.bo h26 (by omega)
  have h32 := kV29.bo h25 (by omega)
  have K33 := K28.no kV29 (by omega)
  refine ps_end ?_
  refine then_n ?_
  refine sy_ret (by kernel_rfl) ?_
  refine sy_out (.agg (Msg.c (putP ((ownB m)) m.p))) rfl (results_cell_row (p := 2) (ty := 35) (by kernel_rfl) _ _ ga 35 (Msg.c (putP ((ownB m)) m.p)) (0, 0) _ (by kernel_rfl) h30 Try.underlying35 rfl (by rw [Msg.c_size (putP_R (ownB_R m) hr.p)]; kernel_rfl)) ?_
  exact ⟨rfl, K33⟩
set_option maxRecDepth 100000 in
set_option maxHeartbeats 4000000 in
theorem rmown_9 (m : Msg) (w : World) (hr : m.R) (hk : m.k = 9) :
    Calls Try.prog 55 #[.agg (Msg.c m)] w (fun e w' => e = .returned (.agg (Msg.c (ownK m 9))) ∧ Keeps Nob w w') := by
  have K0 : Keeps Nob w w := Keeps.refl _ _
  refine sy_enter (part_rmown 1) ⟨#[.agg (Msg.c m), undef, undef, undef, undef, undef, undef, undef, undef, undef, undef, undef, undef, undef, undef, undef, undef, undef, undef, undef, undef, undef, undef, undef, undef, undef, undef, undef, undef, undef, undef, undef, undef, undef, undef, undef, undef, undef, undef, undef, undef, undef, undef, undef, undef, undef, undef, undef, undef, undef, undef, undef, undef, undef, undef, undef, undef, undef, undef, undef, undef, undef, undef, undef, undef, undef, undef, undef, undef, undef, undef, undef, undef, undef, undef, undef, undef, undef, undef, undef, undef, undef, undef, undef, undef, undef, undef, undef, undef, undef, undef, undef, undef, undef, undef, undef, undef], []⟩ Try.func55 (by kernel_rfl) (by kernel_rfl) ?_
  refine sy_sq (part_rmown 2) (part_rmown 3) ?_
  refine sy_reg ?_
  refine rg_plain 0 (opsAt (part_rmown 2)) [0, 1] (by kernel_rfl) (by kernel_rfl) ?_
  obtain ⟨V1, eV1, gm, egm, h2, kV1⟩ := alloc_step w ((Msg.c m)) 35
  have n3 : w.heap.size ≤ gm := egm ▸ K0.size
  refine ps_r (o_rmown 2 0) (pT gm 0) (w' := V1) (by rw [← eV1, ← egm]; exact exec_box 35 (.tmp 0) (by kernel_rfl) (.agg (Msg.c m)) (by kernel_rfl)) ?_
  clear eV1
  have K4 := K0.nn kV1
  obtain ⟨V5, eV5, ga, ega, h6, kV5⟩ := alloc_step V1 ((Msg.c msgZ)) 35
  have n7 : gm < ga := ega ▸ lt_of_block h2
  have n8 : w.heap.size ≤ ga := ega ▸ K4.size
  refine ps_r (o_rmown 2 1) (pT ga 0) (w' := V5) (by rw [← eV5, ← ega]; exact exec_alloc0 35 (by kernel_rfl) (.agg ((Msg.c msgZ))) (by kernel_rfl)) ?_
  clear eV5
  have h9 := kV5.bk h2
  have K10 := K4.nn kV5
  refine ps_end ?_
  refine then_n ?_
  refine sy_sq (part_rmown 6) (part_rmown 7) ?_
  refine sy_reg ?_
  refine rg_plain 1 (opsAt (part_rmown 6)) [0, 1, 2, 3, 4, 5, 6] (by kernel_rfl) (by kernel_rfl) ?_
  refine ps_k (o_rmown 6 0) (pT gm 0) ?_
  refine ps_p (o_rmown 6 1) (.int .i64 m.k) (exec_ld 3 (.tmp 4) gm 0 Try.underlying3 (rc (h9) (Msg.get_n hr NF.k))) ?_
  refine ps_k (o_rmown 6 2) (pT gm 1) ?_
  refine ps_p (o_rmown 6 3) (.int .i64 m.f) (exec_ld 3 (.tmp 6) gm 1 Try.underlying3 (rc (h9) (Msg.get_n hr NF.f))) ?_
  refine ps_k (o_rmown 6 4) (.agg (Msg.c (ownB m))) ?_
  obtain ⟨V11, eV11, gx, egx, h12, kV11⟩ := alloc_step V5 ((Msg.c msgZ)) 35
  have n13 : gm < gx := egx ▸ lt_of_block h9
  have n14 : ga < gx := egx ▸ lt_of_block h6
  have n15 : w.heap.size ≤ gx := egx ▸ K10.size
  refine ps_r (o_rmown 6 5) (pT gx 0) (w' := V11) (by rw [← eV11, ← egx]; exact exec_alloc0 35 (by kernel_rfl) (.agg ((Msg.c msgZ))) (by kernel_rfl)) ?_
  clear eV11
  have h16 := kV11.bk h9
  have h17 := kV11.bk h6
  have K18 := K10.nn kV11
  obtain ⟨V19, eV19, kV19⟩ := rowset_step V11 gx ((Msg.c (ownB m)))
  have h20 : V19.heap[gx]? = some (.cells (Msg.c ((ownB m))) 35 (0, 0)) := eV19 ▸ setRow_heap _ _ _ _ _ _ h12
  refine ps_s (o_rmown 6 6) (w' := V19) (by rw [← eV19]; exact exec_store_row 35 (.tmp 3) (.tmp 8) (by kernel_rfl) gx ((Msg.c (ownB m))) (by kernel_rfl) (by kernel_rfl) 35 ((Msg.c msgZ)) h12 (by rw [Msg.c_size (ownB_R m)]; kernel_rfl) (by rw [Msg.c_size (ownB_R m)]; exact (Msg.c_size msgZ_R).symm) (Msg.c_one _)) ?_
  clear eV19
  have h21 := kV19.bo h16 (by omega)
  have h22 := kV19.bo h17 (by omega)
  have K23 := K18.no kV19 (by omega)
  refine ps_end ?_
  refine then_n ?_
  refine sy_sq (part_rmown 14) (part_rmown 15) ?_
  refine sy_sq (part_rmown 28) (part_rmown 29) ?_
  refine sy_reg ?_
  refine rg_plain 2 (opsAt (part_rmown 28)) [0, 1] (by kernel_rfl) (by kernel_rfl) ?_
  refine ps_k (o_rmown 28 0) (pT gm 0) ?_
  refine ps_p (o_rmown 28 1) (.int .i64 m.k) (exec_ld 3 (.tmp 9) gm 0 Try.underlying3 (rc (h21) (Msg.get_n hr NF.k))) ?_
  refine ps_end ?_
  refine then_n ?_
  refine sy_bk 0 (part_rmown 58) ?_
  refine sy_sq (part_rmown 116) (part_rmown 117) ?_
  refine sy_reg ?_
  refine rg_plain 3 (opsAt (part_rmown 116)) [0, 1] (by kernel_rfl) (by kernel_rfl) ?_
  refine ps_p (o_rmown 116 0) (.bool false) (eqf ((m.k) : Int) ((1) : Int) (by omega)) ?_
  refine ps_k (o_rmown 116 1) (.bool false) ?_
  refine ps_end ?_
  refine then_n ?_
  refine sy_n (.tmp 11) (part_rmown 234) (part_rmown 235) ?_
  refine sy_sq (part_rmown 470) (part_rmown 471) ?_
  refine sy_reg ?_
  refine rg_plain 5 (opsAt (part_rmown 470)) [0, 1] (by kernel_rfl) (by kernel_rfl) ?_
  refine ps_p (o_rmown 470 0) (.bool false) (eqf ((m.k) : Int) ((2) : Int) (by omega)) ?_
  refine ps_k (o_rmown 470 1) (.bool false) ?_
  refine ps_end ?_
  refine then_n ?_
  refine sy_n (.tmp 19) (part_rmown 942) (part_rmown 943) ?_
  refine sy_sq (part_rmown 1886) (part_rmown 1887) ?_
  refine sy_reg ?_
  refine rg_plain 7 (opsAt (part_rmown 1886)) [0, 1] (by kernel_rfl) (by kernel_rfl) ?_
  refine ps_p (o_rmown 1886 0) (.bool false) (eqf ((m.k) : Int) ((3) : Int) (by omega)) ?_
  refine ps_k (o_rmown 1886 1) (.bool false) ?_
  refine ps_end ?_
  refine then_n ?_
  refine sy_n (.tmp 27) (part_rmown 3774) (part_rmown 3775) ?_
  refine sy_sq (part_rmown 7550) (part_rmown 7551) ?_
  refine sy_reg ?_
  refine rg_plain 9 (opsAt (part_rmown 7550)) [0, 1] (by kernel_rfl) (by kernel_rfl) ?_
  refine ps_p (o_rmown 7550 0) (.bool false) (eqf ((m.k) : Int) ((4) : Int) (by omega)) ?_
  refine ps_k (o_rmown 7550 1) (.bool false) ?_
  refine ps_end ?_
  refine then_n ?_
  refine sy_n (.tmp 35) (part_rmown 15102) (part_rmown 15103) ?_
  refine sy_sq (part_rmown 30206) (part_rmown 30207) ?_
  refine sy_reg ?_
  refine rg_plain 11 (opsAt (part_rmown 30206)) [0, 1] (by kernel_rfl) (by kernel_rfl) ?_
  refine ps_p (o_rmown 30206 0) (.bool false) (eqf ((m.k) : Int) ((5) : Int) (by omega)) ?_
  refine ps_k (o_rmown 30206 1) (.bool false) ?_
  refine ps_end ?_
  refine then_n ?_
  refine sy_n (.tmp 43) (part_rmown 60414) (part_rmown 60415) ?_
  refine sy_sq (part_rmown 120830) (part_rmown 120831) ?_
  refine sy_reg ?_
  refine rg_plain 13 (opsAt (part_rmown 120830)) [0, 1] (by kernel_rfl) (by kernel_rfl) ?_
  refine ps_p (o_rmown 120830 0) (.bool false) (eqf ((m.k) : Int) ((6) : Int) (by omega)) ?_
  refine ps_k (o_rmown 120830 1) (.bool false) ?_
  refine ps_end ?_
  refine then_n ?_
  refine sy_n (.tmp 54) (part_rmown 241662) (part_rmown 241663) ?_
  refine sy_sq (part_rmown 483326) (part_rmown 483327) ?_
  refine sy_reg ?_
  refine rg_plain 15 (opsAt (part_rmown 483326)) [0, 1] (by kernel_rfl) (by kernel_rfl) ?_
  refine ps_p (o_rmown 483326 0) (.bool false) (eqf ((m.k) : Int) ((7) : Int) (by omega)) ?_
  refine ps_k (o_rmown 483326 1) (.bool false) ?_
  refine ps_end ?_
  refine sy_a ⟨#[.agg (Msg.c m), pT gm 0, pT ga 0, pT gx 0, pT gm 0, .int .i64 m.k, pT gm 1, .int .i64 m.f, .agg (Msg.c (ownB m)), pT gm 0, .int .i64 m.k, .bool false, .bool false, undef, undef, undef, undef, undef, undef, .bool false, .bool false, undef, undef, undef, undef, undef, undef, .bool false, .bool false, undef, undef, undef, undef, undef, undef, .bool false, .bool false, undef, undef, undef, undef, undef, undef, .bool false, .bool false, undef, undef, undef, undef, undef, undef, undef, undef, undef, .bool false, .bool false, undef, undef, undef, .bool false, .bool false, undef, undef, undef, undef, undef, undef, undef, undef, undef, undef, undef, undef, undef, undef, undef, undef, undef, undef, undef, undef, undef, undef, undef, undef, undef, undef, undef, undef, undef, undef, undef, undef, undef, undef, undef, undef], []⟩ ?_
  refine then_n ?_
  refine sy_n (.tmp 59) (part_rmown 966654) (part_rmown 966655) ?_
  refine sy_sq (part_rmown 1933310) (part_rmown 1933311) ?_
  refine sy_reg ?_
  refine rg_plain 17 (opsAt (part_rmown 1933310)) [0, 1] (by kernel_rfl) (by kernel_rfl) ?_
  refine ps_p (o_rmown 1933310 0) (.bool false) (eqf ((m.k) : Int) ((8) : Int) (by omega)) ?_
  refine ps_k (o_rmown 1933310 1) (.bool false) ?_
  refine ps_end ?_
  refine then_n ?_
  refine sy_n (.tmp 64) (part_rmown 3866622) (part_rmown 3866623) ?_
  refine sy_sq (part_rmown 7733246) (part_rmown 7733247) ?_
  refine sy_reg ?_
  refine rg_plain 22 (opsAt (part_rmown 7733246)) [0, 1] (by kernel_rfl) (by kernel_rfl) ?_
  refine ps_p (o_rmown 7733246 0) (.bool true) (eqt ((m.k) : Int) ((9) : Int) (by omega)) ?_
  refine ps_k (o_rmown 7733246 1) (.bool true) ?_
  refine ps_end ?_
  refine then_n ?_
  refine sy_ys (.tmp 84) (part_rmown 15466494) (part_rmown 15466495) ?_
  refine sy_reg ?_
  refine rg_plain 23 (opsAt (part_rmown 15466494)) [0, 1, 2, 3] (by kernel_rfl) (by kernel_rfl) ?_
  refine ps_k (o_rmown 15466494 0) (pT gm 2) ?_
  refine ps_p (o_rmown 15466494 1) (.int .i64 m.vl) (exec_ld 3 (.tmp 86) gm 2 Try.underlying3 (rc (h21) (Msg.get_n hr NF.vl))) ?_
  refine ps_k (o_rmown 15466494 2) (pT gx 2) ?_
  obtain ⟨V24, eV24, kV24⟩ := cell_step V19 gx 2 (.int .i64 m.vl)
  have h25 : V24.heap[gx]? = some (.cells (Msg.c (NF.set ((ownB m)) m.vl .vl)) 35 (0, 0)) := eV24 ▸ ((heap_setCell_same _ gx 2 _ _ (.int .i64 m.vl) h20).trans (congrArg (fun c => some (Obj.cells c 35 (0, 0))) (show (Msg.c ((ownB m)) : Array Value).setIfInBounds 2 (.int .i64 m.vl) = Msg.c (NF.set ((ownB m)) m.vl .vl) from Msg.set_n (ownB_R m) NF.vl _)))
  refine ps_s (o_rmown 15466494 3) (w' := V24) (by rw [← eV24]; exact exec_store_cell 3 (.tmp 88) (.tmp 87) (by kernel_rfl) gx 2 (by kernel_rfl) (.int .i64 m.vl) (by kernel_rfl) (by kernel_rfl) (by kernel_rfl) (.int .i64 (((ownB m)).vl)) (rc (h20) (Msg.get_n (ownB_R m) NF.vl)) (frozen_of_row _ _ _ _ _ h20) (by kernel_rfl)) ?_
  clear eV24
  have h26 := kV24.bo h21 (by omega)
  have h27 := kV24.bo h22 (by omega)
  have K28 := K23.no kV24 (by omega)
  refine ps_end ?_
  refine blk_n ?_
  refine then_n ?_
  refine sy_sq (part_rmown 30) (part_rmown 31) ?_
  refine sy_reg ?_
  refine rg_plain 26 (opsAt (part_rmown 30)) [0, 1] (by kernel_rfl) (by kernel_rfl) ?_
  refine ps_p (o_rmown 30 0) (.agg (Msg.c (NF.set ((ownB m)) m.vl .vl))) (exec_load_row 35 (.tmp 3) (by kernel_rfl) gx (by kernel_rfl) _ _ (0, 0) _ (h25) Try.underlying35 rfl (by rw [Msg.c_size (NF.R (ownB_R m))]; kernel_rfl)) ?_
  obtain ⟨V29, eV29, kV29⟩ := rowset_step V24 ga ((Msg.c (NF.set ((ownB m)) m.vl .vl)))
  have h30 : V29.heap[ga]? = some (.cells (Msg.c (NF.set ((ownB m)) m.vl .vl)) 35 (0, 0)) := eV29 ▸ setRow_heap _ _ _ _ _ _ h27
  refine ps_s (o_rmown 30 1) (w' := V29) (by rw [← eV29]; exact exec_store_row 35 (.tmp 2) (.tmp 96) (by kernel_rfl) ga ((Msg.c (NF.set ((ownB m)) m.vl .vl))) (by kernel_rfl) (by kernel_rfl) 35 ((Msg.c msgZ)) h27 (by rw [Msg.c_size (NF.R (ownB_R m))]; kernel_rfl) (by rw [Msg.c_size (NF.R (ownB_R m))]; exact (Msg.c_size msgZ_R).symm) (Msg.c_one _)) ?_
  clear eV29
  have h31 := kV29.bo h26 (by omega)
  have h32 := kV29.bo h25 (by omega)
  have K33 := K28.no kV29 (by omega)
  refine ps_end ?_
  refine then_n ?_
  refine sy_ret (by kernel_rfl) ?_
  refine sy_out (.agg (Msg.c (NF.set ((ownB m)) m.vl .vl))) rfl (results_cell_row (p := 2) (ty := 35) (by kernel_rfl) _ _ ga 35 (Msg.c (NF.set ((ownB m)) m.vl .vl)) (0, 0) _ (by kernel_rfl) h30 Try.underlying35 rfl (by rw [Msg.c_size (NF.R (ownB_R m))]; kernel_rfl)) ?_
  exact ⟨rfl, K33⟩
set_option maxRecDepth 100000 in
set_option maxHeartbeats 4000000 in
theorem rmown_10 (m : Msg) (w : World) (hr : m.R) (hk : m.k = 10) :
    Calls Try.prog 55 #[.agg (Msg.c m)] w (fun e w' => e = .returned (.agg (Msg.c (ownK m 10))) ∧ Keeps Nob w w') := by
  have K0 : Keeps Nob w w := Keeps.refl _ _
  refine sy_enter (part_rmown 1) ⟨#[.agg (Msg.c m), undef, undef, undef, undef, undef, undef, undef, undef, undef, undef, undef, undef, undef, undef, undef, undef, undef, undef, undef, undef, undef, undef, undef, undef, undef, undef, undef, undef, undef, undef, undef, undef, undef, undef, undef, undef, undef, undef, undef, undef, undef, undef, undef, undef, undef, undef, undef, undef, undef, undef, undef, undef, undef, undef, undef, undef, undef, undef, undef, undef, undef, undef, undef, undef, undef, undef, undef, undef, undef, undef, undef, undef, undef, undef, undef, undef, undef, undef, undef, undef, undef, undef, undef, undef, undef, undef, undef, undef, undef, undef, undef, undef, undef, undef, undef, undef], []⟩ Try.func55 (by kernel_rfl) (by kernel_rfl) ?_
  refine sy_sq (part_rmown 2) (part_rmown 3) ?_
  refine sy_reg ?_
  refine rg_plain 0 (opsAt (part_rmown 2)) [0, 1] (by kernel_rfl) (by kernel_rfl) ?_
  obtain ⟨V1, eV1, gm, egm, h2, kV1⟩ := alloc_step w ((Msg.c m)) 35
  have n3 : w.heap.size ≤ gm := egm ▸ K0.size
  refine ps_r (o_rmown 2 0) (pT gm 0) (w' := V1) (by rw [← eV1, ← egm]; exact exec_box 35 (.tmp 0) (by kernel_rfl) (.agg (Msg.c m)) (by kernel_rfl)) ?_
  clear eV1
  have K4 := K0.nn kV1
  obtain ⟨V5, eV5, ga, ega, h6, kV5⟩ := alloc_step V1 ((Msg.c msgZ)) 35
  have n7 : gm < ga := ega ▸ lt_of_block h2
  have n8 : w.heap.size ≤ ga := ega ▸ K4.size
  refine ps_r (o_rmown 2 1) (pT ga 0) (w' := V5) (by rw [← eV5, ← ega]; exact exec_alloc0 35 (by kernel_rfl) (.agg ((Msg.c msgZ))) (by kernel_rfl)) ?_
  clear eV5
  have h9 := kV5.bk h2
  have K10 := K4.nn kV5
  refine ps_end ?_
  refine then_n ?_
  refine sy_sq (part_rmown 6) (part_rmown 7) ?_
  refine sy_reg ?_
  refine rg_plain 1 (opsAt (part_rmown 6)) [0, 1, 2, 3, 4, 5, 6] (by kernel_rfl) (by kernel_rfl) ?_
  refine ps_k (o_rmown 6 0) (pT gm 0) ?_
  refine ps_p (o_rmown 6 1) (.int .i64 m.k) (exec_ld 3 (.tmp 4) gm 0 Try.underlying3 (rc (h9) (Msg.get_n hr NF.k))) ?_
  refine ps_k (o_rmown 6 2) (pT gm 1) ?_
  refine ps_p (o_rmown 6 3) (.int .i64 m.f) (exec_ld 3 (.tmp 6) gm 1 Try.underlying3 (rc (h9) (Msg.get_n hr NF.f))) ?_
  refine ps_k (o_rmown 6 4) (.agg (Msg.c (ownB m))) ?_
  obtain ⟨V11, eV11, gx, egx, h12, kV11⟩ := alloc_step V5 ((Msg.c msgZ)) 35
  have n13 : gm < gx := egx ▸ lt_of_block h9
  have n14 : ga < gx := egx ▸ lt_of_block h6
  have n15 : w.heap.size ≤ gx := egx ▸ K10.size
  refine ps_r (o_rmown 6 5) (pT gx 0) (w' := V11) (by rw [← eV11, ← egx]; exact exec_alloc0 35 (by kernel_rfl) (.agg ((Msg.c msgZ))) (by kernel_rfl)) ?_
  clear eV11
  have h16 := kV11.bk h9
  have h17 := kV11.bk h6
  have K18 := K10.nn kV11
  obtain ⟨V19, eV19, kV19⟩ := rowset_step V11 gx ((Msg.c (ownB m)))
  have h20 : V19.heap[gx]? = some (.cells (Msg.c ((ownB m))) 35 (0, 0)) := eV19 ▸ setRow_heap _ _ _ _ _ _ h12
  refine ps_s (o_rmown 6 6) (w' := V19) (by rw [← eV19]; exact exec_store_row 35 (.tmp 3) (.tmp 8) (by kernel_rfl) gx ((Msg.c (ownB m))) (by kernel_rfl) (by kernel_rfl) 35 ((Msg.c msgZ)) h12 (by rw [Msg.c_size (ownB_R m)]; kernel_rfl) (by rw [Msg.c_size (ownB_R m)]; exact (Msg.c_size msgZ_R).symm) (Msg.c_one _)) ?_
  clear eV19
  have h21 := kV19.bo h16 (by omega)
  have h22 := kV19.bo h17 (by omega)
  have K23 := K18.no kV19 (by omega)
  refine ps_end ?_
  refine then_n ?_
  refine sy_sq (part_rmown 14) (part_rmown 15) ?_
  refine sy_sq (part_rmown 28) (part_rmown 29) ?_
  refine sy_reg ?_
  refine rg_plain 2 (opsAt (part_rmown 28)) [0, 1] (by kernel_rfl) (by kernel_rfl) ?_
  refine ps_k (o_rmown 28 0) (pT gm 0) ?_
  refine ps_p (o_rmown 28 1) (.int .i64 m.k) (exec_ld 3 (.tmp 9) gm 0 Try.underlying3 (rc (h21) (Msg.get_n hr NF.k))) ?_
  refine ps_end ?_
  refine then_n ?_
  refine sy_bk 0 (part_rmown 58) ?_
  refine sy_sq (part_rmown 116) (part_rmown 117) ?_
  refine sy_reg ?_
  refine rg_plain 3 (opsAt (part_rmown 116)) [0, 1] (by kernel_rfl) (by kernel_rfl) ?_
  refine ps_p (o_rmown 116 0) (.bool false) (eqf ((m.k) : Int) ((1) : Int) (by omega)) ?_
  refine ps_k (o_rmown 116 1) (.bool false) ?_
  refine ps_end ?_
  refine then_n ?_
  refine sy_n (.tmp 11) (part_rmown 234) (part_rmown 235) ?_
  refine sy_sq (part_rmown 470) (part_rmown 471) ?_
  refine sy_reg ?_
  refine rg_plain 5 (opsAt (part_rmown 470)) [0, 1] (by kernel_rfl) (by kernel_rfl) ?_
  refine ps_p (o_rmown 470 0) (.bool false) (eqf ((m.k) : Int) ((2) : Int) (by omega)) ?_
  refine ps_k (o_rmown 470 1) (.bool false) ?_
  refine ps_end ?_
  refine then_n ?_
  refine sy_n (.tmp 19) (part_rmown 942) (part_rmown 943) ?_
  refine sy_sq (part_rmown 1886) (part_rmown 1887) ?_
  refine sy_reg ?_
  refine rg_plain 7 (opsAt (part_rmown 1886)) [0, 1] (by kernel_rfl) (by kernel_rfl) ?_
  refine ps_p (o_rmown 1886 0) (.bool false) (eqf ((m.k) : Int) ((3) : Int) (by omega)) ?_
  refine ps_k (o_rmown 1886 1) (.bool false) ?_
  refine ps_end ?_
  refine then_n ?_
  refine sy_n (.tmp 27) (part_rmown 3774) (part_rmown 3775) ?_
  refine sy_sq (part_rmown 7550) (part_rmown 7551) ?_
  refine sy_reg ?_
  refine rg_plain 9 (opsAt (part_rmown 7550)) [0, 1] (by kernel_rfl) (by kernel_rfl) ?_
  refine ps_p (o_rmown 7550 0) (.bool false) (eqf ((m.k) : Int) ((4) : Int) (by omega)) ?_
  refine ps_k (o_rmown 7550 1) (.bool false) ?_
  refine ps_end ?_
  refine then_n ?_
  refine sy_n (.tmp 35) (part_rmown 15102) (part_rmown 15103) ?_
  refine sy_sq (part_rmown 30206) (part_rmown 30207) ?_
  refine sy_reg ?_
  refine rg_plain 11 (opsAt (part_rmown 30206)) [0, 1] (by kernel_rfl) (by kernel_rfl) ?_
  refine ps_p (o_rmown 30206 0) (.bool false) (eqf ((m.k) : Int) ((5) : Int) (by omega)) ?_
  refine ps_k (o_rmown 30206 1) (.bool false) ?_
  refine ps_end ?_
  refine then_n ?_
  refine sy_n (.tmp 43) (part_rmown 60414) (part_rmown 60415) ?_
  refine sy_sq (part_rmown 120830) (part_rmown 120831) ?_
  refine sy_reg ?_
  refine rg_plain 13 (opsAt (part_rmown 120830)) [0, 1] (by kernel_rfl) (by kernel_rfl) ?_
  refine ps_p (o_rmown 120830 0) (.bool false) (eqf ((m.k) : Int) ((6) : Int) (by omega)) ?_
  refine ps_k (o_rmown 120830 1) (.bool false) ?_
  refine ps_end ?_
  refine then_n ?_
  refine sy_n (.tmp 54) (part_rmown 241662) (part_rmown 241663) ?_
  refine sy_sq (part_rmown 483326) (part_rmown 483327) ?_
  refine sy_reg ?_
  refine rg_plain 15 (opsAt (part_rmown 483326)) [0, 1] (by kernel_rfl) (by kernel_rfl) ?_
  refine ps_p (o_rmown 483326 0) (.bool false) (eqf ((m.k) : Int) ((7) : Int) (by omega)) ?_
  refine ps_k (o_rmown 483326 1) (.bool false) ?_
  refine ps_end ?_
  refine sy_a ⟨#[.agg (Msg.c m), pT gm 0, pT ga 0, pT gx 0, pT gm 0, .int .i64 m.k, pT gm 1, .int .i64 m.f, .agg (Msg.c (ownB m)), pT gm 0, .int .i64 m.k, .bool false, .bool false, undef, undef, undef, undef, undef, undef, .bool false, .bool false, undef, undef, undef, undef, undef, undef, .bool false, .bool false, undef, undef, undef, undef, undef, undef, .bool false, .bool false, undef, undef, undef, undef, undef, undef, .bool false, .bool false, undef, undef, undef, undef, undef, undef, undef, undef, undef, .bool false, .bool false, undef, undef, undef, .bool false, .bool false, undef, undef, undef, undef, undef, undef, undef, undef, undef, undef, undef, undef, undef, undef, undef, undef, undef, undef, undef, undef, undef, undef, undef, undef, undef, undef, undef, undef, undef, undef, undef, undef, undef, undef, undef, undef], []⟩ ?_
  refine then_n ?_
  refine sy_n (.tmp 59) (part_rmown 966654) (part_rmown 966655) ?_
  refine sy_sq (part_rmown 1933310) (part_rmown 1933311) ?_
  refine sy_reg ?_
  refine rg_plain 17 (opsAt (part_rmown 1933310)) [0, 1] (by kernel_rfl) (by kernel_rfl) ?_
  refine ps_p (o_rmown 1933310 0) (.bool false) (eqf ((m.k) : Int) ((8) : Int) (by omega)) ?_
  refine ps_k (o_rmown 1933310 1) (.bool false) ?_
  refine ps_end ?_
  refine then_n ?_
  refine sy_n (.tmp 64) (part_rmown 3866622) (part_rmown 3866623) ?_
  refine sy_sq (part_rmown 7733246) (part_rmown 7733247) ?_
  refine sy_reg ?_
  refine rg_plain 22 (opsAt (part_rmown 7733246)) [0, 1] (by kernel_rfl) (by kernel_rfl) ?_
  refine ps_p (o_rmown 7733246 0) (.bool false) (eqf ((m.k) : Int) ((9) : Int) (by omega)) ?_
  refine ps_k (o_rmown 7733246 1) (.bool false) ?_
  refine ps_end ?_
  refine then_n ?_
  refine sy_n (.tmp 84) (part_rmown 15466494) (part_rmown 15466495) ?_
  refine sy_sq (part_rmown 30932990) (part_rmown 30932991) ?_
  refine sy_reg ?_
  refine rg_plain 24 (opsAt (part_rmown 30932990)) [0, 1] (by kernel_rfl) (by kernel_rfl) ?_
  refine ps_p (o_rmown 30932990 0) (.bool false) (eqf ((m.k) : Int) ((11) : Int) (by omega)) ?_
  refine ps_k (o_rmown 30932990 1) (.bool false) ?_
  refine ps_end ?_
  refine then_n ?_
  refine sy_n (.tmp 89) (part_rmown 61865982) (part_rmown 61865983) ?_
  refine sy_sk ?_
  refine blk_n ?_
  refine then_n ?_
  refine sy_sq (part_rmown 30) (part_rmown 31) ?_
  refine sy_reg ?_
  refine rg_plain 26 (opsAt (part_rmown 30)) [0, 1] (by kernel_rfl) (by kernel_rfl) ?_
  refine ps_p (o_rmown 30 0) (.agg (Msg.c ((ownB m)))) (exec_load_row 35 (.tmp 3) (by kernel_rfl) gx (by kernel_rfl) _ _ (0, 0) _ (h20) Try.underlying35 rfl (by rw [Msg.c_size (ownB_R m)]; kernel_rfl)) ?_
  obtain ⟨V24, eV24, kV24⟩ := rowset_step V19 ga ((Msg.c ((ownB m))))
  have h25 : V24.heap[ga]? = some (.cells (Msg.c ((ownB m))) 35 (0, 0)) := eV24 ▸ setRow_heap _ _ _ _ _ _ h22
  refine ps_s (o_rmown 30 1) (w' := V24) (by rw [← eV24]; exact exec_store_row 35 (.tmp 2) (.tmp 96) (by kernel_rfl) ga ((Msg.c ((ownB m)))) (by kernel_rfl) (by kernel_rfl) 35 ((Msg.c msgZ)) h22 (by rw [Msg.c_size (ownB_R m)]; kernel_rfl) (by rw [Msg.c_size (ownB_R m)]; exact (Msg.c_size msgZ_R).symm) (Msg.c_one _)) ?_
  clear eV24
  have h26 := kV24.bo h21 (by omega)
  have h27 := kV24.bo h20 (by omega)
  have K28 := K23.no kV24 (by omega)
  refine ps_end ?_
  refine then_n ?_
  refine sy_ret (by kernel_rfl) ?_
  refine sy_out (.agg (Msg.c ((ownB m)))) rfl (results_cell_row (p := 2) (ty := 35) (by kernel_rfl) _ _ ga 35 (Msg.c ((ownB m))) (0, 0) _ (by kernel_rfl) h25 Try.underlying35 rfl (by rw [Msg.c_size (ownB_R m)]; kernel_rfl)) ?_
  exact ⟨rfl, K28⟩
set_option maxRecDepth 100000 in
set_option maxHeartbeats 4000000 in
theorem rmown_11 (m : Msg) (w : World) (hr : m.R) (hk : m.k = 11) :
    Calls Try.prog 55 #[.agg (Msg.c m)] w (fun e w' => e = .returned (.agg (Msg.c (ownK m 11))) ∧ Keeps Nob w w') := by
  have K0 : Keeps Nob w w := Keeps.refl _ _
  refine sy_enter (part_rmown 1) ⟨#[.agg (Msg.c m), undef, undef, undef, undef, undef, undef, undef, undef, undef, undef, undef, undef, undef, undef, undef, undef, undef, undef, undef, undef, undef, undef, undef, undef, undef, undef, undef, undef, undef, undef, undef, undef, undef, undef, undef, undef, undef, undef, undef, undef, undef, undef, undef, undef, undef, undef, undef, undef, undef, undef, undef, undef, undef, undef, undef, undef, undef, undef, undef, undef, undef, undef, undef, undef, undef, undef, undef, undef, undef, undef, undef, undef, undef, undef, undef, undef, undef, undef, undef, undef, undef, undef, undef, undef, undef, undef, undef, undef, undef, undef, undef, undef, undef, undef, undef, undef], []⟩ Try.func55 (by kernel_rfl) (by kernel_rfl) ?_
  refine sy_sq (part_rmown 2) (part_rmown 3) ?_
  refine sy_reg ?_
  refine rg_plain 0 (opsAt (part_rmown 2)) [0, 1] (by kernel_rfl) (by kernel_rfl) ?_
  obtain ⟨V1, eV1, gm, egm, h2, kV1⟩ := alloc_step w ((Msg.c m)) 35
  have n3 : w.heap.size ≤ gm := egm ▸ K0.size
  refine ps_r (o_rmown 2 0) (pT gm 0) (w' := V1) (by rw [← eV1, ← egm]; exact exec_box 35 (.tmp 0) (by kernel_rfl) (.agg (Msg.c m)) (by kernel_rfl)) ?_
  clear eV1
  have K4 := K0.nn kV1
  obtain ⟨V5, eV5, ga, ega, h6, kV5⟩ := alloc_step V1 ((Msg.c msgZ)) 35
  have n7 : gm < ga := ega ▸ lt_of_block h2
  have n8 : w.heap.size ≤ ga := ega ▸ K4.size
  refine ps_r (o_rmown 2 1) (pT ga 0) (w' := V5) (by rw [← eV5, ← ega]; exact exec_alloc0 35 (by kernel_rfl) (.agg ((Msg.c msgZ))) (by kernel_rfl)) ?_
  clear eV5
  have h9 := kV5.bk h2
  have K10 := K4.nn kV5
  refine ps_end ?_
  refine then_n ?_
  refine sy_sq (part_rmown 6) (part_rmown 7) ?_
  refine sy_reg ?_
  refine rg_plain 1 (opsAt (part_rmown 6)) [0, 1, 2, 3, 4, 5, 6] (by kernel_rfl) (by kernel_rfl) ?_
  refine ps_k (o_rmown 6 0) (pT gm 0) ?_
  refine ps_p (o_rmown 6 1) (.int .i64 m.k) (exec_ld 3 (.tmp 4) gm 0 Try.underlying3 (rc (h9) (Msg.get_n hr NF.k))) ?_
  refine ps_k (o_rmown 6 2) (pT gm 1) ?_
  refine ps_p (o_rmown 6 3) (.int .i64 m.f) (exec_ld 3 (.tmp 6) gm 1 Try.underlying3 (rc (h9) (Msg.get_n hr NF.f))) ?_
  refine ps_k (o_rmown 6 4) (.agg (Msg.c (ownB m))) ?_
  obtain ⟨V11, eV11, gx, egx, h12, kV11⟩ := alloc_step V5 ((Msg.c msgZ)) 35
  have n13 : gm < gx := egx ▸ lt_of_block h9
  have n14 : ga < gx := egx ▸ lt_of_block h6
  have n15 : w.heap.size ≤ gx := egx ▸ K10.size
  refine ps_r (o_rmown 6 5) (pT gx 0) (w' := V11) (by rw [← eV11, ← egx]; exact exec_alloc0 35 (by kernel_rfl) (.agg ((Msg.c msgZ))) (by kernel_rfl)) ?_
  clear eV11
  have h16 := kV11.bk h9
  have h17 := kV11.bk h6
  have K18 := K10.nn kV11
  obtain ⟨V19, eV19, kV19⟩ := rowset_step V11 gx ((Msg.c (ownB m)))
  have h20 : V19.heap[gx]? = some (.cells (Msg.c ((ownB m))) 35 (0, 0)) := eV19 ▸ setRow_heap _ _ _ _ _ _ h12
  refine ps_s (o_rmown 6 6) (w' := V19) (by rw [← eV19]; exact exec_store_row 35 (.tmp 3) (.tmp 8) (by kernel_rfl) gx ((Msg.c (ownB m))) (by kernel_rfl) (by kernel_rfl) 35 ((Msg.c msgZ)) h12 (by rw [Msg.c_size (ownB_R m)]; kernel_rfl) (by rw [Msg.c_size (ownB_R m)]; exact (Msg.c_size msgZ_R).symm) (Msg.c_one _)) ?_
  clear eV19
  have h21 := kV19.bo h16 (by omega)
  have h22 := kV19.bo h17 (by omega)
  have K23 := K18.no kV19 (by omega)
  refine ps_end ?_
  refine then_n ?_
  refine sy_sq (part_rmown 14) (part_rmown 15) ?_
  refine sy_sq (part_rmown 28) (part_rmown 29) ?_
  refine sy_reg ?_
  refine rg_plain 2 (opsAt (part_rmown 28)) [0, 1] (by kernel_rfl) (by kernel_rfl) ?_
  refine ps_k (o_rmown 28 0) (pT gm 0) ?_
  refine ps_p (o_rmown 28 1) (.int .i64 m.k) (exec_ld 3 (.tmp 9) gm 0 Try.underlying3 (rc (h21) (Msg.get_n hr NF.k))) ?_
  refine ps_end ?_
  refine then_n ?_
  refine sy_bk 0 (part_rmown 58) ?_
  refine sy_sq (part_rmown 116) (part_rmown 117) ?_
  refine sy_reg ?_
  refine rg_plain 3 (opsAt (part_rmown 116)) [0, 1] (by kernel_rfl) (by kernel_rfl) ?_
  refine ps_p (o_rmown 116 0) (.bool false) (eqf ((m.k) : Int) ((1) : Int) (by omega)) ?_
  refine ps_k (o_rmown 116 1) (.bool false) ?_
  refine ps_end ?_
  refine then_n ?_
  refine sy_n (.tmp 11) (part_rmown 234) (part_rmown 235) ?_
  refine sy_sq (part_rmown 470) (part_rmown 471) ?_
  refine sy_reg ?_
  refine rg_plain 5 (opsAt (part_rmown 470)) [0, 1] (by kernel_rfl) (by kernel_rfl) ?_
  refine ps_p (o_rmown 470 0) (.bool false) (eqf ((m.k) : Int) ((2) : Int) (by omega)) ?_
  refine ps_k (o_rmown 470 1) (.bool false) ?_
  refine ps_end ?_
  refine then_n ?_
  refine sy_n (.tmp 19) (part_rmown 942) (part_rmown 943) ?_
  refine sy_sq (part_rmown 1886) (part_rmown 1887) ?_
  refine sy_reg ?_
  refine rg_plain 7 (opsAt (part_rmown 1886)) [0, 1] (by kernel_rfl) (by kernel_rfl) ?_
  refine ps_p (o_rmown 1886 0) (.bool false) (eqf ((m.k) : Int) ((3) : Int) (by omega)) ?_
  refine ps_k (o_rmown 1886 1) (.bool false) ?_
  refine ps_end ?_
  refine then_n ?_
  refine sy_n (.tmp 27) (part_rmown 3774) (part_rmown 3775) ?_
  refine sy_sq (part_rmown 7550) (part_rmown 7551) ?_
  refine sy_reg ?_
  refine rg_plain 9 (opsAt (part_rmown 7550)) [0, 1] (by kernel_rfl) (by kernel_rfl) ?_
  refine ps_p (o_rmown 7550 0) (.bool false) (eqf ((m.k) : Int) ((4) : Int) (by omega)) ?_
  refine ps_k (o_rmown 7550 1) (.bool false) ?_
  refine ps_end ?_
  refine then_n ?_
  refine sy_n (.tmp 35) (part_rmown 15102) (part_rmown 15103) ?_
  refine sy_sq (part_rmown 30206) (part_rmown 30207) ?_
  refine sy_reg ?_
  refine rg_plain 11 (opsAt (part_rmown 30206)) [0, 1] (by kernel_rfl) (by kernel_rfl) ?_
  refine ps_p (o_rmown 30206 0) (.bool false) (eqf ((m.k) : Int) ((5) : Int) (by omega)) ?_
  refine ps_k (o_rmown 30206 1) (.bool false) ?_
  refine ps_end ?_
  refine then_n ?_
  refine sy_n (.tmp 43) (part_rmown 60414) (part_rmown 60415) ?_
  refine sy_sq (part_rmown 120830) (part_rmown 120831) ?_
  refine sy_reg ?_
  refine rg_plain 13 (opsAt (part_rmown 120830)) [0, 1] (by kernel_rfl) (by kernel_rfl) ?_
  refine ps_p (o_rmown 120830 0) (.bool false) (eqf ((m.k) : Int) ((6) : Int) (by omega)) ?_
  refine ps_k (o_rmown 120830 1) (.bool false) ?_
  refine ps_end ?_
  refine then_n ?_
  refine sy_n (.tmp 54) (part_rmown 241662) (part_rmown 241663) ?_
  refine sy_sq (part_rmown 483326) (part_rmown 483327) ?_
  refine sy_reg ?_
  refine rg_plain 15 (opsAt (part_rmown 483326)) [0, 1] (by kernel_rfl) (by kernel_rfl) ?_
  refine ps_p (o_rmown 483326 0) (.bool false) (eqf ((m.k) : Int) ((7) : Int) (by omega)) ?_
  refine ps_k (o_rmown 483326 1) (.bool false) ?_
  refine ps_end ?_
  refine sy_a ⟨#[.agg (Msg.c m), pT gm 0, pT ga 0, pT gx 0, pT gm 0, .int .i64 m.k, pT gm 1, .int .i64 m.f, .agg (Msg.c (ownB m)), pT gm 0, .int .i64 m.k, .bool false, .bool false, undef, undef, undef, undef, undef, undef, .bool false, .bool false, undef, undef, undef, undef, undef, undef, .bool false, .bool false, undef, undef, undef, undef, undef, undef, .bool false, .bool false, undef, undef, undef, undef, undef, undef, .bool false, .bool false, undef, undef, undef, undef, undef, undef, undef, undef, undef, .bool false, .bool false, undef, undef, undef, .bool false, .bool false, undef, undef, undef, undef, undef, undef, undef, undef, undef, undef, undef, undef, undef, undef, undef, undef, undef, undef, undef, undef, undef, undef, undef, undef, undef, undef, undef, undef, undef, undef, undef, undef, undef, undef, undef, undef], []⟩ ?_
  refine then_n ?_
  refine sy_n (.tmp 59) (part_rmown 966654) (part_rmown 966655) ?_
  refine sy_sq (part_rmown 1933310) (part_rmown 1933311) ?_
  refine sy_reg ?_
  refine rg_plain 17 (opsAt (part_rmown 1933310)) [0, 1] (by kernel_rfl) (by kernel_rfl) ?_
  refine ps_p (o_rmown 1933310 0) (.bool false) (eqf ((m.k) : Int) ((8) : Int) (by omega)) ?_
  refine ps_k (o_rmown 1933310 1) (.bool false) ?_
  refine ps_end ?_
  refine then_n ?_
  refine sy_n (.tmp 64) (part_rmown 3866622) (part_rmown 3866623) ?_
  refine sy_sq (part_rmown 7733246) (part_rmown 7733247) ?_
  refine sy_reg ?_
  refine rg_plain 22 (opsAt (part_rmown 7733246)) [0, 1] (by kernel_rfl) (by kernel_rfl) ?_
  refine ps_p (o_rmown 7733246 0) (.bool false) (eqf ((m.k) : Int) ((9) : Int) (by omega)) ?_
  refine ps_k (o_rmown 7733246 1) (.bool false) ?_
  refine ps_end ?_
  refine then_n ?_
  refine sy_n (.tmp 84) (part_rmown 15466494) (part_rmown 15466495) ?_
  refine sy_sq (part_rmown 30932990) (part_rmown 30932991) ?_
  refine sy_reg ?_
  refine rg_plain 24 (opsAt (part_rmown 30932990)) [0, 1] (by kernel_rfl) (by kernel_rfl) ?_
  refine ps_p (o_rmown 30932990 0) (.bool true) (eqt ((m.k) : Int) ((11) : Int) (by omega)) ?_
  refine ps_k (o_rmown 30932990 1) (.bool true) ?_
  refine ps_end ?_
  refine then_n ?_
  refine sy_ys (.tmp 89) (part_rmown 61865982) (part_rmown 61865983) ?_
  refine sy_reg ?_
  refine rg_plain 25 (opsAt (part_rmown 61865982)) [0, 1, 2, 3, 4, 5] (by kernel_rfl) (by kernel_rfl) ?_
  refine ps_k (o_rmown 61865982 0) (pT gm 0) ?_
  refine ps_p (o_rmown 61865982 1) (.int .i64 m.k) (exec_ld 3 (.tmp 91) gm 0 Try.underlying3 (rc (h21) (Msg.get_n hr NF.k))) ?_
  refine ps_k (o_rmown 61865982 2) (pT gm 10) ?_
  refine ps_p (o_rmown 61865982 3) (.int .i64 m.n) (exec_ld 3 (.tmp 93) gm 10 Try.underlying3 (rc (h21) (Msg.get_n hr NF.n))) ?_
  refine ps_k (o_rmown 61865982 4) (.agg (Msg.c ({ onlyK m.k with n := m.n } : Msg))) ?_
  obtain ⟨V24, eV24, kV24⟩ := rowset_step V19 gx ((Msg.c ({ onlyK m.k with n := m.n } : Msg)))
  have h25 : V24.heap[gx]? = some (.cells (Msg.c (({ onlyK m.k with n := m.n } : Msg))) 35 (0, 0)) := eV24 ▸ setRow_heap _ _ _ _ _ _ h20
  refine ps_s (o_rmown 61865982 5) (w' := V24) (by rw [← eV24]; exact exec_store_row 35 (.tmp 3) (.tmp 95) (by kernel_rfl) gx ((Msg.c ({ onlyK m.k with n := m.n } : Msg))) (by kernel_rfl) (by kernel_rfl) 35 (Msg.c ((ownB m))) h20 (by rw [Msg.c_size (onlyN_R m)]; kernel_rfl) (by rw [Msg.c_size (onlyN_R m)]; exact (Msg.c_size (ownB_R m)).symm) (Msg.c_one _)) ?_
  clear eV24
  have h26 := kV24.bo h21 (by omega)
  have h27 := kV24.bo h22 (by omega)
  have K28 := K23.no kV24 (by omega)
  refine ps_end ?_
  refine blk_n ?_
  refine then_n ?_
  refine sy_sq (part_rmown 30) (part_rmown 31) ?_
  refine sy_reg ?_
  refine rg_plain 26 (opsAt (part_rmown 30)) [0, 1] (by kernel_rfl) (by kernel_rfl) ?_
  refine ps_p (o_rmown 30 0) (.agg (Msg.c (({ onlyK m.k with n := m.n } : Msg)))) (exec_load_row 35 (.tmp 3) (by kernel_rfl) gx (by kernel_rfl) _ _ (0, 0) _ (h25) Try.underlying35 rfl (by rw [Msg.c_size (onlyN_R m)]; kernel_rfl)) ?_
  obtain ⟨V29, eV29, kV29⟩ := rowset_step V24 ga ((Msg.c (({ onlyK m.k with n := m.n } : Msg))))
  have h30 : V29.heap[ga]? = some (.cells (Msg.c (({ onlyK m.k with n := m.n } : Msg))) 35 (0, 0)) := eV29 ▸ setRow_heap _ _ _ _ _ _ h27
  refine ps_s (o_rmown 30 1) (w' := V29) (by rw [← eV29]; exact exec_store_row 35 (.tmp 2) (.tmp 96) (by kernel_rfl) ga ((Msg.c (({ onlyK m.k with n := m.n } : Msg)))) (by kernel_rfl) (by kernel_rfl) 35 ((Msg.c msgZ)) h27 (by rw [Msg.c_size (onlyN_R m)]; kernel_rfl) (by rw [Msg.c_size (onlyN_R m)]; exact (Msg.c_size msgZ_R).symm) (Msg.c_one _)) ?_
  clear eV29
  have h31 := kV29.bo h26 (by omega)
  have h32 := kV29.bo h25 (by omega)
  have K33 := K28.no kV29 (by omega)
  refine ps_end ?_
  refine then_n ?_
  refine sy_ret (by kernel_rfl) ?_
  refine sy_out (.agg (Msg.c (({ onlyK m.k with n := m.n } : Msg)))) rfl (results_cell_row (p := 2) (ty := 35) (by kernel_rfl) _ _ ga 35 (Msg.c (({ onlyK m.k with n := m.n } : Msg))) (0, 0) _ (by kernel_rfl) h30 Try.underlying35 rfl (by rw [Msg.c_size (onlyN_R m)]; kernel_rfl)) ?_
  exact ⟨rfl, K33⟩
set_option maxRecDepth 100000 in
set_option maxHeartbeats 4000000 in
theorem rmown_8t (m : Msg) (w : World) (hr : m.R) (hk : m.k = 8) (hp : m.pf = 3) :
    Calls Try.prog 55 #[.agg (Msg.c m)] w (fun e w' => e = .returned (.agg (Msg.c (ownK m 8))) ∧ Keeps Nob w w') := by
  have K0 : Keeps Nob w w := Keeps.refl _ _
  refine sy_enter (part_rmown 1) ⟨#[.agg (Msg.c m), undef, undef, undef, undef, undef, undef, undef, undef, undef, undef, undef, undef, undef, undef, undef, undef, undef, undef, undef, undef, undef, undef, undef, undef, undef, undef, undef, undef, undef, undef, undef, undef, undef, undef, undef, undef, undef, undef, undef, undef, undef, undef, undef, undef, undef, undef, undef, undef, undef, undef, undef, undef, undef, undef, undef, undef, undef, undef, undef, undef, undef, undef, undef, undef, undef, undef, undef, undef, undef, undef, undef, undef, undef, undef, undef, undef, undef, undef, undef, undef, undef, undef, undef, undef, undef, undef, undef, undef, undef, undef, undef, undef, undef, undef, undef, undef], []⟩ Try.func55 (by kernel_rfl) (by kernel_rfl) ?_
  refine sy_sq (part_rmown 2) (part_rmown 3) ?_
  refine sy_reg ?_
  refine rg_plain 0 (opsAt (part_rmown 2)) [0, 1] (by kernel_rfl) (by kernel_rfl) ?_
  obtain ⟨V1, eV1, gm, egm, h2, kV1⟩ := alloc_step w ((Msg.c m)) 35
  have n3 : w.heap.size ≤ gm := egm ▸ K0.size
  refine ps_r (o_rmown 2 0) (pT gm 0) (w' := V1) (by rw [← eV1, ← egm]; exact exec_box 35 (.tmp 0) (by kernel_rfl) (.agg (Msg.c m)) (by kernel_rfl)) ?_
  clear eV1
  have K4 := K0.nn kV1
  obtain ⟨V5, eV5, ga, ega, h6, kV5⟩ := alloc_step V1 ((Msg.c msgZ)) 35
  have n7 : gm < ga := ega ▸ lt_of_block h2
  have n8 : w.heap.size ≤ ga := ega ▸ K4.size
  refine ps_r (o_rmown 2 1) (pT ga 0) (w' := V5) (by rw [← eV5, ← ega]; exact exec_alloc0 35 (by kernel_rfl) (.agg ((Msg.c msgZ))) (by kernel_rfl)) ?_
  clear eV5
  have h9 := kV5.bk h2
  have K10 := K4.nn kV5
  refine ps_end ?_
  refine then_n ?_
  refine sy_sq (part_rmown 6) (part_rmown 7) ?_
  refine sy_reg ?_
  refine rg_plain 1 (opsAt (part_rmown 6)) [0, 1, 2, 3, 4, 5, 6] (by kernel_rfl) (by kernel_rfl) ?_
  refine ps_k (o_rmown 6 0) (pT gm 0) ?_
  refine ps_p (o_rmown 6 1) (.int .i64 m.k) (exec_ld 3 (.tmp 4) gm 0 Try.underlying3 (rc (h9) (Msg.get_n hr NF.k))) ?_
  refine ps_k (o_rmown 6 2) (pT gm 1) ?_
  refine ps_p (o_rmown 6 3) (.int .i64 m.f) (exec_ld 3 (.tmp 6) gm 1 Try.underlying3 (rc (h9) (Msg.get_n hr NF.f))) ?_
  refine ps_k (o_rmown 6 4) (.agg (Msg.c (ownB m))) ?_
  obtain ⟨V11, eV11, gx, egx, h12, kV11⟩ := alloc_step V5 ((Msg.c msgZ)) 35
  have n13 : gm < gx := egx ▸ lt_of_block h9
  have n14 : ga < gx := egx ▸ lt_of_block h6
  have n15 : w.heap.size ≤ gx := egx ▸ K10.size
  refine ps_r (o_rmown 6 5) (pT gx 0) (w' := V11) (by rw [← eV11, ← egx]; exact exec_alloc0 35 (by kernel_rfl) (.agg ((Msg.c msgZ))) (by kernel_rfl)) ?_
  clear eV11
  have h16 := kV11.bk h9
  have h17 := kV11.bk h6
  have K18 := K10.nn kV11
  obtain ⟨V19, eV19, kV19⟩ := rowset_step V11 gx ((Msg.c (ownB m)))
  have h20 : V19.heap[gx]? = some (.cells (Msg.c ((ownB m))) 35 (0, 0)) := eV19 ▸ setRow_heap _ _ _ _ _ _ h12
  refine ps_s (o_rmown 6 6) (w' := V19) (by rw [← eV19]; exact exec_store_row 35 (.tmp 3) (.tmp 8) (by kernel_rfl) gx ((Msg.c (ownB m))) (by kernel_rfl) (by kernel_rfl) 35 ((Msg.c msgZ)) h12 (by rw [Msg.c_size (ownB_R m)]; kernel_rfl) (by rw [Msg.c_size (ownB_R m)]; exact (Msg.c_size msgZ_R).symm) (Msg.c_one _)) ?_
  clear eV19
  have h21 := kV19.bo h16 (by omega)
  have h22 := kV19.bo h17 (by omega)
  have K23 := K18.no kV19 (by omega)
  refine ps_end ?_
  refine then_n ?_
  refine sy_sq (part_rmown 14) (part_rmown 15) ?_
  refine sy_sq (part_rmown 28) (part_rmown 29) ?_
  refine sy_reg ?_
  refine rg_plain 2 (opsAt (part_rmown 28)) [0, 1] (by kernel_rfl) (by kernel_rfl) ?_
  refine ps_k (o_rmown 28 0) (pT gm 0) ?_
  refine ps_p (o_rmown 28 1) (.int .i64 m.k) (exec_ld 3 (.tmp 9) gm 0 Try.underlying3 (rc (h21) (Msg.get_n hr NF.k))) ?_
  refine ps_end ?_
  refine then_n ?_
  refine sy_bk 0 (part_rmown 58) ?_
  refine sy_sq (part_rmown 116) (part_rmown 117) ?_
  refine sy_reg ?_
  refine rg_plain 3 (opsAt (part_rmown 116)) [0, 1] (by kernel_rfl) (by kernel_rfl) ?_
  refine ps_p (o_rmown 116 0) (.bool false) (eqf ((m.k) : Int) ((1) : Int) (by omega)) ?_
  refine ps_k (o_rmown 116 1) (.bool false) ?_
  refine ps_end ?_
  refine then_n ?_
  refine sy_n (.tmp 11) (part_rmown 234) (part_rmown 235) ?_
  refine sy_sq (part_rmown 470) (part_rmown 471) ?_
  refine sy_reg ?_
  refine rg_plain 5 (opsAt (part_rmown 470)) [0, 1] (by kernel_rfl) (by kernel_rfl) ?_
  refine ps_p (o_rmown 470 0) (.bool false) (eqf ((m.k) : Int) ((2) : Int) (by omega)) ?_
  refine ps_k (o_rmown 470 1) (.bool false) ?_
  refine ps_end ?_
  refine then_n ?_
  refine sy_n (.tmp 19) (part_rmown 942) (part_rmown 943) ?_
  refine sy_sq (part_rmown 1886) (part_rmown 1887) ?_
  refine sy_reg ?_
  refine rg_plain 7 (opsAt (part_rmown 1886)) [0, 1] (by kernel_rfl) (by kernel_rfl) ?_
  refine ps_p (o_rmown 1886 0) (.bool false) (eqf ((m.k) : Int) ((3) : Int) (by omega)) ?_
  refine ps_k (o_rmown 1886 1) (.bool false) ?_
  refine ps_end ?_
  refine then_n ?_
  refine sy_n (.tmp 27) (part_rmown 3774) (part_rmown 3775) ?_
  refine sy_sq (part_rmown 7550) (part_rmown 7551) ?_
  refine sy_reg ?_
  refine rg_plain 9 (opsAt (part_rmown 7550)) [0, 1] (by kernel_rfl) (by kernel_rfl) ?_
  refine ps_p (o_rmown 7550 0) (.bool false) (eqf ((m.k) : Int) ((4) : Int) (by omega)) ?_
  refine ps_k (o_rmown 7550 1) (.bool false) ?_
  refine ps_end ?_
  refine then_n ?_
  refine sy_n (.tmp 35) (part_rmown 15102) (part_rmown 15103) ?_
  refine sy_sq (part_rmown 30206) (part_rmown 30207) ?_
  refine sy_reg ?_
  refine rg_plain 11 (opsAt (part_rmown 30206)) [0, 1] (by kernel_rfl) (by kernel_rfl) ?_
  refine ps_p (o_rmown 30206 0) (.bool false) (eqf ((m.k) : Int) ((5) : Int) (by omega)) ?_
  refine ps_k (o_rmown 30206 1) (.bool false) ?_
  refine ps_end ?_
  refine then_n ?_
  refine sy_n (.tmp 43) (part_rmown 60414) (part_rmown 60415) ?_
  refine sy_sq (part_rmown 120830) (part_rmown 120831) ?_
  refine sy_reg ?_
  refine rg_plain 13 (opsAt (part_rmown 120830)) [0, 1] (by kernel_rfl) (by kernel_rfl) ?_
  refine ps_p (o_rmown 120830 0) (.bool false) (eqf ((m.k) : Int) ((6) : Int) (by omega)) ?_
  refine ps_k (o_rmown 120830 1) (.bool false) ?_
  refine ps_end ?_
  refine then_n ?_
  refine sy_n (.tmp 54) (part_rmown 241662) (part_rmown 241663) ?_
  refine sy_sq (part_rmown 483326) (part_rmown 483327) ?_
  refine sy_reg ?_
  refine rg_plain 15 (opsAt (part_rmown 483326)) [0, 1] (by kernel_rfl) (by kernel_rfl) ?_
  refine ps_p (o_rmown 483326 0) (.bool false) (eqf ((m.k) : Int) ((7) : Int) (by omega)) ?_
  refine ps_k (o_rmown 483326 1) (.bool false) ?_
  refine ps_end ?_
  refine sy_a ⟨#[.agg (Msg.c m), pT gm 0, pT ga 0, pT gx 0, pT gm 0, .int .i64 m.k, pT gm 1, .int .i64 m.f, .agg (Msg.c (ownB m)), pT gm 0, .int .i64 m.k, .bool false, .bool false, undef, undef, undef, undef, undef, undef, .bool false, .bool false, undef, undef, undef, undef, undef, undef, .bool false, .bool false, undef, undef, undef, undef, undef, undef, .bool false, .bool false, undef, undef, undef, undef, undef, undef, .bool false, .bool false, undef, undef, undef, undef, undef, undef, undef, undef, undef, .bool false, .bool false, undef, undef, undef, .bool false, .bool false, undef, undef, undef, undef, undef, undef, undef, undef, undef, undef, undef, undef, undef, undef, undef, undef, undef, undef, undef, undef, undef, undef, undef, undef, undef, undef, undef, undef, undef, undef, undef, undef, undef, undef, undef, undef], []⟩ ?_
  refine then_n ?_
  refine sy_n (.tmp 59) (part_rmown 966654) (part_rmown 966655) ?_
  refine sy_sq (part_rmown 1933310) (part_rmown 1933311) ?_
  refine sy_reg ?_
  refine rg_plain 17 (opsAt (part_rmown 1933310)) [0, 1] (by kernel_rfl) (by kernel_rfl) ?_
  refine ps_p (o_rmown 1933310 0) (.bool true) (eqt ((m.k) : Int) ((8) : Int) (by omega)) ?_
  refine ps_k (o_rmown 1933310 1) (.bool true) ?_
  refine ps_end ?_
  refine then_n ?_
  refine sy_ys (.tmp 64) (part_rmown 3866622) (part_rmown 3866623) ?_
  refine sy_sq (part_rmown 7733244) (part_rmown 7733245) ?_
  refine sy_reg ?_
  refine rg_plain 18 (opsAt (part_rmown 7733244)) [0, 1, 2, 3] (by kernel_rfl) (by kernel_rfl) ?_
  refine ps_k (o_rmown 7733244 0) (pT gm 11) ?_
  refine ps_p (o_rmown 7733244 1) (.int .i64 m.pf) (exec_ld 3 (.tmp 66) gm 11 Try.underlying3 (rc (h21) (Msg.get_n hr NF.pf))) ?_
  refine ps_k (o_rmown 7733244 2) (pT gx 11) ?_
  obtain ⟨V24, eV24, kV24⟩ := cell_step V19 gx 11 (.int .i64 m.pf)
  have h25 : V24.heap[gx]? = some (.cells (Msg.c (NF.set ((ownB m)) m.pf .pf)) 35 (0, 0)) := eV24 ▸ ((heap_setCell_same _ gx 11 _ _ (.int .i64 m.pf) h20).trans (congrArg (fun c => some (Obj.cells c 35 (0, 0))) (show (Msg.c ((ownB m)) : Array Value).setIfInBounds 11 (.int .i64 m.pf) = Msg.c (NF.set ((ownB m)) m.pf .pf) from Msg.set_n (ownB_R m) NF.pf _)))
  refine ps_s (o_rmown 7733244 3) (w' := V24) (by rw [← eV24]; exact exec_store_cell 3 (.tmp 68) (.tmp 67) (by kernel_rfl) gx 11 (by kernel_rfl) (.int .i64 m.pf) (by kernel_rfl) (by kernel_rfl) (by kernel_rfl) (.int .i64 (((ownB m)).pf)) (rc (h20) (Msg.get_n (ownB_R m) NF.pf)) (frozen_of_row _ _ _ _ _ h20) (by kernel_rfl)) ?_
  clear eV24
  have h26 := kV24.bo h21 (by omega)
  have h27 := kV24.bo h22 (by omega)
  have K28 := K23.no kV24 (by omega)
  refine ps_end ?_
  refine then_n ?_
  refine sy_sq (part_rmown 15466490) (part_rmown 15466491) ?_
  refine sy_reg ?_
  refine rg_plain 19 (opsAt (part_rmown 15466490)) [0, 1, 2] (by kernel_rfl) (by kernel_rfl) ?_
  refine ps_k (o_rmown 15466490 0) (pT gm 11) ?_
  refine ps_p (o_rmown 15466490 1) (.int .i64 m.pf) (exec_ld 3 (.tmp 69) gm 11 Try.underlying3 (rc (h26) (Msg.get_n hr NF.pf))) ?_
  refine ps_p (o_rmown 15466490 2) (.bool true) (eqt ((m.pf) : Int) ((3) : Int) (by omega)) ?_
  refine ps_end ?_
  refine then_n ?_
  refine sy_ys (.tmp 71) (part_rmown 30932982) (part_rmown 30932983) ?_
  refine sy_np ?_
  refine sy_reg ?_
  refine an_begin 20 8 (opsAt (part_rmown 30932982)) (fun W => (W.heap[gm]? = some (.cells (Msg.c m) 35 (0, 0)))) #[false, false, false, false, false, false, false, false] (by kernel_rfl) (by kernel_rfl) (by kernel_rfl) (by kernel_rfl) ?_
  obtain ⟨V29, eV29, kV29⟩ := drew_step V24
  rw [eV29]
  clear eV29
  have h30 := kV29.bk h26
  have h31 := kV29.bk h27
  have h32 := kV29.bk h25
  have K33 := K28.nn kV29
  refine an_k 0 (o_rmown 30932982 0) (pT gm 84) h30 ?_
  refine an_v 1 (o_rmown 30932982 1) (.agg (Pro.c m.p)) (fun W hS => exec_load_seg 33 (.tmp 72) (by kernel_rfl) gm 84 (by kernel_rfl) (Pro.c m.p).toList _ _ _ hS (Msg.seg_P hr) Try.underlying33 rfl (by rw [Pro.tl hr.p]; kernel_rfl)) h30 ?_
  refine an_k 2 (o_rmown 30932982 2) (pT gm 119) h30 ?_
  refine an_v 3 (o_rmown 30932982 3) (.agg (Pro.c m.q)) (fun W hS => exec_load_seg 33 (.tmp 74) (by kernel_rfl) gm 119 (by kernel_rfl) (Pro.c m.q).toList _ _ _ hS (Msg.seg_Q hr) Try.underlying33 rfl (by rw [Pro.tl hr.q]; kernel_rfl)) h30 ?_
  refine an_k 4 (o_rmown 30932982 4) (pT gx 84) h30 ?_
  refine an_o 5 ?_
  obtain ⟨V34, eV34⟩ : ∃ V, V29.setCells gx 84 (Pro.c m.p).toList = V := ⟨_, rfl⟩
  have kV34 : Keeps (One gx) V29 V34 := eV34 ▸ Keeps.setCells _ _ _ _
  have h35 : V34.heap[gx]? = some (.cells (Msg.c (putP (NF.set ((ownB m)) m.pf .pf) m.p)) 35 (0, 0)) := eV34 ▸ (heap_setCells gx _ _ 84 _ _ h32 (show 84 + (Pro.c m.p).toList.length ≤ _ by rw [(show (Pro.c m.p).toList.length = 35 from Pro.tl hr.p), Msg.c_size (NF.R (ownB_R m))]; decide)).trans (congrArg (fun c => some (Obj.cells c 35 (0, 0))) (Msg.set_P (NF.R (ownB_R m)) _ hr.p))
  refine on_s (o_rmown 30932982 5) (w' := V34) (by rw [← eV34]; exact exec_store_mid 33 (.tmp 76) (.tmp 73) (by kernel_rfl) gx 84 (by kernel_rfl) (Pro.c m.p) (by kernel_rfl) _ _ h32 (show 84 + (Pro.c m.p).toList.length ≤ _ by rw [(show (Pro.c m.p).toList.length = 35 from Pro.tl hr.p), Msg.c_size (NF.R (ownB_R m))]; decide) (by rw [Pro.c_size _ hr.p]; kernel_rfl) (Pro.c_one _)) ?_
  clear eV34
  have h36 := kV34.bo h30 (by omega)
  have h37 := kV34.bo h31 (by omega)
  have K38 := K33.no kV34 (by omega)
  refine ⟨h36, ?_⟩
  refine an_k 6 (o_rmown 30932982 6) (pT gx 119) h36 ?_
  refine an_o 7 ?_
  obtain ⟨V39, eV39⟩ : ∃ V, V34.setCells gx 119 (Pro.c m.q).toList = V := ⟨_, rfl⟩
  have kV39 : Keeps (One gx) V34 V39 := eV39 ▸ Keeps.setCells _ _ _ _
  have h40 : V39.heap[gx]? = some (.cells (Msg.c (putQ (putP (NF.set ((ownB m)) m.pf .pf) m.p) m.q)) 35 (0, 0)) := eV39 ▸ (heap_setCells gx _ _ 119 _ _ h35 (show 119 + (Pro.c m.q).toList.length ≤ _ by rw [(show (Pro.c m.q).toList.length = 35 from Pro.tl hr.q), Msg.c_size (putP_R (NF.R (ownB_R m)) hr.p)]; decide)).trans (congrArg (fun c => some (Obj.cells c 35 (0, 0))) (Msg.set_Q (putP_R (NF.R (ownB_R m)) hr.p) _ hr.q))
  refine on_s (o_rmown 30932982 7) (w' := V39) (by rw [← eV39]; exact exec_store_mid 33 (.tmp 77) (.tmp 75) (by kernel_rfl) gx 119 (by kernel_rfl) (Pro.c m.q) (by kernel_rfl) _ _ h35 (show 119 + (Pro.c m.q).toList.length ≤ _ by rw [(show (Pro.c m.q).toList.length = 35 from Pro.tl hr.q), Msg.c_size (putP_R (NF.R (ownB_R m)) hr.p)]; decide) (by rw [Pro.c_size _ hr.q]; kernel_rfl) (Pro.c_one _)) ?_
  clear eV39
  have h41 := kV39.bo h36 (by omega)
  have h42 := kV39.bo h37 (by omega)
  have K43 := K38.no kV39 (by omega)
  refine ⟨h41, ?_⟩
  refine an_end (by kernel_rfl) ?_
  refine blk_n ?_
  refine then_n ?_
  refine sy_sq (part_rmown 30) (part_rmown 31) ?_
  refine sy_reg ?_
  refine rg_plain 26 (opsAt (part_rmown 30)) [0, 1] (by kernel_rfl) (by kernel_rfl) ?_
  refine ps_p (o_rmown 30 0) (.agg (Msg.c (putQ (putP (NF.set ((ownB m)) m.pf .pf) m.p) m.q))) (exec_load_row 35 (.tmp 3) (by kernel_rfl) gx (by kernel_rfl) _ _ (0, 0) _ (h40) Try.underlying35 rfl (by rw [Msg.c_size (putQ_R (putP_R (NF.R (ownB_R m)) hr.p) hr.q)]; kernel_rfl)) ?_
  obtain ⟨V44, eV44, kV44⟩ := rowset_step V39 ga ((Msg.c (putQ (putP (NF.set ((ownB m)) m.pf .pf) m.p) m.q)))
  have h45 : V44.heap[ga]? = some (.cells (Msg.c (putQ (putP (NF.set ((ownB m)) m.pf .pf) m.p) m.q)) 35 (0, 0)) := eV44 ▸ setRow_heap _ _ _ _ _ _ h42
  refine ps_s (o_rmown 30 1) (w' := V44) (by rw [← eV44]; exact exec_store_row 35 (.tmp 2) (.tmp 96) (by kernel_rfl) ga ((Msg.c (putQ (putP (NF.set ((ownB m)) m.pf .pf) m.p) m.q))) (by kernel_rfl) (by kernel_rfl) 35 ((Msg.c msgZ)) h42 (by rw [Msg.c_size (putQ_R (putP_R (NF.R (ownB_R m)) hr.p) hr.q)]; kernel_rfl) (by rw [Msg.c_size (putQ_R (putP_R (NF.R (ownB_R m)) hr.p) hr.q)]; exact (Msg.c_size msgZ_R).symm) (Msg.c_one _)) ?_
  clear eV44
  have h46 := kV44.bo h41 (by omega)
  have h47 := kV44.bo h40 (by omega)
  have K48 := K43.no kV44 (by omega)
  refine ps_end ?_
  refine then_n ?_
  refine sy_ret (by kernel_rfl) ?_
  refine sy_out (.agg (Msg.c (putQ (putP (NF.set ((ownB m)) m.pf .pf) m.p) m.q))) rfl (results_cell_row (p := 2) (ty := 35) (by kernel_rfl) _ _ ga 35 (Msg.c (putQ (putP (NF.set ((ownB m)) m.pf .pf) m.p) m.q)) (0, 0) _ (by kernel_rfl) h45 Try.underlying35 rfl (by rw [Msg.c_size (putQ_R (putP_R (NF.R (ownB_R m)) hr.p) hr.q)]; kernel_rfl)) ?_
  exact ⟨by rw [show ownK m 8 = _ from if_pos hp]; rfl, K48⟩
set_option maxRecDepth 100000 in
set_option maxHeartbeats 4000000 in
theorem rmown_8f (m : Msg) (w : World) (hr : m.R) (hk : m.k = 8) (hp : ¬ m.pf = 3) :
    Calls Try.prog 55 #[.agg (Msg.c m)] w (fun e w' => e = .returned (.agg (Msg.c (ownK m 8))) ∧ Keeps Nob w w') := by
  have K0 : Keeps Nob w w := Keeps.refl _ _
  refine sy_enter (part_rmown 1) ⟨#[.agg (Msg.c m), undef, undef, undef, undef, undef, undef, undef, undef, undef, undef, undef, undef, undef, undef, undef, undef, undef, undef, undef, undef, undef, undef, undef, undef, undef, undef, undef, undef, undef, undef, undef, undef, undef, undef, undef, undef, undef, undef, undef, undef, undef, undef, undef, undef, undef, undef, undef, undef, undef, undef, undef, undef, undef, undef, undef, undef, undef, undef, undef, undef, undef, undef, undef, undef, undef, undef, undef, undef, undef, undef, undef, undef, undef, undef, undef, undef, undef, undef, undef, undef, undef, undef, undef, undef, undef, undef, undef, undef, undef, undef, undef, undef, undef, undef, undef, undef], []⟩ Try.func55 (by kernel_rfl) (by kernel_rfl) ?_
  refine sy_sq (part_rmown 2) (part_rmown 3) ?_
  refine sy_reg ?_
  refine rg_plain 0 (opsAt (part_rmown 2)) [0, 1] (by kernel_rfl) (by kernel_rfl) ?_
  obtain ⟨V1, eV1, gm, egm, h2, kV1⟩ := alloc_step w ((Msg.c m)) 35
  have n3 : w.heap.size ≤ gm := egm ▸ K0.size
  refine ps_r (o_rmown 2 0) (pT gm 0) (w' := V1) (by rw [← eV1, ← egm]; exact exec_box 35 (.tmp 0) (by kernel_rfl) (.agg (Msg.c m)) (by kernel_rfl)) ?_
  clear eV1
  have K4 := K0.nn kV1
  obtain ⟨V5, eV5, ga, ega, h6, kV5⟩ := alloc_step V1 ((Msg.c msgZ)) 35
  have n7 : gm < ga := ega ▸ lt_of_block h2
  have n8 : w.heap.size ≤ ga := ega ▸ K4.size
  refine ps_r (o_rmown 2 1) (pT ga 0) (w' := V5) (by rw [← eV5, ← ega]; exact exec_alloc0 35 (by kernel_rfl) (.agg ((Msg.c msgZ))) (by kernel_rfl)) ?_
  clear eV5
  have h9 := kV5.bk h2
  have K10 := K4.nn kV5
  refine ps_end ?_
  refine then_n ?_
  refine sy_sq (part_rmown 6) (part_rmown 7) ?_
  refine sy_reg ?_
  refine rg_plain 1 (opsAt (part_rmown 6)) [0, 1, 2, 3, 4, 5, 6] (by kernel_rfl) (by kernel_rfl) ?_
  refine ps_k (o_rmown 6 0) (pT gm 0) ?_
  refine ps_p (o_rmown 6 1) (.int .i64 m.k) (exec_ld 3 (.tmp 4) gm 0 Try.underlying3 (rc (h9) (Msg.get_n hr NF.k))) ?_
  refine ps_k (o_rmown 6 2) (pT gm 1) ?_
  refine ps_p (o_rmown 6 3) (.int .i64 m.f) (exec_ld 3 (.tmp 6) gm 1 Try.underlying3 (rc (h9) (Msg.get_n hr NF.f))) ?_
  refine ps_k (o_rmown 6 4) (.agg (Msg.c (ownB m))) ?_
  obtain ⟨V11, eV11, gx, egx, h12, kV11⟩ := alloc_step V5 ((Msg.c msgZ)) 35
  have n13 : gm < gx := egx ▸ lt_of_block h9
  have n14 : ga < gx := egx ▸ lt_of_block h6
  have n15 : w.heap.size ≤ gx := egx ▸ K10.size
  refine ps_r (o_rmown 6 5) (pT gx 0) (w' := V11) (by rw [← eV11, ← egx]; exact exec_alloc0 35 (by kernel_rfl) (.agg ((Msg.c msgZ))) (by kernel_rfl)) ?_
  clear eV11
  have h16 := kV11.bk h9
  have h17 := kV11.bk h6
  have K18 := K10.nn kV11
  obtain ⟨V19, eV19, kV19⟩ := rowset_step V11 gx ((Msg.c (ownB m)))
  have h20 : V19.heap[gx]? = some (.cells (Msg.c ((ownB m))) 35 (0, 0)) := eV19 ▸ setRow_heap _ _ _ _ _ _ h12
  refine ps_s (o_rmown 6 6) (w' := V19) (by rw [← eV19]; exact exec_store_row 35 (.tmp 3) (.tmp 8) (by kernel_rfl) gx ((Msg.c (ownB m))) (by kernel_rfl) (by kernel_rfl) 35 ((Msg.c msgZ)) h12 (by rw [Msg.c_size (ownB_R m)]; kernel_rfl) (by rw [Msg.c_size (ownB_R m)]; exact (Msg.c_size msgZ_R).symm) (Msg.c_one _)) ?_
  clear eV19
  have h21 := kV19.bo h16 (by omega)
  have h22 := kV19.bo h17 (by omega)
  have K23 := K18.no kV19 (by omega)
  refine ps_end ?_
  refine then_n ?_
  refine sy_sq (part_rmown 14) (part_rmown 15) ?_
  refine sy_sq (part_rmown 28) (part_rmown 29) ?_
  refine sy_reg ?_
  refine rg_plain 2 (opsAt (part_rmown 28)) [0, 1] (by kernel_rfl) (by kernel_rfl) ?_
  refine ps_k (o_rmown 28 0) (pT gm 0) ?_
  refine ps_p (o_rmown 28 1) (.int .i64 m.k) (exec_ld 3 (.tmp 9) gm 0 Try.underlying3 (rc (h21) (Msg.get_n hr NF.k))) ?_
  refine ps_end ?_
  refine then_n ?_
  refine sy_bk 0 (part_rmown 58) ?_
  refine sy_sq (part_rmown 116) (part_rmown 117) ?_
  refine sy_reg ?_
  refine rg_plain 3 (opsAt (part_rmown 116)) [0, 1] (by kernel_rfl) (by kernel_rfl) ?_
  refine ps_p (o_rmown 116 0) (.bool false) (eqf ((m.k) : Int) ((1) : Int) (by omega)) ?_
  refine ps_k (o_rmown 116 1) (.bool false) ?_
  refine ps_end ?_
  refine then_n ?_
  refine sy_n (.tmp 11) (part_rmown 234) (part_rmown 235) ?_
  refine sy_sq (part_rmown 470) (part_rmown 471) ?_
  refine sy_reg ?_
  refine rg_plain 5 (opsAt (part_rmown 470)) [0, 1] (by kernel_rfl) (by kernel_rfl) ?_
  refine ps_p (o_rmown 470 0) (.bool false) (eqf ((m.k) : Int) ((2) : Int) (by omega)) ?_
  refine ps_k (o_rmown 470 1) (.bool false) ?_
  refine ps_end ?_
  refine then_n ?_
  refine sy_n (.tmp 19) (part_rmown 942) (part_rmown 943) ?_
  refine sy_sq (part_rmown 1886) (part_rmown 1887) ?_
  refine sy_reg ?_
  refine rg_plain 7 (opsAt (part_rmown 1886)) [0, 1] (by kernel_rfl) (by kernel_rfl) ?_
  refine ps_p (o_rmown 1886 0) (.bool false) (eqf ((m.k) : Int) ((3) : Int) (by omega)) ?_
  refine ps_k (o_rmown 1886 1) (.bool false) ?_
  refine ps_end ?_
  refine then_n ?_
  refine sy_n (.tmp 27) (part_rmown 3774) (part_rmown 3775) ?_
  refine sy_sq (part_rmown 7550) (part_rmown 7551) ?_
  refine sy_reg ?_
  refine rg_plain 9 (opsAt (part_rmown 7550)) [0, 1] (by kernel_rfl) (by kernel_rfl) ?_
  refine ps_p (o_rmown 7550 0) (.bool false) (eqf ((m.k) : Int) ((4) : Int) (by omega)) ?_
  refine ps_k (o_rmown 7550 1) (.bool false) ?_
  refine ps_end ?_
  refine then_n ?_
  refine sy_n (.tmp 35) (part_rmown 15102) (part_rmown 15103) ?_
  refine sy_sq (part_rmown 30206) (part_rmown 30207) ?_
  refine sy_reg ?_
  refine rg_plain 11 (opsAt (part_rmown 30206)) [0, 1] (by kernel_rfl) (by kernel_rfl) ?_
  refine ps_p (o_rmown 30206 0) (.bool false) (eqf ((m.k) : Int) ((5) : Int) (by omega)) ?_
  refine ps_k (o_rmown 30206 1) (.bool false) ?_
  refine ps_end ?_
  refine then_n ?_
  refine sy_n (.tmp 43) (part_rmown 60414) (part_rmown 60415) ?_
  refine sy_sq (part_rmown 120830) (part_rmown 120831) ?_
  refine sy_reg ?_
  refine rg_plain 13 (opsAt (part_rmown 120830)) [0, 1] (by kernel_rfl) (by kernel_rfl) ?_
  refine ps_p (o_rmown 120830 0) (.bool false) (eqf ((m.k) : Int) ((6) : Int) (by omega)) ?_
  refine ps_k (o_rmown 120830 1) (.bool false) ?_
  refine ps_end ?_
  refine then_n ?_
  refine sy_n (.tmp 54) (part_rmown 241662) (part_rmown 241663) ?_
  refine sy_sq (part_rmown 483326) (part_rmown 483327) ?_
  refine sy_reg ?_
  refine rg_plain 15 (opsAt (part_rmown 483326)) [0, 1] (by kernel_rfl) (by kernel_rfl) ?_
  refine ps_p (o_rmown 483326 0) (.bool false) (eqf ((m.k) : Int) ((7) : Int) (by omega)) ?_
  refine ps_k (o_rmown 483326 1) (.bool false) ?_
  refine ps_end ?_
  refine sy_a ⟨#[.agg (Msg.c m), pT gm 0, pT ga 0, pT gx 0, pT gm 0, .int .i64 m.k, pT gm 1, .int .i64 m.f, .agg (Msg.c (ownB m)), pT gm 0, .int .i64 m.k, .bool false, .bool false, undef, undef, undef, undef, undef, undef, .bool false, .bool false, undef, undef, undef, undef, undef, undef, .bool false, .bool false, undef, undef, undef, undef, undef, undef, .bool false, .bool false, undef, undef, undef, undef, undef, undef, .bool false, .bool false, undef, undef, undef, undef, undef, undef, undef, undef, undef, .bool false, .bool false, undef, undef, undef, .bool false, .bool false, undef, undef, undef, undef, undef, undef, undef, undef, undef, undef, undef, undef, undef, undef, undef, undef, undef, undef, undef, undef, undef, undef, undef, undef, undef, undef, undef, undef, undef, undef, undef, undef, undef, undef, undef, undef], []⟩ ?_
  refine then_n ?_
  refine sy_n (.tmp 59) (part_rmown 966654) (part_rmown 966655) ?_
  refine sy_sq (part_rmown 1933310) (part_rmown 1933311) ?_
  refine sy_reg ?_
  refine rg_plain 17 (opsAt (part_rmown 1933310)) [0, 1] (by kernel_rfl) (by kernel_rfl) ?_
  refine ps_p (o_rmown 1933310 0) (.bool true) (eqt ((m.k) : Int) ((8) : Int) (by omega)) ?_
  refine ps_k (o_rmown 1933310 1) (.bool true) ?_
  refine ps_end ?_
  refine then_n ?_
  refine sy_ys (.tmp 64) (part_rmown 3866622) (part_rmown 3866623) ?_
  refine sy_sq (part_rmown 7733244) (part_rmown 7733245) ?_
  refine sy_reg ?_
  refine rg_plain 18 (opsAt (part_rmown 7733244)) [0, 1, 2, 3] (by kernel_rfl) (by kernel_rfl) ?_
  refine ps_k (o_rmown 7733244 0) (pT gm 11) ?_
  refine ps_p (o_rmown 7733244 1) (.int .i64 m.pf) (exec_ld 3 (.tmp 66) gm 11 Try.underlying3 (rc (h21) (Msg.get_n hr NF.pf))) ?_
  refine ps_k (o_rmown 7733244 2) (pT gx 11) ?_
  obtain ⟨V24, eV24, kV24⟩ := cell_step V19 gx 11 (.int .i64 m.pf)
  have h25 : V24.heap[gx]? = some (.cells (Msg.c (NF.set ((ownB m)) m.pf .pf)) 35 (0, 0)) := eV24 ▸ ((heap_setCell_same _ gx 11 _ _ (.int .i64 m.pf) h20).trans (congrArg (fun c => some (Obj.cells c 35 (0, 0))) (show (Msg.c ((ownB m)) : Array Value).setIfInBounds 11 (.int .i64 m.pf) = Msg.c (NF.set ((ownB m)) m.pf .pf) from Msg.set_n (ownB_R m) NF.pf _)))
  refine ps_s (o_rmown 7733244 3) (w' := V24) (by rw [← eV24]; exact exec_store_cell 3 (.tmp 68) (.tmp 67) (by kernel_rfl) gx 11 (by kernel_rfl) (.int .i64 m.pf) (by kernel_rfl) (by kernel_rfl) (by kernel_rfl) (.int .i64 (((ownB m)).pf)) (rc (h20) (Msg.get_n (ownB_R m) NF.pf)) (frozen_of_row _ _ _ _ _ h20) (by kernel_rfl)) ?_
  clear eV24
  have h26 := kV24.bo h21 (by omega)
  have h27 := kV24.bo h22 (by omega)
  have K28 := K23.no kV24 (by omega)
  refine ps_end ?_
  refine then_n ?_
  refine sy_sq (part_rmown 15466490) (part_rmown 15466491) ?_
  refine sy_reg ?_
  refine rg_plain 19 (opsAt (part_rmown 15466490)) [0, 1, 2] (by kernel_rfl) (by kernel_rfl) ?_
  refine ps_k (o_rmown 15466490 0) (pT gm 11) ?_
  refine ps_p (o_rmown 15466490 1) (.int .i64 m.pf) (exec_ld 3 (.tmp 69) gm 11 Try.underlying3 (rc (h26) (Msg.get_n hr NF.pf))) ?_
  refine ps_p (o_rmown 15466490 2) (.bool false) (eqf ((m.pf) : Int) ((3) : Int) (by omega)) ?_
  refine ps_end ?_
  refine then_n ?_
  refine sy_n (.tmp 71) (part_rmown 30932982) (part_rmown 30932983) ?_
  refine sy_np ?_
  refine sy_reg ?_
  refine an_begin 21 8 (opsAt (part_rmown 30932983)) (fun W => (W.heap[gm]? = some (.cells (Msg.c m) 35 (0, 0)))) #[false, false, false, false, false, false, false, false] (by kernel_rfl) (by kernel_rfl) (by kernel_rfl) (by kernel_rfl) ?_
  obtain ⟨V29, eV29, kV29⟩ := drew_step V24
  rw [eV29]
  clear eV29
  have h30 := kV29.bk h26
  have h31 := kV29.bk h27
  have h32 := kV29.bk h25
  have K33 := K28.nn kV29
  refine an_k 0 (o_rmown 30932983 0) (pT gm 12) h30 ?_
  refine an_v 1 (o_rmown 30932983 1) (.agg (Att.c m.a)) (fun W hS => exec_load_seg 31 (.tmp 78) (by kernel_rfl) gm 12 (by kernel_rfl) (Att.c m.a).toList _ _ _ hS (Msg.seg_A hr) Try.underlying31 rfl (by rw [Att.tl hr.a]; kernel_rfl)) h30 ?_
  refine an_k 2 (o_rmown 30932983 2) (pT gm 48) h30 ?_
  refine an_v 3 (o_rmown 30932983 3) (.agg (Att.c m.b)) (fun W hS => exec_load_seg 31 (.tmp 80) (by kernel_rfl) gm 48 (by kernel_rfl) (Att.c m.b).toList _ _ _ hS (Msg.seg_B hr) Try.underlying31 rfl (by rw [Att.tl hr.b]; kernel_rfl)) h30 ?_
  refine an_k 4 (o_rmown 30932983 4) (pT gx 12) h30 ?_
  refine an_o 5 ?_
  obtain ⟨V34, eV34⟩ : ∃ V, V29.setCells gx 12 (Att.c m.a).toList = V := ⟨_, rfl⟩
  have kV34 : Keeps (One gx) V29 V34 := eV34 ▸ Keeps.setCells _ _ _ _
  have h35 : V34.heap[gx]? = some (.cells (Msg.c (putA (NF.set ((ownB m)) m.pf .pf) m.a)) 35 (0, 0)) := eV34 ▸ (heap_setCells gx _ _ 12 _ _ h32 (show 12 + (Att.c m.a).toList.length ≤ _ by rw [(show (Att.c m.a).toList.length = 36 from Att.tl hr.a), Msg.c_size (NF.R (ownB_R m))]; decide)).trans (congrArg (fun c => some (Obj.cells c 35 (0, 0))) (Msg.set_A (NF.R (ownB_R m)) _ hr.a))
  refine on_s (o_rmown 30932983 5) (w' := V34) (by rw [← eV34]; exact exec_store_mid 31 (.tmp 82) (.tmp 79) (by kernel_rfl) gx 12 (by kernel_rfl) (Att.c m.a) (by kernel_rfl) _ _ h32 (show 12 + (Att.c m.a).toList.length ≤ _ by rw [(show (Att.c m.a).toList.length = 36 from Att.tl hr.a), Msg.c_size (NF.R (ownB_R m))]; decide) (by rw [Att.c_size _ hr.a]; kernel_rfl) (Att.c_one _)) ?_
  clear eV34
  have h36 := kV34.bo h30 (by omega)
  have h37 := kV34.bo h31 (by omega)
  have K38 := K33.no kV34 (by omega)
  refine ⟨h36, ?_⟩
  refine an_k 6 (o_rmown 30932983 6) (pT gx 48) h36 ?_
  refine an_o 7 ?_
  obtain ⟨V39, eV39⟩ : ∃ V, V34.setCells gx 48 (Att.c m.b).toList = V := ⟨_, rfl⟩
  have kV39 : Keeps (One gx) V34 V39 := eV39 ▸ Keeps.setCells _ _ _ _
  have h40 : V39.heap[gx]? = some (.cells (Msg.c (putB (putA (NF.set ((ownB m)) m.pf .pf) m.a) m.b)) 35 (0, 0)) := eV39 ▸ (heap_setCells gx _ _ 48 _ _ h35 (show 48 + (Att.c m.b).toList.length ≤ _ by rw [(show (Att.c m.b).toList.length = 36 from Att.tl hr.b), Msg.c_size (putA_R (NF.R (ownB_R m)) hr.a)]; decide)).trans (congrArg (fun c => some (Obj.cells c 35 (0, 0))) (Msg.set_B (putA_R (NF.R (ownB_R m)) hr.a) _ hr.b))
  refine on_s (o_rmown 30932983 7) (w' := V39) (by rw [← eV39]; exact exec_store_mid 31 (.tmp 83) (.tmp 81) (by kernel_rfl) gx 48 (by kernel_rfl) (Att.c m.b) (by kernel_rfl) _ _ h35 (show 48 + (Att.c m.b).toList.length ≤ _ by rw [(show (Att.c m.b).toList.length = 36 from Att.tl hr.b), Msg.c_size (putA_R (NF.R (ownB_R m)) hr.a)]; decide) (by rw [Att.c_size _ hr.b]; kernel_rfl) (Att.c_one _)) ?_
  clear eV39
  have h41 := kV39.bo h36 (by omega)
  have h42 := kV39.bo h37 (by omega)
  have K43 := K38.no kV39 (by omega)
  refine ⟨h41, ?_⟩
  refine an_end (by kernel_rfl) ?_
  refine blk_n ?_
  refine then_n ?_
  refine sy_sq (part_rmown 30) (part_rmown 31) ?_
  refine sy_reg ?_
  refine rg_plain 26 (opsAt (part_rmown 30)) [0, 1] (by kernel_rfl) (by kernel_rfl) ?_
  refine ps_p (o_rmown 30 0) (.agg (Msg.c (putB (putA (NF.set ((ownB m)) m.pf .pf) m.a) m.b))) (exec_load_row 35 (.tmp 3) (by kernel_rfl) gx (by kernel_rfl) _ _ (0, 0) _ (h40) Try.underlying35 rfl (by rw [Msg.c_size (putB_R (putA_R (NF.R (ownB_R m)) hr.a) hr.b)]; kernel_rfl)) ?_
  obtain ⟨V44, eV44, kV44⟩ := rowset_step V39 ga ((Msg.c (putB (putA (NF.set ((ownB m)) m.pf .pf) m.a) m.b)))
  have h45 : V44.heap[ga]? = some (.cells (Msg.c (putB (putA (NF.set ((ownB m)) m.pf .pf) m.a) m.b)) 35 (0, 0)) := eV44 ▸ setRow_heap _ _ _ _ _ _ h42
  refine ps_s (o_rmown 30 1) (w' := V44) (by rw [← eV44]; exact exec_store_row 35 (.tmp 2) (.tmp 96) (by kernel_rfl) ga ((Msg.c (putB (putA (NF.set ((ownB m)) m.pf .pf) m.a) m.b))) (by kernel_rfl) (by kernel_rfl) 35 ((Msg.c msgZ)) h42 (by rw [Msg.c_size (putB_R (putA_R (NF.R (ownB_R m)) hr.a) hr.b)]; kernel_rfl) (by rw [Msg.c_size (putB_R (putA_R (NF.R (ownB_R m)) hr.a) hr.b)]; exact (Msg.c_size msgZ_R).symm) (Msg.c_one _)) ?_
  clear eV44
  have h46 := kV44.bo h41 (by omega)
  have h47 := kV44.bo h40 (by omega)
  have K48 := K43.no kV44 (by omega)
  refine ps_end ?_
  refine then_n ?_
  refine sy_ret (by kernel_rfl) ?_
  refine sy_out (.agg (Msg.c (putB (putA (NF.set ((ownB m)) m.pf .pf) m.a) m.b))) rfl (results_cell_row (p := 2) (ty := 35) (by kernel_rfl) _ _ ga 35 (Msg.c (putB (putA (NF.set ((ownB m)) m.pf .pf) m.a) m.b)) (0, 0) _ (by kernel_rfl) h45 Try.underlying35 rfl (by rw [Msg.c_size (putB_R (putA_R (NF.R (ownB_R m)) hr.a) hr.b)]; kernel_rfl)) ?_
  exact ⟨by rw [show ownK m 8 = _ from if_neg hp]; rfl, K48⟩
theorem ownK_R {m : Msg} (hr : m.R) (k : Nat) : (ownK m k).R := by
  unfold ownK
  split <;> try (split)
  all_goals exact ⟨by first | exact hr.a | rfl, by first | exact hr.b | rfl, by first | exact hr.p | rfl, by first | exact hr.q | rfl⟩
theorem rmown_ok (m : Msg) (w : World) (hr : m.R) (h1 : 1 ≤ m.k) (h2 : m.k ≤ 11) : Calls Try.prog 55 #[.agg (Msg.c m)] w (fun e w' => e = .returned (.agg (Msg.c (ownK m m.k.toNat))) ∧ Keeps Nob w w') := by
  rcases (show m.k = 1 ∨ m.k = 2 ∨ m.k = 3 ∨ m.k = 4 ∨ m.k = 5 ∨ m.k = 6 ∨ m.k = 7 ∨ m.k = 8 ∨ m.k = 9 ∨ m.k = 10 ∨ m.k = 11 by omega) with h | h | h | h | h | h | h | h | h | h | h
  · rw [h]; exact rmown_1 m w hr h
  · rw [h]; exact rmown_2 m w hr h
  · rw [h]; exact rmown_3 m w hr h
  · rw [h]; exact rmown_4 m w hr h
  · rw [h]; exact rmown_5 m w hr h
  · rw [h]; exact rmown_6 m w hr h
  · rw [h]; exact rmown_7 m w hr h
  · rw [h]
    by_cases hp : m.pf = 3
    · exact rmown_8t m w hr h hp
    · exact rmown_8f m w hr h hp
  · rw [h]; exact rmown_9 m w hr h
  · rw [h]; exact rmown_10 m w hr h
  · rw [h]; exact rmown_11 m w hr h
theorem own_clr (m : Msg) (hf : m.form) : (ownK m m.k.toNat = m) ↔ (clrAll m = onlyK m.k) := by
  have hk := hf.1
  obtain ⟨k, f, vl, t, am, mn, sv, ss, sp, sf, n, pf, a, b, p, q⟩ := m
  obtain ⟨av, as_, at_, ar, ag⟩ := a
  obtain ⟨bv, bs, bt, br, bg⟩ := b
  obtain ⟨pv, ph, pr, pg⟩ := p
  obtain ⟨qv, qh, qr, qg⟩ := q
  simp only at hk
  rcases (show k = 1 ∨ k = 2 ∨ k = 3 ∨ k = 4 ∨ k = 5 ∨ k = 6 ∨ k = 7 ∨ k = 8 ∨ k = 9 ∨ k = 10 ∨ k = 11 by omega) with rfl | rfl | rfl | rfl | rfl | rfl | rfl | rfl | rfl | rfl | rfl
  · show (ownK _ 1 = _) ↔ _
    unfold clrAll; rw [Msg.itemsk (k := 1) rfl (by decide)]
    simp [ownK, ownB, onlyK, msgZ, kM, lotM, voteM, blockM, clrIt, NF.set, AF.set, HF.set, eq_comm, and_assoc]
  · show (ownK _ 2 = _) ↔ _
    unfold clrAll; rw [Msg.itemsk (k := 2) rfl (by decide)]
    simp [ownK, ownB, onlyK, msgZ, kM, lotM, voteM, blockM, clrIt, NF.set, AF.set, HF.set, eq_comm, and_assoc]
  · show (ownK _ 3 = _) ↔ _
    unfold clrAll; rw [Msg.itemsk (k := 3) rfl (by decide)]
    simp [ownK, ownB, onlyK, msgZ, kM, lotM, voteM, blockM, clrIt, NF.set, AF.set, HF.set, eq_comm, and_assoc]
  · show (ownK _ 4 = _) ↔ _
    unfold clrAll; rw [Msg.itemsk (k := 4) rfl (by decide)]
    simp [ownK, ownB, onlyK, msgZ, kM, lotM, voteM, blockM, clrIt, NF.set, AF.set, HF.set, eq_comm, and_assoc]
  · show (ownK _ 5 = _) ↔ _
    unfold clrAll; rw [Msg.itemsk (k := 5) rfl (by decide)]
    simp [ownK, ownB, onlyK, msgZ, kM, lotM, voteM, blockM, clrIt, NF.set, AF.set, HF.set, eq_comm, and_assoc]
  · show (ownK _ 6 = _) ↔ _
    unfold clrAll; rw [Msg.itemsk (k := 6) rfl (by decide)]
    simp [ownK, ownB, onlyK, msgZ, kM, lotM, voteM, blockM, clrIt, NF.set, AF.set, HF.set, eq_comm, and_assoc]
  · show (ownK _ 7 = _) ↔ _
    unfold clrAll; rw [Msg.itemsk (k := 7) rfl (by decide)]
    simp [ownK, ownB, onlyK, msgZ, kM, lotM, voteM, blockM, clrIt, NF.set, AF.set, HF.set, eq_comm, and_assoc]
  · by_cases hp : pf = 3
    · subst hp
      show (ownK _ 8 = _) ↔ _
      unfold clrAll; rw [Msg.items8 rfl]
      simp only [ownK, if_pos, evM]
      simp [ownB, onlyK, msgZ, blockM, clrIt, NF.set, AF.set, HF.set, eq_comm, and_assoc]
    · show (ownK _ 8 = _) ↔ _
      unfold clrAll; rw [Msg.items8 rfl]
      simp only [ownK, if_neg hp, evM]
      simp [ownB, onlyK, msgZ, voteM, clrIt, NF.set, AF.set, HF.set, eq_comm, and_assoc]
  · show (ownK _ 9 = _) ↔ _
    unfold clrAll; rw [Msg.itemsk (k := 9) rfl (by decide)]
    simp [ownK, ownB, onlyK, msgZ, kM, lotM, voteM, blockM, clrIt, NF.set, AF.set, HF.set, eq_comm, and_assoc]
  · show (ownK _ 10 = _) ↔ _
    unfold clrAll; rw [Msg.itemsk (k := 10) rfl (by decide)]
    simp [ownK, ownB, onlyK, msgZ, kM, lotM, voteM, blockM, clrIt, NF.set, AF.set, HF.set, eq_comm, and_assoc]
  · show (ownK _ 11 = _) ↔ _
    unfold clrAll; rw [Msg.itemsk (k := 11) rfl (by decide)]
    simp [ownK, ownB, onlyK, msgZ, kM, lotM, voteM, blockM, clrIt, NF.set, AF.set, HF.set, eq_comm, and_assoc]
noncomputable def part_rmCheck (n : Nat) : Code := partOf Try.f18 n
noncomputable abbrev o_rmCheck (n k : Nat) : Oper := (opsAt (part_rmCheck n)).getD k default
set_option maxRecDepth 100000 in
set_option maxHeartbeats 4000000 in
theorem rmCheck_f1 (m : Msg) (w : World) (hr : m.R) (hk : ¬ (1 ≤ m.k ∧ m.k ≤ 11)) :
    Calls Try.prog 18 #[.agg (Msg.c m)] w (fun e w' => e = .returned (.int .i64 5) ∧ Keeps Nob w w') := by
  have K0 : Keeps Nob w w := Keeps.refl _ _
  refine sy_enter (part_rmCheck 1) ⟨#[.agg (Msg.c m), undef, undef, undef, undef, undef, undef, undef, undef, undef, undef, undef, undef, undef, undef, undef, undef, undef, undef, undef, undef, undef, undef, undef, undef, undef, undef, undef], []⟩ Try.func18 (by kernel_rfl) (by kernel_rfl) ?_
  refine sy_sq (part_rmCheck 2) (part_rmCheck 3) ?_
  refine sy_reg ?_
  refine rg_plain 0 (opsAt (part_rmCheck 2)) [0, 1] (by kernel_rfl) (by kernel_rfl) ?_
  obtain ⟨V1, eV1, gm, egm, h2, kV1⟩ := alloc_step w ((Msg.c m)) 35
  have n3 : w.heap.size ≤ gm := egm ▸ K0.size
  refine ps_r (o_rmCheck 2 0) (pT gm 0) (w' := V1) (by rw [← eV1, ← egm]; exact exec_box 35 (.tmp 0) (by kernel_rfl) (.agg (Msg.c m)) (by kernel_rfl)) ?_
  clear eV1
  have K4 := K0.nn kV1
  refine ps_k (o_rmCheck 2 1) (.int .i64 0) ?_
  refine ps_end ?_
  refine then_n ?_
  refine sy_sq (part_rmCheck 6) (part_rmCheck 7) ?_
  refine sy_bk 0 (part_rmCheck 12) ?_
  refine sy_sq (part_rmCheck 24) (part_rmCheck 25) ?_
  refine sy_reg ?_
  refine rg_plain 1 (opsAt (part_rmCheck 24)) [0, 1, 2, 3, 4, 5, 6, 7, 8, 9, 10, 11, 12, 13, 14, 15] (by kernel_rfl) (by kernel_rfl) ?_
  refine ps_k (o_rmCheck 24 0) (pT gm 0) ?_
  refine ps_p (o_rmCheck 24 1) (.int .i64 m.k) (exec_ld 3 (.tmp 4) gm 0 Try.underlying3 (rc (h2) (Msg.get_n hr NF.k))) ?_
  refine ps_c (o_rmCheck 24 2) 53 #[.int .i64 m.k, .int .i64 1, .int .i64 11] Try.func53 ((rmwithin_is _ _ _ _ (decide_eq_false hk)).mono ?_)
  rintro e w1 ⟨rfl, rfl⟩
  refine ⟨_, rfl, ?_⟩
  refine ps_k (o_rmCheck 24 3) (.bool true) ?_
  refine ps_k (o_rmCheck 24 4) (.bool true) ?_
  refine ps_n (o_rmCheck 24 5) ?_
  refine ps_n (o_rmCheck 24 6) ?_
  refine ps_n (o_rmCheck 24 7) ?_
  refine ps_n (o_rmCheck 24 8) ?_
  refine ps_n (o_rmCheck 24 9) ?_
  refine ps_n (o_rmCheck 24 10) ?_
  refine ps_n (o_rmCheck 24 11) ?_
  refine ps_n (o_rmCheck 24 12) ?_
  refine ps_n (o_rmCheck 24 13) ?_
  refine ps_k (o_rmCheck 24 14) (.bool true) ?_
  refine ps_k (o_rmCheck 24 15) (.bool true) ?_
  refine ps_end ?_
  refine then_n ?_
  refine sy_ys (.tmp 3) (part_rmCheck 50) (part_rmCheck 51) ?_
  refine sy_sq (part_rmCheck 100) (part_rmCheck 101) ?_
  refine sy_reg ?_
  refine rg_plain 2 (opsAt (part_rmCheck 100)) [0] (by kernel_rfl) (by kernel_rfl) ?_
  refine ps_k (o_rmCheck 100 0) (.int .i64 5) ?_
  refine ps_end ?_
  refine then_n ?_
  refine sy_ret (by kernel_rfl) ?_
  refine blk_r ?_
  refine then_r ?_
  refine sy_out (.int .i64 5) rfl (by kernel_rfl) ?_
  exact ⟨rfl, K4⟩
set_option maxRecDepth 100000 in
set_option maxHeartbeats 4000000 in
theorem rmCheck_f2 (m : Msg) (w : World) (hr : m.R) (hk : 1 ≤ m.k ∧ m.k ≤ 11) (h8 : m.k = 8) (hp : ¬ (1 ≤ m.pf ∧ m.pf ≤ 3)) :
    Calls Try.prog 18 #[.agg (Msg.c m)] w (fun e w' => e = .returned (.int .i64 5) ∧ Keeps Nob w w') := by
  have K0 : Keeps Nob w w := Keeps.refl _ _
  refine sy_enter (part_rmCheck 1) ⟨#[.agg (Msg.c m), undef, undef, undef, undef, undef, undef, undef, undef, undef, undef, undef, undef, undef, undef, undef, undef, undef, undef, undef, undef, undef, undef, undef, undef, undef, undef, undef], []⟩ Try.func18 (by kernel_rfl) (by kernel_rfl) ?_
  refine sy_sq (part_rmCheck 2) (part_rmCheck 3) ?_
  refine sy_reg ?_
  refine rg_plain 0 (opsAt (part_rmCheck 2)) [0, 1] (by kernel_rfl) (by kernel_rfl) ?_
  obtain ⟨V1, eV1, gm, egm, h2, kV1⟩ := alloc_step w ((Msg.c m)) 35
  have n3 : w.heap.size ≤ gm := egm ▸ K0.size
  refine ps_r (o_rmCheck 2 0) (pT gm 0) (w' := V1) (by rw [← eV1, ← egm]; exact exec_box 35 (.tmp 0) (by kernel_rfl) (.agg (Msg.c m)) (by kernel_rfl)) ?_
  clear eV1
  have K4 := K0.nn kV1
  refine ps_k (o_rmCheck 2 1) (.int .i64 0) ?_
  refine ps_end ?_
  refine then_n ?_
  refine sy_sq (part_rmCheck 6) (part_rmCheck 7) ?_
  refine sy_bk 0 (part_rmCheck 12) ?_
  refine sy_sq (part_rmCheck 24) (part_rmCheck 25) ?_
  refine sy_reg ?_
  refine rg_plain 1 (opsAt (part_rmCheck 24)) [0, 1, 2, 3, 4, 5, 6, 7, 8, 9, 10, 11, 12, 13, 14, 15] (by kernel_rfl) (by kernel_rfl) ?_
  refine ps_k (o_rmCheck 24 0) (pT gm 0) ?_
  refine ps_p (o_rmCheck 24 1) (.int .i64 m.k) (exec_ld 3 (.tmp 4) gm 0 Try.underlying3 (rc (h2) (Msg.get_n hr NF.k))) ?_
  refine ps_c (o_rmCheck 24 2) 53 #[.int .i64 m.k, .int .i64 1, .int .i64 11] Try.func53 ((rmwithin_is _ _ _ _ (decide_eq_true hk)).mono ?_)
  rintro e w1 ⟨rfl, rfl⟩
  refine ⟨_, rfl, ?_⟩
  refine ps_k (o_rmCheck 24 3) (.bool false) ?_
  refine ps_k (o_rmCheck 24 4) (.bool false) ?_
  refine ps_k (o_rmCheck 24 5) (pT gm 0) ?_
  refine ps_p (o_rmCheck 24 6) (.int .i64 m.k) (exec_ld 3 (.tmp 9) gm 0 Try.underlying3 (rc (h2) (Msg.get_n hr NF.k))) ?_
  refine ps_p (o_rmCheck 24 7) (.bool true) (eqt ((m.k) : Int) ((8) : Int) (by omega)) ?_
  refine ps_k (o_rmCheck 24 8) (.bool true) ?_
  refine ps_k (o_rmCheck 24 9) (pT gm 11) ?_
  refine ps_p (o_rmCheck 24 10) (.int .i64 m.pf) (exec_ld 3 (.tmp 13) gm 11 Try.underlying3 (rc (h2) (Msg.get_n hr NF.pf))) ?_
  refine ps_c (o_rmCheck 24 11) 53 #[.int .i64 m.pf, .int .i64 1, .int .i64 3] Try.func53 ((rmwithin_is _ _ _ _ (decide_eq_false hp)).mono ?_)
  rintro e w1 ⟨rfl, rfl⟩
  refine ⟨_, rfl, ?_⟩
  refine ps_k (o_rmCheck 24 12) (.bool true) ?_
  refine ps_k (o_rmCheck 24 13) (.bool true) ?_
  refine ps_k (o_rmCheck 24 14) (.bool true) ?_
  refine ps_k (o_rmCheck 24 15) (.bool true) ?_
  refine ps_end ?_
  refine then_n ?_
  refine sy_ys (.tmp 3) (part_rmCheck 50) (part_rmCheck 51) ?_
  refine sy_sq (part_rmCheck 100) (part_rmCheck 101) ?_
  refine sy_reg ?_
  refine rg_plain 2 (opsAt (part_rmCheck 100)) [0] (by kernel_rfl) (by kernel_rfl) ?_
  refine ps_k (o_rmCheck 100 0) (.int .i64 5) ?_
  refine ps_end ?_
  refine then_n ?_
  refine sy_ret (by kernel_rfl) ?_
  refine blk_r ?_
  refine then_r ?_
  refine sy_out (.int .i64 5) rfl (by kernel_rfl) ?_
  exact ⟨rfl, K4⟩
set_option maxRecDepth 100000 in
set_option maxHeartbeats 4000000 in
theorem rmCheck_range (m : Msg) (w : World) (hr : m.R) (hf : m.form) (hn : m.items.all (chkIt m) = false) :
    Calls Try.prog 18 #[.agg (Msg.c m)] w (fun e w' => e = .returned (.int .i64 3) ∧ Keeps Nob w w') := by
  have hk := hf.1
  have K0 : Keeps Nob w w := Keeps.refl _ _
  refine sy_enter (part_rmCheck 1) ⟨#[.agg (Msg.c m), undef, undef, undef, undef, undef, undef, undef, undef, undef, undef, undef, undef, undef, undef, undef, undef, undef, undef, undef, undef, undef, undef, undef, undef, undef, undef, undef], []⟩ Try.func18 (by kernel_rfl) (by kernel_rfl) ?_
  refine sy_sq (part_rmCheck 2) (part_rmCheck 3) ?_
  refine sy_reg ?_
  refine rg_plain 0 (opsAt (part_rmCheck 2)) [0, 1] (by kernel_rfl) (by kernel_rfl) ?_
  obtain ⟨V1, eV1, gm, egm, h2, kV1⟩ := alloc_step w ((Msg.c m)) 35
  have n3 : w.heap.size ≤ gm := egm ▸ K0.size
  refine ps_r (o_rmCheck 2 0) (pT gm 0) (w' := V1) (by rw [← eV1, ← egm]; exact exec_box 35 (.tmp 0) (by kernel_rfl) (.agg (Msg.c m)) (by kernel_rfl)) ?_
  clear eV1
  have K4 := K0.nn kV1
  refine ps_k (o_rmCheck 2 1) (.int .i64 0) ?_
  refine ps_end ?_
  refine then_n ?_
  refine sy_sq (part_rmCheck 6) (part_rmCheck 7) ?_
  refine sy_bk 0 (part_rmCheck 12) ?_
  refine sy_sq (part_rmCheck 24) (part_rmCheck 25) ?_
  refine sy_cut (fun aQ VQ => ∃ (u1_4 u1_5 u1_9 u1_10 u1_11 u1_12 u1_13 u1_14 u1_15 u1_16 : Value), (aQ = ⟨#[.agg (Msg.c m), .pointer (some ⟨gm, 0, none⟩), .int .i64 0, .bool false, u1_4, u1_5, .bool true, .bool false, .bool false, u1_9, u1_10, u1_11, u1_12, u1_13, u1_14, u1_15, u1_16, .bool false, .bool false, undef, undef, undef, undef, undef, undef, undef, undef, undef], []⟩) ∧ (VQ.heap[gm]? = some (.cells (Msg.c m) 35 (0, 0))) ∧ (V1.heap.size ≤ VQ.heap.size) ∧ (Keeps Nob w VQ)) ?_ ?_
  · rcases (show m.k ≠ 8 ∨ (m.k = 8 ∧ (1 ≤ m.pf ∧ m.pf ≤ 3)) by have := hf.2; omega) with h8 | ⟨h8, hp⟩
    · skip
      refine sy_reg ?_
      refine rg_plain 1 (opsAt (part_rmCheck 24)) [0, 1, 2, 3, 4, 5, 6, 7, 8, 9, 10, 11, 12, 13, 14, 15] (by kernel_rfl) (by kernel_rfl) ?_
      refine ps_k (o_rmCheck 24 0) (pT gm 0) ?_
      refine ps_p (o_rmCheck 24 1) (.int .i64 m.k) (exec_ld 3 (.tmp 4) gm 0 Try.underlying3 (rc (h2) (Msg.get_n hr NF.k))) ?_
      refine ps_c (o_rmCheck 24 2) 53 #[.int .i64 m.k, .int .i64 1, .int .i64 11] Try.func53 ((rmwithin_is _ _ _ _ (decide_eq_true hk)).mono ?_)
      rintro e w1 ⟨rfl, rfl⟩
      refine ⟨_, rfl, ?_⟩
      refine ps_k (o_rmCheck 24 3) (.bool false) ?_
      refine ps_k (o_rmCheck 24 4) (.bool false) ?_
      refine ps_k (o_rmCheck 24 5) (pT gm 0) ?_
      refine ps_p (o_rmCheck 24 6) (.int .i64 m.k) (exec_ld 3 (.tmp 9) gm 0 Try.underlying3 (rc (h2) (Msg.get_n hr NF.k))) ?_
      refine ps_p (o_rmCheck 24 7) (.bool false) (eqf ((m.k) : Int) ((8) : Int) (by omega)) ?_
      refine ps_k (o_rmCheck 24 8) (.bool false) ?_
      refine ps_n (o_rmCheck 24 9) ?_
      refine ps_n (o_rmCheck 24 10) ?_
      refine ps_n (o_rmCheck 24 11) ?_
      refine ps_n (o_rmCheck 24 12) ?_
      refine ps_k (o_rmCheck 24 13) (.bool false) ?_
      refine ps_k (o_rmCheck 24 14) (.bool false) ?_
      refine ps_k (o_rmCheck 24 15) (.bool false) ?_
      refine ps_end ?_
      exact ⟨rfl, .pointer (some ⟨gm, 0, none⟩), .int .i64 m.k, .pointer (some ⟨gm, 0, none⟩), .int .i64 m.k, .bool false, .bool false, undef, undef, undef, undef, by kernel_rfl, h2, by omega, K4⟩
    · skip
      refine sy_reg ?_
      refine rg_plain 1 (opsAt (part_rmCheck 24)) [0, 1, 2, 3, 4, 5, 6, 7, 8, 9, 10, 11, 12, 13, 14, 15] (by kernel_rfl) (by kernel_rfl) ?_
      refine ps_k (o_rmCheck 24 0) (pT gm 0) ?_
      refine ps_p (o_rmCheck 24 1) (.int .i64 m.k) (exec_ld 3 (.tmp 4) gm 0 Try.underlying3 (rc (h2) (Msg.get_n hr NF.k))) ?_
      refine ps_c (o_rmCheck 24 2) 53 #[.int .i64 m.k, .int .i64 1, .int .i64 11] Try.func53 ((rmwithin_is _ _ _ _ (decide_eq_true hk)).mono ?_)
      rintro e w1 ⟨rfl, rfl⟩
      refine ⟨_, rfl, ?_⟩
      refine ps_k (o_rmCheck 24 3) (.bool false) ?_
      refine ps_k (o_rmCheck 24 4) (.bool false) ?_
      refine ps_k (o_rmCheck 24 5) (pT gm 0) ?_
      refine ps_p (o_rmCheck 24 6) (.int .i64 m.k) (exec_ld 3 (.tmp 9) gm 0 Try.underlying3 (rc (h2) (Msg.get_n hr NF.k))) ?_
      refine ps_p (o_rmCheck 24 7) (.bool true) (eqt ((m.k) : Int) ((8) : Int) (by omega)) ?_
      refine ps_k (o_rmCheck 24 8) (.bool true) ?_
      refine ps_k (o_rmCheck 24 9) (pT gm 11) ?_
      refine ps_p (o_rmCheck 24 10) (.int .i64 m.pf) (exec_ld 3 (.tmp 13) gm 11 Try.underlying3 (rc (h2) (Msg.get_n hr NF.pf))) ?_
      refine ps_c (o_rmCheck 24 11) 53 #[.int .i64 m.pf, .int .i64 1, .int .i64 3] Try.func53 ((rmwithin_is _ _ _ _ (decide_eq_true hp)).mono ?_)
      rintro e w1 ⟨rfl, rfl⟩
      refine ⟨_, rfl, ?_⟩
      refine ps_k (o_rmCheck 24 12) (.bool false) ?_
      refine ps_k (o_rmCheck 24 13) (.bool false) ?_
      refine ps_k (o_rmCheck 24 14) (.bool false) ?_
      refine ps_k (o_rmCheck 24 15) (.bool false) ?_
      refine ps_end ?_
      exact ⟨rfl, .pointer (some ⟨gm, 0, none⟩), .int .i64 m.k, .pointer (some ⟨gm, 0, none⟩), .int .i64 m.k, .bool true, .bool true, .pointer (some ⟨gm, 11, none⟩), .int .i64 m.pf, .bool true, .bool false, by kernel_rfl, h2, by omega, K4⟩
  rintro aQ V5 ⟨u1_4, u1_5, u1_9, u1_10, u1_11, u1_12, u1_13, u1_14, u1_15, u1_16, rfl, h6, z7, K8⟩
  refine then_n ?_
  refine sy_n (.tmp 3) (part_rmCheck 50) (part_rmCheck 51) ?_
  refine sy_sq (part_rmCheck 102) (part_rmCheck 103) ?_
  refine sy_reg ?_
  refine rg_plain 3 (opsAt (part_rmCheck 102)) [0, 1, 2, 3] (by kernel_rfl) (by kernel_rfl) ?_
  refine ps_p (o_rmCheck 102 0) (.agg (Msg.c m)) (exec_load_row 35 (.tmp 1) (by kernel_rfl) gm (by kernel_rfl) _ _ (0, 0) _ (h6) Try.underlying35 rfl (by rw [Msg.c_size hr]; kernel_rfl)) ?_
  refine ps_c (o_rmCheck 102 1) 54 #[.agg (Msg.c m)] Try.func54 (((hn ▸ rmfine_ok m _ hr hf)).mono ?_)
  rintro e V9 ⟨rfl, kV9⟩
  refine ⟨_, rfl, ?_⟩
  have h10 := kV9.bk h6
  have K11 := K8.nn kV9
  refine ps_k (o_rmCheck 102 2) (.bool true) ?_
  refine ps_k (o_rmCheck 102 3) (.bool true) ?_
  refine ps_end ?_
  refine then_n ?_
  refine sy_ys (.tmp 19) (part_rmCheck 206) (part_rmCheck 207) ?_
  refine sy_sq (part_rmCheck 412) (part_rmCheck 413) ?_
  refine sy_reg ?_
  refine rg_plain 4 (opsAt (part_rmCheck 412)) [0] (by kernel_rfl) (by kernel_rfl) ?_
  refine ps_k (o_rmCheck 412 0) (.int .i64 3) ?_
  refine ps_end ?_
  refine then_n ?_
  refine sy_ret (by kernel_rfl) ?_
  refine blk_r ?_
  refine then_r ?_
  refine sy_out (.int .i64 3) rfl (by kernel_rfl) ?_
  exact ⟨rfl, K11⟩
set_option maxRecDepth 100000 in
set_option maxHeartbeats 4000000 in
theorem rmCheck_arg (m : Msg) (w : World) (hr : m.R) (hf : m.form) (hn : m.items.all (chkIt m) = true) (hq : ¬ ownK m m.k.toNat = m) :
    Calls Try.prog 18 #[.agg (Msg.c m)] w (fun e w' => e = .returned (.int .i64 2) ∧ Keeps Nob w w') := by
  have hk := hf.1
  have K0 : Keeps Nob w w := Keeps.refl _ _
  refine sy_enter (part_rmCheck 1) ⟨#[.agg (Msg.c m), undef, undef, undef, undef, undef, undef, undef, undef, undef, undef, undef, undef, undef, undef, undef, undef, undef, undef, undef, undef, undef, undef, undef, undef, undef, undef, undef], []⟩ Try.func18 (by kernel_rfl) (by kernel_rfl) ?_
  refine sy_sq (part_rmCheck 2) (part_rmCheck 3) ?_
  refine sy_reg ?_
  refine rg_plain 0 (opsAt (part_rmCheck 2)) [0, 1] (by kernel_rfl) (by kernel_rfl) ?_
  obtain ⟨V1, eV1, gm, egm, h2, kV1⟩ := alloc_step w ((Msg.c m)) 35
  have n3 : w.heap.size ≤ gm := egm ▸ K0.size
  refine ps_r (o_rmCheck 2 0) (pT gm 0) (w' := V1) (by rw [← eV1, ← egm]; exact exec_box 35 (.tmp 0) (by kernel_rfl) (.agg (Msg.c m)) (by kernel_rfl)) ?_
  clear eV1
  have K4 := K0.nn kV1
  refine ps_k (o_rmCheck 2 1) (.int .i64 0) ?_
  refine ps_end ?_
  refine then_n ?_
  refine sy_sq (part_rmCheck 6) (part_rmCheck 7) ?_
  refine sy_bk 0 (part_rmCheck 12) ?_
  refine sy_sq (part_rmCheck 24) (part_rmCheck 25) ?_
  refine sy_cut (fun aQ VQ => ∃ (u1_4 u1_5 u1_9 u1_10 u1_11 u1_12 u1_13 u1_14 u1_15 u1_16 : Value), (aQ = ⟨#[.agg (Msg.c m), .pointer (some ⟨gm, 0, none⟩), .int .i64 0, .bool false, u1_4, u1_5, .bool true, .bool false, .bool false, u1_9, u1_10, u1_11, u1_12, u1_13, u1_14, u1_15, u1_16, .bool false, .bool false, undef, undef, undef, undef, undef, undef, undef, undef, undef], []⟩) ∧ (VQ.heap[gm]? = some (.cells (Msg.c m) 35 (0, 0))) ∧ (V1.heap.size ≤ VQ.heap.size) ∧ (Keeps Nob w VQ)) ?_ ?_
  · rcases (show m.k ≠ 8 ∨ (m.k = 8 ∧ (1 ≤ m.pf ∧ m.pf ≤ 3)) by have := hf.2; omega) with h8 | ⟨h8, hp⟩
    · skip
      refine sy_reg ?_
      refine rg_plain 1 (opsAt (part_rmCheck 24)) [0, 1, 2, 3, 4, 5, 6, 7, 8, 9, 10, 11, 12, 13, 14, 15] (by kernel_rfl) (by kernel_rfl) ?_
      refine ps_k (o_rmCheck 24 0) (pT gm 0) ?_
      refine ps_p (o_rmCheck 24 1) (.int .i64 m.k) (exec_ld 3 (.tmp 4) gm 0 Try.underlying3 (rc (h2) (Msg.get_n hr NF.k))) ?_
      refine ps_c (o_rmCheck 24 2) 53 #[.int .i64 m.k, .int .i64 1, .int .i64 11] Try.func53 ((rmwithin_is _ _ _ _ (decide_eq_true hk)).mono ?_)
      rintro e w1 ⟨rfl, rfl⟩
      refine ⟨_, rfl, ?_⟩
      refine ps_k (o_rmCheck 24 3) (.bool false) ?_
      refine ps_k (o_rmCheck 24 4) (.bool false) ?_
      refine ps_k (o_rmCheck 24 5) (pT gm 0) ?_
      refine ps_p (o_rmCheck 24 6) (.int .i64 m.k) (exec_ld 3 (.tmp 9) gm 0 Try.underlying3 (rc (h2) (Msg.get_n hr NF.k))) ?_
      refine ps_p (o_rmCheck 24 7) (.bool false) (eqf ((m.k) : Int) ((8) : Int) (by omega)) ?_
      refine ps_k (o_rmCheck 24 8) (.bool false) ?_
      refine ps_n (o_rmCheck 24 9) ?_
      refine ps_n (o_rmCheck 24 10) ?_
      refine ps_n (o_rmCheck 24 11) ?_
      refine ps_n (o_rmCheck 24 12) ?_
      refine ps_k (o_rmCheck 24 13) (.bool false) ?_
      refine ps_k (o_rmCheck 24 14) (.bool false) ?_
      refine ps_k (o_rmCheck 24 15) (.bool false) ?_
      refine ps_end ?_
      exact ⟨rfl, .pointer (some ⟨gm, 0, none⟩), .int .i64 m.k, .pointer (some ⟨gm, 0, none⟩), .int .i64 m.k, .bool false, .bool false, undef, undef, undef, undef, by kernel_rfl, h2, by omega, K4⟩
    · skip
      refine sy_reg ?_
      refine rg_plain 1 (opsAt (part_rmCheck 24)) [0, 1, 2, 3, 4, 5, 6, 7, 8, 9, 10, 11, 12, 13, 14, 15] (by kernel_rfl) (by kernel_rfl) ?_
      refine ps_k (o_rmCheck 24 0) (pT gm 0) ?_
      refine ps_p (o_rmCheck 24 1) (.int .i64 m.k) (exec_ld 3 (.tmp 4) gm 0 Try.underlying3 (rc (h2) (Msg.get_n hr NF.k))) ?_
      refine ps_c (o_rmCheck 24 2) 53 #[.int .i64 m.k, .int .i64 1, .int .i64 11] Try.func53 ((rmwithin_is _ _ _ _ (decide_eq_true hk)).mono ?_)
      rintro e w1 ⟨rfl, rfl⟩
      refine ⟨_, rfl, ?_⟩
      refine ps_k (o_rmCheck 24 3) (.bool false) ?_
      refine ps_k (o_rmCheck 24 4) (.bool false) ?_
      refine ps_k (o_rmCheck 24 5) (pT gm 0) ?_
      refine ps_p (o_rmCheck 24 6) (.int .i64 m.k) (exec_ld 3 (.tmp 9) gm 0 Try.underlying3 (rc (h2) (Msg.get_n hr NF.k))) ?_
      refine ps_p (o_rmCheck 24 7) (.bool true) (eqt ((m.k) : Int) ((8) : Int) (by omega)) ?_
      refine ps_k (o_rmCheck 24 8) (.bool true) ?_
      refine ps_k (o_rmCheck 24 9) (pT gm 11) ?_
      refine ps_p (o_rmCheck 24 10) (.int .i64 m.pf) (exec_ld 3 (.tmp 13) gm 11 Try.underlying3 (rc (h2) (Msg.get_n hr NF.pf))) ?_
      refine ps_c (o_rmCheck 24 11) 53 #[.int .i64 m.pf, .int .i64 1, .int .i64 3] Try.func53 ((rmwithin_is _ _ _ _ (decide_eq_true hp)).mono ?_)
      rintro e w1 ⟨rfl, rfl⟩
      refine ⟨_, rfl, ?_⟩
      refine ps_k (o_rmCheck 24 12) (.bool false) ?_
      refine ps_k (o_rmCheck 24 13) (.bool false) ?_
      refine ps_k (o_rmCheck 24 14) (.bool false) ?_
      refine ps_k (o_rmCheck 24 15) (.bool false) ?_
      refine ps_end ?_
      exact ⟨rfl, .pointer (some ⟨gm, 0, none⟩), .int .i64 m.k, .pointer (some ⟨gm, 0, none⟩), .int .i64 m.k, .bool true, .bool true, .pointer (some ⟨gm, 11, none⟩), .int .i64 m.pf, .bool true, .bool false, by kernel_rfl, h2, by omega, K4⟩
  rintro aQ V5 ⟨u1_4, u1_5, u1_9, u1_10, u1_11, u1_12, u1_13, u1_14, u1_15, u1_16, rfl, h6, z7, K8⟩
  refine then_n ?_
  refine sy_n (.tmp 3) (part_rmCheck 50) (part_rmCheck 51) ?_
  refine sy_sq (part_rmCheck 102) (part_rmCheck 103) ?_
  refine sy_reg ?_
  refine rg_plain 3 (opsAt (part_rmCheck 102)) [0, 1, 2, 3] (by kernel_rfl) (by kernel_rfl) ?_
  refine ps_p (o_rmCheck 102 0) (.agg (Msg.c m)) (exec_load_row 35 (.tmp 1) (by kernel_rfl) gm (by kernel_rfl) _ _ (0, 0) _ (h6) Try.underlying35 rfl (by rw [Msg.c_size hr]; kernel_rfl)) ?_
  refine ps_c (o_rmCheck 102 1) 54 #[.agg (Msg.c m)] Try.func54 (((hn ▸ rmfine_ok m _ hr hf)).mono ?_)
  rintro e V9 ⟨rfl, kV9⟩
  refine ⟨_, rfl, ?_⟩
  have h10 := kV9.bk h6
  have K11 := K8.nn kV9
  refine ps_k (o_rmCheck 102 2) (.bool false) ?_
  refine ps_k (o_rmCheck 102 3) (.bool false) ?_
  refine ps_end ?_
  refine then_n ?_
  refine sy_n (.tmp 19) (part_rmCheck 206) (part_rmCheck 207) ?_
  refine sy_sq (part_rmCheck 414) (part_rmCheck 415) ?_
  refine sy_np ?_
  refine sy_reg ?_
  refine an_begin 5 5 (opsAt (part_rmCheck 414)) (fun W => (W.heap[gm]? = some (.cells (Msg.c m) 35 (0, 0)))) #[false, false, false, false, false] (by kernel_rfl) (by kernel_rfl) (by kernel_rfl) (by kernel_rfl) ?_
  obtain ⟨V12, eV12, kV12⟩ := drew_step V9
  rw [eV12]
  clear eV12
  have h13 := kV12.bk h10
  have K14 := K11.nn kV12
  refine an_v 0 (o_rmCheck 414 0) (.agg (Msg.c m)) (fun W hS => exec_load_row 35 (.tmp 1) (by kernel_rfl) gm (by kernel_rfl) _ _ (0, 0) _ (hS) Try.underlying35 rfl (by rw [Msg.c_size hr]; kernel_rfl)) h13 ?_
  refine an_v 2 (o_rmCheck 414 2) (.agg (Msg.c m)) (fun W hS => exec_load_row 35 (.tmp 1) (by kernel_rfl) gm (by kernel_rfl) _ _ (0, 0) _ (hS) Try.underlying35 rfl (by rw [Msg.c_size hr]; kernel_rfl)) h13 ?_
  refine an_o 1 ?_
  refine on_c (o_rmCheck 414 1) 55 #[.agg (Msg.c m)] Try.func55 ((rmown_ok m _ hr hk.1 hk.2).mono ?_)
  rintro e V15 ⟨rfl, kV15⟩
  refine ⟨_, rfl, ?_⟩
  have h16 := kV15.bk h13
  have K17 := K14.nn kV15
  refine ⟨h16, ?_⟩
  refine an_v 3 (o_rmCheck 414 3) (.bool true) (fun W hS => exec_cast (congrArg Value.bool (show (!decide (ownK m m.k.toNat = m)) = true by simp [hq])) (exec_binop .neq 35 35 (.tmp 25) (.tmp 26) (by kernel_rfl) (.agg (Msg.c (ownK m m.k.toNat))) (.agg (Msg.c m)) _ (by kernel_rfl) (by kernel_rfl) (run_eqGuard_agg _ _ _ _ _ _ _ msg_guard) (msg_ne _ _ (ownK_R hr _) hr _))) h16 ?_
  refine an_o 4 ?_
  refine on_r (o_rmCheck 414 4) (.bool true) (w' := V15) (by kernel_rfl) ?_
  refine ⟨h16, ?_⟩
  refine an_end (by kernel_rfl) ?_
  refine then_n ?_
  refine sy_ys (.tmp 23) (part_rmCheck 830) (part_rmCheck 831) ?_
  refine sy_sq (part_rmCheck 1660) (part_rmCheck 1661) ?_
  refine sy_reg ?_
  refine rg_plain 6 (opsAt (part_rmCheck 1660)) [0] (by kernel_rfl) (by kernel_rfl) ?_
  refine ps_k (o_rmCheck 1660 0) (.int .i64 2) ?_
  refine ps_end ?_
  refine then_n ?_
  refine sy_ret (by kernel_rfl) ?_
  refine blk_r ?_
  refine then_r ?_
  refine sy_out (.int .i64 2) rfl (by kernel_rfl) ?_
  exact ⟨rfl, K17⟩
set_option maxRecDepth 100000 in
set_option maxHeartbeats 4000000 in
theorem rmCheck_ok (m : Msg) (w : World) (hr : m.R) (hf : m.form) (hn : m.items.all (chkIt m) = true) (hq : ownK m m.k.toNat = m) :
    Calls Try.prog 18 #[.agg (Msg.c m)] w (fun e w' => e = .returned (.int .i64 0) ∧ Keeps Nob w w') := by
  have hk := hf.1
  have K0 : Keeps Nob w w := Keeps.refl _ _
  refine sy_enter (part_rmCheck 1) ⟨#[.agg (Msg.c m), undef, undef, undef, undef, undef, undef, undef, undef, undef, undef, undef, undef, undef, undef, undef, undef, undef, undef, undef, undef, undef, undef, undef, undef, undef, undef, undef], []⟩ Try.func18 (by kernel_rfl) (by kernel_rfl) ?_
  refine sy_sq (part_rmCheck 2) (part_rmCheck 3) ?_
  refine sy_reg ?_
  refine rg_plain 0 (opsAt (part_rmCheck 2)) [0, 1] (by kernel_rfl) (by kernel_rfl) ?_
  obtain ⟨V1, eV1, gm, egm, h2, kV1⟩ := alloc_step w ((Msg.c m)) 35
  have n3 : w.heap.size ≤ gm := egm ▸ K0.size
  refine ps_r (o_rmCheck 2 0) (pT gm 0) (w' := V1) (by rw [← eV1, ← egm]; exact exec_box 35 (.tmp 0) (by kernel_rfl) (.agg (Msg.c m)) (by kernel_rfl)) ?_
  clear eV1
  have K4 := K0.nn kV1
  refine ps_k (o_rmCheck 2 1) (.int .i64 0) ?_
  refine ps_end ?_
  refine then_n ?_
  refine sy_sq (part_rmCheck 6) (part_rmCheck 7) ?_
  refine sy_bk 0 (part_rmCheck 12) ?_
  refine sy_sq (part_rmCheck 24) (part_rmCheck 25) ?_
  refine sy_cut (fun aQ VQ => ∃ (u1_4 u1_5 u1_9 u1_10 u1_11 u1_12 u1_13 u1_14 u1_15 u1_16 : Value), (aQ = ⟨#[.agg (Msg.c m), .pointer (some ⟨gm, 0, none⟩), .int .i64 0, .bool false, u1_4, u1_5, .bool true, .bool false, .bool false, u1_9, u1_10, u1_11, u1_12, u1_13, u1_14, u1_15, u1_16, .bool false, .bool false, undef, undef, undef, undef, undef, undef, undef, undef, undef], []⟩) ∧ (VQ.heap[gm]? = some (.cells (Msg.c m) 35 (0, 0))) ∧ (V1.heap.size ≤ VQ.heap.size) ∧ (Keeps Nob w VQ)) ?_ ?_
  · rcases (show m.k ≠ 8 ∨ (m.k = 8 ∧ (1 ≤ m.pf ∧ m.pf ≤ 3)) by have := hf.2; omega) with h8 | ⟨h8, hp⟩
    · skip
      refine sy_reg ?_
      refine rg_plain 1 (opsAt (part_rmCheck 24)) [0, 1, 2, 3, 4, 5, 6, 7, 8, 9, 10, 11, 12, 13, 14, 15] (by kernel_rfl) (by kernel_rfl) ?_
      refine ps_k (o_rmCheck 24 0) (pT gm 0) ?_
      refine ps_p (o_rmCheck 24 1) (.int .i64 m.k) (exec_ld 3 (.tmp 4) gm 0 Try.underlying3 (rc (h2) (Msg.get_n hr NF.k))) ?_
      refine ps_c (o_rmCheck 24 2) 53 #[.int .i64 m.k, .int .i64 1, .int .i64 11] Try.func53 ((rmwithin_is _ _ _ _ (decide_eq_true hk)).mono ?_)
      rintro e w1 ⟨rfl, rfl⟩
      refine ⟨_, rfl, ?_⟩
      refine ps_k (o_rmCheck 24 3) (.bool false) ?_
      refine ps_k (o_rmCheck 24 4) (.bool false) ?_
      refine ps_k (o_rmCheck 24 5) (pT gm 0) ?_
      refine ps_p (o_rmCheck 24 6) (.int .i64 m.k) (exec_ld 3 (.tmp 9) gm 0 Try.underlying3 (rc (h2) (Msg.get_n hr NF.k))) ?_
      refine ps_p (o_rmCheck 24 7) (.bool false) (eqf ((m.k) : Int) ((8) : Int) (by omega)) ?_
      refine ps_k (o_rmCheck 24 8) (.bool false) ?_
      refine ps_n (o_rmCheck 24 9) ?_
      refine ps_n (o_rmCheck 24 10) ?_
      refine ps_n (o_rmCheck 24 11) ?_
      refine ps_n (o_rmCheck 24 12) ?_
      refine ps_k (o_rmCheck 24 13) (.bool false) ?_
      refine ps_k (o_rmCheck 24 14) (.bool false) ?_
      refine ps_k (o_rmCheck 24 15) (.bool false) ?_
      refine ps_end ?_
      exact ⟨rfl, .pointer (some ⟨gm, 0, none⟩), .int .i64 m.k, .pointer (some ⟨gm, 0, none⟩), .int .i64 m.k, .bool false, .bool false, undef, undef, undef, undef, by kernel_rfl, h2, by omega, K4⟩
    · skip
      refine sy_reg ?_
      refine rg_plain 1 (opsAt (part_rmCheck 24)) [0, 1, 2, 3, 4, 5, 6, 7, 8, 9, 10, 11, 12, 13, 14, 15] (by kernel_rfl) (by kernel_rfl) ?_
      refine ps_k (o_rmCheck 24 0) (pT gm 0) ?_
      refine ps_p (o_rmCheck 24 1) (.int .i64 m.k) (exec_ld 3 (.tmp 4) gm 0 Try.underlying3 (rc (h2) (Msg.get_n hr NF.k))) ?_
      refine ps_c (o_rmCheck 24 2) 53 #[.int .i64 m.k, .int .i64 1, .int .i64 11] Try.func53 ((rmwithin_is _ _ _ _ (decide_eq_true hk)).mono ?_)
      rintro e w1 ⟨rfl, rfl⟩
      refine ⟨_, rfl, ?_⟩
      refine ps_k (o_rmCheck 24 3) (.bool false) ?_
      refine ps_k (o_rmCheck 24 4) (.bool false) ?_
      refine ps_k (o_rmCheck 24 5) (pT gm 0) ?_
      refine ps_p (o_rmCheck 24 6) (.int .i64 m.k) (exec_ld 3 (.tmp 9) gm 0 Try.underlying3 (rc (h2) (Msg.get_n hr NF.k))) ?_
      refine ps_p (o_rmCheck 24 7) (.bool true) (eqt ((m.k) : Int) ((8) : Int) (by omega)) ?_
      refine ps_k (o_rmCheck 24 8) (.bool true) ?_
      refine ps_k (o_rmCheck 24 9) (pT gm 11) ?_
      refine ps_p (o_rmCheck 24 10) (.int .i64 m.pf) (exec_ld 3 (.tmp 13) gm 11 Try.underlying3 (rc (h2) (Msg.get_n hr NF.pf))) ?_
      refine ps_c (o_rmCheck 24 11) 53 #[.int .i64 m.pf, .int .i64 1, .int .i64 3] Try.func53 ((rmwithin_is _ _ _ _ (decide_eq_true hp)).mono ?_)
      rintro e w1 ⟨rfl, rfl⟩
      refine ⟨_, rfl, ?_⟩
      refine ps_k (o_rmCheck 24 12) (.bool false) ?_
      refine ps_k (o_rmCheck 24 13) (.bool false) ?_
      refine ps_k (o_rmCheck 24 14) (.bool false) ?_
      refine ps_k (o_rmCheck 24 15) (.bool false) ?_
      refine ps_end ?_
      exact ⟨rfl, .pointer (some ⟨gm, 0, none⟩), .int .i64 m.k, .pointer (some ⟨gm, 0, none⟩), .int .i64 m.k, .bool true, .bool true, .pointer (some ⟨gm, 11, none⟩), .int .i64 m.pf, .bool true, .bool false, by kernel_rfl, h2, by omega, K4⟩
  rintro aQ V5 ⟨u1_4, u1_5, u1_9, u1_10, u1_11, u1_12, u1_13, u1_14, u1_15, u1_16, rfl, h6, z7, K8⟩
  refine then_n ?_
  refine sy_n (.tmp 3) (part_rmCheck 50) (part_rmCheck 51) ?_
  refine sy_sq (part_rmCheck 102) (part_rmCheck 103) ?_
  refine sy_reg ?_
  refine rg_plain 3 (opsAt (part_rmCheck 102)) [0, 1, 2, 3] (by kernel_rfl) (by kernel_rfl) ?_
  refine ps_p (o_rmCheck 102 0) (.agg (Msg.c m)) (exec_load_row 35 (.tmp 1) (by kernel_rfl) gm (by kernel_rfl) _ _ (0, 0) _ (h6) Try.underlying35 rfl (by rw [Msg.c_size hr]; kernel_rfl)) ?_
  refine ps_c (o_rmCheck 102 1) 54 #[.agg (Msg.c m)] Try.func54 (((hn ▸ rmfine_ok m _ hr hf)).mono ?_)
  rintro e V9 ⟨rfl, kV9⟩
  refine ⟨_, rfl, ?_⟩
  have h10 := kV9.bk h6
  have K11 := K8.nn kV9
  refine ps_k (o_rmCheck 102 2) (.bool false) ?_
  refine ps_k (o_rmCheck 102 3) (.bool false) ?_
  refine ps_end ?_
  refine then_n ?_
  refine sy_n (.tmp 19) (part_rmCheck 206) (part_rmCheck 207) ?_
  refine sy_sq (part_rmCheck 414) (part_rmCheck 415) ?_
  refine sy_np ?_
  refine sy_reg ?_
  refine an_begin 5 5 (opsAt (part_rmCheck 414)) (fun W => (W.heap[gm]? = some (.cells (Msg.c m) 35 (0, 0)))) #[false, false, false, false, false] (by kernel_rfl) (by kernel_rfl) (by kernel_rfl) (by kernel_rfl) ?_
  obtain ⟨V12, eV12, kV12⟩ := drew_step V9
  rw [eV12]
  clear eV12
  have h13 := kV12.bk h10
  have K14 := K11.nn kV12
  refine an_v 0 (o_rmCheck 414 0) (.agg (Msg.c m)) (fun W hS => exec_load_row 35 (.tmp 1) (by kernel_rfl) gm (by kernel_rfl) _ _ (0, 0) _ (hS) Try.underlying35 rfl (by rw [Msg.c_size hr]; kernel_rfl)) h13 ?_
  refine an_v 2 (o_rmCheck 414 2) (.agg (Msg.c m)) (fun W hS => exec_load_row 35 (.tmp 1) (by kernel_rfl) gm (by kernel_rfl) _ _ (0, 0) _ (hS) Try.underlying35 rfl (by rw [Msg.c_size hr]; kernel_rfl)) h13 ?_
  refine an_o 1 ?_
  refine on_c (o_rmCheck 414 1) 55 #[.agg (Msg.c m)] Try.func55 ((rmown_ok m _ hr hk.1 hk.2).mono ?_)
  rintro e V15 ⟨rfl, kV15⟩
  refine ⟨_, rfl, ?_⟩
  have h16 := kV15.bk h13
  have K17 := K14.nn kV15
  refine ⟨h16, ?_⟩
  refine an_v 3 (o_rmCheck 414 3) (.bool false) (fun W hS => exec_cast (congrArg Value.bool (show (!decide (ownK m m.k.toNat = m)) = false by simp [hq])) (exec_binop .neq 35 35 (.tmp 25) (.tmp 26) (by kernel_rfl) (.agg (Msg.c (ownK m m.k.toNat))) (.agg (Msg.c m)) _ (by kernel_rfl) (by kernel_rfl) (run_eqGuard_agg _ _ _ _ _ _ _ msg_guard) (msg_ne _ _ (ownK_R hr _) hr _))) h16 ?_
  refine an_o 4 ?_
  refine on_r (o_rmCheck 414 4) (.bool false) (w' := V15) (by kernel_rfl) ?_
  refine ⟨h16, ?_⟩
  refine an_end (by kernel_rfl) ?_
  refine then_n ?_
  refine sy_n (.tmp 23) (part_rmCheck 830) (part_rmCheck 831) ?_
  refine sy_sk ?_
  refine blk_n ?_
  refine then_n ?_
  refine sy_sq (part_rmCheck 14) (part_rmCheck 15) ?_
  refine sy_reg ?_
  refine rg_plain 7 (opsAt (part_rmCheck 14)) [0] (by kernel_rfl) (by kernel_rfl) ?_
  refine ps_k (o_rmCheck 14 0) (.int .i64 0) ?_
  refine ps_end ?_
  refine then_n ?_
  refine sy_ret (by kernel_rfl) ?_
  refine sy_out (.int .i64 0) rfl (by kernel_rfl) ?_
  exact ⟨rfl, K17⟩
theorem rmCheck_ok_ (m : Msg) (w : World) (hr : m.R) : Calls Try.prog 18 #[.agg (Msg.c m)] w (fun e w' => e = .returned (.int .i64 m.chk) ∧ Keeps Nob w w') := by
  unfold Msg.chk
  by_cases hf : m.form
  · rw [if_pos hf]
    by_cases hn : m.items.all (chkIt m) = true
    · rw [if_pos hn]
      by_cases hq : clrAll m = onlyK m.k
      · rw [if_pos hq]; exact rmCheck_ok m w hr hf hn ((own_clr m hf).2 hq)
      · rw [if_neg hq]; exact rmCheck_arg m w hr hf hn (fun h => hq ((own_clr m hf).1 h))
    · rw [if_neg hn]; exact rmCheck_range m w hr hf (by simpa using hn)
  · rw [if_neg hf]
    by_cases hk : 1 ≤ m.k ∧ m.k ≤ 11
    · have h8 : m.k = 8 := by
        by_cases h : m.k = 8
        · exact h
        · exact absurd ⟨hk, fun e => absurd e h⟩ hf
      exact rmCheck_f2 m w hr hk h8 (fun h => hf ⟨hk, fun _ => h⟩)
    · exact rmCheck_f1 m w hr hk
noncomputable def part_rmActor (n : Nat) : Code := partOf Try.f21 n
noncomputable abbrev o_rmActor (n k : Nat) : Oper := (opsAt (part_rmActor n)).getD k default
set_option maxRecDepth 100000 in
set_option maxHeartbeats 4000000 in
theorem rmActor_no (m : Msg) (w : World) (hr : m.R) (hk : ¬ (1 ≤ m.k ∧ m.k ≤ 10)) :
    Calls Try.prog 21 #[.agg (Msg.c m)] w (fun e w' => e = .returned (.tuple #[.int .i64 0, .bool false]) ∧ Keeps Nob w w') := by
  have K0 : Keeps Nob w w := Keeps.refl _ _
  refine sy_enter (part_rmActor 1) ⟨#[.agg (Msg.c m), undef, undef, undef, undef, undef, undef, undef, undef, undef], []⟩ Try.func21 (by kernel_rfl) (by kernel_rfl) ?_
  refine sy_sq (part_rmActor 2) (part_rmActor 3) ?_
  refine sy_reg ?_
  refine rg_plain 0 (opsAt (part_rmActor 2)) [0, 1, 2] (by kernel_rfl) (by kernel_rfl) ?_
  obtain ⟨V1, eV1, gm, egm, h2, kV1⟩ := alloc_step w ((Msg.c m)) 35
  have n3 : w.heap.size ≤ gm := egm ▸ K0.size
  refine ps_r (o_rmActor 2 0) (pT gm 0) (w' := V1) (by rw [← eV1, ← egm]; exact exec_box 35 (.tmp 0) (by kernel_rfl) (.agg (Msg.c m)) (by kernel_rfl)) ?_
  clear eV1
  have K4 := K0.nn kV1
  refine ps_k (o_rmActor 2 1) (.int .i64 0) ?_
  refine ps_k (o_rmActor 2 2) (.bool false) ?_
  refine ps_end ?_
  refine then_n ?_
  refine sy_sq (part_rmActor 6) (part_rmActor 7) ?_
  refine sy_sq (part_rmActor 12) (part_rmActor 13) ?_
  refine sy_reg ?_
  refine rg_plain 1 (opsAt (part_rmActor 12)) [0, 1, 2, 3] (by kernel_rfl) (by kernel_rfl) ?_
  refine ps_k (o_rmActor 12 0) (pT gm 0) ?_
  refine ps_p (o_rmActor 12 1) (.int .i64 m.k) (exec_ld 3 (.tmp 4) gm 0 Try.underlying3 (rc (h2) (Msg.get_n hr NF.k))) ?_
  refine ps_c (o_rmActor 12 2) 53 #[.int .i64 m.k, .int .i64 1, .int .i64 10] Try.func53 ((rmwithin_is _ _ _ _ (decide_eq_false hk)).mono ?_)
  rintro e w1 ⟨rfl, rfl⟩
  refine ⟨_, rfl, ?_⟩
  refine ps_k (o_rmActor 12 3) (.bool true) ?_
  refine ps_end ?_
  refine then_n ?_
  refine sy_ys (.tmp 7) (part_rmActor 26) (part_rmActor 27) ?_
  refine sy_sq (part_rmActor 52) (part_rmActor 53) ?_
  refine sy_reg ?_
  refine rg_plain 2 (opsAt (part_rmActor 52)) [0, 1] (by kernel_rfl) (by kernel_rfl) ?_
  refine ps_k (o_rmActor 52 0) (.int .i64 0) ?_
  refine ps_k (o_rmActor 52 1) (.bool false) ?_
  refine ps_end ?_
  refine then_n ?_
  refine sy_ret (by kernel_rfl) ?_
  refine then_r ?_
  refine sy_out (.tuple #[.int .i64 0, .bool false]) rfl (by kernel_rfl) ?_
  exact ⟨rfl, K4⟩
set_option maxRecDepth 100000 in
set_option maxHeartbeats 4000000 in
theorem rmActor_yes (m : Msg) (w : World) (hr : m.R) (hk : 1 ≤ m.k ∧ m.k ≤ 10) :
    Calls Try.prog 21 #[.agg (Msg.c m)] w (fun e w' => e = .returned (.tuple #[.int .i64 m.f, .bool true]) ∧ Keeps Nob w w') := by
  have K0 : Keeps Nob w w := Keeps.refl _ _
  refine sy_enter (part_rmActor 1) ⟨#[.agg (Msg.c m), undef, undef, undef, undef, undef, undef, undef, undef, undef], []⟩ Try.func21 (by kernel_rfl) (by kernel_rfl) ?_
  refine sy_sq (part_rmActor 2) (part_rmActor 3) ?_
  refine sy_reg ?_
  refine rg_plain 0 (opsAt (part_rmActor 2)) [0, 1, 2] (by kernel_rfl) (by kernel_rfl) ?_
  obtain ⟨V1, eV1, gm, egm, h2, kV1⟩ := alloc_step w ((Msg.c m)) 35
  have n3 : w.heap.size ≤ gm := egm ▸ K0.size
  refine ps_r (o_rmActor 2 0) (pT gm 0) (w' := V1) (by rw [← eV1, ← egm]; exact exec_box 35 (.tmp 0) (by kernel_rfl) (.agg (Msg.c m)) (by kernel_rfl)) ?_
  clear eV1
  have K4 := K0.nn kV1
  refine ps_k (o_rmActor 2 1) (.int .i64 0) ?_
  refine ps_k (o_rmActor 2 2) (.bool false) ?_
  refine ps_end ?_
  refine then_n ?_
  refine sy_sq (part_rmActor 6) (part_rmActor 7) ?_
  refine sy_sq (part_rmActor 12) (part_rmActor 13) ?_
  refine sy_reg ?_
  refine rg_plain 1 (opsAt (part_rmActor 12)) [0, 1, 2, 3] (by kernel_rfl) (by kernel_rfl) ?_
  refine ps_k (o_rmActor 12 0) (pT gm 0) ?_
  refine ps_p (o_rmActor 12 1) (.int .i64 m.k) (exec_ld 3 (.tmp 4) gm 0 Try.underlying3 (rc (h2) (Msg.get_n hr NF.k))) ?_
  refine ps_c (o_rmActor 12 2) 53 #[.int .i64 m.k, .int .i64 1, .int .i64 10] Try.func53 ((rmwithin_is _ _ _ _ (decide_eq_true hk)).mono ?_)
  rintro e w1 ⟨rfl, rfl⟩
  refine ⟨_, rfl, ?_⟩
  refine ps_k (o_rmActor 12 3) (.bool false) ?_
  refine ps_end ?_
  refine then_n ?_
  refine sy_n (.tmp 7) (part_rmActor 26) (part_rmActor 27) ?_
  refine sy_sk ?_
  refine then_n ?_
  refine sy_sq (part_rmActor 14) (part_rmActor 15) ?_
  refine sy_reg ?_
  refine rg_plain 3 (opsAt (part_rmActor 14)) [0, 1, 2, 3] (by kernel_rfl) (by kernel_rfl) ?_
  refine ps_k (o_rmActor 14 0) (pT gm 1) ?_
  refine ps_p (o_rmActor 14 1) (.int .i64 m.f) (exec_ld 3 (.tmp 8) gm 1 Try.underlying3 (rc (h2) (Msg.get_n hr NF.f))) ?_
  refine ps_k (o_rmActor 14 2) (.int .i64 m.f) ?_
  refine ps_k (o_rmActor 14 3) (.bool true) ?_
  refine ps_end ?_
  refine then_n ?_
  refine sy_ret (by kernel_rfl) ?_
  refine sy_out (.tuple #[.int .i64 m.f, .bool true]) rfl (by kernel_rfl) ?_
  exact ⟨rfl, K4⟩
theorem rmActor_any (m : Msg) (w : World) (hr : m.R) : Calls Try.prog 21 #[.agg (Msg.c m)] w (fun e w' => e = .returned (.tuple #[.int .i64 m.who.1, .bool m.who.2]) ∧ Keeps Nob w w') := by
  unfold Msg.who
  by_cases hk : 1 ≤ m.k ∧ m.k ≤ 10
  · rw [if_pos hk]; exact rmActor_yes m w hr hk
  · rw [if_neg hk]; exact rmActor_no m w hr hk
end Go.Proofs.Ytmapcghgdbfmhaa
