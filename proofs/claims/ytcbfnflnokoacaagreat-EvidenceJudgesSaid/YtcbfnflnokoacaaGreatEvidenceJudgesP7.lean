/-
  EvidenceJudges proved: for every input the law returns true, and each argument reads as it did. Conditions: none.
-/
import Derived.Test.YtcbfnflnokoacaaGreatEvidenceJudgesP6
namespace Go.Proofs.YtcbfnflnokoacaaGreat
set_option maxRecDepth 100000
set_option maxHeartbeats 4000000
open Go Go.RowKit Go.Own Go.Shelf
def ownB (m : Msg) : Msg := { onlyK m.k with f := m.f }
theorem ownB_R (m : Msg) : (ownB m).R := ⟨rfl, rfl, rfl, rfl⟩
def ownK (m : Msg) : Nat → Msg
  | 1 => { ownB m with t := m.t, am := m.am }
  | 2 => { ownB m with mn := m.mn, am := m.am }
  | 3 => { ownB m with vl := m.vl, am := m.am }
  | 4 => { ownB m with sv := m.sv, ss := m.ss, sp := m.sp, sf := m.sf, am := m.am }
  | 5 => { ownB m with sv := m.sv, ss := m.ss, sp := m.sp, sf := m.sf, am := m.am, t := m.t }
  | 6 => { ownB m with a := m.a }
  | 7 => { ownB m with p := m.p }
  | 8 => if m.pf = 3 then { ownB m with pf := m.pf, p := m.p, q := m.q } else { ownB m with pf := m.pf, a := m.a, b := m.b }
  | 9 => { ownB m with vl := m.vl }
  | 11 => { onlyK m.k with n := m.n }
  | _ => ownB m
theorem onlyN_R (m : Msg) : (({ onlyK m.k with n := m.n } : Msg)).R := ⟨rfl, rfl, rfl, rfl⟩
noncomputable def qc97_1 (n : Nat) : Code := partOf Tryz.f109 n
theorem rmown_1 (m : Msg) (w : World) (hr : m.R) (hk : m.k = 1) :
    Calls Tryz.prog 109 #[.agg (Msg.c m)] w (fun e w' => e = .returned (.agg (Msg.c (ownK m 1))) ∧ Keeps Nob w w') := by
  have K0 : Keeps Nob w w := Keeps.refl _ _
  refine sy_enter (qc97_1 1) ⟨#[.agg (Msg.c m), ud, ud, ud, ud, ud, ud, ud, ud, ud, ud, ud, ud, ud, ud, ud, ud, ud, ud, ud, ud, ud, ud, ud, ud, ud, ud, ud, ud, ud, ud, ud, ud, ud, ud, ud, ud, ud, ud, ud, ud, ud, ud, ud, ud, ud, ud, ud, ud, ud, ud, ud, ud, ud, ud, ud, ud, ud, ud, ud, ud, ud, ud, ud, ud, ud, ud, ud, ud, ud, ud, ud, ud, ud, ud, ud, ud, ud, ud, ud, ud, ud, ud, ud, ud, ud, ud, ud, ud, ud, ud, ud, ud, ud, ud, ud, ud], []⟩ Tryz.func109 (by kernel_rfl) (by kernel_rfl) <| qr_ [0, 1] <| pbx 38 ((Msg.c m)) (.agg (Msg.c m)) fun V1 gm egm h2 kV1 => ?_
  have n3 : w.heap.size ≤ gm := egm ▸ K0.size
  have K4 := K0.nn kV1
  refine pal 38 ((Msg.c msgZ)) (.agg ((Msg.c msgZ))) fun V5 ga ega h6 kV5 => ?_
  have n7 : gm < ga := ega ▸ lt_of_block h2
  have n8 : w.heap.size ≤ ga := ega ▸ K4.size
  have h9 := kV5.bk h2
  have K10 := K4.nn kV5
  refine eqr_ [0, 1, 2, 3, 4, 5, 6] <| pkq (pT gm 0) <| ppq (.int .i64 m.k) (ldc 3 gm 0 (rc (h9) (Msg.get_n hr NF.k))) <| pkq (pT gm 1) <| ppq (.int .i64 m.f) (ldc 3 gm 1 (rc (h9) (Msg.get_n hr NF.f))) <| pkq (.agg (Msg.c (ownB m))) <| pal 38 ((Msg.c msgZ)) (.agg ((Msg.c msgZ))) fun V11 gx egx h12 kV11 => ?_
  have n13 : gm < gx := egx ▸ lt_of_block h9
  have n14 : ga < gx := egx ▸ lt_of_block h6
  have n15 : w.heap.size ≤ gx := egx ▸ K10.size
  have h16 := kV11.bk h9
  have h17 := kV11.bk h6
  have K18 := K10.nn kV11
  refine pst 38 gx ((Msg.c (ownB m))) h12 (by rw [Msg.c_size (ownB_R m)]; kernel_rfl) (by rw [Msg.c_size (ownB_R m)]; exact (Msg.c_size msgZ_R).symm) (Msg.c_one _) fun V19 h20 kV19 => ?_
  have h21 := kV19.bO h16
  have h22 := kV19.bO h17
  have K23 := K18.nO kV19
  refine eq_ <| qr_ [0, 1] <| pkq (pT gm 0) <| ppq (.int .i64 m.k) (ldc 3 gm 0 (rc (h21) (Msg.get_n hr NF.k))) <| et_ <| b_ 0 <| qr_ [0, 1] <| ppq (.bool true) (eqt ((m.k) : Int) ((1) : Int) (by omega)) <| pkq (.bool true) <| ey_ <| sy_np <| sy_reg <| an_begin 4 8 (opsAt (qc97_1 234)) (fun W => (W.heap[gm]? = some (.cells (Msg.c m) 38 (0, 0)))) #[false, false, false, false, false, false, false, false] (by kernel_rfl) (by kernel_rfl) (by kernel_rfl) (by kernel_rfl) ?_
  obtain ⟨V24, eV24, kV24⟩ := drew_step V19
  rw [eV24]
  clear eV24
  have h25 := kV24.bk h21
  have h26 := kV24.bk h22
  have h27 := kV24.bk h20
  have K28 := K23.nn kV24
  refine akq 0 (pT gm 3) h25 <| avq 1 (.int .i64 m.t) (fun W hS => ldc 3 gm 3 (rc (hS) (Msg.get_n hr NF.t))) h25 <| akq 2 (pT gm 4) h25 <| avq 3 (uN m.am) (fun W hS => ldc 24 gm 4 (rc (hS) (Msg.get_a hr AF.am))) h25 <| akq 4 (pT gx 3) h25 <| an_o 5 <| nce 3 gx 3 (.int .i64 m.t) (Msg.c (NF.set ((ownB m)) m.t .t)) h27 (rc (h27) (Msg.get_n (ownB_R m) NF.t)) (Msg.set_n (ownB_R m) NF.t _) fun V29 h30 kV29 => ?_
  have h31 := kV29.bO h25
  have h32 := kV29.bO h26
  have K33 := K28.nO kV29
  refine ⟨h31, ?_⟩
  refine akq 6 (pT gx 4) h31 <| an_o 7 <| nce 24 gx 4 (uN m.am) (Msg.c (AF.set (NF.set ((ownB m)) m.t .t) m.am .am)) h30 (rc (h30) (Msg.get_a (NF.R (ownB_R m)) AF.am)) (Msg.set_a (NF.R (ownB_R m)) AF.am _) fun V34 h35 kV34 => ?_
  have h36 := kV34.bO h31
  have h37 := kV34.bO h32
  have K38 := K33.nO kV34
  refine ⟨h36, ?_⟩
  refine an_end (by kernel_rfl) <| blk_n <| tqr_ [0, 1] <| ppq (.agg (Msg.c (AF.set (NF.set ((ownB m)) m.t .t) m.am .am))) (ldr 38 gx (h35) (by rw [Msg.c_size (AF.R (NF.R (ownB_R m)))]; kernel_rfl)) <| pst 38 ga ((Msg.c (AF.set (NF.set ((ownB m)) m.t .t) m.am .am))) h37 (by rw [Msg.c_size (AF.R (NF.R (ownB_R m)))]; kernel_rfl) (by rw [Msg.c_size (AF.R (NF.R (ownB_R m)))]; exact (Msg.c_size msgZ_R).symm) (Msg.c_one _) fun V39 h40 kV39 => ?_
  have K43 := K38.nO kV39
  refine eu_ <| sy_out (.agg (Msg.c (AF.set (NF.set ((ownB m)) m.t .t) m.am .am))) rfl (results_cell_row (p := 2) (ty := 38) (by kernel_rfl) _ _ ga 38 (Msg.c (AF.set (NF.set ((ownB m)) m.t .t) m.am .am)) (0, 0) _ (by kernel_rfl) h40 Tryz.underlying38 rfl (by rw [Msg.c_size (AF.R (NF.R (ownB_R m)))]; kernel_rfl)) ?_
  exact ⟨rfl, K43⟩
theorem rmown_2 (m : Msg) (w : World) (hr : m.R) (hk : m.k = 2) :
    Calls Tryz.prog 109 #[.agg (Msg.c m)] w (fun e w' => e = .returned (.agg (Msg.c (ownK m 2))) ∧ Keeps Nob w w') := by
  have K0 : Keeps Nob w w := Keeps.refl _ _
  refine sy_enter (qc97_1 1) ⟨#[.agg (Msg.c m), ud, ud, ud, ud, ud, ud, ud, ud, ud, ud, ud, ud, ud, ud, ud, ud, ud, ud, ud, ud, ud, ud, ud, ud, ud, ud, ud, ud, ud, ud, ud, ud, ud, ud, ud, ud, ud, ud, ud, ud, ud, ud, ud, ud, ud, ud, ud, ud, ud, ud, ud, ud, ud, ud, ud, ud, ud, ud, ud, ud, ud, ud, ud, ud, ud, ud, ud, ud, ud, ud, ud, ud, ud, ud, ud, ud, ud, ud, ud, ud, ud, ud, ud, ud, ud, ud, ud, ud, ud, ud, ud, ud, ud, ud, ud, ud], []⟩ Tryz.func109 (by kernel_rfl) (by kernel_rfl) <| qr_ [0, 1] <| pbx 38 ((Msg.c m)) (.agg (Msg.c m)) fun V1 gm egm h2 kV1 => ?_
  have n3 : w.heap.size ≤ gm := egm ▸ K0.size
  have K4 := K0.nn kV1
  refine pal 38 ((Msg.c msgZ)) (.agg ((Msg.c msgZ))) fun V5 ga ega h6 kV5 => ?_
  have n7 : gm < ga := ega ▸ lt_of_block h2
  have n8 : w.heap.size ≤ ga := ega ▸ K4.size
  have h9 := kV5.bk h2
  have K10 := K4.nn kV5
  refine eqr_ [0, 1, 2, 3, 4, 5, 6] <| pkq (pT gm 0) <| ppq (.int .i64 m.k) (ldc 3 gm 0 (rc (h9) (Msg.get_n hr NF.k))) <| pkq (pT gm 1) <| ppq (.int .i64 m.f) (ldc 3 gm 1 (rc (h9) (Msg.get_n hr NF.f))) <| pkq (.agg (Msg.c (ownB m))) <| pal 38 ((Msg.c msgZ)) (.agg ((Msg.c msgZ))) fun V11 gx egx h12 kV11 => ?_
  have n13 : gm < gx := egx ▸ lt_of_block h9
  have n14 : ga < gx := egx ▸ lt_of_block h6
  have n15 : w.heap.size ≤ gx := egx ▸ K10.size
  have h16 := kV11.bk h9
  have h17 := kV11.bk h6
  have K18 := K10.nn kV11
  refine pst 38 gx ((Msg.c (ownB m))) h12 (by rw [Msg.c_size (ownB_R m)]; kernel_rfl) (by rw [Msg.c_size (ownB_R m)]; exact (Msg.c_size msgZ_R).symm) (Msg.c_one _) fun V19 h20 kV19 => ?_
  have h21 := kV19.bO h16
  have h22 := kV19.bO h17
  have K23 := K18.nO kV19
  refine eq_ <| qr_ [0, 1] <| pkq (pT gm 0) <| ppq (.int .i64 m.k) (ldc 3 gm 0 (rc (h21) (Msg.get_n hr NF.k))) <| et_ <| b_ 0 <| qr_ [0, 1] <| ppq (.bool false) (eqf ((m.k) : Int) ((1) : Int) (by omega)) <| pkq (.bool false) <| en_ <| qr_ [0, 1] <| ppq (.bool true) (eqt ((m.k) : Int) ((2) : Int) (by omega)) <| pkq (.bool true) <| ey_ ?_
  refine sy_np <| sy_reg <| an_begin 6 8 (opsAt (qc97_1 942)) (fun W => (W.heap[gm]? = some (.cells (Msg.c m) 38 (0, 0)))) #[false, false, false, false, false, false, false, false] (by kernel_rfl) (by kernel_rfl) (by kernel_rfl) (by kernel_rfl) ?_
  obtain ⟨V24, eV24, kV24⟩ := drew_step V19
  rw [eV24]
  clear eV24
  have h25 := kV24.bk h21
  have h26 := kV24.bk h22
  have h27 := kV24.bk h20
  have K28 := K23.nn kV24
  refine akq 0 (pT gm 5) h25 <| avq 1 (uN m.mn) (fun W hS => ldc 24 gm 5 (rc (hS) (Msg.get_a hr AF.mn))) h25 <| akq 2 (pT gm 4) h25 <| avq 3 (uN m.am) (fun W hS => ldc 24 gm 4 (rc (hS) (Msg.get_a hr AF.am))) h25 <| akq 4 (pT gx 5) h25 <| an_o 5 <| nce 24 gx 5 (uN m.mn) (Msg.c (AF.set ((ownB m)) m.mn .mn)) h27 (rc (h27) (Msg.get_a (ownB_R m) AF.mn)) (Msg.set_a (ownB_R m) AF.mn _) fun V29 h30 kV29 => ?_
  have h31 := kV29.bO h25
  have h32 := kV29.bO h26
  have K33 := K28.nO kV29
  refine ⟨h31, ?_⟩
  refine akq 6 (pT gx 4) h31 <| an_o 7 <| nce 24 gx 4 (uN m.am) (Msg.c (AF.set (AF.set ((ownB m)) m.mn .mn) m.am .am)) h30 (rc (h30) (Msg.get_a (AF.R (ownB_R m)) AF.am)) (Msg.set_a (AF.R (ownB_R m)) AF.am _) fun V34 h35 kV34 => ?_
  have h36 := kV34.bO h31
  have h37 := kV34.bO h32
  have K38 := K33.nO kV34
  refine ⟨h36, ?_⟩
  refine an_end (by kernel_rfl) <| blk_n <| tqr_ [0, 1] <| ppq (.agg (Msg.c (AF.set (AF.set ((ownB m)) m.mn .mn) m.am .am))) (ldr 38 gx (h35) (by rw [Msg.c_size (AF.R (AF.R (ownB_R m)))]; kernel_rfl)) <| pst 38 ga ((Msg.c (AF.set (AF.set ((ownB m)) m.mn .mn) m.am .am))) h37 (by rw [Msg.c_size (AF.R (AF.R (ownB_R m)))]; kernel_rfl) (by rw [Msg.c_size (AF.R (AF.R (ownB_R m)))]; exact (Msg.c_size msgZ_R).symm) (Msg.c_one _) fun V39 h40 kV39 => ?_
  have K43 := K38.nO kV39
  refine ps_end <| sy_a ⟨#[.agg (Msg.c m), pT gm 0, pT ga 0, pT gx 0, pT gm 0, .int .i64 m.k, pT gm 1, .int .i64 m.f, .agg (Msg.c (ownB m)), pT gm 0, .int .i64 m.k, .bool false, .bool false, ud, ud, ud, ud, ud, ud, .bool true, .bool true, pT gm 5, uN m.mn, pT gm 4, uN m.am, pT gx 5, pT gx 4, ud, ud, ud, ud, ud, ud, ud, ud, ud, ud, ud, ud, ud, ud, ud, ud, ud, ud, ud, ud, ud, ud, ud, ud, ud, ud, ud, ud, ud, ud, ud, ud, ud, ud, ud, ud, ud, ud, ud, ud, ud, ud, ud, ud, ud, ud, ud, ud, ud, ud, ud, ud, ud, ud, ud, ud, ud, ud, ud, ud, ud, ud, ud, ud, ud, ud, ud, ud, ud, .agg (Msg.c (AF.set (AF.set ((ownB m)) m.mn .mn) m.am .am))], []⟩ <| then_n <| u_ <| sy_out (.agg (Msg.c (AF.set (AF.set ((ownB m)) m.mn .mn) m.am .am))) rfl (results_cell_row (p := 2) (ty := 38) (by kernel_rfl) _ _ ga 38 (Msg.c (AF.set (AF.set ((ownB m)) m.mn .mn) m.am .am)) (0, 0) _ (by kernel_rfl) h40 Tryz.underlying38 rfl (by rw [Msg.c_size (AF.R (AF.R (ownB_R m)))]; kernel_rfl)) ?_
  exact ⟨rfl, K43⟩
theorem rmown_3 (m : Msg) (w : World) (hr : m.R) (hk : m.k = 3) :
    Calls Tryz.prog 109 #[.agg (Msg.c m)] w (fun e w' => e = .returned (.agg (Msg.c (ownK m 3))) ∧ Keeps Nob w w') := by
  have K0 : Keeps Nob w w := Keeps.refl _ _
  refine sy_enter (qc97_1 1) ⟨#[.agg (Msg.c m), ud, ud, ud, ud, ud, ud, ud, ud, ud, ud, ud, ud, ud, ud, ud, ud, ud, ud, ud, ud, ud, ud, ud, ud, ud, ud, ud, ud, ud, ud, ud, ud, ud, ud, ud, ud, ud, ud, ud, ud, ud, ud, ud, ud, ud, ud, ud, ud, ud, ud, ud, ud, ud, ud, ud, ud, ud, ud, ud, ud, ud, ud, ud, ud, ud, ud, ud, ud, ud, ud, ud, ud, ud, ud, ud, ud, ud, ud, ud, ud, ud, ud, ud, ud, ud, ud, ud, ud, ud, ud, ud, ud, ud, ud, ud, ud], []⟩ Tryz.func109 (by kernel_rfl) (by kernel_rfl) <| qr_ [0, 1] <| pbx 38 ((Msg.c m)) (.agg (Msg.c m)) fun V1 gm egm h2 kV1 => ?_
  have n3 : w.heap.size ≤ gm := egm ▸ K0.size
  have K4 := K0.nn kV1
  refine pal 38 ((Msg.c msgZ)) (.agg ((Msg.c msgZ))) fun V5 ga ega h6 kV5 => ?_
  have n7 : gm < ga := ega ▸ lt_of_block h2
  have n8 : w.heap.size ≤ ga := ega ▸ K4.size
  have h9 := kV5.bk h2
  have K10 := K4.nn kV5
  refine eqr_ [0, 1, 2, 3, 4, 5, 6] <| pkq (pT gm 0) <| ppq (.int .i64 m.k) (ldc 3 gm 0 (rc (h9) (Msg.get_n hr NF.k))) <| pkq (pT gm 1) <| ppq (.int .i64 m.f) (ldc 3 gm 1 (rc (h9) (Msg.get_n hr NF.f))) <| pkq (.agg (Msg.c (ownB m))) <| pal 38 ((Msg.c msgZ)) (.agg ((Msg.c msgZ))) fun V11 gx egx h12 kV11 => ?_
  have n13 : gm < gx := egx ▸ lt_of_block h9
  have n14 : ga < gx := egx ▸ lt_of_block h6
  have n15 : w.heap.size ≤ gx := egx ▸ K10.size
  have h16 := kV11.bk h9
  have h17 := kV11.bk h6
  have K18 := K10.nn kV11
  refine pst 38 gx ((Msg.c (ownB m))) h12 (by rw [Msg.c_size (ownB_R m)]; kernel_rfl) (by rw [Msg.c_size (ownB_R m)]; exact (Msg.c_size msgZ_R).symm) (Msg.c_one _) fun V19 h20 kV19 => ?_
  have h21 := kV19.bO h16
  have h22 := kV19.bO h17
  have K23 := K18.nO kV19
  refine eq_ <| qr_ [0, 1] <| pkq (pT gm 0) <| ppq (.int .i64 m.k) (ldc 3 gm 0 (rc (h21) (Msg.get_n hr NF.k))) <| et_ <| b_ 0 <| qr_ [0, 1] <| ppq (.bool false) (eqf ((m.k) : Int) ((1) : Int) (by omega)) <| pkq (.bool false) <| en_ <| qr_ [0, 1] <| ppq (.bool false) (eqf ((m.k) : Int) ((2) : Int) (by omega)) <| pkq (.bool false) <| en_ ?_
  refine qr_ [0, 1] <| ppq (.bool true) (eqt ((m.k) : Int) ((3) : Int) (by omega)) <| pkq (.bool true) <| ey_ <| sy_np <| sy_reg <| an_begin 8 8 (opsAt (qc97_1 3774)) (fun W => (W.heap[gm]? = some (.cells (Msg.c m) 38 (0, 0)))) #[false, false, false, false, false, false, false, false] (by kernel_rfl) (by kernel_rfl) (by kernel_rfl) (by kernel_rfl) ?_
  obtain ⟨V24, eV24, kV24⟩ := drew_step V19
  rw [eV24]
  clear eV24
  have h25 := kV24.bk h21
  have h26 := kV24.bk h22
  have h27 := kV24.bk h20
  have K28 := K23.nn kV24
  refine akq 0 (pT gm 2) h25 <| avq 1 (.int .i64 m.vl) (fun W hS => ldc 3 gm 2 (rc (hS) (Msg.get_n hr NF.vl))) h25 <| akq 2 (pT gm 4) h25 <| avq 3 (uN m.am) (fun W hS => ldc 24 gm 4 (rc (hS) (Msg.get_a hr AF.am))) h25 <| akq 4 (pT gx 2) h25 <| an_o 5 <| nce 3 gx 2 (.int .i64 m.vl) (Msg.c (NF.set ((ownB m)) m.vl .vl)) h27 (rc (h27) (Msg.get_n (ownB_R m) NF.vl)) (Msg.set_n (ownB_R m) NF.vl _) fun V29 h30 kV29 => ?_
  have h31 := kV29.bO h25
  have h32 := kV29.bO h26
  have K33 := K28.nO kV29
  refine ⟨h31, ?_⟩
  refine akq 6 (pT gx 4) h31 <| an_o 7 <| nce 24 gx 4 (uN m.am) (Msg.c (AF.set (NF.set ((ownB m)) m.vl .vl) m.am .am)) h30 (rc (h30) (Msg.get_a (NF.R (ownB_R m)) AF.am)) (Msg.set_a (NF.R (ownB_R m)) AF.am _) fun V34 h35 kV34 => ?_
  have h36 := kV34.bO h31
  have h37 := kV34.bO h32
  have K38 := K33.nO kV34
  refine ⟨h36, ?_⟩
  refine an_end (by kernel_rfl) <| sy_a ⟨#[.agg (Msg.c m), pT gm 0, pT ga 0, pT gx 0, pT gm 0, .int .i64 m.k, pT gm 1, .int .i64 m.f, .agg (Msg.c (ownB m)), pT gm 0, .int .i64 m.k, .bool false, .bool false, ud, ud, ud, ud, ud, ud, .bool false, .bool false, ud, ud, ud, ud, ud, ud, .bool true, .bool true, pT gm 2, .int .i64 m.vl, pT gm 4, uN m.am, pT gx 2, pT gx 4, ud, ud, ud, ud, ud, ud, ud, ud, ud, ud, ud, ud, ud, ud, ud, ud, ud, ud, ud, ud, ud, ud, ud, ud, ud, ud, ud, ud, ud, ud, ud, ud, ud, ud, ud, ud, ud, ud, ud, ud, ud, ud, ud, ud, ud, ud, ud, ud, ud, ud, ud, ud, ud, ud, ud, ud, ud, ud, ud, ud, ud, ud], []⟩ <| blk_n <| tqr_ [0, 1] <| ppq (.agg (Msg.c (AF.set (NF.set ((ownB m)) m.vl .vl) m.am .am))) (ldr 38 gx (h35) (by rw [Msg.c_size (AF.R (NF.R (ownB_R m)))]; kernel_rfl)) <| pst 38 ga ((Msg.c (AF.set (NF.set ((ownB m)) m.vl .vl) m.am .am))) h37 (by rw [Msg.c_size (AF.R (NF.R (ownB_R m)))]; kernel_rfl) (by rw [Msg.c_size (AF.R (NF.R (ownB_R m)))]; exact (Msg.c_size msgZ_R).symm) (Msg.c_one _) fun V39 h40 kV39 => ?_
  have K43 := K38.nO kV39
  refine eu_ <| sy_out (.agg (Msg.c (AF.set (NF.set ((ownB m)) m.vl .vl) m.am .am))) rfl (results_cell_row (p := 2) (ty := 38) (by kernel_rfl) _ _ ga 38 (Msg.c (AF.set (NF.set ((ownB m)) m.vl .vl) m.am .am)) (0, 0) _ (by kernel_rfl) h40 Tryz.underlying38 rfl (by rw [Msg.c_size (AF.R (NF.R (ownB_R m)))]; kernel_rfl)) ?_
  exact ⟨rfl, K43⟩
theorem rmown_4 (m : Msg) (w : World) (hr : m.R) (hk : m.k = 4) :
    Calls Tryz.prog 109 #[.agg (Msg.c m)] w (fun e w' => e = .returned (.agg (Msg.c (ownK m 4))) ∧ Keeps Nob w w') := by
  have K0 : Keeps Nob w w := Keeps.refl _ _
  refine sy_enter (qc97_1 1) ⟨#[.agg (Msg.c m), ud, ud, ud, ud, ud, ud, ud, ud, ud, ud, ud, ud, ud, ud, ud, ud, ud, ud, ud, ud, ud, ud, ud, ud, ud, ud, ud, ud, ud, ud, ud, ud, ud, ud, ud, ud, ud, ud, ud, ud, ud, ud, ud, ud, ud, ud, ud, ud, ud, ud, ud, ud, ud, ud, ud, ud, ud, ud, ud, ud, ud, ud, ud, ud, ud, ud, ud, ud, ud, ud, ud, ud, ud, ud, ud, ud, ud, ud, ud, ud, ud, ud, ud, ud, ud, ud, ud, ud, ud, ud, ud, ud, ud, ud, ud, ud], []⟩ Tryz.func109 (by kernel_rfl) (by kernel_rfl) <| qr_ [0, 1] <| pbx 38 ((Msg.c m)) (.agg (Msg.c m)) fun V1 gm egm h2 kV1 => ?_
  have n3 : w.heap.size ≤ gm := egm ▸ K0.size
  have K4 := K0.nn kV1
  refine pal 38 ((Msg.c msgZ)) (.agg ((Msg.c msgZ))) fun V5 ga ega h6 kV5 => ?_
  have n7 : gm < ga := ega ▸ lt_of_block h2
  have n8 : w.heap.size ≤ ga := ega ▸ K4.size
  have h9 := kV5.bk h2
  have K10 := K4.nn kV5
  refine eqr_ [0, 1, 2, 3, 4, 5, 6] <| pkq (pT gm 0) <| ppq (.int .i64 m.k) (ldc 3 gm 0 (rc (h9) (Msg.get_n hr NF.k))) <| pkq (pT gm 1) <| ppq (.int .i64 m.f) (ldc 3 gm 1 (rc (h9) (Msg.get_n hr NF.f))) <| pkq (.agg (Msg.c (ownB m))) <| pal 38 ((Msg.c msgZ)) (.agg ((Msg.c msgZ))) fun V11 gx egx h12 kV11 => ?_
  have n13 : gm < gx := egx ▸ lt_of_block h9
  have n14 : ga < gx := egx ▸ lt_of_block h6
  have n15 : w.heap.size ≤ gx := egx ▸ K10.size
  have h16 := kV11.bk h9
  have h17 := kV11.bk h6
  have K18 := K10.nn kV11
  refine pst 38 gx ((Msg.c (ownB m))) h12 (by rw [Msg.c_size (ownB_R m)]; kernel_rfl) (by rw [Msg.c_size (ownB_R m)]; exact (Msg.c_size msgZ_R).symm) (Msg.c_one _) fun V19 h20 kV19 => ?_
  have h21 := kV19.bO h16
  have h22 := kV19.bO h17
  have K23 := K18.nO kV19
  refine eq_ <| qr_ [0, 1] <| pkq (pT gm 0) <| ppq (.int .i64 m.k) (ldc 3 gm 0 (rc (h21) (Msg.get_n hr NF.k))) <| et_ <| b_ 0 <| qr_ [0, 1] <| ppq (.bool false) (eqf ((m.k) : Int) ((1) : Int) (by omega)) <| pkq (.bool false) <| en_ <| qr_ [0, 1] <| ppq (.bool false) (eqf ((m.k) : Int) ((2) : Int) (by omega)) <| pkq (.bool false) <| en_ ?_
  refine qr_ [0, 1] <| ppq (.bool false) (eqf ((m.k) : Int) ((3) : Int) (by omega)) <| pkq (.bool false) <| en_ <| qr_ [0, 1] <| ppq (.bool true) (eqt ((m.k) : Int) ((4) : Int) (by omega)) <| pkq (.bool true) <| ey_ <| sy_np <| sy_reg <| an_begin 10 8 (opsAt (qc97_1 15102)) (fun W => (W.heap[gm]? = some (.cells (Msg.c m) 38 (0, 0)))) #[false, false, false, false, false, false, false, false] (by kernel_rfl) (by kernel_rfl) (by kernel_rfl) (by kernel_rfl) ?_
  obtain ⟨V24, eV24, kV24⟩ := drew_step V19
  rw [eV24]
  clear eV24
  have h25 := kV24.bk h21
  have h26 := kV24.bk h22
  have h27 := kV24.bk h20
  have K28 := K23.nn kV24
  refine akq 0 (pT gm 6) h25 <| avq 1 (.agg (Msg.st m)) (fun W hS => exec_load_seg 36 (.tmp 37) (by kernel_rfl) gm 6 (by kernel_rfl) (Msg.st m).toList _ _ _ hS (Msg.seg_S _) Tryz.underlying36 rfl (by kernel_rfl)) h25 <| akq 2 (pT gm 4) h25 <| avq 3 (uN m.am) (fun W hS => ldc 24 gm 4 (rc (hS) (Msg.get_a hr AF.am))) h25 <| akq 4 (pT gx 6) h25 <| an_o 5 ?_
  obtain ⟨V29, eV29⟩ : ∃ V, V24.setCells gx 6 (Msg.st m).toList = V := ⟨_, rfl⟩
  have kV29 : Keeps (One gx) V24 V29 := eV29 ▸ Keeps.setCells _ _ _ _
  have h30 : V29.heap[gx]? = some (.cells (Msg.c (putS ((ownB m)) m)) 38 (0, 0)) := eV29 ▸ (heap_setCells gx _ _ 6 _ _ h27 (show 6 + (Msg.st m).toList.length ≤ _ by rw [(show (Msg.st m).toList.length = 4 from rfl), Msg.c_size (ownB_R m)]; decide)).trans (congrArg (fun c => some (Obj.cells c 38 (0, 0))) (Msg.set_S (ownB_R m) _))
  refine nzq (w' := V29) (by rw [← eV29]; exact exec_store_mid 36 (.tmp 41) (.tmp 38) (by kernel_rfl) gx 6 (by kernel_rfl) (Msg.st m) (by kernel_rfl) _ _ h27 (show 6 + (Msg.st m).toList.length ≤ _ by rw [(show (Msg.st m).toList.length = 4 from rfl), Msg.c_size (ownB_R m)]; decide) (by kernel_rfl) (by kernel_rfl)) ?_
  clear eV29
  have h31 := kV29.bO h25
  have h32 := kV29.bO h26
  have K33 := K28.nO kV29
  refine ⟨h31, ?_⟩
  refine akq 6 (pT gx 4) h31 <| an_o 7 <| nce 24 gx 4 (uN m.am) (Msg.c (AF.set (putS ((ownB m)) m) m.am .am)) h30 (rc (h30) (Msg.get_a (putS_R (ownB_R m)) AF.am)) (Msg.set_a (putS_R (ownB_R m)) AF.am _) fun V34 h35 kV34 => ?_
  have h36 := kV34.bO h31
  have h37 := kV34.bO h32
  have K38 := K33.nO kV34
  refine ⟨h36, ?_⟩
  refine an_end (by kernel_rfl) <| sy_a ⟨#[.agg (Msg.c m), pT gm 0, pT ga 0, pT gx 0, pT gm 0, .int .i64 m.k, pT gm 1, .int .i64 m.f, .agg (Msg.c (ownB m)), pT gm 0, .int .i64 m.k, .bool false, .bool false, ud, ud, ud, ud, ud, ud, .bool false, .bool false, ud, ud, ud, ud, ud, ud, .bool false, .bool false, ud, ud, ud, ud, ud, ud, .bool true, .bool true, pT gm 6, .agg (Msg.st m), pT gm 4, uN m.am, pT gx 6, pT gx 4, ud, ud, ud, ud, ud, ud, ud, ud, ud, ud, ud, ud, ud, ud, ud, ud, ud, ud, ud, ud, ud, ud, ud, ud, ud, ud, ud, ud, ud, ud, ud, ud, ud, ud, ud, ud, ud, ud, ud, ud, ud, ud, ud, ud, ud, ud, ud, ud, ud, ud, ud, ud, ud, ud], []⟩ <| blk_n <| tqr_ [0, 1] <| ppq (.agg (Msg.c (AF.set (putS ((ownB m)) m) m.am .am))) (ldr 38 gx (h35) (by rw [Msg.c_size (AF.R (putS_R (ownB_R m)))]; kernel_rfl)) <| pst 38 ga ((Msg.c (AF.set (putS ((ownB m)) m) m.am .am))) h37 (by rw [Msg.c_size (AF.R (putS_R (ownB_R m)))]; kernel_rfl) (by rw [Msg.c_size (AF.R (putS_R (ownB_R m)))]; exact (Msg.c_size msgZ_R).symm) (Msg.c_one _) fun V39 h40 kV39 => ?_
  have K43 := K38.nO kV39
  refine eu_ <| sy_out (.agg (Msg.c (AF.set (putS ((ownB m)) m) m.am .am))) rfl (results_cell_row (p := 2) (ty := 38) (by kernel_rfl) _ _ ga 38 (Msg.c (AF.set (putS ((ownB m)) m) m.am .am)) (0, 0) _ (by kernel_rfl) h40 Tryz.underlying38 rfl (by rw [Msg.c_size (AF.R (putS_R (ownB_R m)))]; kernel_rfl)) ?_
  exact ⟨rfl, K43⟩
theorem rmown_5 (m : Msg) (w : World) (hr : m.R) (hk : m.k = 5) :
    Calls Tryz.prog 109 #[.agg (Msg.c m)] w (fun e w' => e = .returned (.agg (Msg.c (ownK m 5))) ∧ Keeps Nob w w') := by
  have K0 : Keeps Nob w w := Keeps.refl _ _
  refine sy_enter (qc97_1 1) ⟨#[.agg (Msg.c m), ud, ud, ud, ud, ud, ud, ud, ud, ud, ud, ud, ud, ud, ud, ud, ud, ud, ud, ud, ud, ud, ud, ud, ud, ud, ud, ud, ud, ud, ud, ud, ud, ud, ud, ud, ud, ud, ud, ud, ud, ud, ud, ud, ud, ud, ud, ud, ud, ud, ud, ud, ud, ud, ud, ud, ud, ud, ud, ud, ud, ud, ud, ud, ud, ud, ud, ud, ud, ud, ud, ud, ud, ud, ud, ud, ud, ud, ud, ud, ud, ud, ud, ud, ud, ud, ud, ud, ud, ud, ud, ud, ud, ud, ud, ud, ud], []⟩ Tryz.func109 (by kernel_rfl) (by kernel_rfl) <| qr_ [0, 1] <| pbx 38 ((Msg.c m)) (.agg (Msg.c m)) fun V1 gm egm h2 kV1 => ?_
  have n3 : w.heap.size ≤ gm := egm ▸ K0.size
  have K4 := K0.nn kV1
  refine pal 38 ((Msg.c msgZ)) (.agg ((Msg.c msgZ))) fun V5 ga ega h6 kV5 => ?_
  have n7 : gm < ga := ega ▸ lt_of_block h2
  have n8 : w.heap.size ≤ ga := ega ▸ K4.size
  have h9 := kV5.bk h2
  have K10 := K4.nn kV5
  refine eqr_ [0, 1, 2, 3, 4, 5, 6] <| pkq (pT gm 0) <| ppq (.int .i64 m.k) (ldc 3 gm 0 (rc (h9) (Msg.get_n hr NF.k))) <| pkq (pT gm 1) <| ppq (.int .i64 m.f) (ldc 3 gm 1 (rc (h9) (Msg.get_n hr NF.f))) <| pkq (.agg (Msg.c (ownB m))) <| pal 38 ((Msg.c msgZ)) (.agg ((Msg.c msgZ))) fun V11 gx egx h12 kV11 => ?_
  have n13 : gm < gx := egx ▸ lt_of_block h9
  have n14 : ga < gx := egx ▸ lt_of_block h6
  have n15 : w.heap.size ≤ gx := egx ▸ K10.size
  have h16 := kV11.bk h9
  have h17 := kV11.bk h6
  have K18 := K10.nn kV11
  refine pst 38 gx ((Msg.c (ownB m))) h12 (by rw [Msg.c_size (ownB_R m)]; kernel_rfl) (by rw [Msg.c_size (ownB_R m)]; exact (Msg.c_size msgZ_R).symm) (Msg.c_one _) fun V19 h20 kV19 => ?_
  have h21 := kV19.bO h16
  have h22 := kV19.bO h17
  have K23 := K18.nO kV19
  refine eq_ <| qr_ [0, 1] <| pkq (pT gm 0) <| ppq (.int .i64 m.k) (ldc 3 gm 0 (rc (h21) (Msg.get_n hr NF.k))) <| et_ <| b_ 0 <| qr_ [0, 1] <| ppq (.bool false) (eqf ((m.k) : Int) ((1) : Int) (by omega)) <| pkq (.bool false) <| en_ <| qr_ [0, 1] <| ppq (.bool false) (eqf ((m.k) : Int) ((2) : Int) (by omega)) <| pkq (.bool false) <| en_ ?_
  refine qr_ [0, 1] <| ppq (.bool false) (eqf ((m.k) : Int) ((3) : Int) (by omega)) <| pkq (.bool false) <| en_ <| qr_ [0, 1] <| ppq (.bool false) (eqf ((m.k) : Int) ((4) : Int) (by omega)) <| pkq (.bool false) <| en_ <| qr_ [0, 1] <| ppq (.bool true) (eqt ((m.k) : Int) ((5) : Int) (by omega)) <| pkq (.bool true) <| ey_ <| sy_np <| sy_reg ?_
  refine an_begin 12 12 (opsAt (qc97_1 60414)) (fun W => (W.heap[gm]? = some (.cells (Msg.c m) 38 (0, 0)))) #[false, false, false, false, false, false, false, false, false, false, false, false] (by kernel_rfl) (by kernel_rfl) (by kernel_rfl) (by kernel_rfl) ?_
  obtain ⟨V24, eV24, kV24⟩ := drew_step V19
  rw [eV24]
  clear eV24
  have h25 := kV24.bk h21
  have h26 := kV24.bk h22
  have h27 := kV24.bk h20
  have K28 := K23.nn kV24
  refine akq 0 (pT gm 6) h25 <| avq 1 (.agg (Msg.st m)) (fun W hS => exec_load_seg 36 (.tmp 45) (by kernel_rfl) gm 6 (by kernel_rfl) (Msg.st m).toList _ _ _ hS (Msg.seg_S _) Tryz.underlying36 rfl (by kernel_rfl)) h25 <| akq 2 (pT gm 4) h25 <| avq 3 (uN m.am) (fun W hS => ldc 24 gm 4 (rc (hS) (Msg.get_a hr AF.am))) h25 <| akq 4 (pT gm 3) h25 <| avq 5 (.int .i64 m.t) (fun W hS => ldc 3 gm 3 (rc (hS) (Msg.get_n hr NF.t))) h25 <| akq 6 (pT gx 6) h25 <| an_o 7 ?_
  obtain ⟨V29, eV29⟩ : ∃ V, V24.setCells gx 6 (Msg.st m).toList = V := ⟨_, rfl⟩
  have kV29 : Keeps (One gx) V24 V29 := eV29 ▸ Keeps.setCells _ _ _ _
  have h30 : V29.heap[gx]? = some (.cells (Msg.c (putS ((ownB m)) m)) 38 (0, 0)) := eV29 ▸ (heap_setCells gx _ _ 6 _ _ h27 (show 6 + (Msg.st m).toList.length ≤ _ by rw [(show (Msg.st m).toList.length = 4 from rfl), Msg.c_size (ownB_R m)]; decide)).trans (congrArg (fun c => some (Obj.cells c 38 (0, 0))) (Msg.set_S (ownB_R m) _))
  refine nzq (w' := V29) (by rw [← eV29]; exact exec_store_mid 36 (.tmp 51) (.tmp 46) (by kernel_rfl) gx 6 (by kernel_rfl) (Msg.st m) (by kernel_rfl) _ _ h27 (show 6 + (Msg.st m).toList.length ≤ _ by rw [(show (Msg.st m).toList.length = 4 from rfl), Msg.c_size (ownB_R m)]; decide) (by kernel_rfl) (by kernel_rfl)) ?_
  clear eV29
  have h31 := kV29.bO h25
  have h32 := kV29.bO h26
  have K33 := K28.nO kV29
  refine ⟨h31, ?_⟩
  refine akq 8 (pT gx 4) h31 <| an_o 9 <| nce 24 gx 4 (uN m.am) (Msg.c (AF.set (putS ((ownB m)) m) m.am .am)) h30 (rc (h30) (Msg.get_a (putS_R (ownB_R m)) AF.am)) (Msg.set_a (putS_R (ownB_R m)) AF.am _) fun V34 h35 kV34 => ?_
  have h36 := kV34.bO h31
  have h37 := kV34.bO h32
  have K38 := K33.nO kV34
  refine ⟨h36, ?_⟩
  refine akq 10 (pT gx 3) h36 <| an_o 11 <| nce 3 gx 3 (.int .i64 m.t) (Msg.c (NF.set (AF.set (putS ((ownB m)) m) m.am .am) m.t .t)) h35 (rc (h35) (Msg.get_n (AF.R (putS_R (ownB_R m))) NF.t)) (Msg.set_n (AF.R (putS_R (ownB_R m))) NF.t _) fun V39 h40 kV39 => ?_
  have h41 := kV39.bO h36
  have h42 := kV39.bO h37
  have K43 := K38.nO kV39
  refine ⟨h41, ?_⟩
  refine an_end (by kernel_rfl) <| sy_a ⟨#[.agg (Msg.c m), pT gm 0, pT ga 0, pT gx 0, pT gm 0, .int .i64 m.k, pT gm 1, .int .i64 m.f, .agg (Msg.c (ownB m)), pT gm 0, .int .i64 m.k, .bool false, .bool false, ud, ud, ud, ud, ud, ud, .bool false, .bool false, ud, ud, ud, ud, ud, ud, .bool false, .bool false, ud, ud, ud, ud, ud, ud, .bool false, .bool false, ud, ud, ud, ud, ud, ud, .bool true, .bool true, pT gm 6, .agg (Msg.st m), pT gm 4, uN m.am, pT gm 3, .int .i64 m.t, pT gx 6, pT gx 4, pT gx 3, ud, ud, ud, ud, ud, ud, ud, ud, ud, ud, ud, ud, ud, ud, ud, ud, ud, ud, ud, ud, ud, ud, ud, ud, ud, ud, ud, ud, ud, ud, ud, ud, ud, ud, ud, ud, ud, ud, ud, ud, ud, ud, ud], []⟩ <| blk_n <| tqr_ [0, 1] <| ppq (.agg (Msg.c (NF.set (AF.set (putS ((ownB m)) m) m.am .am) m.t .t))) (ldr 38 gx (h40) (by rw [Msg.c_size (NF.R (AF.R (putS_R (ownB_R m))))]; kernel_rfl)) <| pst 38 ga ((Msg.c (NF.set (AF.set (putS ((ownB m)) m) m.am .am) m.t .t))) h42 (by rw [Msg.c_size (NF.R (AF.R (putS_R (ownB_R m))))]; kernel_rfl) (by rw [Msg.c_size (NF.R (AF.R (putS_R (ownB_R m))))]; exact (Msg.c_size msgZ_R).symm) (Msg.c_one _) fun V44 h45 kV44 => ?_
  have K48 := K43.nO kV44
  refine eu_ <| sy_out (.agg (Msg.c (NF.set (AF.set (putS ((ownB m)) m) m.am .am) m.t .t))) rfl (results_cell_row (p := 2) (ty := 38) (by kernel_rfl) _ _ ga 38 (Msg.c (NF.set (AF.set (putS ((ownB m)) m) m.am .am) m.t .t)) (0, 0) _ (by kernel_rfl) h45 Tryz.underlying38 rfl (by rw [Msg.c_size (NF.R (AF.R (putS_R (ownB_R m))))]; kernel_rfl)) ?_
  exact ⟨rfl, K48⟩
theorem rmown_6 (m : Msg) (w : World) (hr : m.R) (hk : m.k = 6) :
    Calls Tryz.prog 109 #[.agg (Msg.c m)] w (fun e w' => e = .returned (.agg (Msg.c (ownK m 6))) ∧ Keeps Nob w w') := by
  have K0 : Keeps Nob w w := Keeps.refl _ _
  refine sy_enter (qc97_1 1) ⟨#[.agg (Msg.c m), ud, ud, ud, ud, ud, ud, ud, ud, ud, ud, ud, ud, ud, ud, ud, ud, ud, ud, ud, ud, ud, ud, ud, ud, ud, ud, ud, ud, ud, ud, ud, ud, ud, ud, ud, ud, ud, ud, ud, ud, ud, ud, ud, ud, ud, ud, ud, ud, ud, ud, ud, ud, ud, ud, ud, ud, ud, ud, ud, ud, ud, ud, ud, ud, ud, ud, ud, ud, ud, ud, ud, ud, ud, ud, ud, ud, ud, ud, ud, ud, ud, ud, ud, ud, ud, ud, ud, ud, ud, ud, ud, ud, ud, ud, ud, ud], []⟩ Tryz.func109 (by kernel_rfl) (by kernel_rfl) <| qr_ [0, 1] <| pbx 38 ((Msg.c m)) (.agg (Msg.c m)) fun V1 gm egm h2 kV1 => ?_
  have n3 : w.heap.size ≤ gm := egm ▸ K0.size
  have K4 := K0.nn kV1
  refine pal 38 ((Msg.c msgZ)) (.agg ((Msg.c msgZ))) fun V5 ga ega h6 kV5 => ?_
  have n7 : gm < ga := ega ▸ lt_of_block h2
  have n8 : w.heap.size ≤ ga := ega ▸ K4.size
  have h9 := kV5.bk h2
  have K10 := K4.nn kV5
  refine eqr_ [0, 1, 2, 3, 4, 5, 6] <| pkq (pT gm 0) <| ppq (.int .i64 m.k) (ldc 3 gm 0 (rc (h9) (Msg.get_n hr NF.k))) <| pkq (pT gm 1) <| ppq (.int .i64 m.f) (ldc 3 gm 1 (rc (h9) (Msg.get_n hr NF.f))) <| pkq (.agg (Msg.c (ownB m))) <| pal 38 ((Msg.c msgZ)) (.agg ((Msg.c msgZ))) fun V11 gx egx h12 kV11 => ?_
  have n13 : gm < gx := egx ▸ lt_of_block h9
  have n14 : ga < gx := egx ▸ lt_of_block h6
  have n15 : w.heap.size ≤ gx := egx ▸ K10.size
  have h16 := kV11.bk h9
  have h17 := kV11.bk h6
  have K18 := K10.nn kV11
  refine pst 38 gx ((Msg.c (ownB m))) h12 (by rw [Msg.c_size (ownB_R m)]; kernel_rfl) (by rw [Msg.c_size (ownB_R m)]; exact (Msg.c_size msgZ_R).symm) (Msg.c_one _) fun V19 h20 kV19 => ?_
  have h21 := kV19.bO h16
  have h22 := kV19.bO h17
  have K23 := K18.nO kV19
  refine eq_ <| qr_ [0, 1] <| pkq (pT gm 0) <| ppq (.int .i64 m.k) (ldc 3 gm 0 (rc (h21) (Msg.get_n hr NF.k))) <| et_ <| b_ 0 <| qr_ [0, 1] <| ppq (.bool false) (eqf ((m.k) : Int) ((1) : Int) (by omega)) <| pkq (.bool false) <| en_ <| qr_ [0, 1] <| ppq (.bool false) (eqf ((m.k) : Int) ((2) : Int) (by omega)) <| pkq (.bool false) <| en_ ?_
  refine qr_ [0, 1] <| ppq (.bool false) (eqf ((m.k) : Int) ((3) : Int) (by omega)) <| pkq (.bool false) <| en_ <| qr_ [0, 1] <| ppq (.bool false) (eqf ((m.k) : Int) ((4) : Int) (by omega)) <| pkq (.bool false) <| en_ <| qr_ [0, 1] <| ppq (.bool false) (eqf ((m.k) : Int) ((5) : Int) (by omega)) <| pkq (.bool false) <| en_ <| qr_ [0, 1] <| ppq (.bool true) (eqt ((m.k) : Int) ((6) : Int) (by omega)) ?_
  refine pkq (.bool true) <| ey_ <| r_ [0, 1, 2, 3] <| pkq (pT gm 12) <| ppq (.agg (Att.c m.a)) (exec_load_seg 26 (.tmp 56) (by kernel_rfl) gm 12 (by kernel_rfl) (Att.c m.a).toList _ _ _ h21 (Msg.seg_A hr) Tryz.underlying26 rfl (by rw [Att.tl hr.a]; kernel_rfl)) <| pkq (pT gx 12) ?_
  obtain ⟨V24, eV24⟩ : ∃ V, V19.setCells gx 12 (Att.c m.a).toList = V := ⟨_, rfl⟩
  have kV24 : Keeps (One gx) V19 V24 := eV24 ▸ Keeps.setCells _ _ _ _
  have h25 : V24.heap[gx]? = some (.cells (Msg.c (putA ((ownB m)) m.a)) 38 (0, 0)) := eV24 ▸ (heap_setCells gx _ _ 12 _ _ h20 (show 12 + (Att.c m.a).toList.length ≤ _ by rw [(show (Att.c m.a).toList.length = 36 from Att.tl hr.a), Msg.c_size (ownB_R m)]; decide)).trans (congrArg (fun c => some (Obj.cells c 38 (0, 0))) (Msg.set_A (ownB_R m) _ hr.a))
  refine pzq (w' := V24) (by rw [← eV24]; exact exec_store_mid 26 (.tmp 58) (.tmp 57) (by kernel_rfl) gx 12 (by kernel_rfl) (Att.c m.a) (by kernel_rfl) _ _ h20 (show 12 + (Att.c m.a).toList.length ≤ _ by rw [(show (Att.c m.a).toList.length = 36 from Att.tl hr.a), Msg.c_size (ownB_R m)]; decide) (by rw [Att.c_size _ hr.a]; kernel_rfl) (Att.c_one _)) ?_
  clear eV24
  have h27 := kV24.bO h22
  have K28 := K23.nO kV24
  refine ps_end <| sy_a ⟨#[.agg (Msg.c m), pT gm 0, pT ga 0, pT gx 0, pT gm 0, .int .i64 m.k, pT gm 1, .int .i64 m.f, .agg (Msg.c (ownB m)), pT gm 0, .int .i64 m.k, .bool false, .bool false, ud, ud, ud, ud, ud, ud, .bool false, .bool false, ud, ud, ud, ud, ud, ud, .bool false, .bool false, ud, ud, ud, ud, ud, ud, .bool false, .bool false, ud, ud, ud, ud, ud, ud, .bool false, .bool false, ud, ud, ud, ud, ud, ud, ud, ud, ud, .bool true, .bool true, pT gm 12, .agg (Att.c m.a), pT gx 12, ud, ud, ud, ud, ud, ud, ud, ud, ud, ud, ud, ud, ud, ud, ud, ud, ud, ud, ud, ud, ud, ud, ud, ud, ud, ud, ud, ud, ud, ud, ud, ud, ud, ud, ud, ud, ud, ud], []⟩ <| blk_n <| tqr_ [0, 1] <| ppq (.agg (Msg.c (putA ((ownB m)) m.a))) (ldr 38 gx (h25) (by rw [Msg.c_size (putA_R (ownB_R m) hr.a)]; kernel_rfl)) <| pst 38 ga ((Msg.c (putA ((ownB m)) m.a))) h27 (by rw [Msg.c_size (putA_R (ownB_R m) hr.a)]; kernel_rfl) (by rw [Msg.c_size (putA_R (ownB_R m) hr.a)]; exact (Msg.c_size msgZ_R).symm) (Msg.c_one _) fun V29 h30 kV29 => ?_
  have K33 := K28.nO kV29
  refine eu_ <| sy_out (.agg (Msg.c (putA ((ownB m)) m.a))) rfl (results_cell_row (p := 2) (ty := 38) (by kernel_rfl) _ _ ga 38 (Msg.c (putA ((ownB m)) m.a)) (0, 0) _ (by kernel_rfl) h30 Tryz.underlying38 rfl (by rw [Msg.c_size (putA_R (ownB_R m) hr.a)]; kernel_rfl)) ?_
  exact ⟨rfl, K33⟩
theorem rmown_7 (m : Msg) (w : World) (hr : m.R) (hk : m.k = 7) :
    Calls Tryz.prog 109 #[.agg (Msg.c m)] w (fun e w' => e = .returned (.agg (Msg.c (ownK m 7))) ∧ Keeps Nob w w') := by
  have K0 : Keeps Nob w w := Keeps.refl _ _
  refine sy_enter (qc97_1 1) ⟨#[.agg (Msg.c m), ud, ud, ud, ud, ud, ud, ud, ud, ud, ud, ud, ud, ud, ud, ud, ud, ud, ud, ud, ud, ud, ud, ud, ud, ud, ud, ud, ud, ud, ud, ud, ud, ud, ud, ud, ud, ud, ud, ud, ud, ud, ud, ud, ud, ud, ud, ud, ud, ud, ud, ud, ud, ud, ud, ud, ud, ud, ud, ud, ud, ud, ud, ud, ud, ud, ud, ud, ud, ud, ud, ud, ud, ud, ud, ud, ud, ud, ud, ud, ud, ud, ud, ud, ud, ud, ud, ud, ud, ud, ud, ud, ud, ud, ud, ud, ud], []⟩ Tryz.func109 (by kernel_rfl) (by kernel_rfl) <| qr_ [0, 1] <| pbx 38 ((Msg.c m)) (.agg (Msg.c m)) fun V1 gm egm h2 kV1 => ?_
  have n3 : w.heap.size ≤ gm := egm ▸ K0.size
  have K4 := K0.nn kV1
  refine pal 38 ((Msg.c msgZ)) (.agg ((Msg.c msgZ))) fun V5 ga ega h6 kV5 => ?_
  have n7 : gm < ga := ega ▸ lt_of_block h2
  have n8 : w.heap.size ≤ ga := ega ▸ K4.size
  have h9 := kV5.bk h2
  have K10 := K4.nn kV5
  refine eqr_ [0, 1, 2, 3, 4, 5, 6] <| pkq (pT gm 0) <| ppq (.int .i64 m.k) (ldc 3 gm 0 (rc (h9) (Msg.get_n hr NF.k))) <| pkq (pT gm 1) <| ppq (.int .i64 m.f) (ldc 3 gm 1 (rc (h9) (Msg.get_n hr NF.f))) <| pkq (.agg (Msg.c (ownB m))) <| pal 38 ((Msg.c msgZ)) (.agg ((Msg.c msgZ))) fun V11 gx egx h12 kV11 => ?_
  have n13 : gm < gx := egx ▸ lt_of_block h9
  have n14 : ga < gx := egx ▸ lt_of_block h6
  have n15 : w.heap.size ≤ gx := egx ▸ K10.size
  have h16 := kV11.bk h9
  have h17 := kV11.bk h6
  have K18 := K10.nn kV11
  refine pst 38 gx ((Msg.c (ownB m))) h12 (by rw [Msg.c_size (ownB_R m)]; kernel_rfl) (by rw [Msg.c_size (ownB_R m)]; exact (Msg.c_size msgZ_R).symm) (Msg.c_one _) fun V19 h20 kV19 => ?_
  have h21 := kV19.bO h16
  have h22 := kV19.bO h17
  have K23 := K18.nO kV19
  refine eq_ <| qr_ [0, 1] <| pkq (pT gm 0) <| ppq (.int .i64 m.k) (ldc 3 gm 0 (rc (h21) (Msg.get_n hr NF.k))) <| et_ <| b_ 0 <| qr_ [0, 1] <| ppq (.bool false) (eqf ((m.k) : Int) ((1) : Int) (by omega)) <| pkq (.bool false) <| en_ <| qr_ [0, 1] <| ppq (.bool false) (eqf ((m.k) : Int) ((2) : Int) (by omega)) <| pkq (.bool false) <| en_ ?_
  refine qr_ [0, 1] <| ppq (.bool false) (eqf ((m.k) : Int) ((3) : Int) (by omega)) <| pkq (.bool false) <| en_ <| qr_ [0, 1] <| ppq (.bool false) (eqf ((m.k) : Int) ((4) : Int) (by omega)) <| pkq (.bool false) <| en_ <| qr_ [0, 1] <| ppq (.bool false) (eqf ((m.k) : Int) ((5) : Int) (by omega)) <| pkq (.bool false) <| en_ <| qr_ [0, 1] <| ppq (.bool false) (eqf ((m.k) : Int) ((6) : Int) (by omega)) ?_
  refine pkq (.bool false) <| en_ <| qr_ [0, 1] <| ppq (.bool true) (eqt ((m.k) : Int) ((7) : Int) (by omega)) <| pkq (.bool true) <| ps_end <| sy_a ⟨#[.agg (Msg.c m), pT gm 0, pT ga 0, pT gx 0, pT gm 0, .int .i64 m.k, pT gm 1, .int .i64 m.f, .agg (Msg.c (ownB m)), pT gm 0, .int .i64 m.k, .bool false, .bool false, ud, ud, ud, ud, ud, ud, .bool false, .bool false, ud, ud, ud, ud, ud, ud, .bool false, .bool false, ud, ud, ud, ud, ud, ud, .bool false, .bool false, ud, ud, ud, ud, ud, ud, .bool false, .bool false, ud, ud, ud, ud, ud, ud, ud, ud, ud, .bool false, .bool false, ud, ud, ud, .bool true, .bool true, ud, ud, ud, ud, ud, ud, ud, ud, ud, ud, ud, ud, ud, ud, ud, ud, ud, ud, ud, ud, ud, ud, ud, ud, ud, ud, ud, ud, ud, ud, ud, ud, ud, ud, ud, ud], []⟩ <| then_n <| y_ <| r_ [0, 1, 2, 3] <| pkq (pT gm 84) <| ppq (.agg (Pro.c m.p)) (exec_load_seg 28 (.tmp 61) (by kernel_rfl) gm 84 (by kernel_rfl) (Pro.c m.p).toList _ _ _ h21 (Msg.seg_P hr) Tryz.underlying28 rfl (by rw [Pro.tl hr.p]; kernel_rfl)) <| pkq (pT gx 84) ?_
  obtain ⟨V24, eV24⟩ : ∃ V, V19.setCells gx 84 (Pro.c m.p).toList = V := ⟨_, rfl⟩
  have kV24 : Keeps (One gx) V19 V24 := eV24 ▸ Keeps.setCells _ _ _ _
  have h25 : V24.heap[gx]? = some (.cells (Msg.c (putP ((ownB m)) m.p)) 38 (0, 0)) := eV24 ▸ (heap_setCells gx _ _ 84 _ _ h20 (show 84 + (Pro.c m.p).toList.length ≤ _ by rw [(show (Pro.c m.p).toList.length = 35 from Pro.tl hr.p), Msg.c_size (ownB_R m)]; decide)).trans (congrArg (fun c => some (Obj.cells c 38 (0, 0))) (Msg.set_P (ownB_R m) _ hr.p))
  refine pzq (w' := V24) (by rw [← eV24]; exact exec_store_mid 28 (.tmp 63) (.tmp 62) (by kernel_rfl) gx 84 (by kernel_rfl) (Pro.c m.p) (by kernel_rfl) _ _ h20 (show 84 + (Pro.c m.p).toList.length ≤ _ by rw [(show (Pro.c m.p).toList.length = 35 from Pro.tl hr.p), Msg.c_size (ownB_R m)]; decide) (by rw [Pro.c_size _ hr.p]; kernel_rfl) (Pro.c_one _)) ?_
  clear eV24
  have h27 := kV24.bO h22
  have K28 := K23.nO kV24
  refine ps_end <| blk_n <| tqr_ [0, 1] <| ppq (.agg (Msg.c (putP ((ownB m)) m.p))) (ldr 38 gx (h25) (by rw [Msg.c_size (putP_R (ownB_R m) hr.p)]; kernel_rfl)) <| pst 38 ga ((Msg.c (putP ((ownB m)) m.p))) h27 (by rw [Msg.c_size (putP_R (ownB_R m) hr.p)]; kernel_rfl) (by rw [Msg.c_size (putP_R (ownB_R m) hr.p)]; exact (Msg.c_size msgZ_R).symm) (Msg.c_one _) fun V29 h30 kV29 => ?_
  have K33 := K28.nO kV29
  refine eu_ <| sy_out (.agg (Msg.c (putP ((ownB m)) m.p))) rfl (results_cell_row (p := 2) (ty := 38) (by kernel_rfl) _ _ ga 38 (Msg.c (putP ((ownB m)) m.p)) (0, 0) _ (by kernel_rfl) h30 Tryz.underlying38 rfl (by rw [Msg.c_size (putP_R (ownB_R m) hr.p)]; kernel_rfl)) ?_
  exact ⟨rfl, K33⟩
theorem rmown_9 (m : Msg) (w : World) (hr : m.R) (hk : m.k = 9) :
    Calls Tryz.prog 109 #[.agg (Msg.c m)] w (fun e w' => e = .returned (.agg (Msg.c (ownK m 9))) ∧ Keeps Nob w w') := by
  have K0 : Keeps Nob w w := Keeps.refl _ _
  refine sy_enter (qc97_1 1) ⟨#[.agg (Msg.c m), ud, ud, ud, ud, ud, ud, ud, ud, ud, ud, ud, ud, ud, ud, ud, ud, ud, ud, ud, ud, ud, ud, ud, ud, ud, ud, ud, ud, ud, ud, ud, ud, ud, ud, ud, ud, ud, ud, ud, ud, ud, ud, ud, ud, ud, ud, ud, ud, ud, ud, ud, ud, ud, ud, ud, ud, ud, ud, ud, ud, ud, ud, ud, ud, ud, ud, ud, ud, ud, ud, ud, ud, ud, ud, ud, ud, ud, ud, ud, ud, ud, ud, ud, ud, ud, ud, ud, ud, ud, ud, ud, ud, ud, ud, ud, ud], []⟩ Tryz.func109 (by kernel_rfl) (by kernel_rfl) <| qr_ [0, 1] <| pbx 38 ((Msg.c m)) (.agg (Msg.c m)) fun V1 gm egm h2 kV1 => ?_
  have n3 : w.heap.size ≤ gm := egm ▸ K0.size
  have K4 := K0.nn kV1
  refine pal 38 ((Msg.c msgZ)) (.agg ((Msg.c msgZ))) fun V5 ga ega h6 kV5 => ?_
  have n7 : gm < ga := ega ▸ lt_of_block h2
  have n8 : w.heap.size ≤ ga := ega ▸ K4.size
  have h9 := kV5.bk h2
  have K10 := K4.nn kV5
  refine eqr_ [0, 1, 2, 3, 4, 5, 6] <| pkq (pT gm 0) <| ppq (.int .i64 m.k) (ldc 3 gm 0 (rc (h9) (Msg.get_n hr NF.k))) <| pkq (pT gm 1) <| ppq (.int .i64 m.f) (ldc 3 gm 1 (rc (h9) (Msg.get_n hr NF.f))) <| pkq (.agg (Msg.c (ownB m))) <| pal 38 ((Msg.c msgZ)) (.agg ((Msg.c msgZ))) fun V11 gx egx h12 kV11 => ?_
  have n13 : gm < gx := egx ▸ lt_of_block h9
  have n14 : ga < gx := egx ▸ lt_of_block h6
  have n15 : w.heap.size ≤ gx := egx ▸ K10.size
  have h16 := kV11.bk h9
  have h17 := kV11.bk h6
  have K18 := K10.nn kV11
  refine pst 38 gx ((Msg.c (ownB m))) h12 (by rw [Msg.c_size (ownB_R m)]; kernel_rfl) (by rw [Msg.c_size (ownB_R m)]; exact (Msg.c_size msgZ_R).symm) (Msg.c_one _) fun V19 h20 kV19 => ?_
  have h21 := kV19.bO h16
  have h22 := kV19.bO h17
  have K23 := K18.nO kV19
  refine eq_ <| qr_ [0, 1] <| pkq (pT gm 0) <| ppq (.int .i64 m.k) (ldc 3 gm 0 (rc (h21) (Msg.get_n hr NF.k))) <| et_ <| b_ 0 <| qr_ [0, 1] <| ppq (.bool false) (eqf ((m.k) : Int) ((1) : Int) (by omega)) <| pkq (.bool false) <| en_ <| qr_ [0, 1] <| ppq (.bool false) (eqf ((m.k) : Int) ((2) : Int) (by omega)) <| pkq (.bool false) <| en_ ?_
  refine qr_ [0, 1] <| ppq (.bool false) (eqf ((m.k) : Int) ((3) : Int) (by omega)) <| pkq (.bool false) <| en_ <| qr_ [0, 1] <| ppq (.bool false) (eqf ((m.k) : Int) ((4) : Int) (by omega)) <| pkq (.bool false) <| en_ <| qr_ [0, 1] <| ppq (.bool false) (eqf ((m.k) : Int) ((5) : Int) (by omega)) <| pkq (.bool false) <| en_ <| qr_ [0, 1] <| ppq (.bool false) (eqf ((m.k) : Int) ((6) : Int) (by omega)) ?_
  refine pkq (.bool false) <| en_ <| qr_ [0, 1] <| ppq (.bool false) (eqf ((m.k) : Int) ((7) : Int) (by omega)) <| pkq (.bool false) <| ps_end <| sy_a ⟨#[.agg (Msg.c m), pT gm 0, pT ga 0, pT gx 0, pT gm 0, .int .i64 m.k, pT gm 1, .int .i64 m.f, .agg (Msg.c (ownB m)), pT gm 0, .int .i64 m.k, .bool false, .bool false, ud, ud, ud, ud, ud, ud, .bool false, .bool false, ud, ud, ud, ud, ud, ud, .bool false, .bool false, ud, ud, ud, ud, ud, ud, .bool false, .bool false, ud, ud, ud, ud, ud, ud, .bool false, .bool false, ud, ud, ud, ud, ud, ud, ud, ud, ud, .bool false, .bool false, ud, ud, ud, .bool false, .bool false, ud, ud, ud, ud, ud, ud, ud, ud, ud, ud, ud, ud, ud, ud, ud, ud, ud, ud, ud, ud, ud, ud, ud, ud, ud, ud, ud, ud, ud, ud, ud, ud, ud, ud, ud, ud], []⟩ <| then_n <| n_ <| qr_ [0, 1] <| ppq (.bool false) (eqf ((m.k) : Int) ((8) : Int) (by omega)) <| pkq (.bool false) <| en_ <| qr_ [0, 1] ?_
  refine ppq (.bool true) (eqt ((m.k) : Int) ((9) : Int) (by omega)) <| pkq (.bool true) <| ey_ <| r_ [0, 1, 2, 3] <| pkq (pT gm 2) <| ppq (.int .i64 m.vl) (ldc 3 gm 2 (rc (h21) (Msg.get_n hr NF.vl))) <| pkq (pT gx 2) <| pce 3 gx 2 (.int .i64 m.vl) (Msg.c (NF.set ((ownB m)) m.vl .vl)) h20 (rc (h20) (Msg.get_n (ownB_R m) NF.vl)) (Msg.set_n (ownB_R m) NF.vl _) fun V24 h25 kV24 => ?_
  have h27 := kV24.bO h22
  have K28 := K23.nO kV24
  refine ps_end <| blk_n <| tqr_ [0, 1] <| ppq (.agg (Msg.c (NF.set ((ownB m)) m.vl .vl))) (ldr 38 gx (h25) (by rw [Msg.c_size (NF.R (ownB_R m))]; kernel_rfl)) <| pst 38 ga ((Msg.c (NF.set ((ownB m)) m.vl .vl))) h27 (by rw [Msg.c_size (NF.R (ownB_R m))]; kernel_rfl) (by rw [Msg.c_size (NF.R (ownB_R m))]; exact (Msg.c_size msgZ_R).symm) (Msg.c_one _) fun V29 h30 kV29 => ?_
  have K33 := K28.nO kV29
  refine eu_ <| sy_out (.agg (Msg.c (NF.set ((ownB m)) m.vl .vl))) rfl (results_cell_row (p := 2) (ty := 38) (by kernel_rfl) _ _ ga 38 (Msg.c (NF.set ((ownB m)) m.vl .vl)) (0, 0) _ (by kernel_rfl) h30 Tryz.underlying38 rfl (by rw [Msg.c_size (NF.R (ownB_R m))]; kernel_rfl)) ?_
  exact ⟨rfl, K33⟩
theorem rmown_10 (m : Msg) (w : World) (hr : m.R) (hk : m.k = 10) :
    Calls Tryz.prog 109 #[.agg (Msg.c m)] w (fun e w' => e = .returned (.agg (Msg.c (ownK m 10))) ∧ Keeps Nob w w') := by
  have K0 : Keeps Nob w w := Keeps.refl _ _
  refine sy_enter (qc97_1 1) ⟨#[.agg (Msg.c m), ud, ud, ud, ud, ud, ud, ud, ud, ud, ud, ud, ud, ud, ud, ud, ud, ud, ud, ud, ud, ud, ud, ud, ud, ud, ud, ud, ud, ud, ud, ud, ud, ud, ud, ud, ud, ud, ud, ud, ud, ud, ud, ud, ud, ud, ud, ud, ud, ud, ud, ud, ud, ud, ud, ud, ud, ud, ud, ud, ud, ud, ud, ud, ud, ud, ud, ud, ud, ud, ud, ud, ud, ud, ud, ud, ud, ud, ud, ud, ud, ud, ud, ud, ud, ud, ud, ud, ud, ud, ud, ud, ud, ud, ud, ud, ud], []⟩ Tryz.func109 (by kernel_rfl) (by kernel_rfl) <| qr_ [0, 1] <| pbx 38 ((Msg.c m)) (.agg (Msg.c m)) fun V1 gm egm h2 kV1 => ?_
  have n3 : w.heap.size ≤ gm := egm ▸ K0.size
  have K4 := K0.nn kV1
  refine pal 38 ((Msg.c msgZ)) (.agg ((Msg.c msgZ))) fun V5 ga ega h6 kV5 => ?_
  have n7 : gm < ga := ega ▸ lt_of_block h2
  have n8 : w.heap.size ≤ ga := ega ▸ K4.size
  have h9 := kV5.bk h2
  have K10 := K4.nn kV5
  refine eqr_ [0, 1, 2, 3, 4, 5, 6] <| pkq (pT gm 0) <| ppq (.int .i64 m.k) (ldc 3 gm 0 (rc (h9) (Msg.get_n hr NF.k))) <| pkq (pT gm 1) <| ppq (.int .i64 m.f) (ldc 3 gm 1 (rc (h9) (Msg.get_n hr NF.f))) <| pkq (.agg (Msg.c (ownB m))) <| pal 38 ((Msg.c msgZ)) (.agg ((Msg.c msgZ))) fun V11 gx egx h12 kV11 => ?_
  have n13 : gm < gx := egx ▸ lt_of_block h9
  have n14 : ga < gx := egx ▸ lt_of_block h6
  have n15 : w.heap.size ≤ gx := egx ▸ K10.size
  have h16 := kV11.bk h9
  have h17 := kV11.bk h6
  have K18 := K10.nn kV11
  refine pst 38 gx ((Msg.c (ownB m))) h12 (by rw [Msg.c_size (ownB_R m)]; kernel_rfl) (by rw [Msg.c_size (ownB_R m)]; exact (Msg.c_size msgZ_R).symm) (Msg.c_one _) fun V19 h20 kV19 => ?_
  have h21 := kV19.bO h16
  have h22 := kV19.bO h17
  have K23 := K18.nO kV19
  refine eq_ <| qr_ [0, 1] <| pkq (pT gm 0) <| ppq (.int .i64 m.k) (ldc 3 gm 0 (rc (h21) (Msg.get_n hr NF.k))) <| et_ <| b_ 0 <| qr_ [0, 1] <| ppq (.bool false) (eqf ((m.k) : Int) ((1) : Int) (by omega)) <| pkq (.bool false) <| en_ <| qr_ [0, 1] <| ppq (.bool false) (eqf ((m.k) : Int) ((2) : Int) (by omega)) <| pkq (.bool false) <| en_ ?_
  refine qr_ [0, 1] <| ppq (.bool false) (eqf ((m.k) : Int) ((3) : Int) (by omega)) <| pkq (.bool false) <| en_ <| qr_ [0, 1] <| ppq (.bool false) (eqf ((m.k) : Int) ((4) : Int) (by omega)) <| pkq (.bool false) <| en_ <| qr_ [0, 1] <| ppq (.bool false) (eqf ((m.k) : Int) ((5) : Int) (by omega)) <| pkq (.bool false) <| en_ <| qr_ [0, 1] <| ppq (.bool false) (eqf ((m.k) : Int) ((6) : Int) (by omega)) ?_
  refine pkq (.bool false) <| en_ <| qr_ [0, 1] <| ppq (.bool false) (eqf ((m.k) : Int) ((7) : Int) (by omega)) <| pkq (.bool false) <| ps_end <| sy_a ⟨#[.agg (Msg.c m), pT gm 0, pT ga 0, pT gx 0, pT gm 0, .int .i64 m.k, pT gm 1, .int .i64 m.f, .agg (Msg.c (ownB m)), pT gm 0, .int .i64 m.k, .bool false, .bool false, ud, ud, ud, ud, ud, ud, .bool false, .bool false, ud, ud, ud, ud, ud, ud, .bool false, .bool false, ud, ud, ud, ud, ud, ud, .bool false, .bool false, ud, ud, ud, ud, ud, ud, .bool false, .bool false, ud, ud, ud, ud, ud, ud, ud, ud, ud, .bool false, .bool false, ud, ud, ud, .bool false, .bool false, ud, ud, ud, ud, ud, ud, ud, ud, ud, ud, ud, ud, ud, ud, ud, ud, ud, ud, ud, ud, ud, ud, ud, ud, ud, ud, ud, ud, ud, ud, ud, ud, ud, ud, ud, ud], []⟩ <| then_n <| n_ <| qr_ [0, 1] <| ppq (.bool false) (eqf ((m.k) : Int) ((8) : Int) (by omega)) <| pkq (.bool false) <| en_ <| qr_ [0, 1] ?_
  refine ppq (.bool false) (eqf ((m.k) : Int) ((9) : Int) (by omega)) <| pkq (.bool false) <| en_ <| qr_ [0, 1] <| ppq (.bool false) (eqf ((m.k) : Int) ((11) : Int) (by omega)) <| pkq (.bool false) <| en_ <| s_ <| blk_n <| tqr_ [0, 1] <| ppq (.agg (Msg.c ((ownB m)))) (ldr 38 gx (h20) (by rw [Msg.c_size (ownB_R m)]; kernel_rfl)) <| pst 38 ga ((Msg.c ((ownB m)))) h22 (by rw [Msg.c_size (ownB_R m)]; kernel_rfl) (by rw [Msg.c_size (ownB_R m)]; exact (Msg.c_size msgZ_R).symm) (Msg.c_one _) fun V24 h25 kV24 => ?_
  have K28 := K23.nO kV24
  refine eu_ <| sy_out (.agg (Msg.c ((ownB m)))) rfl (results_cell_row (p := 2) (ty := 38) (by kernel_rfl) _ _ ga 38 (Msg.c ((ownB m))) (0, 0) _ (by kernel_rfl) h25 Tryz.underlying38 rfl (by rw [Msg.c_size (ownB_R m)]; kernel_rfl)) ?_
  exact ⟨rfl, K28⟩
theorem rmown_11 (m : Msg) (w : World) (hr : m.R) (hk : m.k = 11) :
    Calls Tryz.prog 109 #[.agg (Msg.c m)] w (fun e w' => e = .returned (.agg (Msg.c (ownK m 11))) ∧ Keeps Nob w w') := by
  have K0 : Keeps Nob w w := Keeps.refl _ _
  refine sy_enter (qc97_1 1) ⟨#[.agg (Msg.c m), ud, ud, ud, ud, ud, ud, ud, ud, ud, ud, ud, ud, ud, ud, ud, ud, ud, ud, ud, ud, ud, ud, ud, ud, ud, ud, ud, ud, ud, ud, ud, ud, ud, ud, ud, ud, ud, ud, ud, ud, ud, ud, ud, ud, ud, ud, ud, ud, ud, ud, ud, ud, ud, ud, ud, ud, ud, ud, ud, ud, ud, ud, ud, ud, ud, ud, ud, ud, ud, ud, ud, ud, ud, ud, ud, ud, ud, ud, ud, ud, ud, ud, ud, ud, ud, ud, ud, ud, ud, ud, ud, ud, ud, ud, ud, ud], []⟩ Tryz.func109 (by kernel_rfl) (by kernel_rfl) <| qr_ [0, 1] <| pbx 38 ((Msg.c m)) (.agg (Msg.c m)) fun V1 gm egm h2 kV1 => ?_
  have n3 : w.heap.size ≤ gm := egm ▸ K0.size
  have K4 := K0.nn kV1
  refine pal 38 ((Msg.c msgZ)) (.agg ((Msg.c msgZ))) fun V5 ga ega h6 kV5 => ?_
  have n7 : gm < ga := ega ▸ lt_of_block h2
  have n8 : w.heap.size ≤ ga := ega ▸ K4.size
  have h9 := kV5.bk h2
  have K10 := K4.nn kV5
  refine eqr_ [0, 1, 2, 3, 4, 5, 6] <| pkq (pT gm 0) <| ppq (.int .i64 m.k) (ldc 3 gm 0 (rc (h9) (Msg.get_n hr NF.k))) <| pkq (pT gm 1) <| ppq (.int .i64 m.f) (ldc 3 gm 1 (rc (h9) (Msg.get_n hr NF.f))) <| pkq (.agg (Msg.c (ownB m))) <| pal 38 ((Msg.c msgZ)) (.agg ((Msg.c msgZ))) fun V11 gx egx h12 kV11 => ?_
  have n13 : gm < gx := egx ▸ lt_of_block h9
  have n14 : ga < gx := egx ▸ lt_of_block h6
  have n15 : w.heap.size ≤ gx := egx ▸ K10.size
  have h16 := kV11.bk h9
  have h17 := kV11.bk h6
  have K18 := K10.nn kV11
  refine pst 38 gx ((Msg.c (ownB m))) h12 (by rw [Msg.c_size (ownB_R m)]; kernel_rfl) (by rw [Msg.c_size (ownB_R m)]; exact (Msg.c_size msgZ_R).symm) (Msg.c_one _) fun V19 h20 kV19 => ?_
  have h21 := kV19.bO h16
  have h22 := kV19.bO h17
  have K23 := K18.nO kV19
  refine eq_ <| qr_ [0, 1] <| pkq (pT gm 0) <| ppq (.int .i64 m.k) (ldc 3 gm 0 (rc (h21) (Msg.get_n hr NF.k))) <| et_ <| b_ 0 <| qr_ [0, 1] <| ppq (.bool false) (eqf ((m.k) : Int) ((1) : Int) (by omega)) <| pkq (.bool false) <| en_ <| qr_ [0, 1] <| ppq (.bool false) (eqf ((m.k) : Int) ((2) : Int) (by omega)) <| pkq (.bool false) <| en_ ?_
  refine qr_ [0, 1] <| ppq (.bool false) (eqf ((m.k) : Int) ((3) : Int) (by omega)) <| pkq (.bool false) <| en_ <| qr_ [0, 1] <| ppq (.bool false) (eqf ((m.k) : Int) ((4) : Int) (by omega)) <| pkq (.bool false) <| en_ <| qr_ [0, 1] <| ppq (.bool false) (eqf ((m.k) : Int) ((5) : Int) (by omega)) <| pkq (.bool false) <| en_ <| qr_ [0, 1] <| ppq (.bool false) (eqf ((m.k) : Int) ((6) : Int) (by omega)) ?_
  refine pkq (.bool false) <| en_ <| qr_ [0, 1] <| ppq (.bool false) (eqf ((m.k) : Int) ((7) : Int) (by omega)) <| pkq (.bool false) <| ps_end <| sy_a ⟨#[.agg (Msg.c m), pT gm 0, pT ga 0, pT gx 0, pT gm 0, .int .i64 m.k, pT gm 1, .int .i64 m.f, .agg (Msg.c (ownB m)), pT gm 0, .int .i64 m.k, .bool false, .bool false, ud, ud, ud, ud, ud, ud, .bool false, .bool false, ud, ud, ud, ud, ud, ud, .bool false, .bool false, ud, ud, ud, ud, ud, ud, .bool false, .bool false, ud, ud, ud, ud, ud, ud, .bool false, .bool false, ud, ud, ud, ud, ud, ud, ud, ud, ud, .bool false, .bool false, ud, ud, ud, .bool false, .bool false, ud, ud, ud, ud, ud, ud, ud, ud, ud, ud, ud, ud, ud, ud, ud, ud, ud, ud, ud, ud, ud, ud, ud, ud, ud, ud, ud, ud, ud, ud, ud, ud, ud, ud, ud, ud], []⟩ <| then_n <| n_ <| qr_ [0, 1] <| ppq (.bool false) (eqf ((m.k) : Int) ((8) : Int) (by omega)) <| pkq (.bool false) <| en_ <| qr_ [0, 1] ?_
  refine ppq (.bool false) (eqf ((m.k) : Int) ((9) : Int) (by omega)) <| pkq (.bool false) <| en_ <| qr_ [0, 1] <| ppq (.bool true) (eqt ((m.k) : Int) ((11) : Int) (by omega)) <| pkq (.bool true) <| ey_ <| r_ [0, 1, 2, 3, 4, 5] <| pkq (pT gm 0) <| ppq (.int .i64 m.k) (ldc 3 gm 0 (rc (h21) (Msg.get_n hr NF.k))) <| pkq (pT gm 10) <| ppq (.int .i64 m.n) (ldc 3 gm 10 (rc (h21) (Msg.get_n hr NF.n))) <| pkq (.agg (Msg.c ({ onlyK m.k with n := m.n } : Msg))) <| pst 38 gx ((Msg.c ({ onlyK m.k with n := m.n } : Msg))) h20 (by rw [Msg.c_size (onlyN_R m)]; kernel_rfl) (by rw [Msg.c_size (onlyN_R m)]; exact (Msg.c_size (ownB_R m)).symm) (Msg.c_one _) fun V24 h25 kV24 => ?_
  have h27 := kV24.bO h22
  have K28 := K23.nO kV24
  refine ps_end <| blk_n <| tqr_ [0, 1] <| ppq (.agg (Msg.c (({ onlyK m.k with n := m.n } : Msg)))) (ldr 38 gx (h25) (by rw [Msg.c_size (onlyN_R m)]; kernel_rfl)) <| pst 38 ga ((Msg.c (({ onlyK m.k with n := m.n } : Msg)))) h27 (by rw [Msg.c_size (onlyN_R m)]; kernel_rfl) (by rw [Msg.c_size (onlyN_R m)]; exact (Msg.c_size msgZ_R).symm) (Msg.c_one _) fun V29 h30 kV29 => ?_
  have K33 := K28.nO kV29
  refine eu_ <| sy_out (.agg (Msg.c (({ onlyK m.k with n := m.n } : Msg)))) rfl (results_cell_row (p := 2) (ty := 38) (by kernel_rfl) _ _ ga 38 (Msg.c (({ onlyK m.k with n := m.n } : Msg))) (0, 0) _ (by kernel_rfl) h30 Tryz.underlying38 rfl (by rw [Msg.c_size (onlyN_R m)]; kernel_rfl)) ?_
  exact ⟨rfl, K33⟩
theorem rmown_8t (m : Msg) (w : World) (hr : m.R) (hk : m.k = 8) (hp : m.pf = 3) :
    Calls Tryz.prog 109 #[.agg (Msg.c m)] w (fun e w' => e = .returned (.agg (Msg.c (ownK m 8))) ∧ Keeps Nob w w') := by
  have K0 : Keeps Nob w w := Keeps.refl _ _
  refine sy_enter (qc97_1 1) ⟨#[.agg (Msg.c m), ud, ud, ud, ud, ud, ud, ud, ud, ud, ud, ud, ud, ud, ud, ud, ud, ud, ud, ud, ud, ud, ud, ud, ud, ud, ud, ud, ud, ud, ud, ud, ud, ud, ud, ud, ud, ud, ud, ud, ud, ud, ud, ud, ud, ud, ud, ud, ud, ud, ud, ud, ud, ud, ud, ud, ud, ud, ud, ud, ud, ud, ud, ud, ud, ud, ud, ud, ud, ud, ud, ud, ud, ud, ud, ud, ud, ud, ud, ud, ud, ud, ud, ud, ud, ud, ud, ud, ud, ud, ud, ud, ud, ud, ud, ud, ud], []⟩ Tryz.func109 (by kernel_rfl) (by kernel_rfl) <| qr_ [0, 1] <| pbx 38 ((Msg.c m)) (.agg (Msg.c m)) fun V1 gm egm h2 kV1 => ?_
  have n3 : w.heap.size ≤ gm := egm ▸ K0.size
  have K4 := K0.nn kV1
  refine pal 38 ((Msg.c msgZ)) (.agg ((Msg.c msgZ))) fun V5 ga ega h6 kV5 => ?_
  have n7 : gm < ga := ega ▸ lt_of_block h2
  have n8 : w.heap.size ≤ ga := ega ▸ K4.size
  have h9 := kV5.bk h2
  have K10 := K4.nn kV5
  refine eqr_ [0, 1, 2, 3, 4, 5, 6] <| pkq (pT gm 0) <| ppq (.int .i64 m.k) (ldc 3 gm 0 (rc (h9) (Msg.get_n hr NF.k))) <| pkq (pT gm 1) <| ppq (.int .i64 m.f) (ldc 3 gm 1 (rc (h9) (Msg.get_n hr NF.f))) <| pkq (.agg (Msg.c (ownB m))) <| pal 38 ((Msg.c msgZ)) (.agg ((Msg.c msgZ))) fun V11 gx egx h12 kV11 => ?_
  have n13 : gm < gx := egx ▸ lt_of_block h9
  have n14 : ga < gx := egx ▸ lt_of_block h6
  have n15 : w.heap.size ≤ gx := egx ▸ K10.size
  have h16 := kV11.bk h9
  have h17 := kV11.bk h6
  have K18 := K10.nn kV11
  refine pst 38 gx ((Msg.c (ownB m))) h12 (by rw [Msg.c_size (ownB_R m)]; kernel_rfl) (by rw [Msg.c_size (ownB_R m)]; exact (Msg.c_size msgZ_R).symm) (Msg.c_one _) fun V19 h20 kV19 => ?_
  have h21 := kV19.bO h16
  have h22 := kV19.bO h17
  have K23 := K18.nO kV19
  refine eq_ <| qr_ [0, 1] <| pkq (pT gm 0) <| ppq (.int .i64 m.k) (ldc 3 gm 0 (rc (h21) (Msg.get_n hr NF.k))) <| et_ <| b_ 0 <| qr_ [0, 1] <| ppq (.bool false) (eqf ((m.k) : Int) ((1) : Int) (by omega)) <| pkq (.bool false) <| en_ <| qr_ [0, 1] <| ppq (.bool false) (eqf ((m.k) : Int) ((2) : Int) (by omega)) <| pkq (.bool false) <| en_ ?_
  refine qr_ [0, 1] <| ppq (.bool false) (eqf ((m.k) : Int) ((3) : Int) (by omega)) <| pkq (.bool false) <| en_ <| qr_ [0, 1] <| ppq (.bool false) (eqf ((m.k) : Int) ((4) : Int) (by omega)) <| pkq (.bool false) <| en_ <| qr_ [0, 1] <| ppq (.bool false) (eqf ((m.k) : Int) ((5) : Int) (by omega)) <| pkq (.bool false) <| en_ <| qr_ [0, 1] <| ppq (.bool false) (eqf ((m.k) : Int) ((6) : Int) (by omega)) ?_
  refine pkq (.bool false) <| en_ <| qr_ [0, 1] <| ppq (.bool false) (eqf ((m.k) : Int) ((7) : Int) (by omega)) <| pkq (.bool false) <| ps_end <| sy_a ⟨#[.agg (Msg.c m), pT gm 0, pT ga 0, pT gx 0, pT gm 0, .int .i64 m.k, pT gm 1, .int .i64 m.f, .agg (Msg.c (ownB m)), pT gm 0, .int .i64 m.k, .bool false, .bool false, ud, ud, ud, ud, ud, ud, .bool false, .bool false, ud, ud, ud, ud, ud, ud, .bool false, .bool false, ud, ud, ud, ud, ud, ud, .bool false, .bool false, ud, ud, ud, ud, ud, ud, .bool false, .bool false, ud, ud, ud, ud, ud, ud, ud, ud, ud, .bool false, .bool false, ud, ud, ud, .bool false, .bool false, ud, ud, ud, ud, ud, ud, ud, ud, ud, ud, ud, ud, ud, ud, ud, ud, ud, ud, ud, ud, ud, ud, ud, ud, ud, ud, ud, ud, ud, ud, ud, ud, ud, ud, ud, ud], []⟩ <| then_n <| n_ <| qr_ [0, 1] <| ppq (.bool true) (eqt ((m.k) : Int) ((8) : Int) (by omega)) <| pkq (.bool true) <| ey_ <| qr_ [0, 1, 2, 3] ?_
  refine pkq (pT gm 11) <| ppq (.int .i64 m.pf) (ldc 3 gm 11 (rc (h21) (Msg.get_n hr NF.pf))) <| pkq (pT gx 11) <| pce 3 gx 11 (.int .i64 m.pf) (Msg.c (NF.set ((ownB m)) m.pf .pf)) h20 (rc (h20) (Msg.get_n (ownB_R m) NF.pf)) (Msg.set_n (ownB_R m) NF.pf _) fun V24 h25 kV24 => ?_
  have h26 := kV24.bO h21
  have h27 := kV24.bO h22
  have K28 := K23.nO kV24
  refine eqr_ [0, 1, 2] <| pkq (pT gm 11) <| ppq (.int .i64 m.pf) (ldc 3 gm 11 (rc (h26) (Msg.get_n hr NF.pf))) <| ppq (.bool true) (eqt ((m.pf) : Int) ((3) : Int) (by omega)) <| ey_ <| sy_np <| sy_reg <| an_begin 20 8 (opsAt (qc97_1 30932982)) (fun W => (W.heap[gm]? = some (.cells (Msg.c m) 38 (0, 0)))) #[false, false, false, false, false, false, false, false] (by kernel_rfl) (by kernel_rfl) (by kernel_rfl) (by kernel_rfl) ?_
  obtain ⟨V29, eV29, kV29⟩ := drew_step V24
  rw [eV29]
  clear eV29
  have h30 := kV29.bk h26
  have h31 := kV29.bk h27
  have h32 := kV29.bk h25
  have K33 := K28.nn kV29
  refine akq 0 (pT gm 84) h30 <| avq 1 (.agg (Pro.c m.p)) (fun W hS => exec_load_seg 28 (.tmp 72) (by kernel_rfl) gm 84 (by kernel_rfl) (Pro.c m.p).toList _ _ _ hS (Msg.seg_P hr) Tryz.underlying28 rfl (by rw [Pro.tl hr.p]; kernel_rfl)) h30 <| akq 2 (pT gm 119) h30 <| avq 3 (.agg (Pro.c m.q)) (fun W hS => exec_load_seg 28 (.tmp 74) (by kernel_rfl) gm 119 (by kernel_rfl) (Pro.c m.q).toList _ _ _ hS (Msg.seg_Q hr) Tryz.underlying28 rfl (by rw [Pro.tl hr.q]; kernel_rfl)) h30 <| akq 4 (pT gx 84) h30 <| an_o 5 ?_
  obtain ⟨V34, eV34⟩ : ∃ V, V29.setCells gx 84 (Pro.c m.p).toList = V := ⟨_, rfl⟩
  have kV34 : Keeps (One gx) V29 V34 := eV34 ▸ Keeps.setCells _ _ _ _
  have h35 : V34.heap[gx]? = some (.cells (Msg.c (putP (NF.set ((ownB m)) m.pf .pf) m.p)) 38 (0, 0)) := eV34 ▸ (heap_setCells gx _ _ 84 _ _ h32 (show 84 + (Pro.c m.p).toList.length ≤ _ by rw [(show (Pro.c m.p).toList.length = 35 from Pro.tl hr.p), Msg.c_size (NF.R (ownB_R m))]; decide)).trans (congrArg (fun c => some (Obj.cells c 38 (0, 0))) (Msg.set_P (NF.R (ownB_R m)) _ hr.p))
  refine nzq (w' := V34) (by rw [← eV34]; exact exec_store_mid 28 (.tmp 76) (.tmp 73) (by kernel_rfl) gx 84 (by kernel_rfl) (Pro.c m.p) (by kernel_rfl) _ _ h32 (show 84 + (Pro.c m.p).toList.length ≤ _ by rw [(show (Pro.c m.p).toList.length = 35 from Pro.tl hr.p), Msg.c_size (NF.R (ownB_R m))]; decide) (by rw [Pro.c_size _ hr.p]; kernel_rfl) (Pro.c_one _)) ?_
  clear eV34
  have h36 := kV34.bO h30
  have h37 := kV34.bO h31
  have K38 := K33.nO kV34
  refine ⟨h36, ?_⟩
  refine akq 6 (pT gx 119) h36 <| an_o 7 ?_
  obtain ⟨V39, eV39⟩ : ∃ V, V34.setCells gx 119 (Pro.c m.q).toList = V := ⟨_, rfl⟩
  have kV39 : Keeps (One gx) V34 V39 := eV39 ▸ Keeps.setCells _ _ _ _
  have h40 : V39.heap[gx]? = some (.cells (Msg.c (putQ (putP (NF.set ((ownB m)) m.pf .pf) m.p) m.q)) 38 (0, 0)) := eV39 ▸ (heap_setCells gx _ _ 119 _ _ h35 (show 119 + (Pro.c m.q).toList.length ≤ _ by rw [(show (Pro.c m.q).toList.length = 35 from Pro.tl hr.q), Msg.c_size (putP_R (NF.R (ownB_R m)) hr.p)]; decide)).trans (congrArg (fun c => some (Obj.cells c 38 (0, 0))) (Msg.set_Q (putP_R (NF.R (ownB_R m)) hr.p) _ hr.q))
  refine nzq (w' := V39) (by rw [← eV39]; exact exec_store_mid 28 (.tmp 77) (.tmp 75) (by kernel_rfl) gx 119 (by kernel_rfl) (Pro.c m.q) (by kernel_rfl) _ _ h35 (show 119 + (Pro.c m.q).toList.length ≤ _ by rw [(show (Pro.c m.q).toList.length = 35 from Pro.tl hr.q), Msg.c_size (putP_R (NF.R (ownB_R m)) hr.p)]; decide) (by rw [Pro.c_size _ hr.q]; kernel_rfl) (Pro.c_one _)) ?_
  clear eV39
  have h41 := kV39.bO h36
  have h42 := kV39.bO h37
  have K43 := K38.nO kV39
  refine ⟨h41, ?_⟩
  refine an_end (by kernel_rfl) <| blk_n <| tqr_ [0, 1] <| ppq (.agg (Msg.c (putQ (putP (NF.set ((ownB m)) m.pf .pf) m.p) m.q))) (ldr 38 gx (h40) (by rw [Msg.c_size (putQ_R (putP_R (NF.R (ownB_R m)) hr.p) hr.q)]; kernel_rfl)) <| pst 38 ga ((Msg.c (putQ (putP (NF.set ((ownB m)) m.pf .pf) m.p) m.q))) h42 (by rw [Msg.c_size (putQ_R (putP_R (NF.R (ownB_R m)) hr.p) hr.q)]; kernel_rfl) (by rw [Msg.c_size (putQ_R (putP_R (NF.R (ownB_R m)) hr.p) hr.q)]; exact (Msg.c_size msgZ_R).symm) (Msg.c_one _) fun V44 h45 kV44 => ?_
  have K48 := K43.nO kV44
  refine eu_ <| sy_out (.agg (Msg.c (putQ (putP (NF.set ((ownB m)) m.pf .pf) m.p) m.q))) rfl (results_cell_row (p := 2) (ty := 38) (by kernel_rfl) _ _ ga 38 (Msg.c (putQ (putP (NF.set ((ownB m)) m.pf .pf) m.p) m.q)) (0, 0) _ (by kernel_rfl) h45 Tryz.underlying38 rfl (by rw [Msg.c_size (putQ_R (putP_R (NF.R (ownB_R m)) hr.p) hr.q)]; kernel_rfl)) ?_
  exact ⟨by rw [show ownK m 8 = _ from if_pos hp]; rfl, K48⟩
theorem rmown_8f (m : Msg) (w : World) (hr : m.R) (hk : m.k = 8) (hp : ¬ m.pf = 3) :
    Calls Tryz.prog 109 #[.agg (Msg.c m)] w (fun e w' => e = .returned (.agg (Msg.c (ownK m 8))) ∧ Keeps Nob w w') := by
  have K0 : Keeps Nob w w := Keeps.refl _ _
  refine sy_enter (qc97_1 1) ⟨#[.agg (Msg.c m), ud, ud, ud, ud, ud, ud, ud, ud, ud, ud, ud, ud, ud, ud, ud, ud, ud, ud, ud, ud, ud, ud, ud, ud, ud, ud, ud, ud, ud, ud, ud, ud, ud, ud, ud, ud, ud, ud, ud, ud, ud, ud, ud, ud, ud, ud, ud, ud, ud, ud, ud, ud, ud, ud, ud, ud, ud, ud, ud, ud, ud, ud, ud, ud, ud, ud, ud, ud, ud, ud, ud, ud, ud, ud, ud, ud, ud, ud, ud, ud, ud, ud, ud, ud, ud, ud, ud, ud, ud, ud, ud, ud, ud, ud, ud, ud], []⟩ Tryz.func109 (by kernel_rfl) (by kernel_rfl) <| qr_ [0, 1] <| pbx 38 ((Msg.c m)) (.agg (Msg.c m)) fun V1 gm egm h2 kV1 => ?_
  have n3 : w.heap.size ≤ gm := egm ▸ K0.size
  have K4 := K0.nn kV1
  refine pal 38 ((Msg.c msgZ)) (.agg ((Msg.c msgZ))) fun V5 ga ega h6 kV5 => ?_
  have n7 : gm < ga := ega ▸ lt_of_block h2
  have n8 : w.heap.size ≤ ga := ega ▸ K4.size
  have h9 := kV5.bk h2
  have K10 := K4.nn kV5
  refine eqr_ [0, 1, 2, 3, 4, 5, 6] <| pkq (pT gm 0) <| ppq (.int .i64 m.k) (ldc 3 gm 0 (rc (h9) (Msg.get_n hr NF.k))) <| pkq (pT gm 1) <| ppq (.int .i64 m.f) (ldc 3 gm 1 (rc (h9) (Msg.get_n hr NF.f))) <| pkq (.agg (Msg.c (ownB m))) <| pal 38 ((Msg.c msgZ)) (.agg ((Msg.c msgZ))) fun V11 gx egx h12 kV11 => ?_
  have n13 : gm < gx := egx ▸ lt_of_block h9
  have n14 : ga < gx := egx ▸ lt_of_block h6
  have n15 : w.heap.size ≤ gx := egx ▸ K10.size
  have h16 := kV11.bk h9
  have h17 := kV11.bk h6
  have K18 := K10.nn kV11
  refine pst 38 gx ((Msg.c (ownB m))) h12 (by rw [Msg.c_size (ownB_R m)]; kernel_rfl) (by rw [Msg.c_size (ownB_R m)]; exact (Msg.c_size msgZ_R).symm) (Msg.c_one _) fun V19 h20 kV19 => ?_
  have h21 := kV19.bO h16
  have h22 := kV19.bO h17
  have K23 := K18.nO kV19
  refine eq_ <| qr_ [0, 1] <| pkq (pT gm 0) <| ppq (.int .i64 m.k) (ldc 3 gm 0 (rc (h21) (Msg.get_n hr NF.k))) <| et_ <| b_ 0 <| qr_ [0, 1] <| ppq (.bool false) (eqf ((m.k) : Int) ((1) : Int) (by omega)) <| pkq (.bool false) <| en_ <| qr_ [0, 1] <| ppq (.bool false) (eqf ((m.k) : Int) ((2) : Int) (by omega)) <| pkq (.bool false) <| en_ ?_
  refine qr_ [0, 1] <| ppq (.bool false) (eqf ((m.k) : Int) ((3) : Int) (by omega)) <| pkq (.bool false) <| en_ <| qr_ [0, 1] <| ppq (.bool false) (eqf ((m.k) : Int) ((4) : Int) (by omega)) <| pkq (.bool false) <| en_ <| qr_ [0, 1] <| ppq (.bool false) (eqf ((m.k) : Int) ((5) : Int) (by omega)) <| pkq (.bool false) <| en_ <| qr_ [0, 1] <| ppq (.bool false) (eqf ((m.k) : Int) ((6) : Int) (by omega)) ?_
  refine pkq (.bool false) <| en_ <| qr_ [0, 1] <| ppq (.bool false) (eqf ((m.k) : Int) ((7) : Int) (by omega)) <| pkq (.bool false) <| ps_end <| sy_a ⟨#[.agg (Msg.c m), pT gm 0, pT ga 0, pT gx 0, pT gm 0, .int .i64 m.k, pT gm 1, .int .i64 m.f, .agg (Msg.c (ownB m)), pT gm 0, .int .i64 m.k, .bool false, .bool false, ud, ud, ud, ud, ud, ud, .bool false, .bool false, ud, ud, ud, ud, ud, ud, .bool false, .bool false, ud, ud, ud, ud, ud, ud, .bool false, .bool false, ud, ud, ud, ud, ud, ud, .bool false, .bool false, ud, ud, ud, ud, ud, ud, ud, ud, ud, .bool false, .bool false, ud, ud, ud, .bool false, .bool false, ud, ud, ud, ud, ud, ud, ud, ud, ud, ud, ud, ud, ud, ud, ud, ud, ud, ud, ud, ud, ud, ud, ud, ud, ud, ud, ud, ud, ud, ud, ud, ud, ud, ud, ud, ud], []⟩ <| then_n <| n_ <| qr_ [0, 1] <| ppq (.bool true) (eqt ((m.k) : Int) ((8) : Int) (by omega)) <| pkq (.bool true) <| ey_ <| qr_ [0, 1, 2, 3] ?_
  refine pkq (pT gm 11) <| ppq (.int .i64 m.pf) (ldc 3 gm 11 (rc (h21) (Msg.get_n hr NF.pf))) <| pkq (pT gx 11) <| pce 3 gx 11 (.int .i64 m.pf) (Msg.c (NF.set ((ownB m)) m.pf .pf)) h20 (rc (h20) (Msg.get_n (ownB_R m) NF.pf)) (Msg.set_n (ownB_R m) NF.pf _) fun V24 h25 kV24 => ?_
  have h26 := kV24.bO h21
  have h27 := kV24.bO h22
  have K28 := K23.nO kV24
  refine eqr_ [0, 1, 2] <| pkq (pT gm 11) <| ppq (.int .i64 m.pf) (ldc 3 gm 11 (rc (h26) (Msg.get_n hr NF.pf))) <| ppq (.bool false) (eqf ((m.pf) : Int) ((3) : Int) (by omega)) <| en_ <| sy_np <| sy_reg <| an_begin 21 8 (opsAt (qc97_1 30932983)) (fun W => (W.heap[gm]? = some (.cells (Msg.c m) 38 (0, 0)))) #[false, false, false, false, false, false, false, false] (by kernel_rfl) (by kernel_rfl) (by kernel_rfl) (by kernel_rfl) ?_
  obtain ⟨V29, eV29, kV29⟩ := drew_step V24
  rw [eV29]
  clear eV29
  have h30 := kV29.bk h26
  have h31 := kV29.bk h27
  have h32 := kV29.bk h25
  have K33 := K28.nn kV29
  refine akq 0 (pT gm 12) h30 <| avq 1 (.agg (Att.c m.a)) (fun W hS => exec_load_seg 26 (.tmp 78) (by kernel_rfl) gm 12 (by kernel_rfl) (Att.c m.a).toList _ _ _ hS (Msg.seg_A hr) Tryz.underlying26 rfl (by rw [Att.tl hr.a]; kernel_rfl)) h30 <| akq 2 (pT gm 48) h30 <| avq 3 (.agg (Att.c m.b)) (fun W hS => exec_load_seg 26 (.tmp 80) (by kernel_rfl) gm 48 (by kernel_rfl) (Att.c m.b).toList _ _ _ hS (Msg.seg_B hr) Tryz.underlying26 rfl (by rw [Att.tl hr.b]; kernel_rfl)) h30 <| akq 4 (pT gx 12) h30 <| an_o 5 ?_
  obtain ⟨V34, eV34⟩ : ∃ V, V29.setCells gx 12 (Att.c m.a).toList = V := ⟨_, rfl⟩
  have kV34 : Keeps (One gx) V29 V34 := eV34 ▸ Keeps.setCells _ _ _ _
  have h35 : V34.heap[gx]? = some (.cells (Msg.c (putA (NF.set ((ownB m)) m.pf .pf) m.a)) 38 (0, 0)) := eV34 ▸ (heap_setCells gx _ _ 12 _ _ h32 (show 12 + (Att.c m.a).toList.length ≤ _ by rw [(show (Att.c m.a).toList.length = 36 from Att.tl hr.a), Msg.c_size (NF.R (ownB_R m))]; decide)).trans (congrArg (fun c => some (Obj.cells c 38 (0, 0))) (Msg.set_A (NF.R (ownB_R m)) _ hr.a))
  refine nzq (w' := V34) (by rw [← eV34]; exact exec_store_mid 26 (.tmp 82) (.tmp 79) (by kernel_rfl) gx 12 (by kernel_rfl) (Att.c m.a) (by kernel_rfl) _ _ h32 (show 12 + (Att.c m.a).toList.length ≤ _ by rw [(show (Att.c m.a).toList.length = 36 from Att.tl hr.a), Msg.c_size (NF.R (ownB_R m))]; decide) (by rw [Att.c_size _ hr.a]; kernel_rfl) (Att.c_one _)) ?_
  clear eV34
  have h36 := kV34.bO h30
  have h37 := kV34.bO h31
  have K38 := K33.nO kV34
  refine ⟨h36, ?_⟩
  refine akq 6 (pT gx 48) h36 <| an_o 7 ?_
  obtain ⟨V39, eV39⟩ : ∃ V, V34.setCells gx 48 (Att.c m.b).toList = V := ⟨_, rfl⟩
  have kV39 : Keeps (One gx) V34 V39 := eV39 ▸ Keeps.setCells _ _ _ _
  have h40 : V39.heap[gx]? = some (.cells (Msg.c (putB (putA (NF.set ((ownB m)) m.pf .pf) m.a) m.b)) 38 (0, 0)) := eV39 ▸ (heap_setCells gx _ _ 48 _ _ h35 (show 48 + (Att.c m.b).toList.length ≤ _ by rw [(show (Att.c m.b).toList.length = 36 from Att.tl hr.b), Msg.c_size (putA_R (NF.R (ownB_R m)) hr.a)]; decide)).trans (congrArg (fun c => some (Obj.cells c 38 (0, 0))) (Msg.set_B (putA_R (NF.R (ownB_R m)) hr.a) _ hr.b))
  refine nzq (w' := V39) (by rw [← eV39]; exact exec_store_mid 26 (.tmp 83) (.tmp 81) (by kernel_rfl) gx 48 (by kernel_rfl) (Att.c m.b) (by kernel_rfl) _ _ h35 (show 48 + (Att.c m.b).toList.length ≤ _ by rw [(show (Att.c m.b).toList.length = 36 from Att.tl hr.b), Msg.c_size (putA_R (NF.R (ownB_R m)) hr.a)]; decide) (by rw [Att.c_size _ hr.b]; kernel_rfl) (Att.c_one _)) ?_
  clear eV39
  have h41 := kV39.bO h36
  have h42 := kV39.bO h37
  have K43 := K38.nO kV39
  refine ⟨h41, ?_⟩
  refine an_end (by kernel_rfl) <| blk_n <| tqr_ [0, 1] <| ppq (.agg (Msg.c (putB (putA (NF.set ((ownB m)) m.pf .pf) m.a) m.b))) (ldr 38 gx (h40) (by rw [Msg.c_size (putB_R (putA_R (NF.R (ownB_R m)) hr.a) hr.b)]; kernel_rfl)) <| pst 38 ga ((Msg.c (putB (putA (NF.set ((ownB m)) m.pf .pf) m.a) m.b))) h42 (by rw [Msg.c_size (putB_R (putA_R (NF.R (ownB_R m)) hr.a) hr.b)]; kernel_rfl) (by rw [Msg.c_size (putB_R (putA_R (NF.R (ownB_R m)) hr.a) hr.b)]; exact (Msg.c_size msgZ_R).symm) (Msg.c_one _) fun V44 h45 kV44 => ?_
  have K48 := K43.nO kV44
  refine eu_ <| sy_out (.agg (Msg.c (putB (putA (NF.set ((ownB m)) m.pf .pf) m.a) m.b))) rfl (results_cell_row (p := 2) (ty := 38) (by kernel_rfl) _ _ ga 38 (Msg.c (putB (putA (NF.set ((ownB m)) m.pf .pf) m.a) m.b)) (0, 0) _ (by kernel_rfl) h45 Tryz.underlying38 rfl (by rw [Msg.c_size (putB_R (putA_R (NF.R (ownB_R m)) hr.a) hr.b)]; kernel_rfl)) ?_
  exact ⟨by rw [show ownK m 8 = _ from if_neg hp]; rfl, K48⟩
theorem ownK_R {m : Msg} (hr : m.R) (k : Nat) : (ownK m k).R := by
  unfold ownK
  split <;> try (split)
  all_goals exact ⟨by first | exact hr.a | rfl, by first | exact hr.b | rfl, by first | exact hr.p | rfl, by first | exact hr.q | rfl⟩
theorem rmown_ok (m : Msg) (w : World) (hr : m.R) (h1 : 1 ≤ m.k) (h2 : m.k ≤ 11) : Calls Tryz.prog 109 #[.agg (Msg.c m)] w (fun e w' => e = .returned (.agg (Msg.c (ownK m m.k.toNat))) ∧ Keeps Nob w w') := by
  rcases (show m.k = 1 ∨ m.k = 2 ∨ m.k = 3 ∨ m.k = 4 ∨ m.k = 5 ∨ m.k = 6 ∨ m.k = 7 ∨ m.k = 8 ∨ m.k = 9 ∨ m.k = 10 ∨ m.k = 11 by omega) with h | h | h | h | h | h | h | h | h | h | h
  · rw [h]; exact rmown_1 m w hr h
  · rw [h]; exact rmown_2 m w hr h
  · rw [h]; exact rmown_3 m w hr h
  · rw [h]; exact rmown_4 m w hr h
  · rw [h]; exact rmown_5 m w hr h
  · rw [h]; exact rmown_6 m w hr h
  · rw [h]; exact rmown_7 m w hr h
  · rw [h]
    by_cases hp : m.pf = 3
    · exact rmown_8t m w hr h hp
    · exact rmown_8f m w hr h hp
  · rw [h]; exact rmown_9 m w hr h
  · rw [h]; exact rmown_10 m w hr h
  · rw [h]; exact rmown_11 m w hr h
theorem own_clr (m : Msg) (hf : m.form) : (ownK m m.k.toNat = m) ↔ (clrAll m = onlyK m.k) := by
  have hk := hf.1
  obtain ⟨k, f, vl, t, am, mn, sv, ss, sp, sf, n, pf, a, b, p, q⟩ := m
  obtain ⟨av, as_, at_, ar, ag⟩ := a
  obtain ⟨bv, bs, bt, br, bg⟩ := b
  obtain ⟨pv, ph, pr, pg⟩ := p
  obtain ⟨qv, qh, qr, qg⟩ := q
  simp only at hk
  rcases (show k = 1 ∨ k = 2 ∨ k = 3 ∨ k = 4 ∨ k = 5 ∨ k = 6 ∨ k = 7 ∨ k = 8 ∨ k = 9 ∨ k = 10 ∨ k = 11 by omega) with rfl | rfl | rfl | rfl | rfl | rfl | rfl | rfl | rfl | rfl | rfl
  · show (ownK _ 1 = _) ↔ _
    unfold clrAll; rw [Msg.itemsk (k := 1) rfl (by decide)]
    simp [ownK, ownB, onlyK, msgZ, kM, lotM, voteM, blockM, clrIt, NF.set, AF.set, HF.set, eq_comm, and_assoc]
  · show (ownK _ 2 = _) ↔ _
    unfold clrAll; rw [Msg.itemsk (k := 2) rfl (by decide)]
    simp [ownK, ownB, onlyK, msgZ, kM, lotM, voteM, blockM, clrIt, NF.set, AF.set, HF.set, eq_comm, and_assoc]
  · show (ownK _ 3 = _) ↔ _
    unfold clrAll; rw [Msg.itemsk (k := 3) rfl (by decide)]
    simp [ownK, ownB, onlyK, msgZ, kM, lotM, voteM, blockM, clrIt, NF.set, AF.set, HF.set, eq_comm, and_assoc]
  · show (ownK _ 4 = _) ↔ _
    unfold clrAll; rw [Msg.itemsk (k := 4) rfl (by decide)]
    simp [ownK, ownB, onlyK, msgZ, kM, lotM, voteM, blockM, clrIt, NF.set, AF.set, HF.set, eq_comm, and_assoc]
  · show (ownK _ 5 = _) ↔ _
    unfold clrAll; rw [Msg.itemsk (k := 5) rfl (by decide)]
    simp [ownK, ownB, onlyK, msgZ, kM, lotM, voteM, blockM, clrIt, NF.set, AF.set, HF.set, eq_comm, and_assoc]
  · show (ownK _ 6 = _) ↔ _
    unfold clrAll; rw [Msg.itemsk (k := 6) rfl (by decide)]
    simp [ownK, ownB, onlyK, msgZ, kM, lotM, voteM, blockM, clrIt, NF.set, AF.set, HF.set, eq_comm, and_assoc]
  · show (ownK _ 7 = _) ↔ _
    unfold clrAll; rw [Msg.itemsk (k := 7) rfl (by decide)]
    simp [ownK, ownB, onlyK, msgZ, kM, lotM, voteM, blockM, clrIt, NF.set, AF.set, HF.set, eq_comm, and_assoc]
  · by_cases hp : pf = 3
    · subst hp
      show (ownK _ 8 = _) ↔ _
      unfold clrAll; rw [Msg.items8 rfl]
      simp only [ownK, if_pos, evM]
      simp [ownB, onlyK, msgZ, blockM, clrIt, NF.set, AF.set, HF.set, eq_comm, and_assoc]
    · show (ownK _ 8 = _) ↔ _
      unfold clrAll; rw [Msg.items8 rfl]
      simp only [ownK, if_neg hp, evM]
      simp [ownB, onlyK, msgZ, voteM, clrIt, NF.set, AF.set, HF.set, eq_comm, and_assoc]
  · show (ownK _ 9 = _) ↔ _
    unfold clrAll; rw [Msg.itemsk (k := 9) rfl (by decide)]
    simp [ownK, ownB, onlyK, msgZ, kM, lotM, voteM, blockM, clrIt, NF.set, AF.set, HF.set, eq_comm, and_assoc]
  · show (ownK _ 10 = _) ↔ _
    unfold clrAll; rw [Msg.itemsk (k := 10) rfl (by decide)]
    simp [ownK, ownB, onlyK, msgZ, kM, lotM, voteM, blockM, clrIt, NF.set, AF.set, HF.set, eq_comm, and_assoc]
  · show (ownK _ 11 = _) ↔ _
    unfold clrAll; rw [Msg.itemsk (k := 11) rfl (by decide)]
    simp [ownK, ownB, onlyK, msgZ, kM, lotM, voteM, blockM, clrIt, NF.set, AF.set, HF.set, eq_comm, and_assoc]
noncomputable def qc97_0 (n : Nat) : Code := partOf Tryz.f86 n
theorem rmCheck_f1 (m : Msg) (w : World) (hr : m.R) (hk : ¬ (1 ≤ m.k ∧ m.k ≤ 11)) :
    Calls Tryz.prog 86 #[.agg (Msg.c m)] w (fun e w' => e = .returned (.int .i64 5) ∧ Keeps Nob w w') := by
  have K0 : Keeps Nob w w := Keeps.refl _ _
  refine sy_enter (qc97_0 1) ⟨#[.agg (Msg.c m), ud, ud, ud, ud, ud, ud, ud, ud, ud, ud, ud, ud, ud, ud, ud, ud, ud, ud, ud, ud, ud, ud, ud, ud, ud, ud, ud], []⟩ Tryz.func86 (by kernel_rfl) (by kernel_rfl) <| qr_ [0, 1] <| pbx 38 ((Msg.c m)) (.agg (Msg.c m)) fun V1 gm egm h2 kV1 => ?_
  have n3 : w.heap.size ≤ gm := egm ▸ K0.size
  have K4 := K0.nn kV1
  refine pkq (.int .i64 0) <| eq_ <| b_ 0 <| qr_ [0, 1, 2, 3, 4, 5, 6, 7, 8, 9, 10, 11, 12, 13, 14, 15] <| pkq (pT gm 0) <| ppq (.int .i64 m.k) (ldc 3 gm 0 (rc (h2) (Msg.get_n hr NF.k))) ?_
  refine pcq 107 #[.int .i64 m.k, .int .i64 1, .int .i64 11] Tryz.func107 ((rmwithin_is _ _ _ _ (decide_eq_false hk)).mono ?_)
  rintro e w1 ⟨rfl, rfl⟩
  refine ⟨_, rfl, ?_⟩
  refine pkq (.bool true) <| pkq (.bool true) <| pnq <| pnq <| pnq <| pnq <| pnq <| pnq <| pnq <| pnq <| pnq <| pkq (.bool true) <| pkq (.bool true) <| ey_ ?_
  refine qr_ [0] <| pkq (.int .i64 5) <| eu_ <| blk_r <| then_r <| so_ (.int .i64 5) ?_
  exact ⟨rfl, K4⟩
theorem rmCheck_f2 (m : Msg) (w : World) (hr : m.R) (hk : 1 ≤ m.k ∧ m.k ≤ 11) (h8 : m.k = 8) (hp : ¬ (1 ≤ m.pf ∧ m.pf ≤ 3)) :
    Calls Tryz.prog 86 #[.agg (Msg.c m)] w (fun e w' => e = .returned (.int .i64 5) ∧ Keeps Nob w w') := by
  have K0 : Keeps Nob w w := Keeps.refl _ _
  refine sy_enter (qc97_0 1) ⟨#[.agg (Msg.c m), ud, ud, ud, ud, ud, ud, ud, ud, ud, ud, ud, ud, ud, ud, ud, ud, ud, ud, ud, ud, ud, ud, ud, ud, ud, ud, ud], []⟩ Tryz.func86 (by kernel_rfl) (by kernel_rfl) <| qr_ [0, 1] <| pbx 38 ((Msg.c m)) (.agg (Msg.c m)) fun V1 gm egm h2 kV1 => ?_
  have n3 : w.heap.size ≤ gm := egm ▸ K0.size
  have K4 := K0.nn kV1
  refine pkq (.int .i64 0) <| eq_ <| b_ 0 <| qr_ [0, 1, 2, 3, 4, 5, 6, 7, 8, 9, 10, 11, 12, 13, 14, 15] <| pkq (pT gm 0) <| ppq (.int .i64 m.k) (ldc 3 gm 0 (rc (h2) (Msg.get_n hr NF.k))) ?_
  refine pcq 107 #[.int .i64 m.k, .int .i64 1, .int .i64 11] Tryz.func107 ((rmwithin_is _ _ _ _ (decide_eq_true hk)).mono ?_)
  rintro e w1 ⟨rfl, rfl⟩
  refine ⟨_, rfl, ?_⟩
  refine pkq (.bool false) <| pkq (.bool false) <| pkq (pT gm 0) <| ppq (.int .i64 m.k) (ldc 3 gm 0 (rc (h2) (Msg.get_n hr NF.k))) <| ppq (.bool true) (eqt ((m.k) : Int) ((8) : Int) (by omega)) <| pkq (.bool true) <| pkq (pT gm 11) <| ppq (.int .i64 m.pf) (ldc 3 gm 11 (rc (h2) (Msg.get_n hr NF.pf))) ?_
  refine pcq 107 #[.int .i64 m.pf, .int .i64 1, .int .i64 3] Tryz.func107 ((rmwithin_is _ _ _ _ (decide_eq_false hp)).mono ?_)
  rintro e w1 ⟨rfl, rfl⟩
  refine ⟨_, rfl, ?_⟩
  refine pkq (.bool true) <| pkq (.bool true) <| pkq (.bool true) <| pkq (.bool true) <| ey_ <| qr_ [0] <| pkq (.int .i64 5) <| eu_ <| blk_r <| then_r <| so_ (.int .i64 5) ?_
  exact ⟨rfl, K4⟩
theorem rmCheck_range (m : Msg) (w : World) (hr : m.R) (hf : m.form) (hn : m.items.all (chkIt m) = false) :
    Calls Tryz.prog 86 #[.agg (Msg.c m)] w (fun e w' => e = .returned (.int .i64 3) ∧ Keeps Nob w w') := by
  have hk := hf.1
  have K0 : Keeps Nob w w := Keeps.refl _ _
  refine sy_enter (qc97_0 1) ⟨#[.agg (Msg.c m), ud, ud, ud, ud, ud, ud, ud, ud, ud, ud, ud, ud, ud, ud, ud, ud, ud, ud, ud, ud, ud, ud, ud, ud, ud, ud, ud], []⟩ Tryz.func86 (by kernel_rfl) (by kernel_rfl) <| qr_ [0, 1] <| pbx 38 ((Msg.c m)) (.agg (Msg.c m)) fun V1 gm egm h2 kV1 => ?_
  have n3 : w.heap.size ≤ gm := egm ▸ K0.size
  have K4 := K0.nn kV1
  refine pkq (.int .i64 0) <| eq_ <| b_ 0 <| q_ ?_
  refine sy_cut (fun aQ VQ => ∃ (u1_4 u1_5 u1_9 u1_10 u1_11 u1_12 u1_13 u1_14 u1_15 u1_16 : Value), (aQ = ⟨#[.agg (Msg.c m), .pointer (some ⟨gm, 0, none⟩), .int .i64 0, .bool false, u1_4, u1_5, .bool true, .bool false, .bool false, u1_9, u1_10, u1_11, u1_12, u1_13, u1_14, u1_15, u1_16, .bool false, .bool false, ud, ud, ud, ud, ud, ud, ud, ud, ud], []⟩) ∧ (VQ.heap[gm]? = some (.cells (Msg.c m) 38 (0, 0))) ∧ (V1.heap.size ≤ VQ.heap.size) ∧ (Keeps Nob w VQ)) ?_ ?_
  · rcases (show m.k ≠ 8 ∨ (m.k = 8 ∧ (1 ≤ m.pf ∧ m.pf ≤ 3)) by have := hf.2; omega) with h8 | ⟨h8, hp⟩
    · skip
      refine r_ [0, 1, 2, 3, 4, 5, 6, 7, 8, 9, 10, 11, 12, 13, 14, 15] <| pkq (pT gm 0) <| ppq (.int .i64 m.k) (ldc 3 gm 0 (rc (h2) (Msg.get_n hr NF.k))) ?_
      refine pcq 107 #[.int .i64 m.k, .int .i64 1, .int .i64 11] Tryz.func107 ((rmwithin_is _ _ _ _ (decide_eq_true hk)).mono ?_)
      rintro e w1 ⟨rfl, rfl⟩
      refine ⟨_, rfl, ?_⟩
      refine pkq (.bool false) <| pkq (.bool false) <| pkq (pT gm 0) <| ppq (.int .i64 m.k) (ldc 3 gm 0 (rc (h2) (Msg.get_n hr NF.k))) <| ppq (.bool false) (eqf ((m.k) : Int) ((8) : Int) (by omega)) <| pkq (.bool false) <| pnq <| pnq <| pnq <| pnq <| pkq (.bool false) <| pkq (.bool false) <| pkq (.bool false) <| ps_end ?_
      exact ⟨rfl, .pointer (some ⟨gm, 0, none⟩), .int .i64 m.k, .pointer (some ⟨gm, 0, none⟩), .int .i64 m.k, .bool false, .bool false, undef, undef, undef, undef, by kernel_rfl, h2, by omega, K4⟩
    · skip
      refine r_ [0, 1, 2, 3, 4, 5, 6, 7, 8, 9, 10, 11, 12, 13, 14, 15] <| pkq (pT gm 0) <| ppq (.int .i64 m.k) (ldc 3 gm 0 (rc (h2) (Msg.get_n hr NF.k))) ?_
      refine pcq 107 #[.int .i64 m.k, .int .i64 1, .int .i64 11] Tryz.func107 ((rmwithin_is _ _ _ _ (decide_eq_true hk)).mono ?_)
      rintro e w1 ⟨rfl, rfl⟩
      refine ⟨_, rfl, ?_⟩
      refine pkq (.bool false) <| pkq (.bool false) <| pkq (pT gm 0) <| ppq (.int .i64 m.k) (ldc 3 gm 0 (rc (h2) (Msg.get_n hr NF.k))) <| ppq (.bool true) (eqt ((m.k) : Int) ((8) : Int) (by omega)) <| pkq (.bool true) <| pkq (pT gm 11) <| ppq (.int .i64 m.pf) (ldc 3 gm 11 (rc (h2) (Msg.get_n hr NF.pf))) ?_
      refine pcq 107 #[.int .i64 m.pf, .int .i64 1, .int .i64 3] Tryz.func107 ((rmwithin_is _ _ _ _ (decide_eq_true hp)).mono ?_)
      rintro e w1 ⟨rfl, rfl⟩
      refine ⟨_, rfl, ?_⟩
      refine pkq (.bool false) <| pkq (.bool false) <| pkq (.bool false) <| pkq (.bool false) <| ps_end ?_
      exact ⟨rfl, .pointer (some ⟨gm, 0, none⟩), .int .i64 m.k, .pointer (some ⟨gm, 0, none⟩), .int .i64 m.k, .bool true, .bool true, .pointer (some ⟨gm, 11, none⟩), .int .i64 m.pf, .bool true, .bool false, by kernel_rfl, h2, by omega, K4⟩
  rintro aQ V5 ⟨u1_4, u1_5, u1_9, u1_10, u1_11, u1_12, u1_13, u1_14, u1_15, u1_16, rfl, h6, z7, K8⟩
  refine then_n <| n_ <| qr_ [0, 1, 2, 3] <| ppq (.agg (Msg.c m)) (ldr 38 gm (h6) (by rw [Msg.c_size hr]; kernel_rfl)) ?_
  refine pcq 108 #[.agg (Msg.c m)] Tryz.func108 (((hn ▸ rmfine_ok m _ hr hf)).mono ?_)
  rintro e V9 ⟨rfl, kV9⟩
  refine ⟨_, rfl, ?_⟩
  have K11 := K8.nn kV9
  refine pkq (.bool true) <| pkq (.bool true) <| ey_ <| qr_ [0] <| pkq (.int .i64 3) <| eu_ <| blk_r <| then_r <| so_ (.int .i64 3) ?_
  exact ⟨rfl, K11⟩
theorem rmCheck_arg (m : Msg) (w : World) (hr : m.R) (hf : m.form) (hn : m.items.all (chkIt m) = true) (hq : ¬ ownK m m.k.toNat = m) :
    Calls Tryz.prog 86 #[.agg (Msg.c m)] w (fun e w' => e = .returned (.int .i64 2) ∧ Keeps Nob w w') := by
  have hk := hf.1
  have K0 : Keeps Nob w w := Keeps.refl _ _
  refine sy_enter (qc97_0 1) ⟨#[.agg (Msg.c m), ud, ud, ud, ud, ud, ud, ud, ud, ud, ud, ud, ud, ud, ud, ud, ud, ud, ud, ud, ud, ud, ud, ud, ud, ud, ud, ud], []⟩ Tryz.func86 (by kernel_rfl) (by kernel_rfl) <| qr_ [0, 1] <| pbx 38 ((Msg.c m)) (.agg (Msg.c m)) fun V1 gm egm h2 kV1 => ?_
  have n3 : w.heap.size ≤ gm := egm ▸ K0.size
  have K4 := K0.nn kV1
  refine pkq (.int .i64 0) <| eq_ <| b_ 0 <| q_ ?_
  refine sy_cut (fun aQ VQ => ∃ (u1_4 u1_5 u1_9 u1_10 u1_11 u1_12 u1_13 u1_14 u1_15 u1_16 : Value), (aQ = ⟨#[.agg (Msg.c m), .pointer (some ⟨gm, 0, none⟩), .int .i64 0, .bool false, u1_4, u1_5, .bool true, .bool false, .bool false, u1_9, u1_10, u1_11, u1_12, u1_13, u1_14, u1_15, u1_16, .bool false, .bool false, ud, ud, ud, ud, ud, ud, ud, ud, ud], []⟩) ∧ (VQ.heap[gm]? = some (.cells (Msg.c m) 38 (0, 0))) ∧ (V1.heap.size ≤ VQ.heap.size) ∧ (Keeps Nob w VQ)) ?_ ?_
  · rcases (show m.k ≠ 8 ∨ (m.k = 8 ∧ (1 ≤ m.pf ∧ m.pf ≤ 3)) by have := hf.2; omega) with h8 | ⟨h8, hp⟩
    · skip
      refine r_ [0, 1, 2, 3, 4, 5, 6, 7, 8, 9, 10, 11, 12, 13, 14, 15] <| pkq (pT gm 0) <| ppq (.int .i64 m.k) (ldc 3 gm 0 (rc (h2) (Msg.get_n hr NF.k))) ?_
      refine pcq 107 #[.int .i64 m.k, .int .i64 1, .int .i64 11] Tryz.func107 ((rmwithin_is _ _ _ _ (decide_eq_true hk)).mono ?_)
      rintro e w1 ⟨rfl, rfl⟩
      refine ⟨_, rfl, ?_⟩
      refine pkq (.bool false) <| pkq (.bool false) <| pkq (pT gm 0) <| ppq (.int .i64 m.k) (ldc 3 gm 0 (rc (h2) (Msg.get_n hr NF.k))) <| ppq (.bool false) (eqf ((m.k) : Int) ((8) : Int) (by omega)) <| pkq (.bool false) <| pnq <| pnq <| pnq <| pnq <| pkq (.bool false) <| pkq (.bool false) <| pkq (.bool false) <| ps_end ?_
      exact ⟨rfl, .pointer (some ⟨gm, 0, none⟩), .int .i64 m.k, .pointer (some ⟨gm, 0, none⟩), .int .i64 m.k, .bool false, .bool false, undef, undef, undef, undef, by kernel_rfl, h2, by omega, K4⟩
    · skip
      refine r_ [0, 1, 2, 3, 4, 5, 6, 7, 8, 9, 10, 11, 12, 13, 14, 15] <| pkq (pT gm 0) <| ppq (.int .i64 m.k) (ldc 3 gm 0 (rc (h2) (Msg.get_n hr NF.k))) ?_
      refine pcq 107 #[.int .i64 m.k, .int .i64 1, .int .i64 11] Tryz.func107 ((rmwithin_is _ _ _ _ (decide_eq_true hk)).mono ?_)
      rintro e w1 ⟨rfl, rfl⟩
      refine ⟨_, rfl, ?_⟩
      refine pkq (.bool false) <| pkq (.bool false) <| pkq (pT gm 0) <| ppq (.int .i64 m.k) (ldc 3 gm 0 (rc (h2) (Msg.get_n hr NF.k))) <| ppq (.bool true) (eqt ((m.k) : Int) ((8) : Int) (by omega)) <| pkq (.bool true) <| pkq (pT gm 11) <| ppq (.int .i64 m.pf) (ldc 3 gm 11 (rc (h2) (Msg.get_n hr NF.pf))) ?_
      refine pcq 107 #[.int .i64 m.pf, .int .i64 1, .int .i64 3] Tryz.func107 ((rmwithin_is _ _ _ _ (decide_eq_true hp)).mono ?_)
      rintro e w1 ⟨rfl, rfl⟩
      refine ⟨_, rfl, ?_⟩
      refine pkq (.bool false) <| pkq (.bool false) <| pkq (.bool false) <| pkq (.bool false) <| ps_end ?_
      exact ⟨rfl, .pointer (some ⟨gm, 0, none⟩), .int .i64 m.k, .pointer (some ⟨gm, 0, none⟩), .int .i64 m.k, .bool true, .bool true, .pointer (some ⟨gm, 11, none⟩), .int .i64 m.pf, .bool true, .bool false, by kernel_rfl, h2, by omega, K4⟩
  rintro aQ V5 ⟨u1_4, u1_5, u1_9, u1_10, u1_11, u1_12, u1_13, u1_14, u1_15, u1_16, rfl, h6, z7, K8⟩
  refine then_n <| n_ <| qr_ [0, 1, 2, 3] <| ppq (.agg (Msg.c m)) (ldr 38 gm (h6) (by rw [Msg.c_size hr]; kernel_rfl)) ?_
  refine pcq 108 #[.agg (Msg.c m)] Tryz.func108 (((hn ▸ rmfine_ok m _ hr hf)).mono ?_)
  rintro e V9 ⟨rfl, kV9⟩
  refine ⟨_, rfl, ?_⟩
  have h10 := kV9.bk h6
  have K11 := K8.nn kV9
  refine pkq (.bool false) <| pkq (.bool false) <| en_ <| q_ <| sy_np <| sy_reg <| an_begin 5 5 (opsAt (qc97_0 414)) (fun W => (W.heap[gm]? = some (.cells (Msg.c m) 38 (0, 0)))) #[false, false, false, false, false] (by kernel_rfl) (by kernel_rfl) (by kernel_rfl) (by kernel_rfl) ?_
  obtain ⟨V12, eV12, kV12⟩ := drew_step V9
  rw [eV12]
  clear eV12
  have h13 := kV12.bk h10
  have K14 := K11.nn kV12
  refine avq 0 (.agg (Msg.c m)) (fun W hS => ldr 38 gm (hS) (by rw [Msg.c_size hr]; kernel_rfl)) h13 <| avq 2 (.agg (Msg.c m)) (fun W hS => ldr 38 gm (hS) (by rw [Msg.c_size hr]; kernel_rfl)) h13 <| an_o 1 ?_
  refine ncq 109 #[.agg (Msg.c m)] Tryz.func109 ((rmown_ok m _ hr hk.1 hk.2).mono ?_)
  rintro e V15 ⟨rfl, kV15⟩
  refine ⟨_, rfl, ?_⟩
  have h16 := kV15.bk h13
  have K17 := K14.nn kV15
  refine ⟨h16, ?_⟩
  refine avq 3 (.bool true) (fun W hS => exec_cast (congrArg Value.bool (show (!decide (ownK m m.k.toNat = m)) = true by simp [hq])) (exec_binop .neq 38 38 (.tmp 25) (.tmp 26) (by kernel_rfl) (.agg (Msg.c (ownK m m.k.toNat))) (.agg (Msg.c m)) _ (by kernel_rfl) (by kernel_rfl) (run_eqGuard_agg _ _ _ _ _ _ _ msg_guard) (msg_ne _ _ (ownK_R hr _) hr _))) h16 <| an_o 4 <| nrq (.bool true) (w' := V15) (by kernel_rfl) ?_
  refine ⟨h16, ?_⟩
  refine an_end (by kernel_rfl) <| then_n <| y_ <| qr_ [0] <| pkq (.int .i64 2) <| eu_ <| blk_r <| then_r <| so_ (.int .i64 2) ?_
  exact ⟨rfl, K17⟩
theorem rmCheck_ok (m : Msg) (w : World) (hr : m.R) (hf : m.form) (hn : m.items.all (chkIt m) = true) (hq : ownK m m.k.toNat = m) :
    Calls Tryz.prog 86 #[.agg (Msg.c m)] w (fun e w' => e = .returned (.int .i64 0) ∧ Keeps Nob w w') := by
  have hk := hf.1
  have K0 : Keeps Nob w w := Keeps.refl _ _
  refine sy_enter (qc97_0 1) ⟨#[.agg (Msg.c m), ud, ud, ud, ud, ud, ud, ud, ud, ud, ud, ud, ud, ud, ud, ud, ud, ud, ud, ud, ud, ud, ud, ud, ud, ud, ud, ud], []⟩ Tryz.func86 (by kernel_rfl) (by kernel_rfl) <| qr_ [0, 1] <| pbx 38 ((Msg.c m)) (.agg (Msg.c m)) fun V1 gm egm h2 kV1 => ?_
  have n3 : w.heap.size ≤ gm := egm ▸ K0.size
  have K4 := K0.nn kV1
  refine pkq (.int .i64 0) <| eq_ <| b_ 0 <| q_ ?_
  refine sy_cut (fun aQ VQ => ∃ (u1_4 u1_5 u1_9 u1_10 u1_11 u1_12 u1_13 u1_14 u1_15 u1_16 : Value), (aQ = ⟨#[.agg (Msg.c m), .pointer (some ⟨gm, 0, none⟩), .int .i64 0, .bool false, u1_4, u1_5, .bool true, .bool false, .bool false, u1_9, u1_10, u1_11, u1_12, u1_13, u1_14, u1_15, u1_16, .bool false, .bool false, ud, ud, ud, ud, ud, ud, ud, ud, ud], []⟩) ∧ (VQ.heap[gm]? = some (.cells (Msg.c m) 38 (0, 0))) ∧ (V1.heap.size ≤ VQ.heap.size) ∧ (Keeps Nob w VQ)) ?_ ?_
  · rcases (show m.k ≠ 8 ∨ (m.k = 8 ∧ (1 ≤ m.pf ∧ m.pf ≤ 3)) by have := hf.2; omega) with h8 | ⟨h8, hp⟩
    · skip
      refine r_ [0, 1, 2, 3, 4, 5, 6, 7, 8, 9, 10, 11, 12, 13, 14, 15] <| pkq (pT gm 0) <| ppq (.int .i64 m.k) (ldc 3 gm 0 (rc (h2) (Msg.get_n hr NF.k))) ?_
      refine pcq 107 #[.int .i64 m.k, .int .i64 1, .int .i64 11] Tryz.func107 ((rmwithin_is _ _ _ _ (decide_eq_true hk)).mono ?_)
      rintro e w1 ⟨rfl, rfl⟩
      refine ⟨_, rfl, ?_⟩
      refine pkq (.bool false) <| pkq (.bool false) <| pkq (pT gm 0) <| ppq (.int .i64 m.k) (ldc 3 gm 0 (rc (h2) (Msg.get_n hr NF.k))) <| ppq (.bool false) (eqf ((m.k) : Int) ((8) : Int) (by omega)) <| pkq (.bool false) <| pnq <| pnq <| pnq <| pnq <| pkq (.bool false) <| pkq (.bool false) <| pkq (.bool false) <| ps_end ?_
      exact ⟨rfl, .pointer (some ⟨gm, 0, none⟩), .int .i64 m.k, .pointer (some ⟨gm, 0, none⟩), .int .i64 m.k, .bool false, .bool false, undef, undef, undef, undef, by kernel_rfl, h2, by omega, K4⟩
    · skip
      refine r_ [0, 1, 2, 3, 4, 5, 6, 7, 8, 9, 10, 11, 12, 13, 14, 15] <| pkq (pT gm 0) <| ppq (.int .i64 m.k) (ldc 3 gm 0 (rc (h2) (Msg.get_n hr NF.k))) ?_
      refine pcq 107 #[.int .i64 m.k, .int .i64 1, .int .i64 11] Tryz.func107 ((rmwithin_is _ _ _ _ (decide_eq_true hk)).mono ?_)
      rintro e w1 ⟨rfl, rfl⟩
      refine ⟨_, rfl, ?_⟩
      refine pkq (.bool false) <| pkq (.bool false) <| pkq (pT gm 0) <| ppq (.int .i64 m.k) (ldc 3 gm 0 (rc (h2) (Msg.get_n hr NF.k))) <| ppq (.bool true) (eqt ((m.k) : Int) ((8) : Int) (by omega)) <| pkq (.bool true) <| pkq (pT gm 11) <| ppq (.int .i64 m.pf) (ldc 3 gm 11 (rc (h2) (Msg.get_n hr NF.pf))) ?_
      refine pcq 107 #[.int .i64 m.pf, .int .i64 1, .int .i64 3] Tryz.func107 ((rmwithin_is _ _ _ _ (decide_eq_true hp)).mono ?_)
      rintro e w1 ⟨rfl, rfl⟩
      refine ⟨_, rfl, ?_⟩
      refine pkq (.bool false) <| pkq (.bool false) <| pkq (.bool false) <| pkq (.bool false) <| ps_end ?_
      exact ⟨rfl, .pointer (some ⟨gm, 0, none⟩), .int .i64 m.k, .pointer (some ⟨gm, 0, none⟩), .int .i64 m.k, .bool true, .bool true, .pointer (some ⟨gm, 11, none⟩), .int .i64 m.pf, .bool true, .bool false, by kernel_rfl, h2, by omega, K4⟩
  rintro aQ V5 ⟨u1_4, u1_5, u1_9, u1_10, u1_11, u1_12, u1_13, u1_14, u1_15, u1_16, rfl, h6, z7, K8⟩
  refine then_n <| n_ <| qr_ [0, 1, 2, 3] <| ppq (.agg (Msg.c m)) (ldr 38 gm (h6) (by rw [Msg.c_size hr]; kernel_rfl)) ?_
  refine pcq 108 #[.agg (Msg.c m)] Tryz.func108 (((hn ▸ rmfine_ok m _ hr hf)).mono ?_)
  rintro e V9 ⟨rfl, kV9⟩
  refine ⟨_, rfl, ?_⟩
  have h10 := kV9.bk h6
  have K11 := K8.nn kV9
  refine pkq (.bool false) <| pkq (.bool false) <| en_ <| q_ <| sy_np <| sy_reg <| an_begin 5 5 (opsAt (qc97_0 414)) (fun W => (W.heap[gm]? = some (.cells (Msg.c m) 38 (0, 0)))) #[false, false, false, false, false] (by kernel_rfl) (by kernel_rfl) (by kernel_rfl) (by kernel_rfl) ?_
  obtain ⟨V12, eV12, kV12⟩ := drew_step V9
  rw [eV12]
  clear eV12
  have h13 := kV12.bk h10
  have K14 := K11.nn kV12
  refine avq 0 (.agg (Msg.c m)) (fun W hS => ldr 38 gm (hS) (by rw [Msg.c_size hr]; kernel_rfl)) h13 <| avq 2 (.agg (Msg.c m)) (fun W hS => ldr 38 gm (hS) (by rw [Msg.c_size hr]; kernel_rfl)) h13 <| an_o 1 ?_
  refine ncq 109 #[.agg (Msg.c m)] Tryz.func109 ((rmown_ok m _ hr hk.1 hk.2).mono ?_)
  rintro e V15 ⟨rfl, kV15⟩
  refine ⟨_, rfl, ?_⟩
  have h16 := kV15.bk h13
  have K17 := K14.nn kV15
  refine ⟨h16, ?_⟩
  refine avq 3 (.bool false) (fun W hS => exec_cast (congrArg Value.bool (show (!decide (ownK m m.k.toNat = m)) = false by simp [hq])) (exec_binop .neq 38 38 (.tmp 25) (.tmp 26) (by kernel_rfl) (.agg (Msg.c (ownK m m.k.toNat))) (.agg (Msg.c m)) _ (by kernel_rfl) (by kernel_rfl) (run_eqGuard_agg _ _ _ _ _ _ _ msg_guard) (msg_ne _ _ (ownK_R hr _) hr _))) h16 <| an_o 4 <| nrq (.bool false) (w' := V15) (by kernel_rfl) ?_
  refine ⟨h16, ?_⟩
  refine an_end (by kernel_rfl) <| then_n <| n_ <| s_ <| blk_n <| tqr_ [0] <| pkq (.int .i64 0) <| eu_ <| so_ (.int .i64 0) ?_
  exact ⟨rfl, K17⟩
theorem rmCheck_ok_ (m : Msg) (w : World) (hr : m.R) : Calls Tryz.prog 86 #[.agg (Msg.c m)] w (fun e w' => e = .returned (.int .i64 m.chk) ∧ Keeps Nob w w') := by
  unfold Msg.chk
  by_cases hf : m.form
  · rw [if_pos hf]
    by_cases hn : m.items.all (chkIt m) = true
    · rw [if_pos hn]
      by_cases hq : clrAll m = onlyK m.k
      · rw [if_pos hq]; exact rmCheck_ok m w hr hf hn ((own_clr m hf).2 hq)
      · rw [if_neg hq]; exact rmCheck_arg m w hr hf hn (fun h => hq ((own_clr m hf).1 h))
    · rw [if_neg hn]; exact rmCheck_range m w hr hf (by simpa using hn)
  · rw [if_neg hf]
    by_cases hk : 1 ≤ m.k ∧ m.k ≤ 11
    · have h8 : m.k = 8 := by
        by_cases h : m.k = 8
        · exact h
        · exact absurd ⟨hk, fun e => absurd e h⟩ hf
      exact rmCheck_f2 m w hr hk h8 (fun h => hf ⟨hk, fun _ => h⟩)
    · exact rmCheck_f1 m w hr hk
end Go.Proofs.YtcbfnflnokoacaaGreat
namespace Go.Proofs.YtcbfnflnokoacaaGreat
set_option maxRecDepth 100000
set_option maxHeartbeats 4000000
open Go Go.RowKit Go.Own Go.Shelf
theorem off_bad {p : Par} {m : Msg} (h : ¬ (offe p m).2 = 0) : (offe p m).1 = offZ := by
  unfold offe at h ⊢
  split
  · rename_i h0
    rw [if_pos h0] at h
    split
    · rename_i h1
      rw [if_pos h1] at h
      split
      · rename_i h2; rw [if_pos h2] at h; exact absurd rfl h
      · rename_i h2; rw [if_neg h2] at h; exact absurd rfl h
    · rfl
  · rfl
theorem in_split {l : List Sel} (x y : Sel) : (¬ x ∈ l) ∨ (x ∈ l ∧ ¬ y ∈ l) ∨ (x ∈ l ∧ y ∈ l) := by
  by_cases h : x ∈ l <;> by_cases h2 : y ∈ l <;> simp [h, h2]
theorem reis_V {m : Msg} {r : Bool} {w : World} {f : FuncId} (h : Calls Tryz.prog f #[.agg (Msg.c m)] w fun e w' => e = .returned (.bool m.cla) ∧ Keeps Nob w w') (e : m.cla = r) : Calls Tryz.prog f #[.agg (Msg.c m)] w fun e w' => e = .returned (.bool r) ∧ Keeps Nob w w' := by subst e; exact h
noncomputable def qc98_7 (n : Nat) : Code := partOf Tryz.f57 n
theorem reis_ok (m : Msg) (w : World) (ho : m.Ok) :
    Calls Tryz.prog 57 #[.agg (Msg.c m)] w (fun e w' => e = .returned (.bool m.cla) ∧ Keeps Nob w w') := by
  have hr := ho.R
  have K0 : Keeps Nob w w := Keeps.refl _ _
  refine sy_enter (qc98_7 1) ⟨#[.agg (Msg.c m), ud, ud, ud, ud, ud, ud, ud, ud, ud, ud, ud, ud, ud, ud, ud, ud, ud, ud, ud, ud, ud, ud, ud], []⟩ Tryz.func57 (by kernel_rfl) (by kernel_rfl) <| qr_ [0, 1] <| pbx 38 ((Msg.c m)) (.agg (Msg.c m)) fun V1 gm egm h2 kV1 => ?_
  have n3 : w.heap.size ≤ gm := egm ▸ K0.size
  have K4 := K0.nn kV1
  have z5 := kV1.size
  refine pkq (.bool false) <| eq_ <| qr_ [0, 1] <| pkq (pT gm 11) <| ppq (.int .i64 m.pf) (ldc 3 gm 11 (rc (h2) (Msg.get_n hr NF.pf))) <| et_ <| b_ 0 <| qr_ [0, 1] ?_
  by_cases c0 : m.pf = 1
  · refine ppq (.bool true) (eqt ((m.pf) : Int) ((1) : Int) (by omega)) <| pkq (.bool true) <| ey_ <| qr_ [0, 1, 2, 3, 4, 5] <| pkq (pT gm 12) <| ppq (.agg (Att.c m.a)) (exec_load_seg 26 (.tmp 7) (by kernel_rfl) gm 12 (by kernel_rfl) (Att.c m.a).toList _ _ _ h2 (Msg.seg_A hr) Tryz.underlying26 rfl (by rw [Att.tl hr.a]; kernel_rfl)) <| pkq (pT gm 48) <| ppq (.agg (Att.c m.b)) (exec_load_seg 26 (.tmp 9) (by kernel_rfl) gm 48 (by kernel_rfl) (Att.c m.b).toList _ _ _ h2 (Msg.seg_B hr) Tryz.underlying26 rfl (by rw [Att.tl hr.b]; kernel_rfl)) ?_
    refine pcq 45 #[.agg (Att.c m.a), .agg (Att.c m.b)] Tryz.func45 ((rvDoubles_ok m.a m.b _ ho.a ho.b).mono ?_)
    rintro e V6 ⟨rfl, kV6⟩
    refine ⟨_, rfl, ?_⟩
    have K8 := K4.nn kV6
    have z9 := kV6.size
    refine pkq (.bool (doub m.a m.b)) <| eu_ <| blk_r <| then_r <| so_ (.bool (doub m.a m.b)) ?_
    exact ⟨by unfold Msg.cla; rw [if_pos c0], K8⟩
  · refine ppq (.bool false) (eqf ((m.pf) : Int) ((1) : Int) (by omega)) <| pkq (.bool false) <| en_ <| qr_ [0, 1] ?_
    by_cases c1 : m.pf = 2
    · refine ppq (.bool true) (eqt ((m.pf) : Int) ((2) : Int) (by omega)) <| pkq (.bool true) <| ey_ <| qr_ [0, 1, 2, 3, 4, 5] <| pkq (pT gm 12) <| ppq (.agg (Att.c m.a)) (exec_load_seg 26 (.tmp 14) (by kernel_rfl) gm 12 (by kernel_rfl) (Att.c m.a).toList _ _ _ h2 (Msg.seg_A hr) Tryz.underlying26 rfl (by rw [Att.tl hr.a]; kernel_rfl)) <| pkq (pT gm 48) <| ppq (.agg (Att.c m.b)) (exec_load_seg 26 (.tmp 16) (by kernel_rfl) gm 48 (by kernel_rfl) (Att.c m.b).toList _ _ _ h2 (Msg.seg_B hr) Tryz.underlying26 rfl (by rw [Att.tl hr.b]; kernel_rfl)) ?_
      refine pcq 46 #[.agg (Att.c m.a), .agg (Att.c m.b)] Tryz.func46 ((rvSurrounds_ok m.a m.b _ ho.a ho.b).mono ?_)
      rintro e V10 ⟨rfl, kV10⟩
      refine ⟨_, rfl, ?_⟩
      have K12 := K4.nn kV10
      have z13 := kV10.size
      refine pkq (.bool (surr m.a m.b)) <| eu_ <| blk_r <| then_r <| so_ (.bool (surr m.a m.b)) ?_
      exact ⟨by unfold Msg.cla; rw [if_neg c0, if_pos c1], K12⟩
    · refine ppq (.bool false) (eqf ((m.pf) : Int) ((2) : Int) (by omega)) <| pkq (.bool false) <| en_ <| s_ <| blk_n <| tqr_ [0, 1, 2, 3, 4, 5] <| pkq (pT gm 84) <| ppq (.agg (Pro.c m.p)) (exec_load_seg 28 (.tmp 19) (by kernel_rfl) gm 84 (by kernel_rfl) (Pro.c m.p).toList _ _ _ h2 (Msg.seg_P hr) Tryz.underlying28 rfl (by rw [Pro.tl hr.p]; kernel_rfl)) <| pkq (pT gm 119) <| ppq (.agg (Pro.c m.q)) (exec_load_seg 28 (.tmp 21) (by kernel_rfl) gm 119 (by kernel_rfl) (Pro.c m.q).toList _ _ _ h2 (Msg.seg_Q hr) Tryz.underlying28 rfl (by rw [Pro.tl hr.q]; kernel_rfl)) ?_
      refine pcq 47 #[.agg (Pro.c m.p), .agg (Pro.c m.q)] Tryz.func47 ((rvDoublesBlock_ok m.p m.q _ ho.p ho.q).mono ?_)
      rintro e V14 ⟨rfl, kV14⟩
      refine ⟨_, rfl, ?_⟩
      have K16 := K4.nn kV14
      have z17 := kV14.size
      refine pkq (.bool (doubP m.p m.q)) <| eu_ <| so_ (.bool (doubP m.p m.q)) ?_
      exact ⟨by unfold Msg.cla; rw [if_neg c0, if_neg c1], K16⟩
noncomputable def qc98_1 (n : Nat) : Code := partOf Tryz.f56 n
theorem reevidence_ok (m : Msg) (w : World) (hr : m.R) :
    Calls Tryz.prog 56 #[.agg (Msg.c m)] w (fun e w' => e = .returned (.int .i64 m.evi) ∧ Keeps Nob w w') := by
  have K0 : Keeps Nob w w := Keeps.refl _ _
  refine sy_enter (qc98_1 1) ⟨#[.agg (Msg.c m), ud, ud, ud, ud, ud, ud, ud, ud, ud, ud, ud], []⟩ Tryz.func56 (by kernel_rfl) (by kernel_rfl) <| qr_ [0, 1] <| pbx 38 ((Msg.c m)) (.agg (Msg.c m)) fun V1 gm egm h2 kV1 => ?_
  have n3 : w.heap.size ≤ gm := egm ▸ K0.size
  have K4 := K0.nn kV1
  have z5 := kV1.size
  refine pkq (.int .i64 0) <| eq_ <| qr_ [0, 1, 2] <| ppq (.agg (Msg.c m)) (ldr 38 gm (h2) (by rw [Msg.c_size hr]; kernel_rfl)) ?_
  refine pcq 86 #[.agg (Msg.c m)] Tryz.func86 ((rmCheck_ok_ m _ hr).mono ?_)
  rintro e V6 ⟨rfl, kV6⟩
  refine ⟨_, rfl, ?_⟩
  have h7 := kV6.bk h2
  have K8 := K4.nn kV6
  have z9 := kV6.size
  refine pkq (.int .i64 m.chk) <| eqr_ [0, 1] ?_
  by_cases c0 : m.chk = 0
  · refine pkq (.int .i64 m.chk) <| ppq (.bool false) (nqf ((m.chk) : Int) ((0) : Int) (by omega)) <| en_ <| s_ <| tq_ <| qr_ [0, 1, 2] ?_
    by_cases c1 : m.k = 8
    · refine pkq (pT gm 0) <| ppq (.int .i64 m.k) (ldc 3 gm 0 (rc (h7) (Msg.get_n hr NF.k))) <| ppq (.bool false) (nqf ((m.k) : Int) ((8) : Int) (by omega)) <| en_ <| s_ <| tqr_ [0] <| pkq (.int .i64 0) <| eu_ <| so_ (.int .i64 0) ?_
      exact ⟨by rw [Msg.evi, if_pos c0, if_pos c1], K8⟩
    · refine pkq (pT gm 0) <| ppq (.int .i64 m.k) (ldc 3 gm 0 (rc (h7) (Msg.get_n hr NF.k))) <| ppq (.bool true) (nqt ((m.k) : Int) ((8) : Int) (by omega)) <| ey_ <| qr_ [0] <| pkq (.int .i64 5) <| eu_ <| then_r <| so_ (.int .i64 5) ?_
      exact ⟨by rw [Msg.evi, if_pos c0, if_neg c1], K8⟩
  · refine pkq (.int .i64 m.chk) <| ppq (.bool true) (nqt ((m.chk) : Int) ((0) : Int) (by omega)) <| ey_ <| qr_ [0, 1] <| pkq (.int .i64 m.chk) <| pkq (.int .i64 m.chk) <| eu_ <| then_r <| so_ (.int .i64 m.chk) ?_
    exact ⟨by rw [Msg.evi, if_neg c0], K8⟩
theorem rFirst_hgt {p : Par} {m : Msg} (w : World) (hp : p.Ok) (hmx : i64ok (max m.a.t m.b.t)) (hpp : m.pf = 1 ∨ m.pf = 2) : Calls Tryz.prog 58 #[.agg p.cells, .int .i64 (max m.a.t m.b.t)] w fun e w' => e = .returned (.tuple #[.int .i64 (hgt p m).1, .int .i64 (hgt p m).2]) ∧ Keeps Nob w w' := by
  rw [show hgt p m = p.first (max m.a.t m.b.t) from if_pos hpp]; exact rFirst_ok p hp _ hmx w
noncomputable def qc98_3 (n : Nat) : Code := partOf Tryz.f19 n
theorem reOffence_ok (p : Par) (m : Msg) (w : World) (hp : p.Ok) (ho : m.Ok) :
    Calls Tryz.prog 19 #[.agg p.cells, .agg (Msg.c m)] w (fun e w' => e = .returned (.tuple #[.agg (offe p m).1.cs, .int .i64 (offe p m).2]) ∧ Keeps Nob w w') := by
  have hr := ho.R
  have hmx : i64ok (max m.a.t m.b.t) := by have h1 := ho.a.t; have h2 := ho.b.t; unfold i64ok; unfold i64b at h1 h2; omega
  have K0 : Keeps Nob w w := Keeps.refl _ _
  refine sy_enter (qc98_3 1) ⟨#[.agg p.cells, .agg (Msg.c m), ud, ud, ud, ud, ud, ud, ud, ud, ud, ud, ud, ud, ud, ud, ud, ud, ud, ud, ud, ud, ud, ud, ud, ud, ud, ud, ud, ud, ud, ud, ud, ud, ud, ud, ud, ud, ud, ud, ud, ud, ud, ud, ud, ud, ud, ud, ud, ud, ud, ud, ud, ud, ud, ud, ud, ud, ud, ud, ud], []⟩ Tryz.func19 (by kernel_rfl) (by kernel_rfl) <| qr_ [0, 1, 2, 3] <| pbx 45 p.cells (.agg p.cells) fun V1 gp egp h2 kV1 => ?_
  have n3 : w.heap.size ≤ gp := egp ▸ K0.size
  have K4 := K0.nn kV1
  have z5 := kV1.size
  refine pbx 38 ((Msg.c m)) (.agg (Msg.c m)) fun V6 gm egm h7 kV6 => ?_
  have n8 : gp < gm := egm ▸ lt_of_block h2
  have n9 : w.heap.size ≤ gm := egm ▸ K4.size
  have h10 := kV6.bk h2
  have K11 := K4.nn kV6
  have z12 := kV6.size
  refine pal 49 (#[.int .i64 0, .int .i64 0, .int .i64 0]) (.agg (#[.int .i64 0, .int .i64 0, .int .i64 0])) fun V13 go ego h14 kV13 => ?_
  have n15 : gp < go := ego ▸ lt_of_block h10
  have n16 : gm < go := ego ▸ lt_of_block h7
  have n17 : w.heap.size ≤ go := ego ▸ K11.size
  have h18 := kV13.bk h10
  have h19 := kV13.bk h7
  have K20 := K11.nn kV13
  have z21 := kV13.size
  refine pkq (.int .i64 0) <| eq_ <| qr_ [0, 1, 2, 3, 4, 5, 6] <| ppq (.agg (p.cells)) (ldr 45 gp (h18) (by kernel_rfl)) ?_
  refine pcq 55 #[.agg (p.cells)] Tryz.func55 ((r7Check_ok p hp _).mono ?_)
  rintro e V22 ⟨rfl, kV22⟩
  refine ⟨_, rfl, ?_⟩
  have h23 := kV22.bk h18
  have h24 := kV22.bk h19
  have h25 := kV22.bk h14
  have K26 := K20.nn kV22
  have z27 := kV22.size
  refine pkq (.tuple #[.int .i64 p.check.1, .int .i64 p.check.2]) <| pkq (.int .i64 p.check.1) <| pkq (.int .i64 p.check.2) <| pkq (.int .i64 p.check.1) <| pkq (.int .i64 p.check.2) <| eqr_ [0, 1] ?_
  by_cases c0 : p.check.1 = 0
  · refine pkq (.int .i64 p.check.1) <| ppq (.bool false) (nqf ((p.check.1) : Int) ((0) : Int) (by omega)) <| en_ <| s_ <| tq_ <| qr_ [0, 1, 2] <| ppq (.agg (Msg.c m)) (ldr 38 gm (h24) (by rw [Msg.c_size hr]; kernel_rfl)) ?_
    refine pcq 56 #[.agg (Msg.c m)] Tryz.func56 ((reevidence_ok m _ hr).mono ?_)
    rintro e V28 ⟨rfl, kV28⟩
    refine ⟨_, rfl, ?_⟩
    have h29 := kV28.bk h23
    have h30 := kV28.bk h24
    have h31 := kV28.bk h25
    have K32 := K26.nn kV28
    have z33 := kV28.size
    refine pkq (.int .i64 m.evi) <| eqr_ [0, 1] ?_
    by_cases c1 : m.evi = 0
    · refine pkq (.int .i64 m.evi) <| ppq (.bool false) (nqf ((m.evi) : Int) ((0) : Int) (by omega)) <| en_ <| s_ <| tq_ <| qr_ [0, 1, 2] ?_
      by_cases c2 : m.cla = true
      · refine ppq (.agg (Msg.c m)) (ldr 38 gm (h30) (by rw [Msg.c_size hr]; kernel_rfl)) ?_
        refine pcq 57 #[.agg (Msg.c m)] Tryz.func57 ((reis_V (reis_ok m _ ho) c2).mono ?_)
        rintro e V34 ⟨rfl, kV34⟩
        refine ⟨_, rfl, ?_⟩
        have h35 := kV34.bk h29
        have h36 := kV34.bk h30
        have h37 := kV34.bk h31
        have K38 := K32.nn kV34
        have z39 := kV34.size
        refine pkq (.bool false) <| en_ <| s_ <| tq_ <| qr_ [0, 1, 2] ?_
        by_cases c3 : m.pf = 3
        · refine pkq (pT gm 11) <| ppq (.int .i64 m.pf) (ldc 3 gm 11 (rc (h36) (Msg.get_n hr NF.pf))) <| ppq (.bool true) (eqt ((m.pf) : Int) ((3) : Int) (by omega)) <| ps_end <| sy_a ⟨#[.agg p.cells, .agg (Msg.c m), pT gp 0, pT gm 0, pT go 0, .int .i64 0, .int .i64 p.check.1, .int .i64 p.check.2, .int .i64 m.evi, ud, ud, .tuple #[.int .i64 p.check.1, .int .i64 p.check.2], .agg (p.cells), .tuple #[.int .i64 p.check.1, .int .i64 p.check.2], .int .i64 p.check.1, .int .i64 p.check.2, .int .i64 p.check.1, .bool false, ud, ud, .agg (Msg.c m), .int .i64 m.evi, .int .i64 m.evi, .bool false, ud, ud, .agg (Msg.c m), .bool true, .bool false, ud, pT gm 11, .int .i64 m.pf, .bool true, ud, ud, ud, ud, ud, ud, ud, ud, ud, ud, ud, ud, ud, ud, ud, ud, ud, ud, ud, ud, ud, ud, ud, ud, ud, ud, ud, ud], []⟩ <| then_n <| y_ <| qr_ [0, 1, 2, 3, 4, 5, 6, 7, 8] <| pkq (pT gm 84) <| pkq (pT gm 84) <| ppq (.int .i64 m.p.v) (ldc 3 gm 84 (rc (h36) (Msg.get_n hr NF.pv))) <| pkq (pT gm 84) <| pkq (pT gm 85) <| ppq (.int .i64 m.p.h) (ldc 3 gm 85 (rc (h36) (Msg.get_n hr NF.ph))) ?_
          refine pkq (.agg (Off.cs (Off.mk m.p.v 2 m.p.h))) <| pst 49 go ((Off.cs (Off.mk m.p.v 2 m.p.h))) h37 (by kernel_rfl) rfl (by kernel_rfl) fun V40 h41 kV40 => ?_
          have K44 := K38.nO kV40
          have z45 := kV40.size
          refine pkq (.int .i64 0) <| eu_ <| then_r <| sy_out (.tuple #[.agg (Off.cs ((Off.mk m.p.v 2 m.p.h))), .int .i64 0]) rfl (results_row_tmp (p := 4) (q := 5) (ty := 49) (by kernel_rfl) _ _ go 49 (Off.cs ((Off.mk m.p.v 2 m.p.h))) (0, 0) _ (.int .i64 0) (by kernel_rfl) h41 Tryz.underlying49 rfl (by kernel_rfl) (by kernel_rfl)) ?_
          exact ⟨by rw [offe, (show offE p m = 0 by simp only [offE, firstE]; simp [*]), if_pos rfl, show hgt p m = (m.p.h, 0) from if_neg (by omega), if_pos rfl, if_pos c3], K44⟩
        · have hpp : m.pf = 1 ∨ m.pf = 2 := by rcases pf_of (evi_0 c1).1 (evi_0 c1).2 with h | h | h; exact .inl h; exact .inr h; exact absurd h c3
          refine pkq (pT gm 11) <| ppq (.int .i64 m.pf) (ldc 3 gm 11 (rc (h36) (Msg.get_n hr NF.pf))) <| ppq (.bool false) (eqf ((m.pf) : Int) ((3) : Int) (by omega)) <| ps_end <| sy_a ⟨#[.agg p.cells, .agg (Msg.c m), pT gp 0, pT gm 0, pT go 0, .int .i64 0, .int .i64 p.check.1, .int .i64 p.check.2, .int .i64 m.evi, ud, ud, .tuple #[.int .i64 p.check.1, .int .i64 p.check.2], .agg (p.cells), .tuple #[.int .i64 p.check.1, .int .i64 p.check.2], .int .i64 p.check.1, .int .i64 p.check.2, .int .i64 p.check.1, .bool false, ud, ud, .agg (Msg.c m), .int .i64 m.evi, .int .i64 m.evi, .bool false, ud, ud, .agg (Msg.c m), .bool true, .bool false, ud, pT gm 11, .int .i64 m.pf, .bool false, ud, ud, ud, ud, ud, ud, ud, ud, ud, ud, ud, ud, ud, ud, ud, ud, ud, ud, ud, ud, ud, ud, ud, ud, ud, ud, ud, ud], []⟩ <| then_n <| n_ <| s_ <| tqr_ [0, 1, 2, 3, 4, 5, 6, 7, 8, 9, 10, 11, 12, 13] <| ppq (.agg (p.cells)) (ldr 45 gp (h35) (by kernel_rfl)) <| pkq (pT gm 12) <| pkq (pT gm 14) <| ppq (.int .i64 m.a.t) (ldc 3 gm 14 (rc (h36) (Msg.get_n hr NF.at_))) <| pkq (pT gm 48) ?_
          refine pkq (pT gm 50) <| ppq (.int .i64 m.b.t) (ldc 3 gm 50 (rc (h36) (Msg.get_n hr NF.bt))) <| ppq (.int .i64 (max m.a.t m.b.t)) (exec_max (.tmp 44) (.tmp 47) #[3, 3] (by kernel_rfl) .i64 m.a.t m.b.t (by kernel_rfl) (by kernel_rfl)) ?_
          refine pcq 58 #[.agg (p.cells), .int .i64 (max m.a.t m.b.t)] Tryz.func58 ((rFirst_hgt _ hp hmx hpp).mono ?_)
          rintro e V46 ⟨rfl, kV46⟩
          refine ⟨_, rfl, ?_⟩
          have h48 := kV46.bk h36
          have h49 := kV46.bk h37
          have K50 := K38.nn kV46
          have z51 := kV46.size
          refine pkq (.tuple #[.int .i64 (hgt p m).1, .int .i64 (hgt p m).2]) <| pkq (.int .i64 (hgt p m).1) <| pkq (.int .i64 (hgt p m).2) <| pkq (.int .i64 (hgt p m).1) <| pkq (.int .i64 (hgt p m).2) <| eq_ <| qr_ [0, 1] ?_
          by_cases c4 : (hgt p m).2 = 0
          · refine pkq (.int .i64 (hgt p m).2) <| ppq (.bool false) (nqf (((hgt p m).2) : Int) ((0) : Int) (by omega)) <| en_ <| s_ <| tqr_ [0, 1, 2, 3, 4, 5, 6] <| pkq (pT gm 12) <| pkq (pT gm 12) <| ppq (.int .i64 m.a.v) (ldc 3 gm 12 (rc (h48) (Msg.get_n hr NF.av))) <| pkq (.int .i64 (hgt p m).1) <| pkq (.agg (Off.cs (Off.mk m.a.v 1 (hgt p m).1))) <| pst 49 go ((Off.cs (Off.mk m.a.v 1 (hgt p m).1))) h49 (by kernel_rfl) rfl (by kernel_rfl) fun V52 h53 kV52 => ?_
            have K56 := K50.nO kV52
            have z57 := kV52.size
            refine pkq (.int .i64 0) <| eu_ <| sy_out (.tuple #[.agg (Off.cs ((Off.mk m.a.v 1 (hgt p m).1))), .int .i64 0]) rfl (results_row_tmp (p := 4) (q := 5) (ty := 49) (by kernel_rfl) _ _ go 49 (Off.cs ((Off.mk m.a.v 1 (hgt p m).1))) (0, 0) _ (.int .i64 0) (by kernel_rfl) h53 Tryz.underlying49 rfl (by kernel_rfl) (by kernel_rfl)) ?_
            exact ⟨by rw [offe, (show offE p m = 0 by simp only [offE, firstE]; simp [*]), if_pos rfl, if_pos c4, if_neg c3], K56⟩
          · refine pkq (.int .i64 (hgt p m).2) <| ppq (.bool true) (nqt (((hgt p m).2) : Int) ((0) : Int) (by omega)) <| ey_ <| qr_ [0, 1, 2, 3] <| pkq (.agg (Off.cs offZ)) <| pkq (.int .i64 (hgt p m).2) <| pst 49 go ((Off.cs offZ)) h49 (by kernel_rfl) rfl (by kernel_rfl) fun V58 h59 kV58 => ?_
            have K62 := K50.nO kV58
            have z63 := kV58.size
            refine pkq (.int .i64 (hgt p m).2) <| eu_ <| then_r <| sy_out (.tuple #[.agg (Off.cs offZ), .int .i64 (hgt p m).2]) rfl (results_row_tmp (p := 4) (q := 5) (ty := 49) (by kernel_rfl) _ _ go 49 (Off.cs offZ) (0, 0) _ (.int .i64 (hgt p m).2) (by kernel_rfl) h59 Tryz.underlying49 rfl (by kernel_rfl) (by kernel_rfl)) ?_
            exact ⟨by rw [offe, (show offE p m = 0 by simp only [offE, firstE]; simp [*]), if_pos rfl, if_neg c4], K62⟩
      · refine ppq (.agg (Msg.c m)) (ldr 38 gm (h30) (by rw [Msg.c_size hr]; kernel_rfl)) ?_
        refine pcq 57 #[.agg (Msg.c m)] Tryz.func57 ((reis_V (reis_ok m _ ho) (bnot c2)).mono ?_)
        rintro e V64 ⟨rfl, kV64⟩
        refine ⟨_, rfl, ?_⟩
        have h67 := kV64.bk h31
        have K68 := K32.nn kV64
        have z69 := kV64.size
        refine pkq (.bool true) <| ey_ <| qr_ [0, 1, 2] <| pkq (.agg (Off.cs offZ)) <| pst 49 go ((Off.cs offZ)) h67 (by kernel_rfl) rfl (by kernel_rfl) fun V70 h71 kV70 => ?_
        have K74 := K68.nO kV70
        have z75 := kV70.size
        refine pkq (.int .i64 18) <| ps_end <| sy_a ⟨#[.agg p.cells, .agg (Msg.c m), pT gp 0, pT gm 0, pT go 0, .int .i64 18, .int .i64 p.check.1, .int .i64 p.check.2, .int .i64 m.evi, ud, ud, .tuple #[.int .i64 p.check.1, .int .i64 p.check.2], .agg (p.cells), .tuple #[.int .i64 p.check.1, .int .i64 p.check.2], .int .i64 p.check.1, .int .i64 p.check.2, .int .i64 p.check.1, .bool false, ud, ud, .agg (Msg.c m), .int .i64 m.evi, .int .i64 m.evi, .bool false, ud, ud, .agg (Msg.c m), .bool false, .bool true, .agg (Off.cs offZ), ud, ud, ud, ud, ud, ud, ud, ud, ud, ud, ud, ud, ud, ud, ud, ud, ud, ud, ud, ud, ud, ud, ud, ud, ud, ud, ud, ud, ud, ud, ud], []⟩ <| then_n <| u_ <| then_r <| sy_out (.tuple #[.agg (Off.cs offZ), .int .i64 18]) rfl (results_row_tmp (p := 4) (q := 5) (ty := 49) (by kernel_rfl) _ _ go 49 (Off.cs offZ) (0, 0) _ (.int .i64 18) (by kernel_rfl) h71 Tryz.underlying49 rfl (by kernel_rfl) (by kernel_rfl)) ?_
        exact ⟨by rw [offe, (show offE p m = 18 by simp only [offE, firstE]; simp [*])]; rfl, K74⟩
    · refine pkq (.int .i64 m.evi) <| ppq (.bool true) (nqt ((m.evi) : Int) ((0) : Int) (by omega)) <| ey_ <| qr_ [0, 1, 2, 3] <| pkq (.agg (Off.cs offZ)) <| pkq (.int .i64 m.evi) <| pst 49 go ((Off.cs offZ)) h31 (by kernel_rfl) rfl (by kernel_rfl) fun V76 h77 kV76 => ?_
      have K80 := K32.nO kV76
      have z81 := kV76.size
      refine pkq (.int .i64 m.evi) <| eu_ <| then_r <| sy_out (.tuple #[.agg (Off.cs offZ), .int .i64 m.evi]) rfl (results_row_tmp (p := 4) (q := 5) (ty := 49) (by kernel_rfl) _ _ go 49 (Off.cs offZ) (0, 0) _ (.int .i64 m.evi) (by kernel_rfl) h77 Tryz.underlying49 rfl (by kernel_rfl) (by kernel_rfl)) ?_
      exact ⟨by rw [offe, (show offE p m = m.evi by simp only [offE, firstE]; simp [*]), if_neg c1], K80⟩
  · refine pkq (.int .i64 p.check.1) <| ppq (.bool true) (nqt ((p.check.1) : Int) ((0) : Int) (by omega)) <| ey_ <| qr_ [0, 1, 2, 3] <| pkq (.agg (Off.cs offZ)) <| pkq (.int .i64 p.check.1) <| pst 49 go ((Off.cs offZ)) h25 (by kernel_rfl) rfl (by kernel_rfl) fun V82 h83 kV82 => ?_
    have K86 := K26.nO kV82
    have z87 := kV82.size
    refine pkq (.int .i64 p.check.1) <| eu_ <| then_r <| sy_out (.tuple #[.agg (Off.cs offZ), .int .i64 p.check.1]) rfl (results_row_tmp (p := 4) (q := 5) (ty := 49) (by kernel_rfl) _ _ go 49 (Off.cs offZ) (0, 0) _ (.int .i64 p.check.1) (by kernel_rfl) h83 Tryz.underlying49 rfl (by kernel_rfl) (by kernel_rfl)) ?_
    exact ⟨by rw [offe, (show offE p m = p.check.1 by simp only [offE, firstE]; simp [*]), if_neg c0], K86⟩
noncomputable def qc98_6 (n : Nat) : Code := partOf Tryz.f63 n
noncomputable abbrev qo98_6 (n k : Nat) : Oper := (opsAt (qc98_6 n)).getD k default
theorem rsHas_ok (v : Value) (l : List Sel) (x : Sel) (w : World) (hl : SelsAt w v l) (hlr : ∀ y ∈ l, y.r.length = 32) (hx : x.r.length = 32) :
    Calls Tryz.prog 63 #[v, .agg (Sel.c x)] w (fun e w' => e = .returned (.bool (decide (x ∈ l))) ∧ Keeps Nob w w') := by
  have hll := hl.len_le
  have K0 : Keeps Nob w w := Keeps.refl _ _
  refine sy_enter (qc98_6 1) ⟨#[v, .agg (Sel.c x), ud, ud, ud, ud, ud, ud, ud, ud, ud, ud, ud, ud, ud, ud, ud, ud], []⟩ Tryz.func63 (by kernel_rfl) (by kernel_rfl) <| qr_ [0, 1] <| pbx 30 ((Sel.c x)) (.agg (Sel.c x)) fun V1 gx egx h2 kV1 => ?_
  have n3 : w.heap.size ≤ gx := egx ▸ K0.size
  have h4 : SelsAt V1 v l := hl.keepsN kV1
  have K5 := K0.nn kV1
  refine pkq (.bool false) <| eq_ <| qr_ [0] <| pkq (.int .i64 0) <| et_ <| b_ 0 ?_
  refine sy_loop (qc98_6 52) (fun a V => ∃ (k : Nat) (u4 u6 u7 u8 u9 u10 u11 u12 u13 u14 u15 u16 u17 : Value), (a = ⟨#[v, .agg (Sel.c x), ud, pT gx 0, u4, iN k, u6, u7, u8, u9, u10, u11, u12, u13, u14, u15, u16, u17], []⟩) ∧ (k ≤ l.length) ∧ (∀ j, j < k → l[j]? ≠ some x) ∧ (SelsAt V v l) ∧ (V.heap[gx]? = some (.cells (Sel.c x) 30 (0, 0))) ∧ (Keeps Nob w V)) (fun a _ => l.length - (intOf (a.tmps.getD 5 undef)).toNat) (by kernel_rfl) ?_ ?_
  · exact ⟨0, (.bool false), undef, undef, undef, undef, undef, undef, undef, undef, undef, undef, undef, undef, by kernel_rfl, Nat.zero_le _, fun j h => absurd h (by omega), h4, h2, K5⟩
  · rintro a V6 ⟨k, u4, u6, u7, u8, u9, u10, u11, u12, u13, u14, u15, u16, u17, rfl, hk, hs, h7, h8, K9⟩
    rcases sl_cases l (fun y => y = x) k hk with ⟨y, lt_k, hy, hxy⟩ | ⟨y, lt_k, hy, hxy⟩ | eq_k
    · have hyr := hlr y (List.mem_of_getElem? hy)
      obtain ⟨b_a, o_a, c_a, hv_a, hb_a, _⟩ := (h7).at_ k _ hy
      refine q_ <| qr_ [0, 1, 2, 3] <| pkq (iN k) <| pkq (v) <| ppq (iN l.length) (exec_len_sl (.tmp 7) 46 30 (by kernel_rfl) Tryz.underlying46 (by kernel_rfl) h7) <| ppq (.bool true) (dct ((((k : Nat) : Int)) < (((l.length : Nat) : Int))) (by omega)) <| ey_ <| s_ <| tq_ <| b_ 1 <| q_ <| sy_reg <| rg_still 4 5 (opsAt (qc98_6 840)) [qo98_6 840 0, qo98_6 840 1, qo98_6 840 2, qo98_6 840 3, qo98_6 840 4] [qo98_6 840 5] (by kernel_rfl) (by kernel_rfl) (by kernel_rfl) (by kernel_rfl) (by kernel_rfl) ?_
      obtain ⟨V11, eV11, kV11⟩ := drew_step V6
      rw [eV11]
      clear eV11
      have h12 : SelsAt V11 v l := h7.keepsN kV11
      have h13 := kV11.bk h8
      have K14 := K9.nn kV11
      refine skq (v) <| skq (iN k) <| spq (pT b_a (o_a + k * 34)) (exec_indexAt_slice 46 (.tmp 12) (.tmp 13) (by kernel_rfl) b_a o_a l.length c_a (Eq.trans (b := v) (by kernel_rfl) hv_a) .i64 k (by kernel_rfl) _ 34 Tryz.underlying46 (by kernel_rfl) (by omega)) <| spq (.agg (Sel.c y)) (exec_load_mid 30 (.tmp 14) (by kernel_rfl) b_a (o_a + k * 34) (by kernel_rfl) (Sel.cl y) _ (Sl.range h12 hy hv_a) Tryz.underlying30 rfl (by rw [Sel.cl_len hyr]; kernel_rfl)) <| spq (.agg (Sel.c x)) (ldr 30 gx (h13) (by rw [Sel.c_size _ hx]; kernel_rfl)) <| st_end <| ls_run (qo98_6 840 5) (.bool true) (w' := V11) (by kernel_rfl) (exec_cast (congrArg Value.bool (decide_eq_true hxy)) (exec_binop .eql 30 30 (.tmp 15) (.tmp 16) (by kernel_rfl) (.agg (Sel.c y)) (.agg (Sel.c x)) _ (by kernel_rfl) (by kernel_rfl) (run_eqGuard_agg _ _ _ _ _ _ _ sel_guard) (sel_eq y x hyr hx _))) <| ls_end <| then_n <| y_ <| qr_ [0] <| pkq (.bool true) <| eu_ <| blk_r ?_
      refine then_r <| then_r <| blk_r <| then_r <| so_ (.bool true) ?_
      exact ⟨by rw [decide_eq_true (show x ∈ l from hxy ▸ List.mem_of_getElem? hy)], K14⟩
    · have hyr := hlr y (List.mem_of_getElem? hy)
      obtain ⟨b_a, o_a, c_a, hv_a, hb_a, _⟩ := (h7).at_ k _ hy
      refine q_ <| qr_ [0, 1, 2, 3] <| pkq (iN k) <| pkq (v) <| ppq (iN l.length) (exec_len_sl (.tmp 7) 46 30 (by kernel_rfl) Tryz.underlying46 (by kernel_rfl) h7) <| ppq (.bool true) (dct ((((k : Nat) : Int)) < (((l.length : Nat) : Int))) (by omega)) <| ey_ <| s_ <| tq_ <| b_ 1 <| q_ <| sy_reg <| rg_still 4 5 (opsAt (qc98_6 840)) [qo98_6 840 0, qo98_6 840 1, qo98_6 840 2, qo98_6 840 3, qo98_6 840 4] [qo98_6 840 5] (by kernel_rfl) (by kernel_rfl) (by kernel_rfl) (by kernel_rfl) (by kernel_rfl) ?_
      obtain ⟨V16, eV16, kV16⟩ := drew_step V6
      rw [eV16]
      clear eV16
      have h17 : SelsAt V16 v l := h7.keepsN kV16
      have h18 := kV16.bk h8
      have K19 := K9.nn kV16
      refine skq (v) <| skq (iN k) <| spq (pT b_a (o_a + k * 34)) (exec_indexAt_slice 46 (.tmp 12) (.tmp 13) (by kernel_rfl) b_a o_a l.length c_a (Eq.trans (b := v) (by kernel_rfl) hv_a) .i64 k (by kernel_rfl) _ 34 Tryz.underlying46 (by kernel_rfl) (by omega)) <| spq (.agg (Sel.c y)) (exec_load_mid 30 (.tmp 14) (by kernel_rfl) b_a (o_a + k * 34) (by kernel_rfl) (Sel.cl y) _ (Sl.range h17 hy hv_a) Tryz.underlying30 rfl (by rw [Sel.cl_len hyr]; kernel_rfl)) <| spq (.agg (Sel.c x)) (ldr 30 gx (h18) (by rw [Sel.c_size _ hx]; kernel_rfl)) <| st_end <| ls_run (qo98_6 840 5) (.bool false) (w' := V16) (by kernel_rfl) (exec_cast (congrArg Value.bool (decide_eq_false hxy)) (exec_binop .eql 30 30 (.tmp 15) (.tmp 16) (by kernel_rfl) (.agg (Sel.c y)) (.agg (Sel.c x)) _ (by kernel_rfl) (by kernel_rfl) (run_eqGuard_agg _ _ _ _ _ _ _ sel_guard) (sel_eq y x hyr hx _))) <| ls_end <| then_n <| n_ <| s_ <| blk_n <| tr_ [0, 1, 2] <| pkq (iN k) ?_
      refine ppq (iN (k + 1)) (exec_cast (congrArg (Value.int .i64) (wrapN (k + 1) (by omega))) (by kernel_rfl)) <| pkq (iN (k + 1)) <| et_ ?_
      refine ⟨⟨k + 1, u4, (iN k), v, (iN l.length), (.bool true), (iN k), (iN (k + 1)), v, (iN k), (pT b_a (o_a + k * 34)), (.agg (Sel.c y)), (.agg (Sel.c x)), (.bool false), by kernel_rfl, by omega, fun j hj => by by_cases e : j = k; (subst e; rw [hy]; intro e; exact hxy (Option.some.inj e)); exact hs j (by omega), h17, h18, K19⟩, ?_⟩
      exact lt_meas (x := l.length - (k + 1)) (y := l.length - k) (by kernel_rfl) (by kernel_rfl) (by omega)
    · have eq_k2 : k = l.length := eq_k
      refine q_ <| qr_ [0, 1, 2, 3] <| pkq (iN k) <| pkq (v) <| ppq (iN l.length) (exec_len_sl (.tmp 7) 46 30 (by kernel_rfl) Tryz.underlying46 (by kernel_rfl) h7) <| ppq (.bool false) (dcf ((((k : Nat) : Int)) < (((l.length : Nat) : Int))) (by omega)) <| en_ <| sy_exit 0 (by kernel_rfl) <| then_e <| then_e <| blk_e <| tqr_ [0] <| pkq (.bool false) <| eu_ ?_
      refine so_ (.bool false) ?_
      exact ⟨by rw [decide_eq_false (show ¬ x ∈ l from fun hm => by obtain ⟨j, hj⟩ := List.getElem?_of_mem hm; exact hs j (by have := (List.getElem?_eq_some_iff.1 hj).1; omega) hj)], K9⟩
theorem rsHas_is {v : Value} {l : List Sel} {x : Sel} {r : Bool} (w : World) (hl : SelsAt w v l) (hlr : ∀ y ∈ l, y.r.length = 32) (hx : x.r.length = 32) (h : decide (x ∈ l) = r) : Calls Tryz.prog 63 #[v, .agg (Sel.c x)] w fun e w' => e = .returned (.bool r) ∧ Keeps Nob w w' := by
  subst h; exact rsHas_ok v l x w hl hlr hx
noncomputable def qc98_4 (n : Nat) : Code := partOf Tryz.f23 n
theorem reSigned_ok (v : Value) (l : List Sel) (m : Msg) (w : World) (ho : m.Ok) (hl : SelsAt w v l) (hlr : ∀ y ∈ l, y.r.length = 32) :
    Calls Tryz.prog 23 #[v, .agg (Msg.c m)] w (fun e w' => e = .returned (.int .i64 (sgnd l m)) ∧ Keeps Nob w w') := by
  have hr := ho.R
  have K0 : Keeps Nob w w := Keeps.refl _ _
  refine sy_enter (qc98_4 1) ⟨#[v, .agg (Msg.c m), ud, ud, ud, ud, ud, ud, ud, ud, ud, ud, ud, ud, ud, ud, ud, ud, ud, ud, ud, ud, ud, ud, ud, ud, ud, ud, ud, ud, ud, ud, ud, ud, ud, ud, ud, ud, ud, ud, ud, ud, ud, ud, ud, ud, ud, ud, ud, ud, ud, ud], []⟩ Tryz.func23 (by kernel_rfl) (by kernel_rfl) <| qr_ [0, 1] <| pbx 38 ((Msg.c m)) (.agg (Msg.c m)) fun V1 gm egm h2 kV1 => ?_
  have n3 : w.heap.size ≤ gm := egm ▸ K0.size
  have h4 : SelsAt V1 v l := hl.keepsN kV1
  have K5 := K0.nn kV1
  have z6 := kV1.size
  refine pkq (.int .i64 0) <| eq_ <| qr_ [0, 1, 2] <| ppq (.agg (Msg.c m)) (ldr 38 gm (h2) (by rw [Msg.c_size hr]; kernel_rfl)) ?_
  refine pcq 56 #[.agg (Msg.c m)] Tryz.func56 ((reevidence_ok m _ hr).mono ?_)
  rintro e V7 ⟨rfl, kV7⟩
  refine ⟨_, rfl, ?_⟩
  have h8 : SelsAt V7 v l := h4.keepsN kV7
  have h9 := kV7.bk h2
  have K10 := K5.nn kV7
  have z11 := kV7.size
  refine pkq (.int .i64 m.evi) <| eqr_ [0, 1] ?_
  by_cases c0 : m.evi = 0
  · refine pkq (.int .i64 m.evi) <| ppq (.bool false) (nqf ((m.evi) : Int) ((0) : Int) (by omega)) <| en_ <| s_ <| tqr_ [0, 1, 2, 3, 4, 5, 6, 7, 8] <| pkq (pT gm 12) <| ppq (.agg (Att.c m.a)) (exec_load_seg 26 (.tmp 16) (by kernel_rfl) gm 12 (by kernel_rfl) (Att.c m.a).toList _ _ _ h9 (Msg.seg_A hr) Tryz.underlying26 rfl (by rw [Att.tl hr.a]; kernel_rfl)) ?_
    refine pcq 9 #[.agg (Att.c m.a)] Tryz.func9 ((reSeal_ok m.a _ ho.a).mono ?_)
    rintro e V12 ⟨rfl, kV12⟩
    refine ⟨_, rfl, ?_⟩
    have h13 : SelsAt V12 v l := h8.keepsN kV12
    have h14 := kV12.bk h9
    have K15 := K10.nn kV12
    have z16 := kV12.size
    refine pkq (.tuple #[.agg (Sel.c m.a.sel), .int .i64 m.a.err]) <| pkq (.agg (Sel.c m.a.sel)) <| pkq (.int .i64 m.a.err) <| pal 30 ((Sel.c selZ)) (.agg ((Sel.c selZ))) fun V17 s0 es0 h18 kV17 => ?_
    have n19 : gm < s0 := es0 ▸ lt_of_block h14
    have n20 : w.heap.size ≤ s0 := es0 ▸ K15.size
    have h21 : SelsAt V17 v l := h13.keepsN kV17
    have h22 := kV17.bk h14
    have K23 := K15.nn kV17
    have z24 := kV17.size
    refine pst 30 s0 ((Sel.c m.a.sel)) h18 (by rw [Sel.c_size _ m.a.sel_r]; kernel_rfl) (by rw [Sel.c_size _ m.a.sel_r]; rfl) (Sel.c_one _) fun V25 h26 kV25 => ?_
    have h27 : SelsAt V25 v l := Sl.keepsB hl h21 kV25 (fun j e => by first | (unfold Own.One at e; omega) | omega)
    have h28 := kV25.bO h22
    have K29 := K23.nO kV25
    have z30 := kV25.size
    refine pkq (.int .i64 m.a.err) <| eqr_ [0, 1, 2, 3, 4, 5, 6, 7, 8] <| pkq (pT gm 48) <| ppq (.agg (Att.c m.b)) (exec_load_seg 26 (.tmp 22) (by kernel_rfl) gm 48 (by kernel_rfl) (Att.c m.b).toList _ _ _ h28 (Msg.seg_B hr) Tryz.underlying26 rfl (by rw [Att.tl hr.b]; kernel_rfl)) ?_
    refine pcq 9 #[.agg (Att.c m.b)] Tryz.func9 ((reSeal_ok m.b _ ho.b).mono ?_)
    rintro e V31 ⟨rfl, kV31⟩
    refine ⟨_, rfl, ?_⟩
    have h32 : SelsAt V31 v l := h27.keepsN kV31
    have h33 := kV31.bk h28
    have h34 := kV31.bk h26
    have K35 := K29.nn kV31
    have z36 := kV31.size
    refine pkq (.tuple #[.agg (Sel.c m.b.sel), .int .i64 m.b.err]) <| pkq (.agg (Sel.c m.b.sel)) <| pkq (.int .i64 m.b.err) <| pal 30 ((Sel.c selZ)) (.agg ((Sel.c selZ))) fun V37 s1 es1 h38 kV37 => ?_
    have n39 : gm < s1 := es1 ▸ lt_of_block h33
    have n40 : s0 < s1 := es1 ▸ lt_of_block h34
    have n41 : w.heap.size ≤ s1 := es1 ▸ K35.size
    have h42 : SelsAt V37 v l := h32.keepsN kV37
    have h43 := kV37.bk h33
    have h44 := kV37.bk h34
    have K45 := K35.nn kV37
    have z46 := kV37.size
    refine pst 30 s1 ((Sel.c m.b.sel)) h38 (by rw [Sel.c_size _ m.b.sel_r]; kernel_rfl) (by rw [Sel.c_size _ m.b.sel_r]; rfl) (Sel.c_one _) fun V47 h48 kV47 => ?_
    have h49 : SelsAt V47 v l := Sl.keepsB hl h42 kV47 (fun j e => by first | (unfold Own.One at e; omega) | omega)
    have h50 := kV47.bO h43
    have h51 := kV47.bO h44
    have K52 := K45.nO kV47
    have z53 := kV47.size
    refine pkq (.int .i64 m.b.err) <| ps_end <| sy_a ⟨#[v, .agg (Msg.c m), ud, pT gm 0, .int .i64 0, .int .i64 m.evi, pT s0 0, .int .i64 m.a.err, pT s1 0, .int .i64 m.b.err, .agg (Msg.c m), .int .i64 m.evi, .int .i64 m.evi, .bool false, ud, .tuple #[.agg (Sel.c m.a.sel), .int .i64 m.a.err], pT gm 12, .agg (Att.c m.a), .tuple #[.agg (Sel.c m.a.sel), .int .i64 m.a.err], .agg (Sel.c m.a.sel), .int .i64 m.a.err, .tuple #[.agg (Sel.c m.b.sel), .int .i64 m.b.err], pT gm 48, .agg (Att.c m.b), .tuple #[.agg (Sel.c m.b.sel), .int .i64 m.b.err], .agg (Sel.c m.b.sel), .int .i64 m.b.err, ud, ud, ud, ud, ud, ud, ud, ud, ud, ud, ud, ud, ud, ud, ud, ud, ud, ud, ud, ud, ud, ud, ud, ud, ud], []⟩ <| tq_ <| qr_ [0, 1, 2] ?_
    by_cases c1 : m.pf = 3
    · refine pkq (pT gm 11) <| ppq (.int .i64 m.pf) (ldc 3 gm 11 (rc (h50) (Msg.get_n hr NF.pf))) <| ppq (.bool true) (eqt ((m.pf) : Int) ((3) : Int) (by omega)) <| ey_ <| qr_ [0, 1, 2, 3, 4, 5, 6] <| pkq (pT gm 84) <| ppq (.agg (Pro.c m.p)) (exec_load_seg 28 (.tmp 31) (by kernel_rfl) gm 84 (by kernel_rfl) (Pro.c m.p).toList _ _ _ h50 (Msg.seg_P hr) Tryz.underlying28 rfl (by rw [Pro.tl hr.p]; kernel_rfl)) ?_
      refine pcq 11 #[.agg (Pro.c m.p)] Tryz.func11 ((reSealBlock_ok m.p _ ho.p).mono ?_)
      rintro e V54 ⟨rfl, kV54⟩
      refine ⟨_, rfl, ?_⟩
      have h55 : SelsAt V54 v l := h49.keepsN kV54
      have h56 := kV54.bk h50
      have h57 := kV54.bk h51
      have h58 := kV54.bk h48
      have K59 := K52.nn kV54
      have z60 := kV54.size
      refine pkq (.tuple #[.agg (Sel.c m.p.sel), .int .i64 m.p.err]) <| pkq (.agg (Sel.c m.p.sel)) <| pkq (.int .i64 m.p.err) <| pst 30 s0 ((Sel.c m.p.sel)) h57 (by rw [Sel.c_size _ m.p.sel_r]; kernel_rfl) (by rw [Sel.c_size _ m.p.sel_r]; exact Sel.c_size _ m.a.sel_r) (Sel.c_one _) fun V61 h62 kV61 => ?_
      have h63 : SelsAt V61 v l := Sl.keepsB hl h55 kV61 (fun j e => by first | (unfold Own.One at e; omega) | omega)
      have h64 := kV61.bO h56
      have h65 := kV61.bO h58
      have K66 := K59.nO kV61
      have z67 := kV61.size
      refine er_ [0, 1, 2, 3, 4, 5, 6] <| pkq (pT gm 119) <| ppq (.agg (Pro.c m.q)) (exec_load_seg 28 (.tmp 37) (by kernel_rfl) gm 119 (by kernel_rfl) (Pro.c m.q).toList _ _ _ h64 (Msg.seg_Q hr) Tryz.underlying28 rfl (by rw [Pro.tl hr.q]; kernel_rfl)) ?_
      refine pcq 11 #[.agg (Pro.c m.q)] Tryz.func11 ((reSealBlock_ok m.q _ ho.q).mono ?_)
      rintro e V68 ⟨rfl, kV68⟩
      refine ⟨_, rfl, ?_⟩
      have h69 : SelsAt V68 v l := h63.keepsN kV68
      have h71 := kV68.bk h65
      have h72 := kV68.bk h62
      have K73 := K66.nn kV68
      have z74 := kV68.size
      refine pkq (.tuple #[.agg (Sel.c m.q.sel), .int .i64 m.q.err]) <| pkq (.agg (Sel.c m.q.sel)) <| pkq (.int .i64 m.q.err) <| pst 30 s1 ((Sel.c m.q.sel)) h71 (by rw [Sel.c_size _ m.q.sel_r]; kernel_rfl) (by rw [Sel.c_size _ m.q.sel_r]; exact Sel.c_size _ m.b.sel_r) (Sel.c_one _) fun V75 h76 kV75 => ?_
      have h77 : SelsAt V75 v l := Sl.keepsB hl h69 kV75 (fun j e => by first | (unfold Own.One at e; omega) | omega)
      have h79 := kV75.bO h72
      have K80 := K73.nO kV75
      have z81 := kV75.size
      refine eq_ <| qr_ [0, 1, 2, 3, 4, 5, 6, 7, 8, 9] ?_
      rcases in_split (l := l) m.p.sel m.q.sel with c2 | ⟨c2, c3⟩ | ⟨c2, c3⟩
      · skip
        refine pkq (v) <| ppq (.agg (Sel.c m.p.sel)) (ldr 30 s0 (h79) (by rw [Sel.c_size _ m.p.sel_r]; kernel_rfl)) ?_
        refine pcq 63 #[v, .agg (Sel.c m.p.sel)] Tryz.func63 ((rsHas_is _ h77 hlr m.p.sel_r (decide_eq_false c2)).mono ?_)
        rintro e V82 ⟨rfl, kV82⟩
        refine ⟨_, rfl, ?_⟩
        have K87 := K80.nn kV82
        have z88 := kV82.size
        refine pkq (.bool true) <| pkq (.bool true) <| pnq <| pnq <| pnq <| pnq <| pkq (.bool true) <| ps_end <| sy_a ⟨#[v, .agg (Msg.c m), ud, pT gm 0, .int .i64 0, .int .i64 m.evi, pT s0 0, .int .i64 m.a.err, pT s1 0, .int .i64 m.b.err, .agg (Msg.c m), .int .i64 m.evi, .int .i64 m.evi, .bool false, ud, .tuple #[.agg (Sel.c m.a.sel), .int .i64 m.a.err], pT gm 12, .agg (Att.c m.a), .tuple #[.agg (Sel.c m.a.sel), .int .i64 m.a.err], .agg (Sel.c m.a.sel), .int .i64 m.a.err, .tuple #[.agg (Sel.c m.b.sel), .int .i64 m.b.err], pT gm 48, .agg (Att.c m.b), .tuple #[.agg (Sel.c m.b.sel), .int .i64 m.b.err], .agg (Sel.c m.b.sel), .int .i64 m.b.err, pT gm 11, .int .i64 m.pf, .bool true, .tuple #[.agg (Sel.c m.p.sel), .int .i64 m.p.err], pT gm 84, .agg (Pro.c m.p), .tuple #[.agg (Sel.c m.p.sel), .int .i64 m.p.err], .agg (Sel.c m.p.sel), .int .i64 m.p.err, .tuple #[.agg (Sel.c m.q.sel), .int .i64 m.q.err], pT gm 119, .agg (Pro.c m.q), .tuple #[.agg (Sel.c m.q.sel), .int .i64 m.q.err], .agg (Sel.c m.q.sel), .int .i64 m.q.err, v, .agg (Sel.c m.p.sel), .bool false, .bool true, .bool true, ud, ud, ud, ud, .bool true], []⟩ <| then_n <| y_ <| qr_ [0] <| pkq (.int .i64 15) <| eu_ ?_
        refine then_r <| so_ (.int .i64 15) ?_
        exact ⟨by rw [sgnd, c0, (show m.sls = [m.p.sel, m.q.sel] from if_pos c1), hasE_pair]; simp only [firstE]; rw [if_neg c2]; rfl, K87⟩
      · skip
        refine pkq (v) <| ppq (.agg (Sel.c m.p.sel)) (ldr 30 s0 (h79) (by rw [Sel.c_size _ m.p.sel_r]; kernel_rfl)) ?_
        refine pcq 63 #[v, .agg (Sel.c m.p.sel)] Tryz.func63 ((rsHas_is _ h77 hlr m.p.sel_r (decide_eq_true c2)).mono ?_)
        rintro e V89 ⟨rfl, kV89⟩
        refine ⟨_, rfl, ?_⟩
        have h90 : SelsAt V89 v l := h77.keepsN kV89
        have h93 := kV89.bk h76
        have K94 := K80.nn kV89
        have z95 := kV89.size
        refine pkq (.bool false) <| pkq (.bool false) <| pkq (v) <| ppq (.agg (Sel.c m.q.sel)) (ldr 30 s1 (h93) (by rw [Sel.c_size _ m.q.sel_r]; kernel_rfl)) ?_
        refine pcq 63 #[v, .agg (Sel.c m.q.sel)] Tryz.func63 ((rsHas_is _ h90 hlr m.q.sel_r (decide_eq_false c3)).mono ?_)
        rintro e V96 ⟨rfl, kV96⟩
        refine ⟨_, rfl, ?_⟩
        have K101 := K94.nn kV96
        have z102 := kV96.size
        refine pkq (.bool true) <| pkq (.bool true) <| ps_end <| sy_a ⟨#[v, .agg (Msg.c m), ud, pT gm 0, .int .i64 0, .int .i64 m.evi, pT s0 0, .int .i64 m.a.err, pT s1 0, .int .i64 m.b.err, .agg (Msg.c m), .int .i64 m.evi, .int .i64 m.evi, .bool false, ud, .tuple #[.agg (Sel.c m.a.sel), .int .i64 m.a.err], pT gm 12, .agg (Att.c m.a), .tuple #[.agg (Sel.c m.a.sel), .int .i64 m.a.err], .agg (Sel.c m.a.sel), .int .i64 m.a.err, .tuple #[.agg (Sel.c m.b.sel), .int .i64 m.b.err], pT gm 48, .agg (Att.c m.b), .tuple #[.agg (Sel.c m.b.sel), .int .i64 m.b.err], .agg (Sel.c m.b.sel), .int .i64 m.b.err, pT gm 11, .int .i64 m.pf, .bool true, .tuple #[.agg (Sel.c m.p.sel), .int .i64 m.p.err], pT gm 84, .agg (Pro.c m.p), .tuple #[.agg (Sel.c m.p.sel), .int .i64 m.p.err], .agg (Sel.c m.p.sel), .int .i64 m.p.err, .tuple #[.agg (Sel.c m.q.sel), .int .i64 m.q.err], pT gm 119, .agg (Pro.c m.q), .tuple #[.agg (Sel.c m.q.sel), .int .i64 m.q.err], .agg (Sel.c m.q.sel), .int .i64 m.q.err, v, .agg (Sel.c m.p.sel), .bool true, .bool false, .bool false, v, .agg (Sel.c m.q.sel), .bool false, .bool true, .bool true], []⟩ <| then_n <| y_ <| qr_ [0] <| pkq (.int .i64 15) <| eu_ <| then_r <| so_ (.int .i64 15) ?_
        exact ⟨by rw [sgnd, c0, (show m.sls = [m.p.sel, m.q.sel] from if_pos c1), hasE_pair]; simp only [firstE]; rw [if_pos c2, if_neg c3]; rfl, K101⟩
      · skip
        refine pkq (v) <| ppq (.agg (Sel.c m.p.sel)) (ldr 30 s0 (h79) (by rw [Sel.c_size _ m.p.sel_r]; kernel_rfl)) ?_
        refine pcq 63 #[v, .agg (Sel.c m.p.sel)] Tryz.func63 ((rsHas_is _ h77 hlr m.p.sel_r (decide_eq_true c2)).mono ?_)
        rintro e V103 ⟨rfl, kV103⟩
        refine ⟨_, rfl, ?_⟩
        have h104 : SelsAt V103 v l := h77.keepsN kV103
        have h107 := kV103.bk h76
        have K108 := K80.nn kV103
        have z109 := kV103.size
        refine pkq (.bool false) <| pkq (.bool false) <| pkq (v) <| ppq (.agg (Sel.c m.q.sel)) (ldr 30 s1 (h107) (by rw [Sel.c_size _ m.q.sel_r]; kernel_rfl)) ?_
        refine pcq 63 #[v, .agg (Sel.c m.q.sel)] Tryz.func63 ((rsHas_is _ h104 hlr m.q.sel_r (decide_eq_true c3)).mono ?_)
        rintro e V110 ⟨rfl, kV110⟩
        refine ⟨_, rfl, ?_⟩
        have K115 := K108.nn kV110
        have z116 := kV110.size
        refine pkq (.bool false) <| pkq (.bool false) <| ps_end <| sy_a ⟨#[v, .agg (Msg.c m), ud, pT gm 0, .int .i64 0, .int .i64 m.evi, pT s0 0, .int .i64 m.a.err, pT s1 0, .int .i64 m.b.err, .agg (Msg.c m), .int .i64 m.evi, .int .i64 m.evi, .bool false, ud, .tuple #[.agg (Sel.c m.a.sel), .int .i64 m.a.err], pT gm 12, .agg (Att.c m.a), .tuple #[.agg (Sel.c m.a.sel), .int .i64 m.a.err], .agg (Sel.c m.a.sel), .int .i64 m.a.err, .tuple #[.agg (Sel.c m.b.sel), .int .i64 m.b.err], pT gm 48, .agg (Att.c m.b), .tuple #[.agg (Sel.c m.b.sel), .int .i64 m.b.err], .agg (Sel.c m.b.sel), .int .i64 m.b.err, pT gm 11, .int .i64 m.pf, .bool true, .tuple #[.agg (Sel.c m.p.sel), .int .i64 m.p.err], pT gm 84, .agg (Pro.c m.p), .tuple #[.agg (Sel.c m.p.sel), .int .i64 m.p.err], .agg (Sel.c m.p.sel), .int .i64 m.p.err, .tuple #[.agg (Sel.c m.q.sel), .int .i64 m.q.err], pT gm 119, .agg (Pro.c m.q), .tuple #[.agg (Sel.c m.q.sel), .int .i64 m.q.err], .agg (Sel.c m.q.sel), .int .i64 m.q.err, v, .agg (Sel.c m.p.sel), .bool true, .bool false, .bool false, v, .agg (Sel.c m.q.sel), .bool true, .bool false, .bool false], []⟩ <| then_n <| n_ <| s_ <| tqr_ [0] <| pkq (.int .i64 0) <| eu_ <| so_ (.int .i64 0) ?_
        exact ⟨by rw [sgnd, c0, (show m.sls = [m.p.sel, m.q.sel] from if_pos c1), hasE_pair]; simp only [firstE]; rw [if_pos c2, if_pos c3]; rfl, K115⟩
    · refine pkq (pT gm 11) <| ppq (.int .i64 m.pf) (ldc 3 gm 11 (rc (h50) (Msg.get_n hr NF.pf))) <| ppq (.bool false) (eqf ((m.pf) : Int) ((3) : Int) (by omega)) <| en_ <| s_ <| tq_ <| qr_ [0, 1, 2, 3, 4, 5, 6, 7, 8, 9] ?_
      rcases in_split (l := l) m.a.sel m.b.sel with c2 | ⟨c2, c3⟩ | ⟨c2, c3⟩
      · skip
        refine pkq (v) <| ppq (.agg (Sel.c m.a.sel)) (ldr 30 s0 (h51) (by rw [Sel.c_size _ m.a.sel_r]; kernel_rfl)) ?_
        refine pcq 63 #[v, .agg (Sel.c m.a.sel)] Tryz.func63 ((rsHas_is _ h49 hlr m.a.sel_r (decide_eq_false c2)).mono ?_)
        rintro e V117 ⟨rfl, kV117⟩
        refine ⟨_, rfl, ?_⟩
        have K122 := K52.nn kV117
        have z123 := kV117.size
        refine pkq (.bool true) <| pkq (.bool true) <| pnq <| pnq <| pnq <| pnq <| pkq (.bool true) <| ey_ <| qr_ [0] <| pkq (.int .i64 15) <| eu_ <| then_r <| so_ (.int .i64 15) ?_
        exact ⟨by rw [sgnd, c0, (show m.sls = [m.a.sel, m.b.sel] from if_neg c1), hasE_pair]; simp only [firstE]; rw [if_neg c2]; rfl, K122⟩
      · skip
        refine pkq (v) <| ppq (.agg (Sel.c m.a.sel)) (ldr 30 s0 (h51) (by rw [Sel.c_size _ m.a.sel_r]; kernel_rfl)) ?_
        refine pcq 63 #[v, .agg (Sel.c m.a.sel)] Tryz.func63 ((rsHas_is _ h49 hlr m.a.sel_r (decide_eq_true c2)).mono ?_)
        rintro e V124 ⟨rfl, kV124⟩
        refine ⟨_, rfl, ?_⟩
        have h125 : SelsAt V124 v l := h49.keepsN kV124
        have h128 := kV124.bk h48
        have K129 := K52.nn kV124
        have z130 := kV124.size
        refine pkq (.bool false) <| pkq (.bool false) <| pkq (v) <| ppq (.agg (Sel.c m.b.sel)) (ldr 30 s1 (h128) (by rw [Sel.c_size _ m.b.sel_r]; kernel_rfl)) ?_
        refine pcq 63 #[v, .agg (Sel.c m.b.sel)] Tryz.func63 ((rsHas_is _ h125 hlr m.b.sel_r (decide_eq_false c3)).mono ?_)
        rintro e V131 ⟨rfl, kV131⟩
        refine ⟨_, rfl, ?_⟩
        have K136 := K129.nn kV131
        have z137 := kV131.size
        refine pkq (.bool true) <| pkq (.bool true) <| ey_ <| qr_ [0] <| pkq (.int .i64 15) <| eu_ <| then_r <| so_ (.int .i64 15) ?_
        exact ⟨by rw [sgnd, c0, (show m.sls = [m.a.sel, m.b.sel] from if_neg c1), hasE_pair]; simp only [firstE]; rw [if_pos c2, if_neg c3]; rfl, K136⟩
      · skip
        refine pkq (v) <| ppq (.agg (Sel.c m.a.sel)) (ldr 30 s0 (h51) (by rw [Sel.c_size _ m.a.sel_r]; kernel_rfl)) ?_
        refine pcq 63 #[v, .agg (Sel.c m.a.sel)] Tryz.func63 ((rsHas_is _ h49 hlr m.a.sel_r (decide_eq_true c2)).mono ?_)
        rintro e V138 ⟨rfl, kV138⟩
        refine ⟨_, rfl, ?_⟩
        have h139 : SelsAt V138 v l := h49.keepsN kV138
        have h142 := kV138.bk h48
        have K143 := K52.nn kV138
        have z144 := kV138.size
        refine pkq (.bool false) <| pkq (.bool false) <| pkq (v) <| ppq (.agg (Sel.c m.b.sel)) (ldr 30 s1 (h142) (by rw [Sel.c_size _ m.b.sel_r]; kernel_rfl)) ?_
        refine pcq 63 #[v, .agg (Sel.c m.b.sel)] Tryz.func63 ((rsHas_is _ h139 hlr m.b.sel_r (decide_eq_true c3)).mono ?_)
        rintro e V145 ⟨rfl, kV145⟩
        refine ⟨_, rfl, ?_⟩
        have K150 := K143.nn kV145
        have z151 := kV145.size
        refine pkq (.bool false) <| pkq (.bool false) <| en_ <| s_ <| tqr_ [0] <| pkq (.int .i64 0) <| eu_ <| so_ (.int .i64 0) ?_
        exact ⟨by rw [sgnd, c0, (show m.sls = [m.a.sel, m.b.sel] from if_neg c1), hasE_pair]; simp only [firstE]; rw [if_pos c2, if_pos c3]; rfl, K150⟩
  · refine pkq (.int .i64 m.evi) <| ppq (.bool true) (nqt ((m.evi) : Int) ((0) : Int) (by omega)) <| ey_ <| qr_ [0, 1] <| pkq (.int .i64 m.evi) <| pkq (.int .i64 m.evi) <| eu_ <| then_r <| so_ (.int .i64 m.evi) ?_
    exact ⟨by rw [sgnd]; simp only [firstE]; rw [if_neg c0], K10⟩
noncomputable def qc98_5 (n : Nat) : Code := partOf Tryz.f21 n
theorem reJudge_ok (p : Par) (n : Int) (v : Value) (l : List Sel) (m : Msg) (w : World) (hp : p.Ok) (ho : m.Ok) (hl : SelsAt w v l) (hlr : ∀ y ∈ l, y.r.length = 32) :
    Calls Tryz.prog 21 #[.agg p.cells, v, .int .i64 n, .agg (Msg.c m)] w (fun e w' => e = .returned (.tuple #[.agg (jud p l n m).1.cs, .int .i64 (jud p l n m).2]) ∧ Keeps Nob w w') := by
  have hr := ho.R
  have K0 : Keeps Nob w w := Keeps.refl _ _
  refine sy_enter (qc98_5 1) ⟨#[.agg p.cells, v, .int .i64 n, .agg (Msg.c m), ud, ud, ud, ud, ud, ud, ud, ud, ud, ud, ud, ud, ud, ud, ud, ud, ud, ud, ud, ud, ud, ud, ud, ud, ud, ud, ud, ud, ud, ud, ud], []⟩ Tryz.func21 (by kernel_rfl) (by kernel_rfl) <| qr_ [0, 1, 2, 3] <| pbx 45 p.cells (.agg p.cells) fun V1 gp egp h2 kV1 => ?_
  have n3 : w.heap.size ≤ gp := egp ▸ K0.size
  have h4 : SelsAt V1 v l := hl.keepsN kV1
  have K5 := K0.nn kV1
  have z6 := kV1.size
  refine pbx 38 ((Msg.c m)) (.agg (Msg.c m)) fun V7 gm egm h8 kV7 => ?_
  have n9 : gp < gm := egm ▸ lt_of_block h2
  have n10 : w.heap.size ≤ gm := egm ▸ K5.size
  have h11 : SelsAt V7 v l := h4.keepsN kV7
  have h12 := kV7.bk h2
  have K13 := K5.nn kV7
  have z14 := kV7.size
  refine pal 49 (#[.int .i64 0, .int .i64 0, .int .i64 0]) (.agg (#[.int .i64 0, .int .i64 0, .int .i64 0])) fun V15 go ego h16 kV15 => ?_
  have n17 : gp < go := ego ▸ lt_of_block h12
  have n18 : gm < go := ego ▸ lt_of_block h8
  have n19 : w.heap.size ≤ go := ego ▸ K13.size
  have h20 : SelsAt V15 v l := h11.keepsN kV15
  have h21 := kV15.bk h12
  have h22 := kV15.bk h8
  have K23 := K13.nn kV15
  have z24 := kV15.size
  refine pkq (.int .i64 0) <| eqr_ [0, 1, 2, 3, 4, 5, 6, 7, 8] <| ppq (.agg (p.cells)) (ldr 45 gp (h21) (by kernel_rfl)) <| ppq (.agg (Msg.c m)) (ldr 38 gm (h22) (by rw [Msg.c_size hr]; kernel_rfl)) ?_
  refine pcq 19 #[.agg (p.cells), .agg (Msg.c m)] Tryz.func19 ((reOffence_ok p m _ hp ho).mono ?_)
  rintro e V25 ⟨rfl, kV25⟩
  refine ⟨_, rfl, ?_⟩
  have h26 : SelsAt V25 v l := h20.keepsN kV25
  have h27 := kV25.bk h21
  have h28 := kV25.bk h22
  have h29 := kV25.bk h16
  have K30 := K23.nn kV25
  have z31 := kV25.size
  refine pkq (.tuple #[.agg (Off.cs (offe p m).1), .int .i64 (offe p m).2]) <| pkq (.agg (Off.cs (offe p m).1)) <| pkq (.int .i64 (offe p m).2) <| pal 49 (#[.int .i64 0, .int .i64 0, .int .i64 0]) (.agg (#[.int .i64 0, .int .i64 0, .int .i64 0])) fun V32 gq egq h33 kV32 => ?_
  have n34 : gp < gq := egq ▸ lt_of_block h27
  have n35 : gm < gq := egq ▸ lt_of_block h28
  have n36 : go < gq := egq ▸ lt_of_block h29
  have n37 : w.heap.size ≤ gq := egq ▸ K30.size
  have h38 : SelsAt V32 v l := h26.keepsN kV32
  have h40 := kV32.bk h28
  have h41 := kV32.bk h29
  have K42 := K30.nn kV32
  have z43 := kV32.size
  refine pst 49 gq ((Off.cs (offe p m).1)) h33 (by kernel_rfl) rfl (by kernel_rfl) fun V44 h45 kV44 => ?_
  have h46 : SelsAt V44 v l := Sl.keepsB hl h38 kV44 (fun j e => by first | (unfold Own.One at e; omega) | omega)
  have h48 := kV44.bO h40
  have h49 := kV44.bO h41
  have K50 := K42.nO kV44
  have z51 := kV44.size
  refine pkq (.int .i64 (offe p m).2) <| eq_ <| qr_ [0, 1] ?_
  by_cases c0 : (offe p m).2 = 0
  · refine pkq (.int .i64 (offe p m).2) <| ppq (.bool false) (nqf (((offe p m).2) : Int) ((0) : Int) (by omega)) <| en_ <| s_ <| tq_ <| qr_ [0, 1, 2, 3] ?_
    by_cases c1 : n ≤ (offe p m).1.v
    · refine pkq (pT gq 0) <| ppq (.int .i64 ((offe p m).1).v) (ldc 3 gq 0 (rc (h45) (rfl))) <| pkq (.int .i64 n) <| ppq (.bool true) (dct (((((offe p m).1).v) : Int) ≥ ((n) : Int)) (by omega)) <| ey_ <| qr_ [0, 1, 2] <| pkq (.agg (Off.cs offZ)) <| pst 49 go ((Off.cs offZ)) h49 (by kernel_rfl) rfl (by kernel_rfl) fun V52 h53 kV52 => ?_
      have K58 := K50.nO kV52
      have z59 := kV52.size
      refine pkq (.int .i64 10) <| eu_ <| then_r <| sy_out (.tuple #[.agg (Off.cs offZ), .int .i64 10]) rfl (results_row_tmp (p := 8) (q := 9) (ty := 49) (by kernel_rfl) _ _ go 49 (Off.cs offZ) (0, 0) _ (.int .i64 10) (by kernel_rfl) h53 Tryz.underlying49 rfl (by kernel_rfl) (by kernel_rfl)) ?_
      exact ⟨by rw [jud, if_pos c0, if_pos c1]; (try rfl), K58⟩
    · refine pkq (pT gq 0) <| ppq (.int .i64 ((offe p m).1).v) (ldc 3 gq 0 (rc (h45) (rfl))) <| pkq (.int .i64 n) <| ppq (.bool false) (dcf (((((offe p m).1).v) : Int) ≥ ((n) : Int)) (by omega)) <| en_ <| s_ <| tq_ <| qr_ [0, 1, 2, 3] <| pkq (v) <| ppq (.agg (Msg.c m)) (ldr 38 gm (h48) (by rw [Msg.c_size hr]; kernel_rfl)) ?_
      refine pcq 23 #[v, .agg (Msg.c m)] Tryz.func23 ((reSigned_ok v l m _ ho h46 hlr).mono ?_)
      rintro e V60 ⟨rfl, kV60⟩
      refine ⟨_, rfl, ?_⟩
      have h64 := kV60.bk h49
      have h65 := kV60.bk h45
      have K66 := K50.nn kV60
      have z67 := kV60.size
      refine pkq (.int .i64 (sgnd l m)) <| eqr_ [0, 1] ?_
      by_cases c2 : sgnd l m = 0
      · refine pkq (.int .i64 (sgnd l m)) <| ppq (.bool false) (nqf ((sgnd l m) : Int) ((0) : Int) (by omega)) <| ps_end <| sy_a ⟨#[.agg p.cells, v, .int .i64 n, .agg (Msg.c m), pT gp 0, ud, ud, pT gm 0, pT go 0, .int .i64 0, pT gq 0, .int .i64 (sgnd l m), .tuple #[.agg (Off.cs (offe p m).1), .int .i64 (offe p m).2], .agg (p.cells), .agg (Msg.c m), .tuple #[.agg (Off.cs (offe p m).1), .int .i64 (offe p m).2], .agg (Off.cs (offe p m).1), .int .i64 (offe p m).2, .int .i64 (offe p m).2, .bool false, ud, ud, pT gq 0, .int .i64 ((offe p m).1).v, .int .i64 n, .bool false, ud, v, .agg (Msg.c m), .int .i64 (sgnd l m), .int .i64 (sgnd l m), .bool false, ud, ud, ud], []⟩ <| then_n <| n_ <| s_ <| tqr_ [0, 1, 2] <| ppq (.agg (Off.cs ((offe p m).1))) (ldr 49 gq (h65) (by kernel_rfl)) <| pst 49 go ((Off.cs ((offe p m).1))) h64 (by kernel_rfl) rfl (by kernel_rfl) fun V68 h69 kV68 => ?_
        have K74 := K66.nO kV68
        have z75 := kV68.size
        refine pkq (.int .i64 0) <| eu_ <| sy_out (.tuple #[.agg (Off.cs ((offe p m).1)), .int .i64 0]) rfl (results_row_tmp (p := 8) (q := 9) (ty := 49) (by kernel_rfl) _ _ go 49 (Off.cs ((offe p m).1)) (0, 0) _ (.int .i64 0) (by kernel_rfl) h69 Tryz.underlying49 rfl (by kernel_rfl) (by kernel_rfl)) ?_
        exact ⟨by rw [jud, if_pos c0, if_neg c1, if_pos c2]; (try rfl), K74⟩
      · refine pkq (.int .i64 (sgnd l m)) <| ppq (.bool true) (nqt ((sgnd l m) : Int) ((0) : Int) (by omega)) <| ps_end <| sy_a ⟨#[.agg p.cells, v, .int .i64 n, .agg (Msg.c m), pT gp 0, ud, ud, pT gm 0, pT go 0, .int .i64 0, pT gq 0, .int .i64 (sgnd l m), .tuple #[.agg (Off.cs (offe p m).1), .int .i64 (offe p m).2], .agg (p.cells), .agg (Msg.c m), .tuple #[.agg (Off.cs (offe p m).1), .int .i64 (offe p m).2], .agg (Off.cs (offe p m).1), .int .i64 (offe p m).2, .int .i64 (offe p m).2, .bool false, ud, ud, pT gq 0, .int .i64 ((offe p m).1).v, .int .i64 n, .bool false, ud, v, .agg (Msg.c m), .int .i64 (sgnd l m), .int .i64 (sgnd l m), .bool true, ud, ud, ud], []⟩ <| then_n <| y_ <| qr_ [0, 1, 2, 3] <| pkq (.agg (Off.cs offZ)) <| pkq (.int .i64 (sgnd l m)) <| pst 49 go ((Off.cs offZ)) h64 (by kernel_rfl) rfl (by kernel_rfl) fun V76 h77 kV76 => ?_
        have K82 := K66.nO kV76
        have z83 := kV76.size
        refine pkq (.int .i64 (sgnd l m)) <| eu_ <| then_r <| sy_out (.tuple #[.agg (Off.cs offZ), .int .i64 (sgnd l m)]) rfl (results_row_tmp (p := 8) (q := 9) (ty := 49) (by kernel_rfl) _ _ go 49 (Off.cs offZ) (0, 0) _ (.int .i64 (sgnd l m)) (by kernel_rfl) h77 Tryz.underlying49 rfl (by kernel_rfl) (by kernel_rfl)) ?_
        exact ⟨by rw [jud, if_pos c0, if_neg c1, if_neg c2]; (try rfl), K82⟩
  · refine pkq (.int .i64 (offe p m).2) <| ppq (.bool true) (nqt (((offe p m).2) : Int) ((0) : Int) (by omega)) <| ey_ <| qr_ [0, 1, 2, 3] <| ppq (.agg (Off.cs ((offe p m).1))) (ldr 49 gq (h45) (by kernel_rfl)) <| pkq (.int .i64 (offe p m).2) <| pst 49 go ((Off.cs ((offe p m).1))) h49 (by kernel_rfl) rfl (by kernel_rfl) fun V84 h85 kV84 => ?_
    have K90 := K50.nO kV84
    have z91 := kV84.size
    refine pkq (.int .i64 (offe p m).2) <| eu_ <| then_r <| sy_out (.tuple #[.agg (Off.cs ((offe p m).1)), .int .i64 (offe p m).2]) rfl (results_row_tmp (p := 8) (q := 9) (ty := 49) (by kernel_rfl) _ _ go 49 (Off.cs ((offe p m).1)) (0, 0) _ (.int .i64 (offe p m).2) (by kernel_rfl) h85 Tryz.underlying49 rfl (by kernel_rfl) (by kernel_rfl)) ?_
    exact ⟨by rw [jud, if_neg c0, off_bad c0]; (try rfl), K90⟩
noncomputable def qc98_2 (n : Nat) : Code := partOf Tryz.f24 n
noncomputable abbrev qo98_2 (n k : Nat) : Oper := (opsAt (qc98_2 n)).getD k default
theorem kSameSeals_ok (v u : Value) (l : List Sel) (w : World) (hl : SelsAt w v l) (hu : SelsAt w u l) (hlr : ∀ y ∈ l, y.r.length = 32) :
    Calls Tryz.prog 24 #[v, u] w (fun e w' => e = .returned (.bool true) ∧ Keeps Nob w w') := by
  have hll := hl.len_le
  have K0 : Keeps Nob w w := Keeps.refl _ _
  refine sy_enter (qc98_2 1) ⟨#[v, u, ud, ud, ud, ud, ud, ud, ud, ud, ud, ud, ud, ud, ud, ud, ud, ud, ud, ud, ud, ud, ud, ud, ud, ud, ud, ud, ud, ud, ud], []⟩ Tryz.func24 (by kernel_rfl) (by kernel_rfl) <| qr_ [0] <| pkq (.bool false) <| eqr_ [0, 1, 2, 3, 4, 5] <| pkq (v) <| ppq (iN l.length) (exec_len_sl (.tmp 7) 46 30 (by kernel_rfl) Tryz.underlying46 (by kernel_rfl) hl) <| pkq (u) <| ppq (iN l.length) (exec_len_sl (.tmp 9) 46 30 (by kernel_rfl) Tryz.underlying46 (by kernel_rfl) hu) <| ppq (.bool true) (eqt (((l.length : Nat) : Int)) (((l.length : Nat) : Int)) (by omega)) <| pkq (.bool true) <| eq_ <| qr_ [0] <| pkq (.int .i64 0) <| et_ ?_
  refine b_ 0 ?_
  refine sy_loop (qc98_2 116) (fun a V => ∃ (k : Nat) (u12 u13 u14 u15 u16 u17 u18 u19 u20 u21 u22 u23 u24 u25 u26 u27 u28 u29 : Value), (a = ⟨#[v, u, ud, ud, .bool false, .bool true, iN k, v, iN l.length, u, iN l.length, .bool true, u12, u13, u14, u15, u16, u17, u18, u19, u20, u21, u22, u23, u24, u25, u26, u27, u28, u29, ud], []⟩) ∧ (k ≤ l.length) ∧ (SelsAt V v l) ∧ (SelsAt V u l) ∧ (Keeps Nob w V)) (fun a _ => l.length - (intOf (a.tmps.getD 6 undef)).toNat) (by kernel_rfl) ?_ ?_
  · exact ⟨0, undef, undef, undef, undef, undef, undef, undef, undef, undef, undef, undef, undef, undef, undef, undef, undef, undef, undef, by kernel_rfl, Nat.zero_le _, hl, hu, K0⟩
  · rintro a V1 ⟨k, u12, u13, u14, u15, u16, u17, u18, u19, u20, u21, u22, u23, u24, u25, u26, u27, u28, u29, rfl, hk, h2, h3, K4⟩
    rcases sl_cases l (fun _ => True) k hk with ⟨x, hlt, hx, _⟩ | ⟨x, hlt, hx, hp⟩ | hlt
    · obtain ⟨b_a, o_a, c_a, hv_a, hb_a, _⟩ := (h2).at_ k _ hx
      obtain ⟨b_b, o_b, c_b, hv_b, hb_b, _⟩ := (h3).at_ k _ hx
      refine q_ <| qr_ [0, 1, 2, 3, 4, 5, 6] <| pkq (.bool true) <| pkq (.bool true) <| pkq (iN k) <| pkq (v) <| ppq (iN l.length) (exec_len_sl (.tmp 15) 46 30 (by kernel_rfl) Tryz.underlying46 (by kernel_rfl) h2) <| ppq (.bool true) (dct ((((k : Nat) : Int)) < (((l.length : Nat) : Int))) (by omega)) <| pkq (.bool true) <| ey_ <| s_ <| tq_ <| b_ 1 <| sy_reg ?_
      refine rg_still 5 8 (opsAt (qc98_2 932)) [qo98_2 932 0, qo98_2 932 1, qo98_2 932 2, qo98_2 932 3, qo98_2 932 4, qo98_2 932 5, qo98_2 932 6, qo98_2 932 7] [qo98_2 932 8, qo98_2 932 9] (by kernel_rfl) (by kernel_rfl) (by kernel_rfl) (by kernel_rfl) (by kernel_rfl) ?_
      obtain ⟨V6, eV6, kV6⟩ := drew_step V1
      rw [eV6]
      clear eV6
      have h7 : SelsAt V6 v l := h2.keepsN kV6
      have h8 : SelsAt V6 u l := h3.keepsN kV6
      have K9 := K4.nn kV6
      refine skq (v) <| skq (iN k) <| spq (pT b_a (o_a + k * 34)) (exec_indexAt_slice 46 (.tmp 21) (.tmp 22) (by kernel_rfl) b_a o_a l.length c_a (Eq.trans (b := v) (by kernel_rfl) hv_a) .i64 k (by kernel_rfl) _ 34 Tryz.underlying46 (by kernel_rfl) (by omega)) <| spq (.agg (Sel.c x)) (exec_load_mid 30 (.tmp 23) (by kernel_rfl) b_a (o_a + k * 34) (by kernel_rfl) (Sel.cl x) _ (Sl.range h7 hx hv_a) Tryz.underlying30 rfl (by rw [Sel.cl_len (hlr x (List.mem_of_getElem? hx))]; kernel_rfl)) <| skq (u) <| skq (iN k) <| spq (pT b_b (o_b + k * 34)) (exec_indexAt_slice 46 (.tmp 25) (.tmp 26) (by kernel_rfl) b_b o_b l.length c_b (Eq.trans (b := u) (by kernel_rfl) hv_b) .i64 k (by kernel_rfl) _ 34 Tryz.underlying46 (by kernel_rfl) (by omega)) <| spq (.agg (Sel.c x)) (exec_load_mid 30 (.tmp 27) (by kernel_rfl) b_b (o_b + k * 34) (by kernel_rfl) (Sel.cl x) _ (Sl.range h8 hx hv_b) Tryz.underlying30 rfl (by rw [Sel.cl_len (hlr x (List.mem_of_getElem? hx))]; kernel_rfl)) <| st_end <| ls_run (qo98_2 932 8) (.bool true) (w' := V6) (by kernel_rfl) (exec_cast (congrArg Value.bool (decide_eq_true rfl)) (exec_binop .eql 30 30 (.tmp 24) (.tmp 28) (by kernel_rfl) (.agg (Sel.c x)) (.agg (Sel.c x)) _ (by kernel_rfl) (by kernel_rfl) (run_eqGuard_agg _ _ _ _ _ _ _ sel_guard) (sel_eq x x (hlr x (List.mem_of_getElem? hx)) (hlr x (List.mem_of_getElem? hx)) _))) <| ls_run (qo98_2 932 9) (.bool true) (w' := V6) (by kernel_rfl) (by kernel_rfl) <| ls_end <| blk_n <| tr_ [0, 1, 2] ?_
      refine pkq (iN k) <| ppq (iN (k + 1)) (exec_cast (congrArg (Value.int .i64) (wrapN (k + 1) (by omega))) (by kernel_rfl)) <| pkq (iN (k + 1)) <| et_ ?_
      refine ⟨⟨k + 1, (.bool true), (.bool true), (iN k), v, (iN l.length), (.bool true), (.bool true), (iN k), (iN (k + 1)), v, (iN k), (pT b_a (o_a + k * 34)), (.agg (Sel.c x)), u, (iN k), (pT b_b (o_b + k * 34)), (.agg (Sel.c x)), (.bool true), by kernel_rfl, by omega, h7, h8, K9⟩, ?_⟩
      exact lt_meas (x := l.length - (k + 1)) (y := l.length - k) (by kernel_rfl) (by kernel_rfl) (by omega)
    · exact absurd trivial hp
    · skip
      refine q_ <| qr_ [0, 1, 2, 3, 4, 5, 6] <| pkq (.bool true) <| pkq (.bool true) <| pkq (iN k) <| pkq (v) <| ppq (iN l.length) (exec_len_sl (.tmp 15) 46 30 (by kernel_rfl) Tryz.underlying46 (by kernel_rfl) h2) <| ppq (.bool false) (dcf ((((k : Nat) : Int)) < (((l.length : Nat) : Int))) (by omega)) <| pkq (.bool false) <| en_ <| sy_exit 0 (by kernel_rfl) <| then_e <| then_e <| blk_e ?_
      refine tqr_ [0, 1] <| pkq (.bool true) <| pkq (.bool true) <| eu_ <| so_ (.bool true) ?_
      exact ⟨rfl, K4⟩
noncomputable def qc98_0 (n : Nat) : Code := partOf Tryz.f4 n
theorem judges_long (p : Par) (v : Value) (l : List Sel) (n : Int) (m : Msg) (w : World) (hp : p.Ok) (ho : m.Ok) (hl : SelsAt w v l) (hlr : ∀ y ∈ l, y.r.length = 32) (hlen : 60 < l.length) :
    Calls Tryz.prog 4 #[.agg p.cells, v, .int .i64 n, .agg (Msg.c m)] w (fun e w' => e = .returned (.bool true) ∧ Keeps Nob w w') := by
  have hr := ho.R
  have hll := hl.len_le
  have K0 : Keeps Nob w w := Keeps.refl _ _
  refine sy_enter (qc98_0 1) ⟨#[.agg p.cells, v, .int .i64 n, .agg (Msg.c m), ud, ud, ud, ud, ud, ud, ud, ud, ud, ud, ud, ud, ud, ud, ud, ud, ud, ud, ud, ud, ud, ud, ud, ud, ud, ud, ud, ud, ud, ud, ud, ud, ud, ud, ud, ud, ud, ud, ud, ud, ud, ud, ud, ud, ud, ud, ud, ud, ud, ud, ud, ud, ud, ud, ud, ud, ud, ud, ud, ud, ud, ud, ud, ud, ud, ud, ud, ud, ud, ud, ud, ud, ud, ud, ud, ud, ud, ud, ud, ud, ud, ud, ud], []⟩ Tryz.func4 (by kernel_rfl) (by kernel_rfl) <| qr_ [0, 1, 2] <| pbx 45 p.cells (.agg p.cells) fun V1 gp egp h2 kV1 => ?_
  have n3 : w.heap.size ≤ gp := egp ▸ K0.size
  have h4 : SelsAt V1 v l := hl.keepsN kV1
  have K5 := K0.nn kV1
  have z6 := kV1.size
  refine pbx 38 ((Msg.c m)) (.agg (Msg.c m)) fun V7 gm egm h8 kV7 => ?_
  have n9 : gp < gm := egm ▸ lt_of_block h2
  have n10 : w.heap.size ≤ gm := egm ▸ K5.size
  have h11 : SelsAt V7 v l := h4.keepsN kV7
  have K13 := K5.nn kV7
  have z14 := kV7.size
  refine pkq (.bool false) <| eq_ <| qr_ [0, 1, 2] <| pkq (v) <| ppq (iN l.length) (exec_len_sl (.tmp 18) 46 30 (by kernel_rfl) Tryz.underlying46 (by kernel_rfl) h11) <| ppq (.bool true) (dct ((((l.length : Nat) : Int)) > ((60) : Int)) (by omega)) <| ey_ <| qr_ [0, 1] ?_
  refine pcq 16 #[] Tryz.func16 ((leawake_ok _).mono ?_)
  rintro e V15 ⟨rfl, kV15⟩
  refine ⟨_, rfl, ?_⟩
  have K19 := K13.nn kV15
  have z20 := kV15.size
  refine pkq (.bool true) <| eu_ <| then_r <| so_ (.bool true) ?_
  exact ⟨rfl, K19⟩
theorem judges_main (p : Par) (v : Value) (l : List Sel) (n : Int) (m : Msg) (w : World) (hp : p.Ok) (ho : m.Ok) (hl : SelsAt w v l) (hlr : ∀ y ∈ l, y.r.length = 32) (hlen : ¬ 60 < l.length) :
    Calls Tryz.prog 4 #[.agg p.cells, v, .int .i64 n, .agg (Msg.c m)] w (fun e w' => e = .returned (.bool true) ∧ Keeps Nob w w') := by
  have hr := ho.R
  have hll := hl.len_le
  have K0 : Keeps Nob w w := Keeps.refl _ _
  refine sy_enter (qc98_0 1) ⟨#[.agg p.cells, v, .int .i64 n, .agg (Msg.c m), ud, ud, ud, ud, ud, ud, ud, ud, ud, ud, ud, ud, ud, ud, ud, ud, ud, ud, ud, ud, ud, ud, ud, ud, ud, ud, ud, ud, ud, ud, ud, ud, ud, ud, ud, ud, ud, ud, ud, ud, ud, ud, ud, ud, ud, ud, ud, ud, ud, ud, ud, ud, ud, ud, ud, ud, ud, ud, ud, ud, ud, ud, ud, ud, ud, ud, ud, ud, ud, ud, ud, ud, ud, ud, ud, ud, ud, ud, ud, ud, ud, ud, ud], []⟩ Tryz.func4 (by kernel_rfl) (by kernel_rfl) <| qr_ [0, 1, 2] <| pbx 45 p.cells (.agg p.cells) fun V21 gp egp h22 kV21 => ?_
  have n23 : w.heap.size ≤ gp := egp ▸ K0.size
  have h24 : SelsAt V21 v l := hl.keepsN kV21
  have K25 := K0.nn kV21
  have z26 := kV21.size
  refine pbx 38 ((Msg.c m)) (.agg (Msg.c m)) fun V27 gm egm h28 kV27 => ?_
  have n29 : gp < gm := egm ▸ lt_of_block h22
  have n30 : w.heap.size ≤ gm := egm ▸ K25.size
  have h31 : SelsAt V27 v l := h24.keepsN kV27
  have h32 := kV27.bk h22
  have K33 := K25.nn kV27
  have z34 := kV27.size
  refine pkq (.bool false) <| eq_ <| qr_ [0, 1, 2] <| pkq (v) <| ppq (iN l.length) (exec_len_sl (.tmp 18) 46 30 (by kernel_rfl) Tryz.underlying46 (by kernel_rfl) h31) <| ppq (.bool false) (dcf ((((l.length : Nat) : Int)) > ((60) : Int)) (by omega)) <| en_ <| s_ <| tqr_ [0, 1, 2] <| pkq (v) ?_
  refine pcq 17 #[v] Tryz.func17 ((kCopySeals_ok v l _ h31 hlr (by omega)).mono ?_)
  rintro e V35 ⟨cg, cc, rfl, hcr, hcg, kV35⟩
  have hin : SelsAt V35 (.slice (some ⟨cg, 0, none⟩) l.length cc) l := Row.sl hcr rfl (fun z hz => Sel.cl_len (hlr z hz))
  refine ⟨_, rfl, ?_⟩
  have h36 : SelsAt V35 v l := h31.keepsN kV35
  have h37 := kV35.bk h32
  have h38 := kV35.bk h28
  have K39 := K33.nn kV35
  have z40 := kV35.size
  refine pkq (.slice (some ⟨cg, 0, none⟩) l.length cc) <| eqr_ [0, 1, 2, 3, 4, 5, 6, 7, 8] <| ppq (.agg (p.cells)) (ldr 45 gp (h37) (by kernel_rfl)) <| ppq (.agg (Msg.c m)) (ldr 38 gm (h38) (by rw [Msg.c_size hr]; kernel_rfl)) ?_
  refine pcq 18 #[.agg (p.cells), .agg (Msg.c m)] Tryz.func18 ((eOffence_ok p m _ hp ho).mono ?_)
  rintro e V41 ⟨rfl, kV41⟩
  refine ⟨_, rfl, ?_⟩
  have h42 : SelsAt V41 v l := h36.keepsN kV41
  have h43 := kV41.bk h37
  have h44 := kV41.bk h38
  have h45 : SelsAt V41 (.slice (some ⟨cg, 0, none⟩) l.length cc) l := hin.keepsN kV41
  have K46 := K39.nn kV41
  have z47 := kV41.size
  refine pkq (.tuple #[.agg (Off.cs (offe p m).1), .int .i64 (offe p m).2]) <| pkq (.agg (Off.cs (offe p m).1)) <| pkq (.int .i64 (offe p m).2) <| pal 49 (#[.int .i64 0, .int .i64 0, .int .i64 0]) (.agg (#[.int .i64 0, .int .i64 0, .int .i64 0])) fun V48 o1 eo1 h49 kV48 => ?_
  have n50 : gp < o1 := eo1 ▸ lt_of_block h43
  have n51 : gm < o1 := eo1 ▸ lt_of_block h44
  have n52 : w.heap.size ≤ o1 := eo1 ▸ K46.size
  have h53 : SelsAt V48 v l := h42.keepsN kV48
  have h54 := kV48.bk h43
  have h55 := kV48.bk h44
  have h56 : SelsAt V48 (.slice (some ⟨cg, 0, none⟩) l.length cc) l := h45.keepsN kV48
  have K57 := K46.nn kV48
  have z58 := kV48.size
  refine pst 49 o1 ((Off.cs (offe p m).1)) h49 (by kernel_rfl) rfl (by kernel_rfl) fun V59 h60 kV59 => ?_
  have h61 : SelsAt V59 v l := Sl.keepsB hl h53 kV59 (fun j e => by first | (unfold Own.One at e; omega) | omega)
  have h62 := kV59.bO h54
  have h63 := kV59.bO h55
  have h64 : SelsAt V59 (.slice (some ⟨cg, 0, none⟩) l.length cc) l := Sl.keepsB hin h56 kV59 (fun j e => by first | (unfold Own.One at e; omega) | omega)
  have K65 := K57.nO kV59
  have z66 := kV59.size
  refine pkq (.int .i64 (offe p m).2) <| eqr_ [0, 1, 2, 3, 4, 5, 6, 7, 8] <| ppq (.agg (p.cells)) (ldr 45 gp (h62) (by kernel_rfl)) <| ppq (.agg (Msg.c m)) (ldr 38 gm (h63) (by rw [Msg.c_size hr]; kernel_rfl)) ?_
  refine pcq 19 #[.agg (p.cells), .agg (Msg.c m)] Tryz.func19 ((reOffence_ok p m _ hp ho).mono ?_)
  rintro e V67 ⟨rfl, kV67⟩
  refine ⟨_, rfl, ?_⟩
  have h68 : SelsAt V67 v l := h61.keepsN kV67
  have h69 := kV67.bk h62
  have h70 := kV67.bk h63
  have h71 : SelsAt V67 (.slice (some ⟨cg, 0, none⟩) l.length cc) l := h64.keepsN kV67
  have h72 := kV67.bk h60
  have K73 := K65.nn kV67
  have z74 := kV67.size
  refine pkq (.tuple #[.agg (Off.cs (offe p m).1), .int .i64 (offe p m).2]) <| pkq (.agg (Off.cs (offe p m).1)) <| pkq (.int .i64 (offe p m).2) <| pal 49 (#[.int .i64 0, .int .i64 0, .int .i64 0]) (.agg (#[.int .i64 0, .int .i64 0, .int .i64 0])) fun V75 o2 eo2 h76 kV75 => ?_
  have n77 : gp < o2 := eo2 ▸ lt_of_block h69
  have n78 : gm < o2 := eo2 ▸ lt_of_block h70
  have n79 : o1 < o2 := eo2 ▸ lt_of_block h72
  have n80 : w.heap.size ≤ o2 := eo2 ▸ K73.size
  have h81 : SelsAt V75 v l := h68.keepsN kV75
  have h82 := kV75.bk h69
  have h83 := kV75.bk h70
  have h84 : SelsAt V75 (.slice (some ⟨cg, 0, none⟩) l.length cc) l := h71.keepsN kV75
  have h85 := kV75.bk h72
  have K86 := K73.nn kV75
  have z87 := kV75.size
  refine pst 49 o2 ((Off.cs (offe p m).1)) h76 (by kernel_rfl) rfl (by kernel_rfl) fun V88 h89 kV88 => ?_
  have h90 : SelsAt V88 v l := Sl.keepsB hl h81 kV88 (fun j e => by first | (unfold Own.One at e; omega) | omega)
  have h91 := kV88.bO h82
  have h92 := kV88.bO h83
  have h93 : SelsAt V88 (.slice (some ⟨cg, 0, none⟩) l.length cc) l := Sl.keepsB hin h84 kV88 (fun j e => by first | (unfold Own.One at e; omega) | omega)
  have h94 := kV88.bO h85
  have K95 := K86.nO kV88
  have z96 := kV88.size
  refine pkq (.int .i64 (offe p m).2) <| ps_end <| sy_a ⟨#[.agg p.cells, v, .int .i64 n, .agg (Msg.c m), pT gp 0, ud, ud, pT gm 0, .bool false, .slice (some ⟨cg, 0, none⟩) l.length cc, pT o1 0, .int .i64 (offe p m).2, pT o2 0, .int .i64 (offe p m).2, ud, ud, ud, ud, v, iN l.length, .bool false, ud, v, .slice (some ⟨cg, 0, none⟩) l.length cc, .tuple #[.agg (Off.cs (offe p m).1), .int .i64 (offe p m).2], .agg (p.cells), .agg (Msg.c m), .tuple #[.agg (Off.cs (offe p m).1), .int .i64 (offe p m).2], .agg (Off.cs (offe p m).1), .int .i64 (offe p m).2, .tuple #[.agg (Off.cs (offe p m).1), .int .i64 (offe p m).2], .agg (p.cells), .agg (Msg.c m), .tuple #[.agg (Off.cs (offe p m).1), .int .i64 (offe p m).2], .agg (Off.cs (offe p m).1), .int .i64 (offe p m).2, ud, ud, ud, ud, ud, ud, ud, ud, ud, ud, ud, ud, ud, ud, ud, ud, ud, ud, ud, ud, ud, ud, ud, ud, ud, ud, ud, ud, ud, ud, ud, ud, ud, ud, ud, ud, ud, ud, ud, ud, ud, ud, ud, ud, ud, ud, ud, ud, ud, ud, ud], []⟩ <| tqr_ [0, 1, 2, 3, 4, 5, 6, 7, 8, 9, 10] <| ppq (.agg (p.cells)) (ldr 45 gp (h91) (by kernel_rfl)) <| pkq (.slice (some ⟨cg, 0, none⟩) l.length cc) <| pkq (.int .i64 n) <| ppq (.agg (Msg.c m)) (ldr 38 gm (h92) (by rw [Msg.c_size hr]; kernel_rfl)) ?_
  refine pcq 20 #[.agg (p.cells), .slice (some ⟨cg, 0, none⟩) l.length cc, .int .i64 n, .agg (Msg.c m)] Tryz.func20 ((eJudge_is _ hp ho h93 hlr rfl).mono ?_)
  rintro e V97 ⟨rfl, kV97⟩
  refine ⟨_, rfl, ?_⟩
  have h98 : SelsAt V97 v l := h90.keepsN kV97
  have h99 := kV97.bk h91
  have h100 := kV97.bk h92
  have h101 : SelsAt V97 (.slice (some ⟨cg, 0, none⟩) l.length cc) l := h93.keepsN kV97
  have h102 := kV97.bk h94
  have h103 := kV97.bk h89
  have K104 := K95.nn kV97
  have z105 := kV97.size
  refine pkq (.tuple #[.agg (Off.cs (jud p l n m).1), .int .i64 (jud p l n m).2]) <| pkq (.agg (Off.cs (jud p l n m).1)) <| pkq (.int .i64 (jud p l n m).2) <| pal 49 (#[.int .i64 0, .int .i64 0, .int .i64 0]) (.agg (#[.int .i64 0, .int .i64 0, .int .i64 0])) fun V106 o3 eo3 h107 kV106 => ?_
  have n108 : gp < o3 := eo3 ▸ lt_of_block h99
  have n109 : gm < o3 := eo3 ▸ lt_of_block h100
  have n110 : o1 < o3 := eo3 ▸ lt_of_block h102
  have n111 : o2 < o3 := eo3 ▸ lt_of_block h103
  have n112 : w.heap.size ≤ o3 := eo3 ▸ K104.size
  have h113 : SelsAt V106 v l := h98.keepsN kV106
  have h114 := kV106.bk h99
  have h115 := kV106.bk h100
  have h116 : SelsAt V106 (.slice (some ⟨cg, 0, none⟩) l.length cc) l := h101.keepsN kV106
  have h117 := kV106.bk h102
  have h118 := kV106.bk h103
  have K119 := K104.nn kV106
  have z120 := kV106.size
  refine pst 49 o3 ((Off.cs (jud p l n m).1)) h107 (by kernel_rfl) rfl (by kernel_rfl) fun V121 h122 kV121 => ?_
  have h123 : SelsAt V121 v l := Sl.keepsB hl h113 kV121 (fun j e => by first | (unfold Own.One at e; omega) | omega)
  have h124 := kV121.bO h114
  have h125 := kV121.bO h115
  have h126 : SelsAt V121 (.slice (some ⟨cg, 0, none⟩) l.length cc) l := Sl.keepsB hin h116 kV121 (fun j e => by first | (unfold Own.One at e; omega) | omega)
  have h127 := kV121.bO h117
  have h128 := kV121.bO h118
  have K129 := K119.nO kV121
  have z130 := kV121.size
  refine pkq (.int .i64 (jud p l n m).2) <| eqr_ [0, 1, 2, 3, 4, 5, 6, 7, 8, 9, 10] <| ppq (.agg (p.cells)) (ldr 45 gp (h124) (by kernel_rfl)) <| pkq (v) <| pkq (.int .i64 n) <| ppq (.agg (Msg.c m)) (ldr 38 gm (h125) (by rw [Msg.c_size hr]; kernel_rfl)) ?_
  refine pcq 21 #[.agg (p.cells), v, .int .i64 n, .agg (Msg.c m)] Tryz.func21 ((reJudge_ok p n v l m _ hp ho h123 hlr).mono ?_)
  rintro e V131 ⟨rfl, kV131⟩
  refine ⟨_, rfl, ?_⟩
  have h132 : SelsAt V131 v l := h123.keepsN kV131
  have h133 := kV131.bk h124
  have h134 := kV131.bk h125
  have h135 : SelsAt V131 (.slice (some ⟨cg, 0, none⟩) l.length cc) l := h126.keepsN kV131
  have h136 := kV131.bk h127
  have h137 := kV131.bk h128
  have h138 := kV131.bk h122
  have K139 := K129.nn kV131
  have z140 := kV131.size
  refine pkq (.tuple #[.agg (Off.cs (jud p l n m).1), .int .i64 (jud p l n m).2]) <| pkq (.agg (Off.cs (jud p l n m).1)) <| pkq (.int .i64 (jud p l n m).2) <| pal 49 (#[.int .i64 0, .int .i64 0, .int .i64 0]) (.agg (#[.int .i64 0, .int .i64 0, .int .i64 0])) fun V141 o4 eo4 h142 kV141 => ?_
  have n143 : gp < o4 := eo4 ▸ lt_of_block h133
  have n144 : gm < o4 := eo4 ▸ lt_of_block h134
  have n145 : o1 < o4 := eo4 ▸ lt_of_block h136
  have n146 : o2 < o4 := eo4 ▸ lt_of_block h137
  have n147 : o3 < o4 := eo4 ▸ lt_of_block h138
  have n148 : w.heap.size ≤ o4 := eo4 ▸ K139.size
  have h149 : SelsAt V141 v l := h132.keepsN kV141
  have h151 := kV141.bk h134
  have h152 : SelsAt V141 (.slice (some ⟨cg, 0, none⟩) l.length cc) l := h135.keepsN kV141
  have h153 := kV141.bk h136
  have h154 := kV141.bk h137
  have h155 := kV141.bk h138
  have K156 := K139.nn kV141
  have z157 := kV141.size
  refine pst 49 o4 ((Off.cs (jud p l n m).1)) h142 (by kernel_rfl) rfl (by kernel_rfl) fun V158 h159 kV158 => ?_
  have h160 : SelsAt V158 v l := Sl.keepsB hl h149 kV158 (fun j e => by first | (unfold Own.One at e; omega) | omega)
  have h162 := kV158.bO h151
  have h163 : SelsAt V158 (.slice (some ⟨cg, 0, none⟩) l.length cc) l := Sl.keepsB hin h152 kV158 (fun j e => by first | (unfold Own.One at e; omega) | omega)
  have h164 := kV158.bO h153
  have h165 := kV158.bO h154
  have h166 := kV158.bO h155
  have K167 := K156.nO kV158
  have z168 := kV158.size
  refine pkq (.int .i64 (jud p l n m).2) <| eq_ <| sy_np <| sy_reg <| an_begin 8 36 (opsAt (qc98_0 510)) (fun W => (W.heap[o1]? = some (.cells (Off.cs ((offe p m).1)) 49 (0, 0))) ∧ (W.heap[o2]? = some (.cells (Off.cs ((offe p m).1)) 49 (0, 0))) ∧ (W.heap[o3]? = some (.cells (Off.cs ((jud p l n m).1)) 49 (0, 0))) ∧ (W.heap[o4]? = some (.cells (Off.cs ((jud p l n m).1)) 49 (0, 0))) ∧ (W.heap[gm]? = some (.cells (Msg.c m) 38 (0, 0)))) #[false, false, false, false, false, false, false, false, false, false, false, false, false, false, false, false, false, false, false, false, false, false, false, false, false, false, false, false, false, false, false, false, false, false, false, false] (by kernel_rfl) (by kernel_rfl) (by kernel_rfl) (by kernel_rfl) ?_
  obtain ⟨V169, eV169, kV169⟩ := drew_step V158
  rw [eV169]
  clear eV169
  have h170 : SelsAt V169 v l := h160.keepsN kV169
  have h172 := kV169.bk h162
  have h173 : SelsAt V169 (.slice (some ⟨cg, 0, none⟩) l.length cc) l := h163.keepsN kV169
  have h174 := kV169.bk h164
  have h175 := kV169.bk h165
  have h176 := kV169.bk h166
  have h177 := kV169.bk h159
  have K178 := K167.nn kV169
  have z179 := kV169.size
  refine avq 0 (.agg (Off.cs ((offe p m).1))) (fun W hS => ldr 49 o1 (hS.1) (by kernel_rfl)) ⟨h174, h175, h176, h177, h172⟩ <| avq 1 (.agg (Off.cs ((offe p m).1))) (fun W hS => ldr 49 o2 (hS.2.1) (by kernel_rfl)) ⟨h174, h175, h176, h177, h172⟩ <| avq 2 (.bool true) (fun W hS => exec_cast (congrArg Value.bool (by simp)) (exec_binop .eql 49 49 (.tmp 52) (.tmp 53) (by kernel_rfl) (.agg (Off.cs (offe p m).1)) (.agg (Off.cs (offe p m).1)) _ (by kernel_rfl) (by kernel_rfl) (run_eqGuard_agg _ _ _ _ _ _ _ off_guard) (off_eq _ _ _))) ⟨h174, h175, h176, h177, h172⟩ <| akq 3 (.bool true) ⟨h174, h175, h176, h177, h172⟩ <| akq 4 (.int .i64 (offe p m).2) ⟨h174, h175, h176, h177, h172⟩ <| akq 5 (.int .i64 (offe p m).2) ⟨h174, h175, h176, h177, h172⟩ <| avq 6 (.bool true) (fun W hS => eqt (((offe p m).2) : Int) (((offe p m).2) : Int) (by omega)) ⟨h174, h175, h176, h177, h172⟩ <| akq 7 (.bool true) ⟨h174, h175, h176, h177, h172⟩ <| akq 8 (.bool true) ⟨h174, h175, h176, h177, h172⟩ <| avq 9 (.agg (Off.cs ((jud p l n m).1))) (fun W hS => ldr 49 o3 (hS.2.2.1) (by kernel_rfl)) ⟨h174, h175, h176, h177, h172⟩ <| avq 10 (.agg (Off.cs ((jud p l n m).1))) (fun W hS => ldr 49 o4 (hS.2.2.2.1) (by kernel_rfl)) ⟨h174, h175, h176, h177, h172⟩ <| avq 11 (.bool true) (fun W hS => exec_cast (congrArg Value.bool (by simp)) (exec_binop .eql 49 49 (.tmp 61) (.tmp 62) (by kernel_rfl) (.agg (Off.cs (jud p l n m).1)) (.agg (Off.cs (jud p l n m).1)) _ (by kernel_rfl) (by kernel_rfl) (run_eqGuard_agg _ _ _ _ _ _ _ off_guard) (off_eq _ _ _))) ⟨h174, h175, h176, h177, h172⟩ <| akq 12 (.bool true) ⟨h174, h175, h176, h177, h172⟩ <| akq 13 (.bool true) ⟨h174, h175, h176, h177, h172⟩ ?_
  refine akq 14 (.int .i64 (jud p l n m).2) ⟨h174, h175, h176, h177, h172⟩ <| akq 15 (.int .i64 (jud p l n m).2) ⟨h174, h175, h176, h177, h172⟩ <| avq 16 (.bool true) (fun W hS => eqt (((jud p l n m).2) : Int) (((jud p l n m).2) : Int) (by omega)) ⟨h174, h175, h176, h177, h172⟩ <| akq 17 (.bool true) ⟨h174, h175, h176, h177, h172⟩ <| akq 18 (.bool true) ⟨h174, h175, h176, h177, h172⟩ <| akq 19 (.slice (some ⟨cg, 0, none⟩) l.length cc) ⟨h174, h175, h176, h177, h172⟩ <| avq 20 (.agg (Msg.c m)) (fun W hS => ldr 38 gm (hS.2.2.2.2) (by rw [Msg.c_size hr]; kernel_rfl)) ⟨h174, h175, h176, h177, h172⟩ <| akq 22 (v) ⟨h174, h175, h176, h177, h172⟩ <| avq 23 (.agg (Msg.c m)) (fun W hS => ldr 38 gm (hS.2.2.2.2) (by rw [Msg.c_size hr]; kernel_rfl)) ⟨h174, h175, h176, h177, h172⟩ <| an_o 21 ?_
  refine ncq 22 #[.slice (some ⟨cg, 0, none⟩) l.length cc, .agg (Msg.c m)] Tryz.func22 ((eSigned_is _ ho h173 hlr rfl).mono ?_)
  rintro e V180 ⟨rfl, kV180⟩
  refine ⟨_, rfl, ?_⟩
  have h181 : SelsAt V180 v l := h170.keepsN kV180
  have h183 := kV180.bk h172
  have h184 : SelsAt V180 (.slice (some ⟨cg, 0, none⟩) l.length cc) l := h173.keepsN kV180
  have h185 := kV180.bk h174
  have h186 := kV180.bk h175
  have h187 := kV180.bk h176
  have h188 := kV180.bk h177
  have K189 := K178.nn kV180
  have z190 := kV180.size
  refine ⟨⟨h185, h186, h187, h188, h183⟩, ?_⟩
  refine an_o 24 ?_
  refine ncq 23 #[v, .agg (Msg.c m)] Tryz.func23 ((reSigned_ok v l m _ ho h181 hlr).mono ?_)
  rintro e V191 ⟨rfl, kV191⟩
  refine ⟨_, rfl, ?_⟩
  have h192 : SelsAt V191 v l := h181.keepsN kV191
  have h194 := kV191.bk h183
  have h195 : SelsAt V191 (.slice (some ⟨cg, 0, none⟩) l.length cc) l := h184.keepsN kV191
  have h196 := kV191.bk h185
  have h197 := kV191.bk h186
  have h198 := kV191.bk h187
  have h199 := kV191.bk h188
  have K200 := K189.nn kV191
  have z201 := kV191.size
  refine ⟨⟨h196, h197, h198, h199, h194⟩, ?_⟩
  refine avq 25 (.bool true) (fun W hS => eqt ((sgnd l m) : Int) ((sgnd l m) : Int) (by omega)) ⟨h196, h197, h198, h199, h194⟩ <| akq 26 (.bool true) ⟨h196, h197, h198, h199, h194⟩ <| akq 27 (.bool true) ⟨h196, h197, h198, h199, h194⟩ <| akq 28 (.slice (some ⟨cg, 0, none⟩) l.length cc) ⟨h196, h197, h198, h199, h194⟩ <| akq 29 (v) ⟨h196, h197, h198, h199, h194⟩ <| an_o 30 ?_
  refine ncq 24 #[.slice (some ⟨cg, 0, none⟩) l.length cc, v] Tryz.func24 ((kSameSeals_ok _ v l _ h195 h192 hlr).mono ?_)
  rintro e V202 ⟨rfl, kV202⟩
  refine ⟨_, rfl, ?_⟩
  have h205 := kV202.bk h194
  have h207 := kV202.bk h196
  have h208 := kV202.bk h197
  have h209 := kV202.bk h198
  have h210 := kV202.bk h199
  have K211 := K200.nn kV202
  have z212 := kV202.size
  refine ⟨⟨h207, h208, h209, h210, h205⟩, ?_⟩
  refine akq 31 (.bool true) ⟨h207, h208, h209, h210, h205⟩ <| akq 32 (.bool true) ⟨h207, h208, h209, h210, h205⟩ <| an_o 33 ?_
  refine ncq 16 #[] Tryz.func16 ((leawake_ok _).mono ?_)
  rintro e V213 ⟨rfl, kV213⟩
  refine ⟨_, rfl, ?_⟩
  have h216 := kV213.bk h205
  have h218 := kV213.bk h207
  have h219 := kV213.bk h208
  have h220 := kV213.bk h209
  have h221 := kV213.bk h210
  have K222 := K211.nn kV213
  have z223 := kV213.size
  refine ⟨⟨h218, h219, h220, h221, h216⟩, ?_⟩
  refine akq 34 (.bool true) ⟨h218, h219, h220, h221, h216⟩ <| an_o 35 <| nrq (.bool true) (w' := V213) (by kernel_rfl) ?_
  refine ⟨⟨h218, h219, h220, h221, h216⟩, ?_⟩
  refine an_end (by kernel_rfl) <| sy_a ⟨#[.agg p.cells, v, .int .i64 n, .agg (Msg.c m), pT gp 0, ud, ud, pT gm 0, .bool true, .slice (some ⟨cg, 0, none⟩) l.length cc, pT o1 0, .int .i64 (offe p m).2, pT o2 0, .int .i64 (offe p m).2, pT o3 0, .int .i64 (jud p l n m).2, pT o4 0, .int .i64 (jud p l n m).2, v, iN l.length, .bool false, ud, v, .slice (some ⟨cg, 0, none⟩) l.length cc, .tuple #[.agg (Off.cs (offe p m).1), .int .i64 (offe p m).2], .agg (p.cells), .agg (Msg.c m), .tuple #[.agg (Off.cs (offe p m).1), .int .i64 (offe p m).2], .agg (Off.cs (offe p m).1), .int .i64 (offe p m).2, .tuple #[.agg (Off.cs (offe p m).1), .int .i64 (offe p m).2], .agg (p.cells), .agg (Msg.c m), .tuple #[.agg (Off.cs (offe p m).1), .int .i64 (offe p m).2], .agg (Off.cs (offe p m).1), .int .i64 (offe p m).2, .tuple #[.agg (Off.cs (jud p l n m).1), .int .i64 (jud p l n m).2], .agg (p.cells), .slice (some ⟨cg, 0, none⟩) l.length cc, .int .i64 n, .agg (Msg.c m), .tuple #[.agg (Off.cs (jud p l n m).1), .int .i64 (jud p l n m).2], .agg (Off.cs (jud p l n m).1), .int .i64 (jud p l n m).2, .tuple #[.agg (Off.cs (jud p l n m).1), .int .i64 (jud p l n m).2], .agg (p.cells), v, .int .i64 n, .agg (Msg.c m), .tuple #[.agg (Off.cs (jud p l n m).1), .int .i64 (jud p l n m).2], .agg (Off.cs (jud p l n m).1), .int .i64 (jud p l n m).2, .agg (Off.cs ((offe p m).1)), .agg (Off.cs ((offe p m).1)), .bool true, .bool true, .int .i64 (offe p m).2, .int .i64 (offe p m).2, .bool true, .bool true, .bool true, .agg (Off.cs ((jud p l n m).1)), .agg (Off.cs ((jud p l n m).1)), .bool true, .bool true, .bool true, .int .i64 (jud p l n m).2, .int .i64 (jud p l n m).2, .bool true, .bool true, .bool true, .slice (some ⟨cg, 0, none⟩) l.length cc, .agg (Msg.c m), .int .i64 (sgnd l m), v, .agg (Msg.c m), .int .i64 (sgnd l m), .bool true, .bool true, .bool true, .slice (some ⟨cg, 0, none⟩) l.length cc, v, .bool true, .bool true, .bool true, .bool true, .bool true], []⟩ <| then_n <| u_ <| so_ (.bool true) ?_
  exact ⟨rfl, K222⟩
theorem evidenceJudges_ok (p : Par) (hp : p.Ok) (v : Value) (l : List Sel) (n : Int) (_ : i64b n) (m : Msg) (w : World) (hsl : SelsAt w v l ∧ ∀ y ∈ l, y.r.length = 32) (ho : m.Ok) : Calls Tryz.prog 4 #[.agg p.cells, v, .int .i64 n, .agg (Msg.c m)] w fun e w' => e = .returned (.bool true) ∧ Keeps Nob w w' := by
  by_cases hlen : 60 < l.length
  · exact judges_long p v l n m w hp ho hsl.1 hsl.2 hlen
  · exact judges_main p v l n m w hp ho hsl.1 hsl.2 hlen
end Go.Proofs.YtcbfnflnokoacaaGreat
namespace Go.Proofs.YtcbfnflnokoacaaGreat
set_option maxRecDepth 100000
set_option maxHeartbeats 4000000
open Go Go.RowKit Go.Own Go.ChangeShapes Go.WideShapes Go.ChangeAt Go.WideElems
theorem hash_cells {H : Type} {enc : TypeId × Value → H} {W : World} {sp : Nat → Bool} {held : Bool} {n off : Nat} {cs : List Value} {y : Option (DataW H × List MemPlace)} {z : DataW H × List MemPlace} (h : DataW.trod enc Tryz.prog W 0 sp held n 23 ((cs.drop off).take (Tryz.prog.cellsOf 23)) = y) (hy : y = some z) :
    ∃ l : List UInt8, l.length = 32 ∧ (cs.drop off).take 32 = B l := by
  subst hy
  have hh : Tryz.prog.cellsOf 23 = 32 := by kernel_rfl
  rw [hh] at h
  generalize (cs.drop off).take 32 = c at *
  obtain ⟨xs, m, _, _, hc, hxl, hel⟩ := DataW.trod_array Tryz.underlying23 h
  have hC : Tryz.prog.cellsOf 5 = 1 := by kernel_rfl
  rw [hC] at hel
  obtain ⟨l, hl, hq⟩ := list_of (fun i (x : UInt8) => c[i]? = some (.int .u8 (x.toNat : Int))) 32 (fun i hlt => by
    have h1 := hel i hlt
    rw [List.getElem?_eq_getElem (show i < xs.length by omega)] at h1
    obtain ⟨q, e1, _, e3⟩ := DataW.trod_int Tryz.underlying5 h1
    obtain ⟨x, rfl⟩ := u8_nat e3
    refine ⟨x, ?_⟩
    have h2 : ((c.drop (i * 1)).take 1)[0]? = some (.int .u8 (x.toNat : Int)) := by rw [e1]; rfl
    rw [List.getElem?_take_of_lt (by omega), List.getElem?_drop] at h2
    simpa using h2)
  refine ⟨l, hl, List.ext_getElem? fun i => ?_⟩
  by_cases hi : i < 32
  · obtain ⟨x, hx⟩ : ∃ x, l[i]? = some x := ⟨_, List.getElem?_eq_getElem (by omega)⟩
    rw [hq i x hx, B_get _ _ _ hx]
  · have h32 : c.length = 32 := by rw [hc, hh]
    rw [List.getElem?_eq_none (by omega), List.getElem?_eq_none (by rw [B_length]; omega)]
theorem att_cells {H : Type} {enc : TypeId × Value → H} {W : World} {sp : Nat → Bool} {held : Bool} {n : Nat} {cs : List Value} {z : DataW H × List MemPlace} (h : DataW.trod enc Tryz.prog W 0 sp held n 26 cs = some z) (hl : cs.length = 36) : ∃ a : Att, cs = a.c.toList ∧ a.Ok := by
  have hi : Tryz.prog.cellsOf 3 = 1 := by kernel_rfl
  have hu : Tryz.prog.cellsOf 24 = 1 := by kernel_rfl
  obtain ⟨xs, n', _, _, _, hxl, hf⟩ := DataW.trod_struct Tryz.underlying26 h
  obtain ⟨q0, e0, f0⟩ := field_int Tryz.underlying3 hi (hf 0 _ rfl) (List.getElem?_eq_getElem (by rw [hxl]; decide))
  obtain ⟨q1, e1, f1⟩ := field_int Tryz.underlying3 hi (hf 1 _ rfl) (List.getElem?_eq_getElem (by rw [hxl]; decide))
  obtain ⟨q2, e2, f2⟩ := field_int Tryz.underlying3 hi (hf 2 _ rfl) (List.getElem?_eq_getElem (by rw [hxl]; decide))
  obtain ⟨r, hr, er⟩ := hash_cells (off := 3) (hf 3 _ rfl) (List.getElem?_eq_getElem (by rw [hxl]; decide))
  obtain ⟨q4, e4, f4⟩ := field_int Tryz.underlying24 hu (hf 4 _ rfl) (List.getElem?_eq_getElem (by rw [hxl]; decide))
  obtain ⟨g, hg, rfl⟩ := u64_nat f4
  refine ⟨⟨q0, q1, q2, r, g⟩, ?_, ⟨bounds_i64 f0, bounds_i64 f1, bounds_i64 f2, hr, hg⟩⟩
  match cs, hl, e0, e1, e2, er, e4 with
  | a :: b :: c :: r', hl, e0, e1, e2, er, e4 =>
    have e0 : some a = some (Value.int .i64 q0) := e0
    cases e0
    have e1 : some b = some (Value.int .i64 q1) := e1
    have e2 : some c = some (Value.int .i64 q2) := e2
    cases e1; cases e2
    have e4 : r'[32]? = some (Value.int .u64 (g : Int)) := e4
    have er : r'.take 32 = B r := er
    have hl : r'.length = 33 := by simpa using hl
    simp only [Att.c, List.cons.injEq, true_and]
    rw [← er]
    conv => lhs; rw [← List.take_append_drop 32 r']
    congr 1
    rw [List.drop_eq_getElem_cons (by omega), List.drop_of_length_le (by omega)]
    rw [List.getElem?_eq_getElem (by omega)] at e4
    rw [Option.some.inj e4]
theorem pro_cells {H : Type} {enc : TypeId × Value → H} {W : World} {sp : Nat → Bool} {held : Bool} {n : Nat} {cs : List Value} {z : DataW H × List MemPlace} (h : DataW.trod enc Tryz.prog W 0 sp held n 28 cs = some z) (hl : cs.length = 35) : ∃ a : Pro, cs = a.c.toList ∧ a.Ok := by
  have hi : Tryz.prog.cellsOf 3 = 1 := by kernel_rfl
  have hu : Tryz.prog.cellsOf 24 = 1 := by kernel_rfl
  obtain ⟨xs, n', _, _, _, hxl, hf⟩ := DataW.trod_struct Tryz.underlying28 h
  obtain ⟨q0, e0, f0⟩ := field_int Tryz.underlying3 hi (hf 0 _ rfl) (List.getElem?_eq_getElem (by rw [hxl]; decide))
  obtain ⟨q1, e1, f1⟩ := field_int Tryz.underlying3 hi (hf 1 _ rfl) (List.getElem?_eq_getElem (by rw [hxl]; decide))
  obtain ⟨r, hr, er⟩ := hash_cells (off := 2) (hf 2 _ rfl) (List.getElem?_eq_getElem (by rw [hxl]; decide))
  obtain ⟨q4, e4, f4⟩ := field_int Tryz.underlying24 hu (hf 3 _ rfl) (List.getElem?_eq_getElem (by rw [hxl]; decide))
  obtain ⟨g, hg, rfl⟩ := u64_nat f4
  refine ⟨⟨q0, q1, r, g⟩, ?_, ⟨bounds_i64 f0, bounds_i64 f1, hr, hg⟩⟩
  match cs, hl, e0, e1, er, e4 with
  | a :: b :: r', hl, e0, e1, er, e4 =>
    have e0 : some a = some (Value.int .i64 q0) := e0
    cases e0
    have e1 : some b = some (Value.int .i64 q1) := e1
    cases e1
    have e4 : r'[32]? = some (Value.int .u64 (g : Int)) := e4
    have er : r'.take 32 = B r := er
    have hl : r'.length = 33 := by simpa using hl
    simp only [Pro.c, List.cons.injEq, true_and]
    rw [← er]
    conv => lhs; rw [← List.take_append_drop 32 r']
    congr 1
    rw [List.drop_eq_getElem_cons (by omega), List.drop_of_length_le (by omega)]
    rw [List.getElem?_eq_getElem (by omega)] at e4
    rw [Option.some.inj e4]
end Go.Proofs.YtcbfnflnokoacaaGreat
namespace Go.Proofs.YtcbfnflnokoacaaGreat
set_option maxRecDepth 100000
set_option maxHeartbeats 4000000
open Go Go.RowKit Go.Own Go.ChangeShapes Go.WideShapes Go.ChangeAt Go.WideElems
theorem sel_cells {H : Type} {enc : TypeId × Value → H} {W : World} {sp : Nat → Bool} {held : Bool} {n : Nat} {cs : List Value} {z : DataW H × List MemPlace} (h : DataW.trod enc Tryz.prog W 0 sp held n 30 cs = some z) (hl : cs.length = 34) : ∃ x : Sel, cs = x.cl ∧ x.Ok := by
  have hi : Tryz.prog.cellsOf 3 = 1 := by kernel_rfl
  have hu : Tryz.prog.cellsOf 24 = 1 := by kernel_rfl
  obtain ⟨xs, n', _, _, _, hxl, hf⟩ := DataW.trod_struct Tryz.underlying30 h
  obtain ⟨q0, e0, f0⟩ := field_int Tryz.underlying3 hi (hf 0 _ rfl) (List.getElem?_eq_getElem (by rw [hxl]; decide))
  obtain ⟨r, hr, er⟩ := hash_cells (off := 1) (hf 1 _ rfl) (List.getElem?_eq_getElem (by rw [hxl]; decide))
  obtain ⟨q4, e4, f4⟩ := field_int Tryz.underlying24 hu (hf 2 _ rfl) (List.getElem?_eq_getElem (by rw [hxl]; decide))
  obtain ⟨g, hg, rfl⟩ := u64_nat f4
  refine ⟨⟨q0, r, g⟩, ?_, ⟨bounds_i64 f0, hr, hg⟩⟩
  match cs, hl, e0, er, e4 with
  | c0 :: r', hl, e0, er, e4 =>
    have e0 : some c0 = some (Value.int .i64 q0) := e0
    cases e0
    have er : r'.take 32 = B r := er
    have e4 : r'[32]? = some (.int .u64 ((g : Nat) : Int)) := e4
    have hl : r'.length = 33 := by simpa using hl
    show _ :: r' = _ :: (B r ++ [_])
    congr 1
    rw [← er]
    conv => lhs; rw [← List.take_append_drop 32 r']
    congr 1
    apply List.ext_getElem?
    intro i
    rw [List.getElem?_drop]
    match i with
    | 0 => exact e4
    | i + 1 => rw [List.getElem?_eq_none (by omega), List.getElem?_eq_none (by simp)]
theorem open_sels {H : Type} {enc : TypeId × Value → H} {W : World} {sp : Nat → Bool} {held : Bool} {v : Value} {d : DataW H} {ps : List MemPlace} (h : DataW.Trod enc Tryz.prog W 0 sp held 46 v d ps) (hv : ∃ a len cap, v = .slice a len cap) : ∃ l : List Sel, SelsAt W v l ∧ ∀ x ∈ l, x.r.length = 32 := by
  have hC : Tryz.prog.cellsOf 30 = 34 := by kernel_rfl
  obtain ⟨a, len, cap, rfl, hl, hm, hnz, hi⟩ := open_elemsN Tryz.underlying46 (by rw [hC]; omega) h hv
  rw [hC] at hi
  obtain ⟨l, hll, hq⟩ := list_of (fun i (x : Sel) => x.Ok ∧ ∃ b o, a = some ⟨b, o, none⟩ ∧ ∀ (j : Nat) (u : Value), x.cl[j]? = some u → W.cell? ⟨b, o + i * 34 + j, none⟩ = some u) len (fun i hlt => by
    obtain ⟨b, o, cs, n, y, ha, hcl, hcell, ht⟩ := hi i hlt
    obtain ⟨x, rfl, hok⟩ := sel_cells ht hcl
    exact ⟨x, hok, b, o, ha, fun j u hj => (hcell j (by have := (List.getElem?_eq_some_iff.1 hj).1; omega)).trans hj⟩)
  subst hll
  refine ⟨l, ⟨⟨a, cap, rfl, hl, hm, hnz⟩, fun k x hk => ?_⟩, fun x hx => ?_⟩
  · obtain ⟨hok, b, o, rfl, hc⟩ := hq k x hk
    exact ⟨b, o, cap, rfl, World.block_lt_of_cell? W _ (hc 0 (.int .i64 x.v) rfl), hc⟩
  · obtain ⟨k, hk⟩ := List.getElem?_of_mem hx
    exact (hq k x hk).1.r
end Go.Proofs.YtcbfnflnokoacaaGreat
namespace Go.Proofs.YtcbfnflnokoacaaGreat
set_option maxRecDepth 100000
set_option maxHeartbeats 4000000
open Go Go.RowKit Go.Own Go.ChangeShapes Go.WideShapes Go.ChangeAt Go.WideElems
section
variable {H : Type} {enc : TypeId × Value → H} {W : World} {sp : Nat → Bool} {held : Bool} {n off : Nat} {cs : List Value} {y : Option (DataW H × List MemPlace)} {z : DataW H × List MemPlace}
theorem sub_att (h : DataW.trod enc Tryz.prog W 0 sp held n 26 ((cs.drop off).take (Tryz.prog.cellsOf 26)) = y) (hy : y = some z) (hl : off + 36 ≤ cs.length) : ∃ a : Att, (cs.drop off).take 36 = a.c.toList ∧ a.Ok := by
  subst hy
  have hh : Tryz.prog.cellsOf 26 = 36 := by kernel_rfl
  rw [hh] at h
  exact att_cells h (by rw [List.length_take, List.length_drop]; omega)
theorem sub_pro (h : DataW.trod enc Tryz.prog W 0 sp held n 28 ((cs.drop off).take (Tryz.prog.cellsOf 28)) = y) (hy : y = some z) (hl : off + 35 ≤ cs.length) : ∃ a : Pro, (cs.drop off).take 35 = a.c.toList ∧ a.Ok := by
  subst hy
  have hh : Tryz.prog.cellsOf 28 = 35 := by kernel_rfl
  rw [hh] at h
  exact pro_cells h (by rw [List.length_take, List.length_drop]; omega)
theorem of_take {off k j : Nat} {v : Value} (h : ((cs.drop off).take k)[j]? = some v) : cs[off + j]? = some v := by
  rw [List.getElem?_take] at h
  split at h
  · rwa [List.getElem?_drop] at h
  · cases h
theorem sub_stamp (h : DataW.trod enc Tryz.prog W 0 sp held n 36 ((cs.drop off).take (Tryz.prog.cellsOf 36)) = y) (hy : y = some z) :
    ∃ a b c d : Int, (cs[off]? = some (.int .i64 a) ∧ cs[off + 1]? = some (.int .i64 b) ∧ cs[off + 2]? = some (.int .i64 c) ∧ cs[off + 3]? = some (.int .i64 d)) ∧ i64b a ∧ i64b b ∧ i64b c ∧ i64b d := by
  subst hy
  have hh : Tryz.prog.cellsOf 36 = 4 := by kernel_rfl
  have hi : Tryz.prog.cellsOf 3 = 1 := by kernel_rfl
  rw [hh] at h
  obtain ⟨xs, n', _, _, _, hxl, hf⟩ := DataW.trod_struct Tryz.underlying36 h
  obtain ⟨q0, e0, f0⟩ := field_int Tryz.underlying3 hi (hf 0 _ rfl) (List.getElem?_eq_getElem (by rw [hxl]; decide))
  obtain ⟨q1, e1, f1⟩ := field_int Tryz.underlying3 hi (hf 1 _ rfl) (List.getElem?_eq_getElem (by rw [hxl]; decide))
  obtain ⟨q2, e2, f2⟩ := field_int Tryz.underlying3 hi (hf 2 _ rfl) (List.getElem?_eq_getElem (by rw [hxl]; decide))
  obtain ⟨q3, e3, f3⟩ := field_int Tryz.underlying3 hi (hf 3 _ rfl) (List.getElem?_eq_getElem (by rw [hxl]; decide))
  exact ⟨q0, q1, q2, q3, ⟨of_take (j := 0) e0, of_take (j := 1) e1, of_take (j := 2) e2, of_take (j := 3) e3⟩, bounds_i64 f0, bounds_i64 f1, bounds_i64 f2, bounds_i64 f3⟩
theorem drop_split (cs : List Value) (a k : Nat) : cs.drop a = (cs.drop a).take k ++ cs.drop (a + k) := by rw [← List.drop_drop, List.take_append_drop]
theorem msg_cells (h : DataW.trod enc Tryz.prog W 0 sp held n 38 cs = some z) (hl : cs.length = 154) : ∃ m : Msg, cs = m.c.toList ∧ m.Ok := by
  have hi : Tryz.prog.cellsOf 3 = 1 := by kernel_rfl
  have hu : Tryz.prog.cellsOf 24 = 1 := by kernel_rfl
  obtain ⟨xs, n', _, _, _, hxl, hf⟩ := DataW.trod_struct Tryz.underlying38 h
  obtain ⟨q0, e0, f0⟩ := field_int Tryz.underlying3 hi (hf 0 _ rfl) (List.getElem?_eq_getElem (by rw [hxl]; decide))
  obtain ⟨q1, e1, f1⟩ := field_int Tryz.underlying3 hi (hf 1 _ rfl) (List.getElem?_eq_getElem (by rw [hxl]; decide))
  obtain ⟨q2, e2, f2⟩ := field_int Tryz.underlying3 hi (hf 2 _ rfl) (List.getElem?_eq_getElem (by rw [hxl]; decide))
  obtain ⟨q3, e3, f3⟩ := field_int Tryz.underlying3 hi (hf 3 _ rfl) (List.getElem?_eq_getElem (by rw [hxl]; decide))
  obtain ⟨q4, e4, f4⟩ := field_int Tryz.underlying24 hu (hf 4 _ rfl) (List.getElem?_eq_getElem (by rw [hxl]; decide))
  obtain ⟨q5, e5, f5⟩ := field_int Tryz.underlying24 hu (hf 5 _ rfl) (List.getElem?_eq_getElem (by rw [hxl]; decide))
  obtain ⟨sv, ss, sp', sf, ⟨s0, s1, s2, s3⟩, b0, b1, b2, b3⟩ := sub_stamp (off := 6) (hf 6 _ rfl) (List.getElem?_eq_getElem (by rw [hxl]; decide))
  obtain ⟨q7, e7, f7⟩ := field_int Tryz.underlying3 hi (hf 7 _ rfl) (List.getElem?_eq_getElem (by rw [hxl]; decide))
  obtain ⟨q8, e8, f8⟩ := field_int Tryz.underlying3 hi (hf 8 _ rfl) (List.getElem?_eq_getElem (by rw [hxl]; decide))
  obtain ⟨va, ea, ha⟩ := sub_att (off := 12) (hf 9 _ rfl) (List.getElem?_eq_getElem (by rw [hxl]; decide)) (by omega)
  obtain ⟨vb, eb, hb⟩ := sub_att (off := 48) (hf 10 _ rfl) (List.getElem?_eq_getElem (by rw [hxl]; decide)) (by omega)
  obtain ⟨vp, ep, hp⟩ := sub_pro (off := 84) (hf 11 _ rfl) (List.getElem?_eq_getElem (by rw [hxl]; decide)) (by omega)
  obtain ⟨vq, eq, hq⟩ := sub_pro (off := 119) (hf 12 _ rfl) (List.getElem?_eq_getElem (by rw [hxl]; decide)) (by omega)
  obtain ⟨g4, hg4, rfl⟩ := u64_nat f4
  obtain ⟨g5, hg5, rfl⟩ := u64_nat f5
  refine ⟨⟨q0, q1, q2, q3, g4, g5, sv, ss, sp', sf, q7, q8, va, vb, vp, vq⟩, ?_, ⟨bounds_i64 f0, bounds_i64 f1, bounds_i64 f2, bounds_i64 f3, hg4, hg5, b0, b1, b2, b3, bounds_i64 f7, bounds_i64 f8, ha, hb, hp, hq⟩⟩
  have hhd : cs.take 12 = Msg.hd ⟨q0, q1, q2, q3, g4, g5, sv, ss, sp', sf, q7, q8, va, vb, vp, vq⟩ := by
    apply List.ext_getElem?
    intro i
    by_cases h12 : i < 12
    · rw [List.getElem?_take_of_lt h12]
      match i, h12 with
      | 0, _ => exact e0
      | 1, _ => exact e1
      | 2, _ => exact e2
      | 3, _ => exact e3
      | 4, _ => exact e4
      | 5, _ => exact e5
      | 6, _ => exact s0
      | 7, _ => exact s1
      | 8, _ => exact s2
      | 9, _ => exact s3
      | 10, _ => exact e7
      | 11, _ => exact e8
    · rw [List.getElem?_eq_none (by rw [List.length_take]; omega), List.getElem?_eq_none (by rw [Msg.hd_len]; omega)]
  show cs = Msg.cl _
  rw [Msg.cl_a, ← hhd, ← ea, ← eb, ← ep, ← eq]
  conv => lhs; rw [← List.take_append_drop 12 cs]
  congr 1
  conv => lhs; rw [drop_split cs 12 36, drop_split cs 48 36, drop_split cs 84 35]
  congr 1; congr 1; congr 1
  rw [List.take_of_length_le (by rw [List.length_drop]; omega)]
theorem open_msg {v : Value} {d : DataW H} {ps : List MemPlace} {R : Reach} {base : Nat} (h : DataW.Trod enc Tryz.prog W 0 sp held 38 v d ps) (hv : Value.okWide Tryz.prog W R base 38 v) : ∃ m : Msg, v = .agg m.c ∧ m.Ok := by
  obtain ⟨cs, rfl, hsz⟩ := okWide_struct Tryz.underlying38 hv
  have hC : Tryz.prog.cellsOf 38 = 154 := by kernel_rfl
  rw [hC] at hsz
  obtain ⟨fuel, ht⟩ := h
  have ht : DataW.trod enc Tryz.prog W 0 sp held fuel 38 cs.toList = some (d, ps) := ht
  obtain ⟨a, ha, hok⟩ := msg_cells ht (by simpa using hsz)
  exact ⟨a, congrArg Value.agg (Array.toList_inj.1 ha), hok⟩
end
end Go.Proofs.YtcbfnflnokoacaaGreat
namespace Go.Proofs.YtcbfnflnokoacaaGreat
set_option maxRecDepth 100000
set_option maxHeartbeats 4000000
set_option maxRecDepth 100000
open Go Go.RowKit Go.Own Go.ChangeShapes Go.WideShapes Go.ChangeAt Go.WideElems
theorem open_params {H : Type} {enc : TypeId × Value → H} {W : World} {sp : Nat → Bool} {held : Bool} {v : Value} {d : DataW H} {ps : List MemPlace} {R : Reach} {base : Nat} (h : DataW.Trod enc Tryz.prog W 0 sp held 45 v d ps) (hv : Value.okWide Tryz.prog W R base 45 v) :
    ∃ p : Par, v = p.v ∧ p.Ok := by
  obtain ⟨cs, rfl, hsz⟩ := okWide_struct Tryz.underlying45 hv
  have hC : Tryz.prog.cellsOf 45 = 11 := by kernel_rfl
  have hi : Tryz.prog.cellsOf 3 = 1 := by kernel_rfl
  have hu : Tryz.prog.cellsOf 24 = 1 := by kernel_rfl
  rw [hC] at hsz
  obtain ⟨fuel, ht⟩ := h
  have ht : DataW.trod enc Tryz.prog W 0 sp held fuel 45 cs.toList = some (d, ps) := ht
  obtain ⟨xs, n', _, _, _, hxl, hf⟩ := DataW.trod_struct Tryz.underlying45 ht
  obtain ⟨q0, e0, f0⟩ := field_int Tryz.underlying3 hi (hf 0 _ rfl) (List.getElem?_eq_getElem (by rw [hxl]; decide))
  obtain ⟨q1, e1, f1⟩ := field_int Tryz.underlying3 hi (hf 1 _ rfl) (List.getElem?_eq_getElem (by rw [hxl]; decide))
  obtain ⟨q2, e2, f2⟩ := field_int Tryz.underlying3 hi (hf 2 _ rfl) (List.getElem?_eq_getElem (by rw [hxl]; decide))
  obtain ⟨q3, e3, f3⟩ := field_int Tryz.underlying3 hi (hf 3 _ rfl) (List.getElem?_eq_getElem (by rw [hxl]; decide))
  obtain ⟨q4, e4, f4⟩ := field_int Tryz.underlying3 hi (hf 4 _ rfl) (List.getElem?_eq_getElem (by rw [hxl]; decide))
  obtain ⟨q5, e5, f5⟩ := field_int Tryz.underlying3 hi (hf 5 _ rfl) (List.getElem?_eq_getElem (by rw [hxl]; decide))
  obtain ⟨q6, e6, f6⟩ := field_int Tryz.underlying3 hi (hf 6 _ rfl) (List.getElem?_eq_getElem (by rw [hxl]; decide))
  obtain ⟨q7, e7, f7⟩ := field_int Tryz.underlying24 hu (hf 7 _ rfl) (List.getElem?_eq_getElem (by rw [hxl]; decide))
  obtain ⟨q8, e8, f8⟩ := field_int Tryz.underlying24 hu (hf 8 _ rfl) (List.getElem?_eq_getElem (by rw [hxl]; decide))
  obtain ⟨q9, e9, f9⟩ := field_int Tryz.underlying3 hi (hf 9 _ rfl) (List.getElem?_eq_getElem (by rw [hxl]; decide))
  obtain ⟨q10, e10, f10⟩ := field_int Tryz.underlying24 hu (hf 10 _ rfl) (List.getElem?_eq_getElem (by rw [hxl]; decide))
  have ui : ∀ {a : Int}, (Lit.int .i64 a).wf = true → i64ok a := fun h => bounds_i64 h
  have uu : ∀ {a : Int}, (Lit.int .u64 a).wf = true → u64ok a := fun h => by
    obtain ⟨n, h1, rfl⟩ := u64_nat h
    unfold u64ok; omega
  refine ⟨⟨q0, q1, q2, q3, q4, q5, q6, q7, q8, q9, q10⟩, ?_, ⟨ui f0, ui f1, ui f2, ui f3, ui f4, ui f5, ui f6, uu f7, uu f8, ui f9, uu f10⟩⟩
  have : cs = #[.int .i64 q0, .int .i64 q1, .int .i64 q2, .int .i64 q3, .int .i64 q4, .int .i64 q5, .int .i64 q6, .int .u64 q7, .int .u64 q8, .int .i64 q9, .int .u64 q10] := by
    apply Array.ext_getElem?
    intro i
    by_cases hlt : i < 11
    · have h' : i = 0 ∨ i = 1 ∨ i = 2 ∨ i = 3 ∨ i = 4 ∨ i = 5 ∨ i = 6 ∨ i = 7 ∨ i = 8 ∨ i = 9 ∨ i = 10 := by omega
      have tl : ∀ j : Nat, cs[j]? = cs.toList[j]? := fun j => by simp
      rw [tl]
      rcases h' with rfl | rfl | rfl | rfl | rfl | rfl | rfl | rfl | rfl | rfl | rfl <;> assumption
    · rw [Array.getElem?_eq_none (by omega), Array.getElem?_eq_none (by simp; omega)]
  rw [this]; rfl
end Go.Proofs.YtcbfnflnokoacaaGreat
namespace Go.Proofs.YtcbfnflnokoacaaGreat.evidenceJudges
open Go.ChangeShapes Go.WideShapes Go.ChangeAt Go.RowKit Go.Own
open Go.ChangeMaps (open_string shut_string)
theorem own : ownKnob Tryz.prog.godebug = none := by kernel_rfl
theorem laid : laidOutB Tryz.prog = true := by kernel_rfl
set_option maxRecDepth 100000 in
theorem lifted (os : Os) (started : os.Started) (H : Type) (enc : TypeId × Value → H) :
    ReturnsInHanded {} Tryz.checked os 4 .any (Rows.evidenceJudgesSpec.pre6 enc Tryz.prog Tryz.f4 Rows.evidenceJudgesRow.domain false) (Rows.evidenceJudgesSpec.post enc Tryz.prog Tryz.f4 false true false false) := by
  refine returnsInHanded_of_change (C := Tryz.checked) own started (by kernel_rfl) Tryz.func4
    (ChangeSpec.witness6 (enc := enc) (C := Tryz.checked) false ⟨#[], #[.agg #[.int .i64 0, .int .i64 0, .int .i64 0, .int .i64 0, .int .i64 0, .int .i64 0, .int .i64 0, .int .u64 0, .int .u64 0, .int .i64 0, .int .u64 0], .slice none 0 0, .int .i64 0, .agg #[.int .i64 0, .int .i64 0, .int .i64 0, .int .i64 0, .int .u64 0, .int .u64 0, .int .i64 0, .int .i64 0, .int .i64 0, .int .i64 0, .int .i64 0, .int .i64 0, .int .i64 0, .int .i64 0, .int .i64 0, .int .u8 0, .int .u8 0, .int .u8 0, .int .u8 0, .int .u8 0, .int .u8 0, .int .u8 0, .int .u8 0, .int .u8 0, .int .u8 0, .int .u8 0, .int .u8 0, .int .u8 0, .int .u8 0, .int .u8 0, .int .u8 0, .int .u8 0, .int .u8 0, .int .u8 0, .int .u8 0, .int .u8 0, .int .u8 0, .int .u8 0, .int .u8 0, .int .u8 0, .int .u8 0, .int .u8 0, .int .u8 0, .int .u8 0, .int .u8 0, .int .u8 0, .int .u8 0, .int .u64 0, .int .i64 0, .int .i64 0, .int .i64 0, .int .u8 0, .int .u8 0, .int .u8 0, .int .u8 0, .int .u8 0, .int .u8 0, .int .u8 0, .int .u8 0, .int .u8 0, .int .u8 0, .int .u8 0, .int .u8 0, .int .u8 0, .int .u8 0, .int .u8 0, .int .u8 0, .int .u8 0, .int .u8 0, .int .u8 0, .int .u8 0, .int .u8 0, .int .u8 0, .int .u8 0, .int .u8 0, .int .u8 0, .int .u8 0, .int .u8 0, .int .u8 0, .int .u8 0, .int .u8 0, .int .u8 0, .int .u8 0, .int .u64 0, .int .i64 0, .int .i64 0, .int .u8 0, .int .u8 0, .int .u8 0, .int .u8 0, .int .u8 0, .int .u8 0, .int .u8 0, .int .u8 0, .int .u8 0, .int .u8 0, .int .u8 0, .int .u8 0, .int .u8 0, .int .u8 0, .int .u8 0, .int .u8 0, .int .u8 0, .int .u8 0, .int .u8 0, .int .u8 0, .int .u8 0, .int .u8 0, .int .u8 0, .int .u8 0, .int .u8 0, .int .u8 0, .int .u8 0, .int .u8 0, .int .u8 0, .int .u8 0, .int .u8 0, .int .u8 0, .int .u64 0, .int .i64 0, .int .i64 0, .int .u8 0, .int .u8 0, .int .u8 0, .int .u8 0, .int .u8 0, .int .u8 0, .int .u8 0, .int .u8 0, .int .u8 0, .int .u8 0, .int .u8 0, .int .u8 0, .int .u8 0, .int .u8 0, .int .u8 0, .int .u8 0, .int .u8 0, .int .u8 0, .int .u8 0, .int .u8 0, .int .u8 0, .int .u8 0, .int .u8 0, .int .u8 0, .int .u8 0, .int .u8 0, .int .u8 0, .int .u8 0, .int .u8 0, .int .u8 0, .int .u8 0, .int .u8 0, .int .u64 0]], []⟩ 8 (by kernel_rfl) (by kernel_rfl) (by kernel_rfl) (by kernel_rfl)) ?_
  intro W base args ds gs before hval0 hW hcnd _
  have hval : ∀ (j : Nat) t v, Tryz.f4.params[j]? = some t → args[j]? = some v → Value.okWide Tryz.prog W .any base t v := hval0
  have hW' := hW
  obtain ⟨p, q, hA0, hV, rfl, hfz, hnd⟩ := hW
  have hA : DataW.TrodAll enc Tryz.prog W 0 (fun _ => true) true Tryz.f4.params.toList args.toList ds p := hA0
  rw [Tryz.params4] at hA hval
  obtain ⟨v0, vs0, d0, ds0, p0, q0, hargs, rfl, rfl, h0, r0⟩ := trodAll_cons hA
  obtain ⟨v1, vs1, d1, ds1, p1, q1, rfl, rfl, rfl, h1, r1⟩ := trodAll_cons r0
  obtain ⟨v2, vs2, d2, ds2, p2, q2, rfl, rfl, rfl, h2, r2⟩ := trodAll_cons r1
  obtain ⟨v3, vs3, d3, ds3, p3, q3, rfl, rfl, rfl, h3, r3⟩ := trodAll_cons r2
  obtain ⟨rfl, rfl, rfl⟩ := trodAll_nil r3
  obtain rfl : args = #[v0, v1, v2, v3] := by cases args; simp_all
  obtain ⟨rfl, rfl⟩ := trodVars_none hV
  obtain ⟨p0, rfl, hp0⟩ := open_params h0 (hval 0 45 v0 rfl rfl)
  obtain ⟨l1, hl1⟩ := open_sels h1 (okWide_slice Tryz.underlying46 (hval 1 46 v1 rfl rfl))
  obtain ⟨a2, rfl, rfl, rfl, w2⟩ := open_int Tryz.underlying3 (hval 2 3 v2 rfl rfl) h2
  obtain ⟨x3, rfl, hm3⟩ := open_msg h3 (hval 3 38 v3 rfl rfl)
  clear hA0 hval0
  refine (evidenceJudges_ok p0 hp0 v1 l1 a2 (bounds_i64 w2) x3 W hl1 hm3).mono fun e W' ⟨he, hg⟩ => ?_
  subst he
  exact ⟨_, rfl, law_post laid (by kernel_rfl) rfl Tryz.underlying4 rfl rfl hW' (hg.below (Nat.le_refl _) (fun _ _ x => x))⟩
theorem proved : Rows.EvidenceJudgesSaid :=
  OpenClaim.holds_of_wide 4 Tryz.f4 rfl rfl rfl rfl rfl rfl rfl ⟨rfl, rfl, rfl, rfl, rfl⟩ rfl rfl rfl rfl rfl (by kernel_rfl) Tryz.func4 (by kernel_rfl)
    (of_decide_eq_true (by kernel_rfl)) (by unfold Func.isWrapper; first | (rw [if_pos (by decide +kernel)]; kernel_rfl) | (rw [if_neg (by decide +kernel)]; exact ⟨rfl, rfl⟩))
    (fun os started H enc _ => lifted os started H enc)
end Go.Proofs.YtcbfnflnokoacaaGreat.evidenceJudges
