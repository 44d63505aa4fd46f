/-
  Records: what a record answers to any acts (printed by rec11.py). Conditions: none.
-/
import Derived.Test.YtgipooedgbbliaaRecS

namespace Go.Proofs.Ytgipooedgbbliaa
open Go Go.RowKit Go.Own Go.Shelf

noncomputable def part_RecordActs (n : Nat) : Code := partOf Try.f4 n
noncomputable abbrev o_RecordActs (n k : Nat) : Oper := (opsAt (part_RecordActs n)).getD k default
set_option maxRecDepth 100000 in
set_option maxHeartbeats 4000000 in
theorem recordActs_long (v win blk : Int) (va : Value) (l : List RAct) (w : World) (Ha : Sl w 76 RAct.cl va l) (Hok : ∀ x ∈ l, x.Ok) (hl : 80 < l.length) :
    Calls Try.prog 4 #[.int .i64 v, .int .i64 win, .int .i64 blk, va] w (fun e w' => e = .returned (.bool true) ∧ Keeps Nob w w') := by
  have hal := Ha.len_le
  have K0 : Keeps Nob w w := Keeps.refl _ _
  refine sy_enter (part_RecordActs 1) ⟨#[.int .i64 v, .int .i64 win, .int .i64 blk, va, undef, undef, undef, undef, undef, undef, undef, undef, undef, undef, undef, undef, undef, undef, undef, undef, undef, undef, undef, undef, undef, undef, undef, undef, undef, undef, undef, undef, undef, undef, undef, undef, undef, undef, undef, undef, undef, undef, undef, undef, undef, undef, undef, undef, undef, undef, undef, undef, undef, undef, undef, undef, undef, undef, undef, undef, undef, undef, undef, undef, undef, undef, undef, undef, undef, undef, undef, undef, undef, undef, undef, undef, undef, undef, undef, undef, undef, undef, undef, undef, undef, undef, undef, undef, undef, undef, undef, undef, undef, undef, undef, undef, undef, undef, undef], []⟩ Try.func4 (by kernel_rfl) (by kernel_rfl) ?_
  refine sy_sq (part_RecordActs 2) (part_RecordActs 3) ?_
  refine sy_reg ?_
  refine rg_plain 0 (opsAt (part_RecordActs 2)) [0] (by kernel_rfl) (by kernel_rfl) ?_
  refine ps_k (o_RecordActs 2 0) (.bool false) ?_
  refine ps_end ?_
  refine then_n ?_
  refine sy_sq (part_RecordActs 6) (part_RecordActs 7) ?_
  refine sy_sq (part_RecordActs 12) (part_RecordActs 13) ?_
  refine sy_reg ?_
  refine rg_plain 1 (opsAt (part_RecordActs 12)) [0, 1, 2] (by kernel_rfl) (by kernel_rfl) ?_
  refine ps_k (o_RecordActs 12 0) (va) ?_
  refine ps_p (o_RecordActs 12 1) (iN l.length) (exec_len_sl (.tmp 15) 46 51 (by kernel_rfl) Try.underlying46 (by kernel_rfl) Ha) ?_
  refine ps_p (o_RecordActs 12 2) (.bool true) (dct ((((l.length : Nat) : Int)) > ((80) : Int)) (by omega)) ?_
  refine ps_end ?_
  refine then_n ?_
  refine sy_ys (.tmp 17) (part_RecordActs 26) (part_RecordActs 27) ?_
  refine sy_sq (part_RecordActs 52) (part_RecordActs 53) ?_
  refine sy_reg ?_
  refine rg_plain 2 (opsAt (part_RecordActs 52)) [0, 1] (by kernel_rfl) (by kernel_rfl) ?_
  refine ps_c (o_RecordActs 52 0) 19 #[] Try.func19 ((lrawake_ok _).mono ?_)
  rintro e V1 ⟨rfl, kV1⟩
  refine ⟨_, rfl, ?_⟩
  have K2 := K0.nn kV1
  have z3 := kV1.size
  refine ps_k (o_RecordActs 52 1) (.bool true) ?_
  refine ps_end ?_
  refine then_n ?_
  refine sy_ret (by kernel_rfl) ?_
  refine then_r ?_
  refine sy_out (.bool true) rfl (by kernel_rfl) ?_
  exact ⟨rfl, K2⟩
set_option maxRecDepth 100000 in
set_option maxHeartbeats 4000000 in
theorem recordActs_bad (v win blk : Int) (va : Value) (l : List RAct) (w : World) (Ha : Sl w 76 RAct.cl va l) (Hok : ∀ x ∈ l, x.Ok) (hl : ¬ 80 < l.length) (hn : ¬ newOk v win blk) :
    Calls Try.prog 4 #[.int .i64 v, .int .i64 win, .int .i64 blk, va] w (fun e w' => e = .returned (.bool true) ∧ Keeps Nob w w') := by
  have hal := Ha.len_le
  have K0 : Keeps Nob w w := Keeps.refl _ _
  refine sy_enter (part_RecordActs 1) ⟨#[.int .i64 v, .int .i64 win, .int .i64 blk, va, undef, undef, undef, undef, undef, undef, undef, undef, undef, undef, undef, undef, undef, undef, undef, undef, undef, undef, undef, undef, undef, undef, undef, undef, undef, undef, undef, undef, undef, undef, undef, undef, undef, undef, undef, undef, undef, undef, undef, undef, undef, undef, undef, undef, undef, undef, undef, undef, undef, undef, undef, undef, undef, undef, undef, undef, undef, undef, undef, undef, undef, undef, undef, undef, undef, undef, undef, undef, undef, undef, undef, undef, undef, undef, undef, undef, undef, undef, undef, undef, undef, undef, undef, undef, undef, undef, undef, undef, undef, undef, undef, undef, undef, undef, undef], []⟩ Try.func4 (by kernel_rfl) (by kernel_rfl) ?_
  refine sy_sq (part_RecordActs 2) (part_RecordActs 3) ?_
  refine sy_reg ?_
  refine rg_plain 0 (opsAt (part_RecordActs 2)) [0] (by kernel_rfl) (by kernel_rfl) ?_
  refine ps_k (o_RecordActs 2 0) (.bool false) ?_
  refine ps_end ?_
  refine then_n ?_
  refine sy_sq (part_RecordActs 6) (part_RecordActs 7) ?_
  refine sy_sq (part_RecordActs 12) (part_RecordActs 13) ?_
  refine sy_reg ?_
  refine rg_plain 1 (opsAt (part_RecordActs 12)) [0, 1, 2] (by kernel_rfl) (by kernel_rfl) ?_
  refine ps_k (o_RecordActs 12 0) (va) ?_
  refine ps_p (o_RecordActs 12 1) (iN l.length) (exec_len_sl (.tmp 15) 46 51 (by kernel_rfl) Try.underlying46 (by kernel_rfl) Ha) ?_
  refine ps_p (o_RecordActs 12 2) (.bool false) (dcf ((((l.length : Nat) : Int)) > ((80) : Int)) (by omega)) ?_
  refine ps_end ?_
  refine then_n ?_
  refine sy_n (.tmp 17) (part_RecordActs 26) (part_RecordActs 27) ?_
  refine sy_sk ?_
  refine then_n ?_
  refine sy_sq (part_RecordActs 14) (part_RecordActs 15) ?_
  refine sy_reg ?_
  refine rg_plain 3 (opsAt (part_RecordActs 14)) [0, 1, 2, 3, 4, 5, 6, 7, 8] (by kernel_rfl) (by kernel_rfl) ?_
  refine ps_k (o_RecordActs 14 0) (.int .i64 v) ?_
  refine ps_k (o_RecordActs 14 1) (.int .i64 win) ?_
  refine ps_k (o_RecordActs 14 2) (.int .i64 blk) ?_
  refine ps_c (o_RecordActs 14 3) 18 #[.int .i64 v, .int .i64 win, .int .i64 blk] Try.func18 ((qNew_no v win blk _ hn).mono ?_)
  rintro e V4 ⟨rfl, kV4⟩
  refine ⟨_, rfl, ?_⟩
  have K5 := K0.nn kV4
  have z6 := kV4.size
  refine ps_k (o_RecordActs 14 4) (.tuple #[.pointer none, .int .i64 3]) ?_
  refine ps_k (o_RecordActs 14 5) (.pointer none) ?_
  refine ps_k (o_RecordActs 14 6) (.int .i64 3) ?_
  refine ps_k (o_RecordActs 14 7) (.pointer none) ?_
  refine ps_k (o_RecordActs 14 8) (.int .i64 3) ?_
  refine ps_end ?_
  refine then_n ?_
  refine sy_sq (part_RecordActs 30) (part_RecordActs 31) ?_
  refine sy_reg ?_
  refine rg_plain 4 (opsAt (part_RecordActs 30)) [0, 1, 2, 3, 4, 5, 6, 7, 8] (by kernel_rfl) (by kernel_rfl) ?_
  refine ps_k (o_RecordActs 30 0) (.int .i64 v) ?_
  refine ps_k (o_RecordActs 30 1) (.int .i64 win) ?_
  refine ps_k (o_RecordActs 30 2) (.int .i64 blk) ?_
  refine ps_c (o_RecordActs 30 3) 20 #[.int .i64 v, .int .i64 win, .int .i64 blk] Try.func20 ((qrNew_no v win blk _ hn).mono ?_)
  rintro e V7 ⟨rfl, kV7⟩
  refine ⟨_, rfl, ?_⟩
  have K8 := K5.nn kV7
  have z9 := kV7.size
  refine ps_k (o_RecordActs 30 4) (.tuple #[.pointer none, .int .i64 3]) ?_
  refine ps_k (o_RecordActs 30 5) (.pointer none) ?_
  refine ps_k (o_RecordActs 30 6) (.int .i64 3) ?_
  refine ps_k (o_RecordActs 30 7) (.pointer none) ?_
  refine ps_k (o_RecordActs 30 8) (.int .i64 3) ?_
  refine ps_end ?_
  refine then_n ?_
  refine sy_sq (part_RecordActs 62) (part_RecordActs 63) ?_
  refine sy_sq (part_RecordActs 124) (part_RecordActs 125) ?_
  refine sy_reg ?_
  refine rg_plain 5 (opsAt (part_RecordActs 124)) [0, 1, 2, 3, 4, 5, 6, 7, 8, 9] (by kernel_rfl) (by kernel_rfl) ?_
  refine ps_k (o_RecordActs 124 0) (.int .i64 3) ?_
  refine ps_k (o_RecordActs 124 1) (.int .i64 3) ?_
  refine ps_k (o_RecordActs 124 2) (.bool false) ?_
  refine ps_k (o_RecordActs 124 3) (.bool false) ?_
  refine ps_k (o_RecordActs 124 4) (.pointer none) ?_
  refine ps_k (o_RecordActs 124 5) (.bool true) ?_
  refine ps_k (o_RecordActs 124 6) (.pointer none) ?_
  refine ps_k (o_RecordActs 124 7) (.bool true) ?_
  refine ps_k (o_RecordActs 124 8) (.bool false) ?_
  refine ps_k (o_RecordActs 124 9) (.bool false) ?_
  refine ps_end ?_
  refine sy_a ⟨#[.int .i64 v, .int .i64 win, .int .i64 blk, va, undef, undef, undef, undef, .bool false, .pointer none, .int .i64 3, .pointer none, .int .i64 3, undef, undef, va, iN l.length, .bool false, undef, .tuple #[.pointer none, .int .i64 3], .int .i64 v, .int .i64 win, .int .i64 blk, .tuple #[.pointer none, .int .i64 3], .pointer none, .int .i64 3, .tuple #[.pointer none, .int .i64 3], .int .i64 v, .int .i64 win, .int .i64 blk, .tuple #[.pointer none, .int .i64 3], .pointer none, .int .i64 3, .int .i64 3, .int .i64 3, .bool false, .bool false, .pointer none, .bool true, .pointer none, .bool true, .bool false, .bool false, undef, undef, undef, undef, undef, undef, undef, undef, undef, undef, undef, undef, undef, undef, undef, undef, undef, undef, undef, undef, undef, undef, undef, undef, undef, undef, undef, undef, undef, undef, undef, undef, undef, undef, undef, undef, undef, undef, undef, undef, undef, undef, undef, undef, undef, undef, undef, undef, undef, undef, undef, undef, undef, undef, undef, undef], []⟩ ?_
  refine then_n ?_
  refine sy_n (.tmp 42) (part_RecordActs 250) (part_RecordActs 251) ?_
  refine sy_sk ?_
  refine then_n ?_
  refine sy_sq (part_RecordActs 126) (part_RecordActs 127) ?_
  refine sy_sq (part_RecordActs 252) (part_RecordActs 253) ?_
  refine sy_reg ?_
  refine rg_plain 7 (opsAt (part_RecordActs 252)) [0] (by kernel_rfl) (by kernel_rfl) ?_
  refine ps_k (o_RecordActs 252 0) (.int .i64 0) ?_
  refine ps_end ?_
  refine then_n ?_
  refine sy_bk 0 (part_RecordActs 506) ?_
  refine sy_rounds 1 (part_RecordActs 1012) (by kernel_rfl) ?_
  refine rd_step ?_
  refine sy_sq (part_RecordActs 2024) (part_RecordActs 2025) ?_
  refine sy_sq (part_RecordActs 4048) (part_RecordActs 4049) ?_
  refine sy_reg ?_
  refine rg_plain 8 (opsAt (part_RecordActs 4048)) [0, 1, 2, 3, 4, 5, 6, 7] (by kernel_rfl) (by kernel_rfl) ?_
  refine ps_k (o_RecordActs 4048 0) (.pointer none) ?_
  refine ps_k (o_RecordActs 4048 1) (.bool false) ?_
  refine ps_k (o_RecordActs 4048 2) (.bool false) ?_
  refine ps_n (o_RecordActs 4048 3) ?_
  refine ps_n (o_RecordActs 4048 4) ?_
  refine ps_n (o_RecordActs 4048 5) ?_
  refine ps_n (o_RecordActs 4048 6) ?_
  refine ps_k (o_RecordActs 4048 7) (.bool false) ?_
  refine ps_end ?_
  refine then_n ?_
  refine sy_n (.tmp 50) (part_RecordActs 8098) (part_RecordActs 8099) ?_
  refine sy_exit 0 (by kernel_rfl) ?_
  refine then_e ?_
  refine then_e ?_
  refine blk_e ?_
  refine then_n ?_
  refine sy_sq (part_RecordActs 254) (part_RecordActs 255) ?_
  refine sy_reg ?_
  refine rg_plain 18 (opsAt (part_RecordActs 254)) [0, 1] (by kernel_rfl) (by kernel_rfl) ?_
  refine ps_c (o_RecordActs 254 0) 19 #[] Try.func19 ((lrawake_ok _).mono ?_)
  rintro e V10 ⟨rfl, kV10⟩
  refine ⟨_, rfl, ?_⟩
  have K11 := K8.nn kV10
  have z12 := kV10.size
  refine ps_k (o_RecordActs 254 1) (.bool true) ?_
  refine ps_end ?_
  refine then_n ?_
  refine sy_ret (by kernel_rfl) ?_
  refine sy_out (.bool true) rfl (by kernel_rfl) ?_
  exact ⟨rfl, K11⟩
set_option maxRecDepth 100000 in
set_option maxHeartbeats 4000000 in
theorem recordActs_fine (v win blk : Int) (va : Value) (l : List RAct) (w : World) (Ha : Sl w 76 RAct.cl va l) (Hok : ∀ x ∈ l, x.Ok) (hl : ¬ 80 < l.length) (hn : newOk v win blk) :
    Calls Try.prog 4 #[.int .i64 v, .int .i64 win, .int .i64 blk, va] w (fun e w' => e = .returned (.bool true) ∧ Keeps Nob w w') := by
  have hal := Ha.len_le
  have K0 : Keeps Nob w w := Keeps.refl _ _
  refine sy_enter (part_RecordActs 1) ⟨#[.int .i64 v, .int .i64 win, .int .i64 blk, va, undef, undef, undef, undef, undef, undef, undef, undef, undef, undef, undef, undef, undef, undef, undef, undef, undef, undef, undef, undef, undef, undef, undef, undef, undef, undef, undef, undef, undef, undef, undef, undef, undef, undef, undef, undef, undef, undef, undef, undef, undef, undef, undef, undef, undef, undef, undef, undef, undef, undef, undef, undef, undef, undef, undef, undef, undef, undef, undef, undef, undef, undef, undef, undef, undef, undef, undef, undef, undef, undef, undef, undef, undef, undef, undef, undef, undef, undef, undef, undef, undef, undef, undef, undef, undef, undef, undef, undef, undef, undef, undef, undef, undef, undef, undef], []⟩ Try.func4 (by kernel_rfl) (by kernel_rfl) ?_
  refine sy_sq (part_RecordActs 2) (part_RecordActs 3) ?_
  refine sy_reg ?_
  refine rg_plain 0 (opsAt (part_RecordActs 2)) [0] (by kernel_rfl) (by kernel_rfl) ?_
  refine ps_k (o_RecordActs 2 0) (.bool false) ?_
  refine ps_end ?_
  refine then_n ?_
  refine sy_sq (part_RecordActs 6) (part_RecordActs 7) ?_
  refine sy_sq (part_RecordActs 12) (part_RecordActs 13) ?_
  refine sy_reg ?_
  refine rg_plain 1 (opsAt (part_RecordActs 12)) [0, 1, 2] (by kernel_rfl) (by kernel_rfl) ?_
  refine ps_k (o_RecordActs 12 0) (va) ?_
  refine ps_p (o_RecordActs 12 1) (iN l.length) (exec_len_sl (.tmp 15) 46 51 (by kernel_rfl) Try.underlying46 (by kernel_rfl) Ha) ?_
  refine ps_p (o_RecordActs 12 2) (.bool false) (dcf ((((l.length : Nat) : Int)) > ((80) : Int)) (by omega)) ?_
  refine ps_end ?_
  refine then_n ?_
  refine sy_n (.tmp 17) (part_RecordActs 26) (part_RecordActs 27) ?_
  refine sy_sk ?_
  refine then_n ?_
  refine sy_sq (part_RecordActs 14) (part_RecordActs 15) ?_
  refine sy_reg ?_
  refine rg_plain 3 (opsAt (part_RecordActs 14)) [0, 1, 2, 3, 4, 5, 6, 7, 8] (by kernel_rfl) (by kernel_rfl) ?_
  refine ps_k (o_RecordActs 14 0) (.int .i64 v) ?_
  refine ps_k (o_RecordActs 14 1) (.int .i64 win) ?_
  refine ps_k (o_RecordActs 14 2) (.int .i64 blk) ?_
  refine ps_c (o_RecordActs 14 3) 18 #[.int .i64 v, .int .i64 win, .int .i64 blk] Try.func18 ((qNew_yes v win blk _ hn).mono ?_)
  rintro e V13 ⟨r0, rfl, q0, nr, kV13⟩
  refine ⟨_, rfl, ?_⟩
  have K14 := K0.nn kV13
  have z15 := kV13.size
  refine ps_k (o_RecordActs 14 4) (.tuple #[pT r0 0, .int .i64 0]) ?_
  refine ps_k (o_RecordActs 14 5) (pT r0 0) ?_
  refine ps_k (o_RecordActs 14 6) (.int .i64 0) ?_
  refine ps_k (o_RecordActs 14 7) (pT r0 0) ?_
  refine ps_k (o_RecordActs 14 8) (.int .i64 0) ?_
  refine ps_end ?_
  refine then_n ?_
  refine sy_sq (part_RecordActs 30) (part_RecordActs 31) ?_
  refine sy_reg ?_
  refine rg_plain 4 (opsAt (part_RecordActs 30)) [0, 1, 2, 3, 4, 5, 6, 7, 8] (by kernel_rfl) (by kernel_rfl) ?_
  refine ps_k (o_RecordActs 30 0) (.int .i64 v) ?_
  refine ps_k (o_RecordActs 30 1) (.int .i64 win) ?_
  refine ps_k (o_RecordActs 30 2) (.int .i64 blk) ?_
  have hrs := q0
  have Kq := K14
  refine ps_c (o_RecordActs 30 3) 20 #[.int .i64 v, .int .i64 win, .int .i64 blk] Try.func20 (((qrNew_fine v win blk _ (by unfold newOk at hn; omega) (by unfold newOk at hn; omega) (by unfold newOk at hn; omega) (by unfold newOk at hn; omega) (by unfold newOk at hn; omega) (by unfold newOk at hn; omega))).mono ?_)
  rintro e V16 ⟨q, rfl, hrq, nq, kV16⟩
  have hbo := both_of (hrs.keepsN kV16) hrq Kq.size (Nat.le_trans Kq.size nq) (Kq.nn kV16) hn
  refine ⟨_, rfl, ?_⟩
  have K17 := K14.nn kV16
  have z18 := kV16.size
  refine ps_k (o_RecordActs 30 4) (.tuple #[pT q 0, .int .i64 0]) ?_
  refine ps_k (o_RecordActs 30 5) (pT q 0) ?_
  refine ps_k (o_RecordActs 30 6) (.int .i64 0) ?_
  refine ps_k (o_RecordActs 30 7) (pT q 0) ?_
  refine ps_k (o_RecordActs 30 8) (.int .i64 0) ?_
  refine ps_end ?_
  refine then_n ?_
  refine sy_sq (part_RecordActs 62) (part_RecordActs 63) ?_
  refine sy_sq (part_RecordActs 124) (part_RecordActs 125) ?_
  refine sy_reg ?_
  refine rg_plain 5 (opsAt (part_RecordActs 124)) [0, 1, 2, 3, 4, 5, 6, 7, 8, 9] (by kernel_rfl) (by kernel_rfl) ?_
  refine ps_k (o_RecordActs 124 0) (.int .i64 0) ?_
  refine ps_k (o_RecordActs 124 1) (.int .i64 0) ?_
  refine ps_k (o_RecordActs 124 2) (.bool false) ?_
  refine ps_k (o_RecordActs 124 3) (.bool false) ?_
  refine ps_k (o_RecordActs 124 4) (pT r0 0) ?_
  refine ps_k (o_RecordActs 124 5) (.bool false) ?_
  refine ps_k (o_RecordActs 124 6) (pT q 0) ?_
  refine ps_k (o_RecordActs 124 7) (.bool false) ?_
  refine ps_k (o_RecordActs 124 8) (.bool false) ?_
  refine ps_k (o_RecordActs 124 9) (.bool false) ?_
  refine ps_end ?_
  refine sy_a ⟨#[.int .i64 v, .int .i64 win, .int .i64 blk, va, undef, undef, undef, undef, .bool false, pT r0 0, .int .i64 0, pT q 0, .int .i64 0, undef, undef, va, iN l.length, .bool false, undef, .tuple #[pT r0 0, .int .i64 0], .int .i64 v, .int .i64 win, .int .i64 blk, .tuple #[pT r0 0, .int .i64 0], pT r0 0, .int .i64 0, .tuple #[pT q 0, .int .i64 0], .int .i64 v, .int .i64 win, .int .i64 blk, .tuple #[pT q 0, .int .i64 0], pT q 0, .int .i64 0, .int .i64 0, .int .i64 0, .bool false, .bool false, pT r0 0, .bool false, pT q 0, .bool false, .bool false, .bool false, undef, undef, undef, undef, undef, undef, undef, undef, undef, undef, undef, undef, undef, undef, undef, undef, undef, undef, undef, undef, undef, undef, undef, undef, undef, undef, undef, undef, undef, undef, undef, undef, undef, undef, undef, undef, undef, undef, undef, undef, undef, undef, undef, undef, undef, undef, undef, undef, undef, undef, undef, undef, undef, undef, undef, undef], []⟩ ?_
  refine then_n ?_
  refine sy_n (.tmp 42) (part_RecordActs 250) (part_RecordActs 251) ?_
  refine sy_sk ?_
  refine then_n ?_
  refine sy_sq (part_RecordActs 126) (part_RecordActs 127) ?_
  refine sy_sq (part_RecordActs 252) (part_RecordActs 253) ?_
  refine sy_reg ?_
  refine rg_plain 7 (opsAt (part_RecordActs 252)) [0] (by kernel_rfl) (by kernel_rfl) ?_
  refine ps_k (o_RecordActs 252 0) (.int .i64 0) ?_
  refine ps_end ?_
  refine then_n ?_
  refine sy_bk 0 (part_RecordActs 506) ?_
  refine sy_loop (part_RecordActs 1012) (fun a V => ∃ (i : Nat) (r : Nat) (u8 u14 u43 u44 u45 u46 u47 u48 u49 u50 u51 u52 u53 u54 u55 u56 u57 u58 u59 u60 u61 u62 u63 u64 u65 u66 u67 u68 u69 u70 u71 u72 u73 u74 u75 u76 u77 u78 u79 u80 u81 u82 u83 u84 u85 u86 u87 u88 u89 u90 u91 u92 u93 u94 u95 u96 u97 : Value), (a = ⟨#[.int .i64 v, .int .i64 win, .int .i64 blk, va, undef, undef, undef, undef, u8, pT r 0, .int .i64 0, pT q 0, .int .i64 0, iN i, u14, va, iN l.length, .bool false, undef, .tuple #[pT r0 0, .int .i64 0], .int .i64 v, .int .i64 win, .int .i64 blk, .tuple #[pT r0 0, .int .i64 0], pT r0 0, .int .i64 0, .tuple #[pT q 0, .int .i64 0], .int .i64 v, .int .i64 win, .int .i64 blk, .tuple #[pT q 0, .int .i64 0], pT q 0, .int .i64 0, .int .i64 0, .int .i64 0, .bool false, .bool false, pT r0 0, .bool false, pT q 0, .bool false, .bool false, .bool false, u43, u44, u45, u46, u47, u48, u49, u50, u51, u52, u53, u54, u55, u56, u57, u58, u59, u60, u61, u62, u63, u64, u65, u66, u67, u68, u69, u70, u71, u72, u73, u74, u75, u76, u77, u78, u79, u80, u81, u82, u83, u84, u85, u86, u87, u88, u89, u90, u91, u92, u93, u94, u95, u96, u97, undef], []⟩) ∧ (i ≤ l.length) ∧ (Both w V r q v) ∧ (Keeps Nob w V)) (fun a _ => l.length - (intOf (a.tmps.getD 13 undef)).toNat) (by kernel_rfl) ?_ ?_
  · exact ⟨0, r0, (.bool false), undef, undef, undef, undef, undef, undef, undef, undef, undef, undef, undef, undef, undef, undef, undef, undef, undef, undef, undef, undef, undef, undef, undef, undef, undef, undef, undef, undef, undef, undef, undef, undef, undef, undef, undef, undef, undef, undef, undef, undef, undef, undef, undef, undef, undef, undef, undef, undef, undef, undef, undef, undef, undef, undef, undef, undef, by kernel_rfl, Nat.zero_le _, hbo, K17⟩
  · rintro a V19 ⟨i, r, u8, u14, u43, u44, u45, u46, u47, u48, u49, u50, u51, u52, u53, u54, u55, u56, u57, u58, u59, u60, u61, u62, u63, u64, u65, u66, u67, u68, u69, u70, u71, u72, u73, u74, u75, u76, u77, u78, u79, u80, u81, u82, u83, u84, u85, u86, u87, u88, u89, u90, u91, u92, u93, u94, u95, u96, u97, rfl, hi, h20, K21⟩
    rcases (show (∃ x, l[i]? = some x ∧ i < l.length ∧ x.k = 3) ∨ (∃ x, l[i]? = some x ∧ i < l.length ∧ x.k ≠ 3) ∨ i = l.length by
      by_cases h : i < l.length
      · by_cases e : l[i].k = 3
        · exact .inl ⟨_, List.getElem?_eq_getElem h, h, e⟩
        · exact .inr (.inl ⟨_, List.getElem?_eq_getElem h, h, e⟩)
      · exact .inr (.inr (by omega))) with ⟨x, hx, lt_i, hk⟩ | ⟨x, hx, lt_i, hk⟩ | hi_
    · have hxo := Hok x (List.mem_of_getElem? hx)
      obtain ⟨b_x, o_x, c_x, hv_x, hb_x, _⟩ := Ha.at_ i _ hx
      skip
      refine sy_sq (part_RecordActs 2024) (part_RecordActs 2025) ?_
      refine sy_sq (part_RecordActs 4048) (part_RecordActs 4049) ?_
      refine sy_reg ?_
      refine rg_plain 8 (opsAt (part_RecordActs 4048)) [0, 1, 2, 3, 4, 5, 6, 7] (by kernel_rfl) (by kernel_rfl) ?_
      refine ps_k (o_RecordActs 4048 0) (pT q 0) ?_
      refine ps_k (o_RecordActs 4048 1) (.bool true) ?_
      refine ps_k (o_RecordActs 4048 2) (.bool true) ?_
      refine ps_k (o_RecordActs 4048 3) (iN i) ?_
      refine ps_k (o_RecordActs 4048 4) (va) ?_
      refine ps_p (o_RecordActs 4048 5) (iN l.length) (exec_len_sl (.tmp 47) 46 51 (by kernel_rfl) Try.underlying46 (by kernel_rfl) (Ha.keepsN K21)) ?_
      refine ps_p (o_RecordActs 4048 6) (.bool true) (dct ((((i : Nat) : Int)) < (((l.length : Nat) : Int))) (by omega)) ?_
      refine ps_k (o_RecordActs 4048 7) (.bool true) ?_
      refine ps_end ?_
      refine then_n ?_
      refine sy_ys (.tmp 50) (part_RecordActs 8098) (part_RecordActs 8099) ?_
      refine sy_sk ?_
      refine then_n ?_
      refine sy_sq (part_RecordActs 4050) (part_RecordActs 4051) ?_
      refine sy_bk 1 (part_RecordActs 8100) ?_
      refine sy_sq (part_RecordActs 16200) (part_RecordActs 16201) ?_
      refine sy_sq (part_RecordActs 32400) (part_RecordActs 32401) ?_
      refine sy_reg ?_
      refine rg_plain 10 (opsAt (part_RecordActs 32400)) [0, 1, 2, 3, 4, 5] (by kernel_rfl) (by kernel_rfl) ?_
      refine ps_k (o_RecordActs 32400 0) (va) ?_
      refine ps_k (o_RecordActs 32400 1) (iN i) ?_
      refine ps_p (o_RecordActs 32400 2) (pT b_x (o_x + i * 76)) (exec_indexAt_slice 46 (.tmp 53) (.tmp 54) (by kernel_rfl) b_x o_x l.length c_x (Eq.trans (b := va) (by kernel_rfl) hv_x) .i64 i (by kernel_rfl) _ 76 Try.underlying46 (by kernel_rfl) (by omega)) ?_
      refine ps_k (o_RecordActs 32400 3) (pT b_x (o_x + i * 76 + 0)) ?_
      refine ps_p (o_RecordActs 32400 4) (.int .i64 x.k) (exec_ld 3 (.tmp 56) b_x (o_x + i * 76 + 0) Try.underlying3 (Sl.cell (Ha.keepsN K21) hx hv_x rfl)) ?_
      refine ps_p (o_RecordActs 32400 5) (.bool true) (eqt ((x.k) : Int) ((3) : Int) (by omega)) ?_
      refine ps_end ?_
      refine then_n ?_
      refine sy_ys (.tmp 58) (part_RecordActs 64802) (part_RecordActs 64803) ?_
      refine sy_sq (part_RecordActs 129604) (part_RecordActs 129605) ?_
      refine sy_reg ?_
      refine rg_plain 11 (opsAt (part_RecordActs 129604)) [0, 1] (by kernel_rfl) (by kernel_rfl) ?_
      refine ps_k (o_RecordActs 129604 0) (pT r 0) ?_
      refine ps_k (o_RecordActs 129604 1) (pT r 0) ?_
      refine ps_end ?_
      refine then_n ?_
      refine sy_sq (part_RecordActs 259210) (part_RecordActs 259211) ?_
      refine sy_reg ?_
      refine rg_plain 12 (opsAt (part_RecordActs 259210)) [0, 1, 2] (by kernel_rfl) (by kernel_rfl) ?_
      refine ps_k (o_RecordActs 259210 0) (pT r 0) ?_
      refine ps_c (o_RecordActs 259210 1) 21 #[pT r 0] Try.func21 ((Both.copy h20).mono ?_)
      rintro e V22 ⟨r2, rfl, ht0, kV22⟩
      refine ⟨_, rfl, ?_⟩
      have K23 := K21.nn kV22
      have z24 := kV22.size
      refine ps_k (o_RecordActs 259210 2) (pT r2 0) ?_
      refine ps_end ?_
      refine then_n ?_
      refine sy_sq (part_RecordActs 518422) (part_RecordActs 518423) ?_
      refine sy_reg ?_
      refine rg_plain 13 (opsAt (part_RecordActs 518422)) [0, 1, 2, 3, 4, 5] (by kernel_rfl) (by kernel_rfl) ?_
      refine ps_k (o_RecordActs 518422 0) (pT r 0) ?_
      refine ps_k (o_RecordActs 518422 1) (.int .i64 v) ?_
      refine ps_k (o_RecordActs 518422 2) (pT r 0) ?_
      refine ps_c (o_RecordActs 518422 3) 15 #[pT r 0] Try.func15 ((Trio.low ht0).mono ?_)
      rintro e V25 ⟨xl, rfl, hbxl, kV25⟩
      refine ⟨_, rfl, ?_⟩
      have h26 : Trio w V25 r r2 q v := ht0.keepsN kV25
      have K27 := K23.nn kV25
      have z28 := kV25.size
      refine ps_k (o_RecordActs 518422 4) (.agg (Att.c (vt v 0 xl))) ?_
      refine ps_c (o_RecordActs 518422 5) 9 #[pT r 0, .agg (Att.c (vt v 0 xl))] Try.func9 ((Trio.put h26 (vt v 0 xl) (vt_ok (by unfold newOk at hn; constructor <;> omega) (by decide) hbxl)).mono ?_)
      rintro e V29 ⟨x30, rfl, q31, kV29⟩
      refine ⟨_, rfl, ?_⟩
      have K32 : Keeps Nob w V29 := K27.then kV29 (fun i hi hm => absurd hi (by omega))
      have z33 := kV29.size
      refine ps_end ?_
      refine sy_a ⟨#[.int .i64 v, .int .i64 win, .int .i64 blk, va, undef, undef, undef, undef, u8, pT r2 0, .int .i64 0, pT q 0, .int .i64 0, iN i, pT r 0, va, iN l.length, .bool false, undef, .tuple #[pT r0 0, .int .i64 0], .int .i64 v, .int .i64 win, .int .i64 blk, .tuple #[pT r0 0, .int .i64 0], pT r0 0, .int .i64 0, .tuple #[pT q 0, .int .i64 0], .int .i64 v, .int .i64 win, .int .i64 blk, .tuple #[pT q 0, .int .i64 0], pT q 0, .int .i64 0, .int .i64 0, .int .i64 0, .bool false, .bool false, pT r0 0, .bool false, pT q 0, .bool false, .bool false, .bool false, pT q 0, .bool true, .bool true, iN i, va, iN l.length, .bool true, .bool true, u51, u52, va, iN i, pT b_x (o_x + i * 76), pT b_x (o_x + i * 76 + 0), .int .i64 x.k, .bool true, pT r 0, pT r 0, pT r2 0, pT r 0, .int .i64 v, pT r 0, .int .i64 xl, .agg (Att.c (vt v 0 xl)), .int .i64 x30, u68, u69, u70, u71, u72, u73, u74, u75, u76, u77, u78, u79, u80, u81, u82, u83, u84, u85, u86, u87, u88, u89, u90, u91, u92, u93, u94, u95, u96, u97, undef], []⟩ ?_
      refine then_n ?_
      refine sy_sq (part_RecordActs 1036846) (part_RecordActs 1036847) ?_
      refine sy_reg ?_
      refine rg_plain 14 (opsAt (part_RecordActs 1036846)) [0, 1, 2, 3, 4, 5] (by kernel_rfl) (by kernel_rfl) ?_
      refine ps_k (o_RecordActs 1036846 0) (pT r 0) ?_
      refine ps_k (o_RecordActs 1036846 1) (.int .i64 v) ?_
      refine ps_k (o_RecordActs 1036846 2) (pT r 0) ?_
      refine ps_c (o_RecordActs 1036846 3) 16 #[pT r 0] Try.func16 ((Trio.floor q31).mono ?_)
      rintro e V34 ⟨xf, rfl, hbxf, kV34⟩
      refine ⟨_, rfl, ?_⟩
      have h35 : Trio w V34 r r2 q v := q31.keepsN kV34
      have K36 := K32.nn kV34
      have z37 := kV34.size
      refine ps_k (o_RecordActs 1036846 4) (.agg (Pro.c ⟨v, xf, List.replicate 32 0, 0⟩)) ?_
      refine ps_c (o_RecordActs 1036846 5) 12 #[pT r 0, .agg (Pro.c ⟨v, xf, List.replicate 32 0, 0⟩)] Try.func12 ((Trio.putB h35 ⟨v, xf, List.replicate 32 0, 0⟩ ⟨by unfold newOk at hn; constructor <;> (show _ ≤ _; dsimp only; omega), hbxf, rfl, by show (0 : Nat) < 2 ^ 64; decide⟩).mono ?_)
      rintro e V38 ⟨x39, rfl, q40, kV38⟩
      refine ⟨_, rfl, ?_⟩
      have K41 : Keeps Nob w V38 := K36.then kV38 (fun i hi hm => absurd hi (by omega))
      have z42 := kV38.size
      refine ps_end ?_
      refine then_n ?_
      refine sy_reg ?_
      refine rg_plain 15 (opsAt (part_RecordActs 1036847)) [0, 1] (by kernel_rfl) (by kernel_rfl) ?_
      refine ps_k (o_RecordActs 1036847 0) (pT r 0) ?_
      refine ps_c (o_RecordActs 1036847 1) 14 #[pT r 0, .int .i64 4294967296, .int .i64 4294967296] Try.func14 ((Trio.move q40 4294967296 4294967296).mono ?_)
      rintro e V43 ⟨x44, rfl, q45, kV43⟩
      refine ⟨_, rfl, ?_⟩
      have K46 : Keeps Nob w V43 := K41.then kV43 (fun i hi hm => absurd hi (by omega))
      have z47 := kV43.size
      refine ps_end ?_
      refine then_n ?_
      refine sy_sq (part_RecordActs 32402) (part_RecordActs 32403) ?_
      refine sy_reg ?_
      refine rg_plain 16 (opsAt (part_RecordActs 32402)) [0, 1, 2, 3, 4, 5, 6, 7, 8, 9, 10, 11, 12, 13, 14, 15, 16, 17, 18, 19, 20, 21] (by kernel_rfl) (by kernel_rfl) ?_
      refine ps_k (o_RecordActs 32402 0) (pT r2 0) ?_
      refine ps_k (o_RecordActs 32402 1) (.bool false) ?_
      refine ps_k (o_RecordActs 32402 2) (.bool false) ?_
      refine ps_k (o_RecordActs 32402 3) (pT r2 0) ?_
      refine ps_k (o_RecordActs 32402 4) (pT q 0) ?_
      refine ps_k (o_RecordActs 32402 5) (va) ?_
      refine ps_k (o_RecordActs 32402 6) (iN i) ?_
      refine ps_p (o_RecordActs 32402 7) (pT b_x (o_x + i * 76)) (exec_indexAt_slice 46 (.tmp 81) (.tmp 82) (by kernel_rfl) b_x o_x l.length c_x (Eq.trans (b := va) (by kernel_rfl) hv_x) .i64 i (by kernel_rfl) _ 76 Try.underlying46 (by kernel_rfl) (by omega)) ?_
      refine ps_p (o_RecordActs 32402 8) (.agg (RAct.c x)) (exec_load_mid 51 (.tmp 83) (by kernel_rfl) b_x (o_x + i * 76) (by kernel_rfl) (RAct.cl x) _ (Sl.range (Ha.keepsN K46) hx hv_x) Try.underlying51 rfl (by rw [RAct.cl_len hxo]; kernel_rfl)) ?_
      refine ps_c (o_RecordActs 32402 9) 22 #[pT r2 0, pT q 0, .agg (RAct.c x)] Try.func22 ((ldoes_ok w r2 q v x _ q45.both hxo).mono ?_)
      rintro e V48 ⟨rfl, q49, kV48⟩
      refine ⟨_, rfl, ?_⟩
      have K50 : Keeps Nob w V48 := K46.then kV48 (fun i hi hm => absurd hi (by omega))
      have z51 := kV48.size
      refine ps_k (o_RecordActs 32402 10) (.bool false) ?_
      refine ps_k (o_RecordActs 32402 11) (.bool false) ?_
      refine ps_k (o_RecordActs 32402 12) (.bool false) ?_
      refine ps_k (o_RecordActs 32402 13) (pT r2 0) ?_
      refine ps_k (o_RecordActs 32402 14) (pT q 0) ?_
      refine ps_k (o_RecordActs 32402 15) (va) ?_
      refine ps_k (o_RecordActs 32402 16) (iN i) ?_
      refine ps_p (o_RecordActs 32402 17) (pT b_x (o_x + i * 76)) (exec_indexAt_slice 46 (.tmp 91) (.tmp 92) (by kernel_rfl) b_x o_x l.length c_x (Eq.trans (b := va) (by kernel_rfl) hv_x) .i64 i (by kernel_rfl) _ 76 Try.underlying46 (by kernel_rfl) (by omega)) ?_
      refine ps_p (o_RecordActs 32402 18) (.agg (RAct.c x)) (exec_load_mid 51 (.tmp 93) (by kernel_rfl) b_x (o_x + i * 76) (by kernel_rfl) (RAct.cl x) _ (Sl.range (Ha.keepsN K50) hx hv_x) Try.underlying51 rfl (by rw [RAct.cl_len hxo]; kernel_rfl)) ?_
      refine ps_c (o_RecordActs 32402 19) 23 #[pT r2 0, pT q 0, .agg (RAct.c x)] Try.func23 ((lalike_ok w r2 q v x _ q49 hxo).mono ?_)
      rintro e V52 ⟨rfl, kV52⟩
      refine ⟨_, rfl, ?_⟩
      have h53 : Both w V52 r2 q v := q49.keepsN kV52
      have K54 := K50.nn kV52
      have z55 := kV52.size
      refine ps_k (o_RecordActs 32402 20) (.bool false) ?_
      refine ps_k (o_RecordActs 32402 21) (.bool false) ?_
      refine ps_end ?_
      refine sy_a ⟨#[.int .i64 v, .int .i64 win, .int .i64 blk, va, undef, undef, undef, undef, u8, pT r2 0, .int .i64 0, pT q 0, .int .i64 0, iN i, pT r 0, va, iN l.length, .bool false, undef, .tuple #[pT r0 0, .int .i64 0], .int .i64 v, .int .i64 win, .int .i64 blk, .tuple #[pT r0 0, .int .i64 0], pT r0 0, .int .i64 0, .tuple #[pT q 0, .int .i64 0], .int .i64 v, .int .i64 win, .int .i64 blk, .tuple #[pT q 0, .int .i64 0], pT q 0, .int .i64 0, .int .i64 0, .int .i64 0, .bool false, .bool false, pT r0 0, .bool false, pT q 0, .bool false, .bool false, .bool false, pT q 0, .bool true, .bool true, iN i, va, iN l.length, .bool true, .bool true, u51, u52, va, iN i, pT b_x (o_x + i * 76), pT b_x (o_x + i * 76 + 0), .int .i64 x.k, .bool true, pT r 0, pT r 0, pT r2 0, pT r 0, .int .i64 v, pT r 0, .int .i64 xl, .agg (Att.c (vt v 0 xl)), .int .i64 x30, pT r 0, .int .i64 v, pT r 0, .int .i64 xf, .agg (Pro.c ⟨v, xf, List.replicate 32 0, 0⟩), .int .i64 x39, pT r 0, .int .i64 x44, pT r2 0, .bool false, .bool false, pT r2 0, pT q 0, va, iN i, pT b_x (o_x + i * 76), .agg (RAct.c x), .bool true, .bool false, .bool false, .bool false, pT r2 0, pT q 0, va, iN i, pT b_x (o_x + i * 76), .agg (RAct.c x), .bool true, .bool false, .bool false, undef], []⟩ ?_
      refine then_n ?_
      refine sy_n (.tmp 97) (part_RecordActs 64806) (part_RecordActs 64807) ?_
      refine sy_sk ?_
      refine blk_n ?_
      refine then_n ?_
      refine sy_reg ?_
      refine rg_plain 9 (opsAt (part_RecordActs 4051)) [0, 1, 2] (by kernel_rfl) (by kernel_rfl) ?_
      refine ps_k (o_RecordActs 4051 0) (iN i) ?_
      refine ps_p (o_RecordActs 4051 1) (iN (i + 1)) (exec_cast (congrArg (Value.int .i64) (wrapN (i + 1) (by omega))) (by kernel_rfl)) ?_
      refine ps_k (o_RecordActs 4051 2) (iN (i + 1)) ?_
      refine ps_end ?_
      refine then_n ?_
      refine ⟨⟨i + 1, r2, u8, (pT r 0), (pT q 0), (.bool true), (.bool true), (iN i), va, (iN l.length), (.bool true), (.bool true), (iN i), (iN (i + 1)), va, (iN i), (pT b_x (o_x + i * 76)), (pT b_x (o_x + i * 76 + 0)), (.int .i64 x.k), (.bool true), (pT r 0), (pT r 0), (pT r2 0), (pT r 0), (.int .i64 v), (pT r 0), (.int .i64 xl), (.agg (Att.c (vt v 0 xl))), (.int .i64 x30), (pT r 0), (.int .i64 v), (pT r 0), (.int .i64 xf), (.agg (Pro.c ⟨v, xf, List.replicate 32 0, 0⟩)), (.int .i64 x39), (pT r 0), (.int .i64 x44), (pT r2 0), (.bool false), (.bool false), (pT r2 0), (pT q 0), va, (iN i), (pT b_x (o_x + i * 76)), (.agg (RAct.c x)), (.bool true), (.bool false), (.bool false), (.bool false), (pT r2 0), (pT q 0), va, (iN i), (pT b_x (o_x + i * 76)), (.agg (RAct.c x)), (.bool true), (.bool false), (.bool false), by kernel_rfl, by omega, h53, K54⟩, ?_⟩
      exact lt_meas (x := l.length - (i + 1)) (y := l.length - i) (by kernel_rfl) (by kernel_rfl) (by omega)
    · have hxo := Hok x (List.mem_of_getElem? hx)
      obtain ⟨b_x, o_x, c_x, hv_x, hb_x, _⟩ := Ha.at_ i _ hx
      skip
      refine sy_sq (part_RecordActs 2024) (part_RecordActs 2025) ?_
      refine sy_sq (part_RecordActs 4048) (part_RecordActs 4049) ?_
      refine sy_reg ?_
      refine rg_plain 8 (opsAt (part_RecordActs 4048)) [0, 1, 2, 3, 4, 5, 6, 7] (by kernel_rfl) (by kernel_rfl) ?_
      refine ps_k (o_RecordActs 4048 0) (pT q 0) ?_
      refine ps_k (o_RecordActs 4048 1) (.bool true) ?_
      refine ps_k (o_RecordActs 4048 2) (.bool true) ?_
      refine ps_k (o_RecordActs 4048 3) (iN i) ?_
      refine ps_k (o_RecordActs 4048 4) (va) ?_
      refine ps_p (o_RecordActs 4048 5) (iN l.length) (exec_len_sl (.tmp 47) 46 51 (by kernel_rfl) Try.underlying46 (by kernel_rfl) (Ha.keepsN K21)) ?_
      refine ps_p (o_RecordActs 4048 6) (.bool true) (dct ((((i : Nat) : Int)) < (((l.length : Nat) : Int))) (by omega)) ?_
      refine ps_k (o_RecordActs 4048 7) (.bool true) ?_
      refine ps_end ?_
      refine then_n ?_
      refine sy_ys (.tmp 50) (part_RecordActs 8098) (part_RecordActs 8099) ?_
      refine sy_sk ?_
      refine then_n ?_
      refine sy_sq (part_RecordActs 4050) (part_RecordActs 4051) ?_
      refine sy_bk 1 (part_RecordActs 8100) ?_
      refine sy_sq (part_RecordActs 16200) (part_RecordActs 16201) ?_
      refine sy_sq (part_RecordActs 32400) (part_RecordActs 32401) ?_
      refine sy_reg ?_
      refine rg_plain 10 (opsAt (part_RecordActs 32400)) [0, 1, 2, 3, 4, 5] (by kernel_rfl) (by kernel_rfl) ?_
      refine ps_k (o_RecordActs 32400 0) (va) ?_
      refine ps_k (o_RecordActs 32400 1) (iN i) ?_
      refine ps_p (o_RecordActs 32400 2) (pT b_x (o_x + i * 76)) (exec_indexAt_slice 46 (.tmp 53) (.tmp 54) (by kernel_rfl) b_x o_x l.length c_x (Eq.trans (b := va) (by kernel_rfl) hv_x) .i64 i (by kernel_rfl) _ 76 Try.underlying46 (by kernel_rfl) (by omega)) ?_
      refine ps_k (o_RecordActs 32400 3) (pT b_x (o_x + i * 76 + 0)) ?_
      refine ps_p (o_RecordActs 32400 4) (.int .i64 x.k) (exec_ld 3 (.tmp 56) b_x (o_x + i * 76 + 0) Try.underlying3 (Sl.cell (Ha.keepsN K21) hx hv_x rfl)) ?_
      refine ps_p (o_RecordActs 32400 5) (.bool false) (eqf ((x.k) : Int) ((3) : Int) (by omega)) ?_
      refine ps_end ?_
      refine then_n ?_
      refine sy_n (.tmp 58) (part_RecordActs 64802) (part_RecordActs 64803) ?_
      refine sy_sk ?_
      refine then_n ?_
      refine sy_sq (part_RecordActs 32402) (part_RecordActs 32403) ?_
      refine sy_reg ?_
      refine rg_plain 16 (opsAt (part_RecordActs 32402)) [0, 1, 2, 3, 4, 5, 6, 7, 8, 9, 10, 11, 12, 13, 14, 15, 16, 17, 18, 19, 20, 21] (by kernel_rfl) (by kernel_rfl) ?_
      refine ps_k (o_RecordActs 32402 0) (pT r 0) ?_
      refine ps_k (o_RecordActs 32402 1) (.bool false) ?_
      refine ps_k (o_RecordActs 32402 2) (.bool false) ?_
      refine ps_k (o_RecordActs 32402 3) (pT r 0) ?_
      refine ps_k (o_RecordActs 32402 4) (pT q 0) ?_
      refine ps_k (o_RecordActs 32402 5) (va) ?_
      refine ps_k (o_RecordActs 32402 6) (iN i) ?_
      refine ps_p (o_RecordActs 32402 7) (pT b_x (o_x + i * 76)) (exec_indexAt_slice 46 (.tmp 81) (.tmp 82) (by kernel_rfl) b_x o_x l.length c_x (Eq.trans (b := va) (by kernel_rfl) hv_x) .i64 i (by kernel_rfl) _ 76 Try.underlying46 (by kernel_rfl) (by omega)) ?_
      refine ps_p (o_RecordActs 32402 8) (.agg (RAct.c x)) (exec_load_mid 51 (.tmp 83) (by kernel_rfl) b_x (o_x + i * 76) (by kernel_rfl) (RAct.cl x) _ (Sl.range (Ha.keepsN K21) hx hv_x) Try.underlying51 rfl (by rw [RAct.cl_len hxo]; kernel_rfl)) ?_
      refine ps_c (o_RecordActs 32402 9) 22 #[pT r 0, pT q 0, .agg (RAct.c x)] Try.func22 ((ldoes_ok w r q v x _ h20 hxo).mono ?_)
      rintro e V56 ⟨rfl, q57, kV56⟩
      refine ⟨_, rfl, ?_⟩
      have K58 : Keeps Nob w V56 := K21.then kV56 (fun i hi hm => absurd hi (by omega))
      have z59 := kV56.size
      refine ps_k (o_RecordActs 32402 10) (.bool false) ?_
      refine ps_k (o_RecordActs 32402 11) (.bool false) ?_
      refine ps_k (o_RecordActs 32402 12) (.bool false) ?_
      refine ps_k (o_RecordActs 32402 13) (pT r 0) ?_
      refine ps_k (o_RecordActs 32402 14) (pT q 0) ?_
      refine ps_k (o_RecordActs 32402 15) (va) ?_
      refine ps_k (o_RecordActs 32402 16) (iN i) ?_
      refine ps_p (o_RecordActs 32402 17) (pT b_x (o_x + i * 76)) (exec_indexAt_slice 46 (.tmp 91) (.tmp 92) (by kernel_rfl) b_x o_x l.length c_x (Eq.trans (b := va) (by kernel_rfl) hv_x) .i64 i (by kernel_rfl) _ 76 Try.underlying46 (by kernel_rfl) (by omega)) ?_
      refine ps_p (o_RecordActs 32402 18) (.agg (RAct.c x)) (exec_load_mid 51 (.tmp 93) (by kernel_rfl) b_x (o_x + i * 76) (by kernel_rfl) (RAct.cl x) _ (Sl.range (Ha.keepsN K58) hx hv_x) Try.underlying51 rfl (by rw [RAct.cl_len hxo]; kernel_rfl)) ?_
      refine ps_c (o_RecordActs 32402 19) 23 #[pT r 0, pT q 0, .agg (RAct.c x)] Try.func23 ((lalike_ok w r q v x _ q57 hxo).mono ?_)
      rintro e V60 ⟨rfl, kV60⟩
      refine ⟨_, rfl, ?_⟩
      have h61 : Both w V60 r q v := q57.keepsN kV60
      have K62 := K58.nn kV60
      have z63 := kV60.size
      refine ps_k (o_RecordActs 32402 20) (.bool false) ?_
      refine ps_k (o_RecordActs 32402 21) (.bool false) ?_
      refine ps_end ?_
      refine sy_a ⟨#[.int .i64 v, .int .i64 win, .int .i64 blk, va, undef, undef, undef, undef, u8, pT r 0, .int .i64 0, pT q 0, .int .i64 0, iN i, u14, va, iN l.length, .bool false, undef, .tuple #[pT r0 0, .int .i64 0], .int .i64 v, .int .i64 win, .int .i64 blk, .tuple #[pT r0 0, .int .i64 0], pT r0 0, .int .i64 0, .tuple #[pT q 0, .int .i64 0], .int .i64 v, .int .i64 win, .int .i64 blk, .tuple #[pT q 0, .int .i64 0], pT q 0, .int .i64 0, .int .i64 0, .int .i64 0, .bool false, .bool false, pT r0 0, .bool false, pT q 0, .bool false, .bool false, .bool false, pT q 0, .bool true, .bool true, iN i, va, iN l.length, .bool true, .bool true, u51, u52, va, iN i, pT b_x (o_x + i * 76), pT b_x (o_x + i * 76 + 0), .int .i64 x.k, .bool false, u59, u60, u61, u62, u63, u64, u65, u66, u67, u68, u69, u70, u71, u72, u73, u74, u75, pT r 0, .bool false, .bool false, pT r 0, pT q 0, va, iN i, pT b_x (o_x + i * 76), .agg (RAct.c x), .bool true, .bool false, .bool false, .bool false, pT r 0, pT q 0, va, iN i, pT b_x (o_x + i * 76), .agg (RAct.c x), .bool true, .bool false, .bool false, undef], []⟩ ?_
      refine then_n ?_
      refine sy_n (.tmp 97) (part_RecordActs 64806) (part_RecordActs 64807) ?_
      refine sy_sk ?_
      refine blk_n ?_
      refine then_n ?_
      refine sy_reg ?_
      refine rg_plain 9 (opsAt (part_RecordActs 4051)) [0, 1, 2] (by kernel_rfl) (by kernel_rfl) ?_
      refine ps_k (o_RecordActs 4051 0) (iN i) ?_
      refine ps_p (o_RecordActs 4051 1) (iN (i + 1)) (exec_cast (congrArg (Value.int .i64) (wrapN (i + 1) (by omega))) (by kernel_rfl)) ?_
      refine ps_k (o_RecordActs 4051 2) (iN (i + 1)) ?_
      refine ps_end ?_
      refine then_n ?_
      refine ⟨⟨i + 1, r, u8, u14, (pT q 0), (.bool true), (.bool true), (iN i), va, (iN l.length), (.bool true), (.bool true), (iN i), (iN (i + 1)), va, (iN i), (pT b_x (o_x + i * 76)), (pT b_x (o_x + i * 76 + 0)), (.int .i64 x.k), (.bool false), u59, u60, u61, u62, u63, u64, u65, u66, u67, u68, u69, u70, u71, u72, u73, u74, u75, (pT r 0), (.bool false), (.bool false), (pT r 0), (pT q 0), va, (iN i), (pT b_x (o_x + i * 76)), (.agg (RAct.c x)), (.bool true), (.bool false), (.bool false), (.bool false), (pT r 0), (pT q 0), va, (iN i), (pT b_x (o_x + i * 76)), (.agg (RAct.c x)), (.bool true), (.bool false), (.bool false), by kernel_rfl, by omega, h61, K62⟩, ?_⟩
      exact lt_meas (x := l.length - (i + 1)) (y := l.length - i) (by kernel_rfl) (by kernel_rfl) (by omega)
    · skip
      refine sy_sq (part_RecordActs 2024) (part_RecordActs 2025) ?_
      refine sy_sq (part_RecordActs 4048) (part_RecordActs 4049) ?_
      refine sy_reg ?_
      refine rg_plain 8 (opsAt (part_RecordActs 4048)) [0, 1, 2, 3, 4, 5, 6, 7] (by kernel_rfl) (by kernel_rfl) ?_
      refine ps_k (o_RecordActs 4048 0) (pT q 0) ?_
      refine ps_k (o_RecordActs 4048 1) (.bool true) ?_
      refine ps_k (o_RecordActs 4048 2) (.bool true) ?_
      refine ps_k (o_RecordActs 4048 3) (iN i) ?_
      refine ps_k (o_RecordActs 4048 4) (va) ?_
      refine ps_p (o_RecordActs 4048 5) (iN l.length) (exec_len_sl (.tmp 47) 46 51 (by kernel_rfl) Try.underlying46 (by kernel_rfl) (Ha.keepsN K21)) ?_
      refine ps_p (o_RecordActs 4048 6) (.bool false) (dcf ((((i : Nat) : Int)) < (((l.length : Nat) : Int))) (by omega)) ?_
      refine ps_k (o_RecordActs 4048 7) (.bool false) ?_
      refine ps_end ?_
      refine then_n ?_
      refine sy_n (.tmp 50) (part_RecordActs 8098) (part_RecordActs 8099) ?_
      refine sy_exit 0 (by kernel_rfl) ?_
      refine then_e ?_
      refine then_e ?_
      refine blk_e ?_
      refine then_n ?_
      refine sy_sq (part_RecordActs 254) (part_RecordActs 255) ?_
      refine sy_reg ?_
      refine rg_plain 18 (opsAt (part_RecordActs 254)) [0, 1] (by kernel_rfl) (by kernel_rfl) ?_
      refine ps_c (o_RecordActs 254 0) 19 #[] Try.func19 ((lrawake_ok _).mono ?_)
      rintro e V64 ⟨rfl, kV64⟩
      refine ⟨_, rfl, ?_⟩
      have h65 : Both w V64 r q v := h20.keepsN kV64
      have K66 := K21.nn kV64
      have z67 := kV64.size
      refine ps_k (o_RecordActs 254 1) (.bool true) ?_
      refine ps_end ?_
      refine then_n ?_
      refine sy_ret (by kernel_rfl) ?_
      refine sy_out (.bool true) rfl (by kernel_rfl) ?_
      exact ⟨rfl, K66⟩
theorem recordActs_ok (v win blk : Int) (va : Value) (l : List RAct) (w : World) (H : Sl w 76 RAct.cl va l ∧ ∀ x ∈ l, x.Ok) : Calls Try.prog 4 #[.int .i64 v, .int .i64 win, .int .i64 blk, va] w (fun e w' => e = .returned (.bool true) ∧ Keeps Nob w w') := by
  by_cases hl : 80 < l.length
  · exact recordActs_long v win blk va l w H.1 H.2 hl
  · by_cases hn : newOk v win blk
    · exact recordActs_fine v win blk va l w H.1 H.2 hl hn
    · exact recordActs_bad v win blk va l w H.1 H.2 hl hn
theorem recordActs_law (v : Int) (_ : i64b v) (win : Int) (_ : i64b win) (blk : Int) (_ : i64b blk) (va : Value) (l : List RAct) (w : World) (H : Sl w 76 RAct.cl va l ∧ ∀ x ∈ l, x.Ok) : Calls Try.prog 4 #[.int .i64 v, .int .i64 win, .int .i64 blk, va] w (fun e w' => e = .returned (.bool true) ∧ Keeps Nob w w') := recordActs_ok v win blk va l w H
end Go.Proofs.Ytgipooedgbbliaa
