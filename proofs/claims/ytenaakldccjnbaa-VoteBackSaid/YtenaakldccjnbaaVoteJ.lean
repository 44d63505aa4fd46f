/-
  Votes: which double, the program's (printed by vote5.py). Conditions: none.
-/
import Derived.Test.YtenaakldccjnbaaVoteH
import Derived.Test.YtenaakldccjnbaaArr
namespace Go.Proofs.Ytenaakldccjnbaa
open Go Go.RowKit Go.Own Go.Shelf
def doub (a b : Att) : Bool := decide (a.fine ∧ b.fine ∧ a.v = b.v ∧ a.t = b.t ∧ ¬ a.dig = b.dig)
def doubP (a b : Pro) : Bool := decide (a.fine ∧ b.fine ∧ a.v = b.v ∧ a.h = b.h ∧ ¬ a.dig = b.dig)
theorem ne_dec (l m : List UInt8) : (!(l == m)) = decide (¬ l = m) := by by_cases h : l = m <;> simp [h]
theorem hash_guard : Try.prog.eqGuardType Try.prog.depth 26 = false := by kernel_rfl
theorem hash_eq (l m : List UInt8) (hl : l.length = 32) (hm : m.length = 32) (w : World) : (binOp .eql 26 (.agg (B l).toArray) (.agg (B m).toArray)).run Try.prog w = .ok (.bool (l == m)) w := by
  obtain ⟨i0, hi, _, _, _⟩ := info_parts u8_info0
  have h := run_equalIn_bytes (P := Try.prog) (t := 26) (e := 5) (n := 32) Try.underlying26 hi (by kernel_rfl) Try.underlying5 (by kernel_rfl) 9998 l m w hl hm
  rw [run_eql_struct, h]; rfl
theorem hash_ne (l m : List UInt8) (hl : l.length = 32) (hm : m.length = 32) (w : World) : (binOp .neq 26 (.agg (B l).toArray) (.agg (B m).toArray)).run Try.prog w = .ok (.bool (!(l == m))) w := by
  obtain ⟨i0, hi, _, _, _⟩ := info_parts u8_info0
  have h := run_equalIn_bytes (P := Try.prog) (t := 26) (e := 5) (n := 32) Try.underlying26 hi (by kernel_rfl) Try.underlying5 (by kernel_rfl) 9998 l m w hl hm
  rw [run_neq_struct, h]; rfl

def Att.dg (a : Att) : List UInt8 := if a.fine then a.dig else zhash
def Pro.dg (a : Pro) : List UInt8 := if a.fine then a.dig else zhash
theorem Att.dg_len (a : Att) : a.dg.length = 32 := by unfold Att.dg; split; exact a.dig_len; exact zhash_len
theorem Pro.dg_len (a : Pro) : a.dg.length = 32 := by unfold Pro.dg; split; exact a.dig_len; exact zhash_len
theorem vDigest_any (a : Att) (w : World) (ha : a.Ok) : Calls Try.prog 26 #[.agg (Att.c a)] w fun e w' => e = .returned (.tuple #[.agg (B a.dg).toArray, .int .i64 a.err]) ∧ Keeps Nob w w' := by
  by_cases hf : a.fine
  · rw [Att.err_ok hf, Att.dg, if_pos hf]; exact vDigest_ok a w ha hf
  · rw [Att.err_no hf, Att.dg, if_neg hf]; exact vDigest_bad a w ha hf
noncomputable def part_vDoubles (n : Nat) : Code := partOf Try.f30 n
noncomputable abbrev o_vDoubles (n k : Nat) : Oper := (opsAt (part_vDoubles n)).getD k default
set_option maxRecDepth 100000 in
set_option maxHeartbeats 4000000 in
theorem vDoubles_ok (a b : Att) (w : World) (ha : a.Ok) (hb : b.Ok) :
    Calls Try.prog 30 #[.agg (Att.c a), .agg (Att.c b)] w (fun e w' => e = .returned (.bool (doub a b)) ∧ Keeps Nob w w') := by
  have hr := ha.r
  have hs := hb.r
  have K0 : Keeps Nob w w := Keeps.refl _ _
  refine sy_enter (part_vDoubles 1) ⟨#[.agg (Att.c a), .agg (Att.c b), undef, undef, undef, undef, undef, undef, undef, undef, undef, undef, undef, undef, undef, undef, undef, undef, undef, undef, undef, undef, undef, undef, undef, undef, undef, undef, undef, undef, undef, undef, undef, undef, undef, undef, undef, undef, undef, undef, undef, undef, undef, undef], []⟩ Try.func30 (by kernel_rfl) (by kernel_rfl) ?_
  refine sy_sq (part_vDoubles 2) (part_vDoubles 3) ?_
  refine sy_reg ?_
  refine rg_plain 0 (opsAt (part_vDoubles 2)) [0, 1, 2] (by kernel_rfl) (by kernel_rfl) ?_
  obtain ⟨V1, eV1, ga, ega, h2, kV1⟩ := alloc_step w ((Att.c a)) 29
  have n3 : w.heap.size ≤ ga := ega ▸ K0.size
  refine ps_r (o_vDoubles 2 0) (pT ga 0) (w' := V1) (by rw [← eV1, ← ega]; exact exec_box 29 (.tmp 0) (by kernel_rfl) (.agg (Att.c a)) (by kernel_rfl)) ?_
  clear eV1
  have K4 := K0.nn kV1
  have z5 := kV1.size
  obtain ⟨V6, eV6, gb, egb, h7, kV6⟩ := alloc_step V1 ((Att.c b)) 29
  have n8 : ga < gb := egb ▸ lt_of_block h2
  have n9 : w.heap.size ≤ gb := egb ▸ K4.size
  refine ps_r (o_vDoubles 2 1) (pT gb 0) (w' := V6) (by rw [← eV6, ← egb]; exact exec_box 29 (.tmp 1) (by kernel_rfl) (.agg (Att.c b)) (by kernel_rfl)) ?_
  clear eV6
  have h10 := kV6.bk h2
  have K11 := K4.nn kV6
  have z12 := kV6.size
  refine ps_k (o_vDoubles 2 2) (.bool false) ?_
  refine ps_end ?_
  refine then_n ?_
  refine sy_sq (part_vDoubles 6) (part_vDoubles 7) ?_
  refine sy_reg ?_
  refine rg_plain 1 (opsAt (part_vDoubles 6)) [0, 1, 2, 3, 4, 5, 6, 7] (by kernel_rfl) (by kernel_rfl) ?_
  refine ps_p (o_vDoubles 6 0) (.agg (Att.c a)) (exec_load_row 29 (.tmp 2) (by kernel_rfl) ga (by kernel_rfl) _ _ (0, 0) _ (h10) Try.underlying29 rfl (by rw [Att.c_size _ hr]; kernel_rfl)) ?_
  refine ps_c (o_vDoubles 6 1) 26 #[.agg (Att.c a)] Try.func26 ((vDigest_any a _ ha).mono ?_)
  rintro e V13 ⟨rfl, kV13⟩
  refine ⟨_, rfl, ?_⟩
  have h14 := kV13.bk h10
  have h15 := kV13.bk h7
  have K16 := K11.nn kV13
  have z17 := kV13.size
  refine ps_k (o_vDoubles 6 2) (.tuple #[.agg (B a.dg).toArray, .int .i64 a.err]) ?_
  refine ps_k (o_vDoubles 6 3) (.agg (B a.dg).toArray) ?_
  refine ps_k (o_vDoubles 6 4) (.int .i64 a.err) ?_
  obtain ⟨V18, eV18, gx, egx, h19, kV18⟩ := alloc_step V13 (zr_u8_32) 26
  have n20 : ga < gx := egx ▸ lt_of_block h14
  have n21 : gb < gx := egx ▸ lt_of_block h15
  have n22 : w.heap.size ≤ gx := egx ▸ K16.size
  refine ps_r (o_vDoubles 6 5) (pT gx 0) (w' := V18) (by rw [← eV18, ← egx]; exact exec_alloc0 26 (by kernel_rfl) (.agg (zr_u8_32)) (by kernel_rfl)) ?_
  clear eV18
  have h23 := kV18.bk h14
  have h24 := kV18.bk h15
  have K25 := K16.nn kV18
  have z26 := kV18.size
  obtain ⟨V27, eV27, kV27⟩ := rowset_step V18 gx ((B a.dg).toArray)
  have h28 : V27.heap[gx]? = some (.cells ((B a.dg).toArray) 26 (0, 0)) := eV27 ▸ setRow_heap _ _ _ _ _ _ h19
  refine ps_s (o_vDoubles 6 6) (w' := V27) (by rw [← eV27]; exact exec_store_row 26 (.tmp 5) (.tmp 12) (by kernel_rfl) gx ((B a.dg).toArray) (by kernel_rfl) (by kernel_rfl) 26 (zr_u8_32) h19 (by rw [Bz_size, Att.dg_len]; kernel_rfl) (by rw [Bz_size, Att.dg_len]; rfl) (by rw [List.all_toArray]; exact List.all_eq_true.2 (B_one _))) ?_
  clear eV27
  have h29 := kV27.bo h23 (by omega)
  have h30 := kV27.bo h24 (by omega)
  have K31 := K25.no kV27 (by omega)
  have z32 := kV27.size
  refine ps_k (o_vDoubles 6 7) (.int .i64 a.err) ?_
  refine ps_end ?_
  refine then_n ?_
  refine sy_sq (part_vDoubles 14) (part_vDoubles 15) ?_
  refine sy_reg ?_
  refine rg_plain 2 (opsAt (part_vDoubles 14)) [0, 1, 2, 3, 4, 5, 6, 7] (by kernel_rfl) (by kernel_rfl) ?_
  refine ps_p (o_vDoubles 14 0) (.agg (Att.c b)) (exec_load_row 29 (.tmp 3) (by kernel_rfl) gb (by kernel_rfl) _ _ (0, 0) _ (h30) Try.underlying29 rfl (by rw [Att.c_size _ hs]; kernel_rfl)) ?_
  refine ps_c (o_vDoubles 14 1) 26 #[.agg (Att.c b)] Try.func26 ((vDigest_any b _ hb).mono ?_)
  rintro e V33 ⟨rfl, kV33⟩
  refine ⟨_, rfl, ?_⟩
  have h34 := kV33.bk h29
  have h35 := kV33.bk h30
  have h36 := kV33.bk h28
  have K37 := K31.nn kV33
  have z38 := kV33.size
  refine ps_k (o_vDoubles 14 2) (.tuple #[.agg (B b.dg).toArray, .int .i64 b.err]) ?_
  refine ps_k (o_vDoubles 14 3) (.agg (B b.dg).toArray) ?_
  refine ps_k (o_vDoubles 14 4) (.int .i64 b.err) ?_
  obtain ⟨V39, eV39, gy, egy, h40, kV39⟩ := alloc_step V33 (zr_u8_32) 26
  have n41 : ga < gy := egy ▸ lt_of_block h34
  have n42 : gb < gy := egy ▸ lt_of_block h35
  have n43 : gx < gy := egy ▸ lt_of_block h36
  have n44 : w.heap.size ≤ gy := egy ▸ K37.size
  refine ps_r (o_vDoubles 14 5) (pT gy 0) (w' := V39) (by rw [← eV39, ← egy]; exact exec_alloc0 26 (by kernel_rfl) (.agg (zr_u8_32)) (by kernel_rfl)) ?_
  clear eV39
  have h45 := kV39.bk h34
  have h46 := kV39.bk h35
  have h47 := kV39.bk h36
  have K48 := K37.nn kV39
  have z49 := kV39.size
  obtain ⟨V50, eV50, kV50⟩ := rowset_step V39 gy ((B b.dg).toArray)
  have h51 : V50.heap[gy]? = some (.cells ((B b.dg).toArray) 26 (0, 0)) := eV50 ▸ setRow_heap _ _ _ _ _ _ h40
  refine ps_s (o_vDoubles 14 6) (w' := V50) (by rw [← eV50]; exact exec_store_row 26 (.tmp 7) (.tmp 17) (by kernel_rfl) gy ((B b.dg).toArray) (by kernel_rfl) (by kernel_rfl) 26 (zr_u8_32) h40 (by rw [Bz_size, Att.dg_len]; kernel_rfl) (by rw [Bz_size, Att.dg_len]; rfl) (by rw [List.all_toArray]; exact List.all_eq_true.2 (B_one _))) ?_
  clear eV50
  have h52 := kV50.bo h45 (by omega)
  have h53 := kV50.bo h46 (by omega)
  have h54 := kV50.bo h47 (by omega)
  have K55 := K48.no kV50 (by omega)
  have z56 := kV50.size
  refine ps_k (o_vDoubles 14 7) (.int .i64 b.err) ?_
  refine ps_end ?_
  refine then_n ?_
  refine sy_sq (part_vDoubles 30) (part_vDoubles 31) ?_
  refine sy_reg ?_
  refine rg_plain 3 (opsAt (part_vDoubles 30)) [0, 1, 2, 3, 4, 5, 6, 7, 8, 9, 10, 11, 12, 13, 14, 15, 16, 17, 18, 19, 20, 21, 22, 23, 24, 25] (by kernel_rfl) (by kernel_rfl) ?_
  refine ps_k (o_vDoubles 30 0) (.int .i64 a.err) ?_
  by_cases c0 : a.fine
  · have e0 := Att.err_ok c0
    refine ps_p (o_vDoubles 30 1) (.bool true) (eqt ((a.err) : Int) ((0) : Int) (by omega)) ?_
    refine ps_k (o_vDoubles 30 2) (.bool true) ?_
    refine ps_k (o_vDoubles 30 3) (.int .i64 b.err) ?_
    by_cases c1 : b.fine
    · have e1 := Att.err_ok c1
      refine ps_p (o_vDoubles 30 4) (.bool true) (eqt ((b.err) : Int) ((0) : Int) (by omega)) ?_
      refine ps_k (o_vDoubles 30 5) (.bool true) ?_
      refine ps_k (o_vDoubles 30 6) (.bool true) ?_
      refine ps_k (o_vDoubles 30 7) (pT ga 0) ?_
      refine ps_p (o_vDoubles 30 8) (.int .i64 a.v) (exec_ld 3 (.tmp 26) ga 0 Try.underlying3 (rc (h52) (Att.c_0 _))) ?_
      refine ps_k (o_vDoubles 30 9) (pT gb 0) ?_
      refine ps_p (o_vDoubles 30 10) (.int .i64 b.v) (exec_ld 3 (.tmp 28) gb 0 Try.underlying3 (rc (h53) (Att.c_0 _))) ?_
      by_cases c2 : a.v = b.v
      · have e2 := c2
        refine ps_p (o_vDoubles 30 11) (.bool true) (eqt ((a.v) : Int) ((b.v) : Int) (by omega)) ?_
        refine ps_k (o_vDoubles 30 12) (.bool true) ?_
        refine ps_k (o_vDoubles 30 13) (.bool true) ?_
        refine ps_k (o_vDoubles 30 14) (pT ga 2) ?_
        refine ps_p (o_vDoubles 30 15) (.int .i64 a.t) (exec_ld 3 (.tmp 33) ga 2 Try.underlying3 (rc (h52) (Att.c_2 _))) ?_
        refine ps_k (o_vDoubles 30 16) (pT gb 2) ?_
        refine ps_p (o_vDoubles 30 17) (.int .i64 b.t) (exec_ld 3 (.tmp 35) gb 2 Try.underlying3 (rc (h53) (Att.c_2 _))) ?_
        by_cases c3 : a.t = b.t
        · have e3 := c3
          refine ps_p (o_vDoubles 30 18) (.bool true) (eqt ((a.t) : Int) ((b.t) : Int) (by omega)) ?_
          refine ps_k (o_vDoubles 30 19) (.bool true) ?_
          refine ps_k (o_vDoubles 30 20) (.bool true) ?_
          refine ps_p (o_vDoubles 30 21) (.agg ((B a.dg).toArray)) (exec_load_row 26 (.tmp 5) (by kernel_rfl) gx (by kernel_rfl) _ _ (0, 0) _ (h54) Try.underlying26 rfl (by rw [Bz_size, (Att.dg_len a)]; kernel_rfl)) ?_
          refine ps_p (o_vDoubles 30 22) (.agg ((B b.dg).toArray)) (exec_load_row 26 (.tmp 7) (by kernel_rfl) gy (by kernel_rfl) _ _ (0, 0) _ (h51) Try.underlying26 rfl (by rw [Bz_size, (Att.dg_len b)]; kernel_rfl)) ?_
          refine ps_p (o_vDoubles 30 23) (.bool (!(a.dg == b.dg))) (exec_binop .neq 26 26 (.tmp 40) (.tmp 41) (by kernel_rfl) (.agg (B a.dg).toArray) (.agg (B b.dg).toArray) _ (by kernel_rfl) (by kernel_rfl) (run_eqGuard_agg _ _ _ _ _ _ _ hash_guard) (hash_ne _ _ (Att.dg_len a) (Att.dg_len b) _)) ?_
          refine ps_k (o_vDoubles 30 24) (.bool (!(a.dg == b.dg))) ?_
          refine ps_k (o_vDoubles 30 25) (.bool (!(a.dg == b.dg))) ?_
          refine ps_end ?_
          refine sy_a ⟨#[.agg (Att.c a), .agg (Att.c b), pT ga 0, pT gb 0, .bool (!(a.dg == b.dg)), pT gx 0, .int .i64 a.err, pT gy 0, .int .i64 b.err, .tuple #[.agg (B a.dg).toArray, .int .i64 a.err], .agg (Att.c a), .tuple #[.agg (B a.dg).toArray, .int .i64 a.err], .agg (B a.dg).toArray, .int .i64 a.err, .tuple #[.agg (B b.dg).toArray, .int .i64 b.err], .agg (Att.c b), .tuple #[.agg (B b.dg).toArray, .int .i64 b.err], .agg (B b.dg).toArray, .int .i64 b.err, .int .i64 a.err, .bool true, .bool true, .int .i64 b.err, .bool true, .bool true, .bool true, pT ga 0, .int .i64 a.v, pT gb 0, .int .i64 b.v, .bool true, .bool true, .bool true, pT ga 2, .int .i64 a.t, pT gb 2, .int .i64 b.t, .bool true, .bool true, .bool true, .agg ((B a.dg).toArray), .agg ((B b.dg).toArray), .bool (!(a.dg == b.dg)), .bool (!(a.dg == b.dg))], []⟩ ?_
          refine then_n ?_
          refine sy_ret (by kernel_rfl) ?_
          refine sy_out (.bool (!(a.dg == b.dg))) rfl (by kernel_rfl) ?_
          exact ⟨by rw [ne_dec, Att.dg, Att.dg, if_pos c0, if_pos c1]; unfold doub; simp [c0, c1, c2, c3], K55⟩
        · have e3 := c3
          refine ps_p (o_vDoubles 30 18) (.bool false) (eqf ((a.t) : Int) ((b.t) : Int) (by omega)) ?_
          refine ps_k (o_vDoubles 30 19) (.bool false) ?_
          refine ps_k (o_vDoubles 30 20) (.bool false) ?_
          refine ps_n (o_vDoubles 30 21) ?_
          refine ps_n (o_vDoubles 30 22) ?_
          refine ps_n (o_vDoubles 30 23) ?_
          refine ps_k (o_vDoubles 30 24) (.bool false) ?_
          refine ps_k (o_vDoubles 30 25) (.bool false) ?_
          refine ps_end ?_
          refine sy_a ⟨#[.agg (Att.c a), .agg (Att.c b), pT ga 0, pT gb 0, .bool false, pT gx 0, .int .i64 a.err, pT gy 0, .int .i64 b.err, .tuple #[.agg (B a.dg).toArray, .int .i64 a.err], .agg (Att.c a), .tuple #[.agg (B a.dg).toArray, .int .i64 a.err], .agg (B a.dg).toArray, .int .i64 a.err, .tuple #[.agg (B b.dg).toArray, .int .i64 b.err], .agg (Att.c b), .tuple #[.agg (B b.dg).toArray, .int .i64 b.err], .agg (B b.dg).toArray, .int .i64 b.err, .int .i64 a.err, .bool true, .bool true, .int .i64 b.err, .bool true, .bool true, .bool true, pT ga 0, .int .i64 a.v, pT gb 0, .int .i64 b.v, .bool true, .bool true, .bool true, pT ga 2, .int .i64 a.t, pT gb 2, .int .i64 b.t, .bool false, .bool false, .bool false, undef, undef, undef, .bool false], []⟩ ?_
          refine then_n ?_
          refine sy_ret (by kernel_rfl) ?_
          refine sy_out (.bool false) rfl (by kernel_rfl) ?_
          exact ⟨by unfold doub; simp [c0, c1, c2, c3], K55⟩
      · have e2 := c2
        refine ps_p (o_vDoubles 30 11) (.bool false) (eqf ((a.v) : Int) ((b.v) : Int) (by omega)) ?_
        refine ps_k (o_vDoubles 30 12) (.bool false) ?_
        refine ps_k (o_vDoubles 30 13) (.bool false) ?_
        refine ps_n (o_vDoubles 30 14) ?_
        refine ps_n (o_vDoubles 30 15) ?_
        refine ps_n (o_vDoubles 30 16) ?_
        refine ps_n (o_vDoubles 30 17) ?_
        refine ps_n (o_vDoubles 30 18) ?_
        refine ps_k (o_vDoubles 30 19) (.bool false) ?_
        refine ps_k (o_vDoubles 30 20) (.bool false) ?_
        refine ps_n (o_vDoubles 30 21) ?_
        refine ps_n (o_vDoubles 30 22) ?_
        refine ps_n (o_vDoubles 30 23) ?_
        refine ps_k (o_vDoubles 30 24) (.bool false) ?_
        refine ps_k (o_vDoubles 30 25) (.bool false) ?_
        refine ps_end ?_
        refine sy_a ⟨#[.agg (Att.c a), .agg (Att.c b), pT ga 0, pT gb 0, .bool false, pT gx 0, .int .i64 a.err, pT gy 0, .int .i64 b.err, .tuple #[.agg (B a.dg).toArray, .int .i64 a.err], .agg (Att.c a), .tuple #[.agg (B a.dg).toArray, .int .i64 a.err], .agg (B a.dg).toArray, .int .i64 a.err, .tuple #[.agg (B b.dg).toArray, .int .i64 b.err], .agg (Att.c b), .tuple #[.agg (B b.dg).toArray, .int .i64 b.err], .agg (B b.dg).toArray, .int .i64 b.err, .int .i64 a.err, .bool true, .bool true, .int .i64 b.err, .bool true, .bool true, .bool true, pT ga 0, .int .i64 a.v, pT gb 0, .int .i64 b.v, .bool false, .bool false, .bool false, undef, undef, undef, undef, undef, .bool false, .bool false, undef, undef, undef, .bool false], []⟩ ?_
        refine then_n ?_
        refine sy_ret (by kernel_rfl) ?_
        refine sy_out (.bool false) rfl (by kernel_rfl) ?_
        exact ⟨by unfold doub; simp [c0, c1, c2], K55⟩
    · have e1 := Att.err_no c1
      refine ps_p (o_vDoubles 30 4) (.bool false) (eqf ((b.err) : Int) ((0) : Int) (by omega)) ?_
      refine ps_k (o_vDoubles 30 5) (.bool false) ?_
      refine ps_k (o_vDoubles 30 6) (.bool false) ?_
      refine ps_n (o_vDoubles 30 7) ?_
      refine ps_n (o_vDoubles 30 8) ?_
      refine ps_n (o_vDoubles 30 9) ?_
      refine ps_n (o_vDoubles 30 10) ?_
      refine ps_n (o_vDoubles 30 11) ?_
      refine ps_k (o_vDoubles 30 12) (.bool false) ?_
      refine ps_k (o_vDoubles 30 13) (.bool false) ?_
      refine ps_n (o_vDoubles 30 14) ?_
      refine ps_n (o_vDoubles 30 15) ?_
      refine ps_n (o_vDoubles 30 16) ?_
      refine ps_n (o_vDoubles 30 17) ?_
      refine ps_n (o_vDoubles 30 18) ?_
      refine ps_k (o_vDoubles 30 19) (.bool false) ?_
      refine ps_k (o_vDoubles 30 20) (.bool false) ?_
      refine ps_n (o_vDoubles 30 21) ?_
      refine ps_n (o_vDoubles 30 22) ?_
      refine ps_n (o_vDoubles 30 23) ?_
      refine ps_k (o_vDoubles 30 24) (.bool false) ?_
      refine ps_k (o_vDoubles 30 25) (.bool false) ?_
      refine ps_end ?_
      refine sy_a ⟨#[.agg (Att.c a), .agg (Att.c b), pT ga 0, pT gb 0, .bool false, pT gx 0, .int .i64 a.err, pT gy 0, .int .i64 b.err, .tuple #[.agg (B a.dg).toArray, .int .i64 a.err], .agg (Att.c a), .tuple #[.agg (B a.dg).toArray, .int .i64 a.err], .agg (B a.dg).toArray, .int .i64 a.err, .tuple #[.agg (B b.dg).toArray, .int .i64 b.err], .agg (Att.c b), .tuple #[.agg (B b.dg).toArray, .int .i64 b.err], .agg (B b.dg).toArray, .int .i64 b.err, .int .i64 a.err, .bool true, .bool true, .int .i64 b.err, .bool false, .bool false, .bool false, undef, undef, undef, undef, undef, .bool false, .bool false, undef, undef, undef, undef, undef, .bool false, .bool false, undef, undef, undef, .bool false], []⟩ ?_
      refine then_n ?_
      refine sy_ret (by kernel_rfl) ?_
      refine sy_out (.bool false) rfl (by kernel_rfl) ?_
      exact ⟨by unfold doub; simp [c0, c1], K55⟩
  · have e0 := Att.err_no c0
    refine ps_p (o_vDoubles 30 1) (.bool false) (eqf ((a.err) : Int) ((0) : Int) (by omega)) ?_
    refine ps_k (o_vDoubles 30 2) (.bool false) ?_
    refine ps_n (o_vDoubles 30 3) ?_
    refine ps_n (o_vDoubles 30 4) ?_
    refine ps_k (o_vDoubles 30 5) (.bool false) ?_
    refine ps_k (o_vDoubles 30 6) (.bool false) ?_
    refine ps_n (o_vDoubles 30 7) ?_
    refine ps_n (o_vDoubles 30 8) ?_
    refine ps_n (o_vDoubles 30 9) ?_
    refine ps_n (o_vDoubles 30 10) ?_
    refine ps_n (o_vDoubles 30 11) ?_
    refine ps_k (o_vDoubles 30 12) (.bool false) ?_
    refine ps_k (o_vDoubles 30 13) (.bool false) ?_
    refine ps_n (o_vDoubles 30 14) ?_
    refine ps_n (o_vDoubles 30 15) ?_
    refine ps_n (o_vDoubles 30 16) ?_
    refine ps_n (o_vDoubles 30 17) ?_
    refine ps_n (o_vDoubles 30 18) ?_
    refine ps_k (o_vDoubles 30 19) (.bool false) ?_
    refine ps_k (o_vDoubles 30 20) (.bool false) ?_
    refine ps_n (o_vDoubles 30 21) ?_
    refine ps_n (o_vDoubles 30 22) ?_
    refine ps_n (o_vDoubles 30 23) ?_
    refine ps_k (o_vDoubles 30 24) (.bool false) ?_
    refine ps_k (o_vDoubles 30 25) (.bool false) ?_
    refine ps_end ?_
    refine sy_a ⟨#[.agg (Att.c a), .agg (Att.c b), pT ga 0, pT gb 0, .bool false, pT gx 0, .int .i64 a.err, pT gy 0, .int .i64 b.err, .tuple #[.agg (B a.dg).toArray, .int .i64 a.err], .agg (Att.c a), .tuple #[.agg (B a.dg).toArray, .int .i64 a.err], .agg (B a.dg).toArray, .int .i64 a.err, .tuple #[.agg (B b.dg).toArray, .int .i64 b.err], .agg (Att.c b), .tuple #[.agg (B b.dg).toArray, .int .i64 b.err], .agg (B b.dg).toArray, .int .i64 b.err, .int .i64 a.err, .bool false, .bool false, undef, undef, .bool false, .bool false, undef, undef, undef, undef, undef, .bool false, .bool false, undef, undef, undef, undef, undef, .bool false, .bool false, undef, undef, undef, .bool false], []⟩ ?_
    refine then_n ?_
    refine sy_ret (by kernel_rfl) ?_
    refine sy_out (.bool false) rfl (by kernel_rfl) ?_
    exact ⟨by unfold doub; simp [c0], K55⟩
theorem vDigestBlock_any (a : Pro) (w : World) (ha : a.Ok) : Calls Try.prog 28 #[.agg (Pro.c a)] w fun e w' => e = .returned (.tuple #[.agg (B a.dg).toArray, .int .i64 a.err]) ∧ Keeps Nob w w' := by
  by_cases hf : a.fine
  · rw [Pro.err_ok hf, Pro.dg, if_pos hf]; exact vDigestBlock_ok a w ha hf
  · rw [Pro.err_no hf, Pro.dg, if_neg hf]; exact vDigestBlock_bad a w ha hf
noncomputable def part_vDoublesBlock (n : Nat) : Code := partOf Try.f34 n
noncomputable abbrev o_vDoublesBlock (n k : Nat) : Oper := (opsAt (part_vDoublesBlock n)).getD k default
set_option maxRecDepth 100000 in
set_option maxHeartbeats 4000000 in
theorem vDoublesBlock_ok (a b : Pro) (w : World) (ha : a.Ok) (hb : b.Ok) :
    Calls Try.prog 34 #[.agg (Pro.c a), .agg (Pro.c b)] w (fun e w' => e = .returned (.bool (doubP a b)) ∧ Keeps Nob w w') := by
  have hr := ha.r
  have hs := hb.r
  have K0 : Keeps Nob w w := Keeps.refl _ _
  refine sy_enter (part_vDoublesBlock 1) ⟨#[.agg (Pro.c a), .agg (Pro.c b), undef, undef, undef, undef, undef, undef, undef, undef, undef, undef, undef, undef, undef, undef, undef, undef, undef, undef, undef, undef, undef, undef, undef, undef, undef, undef, undef, undef, undef, undef, undef, undef, undef, undef, undef, undef, undef, undef, undef, undef, undef, undef], []⟩ Try.func34 (by kernel_rfl) (by kernel_rfl) ?_
  refine sy_sq (part_vDoublesBlock 2) (part_vDoublesBlock 3) ?_
  refine sy_reg ?_
  refine rg_plain 0 (opsAt (part_vDoublesBlock 2)) [0, 1, 2] (by kernel_rfl) (by kernel_rfl) ?_
  obtain ⟨V1, eV1, ga, ega, h2, kV1⟩ := alloc_step w ((Pro.c a)) 36
  have n3 : w.heap.size ≤ ga := ega ▸ K0.size
  refine ps_r (o_vDoublesBlock 2 0) (pT ga 0) (w' := V1) (by rw [← eV1, ← ega]; exact exec_box 36 (.tmp 0) (by kernel_rfl) (.agg (Pro.c a)) (by kernel_rfl)) ?_
  clear eV1
  have K4 := K0.nn kV1
  have z5 := kV1.size
  obtain ⟨V6, eV6, gb, egb, h7, kV6⟩ := alloc_step V1 ((Pro.c b)) 36
  have n8 : ga < gb := egb ▸ lt_of_block h2
  have n9 : w.heap.size ≤ gb := egb ▸ K4.size
  refine ps_r (o_vDoublesBlock 2 1) (pT gb 0) (w' := V6) (by rw [← eV6, ← egb]; exact exec_box 36 (.tmp 1) (by kernel_rfl) (.agg (Pro.c b)) (by kernel_rfl)) ?_
  clear eV6
  have h10 := kV6.bk h2
  have K11 := K4.nn kV6
  have z12 := kV6.size
  refine ps_k (o_vDoublesBlock 2 2) (.bool false) ?_
  refine ps_end ?_
  refine then_n ?_
  refine sy_sq (part_vDoublesBlock 6) (part_vDoublesBlock 7) ?_
  refine sy_reg ?_
  refine rg_plain 1 (opsAt (part_vDoublesBlock 6)) [0, 1, 2, 3, 4, 5, 6, 7] (by kernel_rfl) (by kernel_rfl) ?_
  refine ps_p (o_vDoublesBlock 6 0) (.agg (Pro.c a)) (exec_load_row 36 (.tmp 2) (by kernel_rfl) ga (by kernel_rfl) _ _ (0, 0) _ (h10) Try.underlying36 rfl (by rw [Pro.c_size _ hr]; kernel_rfl)) ?_
  refine ps_c (o_vDoublesBlock 6 1) 28 #[.agg (Pro.c a)] Try.func28 ((vDigestBlock_any a _ ha).mono ?_)
  rintro e V13 ⟨rfl, kV13⟩
  refine ⟨_, rfl, ?_⟩
  have h14 := kV13.bk h10
  have h15 := kV13.bk h7
  have K16 := K11.nn kV13
  have z17 := kV13.size
  refine ps_k (o_vDoublesBlock 6 2) (.tuple #[.agg (B a.dg).toArray, .int .i64 a.err]) ?_
  refine ps_k (o_vDoublesBlock 6 3) (.agg (B a.dg).toArray) ?_
  refine ps_k (o_vDoublesBlock 6 4) (.int .i64 a.err) ?_
  obtain ⟨V18, eV18, gx, egx, h19, kV18⟩ := alloc_step V13 (zr_u8_32) 26
  have n20 : ga < gx := egx ▸ lt_of_block h14
  have n21 : gb < gx := egx ▸ lt_of_block h15
  have n22 : w.heap.size ≤ gx := egx ▸ K16.size
  refine ps_r (o_vDoublesBlock 6 5) (pT gx 0) (w' := V18) (by rw [← eV18, ← egx]; exact exec_alloc0 26 (by kernel_rfl) (.agg (zr_u8_32)) (by kernel_rfl)) ?_
  clear eV18
  have h23 := kV18.bk h14
  have h24 := kV18.bk h15
  have K25 := K16.nn kV18
  have z26 := kV18.size
  obtain ⟨V27, eV27, kV27⟩ := rowset_step V18 gx ((B a.dg).toArray)
  have h28 : V27.heap[gx]? = some (.cells ((B a.dg).toArray) 26 (0, 0)) := eV27 ▸ setRow_heap _ _ _ _ _ _ h19
  refine ps_s (o_vDoublesBlock 6 6) (w' := V27) (by rw [← eV27]; exact exec_store_row 26 (.tmp 5) (.tmp 12) (by kernel_rfl) gx ((B a.dg).toArray) (by kernel_rfl) (by kernel_rfl) 26 (zr_u8_32) h19 (by rw [Bz_size, Pro.dg_len]; kernel_rfl) (by rw [Bz_size, Pro.dg_len]; rfl) (by rw [List.all_toArray]; exact List.all_eq_true.2 (B_one _))) ?_
  clear eV27
  have h29 := kV27.bo h23 (by omega)
  have h30 := kV27.bo h24 (by omega)
  have K31 := K25.no kV27 (by omega)
  have z32 := kV27.size
  refine ps_k (o_vDoublesBlock 6 7) (.int .i64 a.err) ?_
  refine ps_end ?_
  refine then_n ?_
  refine sy_sq (part_vDoublesBlock 14) (part_vDoublesBlock 15) ?_
  refine sy_reg ?_
  refine rg_plain 2 (opsAt (part_vDoublesBlock 14)) [0, 1, 2, 3, 4, 5, 6, 7] (by kernel_rfl) (by kernel_rfl) ?_
  refine ps_p (o_vDoublesBlock 14 0) (.agg (Pro.c b)) (exec_load_row 36 (.tmp 3) (by kernel_rfl) gb (by kernel_rfl) _ _ (0, 0) _ (h30) Try.underlying36 rfl (by rw [Pro.c_size _ hs]; kernel_rfl)) ?_
  refine ps_c (o_vDoublesBlock 14 1) 28 #[.agg (Pro.c b)] Try.func28 ((vDigestBlock_any b _ hb).mono ?_)
  rintro e V33 ⟨rfl, kV33⟩
  refine ⟨_, rfl, ?_⟩
  have h34 := kV33.bk h29
  have h35 := kV33.bk h30
  have h36 := kV33.bk h28
  have K37 := K31.nn kV33
  have z38 := kV33.size
  refine ps_k (o_vDoublesBlock 14 2) (.tuple #[.agg (B b.dg).toArray, .int .i64 b.err]) ?_
  refine ps_k (o_vDoublesBlock 14 3) (.agg (B b.dg).toArray) ?_
  refine ps_k (o_vDoublesBlock 14 4) (.int .i64 b.err) ?_
  obtain ⟨V39, eV39, gy, egy, h40, kV39⟩ := alloc_step V33 (zr_u8_32) 26
  have n41 : ga < gy := egy ▸ lt_of_block h34
  have n42 : gb < gy := egy ▸ lt_of_block h35
  have n43 : gx < gy := egy ▸ lt_of_block h36
  have n44 : w.heap.size ≤ gy := egy ▸ K37.size
  refine ps_r (o_vDoublesBlock 14 5) (pT gy 0) (w' := V39) (by rw [← eV39, ← egy]; exact exec_alloc0 26 (by kernel_rfl) (.agg (zr_u8_32)) (by kernel_rfl)) ?_
  clear eV39
  have h45 := kV39.bk h34
  have h46 := kV39.bk h35
  have h47 := kV39.bk h36
  have K48 := K37.nn kV39
  have z49 := kV39.size
  obtain ⟨V50, eV50, kV50⟩ := rowset_step V39 gy ((B b.dg).toArray)
  have h51 : V50.heap[gy]? = some (.cells ((B b.dg).toArray) 26 (0, 0)) := eV50 ▸ setRow_heap _ _ _ _ _ _ h40
  refine ps_s (o_vDoublesBlock 14 6) (w' := V50) (by rw [← eV50]; exact exec_store_row 26 (.tmp 7) (.tmp 17) (by kernel_rfl) gy ((B b.dg).toArray) (by kernel_rfl) (by kernel_rfl) 26 (zr_u8_32) h40 (by rw [Bz_size, Pro.dg_len]; kernel_rfl) (by rw [Bz_size, Pro.dg_len]; rfl) (by rw [List.all_toArray]; exact List.all_eq_true.2 (B_one _))) ?_
  clear eV50
  have h52 := kV50.bo h45 (by omega)
  have h53 := kV50.bo h46 (by omega)
  have h54 := kV50.bo h47 (by omega)
  have K55 := K48.no kV50 (by omega)
  have z56 := kV50.size
  refine ps_k (o_vDoublesBlock 14 7) (.int .i64 b.err) ?_
  refine ps_end ?_
  refine then_n ?_
  refine sy_sq (part_vDoublesBlock 30) (part_vDoublesBlock 31) ?_
  refine sy_reg ?_
  refine rg_plain 3 (opsAt (part_vDoublesBlock 30)) [0, 1, 2, 3, 4, 5, 6, 7, 8, 9, 10, 11, 12, 13, 14, 15, 16, 17, 18, 19, 20, 21, 22, 23, 24, 25] (by kernel_rfl) (by kernel_rfl) ?_
  refine ps_k (o_vDoublesBlock 30 0) (.int .i64 a.err) ?_
  by_cases c0 : a.fine
  · have e0 := Pro.err_ok c0
    refine ps_p (o_vDoublesBlock 30 1) (.bool true) (eqt ((a.err) : Int) ((0) : Int) (by omega)) ?_
    refine ps_k (o_vDoublesBlock 30 2) (.bool true) ?_
    refine ps_k (o_vDoublesBlock 30 3) (.int .i64 b.err) ?_
    by_cases c1 : b.fine
    · have e1 := Pro.err_ok c1
      refine ps_p (o_vDoublesBlock 30 4) (.bool true) (eqt ((b.err) : Int) ((0) : Int) (by omega)) ?_
      refine ps_k (o_vDoublesBlock 30 5) (.bool true) ?_
      refine ps_k (o_vDoublesBlock 30 6) (.bool true) ?_
      refine ps_k (o_vDoublesBlock 30 7) (pT ga 0) ?_
      refine ps_p (o_vDoublesBlock 30 8) (.int .i64 a.v) (exec_ld 3 (.tmp 26) ga 0 Try.underlying3 (rc (h52) (Pro.c_0 _))) ?_
      refine ps_k (o_vDoublesBlock 30 9) (pT gb 0) ?_
      refine ps_p (o_vDoublesBlock 30 10) (.int .i64 b.v) (exec_ld 3 (.tmp 28) gb 0 Try.underlying3 (rc (h53) (Pro.c_0 _))) ?_
      by_cases c2 : a.v = b.v
      · have e2 := c2
        refine ps_p (o_vDoublesBlock 30 11) (.bool true) (eqt ((a.v) : Int) ((b.v) : Int) (by omega)) ?_
        refine ps_k (o_vDoublesBlock 30 12) (.bool true) ?_
        refine ps_k (o_vDoublesBlock 30 13) (.bool true) ?_
        refine ps_k (o_vDoublesBlock 30 14) (pT ga 1) ?_
        refine ps_p (o_vDoublesBlock 30 15) (.int .i64 a.h) (exec_ld 3 (.tmp 33) ga 1 Try.underlying3 (rc (h52) (Pro.c_1 _))) ?_
        refine ps_k (o_vDoublesBlock 30 16) (pT gb 1) ?_
        refine ps_p (o_vDoublesBlock 30 17) (.int .i64 b.h) (exec_ld 3 (.tmp 35) gb 1 Try.underlying3 (rc (h53) (Pro.c_1 _))) ?_
        by_cases c3 : a.h = b.h
        · have e3 := c3
          refine ps_p (o_vDoublesBlock 30 18) (.bool true) (eqt ((a.h) : Int) ((b.h) : Int) (by omega)) ?_
          refine ps_k (o_vDoublesBlock 30 19) (.bool true) ?_
          refine ps_k (o_vDoublesBlock 30 20) (.bool true) ?_
          refine ps_p (o_vDoublesBlock 30 21) (.agg ((B a.dg).toArray)) (exec_load_row 26 (.tmp 5) (by kernel_rfl) gx (by kernel_rfl) _ _ (0, 0) _ (h54) Try.underlying26 rfl (by rw [Bz_size, (Pro.dg_len a)]; kernel_rfl)) ?_
          refine ps_p (o_vDoublesBlock 30 22) (.agg ((B b.dg).toArray)) (exec_load_row 26 (.tmp 7) (by kernel_rfl) gy (by kernel_rfl) _ _ (0, 0) _ (h51) Try.underlying26 rfl (by rw [Bz_size, (Pro.dg_len b)]; kernel_rfl)) ?_
          refine ps_p (o_vDoublesBlock 30 23) (.bool (!(a.dg == b.dg))) (exec_binop .neq 26 26 (.tmp 40) (.tmp 41) (by kernel_rfl) (.agg (B a.dg).toArray) (.agg (B b.dg).toArray) _ (by kernel_rfl) (by kernel_rfl) (run_eqGuard_agg _ _ _ _ _ _ _ hash_guard) (hash_ne _ _ (Pro.dg_len a) (Pro.dg_len b) _)) ?_
          refine ps_k (o_vDoublesBlock 30 24) (.bool (!(a.dg == b.dg))) ?_
          refine ps_k (o_vDoublesBlock 30 25) (.bool (!(a.dg == b.dg))) ?_
          refine ps_end ?_
          refine sy_a ⟨#[.agg (Pro.c a), .agg (Pro.c b), pT ga 0, pT gb 0, .bool (!(a.dg == b.dg)), pT gx 0, .int .i64 a.err, pT gy 0, .int .i64 b.err, .tuple #[.agg (B a.dg).toArray, .int .i64 a.err], .agg (Pro.c a), .tuple #[.agg (B a.dg).toArray, .int .i64 a.err], .agg (B a.dg).toArray, .int .i64 a.err, .tuple #[.agg (B b.dg).toArray, .int .i64 b.err], .agg (Pro.c b), .tuple #[.agg (B b.dg).toArray, .int .i64 b.err], .agg (B b.dg).toArray, .int .i64 b.err, .int .i64 a.err, .bool true, .bool true, .int .i64 b.err, .bool true, .bool true, .bool true, pT ga 0, .int .i64 a.v, pT gb 0, .int .i64 b.v, .bool true, .bool true, .bool true, pT ga 1, .int .i64 a.h, pT gb 1, .int .i64 b.h, .bool true, .bool true, .bool true, .agg ((B a.dg).toArray), .agg ((B b.dg).toArray), .bool (!(a.dg == b.dg)), .bool (!(a.dg == b.dg))], []⟩ ?_
          refine then_n ?_
          refine sy_ret (by kernel_rfl) ?_
          refine sy_out (.bool (!(a.dg == b.dg))) rfl (by kernel_rfl) ?_
          exact ⟨by rw [ne_dec, Pro.dg, Pro.dg, if_pos c0, if_pos c1]; unfold doubP; simp [c0, c1, c2, c3], K55⟩
        · have e3 := c3
          refine ps_p (o_vDoublesBlock 30 18) (.bool false) (eqf ((a.h) : Int) ((b.h) : Int) (by omega)) ?_
          refine ps_k (o_vDoublesBlock 30 19) (.bool false) ?_
          refine ps_k (o_vDoublesBlock 30 20) (.bool false) ?_
          refine ps_n (o_vDoublesBlock 30 21) ?_
          refine ps_n (o_vDoublesBlock 30 22) ?_
          refine ps_n (o_vDoublesBlock 30 23) ?_
          refine ps_k (o_vDoublesBlock 30 24) (.bool false) ?_
          refine ps_k (o_vDoublesBlock 30 25) (.bool false) ?_
          refine ps_end ?_
          refine sy_a ⟨#[.agg (Pro.c a), .agg (Pro.c b), pT ga 0, pT gb 0, .bool false, pT gx 0, .int .i64 a.err, pT gy 0, .int .i64 b.err, .tuple #[.agg (B a.dg).toArray, .int .i64 a.err], .agg (Pro.c a), .tuple #[.agg (B a.dg).toArray, .int .i64 a.err], .agg (B a.dg).toArray, .int .i64 a.err, .tuple #[.agg (B b.dg).toArray, .int .i64 b.err], .agg (Pro.c b), .tuple #[.agg (B b.dg).toArray, .int .i64 b.err], .agg (B b.dg).toArray, .int .i64 b.err, .int .i64 a.err, .bool true, .bool true, .int .i64 b.err, .bool true, .bool true, .bool true, pT ga 0, .int .i64 a.v, pT gb 0, .int .i64 b.v, .bool true, .bool true, .bool true, pT ga 1, .int .i64 a.h, pT gb 1, .int .i64 b.h, .bool false, .bool false, .bool false, undef, undef, undef, .bool false], []⟩ ?_
          refine then_n ?_
          refine sy_ret (by kernel_rfl) ?_
          refine sy_out (.bool false) rfl (by kernel_rfl) ?_
          exact ⟨by unfold doubP; simp [c0, c1, c2, c3], K55⟩
      · have e2 := c2
        refine ps_p (o_vDoublesBlock 30 11) (.bool false) (eqf ((a.v) : Int) ((b.v) : Int) (by omega)) ?_
        refine ps_k (o_vDoublesBlock 30 12) (.bool false) ?_
        refine ps_k (o_vDoublesBlock 30 13) (.bool false) ?_
        refine ps_n (o_vDoublesBlock 30 14) ?_
        refine ps_n (o_vDoublesBlock 30 15) ?_
        refine ps_n (o_vDoublesBlock 30 16) ?_
        refine ps_n (o_vDoublesBlock 30 17) ?_
        refine ps_n (o_vDoublesBlock 30 18) ?_
        refine ps_k (o_vDoublesBlock 30 19) (.bool false) ?_
        refine ps_k (o_vDoublesBlock 30 20) (.bool false) ?_
        refine ps_n (o_vDoublesBlock 30 21) ?_
        refine ps_n (o_vDoublesBlock 30 22) ?_
        refine ps_n (o_vDoublesBlock 30 23) ?_
        refine ps_k (o_vDoublesBlock 30 24) (.bool false) ?_
        refine ps_k (o_vDoublesBlock 30 25) (.bool false) ?_
        refine ps_end ?_
        refine sy_a ⟨#[.agg (Pro.c a), .agg (Pro.c b), pT ga 0, pT gb 0, .bool false, pT gx 0, .int .i64 a.err, pT gy 0, .int .i64 b.err, .tuple #[.agg (B a.dg).toArray, .int .i64 a.err], .agg (Pro.c a), .tuple #[.agg (B a.dg).toArray, .int .i64 a.err], .agg (B a.dg).toArray, .int .i64 a.err, .tuple #[.agg (B b.dg).toArray, .int .i64 b.err], .agg (Pro.c b), .tuple #[.agg (B b.dg).toArray, .int .i64 b.err], .agg (B b.dg).toArray, .int .i64 b.err, .int .i64 a.err, .bool true, .bool true, .int .i64 b.err, .bool true, .bool true, .bool true, pT ga 0, .int .i64 a.v, pT gb 0, .int .i64 b.v, .bool false, .bool false, .bool false, undef, undef, undef, undef, undef, .bool false, .bool false, undef, undef, undef, .bool false], []⟩ ?_
        refine then_n ?_
        refine sy_ret (by kernel_rfl) ?_
        refine sy_out (.bool false) rfl (by kernel_rfl) ?_
        exact ⟨by unfold doubP; simp [c0, c1, c2], K55⟩
    · have e1 := Pro.err_no c1
      refine ps_p (o_vDoublesBlock 30 4) (.bool false) (eqf ((b.err) : Int) ((0) : Int) (by omega)) ?_
      refine ps_k (o_vDoublesBlock 30 5) (.bool false) ?_
      refine ps_k (o_vDoublesBlock 30 6) (.bool false) ?_
      refine ps_n (o_vDoublesBlock 30 7) ?_
      refine ps_n (o_vDoublesBlock 30 8) ?_
      refine ps_n (o_vDoublesBlock 30 9) ?_
      refine ps_n (o_vDoublesBlock 30 10) ?_
      refine ps_n (o_vDoublesBlock 30 11) ?_
      refine ps_k (o_vDoublesBlock 30 12) (.bool false) ?_
      refine ps_k (o_vDoublesBlock 30 13) (.bool false) ?_
      refine ps_n (o_vDoublesBlock 30 14) ?_
      refine ps_n (o_vDoublesBlock 30 15) ?_
      refine ps_n (o_vDoublesBlock 30 16) ?_
      refine ps_n (o_vDoublesBlock 30 17) ?_
      refine ps_n (o_vDoublesBlock 30 18) ?_
      refine ps_k (o_vDoublesBlock 30 19) (.bool false) ?_
      refine ps_k (o_vDoublesBlock 30 20) (.bool false) ?_
      refine ps_n (o_vDoublesBlock 30 21) ?_
      refine ps_n (o_vDoublesBlock 30 22) ?_
      refine ps_n (o_vDoublesBlock 30 23) ?_
      refine ps_k (o_vDoublesBlock 30 24) (.bool false) ?_
      refine ps_k (o_vDoublesBlock 30 25) (.bool false) ?_
      refine ps_end ?_
      refine sy_a ⟨#[.agg (Pro.c a), .agg (Pro.c b), pT ga 0, pT gb 0, .bool false, pT gx 0, .int .i64 a.err, pT gy 0, .int .i64 b.err, .tuple #[.agg (B a.dg).toArray, .int .i64 a.err], .agg (Pro.c a), .tuple #[.agg (B a.dg).toArray, .int .i64 a.err], .agg (B a.dg).toArray, .int .i64 a.err, .tuple #[.agg (B b.dg).toArray, .int .i64 b.err], .agg (Pro.c b), .tuple #[.agg (B b.dg).toArray, .int .i64 b.err], .agg (B b.dg).toArray, .int .i64 b.err, .int .i64 a.err, .bool true, .bool true, .int .i64 b.err, .bool false, .bool false, .bool false, undef, undef, undef, undef, undef, .bool false, .bool false, undef, undef, undef, undef, undef, .bool false, .bool false, undef, undef, undef, .bool false], []⟩ ?_
      refine then_n ?_
      refine sy_ret (by kernel_rfl) ?_
      refine sy_out (.bool false) rfl (by kernel_rfl) ?_
      exact ⟨by unfold doubP; simp [c0, c1], K55⟩
  · have e0 := Pro.err_no c0
    refine ps_p (o_vDoublesBlock 30 1) (.bool false) (eqf ((a.err) : Int) ((0) : Int) (by omega)) ?_
    refine ps_k (o_vDoublesBlock 30 2) (.bool false) ?_
    refine ps_n (o_vDoublesBlock 30 3) ?_
    refine ps_n (o_vDoublesBlock 30 4) ?_
    refine ps_k (o_vDoublesBlock 30 5) (.bool false) ?_
    refine ps_k (o_vDoublesBlock 30 6) (.bool false) ?_
    refine ps_n (o_vDoublesBlock 30 7) ?_
    refine ps_n (o_vDoublesBlock 30 8) ?_
    refine ps_n (o_vDoublesBlock 30 9) ?_
    refine ps_n (o_vDoublesBlock 30 10) ?_
    refine ps_n (o_vDoublesBlock 30 11) ?_
    refine ps_k (o_vDoublesBlock 30 12) (.bool false) ?_
    refine ps_k (o_vDoublesBlock 30 13) (.bool false) ?_
    refine ps_n (o_vDoublesBlock 30 14) ?_
    refine ps_n (o_vDoublesBlock 30 15) ?_
    refine ps_n (o_vDoublesBlock 30 16) ?_
    refine ps_n (o_vDoublesBlock 30 17) ?_
    refine ps_n (o_vDoublesBlock 30 18) ?_
    refine ps_k (o_vDoublesBlock 30 19) (.bool false) ?_
    refine ps_k (o_vDoublesBlock 30 20) (.bool false) ?_
    refine ps_n (o_vDoublesBlock 30 21) ?_
    refine ps_n (o_vDoublesBlock 30 22) ?_
    refine ps_n (o_vDoublesBlock 30 23) ?_
    refine ps_k (o_vDoublesBlock 30 24) (.bool false) ?_
    refine ps_k (o_vDoublesBlock 30 25) (.bool false) ?_
    refine ps_end ?_
    refine sy_a ⟨#[.agg (Pro.c a), .agg (Pro.c b), pT ga 0, pT gb 0, .bool false, pT gx 0, .int .i64 a.err, pT gy 0, .int .i64 b.err, .tuple #[.agg (B a.dg).toArray, .int .i64 a.err], .agg (Pro.c a), .tuple #[.agg (B a.dg).toArray, .int .i64 a.err], .agg (B a.dg).toArray, .int .i64 a.err, .tuple #[.agg (B b.dg).toArray, .int .i64 b.err], .agg (Pro.c b), .tuple #[.agg (B b.dg).toArray, .int .i64 b.err], .agg (B b.dg).toArray, .int .i64 b.err, .int .i64 a.err, .bool false, .bool false, undef, undef, .bool false, .bool false, undef, undef, undef, undef, undef, .bool false, .bool false, undef, undef, undef, undef, undef, .bool false, .bool false, undef, undef, undef, .bool false], []⟩ ?_
    refine then_n ?_
    refine sy_ret (by kernel_rfl) ?_
    refine sy_out (.bool false) rfl (by kernel_rfl) ?_
    exact ⟨by unfold doubP; simp [c0], K55⟩
end Go.Proofs.Ytenaakldccjnbaa
