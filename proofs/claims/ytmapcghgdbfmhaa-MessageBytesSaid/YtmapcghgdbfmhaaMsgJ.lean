/-
  Messages: why one may not be, by the document (printed by msg6.py). Conditions: none.
-/
import Derived.Test.YtmapcghgdbfmhaaMsgH
import Derived.Test.YtmapcghgdbfmhaaMsgE2
import Derived.Test.YtmapcghgdbfmhaaVoteB
namespace Go.Proofs.Ytmapcghgdbfmhaa
open Go Go.RowKit Go.Own Go.Shelf
abbrev inB (n lo hi : Int) : Bool := decide (lo ≤ n ∧ n ≤ hi)
def stampB (m : Msg) : Bool := inB m.sv 0 31 && inB m.ss 1 4294967296 && inB m.sp (-1) 31 && inB m.sf 0 4294967296
def votesB (m : Msg) : Bool := if m.k = 6 then decide m.a.fine else if m.k = 7 then decide m.p.fine else if m.pf = 3 then decide m.p.fine && decide m.q.fine else decide m.a.fine && decide m.b.fine
theorem att_errB (a : Att) : (a.err == 0) = decide a.fine := by unfold Att.err; split <;> simp [*]
theorem pro_errB (a : Pro) : (a.err == 0) = decide a.fine := by unfold Pro.err; split <;> simp [*]

noncomputable def part_rmwithin (n : Nat) : Code := partOf Try.f53 n
noncomputable abbrev o_rmwithin (n k : Nat) : Oper := (opsAt (part_rmwithin n)).getD k default
set_option maxRecDepth 100000 in
set_option maxHeartbeats 4000000 in
theorem rmwithin_a (n lo hi : Int) (w : World) (h : ¬ lo ≤ n) :
    Calls Try.prog 53 #[.int .i64 n, .int .i64 lo, .int .i64 hi] w (fun e w' => e = .returned (.bool false) ∧ w = w') := by
  have K0 : Keeps Nob w w := Keeps.refl _ _
  refine sy_enter (part_rmwithin 1) ⟨#[.int .i64 n, .int .i64 lo, .int .i64 hi, undef, undef, undef, undef, undef, undef, undef, undef, undef, undef, undef, undef], []⟩ Try.func53 (by kernel_rfl) (by kernel_rfl) ?_
  refine sy_sq (part_rmwithin 2) (part_rmwithin 3) ?_
  refine sy_reg ?_
  refine rg_plain 0 (opsAt (part_rmwithin 2)) [0] (by kernel_rfl) (by kernel_rfl) ?_
  refine ps_k (o_rmwithin 2 0) (.bool false) ?_
  refine ps_end ?_
  refine then_n ?_
  refine sy_sq (part_rmwithin 6) (part_rmwithin 7) ?_
  refine sy_reg ?_
  refine rg_plain 1 (opsAt (part_rmwithin 6)) [0, 1, 2, 3, 4, 5, 6, 7, 8] (by kernel_rfl) (by kernel_rfl) ?_
  refine ps_k (o_rmwithin 6 0) (.int .i64 n) ?_
  refine ps_k (o_rmwithin 6 1) (.int .i64 lo) ?_
  refine ps_p (o_rmwithin 6 2) (.bool false) (dcf (((n) : Int) ≥ ((lo) : Int)) (by omega)) ?_
  refine ps_k (o_rmwithin 6 3) (.bool false) ?_
  refine ps_n (o_rmwithin 6 4) ?_
  refine ps_n (o_rmwithin 6 5) ?_
  refine ps_n (o_rmwithin 6 6) ?_
  refine ps_k (o_rmwithin 6 7) (.bool false) ?_
  refine ps_k (o_rmwithin 6 8) (.bool false) ?_
  refine ps_end ?_
  refine then_n ?_
  refine sy_ret (by kernel_rfl) ?_
  refine sy_out (.bool false) rfl (by kernel_rfl) ?_
  exact ⟨rfl, rfl⟩
set_option maxRecDepth 100000 in
set_option maxHeartbeats 4000000 in
theorem rmwithin_b (n lo hi : Int) (w : World) (h : lo ≤ n) (h2 : ¬ n ≤ hi) :
    Calls Try.prog 53 #[.int .i64 n, .int .i64 lo, .int .i64 hi] w (fun e w' => e = .returned (.bool false) ∧ w = w') := by
  have K0 : Keeps Nob w w := Keeps.refl _ _
  refine sy_enter (part_rmwithin 1) ⟨#[.int .i64 n, .int .i64 lo, .int .i64 hi, undef, undef, undef, undef, undef, undef, undef, undef, undef, undef, undef, undef], []⟩ Try.func53 (by kernel_rfl) (by kernel_rfl) ?_
  refine sy_sq (part_rmwithin 2) (part_rmwithin 3) ?_
  refine sy_reg ?_
  refine rg_plain 0 (opsAt (part_rmwithin 2)) [0] (by kernel_rfl) (by kernel_rfl) ?_
  refine ps_k (o_rmwithin 2 0) (.bool false) ?_
  refine ps_end ?_
  refine then_n ?_
  refine sy_sq (part_rmwithin 6) (part_rmwithin 7) ?_
  refine sy_reg ?_
  refine rg_plain 1 (opsAt (part_rmwithin 6)) [0, 1, 2, 3, 4, 5, 6, 7, 8] (by kernel_rfl) (by kernel_rfl) ?_
  refine ps_k (o_rmwithin 6 0) (.int .i64 n) ?_
  refine ps_k (o_rmwithin 6 1) (.int .i64 lo) ?_
  refine ps_p (o_rmwithin 6 2) (.bool true) (dct (((n) : Int) ≥ ((lo) : Int)) (by omega)) ?_
  refine ps_k (o_rmwithin 6 3) (.bool true) ?_
  refine ps_k (o_rmwithin 6 4) (.int .i64 n) ?_
  refine ps_k (o_rmwithin 6 5) (.int .i64 hi) ?_
  refine ps_p (o_rmwithin 6 6) (.bool false) (dcf (((n) : Int) ≤ ((hi) : Int)) (by omega)) ?_
  refine ps_k (o_rmwithin 6 7) (.bool false) ?_
  refine ps_k (o_rmwithin 6 8) (.bool false) ?_
  refine ps_end ?_
  refine then_n ?_
  refine sy_ret (by kernel_rfl) ?_
  refine sy_out (.bool false) rfl (by kernel_rfl) ?_
  exact ⟨rfl, rfl⟩
set_option maxRecDepth 100000 in
set_option maxHeartbeats 4000000 in
theorem rmwithin_c (n lo hi : Int) (w : World) (h : lo ≤ n) (h2 : n ≤ hi) :
    Calls Try.prog 53 #[.int .i64 n, .int .i64 lo, .int .i64 hi] w (fun e w' => e = .returned (.bool true) ∧ w = w') := by
  have K0 : Keeps Nob w w := Keeps.refl _ _
  refine sy_enter (part_rmwithin 1) ⟨#[.int .i64 n, .int .i64 lo, .int .i64 hi, undef, undef, undef, undef, undef, undef, undef, undef, undef, undef, undef, undef], []⟩ Try.func53 (by kernel_rfl) (by kernel_rfl) ?_
  refine sy_sq (part_rmwithin 2) (part_rmwithin 3) ?_
  refine sy_reg ?_
  refine rg_plain 0 (opsAt (part_rmwithin 2)) [0] (by kernel_rfl) (by kernel_rfl) ?_
  refine ps_k (o_rmwithin 2 0) (.bool false) ?_
  refine ps_end ?_
  refine then_n ?_
  refine sy_sq (part_rmwithin 6) (part_rmwithin 7) ?_
  refine sy_reg ?_
  refine rg_plain 1 (opsAt (part_rmwithin 6)) [0, 1, 2, 3, 4, 5, 6, 7, 8] (by kernel_rfl) (by kernel_rfl) ?_
  refine ps_k (o_rmwithin 6 0) (.int .i64 n) ?_
  refine ps_k (o_rmwithin 6 1) (.int .i64 lo) ?_
  refine ps_p (o_rmwithin 6 2) (.bool true) (dct (((n) : Int) ≥ ((lo) : Int)) (by omega)) ?_
  refine ps_k (o_rmwithin 6 3) (.bool true) ?_
  refine ps_k (o_rmwithin 6 4) (.int .i64 n) ?_
  refine ps_k (o_rmwithin 6 5) (.int .i64 hi) ?_
  refine ps_p (o_rmwithin 6 6) (.bool true) (dct (((n) : Int) ≤ ((hi) : Int)) (by omega)) ?_
  refine ps_k (o_rmwithin 6 7) (.bool true) ?_
  refine ps_k (o_rmwithin 6 8) (.bool true) ?_
  refine ps_end ?_
  refine then_n ?_
  refine sy_ret (by kernel_rfl) ?_
  refine sy_out (.bool true) rfl (by kernel_rfl) ?_
  exact ⟨rfl, rfl⟩
theorem rmwithin_ok (n lo hi : Int) (w : World) : Calls Try.prog 53 #[.int .i64 n, .int .i64 lo, .int .i64 hi] w (fun e w' => e = .returned (.bool (inB n lo hi)) ∧ w = w') := by
  by_cases h : lo ≤ n
  · by_cases h2 : n ≤ hi
    · rw [inB, decide_eq_true ⟨h, h2⟩]; exact rmwithin_c n lo hi w h h2
    · rw [inB, decide_eq_false (fun x => h2 x.2)]; exact rmwithin_b n lo hi w h h2
  · rw [inB, decide_eq_false (fun x => h x.1)]; exact rmwithin_a n lo hi w h
theorem rmwithin_is {b : Bool} (n lo hi : Int) (w : World) (h : inB n lo hi = b) : Calls Try.prog 53 #[.int .i64 n, .int .i64 lo, .int .i64 hi] w (fun e w' => e = .returned (.bool b) ∧ w = w') := h ▸ rmwithin_ok n lo hi w
noncomputable def part_rmaccount (n : Nat) : Code := partOf Try.f77 n
noncomputable abbrev o_rmaccount (n k : Nat) : Oper := (opsAt (part_rmaccount n)).getD k default
set_option maxRecDepth 100000 in
set_option maxHeartbeats 4000000 in
theorem rmaccount_ok (n : Int) (w : World) :
    Calls Try.prog 77 #[.int .i64 n] w (fun e w' => e = .returned (.bool (inB n 0 63)) ∧ w = w') := by
  have K0 : Keeps Nob w w := Keeps.refl _ _
  refine sy_enter (part_rmaccount 1) ⟨#[.int .i64 n, undef, undef, undef, undef], []⟩ Try.func77 (by kernel_rfl) (by kernel_rfl) ?_
  refine sy_sq (part_rmaccount 2) (part_rmaccount 3) ?_
  refine sy_reg ?_
  refine rg_plain 0 (opsAt (part_rmaccount 2)) [0] (by kernel_rfl) (by kernel_rfl) ?_
  refine ps_k (o_rmaccount 2 0) (.bool false) ?_
  refine ps_end ?_
  refine then_n ?_
  refine sy_sq (part_rmaccount 6) (part_rmaccount 7) ?_
  refine sy_reg ?_
  refine rg_plain 1 (opsAt (part_rmaccount 6)) [0, 1, 2] (by kernel_rfl) (by kernel_rfl) ?_
  refine ps_k (o_rmaccount 6 0) (.int .i64 n) ?_
  refine ps_c (o_rmaccount 6 1) 53 #[.int .i64 n, .int .i64 0, .int .i64 63] Try.func53 ((rmwithin_ok n 0 63 _).mono ?_)
  rintro e w1 ⟨rfl, rfl⟩
  refine ⟨_, rfl, ?_⟩
  refine ps_k (o_rmaccount 6 2) (.bool (inB n 0 63)) ?_
  refine ps_end ?_
  refine then_n ?_
  refine sy_ret (by kernel_rfl) ?_
  refine sy_out (.bool (inB n 0 63)) rfl (by kernel_rfl) ?_
  exact ⟨rfl, rfl⟩
theorem rmaccount_is {b : Bool} (n : Int) (w : World) (h : inB n 0 63 = b) : Calls Try.prog 77 #[.int .i64 n] w (fun e w' => e = .returned (.bool b) ∧ w = w') := h ▸ rmaccount_ok n w
noncomputable def part_rmvalidator (n : Nat) : Code := partOf Try.f78 n
noncomputable abbrev o_rmvalidator (n k : Nat) : Oper := (opsAt (part_rmvalidator n)).getD k default
set_option maxRecDepth 100000 in
set_option maxHeartbeats 4000000 in
theorem rmvalidator_ok (n : Int) (w : World) :
    Calls Try.prog 78 #[.int .i64 n] w (fun e w' => e = .returned (.bool (inB n 0 31)) ∧ w = w') := by
  have K0 : Keeps Nob w w := Keeps.refl _ _
  refine sy_enter (part_rmvalidator 1) ⟨#[.int .i64 n, undef, undef, undef, undef], []⟩ Try.func78 (by kernel_rfl) (by kernel_rfl) ?_
  refine sy_sq (part_rmvalidator 2) (part_rmvalidator 3) ?_
  refine sy_reg ?_
  refine rg_plain 0 (opsAt (part_rmvalidator 2)) [0] (by kernel_rfl) (by kernel_rfl) ?_
  refine ps_k (o_rmvalidator 2 0) (.bool false) ?_
  refine ps_end ?_
  refine then_n ?_
  refine sy_sq (part_rmvalidator 6) (part_rmvalidator 7) ?_
  refine sy_reg ?_
  refine rg_plain 1 (opsAt (part_rmvalidator 6)) [0, 1, 2] (by kernel_rfl) (by kernel_rfl) ?_
  refine ps_k (o_rmvalidator 6 0) (.int .i64 n) ?_
  refine ps_c (o_rmvalidator 6 1) 53 #[.int .i64 n, .int .i64 0, .int .i64 31] Try.func53 ((rmwithin_ok n 0 31 _).mono ?_)
  rintro e w1 ⟨rfl, rfl⟩
  refine ⟨_, rfl, ?_⟩
  refine ps_k (o_rmvalidator 6 2) (.bool (inB n 0 31)) ?_
  refine ps_end ?_
  refine then_n ?_
  refine sy_ret (by kernel_rfl) ?_
  refine sy_out (.bool (inB n 0 31)) rfl (by kernel_rfl) ?_
  exact ⟨rfl, rfl⟩
theorem rmvalidator_is {b : Bool} (n : Int) (w : World) (h : inB n 0 31 = b) : Calls Try.prog 78 #[.int .i64 n] w (fun e w' => e = .returned (.bool b) ∧ w = w') := h ▸ rmvalidator_ok n w
noncomputable def part_rmstamp (n : Nat) : Code := partOf Try.f79 n
noncomputable abbrev o_rmstamp (n k : Nat) : Oper := (opsAt (part_rmstamp n)).getD k default
set_option maxRecDepth 100000 in
set_option maxHeartbeats 4000000 in
theorem rmstamp_0 (m : Msg) (w : World) (c0 : inB m.sv 0 31 = false) :
    Calls Try.prog 79 #[.agg #[.int .i64 m.sv, .int .i64 m.ss, .int .i64 m.sp, .int .i64 m.sf]] w (fun e w' => e = .returned (.bool false) ∧ Keeps Nob w w') := by
  have K0 : Keeps Nob w w := Keeps.refl _ _
  refine sy_enter (part_rmstamp 1) ⟨#[.agg #[.int .i64 m.sv, .int .i64 m.ss, .int .i64 m.sp, .int .i64 m.sf], undef, undef, undef, undef, undef, undef, undef, undef, undef, undef, undef, undef, undef, undef, undef, undef, undef, undef, undef, undef], []⟩ Try.func79 (by kernel_rfl) (by kernel_rfl) ?_
  refine sy_sq (part_rmstamp 2) (part_rmstamp 3) ?_
  refine sy_reg ?_
  refine rg_plain 0 (opsAt (part_rmstamp 2)) [0, 1] (by kernel_rfl) (by kernel_rfl) ?_
  obtain ⟨V1, eV1, gs, egs, h2, kV1⟩ := alloc_step w (#[.int .i64 m.sv, .int .i64 m.ss, .int .i64 m.sp, .int .i64 m.sf]) 27
  have n3 : w.heap.size ≤ gs := egs ▸ K0.size
  refine ps_r (o_rmstamp 2 0) (pT gs 0) (w' := V1) (by rw [← eV1, ← egs]; exact exec_box 27 (.tmp 0) (by kernel_rfl) (.agg #[.int .i64 m.sv, .int .i64 m.ss, .int .i64 m.sp, .int .i64 m.sf]) (by kernel_rfl)) ?_
  clear eV1
  have K4 := K0.nn kV1
  refine ps_k (o_rmstamp 2 1) (.bool false) ?_
  refine ps_end ?_
  refine then_n ?_
  refine sy_sq (part_rmstamp 6) (part_rmstamp 7) ?_
  refine sy_reg ?_
  refine rg_plain 1 (opsAt (part_rmstamp 6)) [0, 1, 2, 3, 4, 5, 6, 7, 8, 9, 10, 11, 12, 13, 14, 15, 16, 17, 18] (by kernel_rfl) (by kernel_rfl) ?_
  refine ps_k (o_rmstamp 6 0) (pT gs 0) ?_
  refine ps_p (o_rmstamp 6 1) (.int .i64 m.sv) (exec_ld 3 (.tmp 3) gs 0 Try.underlying3 (rc (h2) (by kernel_rfl))) ?_
  refine ps_c (o_rmstamp 6 2) 78 #[.int .i64 m.sv] Try.func78 ((rmvalidator_is m.sv _ c0).mono ?_)
  rintro e w1 ⟨rfl, rfl⟩
  refine ⟨_, rfl, ?_⟩
  refine ps_k (o_rmstamp 6 3) (.bool false) ?_
  refine ps_n (o_rmstamp 6 4) ?_
  refine ps_n (o_rmstamp 6 5) ?_
  refine ps_n (o_rmstamp 6 6) ?_
  refine ps_k (o_rmstamp 6 7) (.bool false) ?_
  refine ps_k (o_rmstamp 6 8) (.bool false) ?_
  refine ps_n (o_rmstamp 6 9) ?_
  refine ps_n (o_rmstamp 6 10) ?_
  refine ps_n (o_rmstamp 6 11) ?_
  refine ps_k (o_rmstamp 6 12) (.bool false) ?_
  refine ps_k (o_rmstamp 6 13) (.bool false) ?_
  refine ps_n (o_rmstamp 6 14) ?_
  refine ps_n (o_rmstamp 6 15) ?_
  refine ps_n (o_rmstamp 6 16) ?_
  refine ps_k (o_rmstamp 6 17) (.bool false) ?_
  refine ps_k (o_rmstamp 6 18) (.bool false) ?_
  refine ps_end ?_
  refine then_n ?_
  refine sy_ret (by kernel_rfl) ?_
  refine sy_out (.bool false) rfl (by kernel_rfl) ?_
  exact ⟨rfl, K4⟩
set_option maxRecDepth 100000 in
set_option maxHeartbeats 4000000 in
theorem rmstamp_1 (m : Msg) (w : World) (c0 : inB m.sv 0 31 = true) (c1 : inB m.ss 1 4294967296 = false) :
    Calls Try.prog 79 #[.agg #[.int .i64 m.sv, .int .i64 m.ss, .int .i64 m.sp, .int .i64 m.sf]] w (fun e w' => e = .returned (.bool false) ∧ Keeps Nob w w') := by
  have K0 : Keeps Nob w w := Keeps.refl _ _
  refine sy_enter (part_rmstamp 1) ⟨#[.agg #[.int .i64 m.sv, .int .i64 m.ss, .int .i64 m.sp, .int .i64 m.sf], undef, undef, undef, undef, undef, undef, undef, undef, undef, undef, undef, undef, undef, undef, undef, undef, undef, undef, undef, undef], []⟩ Try.func79 (by kernel_rfl) (by kernel_rfl) ?_
  refine sy_sq (part_rmstamp 2) (part_rmstamp 3) ?_
  refine sy_reg ?_
  refine rg_plain 0 (opsAt (part_rmstamp 2)) [0, 1] (by kernel_rfl) (by kernel_rfl) ?_
  obtain ⟨V1, eV1, gs, egs, h2, kV1⟩ := alloc_step w (#[.int .i64 m.sv, .int .i64 m.ss, .int .i64 m.sp, .int .i64 m.sf]) 27
  have n3 : w.heap.size ≤ gs := egs ▸ K0.size
  refine ps_r (o_rmstamp 2 0) (pT gs 0) (w' := V1) (by rw [← eV1, ← egs]; exact exec_box 27 (.tmp 0) (by kernel_rfl) (.agg #[.int .i64 m.sv, .int .i64 m.ss, .int .i64 m.sp, .int .i64 m.sf]) (by kernel_rfl)) ?_
  clear eV1
  have K4 := K0.nn kV1
  refine ps_k (o_rmstamp 2 1) (.bool false) ?_
  refine ps_end ?_
  refine then_n ?_
  refine sy_sq (part_rmstamp 6) (part_rmstamp 7) ?_
  refine sy_reg ?_
  refine rg_plain 1 (opsAt (part_rmstamp 6)) [0, 1, 2, 3, 4, 5, 6, 7, 8, 9, 10, 11, 12, 13, 14, 15, 16, 17, 18] (by kernel_rfl) (by kernel_rfl) ?_
  refine ps_k (o_rmstamp 6 0) (pT gs 0) ?_
  refine ps_p (o_rmstamp 6 1) (.int .i64 m.sv) (exec_ld 3 (.tmp 3) gs 0 Try.underlying3 (rc (h2) (by kernel_rfl))) ?_
  refine ps_c (o_rmstamp 6 2) 78 #[.int .i64 m.sv] Try.func78 ((rmvalidator_is m.sv _ c0).mono ?_)
  rintro e w1 ⟨rfl, rfl⟩
  refine ⟨_, rfl, ?_⟩
  refine ps_k (o_rmstamp 6 3) (.bool true) ?_
  refine ps_k (o_rmstamp 6 4) (pT gs 1) ?_
  refine ps_p (o_rmstamp 6 5) (.int .i64 m.ss) (exec_ld 3 (.tmp 7) gs 1 Try.underlying3 (rc (h2) (by kernel_rfl))) ?_
  refine ps_c (o_rmstamp 6 6) 53 #[.int .i64 m.ss, .int .i64 1, .int .i64 4294967296] Try.func53 ((rmwithin_is m.ss 1 4294967296 _ c1).mono ?_)
  rintro e w1 ⟨rfl, rfl⟩
  refine ⟨_, rfl, ?_⟩
  refine ps_k (o_rmstamp 6 7) (.bool false) ?_
  refine ps_k (o_rmstamp 6 8) (.bool false) ?_
  refine ps_n (o_rmstamp 6 9) ?_
  refine ps_n (o_rmstamp 6 10) ?_
  refine ps_n (o_rmstamp 6 11) ?_
  refine ps_k (o_rmstamp 6 12) (.bool false) ?_
  refine ps_k (o_rmstamp 6 13) (.bool false) ?_
  refine ps_n (o_rmstamp 6 14) ?_
  refine ps_n (o_rmstamp 6 15) ?_
  refine ps_n (o_rmstamp 6 16) ?_
  refine ps_k (o_rmstamp 6 17) (.bool false) ?_
  refine ps_k (o_rmstamp 6 18) (.bool false) ?_
  refine ps_end ?_
  refine then_n ?_
  refine sy_ret (by kernel_rfl) ?_
  refine sy_out (.bool false) rfl (by kernel_rfl) ?_
  exact ⟨rfl, K4⟩
set_option maxRecDepth 100000 in
set_option maxHeartbeats 4000000 in
theorem rmstamp_2 (m : Msg) (w : World) (c0 : inB m.sv 0 31 = true) (c1 : inB m.ss 1 4294967296 = true) (c2 : inB m.sp (-1) 31 = false) :
    Calls Try.prog 79 #[.agg #[.int .i64 m.sv, .int .i64 m.ss, .int .i64 m.sp, .int .i64 m.sf]] w (fun e w' => e = .returned (.bool false) ∧ Keeps Nob w w') := by
  have K0 : Keeps Nob w w := Keeps.refl _ _
  refine sy_enter (part_rmstamp 1) ⟨#[.agg #[.int .i64 m.sv, .int .i64 m.ss, .int .i64 m.sp, .int .i64 m.sf], undef, undef, undef, undef, undef, undef, undef, undef, undef, undef, undef, undef, undef, undef, undef, undef, undef, undef, undef, undef], []⟩ Try.func79 (by kernel_rfl) (by kernel_rfl) ?_
  refine sy_sq (part_rmstamp 2) (part_rmstamp 3) ?_
  refine sy_reg ?_
  refine rg_plain 0 (opsAt (part_rmstamp 2)) [0, 1] (by kernel_rfl) (by kernel_rfl) ?_
  obtain ⟨V1, eV1, gs, egs, h2, kV1⟩ := alloc_step w (#[.int .i64 m.sv, .int .i64 m.ss, .int .i64 m.sp, .int .i64 m.sf]) 27
  have n3 : w.heap.size ≤ gs := egs ▸ K0.size
  refine ps_r (o_rmstamp 2 0) (pT gs 0) (w' := V1) (by rw [← eV1, ← egs]; exact exec_box 27 (.tmp 0) (by kernel_rfl) (.agg #[.int .i64 m.sv, .int .i64 m.ss, .int .i64 m.sp, .int .i64 m.sf]) (by kernel_rfl)) ?_
  clear eV1
  have K4 := K0.nn kV1
  refine ps_k (o_rmstamp 2 1) (.bool false) ?_
  refine ps_end ?_
  refine then_n ?_
  refine sy_sq (part_rmstamp 6) (part_rmstamp 7) ?_
  refine sy_reg ?_
  refine rg_plain 1 (opsAt (part_rmstamp 6)) [0, 1, 2, 3, 4, 5, 6, 7, 8, 9, 10, 11, 12, 13, 14, 15, 16, 17, 18] (by kernel_rfl) (by kernel_rfl) ?_
  refine ps_k (o_rmstamp 6 0) (pT gs 0) ?_
  refine ps_p (o_rmstamp 6 1) (.int .i64 m.sv) (exec_ld 3 (.tmp 3) gs 0 Try.underlying3 (rc (h2) (by kernel_rfl))) ?_
  refine ps_c (o_rmstamp 6 2) 78 #[.int .i64 m.sv] Try.func78 ((rmvalidator_is m.sv _ c0).mono ?_)
  rintro e w1 ⟨rfl, rfl⟩
  refine ⟨_, rfl, ?_⟩
  refine ps_k (o_rmstamp 6 3) (.bool true) ?_
  refine ps_k (o_rmstamp 6 4) (pT gs 1) ?_
  refine ps_p (o_rmstamp 6 5) (.int .i64 m.ss) (exec_ld 3 (.tmp 7) gs 1 Try.underlying3 (rc (h2) (by kernel_rfl))) ?_
  refine ps_c (o_rmstamp 6 6) 53 #[.int .i64 m.ss, .int .i64 1, .int .i64 4294967296] Try.func53 ((rmwithin_is m.ss 1 4294967296 _ c1).mono ?_)
  rintro e w1 ⟨rfl, rfl⟩
  refine ⟨_, rfl, ?_⟩
  refine ps_k (o_rmstamp 6 7) (.bool true) ?_
  refine ps_k (o_rmstamp 6 8) (.bool true) ?_
  refine ps_k (o_rmstamp 6 9) (pT gs 2) ?_
  refine ps_p (o_rmstamp 6 10) (.int .i64 m.sp) (exec_ld 3 (.tmp 12) gs 2 Try.underlying3 (rc (h2) (by kernel_rfl))) ?_
  refine ps_c (o_rmstamp 6 11) 53 #[.int .i64 m.sp, .int .i64 (-1), .int .i64 31] Try.func53 ((rmwithin_is m.sp (-1) 31 _ c2).mono ?_)
  rintro e w1 ⟨rfl, rfl⟩
  refine ⟨_, rfl, ?_⟩
  refine ps_k (o_rmstamp 6 12) (.bool false) ?_
  refine ps_k (o_rmstamp 6 13) (.bool false) ?_
  refine ps_n (o_rmstamp 6 14) ?_
  refine ps_n (o_rmstamp 6 15) ?_
  refine ps_n (o_rmstamp 6 16) ?_
  refine ps_k (o_rmstamp 6 17) (.bool false) ?_
  refine ps_k (o_rmstamp 6 18) (.bool false) ?_
  refine ps_end ?_
  refine then_n ?_
  refine sy_ret (by kernel_rfl) ?_
  refine sy_out (.bool false) rfl (by kernel_rfl) ?_
  exact ⟨rfl, K4⟩
set_option maxRecDepth 100000 in
set_option maxHeartbeats 4000000 in
theorem rmstamp_3 (m : Msg) (w : World) (c0 : inB m.sv 0 31 = true) (c1 : inB m.ss 1 4294967296 = true) (c2 : inB m.sp (-1) 31 = true) :
    Calls Try.prog 79 #[.agg #[.int .i64 m.sv, .int .i64 m.ss, .int .i64 m.sp, .int .i64 m.sf]] w (fun e w' => e = .returned (.bool (inB m.sf 0 4294967296)) ∧ Keeps Nob w w') := by
  have K0 : Keeps Nob w w := Keeps.refl _ _
  refine sy_enter (part_rmstamp 1) ⟨#[.agg #[.int .i64 m.sv, .int .i64 m.ss, .int .i64 m.sp, .int .i64 m.sf], undef, undef, undef, undef, undef, undef, undef, undef, undef, undef, undef, undef, undef, undef, undef, undef, undef, undef, undef, undef], []⟩ Try.func79 (by kernel_rfl) (by kernel_rfl) ?_
  refine sy_sq (part_rmstamp 2) (part_rmstamp 3) ?_
  refine sy_reg ?_
  refine rg_plain 0 (opsAt (part_rmstamp 2)) [0, 1] (by kernel_rfl) (by kernel_rfl) ?_
  obtain ⟨V1, eV1, gs, egs, h2, kV1⟩ := alloc_step w (#[.int .i64 m.sv, .int .i64 m.ss, .int .i64 m.sp, .int .i64 m.sf]) 27
  have n3 : w.heap.size ≤ gs := egs ▸ K0.size
  refine ps_r (o_rmstamp 2 0) (pT gs 0) (w' := V1) (by rw [← eV1, ← egs]; exact exec_box 27 (.tmp 0) (by kernel_rfl) (.agg #[.int .i64 m.sv, .int .i64 m.ss, .int .i64 m.sp, .int .i64 m.sf]) (by kernel_rfl)) ?_
  clear eV1
  have K4 := K0.nn kV1
  refine ps_k (o_rmstamp 2 1) (.bool false) ?_
  refine ps_end ?_
  refine then_n ?_
  refine sy_sq (part_rmstamp 6) (part_rmstamp 7) ?_
  refine sy_reg ?_
  refine rg_plain 1 (opsAt (part_rmstamp 6)) [0, 1, 2, 3, 4, 5, 6, 7, 8, 9, 10, 11, 12, 13, 14, 15, 16, 17, 18] (by kernel_rfl) (by kernel_rfl) ?_
  refine ps_k (o_rmstamp 6 0) (pT gs 0) ?_
  refine ps_p (o_rmstamp 6 1) (.int .i64 m.sv) (exec_ld 3 (.tmp 3) gs 0 Try.underlying3 (rc (h2) (by kernel_rfl))) ?_
  refine ps_c (o_rmstamp 6 2) 78 #[.int .i64 m.sv] Try.func78 ((rmvalidator_is m.sv _ c0).mono ?_)
  rintro e w1 ⟨rfl, rfl⟩
  refine ⟨_, rfl, ?_⟩
  refine ps_k (o_rmstamp 6 3) (.bool true) ?_
  refine ps_k (o_rmstamp 6 4) (pT gs 1) ?_
  refine ps_p (o_rmstamp 6 5) (.int .i64 m.ss) (exec_ld 3 (.tmp 7) gs 1 Try.underlying3 (rc (h2) (by kernel_rfl))) ?_
  refine ps_c (o_rmstamp 6 6) 53 #[.int .i64 m.ss, .int .i64 1, .int .i64 4294967296] Try.func53 ((rmwithin_is m.ss 1 4294967296 _ c1).mono ?_)
  rintro e w1 ⟨rfl, rfl⟩
  refine ⟨_, rfl, ?_⟩
  refine ps_k (o_rmstamp 6 7) (.bool true) ?_
  refine ps_k (o_rmstamp 6 8) (.bool true) ?_
  refine ps_k (o_rmstamp 6 9) (pT gs 2) ?_
  refine ps_p (o_rmstamp 6 10) (.int .i64 m.sp) (exec_ld 3 (.tmp 12) gs 2 Try.underlying3 (rc (h2) (by kernel_rfl))) ?_
  refine ps_c (o_rmstamp 6 11) 53 #[.int .i64 m.sp, .int .i64 (-1), .int .i64 31] Try.func53 ((rmwithin_is m.sp (-1) 31 _ c2).mono ?_)
  rintro e w1 ⟨rfl, rfl⟩
  refine ⟨_, rfl, ?_⟩
  refine ps_k (o_rmstamp 6 12) (.bool true) ?_
  refine ps_k (o_rmstamp 6 13) (.bool true) ?_
  refine ps_k (o_rmstamp 6 14) (pT gs 3) ?_
  refine ps_p (o_rmstamp 6 15) (.int .i64 m.sf) (exec_ld 3 (.tmp 17) gs 3 Try.underlying3 (rc (h2) (by kernel_rfl))) ?_
  refine ps_c (o_rmstamp 6 16) 53 #[.int .i64 m.sf, .int .i64 0, .int .i64 4294967296] Try.func53 ((rmwithin_ok m.sf 0 4294967296 _).mono ?_)
  rintro e w1 ⟨rfl, rfl⟩
  refine ⟨_, rfl, ?_⟩
  refine ps_k (o_rmstamp 6 17) (.bool (inB m.sf 0 4294967296)) ?_
  refine ps_k (o_rmstamp 6 18) (.bool (inB m.sf 0 4294967296)) ?_
  refine ps_end ?_
  refine then_n ?_
  refine sy_ret (by kernel_rfl) ?_
  refine sy_out (.bool (inB m.sf 0 4294967296)) rfl (by kernel_rfl) ?_
  exact ⟨rfl, K4⟩
theorem rmstamp_ok (m : Msg) (w : World) : Calls Try.prog 79 #[.agg #[.int .i64 m.sv, .int .i64 m.ss, .int .i64 m.sp, .int .i64 m.sf]] w (fun e w' => e = .returned (.bool (stampB m)) ∧ Keeps Nob w w') := by
  unfold stampB
  cases h0 : inB m.sv 0 31 with
  | false => exact rmstamp_0 m w h0
  | true =>
    cases h1 : inB m.ss 1 4294967296 with
    | false => exact rmstamp_1 m w h0 h1
    | true =>
      cases h2 : inB m.sp (-1) 31 with
      | false => exact rmstamp_2 m w h0 h1 h2
      | true => exact rmstamp_3 m w h0 h1 h2
theorem rmstamp_is {b : Bool} (m : Msg) (w : World) (h : stampB m = b) : Calls Try.prog 79 #[.agg (Msg.st m)] w (fun e w' => e = .returned (.bool b) ∧ Keeps Nob w w') := h ▸ rmstamp_ok m w
noncomputable def part_rmvotes (n : Nat) : Code := partOf Try.f80 n
noncomputable abbrev o_rmvotes (n k : Nat) : Oper := (opsAt (part_rmvotes n)).getD k default
set_option maxRecDepth 100000 in
set_option maxHeartbeats 4000000 in
theorem rmvotes_6 (m : Msg) (w : World) (hr : m.R) (h6 : m.k = 6) :
    Calls Try.prog 80 #[.agg (Msg.c m)] w (fun e w' => e = .returned (.bool (decide m.a.fine)) ∧ Keeps Nob w w') := by
  have K0 : Keeps Nob w w := Keeps.refl _ _
  refine sy_enter (part_rmvotes 1) ⟨#[.agg (Msg.c m), undef, undef, undef, undef, undef, undef, undef, undef, undef, undef, undef, undef, undef, undef, undef, undef, undef, undef, undef, undef, undef, undef, undef, undef, undef, undef, undef, undef, undef, undef, undef, undef, undef, undef, undef, undef, undef, undef, undef, undef, undef, undef], []⟩ Try.func80 (by kernel_rfl) (by kernel_rfl) ?_
  refine sy_sq (part_rmvotes 2) (part_rmvotes 3) ?_
  refine sy_reg ?_
  refine rg_plain 0 (opsAt (part_rmvotes 2)) [0, 1] (by kernel_rfl) (by kernel_rfl) ?_
  obtain ⟨V1, eV1, gm, egm, h2, kV1⟩ := alloc_step w ((Msg.c m)) 35
  have n3 : w.heap.size ≤ gm := egm ▸ K0.size
  refine ps_r (o_rmvotes 2 0) (pT gm 0) (w' := V1) (by rw [← eV1, ← egm]; exact exec_box 35 (.tmp 0) (by kernel_rfl) (.agg (Msg.c m)) (by kernel_rfl)) ?_
  clear eV1
  have K4 := K0.nn kV1
  refine ps_k (o_rmvotes 2 1) (.bool false) ?_
  refine ps_end ?_
  refine then_n ?_
  refine sy_sq (part_rmvotes 6) (part_rmvotes 7) ?_
  refine sy_bk 0 (part_rmvotes 12) ?_
  refine sy_sq (part_rmvotes 24) (part_rmvotes 25) ?_
  refine sy_reg ?_
  refine rg_plain 1 (opsAt (part_rmvotes 24)) [0, 1, 2, 3] (by kernel_rfl) (by kernel_rfl) ?_
  refine ps_k (o_rmvotes 24 0) (pT gm 0) ?_
  refine ps_p (o_rmvotes 24 1) (.int .i64 m.k) (exec_ld 3 (.tmp 4) gm 0 Try.underlying3 (rc (h2) (Msg.get_n hr NF.k))) ?_
  refine ps_p (o_rmvotes 24 2) (.bool true) (eqt ((m.k) : Int) ((6) : Int) (by omega)) ?_
  refine ps_k (o_rmvotes 24 3) (.bool true) ?_
  refine ps_end ?_
  refine then_n ?_
  refine sy_ys (.tmp 3) (part_rmvotes 50) (part_rmvotes 51) ?_
  refine sy_sq (part_rmvotes 100) (part_rmvotes 101) ?_
  refine sy_reg ?_
  refine rg_plain 2 (opsAt (part_rmvotes 100)) [0, 1, 2, 3, 4] (by kernel_rfl) (by kernel_rfl) ?_
  refine ps_k (o_rmvotes 100 0) (pT gm 12) ?_
  refine ps_p (o_rmvotes 100 1) (.agg (Att.c m.a)) (exec_load_seg 31 (.tmp 7) (by kernel_rfl) gm 12 (by kernel_rfl) (Att.c m.a).toList _ _ _ h2 (Msg.seg_A hr) Try.underlying31 rfl (by rw [Att.tl hr.a]; kernel_rfl)) ?_
  refine ps_c (o_rmvotes 100 2) 101 #[.agg (Att.c m.a)] Try.func101 ((rvCheck_ok m.a _ hr.a).mono ?_)
  rintro e V5 ⟨rfl, kV5⟩
  refine ⟨_, rfl, ?_⟩
  have h6 := kV5.bk h2
  have K7 := K4.nn kV5
  refine ps_k (o_rmvotes 100 3) (.bool ((((m.a.err) : Int) == ((0) : Int)))) ?_
  refine ps_k (o_rmvotes 100 4) (.bool ((((m.a.err) : Int) == ((0) : Int)))) ?_
  refine ps_end ?_
  refine then_n ?_
  refine sy_ret (by kernel_rfl) ?_
  refine blk_r ?_
  refine then_r ?_
  refine sy_out (.bool ((((m.a.err) : Int) == ((0) : Int)))) rfl (by kernel_rfl) ?_
  exact ⟨congrArg (fun b => Ending.returned (Value.bool b)) (att_errB m.a), K7⟩
set_option maxRecDepth 100000 in
set_option maxHeartbeats 4000000 in
theorem rmvotes_7 (m : Msg) (w : World) (hr : m.R) (h7 : m.k = 7) :
    Calls Try.prog 80 #[.agg (Msg.c m)] w (fun e w' => e = .returned (.bool (decide m.p.fine)) ∧ Keeps Nob w w') := by
  have K0 : Keeps Nob w w := Keeps.refl _ _
  refine sy_enter (part_rmvotes 1) ⟨#[.agg (Msg.c m), undef, undef, undef, undef, undef, undef, undef, undef, undef, undef, undef, undef, undef, undef, undef, undef, undef, undef, undef, undef, undef, undef, undef, undef, undef, undef, undef, undef, undef, undef, undef, undef, undef, undef, undef, undef, undef, undef, undef, undef, undef, undef], []⟩ Try.func80 (by kernel_rfl) (by kernel_rfl) ?_
  refine sy_sq (part_rmvotes 2) (part_rmvotes 3) ?_
  refine sy_reg ?_
  refine rg_plain 0 (opsAt (part_rmvotes 2)) [0, 1] (by kernel_rfl) (by kernel_rfl) ?_
  obtain ⟨V1, eV1, gm, egm, h2, kV1⟩ := alloc_step w ((Msg.c m)) 35
  have n3 : w.heap.size ≤ gm := egm ▸ K0.size
  refine ps_r (o_rmvotes 2 0) (pT gm 0) (w' := V1) (by rw [← eV1, ← egm]; exact exec_box 35 (.tmp 0) (by kernel_rfl) (.agg (Msg.c m)) (by kernel_rfl)) ?_
  clear eV1
  have K4 := K0.nn kV1
  refine ps_k (o_rmvotes 2 1) (.bool false) ?_
  refine ps_end ?_
  refine then_n ?_
  refine sy_sq (part_rmvotes 6) (part_rmvotes 7) ?_
  refine sy_bk 0 (part_rmvotes 12) ?_
  refine sy_sq (part_rmvotes 24) (part_rmvotes 25) ?_
  refine sy_reg ?_
  refine rg_plain 1 (opsAt (part_rmvotes 24)) [0, 1, 2, 3] (by kernel_rfl) (by kernel_rfl) ?_
  refine ps_k (o_rmvotes 24 0) (pT gm 0) ?_
  refine ps_p (o_rmvotes 24 1) (.int .i64 m.k) (exec_ld 3 (.tmp 4) gm 0 Try.underlying3 (rc (h2) (Msg.get_n hr NF.k))) ?_
  refine ps_p (o_rmvotes 24 2) (.bool false) (eqf ((m.k) : Int) ((6) : Int) (by omega)) ?_
  refine ps_k (o_rmvotes 24 3) (.bool false) ?_
  refine ps_end ?_
  refine then_n ?_
  refine sy_n (.tmp 3) (part_rmvotes 50) (part_rmvotes 51) ?_
  refine sy_sq (part_rmvotes 102) (part_rmvotes 103) ?_
  refine sy_reg ?_
  refine rg_plain 3 (opsAt (part_rmvotes 102)) [0, 1, 2, 3] (by kernel_rfl) (by kernel_rfl) ?_
  refine ps_k (o_rmvotes 102 0) (pT gm 0) ?_
  refine ps_p (o_rmvotes 102 1) (.int .i64 m.k) (exec_ld 3 (.tmp 12) gm 0 Try.underlying3 (rc (h2) (Msg.get_n hr NF.k))) ?_
  refine ps_p (o_rmvotes 102 2) (.bool true) (eqt ((m.k) : Int) ((7) : Int) (by omega)) ?_
  refine ps_k (o_rmvotes 102 3) (.bool true) ?_
  refine ps_end ?_
  refine then_n ?_
  refine sy_ys (.tmp 11) (part_rmvotes 206) (part_rmvotes 207) ?_
  refine sy_sq (part_rmvotes 412) (part_rmvotes 413) ?_
  refine sy_reg ?_
  refine rg_plain 4 (opsAt (part_rmvotes 412)) [0, 1, 2, 3, 4] (by kernel_rfl) (by kernel_rfl) ?_
  refine ps_k (o_rmvotes 412 0) (pT gm 84) ?_
  refine ps_p (o_rmvotes 412 1) (.agg (Pro.c m.p)) (exec_load_seg 33 (.tmp 15) (by kernel_rfl) gm 84 (by kernel_rfl) (Pro.c m.p).toList _ _ _ h2 (Msg.seg_P hr) Try.underlying33 rfl (by rw [Pro.tl hr.p]; kernel_rfl)) ?_
  refine ps_c (o_rmvotes 412 2) 103 #[.agg (Pro.c m.p)] Try.func103 ((rvCheckBlock_ok m.p _ hr.p).mono ?_)
  rintro e V5 ⟨rfl, kV5⟩
  refine ⟨_, rfl, ?_⟩
  have h6 := kV5.bk h2
  have K7 := K4.nn kV5
  refine ps_k (o_rmvotes 412 3) (.bool ((((m.p.err) : Int) == ((0) : Int)))) ?_
  refine ps_k (o_rmvotes 412 4) (.bool ((((m.p.err) : Int) == ((0) : Int)))) ?_
  refine ps_end ?_
  refine then_n ?_
  refine sy_ret (by kernel_rfl) ?_
  refine blk_r ?_
  refine then_r ?_
  refine sy_out (.bool ((((m.p.err) : Int) == ((0) : Int)))) rfl (by kernel_rfl) ?_
  exact ⟨congrArg (fun b => Ending.returned (Value.bool b)) (pro_errB m.p), K7⟩
set_option maxRecDepth 100000 in
set_option maxHeartbeats 4000000 in
theorem rmvotes_8pn (m : Msg) (w : World) (hr : m.R) (h8 : m.k = 8) (hp : m.pf = 3) (hx1 : ¬ m.p.fine) :
    Calls Try.prog 80 #[.agg (Msg.c m)] w (fun e w' => e = .returned (.bool (false)) ∧ Keeps Nob w w') := by
  have K0 : Keeps Nob w w := Keeps.refl _ _
  refine sy_enter (part_rmvotes 1) ⟨#[.agg (Msg.c m), undef, undef, undef, undef, undef, undef, undef, undef, undef, undef, undef, undef, undef, undef, undef, undef, undef, undef, undef, undef, undef, undef, undef, undef, undef, undef, undef, undef, undef, undef, undef, undef, undef, undef, undef, undef, undef, undef, undef, undef, undef, undef], []⟩ Try.func80 (by kernel_rfl) (by kernel_rfl) ?_
  refine sy_sq (part_rmvotes 2) (part_rmvotes 3) ?_
  refine sy_reg ?_
  refine rg_plain 0 (opsAt (part_rmvotes 2)) [0, 1] (by kernel_rfl) (by kernel_rfl) ?_
  obtain ⟨V1, eV1, gm, egm, h2, kV1⟩ := alloc_step w ((Msg.c m)) 35
  have n3 : w.heap.size ≤ gm := egm ▸ K0.size
  refine ps_r (o_rmvotes 2 0) (pT gm 0) (w' := V1) (by rw [← eV1, ← egm]; exact exec_box 35 (.tmp 0) (by kernel_rfl) (.agg (Msg.c m)) (by kernel_rfl)) ?_
  clear eV1
  have K4 := K0.nn kV1
  refine ps_k (o_rmvotes 2 1) (.bool false) ?_
  refine ps_end ?_
  refine then_n ?_
  refine sy_sq (part_rmvotes 6) (part_rmvotes 7) ?_
  refine sy_bk 0 (part_rmvotes 12) ?_
  refine sy_sq (part_rmvotes 24) (part_rmvotes 25) ?_
  refine sy_reg ?_
  refine rg_plain 1 (opsAt (part_rmvotes 24)) [0, 1, 2, 3] (by kernel_rfl) (by kernel_rfl) ?_
  refine ps_k (o_rmvotes 24 0) (pT gm 0) ?_
  refine ps_p (o_rmvotes 24 1) (.int .i64 m.k) (exec_ld 3 (.tmp 4) gm 0 Try.underlying3 (rc (h2) (Msg.get_n hr NF.k))) ?_
  refine ps_p (o_rmvotes 24 2) (.bool false) (eqf ((m.k) : Int) ((6) : Int) (by omega)) ?_
  refine ps_k (o_rmvotes 24 3) (.bool false) ?_
  refine ps_end ?_
  refine then_n ?_
  refine sy_n (.tmp 3) (part_rmvotes 50) (part_rmvotes 51) ?_
  refine sy_sq (part_rmvotes 102) (part_rmvotes 103) ?_
  refine sy_reg ?_
  refine rg_plain 3 (opsAt (part_rmvotes 102)) [0, 1, 2, 3] (by kernel_rfl) (by kernel_rfl) ?_
  refine ps_k (o_rmvotes 102 0) (pT gm 0) ?_
  refine ps_p (o_rmvotes 102 1) (.int .i64 m.k) (exec_ld 3 (.tmp 12) gm 0 Try.underlying3 (rc (h2) (Msg.get_n hr NF.k))) ?_
  refine ps_p (o_rmvotes 102 2) (.bool false) (eqf ((m.k) : Int) ((7) : Int) (by omega)) ?_
  refine ps_k (o_rmvotes 102 3) (.bool false) ?_
  refine ps_end ?_
  refine then_n ?_
  refine sy_n (.tmp 11) (part_rmvotes 206) (part_rmvotes 207) ?_
  refine sy_sq (part_rmvotes 414) (part_rmvotes 415) ?_
  refine sy_reg ?_
  refine rg_plain 5 (opsAt (part_rmvotes 414)) [0, 1, 2, 3] (by kernel_rfl) (by kernel_rfl) ?_
  refine ps_k (o_rmvotes 414 0) (pT gm 11) ?_
  refine ps_p (o_rmvotes 414 1) (.int .i64 m.pf) (exec_ld 3 (.tmp 20) gm 11 Try.underlying3 (rc (h2) (Msg.get_n hr NF.pf))) ?_
  refine ps_p (o_rmvotes 414 2) (.bool true) (eqt ((m.pf) : Int) ((3) : Int) (by omega)) ?_
  refine ps_k (o_rmvotes 414 3) (.bool true) ?_
  refine ps_end ?_
  refine then_n ?_
  refine sy_ys (.tmp 19) (part_rmvotes 830) (part_rmvotes 831) ?_
  refine sy_sq (part_rmvotes 1660) (part_rmvotes 1661) ?_
  refine sy_reg ?_
  refine rg_plain 6 (opsAt (part_rmvotes 1660)) [0, 1, 2, 3, 4, 5, 6, 7, 8, 9, 10] (by kernel_rfl) (by kernel_rfl) ?_
  refine ps_k (o_rmvotes 1660 0) (pT gm 84) ?_
  refine ps_p (o_rmvotes 1660 1) (.agg (Pro.c m.p)) (exec_load_seg 33 (.tmp 23) (by kernel_rfl) gm 84 (by kernel_rfl) (Pro.c m.p).toList _ _ _ h2 (Msg.seg_P hr) Try.underlying33 rfl (by rw [Pro.tl hr.p]; kernel_rfl)) ?_
  refine ps_c (o_rmvotes 1660 2) 103 #[.agg (Pro.c m.p)] Try.func103 ((rvCheckBlock_ok m.p _ hr.p).mono ?_)
  rintro e V5 ⟨rfl, kV5⟩
  refine ⟨_, rfl, ?_⟩
  have h6 := kV5.bk h2
  have K7 := K4.nn kV5
  refine ps_p (o_rmvotes 1660 3) (.bool false) (exec_cast (congrArg Value.bool (show ((((m.p.err) : Int) == ((0) : Int))) = false from (pro_errB m.p).trans (decide_eq_false hx1))) (by kernel_rfl)) ?_
  refine ps_k (o_rmvotes 1660 4) (.bool false) ?_
  refine ps_n (o_rmvotes 1660 5) ?_
  refine ps_n (o_rmvotes 1660 6) ?_
  refine ps_n (o_rmvotes 1660 7) ?_
  refine ps_n (o_rmvotes 1660 8) ?_
  refine ps_k (o_rmvotes 1660 9) (.bool false) ?_
  refine ps_k (o_rmvotes 1660 10) (.bool false) ?_
  refine ps_end ?_
  refine sy_a ⟨#[.agg (Msg.c m), pT gm 0, .bool false, .bool false, pT gm 0, .int .i64 m.k, .bool false, undef, undef, undef, undef, .bool false, pT gm 0, .int .i64 m.k, .bool false, undef, undef, undef, undef, .bool true, pT gm 11, .int .i64 m.pf, .bool true, pT gm 84, .agg (Pro.c m.p), .int .i64 m.p.err, .bool false, .bool false, undef, undef, undef, undef, .bool false, undef, undef, undef, undef, undef, undef, undef, undef, undef, undef], []⟩ ?_
  refine then_n ?_
  refine sy_ret (by kernel_rfl) ?_
  refine blk_r ?_
  refine then_r ?_
  refine sy_out (.bool false) rfl (by kernel_rfl) ?_
  exact ⟨rfl, K7⟩
set_option maxRecDepth 100000 in
set_option maxHeartbeats 4000000 in
theorem rmvotes_8py (m : Msg) (w : World) (hr : m.R) (h8 : m.k = 8) (hp : m.pf = 3) (hx1 : m.p.fine) :
    Calls Try.prog 80 #[.agg (Msg.c m)] w (fun e w' => e = .returned (.bool (decide m.q.fine)) ∧ Keeps Nob w w') := by
  have K0 : Keeps Nob w w := Keeps.refl _ _
  refine sy_enter (part_rmvotes 1) ⟨#[.agg (Msg.c m), undef, undef, undef, undef, undef, undef, undef, undef, undef, undef, undef, undef, undef, undef, undef, undef, undef, undef, undef, undef, undef, undef, undef, undef, undef, undef, undef, undef, undef, undef, undef, undef, undef, undef, undef, undef, undef, undef, undef, undef, undef, undef], []⟩ Try.func80 (by kernel_rfl) (by kernel_rfl) ?_
  refine sy_sq (part_rmvotes 2) (part_rmvotes 3) ?_
  refine sy_reg ?_
  refine rg_plain 0 (opsAt (part_rmvotes 2)) [0, 1] (by kernel_rfl) (by kernel_rfl) ?_
  obtain ⟨V1, eV1, gm, egm, h2, kV1⟩ := alloc_step w ((Msg.c m)) 35
  have n3 : w.heap.size ≤ gm := egm ▸ K0.size
  refine ps_r (o_rmvotes 2 0) (pT gm 0) (w' := V1) (by rw [← eV1, ← egm]; exact exec_box 35 (.tmp 0) (by kernel_rfl) (.agg (Msg.c m)) (by kernel_rfl)) ?_
  clear eV1
  have K4 := K0.nn kV1
  refine ps_k (o_rmvotes 2 1) (.bool false) ?_
  refine ps_end ?_
  refine then_n ?_
  refine sy_sq (part_rmvotes 6) (part_rmvotes 7) ?_
  refine sy_bk 0 (part_rmvotes 12) ?_
  refine sy_sq (part_rmvotes 24) (part_rmvotes 25) ?_
  refine sy_reg ?_
  refine rg_plain 1 (opsAt (part_rmvotes 24)) [0, 1, 2, 3] (by kernel_rfl) (by kernel_rfl) ?_
  refine ps_k (o_rmvotes 24 0) (pT gm 0) ?_
  refine ps_p (o_rmvotes 24 1) (.int .i64 m.k) (exec_ld 3 (.tmp 4) gm 0 Try.underlying3 (rc (h2) (Msg.get_n hr NF.k))) ?_
  refine ps_p (o_rmvotes 24 2) (.bool false) (eqf ((m.k) : Int) ((6) : Int) (by omega)) ?_
  refine ps_k (o_rmvotes 24 3) (.bool false) ?_
  refine ps_end ?_
  refine then_n ?_
  refine sy_n (.tmp 3) (part_rmvotes 50) (part_rmvotes 51) ?_
  refine sy_sq (part_rmvotes 102) (part_rmvotes 103) ?_
  refine sy_reg ?_
  refine rg_plain 3 (opsAt (part_rmvotes 102)) [0, 1, 2, 3] (by kernel_rfl) (by kernel_rfl) ?_
  refine ps_k (o_rmvotes 102 0) (pT gm 0) ?_
  refine ps_p (o_rmvotes 102 1) (.int .i64 m.k) (exec_ld 3 (.tmp 12) gm 0 Try.underlying3 (rc (h2) (Msg.get_n hr NF.k))) ?_
  refine ps_p (o_rmvotes 102 2) (.bool false) (eqf ((m.k) : Int) ((7) : Int) (by omega)) ?_
  refine ps_k (o_rmvotes 102 3) (.bool false) ?_
  refine ps_end ?_
  refine then_n ?_
  refine sy_n (.tmp 11) (part_rmvotes 206) (part_rmvotes 207) ?_
  refine sy_sq (part_rmvotes 414) (part_rmvotes 415) ?_
  refine sy_reg ?_
  refine rg_plain 5 (opsAt (part_rmvotes 414)) [0, 1, 2, 3] (by kernel_rfl) (by kernel_rfl) ?_
  refine ps_k (o_rmvotes 414 0) (pT gm 11) ?_
  refine ps_p (o_rmvotes 414 1) (.int .i64 m.pf) (exec_ld 3 (.tmp 20) gm 11 Try.underlying3 (rc (h2) (Msg.get_n hr NF.pf))) ?_
  refine ps_p (o_rmvotes 414 2) (.bool true) (eqt ((m.pf) : Int) ((3) : Int) (by omega)) ?_
  refine ps_k (o_rmvotes 414 3) (.bool true) ?_
  refine ps_end ?_
  refine then_n ?_
  refine sy_ys (.tmp 19) (part_rmvotes 830) (part_rmvotes 831) ?_
  refine sy_sq (part_rmvotes 1660) (part_rmvotes 1661) ?_
  refine sy_reg ?_
  refine rg_plain 6 (opsAt (part_rmvotes 1660)) [0, 1, 2, 3, 4, 5, 6, 7, 8, 9, 10] (by kernel_rfl) (by kernel_rfl) ?_
  refine ps_k (o_rmvotes 1660 0) (pT gm 84) ?_
  refine ps_p (o_rmvotes 1660 1) (.agg (Pro.c m.p)) (exec_load_seg 33 (.tmp 23) (by kernel_rfl) gm 84 (by kernel_rfl) (Pro.c m.p).toList _ _ _ h2 (Msg.seg_P hr) Try.underlying33 rfl (by rw [Pro.tl hr.p]; kernel_rfl)) ?_
  refine ps_c (o_rmvotes 1660 2) 103 #[.agg (Pro.c m.p)] Try.func103 ((rvCheckBlock_ok m.p _ hr.p).mono ?_)
  rintro e V5 ⟨rfl, kV5⟩
  refine ⟨_, rfl, ?_⟩
  have h6 := kV5.bk h2
  have K7 := K4.nn kV5
  refine ps_p (o_rmvotes 1660 3) (.bool true) (exec_cast (congrArg Value.bool (show ((((m.p.err) : Int) == ((0) : Int))) = true from (pro_errB m.p).trans (decide_eq_true hx1))) (by kernel_rfl)) ?_
  refine ps_k (o_rmvotes 1660 4) (.bool true) ?_
  refine ps_k (o_rmvotes 1660 5) (pT gm 119) ?_
  refine ps_p (o_rmvotes 1660 6) (.agg (Pro.c m.q)) (exec_load_seg 33 (.tmp 28) (by kernel_rfl) gm 119 (by kernel_rfl) (Pro.c m.q).toList _ _ _ h6 (Msg.seg_Q hr) Try.underlying33 rfl (by rw [Pro.tl hr.q]; kernel_rfl)) ?_
  refine ps_c (o_rmvotes 1660 7) 103 #[.agg (Pro.c m.q)] Try.func103 ((rvCheckBlock_ok m.q _ hr.q).mono ?_)
  rintro e V8 ⟨rfl, kV8⟩
  refine ⟨_, rfl, ?_⟩
  have h9 := kV8.bk h6
  have K10 := K7.nn kV8
  refine ps_k (o_rmvotes 1660 8) (.bool ((((m.q.err) : Int) == ((0) : Int)))) ?_
  refine ps_k (o_rmvotes 1660 9) (.bool ((((m.q.err) : Int) == ((0) : Int)))) ?_
  refine ps_k (o_rmvotes 1660 10) (.bool ((((m.q.err) : Int) == ((0) : Int)))) ?_
  refine ps_end ?_
  refine sy_a ⟨#[.agg (Msg.c m), pT gm 0, .bool ((((m.q.err) : Int) == ((0) : Int))), .bool false, pT gm 0, .int .i64 m.k, .bool false, undef, undef, undef, undef, .bool false, pT gm 0, .int .i64 m.k, .bool false, undef, undef, undef, undef, .bool true, pT gm 11, .int .i64 m.pf, .bool true, pT gm 84, .agg (Pro.c m.p), .int .i64 m.p.err, .bool true, .bool true, pT gm 119, .agg (Pro.c m.q), .int .i64 m.q.err, .bool ((((m.q.err) : Int) == ((0) : Int))), .bool ((((m.q.err) : Int) == ((0) : Int))), undef, undef, undef, undef, undef, undef, undef, undef, undef, undef], []⟩ ?_
  refine then_n ?_
  refine sy_ret (by kernel_rfl) ?_
  refine blk_r ?_
  refine then_r ?_
  refine sy_out (.bool ((((m.q.err) : Int) == ((0) : Int)))) rfl (by kernel_rfl) ?_
  exact ⟨congrArg (fun b => Ending.returned (Value.bool b)) (pro_errB m.q), K10⟩
set_option maxRecDepth 100000 in
set_option maxHeartbeats 4000000 in
theorem rmvotes_8an (m : Msg) (w : World) (hr : m.R) (h8 : m.k = 8) (hp : ¬ m.pf = 3) (hx1 : ¬ m.a.fine) :
    Calls Try.prog 80 #[.agg (Msg.c m)] w (fun e w' => e = .returned (.bool (false)) ∧ Keeps Nob w w') := by
  have K0 : Keeps Nob w w := Keeps.refl _ _
  refine sy_enter (part_rmvotes 1) ⟨#[.agg (Msg.c m), undef, undef, undef, undef, undef, undef, undef, undef, undef, undef, undef, undef, undef, undef, undef, undef, undef, undef, undef, undef, undef, undef, undef, undef, undef, undef, undef, undef, undef, undef, undef, undef, undef, undef, undef, undef, undef, undef, undef, undef, undef, undef], []⟩ Try.func80 (by kernel_rfl) (by kernel_rfl) ?_
  refine sy_sq (part_rmvotes 2) (part_rmvotes 3) ?_
  refine sy_reg ?_
  refine rg_plain 0 (opsAt (part_rmvotes 2)) [0, 1] (by kernel_rfl) (by kernel_rfl) ?_
  obtain ⟨V1, eV1, gm, egm, h2, kV1⟩ := alloc_step w ((Msg.c m)) 35
  have n3 : w.heap.size ≤ gm := egm ▸ K0.size
  refine ps_r (o_rmvotes 2 0) (pT gm 0) (w' := V1) (by rw [← eV1, ← egm]; exact exec_box 35 (.tmp 0) (by kernel_rfl) (.agg (Msg.c m)) (by kernel_rfl)) ?_
  clear eV1
  have K4 := K0.nn kV1
  refine ps_k (o_rmvotes 2 1) (.bool false) ?_
  refine ps_end ?_
  refine then_n ?_
  refine sy_sq (part_rmvotes 6) (part_rmvotes 7) ?_
  refine sy_bk 0 (part_rmvotes 12) ?_
  refine sy_sq (part_rmvotes 24) (part_rmvotes 25) ?_
  refine sy_reg ?_
  refine rg_plain 1 (opsAt (part_rmvotes 24)) [0, 1, 2, 3] (by kernel_rfl) (by kernel_rfl) ?_
  refine ps_k (o_rmvotes 24 0) (pT gm 0) ?_
  refine ps_p (o_rmvotes 24 1) (.int .i64 m.k) (exec_ld 3 (.tmp 4) gm 0 Try.underlying3 (rc (h2) (Msg.get_n hr NF.k))) ?_
  refine ps_p (o_rmvotes 24 2) (.bool false) (eqf ((m.k) : Int) ((6) : Int) (by omega)) ?_
  refine ps_k (o_rmvotes 24 3) (.bool false) ?_
  refine ps_end ?_
  refine then_n ?_
  refine sy_n (.tmp 3) (part_rmvotes 50) (part_rmvotes 51) ?_
  refine sy_sq (part_rmvotes 102) (part_rmvotes 103) ?_
  refine sy_reg ?_
  refine rg_plain 3 (opsAt (part_rmvotes 102)) [0, 1, 2, 3] (by kernel_rfl) (by kernel_rfl) ?_
  refine ps_k (o_rmvotes 102 0) (pT gm 0) ?_
  refine ps_p (o_rmvotes 102 1) (.int .i64 m.k) (exec_ld 3 (.tmp 12) gm 0 Try.underlying3 (rc (h2) (Msg.get_n hr NF.k))) ?_
  refine ps_p (o_rmvotes 102 2) (.bool false) (eqf ((m.k) : Int) ((7) : Int) (by omega)) ?_
  refine ps_k (o_rmvotes 102 3) (.bool false) ?_
  refine ps_end ?_
  refine then_n ?_
  refine sy_n (.tmp 11) (part_rmvotes 206) (part_rmvotes 207) ?_
  refine sy_sq (part_rmvotes 414) (part_rmvotes 415) ?_
  refine sy_reg ?_
  refine rg_plain 5 (opsAt (part_rmvotes 414)) [0, 1, 2, 3] (by kernel_rfl) (by kernel_rfl) ?_
  refine ps_k (o_rmvotes 414 0) (pT gm 11) ?_
  refine ps_p (o_rmvotes 414 1) (.int .i64 m.pf) (exec_ld 3 (.tmp 20) gm 11 Try.underlying3 (rc (h2) (Msg.get_n hr NF.pf))) ?_
  refine ps_p (o_rmvotes 414 2) (.bool false) (eqf ((m.pf) : Int) ((3) : Int) (by omega)) ?_
  refine ps_k (o_rmvotes 414 3) (.bool false) ?_
  refine ps_end ?_
  refine then_n ?_
  refine sy_n (.tmp 19) (part_rmvotes 830) (part_rmvotes 831) ?_
  refine sy_sk ?_
  refine blk_n ?_
  refine then_n ?_
  refine sy_sq (part_rmvotes 14) (part_rmvotes 15) ?_
  refine sy_reg ?_
  refine rg_plain 7 (opsAt (part_rmvotes 14)) [0, 1, 2, 3, 4, 5, 6, 7, 8, 9, 10] (by kernel_rfl) (by kernel_rfl) ?_
  refine ps_k (o_rmvotes 14 0) (pT gm 12) ?_
  refine ps_p (o_rmvotes 14 1) (.agg (Att.c m.a)) (exec_load_seg 31 (.tmp 33) (by kernel_rfl) gm 12 (by kernel_rfl) (Att.c m.a).toList _ _ _ h2 (Msg.seg_A hr) Try.underlying31 rfl (by rw [Att.tl hr.a]; kernel_rfl)) ?_
  refine ps_c (o_rmvotes 14 2) 101 #[.agg (Att.c m.a)] Try.func101 ((rvCheck_ok m.a _ hr.a).mono ?_)
  rintro e V5 ⟨rfl, kV5⟩
  refine ⟨_, rfl, ?_⟩
  have h6 := kV5.bk h2
  have K7 := K4.nn kV5
  refine ps_p (o_rmvotes 14 3) (.bool false) (exec_cast (congrArg Value.bool (show ((((m.a.err) : Int) == ((0) : Int))) = false from (att_errB m.a).trans (decide_eq_false hx1))) (by kernel_rfl)) ?_
  refine ps_k (o_rmvotes 14 4) (.bool false) ?_
  refine ps_n (o_rmvotes 14 5) ?_
  refine ps_n (o_rmvotes 14 6) ?_
  refine ps_n (o_rmvotes 14 7) ?_
  refine ps_n (o_rmvotes 14 8) ?_
  refine ps_k (o_rmvotes 14 9) (.bool false) ?_
  refine ps_k (o_rmvotes 14 10) (.bool false) ?_
  refine ps_end ?_
  refine sy_a ⟨#[.agg (Msg.c m), pT gm 0, .bool false, .bool false, pT gm 0, .int .i64 m.k, .bool false, undef, undef, undef, undef, .bool false, pT gm 0, .int .i64 m.k, .bool false, undef, undef, undef, undef, .bool false, pT gm 11, .int .i64 m.pf, .bool false, undef, undef, undef, undef, undef, undef, undef, undef, undef, undef, pT gm 12, .agg (Att.c m.a), .int .i64 m.a.err, .bool false, .bool false, undef, undef, undef, undef, .bool false], []⟩ ?_
  refine then_n ?_
  refine sy_ret (by kernel_rfl) ?_
  refine sy_out (.bool false) rfl (by kernel_rfl) ?_
  exact ⟨rfl, K7⟩
set_option maxRecDepth 100000 in
set_option maxHeartbeats 4000000 in
theorem rmvotes_8ay (m : Msg) (w : World) (hr : m.R) (h8 : m.k = 8) (hp : ¬ m.pf = 3) (hx1 : m.a.fine) :
    Calls Try.prog 80 #[.agg (Msg.c m)] w (fun e w' => e = .returned (.bool (decide m.b.fine)) ∧ Keeps Nob w w') := by
  have K0 : Keeps Nob w w := Keeps.refl _ _
  refine sy_enter (part_rmvotes 1) ⟨#[.agg (Msg.c m), undef, undef, undef, undef, undef, undef, undef, undef, undef, undef, undef, undef, undef, undef, undef, undef, undef, undef, undef, undef, undef, undef, undef, undef, undef, undef, undef, undef, undef, undef, undef, undef, undef, undef, undef, undef, undef, undef, undef, undef, undef, undef], []⟩ Try.func80 (by kernel_rfl) (by kernel_rfl) ?_
  refine sy_sq (part_rmvotes 2) (part_rmvotes 3) ?_
  refine sy_reg ?_
  refine rg_plain 0 (opsAt (part_rmvotes 2)) [0, 1] (by kernel_rfl) (by kernel_rfl) ?_
  obtain ⟨V1, eV1, gm, egm, h2, kV1⟩ := alloc_step w ((Msg.c m)) 35
  have n3 : w.heap.size ≤ gm := egm ▸ K0.size
  refine ps_r (o_rmvotes 2 0) (pT gm 0) (w' := V1) (by rw [← eV1, ← egm]; exact exec_box 35 (.tmp 0) (by kernel_rfl) (.agg (Msg.c m)) (by kernel_rfl)) ?_
  clear eV1
  have K4 := K0.nn kV1
  refine ps_k (o_rmvotes 2 1) (.bool false) ?_
  refine ps_end ?_
  refine then_n ?_
  refine sy_sq (part_rmvotes 6) (part_rmvotes 7) ?_
  refine sy_bk 0 (part_rmvotes 12) ?_
  refine sy_sq (part_rmvotes 24) (part_rmvotes 25) ?_
  refine sy_reg ?_
  refine rg_plain 1 (opsAt (part_rmvotes 24)) [0, 1, 2, 3] (by kernel_rfl) (by kernel_rfl) ?_
  refine ps_k (o_rmvotes 24 0) (pT gm 0) ?_
  refine ps_p (o_rmvotes 24 1) (.int .i64 m.k) (exec_ld 3 (.tmp 4) gm 0 Try.underlying3 (rc (h2) (Msg.get_n hr NF.k))) ?_
  refine ps_p (o_rmvotes 24 2) (.bool false) (eqf ((m.k) : Int) ((6) : Int) (by omega)) ?_
  refine ps_k (o_rmvotes 24 3) (.bool false) ?_
  refine ps_end ?_
  refine then_n ?_
  refine sy_n (.tmp 3) (part_rmvotes 50) (part_rmvotes 51) ?_
  refine sy_sq (part_rmvotes 102) (part_rmvotes 103) ?_
  refine sy_reg ?_
  refine rg_plain 3 (opsAt (part_rmvotes 102)) [0, 1, 2, 3] (by kernel_rfl) (by kernel_rfl) ?_
  refine ps_k (o_rmvotes 102 0) (pT gm 0) ?_
  refine ps_p (o_rmvotes 102 1) (.int .i64 m.k) (exec_ld 3 (.tmp 12) gm 0 Try.underlying3 (rc (h2) (Msg.get_n hr NF.k))) ?_
  refine ps_p (o_rmvotes 102 2) (.bool false) (eqf ((m.k) : Int) ((7) : Int) (by omega)) ?_
  refine ps_k (o_rmvotes 102 3) (.bool false) ?_
  refine ps_end ?_
  refine then_n ?_
  refine sy_n (.tmp 11) (part_rmvotes 206) (part_rmvotes 207) ?_
  refine sy_sq (part_rmvotes 414) (part_rmvotes 415) ?_
  refine sy_reg ?_
  refine rg_plain 5 (opsAt (part_rmvotes 414)) [0, 1, 2, 3] (by kernel_rfl) (by kernel_rfl) ?_
  refine ps_k (o_rmvotes 414 0) (pT gm 11) ?_
  refine ps_p (o_rmvotes 414 1) (.int .i64 m.pf) (exec_ld 3 (.tmp 20) gm 11 Try.underlying3 (rc (h2) (Msg.get_n hr NF.pf))) ?_
  refine ps_p (o_rmvotes 414 2) (.bool false) (eqf ((m.pf) : Int) ((3) : Int) (by omega)) ?_
  refine ps_k (o_rmvotes 414 3) (.bool false) ?_
  refine ps_end ?_
  refine then_n ?_
  refine sy_n (.tmp 19) (part_rmvotes 830) (part_rmvotes 831) ?_
  refine sy_sk ?_
  refine blk_n ?_
  refine then_n ?_
  refine sy_sq (part_rmvotes 14) (part_rmvotes 15) ?_
  refine sy_reg ?_
  refine rg_plain 7 (opsAt (part_rmvotes 14)) [0, 1, 2, 3, 4, 5, 6, 7, 8, 9, 10] (by kernel_rfl) (by kernel_rfl) ?_
  refine ps_k (o_rmvotes 14 0) (pT gm 12) ?_
  refine ps_p (o_rmvotes 14 1) (.agg (Att.c m.a)) (exec_load_seg 31 (.tmp 33) (by kernel_rfl) gm 12 (by kernel_rfl) (Att.c m.a).toList _ _ _ h2 (Msg.seg_A hr) Try.underlying31 rfl (by rw [Att.tl hr.a]; kernel_rfl)) ?_
  refine ps_c (o_rmvotes 14 2) 101 #[.agg (Att.c m.a)] Try.func101 ((rvCheck_ok m.a _ hr.a).mono ?_)
  rintro e V5 ⟨rfl, kV5⟩
  refine ⟨_, rfl, ?_⟩
  have h6 := kV5.bk h2
  have K7 := K4.nn kV5
  refine ps_p (o_rmvotes 14 3) (.bool true) (exec_cast (congrArg Value.bool (show ((((m.a.err) : Int) == ((0) : Int))) = true from (att_errB m.a).trans (decide_eq_true hx1))) (by kernel_rfl)) ?_
  refine ps_k (o_rmvotes 14 4) (.bool true) ?_
  refine ps_k (o_rmvotes 14 5) (pT gm 48) ?_
  refine ps_p (o_rmvotes 14 6) (.agg (Att.c m.b)) (exec_load_seg 31 (.tmp 38) (by kernel_rfl) gm 48 (by kernel_rfl) (Att.c m.b).toList _ _ _ h6 (Msg.seg_B hr) Try.underlying31 rfl (by rw [Att.tl hr.b]; kernel_rfl)) ?_
  refine ps_c (o_rmvotes 14 7) 101 #[.agg (Att.c m.b)] Try.func101 ((rvCheck_ok m.b _ hr.b).mono ?_)
  rintro e V8 ⟨rfl, kV8⟩
  refine ⟨_, rfl, ?_⟩
  have h9 := kV8.bk h6
  have K10 := K7.nn kV8
  refine ps_k (o_rmvotes 14 8) (.bool ((((m.b.err) : Int) == ((0) : Int)))) ?_
  refine ps_k (o_rmvotes 14 9) (.bool ((((m.b.err) : Int) == ((0) : Int)))) ?_
  refine ps_k (o_rmvotes 14 10) (.bool ((((m.b.err) : Int) == ((0) : Int)))) ?_
  refine ps_end ?_
  refine sy_a ⟨#[.agg (Msg.c m), pT gm 0, .bool ((((m.b.err) : Int) == ((0) : Int))), .bool false, pT gm 0, .int .i64 m.k, .bool false, undef, undef, undef, undef, .bool false, pT gm 0, .int .i64 m.k, .bool false, undef, undef, undef, undef, .bool false, pT gm 11, .int .i64 m.pf, .bool false, undef, undef, undef, undef, undef, undef, undef, undef, undef, undef, pT gm 12, .agg (Att.c m.a), .int .i64 m.a.err, .bool true, .bool true, pT gm 48, .agg (Att.c m.b), .int .i64 m.b.err, .bool ((((m.b.err) : Int) == ((0) : Int))), .bool ((((m.b.err) : Int) == ((0) : Int)))], []⟩ ?_
  refine then_n ?_
  refine sy_ret (by kernel_rfl) ?_
  refine sy_out (.bool ((((m.b.err) : Int) == ((0) : Int)))) rfl (by kernel_rfl) ?_
  exact ⟨congrArg (fun b => Ending.returned (Value.bool b)) (att_errB m.b), K10⟩
theorem rmvotes_ok (m : Msg) (w : World) (hr : m.R) (hk : m.k = 6 ∨ m.k = 7 ∨ m.k = 8) : Calls Try.prog 80 #[.agg (Msg.c m)] w (fun e w' => e = .returned (.bool (votesB m)) ∧ Keeps Nob w w') := by
  unfold votesB
  rcases hk with h | h | h
  · rw [if_pos h]; exact rmvotes_6 m w hr h
  · rw [if_neg (by omega), if_pos h]; exact rmvotes_7 m w hr h
  · rw [if_neg (by omega), if_neg (by omega)]
    by_cases hp : m.pf = 3
    · rw [if_pos hp]
      by_cases h1 : m.p.fine
      · rw [decide_eq_true h1, Bool.true_and]; exact rmvotes_8py m w hr h hp h1
      · rw [decide_eq_false h1, Bool.false_and]; exact rmvotes_8pn m w hr h hp h1
    · rw [if_neg hp]
      by_cases h1 : m.a.fine
      · rw [decide_eq_true h1, Bool.true_and]; exact rmvotes_8ay m w hr h hp h1
      · rw [decide_eq_false h1, Bool.false_and]; exact rmvotes_8an m w hr h hp h1
noncomputable def part_rmfine (n : Nat) : Code := partOf Try.f54 n
noncomputable abbrev o_rmfine (n k : Nat) : Oper := (opsAt (part_rmfine n)).getD k default
set_option maxRecDepth 100000 in
set_option maxHeartbeats 4000000 in
theorem rmfine_no (m : Msg) (w : World) (hr : m.R) (hk : ¬ m.k = 11) (hf : inB m.f 0 63 = false) :
    Calls Try.prog 54 #[.agg (Msg.c m)] w (fun e w' => e = .returned (.bool false) ∧ Keeps Nob w w') := by
  have K0 : Keeps Nob w w := Keeps.refl _ _
  refine sy_enter (part_rmfine 1) ⟨#[.agg (Msg.c m), undef, undef, undef, undef, undef, undef, undef, undef, undef, undef, undef, undef, undef, undef, undef, undef, undef, undef, undef, undef, undef, undef, undef, undef, undef, undef, undef, undef, undef, undef, undef, undef, undef, undef, undef, undef, undef, undef, undef, undef, undef, undef, undef, undef, undef, undef], []⟩ Try.func54 (by kernel_rfl) (by kernel_rfl) ?_
  refine sy_sq (part_rmfine 2) (part_rmfine 3) ?_
  refine sy_reg ?_
  refine rg_plain 0 (opsAt (part_rmfine 2)) [0, 1] (by kernel_rfl) (by kernel_rfl) ?_
  obtain ⟨V1, eV1, gm, egm, h2, kV1⟩ := alloc_step w ((Msg.c m)) 35
  have n3 : w.heap.size ≤ gm := egm ▸ K0.size
  refine ps_r (o_rmfine 2 0) (pT gm 0) (w' := V1) (by rw [← eV1, ← egm]; exact exec_box 35 (.tmp 0) (by kernel_rfl) (.agg (Msg.c m)) (by kernel_rfl)) ?_
  clear eV1
  have K4 := K0.nn kV1
  refine ps_k (o_rmfine 2 1) (.bool false) ?_
  refine ps_end ?_
  refine then_n ?_
  refine sy_sq (part_rmfine 6) (part_rmfine 7) ?_
  refine sy_sq (part_rmfine 12) (part_rmfine 13) ?_
  refine sy_reg ?_
  refine rg_plain 1 (opsAt (part_rmfine 12)) [0, 1, 2] (by kernel_rfl) (by kernel_rfl) ?_
  refine ps_k (o_rmfine 12 0) (pT gm 0) ?_
  refine ps_p (o_rmfine 12 1) (.int .i64 m.k) (exec_ld 3 (.tmp 3) gm 0 Try.underlying3 (rc (h2) (Msg.get_n hr NF.k))) ?_
  refine ps_p (o_rmfine 12 2) (.bool false) (eqf ((m.k) : Int) ((11) : Int) (by omega)) ?_
  refine ps_end ?_
  refine then_n ?_
  refine sy_n (.tmp 5) (part_rmfine 26) (part_rmfine 27) ?_
  refine sy_sk ?_
  refine then_n ?_
  refine sy_sq (part_rmfine 14) (part_rmfine 15) ?_
  refine sy_sq (part_rmfine 28) (part_rmfine 29) ?_
  refine sy_reg ?_
  refine rg_plain 3 (opsAt (part_rmfine 28)) [0, 1, 2, 3] (by kernel_rfl) (by kernel_rfl) ?_
  refine ps_k (o_rmfine 28 0) (pT gm 1) ?_
  refine ps_p (o_rmfine 28 1) (.int .i64 m.f) (exec_ld 3 (.tmp 9) gm 1 Try.underlying3 (rc (h2) (Msg.get_n hr NF.f))) ?_
  refine ps_c (o_rmfine 28 2) 77 #[.int .i64 m.f] Try.func77 ((rmaccount_is m.f _ hf).mono ?_)
  rintro e w1 ⟨rfl, rfl⟩
  refine ⟨_, rfl, ?_⟩
  refine ps_k (o_rmfine 28 3) (.bool true) ?_
  refine ps_end ?_
  refine then_n ?_
  refine sy_ys (.tmp 12) (part_rmfine 58) (part_rmfine 59) ?_
  refine sy_sq (part_rmfine 116) (part_rmfine 117) ?_
  refine sy_reg ?_
  refine rg_plain 4 (opsAt (part_rmfine 116)) [0] (by kernel_rfl) (by kernel_rfl) ?_
  refine ps_k (o_rmfine 116 0) (.bool false) ?_
  refine ps_end ?_
  refine then_n ?_
  refine sy_ret (by kernel_rfl) ?_
  refine then_r ?_
  refine sy_out (.bool false) rfl (by kernel_rfl) ?_
  exact ⟨rfl, K4⟩
set_option maxRecDepth 100000 in
set_option maxHeartbeats 4000000 in
theorem rmfine_1 (m : Msg) (w : World) (hr : m.R) (hk : m.k = 1) (hf : inB m.f 0 63 = true) :
    Calls Try.prog 54 #[.agg (Msg.c m)] w (fun e w' => e = .returned (.bool (inB m.t 0 63)) ∧ Keeps Nob w w') := by
  have K0 : Keeps Nob w w := Keeps.refl _ _
  refine sy_enter (part_rmfine 1) ⟨#[.agg (Msg.c m), undef, undef, undef, undef, undef, undef, undef, undef, undef, undef, undef, undef, undef, undef, undef, undef, undef, undef, undef, undef, undef, undef, undef, undef, undef, undef, undef, undef, undef, undef, undef, undef, undef, undef, undef, undef, undef, undef, undef, undef, undef, undef, undef, undef, undef, undef], []⟩ Try.func54 (by kernel_rfl) (by kernel_rfl) ?_
  refine sy_sq (part_rmfine 2) (part_rmfine 3) ?_
  refine sy_reg ?_
  refine rg_plain 0 (opsAt (part_rmfine 2)) [0, 1] (by kernel_rfl) (by kernel_rfl) ?_
  obtain ⟨V1, eV1, gm, egm, h2, kV1⟩ := alloc_step w ((Msg.c m)) 35
  have n3 : w.heap.size ≤ gm := egm ▸ K0.size
  refine ps_r (o_rmfine 2 0) (pT gm 0) (w' := V1) (by rw [← eV1, ← egm]; exact exec_box 35 (.tmp 0) (by kernel_rfl) (.agg (Msg.c m)) (by kernel_rfl)) ?_
  clear eV1
  have K4 := K0.nn kV1
  refine ps_k (o_rmfine 2 1) (.bool false) ?_
  refine ps_end ?_
  refine then_n ?_
  refine sy_sq (part_rmfine 6) (part_rmfine 7) ?_
  refine sy_sq (part_rmfine 12) (part_rmfine 13) ?_
  refine sy_reg ?_
  refine rg_plain 1 (opsAt (part_rmfine 12)) [0, 1, 2] (by kernel_rfl) (by kernel_rfl) ?_
  refine ps_k (o_rmfine 12 0) (pT gm 0) ?_
  refine ps_p (o_rmfine 12 1) (.int .i64 m.k) (exec_ld 3 (.tmp 3) gm 0 Try.underlying3 (rc (h2) (Msg.get_n hr NF.k))) ?_
  refine ps_p (o_rmfine 12 2) (.bool false) (eqf ((m.k) : Int) ((11) : Int) (by omega)) ?_
  refine ps_end ?_
  refine then_n ?_
  refine sy_n (.tmp 5) (part_rmfine 26) (part_rmfine 27) ?_
  refine sy_sk ?_
  refine then_n ?_
  refine sy_sq (part_rmfine 14) (part_rmfine 15) ?_
  refine sy_sq (part_rmfine 28) (part_rmfine 29) ?_
  refine sy_reg ?_
  refine rg_plain 3 (opsAt (part_rmfine 28)) [0, 1, 2, 3] (by kernel_rfl) (by kernel_rfl) ?_
  refine ps_k (o_rmfine 28 0) (pT gm 1) ?_
  refine ps_p (o_rmfine 28 1) (.int .i64 m.f) (exec_ld 3 (.tmp 9) gm 1 Try.underlying3 (rc (h2) (Msg.get_n hr NF.f))) ?_
  refine ps_c (o_rmfine 28 2) 77 #[.int .i64 m.f] Try.func77 ((rmaccount_is m.f _ hf).mono ?_)
  rintro e w1 ⟨rfl, rfl⟩
  refine ⟨_, rfl, ?_⟩
  refine ps_k (o_rmfine 28 3) (.bool false) ?_
  refine ps_end ?_
  refine then_n ?_
  refine sy_n (.tmp 12) (part_rmfine 58) (part_rmfine 59) ?_
  refine sy_sk ?_
  refine then_n ?_
  refine sy_sq (part_rmfine 30) (part_rmfine 31) ?_
  refine sy_sq (part_rmfine 60) (part_rmfine 61) ?_
  refine sy_reg ?_
  refine rg_plain 5 (opsAt (part_rmfine 60)) [0, 1] (by kernel_rfl) (by kernel_rfl) ?_
  refine ps_k (o_rmfine 60 0) (pT gm 0) ?_
  refine ps_p (o_rmfine 60 1) (.int .i64 m.k) (exec_ld 3 (.tmp 13) gm 0 Try.underlying3 (rc (h2) (Msg.get_n hr NF.k))) ?_
  refine ps_end ?_
  refine then_n ?_
  refine sy_bk 0 (part_rmfine 122) ?_
  refine sy_sq (part_rmfine 244) (part_rmfine 245) ?_
  refine sy_reg ?_
  refine rg_plain 6 (opsAt (part_rmfine 244)) [0, 1] (by kernel_rfl) (by kernel_rfl) ?_
  refine ps_p (o_rmfine 244 0) (.bool true) (eqt ((m.k) : Int) ((1) : Int) (by omega)) ?_
  refine ps_k (o_rmfine 244 1) (.bool true) ?_
  refine ps_end ?_
  refine then_n ?_
  refine sy_ys (.tmp 15) (part_rmfine 490) (part_rmfine 491) ?_
  refine sy_sq (part_rmfine 980) (part_rmfine 981) ?_
  refine sy_reg ?_
  refine rg_plain 7 (opsAt (part_rmfine 980)) [0, 1, 2, 3] (by kernel_rfl) (by kernel_rfl) ?_
  refine ps_k (o_rmfine 980 0) (pT gm 3) ?_
  refine ps_p (o_rmfine 980 1) (.int .i64 m.t) (exec_ld 3 (.tmp 17) gm 3 Try.underlying3 (rc (h2) (Msg.get_n hr NF.t))) ?_
  refine ps_c (o_rmfine 980 2) 77 #[.int .i64 m.t] Try.func77 ((rmaccount_ok m.t _).mono ?_)
  rintro e w1 ⟨rfl, rfl⟩
  refine ⟨_, rfl, ?_⟩
  refine ps_k (o_rmfine 980 3) (.bool (inB m.t 0 63)) ?_
  refine ps_end ?_
  refine then_n ?_
  refine sy_ret (by kernel_rfl) ?_
  refine blk_r ?_
  refine then_r ?_
  refine sy_out (.bool (inB m.t 0 63)) rfl (by kernel_rfl) ?_
  exact ⟨rfl, K4⟩
set_option maxRecDepth 100000 in
set_option maxHeartbeats 4000000 in
theorem rmfine_2 (m : Msg) (w : World) (hr : m.R) (hk : m.k = 2) (hf : inB m.f 0 63 = true) :
    Calls Try.prog 54 #[.agg (Msg.c m)] w (fun e w' => e = .returned (.bool (true)) ∧ Keeps Nob w w') := by
  have K0 : Keeps Nob w w := Keeps.refl _ _
  refine sy_enter (part_rmfine 1) ⟨#[.agg (Msg.c m), undef, undef, undef, undef, undef, undef, undef, undef, undef, undef, undef, undef, undef, undef, undef, undef, undef, undef, undef, undef, undef, undef, undef, undef, undef, undef, undef, undef, undef, undef, undef, undef, undef, undef, undef, undef, undef, undef, undef, undef, undef, undef, undef, undef, undef, undef], []⟩ Try.func54 (by kernel_rfl) (by kernel_rfl) ?_
  refine sy_sq (part_rmfine 2) (part_rmfine 3) ?_
  refine sy_reg ?_
  refine rg_plain 0 (opsAt (part_rmfine 2)) [0, 1] (by kernel_rfl) (by kernel_rfl) ?_
  obtain ⟨V1, eV1, gm, egm, h2, kV1⟩ := alloc_step w ((Msg.c m)) 35
  have n3 : w.heap.size ≤ gm := egm ▸ K0.size
  refine ps_r (o_rmfine 2 0) (pT gm 0) (w' := V1) (by rw [← eV1, ← egm]; exact exec_box 35 (.tmp 0) (by kernel_rfl) (.agg (Msg.c m)) (by kernel_rfl)) ?_
  clear eV1
  have K4 := K0.nn kV1
  refine ps_k (o_rmfine 2 1) (.bool false) ?_
  refine ps_end ?_
  refine then_n ?_
  refine sy_sq (part_rmfine 6) (part_rmfine 7) ?_
  refine sy_sq (part_rmfine 12) (part_rmfine 13) ?_
  refine sy_reg ?_
  refine rg_plain 1 (opsAt (part_rmfine 12)) [0, 1, 2] (by kernel_rfl) (by kernel_rfl) ?_
  refine ps_k (o_rmfine 12 0) (pT gm 0) ?_
  refine ps_p (o_rmfine 12 1) (.int .i64 m.k) (exec_ld 3 (.tmp 3) gm 0 Try.underlying3 (rc (h2) (Msg.get_n hr NF.k))) ?_
  refine ps_p (o_rmfine 12 2) (.bool false) (eqf ((m.k) : Int) ((11) : Int) (by omega)) ?_
  refine ps_end ?_
  refine then_n ?_
  refine sy_n (.tmp 5) (part_rmfine 26) (part_rmfine 27) ?_
  refine sy_sk ?_
  refine then_n ?_
  refine sy_sq (part_rmfine 14) (part_rmfine 15) ?_
  refine sy_sq (part_rmfine 28) (part_rmfine 29) ?_
  refine sy_reg ?_
  refine rg_plain 3 (opsAt (part_rmfine 28)) [0, 1, 2, 3] (by kernel_rfl) (by kernel_rfl) ?_
  refine ps_k (o_rmfine 28 0) (pT gm 1) ?_
  refine ps_p (o_rmfine 28 1) (.int .i64 m.f) (exec_ld 3 (.tmp 9) gm 1 Try.underlying3 (rc (h2) (Msg.get_n hr NF.f))) ?_
  refine ps_c (o_rmfine 28 2) 77 #[.int .i64 m.f] Try.func77 ((rmaccount_is m.f _ hf).mono ?_)
  rintro e w1 ⟨rfl, rfl⟩
  refine ⟨_, rfl, ?_⟩
  refine ps_k (o_rmfine 28 3) (.bool false) ?_
  refine ps_end ?_
  refine then_n ?_
  refine sy_n (.tmp 12) (part_rmfine 58) (part_rmfine 59) ?_
  refine sy_sk ?_
  refine then_n ?_
  refine sy_sq (part_rmfine 30) (part_rmfine 31) ?_
  refine sy_sq (part_rmfine 60) (part_rmfine 61) ?_
  refine sy_reg ?_
  refine rg_plain 5 (opsAt (part_rmfine 60)) [0, 1] (by kernel_rfl) (by kernel_rfl) ?_
  refine ps_k (o_rmfine 60 0) (pT gm 0) ?_
  refine ps_p (o_rmfine 60 1) (.int .i64 m.k) (exec_ld 3 (.tmp 13) gm 0 Try.underlying3 (rc (h2) (Msg.get_n hr NF.k))) ?_
  refine ps_end ?_
  refine then_n ?_
  refine sy_bk 0 (part_rmfine 122) ?_
  refine sy_sq (part_rmfine 244) (part_rmfine 245) ?_
  refine sy_reg ?_
  refine rg_plain 6 (opsAt (part_rmfine 244)) [0, 1] (by kernel_rfl) (by kernel_rfl) ?_
  refine ps_p (o_rmfine 244 0) (.bool false) (eqf ((m.k) : Int) ((1) : Int) (by omega)) ?_
  refine ps_k (o_rmfine 244 1) (.bool false) ?_
  refine ps_end ?_
  refine then_n ?_
  refine sy_n (.tmp 15) (part_rmfine 490) (part_rmfine 491) ?_
  refine sy_sq (part_rmfine 982) (part_rmfine 983) ?_
  refine sy_sq (part_rmfine 1964) (part_rmfine 1965) ?_
  refine sy_reg ?_
  refine rg_plain 8 (opsAt (part_rmfine 1964)) [0, 1] (by kernel_rfl) (by kernel_rfl) ?_
  refine ps_p (o_rmfine 1964 0) (.bool false) (eqf ((m.k) : Int) ((3) : Int) (by omega)) ?_
  refine ps_k (o_rmfine 1964 1) (.bool false) ?_
  refine ps_end ?_
  refine then_n ?_
  refine sy_n (.tmp 20) (part_rmfine 3930) (part_rmfine 3931) ?_
  refine sy_reg ?_
  refine rg_plain 9 (opsAt (part_rmfine 3931)) [0, 1] (by kernel_rfl) (by kernel_rfl) ?_
  refine ps_p (o_rmfine 3931 0) (.bool false) (eqf ((m.k) : Int) ((9) : Int) (by omega)) ?_
  refine ps_k (o_rmfine 3931 1) (.bool false) ?_
  refine ps_end ?_
  refine then_n ?_
  refine sy_n (.tmp 20) (part_rmfine 1966) (part_rmfine 1967) ?_
  refine sy_sq (part_rmfine 3934) (part_rmfine 3935) ?_
  refine sy_reg ?_
  refine rg_plain 11 (opsAt (part_rmfine 3934)) [0, 1] (by kernel_rfl) (by kernel_rfl) ?_
  refine ps_p (o_rmfine 3934 0) (.bool false) (eqf ((m.k) : Int) ((4) : Int) (by omega)) ?_
  refine ps_k (o_rmfine 3934 1) (.bool false) ?_
  refine ps_end ?_
  refine then_n ?_
  refine sy_n (.tmp 26) (part_rmfine 7870) (part_rmfine 7871) ?_
  refine sy_sq (part_rmfine 15742) (part_rmfine 15743) ?_
  refine sy_reg ?_
  refine rg_plain 13 (opsAt (part_rmfine 15742)) [0, 1] (by kernel_rfl) (by kernel_rfl) ?_
  refine ps_p (o_rmfine 15742 0) (.bool false) (eqf ((m.k) : Int) ((5) : Int) (by omega)) ?_
  refine ps_k (o_rmfine 15742 1) (.bool false) ?_
  refine ps_end ?_
  refine then_n ?_
  refine sy_n (.tmp 31) (part_rmfine 31486) (part_rmfine 31487) ?_
  refine sy_sq (part_rmfine 62974) (part_rmfine 62975) ?_
  refine sy_sq (part_rmfine 125948) (part_rmfine 125949) ?_
  refine sy_reg ?_
  refine rg_plain 15 (opsAt (part_rmfine 125948)) [0, 1] (by kernel_rfl) (by kernel_rfl) ?_
  refine ps_p (o_rmfine 125948 0) (.bool false) (eqf ((m.k) : Int) ((6) : Int) (by omega)) ?_
  refine ps_k (o_rmfine 125948 1) (.bool false) ?_
  refine ps_end ?_
  refine then_n ?_
  refine sy_n (.tmp 41) (part_rmfine 251898) (part_rmfine 251899) ?_
  refine sy_sq (part_rmfine 503798) (part_rmfine 503799) ?_
  refine sy_reg ?_
  refine rg_plain 16 (opsAt (part_rmfine 503798)) [0, 1] (by kernel_rfl) (by kernel_rfl) ?_
  refine ps_p (o_rmfine 503798 0) (.bool false) (eqf ((m.k) : Int) ((7) : Int) (by omega)) ?_
  refine ps_k (o_rmfine 503798 1) (.bool false) ?_
  refine ps_end ?_
  refine sy_a ⟨#[.agg (Msg.c m), pT gm 0, .bool false, pT gm 0, .int .i64 m.k, .bool false, undef, undef, undef, pT gm 1, .int .i64 m.f, .bool true, .bool false, pT gm 0, .int .i64 m.k, .bool false, .bool false, undef, undef, undef, .bool false, .bool false, .bool false, undef, undef, undef, .bool false, .bool false, undef, undef, undef, .bool false, .bool false, undef, undef, undef, undef, undef, undef, undef, undef, .bool false, .bool false, .bool false, undef, undef, undef], []⟩ ?_
  refine then_n ?_
  refine sy_n (.tmp 41) (part_rmfine 1007598) (part_rmfine 1007599) ?_
  refine sy_reg ?_
  refine rg_plain 17 (opsAt (part_rmfine 1007599)) [0, 1] (by kernel_rfl) (by kernel_rfl) ?_
  refine ps_p (o_rmfine 1007599 0) (.bool false) (eqf ((m.k) : Int) ((8) : Int) (by omega)) ?_
  refine ps_k (o_rmfine 1007599 1) (.bool false) ?_
  refine ps_end ?_
  refine then_n ?_
  refine sy_n (.tmp 41) (part_rmfine 125950) (part_rmfine 125951) ?_
  refine sy_sk ?_
  refine blk_n ?_
  refine then_n ?_
  refine sy_sq (part_rmfine 62) (part_rmfine 63) ?_
  refine sy_reg ?_
  refine rg_plain 19 (opsAt (part_rmfine 62)) [0] (by kernel_rfl) (by kernel_rfl) ?_
  refine ps_k (o_rmfine 62 0) (.bool true) ?_
  refine ps_end ?_
  refine then_n ?_
  refine sy_ret (by kernel_rfl) ?_
  refine sy_out (.bool true) rfl (by kernel_rfl) ?_
  exact ⟨rfl, K4⟩
set_option maxRecDepth 100000 in
set_option maxHeartbeats 4000000 in
theorem rmfine_3 (m : Msg) (w : World) (hr : m.R) (hk : m.k = 3) (hf : inB m.f 0 63 = true) :
    Calls Try.prog 54 #[.agg (Msg.c m)] w (fun e w' => e = .returned (.bool (inB m.vl 0 31)) ∧ Keeps Nob w w') := by
  have K0 : Keeps Nob w w := Keeps.refl _ _
  refine sy_enter (part_rmfine 1) ⟨#[.agg (Msg.c m), undef, undef, undef, undef, undef, undef, undef, undef, undef, undef, undef, undef, undef, undef, undef, undef, undef, undef, undef, undef, undef, undef, undef, undef, undef, undef, undef, undef, undef, undef, undef, undef, undef, undef, undef, undef, undef, undef, undef, undef, undef, undef, undef, undef, undef, undef], []⟩ Try.func54 (by kernel_rfl) (by kernel_rfl) ?_
  refine sy_sq (part_rmfine 2) (part_rmfine 3) ?_
  refine sy_reg ?_
  refine rg_plain 0 (opsAt (part_rmfine 2)) [0, 1] (by kernel_rfl) (by kernel_rfl) ?_
  obtain ⟨V1, eV1, gm, egm, h2, kV1⟩ := alloc_step w ((Msg.c m)) 35
  have n3 : w.heap.size ≤ gm := egm ▸ K0.size
  refine ps_r (o_rmfine 2 0) (pT gm 0) (w' := V1) (by rw [← eV1, ← egm]; exact exec_box 35 (.tmp 0) (by kernel_rfl) (.agg (Msg.c m)) (by kernel_rfl)) ?_
  clear eV1
  have K4 := K0.nn kV1
  refine ps_k (o_rmfine 2 1) (.bool false) ?_
  refine ps_end ?_
  refine then_n ?_
  refine sy_sq (part_rmfine 6) (part_rmfine 7) ?_
  refine sy_sq (part_rmfine 12) (part_rmfine 13) ?_
  refine sy_reg ?_
  refine rg_plain 1 (opsAt (part_rmfine 12)) [0, 1, 2] (by kernel_rfl) (by kernel_rfl) ?_
  refine ps_k (o_rmfine 12 0) (pT gm 0) ?_
  refine ps_p (o_rmfine 12 1) (.int .i64 m.k) (exec_ld 3 (.tmp 3) gm 0 Try.underlying3 (rc (h2) (Msg.get_n hr NF.k))) ?_
  refine ps_p (o_rmfine 12 2) (.bool false) (eqf ((m.k) : Int) ((11) : Int) (by omega)) ?_
  refine ps_end ?_
  refine then_n ?_
  refine sy_n (.tmp 5) (part_rmfine 26) (part_rmfine 27) ?_
  refine sy_sk ?_
  refine then_n ?_
  refine sy_sq (part_rmfine 14) (part_rmfine 15) ?_
  refine sy_sq (part_rmfine 28) (part_rmfine 29) ?_
  refine sy_reg ?_
  refine rg_plain 3 (opsAt (part_rmfine 28)) [0, 1, 2, 3] (by kernel_rfl) (by kernel_rfl) ?_
  refine ps_k (o_rmfine 28 0) (pT gm 1) ?_
  refine ps_p (o_rmfine 28 1) (.int .i64 m.f) (exec_ld 3 (.tmp 9) gm 1 Try.underlying3 (rc (h2) (Msg.get_n hr NF.f))) ?_
  refine ps_c (o_rmfine 28 2) 77 #[.int .i64 m.f] Try.func77 ((rmaccount_is m.f _ hf).mono ?_)
  rintro e w1 ⟨rfl, rfl⟩
  refine ⟨_, rfl, ?_⟩
  refine ps_k (o_rmfine 28 3) (.bool false) ?_
  refine ps_end ?_
  refine then_n ?_
  refine sy_n (.tmp 12) (part_rmfine 58) (part_rmfine 59) ?_
  refine sy_sk ?_
  refine then_n ?_
  refine sy_sq (part_rmfine 30) (part_rmfine 31) ?_
  refine sy_sq (part_rmfine 60) (part_rmfine 61) ?_
  refine sy_reg ?_
  refine rg_plain 5 (opsAt (part_rmfine 60)) [0, 1] (by kernel_rfl) (by kernel_rfl) ?_
  refine ps_k (o_rmfine 60 0) (pT gm 0) ?_
  refine ps_p (o_rmfine 60 1) (.int .i64 m.k) (exec_ld 3 (.tmp 13) gm 0 Try.underlying3 (rc (h2) (Msg.get_n hr NF.k))) ?_
  refine ps_end ?_
  refine then_n ?_
  refine sy_bk 0 (part_rmfine 122) ?_
  refine sy_sq (part_rmfine 244) (part_rmfine 245) ?_
  refine sy_reg ?_
  refine rg_plain 6 (opsAt (part_rmfine 244)) [0, 1] (by kernel_rfl) (by kernel_rfl) ?_
  refine ps_p (o_rmfine 244 0) (.bool false) (eqf ((m.k) : Int) ((1) : Int) (by omega)) ?_
  refine ps_k (o_rmfine 244 1) (.bool false) ?_
  refine ps_end ?_
  refine then_n ?_
  refine sy_n (.tmp 15) (part_rmfine 490) (part_rmfine 491) ?_
  refine sy_sq (part_rmfine 982) (part_rmfine 983) ?_
  refine sy_sq (part_rmfine 1964) (part_rmfine 1965) ?_
  refine sy_reg ?_
  refine rg_plain 8 (opsAt (part_rmfine 1964)) [0, 1] (by kernel_rfl) (by kernel_rfl) ?_
  refine ps_p (o_rmfine 1964 0) (.bool true) (eqt ((m.k) : Int) ((3) : Int) (by omega)) ?_
  refine ps_k (o_rmfine 1964 1) (.bool true) ?_
  refine ps_end ?_
  refine then_n ?_
  refine sy_ys (.tmp 20) (part_rmfine 3930) (part_rmfine 3931) ?_
  refine sy_sk ?_
  refine then_n ?_
  refine sy_ys (.tmp 20) (part_rmfine 1966) (part_rmfine 1967) ?_
  refine sy_sq (part_rmfine 3932) (part_rmfine 3933) ?_
  refine sy_reg ?_
  refine rg_plain 10 (opsAt (part_rmfine 3932)) [0, 1, 2, 3] (by kernel_rfl) (by kernel_rfl) ?_
  refine ps_k (o_rmfine 3932 0) (pT gm 2) ?_
  refine ps_p (o_rmfine 3932 1) (.int .i64 m.vl) (exec_ld 3 (.tmp 23) gm 2 Try.underlying3 (rc (h2) (Msg.get_n hr NF.vl))) ?_
  refine ps_c (o_rmfine 3932 2) 78 #[.int .i64 m.vl] Try.func78 ((rmvalidator_ok m.vl _).mono ?_)
  rintro e w1 ⟨rfl, rfl⟩
  refine ⟨_, rfl, ?_⟩
  refine ps_k (o_rmfine 3932 3) (.bool (inB m.vl 0 31)) ?_
  refine ps_end ?_
  refine then_n ?_
  refine sy_ret (by kernel_rfl) ?_
  refine blk_r ?_
  refine then_r ?_
  refine sy_out (.bool (inB m.vl 0 31)) rfl (by kernel_rfl) ?_
  exact ⟨rfl, K4⟩
set_option maxRecDepth 100000 in
set_option maxHeartbeats 4000000 in
theorem rmfine_4 (m : Msg) (w : World) (hr : m.R) (hk : m.k = 4) (hf : inB m.f 0 63 = true) :
    Calls Try.prog 54 #[.agg (Msg.c m)] w (fun e w' => e = .returned (.bool (stampB m)) ∧ Keeps Nob w w') := by
  have K0 : Keeps Nob w w := Keeps.refl _ _
  refine sy_enter (part_rmfine 1) ⟨#[.agg (Msg.c m), undef, undef, undef, undef, undef, undef, undef, undef, undef, undef, undef, undef, undef, undef, undef, undef, undef, undef, undef, undef, undef, undef, undef, undef, undef, undef, undef, undef, undef, undef, undef, undef, undef, undef, undef, undef, undef, undef, undef, undef, undef, undef, undef, undef, undef, undef], []⟩ Try.func54 (by kernel_rfl) (by kernel_rfl) ?_
  refine sy_sq (part_rmfine 2) (part_rmfine 3) ?_
  refine sy_reg ?_
  refine rg_plain 0 (opsAt (part_rmfine 2)) [0, 1] (by kernel_rfl) (by kernel_rfl) ?_
  obtain ⟨V1, eV1, gm, egm, h2, kV1⟩ := alloc_step w ((Msg.c m)) 35
  have n3 : w.heap.size ≤ gm := egm ▸ K0.size
  refine ps_r (o_rmfine 2 0) (pT gm 0) (w' := V1) (by rw [← eV1, ← egm]; exact exec_box 35 (.tmp 0) (by kernel_rfl) (.agg (Msg.c m)) (by kernel_rfl)) ?_
  clear eV1
  have K4 := K0.nn kV1
  refine ps_k (o_rmfine 2 1) (.bool false) ?_
  refine ps_end ?_
  refine then_n ?_
  refine sy_sq (part_rmfine 6) (part_rmfine 7) ?_
  refine sy_sq (part_rmfine 12) (part_rmfine 13) ?_
  refine sy_reg ?_
  refine rg_plain 1 (opsAt (part_rmfine 12)) [0, 1, 2] (by kernel_rfl) (by kernel_rfl) ?_
  refine ps_k (o_rmfine 12 0) (pT gm 0) ?_
  refine ps_p (o_rmfine 12 1) (.int .i64 m.k) (exec_ld 3 (.tmp 3) gm 0 Try.underlying3 (rc (h2) (Msg.get_n hr NF.k))) ?_
  refine ps_p (o_rmfine 12 2) (.bool false) (eqf ((m.k) : Int) ((11) : Int) (by omega)) ?_
  refine ps_end ?_
  refine then_n ?_
  refine sy_n (.tmp 5) (part_rmfine 26) (part_rmfine 27) ?_
  refine sy_sk ?_
  refine then_n ?_
  refine sy_sq (part_rmfine 14) (part_rmfine 15) ?_
  refine sy_sq (part_rmfine 28) (part_rmfine 29) ?_
  refine sy_reg ?_
  refine rg_plain 3 (opsAt (part_rmfine 28)) [0, 1, 2, 3] (by kernel_rfl) (by kernel_rfl) ?_
  refine ps_k (o_rmfine 28 0) (pT gm 1) ?_
  refine ps_p (o_rmfine 28 1) (.int .i64 m.f) (exec_ld 3 (.tmp 9) gm 1 Try.underlying3 (rc (h2) (Msg.get_n hr NF.f))) ?_
  refine ps_c (o_rmfine 28 2) 77 #[.int .i64 m.f] Try.func77 ((rmaccount_is m.f _ hf).mono ?_)
  rintro e w1 ⟨rfl, rfl⟩
  refine ⟨_, rfl, ?_⟩
  refine ps_k (o_rmfine 28 3) (.bool false) ?_
  refine ps_end ?_
  refine then_n ?_
  refine sy_n (.tmp 12) (part_rmfine 58) (part_rmfine 59) ?_
  refine sy_sk ?_
  refine then_n ?_
  refine sy_sq (part_rmfine 30) (part_rmfine 31) ?_
  refine sy_sq (part_rmfine 60) (part_rmfine 61) ?_
  refine sy_reg ?_
  refine rg_plain 5 (opsAt (part_rmfine 60)) [0, 1] (by kernel_rfl) (by kernel_rfl) ?_
  refine ps_k (o_rmfine 60 0) (pT gm 0) ?_
  refine ps_p (o_rmfine 60 1) (.int .i64 m.k) (exec_ld 3 (.tmp 13) gm 0 Try.underlying3 (rc (h2) (Msg.get_n hr NF.k))) ?_
  refine ps_end ?_
  refine then_n ?_
  refine sy_bk 0 (part_rmfine 122) ?_
  refine sy_sq (part_rmfine 244) (part_rmfine 245) ?_
  refine sy_reg ?_
  refine rg_plain 6 (opsAt (part_rmfine 244)) [0, 1] (by kernel_rfl) (by kernel_rfl) ?_
  refine ps_p (o_rmfine 244 0) (.bool false) (eqf ((m.k) : Int) ((1) : Int) (by omega)) ?_
  refine ps_k (o_rmfine 244 1) (.bool false) ?_
  refine ps_end ?_
  refine then_n ?_
  refine sy_n (.tmp 15) (part_rmfine 490) (part_rmfine 491) ?_
  refine sy_sq (part_rmfine 982) (part_rmfine 983) ?_
  refine sy_sq (part_rmfine 1964) (part_rmfine 1965) ?_
  refine sy_reg ?_
  refine rg_plain 8 (opsAt (part_rmfine 1964)) [0, 1] (by kernel_rfl) (by kernel_rfl) ?_
  refine ps_p (o_rmfine 1964 0) (.bool false) (eqf ((m.k) : Int) ((3) : Int) (by omega)) ?_
  refine ps_k (o_rmfine 1964 1) (.bool false) ?_
  refine ps_end ?_
  refine then_n ?_
  refine sy_n (.tmp 20) (part_rmfine 3930) (part_rmfine 3931) ?_
  refine sy_reg ?_
  refine rg_plain 9 (opsAt (part_rmfine 3931)) [0, 1] (by kernel_rfl) (by kernel_rfl) ?_
  refine ps_p (o_rmfine 3931 0) (.bool false) (eqf ((m.k) : Int) ((9) : Int) (by omega)) ?_
  refine ps_k (o_rmfine 3931 1) (.bool false) ?_
  refine ps_end ?_
  refine then_n ?_
  refine sy_n (.tmp 20) (part_rmfine 1966) (part_rmfine 1967) ?_
  refine sy_sq (part_rmfine 3934) (part_rmfine 3935) ?_
  refine sy_reg ?_
  refine rg_plain 11 (opsAt (part_rmfine 3934)) [0, 1] (by kernel_rfl) (by kernel_rfl) ?_
  refine ps_p (o_rmfine 3934 0) (.bool true) (eqt ((m.k) : Int) ((4) : Int) (by omega)) ?_
  refine ps_k (o_rmfine 3934 1) (.bool true) ?_
  refine ps_end ?_
  refine then_n ?_
  refine sy_ys (.tmp 26) (part_rmfine 7870) (part_rmfine 7871) ?_
  refine sy_sq (part_rmfine 15740) (part_rmfine 15741) ?_
  refine sy_reg ?_
  refine rg_plain 12 (opsAt (part_rmfine 15740)) [0, 1, 2, 3] (by kernel_rfl) (by kernel_rfl) ?_
  refine ps_k (o_rmfine 15740 0) (pT gm 6) ?_
  refine ps_p (o_rmfine 15740 1) (.agg (Msg.st m)) (exec_load_seg 27 (.tmp 28) (by kernel_rfl) gm 6 (by kernel_rfl) (Msg.st m).toList _ _ _ h2 (Msg.seg_S _) Try.underlying27 rfl (by kernel_rfl)) ?_
  refine ps_c (o_rmfine 15740 2) 79 #[.agg (Msg.st m)] Try.func79 ((rmstamp_ok m _).mono ?_)
  rintro e V5 ⟨rfl, kV5⟩
  refine ⟨_, rfl, ?_⟩
  have h6 := kV5.bk h2
  have K7 := K4.nn kV5
  refine ps_k (o_rmfine 15740 3) (.bool (stampB m)) ?_
  refine ps_end ?_
  refine then_n ?_
  refine sy_ret (by kernel_rfl) ?_
  refine blk_r ?_
  refine then_r ?_
  refine sy_out (.bool (stampB m)) rfl (by kernel_rfl) ?_
  exact ⟨rfl, K7⟩
set_option maxRecDepth 100000 in
set_option maxHeartbeats 4000000 in
theorem rmfine_5t (m : Msg) (w : World) (hr : m.R) (hk : m.k = 5) (hf : inB m.f 0 63 = true) (hs : stampB m = true) :
    Calls Try.prog 54 #[.agg (Msg.c m)] w (fun e w' => e = .returned (.bool (inB m.t 0 31)) ∧ Keeps Nob w w') := by
  have K0 : Keeps Nob w w := Keeps.refl _ _
  refine sy_enter (part_rmfine 1) ⟨#[.agg (Msg.c m), undef, undef, undef, undef, undef, undef, undef, undef, undef, undef, undef, undef, undef, undef, undef, undef, undef, undef, undef, undef, undef, undef, undef, undef, undef, undef, undef, undef, undef, undef, undef, undef, undef, undef, undef, undef, undef, undef, undef, undef, undef, undef, undef, undef, undef, undef], []⟩ Try.func54 (by kernel_rfl) (by kernel_rfl) ?_
  refine sy_sq (part_rmfine 2) (part_rmfine 3) ?_
  refine sy_reg ?_
  refine rg_plain 0 (opsAt (part_rmfine 2)) [0, 1] (by kernel_rfl) (by kernel_rfl) ?_
  obtain ⟨V1, eV1, gm, egm, h2, kV1⟩ := alloc_step w ((Msg.c m)) 35
  have n3 : w.heap.size ≤ gm := egm ▸ K0.size
  refine ps_r (o_rmfine 2 0) (pT gm 0) (w' := V1) (by rw [← eV1, ← egm]; exact exec_box 35 (.tmp 0) (by kernel_rfl) (.agg (Msg.c m)) (by kernel_rfl)) ?_
  clear eV1
  have K4 := K0.nn kV1
  refine ps_k (o_rmfine 2 1) (.bool false) ?_
  refine ps_end ?_
  refine then_n ?_
  refine sy_sq (part_rmfine 6) (part_rmfine 7) ?_
  refine sy_sq (part_rmfine 12) (part_rmfine 13) ?_
  refine sy_reg ?_
  refine rg_plain 1 (opsAt (part_rmfine 12)) [0, 1, 2] (by kernel_rfl) (by kernel_rfl) ?_
  refine ps_k (o_rmfine 12 0) (pT gm 0) ?_
  refine ps_p (o_rmfine 12 1) (.int .i64 m.k) (exec_ld 3 (.tmp 3) gm 0 Try.underlying3 (rc (h2) (Msg.get_n hr NF.k))) ?_
  refine ps_p (o_rmfine 12 2) (.bool false) (eqf ((m.k) : Int) ((11) : Int) (by omega)) ?_
  refine ps_end ?_
  refine then_n ?_
  refine sy_n (.tmp 5) (part_rmfine 26) (part_rmfine 27) ?_
  refine sy_sk ?_
  refine then_n ?_
  refine sy_sq (part_rmfine 14) (part_rmfine 15) ?_
  refine sy_sq (part_rmfine 28) (part_rmfine 29) ?_
  refine sy_reg ?_
  refine rg_plain 3 (opsAt (part_rmfine 28)) [0, 1, 2, 3] (by kernel_rfl) (by kernel_rfl) ?_
  refine ps_k (o_rmfine 28 0) (pT gm 1) ?_
  refine ps_p (o_rmfine 28 1) (.int .i64 m.f) (exec_ld 3 (.tmp 9) gm 1 Try.underlying3 (rc (h2) (Msg.get_n hr NF.f))) ?_
  refine ps_c (o_rmfine 28 2) 77 #[.int .i64 m.f] Try.func77 ((rmaccount_is m.f _ hf).mono ?_)
  rintro e w1 ⟨rfl, rfl⟩
  refine ⟨_, rfl, ?_⟩
  refine ps_k (o_rmfine 28 3) (.bool false) ?_
  refine ps_end ?_
  refine then_n ?_
  refine sy_n (.tmp 12) (part_rmfine 58) (part_rmfine 59) ?_
  refine sy_sk ?_
  refine then_n ?_
  refine sy_sq (part_rmfine 30) (part_rmfine 31) ?_
  refine sy_sq (part_rmfine 60) (part_rmfine 61) ?_
  refine sy_reg ?_
  refine rg_plain 5 (opsAt (part_rmfine 60)) [0, 1] (by kernel_rfl) (by kernel_rfl) ?_
  refine ps_k (o_rmfine 60 0) (pT gm 0) ?_
  refine ps_p (o_rmfine 60 1) (.int .i64 m.k) (exec_ld 3 (.tmp 13) gm 0 Try.underlying3 (rc (h2) (Msg.get_n hr NF.k))) ?_
  refine ps_end ?_
  refine then_n ?_
  refine sy_bk 0 (part_rmfine 122) ?_
  refine sy_sq (part_rmfine 244) (part_rmfine 245) ?_
  refine sy_reg ?_
  refine rg_plain 6 (opsAt (part_rmfine 244)) [0, 1] (by kernel_rfl) (by kernel_rfl) ?_
  refine ps_p (o_rmfine 244 0) (.bool false) (eqf ((m.k) : Int) ((1) : Int) (by omega)) ?_
  refine ps_k (o_rmfine 244 1) (.bool false) ?_
  refine ps_end ?_
  refine then_n ?_
  refine sy_n (.tmp 15) (part_rmfine 490) (part_rmfine 491) ?_
  refine sy_sq (part_rmfine 982) (part_rmfine 983) ?_
  refine sy_sq (part_rmfine 1964) (part_rmfine 1965) ?_
  refine sy_reg ?_
  refine rg_plain 8 (opsAt (part_rmfine 1964)) [0, 1] (by kernel_rfl) (by kernel_rfl) ?_
  refine ps_p (o_rmfine 1964 0) (.bool false) (eqf ((m.k) : Int) ((3) : Int) (by omega)) ?_
  refine ps_k (o_rmfine 1964 1) (.bool false) ?_
  refine ps_end ?_
  refine then_n ?_
  refine sy_n (.tmp 20) (part_rmfine 3930) (part_rmfine 3931) ?_
  refine sy_reg ?_
  refine rg_plain 9 (opsAt (part_rmfine 3931)) [0, 1] (by kernel_rfl) (by kernel_rfl) ?_
  refine ps_p (o_rmfine 3931 0) (.bool false) (eqf ((m.k) : Int) ((9) : Int) (by omega)) ?_
  refine ps_k (o_rmfine 3931 1) (.bool false) ?_
  refine ps_end ?_
  refine then_n ?_
  refine sy_n (.tmp 20) (part_rmfine 1966) (part_rmfine 1967) ?_
  refine sy_sq (part_rmfine 3934) (part_rmfine 3935) ?_
  refine sy_reg ?_
  refine rg_plain 11 (opsAt (part_rmfine 3934)) [0, 1] (by kernel_rfl) (by kernel_rfl) ?_
  refine ps_p (o_rmfine 3934 0) (.bool false) (eqf ((m.k) : Int) ((4) : Int) (by omega)) ?_
  refine ps_k (o_rmfine 3934 1) (.bool false) ?_
  refine ps_end ?_
  refine then_n ?_
  refine sy_n (.tmp 26) (part_rmfine 7870) (part_rmfine 7871) ?_
  refine sy_sq (part_rmfine 15742) (part_rmfine 15743) ?_
  refine sy_reg ?_
  refine rg_plain 13 (opsAt (part_rmfine 15742)) [0, 1] (by kernel_rfl) (by kernel_rfl) ?_
  refine ps_p (o_rmfine 15742 0) (.bool true) (eqt ((m.k) : Int) ((5) : Int) (by omega)) ?_
  refine ps_k (o_rmfine 15742 1) (.bool true) ?_
  refine ps_end ?_
  refine then_n ?_
  refine sy_ys (.tmp 31) (part_rmfine 31486) (part_rmfine 31487) ?_
  refine sy_sq (part_rmfine 62972) (part_rmfine 62973) ?_
  refine sy_reg ?_
  refine rg_plain 14 (opsAt (part_rmfine 62972)) [0, 1, 2, 3, 4, 5, 6, 7, 8] (by kernel_rfl) (by kernel_rfl) ?_
  refine ps_k (o_rmfine 62972 0) (pT gm 6) ?_
  refine ps_p (o_rmfine 62972 1) (.agg (Msg.st m)) (exec_load_seg 27 (.tmp 33) (by kernel_rfl) gm 6 (by kernel_rfl) (Msg.st m).toList _ _ _ h2 (Msg.seg_S _) Try.underlying27 rfl (by kernel_rfl)) ?_
  refine ps_c (o_rmfine 62972 2) 79 #[.agg (Msg.st m)] Try.func79 ((rmstamp_is m _ hs).mono ?_)
  rintro e V5 ⟨rfl, kV5⟩
  refine ⟨_, rfl, ?_⟩
  have h6 := kV5.bk h2
  have K7 := K4.nn kV5
  refine ps_k (o_rmfine 62972 3) (.bool true) ?_
  refine ps_k (o_rmfine 62972 4) (pT gm 3) ?_
  refine ps_p (o_rmfine 62972 5) (.int .i64 m.t) (exec_ld 3 (.tmp 37) gm 3 Try.underlying3 (rc (h6) (Msg.get_n hr NF.t))) ?_
  refine ps_c (o_rmfine 62972 6) 78 #[.int .i64 m.t] Try.func78 ((rmvalidator_ok m.t _).mono ?_)
  rintro e w1 ⟨rfl, rfl⟩
  refine ⟨_, rfl, ?_⟩
  refine ps_k (o_rmfine 62972 7) (.bool (inB m.t 0 31)) ?_
  refine ps_k (o_rmfine 62972 8) (.bool (inB m.t 0 31)) ?_
  refine ps_end ?_
  refine sy_a ⟨#[.agg (Msg.c m), pT gm 0, .bool (inB m.t 0 31), pT gm 0, .int .i64 m.k, .bool false, undef, undef, undef, pT gm 1, .int .i64 m.f, .bool true, .bool false, pT gm 0, .int .i64 m.k, .bool false, .bool false, undef, undef, undef, .bool false, .bool false, .bool false, undef, undef, undef, .bool false, .bool false, undef, undef, undef, .bool true, .bool true, pT gm 6, .agg (Msg.st m), .bool true, .bool true, pT gm 3, .int .i64 m.t, .bool (inB m.t 0 31), .bool (inB m.t 0 31), undef, undef, undef, undef, undef, undef], []⟩ ?_
  refine then_n ?_
  refine sy_ret (by kernel_rfl) ?_
  refine blk_r ?_
  refine then_r ?_
  refine sy_out (.bool (inB m.t 0 31)) rfl (by kernel_rfl) ?_
  exact ⟨rfl, K7⟩
set_option maxRecDepth 100000 in
set_option maxHeartbeats 4000000 in
theorem rmfine_5f (m : Msg) (w : World) (hr : m.R) (hk : m.k = 5) (hf : inB m.f 0 63 = true) (hs : stampB m = false) :
    Calls Try.prog 54 #[.agg (Msg.c m)] w (fun e w' => e = .returned (.bool false) ∧ Keeps Nob w w') := by
  have K0 : Keeps Nob w w := Keeps.refl _ _
  refine sy_enter (part_rmfine 1) ⟨#[.agg (Msg.c m), undef, undef, undef, undef, undef, undef, undef, undef, undef, undef, undef, undef, undef, undef, undef, undef, undef, undef, undef, undef, undef, undef, undef, undef, undef, undef, undef, undef, undef, undef, undef, undef, undef, undef, undef, undef, undef, undef, undef, undef, undef, undef, undef, undef, undef, undef], []⟩ Try.func54 (by kernel_rfl) (by kernel_rfl) ?_
  refine sy_sq (part_rmfine 2) (part_rmfine 3) ?_
  refine sy_reg ?_
  refine rg_plain 0 (opsAt (part_rmfine 2)) [0, 1] (by kernel_rfl) (by kernel_rfl) ?_
  obtain ⟨V1, eV1, gm, egm, h2, kV1⟩ := alloc_step w ((Msg.c m)) 35
  have n3 : w.heap.size ≤ gm := egm ▸ K0.size
  refine ps_r (o_rmfine 2 0) (pT gm 0) (w' := V1) (by rw [← eV1, ← egm]; exact exec_box 35 (.tmp 0) (by kernel_rfl) (.agg (Msg.c m)) (by kernel_rfl)) ?_
  clear eV1
  have K4 := K0.nn kV1
  refine ps_k (o_rmfine 2 1) (.bool false) ?_
  refine ps_end ?_
  refine then_n ?_
  refine sy_sq (part_rmfine 6) (part_rmfine 7) ?_
  refine sy_sq (part_rmfine 12) (part_rmfine 13) ?_
  refine sy_reg ?_
  refine rg_plain 1 (opsAt (part_rmfine 12)) [0, 1, 2] (by kernel_rfl) (by kernel_rfl) ?_
  refine ps_k (o_rmfine 12 0) (pT gm 0) ?_
  refine ps_p (o_rmfine 12 1) (.int .i64 m.k) (exec_ld 3 (.tmp 3) gm 0 Try.underlying3 (rc (h2) (Msg.get_n hr NF.k))) ?_
  refine ps_p (o_rmfine 12 2) (.bool false) (eqf ((m.k) : Int) ((11) : Int) (by omega)) ?_
  refine ps_end ?_
  refine then_n ?_
  refine sy_n (.tmp 5) (part_rmfine 26) (part_rmfine 27) ?_
  refine sy_sk ?_
  refine then_n ?_
  refine sy_sq (part_rmfine 14) (part_rmfine 15) ?_
  refine sy_sq (part_rmfine 28) (part_rmfine 29) ?_
  refine sy_reg ?_
  refine rg_plain 3 (opsAt (part_rmfine 28)) [0, 1, 2, 3] (by kernel_rfl) (by kernel_rfl) ?_
  refine ps_k (o_rmfine 28 0) (pT gm 1) ?_
  refine ps_p (o_rmfine 28 1) (.int .i64 m.f) (exec_ld 3 (.tmp 9) gm 1 Try.underlying3 (rc (h2) (Msg.get_n hr NF.f))) ?_
  refine ps_c (o_rmfine 28 2) 77 #[.int .i64 m.f] Try.func77 ((rmaccount_is m.f _ hf).mono ?_)
  rintro e w1 ⟨rfl, rfl⟩
  refine ⟨_, rfl, ?_⟩
  refine ps_k (o_rmfine 28 3) (.bool false) ?_
  refine ps_end ?_
  refine then_n ?_
  refine sy_n (.tmp 12) (part_rmfine 58) (part_rmfine 59) ?_
  refine sy_sk ?_
  refine then_n ?_
  refine sy_sq (part_rmfine 30) (part_rmfine 31) ?_
  refine sy_sq (part_rmfine 60) (part_rmfine 61) ?_
  refine sy_reg ?_
  refine rg_plain 5 (opsAt (part_rmfine 60)) [0, 1] (by kernel_rfl) (by kernel_rfl) ?_
  refine ps_k (o_rmfine 60 0) (pT gm 0) ?_
  refine ps_p (o_rmfine 60 1) (.int .i64 m.k) (exec_ld 3 (.tmp 13) gm 0 Try.underlying3 (rc (h2) (Msg.get_n hr NF.k))) ?_
  refine ps_end ?_
  refine then_n ?_
  refine sy_bk 0 (part_rmfine 122) ?_
  refine sy_sq (part_rmfine 244) (part_rmfine 245) ?_
  refine sy_reg ?_
  refine rg_plain 6 (opsAt (part_rmfine 244)) [0, 1] (by kernel_rfl) (by kernel_rfl) ?_
  refine ps_p (o_rmfine 244 0) (.bool false) (eqf ((m.k) : Int) ((1) : Int) (by omega)) ?_
  refine ps_k (o_rmfine 244 1) (.bool false) ?_
  refine ps_end ?_
  refine then_n ?_
  refine sy_n (.tmp 15) (part_rmfine 490) (part_rmfine 491) ?_
  refine sy_sq (part_rmfine 982) (part_rmfine 983) ?_
  refine sy_sq (part_rmfine 1964) (part_rmfine 1965) ?_
  refine sy_reg ?_
  refine rg_plain 8 (opsAt (part_rmfine 1964)) [0, 1] (by kernel_rfl) (by kernel_rfl) ?_
  refine ps_p (o_rmfine 1964 0) (.bool false) (eqf ((m.k) : Int) ((3) : Int) (by omega)) ?_
  refine ps_k (o_rmfine 1964 1) (.bool false) ?_
  refine ps_end ?_
  refine then_n ?_
  refine sy_n (.tmp 20) (part_rmfine 3930) (part_rmfine 3931) ?_
  refine sy_reg ?_
  refine rg_plain 9 (opsAt (part_rmfine 3931)) [0, 1] (by kernel_rfl) (by kernel_rfl) ?_
  refine ps_p (o_rmfine 3931 0) (.bool false) (eqf ((m.k) : Int) ((9) : Int) (by omega)) ?_
  refine ps_k (o_rmfine 3931 1) (.bool false) ?_
  refine ps_end ?_
  refine then_n ?_
  refine sy_n (.tmp 20) (part_rmfine 1966) (part_rmfine 1967) ?_
  refine sy_sq (part_rmfine 3934) (part_rmfine 3935) ?_
  refine sy_reg ?_
  refine rg_plain 11 (opsAt (part_rmfine 3934)) [0, 1] (by kernel_rfl) (by kernel_rfl) ?_
  refine ps_p (o_rmfine 3934 0) (.bool false) (eqf ((m.k) : Int) ((4) : Int) (by omega)) ?_
  refine ps_k (o_rmfine 3934 1) (.bool false) ?_
  refine ps_end ?_
  refine then_n ?_
  refine sy_n (.tmp 26) (part_rmfine 7870) (part_rmfine 7871) ?_
  refine sy_sq (part_rmfine 15742) (part_rmfine 15743) ?_
  refine sy_reg ?_
  refine rg_plain 13 (opsAt (part_rmfine 15742)) [0, 1] (by kernel_rfl) (by kernel_rfl) ?_
  refine ps_p (o_rmfine 15742 0) (.bool true) (eqt ((m.k) : Int) ((5) : Int) (by omega)) ?_
  refine ps_k (o_rmfine 15742 1) (.bool true) ?_
  refine ps_end ?_
  refine then_n ?_
  refine sy_ys (.tmp 31) (part_rmfine 31486) (part_rmfine 31487) ?_
  refine sy_sq (part_rmfine 62972) (part_rmfine 62973) ?_
  refine sy_reg ?_
  refine rg_plain 14 (opsAt (part_rmfine 62972)) [0, 1, 2, 3, 4, 5, 6, 7, 8] (by kernel_rfl) (by kernel_rfl) ?_
  refine ps_k (o_rmfine 62972 0) (pT gm 6) ?_
  refine ps_p (o_rmfine 62972 1) (.agg (Msg.st m)) (exec_load_seg 27 (.tmp 33) (by kernel_rfl) gm 6 (by kernel_rfl) (Msg.st m).toList _ _ _ h2 (Msg.seg_S _) Try.underlying27 rfl (by kernel_rfl)) ?_
  refine ps_c (o_rmfine 62972 2) 79 #[.agg (Msg.st m)] Try.func79 ((rmstamp_is m _ hs).mono ?_)
  rintro e V5 ⟨rfl, kV5⟩
  refine ⟨_, rfl, ?_⟩
  have h6 := kV5.bk h2
  have K7 := K4.nn kV5
  refine ps_k (o_rmfine 62972 3) (.bool false) ?_
  refine ps_n (o_rmfine 62972 4) ?_
  refine ps_n (o_rmfine 62972 5) ?_
  refine ps_n (o_rmfine 62972 6) ?_
  refine ps_k (o_rmfine 62972 7) (.bool false) ?_
  refine ps_k (o_rmfine 62972 8) (.bool false) ?_
  refine ps_end ?_
  refine sy_a ⟨#[.agg (Msg.c m), pT gm 0, .bool false, pT gm 0, .int .i64 m.k, .bool false, undef, undef, undef, pT gm 1, .int .i64 m.f, .bool true, .bool false, pT gm 0, .int .i64 m.k, .bool false, .bool false, undef, undef, undef, .bool false, .bool false, .bool false, undef, undef, undef, .bool false, .bool false, undef, undef, undef, .bool true, .bool true, pT gm 6, .agg (Msg.st m), .bool false, .bool false, undef, undef, undef, .bool false, undef, undef, undef, undef, undef, undef], []⟩ ?_
  refine then_n ?_
  refine sy_ret (by kernel_rfl) ?_
  refine blk_r ?_
  refine then_r ?_
  refine sy_out (.bool false) rfl (by kernel_rfl) ?_
  exact ⟨rfl, K7⟩
set_option maxRecDepth 100000 in
set_option maxHeartbeats 4000000 in
theorem rmfine_6 (m : Msg) (w : World) (hr : m.R) (hk : m.k = 6) (hf : inB m.f 0 63 = true) :
    Calls Try.prog 54 #[.agg (Msg.c m)] w (fun e w' => e = .returned (.bool (votesB m)) ∧ Keeps Nob w w') := by
  have K0 : Keeps Nob w w := Keeps.refl _ _
  refine sy_enter (part_rmfine 1) ⟨#[.agg (Msg.c m), undef, undef, undef, undef, undef, undef, undef, undef, undef, undef, undef, undef, undef, undef, undef, undef, undef, undef, undef, undef, undef, undef, undef, undef, undef, undef, undef, undef, undef, undef, undef, undef, undef, undef, undef, undef, undef, undef, undef, undef, undef, undef, undef, undef, undef, undef], []⟩ Try.func54 (by kernel_rfl) (by kernel_rfl) ?_
  refine sy_sq (part_rmfine 2) (part_rmfine 3) ?_
  refine sy_reg ?_
  refine rg_plain 0 (opsAt (part_rmfine 2)) [0, 1] (by kernel_rfl) (by kernel_rfl) ?_
  obtain ⟨V1, eV1, gm, egm, h2, kV1⟩ := alloc_step w ((Msg.c m)) 35
  have n3 : w.heap.size ≤ gm := egm ▸ K0.size
  refine ps_r (o_rmfine 2 0) (pT gm 0) (w' := V1) (by rw [← eV1, ← egm]; exact exec_box 35 (.tmp 0) (by kernel_rfl) (.agg (Msg.c m)) (by kernel_rfl)) ?_
  clear eV1
  have K4 := K0.nn kV1
  refine ps_k (o_rmfine 2 1) (.bool false) ?_
  refine ps_end ?_
  refine then_n ?_
  refine sy_sq (part_rmfine 6) (part_rmfine 7) ?_
  refine sy_sq (part_rmfine 12) (part_rmfine 13) ?_
  refine sy_reg ?_
  refine rg_plain 1 (opsAt (part_rmfine 12)) [0, 1, 2] (by kernel_rfl) (by kernel_rfl) ?_
  refine ps_k (o_rmfine 12 0) (pT gm 0) ?_
  refine ps_p (o_rmfine 12 1) (.int .i64 m.k) (exec_ld 3 (.tmp 3) gm 0 Try.underlying3 (rc (h2) (Msg.get_n hr NF.k))) ?_
  refine ps_p (o_rmfine 12 2) (.bool false) (eqf ((m.k) : Int) ((11) : Int) (by omega)) ?_
  refine ps_end ?_
  refine then_n ?_
  refine sy_n (.tmp 5) (part_rmfine 26) (part_rmfine 27) ?_
  refine sy_sk ?_
  refine then_n ?_
  refine sy_sq (part_rmfine 14) (part_rmfine 15) ?_
  refine sy_sq (part_rmfine 28) (part_rmfine 29) ?_
  refine sy_reg ?_
  refine rg_plain 3 (opsAt (part_rmfine 28)) [0, 1, 2, 3] (by kernel_rfl) (by kernel_rfl) ?_
  refine ps_k (o_rmfine 28 0) (pT gm 1) ?_
  refine ps_p (o_rmfine 28 1) (.int .i64 m.f) (exec_ld 3 (.tmp 9) gm 1 Try.underlying3 (rc (h2) (Msg.get_n hr NF.f))) ?_
  refine ps_c (o_rmfine 28 2) 77 #[.int .i64 m.f] Try.func77 ((rmaccount_is m.f _ hf).mono ?_)
  rintro e w1 ⟨rfl, rfl⟩
  refine ⟨_, rfl, ?_⟩
  refine ps_k (o_rmfine 28 3) (.bool false) ?_
  refine ps_end ?_
  refine then_n ?_
  refine sy_n (.tmp 12) (part_rmfine 58) (part_rmfine 59) ?_
  refine sy_sk ?_
  refine then_n ?_
  refine sy_sq (part_rmfine 30) (part_rmfine 31) ?_
  refine sy_sq (part_rmfine 60) (part_rmfine 61) ?_
  refine sy_reg ?_
  refine rg_plain 5 (opsAt (part_rmfine 60)) [0, 1] (by kernel_rfl) (by kernel_rfl) ?_
  refine ps_k (o_rmfine 60 0) (pT gm 0) ?_
  refine ps_p (o_rmfine 60 1) (.int .i64 m.k) (exec_ld 3 (.tmp 13) gm 0 Try.underlying3 (rc (h2) (Msg.get_n hr NF.k))) ?_
  refine ps_end ?_
  refine then_n ?_
  refine sy_bk 0 (part_rmfine 122) ?_
  refine sy_sq (part_rmfine 244) (part_rmfine 245) ?_
  refine sy_reg ?_
  refine rg_plain 6 (opsAt (part_rmfine 244)) [0, 1] (by kernel_rfl) (by kernel_rfl) ?_
  refine ps_p (o_rmfine 244 0) (.bool false) (eqf ((m.k) : Int) ((1) : Int) (by omega)) ?_
  refine ps_k (o_rmfine 244 1) (.bool false) ?_
  refine ps_end ?_
  refine then_n ?_
  refine sy_n (.tmp 15) (part_rmfine 490) (part_rmfine 491) ?_
  refine sy_sq (part_rmfine 982) (part_rmfine 983) ?_
  refine sy_sq (part_rmfine 1964) (part_rmfine 1965) ?_
  refine sy_reg ?_
  refine rg_plain 8 (opsAt (part_rmfine 1964)) [0, 1] (by kernel_rfl) (by kernel_rfl) ?_
  refine ps_p (o_rmfine 1964 0) (.bool false) (eqf ((m.k) : Int) ((3) : Int) (by omega)) ?_
  refine ps_k (o_rmfine 1964 1) (.bool false) ?_
  refine ps_end ?_
  refine then_n ?_
  refine sy_n (.tmp 20) (part_rmfine 3930) (part_rmfine 3931) ?_
  refine sy_reg ?_
  refine rg_plain 9 (opsAt (part_rmfine 3931)) [0, 1] (by kernel_rfl) (by kernel_rfl) ?_
  refine ps_p (o_rmfine 3931 0) (.bool false) (eqf ((m.k) : Int) ((9) : Int) (by omega)) ?_
  refine ps_k (o_rmfine 3931 1) (.bool false) ?_
  refine ps_end ?_
  refine then_n ?_
  refine sy_n (.tmp 20) (part_rmfine 1966) (part_rmfine 1967) ?_
  refine sy_sq (part_rmfine 3934) (part_rmfine 3935) ?_
  refine sy_reg ?_
  refine rg_plain 11 (opsAt (part_rmfine 3934)) [0, 1] (by kernel_rfl) (by kernel_rfl) ?_
  refine ps_p (o_rmfine 3934 0) (.bool false) (eqf ((m.k) : Int) ((4) : Int) (by omega)) ?_
  refine ps_k (o_rmfine 3934 1) (.bool false) ?_
  refine ps_end ?_
  refine then_n ?_
  refine sy_n (.tmp 26) (part_rmfine 7870) (part_rmfine 7871) ?_
  refine sy_sq (part_rmfine 15742) (part_rmfine 15743) ?_
  refine sy_reg ?_
  refine rg_plain 13 (opsAt (part_rmfine 15742)) [0, 1] (by kernel_rfl) (by kernel_rfl) ?_
  refine ps_p (o_rmfine 15742 0) (.bool false) (eqf ((m.k) : Int) ((5) : Int) (by omega)) ?_
  refine ps_k (o_rmfine 15742 1) (.bool false) ?_
  refine ps_end ?_
  refine then_n ?_
  refine sy_n (.tmp 31) (part_rmfine 31486) (part_rmfine 31487) ?_
  refine sy_sq (part_rmfine 62974) (part_rmfine 62975) ?_
  refine sy_sq (part_rmfine 125948) (part_rmfine 125949) ?_
  refine sy_reg ?_
  refine rg_plain 15 (opsAt (part_rmfine 125948)) [0, 1] (by kernel_rfl) (by kernel_rfl) ?_
  refine ps_p (o_rmfine 125948 0) (.bool true) (eqt ((m.k) : Int) ((6) : Int) (by omega)) ?_
  refine ps_k (o_rmfine 125948 1) (.bool true) ?_
  refine ps_end ?_
  refine then_n ?_
  refine sy_ys (.tmp 41) (part_rmfine 251898) (part_rmfine 251899) ?_
  refine sy_sk ?_
  refine then_n ?_
  refine sy_ys (.tmp 41) (part_rmfine 125950) (part_rmfine 125951) ?_
  refine sy_sq (part_rmfine 251900) (part_rmfine 251901) ?_
  refine sy_reg ?_
  refine rg_plain 18 (opsAt (part_rmfine 251900)) [0, 1, 2] (by kernel_rfl) (by kernel_rfl) ?_
  refine ps_p (o_rmfine 251900 0) (.agg (Msg.c m)) (exec_load_row 35 (.tmp 1) (by kernel_rfl) gm (by kernel_rfl) _ _ (0, 0) _ (h2) Try.underlying35 rfl (by rw [Msg.c_size hr]; kernel_rfl)) ?_
  refine ps_c (o_rmfine 251900 1) 80 #[.agg (Msg.c m)] Try.func80 ((rmvotes_ok m _ hr (by omega)).mono ?_)
  rintro e V5 ⟨rfl, kV5⟩
  refine ⟨_, rfl, ?_⟩
  have h6 := kV5.bk h2
  have K7 := K4.nn kV5
  refine ps_k (o_rmfine 251900 2) (.bool (votesB m)) ?_
  refine ps_end ?_
  refine sy_a ⟨#[.agg (Msg.c m), pT gm 0, .bool (votesB m), pT gm 0, .int .i64 m.k, .bool false, undef, undef, undef, pT gm 1, .int .i64 m.f, .bool true, .bool false, pT gm 0, .int .i64 m.k, .bool false, .bool false, undef, undef, undef, .bool false, .bool false, .bool false, undef, undef, undef, .bool false, .bool false, undef, undef, undef, .bool false, .bool false, undef, undef, undef, undef, undef, undef, undef, undef, .bool true, .bool true, undef, undef, .agg (Msg.c m), .bool (votesB m)], []⟩ ?_
  refine then_n ?_
  refine sy_ret (by kernel_rfl) ?_
  refine blk_r ?_
  refine then_r ?_
  refine sy_out (.bool (votesB m)) rfl (by kernel_rfl) ?_
  exact ⟨rfl, K7⟩
set_option maxRecDepth 100000 in
set_option maxHeartbeats 4000000 in
theorem rmfine_7 (m : Msg) (w : World) (hr : m.R) (hk : m.k = 7) (hf : inB m.f 0 63 = true) :
    Calls Try.prog 54 #[.agg (Msg.c m)] w (fun e w' => e = .returned (.bool (votesB m)) ∧ Keeps Nob w w') := by
  have K0 : Keeps Nob w w := Keeps.refl _ _
  refine sy_enter (part_rmfine 1) ⟨#[.agg (Msg.c m), undef, undef, undef, undef, undef, undef, undef, undef, undef, undef, undef, undef, undef, undef, undef, undef, undef, undef, undef, undef, undef, undef, undef, undef, undef, undef, undef, undef, undef, undef, undef, undef, undef, undef, undef, undef, undef, undef, undef, undef, undef, undef, undef, undef, undef, undef], []⟩ Try.func54 (by kernel_rfl) (by kernel_rfl) ?_
  refine sy_sq (part_rmfine 2) (part_rmfine 3) ?_
  refine sy_reg ?_
  refine rg_plain 0 (opsAt (part_rmfine 2)) [0, 1] (by kernel_rfl) (by kernel_rfl) ?_
  obtain ⟨V1, eV1, gm, egm, h2, kV1⟩ := alloc_step w ((Msg.c m)) 35
  have n3 : w.heap.size ≤ gm := egm ▸ K0.size
  refine ps_r (o_rmfine 2 0) (pT gm 0) (w' := V1) (by rw [← eV1, ← egm]; exact exec_box 35 (.tmp 0) (by kernel_rfl) (.agg (Msg.c m)) (by kernel_rfl)) ?_
  clear eV1
  have K4 := K0.nn kV1
  refine ps_k (o_rmfine 2 1) (.bool false) ?_
  refine ps_end ?_
  refine then_n ?_
  refine sy_sq (part_rmfine 6) (part_rmfine 7) ?_
  refine sy_sq (part_rmfine 12) (part_rmfine 13) ?_
  refine sy_reg ?_
  refine rg_plain 1 (opsAt (part_rmfine 12)) [0, 1, 2] (by kernel_rfl) (by kernel_rfl) ?_
  refine ps_k (o_rmfine 12 0) (pT gm 0) ?_
  refine ps_p (o_rmfine 12 1) (.int .i64 m.k) (exec_ld 3 (.tmp 3) gm 0 Try.underlying3 (rc (h2) (Msg.get_n hr NF.k))) ?_
  refine ps_p (o_rmfine 12 2) (.bool false) (eqf ((m.k) : Int) ((11) : Int) (by omega)) ?_
  refine ps_end ?_
  refine then_n ?_
  refine sy_n (.tmp 5) (part_rmfine 26) (part_rmfine 27) ?_
  refine sy_sk ?_
  refine then_n ?_
  refine sy_sq (part_rmfine 14) (part_rmfine 15) ?_
  refine sy_sq (part_rmfine 28) (part_rmfine 29) ?_
  refine sy_reg ?_
  refine rg_plain 3 (opsAt (part_rmfine 28)) [0, 1, 2, 3] (by kernel_rfl) (by kernel_rfl) ?_
  refine ps_k (o_rmfine 28 0) (pT gm 1) ?_
  refine ps_p (o_rmfine 28 1) (.int .i64 m.f) (exec_ld 3 (.tmp 9) gm 1 Try.underlying3 (rc (h2) (Msg.get_n hr NF.f))) ?_
  refine ps_c (o_rmfine 28 2) 77 #[.int .i64 m.f] Try.func77 ((rmaccount_is m.f _ hf).mono ?_)
  rintro e w1 ⟨rfl, rfl⟩
  refine ⟨_, rfl, ?_⟩
  refine ps_k (o_rmfine 28 3) (.bool false) ?_
  refine ps_end ?_
  refine then_n ?_
  refine sy_n (.tmp 12) (part_rmfine 58) (part_rmfine 59) ?_
  refine sy_sk ?_
  refine then_n ?_
  refine sy_sq (part_rmfine 30) (part_rmfine 31) ?_
  refine sy_sq (part_rmfine 60) (part_rmfine 61) ?_
  refine sy_reg ?_
  refine rg_plain 5 (opsAt (part_rmfine 60)) [0, 1] (by kernel_rfl) (by kernel_rfl) ?_
  refine ps_k (o_rmfine 60 0) (pT gm 0) ?_
  refine ps_p (o_rmfine 60 1) (.int .i64 m.k) (exec_ld 3 (.tmp 13) gm 0 Try.underlying3 (rc (h2) (Msg.get_n hr NF.k))) ?_
  refine ps_end ?_
  refine then_n ?_
  refine sy_bk 0 (part_rmfine 122) ?_
  refine sy_sq (part_rmfine 244) (part_rmfine 245) ?_
  refine sy_reg ?_
  refine rg_plain 6 (opsAt (part_rmfine 244)) [0, 1] (by kernel_rfl) (by kernel_rfl) ?_
  refine ps_p (o_rmfine 244 0) (.bool false) (eqf ((m.k) : Int) ((1) : Int) (by omega)) ?_
  refine ps_k (o_rmfine 244 1) (.bool false) ?_
  refine ps_end ?_
  refine then_n ?_
  refine sy_n (.tmp 15) (part_rmfine 490) (part_rmfine 491) ?_
  refine sy_sq (part_rmfine 982) (part_rmfine 983) ?_
  refine sy_sq (part_rmfine 1964) (part_rmfine 1965) ?_
  refine sy_reg ?_
  refine rg_plain 8 (opsAt (part_rmfine 1964)) [0, 1] (by kernel_rfl) (by kernel_rfl) ?_
  refine ps_p (o_rmfine 1964 0) (.bool false) (eqf ((m.k) : Int) ((3) : Int) (by omega)) ?_
  refine ps_k (o_rmfine 1964 1) (.bool false) ?_
  refine ps_end ?_
  refine then_n ?_
  refine sy_n (.tmp 20) (part_rmfine 3930) (part_rmfine 3931) ?_
  refine sy_reg ?_
  refine rg_plain 9 (opsAt (part_rmfine 3931)) [0, 1] (by kernel_rfl) (by kernel_rfl) ?_
  refine ps_p (o_rmfine 3931 0) (.bool false) (eqf ((m.k) : Int) ((9) : Int) (by omega)) ?_
  refine ps_k (o_rmfine 3931 1) (.bool false) ?_
  refine ps_end ?_
  refine then_n ?_
  refine sy_n (.tmp 20) (part_rmfine 1966) (part_rmfine 1967) ?_
  refine sy_sq (part_rmfine 3934) (part_rmfine 3935) ?_
  refine sy_reg ?_
  refine rg_plain 11 (opsAt (part_rmfine 3934)) [0, 1] (by kernel_rfl) (by kernel_rfl) ?_
  refine ps_p (o_rmfine 3934 0) (.bool false) (eqf ((m.k) : Int) ((4) : Int) (by omega)) ?_
  refine ps_k (o_rmfine 3934 1) (.bool false) ?_
  refine ps_end ?_
  refine then_n ?_
  refine sy_n (.tmp 26) (part_rmfine 7870) (part_rmfine 7871) ?_
  refine sy_sq (part_rmfine 15742) (part_rmfine 15743) ?_
  refine sy_reg ?_
  refine rg_plain 13 (opsAt (part_rmfine 15742)) [0, 1] (by kernel_rfl) (by kernel_rfl) ?_
  refine ps_p (o_rmfine 15742 0) (.bool false) (eqf ((m.k) : Int) ((5) : Int) (by omega)) ?_
  refine ps_k (o_rmfine 15742 1) (.bool false) ?_
  refine ps_end ?_
  refine then_n ?_
  refine sy_n (.tmp 31) (part_rmfine 31486) (part_rmfine 31487) ?_
  refine sy_sq (part_rmfine 62974) (part_rmfine 62975) ?_
  refine sy_sq (part_rmfine 125948) (part_rmfine 125949) ?_
  refine sy_reg ?_
  refine rg_plain 15 (opsAt (part_rmfine 125948)) [0, 1] (by kernel_rfl) (by kernel_rfl) ?_
  refine ps_p (o_rmfine 125948 0) (.bool false) (eqf ((m.k) : Int) ((6) : Int) (by omega)) ?_
  refine ps_k (o_rmfine 125948 1) (.bool false) ?_
  refine ps_end ?_
  refine then_n ?_
  refine sy_n (.tmp 41) (part_rmfine 251898) (part_rmfine 251899) ?_
  refine sy_sq (part_rmfine 503798) (part_rmfine 503799) ?_
  refine sy_reg ?_
  refine rg_plain 16 (opsAt (part_rmfine 503798)) [0, 1] (by kernel_rfl) (by kernel_rfl) ?_
  refine ps_p (o_rmfine 503798 0) (.bool true) (eqt ((m.k) : Int) ((7) : Int) (by omega)) ?_
  refine ps_k (o_rmfine 503798 1) (.bool true) ?_
  refine ps_end ?_
  refine sy_a ⟨#[.agg (Msg.c m), pT gm 0, .bool false, pT gm 0, .int .i64 m.k, .bool false, undef, undef, undef, pT gm 1, .int .i64 m.f, .bool true, .bool false, pT gm 0, .int .i64 m.k, .bool false, .bool false, undef, undef, undef, .bool false, .bool false, .bool false, undef, undef, undef, .bool false, .bool false, undef, undef, undef, .bool false, .bool false, undef, undef, undef, undef, undef, undef, undef, undef, .bool true, .bool false, .bool true, undef, undef, undef], []⟩ ?_
  refine then_n ?_
  refine sy_ys (.tmp 41) (part_rmfine 1007598) (part_rmfine 1007599) ?_
  refine sy_sk ?_
  refine then_n ?_
  refine sy_ys (.tmp 41) (part_rmfine 125950) (part_rmfine 125951) ?_
  refine sy_sq (part_rmfine 251900) (part_rmfine 251901) ?_
  refine sy_reg ?_
  refine rg_plain 18 (opsAt (part_rmfine 251900)) [0, 1, 2] (by kernel_rfl) (by kernel_rfl) ?_
  refine ps_p (o_rmfine 251900 0) (.agg (Msg.c m)) (exec_load_row 35 (.tmp 1) (by kernel_rfl) gm (by kernel_rfl) _ _ (0, 0) _ (h2) Try.underlying35 rfl (by rw [Msg.c_size hr]; kernel_rfl)) ?_
  refine ps_c (o_rmfine 251900 1) 80 #[.agg (Msg.c m)] Try.func80 ((rmvotes_ok m _ hr (by omega)).mono ?_)
  rintro e V5 ⟨rfl, kV5⟩
  refine ⟨_, rfl, ?_⟩
  have h6 := kV5.bk h2
  have K7 := K4.nn kV5
  refine ps_k (o_rmfine 251900 2) (.bool (votesB m)) ?_
  refine ps_end ?_
  refine then_n ?_
  refine sy_ret (by kernel_rfl) ?_
  refine blk_r ?_
  refine then_r ?_
  refine sy_out (.bool (votesB m)) rfl (by kernel_rfl) ?_
  exact ⟨rfl, K7⟩
set_option maxRecDepth 100000 in
set_option maxHeartbeats 4000000 in
theorem rmfine_8 (m : Msg) (w : World) (hr : m.R) (hk : m.k = 8) (hf : inB m.f 0 63 = true) :
    Calls Try.prog 54 #[.agg (Msg.c m)] w (fun e w' => e = .returned (.bool (votesB m)) ∧ Keeps Nob w w') := by
  have K0 : Keeps Nob w w := Keeps.refl _ _
  refine sy_enter (part_rmfine 1) ⟨#[.agg (Msg.c m), undef, undef, undef, undef, undef, undef, undef, undef, undef, undef, undef, undef, undef, undef, undef, undef, undef, undef, undef, undef, undef, undef, undef, undef, undef, undef, undef, undef, undef, undef, undef, undef, undef, undef, undef, undef, undef, undef, undef, undef, undef, undef, undef, undef, undef, undef], []⟩ Try.func54 (by kernel_rfl) (by kernel_rfl) ?_
  refine sy_sq (part_rmfine 2) (part_rmfine 3) ?_
  refine sy_reg ?_
  refine rg_plain 0 (opsAt (part_rmfine 2)) [0, 1] (by kernel_rfl) (by kernel_rfl) ?_
  obtain ⟨V1, eV1, gm, egm, h2, kV1⟩ := alloc_step w ((Msg.c m)) 35
  have n3 : w.heap.size ≤ gm := egm ▸ K0.size
  refine ps_r (o_rmfine 2 0) (pT gm 0) (w' := V1) (by rw [← eV1, ← egm]; exact exec_box 35 (.tmp 0) (by kernel_rfl) (.agg (Msg.c m)) (by kernel_rfl)) ?_
  clear eV1
  have K4 := K0.nn kV1
  refine ps_k (o_rmfine 2 1) (.bool false) ?_
  refine ps_end ?_
  refine then_n ?_
  refine sy_sq (part_rmfine 6) (part_rmfine 7) ?_
  refine sy_sq (part_rmfine 12) (part_rmfine 13) ?_
  refine sy_reg ?_
  refine rg_plain 1 (opsAt (part_rmfine 12)) [0, 1, 2] (by kernel_rfl) (by kernel_rfl) ?_
  refine ps_k (o_rmfine 12 0) (pT gm 0) ?_
  refine ps_p (o_rmfine 12 1) (.int .i64 m.k) (exec_ld 3 (.tmp 3) gm 0 Try.underlying3 (rc (h2) (Msg.get_n hr NF.k))) ?_
  refine ps_p (o_rmfine 12 2) (.bool false) (eqf ((m.k) : Int) ((11) : Int) (by omega)) ?_
  refine ps_end ?_
  refine then_n ?_
  refine sy_n (.tmp 5) (part_rmfine 26) (part_rmfine 27) ?_
  refine sy_sk ?_
  refine then_n ?_
  refine sy_sq (part_rmfine 14) (part_rmfine 15) ?_
  refine sy_sq (part_rmfine 28) (part_rmfine 29) ?_
  refine sy_reg ?_
  refine rg_plain 3 (opsAt (part_rmfine 28)) [0, 1, 2, 3] (by kernel_rfl) (by kernel_rfl) ?_
  refine ps_k (o_rmfine 28 0) (pT gm 1) ?_
  refine ps_p (o_rmfine 28 1) (.int .i64 m.f) (exec_ld 3 (.tmp 9) gm 1 Try.underlying3 (rc (h2) (Msg.get_n hr NF.f))) ?_
  refine ps_c (o_rmfine 28 2) 77 #[.int .i64 m.f] Try.func77 ((rmaccount_is m.f _ hf).mono ?_)
  rintro e w1 ⟨rfl, rfl⟩
  refine ⟨_, rfl, ?_⟩
  refine ps_k (o_rmfine 28 3) (.bool false) ?_
  refine ps_end ?_
  refine then_n ?_
  refine sy_n (.tmp 12) (part_rmfine 58) (part_rmfine 59) ?_
  refine sy_sk ?_
  refine then_n ?_
  refine sy_sq (part_rmfine 30) (part_rmfine 31) ?_
  refine sy_sq (part_rmfine 60) (part_rmfine 61) ?_
  refine sy_reg ?_
  refine rg_plain 5 (opsAt (part_rmfine 60)) [0, 1] (by kernel_rfl) (by kernel_rfl) ?_
  refine ps_k (o_rmfine 60 0) (pT gm 0) ?_
  refine ps_p (o_rmfine 60 1) (.int .i64 m.k) (exec_ld 3 (.tmp 13) gm 0 Try.underlying3 (rc (h2) (Msg.get_n hr NF.k))) ?_
  refine ps_end ?_
  refine then_n ?_
  refine sy_bk 0 (part_rmfine 122) ?_
  refine sy_sq (part_rmfine 244) (part_rmfine 245) ?_
  refine sy_reg ?_
  refine rg_plain 6 (opsAt (part_rmfine 244)) [0, 1] (by kernel_rfl) (by kernel_rfl) ?_
  refine ps_p (o_rmfine 244 0) (.bool false) (eqf ((m.k) : Int) ((1) : Int) (by omega)) ?_
  refine ps_k (o_rmfine 244 1) (.bool false) ?_
  refine ps_end ?_
  refine then_n ?_
  refine sy_n (.tmp 15) (part_rmfine 490) (part_rmfine 491) ?_
  refine sy_sq (part_rmfine 982) (part_rmfine 983) ?_
  refine sy_sq (part_rmfine 1964) (part_rmfine 1965) ?_
  refine sy_reg ?_
  refine rg_plain 8 (opsAt (part_rmfine 1964)) [0, 1] (by kernel_rfl) (by kernel_rfl) ?_
  refine ps_p (o_rmfine 1964 0) (.bool false) (eqf ((m.k) : Int) ((3) : Int) (by omega)) ?_
  refine ps_k (o_rmfine 1964 1) (.bool false) ?_
  refine ps_end ?_
  refine then_n ?_
  refine sy_n (.tmp 20) (part_rmfine 3930) (part_rmfine 3931) ?_
  refine sy_reg ?_
  refine rg_plain 9 (opsAt (part_rmfine 3931)) [0, 1] (by kernel_rfl) (by kernel_rfl) ?_
  refine ps_p (o_rmfine 3931 0) (.bool false) (eqf ((m.k) : Int) ((9) : Int) (by omega)) ?_
  refine ps_k (o_rmfine 3931 1) (.bool false) ?_
  refine ps_end ?_
  refine then_n ?_
  refine sy_n (.tmp 20) (part_rmfine 1966) (part_rmfine 1967) ?_
  refine sy_sq (part_rmfine 3934) (part_rmfine 3935) ?_
  refine sy_reg ?_
  refine rg_plain 11 (opsAt (part_rmfine 3934)) [0, 1] (by kernel_rfl) (by kernel_rfl) ?_
  refine ps_p (o_rmfine 3934 0) (.bool false) (eqf ((m.k) : Int) ((4) : Int) (by omega)) ?_
  refine ps_k (o_rmfine 3934 1) (.bool false) ?_
  refine ps_end ?_
  refine then_n ?_
  refine sy_n (.tmp 26) (part_rmfine 7870) (part_rmfine 7871) ?_
  refine sy_sq (part_rmfine 15742) (part_rmfine 15743) ?_
  refine sy_reg ?_
  refine rg_plain 13 (opsAt (part_rmfine 15742)) [0, 1] (by kernel_rfl) (by kernel_rfl) ?_
  refine ps_p (o_rmfine 15742 0) (.bool false) (eqf ((m.k) : Int) ((5) : Int) (by omega)) ?_
  refine ps_k (o_rmfine 15742 1) (.bool false) ?_
  refine ps_end ?_
  refine then_n ?_
  refine sy_n (.tmp 31) (part_rmfine 31486) (part_rmfine 31487) ?_
  refine sy_sq (part_rmfine 62974) (part_rmfine 62975) ?_
  refine sy_sq (part_rmfine 125948) (part_rmfine 125949) ?_
  refine sy_reg ?_
  refine rg_plain 15 (opsAt (part_rmfine 125948)) [0, 1] (by kernel_rfl) (by kernel_rfl) ?_
  refine ps_p (o_rmfine 125948 0) (.bool false) (eqf ((m.k) : Int) ((6) : Int) (by omega)) ?_
  refine ps_k (o_rmfine 125948 1) (.bool false) ?_
  refine ps_end ?_
  refine then_n ?_
  refine sy_n (.tmp 41) (part_rmfine 251898) (part_rmfine 251899) ?_
  refine sy_sq (part_rmfine 503798) (part_rmfine 503799) ?_
  refine sy_reg ?_
  refine rg_plain 16 (opsAt (part_rmfine 503798)) [0, 1] (by kernel_rfl) (by kernel_rfl) ?_
  refine ps_p (o_rmfine 503798 0) (.bool false) (eqf ((m.k) : Int) ((7) : Int) (by omega)) ?_
  refine ps_k (o_rmfine 503798 1) (.bool false) ?_
  refine ps_end ?_
  refine sy_a ⟨#[.agg (Msg.c m), pT gm 0, .bool false, pT gm 0, .int .i64 m.k, .bool false, undef, undef, undef, pT gm 1, .int .i64 m.f, .bool true, .bool false, pT gm 0, .int .i64 m.k, .bool false, .bool false, undef, undef, undef, .bool false, .bool false, .bool false, undef, undef, undef, .bool false, .bool false, undef, undef, undef, .bool false, .bool false, undef, undef, undef, undef, undef, undef, undef, undef, .bool false, .bool false, .bool false, undef, undef, undef], []⟩ ?_
  refine then_n ?_
  refine sy_n (.tmp 41) (part_rmfine 1007598) (part_rmfine 1007599) ?_
  refine sy_reg ?_
  refine rg_plain 17 (opsAt (part_rmfine 1007599)) [0, 1] (by kernel_rfl) (by kernel_rfl) ?_
  refine ps_p (o_rmfine 1007599 0) (.bool true) (eqt ((m.k) : Int) ((8) : Int) (by omega)) ?_
  refine ps_k (o_rmfine 1007599 1) (.bool true) ?_
  refine ps_end ?_
  refine then_n ?_
  refine sy_ys (.tmp 41) (part_rmfine 125950) (part_rmfine 125951) ?_
  refine sy_sq (part_rmfine 251900) (part_rmfine 251901) ?_
  refine sy_reg ?_
  refine rg_plain 18 (opsAt (part_rmfine 251900)) [0, 1, 2] (by kernel_rfl) (by kernel_rfl) ?_
  refine ps_p (o_rmfine 251900 0) (.agg (Msg.c m)) (exec_load_row 35 (.tmp 1) (by kernel_rfl) gm (by kernel_rfl) _ _ (0, 0) _ (h2) Try.underlying35 rfl (by rw [Msg.c_size hr]; kernel_rfl)) ?_
  refine ps_c (o_rmfine 251900 1) 80 #[.agg (Msg.c m)] Try.func80 ((rmvotes_ok m _ hr (by omega)).mono ?_)
  rintro e V5 ⟨rfl, kV5⟩
  refine ⟨_, rfl, ?_⟩
  have h6 := kV5.bk h2
  have K7 := K4.nn kV5
  refine ps_k (o_rmfine 251900 2) (.bool (votesB m)) ?_
  refine ps_end ?_
  refine then_n ?_
  refine sy_ret (by kernel_rfl) ?_
  refine blk_r ?_
  refine then_r ?_
  refine sy_out (.bool (votesB m)) rfl (by kernel_rfl) ?_
  exact ⟨rfl, K7⟩
set_option maxRecDepth 100000 in
set_option maxHeartbeats 4000000 in
theorem rmfine_9 (m : Msg) (w : World) (hr : m.R) (hk : m.k = 9) (hf : inB m.f 0 63 = true) :
    Calls Try.prog 54 #[.agg (Msg.c m)] w (fun e w' => e = .returned (.bool (inB m.vl 0 31)) ∧ Keeps Nob w w') := by
  have K0 : Keeps Nob w w := Keeps.refl _ _
  refine sy_enter (part_rmfine 1) ⟨#[.agg (Msg.c m), undef, undef, undef, undef, undef, undef, undef, undef, undef, undef, undef, undef, undef, undef, undef, undef, undef, undef, undef, undef, undef, undef, undef, undef, undef, undef, undef, undef, undef, undef, undef, undef, undef, undef, undef, undef, undef, undef, undef, undef, undef, undef, undef, undef, undef, undef], []⟩ Try.func54 (by kernel_rfl) (by kernel_rfl) ?_
  refine sy_sq (part_rmfine 2) (part_rmfine 3) ?_
  refine sy_reg ?_
  refine rg_plain 0 (opsAt (part_rmfine 2)) [0, 1] (by kernel_rfl) (by kernel_rfl) ?_
  obtain ⟨V1, eV1, gm, egm, h2, kV1⟩ := alloc_step w ((Msg.c m)) 35
  have n3 : w.heap.size ≤ gm := egm ▸ K0.size
  refine ps_r (o_rmfine 2 0) (pT gm 0) (w' := V1) (by rw [← eV1, ← egm]; exact exec_box 35 (.tmp 0) (by kernel_rfl) (.agg (Msg.c m)) (by kernel_rfl)) ?_
  clear eV1
  have K4 := K0.nn kV1
  refine ps_k (o_rmfine 2 1) (.bool false) ?_
  refine ps_end ?_
  refine then_n ?_
  refine sy_sq (part_rmfine 6) (part_rmfine 7) ?_
  refine sy_sq (part_rmfine 12) (part_rmfine 13) ?_
  refine sy_reg ?_
  refine rg_plain 1 (opsAt (part_rmfine 12)) [0, 1, 2] (by kernel_rfl) (by kernel_rfl) ?_
  refine ps_k (o_rmfine 12 0) (pT gm 0) ?_
  refine ps_p (o_rmfine 12 1) (.int .i64 m.k) (exec_ld 3 (.tmp 3) gm 0 Try.underlying3 (rc (h2) (Msg.get_n hr NF.k))) ?_
  refine ps_p (o_rmfine 12 2) (.bool false) (eqf ((m.k) : Int) ((11) : Int) (by omega)) ?_
  refine ps_end ?_
  refine then_n ?_
  refine sy_n (.tmp 5) (part_rmfine 26) (part_rmfine 27) ?_
  refine sy_sk ?_
  refine then_n ?_
  refine sy_sq (part_rmfine 14) (part_rmfine 15) ?_
  refine sy_sq (part_rmfine 28) (part_rmfine 29) ?_
  refine sy_reg ?_
  refine rg_plain 3 (opsAt (part_rmfine 28)) [0, 1, 2, 3] (by kernel_rfl) (by kernel_rfl) ?_
  refine ps_k (o_rmfine 28 0) (pT gm 1) ?_
  refine ps_p (o_rmfine 28 1) (.int .i64 m.f) (exec_ld 3 (.tmp 9) gm 1 Try.underlying3 (rc (h2) (Msg.get_n hr NF.f))) ?_
  refine ps_c (o_rmfine 28 2) 77 #[.int .i64 m.f] Try.func77 ((rmaccount_is m.f _ hf).mono ?_)
  rintro e w1 ⟨rfl, rfl⟩
  refine ⟨_, rfl, ?_⟩
  refine ps_k (o_rmfine 28 3) (.bool false) ?_
  refine ps_end ?_
  refine then_n ?_
  refine sy_n (.tmp 12) (part_rmfine 58) (part_rmfine 59) ?_
  refine sy_sk ?_
  refine then_n ?_
  refine sy_sq (part_rmfine 30) (part_rmfine 31) ?_
  refine sy_sq (part_rmfine 60) (part_rmfine 61) ?_
  refine sy_reg ?_
  refine rg_plain 5 (opsAt (part_rmfine 60)) [0, 1] (by kernel_rfl) (by kernel_rfl) ?_
  refine ps_k (o_rmfine 60 0) (pT gm 0) ?_
  refine ps_p (o_rmfine 60 1) (.int .i64 m.k) (exec_ld 3 (.tmp 13) gm 0 Try.underlying3 (rc (h2) (Msg.get_n hr NF.k))) ?_
  refine ps_end ?_
  refine then_n ?_
  refine sy_bk 0 (part_rmfine 122) ?_
  refine sy_sq (part_rmfine 244) (part_rmfine 245) ?_
  refine sy_reg ?_
  refine rg_plain 6 (opsAt (part_rmfine 244)) [0, 1] (by kernel_rfl) (by kernel_rfl) ?_
  refine ps_p (o_rmfine 244 0) (.bool false) (eqf ((m.k) : Int) ((1) : Int) (by omega)) ?_
  refine ps_k (o_rmfine 244 1) (.bool false) ?_
  refine ps_end ?_
  refine then_n ?_
  refine sy_n (.tmp 15) (part_rmfine 490) (part_rmfine 491) ?_
  refine sy_sq (part_rmfine 982) (part_rmfine 983) ?_
  refine sy_sq (part_rmfine 1964) (part_rmfine 1965) ?_
  refine sy_reg ?_
  refine rg_plain 8 (opsAt (part_rmfine 1964)) [0, 1] (by kernel_rfl) (by kernel_rfl) ?_
  refine ps_p (o_rmfine 1964 0) (.bool false) (eqf ((m.k) : Int) ((3) : Int) (by omega)) ?_
  refine ps_k (o_rmfine 1964 1) (.bool false) ?_
  refine ps_end ?_
  refine then_n ?_
  refine sy_n (.tmp 20) (part_rmfine 3930) (part_rmfine 3931) ?_
  refine sy_reg ?_
  refine rg_plain 9 (opsAt (part_rmfine 3931)) [0, 1] (by kernel_rfl) (by kernel_rfl) ?_
  refine ps_p (o_rmfine 3931 0) (.bool true) (eqt ((m.k) : Int) ((9) : Int) (by omega)) ?_
  refine ps_k (o_rmfine 3931 1) (.bool true) ?_
  refine ps_end ?_
  refine then_n ?_
  refine sy_ys (.tmp 20) (part_rmfine 1966) (part_rmfine 1967) ?_
  refine sy_sq (part_rmfine 3932) (part_rmfine 3933) ?_
  refine sy_reg ?_
  refine rg_plain 10 (opsAt (part_rmfine 3932)) [0, 1, 2, 3] (by kernel_rfl) (by kernel_rfl) ?_
  refine ps_k (o_rmfine 3932 0) (pT gm 2) ?_
  refine ps_p (o_rmfine 3932 1) (.int .i64 m.vl) (exec_ld 3 (.tmp 23) gm 2 Try.underlying3 (rc (h2) (Msg.get_n hr NF.vl))) ?_
  refine ps_c (o_rmfine 3932 2) 78 #[.int .i64 m.vl] Try.func78 ((rmvalidator_ok m.vl _).mono ?_)
  rintro e w1 ⟨rfl, rfl⟩
  refine ⟨_, rfl, ?_⟩
  refine ps_k (o_rmfine 3932 3) (.bool (inB m.vl 0 31)) ?_
  refine ps_end ?_
  refine then_n ?_
  refine sy_ret (by kernel_rfl) ?_
  refine blk_r ?_
  refine then_r ?_
  refine sy_out (.bool (inB m.vl 0 31)) rfl (by kernel_rfl) ?_
  exact ⟨rfl, K4⟩
set_option maxRecDepth 100000 in
set_option maxHeartbeats 4000000 in
theorem rmfine_10 (m : Msg) (w : World) (hr : m.R) (hk : m.k = 10) (hf : inB m.f 0 63 = true) :
    Calls Try.prog 54 #[.agg (Msg.c m)] w (fun e w' => e = .returned (.bool (true)) ∧ Keeps Nob w w') := by
  have K0 : Keeps Nob w w := Keeps.refl _ _
  refine sy_enter (part_rmfine 1) ⟨#[.agg (Msg.c m), undef, undef, undef, undef, undef, undef, undef, undef, undef, undef, undef, undef, undef, undef, undef, undef, undef, undef, undef, undef, undef, undef, undef, undef, undef, undef, undef, undef, undef, undef, undef, undef, undef, undef, undef, undef, undef, undef, undef, undef, undef, undef, undef, undef, undef, undef], []⟩ Try.func54 (by kernel_rfl) (by kernel_rfl) ?_
  refine sy_sq (part_rmfine 2) (part_rmfine 3) ?_
  refine sy_reg ?_
  refine rg_plain 0 (opsAt (part_rmfine 2)) [0, 1] (by kernel_rfl) (by kernel_rfl) ?_
  obtain ⟨V1, eV1, gm, egm, h2, kV1⟩ := alloc_step w ((Msg.c m)) 35
  have n3 : w.heap.size ≤ gm := egm ▸ K0.size
  refine ps_r (o_rmfine 2 0) (pT gm 0) (w' := V1) (by rw [← eV1, ← egm]; exact exec_box 35 (.tmp 0) (by kernel_rfl) (.agg (Msg.c m)) (by kernel_rfl)) ?_
  clear eV1
  have K4 := K0.nn kV1
  refine ps_k (o_rmfine 2 1) (.bool false) ?_
  refine ps_end ?_
  refine then_n ?_
  refine sy_sq (part_rmfine 6) (part_rmfine 7) ?_
  refine sy_sq (part_rmfine 12) (part_rmfine 13) ?_
  refine sy_reg ?_
  refine rg_plain 1 (opsAt (part_rmfine 12)) [0, 1, 2] (by kernel_rfl) (by kernel_rfl) ?_
  refine ps_k (o_rmfine 12 0) (pT gm 0) ?_
  refine ps_p (o_rmfine 12 1) (.int .i64 m.k) (exec_ld 3 (.tmp 3) gm 0 Try.underlying3 (rc (h2) (Msg.get_n hr NF.k))) ?_
  refine ps_p (o_rmfine 12 2) (.bool false) (eqf ((m.k) : Int) ((11) : Int) (by omega)) ?_
  refine ps_end ?_
  refine then_n ?_
  refine sy_n (.tmp 5) (part_rmfine 26) (part_rmfine 27) ?_
  refine sy_sk ?_
  refine then_n ?_
  refine sy_sq (part_rmfine 14) (part_rmfine 15) ?_
  refine sy_sq (part_rmfine 28) (part_rmfine 29) ?_
  refine sy_reg ?_
  refine rg_plain 3 (opsAt (part_rmfine 28)) [0, 1, 2, 3] (by kernel_rfl) (by kernel_rfl) ?_
  refine ps_k (o_rmfine 28 0) (pT gm 1) ?_
  refine ps_p (o_rmfine 28 1) (.int .i64 m.f) (exec_ld 3 (.tmp 9) gm 1 Try.underlying3 (rc (h2) (Msg.get_n hr NF.f))) ?_
  refine ps_c (o_rmfine 28 2) 77 #[.int .i64 m.f] Try.func77 ((rmaccount_is m.f _ hf).mono ?_)
  rintro e w1 ⟨rfl, rfl⟩
  refine ⟨_, rfl, ?_⟩
  refine ps_k (o_rmfine 28 3) (.bool false) ?_
  refine ps_end ?_
  refine then_n ?_
  refine sy_n (.tmp 12) (part_rmfine 58) (part_rmfine 59) ?_
  refine sy_sk ?_
  refine then_n ?_
  refine sy_sq (part_rmfine 30) (part_rmfine 31) ?_
  refine sy_sq (part_rmfine 60) (part_rmfine 61) ?_
  refine sy_reg ?_
  refine rg_plain 5 (opsAt (part_rmfine 60)) [0, 1] (by kernel_rfl) (by kernel_rfl) ?_
  refine ps_k (o_rmfine 60 0) (pT gm 0) ?_
  refine ps_p (o_rmfine 60 1) (.int .i64 m.k) (exec_ld 3 (.tmp 13) gm 0 Try.underlying3 (rc (h2) (Msg.get_n hr NF.k))) ?_
  refine ps_end ?_
  refine then_n ?_
  refine sy_bk 0 (part_rmfine 122) ?_
  refine sy_sq (part_rmfine 244) (part_rmfine 245) ?_
  refine sy_reg ?_
  refine rg_plain 6 (opsAt (part_rmfine 244)) [0, 1] (by kernel_rfl) (by kernel_rfl) ?_
  refine ps_p (o_rmfine 244 0) (.bool false) (eqf ((m.k) : Int) ((1) : Int) (by omega)) ?_
  refine ps_k (o_rmfine 244 1) (.bool false) ?_
  refine ps_end ?_
  refine then_n ?_
  refine sy_n (.tmp 15) (part_rmfine 490) (part_rmfine 491) ?_
  refine sy_sq (part_rmfine 982) (part_rmfine 983) ?_
  refine sy_sq (part_rmfine 1964) (part_rmfine 1965) ?_
  refine sy_reg ?_
  refine rg_plain 8 (opsAt (part_rmfine 1964)) [0, 1] (by kernel_rfl) (by kernel_rfl) ?_
  refine ps_p (o_rmfine 1964 0) (.bool false) (eqf ((m.k) : Int) ((3) : Int) (by omega)) ?_
  refine ps_k (o_rmfine 1964 1) (.bool false) ?_
  refine ps_end ?_
  refine then_n ?_
  refine sy_n (.tmp 20) (part_rmfine 3930) (part_rmfine 3931) ?_
  refine sy_reg ?_
  refine rg_plain 9 (opsAt (part_rmfine 3931)) [0, 1] (by kernel_rfl) (by kernel_rfl) ?_
  refine ps_p (o_rmfine 3931 0) (.bool false) (eqf ((m.k) : Int) ((9) : Int) (by omega)) ?_
  refine ps_k (o_rmfine 3931 1) (.bool false) ?_
  refine ps_end ?_
  refine then_n ?_
  refine sy_n (.tmp 20) (part_rmfine 1966) (part_rmfine 1967) ?_
  refine sy_sq (part_rmfine 3934) (part_rmfine 3935) ?_
  refine sy_reg ?_
  refine rg_plain 11 (opsAt (part_rmfine 3934)) [0, 1] (by kernel_rfl) (by kernel_rfl) ?_
  refine ps_p (o_rmfine 3934 0) (.bool false) (eqf ((m.k) : Int) ((4) : Int) (by omega)) ?_
  refine ps_k (o_rmfine 3934 1) (.bool false) ?_
  refine ps_end ?_
  refine then_n ?_
  refine sy_n (.tmp 26) (part_rmfine 7870) (part_rmfine 7871) ?_
  refine sy_sq (part_rmfine 15742) (part_rmfine 15743) ?_
  refine sy_reg ?_
  refine rg_plain 13 (opsAt (part_rmfine 15742)) [0, 1] (by kernel_rfl) (by kernel_rfl) ?_
  refine ps_p (o_rmfine 15742 0) (.bool false) (eqf ((m.k) : Int) ((5) : Int) (by omega)) ?_
  refine ps_k (o_rmfine 15742 1) (.bool false) ?_
  refine ps_end ?_
  refine then_n ?_
  refine sy_n (.tmp 31) (part_rmfine 31486) (part_rmfine 31487) ?_
  refine sy_sq (part_rmfine 62974) (part_rmfine 62975) ?_
  refine sy_sq (part_rmfine 125948) (part_rmfine 125949) ?_
  refine sy_reg ?_
  refine rg_plain 15 (opsAt (part_rmfine 125948)) [0, 1] (by kernel_rfl) (by kernel_rfl) ?_
  refine ps_p (o_rmfine 125948 0) (.bool false) (eqf ((m.k) : Int) ((6) : Int) (by omega)) ?_
  refine ps_k (o_rmfine 125948 1) (.bool false) ?_
  refine ps_end ?_
  refine then_n ?_
  refine sy_n (.tmp 41) (part_rmfine 251898) (part_rmfine 251899) ?_
  refine sy_sq (part_rmfine 503798) (part_rmfine 503799) ?_
  refine sy_reg ?_
  refine rg_plain 16 (opsAt (part_rmfine 503798)) [0, 1] (by kernel_rfl) (by kernel_rfl) ?_
  refine ps_p (o_rmfine 503798 0) (.bool false) (eqf ((m.k) : Int) ((7) : Int) (by omega)) ?_
  refine ps_k (o_rmfine 503798 1) (.bool false) ?_
  refine ps_end ?_
  refine sy_a ⟨#[.agg (Msg.c m), pT gm 0, .bool false, pT gm 0, .int .i64 m.k, .bool false, undef, undef, undef, pT gm 1, .int .i64 m.f, .bool true, .bool false, pT gm 0, .int .i64 m.k, .bool false, .bool false, undef, undef, undef, .bool false, .bool false, .bool false, undef, undef, undef, .bool false, .bool false, undef, undef, undef, .bool false, .bool false, undef, undef, undef, undef, undef, undef, undef, undef, .bool false, .bool false, .bool false, undef, undef, undef], []⟩ ?_
  refine then_n ?_
  refine sy_n (.tmp 41) (part_rmfine 1007598) (part_rmfine 1007599) ?_
  refine sy_reg ?_
  refine rg_plain 17 (opsAt (part_rmfine 1007599)) [0, 1] (by kernel_rfl) (by kernel_rfl) ?_
  refine ps_p (o_rmfine 1007599 0) (.bool false) (eqf ((m.k) : Int) ((8) : Int) (by omega)) ?_
  refine ps_k (o_rmfine 1007599 1) (.bool false) ?_
  refine ps_end ?_
  refine then_n ?_
  refine sy_n (.tmp 41) (part_rmfine 125950) (part_rmfine 125951) ?_
  refine sy_sk ?_
  refine blk_n ?_
  refine then_n ?_
  refine sy_sq (part_rmfine 62) (part_rmfine 63) ?_
  refine sy_reg ?_
  refine rg_plain 19 (opsAt (part_rmfine 62)) [0] (by kernel_rfl) (by kernel_rfl) ?_
  refine ps_k (o_rmfine 62 0) (.bool true) ?_
  refine ps_end ?_
  refine then_n ?_
  refine sy_ret (by kernel_rfl) ?_
  refine sy_out (.bool true) rfl (by kernel_rfl) ?_
  exact ⟨rfl, K4⟩
set_option maxRecDepth 100000 in
set_option maxHeartbeats 4000000 in
theorem rmfine_11 (m : Msg) (w : World) (hr : m.R) (hk : m.k = 11) :
    Calls Try.prog 54 #[.agg (Msg.c m)] w (fun e w' => e = .returned (.bool (inB m.n 1 1000)) ∧ Keeps Nob w w') := by
  have K0 : Keeps Nob w w := Keeps.refl _ _
  refine sy_enter (part_rmfine 1) ⟨#[.agg (Msg.c m), undef, undef, undef, undef, undef, undef, undef, undef, undef, undef, undef, undef, undef, undef, undef, undef, undef, undef, undef, undef, undef, undef, undef, undef, undef, undef, undef, undef, undef, undef, undef, undef, undef, undef, undef, undef, undef, undef, undef, undef, undef, undef, undef, undef, undef, undef], []⟩ Try.func54 (by kernel_rfl) (by kernel_rfl) ?_
  refine sy_sq (part_rmfine 2) (part_rmfine 3) ?_
  refine sy_reg ?_
  refine rg_plain 0 (opsAt (part_rmfine 2)) [0, 1] (by kernel_rfl) (by kernel_rfl) ?_
  obtain ⟨V1, eV1, gm, egm, h2, kV1⟩ := alloc_step w ((Msg.c m)) 35
  have n3 : w.heap.size ≤ gm := egm ▸ K0.size
  refine ps_r (o_rmfine 2 0) (pT gm 0) (w' := V1) (by rw [← eV1, ← egm]; exact exec_box 35 (.tmp 0) (by kernel_rfl) (.agg (Msg.c m)) (by kernel_rfl)) ?_
  clear eV1
  have K4 := K0.nn kV1
  refine ps_k (o_rmfine 2 1) (.bool false) ?_
  refine ps_end ?_
  refine then_n ?_
  refine sy_sq (part_rmfine 6) (part_rmfine 7) ?_
  refine sy_sq (part_rmfine 12) (part_rmfine 13) ?_
  refine sy_reg ?_
  refine rg_plain 1 (opsAt (part_rmfine 12)) [0, 1, 2] (by kernel_rfl) (by kernel_rfl) ?_
  refine ps_k (o_rmfine 12 0) (pT gm 0) ?_
  refine ps_p (o_rmfine 12 1) (.int .i64 m.k) (exec_ld 3 (.tmp 3) gm 0 Try.underlying3 (rc (h2) (Msg.get_n hr NF.k))) ?_
  refine ps_p (o_rmfine 12 2) (.bool true) (eqt ((m.k) : Int) ((11) : Int) (by omega)) ?_
  refine ps_end ?_
  refine then_n ?_
  refine sy_ys (.tmp 5) (part_rmfine 26) (part_rmfine 27) ?_
  refine sy_sq (part_rmfine 52) (part_rmfine 53) ?_
  refine sy_reg ?_
  refine rg_plain 2 (opsAt (part_rmfine 52)) [0, 1, 2, 3] (by kernel_rfl) (by kernel_rfl) ?_
  refine ps_k (o_rmfine 52 0) (pT gm 10) ?_
  refine ps_p (o_rmfine 52 1) (.int .i64 m.n) (exec_ld 3 (.tmp 6) gm 10 Try.underlying3 (rc (h2) (Msg.get_n hr NF.n))) ?_
  refine ps_c (o_rmfine 52 2) 53 #[.int .i64 m.n, .int .i64 1, .int .i64 1000] Try.func53 ((rmwithin_ok m.n 1 1000 _).mono ?_)
  rintro e w1 ⟨rfl, rfl⟩
  refine ⟨_, rfl, ?_⟩
  refine ps_k (o_rmfine 52 3) (.bool (inB m.n 1 1000)) ?_
  refine ps_end ?_
  refine then_n ?_
  refine sy_ret (by kernel_rfl) ?_
  refine then_r ?_
  refine sy_out (.bool (inB m.n 1 1000)) rfl (by kernel_rfl) ?_
  exact ⟨rfl, K4⟩
theorem chk_n (m : Msg) (x : NF) (lo hi : Int) : (chkIt m (.n x lo hi) = true) = (lo ≤ x.get m ∧ x.get m ≤ hi) := decide_eq_true_eq
theorem chk_a (m : Msg) (x : AF) : chkIt m (.a x) = true := rfl
theorem chk_h (m : Msg) (x : HF) : chkIt m (.h x) = true := rfl
theorem chk_k (m : Msg) (x : Int) : chkIt m (.k x) = true := rfl
theorem lotB (m : Msg) : lotM.all (chkIt m) = stampB m := by rw [Bool.eq_iff_iff]; simp [lotM, chk_n, chk_a, chk_h, chk_k, NF.get, stampB, inB, and_assoc]
theorem attA (m : Msg) : (voteM .av .as_ .at_ .ar .ag).all (chkIt m) = decide m.a.fine := by rw [Bool.eq_iff_iff, decide_eq_true_eq]; simp [voteM, chk_n, chk_a, chk_h, chk_k, NF.get, Att.fine, and_assoc]
theorem attB (m : Msg) : (voteM .bv .bs .bt .br .bg).all (chkIt m) = decide m.b.fine := by rw [Bool.eq_iff_iff, decide_eq_true_eq]; simp [voteM, chk_n, chk_a, chk_h, chk_k, NF.get, Att.fine, and_assoc]
theorem proP (m : Msg) : (blockM .pv .ph .pr .pg).all (chkIt m) = decide m.p.fine := by rw [Bool.eq_iff_iff, decide_eq_true_eq]; simp [blockM, chk_n, chk_a, chk_h, chk_k, NF.get, Pro.fine, and_assoc]
theorem proQ (m : Msg) : (blockM .qv .qh .qr .qg).all (chkIt m) = decide m.q.fine := by rw [Bool.eq_iff_iff, decide_eq_true_eq]; simp [blockM, chk_n, chk_a, chk_h, chk_k, NF.get, Pro.fine, and_assoc]
theorem evB (m : Msg) (h8 : m.k = 8) : (evM m.pf).all (chkIt m) = votesB m := by
  unfold votesB evM
  rw [if_neg (show ¬ m.k = 6 by omega), if_neg (show ¬ m.k = 7 by omega)]
  by_cases hp : m.pf = 3
  · rw [if_pos hp, if_pos hp, List.all_append, proP, proQ]
  · rw [if_neg hp, if_neg hp, List.all_append, attA, attB]
theorem items_1 (m : Msg) (hk : m.k = 1) : m.items.all (chkIt m) = (inB m.f 0 63 && inB m.t 0 63) := by
  rw [Msg.itemsk (k := 1) hk (by decide)]
  rw [Bool.eq_iff_iff]; simp [kM, chk_n, chk_a, chk_h, chk_k, NF.get, inB]
theorem items_2 (m : Msg) (hk : m.k = 2) : m.items.all (chkIt m) = (inB m.f 0 63 && true) := by
  rw [Msg.itemsk (k := 2) hk (by decide)]
  rw [Bool.eq_iff_iff]; simp [kM, chk_n, chk_a, chk_h, chk_k, NF.get, inB]
theorem items_3 (m : Msg) (hk : m.k = 3) : m.items.all (chkIt m) = (inB m.f 0 63 && inB m.vl 0 31) := by
  rw [Msg.itemsk (k := 3) hk (by decide)]
  rw [Bool.eq_iff_iff]; simp [kM, chk_n, chk_a, chk_h, chk_k, NF.get, inB]
theorem items_4 (m : Msg) (hk : m.k = 4) : m.items.all (chkIt m) = (inB m.f 0 63 && stampB m) := by
  rw [Msg.itemsk (k := 4) hk (by decide)]
  simp only [kM, List.all_append, lotB]; rw [Bool.eq_iff_iff]; simp [chk_n, chk_a, chk_h, chk_k, NF.get, inB, and_assoc]
theorem items_5 (m : Msg) (hk : m.k = 5) : m.items.all (chkIt m) = (inB m.f 0 63 && (stampB m && inB m.t 0 31)) := by
  rw [Msg.itemsk (k := 5) hk (by decide)]
  simp only [kM, List.all_append, lotB]; rw [Bool.eq_iff_iff]; simp [chk_n, chk_a, chk_h, chk_k, NF.get, inB, and_assoc]
theorem items_6 (m : Msg) (hk : m.k = 6) : m.items.all (chkIt m) = (inB m.f 0 63 && votesB m) := by
  rw [Msg.itemsk (k := 6) hk (by decide)]
  simp only [kM, List.all_append, attA]; rw [Bool.eq_iff_iff]; simp [chk_n, chk_a, chk_h, chk_k, NF.get, inB, and_assoc, votesB, hk]
theorem items_7 (m : Msg) (hk : m.k = 7) : m.items.all (chkIt m) = (inB m.f 0 63 && votesB m) := by
  rw [Msg.itemsk (k := 7) hk (by decide)]
  simp only [kM, List.all_append, proP]; rw [Bool.eq_iff_iff]; simp [chk_n, chk_a, chk_h, chk_k, NF.get, inB, and_assoc, votesB, hk]
theorem items_8 (m : Msg) (hk : m.k = 8) (hp : 1 ≤ m.pf ∧ m.pf ≤ 3) : m.items.all (chkIt m) = (inB m.f 0 63 && votesB m) := by
  rw [Msg.items8 hk, List.all_append, List.all_append, evB m hk]
  rw [Bool.eq_iff_iff]; simp [chk_n, chk_a, chk_h, chk_k, NF.get, inB, hp.1, hp.2]
theorem items_9 (m : Msg) (hk : m.k = 9) : m.items.all (chkIt m) = (inB m.f 0 63 && inB m.vl 0 31) := by
  rw [Msg.itemsk (k := 9) hk (by decide)]
  rw [Bool.eq_iff_iff]; simp [kM, chk_n, chk_a, chk_h, chk_k, NF.get, inB]
theorem items_10 (m : Msg) (hk : m.k = 10) : m.items.all (chkIt m) = (inB m.f 0 63 && true) := by
  rw [Msg.itemsk (k := 10) hk (by decide)]
  rw [Bool.eq_iff_iff]; simp [kM, chk_n, chk_a, chk_h, chk_k, NF.get, inB]
theorem items_11 (m : Msg) (hk : m.k = 11) : m.items.all (chkIt m) = (inB m.n 1 1000) := by
  rw [Msg.itemsk (k := 11) hk (by decide)]
  rw [Bool.eq_iff_iff]; simp [kM, chk_n, chk_a, chk_h, chk_k, NF.get, inB]
theorem rmfine_ok (m : Msg) (w : World) (hr : m.R) (hf : m.form) : Calls Try.prog 54 #[.agg (Msg.c m)] w (fun e w' => e = .returned (.bool (m.items.all (chkIt m))) ∧ Keeps Nob w w') := by
  have hk := hf.1
  rcases (show m.k = 1 ∨ m.k = 2 ∨ m.k = 3 ∨ m.k = 4 ∨ m.k = 5 ∨ m.k = 6 ∨ m.k = 7 ∨ m.k = 8 ∨ m.k = 9 ∨ m.k = 10 ∨ m.k = 11 by omega) with h | h | h | h | h | h | h | h | h | h | h
  · rw [items_1 m h]
    cases hb : inB m.f 0 63 with
    | false => exact rmfine_no m w hr (by omega) hb
    | true =>
      rw [Bool.true_and]
      exact rmfine_1 m w hr h hb
  · rw [items_2 m h]
    cases hb : inB m.f 0 63 with
    | false => exact rmfine_no m w hr (by omega) hb
    | true =>
      rw [Bool.true_and]
      exact rmfine_2 m w hr h hb
  · rw [items_3 m h]
    cases hb : inB m.f 0 63 with
    | false => exact rmfine_no m w hr (by omega) hb
    | true =>
      rw [Bool.true_and]
      exact rmfine_3 m w hr h hb
  · rw [items_4 m h]
    cases hb : inB m.f 0 63 with
    | false => exact rmfine_no m w hr (by omega) hb
    | true =>
      rw [Bool.true_and]
      exact rmfine_4 m w hr h hb
  · rw [items_5 m h]
    cases hb : inB m.f 0 63 with
    | false => exact rmfine_no m w hr (by omega) hb
    | true =>
      rw [Bool.true_and]
      cases hs : stampB m with
      | false => exact rmfine_5f m w hr h hb hs
      | true => rw [Bool.true_and]; exact rmfine_5t m w hr h hb hs
  · rw [items_6 m h]
    cases hb : inB m.f 0 63 with
    | false => exact rmfine_no m w hr (by omega) hb
    | true =>
      rw [Bool.true_and]
      exact rmfine_6 m w hr h hb
  · rw [items_7 m h]
    cases hb : inB m.f 0 63 with
    | false => exact rmfine_no m w hr (by omega) hb
    | true =>
      rw [Bool.true_and]
      exact rmfine_7 m w hr h hb
  · rw [items_8 m h (hf.2 h)]
    cases hb : inB m.f 0 63 with
    | false => exact rmfine_no m w hr (by omega) hb
    | true =>
      rw [Bool.true_and]
      exact rmfine_8 m w hr h hb
  · rw [items_9 m h]
    cases hb : inB m.f 0 63 with
    | false => exact rmfine_no m w hr (by omega) hb
    | true =>
      rw [Bool.true_and]
      exact rmfine_9 m w hr h hb
  · rw [items_10 m h]
    cases hb : inB m.f 0 63 with
    | false => exact rmfine_no m w hr (by omega) hb
    | true =>
      rw [Bool.true_and]
      exact rmfine_10 m w hr h hb
  · rw [items_11 m h]
    exact rmfine_11 m w hr h
end Go.Proofs.Ytmapcghgdbfmhaa
