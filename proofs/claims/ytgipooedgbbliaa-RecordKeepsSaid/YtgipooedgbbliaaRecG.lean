/-
  Records: the record's functions (printed by rec3.py). Conditions: none.
-/
import Derived.Test.YtgipooedgbbliaaRecF
namespace Go.Proofs.Ytgipooedgbbliaa
open Go Go.RowKit Go.Own Go.Shelf

noncomputable def part_qnone (n : Nat) : Code := partOf Try.f30 n
noncomputable abbrev o_qnone (n k : Nat) : Oper := (opsAt (part_qnone n)).getD k default
set_option maxRecDepth 100000 in
set_option maxHeartbeats 4000000 in
theorem qnone_rec (r : Nat) (v : Int) (A : RD Att) (B : RD Pro) (w : World) (H : RecAt w r v A B) :
    Calls Try.prog 30 #[.pointer (some ⟨r, 0, none⟩)] w (fun e w' => e = .returned (.bool false) ∧ w = w') := by
  have K0 : Keeps Nob w w := Keeps.refl _ _
  refine sy_enter (part_qnone 1) ⟨#[pT r 0, undef, undef, undef, undef, undef, undef, undef, undef, undef, undef, undef], []⟩ Try.func30 (by kernel_rfl) (by kernel_rfl) ?_
  refine sy_sq (part_qnone 2) (part_qnone 3) ?_
  refine sy_reg ?_
  refine rg_plain 0 (opsAt (part_qnone 2)) [0] (by kernel_rfl) (by kernel_rfl) ?_
  refine ps_k (o_qnone 2 0) (.bool false) ?_
  refine ps_end ?_
  refine then_n ?_
  refine sy_sq (part_qnone 6) (part_qnone 7) ?_
  refine sy_reg ?_
  refine rg_plain 1 (opsAt (part_qnone 6)) [0, 1, 2, 3, 4, 5, 6, 7, 8, 9] (by kernel_rfl) (by kernel_rfl) ?_
  refine ps_k (o_qnone 6 0) (pT r 0) ?_
  refine ps_k (o_qnone 6 1) (.bool false) ?_
  refine ps_k (o_qnone 6 2) (.bool false) ?_
  refine ps_k (o_qnone 6 3) (pT r 0) ?_
  refine ps_k (o_qnone 6 4) (pT r 0) ?_
  refine ps_k (o_qnone 6 5) (pT r 1) ?_
  refine ps_p (o_qnone 6 6) (.pointer (some ⟨A.g, 0, none⟩)) (exec_ld 54 (.tmp 8) r 1 Try.underlying54 (rc (H.rec_) (by kernel_rfl))) ?_
  refine ps_k (o_qnone 6 7) (.bool false) ?_
  refine ps_k (o_qnone 6 8) (.bool false) ?_
  refine ps_k (o_qnone 6 9) (.bool false) ?_
  refine ps_end ?_
  refine then_n ?_
  refine sy_ret (by kernel_rfl) ?_
  refine sy_out (.bool false) rfl (by kernel_rfl) ?_
  exact ⟨rfl, rfl⟩
set_option maxRecDepth 100000 in
set_option maxHeartbeats 4000000 in
theorem qnone_nil (w : World) :
    Calls Try.prog 30 #[.pointer none] w (fun e w' => e = .returned (.bool true) ∧ w = w') := by
  have K0 : Keeps Nob w w := Keeps.refl _ _
  refine sy_enter (part_qnone 1) ⟨#[.pointer none, undef, undef, undef, undef, undef, undef, undef, undef, undef, undef, undef], []⟩ Try.func30 (by kernel_rfl) (by kernel_rfl) ?_
  refine sy_sq (part_qnone 2) (part_qnone 3) ?_
  refine sy_reg ?_
  refine rg_plain 0 (opsAt (part_qnone 2)) [0] (by kernel_rfl) (by kernel_rfl) ?_
  refine ps_k (o_qnone 2 0) (.bool false) ?_
  refine ps_end ?_
  refine then_n ?_
  refine sy_sq (part_qnone 6) (part_qnone 7) ?_
  refine sy_reg ?_
  refine rg_plain 1 (opsAt (part_qnone 6)) [0, 1, 2, 3, 4, 5, 6, 7, 8, 9] (by kernel_rfl) (by kernel_rfl) ?_
  refine ps_k (o_qnone 6 0) (.pointer none) ?_
  refine ps_k (o_qnone 6 1) (.bool true) ?_
  refine ps_k (o_qnone 6 2) (.bool true) ?_
  refine ps_n (o_qnone 6 3) ?_
  refine ps_n (o_qnone 6 4) ?_
  refine ps_n (o_qnone 6 5) ?_
  refine ps_n (o_qnone 6 6) ?_
  refine ps_n (o_qnone 6 7) ?_
  refine ps_k (o_qnone 6 8) (.bool true) ?_
  refine ps_k (o_qnone 6 9) (.bool true) ?_
  refine ps_end ?_
  refine then_n ?_
  refine sy_ret (by kernel_rfl) ?_
  refine sy_out (.bool true) rfl (by kernel_rfl) ?_
  exact ⟨rfl, rfl⟩
set_option maxRecDepth 100000 in
set_option maxHeartbeats 4000000 in
theorem qnone_zero (r : Nat) (x : Value) (w : World) (h : w.heap[r]? = some (.cells #[x, .pointer none, .pointer none] 57 (0, 0))) :
    Calls Try.prog 30 #[.pointer (some ⟨r, 0, none⟩)] w (fun e w' => e = .returned (.bool true) ∧ w = w') := by
  have K0 : Keeps Nob w w := Keeps.refl _ _
  refine sy_enter (part_qnone 1) ⟨#[pT r 0, undef, undef, undef, undef, undef, undef, undef, undef, undef, undef, undef], []⟩ Try.func30 (by kernel_rfl) (by kernel_rfl) ?_
  refine sy_sq (part_qnone 2) (part_qnone 3) ?_
  refine sy_reg ?_
  refine rg_plain 0 (opsAt (part_qnone 2)) [0] (by kernel_rfl) (by kernel_rfl) ?_
  refine ps_k (o_qnone 2 0) (.bool false) ?_
  refine ps_end ?_
  refine then_n ?_
  refine sy_sq (part_qnone 6) (part_qnone 7) ?_
  refine sy_reg ?_
  refine rg_plain 1 (opsAt (part_qnone 6)) [0, 1, 2, 3, 4, 5, 6, 7, 8, 9] (by kernel_rfl) (by kernel_rfl) ?_
  refine ps_k (o_qnone 6 0) (pT r 0) ?_
  refine ps_k (o_qnone 6 1) (.bool false) ?_
  refine ps_k (o_qnone 6 2) (.bool false) ?_
  refine ps_k (o_qnone 6 3) (pT r 0) ?_
  refine ps_k (o_qnone 6 4) (pT r 0) ?_
  refine ps_k (o_qnone 6 5) (pT r 1) ?_
  refine ps_p (o_qnone 6 6) (.pointer none) (exec_ld 54 (.tmp 8) r 1 Try.underlying54 (rc (h) (by kernel_rfl))) ?_
  refine ps_k (o_qnone 6 7) (.bool true) ?_
  refine ps_k (o_qnone 6 8) (.bool true) ?_
  refine ps_k (o_qnone 6 9) (.bool true) ?_
  refine ps_end ?_
  refine then_n ?_
  refine sy_ret (by kernel_rfl) ?_
  refine sy_out (.bool true) rfl (by kernel_rfl) ?_
  exact ⟨rfl, rfl⟩
theorem qnone_none (u : Value) (w : World) (h : NoRec w u) : Calls Try.prog 30 #[u] w fun e w' => e = .returned (.bool true) ∧ w = w' := by
  rcases h with rfl | ⟨r, x, rfl, hc⟩
  · exact qnone_nil w
  · exact qnone_zero r x w hc
noncomputable def part_qwhose (n : Nat) : Code := partOf Try.f32 n
noncomputable abbrev o_qwhose (n k : Nat) : Oper := (opsAt (part_qwhose n)).getD k default
set_option maxRecDepth 100000 in
set_option maxHeartbeats 4000000 in
theorem qwhose_1 (r : Nat) (v : Int) (A : RD Att) (B : RD Pro) (e0 x : Int) (w : World) (H : RecAt w r v A B) (q1 : e0 ≠ 0) :
    Calls Try.prog 32 #[.pointer (some ⟨r, 0, none⟩), .int .i64 e0, .int .i64 x] w (fun e w' => e = .returned (.int .i64 (whoErr v e0 x)) ∧ w = w') := by
  have K0 : Keeps Nob w w := Keeps.refl _ _
  refine sy_enter (part_qwhose 1) ⟨#[pT r 0, .int .i64 e0, .int .i64 x, undef, undef, undef, undef, undef, undef, undef, undef, undef, undef, undef, undef, undef, undef, undef, undef, undef, undef], []⟩ Try.func32 (by kernel_rfl) (by kernel_rfl) ?_
  refine sy_sq (part_qwhose 2) (part_qwhose 3) ?_
  refine sy_reg ?_
  refine rg_plain 0 (opsAt (part_qwhose 2)) [0] (by kernel_rfl) (by kernel_rfl) ?_
  refine ps_k (o_qwhose 2 0) (.int .i64 0) ?_
  refine ps_end ?_
  refine then_n ?_
  refine sy_sq (part_qwhose 6) (part_qwhose 7) ?_
  refine sy_bk 0 (part_qwhose 12) ?_
  refine sy_sq (part_qwhose 24) (part_qwhose 25) ?_
  refine sy_reg ?_
  refine rg_plain 1 (opsAt (part_qwhose 24)) [0, 1, 2] (by kernel_rfl) (by kernel_rfl) ?_
  refine ps_k (o_qwhose 24 0) (pT r 0) ?_
  refine ps_c (o_qwhose 24 1) 30 #[pT r 0] Try.func30 ((qnone_rec r v A B _ H).mono ?_)
  rintro e w1 ⟨rfl, rfl⟩
  refine ⟨_, rfl, ?_⟩
  refine ps_k (o_qwhose 24 2) (.bool false) ?_
  refine ps_end ?_
  refine then_n ?_
  refine sy_n (.tmp 7) (part_qwhose 50) (part_qwhose 51) ?_
  refine sy_sq (part_qwhose 102) (part_qwhose 103) ?_
  refine sy_reg ?_
  refine rg_plain 3 (opsAt (part_qwhose 102)) [0, 1, 2] (by kernel_rfl) (by kernel_rfl) ?_
  refine ps_k (o_qwhose 102 0) (.int .i64 e0) ?_
  refine ps_p (o_qwhose 102 1) (.bool true) (nqt ((e0) : Int) ((0) : Int) (by omega)) ?_
  refine ps_k (o_qwhose 102 2) (.bool true) ?_
  refine ps_end ?_
  refine then_n ?_
  refine sy_ys (.tmp 10) (part_qwhose 206) (part_qwhose 207) ?_
  refine sy_sq (part_qwhose 412) (part_qwhose 413) ?_
  refine sy_reg ?_
  refine rg_plain 4 (opsAt (part_qwhose 412)) [0, 1] (by kernel_rfl) (by kernel_rfl) ?_
  refine ps_k (o_qwhose 412 0) (.int .i64 e0) ?_
  refine ps_k (o_qwhose 412 1) (.int .i64 e0) ?_
  refine ps_end ?_
  refine then_n ?_
  refine sy_ret (by kernel_rfl) ?_
  refine blk_r ?_
  refine then_r ?_
  refine sy_out (.int .i64 e0) rfl (by kernel_rfl) ?_
  exact ⟨by unfold whoErr; rw [if_pos q1], rfl⟩
set_option maxRecDepth 100000 in
set_option maxHeartbeats 4000000 in
theorem qwhose_2 (r : Nat) (v : Int) (A : RD Att) (B : RD Pro) (e0 x : Int) (w : World) (H : RecAt w r v A B) (q1 : e0 = 0) (q2 : x ≠ v) :
    Calls Try.prog 32 #[.pointer (some ⟨r, 0, none⟩), .int .i64 e0, .int .i64 x] w (fun e w' => e = .returned (.int .i64 (whoErr v e0 x)) ∧ w = w') := by
  have K0 : Keeps Nob w w := Keeps.refl _ _
  refine sy_enter (part_qwhose 1) ⟨#[pT r 0, .int .i64 e0, .int .i64 x, undef, undef, undef, undef, undef, undef, undef, undef, undef, undef, undef, undef, undef, undef, undef, undef, undef, undef], []⟩ Try.func32 (by kernel_rfl) (by kernel_rfl) ?_
  refine sy_sq (part_qwhose 2) (part_qwhose 3) ?_
  refine sy_reg ?_
  refine rg_plain 0 (opsAt (part_qwhose 2)) [0] (by kernel_rfl) (by kernel_rfl) ?_
  refine ps_k (o_qwhose 2 0) (.int .i64 0) ?_
  refine ps_end ?_
  refine then_n ?_
  refine sy_sq (part_qwhose 6) (part_qwhose 7) ?_
  refine sy_bk 0 (part_qwhose 12) ?_
  refine sy_sq (part_qwhose 24) (part_qwhose 25) ?_
  refine sy_reg ?_
  refine rg_plain 1 (opsAt (part_qwhose 24)) [0, 1, 2] (by kernel_rfl) (by kernel_rfl) ?_
  refine ps_k (o_qwhose 24 0) (pT r 0) ?_
  refine ps_c (o_qwhose 24 1) 30 #[pT r 0] Try.func30 ((qnone_rec r v A B _ H).mono ?_)
  rintro e w1 ⟨rfl, rfl⟩
  refine ⟨_, rfl, ?_⟩
  refine ps_k (o_qwhose 24 2) (.bool false) ?_
  refine ps_end ?_
  refine then_n ?_
  refine sy_n (.tmp 7) (part_qwhose 50) (part_qwhose 51) ?_
  refine sy_sq (part_qwhose 102) (part_qwhose 103) ?_
  refine sy_reg ?_
  refine rg_plain 3 (opsAt (part_qwhose 102)) [0, 1, 2] (by kernel_rfl) (by kernel_rfl) ?_
  refine ps_k (o_qwhose 102 0) (.int .i64 e0) ?_
  refine ps_p (o_qwhose 102 1) (.bool false) (nqf ((e0) : Int) ((0) : Int) (by omega)) ?_
  refine ps_k (o_qwhose 102 2) (.bool false) ?_
  refine ps_end ?_
  refine then_n ?_
  refine sy_n (.tmp 10) (part_qwhose 206) (part_qwhose 207) ?_
  refine sy_sq (part_qwhose 414) (part_qwhose 415) ?_
  refine sy_reg ?_
  refine rg_plain 5 (opsAt (part_qwhose 414)) [0, 1, 2, 3, 4, 5, 6] (by kernel_rfl) (by kernel_rfl) ?_
  refine ps_k (o_qwhose 414 0) (.int .i64 x) ?_
  refine ps_k (o_qwhose 414 1) (pT r 0) ?_
  refine ps_k (o_qwhose 414 2) (pT r 0) ?_
  refine ps_k (o_qwhose 414 3) (pT r 0) ?_
  refine ps_p (o_qwhose 414 4) (.int .i64 v) (exec_ld 3 (.tmp 18) r 0 Try.underlying3 (rc (H.rec_) (by kernel_rfl))) ?_
  refine ps_p (o_qwhose 414 5) (.bool true) (nqt ((x) : Int) ((v) : Int) (by omega)) ?_
  refine ps_k (o_qwhose 414 6) (.bool true) ?_
  refine ps_end ?_
  refine then_n ?_
  refine sy_ys (.tmp 14) (part_qwhose 830) (part_qwhose 831) ?_
  refine sy_sq (part_qwhose 1660) (part_qwhose 1661) ?_
  refine sy_reg ?_
  refine rg_plain 6 (opsAt (part_qwhose 1660)) [0] (by kernel_rfl) (by kernel_rfl) ?_
  refine ps_k (o_qwhose 1660 0) (.int .i64 2) ?_
  refine ps_end ?_
  refine then_n ?_
  refine sy_ret (by kernel_rfl) ?_
  refine blk_r ?_
  refine then_r ?_
  refine sy_out (.int .i64 2) rfl (by kernel_rfl) ?_
  exact ⟨by unfold whoErr; rw [if_neg (by omega), if_pos q2], rfl⟩
set_option maxRecDepth 100000 in
set_option maxHeartbeats 4000000 in
theorem qwhose_3 (r : Nat) (v : Int) (A : RD Att) (B : RD Pro) (e0 x : Int) (w : World) (H : RecAt w r v A B) (q1 : e0 = 0) (q2 : x = v) :
    Calls Try.prog 32 #[.pointer (some ⟨r, 0, none⟩), .int .i64 e0, .int .i64 x] w (fun e w' => e = .returned (.int .i64 (whoErr v e0 x)) ∧ w = w') := by
  have K0 : Keeps Nob w w := Keeps.refl _ _
  refine sy_enter (part_qwhose 1) ⟨#[pT r 0, .int .i64 e0, .int .i64 x, undef, undef, undef, undef, undef, undef, undef, undef, undef, undef, undef, undef, undef, undef, undef, undef, undef, undef], []⟩ Try.func32 (by kernel_rfl) (by kernel_rfl) ?_
  refine sy_sq (part_qwhose 2) (part_qwhose 3) ?_
  refine sy_reg ?_
  refine rg_plain 0 (opsAt (part_qwhose 2)) [0] (by kernel_rfl) (by kernel_rfl) ?_
  refine ps_k (o_qwhose 2 0) (.int .i64 0) ?_
  refine ps_end ?_
  refine then_n ?_
  refine sy_sq (part_qwhose 6) (part_qwhose 7) ?_
  refine sy_bk 0 (part_qwhose 12) ?_
  refine sy_sq (part_qwhose 24) (part_qwhose 25) ?_
  refine sy_reg ?_
  refine rg_plain 1 (opsAt (part_qwhose 24)) [0, 1, 2] (by kernel_rfl) (by kernel_rfl) ?_
  refine ps_k (o_qwhose 24 0) (pT r 0) ?_
  refine ps_c (o_qwhose 24 1) 30 #[pT r 0] Try.func30 ((qnone_rec r v A B _ H).mono ?_)
  rintro e w1 ⟨rfl, rfl⟩
  refine ⟨_, rfl, ?_⟩
  refine ps_k (o_qwhose 24 2) (.bool false) ?_
  refine ps_end ?_
  refine then_n ?_
  refine sy_n (.tmp 7) (part_qwhose 50) (part_qwhose 51) ?_
  refine sy_sq (part_qwhose 102) (part_qwhose 103) ?_
  refine sy_reg ?_
  refine rg_plain 3 (opsAt (part_qwhose 102)) [0, 1, 2] (by kernel_rfl) (by kernel_rfl) ?_
  refine ps_k (o_qwhose 102 0) (.int .i64 e0) ?_
  refine ps_p (o_qwhose 102 1) (.bool false) (nqf ((e0) : Int) ((0) : Int) (by omega)) ?_
  refine ps_k (o_qwhose 102 2) (.bool false) ?_
  refine ps_end ?_
  refine then_n ?_
  refine sy_n (.tmp 10) (part_qwhose 206) (part_qwhose 207) ?_
  refine sy_sq (part_qwhose 414) (part_qwhose 415) ?_
  refine sy_reg ?_
  refine rg_plain 5 (opsAt (part_qwhose 414)) [0, 1, 2, 3, 4, 5, 6] (by kernel_rfl) (by kernel_rfl) ?_
  refine ps_k (o_qwhose 414 0) (.int .i64 x) ?_
  refine ps_k (o_qwhose 414 1) (pT r 0) ?_
  refine ps_k (o_qwhose 414 2) (pT r 0) ?_
  refine ps_k (o_qwhose 414 3) (pT r 0) ?_
  refine ps_p (o_qwhose 414 4) (.int .i64 v) (exec_ld 3 (.tmp 18) r 0 Try.underlying3 (rc (H.rec_) (by kernel_rfl))) ?_
  refine ps_p (o_qwhose 414 5) (.bool false) (nqf ((x) : Int) ((v) : Int) (by omega)) ?_
  refine ps_k (o_qwhose 414 6) (.bool false) ?_
  refine ps_end ?_
  refine then_n ?_
  refine sy_n (.tmp 14) (part_qwhose 830) (part_qwhose 831) ?_
  refine sy_sk ?_
  refine blk_n ?_
  refine then_n ?_
  refine sy_sq (part_qwhose 14) (part_qwhose 15) ?_
  refine sy_reg ?_
  refine rg_plain 7 (opsAt (part_qwhose 14)) [0] (by kernel_rfl) (by kernel_rfl) ?_
  refine ps_k (o_qwhose 14 0) (.int .i64 0) ?_
  refine ps_end ?_
  refine then_n ?_
  refine sy_ret (by kernel_rfl) ?_
  refine sy_out (.int .i64 0) rfl (by kernel_rfl) ?_
  exact ⟨by unfold whoErr; rw [if_neg (by omega), if_neg (by omega)], rfl⟩
theorem qwhose_ok (r : Nat) (v : Int) (A : RD Att) (B : RD Pro) (e0 x : Int) (w : World) (H : RecAt w r v A B) : Calls Try.prog 32 #[.pointer (some ⟨r, 0, none⟩), .int .i64 e0, .int .i64 x] w (fun e w' => e = .returned (.int .i64 (whoErr v e0 x)) ∧ w = w') := by
  by_cases q1 : e0 = 0
  · by_cases q2 : x = v
    · exact qwhose_3 r v A B e0 x w H q1 q2
    · exact qwhose_2 r v A B e0 x w H q1 q2
  · exact qwhose_1 r v A B e0 x w H q1
set_option maxRecDepth 100000 in
set_option maxHeartbeats 4000000 in
theorem qwhose_none (u : Value) (e0 x : Int) (w : World) (H : NoRec w u) :
    Calls Try.prog 32 #[u, .int .i64 e0, .int .i64 x] w (fun e w' => e = .returned (.int .i64 1) ∧ w = w') := by
  have K0 : Keeps Nob w w := Keeps.refl _ _
  refine sy_enter (part_qwhose 1) ⟨#[u, .int .i64 e0, .int .i64 x, undef, undef, undef, undef, undef, undef, undef, undef, undef, undef, undef, undef, undef, undef, undef, undef, undef, undef], []⟩ Try.func32 (by kernel_rfl) (by kernel_rfl) ?_
  refine sy_sq (part_qwhose 2) (part_qwhose 3) ?_
  refine sy_reg ?_
  refine rg_plain 0 (opsAt (part_qwhose 2)) [0] (by kernel_rfl) (by kernel_rfl) ?_
  refine ps_k (o_qwhose 2 0) (.int .i64 0) ?_
  refine ps_end ?_
  refine then_n ?_
  refine sy_sq (part_qwhose 6) (part_qwhose 7) ?_
  refine sy_bk 0 (part_qwhose 12) ?_
  refine sy_sq (part_qwhose 24) (part_qwhose 25) ?_
  refine sy_reg ?_
  refine rg_plain 1 (opsAt (part_qwhose 24)) [0, 1, 2] (by kernel_rfl) (by kernel_rfl) ?_
  refine ps_k (o_qwhose 24 0) (u) ?_
  refine ps_c (o_qwhose 24 1) 30 #[u] Try.func30 ((qnone_none u _ H).mono ?_)
  rintro e w1 ⟨rfl, rfl⟩
  refine ⟨_, rfl, ?_⟩
  refine ps_k (o_qwhose 24 2) (.bool true) ?_
  refine ps_end ?_
  refine then_n ?_
  refine sy_ys (.tmp 7) (part_qwhose 50) (part_qwhose 51) ?_
  refine sy_sq (part_qwhose 100) (part_qwhose 101) ?_
  refine sy_reg ?_
  refine rg_plain 2 (opsAt (part_qwhose 100)) [0] (by kernel_rfl) (by kernel_rfl) ?_
  refine ps_k (o_qwhose 100 0) (.int .i64 1) ?_
  refine ps_end ?_
  refine then_n ?_
  refine sy_ret (by kernel_rfl) ?_
  refine blk_r ?_
  refine then_r ?_
  refine sy_out (.int .i64 1) rfl (by kernel_rfl) ?_
  exact ⟨rfl, rfl⟩
noncomputable def part_qLow (n : Nat) : Code := partOf Try.f15 n
noncomputable abbrev o_qLow (n k : Nat) : Oper := (opsAt (part_qLow n)).getD k default
set_option maxRecDepth 100000 in
set_option maxHeartbeats 4000000 in
theorem qLow_ok (r : Nat) (v : Int) (A : RD Att) (B : RD Pro) (w : World) (H : RecAt w r v A B) :
    Calls Try.prog 15 #[.pointer (some ⟨r, 0, none⟩)] w (fun e w' => e = .returned (.int .i64 ((A.low : Nat) : Int)) ∧ w = w') := by
  have K0 : Keeps Nob w w := Keeps.refl _ _
  refine sy_enter (part_qLow 1) ⟨#[pT r 0, undef, undef, undef, undef, undef, undef, undef, undef, undef, undef, undef], []⟩ Try.func15 (by kernel_rfl) (by kernel_rfl) ?_
  refine sy_sq (part_qLow 2) (part_qLow 3) ?_
  refine sy_reg ?_
  refine rg_plain 0 (opsAt (part_qLow 2)) [0] (by kernel_rfl) (by kernel_rfl) ?_
  refine ps_k (o_qLow 2 0) (.int .i64 0) ?_
  refine ps_end ?_
  refine then_n ?_
  refine sy_sq (part_qLow 6) (part_qLow 7) ?_
  refine sy_sq (part_qLow 12) (part_qLow 13) ?_
  refine sy_reg ?_
  refine rg_plain 1 (opsAt (part_qLow 12)) [0, 1] (by kernel_rfl) (by kernel_rfl) ?_
  refine ps_k (o_qLow 12 0) (pT r 0) ?_
  refine ps_c (o_qLow 12 1) 30 #[pT r 0] Try.func30 ((qnone_rec r v A B _ H).mono ?_)
  rintro e w1 ⟨rfl, rfl⟩
  refine ⟨_, rfl, ?_⟩
  refine ps_end ?_
  refine then_n ?_
  refine sy_n (.tmp 4) (part_qLow 26) (part_qLow 27) ?_
  refine sy_sk ?_
  refine then_n ?_
  refine sy_sq (part_qLow 14) (part_qLow 15) ?_
  refine sy_reg ?_
  refine rg_plain 3 (opsAt (part_qLow 14)) [0, 1, 2, 3, 4, 5, 6, 7] (by kernel_rfl) (by kernel_rfl) ?_
  refine ps_k (o_qLow 14 0) (pT r 0) ?_
  refine ps_k (o_qLow 14 1) (pT r 0) ?_
  refine ps_k (o_qLow 14 2) (pT r 1) ?_
  refine ps_p (o_qLow 14 3) (.pointer (some ⟨A.g, 0, none⟩)) (exec_ld 54 (.tmp 7) r 1 Try.underlying54 (rc (H.rec_) (by kernel_rfl))) ?_
  refine ps_k (o_qLow 14 4) (.pointer (some ⟨A.g, 0, none⟩)) ?_
  refine ps_k (o_qLow 14 5) (.pointer (some ⟨A.g, 2, none⟩)) ?_
  refine ps_p (o_qLow 14 6) (iN A.low) (exec_load_cell 3 (.tmp 10) (by kernel_rfl) ⟨A.g, 2, none⟩ (by kernel_rfl) _ _ Try.underlying3 rfl (rc (H.a.ring) (by kernel_rfl))) ?_
  refine ps_k (o_qLow 14 7) (iN A.low) ?_
  refine ps_end ?_
  refine then_n ?_
  refine sy_ret (by kernel_rfl) ?_
  refine sy_out (.int .i64 ((A.low : Nat) : Int)) rfl (by kernel_rfl) ?_
  exact ⟨rfl, rfl⟩
set_option maxRecDepth 100000 in
set_option maxHeartbeats 4000000 in
theorem qLow_none (u : Value) (w : World) (H : NoRec w u) :
    Calls Try.prog 15 #[u] w (fun e w' => e = .returned (.int .i64 0) ∧ w = w') := by
  have K0 : Keeps Nob w w := Keeps.refl _ _
  refine sy_enter (part_qLow 1) ⟨#[u, undef, undef, undef, undef, undef, undef, undef, undef, undef, undef, undef], []⟩ Try.func15 (by kernel_rfl) (by kernel_rfl) ?_
  refine sy_sq (part_qLow 2) (part_qLow 3) ?_
  refine sy_reg ?_
  refine rg_plain 0 (opsAt (part_qLow 2)) [0] (by kernel_rfl) (by kernel_rfl) ?_
  refine ps_k (o_qLow 2 0) (.int .i64 0) ?_
  refine ps_end ?_
  refine then_n ?_
  refine sy_sq (part_qLow 6) (part_qLow 7) ?_
  refine sy_sq (part_qLow 12) (part_qLow 13) ?_
  refine sy_reg ?_
  refine rg_plain 1 (opsAt (part_qLow 12)) [0, 1] (by kernel_rfl) (by kernel_rfl) ?_
  refine ps_k (o_qLow 12 0) (u) ?_
  refine ps_c (o_qLow 12 1) 30 #[u] Try.func30 ((qnone_none u _ H).mono ?_)
  rintro e w1 ⟨rfl, rfl⟩
  refine ⟨_, rfl, ?_⟩
  refine ps_end ?_
  refine then_n ?_
  refine sy_ys (.tmp 4) (part_qLow 26) (part_qLow 27) ?_
  refine sy_sq (part_qLow 52) (part_qLow 53) ?_
  refine sy_reg ?_
  refine rg_plain 2 (opsAt (part_qLow 52)) [0] (by kernel_rfl) (by kernel_rfl) ?_
  refine ps_k (o_qLow 52 0) (.int .i64 0) ?_
  refine ps_end ?_
  refine then_n ?_
  refine sy_ret (by kernel_rfl) ?_
  refine then_r ?_
  refine sy_out (.int .i64 0) rfl (by kernel_rfl) ?_
  exact ⟨rfl, rfl⟩
noncomputable def part_qFloor (n : Nat) : Code := partOf Try.f16 n
noncomputable abbrev o_qFloor (n k : Nat) : Oper := (opsAt (part_qFloor n)).getD k default
set_option maxRecDepth 100000 in
set_option maxHeartbeats 4000000 in
theorem qFloor_ok (r : Nat) (v : Int) (A : RD Att) (B : RD Pro) (w : World) (H : RecAt w r v A B) :
    Calls Try.prog 16 #[.pointer (some ⟨r, 0, none⟩)] w (fun e w' => e = .returned (.int .i64 ((B.low : Nat) : Int)) ∧ w = w') := by
  have K0 : Keeps Nob w w := Keeps.refl _ _
  refine sy_enter (part_qFloor 1) ⟨#[pT r 0, undef, undef, undef, undef, undef, undef, undef, undef, undef, undef, undef], []⟩ Try.func16 (by kernel_rfl) (by kernel_rfl) ?_
  refine sy_sq (part_qFloor 2) (part_qFloor 3) ?_
  refine sy_reg ?_
  refine rg_plain 0 (opsAt (part_qFloor 2)) [0] (by kernel_rfl) (by kernel_rfl) ?_
  refine ps_k (o_qFloor 2 0) (.int .i64 0) ?_
  refine ps_end ?_
  refine then_n ?_
  refine sy_sq (part_qFloor 6) (part_qFloor 7) ?_
  refine sy_sq (part_qFloor 12) (part_qFloor 13) ?_
  refine sy_reg ?_
  refine rg_plain 1 (opsAt (part_qFloor 12)) [0, 1] (by kernel_rfl) (by kernel_rfl) ?_
  refine ps_k (o_qFloor 12 0) (pT r 0) ?_
  refine ps_c (o_qFloor 12 1) 30 #[pT r 0] Try.func30 ((qnone_rec r v A B _ H).mono ?_)
  rintro e w1 ⟨rfl, rfl⟩
  refine ⟨_, rfl, ?_⟩
  refine ps_end ?_
  refine then_n ?_
  refine sy_n (.tmp 4) (part_qFloor 26) (part_qFloor 27) ?_
  refine sy_sk ?_
  refine then_n ?_
  refine sy_sq (part_qFloor 14) (part_qFloor 15) ?_
  refine sy_reg ?_
  refine rg_plain 3 (opsAt (part_qFloor 14)) [0, 1, 2, 3, 4, 5, 6, 7] (by kernel_rfl) (by kernel_rfl) ?_
  refine ps_k (o_qFloor 14 0) (pT r 0) ?_
  refine ps_k (o_qFloor 14 1) (pT r 0) ?_
  refine ps_k (o_qFloor 14 2) (pT r 2) ?_
  refine ps_p (o_qFloor 14 3) (.pointer (some ⟨B.g, 0, none⟩)) (exec_ld 55 (.tmp 7) r 2 Try.underlying55 (rc (H.rec_) (by kernel_rfl))) ?_
  refine ps_k (o_qFloor 14 4) (.pointer (some ⟨B.g, 0, none⟩)) ?_
  refine ps_k (o_qFloor 14 5) (.pointer (some ⟨B.g, 2, none⟩)) ?_
  refine ps_p (o_qFloor 14 6) (iN B.low) (exec_load_cell 3 (.tmp 10) (by kernel_rfl) ⟨B.g, 2, none⟩ (by kernel_rfl) _ _ Try.underlying3 rfl (rc (H.b.ring) (by kernel_rfl))) ?_
  refine ps_k (o_qFloor 14 7) (iN B.low) ?_
  refine ps_end ?_
  refine then_n ?_
  refine sy_ret (by kernel_rfl) ?_
  refine sy_out (.int .i64 ((B.low : Nat) : Int)) rfl (by kernel_rfl) ?_
  exact ⟨rfl, rfl⟩
set_option maxRecDepth 100000 in
set_option maxHeartbeats 4000000 in
theorem qFloor_none (u : Value) (w : World) (H : NoRec w u) :
    Calls Try.prog 16 #[u] w (fun e w' => e = .returned (.int .i64 0) ∧ w = w') := by
  have K0 : Keeps Nob w w := Keeps.refl _ _
  refine sy_enter (part_qFloor 1) ⟨#[u, undef, undef, undef, undef, undef, undef, undef, undef, undef, undef, undef], []⟩ Try.func16 (by kernel_rfl) (by kernel_rfl) ?_
  refine sy_sq (part_qFloor 2) (part_qFloor 3) ?_
  refine sy_reg ?_
  refine rg_plain 0 (opsAt (part_qFloor 2)) [0] (by kernel_rfl) (by kernel_rfl) ?_
  refine ps_k (o_qFloor 2 0) (.int .i64 0) ?_
  refine ps_end ?_
  refine then_n ?_
  refine sy_sq (part_qFloor 6) (part_qFloor 7) ?_
  refine sy_sq (part_qFloor 12) (part_qFloor 13) ?_
  refine sy_reg ?_
  refine rg_plain 1 (opsAt (part_qFloor 12)) [0, 1] (by kernel_rfl) (by kernel_rfl) ?_
  refine ps_k (o_qFloor 12 0) (u) ?_
  refine ps_c (o_qFloor 12 1) 30 #[u] Try.func30 ((qnone_none u _ H).mono ?_)
  rintro e w1 ⟨rfl, rfl⟩
  refine ⟨_, rfl, ?_⟩
  refine ps_end ?_
  refine then_n ?_
  refine sy_ys (.tmp 4) (part_qFloor 26) (part_qFloor 27) ?_
  refine sy_sq (part_qFloor 52) (part_qFloor 53) ?_
  refine sy_reg ?_
  refine rg_plain 2 (opsAt (part_qFloor 52)) [0] (by kernel_rfl) (by kernel_rfl) ?_
  refine ps_k (o_qFloor 52 0) (.int .i64 0) ?_
  refine ps_end ?_
  refine then_n ?_
  refine sy_ret (by kernel_rfl) ?_
  refine then_r ?_
  refine sy_out (.int .i64 0) rfl (by kernel_rfl) ?_
  exact ⟨rfl, rfl⟩
noncomputable def part_qPut (n : Nat) : Code := partOf Try.f9 n
noncomputable abbrev o_qPut (n k : Nat) : Oper := (opsAt (part_qPut n)).getD k default
set_option maxRecDepth 100000 in
set_option maxHeartbeats 4000000 in
theorem qPut_bad (r : Nat) (v : Int) (A : RD Att) (B : RD Pro) (a : Att) (w : World) (H : RecAt w r v A B) (ha : a.Ok) (hE : (whoErr v a.err a.v) ≠ 0) :
    Calls Try.prog 9 #[.pointer (some ⟨r, 0, none⟩), .agg (Att.c a)] w (fun e w' => e = .returned (.int .i64 (whoErr v a.err a.v)) ∧ Keeps Nob w w') := by
  have K0 : Keeps Nob w w := Keeps.refl _ _
  refine sy_enter (part_qPut 1) ⟨#[pT r 0, .agg (Att.c a), undef, undef, undef, undef, undef, undef, undef, undef, undef, undef, undef, undef, undef, undef, undef, undef, undef, undef, undef], []⟩ Try.func9 (by kernel_rfl) (by kernel_rfl) ?_
  refine sy_sq (part_qPut 2) (part_qPut 3) ?_
  refine sy_reg ?_
  refine rg_plain 0 (opsAt (part_qPut 2)) [0, 1] (by kernel_rfl) (by kernel_rfl) ?_
  obtain ⟨V1, eV1, p, ep, h2, kV1⟩ := alloc_step w ((Att.c a)) 28
  have n3 : r < p := ep ▸ lt_of_block H.rec_
  have n4 : w.heap.size ≤ p := ep ▸ K0.size
  refine ps_r (o_qPut 2 0) (pT p 0) (w' := V1) (by rw [← eV1, ← ep]; exact exec_box 28 (.tmp 1) (by kernel_rfl) (.agg (Att.c a)) (by kernel_rfl)) ?_
  clear eV1
  have h5 := kV1.bk H.rec_
  have h6 : RecAt V1 r v A B := H.keepsN kV1
  have K7 := K0.nn kV1
  have z8 := kV1.size
  refine ps_k (o_qPut 2 1) (.int .i64 0) ?_
  refine ps_end ?_
  refine then_n ?_
  refine sy_sq (part_qPut 6) (part_qPut 7) ?_
  refine sy_sq (part_qPut 12) (part_qPut 13) ?_
  refine sy_np ?_
  refine sy_reg ?_
  refine an_begin 1 7 (opsAt (part_qPut 12)) (fun W => (W.heap[p]? = some (.cells (Att.c a) 28 (0, 0)))) #[false, false, false, false, false, false, false] (by kernel_rfl) (by kernel_rfl) (by kernel_rfl) (by kernel_rfl) ?_
  obtain ⟨V9, eV9, kV9⟩ := drew_step V1
  rw [eV9]
  clear eV9
  have h10 := kV9.bk h5
  have h11 : RecAt V9 r v A B := h6.keepsN kV9
  have h12 := kV9.bk h2
  have K13 := K7.nn kV9
  have z14 := kV9.size
  refine an_k 0 (o_qPut 12 0) (pT r 0) h12 ?_
  refine an_v 1 (o_qPut 12 1) (.agg (Att.c a)) (fun W hS => exec_load_row 28 (.tmp 3) (by kernel_rfl) p (by kernel_rfl) _ _ (0, 0) _ (hS) Try.underlying28 rfl (by rw [Att.c_size _ ha.r]; kernel_rfl)) h12 ?_
  refine an_k 3 (o_qPut 12 3) (pT p 0) h12 ?_
  refine an_v 4 (o_qPut 12 4) (.int .i64 a.v) (fun W hS => exec_ld 3 (.tmp 9) p 0 Try.underlying3 (rc (hS) (Att.c_0 _))) h12 ?_
  refine an_o 2 ?_
  refine on_c (o_qPut 12 2) 33 #[.agg (Att.c a)] Try.func33 ((vCheck_ok a _ ha.r).mono ?_)
  rintro e V15 ⟨rfl, kV15⟩
  refine ⟨_, rfl, ?_⟩
  have h16 := kV15.bk h10
  have h17 : RecAt V15 r v A B := h11.keepsN kV15
  have h18 := kV15.bk h12
  have K19 := K13.nn kV15
  have z20 := kV15.size
  refine ⟨h18, ?_⟩
  refine an_o 5 ?_
  refine on_c (o_qPut 12 5) 32 #[pT r 0, .int .i64 a.err, .int .i64 a.v] Try.func32 ((qwhose_ok r v A B _ _ _ h17).mono ?_)
  rintro e w1 ⟨rfl, rfl⟩
  refine ⟨_, rfl, ?_⟩
  refine ⟨h18, ?_⟩
  refine an_o 6 ?_
  refine on_r (o_qPut 12 6) (.int .i64 (whoErr v a.err a.v)) (w' := V15) (by kernel_rfl) ?_
  refine ⟨h18, ?_⟩
  refine an_end (by kernel_rfl) ?_
  refine then_n ?_
  refine sy_sq (part_qPut 26) (part_qPut 27) ?_
  refine sy_reg ?_
  refine rg_plain 2 (opsAt (part_qPut 26)) [0, 1] (by kernel_rfl) (by kernel_rfl) ?_
  refine ps_k (o_qPut 26 0) (.int .i64 (whoErr v a.err a.v)) ?_
  refine ps_p (o_qPut 26 1) (.bool true) (nqt ((whoErr v a.err a.v) : Int) ((0) : Int) (by omega)) ?_
  refine ps_end ?_
  refine then_n ?_
  refine sy_ys (.tmp 13) (part_qPut 54) (part_qPut 55) ?_
  refine sy_sq (part_qPut 108) (part_qPut 109) ?_
  refine sy_reg ?_
  refine rg_plain 3 (opsAt (part_qPut 108)) [0, 1] (by kernel_rfl) (by kernel_rfl) ?_
  refine ps_k (o_qPut 108 0) (.int .i64 (whoErr v a.err a.v)) ?_
  refine ps_k (o_qPut 108 1) (.int .i64 (whoErr v a.err a.v)) ?_
  refine ps_end ?_
  refine then_n ?_
  refine sy_ret (by kernel_rfl) ?_
  refine then_r ?_
  refine sy_out (.int .i64 (whoErr v a.err a.v)) rfl (by kernel_rfl) ?_
  exact ⟨rfl, K19⟩
set_option maxRecDepth 100000 in
set_option maxHeartbeats 4000000 in
theorem qPut_fine (r : Nat) (v : Int) (A : RD Att) (B : RD Pro) (a : Att) (w : World) (H : RecAt w r v A B) (ha : a.Ok) (hE : (whoErr v a.err a.v) = 0) :
    Calls Try.prog 9 #[.pointer (some ⟨r, 0, none⟩), .agg (Att.c a)] w (fun e w' => e = .returned (.int .i64 (gputErr A a.t)) ∧ ((gputErr A a.t) ≠ 0 → RecAt w' r v A B) ∧ ((gputErr A a.t) = 0 → ∃ S', RecAt w' r v { A with V := upV A.V a.t a, S := S' } B) ∧ Keeps (One A.s) w w') := by
  have K0 : Keeps ((One A.s)) w w := Keeps.refl _ _
  refine sy_enter (part_qPut 1) ⟨#[pT r 0, .agg (Att.c a), undef, undef, undef, undef, undef, undef, undef, undef, undef, undef, undef, undef, undef, undef, undef, undef, undef, undef, undef], []⟩ Try.func9 (by kernel_rfl) (by kernel_rfl) ?_
  refine sy_sq (part_qPut 2) (part_qPut 3) ?_
  refine sy_reg ?_
  refine rg_plain 0 (opsAt (part_qPut 2)) [0, 1] (by kernel_rfl) (by kernel_rfl) ?_
  obtain ⟨V21, eV21, p, ep, h22, kV21⟩ := alloc_step w ((Att.c a)) 28
  have n23 : r < p := ep ▸ lt_of_block H.rec_
  have n24 : w.heap.size ≤ p := ep ▸ K0.size
  refine ps_r (o_qPut 2 0) (pT p 0) (w' := V21) (by rw [← eV21, ← ep]; exact exec_box 28 (.tmp 1) (by kernel_rfl) (.agg (Att.c a)) (by kernel_rfl)) ?_
  clear eV21
  have h25 := kV21.bk H.rec_
  have h26 : RecAt V21 r v A B := H.keepsN kV21
  have K27 := K0.nn kV21
  have z28 := kV21.size
  refine ps_k (o_qPut 2 1) (.int .i64 0) ?_
  refine ps_end ?_
  refine then_n ?_
  refine sy_sq (part_qPut 6) (part_qPut 7) ?_
  refine sy_sq (part_qPut 12) (part_qPut 13) ?_
  refine sy_np ?_
  refine sy_reg ?_
  refine an_begin 1 7 (opsAt (part_qPut 12)) (fun W => (W.heap[p]? = some (.cells (Att.c a) 28 (0, 0)))) #[false, false, false, false, false, false, false] (by kernel_rfl) (by kernel_rfl) (by kernel_rfl) (by kernel_rfl) ?_
  obtain ⟨V29, eV29, kV29⟩ := drew_step V21
  rw [eV29]
  clear eV29
  have h30 := kV29.bk h25
  have h31 : RecAt V29 r v A B := h26.keepsN kV29
  have h32 := kV29.bk h22
  have K33 := K27.nn kV29
  have z34 := kV29.size
  refine an_k 0 (o_qPut 12 0) (pT r 0) h32 ?_
  refine an_v 1 (o_qPut 12 1) (.agg (Att.c a)) (fun W hS => exec_load_row 28 (.tmp 3) (by kernel_rfl) p (by kernel_rfl) _ _ (0, 0) _ (hS) Try.underlying28 rfl (by rw [Att.c_size _ ha.r]; kernel_rfl)) h32 ?_
  refine an_k 3 (o_qPut 12 3) (pT p 0) h32 ?_
  refine an_v 4 (o_qPut 12 4) (.int .i64 a.v) (fun W hS => exec_ld 3 (.tmp 9) p 0 Try.underlying3 (rc (hS) (Att.c_0 _))) h32 ?_
  refine an_o 2 ?_
  refine on_c (o_qPut 12 2) 33 #[.agg (Att.c a)] Try.func33 ((vCheck_ok a _ ha.r).mono ?_)
  rintro e V35 ⟨rfl, kV35⟩
  refine ⟨_, rfl, ?_⟩
  have h36 := kV35.bk h30
  have h37 : RecAt V35 r v A B := h31.keepsN kV35
  have h38 := kV35.bk h32
  have K39 := K33.nn kV35
  have z40 := kV35.size
  refine ⟨h38, ?_⟩
  refine an_o 5 ?_
  refine on_c (o_qPut 12 5) 32 #[pT r 0, .int .i64 a.err, .int .i64 a.v] Try.func32 ((qwhose_ok r v A B _ _ _ h37).mono ?_)
  rintro e w1 ⟨rfl, rfl⟩
  refine ⟨_, rfl, ?_⟩
  refine ⟨h38, ?_⟩
  refine an_o 6 ?_
  refine on_r (o_qPut 12 6) (.int .i64 (whoErr v a.err a.v)) (w' := V35) (by kernel_rfl) ?_
  refine ⟨h38, ?_⟩
  refine an_end (by kernel_rfl) ?_
  refine then_n ?_
  refine sy_sq (part_qPut 26) (part_qPut 27) ?_
  refine sy_reg ?_
  refine rg_plain 2 (opsAt (part_qPut 26)) [0, 1] (by kernel_rfl) (by kernel_rfl) ?_
  refine ps_k (o_qPut 26 0) (.int .i64 (whoErr v a.err a.v)) ?_
  refine ps_p (o_qPut 26 1) (.bool false) (nqf ((whoErr v a.err a.v) : Int) ((0) : Int) (by omega)) ?_
  refine ps_end ?_
  refine then_n ?_
  refine sy_n (.tmp 13) (part_qPut 54) (part_qPut 55) ?_
  refine sy_sk ?_
  refine then_n ?_
  refine sy_sq (part_qPut 14) (part_qPut 15) ?_
  refine sy_np ?_
  refine sy_reg ?_
  refine an_begin 4 7 (opsAt (part_qPut 14)) (fun W => (W.heap[p]? = some (.cells (Att.c a) 28 (0, 0))) ∧ (W.heap[r]? = some (.cells (#[.int .i64 v, .pointer (some ⟨A.g, 0, none⟩), .pointer (some ⟨B.g, 0, none⟩)]) 57 (0, 0)))) #[false, false, false, false, false, false, false] (by kernel_rfl) (by kernel_rfl) (by kernel_rfl) (by kernel_rfl) ?_
  obtain ⟨V41, eV41, kV41⟩ := drew_step V35
  rw [eV41]
  clear eV41
  have h42 := kV41.bk h36
  have h43 : RecAt V41 r v A B := h37.keepsN kV41
  have h44 := kV41.bk h38
  have K45 := K39.nn kV41
  have z46 := kV41.size
  refine an_k 0 (o_qPut 14 0) (pT r 0) ⟨h44, h42⟩ ?_
  refine an_k 1 (o_qPut 14 1) (pT r 0) ⟨h44, h42⟩ ?_
  refine an_k 2 (o_qPut 14 2) (pT r 1) ⟨h44, h42⟩ ?_
  refine an_v 3 (o_qPut 14 3) (.pointer (some ⟨A.g, 0, none⟩)) (fun W hS => exec_ld 54 (.tmp 17) r 1 Try.underlying54 (rc (hS.2) (by kernel_rfl))) ⟨h44, h42⟩ ?_
  refine an_v 4 (o_qPut 14 4) (.agg (Att.c a)) (fun W hS => exec_load_row 28 (.tmp 3) (by kernel_rfl) p (by kernel_rfl) _ _ (0, 0) _ (hS.1) Try.underlying28 rfl (by rw [Att.c_size _ ha.r]; kernel_rfl)) ⟨h44, h42⟩ ?_
  refine an_o 5 ?_
  have Hp := h43
  have np_ : p ≠ A.s := fun e => Odd.one Hp.a.slots (by decide) _ _ _ e h44
  have nr_ : r ≠ A.s := fun e => Odd.one Hp.a.slots (by decide) _ _ _ e h42
  refine on_c (o_qPut 14 5) 34 #[.pointer (some ⟨A.g, 0, none⟩), .agg (Att.c a)] Try.func34 ((gput_ok A a _ Hp.a ha).mono ?_)
  rintro e V47 ⟨rfl, hb, hg, kV47⟩
  have kq := kV47
  refine ⟨_, rfl, ?_⟩
  have h48 := kV47.bo h42 (by omega)
  have h49 := kV47.bo h44 (by omega)
  have K50 : Keeps ((One A.s)) w V47 := K45.then kV47 (fun i hi hm => by unfold Own.One at hm; subst hm; exact rfl)
  have z51 := kV47.size
  refine ⟨⟨h49, h48⟩, ?_⟩
  refine an_o 6 ?_
  refine on_r (o_qPut 14 6) (.int .i64 (gputErr A a.t)) (w' := V47) (by kernel_rfl) ?_
  refine ⟨⟨h49, h48⟩, ?_⟩
  refine an_end (by kernel_rfl) ?_
  refine then_n ?_
  refine sy_ret (by kernel_rfl) ?_
  refine sy_out (.int .i64 (gputErr A a.t)) rfl (by kernel_rfl) ?_
  exact ⟨rfl, fun h => RecAt.putA Hp (hb h) rfl kq, fun h => let ⟨S', hr⟩ := hg h; ⟨S', RecAt.putA Hp hr rfl kq⟩, K50⟩
def qPutErr (v : Int) (A : RD Att) (a : Att) : Int := if (whoErr v a.err a.v) ≠ 0 then (whoErr v a.err a.v) else (gputErr A a.t)
theorem qPut_ok (r : Nat) (v : Int) (A : RD Att) (B : RD Pro) (a : Att) (w : World) (H : RecAt w r v A B) (ha : a.Ok) : Calls Try.prog 9 #[.pointer (some ⟨r, 0, none⟩), .agg (Att.c a)] w fun e w' => e = .returned (.int .i64 (qPutErr v A a)) ∧ (qPutErr v A a ≠ 0 → RecAt w' r v A B) ∧ (qPutErr v A a = 0 → ∃ S', RecAt w' r v { A with V := upV A.V a.t a, S := S' } B) ∧ Keeps (One A.s) w w' := by
  unfold qPutErr
  by_cases hE : (whoErr v a.err a.v) = 0
  · rw [if_neg (by omega)]; exact qPut_fine r v A B a w H ha hE
  · rw [if_pos hE]; exact (qPut_bad r v A B a w H ha hE).mono fun e w' ⟨he, k⟩ => ⟨he, fun _ => H.keepsN k, fun h => absurd h hE, k.mono (fun _ _ x => x.elim)⟩
set_option maxRecDepth 100000 in
set_option maxHeartbeats 4000000 in
theorem qPut_none (u : Value) (a : Att) (w : World) (H : NoRec w u) (ha : a.Ok) :
    Calls Try.prog 9 #[u, .agg (Att.c a)] w (fun e w' => e = .returned (.int .i64 1) ∧ Keeps Nob w w') := by
  have K0 : Keeps Nob w w := Keeps.refl _ _
  refine sy_enter (part_qPut 1) ⟨#[u, .agg (Att.c a), undef, undef, undef, undef, undef, undef, undef, undef, undef, undef, undef, undef, undef, undef, undef, undef, undef, undef, undef], []⟩ Try.func9 (by kernel_rfl) (by kernel_rfl) ?_
  refine sy_sq (part_qPut 2) (part_qPut 3) ?_
  refine sy_reg ?_
  refine rg_plain 0 (opsAt (part_qPut 2)) [0, 1] (by kernel_rfl) (by kernel_rfl) ?_
  obtain ⟨V52, eV52, p, ep, h53, kV52⟩ := alloc_step w ((Att.c a)) 28
  have n54 : w.heap.size ≤ p := ep ▸ K0.size
  refine ps_r (o_qPut 2 0) (pT p 0) (w' := V52) (by rw [← eV52, ← ep]; exact exec_box 28 (.tmp 1) (by kernel_rfl) (.agg (Att.c a)) (by kernel_rfl)) ?_
  clear eV52
  have h55 : NoRec V52 u := H.keepsN kV52
  have K56 := K0.nn kV52
  have z57 := kV52.size
  refine ps_k (o_qPut 2 1) (.int .i64 0) ?_
  refine ps_end ?_
  refine then_n ?_
  refine sy_sq (part_qPut 6) (part_qPut 7) ?_
  refine sy_sq (part_qPut 12) (part_qPut 13) ?_
  refine sy_np ?_
  refine sy_reg ?_
  refine an_begin 1 7 (opsAt (part_qPut 12)) (fun W => (W.heap[p]? = some (.cells (Att.c a) 28 (0, 0)))) #[false, false, false, false, false, false, false] (by kernel_rfl) (by kernel_rfl) (by kernel_rfl) (by kernel_rfl) ?_
  obtain ⟨V58, eV58, kV58⟩ := drew_step V52
  rw [eV58]
  clear eV58
  have h59 : NoRec V58 u := h55.keepsN kV58
  have h60 := kV58.bk h53
  have K61 := K56.nn kV58
  have z62 := kV58.size
  refine an_k 0 (o_qPut 12 0) (u) h60 ?_
  refine an_v 1 (o_qPut 12 1) (.agg (Att.c a)) (fun W hS => exec_load_row 28 (.tmp 3) (by kernel_rfl) p (by kernel_rfl) _ _ (0, 0) _ (hS) Try.underlying28 rfl (by rw [Att.c_size _ ha.r]; kernel_rfl)) h60 ?_
  refine an_k 3 (o_qPut 12 3) (pT p 0) h60 ?_
  refine an_v 4 (o_qPut 12 4) (.int .i64 a.v) (fun W hS => exec_ld 3 (.tmp 9) p 0 Try.underlying3 (rc (hS) (Att.c_0 _))) h60 ?_
  refine an_o 2 ?_
  refine on_c (o_qPut 12 2) 33 #[.agg (Att.c a)] Try.func33 ((vCheck_ok a _ ha.r).mono ?_)
  rintro e V63 ⟨rfl, kV63⟩
  refine ⟨_, rfl, ?_⟩
  have h64 : NoRec V63 u := h59.keepsN kV63
  have h65 := kV63.bk h60
  have K66 := K61.nn kV63
  have z67 := kV63.size
  refine ⟨h65, ?_⟩
  refine an_o 5 ?_
  refine on_c (o_qPut 12 5) 32 #[u, .int .i64 a.err, .int .i64 a.v] Try.func32 ((qwhose_none u _ _ _ h64).mono ?_)
  rintro e w1 ⟨rfl, rfl⟩
  refine ⟨_, rfl, ?_⟩
  refine ⟨h65, ?_⟩
  refine an_o 6 ?_
  refine on_r (o_qPut 12 6) (.int .i64 1) (w' := V63) (by kernel_rfl) ?_
  refine ⟨h65, ?_⟩
  refine an_end (by kernel_rfl) ?_
  refine then_n ?_
  refine sy_sq (part_qPut 26) (part_qPut 27) ?_
  refine sy_reg ?_
  refine rg_plain 2 (opsAt (part_qPut 26)) [0, 1] (by kernel_rfl) (by kernel_rfl) ?_
  refine ps_k (o_qPut 26 0) (.int .i64 1) ?_
  refine ps_k (o_qPut 26 1) (.bool true) ?_
  refine ps_end ?_
  refine then_n ?_
  refine sy_ys (.tmp 13) (part_qPut 54) (part_qPut 55) ?_
  refine sy_sq (part_qPut 108) (part_qPut 109) ?_
  refine sy_reg ?_
  refine rg_plain 3 (opsAt (part_qPut 108)) [0, 1] (by kernel_rfl) (by kernel_rfl) ?_
  refine ps_k (o_qPut 108 0) (.int .i64 1) ?_
  refine ps_k (o_qPut 108 1) (.int .i64 1) ?_
  refine ps_end ?_
  refine then_n ?_
  refine sy_ret (by kernel_rfl) ?_
  refine then_r ?_
  refine sy_out (.int .i64 1) rfl (by kernel_rfl) ?_
  exact ⟨rfl, K66⟩
noncomputable def part_qPutBlock (n : Nat) : Code := partOf Try.f12 n
noncomputable abbrev o_qPutBlock (n k : Nat) : Oper := (opsAt (part_qPutBlock n)).getD k default
set_option maxRecDepth 100000 in
set_option maxHeartbeats 4000000 in
theorem qPutBlock_bad (r : Nat) (v : Int) (A : RD Att) (B : RD Pro) (a : Pro) (w : World) (H : RecAt w r v A B) (ha : a.Ok) (hE : (whoErr v a.err a.v) ≠ 0) :
    Calls Try.prog 12 #[.pointer (some ⟨r, 0, none⟩), .agg (Pro.c a)] w (fun e w' => e = .returned (.int .i64 (whoErr v a.err a.v)) ∧ Keeps Nob w w') := by
  have K0 : Keeps Nob w w := Keeps.refl _ _
  refine sy_enter (part_qPutBlock 1) ⟨#[pT r 0, .agg (Pro.c a), undef, undef, undef, undef, undef, undef, undef, undef, undef, undef, undef, undef, undef, undef, undef, undef, undef, undef, undef], []⟩ Try.func12 (by kernel_rfl) (by kernel_rfl) ?_
  refine sy_sq (part_qPutBlock 2) (part_qPutBlock 3) ?_
  refine sy_reg ?_
  refine rg_plain 0 (opsAt (part_qPutBlock 2)) [0, 1] (by kernel_rfl) (by kernel_rfl) ?_
  obtain ⟨V1, eV1, p, ep, h2, kV1⟩ := alloc_step w ((Pro.c a)) 35
  have n3 : r < p := ep ▸ lt_of_block H.rec_
  have n4 : w.heap.size ≤ p := ep ▸ K0.size
  refine ps_r (o_qPutBlock 2 0) (pT p 0) (w' := V1) (by rw [← eV1, ← ep]; exact exec_box 35 (.tmp 1) (by kernel_rfl) (.agg (Pro.c a)) (by kernel_rfl)) ?_
  clear eV1
  have h5 := kV1.bk H.rec_
  have h6 : RecAt V1 r v A B := H.keepsN kV1
  have K7 := K0.nn kV1
  have z8 := kV1.size
  refine ps_k (o_qPutBlock 2 1) (.int .i64 0) ?_
  refine ps_end ?_
  refine then_n ?_
  refine sy_sq (part_qPutBlock 6) (part_qPutBlock 7) ?_
  refine sy_sq (part_qPutBlock 12) (part_qPutBlock 13) ?_
  refine sy_np ?_
  refine sy_reg ?_
  refine an_begin 1 7 (opsAt (part_qPutBlock 12)) (fun W => (W.heap[p]? = some (.cells (Pro.c a) 35 (0, 0)))) #[false, false, false, false, false, false, false] (by kernel_rfl) (by kernel_rfl) (by kernel_rfl) (by kernel_rfl) ?_
  obtain ⟨V9, eV9, kV9⟩ := drew_step V1
  rw [eV9]
  clear eV9
  have h10 := kV9.bk h5
  have h11 : RecAt V9 r v A B := h6.keepsN kV9
  have h12 := kV9.bk h2
  have K13 := K7.nn kV9
  have z14 := kV9.size
  refine an_k 0 (o_qPutBlock 12 0) (pT r 0) h12 ?_
  refine an_v 1 (o_qPutBlock 12 1) (.agg (Pro.c a)) (fun W hS => exec_load_row 35 (.tmp 3) (by kernel_rfl) p (by kernel_rfl) _ _ (0, 0) _ (hS) Try.underlying35 rfl (by rw [Pro.c_size _ ha.r]; kernel_rfl)) h12 ?_
  refine an_k 3 (o_qPutBlock 12 3) (pT p 0) h12 ?_
  refine an_v 4 (o_qPutBlock 12 4) (.int .i64 a.v) (fun W hS => exec_ld 3 (.tmp 9) p 0 Try.underlying3 (rc (hS) (Pro.c_0 _))) h12 ?_
  refine an_o 2 ?_
  refine on_c (o_qPutBlock 12 2) 36 #[.agg (Pro.c a)] Try.func36 ((vCheckBlock_ok a _ ha.r).mono ?_)
  rintro e V15 ⟨rfl, kV15⟩
  refine ⟨_, rfl, ?_⟩
  have h16 := kV15.bk h10
  have h17 : RecAt V15 r v A B := h11.keepsN kV15
  have h18 := kV15.bk h12
  have K19 := K13.nn kV15
  have z20 := kV15.size
  refine ⟨h18, ?_⟩
  refine an_o 5 ?_
  refine on_c (o_qPutBlock 12 5) 32 #[pT r 0, .int .i64 a.err, .int .i64 a.v] Try.func32 ((qwhose_ok r v A B _ _ _ h17).mono ?_)
  rintro e w1 ⟨rfl, rfl⟩
  refine ⟨_, rfl, ?_⟩
  refine ⟨h18, ?_⟩
  refine an_o 6 ?_
  refine on_r (o_qPutBlock 12 6) (.int .i64 (whoErr v a.err a.v)) (w' := V15) (by kernel_rfl) ?_
  refine ⟨h18, ?_⟩
  refine an_end (by kernel_rfl) ?_
  refine then_n ?_
  refine sy_sq (part_qPutBlock 26) (part_qPutBlock 27) ?_
  refine sy_reg ?_
  refine rg_plain 2 (opsAt (part_qPutBlock 26)) [0, 1] (by kernel_rfl) (by kernel_rfl) ?_
  refine ps_k (o_qPutBlock 26 0) (.int .i64 (whoErr v a.err a.v)) ?_
  refine ps_p (o_qPutBlock 26 1) (.bool true) (nqt ((whoErr v a.err a.v) : Int) ((0) : Int) (by omega)) ?_
  refine ps_end ?_
  refine then_n ?_
  refine sy_ys (.tmp 13) (part_qPutBlock 54) (part_qPutBlock 55) ?_
  refine sy_sq (part_qPutBlock 108) (part_qPutBlock 109) ?_
  refine sy_reg ?_
  refine rg_plain 3 (opsAt (part_qPutBlock 108)) [0, 1] (by kernel_rfl) (by kernel_rfl) ?_
  refine ps_k (o_qPutBlock 108 0) (.int .i64 (whoErr v a.err a.v)) ?_
  refine ps_k (o_qPutBlock 108 1) (.int .i64 (whoErr v a.err a.v)) ?_
  refine ps_end ?_
  refine then_n ?_
  refine sy_ret (by kernel_rfl) ?_
  refine then_r ?_
  refine sy_out (.int .i64 (whoErr v a.err a.v)) rfl (by kernel_rfl) ?_
  exact ⟨rfl, K19⟩
set_option maxRecDepth 100000 in
set_option maxHeartbeats 4000000 in
theorem qPutBlock_fine (r : Nat) (v : Int) (A : RD Att) (B : RD Pro) (a : Pro) (w : World) (H : RecAt w r v A B) (ha : a.Ok) (hE : (whoErr v a.err a.v) = 0) :
    Calls Try.prog 12 #[.pointer (some ⟨r, 0, none⟩), .agg (Pro.c a)] w (fun e w' => e = .returned (.int .i64 (gputBErr B a.h)) ∧ ((gputBErr B a.h) ≠ 0 → RecAt w' r v A B) ∧ ((gputBErr B a.h) = 0 → ∃ S', RecAt w' r v A { B with V := upV B.V a.h a, S := S' }) ∧ Keeps (One B.s) w w') := by
  have K0 : Keeps ((One B.s)) w w := Keeps.refl _ _
  refine sy_enter (part_qPutBlock 1) ⟨#[pT r 0, .agg (Pro.c a), undef, undef, undef, undef, undef, undef, undef, undef, undef, undef, undef, undef, undef, undef, undef, undef, undef, undef, undef], []⟩ Try.func12 (by kernel_rfl) (by kernel_rfl) ?_
  refine sy_sq (part_qPutBlock 2) (part_qPutBlock 3) ?_
  refine sy_reg ?_
  refine rg_plain 0 (opsAt (part_qPutBlock 2)) [0, 1] (by kernel_rfl) (by kernel_rfl) ?_
  obtain ⟨V21, eV21, p, ep, h22, kV21⟩ := alloc_step w ((Pro.c a)) 35
  have n23 : r < p := ep ▸ lt_of_block H.rec_
  have n24 : w.heap.size ≤ p := ep ▸ K0.size
  refine ps_r (o_qPutBlock 2 0) (pT p 0) (w' := V21) (by rw [← eV21, ← ep]; exact exec_box 35 (.tmp 1) (by kernel_rfl) (.agg (Pro.c a)) (by kernel_rfl)) ?_
  clear eV21
  have h25 := kV21.bk H.rec_
  have h26 : RecAt V21 r v A B := H.keepsN kV21
  have K27 := K0.nn kV21
  have z28 := kV21.size
  refine ps_k (o_qPutBlock 2 1) (.int .i64 0) ?_
  refine ps_end ?_
  refine then_n ?_
  refine sy_sq (part_qPutBlock 6) (part_qPutBlock 7) ?_
  refine sy_sq (part_qPutBlock 12) (part_qPutBlock 13) ?_
  refine sy_np ?_
  refine sy_reg ?_
  refine an_begin 1 7 (opsAt (part_qPutBlock 12)) (fun W => (W.heap[p]? = some (.cells (Pro.c a) 35 (0, 0)))) #[false, false, false, false, false, false, false] (by kernel_rfl) (by kernel_rfl) (by kernel_rfl) (by kernel_rfl) ?_
  obtain ⟨V29, eV29, kV29⟩ := drew_step V21
  rw [eV29]
  clear eV29
  have h30 := kV29.bk h25
  have h31 : RecAt V29 r v A B := h26.keepsN kV29
  have h32 := kV29.bk h22
  have K33 := K27.nn kV29
  have z34 := kV29.size
  refine an_k 0 (o_qPutBlock 12 0) (pT r 0) h32 ?_
  refine an_v 1 (o_qPutBlock 12 1) (.agg (Pro.c a)) (fun W hS => exec_load_row 35 (.tmp 3) (by kernel_rfl) p (by kernel_rfl) _ _ (0, 0) _ (hS) Try.underlying35 rfl (by rw [Pro.c_size _ ha.r]; kernel_rfl)) h32 ?_
  refine an_k 3 (o_qPutBlock 12 3) (pT p 0) h32 ?_
  refine an_v 4 (o_qPutBlock 12 4) (.int .i64 a.v) (fun W hS => exec_ld 3 (.tmp 9) p 0 Try.underlying3 (rc (hS) (Pro.c_0 _))) h32 ?_
  refine an_o 2 ?_
  refine on_c (o_qPutBlock 12 2) 36 #[.agg (Pro.c a)] Try.func36 ((vCheckBlock_ok a _ ha.r).mono ?_)
  rintro e V35 ⟨rfl, kV35⟩
  refine ⟨_, rfl, ?_⟩
  have h36 := kV35.bk h30
  have h37 : RecAt V35 r v A B := h31.keepsN kV35
  have h38 := kV35.bk h32
  have K39 := K33.nn kV35
  have z40 := kV35.size
  refine ⟨h38, ?_⟩
  refine an_o 5 ?_
  refine on_c (o_qPutBlock 12 5) 32 #[pT r 0, .int .i64 a.err, .int .i64 a.v] Try.func32 ((qwhose_ok r v A B _ _ _ h37).mono ?_)
  rintro e w1 ⟨rfl, rfl⟩
  refine ⟨_, rfl, ?_⟩
  refine ⟨h38, ?_⟩
  refine an_o 6 ?_
  refine on_r (o_qPutBlock 12 6) (.int .i64 (whoErr v a.err a.v)) (w' := V35) (by kernel_rfl) ?_
  refine ⟨h38, ?_⟩
  refine an_end (by kernel_rfl) ?_
  refine then_n ?_
  refine sy_sq (part_qPutBlock 26) (part_qPutBlock 27) ?_
  refine sy_reg ?_
  refine rg_plain 2 (opsAt (part_qPutBlock 26)) [0, 1] (by kernel_rfl) (by kernel_rfl) ?_
  refine ps_k (o_qPutBlock 26 0) (.int .i64 (whoErr v a.err a.v)) ?_
  refine ps_p (o_qPutBlock 26 1) (.bool false) (nqf ((whoErr v a.err a.v) : Int) ((0) : Int) (by omega)) ?_
  refine ps_end ?_
  refine then_n ?_
  refine sy_n (.tmp 13) (part_qPutBlock 54) (part_qPutBlock 55) ?_
  refine sy_sk ?_
  refine then_n ?_
  refine sy_sq (part_qPutBlock 14) (part_qPutBlock 15) ?_
  refine sy_np ?_
  refine sy_reg ?_
  refine an_begin 4 7 (opsAt (part_qPutBlock 14)) (fun W => (W.heap[p]? = some (.cells (Pro.c a) 35 (0, 0))) ∧ (W.heap[r]? = some (.cells (#[.int .i64 v, .pointer (some ⟨A.g, 0, none⟩), .pointer (some ⟨B.g, 0, none⟩)]) 57 (0, 0)))) #[false, false, false, false, false, false, false] (by kernel_rfl) (by kernel_rfl) (by kernel_rfl) (by kernel_rfl) ?_
  obtain ⟨V41, eV41, kV41⟩ := drew_step V35
  rw [eV41]
  clear eV41
  have h42 := kV41.bk h36
  have h43 : RecAt V41 r v A B := h37.keepsN kV41
  have h44 := kV41.bk h38
  have K45 := K39.nn kV41
  have z46 := kV41.size
  refine an_k 0 (o_qPutBlock 14 0) (pT r 0) ⟨h44, h42⟩ ?_
  refine an_k 1 (o_qPutBlock 14 1) (pT r 0) ⟨h44, h42⟩ ?_
  refine an_k 2 (o_qPutBlock 14 2) (pT r 2) ⟨h44, h42⟩ ?_
  refine an_v 3 (o_qPutBlock 14 3) (.pointer (some ⟨B.g, 0, none⟩)) (fun W hS => exec_ld 55 (.tmp 17) r 2 Try.underlying55 (rc (hS.2) (by kernel_rfl))) ⟨h44, h42⟩ ?_
  refine an_v 4 (o_qPutBlock 14 4) (.agg (Pro.c a)) (fun W hS => exec_load_row 35 (.tmp 3) (by kernel_rfl) p (by kernel_rfl) _ _ (0, 0) _ (hS.1) Try.underlying35 rfl (by rw [Pro.c_size _ ha.r]; kernel_rfl)) ⟨h44, h42⟩ ?_
  refine an_o 5 ?_
  have Hp := h43
  have np_ : p ≠ B.s := fun e => Odd.one Hp.b.slots (by decide) _ _ _ e h44
  have nr_ : r ≠ B.s := fun e => Odd.one Hp.b.slots (by decide) _ _ _ e h42
  refine on_c (o_qPutBlock 14 5) 37 #[.pointer (some ⟨B.g, 0, none⟩), .agg (Pro.c a)] Try.func37 ((gputB_ok B a _ Hp.b ha).mono ?_)
  rintro e V47 ⟨rfl, hb, hg, kV47⟩
  have kq := kV47
  refine ⟨_, rfl, ?_⟩
  have h48 := kV47.bo h42 (by omega)
  have h49 := kV47.bo h44 (by omega)
  have K50 : Keeps ((One B.s)) w V47 := K45.then kV47 (fun i hi hm => by unfold Own.One at hm; subst hm; exact rfl)
  have z51 := kV47.size
  refine ⟨⟨h49, h48⟩, ?_⟩
  refine an_o 6 ?_
  refine on_r (o_qPutBlock 14 6) (.int .i64 (gputBErr B a.h)) (w' := V47) (by kernel_rfl) ?_
  refine ⟨⟨h49, h48⟩, ?_⟩
  refine an_end (by kernel_rfl) ?_
  refine then_n ?_
  refine sy_ret (by kernel_rfl) ?_
  refine sy_out (.int .i64 (gputBErr B a.h)) rfl (by kernel_rfl) ?_
  exact ⟨rfl, fun h => RecAt.putB Hp (hb h) rfl kq, fun h => let ⟨S', hr⟩ := hg h; ⟨S', RecAt.putB Hp hr rfl kq⟩, K50⟩
def qPutBlockErr (v : Int) (B : RD Pro) (a : Pro) : Int := if (whoErr v a.err a.v) ≠ 0 then (whoErr v a.err a.v) else (gputBErr B a.h)
theorem qPutBlock_ok (r : Nat) (v : Int) (A : RD Att) (B : RD Pro) (a : Pro) (w : World) (H : RecAt w r v A B) (ha : a.Ok) : Calls Try.prog 12 #[.pointer (some ⟨r, 0, none⟩), .agg (Pro.c a)] w fun e w' => e = .returned (.int .i64 (qPutBlockErr v B a)) ∧ (qPutBlockErr v B a ≠ 0 → RecAt w' r v A B) ∧ (qPutBlockErr v B a = 0 → ∃ S', RecAt w' r v A { B with V := upV B.V a.h a, S := S' }) ∧ Keeps (One B.s) w w' := by
  unfold qPutBlockErr
  by_cases hE : (whoErr v a.err a.v) = 0
  · rw [if_neg (by omega)]; exact qPutBlock_fine r v A B a w H ha hE
  · rw [if_pos hE]; exact (qPutBlock_bad r v A B a w H ha hE).mono fun e w' ⟨he, k⟩ => ⟨he, fun _ => H.keepsN k, fun h => absurd h hE, k.mono (fun _ _ x => x.elim)⟩
set_option maxRecDepth 100000 in
set_option maxHeartbeats 4000000 in
theorem qPutBlock_none (u : Value) (a : Pro) (w : World) (H : NoRec w u) (ha : a.Ok) :
    Calls Try.prog 12 #[u, .agg (Pro.c a)] w (fun e w' => e = .returned (.int .i64 1) ∧ Keeps Nob w w') := by
  have K0 : Keeps Nob w w := Keeps.refl _ _
  refine sy_enter (part_qPutBlock 1) ⟨#[u, .agg (Pro.c a), undef, undef, undef, undef, undef, undef, undef, undef, undef, undef, undef, undef, undef, undef, undef, undef, undef, undef, undef], []⟩ Try.func12 (by kernel_rfl) (by kernel_rfl) ?_
  refine sy_sq (part_qPutBlock 2) (part_qPutBlock 3) ?_
  refine sy_reg ?_
  refine rg_plain 0 (opsAt (part_qPutBlock 2)) [0, 1] (by kernel_rfl) (by kernel_rfl) ?_
  obtain ⟨V52, eV52, p, ep, h53, kV52⟩ := alloc_step w ((Pro.c a)) 35
  have n54 : w.heap.size ≤ p := ep ▸ K0.size
  refine ps_r (o_qPutBlock 2 0) (pT p 0) (w' := V52) (by rw [← eV52, ← ep]; exact exec_box 35 (.tmp 1) (by kernel_rfl) (.agg (Pro.c a)) (by kernel_rfl)) ?_
  clear eV52
  have h55 : NoRec V52 u := H.keepsN kV52
  have K56 := K0.nn kV52
  have z57 := kV52.size
  refine ps_k (o_qPutBlock 2 1) (.int .i64 0) ?_
  refine ps_end ?_
  refine then_n ?_
  refine sy_sq (part_qPutBlock 6) (part_qPutBlock 7) ?_
  refine sy_sq (part_qPutBlock 12) (part_qPutBlock 13) ?_
  refine sy_np ?_
  refine sy_reg ?_
  refine an_begin 1 7 (opsAt (part_qPutBlock 12)) (fun W => (W.heap[p]? = some (.cells (Pro.c a) 35 (0, 0)))) #[false, false, false, false, false, false, false] (by kernel_rfl) (by kernel_rfl) (by kernel_rfl) (by kernel_rfl) ?_
  obtain ⟨V58, eV58, kV58⟩ := drew_step V52
  rw [eV58]
  clear eV58
  have h59 : NoRec V58 u := h55.keepsN kV58
  have h60 := kV58.bk h53
  have K61 := K56.nn kV58
  have z62 := kV58.size
  refine an_k 0 (o_qPutBlock 12 0) (u) h60 ?_
  refine an_v 1 (o_qPutBlock 12 1) (.agg (Pro.c a)) (fun W hS => exec_load_row 35 (.tmp 3) (by kernel_rfl) p (by kernel_rfl) _ _ (0, 0) _ (hS) Try.underlying35 rfl (by rw [Pro.c_size _ ha.r]; kernel_rfl)) h60 ?_
  refine an_k 3 (o_qPutBlock 12 3) (pT p 0) h60 ?_
  refine an_v 4 (o_qPutBlock 12 4) (.int .i64 a.v) (fun W hS => exec_ld 3 (.tmp 9) p 0 Try.underlying3 (rc (hS) (Pro.c_0 _))) h60 ?_
  refine an_o 2 ?_
  refine on_c (o_qPutBlock 12 2) 36 #[.agg (Pro.c a)] Try.func36 ((vCheckBlock_ok a _ ha.r).mono ?_)
  rintro e V63 ⟨rfl, kV63⟩
  refine ⟨_, rfl, ?_⟩
  have h64 : NoRec V63 u := h59.keepsN kV63
  have h65 := kV63.bk h60
  have K66 := K61.nn kV63
  have z67 := kV63.size
  refine ⟨h65, ?_⟩
  refine an_o 5 ?_
  refine on_c (o_qPutBlock 12 5) 32 #[u, .int .i64 a.err, .int .i64 a.v] Try.func32 ((qwhose_none u _ _ _ h64).mono ?_)
  rintro e w1 ⟨rfl, rfl⟩
  refine ⟨_, rfl, ?_⟩
  refine ⟨h65, ?_⟩
  refine an_o 6 ?_
  refine on_r (o_qPutBlock 12 6) (.int .i64 1) (w' := V63) (by kernel_rfl) ?_
  refine ⟨h65, ?_⟩
  refine an_end (by kernel_rfl) ?_
  refine then_n ?_
  refine sy_sq (part_qPutBlock 26) (part_qPutBlock 27) ?_
  refine sy_reg ?_
  refine rg_plain 2 (opsAt (part_qPutBlock 26)) [0, 1] (by kernel_rfl) (by kernel_rfl) ?_
  refine ps_k (o_qPutBlock 26 0) (.int .i64 1) ?_
  refine ps_k (o_qPutBlock 26 1) (.bool true) ?_
  refine ps_end ?_
  refine then_n ?_
  refine sy_ys (.tmp 13) (part_qPutBlock 54) (part_qPutBlock 55) ?_
  refine sy_sq (part_qPutBlock 108) (part_qPutBlock 109) ?_
  refine sy_reg ?_
  refine rg_plain 3 (opsAt (part_qPutBlock 108)) [0, 1] (by kernel_rfl) (by kernel_rfl) ?_
  refine ps_k (o_qPutBlock 108 0) (.int .i64 1) ?_
  refine ps_k (o_qPutBlock 108 1) (.int .i64 1) ?_
  refine ps_end ?_
  refine then_n ?_
  refine sy_ret (by kernel_rfl) ?_
  refine then_r ?_
  refine sy_out (.int .i64 1) rfl (by kernel_rfl) ?_
  exact ⟨rfl, K66⟩
noncomputable def part_qAt (n : Nat) : Code := partOf Try.f8 n
noncomputable abbrev o_qAt (n k : Nat) : Oper := (opsAt (part_qAt n)).getD k default
set_option maxRecDepth 100000 in
set_option maxHeartbeats 4000000 in
theorem qAt_no (r : Nat) (v : Int) (A : RD Att) (B : RD Pro) (i : Int) (w : World) (H : RecAt w r v A B) (hs : slotOf A i = none) :
    Calls Try.prog 8 #[.pointer (some ⟨r, 0, none⟩), .int .i64 i] w (fun e w' => e = .returned (.tuple #[.agg (Att.c zAtt), .bool false]) ∧ Keeps Nob w w') := by
  have K0 : Keeps Nob w w := Keeps.refl _ _
  refine sy_enter (part_qAt 1) ⟨#[pT r 0, .int .i64 i, undef, undef, undef, undef, undef, undef, undef, undef, undef, undef, undef, undef, undef, undef, undef, undef, undef, undef, undef, undef, undef, undef, undef, undef], []⟩ Try.func8 (by kernel_rfl) (by kernel_rfl) ?_
  refine sy_sq (part_qAt 2) (part_qAt 3) ?_
  refine sy_reg ?_
  refine rg_plain 0 (opsAt (part_qAt 2)) [0, 1] (by kernel_rfl) (by kernel_rfl) ?_
  obtain ⟨V1, eV1, g, eg, h2, kV1⟩ := alloc_step w (#[.int .i64 0, .int .i64 0, .int .i64 0, .int .u8 0, .int .u8 0, .int .u8 0, .int .u8 0, .int .u8 0, .int .u8 0, .int .u8 0, .int .u8 0, .int .u8 0, .int .u8 0, .int .u8 0, .int .u8 0, .int .u8 0, .int .u8 0, .int .u8 0, .int .u8 0, .int .u8 0, .int .u8 0, .int .u8 0, .int .u8 0, .int .u8 0, .int .u8 0, .int .u8 0, .int .u8 0, .int .u8 0, .int .u8 0, .int .u8 0, .int .u8 0, .int .u8 0, .int .u8 0, .int .u8 0, .int .u8 0, .int .u64 0]) 28
  have n3 : r < g := eg ▸ lt_of_block H.rec_
  have n4 : w.heap.size ≤ g := eg ▸ K0.size
  refine ps_r (o_qAt 2 0) (pT g 0) (w' := V1) (by rw [← eV1, ← eg]; exact exec_alloc0 28 (by kernel_rfl) (.agg (#[.int .i64 0, .int .i64 0, .int .i64 0, .int .u8 0, .int .u8 0, .int .u8 0, .int .u8 0, .int .u8 0, .int .u8 0, .int .u8 0, .int .u8 0, .int .u8 0, .int .u8 0, .int .u8 0, .int .u8 0, .int .u8 0, .int .u8 0, .int .u8 0, .int .u8 0, .int .u8 0, .int .u8 0, .int .u8 0, .int .u8 0, .int .u8 0, .int .u8 0, .int .u8 0, .int .u8 0, .int .u8 0, .int .u8 0, .int .u8 0, .int .u8 0, .int .u8 0, .int .u8 0, .int .u8 0, .int .u8 0, .int .u64 0])) (by kernel_rfl)) ?_
  clear eV1
  have h5 := kV1.bk H.rec_
  have K6 := K0.nn kV1
  have z7 := kV1.size
  refine ps_k (o_qAt 2 1) (.bool false) ?_
  refine ps_end ?_
  refine then_n ?_
  refine sy_sq (part_qAt 6) (part_qAt 7) ?_
  refine sy_sq (part_qAt 12) (part_qAt 13) ?_
  refine sy_reg ?_
  refine rg_plain 1 (opsAt (part_qAt 12)) [0, 1, 2, 3, 4, 5, 6, 7, 8, 9, 10] (by kernel_rfl) (by kernel_rfl) ?_
  refine ps_k (o_qAt 12 0) (pT r 0) ?_
  refine ps_c (o_qAt 12 1) 30 #[pT r 0] Try.func30 ((qnone_rec r v A B _ (H.keepsN K6)).mono ?_)
  rintro e w1 ⟨rfl, rfl⟩
  refine ⟨_, rfl, ?_⟩
  refine ps_k (o_qAt 12 2) (.bool false) ?_
  refine ps_k (o_qAt 12 3) (pT r 0) ?_
  refine ps_k (o_qAt 12 4) (pT r 0) ?_
  refine ps_k (o_qAt 12 5) (pT r 1) ?_
  refine ps_p (o_qAt 12 6) (.pointer (some ⟨A.g, 0, none⟩)) (exec_ld 54 (.tmp 11) r 1 Try.underlying54 (rc (h5) (by kernel_rfl))) ?_
  refine ps_k (o_qAt 12 7) (.int .i64 i) ?_
  refine ps_c (o_qAt 12 8) 31 #[.pointer (some ⟨A.g, 0, none⟩), .int .i64 i] Try.func31 ((gat_none _ _ (H.keepsN K6).a hs).mono ?_)
  rintro e V8 ⟨rfl, kV8⟩
  refine ⟨_, rfl, ?_⟩
  have h9 := kV8.bk h5
  have h10 := kV8.bk h2
  have K11 := K6.nn kV8
  have z12 := kV8.size
  refine ps_k (o_qAt 12 9) (.bool true) ?_
  refine ps_k (o_qAt 12 10) (.bool true) ?_
  refine ps_end ?_
  refine then_n ?_
  refine sy_ys (.tmp 16) (part_qAt 26) (part_qAt 27) ?_
  refine sy_sq (part_qAt 52) (part_qAt 53) ?_
  refine sy_reg ?_
  refine rg_plain 2 (opsAt (part_qAt 52)) [0, 1, 2] (by kernel_rfl) (by kernel_rfl) ?_
  refine ps_k (o_qAt 52 0) (.agg (Att.c zAtt)) ?_
  obtain ⟨V13, eV13, kV13⟩ := rowset_step V8 g ((Att.c zAtt))
  have h14 : V13.heap[g]? = some (.cells (Att.c zAtt) 28 (0, 0)) := eV13 ▸ setRow_heap _ _ _ _ _ _ h10
  refine ps_s (o_qAt 52 1) (w' := V13) (by rw [← eV13]; exact exec_store_row 28 (.tmp 4) (.tmp 17) (by kernel_rfl) g ((Att.c zAtt)) (by kernel_rfl) (by kernel_rfl) 28 (#[.int .i64 0, .int .i64 0, .int .i64 0, .int .u8 0, .int .u8 0, .int .u8 0, .int .u8 0, .int .u8 0, .int .u8 0, .int .u8 0, .int .u8 0, .int .u8 0, .int .u8 0, .int .u8 0, .int .u8 0, .int .u8 0, .int .u8 0, .int .u8 0, .int .u8 0, .int .u8 0, .int .u8 0, .int .u8 0, .int .u8 0, .int .u8 0, .int .u8 0, .int .u8 0, .int .u8 0, .int .u8 0, .int .u8 0, .int .u8 0, .int .u8 0, .int .u8 0, .int .u8 0, .int .u8 0, .int .u8 0, .int .u64 0]) h10 (by rw [Att.c_size _ zAtt_ok.r]; kernel_rfl) (by rw [Att.c_size _ zAtt_ok.r]; rfl) (Att.c_one _)) ?_
  clear eV13
  have h15 := kV13.bo h9 (by omega)
  have K16 := K11.no kV13 (by omega)
  have z17 := kV13.size
  refine ps_k (o_qAt 52 2) (.bool false) ?_
  refine ps_end ?_
  refine then_n ?_
  refine sy_ret (by kernel_rfl) ?_
  refine then_r ?_
  refine sy_out (.tuple #[.agg (Att.c zAtt), .bool false]) rfl (results_row_tmp (p := 4) (q := 5) (ty := 28) (by kernel_rfl) _ _ g 28 (Att.c zAtt) (0, 0) _ (.bool false) (by kernel_rfl) h14 Try.underlying28 rfl (by rw [Att.c_size _ zAtt_ok.r]; kernel_rfl) (by kernel_rfl)) ?_
  exact ⟨rfl, K16⟩
set_option maxRecDepth 100000 in
set_option maxHeartbeats 4000000 in
theorem qAt_yes (r : Nat) (v : Int) (A : RD Att) (B : RD Pro) (i : Int) (a : Att) (p : Nat) (w : World) (H : RecAt w r v A B) (ha : a.Ok) (hs : slotOf A i = some p) (hp : w.heap[p]? = some (.cells (Att.c a) 28 (0, 0))) :
    Calls Try.prog 8 #[.pointer (some ⟨r, 0, none⟩), .int .i64 i] w (fun e w' => e = .returned (.tuple #[.agg (Att.c a), .bool true]) ∧ Keeps Nob w w') := by
  have K0 : Keeps Nob w w := Keeps.refl _ _
  refine sy_enter (part_qAt 1) ⟨#[pT r 0, .int .i64 i, undef, undef, undef, undef, undef, undef, undef, undef, undef, undef, undef, undef, undef, undef, undef, undef, undef, undef, undef, undef, undef, undef, undef, undef], []⟩ Try.func8 (by kernel_rfl) (by kernel_rfl) ?_
  refine sy_sq (part_qAt 2) (part_qAt 3) ?_
  refine sy_reg ?_
  refine rg_plain 0 (opsAt (part_qAt 2)) [0, 1] (by kernel_rfl) (by kernel_rfl) ?_
  obtain ⟨V18, eV18, g, eg, h19, kV18⟩ := alloc_step w (#[.int .i64 0, .int .i64 0, .int .i64 0, .int .u8 0, .int .u8 0, .int .u8 0, .int .u8 0, .int .u8 0, .int .u8 0, .int .u8 0, .int .u8 0, .int .u8 0, .int .u8 0, .int .u8 0, .int .u8 0, .int .u8 0, .int .u8 0, .int .u8 0, .int .u8 0, .int .u8 0, .int .u8 0, .int .u8 0, .int .u8 0, .int .u8 0, .int .u8 0, .int .u8 0, .int .u8 0, .int .u8 0, .int .u8 0, .int .u8 0, .int .u8 0, .int .u8 0, .int .u8 0, .int .u8 0, .int .u8 0, .int .u64 0]) 28
  have n20 : r < g := eg ▸ lt_of_block H.rec_
  have n21 : p < g := eg ▸ lt_of_block hp
  have n22 : w.heap.size ≤ g := eg ▸ K0.size
  refine ps_r (o_qAt 2 0) (pT g 0) (w' := V18) (by rw [← eV18, ← eg]; exact exec_alloc0 28 (by kernel_rfl) (.agg (#[.int .i64 0, .int .i64 0, .int .i64 0, .int .u8 0, .int .u8 0, .int .u8 0, .int .u8 0, .int .u8 0, .int .u8 0, .int .u8 0, .int .u8 0, .int .u8 0, .int .u8 0, .int .u8 0, .int .u8 0, .int .u8 0, .int .u8 0, .int .u8 0, .int .u8 0, .int .u8 0, .int .u8 0, .int .u8 0, .int .u8 0, .int .u8 0, .int .u8 0, .int .u8 0, .int .u8 0, .int .u8 0, .int .u8 0, .int .u8 0, .int .u8 0, .int .u8 0, .int .u8 0, .int .u8 0, .int .u8 0, .int .u64 0])) (by kernel_rfl)) ?_
  clear eV18
  have h23 := kV18.bk H.rec_
  have h24 := kV18.bk hp
  have K25 := K0.nn kV18
  have z26 := kV18.size
  refine ps_k (o_qAt 2 1) (.bool false) ?_
  refine ps_end ?_
  refine then_n ?_
  refine sy_sq (part_qAt 6) (part_qAt 7) ?_
  refine sy_sq (part_qAt 12) (part_qAt 13) ?_
  refine sy_reg ?_
  refine rg_plain 1 (opsAt (part_qAt 12)) [0, 1, 2, 3, 4, 5, 6, 7, 8, 9, 10] (by kernel_rfl) (by kernel_rfl) ?_
  refine ps_k (o_qAt 12 0) (pT r 0) ?_
  refine ps_c (o_qAt 12 1) 30 #[pT r 0] Try.func30 ((qnone_rec r v A B _ (H.keepsN K25)).mono ?_)
  rintro e w1 ⟨rfl, rfl⟩
  refine ⟨_, rfl, ?_⟩
  refine ps_k (o_qAt 12 2) (.bool false) ?_
  refine ps_k (o_qAt 12 3) (pT r 0) ?_
  refine ps_k (o_qAt 12 4) (pT r 0) ?_
  refine ps_k (o_qAt 12 5) (pT r 1) ?_
  refine ps_p (o_qAt 12 6) (.pointer (some ⟨A.g, 0, none⟩)) (exec_ld 54 (.tmp 11) r 1 Try.underlying54 (rc (h23) (by kernel_rfl))) ?_
  refine ps_k (o_qAt 12 7) (.int .i64 i) ?_
  refine ps_c (o_qAt 12 8) 31 #[.pointer (some ⟨A.g, 0, none⟩), .int .i64 i] Try.func31 ((gat_some _ p _ (H.keepsN K25).a hs).mono ?_)
  rintro e V27 ⟨rfl, kV27⟩
  refine ⟨_, rfl, ?_⟩
  have h28 := kV27.bk h23
  have h29 := kV27.bk h24
  have h30 := kV27.bk h19
  have K31 := K25.nn kV27
  have z32 := kV27.size
  refine ps_k (o_qAt 12 9) (.bool false) ?_
  refine ps_k (o_qAt 12 10) (.bool false) ?_
  refine ps_end ?_
  refine then_n ?_
  refine sy_n (.tmp 16) (part_qAt 26) (part_qAt 27) ?_
  refine sy_sk ?_
  refine then_n ?_
  refine sy_sq (part_qAt 14) (part_qAt 15) ?_
  refine sy_reg ?_
  refine rg_plain 3 (opsAt (part_qAt 14)) [0, 1, 2, 3, 4, 5, 6, 7, 8, 9] (by kernel_rfl) (by kernel_rfl) ?_
  refine ps_k (o_qAt 14 0) (pT r 0) ?_
  refine ps_k (o_qAt 14 1) (pT r 0) ?_
  refine ps_k (o_qAt 14 2) (pT r 1) ?_
  refine ps_p (o_qAt 14 3) (.pointer (some ⟨A.g, 0, none⟩)) (exec_ld 54 (.tmp 20) r 1 Try.underlying54 (rc (h28) (by kernel_rfl))) ?_
  refine ps_k (o_qAt 14 4) (.int .i64 i) ?_
  refine ps_c (o_qAt 14 5) 31 #[.pointer (some ⟨A.g, 0, none⟩), .int .i64 i] Try.func31 ((gat_some _ p _ (H.keepsN K31).a hs).mono ?_)
  rintro e V33 ⟨rfl, kV33⟩
  refine ⟨_, rfl, ?_⟩
  have h34 := kV33.bk h28
  have h35 := kV33.bk h29
  have h36 := kV33.bk h30
  have K37 := K31.nn kV33
  have z38 := kV33.size
  refine ps_k (o_qAt 14 6) (pT p 0) ?_
  refine ps_p (o_qAt 14 7) (.agg (Att.c a)) (exec_load_row 28 (.tmp 24) (by kernel_rfl) p (by kernel_rfl) _ _ (0, 0) _ (h35) Try.underlying28 rfl (by rw [Att.c_size _ ha.r]; kernel_rfl)) ?_
  obtain ⟨V39, eV39, kV39⟩ := rowset_step V33 g ((Att.c a))
  have h40 : V39.heap[g]? = some (.cells (Att.c a) 28 (0, 0)) := eV39 ▸ setRow_heap _ _ _ _ _ _ h36
  refine ps_s (o_qAt 14 8) (w' := V39) (by rw [← eV39]; exact exec_store_row 28 (.tmp 4) (.tmp 25) (by kernel_rfl) g ((Att.c a)) (by kernel_rfl) (by kernel_rfl) 28 (#[.int .i64 0, .int .i64 0, .int .i64 0, .int .u8 0, .int .u8 0, .int .u8 0, .int .u8 0, .int .u8 0, .int .u8 0, .int .u8 0, .int .u8 0, .int .u8 0, .int .u8 0, .int .u8 0, .int .u8 0, .int .u8 0, .int .u8 0, .int .u8 0, .int .u8 0, .int .u8 0, .int .u8 0, .int .u8 0, .int .u8 0, .int .u8 0, .int .u8 0, .int .u8 0, .int .u8 0, .int .u8 0, .int .u8 0, .int .u8 0, .int .u8 0, .int .u8 0, .int .u8 0, .int .u8 0, .int .u8 0, .int .u64 0]) h36 (by rw [Att.c_size _ ha.r]; kernel_rfl) (by rw [Att.c_size _ ha.r]; rfl) (Att.c_one _)) ?_
  clear eV39
  have h41 := kV39.bo h34 (by omega)
  have h42 := kV39.bo h35 (by omega)
  have K43 := K37.no kV39 (by omega)
  have z44 := kV39.size
  refine ps_k (o_qAt 14 9) (.bool true) ?_
  refine ps_end ?_
  refine then_n ?_
  refine sy_ret (by kernel_rfl) ?_
  refine sy_out (.tuple #[.agg (Att.c a), .bool true]) rfl (results_row_tmp (p := 4) (q := 5) (ty := 28) (by kernel_rfl) _ _ g 28 (Att.c a) (0, 0) _ (.bool true) (by kernel_rfl) h40 Try.underlying28 rfl (by rw [Att.c_size _ ha.r]; kernel_rfl) (by kernel_rfl)) ?_
  exact ⟨rfl, K43⟩
theorem qAt_ok (r : Nat) (v : Int) (A : RD Att) (B : RD Pro) (i : Int) (w : World) (H : RecAt w r v A B) : Calls Try.prog 8 #[.pointer (some ⟨r, 0, none⟩), .int .i64 i] w fun e w' => e = .returned (.tuple #[.agg (Att.c ((A.V i).getD zAtt)), .bool (A.V i).isSome]) ∧ Keeps Nob w w' := by
  rcases H.a.none_or i with ⟨hv, hs⟩ | ⟨a, p, hv, hs, hp, _, _, _, ha⟩
  · rw [hv]; exact qAt_no r v A B i w H hs
  · rw [hv]; exact qAt_yes r v A B i a p w H ha hs hp
set_option maxRecDepth 100000 in
set_option maxHeartbeats 4000000 in
theorem qAt_none (u : Value) (i : Int) (w : World) (H : NoRec w u) :
    Calls Try.prog 8 #[u, .int .i64 i] w (fun e w' => e = .returned (.tuple #[.agg (Att.c zAtt), .bool false]) ∧ Keeps Nob w w') := by
  have K0 : Keeps Nob w w := Keeps.refl _ _
  refine sy_enter (part_qAt 1) ⟨#[u, .int .i64 i, undef, undef, undef, undef, undef, undef, undef, undef, undef, undef, undef, undef, undef, undef, undef, undef, undef, undef, undef, undef, undef, undef, undef, undef], []⟩ Try.func8 (by kernel_rfl) (by kernel_rfl) ?_
  refine sy_sq (part_qAt 2) (part_qAt 3) ?_
  refine sy_reg ?_
  refine rg_plain 0 (opsAt (part_qAt 2)) [0, 1] (by kernel_rfl) (by kernel_rfl) ?_
  obtain ⟨V45, eV45, g, eg, h46, kV45⟩ := alloc_step w (#[.int .i64 0, .int .i64 0, .int .i64 0, .int .u8 0, .int .u8 0, .int .u8 0, .int .u8 0, .int .u8 0, .int .u8 0, .int .u8 0, .int .u8 0, .int .u8 0, .int .u8 0, .int .u8 0, .int .u8 0, .int .u8 0, .int .u8 0, .int .u8 0, .int .u8 0, .int .u8 0, .int .u8 0, .int .u8 0, .int .u8 0, .int .u8 0, .int .u8 0, .int .u8 0, .int .u8 0, .int .u8 0, .int .u8 0, .int .u8 0, .int .u8 0, .int .u8 0, .int .u8 0, .int .u8 0, .int .u8 0, .int .u64 0]) 28
  have n47 : w.heap.size ≤ g := eg ▸ K0.size
  refine ps_r (o_qAt 2 0) (pT g 0) (w' := V45) (by rw [← eV45, ← eg]; exact exec_alloc0 28 (by kernel_rfl) (.agg (#[.int .i64 0, .int .i64 0, .int .i64 0, .int .u8 0, .int .u8 0, .int .u8 0, .int .u8 0, .int .u8 0, .int .u8 0, .int .u8 0, .int .u8 0, .int .u8 0, .int .u8 0, .int .u8 0, .int .u8 0, .int .u8 0, .int .u8 0, .int .u8 0, .int .u8 0, .int .u8 0, .int .u8 0, .int .u8 0, .int .u8 0, .int .u8 0, .int .u8 0, .int .u8 0, .int .u8 0, .int .u8 0, .int .u8 0, .int .u8 0, .int .u8 0, .int .u8 0, .int .u8 0, .int .u8 0, .int .u8 0, .int .u64 0])) (by kernel_rfl)) ?_
  clear eV45
  have K48 := K0.nn kV45
  have z49 := kV45.size
  refine ps_k (o_qAt 2 1) (.bool false) ?_
  refine ps_end ?_
  refine then_n ?_
  refine sy_sq (part_qAt 6) (part_qAt 7) ?_
  refine sy_sq (part_qAt 12) (part_qAt 13) ?_
  refine sy_reg ?_
  refine rg_plain 1 (opsAt (part_qAt 12)) [0, 1, 2, 3, 4, 5, 6, 7, 8, 9, 10] (by kernel_rfl) (by kernel_rfl) ?_
  refine ps_k (o_qAt 12 0) (u) ?_
  refine ps_c (o_qAt 12 1) 30 #[u] Try.func30 ((qnone_none u _ (H.keepsN K48)).mono ?_)
  rintro e w1 ⟨rfl, rfl⟩
  refine ⟨_, rfl, ?_⟩
  refine ps_k (o_qAt 12 2) (.bool true) ?_
  refine ps_n (o_qAt 12 3) ?_
  refine ps_n (o_qAt 12 4) ?_
  refine ps_n (o_qAt 12 5) ?_
  refine ps_n (o_qAt 12 6) ?_
  refine ps_n (o_qAt 12 7) ?_
  refine ps_n (o_qAt 12 8) ?_
  refine ps_n (o_qAt 12 9) ?_
  refine ps_k (o_qAt 12 10) (.bool true) ?_
  refine ps_end ?_
  refine then_n ?_
  refine sy_ys (.tmp 16) (part_qAt 26) (part_qAt 27) ?_
  refine sy_sq (part_qAt 52) (part_qAt 53) ?_
  refine sy_reg ?_
  refine rg_plain 2 (opsAt (part_qAt 52)) [0, 1, 2] (by kernel_rfl) (by kernel_rfl) ?_
  refine ps_k (o_qAt 52 0) (.agg (Att.c zAtt)) ?_
  obtain ⟨V50, eV50, kV50⟩ := rowset_step V45 g ((Att.c zAtt))
  have h51 : V50.heap[g]? = some (.cells (Att.c zAtt) 28 (0, 0)) := eV50 ▸ setRow_heap _ _ _ _ _ _ h46
  refine ps_s (o_qAt 52 1) (w' := V50) (by rw [← eV50]; exact exec_store_row 28 (.tmp 4) (.tmp 17) (by kernel_rfl) g ((Att.c zAtt)) (by kernel_rfl) (by kernel_rfl) 28 (#[.int .i64 0, .int .i64 0, .int .i64 0, .int .u8 0, .int .u8 0, .int .u8 0, .int .u8 0, .int .u8 0, .int .u8 0, .int .u8 0, .int .u8 0, .int .u8 0, .int .u8 0, .int .u8 0, .int .u8 0, .int .u8 0, .int .u8 0, .int .u8 0, .int .u8 0, .int .u8 0, .int .u8 0, .int .u8 0, .int .u8 0, .int .u8 0, .int .u8 0, .int .u8 0, .int .u8 0, .int .u8 0, .int .u8 0, .int .u8 0, .int .u8 0, .int .u8 0, .int .u8 0, .int .u8 0, .int .u8 0, .int .u64 0]) h46 (by rw [Att.c_size _ zAtt_ok.r]; kernel_rfl) (by rw [Att.c_size _ zAtt_ok.r]; rfl) (Att.c_one _)) ?_
  clear eV50
  have K52 := K48.no kV50 (by omega)
  have z53 := kV50.size
  refine ps_k (o_qAt 52 2) (.bool false) ?_
  refine ps_end ?_
  refine then_n ?_
  refine sy_ret (by kernel_rfl) ?_
  refine then_r ?_
  refine sy_out (.tuple #[.agg (Att.c zAtt), .bool false]) rfl (results_row_tmp (p := 4) (q := 5) (ty := 28) (by kernel_rfl) _ _ g 28 (Att.c zAtt) (0, 0) _ (.bool false) (by kernel_rfl) h51 Try.underlying28 rfl (by rw [Att.c_size _ zAtt_ok.r]; kernel_rfl) (by kernel_rfl)) ?_
  exact ⟨rfl, K52⟩
noncomputable def part_qBlock (n : Nat) : Code := partOf Try.f11 n
noncomputable abbrev o_qBlock (n k : Nat) : Oper := (opsAt (part_qBlock n)).getD k default
set_option maxRecDepth 100000 in
set_option maxHeartbeats 4000000 in
theorem qBlock_no (r : Nat) (v : Int) (A : RD Att) (B : RD Pro) (i : Int) (w : World) (H : RecAt w r v A B) (hs : slotOf B i = none) :
    Calls Try.prog 11 #[.pointer (some ⟨r, 0, none⟩), .int .i64 i] w (fun e w' => e = .returned (.tuple #[.agg (Pro.c zPro), .bool false]) ∧ Keeps Nob w w') := by
  have K0 : Keeps Nob w w := Keeps.refl _ _
  refine sy_enter (part_qBlock 1) ⟨#[pT r 0, .int .i64 i, undef, undef, undef, undef, undef, undef, undef, undef, undef, undef, undef, undef, undef, undef, undef, undef, undef, undef, undef, undef, undef, undef, undef, undef], []⟩ Try.func11 (by kernel_rfl) (by kernel_rfl) ?_
  refine sy_sq (part_qBlock 2) (part_qBlock 3) ?_
  refine sy_reg ?_
  refine rg_plain 0 (opsAt (part_qBlock 2)) [0, 1] (by kernel_rfl) (by kernel_rfl) ?_
  obtain ⟨V1, eV1, g, eg, h2, kV1⟩ := alloc_step w (#[.int .i64 0, .int .i64 0, .int .u8 0, .int .u8 0, .int .u8 0, .int .u8 0, .int .u8 0, .int .u8 0, .int .u8 0, .int .u8 0, .int .u8 0, .int .u8 0, .int .u8 0, .int .u8 0, .int .u8 0, .int .u8 0, .int .u8 0, .int .u8 0, .int .u8 0, .int .u8 0, .int .u8 0, .int .u8 0, .int .u8 0, .int .u8 0, .int .u8 0, .int .u8 0, .int .u8 0, .int .u8 0, .int .u8 0, .int .u8 0, .int .u8 0, .int .u8 0, .int .u8 0, .int .u8 0, .int .u64 0]) 35
  have n3 : r < g := eg ▸ lt_of_block H.rec_
  have n4 : w.heap.size ≤ g := eg ▸ K0.size
  refine ps_r (o_qBlock 2 0) (pT g 0) (w' := V1) (by rw [← eV1, ← eg]; exact exec_alloc0 35 (by kernel_rfl) (.agg (#[.int .i64 0, .int .i64 0, .int .u8 0, .int .u8 0, .int .u8 0, .int .u8 0, .int .u8 0, .int .u8 0, .int .u8 0, .int .u8 0, .int .u8 0, .int .u8 0, .int .u8 0, .int .u8 0, .int .u8 0, .int .u8 0, .int .u8 0, .int .u8 0, .int .u8 0, .int .u8 0, .int .u8 0, .int .u8 0, .int .u8 0, .int .u8 0, .int .u8 0, .int .u8 0, .int .u8 0, .int .u8 0, .int .u8 0, .int .u8 0, .int .u8 0, .int .u8 0, .int .u8 0, .int .u8 0, .int .u64 0])) (by kernel_rfl)) ?_
  clear eV1
  have h5 := kV1.bk H.rec_
  have K6 := K0.nn kV1
  have z7 := kV1.size
  refine ps_k (o_qBlock 2 1) (.bool false) ?_
  refine ps_end ?_
  refine then_n ?_
  refine sy_sq (part_qBlock 6) (part_qBlock 7) ?_
  refine sy_sq (part_qBlock 12) (part_qBlock 13) ?_
  refine sy_reg ?_
  refine rg_plain 1 (opsAt (part_qBlock 12)) [0, 1, 2, 3, 4, 5, 6, 7, 8, 9, 10] (by kernel_rfl) (by kernel_rfl) ?_
  refine ps_k (o_qBlock 12 0) (pT r 0) ?_
  refine ps_c (o_qBlock 12 1) 30 #[pT r 0] Try.func30 ((qnone_rec r v A B _ (H.keepsN K6)).mono ?_)
  rintro e w1 ⟨rfl, rfl⟩
  refine ⟨_, rfl, ?_⟩
  refine ps_k (o_qBlock 12 2) (.bool false) ?_
  refine ps_k (o_qBlock 12 3) (pT r 0) ?_
  refine ps_k (o_qBlock 12 4) (pT r 0) ?_
  refine ps_k (o_qBlock 12 5) (pT r 2) ?_
  refine ps_p (o_qBlock 12 6) (.pointer (some ⟨B.g, 0, none⟩)) (exec_ld 55 (.tmp 11) r 2 Try.underlying55 (rc (h5) (by kernel_rfl))) ?_
  refine ps_k (o_qBlock 12 7) (.int .i64 i) ?_
  refine ps_c (o_qBlock 12 8) 35 #[.pointer (some ⟨B.g, 0, none⟩), .int .i64 i] Try.func35 ((gatB_none _ _ (H.keepsN K6).b hs).mono ?_)
  rintro e V8 ⟨rfl, kV8⟩
  refine ⟨_, rfl, ?_⟩
  have h9 := kV8.bk h5
  have h10 := kV8.bk h2
  have K11 := K6.nn kV8
  have z12 := kV8.size
  refine ps_k (o_qBlock 12 9) (.bool true) ?_
  refine ps_k (o_qBlock 12 10) (.bool true) ?_
  refine ps_end ?_
  refine then_n ?_
  refine sy_ys (.tmp 16) (part_qBlock 26) (part_qBlock 27) ?_
  refine sy_sq (part_qBlock 52) (part_qBlock 53) ?_
  refine sy_reg ?_
  refine rg_plain 2 (opsAt (part_qBlock 52)) [0, 1, 2] (by kernel_rfl) (by kernel_rfl) ?_
  refine ps_k (o_qBlock 52 0) (.agg (Pro.c zPro)) ?_
  obtain ⟨V13, eV13, kV13⟩ := rowset_step V8 g ((Pro.c zPro))
  have h14 : V13.heap[g]? = some (.cells (Pro.c zPro) 35 (0, 0)) := eV13 ▸ setRow_heap _ _ _ _ _ _ h10
  refine ps_s (o_qBlock 52 1) (w' := V13) (by rw [← eV13]; exact exec_store_row 35 (.tmp 4) (.tmp 17) (by kernel_rfl) g ((Pro.c zPro)) (by kernel_rfl) (by kernel_rfl) 35 (#[.int .i64 0, .int .i64 0, .int .u8 0, .int .u8 0, .int .u8 0, .int .u8 0, .int .u8 0, .int .u8 0, .int .u8 0, .int .u8 0, .int .u8 0, .int .u8 0, .int .u8 0, .int .u8 0, .int .u8 0, .int .u8 0, .int .u8 0, .int .u8 0, .int .u8 0, .int .u8 0, .int .u8 0, .int .u8 0, .int .u8 0, .int .u8 0, .int .u8 0, .int .u8 0, .int .u8 0, .int .u8 0, .int .u8 0, .int .u8 0, .int .u8 0, .int .u8 0, .int .u8 0, .int .u8 0, .int .u64 0]) h10 (by rw [Pro.c_size _ zPro_ok.r]; kernel_rfl) (by rw [Pro.c_size _ zPro_ok.r]; rfl) (Pro.c_one _)) ?_
  clear eV13
  have h15 := kV13.bo h9 (by omega)
  have K16 := K11.no kV13 (by omega)
  have z17 := kV13.size
  refine ps_k (o_qBlock 52 2) (.bool false) ?_
  refine ps_end ?_
  refine then_n ?_
  refine sy_ret (by kernel_rfl) ?_
  refine then_r ?_
  refine sy_out (.tuple #[.agg (Pro.c zPro), .bool false]) rfl (results_row_tmp (p := 4) (q := 5) (ty := 35) (by kernel_rfl) _ _ g 35 (Pro.c zPro) (0, 0) _ (.bool false) (by kernel_rfl) h14 Try.underlying35 rfl (by rw [Pro.c_size _ zPro_ok.r]; kernel_rfl) (by kernel_rfl)) ?_
  exact ⟨rfl, K16⟩
set_option maxRecDepth 100000 in
set_option maxHeartbeats 4000000 in
theorem qBlock_yes (r : Nat) (v : Int) (A : RD Att) (B : RD Pro) (i : Int) (a : Pro) (p : Nat) (w : World) (H : RecAt w r v A B) (ha : a.Ok) (hs : slotOf B i = some p) (hp : w.heap[p]? = some (.cells (Pro.c a) 35 (0, 0))) :
    Calls Try.prog 11 #[.pointer (some ⟨r, 0, none⟩), .int .i64 i] w (fun e w' => e = .returned (.tuple #[.agg (Pro.c a), .bool true]) ∧ Keeps Nob w w') := by
  have K0 : Keeps Nob w w := Keeps.refl _ _
  refine sy_enter (part_qBlock 1) ⟨#[pT r 0, .int .i64 i, undef, undef, undef, undef, undef, undef, undef, undef, undef, undef, undef, undef, undef, undef, undef, undef, undef, undef, undef, undef, undef, undef, undef, undef], []⟩ Try.func11 (by kernel_rfl) (by kernel_rfl) ?_
  refine sy_sq (part_qBlock 2) (part_qBlock 3) ?_
  refine sy_reg ?_
  refine rg_plain 0 (opsAt (part_qBlock 2)) [0, 1] (by kernel_rfl) (by kernel_rfl) ?_
  obtain ⟨V18, eV18, g, eg, h19, kV18⟩ := alloc_step w (#[.int .i64 0, .int .i64 0, .int .u8 0, .int .u8 0, .int .u8 0, .int .u8 0, .int .u8 0, .int .u8 0, .int .u8 0, .int .u8 0, .int .u8 0, .int .u8 0, .int .u8 0, .int .u8 0, .int .u8 0, .int .u8 0, .int .u8 0, .int .u8 0, .int .u8 0, .int .u8 0, .int .u8 0, .int .u8 0, .int .u8 0, .int .u8 0, .int .u8 0, .int .u8 0, .int .u8 0, .int .u8 0, .int .u8 0, .int .u8 0, .int .u8 0, .int .u8 0, .int .u8 0, .int .u8 0, .int .u64 0]) 35
  have n20 : r < g := eg ▸ lt_of_block H.rec_
  have n21 : p < g := eg ▸ lt_of_block hp
  have n22 : w.heap.size ≤ g := eg ▸ K0.size
  refine ps_r (o_qBlock 2 0) (pT g 0) (w' := V18) (by rw [← eV18, ← eg]; exact exec_alloc0 35 (by kernel_rfl) (.agg (#[.int .i64 0, .int .i64 0, .int .u8 0, .int .u8 0, .int .u8 0, .int .u8 0, .int .u8 0, .int .u8 0, .int .u8 0, .int .u8 0, .int .u8 0, .int .u8 0, .int .u8 0, .int .u8 0, .int .u8 0, .int .u8 0, .int .u8 0, .int .u8 0, .int .u8 0, .int .u8 0, .int .u8 0, .int .u8 0, .int .u8 0, .int .u8 0, .int .u8 0, .int .u8 0, .int .u8 0, .int .u8 0, .int .u8 0, .int .u8 0, .int .u8 0, .int .u8 0, .int .u8 0, .int .u8 0, .int .u64 0])) (by kernel_rfl)) ?_
  clear eV18
  have h23 := kV18.bk H.rec_
  have h24 := kV18.bk hp
  have K25 := K0.nn kV18
  have z26 := kV18.size
  refine ps_k (o_qBlock 2 1) (.bool false) ?_
  refine ps_end ?_
  refine then_n ?_
  refine sy_sq (part_qBlock 6) (part_qBlock 7) ?_
  refine sy_sq (part_qBlock 12) (part_qBlock 13) ?_
  refine sy_reg ?_
  refine rg_plain 1 (opsAt (part_qBlock 12)) [0, 1, 2, 3, 4, 5, 6, 7, 8, 9, 10] (by kernel_rfl) (by kernel_rfl) ?_
  refine ps_k (o_qBlock 12 0) (pT r 0) ?_
  refine ps_c (o_qBlock 12 1) 30 #[pT r 0] Try.func30 ((qnone_rec r v A B _ (H.keepsN K25)).mono ?_)
  rintro e w1 ⟨rfl, rfl⟩
  refine ⟨_, rfl, ?_⟩
  refine ps_k (o_qBlock 12 2) (.bool false) ?_
  refine ps_k (o_qBlock 12 3) (pT r 0) ?_
  refine ps_k (o_qBlock 12 4) (pT r 0) ?_
  refine ps_k (o_qBlock 12 5) (pT r 2) ?_
  refine ps_p (o_qBlock 12 6) (.pointer (some ⟨B.g, 0, none⟩)) (exec_ld 55 (.tmp 11) r 2 Try.underlying55 (rc (h23) (by kernel_rfl))) ?_
  refine ps_k (o_qBlock 12 7) (.int .i64 i) ?_
  refine ps_c (o_qBlock 12 8) 35 #[.pointer (some ⟨B.g, 0, none⟩), .int .i64 i] Try.func35 ((gatB_some _ p _ (H.keepsN K25).b hs).mono ?_)
  rintro e V27 ⟨rfl, kV27⟩
  refine ⟨_, rfl, ?_⟩
  have h28 := kV27.bk h23
  have h29 := kV27.bk h24
  have h30 := kV27.bk h19
  have K31 := K25.nn kV27
  have z32 := kV27.size
  refine ps_k (o_qBlock 12 9) (.bool false) ?_
  refine ps_k (o_qBlock 12 10) (.bool false) ?_
  refine ps_end ?_
  refine then_n ?_
  refine sy_n (.tmp 16) (part_qBlock 26) (part_qBlock 27) ?_
  refine sy_sk ?_
  refine then_n ?_
  refine sy_sq (part_qBlock 14) (part_qBlock 15) ?_
  refine sy_reg ?_
  refine rg_plain 3 (opsAt (part_qBlock 14)) [0, 1, 2, 3, 4, 5, 6, 7, 8, 9] (by kernel_rfl) (by kernel_rfl) ?_
  refine ps_k (o_qBlock 14 0) (pT r 0) ?_
  refine ps_k (o_qBlock 14 1) (pT r 0) ?_
  refine ps_k (o_qBlock 14 2) (pT r 2) ?_
  refine ps_p (o_qBlock 14 3) (.pointer (some ⟨B.g, 0, none⟩)) (exec_ld 55 (.tmp 20) r 2 Try.underlying55 (rc (h28) (by kernel_rfl))) ?_
  refine ps_k (o_qBlock 14 4) (.int .i64 i) ?_
  refine ps_c (o_qBlock 14 5) 35 #[.pointer (some ⟨B.g, 0, none⟩), .int .i64 i] Try.func35 ((gatB_some _ p _ (H.keepsN K31).b hs).mono ?_)
  rintro e V33 ⟨rfl, kV33⟩
  refine ⟨_, rfl, ?_⟩
  have h34 := kV33.bk h28
  have h35 := kV33.bk h29
  have h36 := kV33.bk h30
  have K37 := K31.nn kV33
  have z38 := kV33.size
  refine ps_k (o_qBlock 14 6) (pT p 0) ?_
  refine ps_p (o_qBlock 14 7) (.agg (Pro.c a)) (exec_load_row 35 (.tmp 24) (by kernel_rfl) p (by kernel_rfl) _ _ (0, 0) _ (h35) Try.underlying35 rfl (by rw [Pro.c_size _ ha.r]; kernel_rfl)) ?_
  obtain ⟨V39, eV39, kV39⟩ := rowset_step V33 g ((Pro.c a))
  have h40 : V39.heap[g]? = some (.cells (Pro.c a) 35 (0, 0)) := eV39 ▸ setRow_heap _ _ _ _ _ _ h36
  refine ps_s (o_qBlock 14 8) (w' := V39) (by rw [← eV39]; exact exec_store_row 35 (.tmp 4) (.tmp 25) (by kernel_rfl) g ((Pro.c a)) (by kernel_rfl) (by kernel_rfl) 35 (#[.int .i64 0, .int .i64 0, .int .u8 0, .int .u8 0, .int .u8 0, .int .u8 0, .int .u8 0, .int .u8 0, .int .u8 0, .int .u8 0, .int .u8 0, .int .u8 0, .int .u8 0, .int .u8 0, .int .u8 0, .int .u8 0, .int .u8 0, .int .u8 0, .int .u8 0, .int .u8 0, .int .u8 0, .int .u8 0, .int .u8 0, .int .u8 0, .int .u8 0, .int .u8 0, .int .u8 0, .int .u8 0, .int .u8 0, .int .u8 0, .int .u8 0, .int .u8 0, .int .u8 0, .int .u8 0, .int .u64 0]) h36 (by rw [Pro.c_size _ ha.r]; kernel_rfl) (by rw [Pro.c_size _ ha.r]; rfl) (Pro.c_one _)) ?_
  clear eV39
  have h41 := kV39.bo h34 (by omega)
  have h42 := kV39.bo h35 (by omega)
  have K43 := K37.no kV39 (by omega)
  have z44 := kV39.size
  refine ps_k (o_qBlock 14 9) (.bool true) ?_
  refine ps_end ?_
  refine then_n ?_
  refine sy_ret (by kernel_rfl) ?_
  refine sy_out (.tuple #[.agg (Pro.c a), .bool true]) rfl (results_row_tmp (p := 4) (q := 5) (ty := 35) (by kernel_rfl) _ _ g 35 (Pro.c a) (0, 0) _ (.bool true) (by kernel_rfl) h40 Try.underlying35 rfl (by rw [Pro.c_size _ ha.r]; kernel_rfl) (by kernel_rfl)) ?_
  exact ⟨rfl, K43⟩
theorem qBlock_ok (r : Nat) (v : Int) (A : RD Att) (B : RD Pro) (i : Int) (w : World) (H : RecAt w r v A B) : Calls Try.prog 11 #[.pointer (some ⟨r, 0, none⟩), .int .i64 i] w fun e w' => e = .returned (.tuple #[.agg (Pro.c ((B.V i).getD zPro)), .bool (B.V i).isSome]) ∧ Keeps Nob w w' := by
  rcases H.b.none_or i with ⟨hv, hs⟩ | ⟨a, p, hv, hs, hp, _, _, _, ha⟩
  · rw [hv]; exact qBlock_no r v A B i w H hs
  · rw [hv]; exact qBlock_yes r v A B i a p w H ha hs hp
set_option maxRecDepth 100000 in
set_option maxHeartbeats 4000000 in
theorem qBlock_none (u : Value) (i : Int) (w : World) (H : NoRec w u) :
    Calls Try.prog 11 #[u, .int .i64 i] w (fun e w' => e = .returned (.tuple #[.agg (Pro.c zPro), .bool false]) ∧ Keeps Nob w w') := by
  have K0 : Keeps Nob w w := Keeps.refl _ _
  refine sy_enter (part_qBlock 1) ⟨#[u, .int .i64 i, undef, undef, undef, undef, undef, undef, undef, undef, undef, undef, undef, undef, undef, undef, undef, undef, undef, undef, undef, undef, undef, undef, undef, undef], []⟩ Try.func11 (by kernel_rfl) (by kernel_rfl) ?_
  refine sy_sq (part_qBlock 2) (part_qBlock 3) ?_
  refine sy_reg ?_
  refine rg_plain 0 (opsAt (part_qBlock 2)) [0, 1] (by kernel_rfl) (by kernel_rfl) ?_
  obtain ⟨V45, eV45, g, eg, h46, kV45⟩ := alloc_step w (#[.int .i64 0, .int .i64 0, .int .u8 0, .int .u8 0, .int .u8 0, .int .u8 0, .int .u8 0, .int .u8 0, .int .u8 0, .int .u8 0, .int .u8 0, .int .u8 0, .int .u8 0, .int .u8 0, .int .u8 0, .int .u8 0, .int .u8 0, .int .u8 0, .int .u8 0, .int .u8 0, .int .u8 0, .int .u8 0, .int .u8 0, .int .u8 0, .int .u8 0, .int .u8 0, .int .u8 0, .int .u8 0, .int .u8 0, .int .u8 0, .int .u8 0, .int .u8 0, .int .u8 0, .int .u8 0, .int .u64 0]) 35
  have n47 : w.heap.size ≤ g := eg ▸ K0.size
  refine ps_r (o_qBlock 2 0) (pT g 0) (w' := V45) (by rw [← eV45, ← eg]; exact exec_alloc0 35 (by kernel_rfl) (.agg (#[.int .i64 0, .int .i64 0, .int .u8 0, .int .u8 0, .int .u8 0, .int .u8 0, .int .u8 0, .int .u8 0, .int .u8 0, .int .u8 0, .int .u8 0, .int .u8 0, .int .u8 0, .int .u8 0, .int .u8 0, .int .u8 0, .int .u8 0, .int .u8 0, .int .u8 0, .int .u8 0, .int .u8 0, .int .u8 0, .int .u8 0, .int .u8 0, .int .u8 0, .int .u8 0, .int .u8 0, .int .u8 0, .int .u8 0, .int .u8 0, .int .u8 0, .int .u8 0, .int .u8 0, .int .u8 0, .int .u64 0])) (by kernel_rfl)) ?_
  clear eV45
  have K48 := K0.nn kV45
  have z49 := kV45.size
  refine ps_k (o_qBlock 2 1) (.bool false) ?_
  refine ps_end ?_
  refine then_n ?_
  refine sy_sq (part_qBlock 6) (part_qBlock 7) ?_
  refine sy_sq (part_qBlock 12) (part_qBlock 13) ?_
  refine sy_reg ?_
  refine rg_plain 1 (opsAt (part_qBlock 12)) [0, 1, 2, 3, 4, 5, 6, 7, 8, 9, 10] (by kernel_rfl) (by kernel_rfl) ?_
  refine ps_k (o_qBlock 12 0) (u) ?_
  refine ps_c (o_qBlock 12 1) 30 #[u] Try.func30 ((qnone_none u _ (H.keepsN K48)).mono ?_)
  rintro e w1 ⟨rfl, rfl⟩
  refine ⟨_, rfl, ?_⟩
  refine ps_k (o_qBlock 12 2) (.bool true) ?_
  refine ps_n (o_qBlock 12 3) ?_
  refine ps_n (o_qBlock 12 4) ?_
  refine ps_n (o_qBlock 12 5) ?_
  refine ps_n (o_qBlock 12 6) ?_
  refine ps_n (o_qBlock 12 7) ?_
  refine ps_n (o_qBlock 12 8) ?_
  refine ps_n (o_qBlock 12 9) ?_
  refine ps_k (o_qBlock 12 10) (.bool true) ?_
  refine ps_end ?_
  refine then_n ?_
  refine sy_ys (.tmp 16) (part_qBlock 26) (part_qBlock 27) ?_
  refine sy_sq (part_qBlock 52) (part_qBlock 53) ?_
  refine sy_reg ?_
  refine rg_plain 2 (opsAt (part_qBlock 52)) [0, 1, 2] (by kernel_rfl) (by kernel_rfl) ?_
  refine ps_k (o_qBlock 52 0) (.agg (Pro.c zPro)) ?_
  obtain ⟨V50, eV50, kV50⟩ := rowset_step V45 g ((Pro.c zPro))
  have h51 : V50.heap[g]? = some (.cells (Pro.c zPro) 35 (0, 0)) := eV50 ▸ setRow_heap _ _ _ _ _ _ h46
  refine ps_s (o_qBlock 52 1) (w' := V50) (by rw [← eV50]; exact exec_store_row 35 (.tmp 4) (.tmp 17) (by kernel_rfl) g ((Pro.c zPro)) (by kernel_rfl) (by kernel_rfl) 35 (#[.int .i64 0, .int .i64 0, .int .u8 0, .int .u8 0, .int .u8 0, .int .u8 0, .int .u8 0, .int .u8 0, .int .u8 0, .int .u8 0, .int .u8 0, .int .u8 0, .int .u8 0, .int .u8 0, .int .u8 0, .int .u8 0, .int .u8 0, .int .u8 0, .int .u8 0, .int .u8 0, .int .u8 0, .int .u8 0, .int .u8 0, .int .u8 0, .int .u8 0, .int .u8 0, .int .u8 0, .int .u8 0, .int .u8 0, .int .u8 0, .int .u8 0, .int .u8 0, .int .u8 0, .int .u8 0, .int .u64 0]) h46 (by rw [Pro.c_size _ zPro_ok.r]; kernel_rfl) (by rw [Pro.c_size _ zPro_ok.r]; rfl) (Pro.c_one _)) ?_
  clear eV50
  have K52 := K48.no kV50 (by omega)
  have z53 := kV50.size
  refine ps_k (o_qBlock 52 2) (.bool false) ?_
  refine ps_end ?_
  refine then_n ?_
  refine sy_ret (by kernel_rfl) ?_
  refine then_r ?_
  refine sy_out (.tuple #[.agg (Pro.c zPro), .bool false]) rfl (results_row_tmp (p := 4) (q := 5) (ty := 35) (by kernel_rfl) _ _ g 35 (Pro.c zPro) (0, 0) _ (.bool false) (by kernel_rfl) h51 Try.underlying35 rfl (by rw [Pro.c_size _ zPro_ok.r]; kernel_rfl) (by kernel_rfl)) ?_
  exact ⟨rfl, K52⟩
noncomputable def part_qNew (n : Nat) : Code := partOf Try.f18 n
noncomputable abbrev o_qNew (n k : Nat) : Oper := (opsAt (part_qNew n)).getD k default
set_option maxRecDepth 100000 in
set_option maxHeartbeats 4000000 in
theorem qNew_bad0 (v win blk : Int) (w : World) (g0 : v < 0) :
    Calls Try.prog 18 #[.int .i64 v, .int .i64 win, .int .i64 blk] w (fun e w' => e = .returned (.tuple #[.pointer none, .int .i64 3]) ∧ Keeps Nob w w') := by
  have K0 : Keeps Nob w w := Keeps.refl _ _
  refine sy_enter (part_qNew 1) ⟨#[.int .i64 v, .int .i64 win, .int .i64 blk, undef, undef, undef, undef, undef, undef, undef, undef, undef, undef, undef, undef, undef, undef, undef, undef, undef, undef, undef, undef, undef, undef, undef, undef, undef, undef, undef, undef, undef, undef, undef, undef, undef, undef, undef, undef, undef, undef], []⟩ Try.func18 (by kernel_rfl) (by kernel_rfl) ?_
  refine sy_sq (part_qNew 2) (part_qNew 3) ?_
  refine sy_reg ?_
  refine rg_plain 0 (opsAt (part_qNew 2)) [0, 1] (by kernel_rfl) (by kernel_rfl) ?_
  refine ps_k (o_qNew 2 0) (.pointer none) ?_
  refine ps_k (o_qNew 2 1) (.int .i64 0) ?_
  refine ps_end ?_
  refine then_n ?_
  refine sy_sq (part_qNew 6) (part_qNew 7) ?_
  refine sy_sq (part_qNew 12) (part_qNew 13) ?_
  refine sy_reg ?_
  refine rg_plain 1 (opsAt (part_qNew 12)) [0, 1, 2, 3, 4, 5, 6, 7, 8, 9, 10, 11, 12, 13, 14, 15, 16, 17, 18, 19, 20, 21] (by kernel_rfl) (by kernel_rfl) ?_
  refine ps_k (o_qNew 12 0) (.int .i64 v) ?_
  refine ps_p (o_qNew 12 1) (.bool true) (dct (((v) : Int) < ((0) : Int)) (by omega)) ?_
  refine ps_k (o_qNew 12 2) (.bool true) ?_
  refine ps_n (o_qNew 12 3) ?_
  refine ps_n (o_qNew 12 4) ?_
  refine ps_k (o_qNew 12 5) (.bool true) ?_
  refine ps_k (o_qNew 12 6) (.bool true) ?_
  refine ps_n (o_qNew 12 7) ?_
  refine ps_n (o_qNew 12 8) ?_
  refine ps_k (o_qNew 12 9) (.bool true) ?_
  refine ps_k (o_qNew 12 10) (.bool true) ?_
  refine ps_n (o_qNew 12 11) ?_
  refine ps_n (o_qNew 12 12) ?_
  refine ps_k (o_qNew 12 13) (.bool true) ?_
  refine ps_k (o_qNew 12 14) (.bool true) ?_
  refine ps_n (o_qNew 12 15) ?_
  refine ps_n (o_qNew 12 16) ?_
  refine ps_k (o_qNew 12 17) (.bool true) ?_
  refine ps_k (o_qNew 12 18) (.bool true) ?_
  refine ps_n (o_qNew 12 19) ?_
  refine ps_n (o_qNew 12 20) ?_
  refine ps_k (o_qNew 12 21) (.bool true) ?_
  refine ps_end ?_
  refine sy_a ⟨#[.int .i64 v, .int .i64 win, .int .i64 blk, undef, undef, undef, .pointer none, .int .i64 0, undef, undef, .int .i64 v, .bool true, .bool true, undef, undef, .bool true, .bool true, undef, undef, .bool true, .bool true, undef, undef, .bool true, .bool true, undef, undef, .bool true, .bool true, undef, undef, .bool true, undef, undef, undef, undef, undef, undef, undef, undef, undef], []⟩ ?_
  refine then_n ?_
  refine sy_ys (.tmp 31) (part_qNew 26) (part_qNew 27) ?_
  refine sy_sq (part_qNew 52) (part_qNew 53) ?_
  refine sy_reg ?_
  refine rg_plain 2 (opsAt (part_qNew 52)) [0, 1] (by kernel_rfl) (by kernel_rfl) ?_
  refine ps_k (o_qNew 52 0) (.pointer none) ?_
  refine ps_k (o_qNew 52 1) (.int .i64 3) ?_
  refine ps_end ?_
  refine then_n ?_
  refine sy_ret (by kernel_rfl) ?_
  refine then_r ?_
  refine sy_out (.tuple #[.pointer none, .int .i64 3]) rfl (by kernel_rfl) ?_
  exact ⟨rfl, K0⟩
set_option maxRecDepth 100000 in
set_option maxHeartbeats 4000000 in
theorem qNew_bad1 (v win blk : Int) (w : World) (g0 : ¬ v < 0) (g1 : v ≥ 32) :
    Calls Try.prog 18 #[.int .i64 v, .int .i64 win, .int .i64 blk] w (fun e w' => e = .returned (.tuple #[.pointer none, .int .i64 3]) ∧ Keeps Nob w w') := by
  have K0 : Keeps Nob w w := Keeps.refl _ _
  refine sy_enter (part_qNew 1) ⟨#[.int .i64 v, .int .i64 win, .int .i64 blk, undef, undef, undef, undef, undef, undef, undef, undef, undef, undef, undef, undef, undef, undef, undef, undef, undef, undef, undef, undef, undef, undef, undef, undef, undef, undef, undef, undef, undef, undef, undef, undef, undef, undef, undef, undef, undef, undef], []⟩ Try.func18 (by kernel_rfl) (by kernel_rfl) ?_
  refine sy_sq (part_qNew 2) (part_qNew 3) ?_
  refine sy_reg ?_
  refine rg_plain 0 (opsAt (part_qNew 2)) [0, 1] (by kernel_rfl) (by kernel_rfl) ?_
  refine ps_k (o_qNew 2 0) (.pointer none) ?_
  refine ps_k (o_qNew 2 1) (.int .i64 0) ?_
  refine ps_end ?_
  refine then_n ?_
  refine sy_sq (part_qNew 6) (part_qNew 7) ?_
  refine sy_sq (part_qNew 12) (part_qNew 13) ?_
  refine sy_reg ?_
  refine rg_plain 1 (opsAt (part_qNew 12)) [0, 1, 2, 3, 4, 5, 6, 7, 8, 9, 10, 11, 12, 13, 14, 15, 16, 17, 18, 19, 20, 21] (by kernel_rfl) (by kernel_rfl) ?_
  refine ps_k (o_qNew 12 0) (.int .i64 v) ?_
  refine ps_p (o_qNew 12 1) (.bool false) (dcf (((v) : Int) < ((0) : Int)) (by omega)) ?_
  refine ps_k (o_qNew 12 2) (.bool false) ?_
  refine ps_k (o_qNew 12 3) (.int .i64 v) ?_
  refine ps_p (o_qNew 12 4) (.bool true) (dct (((v) : Int) ≥ ((32) : Int)) (by omega)) ?_
  refine ps_k (o_qNew 12 5) (.bool true) ?_
  refine ps_k (o_qNew 12 6) (.bool true) ?_
  refine ps_n (o_qNew 12 7) ?_
  refine ps_n (o_qNew 12 8) ?_
  refine ps_k (o_qNew 12 9) (.bool true) ?_
  refine ps_k (o_qNew 12 10) (.bool true) ?_
  refine ps_n (o_qNew 12 11) ?_
  refine ps_n (o_qNew 12 12) ?_
  refine ps_k (o_qNew 12 13) (.bool true) ?_
  refine ps_k (o_qNew 12 14) (.bool true) ?_
  refine ps_n (o_qNew 12 15) ?_
  refine ps_n (o_qNew 12 16) ?_
  refine ps_k (o_qNew 12 17) (.bool true) ?_
  refine ps_k (o_qNew 12 18) (.bool true) ?_
  refine ps_n (o_qNew 12 19) ?_
  refine ps_n (o_qNew 12 20) ?_
  refine ps_k (o_qNew 12 21) (.bool true) ?_
  refine ps_end ?_
  refine sy_a ⟨#[.int .i64 v, .int .i64 win, .int .i64 blk, undef, undef, undef, .pointer none, .int .i64 0, undef, undef, .int .i64 v, .bool false, .bool false, .int .i64 v, .bool true, .bool true, .bool true, undef, undef, .bool true, .bool true, undef, undef, .bool true, .bool true, undef, undef, .bool true, .bool true, undef, undef, .bool true, undef, undef, undef, undef, undef, undef, undef, undef, undef], []⟩ ?_
  refine then_n ?_
  refine sy_ys (.tmp 31) (part_qNew 26) (part_qNew 27) ?_
  refine sy_sq (part_qNew 52) (part_qNew 53) ?_
  refine sy_reg ?_
  refine rg_plain 2 (opsAt (part_qNew 52)) [0, 1] (by kernel_rfl) (by kernel_rfl) ?_
  refine ps_k (o_qNew 52 0) (.pointer none) ?_
  refine ps_k (o_qNew 52 1) (.int .i64 3) ?_
  refine ps_end ?_
  refine then_n ?_
  refine sy_ret (by kernel_rfl) ?_
  refine then_r ?_
  refine sy_out (.tuple #[.pointer none, .int .i64 3]) rfl (by kernel_rfl) ?_
  exact ⟨rfl, K0⟩
set_option maxRecDepth 100000 in
set_option maxHeartbeats 4000000 in
theorem qNew_bad2 (v win blk : Int) (w : World) (g0 : ¬ v < 0) (g1 : ¬ v ≥ 32) (g2 : win < 1) :
    Calls Try.prog 18 #[.int .i64 v, .int .i64 win, .int .i64 blk] w (fun e w' => e = .returned (.tuple #[.pointer none, .int .i64 3]) ∧ Keeps Nob w w') := by
  have K0 : Keeps Nob w w := Keeps.refl _ _
  refine sy_enter (part_qNew 1) ⟨#[.int .i64 v, .int .i64 win, .int .i64 blk, undef, undef, undef, undef, undef, undef, undef, undef, undef, undef, undef, undef, undef, undef, undef, undef, undef, undef, undef, undef, undef, undef, undef, undef, undef, undef, undef, undef, undef, undef, undef, undef, undef, undef, undef, undef, undef, undef], []⟩ Try.func18 (by kernel_rfl) (by kernel_rfl) ?_
  refine sy_sq (part_qNew 2) (part_qNew 3) ?_
  refine sy_reg ?_
  refine rg_plain 0 (opsAt (part_qNew 2)) [0, 1] (by kernel_rfl) (by kernel_rfl) ?_
  refine ps_k (o_qNew 2 0) (.pointer none) ?_
  refine ps_k (o_qNew 2 1) (.int .i64 0) ?_
  refine ps_end ?_
  refine then_n ?_
  refine sy_sq (part_qNew 6) (part_qNew 7) ?_
  refine sy_sq (part_qNew 12) (part_qNew 13) ?_
  refine sy_reg ?_
  refine rg_plain 1 (opsAt (part_qNew 12)) [0, 1, 2, 3, 4, 5, 6, 7, 8, 9, 10, 11, 12, 13, 14, 15, 16, 17, 18, 19, 20, 21] (by kernel_rfl) (by kernel_rfl) ?_
  refine ps_k (o_qNew 12 0) (.int .i64 v) ?_
  refine ps_p (o_qNew 12 1) (.bool false) (dcf (((v) : Int) < ((0) : Int)) (by omega)) ?_
  refine ps_k (o_qNew 12 2) (.bool false) ?_
  refine ps_k (o_qNew 12 3) (.int .i64 v) ?_
  refine ps_p (o_qNew 12 4) (.bool false) (dcf (((v) : Int) ≥ ((32) : Int)) (by omega)) ?_
  refine ps_k (o_qNew 12 5) (.bool false) ?_
  refine ps_k (o_qNew 12 6) (.bool false) ?_
  refine ps_k (o_qNew 12 7) (.int .i64 win) ?_
  refine ps_p (o_qNew 12 8) (.bool true) (dct (((win) : Int) < ((1) : Int)) (by omega)) ?_
  refine ps_k (o_qNew 12 9) (.bool true) ?_
  refine ps_k (o_qNew 12 10) (.bool true) ?_
  refine ps_n (o_qNew 12 11) ?_
  refine ps_n (o_qNew 12 12) ?_
  refine ps_k (o_qNew 12 13) (.bool true) ?_
  refine ps_k (o_qNew 12 14) (.bool true) ?_
  refine ps_n (o_qNew 12 15) ?_
  refine ps_n (o_qNew 12 16) ?_
  refine ps_k (o_qNew 12 17) (.bool true) ?_
  refine ps_k (o_qNew 12 18) (.bool true) ?_
  refine ps_n (o_qNew 12 19) ?_
  refine ps_n (o_qNew 12 20) ?_
  refine ps_k (o_qNew 12 21) (.bool true) ?_
  refine ps_end ?_
  refine sy_a ⟨#[.int .i64 v, .int .i64 win, .int .i64 blk, undef, undef, undef, .pointer none, .int .i64 0, undef, undef, .int .i64 v, .bool false, .bool false, .int .i64 v, .bool false, .bool false, .bool false, .int .i64 win, .bool true, .bool true, .bool true, undef, undef, .bool true, .bool true, undef, undef, .bool true, .bool true, undef, undef, .bool true, undef, undef, undef, undef, undef, undef, undef, undef, undef], []⟩ ?_
  refine then_n ?_
  refine sy_ys (.tmp 31) (part_qNew 26) (part_qNew 27) ?_
  refine sy_sq (part_qNew 52) (part_qNew 53) ?_
  refine sy_reg ?_
  refine rg_plain 2 (opsAt (part_qNew 52)) [0, 1] (by kernel_rfl) (by kernel_rfl) ?_
  refine ps_k (o_qNew 52 0) (.pointer none) ?_
  refine ps_k (o_qNew 52 1) (.int .i64 3) ?_
  refine ps_end ?_
  refine then_n ?_
  refine sy_ret (by kernel_rfl) ?_
  refine then_r ?_
  refine sy_out (.tuple #[.pointer none, .int .i64 3]) rfl (by kernel_rfl) ?_
  exact ⟨rfl, K0⟩
set_option maxRecDepth 100000 in
set_option maxHeartbeats 4000000 in
theorem qNew_bad3 (v win blk : Int) (w : World) (g0 : ¬ v < 0) (g1 : ¬ v ≥ 32) (g2 : ¬ win < 1) (g3 : win > 256) :
    Calls Try.prog 18 #[.int .i64 v, .int .i64 win, .int .i64 blk] w (fun e w' => e = .returned (.tuple #[.pointer none, .int .i64 3]) ∧ Keeps Nob w w') := by
  have K0 : Keeps Nob w w := Keeps.refl _ _
  refine sy_enter (part_qNew 1) ⟨#[.int .i64 v, .int .i64 win, .int .i64 blk, undef, undef, undef, undef, undef, undef, undef, undef, undef, undef, undef, undef, undef, undef, undef, undef, undef, undef, undef, undef, undef, undef, undef, undef, undef, undef, undef, undef, undef, undef, undef, undef, undef, undef, undef, undef, undef, undef], []⟩ Try.func18 (by kernel_rfl) (by kernel_rfl) ?_
  refine sy_sq (part_qNew 2) (part_qNew 3) ?_
  refine sy_reg ?_
  refine rg_plain 0 (opsAt (part_qNew 2)) [0, 1] (by kernel_rfl) (by kernel_rfl) ?_
  refine ps_k (o_qNew 2 0) (.pointer none) ?_
  refine ps_k (o_qNew 2 1) (.int .i64 0) ?_
  refine ps_end ?_
  refine then_n ?_
  refine sy_sq (part_qNew 6) (part_qNew 7) ?_
  refine sy_sq (part_qNew 12) (part_qNew 13) ?_
  refine sy_reg ?_
  refine rg_plain 1 (opsAt (part_qNew 12)) [0, 1, 2, 3, 4, 5, 6, 7, 8, 9, 10, 11, 12, 13, 14, 15, 16, 17, 18, 19, 20, 21] (by kernel_rfl) (by kernel_rfl) ?_
  refine ps_k (o_qNew 12 0) (.int .i64 v) ?_
  refine ps_p (o_qNew 12 1) (.bool false) (dcf (((v) : Int) < ((0) : Int)) (by omega)) ?_
  refine ps_k (o_qNew 12 2) (.bool false) ?_
  refine ps_k (o_qNew 12 3) (.int .i64 v) ?_
  refine ps_p (o_qNew 12 4) (.bool false) (dcf (((v) : Int) ≥ ((32) : Int)) (by omega)) ?_
  refine ps_k (o_qNew 12 5) (.bool false) ?_
  refine ps_k (o_qNew 12 6) (.bool false) ?_
  refine ps_k (o_qNew 12 7) (.int .i64 win) ?_
  refine ps_p (o_qNew 12 8) (.bool false) (dcf (((win) : Int) < ((1) : Int)) (by omega)) ?_
  refine ps_k (o_qNew 12 9) (.bool false) ?_
  refine ps_k (o_qNew 12 10) (.bool false) ?_
  refine ps_k (o_qNew 12 11) (.int .i64 win) ?_
  refine ps_p (o_qNew 12 12) (.bool true) (dct (((win) : Int) > ((256) : Int)) (by omega)) ?_
  refine ps_k (o_qNew 12 13) (.bool true) ?_
  refine ps_k (o_qNew 12 14) (.bool true) ?_
  refine ps_n (o_qNew 12 15) ?_
  refine ps_n (o_qNew 12 16) ?_
  refine ps_k (o_qNew 12 17) (.bool true) ?_
  refine ps_k (o_qNew 12 18) (.bool true) ?_
  refine ps_n (o_qNew 12 19) ?_
  refine ps_n (o_qNew 12 20) ?_
  refine ps_k (o_qNew 12 21) (.bool true) ?_
  refine ps_end ?_
  refine sy_a ⟨#[.int .i64 v, .int .i64 win, .int .i64 blk, undef, undef, undef, .pointer none, .int .i64 0, undef, undef, .int .i64 v, .bool false, .bool false, .int .i64 v, .bool false, .bool false, .bool false, .int .i64 win, .bool false, .bool false, .bool false, .int .i64 win, .bool true, .bool true, .bool true, undef, undef, .bool true, .bool true, undef, undef, .bool true, undef, undef, undef, undef, undef, undef, undef, undef, undef], []⟩ ?_
  refine then_n ?_
  refine sy_ys (.tmp 31) (part_qNew 26) (part_qNew 27) ?_
  refine sy_sq (part_qNew 52) (part_qNew 53) ?_
  refine sy_reg ?_
  refine rg_plain 2 (opsAt (part_qNew 52)) [0, 1] (by kernel_rfl) (by kernel_rfl) ?_
  refine ps_k (o_qNew 52 0) (.pointer none) ?_
  refine ps_k (o_qNew 52 1) (.int .i64 3) ?_
  refine ps_end ?_
  refine then_n ?_
  refine sy_ret (by kernel_rfl) ?_
  refine then_r ?_
  refine sy_out (.tuple #[.pointer none, .int .i64 3]) rfl (by kernel_rfl) ?_
  exact ⟨rfl, K0⟩
set_option maxRecDepth 100000 in
set_option maxHeartbeats 4000000 in
theorem qNew_bad4 (v win blk : Int) (w : World) (g0 : ¬ v < 0) (g1 : ¬ v ≥ 32) (g2 : ¬ win < 1) (g3 : ¬ win > 256) (g4 : blk < 1) :
    Calls Try.prog 18 #[.int .i64 v, .int .i64 win, .int .i64 blk] w (fun e w' => e = .returned (.tuple #[.pointer none, .int .i64 3]) ∧ Keeps Nob w w') := by
  have K0 : Keeps Nob w w := Keeps.refl _ _
  refine sy_enter (part_qNew 1) ⟨#[.int .i64 v, .int .i64 win, .int .i64 blk, undef, undef, undef, undef, undef, undef, undef, undef, undef, undef, undef, undef, undef, undef, undef, undef, undef, undef, undef, undef, undef, undef, undef, undef, undef, undef, undef, undef, undef, undef, undef, undef, undef, undef, undef, undef, undef, undef], []⟩ Try.func18 (by kernel_rfl) (by kernel_rfl) ?_
  refine sy_sq (part_qNew 2) (part_qNew 3) ?_
  refine sy_reg ?_
  refine rg_plain 0 (opsAt (part_qNew 2)) [0, 1] (by kernel_rfl) (by kernel_rfl) ?_
  refine ps_k (o_qNew 2 0) (.pointer none) ?_
  refine ps_k (o_qNew 2 1) (.int .i64 0) ?_
  refine ps_end ?_
  refine then_n ?_
  refine sy_sq (part_qNew 6) (part_qNew 7) ?_
  refine sy_sq (part_qNew 12) (part_qNew 13) ?_
  refine sy_reg ?_
  refine rg_plain 1 (opsAt (part_qNew 12)) [0, 1, 2, 3, 4, 5, 6, 7, 8, 9, 10, 11, 12, 13, 14, 15, 16, 17, 18, 19, 20, 21] (by kernel_rfl) (by kernel_rfl) ?_
  refine ps_k (o_qNew 12 0) (.int .i64 v) ?_
  refine ps_p (o_qNew 12 1) (.bool false) (dcf (((v) : Int) < ((0) : Int)) (by omega)) ?_
  refine ps_k (o_qNew 12 2) (.bool false) ?_
  refine ps_k (o_qNew 12 3) (.int .i64 v) ?_
  refine ps_p (o_qNew 12 4) (.bool false) (dcf (((v) : Int) ≥ ((32) : Int)) (by omega)) ?_
  refine ps_k (o_qNew 12 5) (.bool false) ?_
  refine ps_k (o_qNew 12 6) (.bool false) ?_
  refine ps_k (o_qNew 12 7) (.int .i64 win) ?_
  refine ps_p (o_qNew 12 8) (.bool false) (dcf (((win) : Int) < ((1) : Int)) (by omega)) ?_
  refine ps_k (o_qNew 12 9) (.bool false) ?_
  refine ps_k (o_qNew 12 10) (.bool false) ?_
  refine ps_k (o_qNew 12 11) (.int .i64 win) ?_
  refine ps_p (o_qNew 12 12) (.bool false) (dcf (((win) : Int) > ((256) : Int)) (by omega)) ?_
  refine ps_k (o_qNew 12 13) (.bool false) ?_
  refine ps_k (o_qNew 12 14) (.bool false) ?_
  refine ps_k (o_qNew 12 15) (.int .i64 blk) ?_
  refine ps_p (o_qNew 12 16) (.bool true) (dct (((blk) : Int) < ((1) : Int)) (by omega)) ?_
  refine ps_k (o_qNew 12 17) (.bool true) ?_
  refine ps_k (o_qNew 12 18) (.bool true) ?_
  refine ps_n (o_qNew 12 19) ?_
  refine ps_n (o_qNew 12 20) ?_
  refine ps_k (o_qNew 12 21) (.bool true) ?_
  refine ps_end ?_
  refine sy_a ⟨#[.int .i64 v, .int .i64 win, .int .i64 blk, undef, undef, undef, .pointer none, .int .i64 0, undef, undef, .int .i64 v, .bool false, .bool false, .int .i64 v, .bool false, .bool false, .bool false, .int .i64 win, .bool false, .bool false, .bool false, .int .i64 win, .bool false, .bool false, .bool false, .int .i64 blk, .bool true, .bool true, .bool true, undef, undef, .bool true, undef, undef, undef, undef, undef, undef, undef, undef, undef], []⟩ ?_
  refine then_n ?_
  refine sy_ys (.tmp 31) (part_qNew 26) (part_qNew 27) ?_
  refine sy_sq (part_qNew 52) (part_qNew 53) ?_
  refine sy_reg ?_
  refine rg_plain 2 (opsAt (part_qNew 52)) [0, 1] (by kernel_rfl) (by kernel_rfl) ?_
  refine ps_k (o_qNew 52 0) (.pointer none) ?_
  refine ps_k (o_qNew 52 1) (.int .i64 3) ?_
  refine ps_end ?_
  refine then_n ?_
  refine sy_ret (by kernel_rfl) ?_
  refine then_r ?_
  refine sy_out (.tuple #[.pointer none, .int .i64 3]) rfl (by kernel_rfl) ?_
  exact ⟨rfl, K0⟩
set_option maxRecDepth 100000 in
set_option maxHeartbeats 4000000 in
theorem qNew_bad5 (v win blk : Int) (w : World) (g0 : ¬ v < 0) (g1 : ¬ v ≥ 32) (g2 : ¬ win < 1) (g3 : ¬ win > 256) (g4 : ¬ blk < 1) (g5 : blk > 256000) :
    Calls Try.prog 18 #[.int .i64 v, .int .i64 win, .int .i64 blk] w (fun e w' => e = .returned (.tuple #[.pointer none, .int .i64 3]) ∧ Keeps Nob w w') := by
  have K0 : Keeps Nob w w := Keeps.refl _ _
  refine sy_enter (part_qNew 1) ⟨#[.int .i64 v, .int .i64 win, .int .i64 blk, undef, undef, undef, undef, undef, undef, undef, undef, undef, undef, undef, undef, undef, undef, undef, undef, undef, undef, undef, undef, undef, undef, undef, undef, undef, undef, undef, undef, undef, undef, undef, undef, undef, undef, undef, undef, undef, undef], []⟩ Try.func18 (by kernel_rfl) (by kernel_rfl) ?_
  refine sy_sq (part_qNew 2) (part_qNew 3) ?_
  refine sy_reg ?_
  refine rg_plain 0 (opsAt (part_qNew 2)) [0, 1] (by kernel_rfl) (by kernel_rfl) ?_
  refine ps_k (o_qNew 2 0) (.pointer none) ?_
  refine ps_k (o_qNew 2 1) (.int .i64 0) ?_
  refine ps_end ?_
  refine then_n ?_
  refine sy_sq (part_qNew 6) (part_qNew 7) ?_
  refine sy_sq (part_qNew 12) (part_qNew 13) ?_
  refine sy_reg ?_
  refine rg_plain 1 (opsAt (part_qNew 12)) [0, 1, 2, 3, 4, 5, 6, 7, 8, 9, 10, 11, 12, 13, 14, 15, 16, 17, 18, 19, 20, 21] (by kernel_rfl) (by kernel_rfl) ?_
  refine ps_k (o_qNew 12 0) (.int .i64 v) ?_
  refine ps_p (o_qNew 12 1) (.bool false) (dcf (((v) : Int) < ((0) : Int)) (by omega)) ?_
  refine ps_k (o_qNew 12 2) (.bool false) ?_
  refine ps_k (o_qNew 12 3) (.int .i64 v) ?_
  refine ps_p (o_qNew 12 4) (.bool false) (dcf (((v) : Int) ≥ ((32) : Int)) (by omega)) ?_
  refine ps_k (o_qNew 12 5) (.bool false) ?_
  refine ps_k (o_qNew 12 6) (.bool false) ?_
  refine ps_k (o_qNew 12 7) (.int .i64 win) ?_
  refine ps_p (o_qNew 12 8) (.bool false) (dcf (((win) : Int) < ((1) : Int)) (by omega)) ?_
  refine ps_k (o_qNew 12 9) (.bool false) ?_
  refine ps_k (o_qNew 12 10) (.bool false) ?_
  refine ps_k (o_qNew 12 11) (.int .i64 win) ?_
  refine ps_p (o_qNew 12 12) (.bool false) (dcf (((win) : Int) > ((256) : Int)) (by omega)) ?_
  refine ps_k (o_qNew 12 13) (.bool false) ?_
  refine ps_k (o_qNew 12 14) (.bool false) ?_
  refine ps_k (o_qNew 12 15) (.int .i64 blk) ?_
  refine ps_p (o_qNew 12 16) (.bool false) (dcf (((blk) : Int) < ((1) : Int)) (by omega)) ?_
  refine ps_k (o_qNew 12 17) (.bool false) ?_
  refine ps_k (o_qNew 12 18) (.bool false) ?_
  refine ps_k (o_qNew 12 19) (.int .i64 blk) ?_
  refine ps_p (o_qNew 12 20) (.bool true) (dct (((blk) : Int) > ((256000) : Int)) (by omega)) ?_
  refine ps_k (o_qNew 12 21) (.bool true) ?_
  refine ps_end ?_
  refine sy_a ⟨#[.int .i64 v, .int .i64 win, .int .i64 blk, undef, undef, undef, .pointer none, .int .i64 0, undef, undef, .int .i64 v, .bool false, .bool false, .int .i64 v, .bool false, .bool false, .bool false, .int .i64 win, .bool false, .bool false, .bool false, .int .i64 win, .bool false, .bool false, .bool false, .int .i64 blk, .bool false, .bool false, .bool false, .int .i64 blk, .bool true, .bool true, undef, undef, undef, undef, undef, undef, undef, undef, undef], []⟩ ?_
  refine then_n ?_
  refine sy_ys (.tmp 31) (part_qNew 26) (part_qNew 27) ?_
  refine sy_sq (part_qNew 52) (part_qNew 53) ?_
  refine sy_reg ?_
  refine rg_plain 2 (opsAt (part_qNew 52)) [0, 1] (by kernel_rfl) (by kernel_rfl) ?_
  refine ps_k (o_qNew 52 0) (.pointer none) ?_
  refine ps_k (o_qNew 52 1) (.int .i64 3) ?_
  refine ps_end ?_
  refine then_n ?_
  refine sy_ret (by kernel_rfl) ?_
  refine then_r ?_
  refine sy_out (.tuple #[.pointer none, .int .i64 3]) rfl (by kernel_rfl) ?_
  exact ⟨rfl, K0⟩
set_option maxRecDepth 100000 in
set_option maxHeartbeats 4000000 in
theorem qNew_fine (v : Int) (win blk : Nat) (w : World) (g0 : ¬ v < 0) (g1 : ¬ v ≥ 32) (g2 : ¬ win < 1) (g3 : ¬ win > 256) (g4 : ¬ blk < 1) (g5 : ¬ blk > 256000) :
    Calls Try.prog 18 #[.int .i64 v, .int .i64 ((win : Nat) : Int), .int .i64 ((blk : Nat) : Int)] w (fun e w' => ∃ r A B, e = .returned (.tuple #[.pointer (some ⟨r, 0, none⟩), .int .i64 0]) ∧ RecAt w' r v A B ∧ A.low = 0 ∧ A.n = win ∧ A.V = (fun _ => none) ∧ B.low = 1 ∧ B.n = blk ∧ B.V = (fun _ => none) ∧ (∀ j, FR A B j → w.heap.size ≤ j) ∧ w.heap.size ≤ r ∧ Keeps Nob w w') := by
  have K0 : Keeps Nob w w := Keeps.refl _ _
  refine sy_enter (part_qNew 1) ⟨#[.int .i64 v, iN win, iN blk, undef, undef, undef, undef, undef, undef, undef, undef, undef, undef, undef, undef, undef, undef, undef, undef, undef, undef, undef, undef, undef, undef, undef, undef, undef, undef, undef, undef, undef, undef, undef, undef, undef, undef, undef, undef, undef, undef], []⟩ Try.func18 (by kernel_rfl) (by kernel_rfl) ?_
  refine sy_sq (part_qNew 2) (part_qNew 3) ?_
  refine sy_reg ?_
  refine rg_plain 0 (opsAt (part_qNew 2)) [0, 1] (by kernel_rfl) (by kernel_rfl) ?_
  refine ps_k (o_qNew 2 0) (.pointer none) ?_
  refine ps_k (o_qNew 2 1) (.int .i64 0) ?_
  refine ps_end ?_
  refine then_n ?_
  refine sy_sq (part_qNew 6) (part_qNew 7) ?_
  refine sy_sq (part_qNew 12) (part_qNew 13) ?_
  refine sy_reg ?_
  refine rg_plain 1 (opsAt (part_qNew 12)) [0, 1, 2, 3, 4, 5, 6, 7, 8, 9, 10, 11, 12, 13, 14, 15, 16, 17, 18, 19, 20, 21] (by kernel_rfl) (by kernel_rfl) ?_
  refine ps_k (o_qNew 12 0) (.int .i64 v) ?_
  refine ps_p (o_qNew 12 1) (.bool false) (dcf (((v) : Int) < ((0) : Int)) (by omega)) ?_
  refine ps_k (o_qNew 12 2) (.bool false) ?_
  refine ps_k (o_qNew 12 3) (.int .i64 v) ?_
  refine ps_p (o_qNew 12 4) (.bool false) (dcf (((v) : Int) ≥ ((32) : Int)) (by omega)) ?_
  refine ps_k (o_qNew 12 5) (.bool false) ?_
  refine ps_k (o_qNew 12 6) (.bool false) ?_
  refine ps_k (o_qNew 12 7) (iN win) ?_
  refine ps_p (o_qNew 12 8) (.bool false) (dcf ((((win : Nat) : Int)) < ((1) : Int)) (by omega)) ?_
  refine ps_k (o_qNew 12 9) (.bool false) ?_
  refine ps_k (o_qNew 12 10) (.bool false) ?_
  refine ps_k (o_qNew 12 11) (iN win) ?_
  refine ps_p (o_qNew 12 12) (.bool false) (dcf ((((win : Nat) : Int)) > ((256) : Int)) (by omega)) ?_
  refine ps_k (o_qNew 12 13) (.bool false) ?_
  refine ps_k (o_qNew 12 14) (.bool false) ?_
  refine ps_k (o_qNew 12 15) (iN blk) ?_
  refine ps_p (o_qNew 12 16) (.bool false) (dcf ((((blk : Nat) : Int)) < ((1) : Int)) (by omega)) ?_
  refine ps_k (o_qNew 12 17) (.bool false) ?_
  refine ps_k (o_qNew 12 18) (.bool false) ?_
  refine ps_k (o_qNew 12 19) (iN blk) ?_
  refine ps_p (o_qNew 12 20) (.bool false) (dcf ((((blk : Nat) : Int)) > ((256000) : Int)) (by omega)) ?_
  refine ps_k (o_qNew 12 21) (.bool false) ?_
  refine ps_end ?_
  refine sy_a ⟨#[.int .i64 v, iN win, iN blk, undef, undef, undef, .pointer none, .int .i64 0, undef, undef, .int .i64 v, .bool false, .bool false, .int .i64 v, .bool false, .bool false, .bool false, iN win, .bool false, .bool false, .bool false, iN win, .bool false, .bool false, .bool false, iN blk, .bool false, .bool false, .bool false, iN blk, .bool false, .bool false, undef, undef, undef, undef, undef, undef, undef, undef, undef], []⟩ ?_
  refine then_n ?_
  refine sy_n (.tmp 31) (part_qNew 26) (part_qNew 27) ?_
  refine sy_sk ?_
  refine then_n ?_
  refine sy_sq (part_qNew 14) (part_qNew 15) ?_
  refine sy_reg ?_
  refine rg_plain 3 (opsAt (part_qNew 14)) [0] (by kernel_rfl) (by kernel_rfl) ?_
  refine ps_k (o_qNew 14 0) (.func (.func 41) #[] #[]) ?_
  refine ps_end ?_
  refine then_n ?_
  refine sy_sq (part_qNew 30) (part_qNew 31) ?_
  refine sy_reg ?_
  refine rg_plain 4 (opsAt (part_qNew 30)) [0] (by kernel_rfl) (by kernel_rfl) ?_
  refine ps_k (o_qNew 30 0) (.func (.func 42) #[] #[]) ?_
  refine ps_end ?_
  refine then_n ?_
  refine sy_sq (part_qNew 62) (part_qNew 63) ?_
  refine sy_reg ?_
  refine rg_plain 5 (opsAt (part_qNew 62)) [0, 1, 2, 3, 4, 5, 6, 7, 8, 9, 10] (by kernel_rfl) (by kernel_rfl) ?_
  refine ps_k (o_qNew 62 0) (.int .i64 v) ?_
  refine ps_k (o_qNew 62 1) (iN win) ?_
  refine ps_k (o_qNew 62 2) (.func (.func 41) #[] #[]) ?_
  refine ps_c (o_qNew 62 3) 43 #[iN win, .int .i64 0, .func (.func 41) #[] #[]] Try.func43 ((gmade_ok win 0 _ (by omega) (by omega) (by omega)).mono ?_)
  rintro e V1 ⟨ga, sa, rfl, hra, nga, nsa, kV1⟩
  have mga : w.heap.size ≤ ga := Nat.le_trans K0.size nga
  have msa : w.heap.size ≤ sa := Nat.le_trans K0.size nsa
  refine ⟨_, rfl, ?_⟩
  have K2 := K0.nn kV1
  have z3 := kV1.size
  refine ps_k (o_qNew 62 4) (iN blk) ?_
  refine ps_k (o_qNew 62 5) (.func (.func 42) #[] #[]) ?_
  refine ps_c (o_qNew 62 6) 44 #[iN blk, .int .i64 1, .func (.func 42) #[] #[]] Try.func44 ((gmadeB_ok blk 1 _ (by omega) (by omega) (by omega)).mono ?_)
  rintro e V4 ⟨gb, sb, rfl, hrb, ngb, nsb, kV4⟩
  have mgb : w.heap.size ≤ gb := Nat.le_trans K2.size ngb
  have msb : w.heap.size ≤ sb := Nat.le_trans K2.size nsb
  refine ⟨_, rfl, ?_⟩
  have h5 : RingA V4 ⟨ga, sa, 0, win, win, fun _ => none, fun _ => none, []⟩ := hra.keepsN kV4
  have K6 := K2.nn kV4
  have z7 := kV4.size
  refine ps_k (o_qNew 62 7) (.agg #[.int .i64 v, pT ga 0, pT gb 0]) ?_
  obtain ⟨V8, eV8, r, er, h9, kV8⟩ := alloc_step V4 (#[.int .i64 v, .pointer (some ⟨ga, 0, none⟩), .pointer (some ⟨gb, 0, none⟩)]) 57
  have n10 : w.heap.size ≤ r := er ▸ K6.size
  refine ps_r (o_qNew 62 8) (pT r 0) (w' := V8) (by rw [← eV8, ← er]; exact exec_box 57 (.tmp 39) (by kernel_rfl) (.agg #[.int .i64 v, pT ga 0, pT gb 0]) (by kernel_rfl)) ?_
  clear eV8
  have h11 : RingA V8 ⟨ga, sa, 0, win, win, fun _ => none, fun _ => none, []⟩ := h5.keepsN kV8
  have h12 : RingB V8 ⟨gb, sb, 1, blk, blk, fun _ => none, fun _ => none, []⟩ := hrb.keepsN kV8
  have K13 := K6.nn kV8
  have z14 := kV8.size
  refine ps_k (o_qNew 62 9) (pT r 0) ?_
  refine ps_k (o_qNew 62 10) (.int .i64 0) ?_
  refine ps_end ?_
  refine then_n ?_
  refine sy_ret (by kernel_rfl) ?_
  refine sy_out (.tuple #[.pointer (some ⟨r, 0, none⟩), .int .i64 0]) rfl (by kernel_rfl) ?_
  exact ⟨r, ⟨ga, sa, 0, win, win, fun _ => none, fun _ => none, []⟩, ⟨gb, sb, 1, blk, blk, fun _ => none, fun _ => none, []⟩, rfl, ⟨h9, h11, h12⟩, rfl, rfl, rfl, rfl, rfl, rfl, fun j hj => by rcases hj with rfl | rfl | rfl | rfl <;> assumption, by omega, K13⟩
noncomputable def part_qCopy (n : Nat) : Code := partOf Try.f21 n
noncomputable abbrev o_qCopy (n k : Nat) : Oper := (opsAt (part_qCopy n)).getD k default
set_option maxRecDepth 100000 in
set_option maxHeartbeats 4000000 in
theorem qCopy_ok (r : Nat) (v : Int) (A : RD Att) (B : RD Pro) (w : World) (H : RecAt w r v A B) :
    Calls Try.prog 21 #[.pointer (some ⟨r, 0, none⟩)] w (fun e w' => ∃ r2 A2 B2, e = .returned (.pointer (some ⟨r2, 0, none⟩)) ∧ RecAt w' r2 v A2 B2 ∧ A2.low = A.low ∧ A2.n = A.n ∧ A2.V = A.V ∧ B2.low = B.low ∧ B2.n = B.n ∧ B2.V = B.V ∧ (∀ j, FR A2 B2 j → w.heap.size ≤ j) ∧ w.heap.size ≤ r2 ∧ Keeps Nob w w') := by
  have K0 : Keeps Nob w w := Keeps.refl _ _
  refine sy_enter (part_qCopy 1) ⟨#[pT r 0, undef, undef, undef, undef, undef, undef, undef, undef, undef, undef, undef, undef, undef, undef, undef, undef, undef, undef, undef, undef, undef, undef], []⟩ Try.func21 (by kernel_rfl) (by kernel_rfl) ?_
  refine sy_sq (part_qCopy 2) (part_qCopy 3) ?_
  refine sy_reg ?_
  refine rg_plain 0 (opsAt (part_qCopy 2)) [0] (by kernel_rfl) (by kernel_rfl) ?_
  refine ps_k (o_qCopy 2 0) (.pointer none) ?_
  refine ps_end ?_
  refine then_n ?_
  refine sy_sq (part_qCopy 6) (part_qCopy 7) ?_
  refine sy_sq (part_qCopy 12) (part_qCopy 13) ?_
  refine sy_reg ?_
  refine rg_plain 1 (opsAt (part_qCopy 12)) [0, 1] (by kernel_rfl) (by kernel_rfl) ?_
  refine ps_k (o_qCopy 12 0) (pT r 0) ?_
  refine ps_c (o_qCopy 12 1) 30 #[pT r 0] Try.func30 ((qnone_rec r v A B _ ⟨H.rec_, H.a, H.b⟩).mono ?_)
  rintro e w1 ⟨rfl, rfl⟩
  refine ⟨_, rfl, ?_⟩
  refine ps_end ?_
  refine then_n ?_
  refine sy_n (.tmp 4) (part_qCopy 26) (part_qCopy 27) ?_
  refine sy_sk ?_
  refine then_n ?_
  refine sy_sq (part_qCopy 14) (part_qCopy 15) ?_
  refine sy_np ?_
  refine sy_reg ?_
  refine an_begin 3 17 (opsAt (part_qCopy 14)) (fun W => (W.heap[r]? = some (.cells (#[.int .i64 v, .pointer (some ⟨A.g, 0, none⟩), .pointer (some ⟨B.g, 0, none⟩)]) 57 (0, 0))) ∧ (RingA W A) ∧ (RingB W B)) #[false, false, false, false, false, false, false, false, false, false, false, false, false, false, false, false, false] (by kernel_rfl) (by kernel_rfl) (by kernel_rfl) (by kernel_rfl) ?_
  obtain ⟨V1, eV1, kV1⟩ := drew_step w
  rw [eV1]
  clear eV1
  have h2 := kV1.bk H.rec_
  have h3 : RingA V1 A := H.a.keepsN kV1
  have h4 : RingB V1 B := H.b.keepsN kV1
  have K5 := K0.nn kV1
  have z6 := kV1.size
  refine an_k 0 (o_qCopy 14 0) (pT r 0) ⟨h2, h3, h4⟩ ?_
  refine an_k 1 (o_qCopy 14 1) (pT r 0) ⟨h2, h3, h4⟩ ?_
  refine an_k 2 (o_qCopy 14 2) (pT r 0) ⟨h2, h3, h4⟩ ?_
  refine an_v 3 (o_qCopy 14 3) (.int .i64 v) (fun W hS => exec_ld 3 (.tmp 9) r 0 Try.underlying3 (rc (hS.1) (by kernel_rfl))) ⟨h2, h3, h4⟩ ?_
  refine an_k 4 (o_qCopy 14 4) (pT r 0) ⟨h2, h3, h4⟩ ?_
  refine an_k 5 (o_qCopy 14 5) (pT r 0) ⟨h2, h3, h4⟩ ?_
  refine an_k 6 (o_qCopy 14 6) (pT r 1) ⟨h2, h3, h4⟩ ?_
  refine an_v 7 (o_qCopy 14 7) (.pointer (some ⟨A.g, 0, none⟩)) (fun W hS => exec_ld 54 (.tmp 13) r 1 Try.underlying54 (rc (hS.1) (by kernel_rfl))) ⟨h2, h3, h4⟩ ?_
  refine an_k 9 (o_qCopy 14 9) (pT r 0) ⟨h2, h3, h4⟩ ?_
  refine an_k 10 (o_qCopy 14 10) (pT r 0) ⟨h2, h3, h4⟩ ?_
  refine an_k 11 (o_qCopy 14 11) (pT r 2) ⟨h2, h3, h4⟩ ?_
  refine an_v 12 (o_qCopy 14 12) (.pointer (some ⟨B.g, 0, none⟩)) (fun W hS => exec_ld 55 (.tmp 18) r 2 Try.underlying55 (rc (hS.1) (by kernel_rfl))) ⟨h2, h3, h4⟩ ?_
  refine an_o 8 ?_
  refine on_c (o_qCopy 14 8) 45 #[.pointer (some ⟨A.g, 0, none⟩)] Try.func45 ((gcop_ok A _ h3).mono ?_)
  rintro e V7 ⟨ga, sa, ca, ta, rfl, hra, nga, nsa, kV7⟩
  have mga : w.heap.size ≤ ga := Nat.le_trans K5.size nga
  have msa : w.heap.size ≤ sa := Nat.le_trans K5.size nsa
  refine ⟨_, rfl, ?_⟩
  have h8 := kV7.bk h2
  have h9 : RingA V7 A := h3.keepsN kV7
  have h10 : RingB V7 B := h4.keepsN kV7
  have K11 := K5.nn kV7
  have z12 := kV7.size
  refine ⟨⟨h8, h9, h10⟩, ?_⟩
  refine an_o 13 ?_
  refine on_c (o_qCopy 14 13) 46 #[.pointer (some ⟨B.g, 0, none⟩)] Try.func46 ((gcopB_ok B _ h10).mono ?_)
  rintro e V13 ⟨gb, sb, cb, tb, rfl, hrb, ngb, nsb, kV13⟩
  have mgb : w.heap.size ≤ gb := Nat.le_trans K11.size ngb
  have msb : w.heap.size ≤ sb := Nat.le_trans K11.size nsb
  refine ⟨_, rfl, ?_⟩
  have h14 := kV13.bk h8
  have h15 : RingA V13 A := h9.keepsN kV13
  have h16 : RingB V13 B := h10.keepsN kV13
  have h17 : RingA V13 ⟨ga, sa, A.low, A.n, ca, A.V, A.S, ta⟩ := hra.keepsN kV13
  have K18 := K11.nn kV13
  have z19 := kV13.size
  refine ⟨⟨h14, h15, h16⟩, ?_⟩
  refine an_k 14 (o_qCopy 14 14) (.agg #[.int .i64 v, pT ga 0, pT gb 0]) ⟨h14, h15, h16⟩ ?_
  refine an_o 15 ?_
  obtain ⟨V20, eV20, r2, er2, h21, kV20⟩ := alloc_step V13 (#[.int .i64 v, .pointer (some ⟨ga, 0, none⟩), .pointer (some ⟨gb, 0, none⟩)]) 57
  have n22 : r < r2 := er2 ▸ lt_of_block h14
  have n23 : w.heap.size ≤ r2 := er2 ▸ K18.size
  refine on_r (o_qCopy 14 15) (pT r2 0) (w' := V20) (by rw [← eV20, ← er2]; exact exec_box 57 (.tmp 21) (by kernel_rfl) (.agg #[.int .i64 v, pT ga 0, pT gb 0]) (by kernel_rfl)) ?_
  clear eV20
  have h24 := kV20.bk h14
  have h25 : RingA V20 A := h15.keepsN kV20
  have h26 : RingB V20 B := h16.keepsN kV20
  have h27 : RingA V20 ⟨ga, sa, A.low, A.n, ca, A.V, A.S, ta⟩ := h17.keepsN kV20
  have h28 : RingB V20 ⟨gb, sb, B.low, B.n, cb, B.V, B.S, tb⟩ := hrb.keepsN kV20
  have K29 := K18.nn kV20
  have z30 := kV20.size
  refine ⟨⟨h24, h25, h26⟩, ?_⟩
  refine an_o 16 ?_
  refine on_r (o_qCopy 14 16) (pT r2 0) (w' := V20) (by kernel_rfl) ?_
  refine ⟨⟨h24, h25, h26⟩, ?_⟩
  refine an_end (by kernel_rfl) ?_
  refine then_n ?_
  refine sy_ret (by kernel_rfl) ?_
  refine sy_out (.pointer (some ⟨r2, 0, none⟩)) rfl (by kernel_rfl) ?_
  exact ⟨r2, ⟨ga, sa, A.low, A.n, ca, A.V, A.S, ta⟩, ⟨gb, sb, B.low, B.n, cb, B.V, B.S, tb⟩, rfl, ⟨h21, h27, h28⟩, rfl, rfl, rfl, rfl, rfl, rfl, fun j hj => by rcases hj with rfl | rfl | rfl | rfl <;> assumption, by omega, K29⟩
set_option maxRecDepth 100000 in
set_option maxHeartbeats 4000000 in
theorem qCopy_none (u : Value) (w : World) (H : NoRec w u) :
    Calls Try.prog 21 #[u] w (fun e w' => ∃ r2, e = .returned (.pointer (some ⟨r2, 0, none⟩)) ∧ w'.heap[r2]? = some (.cells #[.int .i64 0, .pointer none, .pointer none] 57 (0, 0)) ∧ Keeps Nob w w') := by
  have K0 : Keeps Nob w w := Keeps.refl _ _
  refine sy_enter (part_qCopy 1) ⟨#[u, undef, undef, undef, undef, undef, undef, undef, undef, undef, undef, undef, undef, undef, undef, undef, undef, undef, undef, undef, undef, undef, undef], []⟩ Try.func21 (by kernel_rfl) (by kernel_rfl) ?_
  refine sy_sq (part_qCopy 2) (part_qCopy 3) ?_
  refine sy_reg ?_
  refine rg_plain 0 (opsAt (part_qCopy 2)) [0] (by kernel_rfl) (by kernel_rfl) ?_
  refine ps_k (o_qCopy 2 0) (.pointer none) ?_
  refine ps_end ?_
  refine then_n ?_
  refine sy_sq (part_qCopy 6) (part_qCopy 7) ?_
  refine sy_sq (part_qCopy 12) (part_qCopy 13) ?_
  refine sy_reg ?_
  refine rg_plain 1 (opsAt (part_qCopy 12)) [0, 1] (by kernel_rfl) (by kernel_rfl) ?_
  refine ps_k (o_qCopy 12 0) (u) ?_
  refine ps_c (o_qCopy 12 1) 30 #[u] Try.func30 ((qnone_none u _ H).mono ?_)
  rintro e w1 ⟨rfl, rfl⟩
  refine ⟨_, rfl, ?_⟩
  refine ps_end ?_
  refine then_n ?_
  refine sy_ys (.tmp 4) (part_qCopy 26) (part_qCopy 27) ?_
  refine sy_sq (part_qCopy 52) (part_qCopy 53) ?_
  refine sy_reg ?_
  refine rg_plain 2 (opsAt (part_qCopy 52)) [0, 1, 2] (by kernel_rfl) (by kernel_rfl) ?_
  refine ps_k (o_qCopy 52 0) (.agg #[.int .i64 0, .pointer none, .pointer none]) ?_
  obtain ⟨V31, eV31, r2, er2, h32, kV31⟩ := alloc_step w (#[.int .i64 0, .pointer none, .pointer none]) 57
  have n33 : w.heap.size ≤ r2 := er2 ▸ K0.size
  refine ps_r (o_qCopy 52 1) (pT r2 0) (w' := V31) (by rw [← eV31, ← er2]; exact exec_box 57 (.tmp 5) (by kernel_rfl) (.agg #[.int .i64 0, .pointer none, .pointer none]) (by kernel_rfl)) ?_
  clear eV31
  have h34 : NoRec V31 u := H.keepsN kV31
  have K35 := K0.nn kV31
  have z36 := kV31.size
  refine ps_k (o_qCopy 52 2) (pT r2 0) ?_
  refine ps_end ?_
  refine then_n ?_
  refine sy_ret (by kernel_rfl) ?_
  refine then_r ?_
  refine sy_out (.pointer (some ⟨r2, 0, none⟩)) rfl (by kernel_rfl) ?_
  exact ⟨r2, rfl, h32, K35⟩
noncomputable def part_qMove (n : Nat) : Code := partOf Try.f14 n
noncomputable abbrev o_qMove (n k : Nat) : Oper := (opsAt (part_qMove n)).getD k default
set_option maxRecDepth 100000 in
set_option maxHeartbeats 4000000 in
theorem qMove_bad0 (r : Nat) (v : Int) (A : RD Att) (B : RD Pro) (l f : Int) (w : World) (H : RecAt w r v A B) (g0 : l < 0) :
    Calls Try.prog 14 #[.pointer (some ⟨r, 0, none⟩), .int .i64 l, .int .i64 f] w (fun e w' => e = .returned (.int .i64 3) ∧ Keeps Nob w w') := by
  have K0 : Keeps Nob w w := Keeps.refl _ _
  refine sy_enter (part_qMove 1) ⟨#[pT r 0, .int .i64 l, .int .i64 f, undef, undef, undef, undef, undef, undef, undef, undef, undef, undef, undef, undef, undef, undef, undef, undef, undef, undef, undef, undef, undef, undef, undef, undef, undef, undef, undef, undef, undef, undef, undef, undef, undef, undef, undef, undef, undef, undef, undef, undef, undef, undef, undef, undef, undef, undef, undef, undef, undef, undef, undef, undef, undef, undef, undef], []⟩ Try.func14 (by kernel_rfl) (by kernel_rfl) ?_
  refine sy_sq (part_qMove 2) (part_qMove 3) ?_
  refine sy_reg ?_
  refine rg_plain 0 (opsAt (part_qMove 2)) [0] (by kernel_rfl) (by kernel_rfl) ?_
  refine ps_k (o_qMove 2 0) (.int .i64 0) ?_
  refine ps_end ?_
  refine then_n ?_
  refine sy_sq (part_qMove 6) (part_qMove 7) ?_
  refine sy_bk 0 (part_qMove 12) ?_
  refine sy_sq (part_qMove 24) (part_qMove 25) ?_
  refine sy_reg ?_
  refine rg_plain 1 (opsAt (part_qMove 24)) [0, 1, 2] (by kernel_rfl) (by kernel_rfl) ?_
  refine ps_k (o_qMove 24 0) (pT r 0) ?_
  refine ps_c (o_qMove 24 1) 30 #[pT r 0] Try.func30 ((qnone_rec r v A B _ H).mono ?_)
  rintro e w1 ⟨rfl, rfl⟩
  refine ⟨_, rfl, ?_⟩
  refine ps_k (o_qMove 24 2) (.bool false) ?_
  refine ps_end ?_
  refine then_n ?_
  refine sy_n (.tmp 7) (part_qMove 50) (part_qMove 51) ?_
  refine sy_sq (part_qMove 102) (part_qMove 103) ?_
  refine sy_reg ?_
  refine rg_plain 3 (opsAt (part_qMove 102)) [0, 1, 2, 3, 4, 5, 6, 7, 8, 9, 10, 11, 12, 13, 14] (by kernel_rfl) (by kernel_rfl) ?_
  refine ps_k (o_qMove 102 0) (.int .i64 l) ?_
  refine ps_p (o_qMove 102 1) (.bool true) (dct (((l) : Int) < ((0) : Int)) (by omega)) ?_
  refine ps_k (o_qMove 102 2) (.bool true) ?_
  refine ps_n (o_qMove 102 3) ?_
  refine ps_n (o_qMove 102 4) ?_
  refine ps_k (o_qMove 102 5) (.bool true) ?_
  refine ps_k (o_qMove 102 6) (.bool true) ?_
  refine ps_n (o_qMove 102 7) ?_
  refine ps_n (o_qMove 102 8) ?_
  refine ps_k (o_qMove 102 9) (.bool true) ?_
  refine ps_k (o_qMove 102 10) (.bool true) ?_
  refine ps_n (o_qMove 102 11) ?_
  refine ps_n (o_qMove 102 12) ?_
  refine ps_k (o_qMove 102 13) (.bool true) ?_
  refine ps_k (o_qMove 102 14) (.bool true) ?_
  refine ps_end ?_
  refine then_n ?_
  refine sy_ys (.tmp 10) (part_qMove 206) (part_qMove 207) ?_
  refine sy_sq (part_qMove 412) (part_qMove 413) ?_
  refine sy_reg ?_
  refine rg_plain 4 (opsAt (part_qMove 412)) [0] (by kernel_rfl) (by kernel_rfl) ?_
  refine ps_k (o_qMove 412 0) (.int .i64 3) ?_
  refine ps_end ?_
  refine then_n ?_
  refine sy_ret (by kernel_rfl) ?_
  refine blk_r ?_
  refine then_r ?_
  refine sy_out (.int .i64 3) rfl (by kernel_rfl) ?_
  exact ⟨rfl, K0⟩
set_option maxRecDepth 100000 in
set_option maxHeartbeats 4000000 in
theorem qMove_bad1 (r : Nat) (v : Int) (A : RD Att) (B : RD Pro) (l f : Int) (w : World) (H : RecAt w r v A B) (g0 : ¬ l < 0) (g1 : l > 4294967296) :
    Calls Try.prog 14 #[.pointer (some ⟨r, 0, none⟩), .int .i64 l, .int .i64 f] w (fun e w' => e = .returned (.int .i64 3) ∧ Keeps Nob w w') := by
  have K0 : Keeps Nob w w := Keeps.refl _ _
  refine sy_enter (part_qMove 1) ⟨#[pT r 0, .int .i64 l, .int .i64 f, undef, undef, undef, undef, undef, undef, undef, undef, undef, undef, undef, undef, undef, undef, undef, undef, undef, undef, undef, undef, undef, undef, undef, undef, undef, undef, undef, undef, undef, undef, undef, undef, undef, undef, undef, undef, undef, undef, undef, undef, undef, undef, undef, undef, undef, undef, undef, undef, undef, undef, undef, undef, undef, undef, undef], []⟩ Try.func14 (by kernel_rfl) (by kernel_rfl) ?_
  refine sy_sq (part_qMove 2) (part_qMove 3) ?_
  refine sy_reg ?_
  refine rg_plain 0 (opsAt (part_qMove 2)) [0] (by kernel_rfl) (by kernel_rfl) ?_
  refine ps_k (o_qMove 2 0) (.int .i64 0) ?_
  refine ps_end ?_
  refine then_n ?_
  refine sy_sq (part_qMove 6) (part_qMove 7) ?_
  refine sy_bk 0 (part_qMove 12) ?_
  refine sy_sq (part_qMove 24) (part_qMove 25) ?_
  refine sy_reg ?_
  refine rg_plain 1 (opsAt (part_qMove 24)) [0, 1, 2] (by kernel_rfl) (by kernel_rfl) ?_
  refine ps_k (o_qMove 24 0) (pT r 0) ?_
  refine ps_c (o_qMove 24 1) 30 #[pT r 0] Try.func30 ((qnone_rec r v A B _ H).mono ?_)
  rintro e w1 ⟨rfl, rfl⟩
  refine ⟨_, rfl, ?_⟩
  refine ps_k (o_qMove 24 2) (.bool false) ?_
  refine ps_end ?_
  refine then_n ?_
  refine sy_n (.tmp 7) (part_qMove 50) (part_qMove 51) ?_
  refine sy_sq (part_qMove 102) (part_qMove 103) ?_
  refine sy_reg ?_
  refine rg_plain 3 (opsAt (part_qMove 102)) [0, 1, 2, 3, 4, 5, 6, 7, 8, 9, 10, 11, 12, 13, 14] (by kernel_rfl) (by kernel_rfl) ?_
  refine ps_k (o_qMove 102 0) (.int .i64 l) ?_
  refine ps_p (o_qMove 102 1) (.bool false) (dcf (((l) : Int) < ((0) : Int)) (by omega)) ?_
  refine ps_k (o_qMove 102 2) (.bool false) ?_
  refine ps_k (o_qMove 102 3) (.int .i64 l) ?_
  refine ps_p (o_qMove 102 4) (.bool true) (dct (((l) : Int) > ((4294967296) : Int)) (by omega)) ?_
  refine ps_k (o_qMove 102 5) (.bool true) ?_
  refine ps_k (o_qMove 102 6) (.bool true) ?_
  refine ps_n (o_qMove 102 7) ?_
  refine ps_n (o_qMove 102 8) ?_
  refine ps_k (o_qMove 102 9) (.bool true) ?_
  refine ps_k (o_qMove 102 10) (.bool true) ?_
  refine ps_n (o_qMove 102 11) ?_
  refine ps_n (o_qMove 102 12) ?_
  refine ps_k (o_qMove 102 13) (.bool true) ?_
  refine ps_k (o_qMove 102 14) (.bool true) ?_
  refine ps_end ?_
  refine then_n ?_
  refine sy_ys (.tmp 10) (part_qMove 206) (part_qMove 207) ?_
  refine sy_sq (part_qMove 412) (part_qMove 413) ?_
  refine sy_reg ?_
  refine rg_plain 4 (opsAt (part_qMove 412)) [0] (by kernel_rfl) (by kernel_rfl) ?_
  refine ps_k (o_qMove 412 0) (.int .i64 3) ?_
  refine ps_end ?_
  refine then_n ?_
  refine sy_ret (by kernel_rfl) ?_
  refine blk_r ?_
  refine then_r ?_
  refine sy_out (.int .i64 3) rfl (by kernel_rfl) ?_
  exact ⟨rfl, K0⟩
set_option maxRecDepth 100000 in
set_option maxHeartbeats 4000000 in
theorem qMove_bad2 (r : Nat) (v : Int) (A : RD Att) (B : RD Pro) (l f : Int) (w : World) (H : RecAt w r v A B) (g0 : ¬ l < 0) (g1 : ¬ l > 4294967296) (g2 : f < 1) :
    Calls Try.prog 14 #[.pointer (some ⟨r, 0, none⟩), .int .i64 l, .int .i64 f] w (fun e w' => e = .returned (.int .i64 3) ∧ Keeps Nob w w') := by
  have K0 : Keeps Nob w w := Keeps.refl _ _
  refine sy_enter (part_qMove 1) ⟨#[pT r 0, .int .i64 l, .int .i64 f, undef, undef, undef, undef, undef, undef, undef, undef, undef, undef, undef, undef, undef, undef, undef, undef, undef, undef, undef, undef, undef, undef, undef, undef, undef, undef, undef, undef, undef, undef, undef, undef, undef, undef, undef, undef, undef, undef, undef, undef, undef, undef, undef, undef, undef, undef, undef, undef, undef, undef, undef, undef, undef, undef, undef], []⟩ Try.func14 (by kernel_rfl) (by kernel_rfl) ?_
  refine sy_sq (part_qMove 2) (part_qMove 3) ?_
  refine sy_reg ?_
  refine rg_plain 0 (opsAt (part_qMove 2)) [0] (by kernel_rfl) (by kernel_rfl) ?_
  refine ps_k (o_qMove 2 0) (.int .i64 0) ?_
  refine ps_end ?_
  refine then_n ?_
  refine sy_sq (part_qMove 6) (part_qMove 7) ?_
  refine sy_bk 0 (part_qMove 12) ?_
  refine sy_sq (part_qMove 24) (part_qMove 25) ?_
  refine sy_reg ?_
  refine rg_plain 1 (opsAt (part_qMove 24)) [0, 1, 2] (by kernel_rfl) (by kernel_rfl) ?_
  refine ps_k (o_qMove 24 0) (pT r 0) ?_
  refine ps_c (o_qMove 24 1) 30 #[pT r 0] Try.func30 ((qnone_rec r v A B _ H).mono ?_)
  rintro e w1 ⟨rfl, rfl⟩
  refine ⟨_, rfl, ?_⟩
  refine ps_k (o_qMove 24 2) (.bool false) ?_
  refine ps_end ?_
  refine then_n ?_
  refine sy_n (.tmp 7) (part_qMove 50) (part_qMove 51) ?_
  refine sy_sq (part_qMove 102) (part_qMove 103) ?_
  refine sy_reg ?_
  refine rg_plain 3 (opsAt (part_qMove 102)) [0, 1, 2, 3, 4, 5, 6, 7, 8, 9, 10, 11, 12, 13, 14] (by kernel_rfl) (by kernel_rfl) ?_
  refine ps_k (o_qMove 102 0) (.int .i64 l) ?_
  refine ps_p (o_qMove 102 1) (.bool false) (dcf (((l) : Int) < ((0) : Int)) (by omega)) ?_
  refine ps_k (o_qMove 102 2) (.bool false) ?_
  refine ps_k (o_qMove 102 3) (.int .i64 l) ?_
  refine ps_p (o_qMove 102 4) (.bool false) (dcf (((l) : Int) > ((4294967296) : Int)) (by omega)) ?_
  refine ps_k (o_qMove 102 5) (.bool false) ?_
  refine ps_k (o_qMove 102 6) (.bool false) ?_
  refine ps_k (o_qMove 102 7) (.int .i64 f) ?_
  refine ps_p (o_qMove 102 8) (.bool true) (dct (((f) : Int) < ((1) : Int)) (by omega)) ?_
  refine ps_k (o_qMove 102 9) (.bool true) ?_
  refine ps_k (o_qMove 102 10) (.bool true) ?_
  refine ps_n (o_qMove 102 11) ?_
  refine ps_n (o_qMove 102 12) ?_
  refine ps_k (o_qMove 102 13) (.bool true) ?_
  refine ps_k (o_qMove 102 14) (.bool true) ?_
  refine ps_end ?_
  refine then_n ?_
  refine sy_ys (.tmp 10) (part_qMove 206) (part_qMove 207) ?_
  refine sy_sq (part_qMove 412) (part_qMove 413) ?_
  refine sy_reg ?_
  refine rg_plain 4 (opsAt (part_qMove 412)) [0] (by kernel_rfl) (by kernel_rfl) ?_
  refine ps_k (o_qMove 412 0) (.int .i64 3) ?_
  refine ps_end ?_
  refine then_n ?_
  refine sy_ret (by kernel_rfl) ?_
  refine blk_r ?_
  refine then_r ?_
  refine sy_out (.int .i64 3) rfl (by kernel_rfl) ?_
  exact ⟨rfl, K0⟩
set_option maxRecDepth 100000 in
set_option maxHeartbeats 4000000 in
theorem qMove_bad3 (r : Nat) (v : Int) (A : RD Att) (B : RD Pro) (l f : Int) (w : World) (H : RecAt w r v A B) (g0 : ¬ l < 0) (g1 : ¬ l > 4294967296) (g2 : ¬ f < 1) (g3 : f > 4294967296) :
    Calls Try.prog 14 #[.pointer (some ⟨r, 0, none⟩), .int .i64 l, .int .i64 f] w (fun e w' => e = .returned (.int .i64 3) ∧ Keeps Nob w w') := by
  have K0 : Keeps Nob w w := Keeps.refl _ _
  refine sy_enter (part_qMove 1) ⟨#[pT r 0, .int .i64 l, .int .i64 f, undef, undef, undef, undef, undef, undef, undef, undef, undef, undef, undef, undef, undef, undef, undef, undef, undef, undef, undef, undef, undef, undef, undef, undef, undef, undef, undef, undef, undef, undef, undef, undef, undef, undef, undef, undef, undef, undef, undef, undef, undef, undef, undef, undef, undef, undef, undef, undef, undef, undef, undef, undef, undef, undef, undef], []⟩ Try.func14 (by kernel_rfl) (by kernel_rfl) ?_
  refine sy_sq (part_qMove 2) (part_qMove 3) ?_
  refine sy_reg ?_
  refine rg_plain 0 (opsAt (part_qMove 2)) [0] (by kernel_rfl) (by kernel_rfl) ?_
  refine ps_k (o_qMove 2 0) (.int .i64 0) ?_
  refine ps_end ?_
  refine then_n ?_
  refine sy_sq (part_qMove 6) (part_qMove 7) ?_
  refine sy_bk 0 (part_qMove 12) ?_
  refine sy_sq (part_qMove 24) (part_qMove 25) ?_
  refine sy_reg ?_
  refine rg_plain 1 (opsAt (part_qMove 24)) [0, 1, 2] (by kernel_rfl) (by kernel_rfl) ?_
  refine ps_k (o_qMove 24 0) (pT r 0) ?_
  refine ps_c (o_qMove 24 1) 30 #[pT r 0] Try.func30 ((qnone_rec r v A B _ H).mono ?_)
  rintro e w1 ⟨rfl, rfl⟩
  refine ⟨_, rfl, ?_⟩
  refine ps_k (o_qMove 24 2) (.bool false) ?_
  refine ps_end ?_
  refine then_n ?_
  refine sy_n (.tmp 7) (part_qMove 50) (part_qMove 51) ?_
  refine sy_sq (part_qMove 102) (part_qMove 103) ?_
  refine sy_reg ?_
  refine rg_plain 3 (opsAt (part_qMove 102)) [0, 1, 2, 3, 4, 5, 6, 7, 8, 9, 10, 11, 12, 13, 14] (by kernel_rfl) (by kernel_rfl) ?_
  refine ps_k (o_qMove 102 0) (.int .i64 l) ?_
  refine ps_p (o_qMove 102 1) (.bool false) (dcf (((l) : Int) < ((0) : Int)) (by omega)) ?_
  refine ps_k (o_qMove 102 2) (.bool false) ?_
  refine ps_k (o_qMove 102 3) (.int .i64 l) ?_
  refine ps_p (o_qMove 102 4) (.bool false) (dcf (((l) : Int) > ((4294967296) : Int)) (by omega)) ?_
  refine ps_k (o_qMove 102 5) (.bool false) ?_
  refine ps_k (o_qMove 102 6) (.bool false) ?_
  refine ps_k (o_qMove 102 7) (.int .i64 f) ?_
  refine ps_p (o_qMove 102 8) (.bool false) (dcf (((f) : Int) < ((1) : Int)) (by omega)) ?_
  refine ps_k (o_qMove 102 9) (.bool false) ?_
  refine ps_k (o_qMove 102 10) (.bool false) ?_
  refine ps_k (o_qMove 102 11) (.int .i64 f) ?_
  refine ps_p (o_qMove 102 12) (.bool true) (dct (((f) : Int) > ((4294967296) : Int)) (by omega)) ?_
  refine ps_k (o_qMove 102 13) (.bool true) ?_
  refine ps_k (o_qMove 102 14) (.bool true) ?_
  refine ps_end ?_
  refine then_n ?_
  refine sy_ys (.tmp 10) (part_qMove 206) (part_qMove 207) ?_
  refine sy_sq (part_qMove 412) (part_qMove 413) ?_
  refine sy_reg ?_
  refine rg_plain 4 (opsAt (part_qMove 412)) [0] (by kernel_rfl) (by kernel_rfl) ?_
  refine ps_k (o_qMove 412 0) (.int .i64 3) ?_
  refine ps_end ?_
  refine then_n ?_
  refine sy_ret (by kernel_rfl) ?_
  refine blk_r ?_
  refine then_r ?_
  refine sy_out (.int .i64 3) rfl (by kernel_rfl) ?_
  exact ⟨rfl, K0⟩
set_option maxRecDepth 100000 in
set_option maxHeartbeats 4000000 in
theorem qMove_ord1 (r : Nat) (v : Int) (A : RD Att) (B : RD Pro) (l f : Int) (w : World) (H : RecAt w r v A B) (g0 : ¬ l < 0) (g1 : ¬ l > 4294967296) (g2 : ¬ f < 1) (g3 : ¬ f > 4294967296) (q1 : l < (A.low : Int)) :
    Calls Try.prog 14 #[.pointer (some ⟨r, 0, none⟩), .int .i64 l, .int .i64 f] w (fun e w' => e = .returned (.int .i64 9) ∧ Keeps Nob w w') := by
  have K0 : Keeps Nob w w := Keeps.refl _ _
  refine sy_enter (part_qMove 1) ⟨#[pT r 0, .int .i64 l, .int .i64 f, undef, undef, undef, undef, undef, undef, undef, undef, undef, undef, undef, undef, undef, undef, undef, undef, undef, undef, undef, undef, undef, undef, undef, undef, undef, undef, undef, undef, undef, undef, undef, undef, undef, undef, undef, undef, undef, undef, undef, undef, undef, undef, undef, undef, undef, undef, undef, undef, undef, undef, undef, undef, undef, undef, undef], []⟩ Try.func14 (by kernel_rfl) (by kernel_rfl) ?_
  refine sy_sq (part_qMove 2) (part_qMove 3) ?_
  refine sy_reg ?_
  refine rg_plain 0 (opsAt (part_qMove 2)) [0] (by kernel_rfl) (by kernel_rfl) ?_
  refine ps_k (o_qMove 2 0) (.int .i64 0) ?_
  refine ps_end ?_
  refine then_n ?_
  refine sy_sq (part_qMove 6) (part_qMove 7) ?_
  refine sy_bk 0 (part_qMove 12) ?_
  refine sy_sq (part_qMove 24) (part_qMove 25) ?_
  refine sy_reg ?_
  refine rg_plain 1 (opsAt (part_qMove 24)) [0, 1, 2] (by kernel_rfl) (by kernel_rfl) ?_
  refine ps_k (o_qMove 24 0) (pT r 0) ?_
  refine ps_c (o_qMove 24 1) 30 #[pT r 0] Try.func30 ((qnone_rec r v A B _ H).mono ?_)
  rintro e w1 ⟨rfl, rfl⟩
  refine ⟨_, rfl, ?_⟩
  refine ps_k (o_qMove 24 2) (.bool false) ?_
  refine ps_end ?_
  refine then_n ?_
  refine sy_n (.tmp 7) (part_qMove 50) (part_qMove 51) ?_
  refine sy_sq (part_qMove 102) (part_qMove 103) ?_
  refine sy_reg ?_
  refine rg_plain 3 (opsAt (part_qMove 102)) [0, 1, 2, 3, 4, 5, 6, 7, 8, 9, 10, 11, 12, 13, 14] (by kernel_rfl) (by kernel_rfl) ?_
  refine ps_k (o_qMove 102 0) (.int .i64 l) ?_
  refine ps_p (o_qMove 102 1) (.bool false) (dcf (((l) : Int) < ((0) : Int)) (by omega)) ?_
  refine ps_k (o_qMove 102 2) (.bool false) ?_
  refine ps_k (o_qMove 102 3) (.int .i64 l) ?_
  refine ps_p (o_qMove 102 4) (.bool false) (dcf (((l) : Int) > ((4294967296) : Int)) (by omega)) ?_
  refine ps_k (o_qMove 102 5) (.bool false) ?_
  refine ps_k (o_qMove 102 6) (.bool false) ?_
  refine ps_k (o_qMove 102 7) (.int .i64 f) ?_
  refine ps_p (o_qMove 102 8) (.bool false) (dcf (((f) : Int) < ((1) : Int)) (by omega)) ?_
  refine ps_k (o_qMove 102 9) (.bool false) ?_
  refine ps_k (o_qMove 102 10) (.bool false) ?_
  refine ps_k (o_qMove 102 11) (.int .i64 f) ?_
  refine ps_p (o_qMove 102 12) (.bool false) (dcf (((f) : Int) > ((4294967296) : Int)) (by omega)) ?_
  refine ps_k (o_qMove 102 13) (.bool false) ?_
  refine ps_k (o_qMove 102 14) (.bool false) ?_
  refine ps_end ?_
  refine then_n ?_
  refine sy_n (.tmp 10) (part_qMove 206) (part_qMove 207) ?_
  refine sy_sq (part_qMove 414) (part_qMove 415) ?_
  refine sy_reg ?_
  refine rg_plain 5 (opsAt (part_qMove 414)) [0, 1, 2, 3, 4, 5, 6, 7, 8, 9, 10, 11, 12, 13, 14, 15, 16, 17, 18, 19, 20] (by kernel_rfl) (by kernel_rfl) ?_
  refine ps_k (o_qMove 414 0) (.int .i64 l) ?_
  refine ps_k (o_qMove 414 1) (pT r 0) ?_
  refine ps_k (o_qMove 414 2) (pT r 0) ?_
  refine ps_k (o_qMove 414 3) (pT r 1) ?_
  refine ps_p (o_qMove 414 4) (.pointer (some ⟨A.g, 0, none⟩)) (exec_ld 54 (.tmp 29) r 1 Try.underlying54 (rc (H.rec_) (by kernel_rfl))) ?_
  refine ps_k (o_qMove 414 5) (.pointer (some ⟨A.g, 0, none⟩)) ?_
  refine ps_k (o_qMove 414 6) (.pointer (some ⟨A.g, 2, none⟩)) ?_
  refine ps_p (o_qMove 414 7) (iN A.low) (exec_load_cell 3 (.tmp 32) (by kernel_rfl) ⟨A.g, 2, none⟩ (by kernel_rfl) _ _ Try.underlying3 rfl (rc (H.a.ring) (by kernel_rfl))) ?_
  refine ps_p (o_qMove 414 8) (.bool true) (dct (((l) : Int) < (((A.low : Nat) : Int))) (by omega)) ?_
  refine ps_k (o_qMove 414 9) (.bool true) ?_
  refine ps_n (o_qMove 414 10) ?_
  refine ps_n (o_qMove 414 11) ?_
  refine ps_n (o_qMove 414 12) ?_
  refine ps_n (o_qMove 414 13) ?_
  refine ps_n (o_qMove 414 14) ?_
  refine ps_n (o_qMove 414 15) ?_
  refine ps_n (o_qMove 414 16) ?_
  refine ps_n (o_qMove 414 17) ?_
  refine ps_n (o_qMove 414 18) ?_
  refine ps_k (o_qMove 414 19) (.bool true) ?_
  refine ps_k (o_qMove 414 20) (.bool true) ?_
  refine ps_end ?_
  refine sy_a ⟨#[pT r 0, .int .i64 l, .int .i64 f, undef, undef, undef, .int .i64 0, .bool false, pT r 0, .bool false, .bool false, .int .i64 l, .bool false, .bool false, .int .i64 l, .bool false, .bool false, .bool false, .int .i64 f, .bool false, .bool false, .bool false, .int .i64 f, .bool false, .bool false, .bool true, .int .i64 l, pT r 0, pT r 0, pT r 1, .pointer (some ⟨A.g, 0, none⟩), .pointer (some ⟨A.g, 0, none⟩), .pointer (some ⟨A.g, 2, none⟩), iN A.low, .bool true, .bool true, undef, undef, undef, undef, undef, undef, undef, undef, undef, .bool true, undef, undef, undef, undef, undef, undef, undef, undef, undef, undef, undef, undef], []⟩ ?_
  refine then_n ?_
  refine sy_ys (.tmp 25) (part_qMove 830) (part_qMove 831) ?_
  refine sy_sq (part_qMove 1660) (part_qMove 1661) ?_
  refine sy_reg ?_
  refine rg_plain 6 (opsAt (part_qMove 1660)) [0] (by kernel_rfl) (by kernel_rfl) ?_
  refine ps_k (o_qMove 1660 0) (.int .i64 9) ?_
  refine ps_end ?_
  refine then_n ?_
  refine sy_ret (by kernel_rfl) ?_
  refine blk_r ?_
  refine then_r ?_
  refine sy_out (.int .i64 9) rfl (by kernel_rfl) ?_
  exact ⟨rfl, K0⟩
set_option maxRecDepth 100000 in
set_option maxHeartbeats 4000000 in
theorem qMove_ord2 (r : Nat) (v : Int) (A : RD Att) (B : RD Pro) (l f : Int) (w : World) (H : RecAt w r v A B) (g0 : ¬ l < 0) (g1 : ¬ l > 4294967296) (g2 : ¬ f < 1) (g3 : ¬ f > 4294967296) (q1 : ¬ l < (A.low : Int)) (q2 : f < (B.low : Int)) :
    Calls Try.prog 14 #[.pointer (some ⟨r, 0, none⟩), .int .i64 l, .int .i64 f] w (fun e w' => e = .returned (.int .i64 9) ∧ Keeps Nob w w') := by
  have K0 : Keeps Nob w w := Keeps.refl _ _
  refine sy_enter (part_qMove 1) ⟨#[pT r 0, .int .i64 l, .int .i64 f, undef, undef, undef, undef, undef, undef, undef, undef, undef, undef, undef, undef, undef, undef, undef, undef, undef, undef, undef, undef, undef, undef, undef, undef, undef, undef, undef, undef, undef, undef, undef, undef, undef, undef, undef, undef, undef, undef, undef, undef, undef, undef, undef, undef, undef, undef, undef, undef, undef, undef, undef, undef, undef, undef, undef], []⟩ Try.func14 (by kernel_rfl) (by kernel_rfl) ?_
  refine sy_sq (part_qMove 2) (part_qMove 3) ?_
  refine sy_reg ?_
  refine rg_plain 0 (opsAt (part_qMove 2)) [0] (by kernel_rfl) (by kernel_rfl) ?_
  refine ps_k (o_qMove 2 0) (.int .i64 0) ?_
  refine ps_end ?_
  refine then_n ?_
  refine sy_sq (part_qMove 6) (part_qMove 7) ?_
  refine sy_bk 0 (part_qMove 12) ?_
  refine sy_sq (part_qMove 24) (part_qMove 25) ?_
  refine sy_reg ?_
  refine rg_plain 1 (opsAt (part_qMove 24)) [0, 1, 2] (by kernel_rfl) (by kernel_rfl) ?_
  refine ps_k (o_qMove 24 0) (pT r 0) ?_
  refine ps_c (o_qMove 24 1) 30 #[pT r 0] Try.func30 ((qnone_rec r v A B _ H).mono ?_)
  rintro e w1 ⟨rfl, rfl⟩
  refine ⟨_, rfl, ?_⟩
  refine ps_k (o_qMove 24 2) (.bool false) ?_
  refine ps_end ?_
  refine then_n ?_
  refine sy_n (.tmp 7) (part_qMove 50) (part_qMove 51) ?_
  refine sy_sq (part_qMove 102) (part_qMove 103) ?_
  refine sy_reg ?_
  refine rg_plain 3 (opsAt (part_qMove 102)) [0, 1, 2, 3, 4, 5, 6, 7, 8, 9, 10, 11, 12, 13, 14] (by kernel_rfl) (by kernel_rfl) ?_
  refine ps_k (o_qMove 102 0) (.int .i64 l) ?_
  refine ps_p (o_qMove 102 1) (.bool false) (dcf (((l) : Int) < ((0) : Int)) (by omega)) ?_
  refine ps_k (o_qMove 102 2) (.bool false) ?_
  refine ps_k (o_qMove 102 3) (.int .i64 l) ?_
  refine ps_p (o_qMove 102 4) (.bool false) (dcf (((l) : Int) > ((4294967296) : Int)) (by omega)) ?_
  refine ps_k (o_qMove 102 5) (.bool false) ?_
  refine ps_k (o_qMove 102 6) (.bool false) ?_
  refine ps_k (o_qMove 102 7) (.int .i64 f) ?_
  refine ps_p (o_qMove 102 8) (.bool false) (dcf (((f) : Int) < ((1) : Int)) (by omega)) ?_
  refine ps_k (o_qMove 102 9) (.bool false) ?_
  refine ps_k (o_qMove 102 10) (.bool false) ?_
  refine ps_k (o_qMove 102 11) (.int .i64 f) ?_
  refine ps_p (o_qMove 102 12) (.bool false) (dcf (((f) : Int) > ((4294967296) : Int)) (by omega)) ?_
  refine ps_k (o_qMove 102 13) (.bool false) ?_
  refine ps_k (o_qMove 102 14) (.bool false) ?_
  refine ps_end ?_
  refine then_n ?_
  refine sy_n (.tmp 10) (part_qMove 206) (part_qMove 207) ?_
  refine sy_sq (part_qMove 414) (part_qMove 415) ?_
  refine sy_reg ?_
  refine rg_plain 5 (opsAt (part_qMove 414)) [0, 1, 2, 3, 4, 5, 6, 7, 8, 9, 10, 11, 12, 13, 14, 15, 16, 17, 18, 19, 20] (by kernel_rfl) (by kernel_rfl) ?_
  refine ps_k (o_qMove 414 0) (.int .i64 l) ?_
  refine ps_k (o_qMove 414 1) (pT r 0) ?_
  refine ps_k (o_qMove 414 2) (pT r 0) ?_
  refine ps_k (o_qMove 414 3) (pT r 1) ?_
  refine ps_p (o_qMove 414 4) (.pointer (some ⟨A.g, 0, none⟩)) (exec_ld 54 (.tmp 29) r 1 Try.underlying54 (rc (H.rec_) (by kernel_rfl))) ?_
  refine ps_k (o_qMove 414 5) (.pointer (some ⟨A.g, 0, none⟩)) ?_
  refine ps_k (o_qMove 414 6) (.pointer (some ⟨A.g, 2, none⟩)) ?_
  refine ps_p (o_qMove 414 7) (iN A.low) (exec_load_cell 3 (.tmp 32) (by kernel_rfl) ⟨A.g, 2, none⟩ (by kernel_rfl) _ _ Try.underlying3 rfl (rc (H.a.ring) (by kernel_rfl))) ?_
  refine ps_p (o_qMove 414 8) (.bool false) (dcf (((l) : Int) < (((A.low : Nat) : Int))) (by omega)) ?_
  refine ps_k (o_qMove 414 9) (.bool false) ?_
  refine ps_k (o_qMove 414 10) (.int .i64 f) ?_
  refine ps_k (o_qMove 414 11) (pT r 0) ?_
  refine ps_k (o_qMove 414 12) (pT r 0) ?_
  refine ps_k (o_qMove 414 13) (pT r 2) ?_
  refine ps_p (o_qMove 414 14) (.pointer (some ⟨B.g, 0, none⟩)) (exec_ld 55 (.tmp 39) r 2 Try.underlying55 (rc (H.rec_) (by kernel_rfl))) ?_
  refine ps_k (o_qMove 414 15) (.pointer (some ⟨B.g, 0, none⟩)) ?_
  refine ps_k (o_qMove 414 16) (.pointer (some ⟨B.g, 2, none⟩)) ?_
  refine ps_p (o_qMove 414 17) (iN B.low) (exec_load_cell 3 (.tmp 42) (by kernel_rfl) ⟨B.g, 2, none⟩ (by kernel_rfl) _ _ Try.underlying3 rfl (rc (H.b.ring) (by kernel_rfl))) ?_
  refine ps_p (o_qMove 414 18) (.bool true) (dct (((f) : Int) < (((B.low : Nat) : Int))) (by omega)) ?_
  refine ps_k (o_qMove 414 19) (.bool true) ?_
  refine ps_k (o_qMove 414 20) (.bool true) ?_
  refine ps_end ?_
  refine sy_a ⟨#[pT r 0, .int .i64 l, .int .i64 f, undef, undef, undef, .int .i64 0, .bool false, pT r 0, .bool false, .bool false, .int .i64 l, .bool false, .bool false, .int .i64 l, .bool false, .bool false, .bool false, .int .i64 f, .bool false, .bool false, .bool false, .int .i64 f, .bool false, .bool false, .bool true, .int .i64 l, pT r 0, pT r 0, pT r 1, .pointer (some ⟨A.g, 0, none⟩), .pointer (some ⟨A.g, 0, none⟩), .pointer (some ⟨A.g, 2, none⟩), iN A.low, .bool false, .bool false, .int .i64 f, pT r 0, pT r 0, pT r 2, .pointer (some ⟨B.g, 0, none⟩), .pointer (some ⟨B.g, 0, none⟩), .pointer (some ⟨B.g, 2, none⟩), iN B.low, .bool true, .bool true, undef, undef, undef, undef, undef, undef, undef, undef, undef, undef, undef, undef], []⟩ ?_
  refine then_n ?_
  refine sy_ys (.tmp 25) (part_qMove 830) (part_qMove 831) ?_
  refine sy_sq (part_qMove 1660) (part_qMove 1661) ?_
  refine sy_reg ?_
  refine rg_plain 6 (opsAt (part_qMove 1660)) [0] (by kernel_rfl) (by kernel_rfl) ?_
  refine ps_k (o_qMove 1660 0) (.int .i64 9) ?_
  refine ps_end ?_
  refine then_n ?_
  refine sy_ret (by kernel_rfl) ?_
  refine blk_r ?_
  refine then_r ?_
  refine sy_out (.int .i64 9) rfl (by kernel_rfl) ?_
  exact ⟨rfl, K0⟩
set_option maxRecDepth 100000 in
set_option maxHeartbeats 4000000 in
theorem qMove_fine (r : Nat) (v : Int) (A : RD Att) (B : RD Pro) (l f : Nat) (w : World) (H : RecAt w r v A B) (g1 : ¬ l > 4294967296) (g2 : ¬ f < 1) (g3 : ¬ f > 4294967296) (q1 : A.low ≤ l) (q2 : B.low ≤ f) :
    Calls Try.prog 14 #[.pointer (some ⟨r, 0, none⟩), .int .i64 ((l : Nat) : Int), .int .i64 ((f : Nat) : Int)] w (fun e w' => e = .returned (.int .i64 0) ∧ ∃ S1 S2, RecAt w' r v { A with low := l, V := mvV A.V ((l : Nat) : Int), S := S1 } { B with low := f, V := mvV B.V ((f : Nat) : Int), S := S2 } ∧ Keeps (FR A B) w w') := by
  have K0 : Keeps ((FR A B)) w w := Keeps.refl _ _
  refine sy_enter (part_qMove 1) ⟨#[pT r 0, iN l, iN f, undef, undef, undef, undef, undef, undef, undef, undef, undef, undef, undef, undef, undef, undef, undef, undef, undef, undef, undef, undef, undef, undef, undef, undef, undef, undef, undef, undef, undef, undef, undef, undef, undef, undef, undef, undef, undef, undef, undef, undef, undef, undef, undef, undef, undef, undef, undef, undef, undef, undef, undef, undef, undef, undef, undef], []⟩ Try.func14 (by kernel_rfl) (by kernel_rfl) ?_
  refine sy_sq (part_qMove 2) (part_qMove 3) ?_
  refine sy_reg ?_
  refine rg_plain 0 (opsAt (part_qMove 2)) [0] (by kernel_rfl) (by kernel_rfl) ?_
  refine ps_k (o_qMove 2 0) (.int .i64 0) ?_
  refine ps_end ?_
  refine then_n ?_
  refine sy_sq (part_qMove 6) (part_qMove 7) ?_
  refine sy_bk 0 (part_qMove 12) ?_
  refine sy_sq (part_qMove 24) (part_qMove 25) ?_
  refine sy_reg ?_
  refine rg_plain 1 (opsAt (part_qMove 24)) [0, 1, 2] (by kernel_rfl) (by kernel_rfl) ?_
  refine ps_k (o_qMove 24 0) (pT r 0) ?_
  refine ps_c (o_qMove 24 1) 30 #[pT r 0] Try.func30 ((qnone_rec r v A B _ H).mono ?_)
  rintro e w1 ⟨rfl, rfl⟩
  refine ⟨_, rfl, ?_⟩
  refine ps_k (o_qMove 24 2) (.bool false) ?_
  refine ps_end ?_
  refine then_n ?_
  refine sy_n (.tmp 7) (part_qMove 50) (part_qMove 51) ?_
  refine sy_sq (part_qMove 102) (part_qMove 103) ?_
  refine sy_reg ?_
  refine rg_plain 3 (opsAt (part_qMove 102)) [0, 1, 2, 3, 4, 5, 6, 7, 8, 9, 10, 11, 12, 13, 14] (by kernel_rfl) (by kernel_rfl) ?_
  refine ps_k (o_qMove 102 0) (iN l) ?_
  refine ps_p (o_qMove 102 1) (.bool false) (dcf ((((l : Nat) : Int)) < ((0) : Int)) (by omega)) ?_
  refine ps_k (o_qMove 102 2) (.bool false) ?_
  refine ps_k (o_qMove 102 3) (iN l) ?_
  refine ps_p (o_qMove 102 4) (.bool false) (dcf ((((l : Nat) : Int)) > ((4294967296) : Int)) (by omega)) ?_
  refine ps_k (o_qMove 102 5) (.bool false) ?_
  refine ps_k (o_qMove 102 6) (.bool false) ?_
  refine ps_k (o_qMove 102 7) (iN f) ?_
  refine ps_p (o_qMove 102 8) (.bool false) (dcf ((((f : Nat) : Int)) < ((1) : Int)) (by omega)) ?_
  refine ps_k (o_qMove 102 9) (.bool false) ?_
  refine ps_k (o_qMove 102 10) (.bool false) ?_
  refine ps_k (o_qMove 102 11) (iN f) ?_
  refine ps_p (o_qMove 102 12) (.bool false) (dcf ((((f : Nat) : Int)) > ((4294967296) : Int)) (by omega)) ?_
  refine ps_k (o_qMove 102 13) (.bool false) ?_
  refine ps_k (o_qMove 102 14) (.bool false) ?_
  refine ps_end ?_
  refine then_n ?_
  refine sy_n (.tmp 10) (part_qMove 206) (part_qMove 207) ?_
  refine sy_sq (part_qMove 414) (part_qMove 415) ?_
  refine sy_reg ?_
  refine rg_plain 5 (opsAt (part_qMove 414)) [0, 1, 2, 3, 4, 5, 6, 7, 8, 9, 10, 11, 12, 13, 14, 15, 16, 17, 18, 19, 20] (by kernel_rfl) (by kernel_rfl) ?_
  refine ps_k (o_qMove 414 0) (iN l) ?_
  refine ps_k (o_qMove 414 1) (pT r 0) ?_
  refine ps_k (o_qMove 414 2) (pT r 0) ?_
  refine ps_k (o_qMove 414 3) (pT r 1) ?_
  refine ps_p (o_qMove 414 4) (.pointer (some ⟨A.g, 0, none⟩)) (exec_ld 54 (.tmp 29) r 1 Try.underlying54 (rc (H.rec_) (by kernel_rfl))) ?_
  refine ps_k (o_qMove 414 5) (.pointer (some ⟨A.g, 0, none⟩)) ?_
  refine ps_k (o_qMove 414 6) (.pointer (some ⟨A.g, 2, none⟩)) ?_
  refine ps_p (o_qMove 414 7) (iN A.low) (exec_load_cell 3 (.tmp 32) (by kernel_rfl) ⟨A.g, 2, none⟩ (by kernel_rfl) _ _ Try.underlying3 rfl (rc (H.a.ring) (by kernel_rfl))) ?_
  refine ps_p (o_qMove 414 8) (.bool false) (dcf ((((l : Nat) : Int)) < (((A.low : Nat) : Int))) (by omega)) ?_
  refine ps_k (o_qMove 414 9) (.bool false) ?_
  refine ps_k (o_qMove 414 10) (iN f) ?_
  refine ps_k (o_qMove 414 11) (pT r 0) ?_
  refine ps_k (o_qMove 414 12) (pT r 0) ?_
  refine ps_k (o_qMove 414 13) (pT r 2) ?_
  refine ps_p (o_qMove 414 14) (.pointer (some ⟨B.g, 0, none⟩)) (exec_ld 55 (.tmp 39) r 2 Try.underlying55 (rc (H.rec_) (by kernel_rfl))) ?_
  refine ps_k (o_qMove 414 15) (.pointer (some ⟨B.g, 0, none⟩)) ?_
  refine ps_k (o_qMove 414 16) (.pointer (some ⟨B.g, 2, none⟩)) ?_
  refine ps_p (o_qMove 414 17) (iN B.low) (exec_load_cell 3 (.tmp 42) (by kernel_rfl) ⟨B.g, 2, none⟩ (by kernel_rfl) _ _ Try.underlying3 rfl (rc (H.b.ring) (by kernel_rfl))) ?_
  refine ps_p (o_qMove 414 18) (.bool false) (dcf ((((f : Nat) : Int)) < (((B.low : Nat) : Int))) (by omega)) ?_
  refine ps_k (o_qMove 414 19) (.bool false) ?_
  refine ps_k (o_qMove 414 20) (.bool false) ?_
  refine ps_end ?_
  refine sy_a ⟨#[pT r 0, iN l, iN f, undef, undef, undef, .int .i64 0, .bool false, pT r 0, .bool false, .bool false, iN l, .bool false, .bool false, iN l, .bool false, .bool false, .bool false, iN f, .bool false, .bool false, .bool false, iN f, .bool false, .bool false, .bool false, iN l, pT r 0, pT r 0, pT r 1, .pointer (some ⟨A.g, 0, none⟩), .pointer (some ⟨A.g, 0, none⟩), .pointer (some ⟨A.g, 2, none⟩), iN A.low, .bool false, .bool false, iN f, pT r 0, pT r 0, pT r 2, .pointer (some ⟨B.g, 0, none⟩), .pointer (some ⟨B.g, 0, none⟩), .pointer (some ⟨B.g, 2, none⟩), iN B.low, .bool false, .bool false, undef, undef, undef, undef, undef, undef, undef, undef, undef, undef, undef, undef], []⟩ ?_
  refine then_n ?_
  refine sy_n (.tmp 25) (part_qMove 830) (part_qMove 831) ?_
  refine sy_sk ?_
  refine blk_n ?_
  refine then_n ?_
  refine sy_sq (part_qMove 14) (part_qMove 15) ?_
  refine sy_reg ?_
  refine rg_plain 7 (opsAt (part_qMove 14)) [0, 1, 2, 3, 4, 5] (by kernel_rfl) (by kernel_rfl) ?_
  refine ps_k (o_qMove 14 0) (pT r 0) ?_
  refine ps_k (o_qMove 14 1) (pT r 0) ?_
  refine ps_k (o_qMove 14 2) (pT r 1) ?_
  refine ps_p (o_qMove 14 3) (.pointer (some ⟨A.g, 0, none⟩)) (exec_ld 54 (.tmp 48) r 1 Try.underlying54 (rc (H.rec_) (by kernel_rfl))) ?_
  refine ps_k (o_qMove 14 4) (iN l) ?_
  have Hp := H
  have nr_ : r ≠ A.g ∧ r ≠ A.s := ⟨fun e => Odd.one Hp.a.ring (by decide) _ _ _ e H.rec_, fun e => Odd.one Hp.a.slots (by decide) _ _ _ e H.rec_⟩
  refine ps_c (o_qMove 14 5) 38 #[.pointer (some ⟨A.g, 0, none⟩), iN l] Try.func38 ((gmove_ok A l _ Hp.a (by omega) (by omega)).mono ?_)
  rintro e V1 ⟨rfl, S1, hr1, kV1⟩
  have hm1 := RecAt.moveA Hp hr1 rfl kV1
  refine ⟨_, rfl, ?_⟩
  have h2 : V1.heap[r]? = some (.cells (#[.int .i64 v, .pointer (some ⟨A.g, 0, none⟩), .pointer (some ⟨B.g, 0, none⟩)]) 57 (0, 0)) := (kV1.block r (lt_of_block H.rec_) (fun e => (by rcases e with e | e; exact nr_.1 e; exact nr_.2 e))).trans H.rec_
  have K3 : Keeps ((FR A B)) w V1 := K0.then kV1 (fun i hi hm => by rcases hm with h | h; exact .inl h; exact .inr (.inl h))
  have z4 := kV1.size
  refine ps_end ?_
  refine then_n ?_
  refine sy_sq (part_qMove 30) (part_qMove 31) ?_
  refine sy_reg ?_
  refine rg_plain 8 (opsAt (part_qMove 30)) [0, 1, 2, 3, 4, 5] (by kernel_rfl) (by kernel_rfl) ?_
  refine ps_k (o_qMove 30 0) (pT r 0) ?_
  refine ps_k (o_qMove 30 1) (pT r 0) ?_
  refine ps_k (o_qMove 30 2) (pT r 2) ?_
  refine ps_p (o_qMove 30 3) (.pointer (some ⟨B.g, 0, none⟩)) (exec_ld 55 (.tmp 54) r 2 Try.underlying55 (rc (h2) (by kernel_rfl))) ?_
  refine ps_k (o_qMove 30 4) (iN f) ?_
  have Hq := hm1
  have nq_ : r ≠ B.g ∧ r ≠ B.s := ⟨fun e => Odd.one Hq.b.ring (by decide) _ _ _ e h2, fun e => Odd.one Hq.b.slots (by decide) _ _ _ e h2⟩
  refine ps_c (o_qMove 30 5) 39 #[.pointer (some ⟨B.g, 0, none⟩), iN f] Try.func39 ((gmoveB_ok B f _ Hq.b (by omega) (by omega)).mono ?_)
  rintro e V5 ⟨rfl, S2, hr2, kV5⟩
  have hm2 := RecAt.moveB Hq hr2 rfl kV5
  refine ⟨_, rfl, ?_⟩
  have h6 : V5.heap[r]? = some (.cells (#[.int .i64 v, .pointer (some ⟨A.g, 0, none⟩), .pointer (some ⟨B.g, 0, none⟩)]) 57 (0, 0)) := (kV5.block r (lt_of_block h2) (fun e => (by rcases e with e | e; exact nq_.1 e; exact nq_.2 e))).trans h2
  have K7 : Keeps ((FR A B)) w V5 := K3.then kV5 (fun i hi hm => by rcases hm with h | h; exact .inr (.inr (.inl h)); exact .inr (.inr (.inr h)))
  have z8 := kV5.size
  refine ps_end ?_
  refine then_n ?_
  refine sy_sq (part_qMove 62) (part_qMove 63) ?_
  refine sy_reg ?_
  refine rg_plain 9 (opsAt (part_qMove 62)) [0] (by kernel_rfl) (by kernel_rfl) ?_
  refine ps_k (o_qMove 62 0) (.int .i64 0) ?_
  refine ps_end ?_
  refine then_n ?_
  refine sy_ret (by kernel_rfl) ?_
  refine sy_out (.int .i64 0) rfl (by kernel_rfl) ?_
  exact ⟨rfl, S1, S2, hm2, K7⟩
def qMoveErr (A : RD Att) (B : RD Pro) (l f : Int) : Int := if l < 0 ∨ l > 4294967296 ∨ f < 1 ∨ f > 4294967296 then 3 else if l < (A.low : Int) ∨ f < (B.low : Int) then 9 else 0
theorem qMove_ok (r : Nat) (v : Int) (A : RD Att) (B : RD Pro) (l f : Int) (w : World) (H : RecAt w r v A B) : Calls Try.prog 14 #[.pointer (some ⟨r, 0, none⟩), .int .i64 l, .int .i64 f] w fun e w' => e = .returned (.int .i64 (qMoveErr A B l f)) ∧ (qMoveErr A B l f ≠ 0 → RecAt w' r v A B) ∧
    (qMoveErr A B l f = 0 → ∃ S1 S2, RecAt w' r v { A with low := l.toNat, V := mvV A.V l, S := S1 } { B with low := f.toNat, V := mvV B.V f, S := S2 }) ∧ Keeps (FR A B) w w' := by
  have nob : ∀ {w' : World}, Keeps Nob w w' → Keeps (FR A B) w w' := fun k => k.mono (fun _ _ x => x.elim)
  have bad : ∀ (x : Int), qMoveErr A B l f = x → x ≠ 0 → Calls Try.prog 14 #[.pointer (some ⟨r, 0, none⟩), .int .i64 l, .int .i64 f] w (fun e w' => e = .returned (.int .i64 x) ∧ Keeps Nob w w') → _ := fun x hx q0 hc =>
    show Calls Try.prog 14 #[.pointer (some ⟨r, 0, none⟩), .int .i64 l, .int .i64 f] w (fun e w' => e = .returned (.int .i64 (qMoveErr A B l f)) ∧ (qMoveErr A B l f ≠ 0 → RecAt w' r v A B) ∧ (qMoveErr A B l f = 0 → ∃ S1 S2, RecAt w' r v { A with low := l.toNat, V := mvV A.V l, S := S1 } { B with low := f.toNat, V := mvV B.V f, S := S2 }) ∧ Keeps (FR A B) w w') from
      hc.mono fun e w' ⟨he, k⟩ => ⟨hx ▸ he, fun _ => H.keepsN k, fun h => absurd (hx ▸ h) q0, nob k⟩
  by_cases g0 : l < 0
  · exact bad 3 (by unfold qMoveErr; rw [if_pos (by omega)]) (by decide) (qMove_bad0 r v A B l f w H g0)
  by_cases g1 : l > 4294967296
  · exact bad 3 (by unfold qMoveErr; rw [if_pos (by omega)]) (by decide) (qMove_bad1 r v A B l f w H g0 g1)
  by_cases g2 : f < 1
  · exact bad 3 (by unfold qMoveErr; rw [if_pos (by omega)]) (by decide) (qMove_bad2 r v A B l f w H g0 g1 g2)
  by_cases g3 : f > 4294967296
  · exact bad 3 (by unfold qMoveErr; rw [if_pos (by omega)]) (by decide) (qMove_bad3 r v A B l f w H g0 g1 g2 g3)
  by_cases q1 : l < (A.low : Int)
  · exact bad 9 (by unfold qMoveErr; rw [if_neg (by omega), if_pos (by omega)]) (by decide) (qMove_ord1 r v A B l f w H g0 g1 g2 g3 q1)
  by_cases q2 : f < (B.low : Int)
  · exact bad 9 (by unfold qMoveErr; rw [if_neg (by omega), if_pos (by omega)]) (by decide) (qMove_ord2 r v A B l f w H g0 g1 g2 g3 q1 q2)
  have q0 : qMoveErr A B l f = 0 := by unfold qMoveErr; rw [if_neg (by omega), if_neg (by omega)]
  obtain ⟨l, rfl⟩ : ∃ n : Nat, l = (n : Int) := ⟨l.toNat, by omega⟩
  obtain ⟨f, rfl⟩ : ∃ n : Nat, f = (n : Int) := ⟨f.toNat, by omega⟩
  rw [q0]
  exact (qMove_fine r v A B l f w H (by omega) (by omega) (by omega) (by omega) (by omega)).mono fun e w' ⟨he, S1, S2, hr, k⟩ => ⟨he, fun h => absurd rfl h, fun _ => ⟨S1, S2, hr⟩, k⟩
set_option maxRecDepth 100000 in
set_option maxHeartbeats 4000000 in
theorem qMove_none (u : Value) (l f : Int) (w : World) (H : NoRec w u) :
    Calls Try.prog 14 #[u, .int .i64 l, .int .i64 f] w (fun e w' => e = .returned (.int .i64 1) ∧ Keeps Nob w w') := by
  have K0 : Keeps Nob w w := Keeps.refl _ _
  refine sy_enter (part_qMove 1) ⟨#[u, .int .i64 l, .int .i64 f, undef, undef, undef, undef, undef, undef, undef, undef, undef, undef, undef, undef, undef, undef, undef, undef, undef, undef, undef, undef, undef, undef, undef, undef, undef, undef, undef, undef, undef, undef, undef, undef, undef, undef, undef, undef, undef, undef, undef, undef, undef, undef, undef, undef, undef, undef, undef, undef, undef, undef, undef, undef, undef, undef, undef], []⟩ Try.func14 (by kernel_rfl) (by kernel_rfl) ?_
  refine sy_sq (part_qMove 2) (part_qMove 3) ?_
  refine sy_reg ?_
  refine rg_plain 0 (opsAt (part_qMove 2)) [0] (by kernel_rfl) (by kernel_rfl) ?_
  refine ps_k (o_qMove 2 0) (.int .i64 0) ?_
  refine ps_end ?_
  refine then_n ?_
  refine sy_sq (part_qMove 6) (part_qMove 7) ?_
  refine sy_bk 0 (part_qMove 12) ?_
  refine sy_sq (part_qMove 24) (part_qMove 25) ?_
  refine sy_reg ?_
  refine rg_plain 1 (opsAt (part_qMove 24)) [0, 1, 2] (by kernel_rfl) (by kernel_rfl) ?_
  refine ps_k (o_qMove 24 0) (u) ?_
  refine ps_c (o_qMove 24 1) 30 #[u] Try.func30 ((qnone_none u _ H).mono ?_)
  rintro e w1 ⟨rfl, rfl⟩
  refine ⟨_, rfl, ?_⟩
  refine ps_k (o_qMove 24 2) (.bool true) ?_
  refine ps_end ?_
  refine then_n ?_
  refine sy_ys (.tmp 7) (part_qMove 50) (part_qMove 51) ?_
  refine sy_sq (part_qMove 100) (part_qMove 101) ?_
  refine sy_reg ?_
  refine rg_plain 2 (opsAt (part_qMove 100)) [0] (by kernel_rfl) (by kernel_rfl) ?_
  refine ps_k (o_qMove 100 0) (.int .i64 1) ?_
  refine ps_end ?_
  refine then_n ?_
  refine sy_ret (by kernel_rfl) ?_
  refine blk_r ?_
  refine then_r ?_
  refine sy_out (.int .i64 1) rfl (by kernel_rfl) ?_
  exact ⟨rfl, K0⟩
end Go.Proofs.Ytgipooedgbbliaa
