/-
  Votes: which may be (printed by vote1.py). Conditions: none.
-/
import Derived.Test.YtmapcghgdbfmhaaVoteA
namespace Go.Proofs.Ytmapcghgdbfmhaa
open Go Go.RowKit Go.Own Go.Shelf

theorem within_split (bs : List (Int × Int × Int)) (i : Nat) (hi : i ≤ bs.length) : (i < bs.length ∧ ∃ b, bs[i]? = some b ∧ b.1 < b.2.1) ∨ (i < bs.length ∧ ∃ b, bs[i]? = some b ∧ ¬ b.1 < b.2.1 ∧ b.2.2 < b.1) ∨ (i < bs.length ∧ ∃ b, bs[i]? = some b ∧ ¬ b.1 < b.2.1 ∧ ¬ b.2.2 < b.1) ∨ i = bs.length := by
  rcases Nat.lt_or_eq_of_le hi with h | h
  · have hb : bs[i]? = some bs[i] := List.getElem?_eq_getElem h
    by_cases h1 : bs[i].1 < bs[i].2.1
    · exact .inl ⟨h, _, hb, h1⟩
    · by_cases h2 : bs[i].2.2 < bs[i].1
      · exact .inr (.inl ⟨h, _, hb, h1, h2⟩)
      · exact .inr (.inr (.inl ⟨h, _, hb, h1, h2⟩))
  · exact .inr (.inr (.inr h))
noncomputable def part_rwithin (n : Nat) : Code := partOf Try.f113 n
noncomputable abbrev o_rwithin (n k : Nat) : Oper := (opsAt (part_rwithin n)).getD k default
set_option maxRecDepth 100000 in
set_option maxHeartbeats 4000000 in
theorem rwithin_0 (n lo hi : Int) (w : World) (h : n < lo) :
    Calls Try.prog 113 #[.int .i64 n, .int .i64 lo, .int .i64 hi] w (fun e w' => e = .returned (.bool false) ∧ w = w') := by
  have K0 : Keeps Nob w w := Keeps.refl _ _
  refine sy_enter (part_rwithin 1) ⟨#[.int .i64 n, .int .i64 lo, .int .i64 hi, undef, undef, undef, undef, undef, undef, undef, undef, undef, undef, undef, undef], []⟩ Try.func113 (by kernel_rfl) (by kernel_rfl) ?_
  refine sy_sq (part_rwithin 2) (part_rwithin 3) ?_
  refine sy_reg ?_
  refine rg_plain 0 (opsAt (part_rwithin 2)) [0] (by kernel_rfl) (by kernel_rfl) ?_
  refine ps_k (o_rwithin 2 0) (.bool false) ?_
  refine ps_end ?_
  refine then_n ?_
  refine sy_sq (part_rwithin 6) (part_rwithin 7) ?_
  refine sy_reg ?_
  refine rg_plain 1 (opsAt (part_rwithin 6)) [0, 1, 2, 3, 4, 5, 6, 7, 8] (by kernel_rfl) (by kernel_rfl) ?_
  refine ps_k (o_rwithin 6 0) (.int .i64 n) ?_
  refine ps_k (o_rwithin 6 1) (.int .i64 lo) ?_
  refine ps_p (o_rwithin 6 2) (.bool false) (dcf (((n) : Int) ≥ ((lo) : Int)) (by omega)) ?_
  refine ps_k (o_rwithin 6 3) (.bool false) ?_
  refine ps_n (o_rwithin 6 4) ?_
  refine ps_n (o_rwithin 6 5) ?_
  refine ps_n (o_rwithin 6 6) ?_
  refine ps_k (o_rwithin 6 7) (.bool false) ?_
  refine ps_k (o_rwithin 6 8) (.bool false) ?_
  refine ps_end ?_
  refine then_n ?_
  refine sy_ret (by kernel_rfl) ?_
  refine sy_out (.bool false) rfl (by kernel_rfl) ?_
  exact ⟨rfl, rfl⟩
set_option maxRecDepth 100000 in
set_option maxHeartbeats 4000000 in
theorem rwithin_1 (n lo hi : Int) (w : World) (h : lo ≤ n) (h2 : hi < n) :
    Calls Try.prog 113 #[.int .i64 n, .int .i64 lo, .int .i64 hi] w (fun e w' => e = .returned (.bool false) ∧ w = w') := by
  have K0 : Keeps Nob w w := Keeps.refl _ _
  refine sy_enter (part_rwithin 1) ⟨#[.int .i64 n, .int .i64 lo, .int .i64 hi, undef, undef, undef, undef, undef, undef, undef, undef, undef, undef, undef, undef], []⟩ Try.func113 (by kernel_rfl) (by kernel_rfl) ?_
  refine sy_sq (part_rwithin 2) (part_rwithin 3) ?_
  refine sy_reg ?_
  refine rg_plain 0 (opsAt (part_rwithin 2)) [0] (by kernel_rfl) (by kernel_rfl) ?_
  refine ps_k (o_rwithin 2 0) (.bool false) ?_
  refine ps_end ?_
  refine then_n ?_
  refine sy_sq (part_rwithin 6) (part_rwithin 7) ?_
  refine sy_reg ?_
  refine rg_plain 1 (opsAt (part_rwithin 6)) [0, 1, 2, 3, 4, 5, 6, 7, 8] (by kernel_rfl) (by kernel_rfl) ?_
  refine ps_k (o_rwithin 6 0) (.int .i64 n) ?_
  refine ps_k (o_rwithin 6 1) (.int .i64 lo) ?_
  refine ps_p (o_rwithin 6 2) (.bool true) (dct (((n) : Int) ≥ ((lo) : Int)) (by omega)) ?_
  refine ps_k (o_rwithin 6 3) (.bool true) ?_
  refine ps_k (o_rwithin 6 4) (.int .i64 n) ?_
  refine ps_k (o_rwithin 6 5) (.int .i64 hi) ?_
  refine ps_p (o_rwithin 6 6) (.bool false) (dcf (((n) : Int) ≤ ((hi) : Int)) (by omega)) ?_
  refine ps_k (o_rwithin 6 7) (.bool false) ?_
  refine ps_k (o_rwithin 6 8) (.bool false) ?_
  refine ps_end ?_
  refine then_n ?_
  refine sy_ret (by kernel_rfl) ?_
  refine sy_out (.bool false) rfl (by kernel_rfl) ?_
  exact ⟨rfl, rfl⟩
set_option maxRecDepth 100000 in
set_option maxHeartbeats 4000000 in
theorem rwithin_2 (n lo hi : Int) (w : World) (h : lo ≤ n) (h2 : n ≤ hi) :
    Calls Try.prog 113 #[.int .i64 n, .int .i64 lo, .int .i64 hi] w (fun e w' => e = .returned (.bool true) ∧ w = w') := by
  have K0 : Keeps Nob w w := Keeps.refl _ _
  refine sy_enter (part_rwithin 1) ⟨#[.int .i64 n, .int .i64 lo, .int .i64 hi, undef, undef, undef, undef, undef, undef, undef, undef, undef, undef, undef, undef], []⟩ Try.func113 (by kernel_rfl) (by kernel_rfl) ?_
  refine sy_sq (part_rwithin 2) (part_rwithin 3) ?_
  refine sy_reg ?_
  refine rg_plain 0 (opsAt (part_rwithin 2)) [0] (by kernel_rfl) (by kernel_rfl) ?_
  refine ps_k (o_rwithin 2 0) (.bool false) ?_
  refine ps_end ?_
  refine then_n ?_
  refine sy_sq (part_rwithin 6) (part_rwithin 7) ?_
  refine sy_reg ?_
  refine rg_plain 1 (opsAt (part_rwithin 6)) [0, 1, 2, 3, 4, 5, 6, 7, 8] (by kernel_rfl) (by kernel_rfl) ?_
  refine ps_k (o_rwithin 6 0) (.int .i64 n) ?_
  refine ps_k (o_rwithin 6 1) (.int .i64 lo) ?_
  refine ps_p (o_rwithin 6 2) (.bool true) (dct (((n) : Int) ≥ ((lo) : Int)) (by omega)) ?_
  refine ps_k (o_rwithin 6 3) (.bool true) ?_
  refine ps_k (o_rwithin 6 4) (.int .i64 n) ?_
  refine ps_k (o_rwithin 6 5) (.int .i64 hi) ?_
  refine ps_p (o_rwithin 6 6) (.bool true) (dct (((n) : Int) ≤ ((hi) : Int)) (by omega)) ?_
  refine ps_k (o_rwithin 6 7) (.bool true) ?_
  refine ps_k (o_rwithin 6 8) (.bool true) ?_
  refine ps_end ?_
  refine then_n ?_
  refine sy_ret (by kernel_rfl) ?_
  refine sy_out (.bool true) rfl (by kernel_rfl) ?_
  exact ⟨rfl, rfl⟩
theorem rwithin_yes (n lo hi : Int) (w : World) (h : lo ≤ n ∧ n ≤ hi) : Calls Try.prog 113 #[.int .i64 n, .int .i64 lo, .int .i64 hi] w fun e w' => e = .returned (.bool true) ∧ w = w' := rwithin_2 n lo hi w h.1 h.2
theorem rwithin_no (n lo hi : Int) (w : World) (h : ¬ (lo ≤ n ∧ n ≤ hi)) : Calls Try.prog 113 #[.int .i64 n, .int .i64 lo, .int .i64 hi] w fun e w' => e = .returned (.bool false) ∧ w = w' := by
  by_cases h1 : n < lo
  · exact rwithin_0 n lo hi w h1
  · exact rwithin_1 n lo hi w (by omega) (by omega)
noncomputable def part_rvCheck (n : Nat) : Code := partOf Try.f101 n
noncomputable abbrev o_rvCheck (n k : Nat) : Oper := (opsAt (part_rvCheck n)).getD k default
set_option maxRecDepth 100000 in
set_option maxHeartbeats 4000000 in
theorem rvCheck_0 (a : Att) (w : World) (hr : a.r.length = 32) (c0 : ¬ (0 ≤ a.v ∧ a.v ≤ 31)) :
    Calls Try.prog 101 #[.agg (Att.c a)] w (fun e w' => e = .returned (.int .i64 a.err) ∧ Keeps Nob w w') := by
  have K0 : Keeps Nob w w := Keeps.refl _ _
  refine sy_enter (part_rvCheck 1) ⟨#[.agg (Att.c a), undef, undef, undef, undef, undef, undef, undef, undef, undef, undef, undef, undef, undef, undef, undef, undef, undef, undef], []⟩ Try.func101 (by kernel_rfl) (by kernel_rfl) ?_
  refine sy_sq (part_rvCheck 2) (part_rvCheck 3) ?_
  refine sy_reg ?_
  refine rg_plain 0 (opsAt (part_rvCheck 2)) [0, 1] (by kernel_rfl) (by kernel_rfl) ?_
  obtain ⟨V1, eV1, ga, ega, h2, kV1⟩ := alloc_step w ((Att.c a)) 31
  have n3 : w.heap.size ≤ ga := ega ▸ K0.size
  refine ps_r (o_rvCheck 2 0) (pT ga 0) (w' := V1) (by rw [← eV1, ← ega]; exact exec_box 31 (.tmp 0) (by kernel_rfl) (.agg (Att.c a)) (by kernel_rfl)) ?_
  clear eV1
  have K4 := K0.nn kV1
  have z5 := kV1.size
  refine ps_k (o_rvCheck 2 1) (.int .i64 0) ?_
  refine ps_end ?_
  refine then_n ?_
  refine sy_sq (part_rvCheck 6) (part_rvCheck 7) ?_
  refine sy_sq (part_rvCheck 12) (part_rvCheck 13) ?_
  refine sy_reg ?_
  refine rg_plain 1 (opsAt (part_rvCheck 12)) [0, 1, 2, 3, 4, 5, 6, 7, 8, 9, 10, 11, 12, 13, 14, 15] (by kernel_rfl) (by kernel_rfl) ?_
  refine ps_k (o_rvCheck 12 0) (pT ga 0) ?_
  refine ps_p (o_rvCheck 12 1) (.int .i64 a.v) (exec_ld 3 (.tmp 3) ga 0 Try.underlying3 (rc (h2) (Att.c_0 _))) ?_
  refine ps_c (o_rvCheck 12 2) 113 #[.int .i64 a.v, .int .i64 0, .int .i64 31] Try.func113 ((rwithin_no a.v 0 31 _ c0).mono ?_)
  rintro e w1 ⟨rfl, rfl⟩
  refine ⟨_, rfl, ?_⟩
  refine ps_k (o_rvCheck 12 3) (.bool true) ?_
  refine ps_k (o_rvCheck 12 4) (.bool true) ?_
  refine ps_n (o_rvCheck 12 5) ?_
  refine ps_n (o_rvCheck 12 6) ?_
  refine ps_n (o_rvCheck 12 7) ?_
  refine ps_n (o_rvCheck 12 8) ?_
  refine ps_k (o_rvCheck 12 9) (.bool true) ?_
  refine ps_k (o_rvCheck 12 10) (.bool true) ?_
  refine ps_n (o_rvCheck 12 11) ?_
  refine ps_n (o_rvCheck 12 12) ?_
  refine ps_n (o_rvCheck 12 13) ?_
  refine ps_n (o_rvCheck 12 14) ?_
  refine ps_k (o_rvCheck 12 15) (.bool true) ?_
  refine ps_end ?_
  refine then_n ?_
  refine sy_ys (.tmp 18) (part_rvCheck 26) (part_rvCheck 27) ?_
  refine sy_sq (part_rvCheck 52) (part_rvCheck 53) ?_
  refine sy_reg ?_
  refine rg_plain 2 (opsAt (part_rvCheck 52)) [0] (by kernel_rfl) (by kernel_rfl) ?_
  refine ps_k (o_rvCheck 52 0) (.int .i64 3) ?_
  refine ps_end ?_
  refine then_n ?_
  refine sy_ret (by kernel_rfl) ?_
  refine then_r ?_
  refine sy_out (.int .i64 3) rfl (by kernel_rfl) ?_
  exact ⟨by rw [Att.err_no (by unfold Att.fine; omega)], K4⟩
set_option maxRecDepth 100000 in
set_option maxHeartbeats 4000000 in
theorem rvCheck_1 (a : Att) (w : World) (hr : a.r.length = 32) (c0 : (0 ≤ a.v ∧ a.v ≤ 31)) (c1 : ¬ (0 ≤ a.s ∧ a.s ≤ 4294967296)) :
    Calls Try.prog 101 #[.agg (Att.c a)] w (fun e w' => e = .returned (.int .i64 a.err) ∧ Keeps Nob w w') := by
  have K0 : Keeps Nob w w := Keeps.refl _ _
  refine sy_enter (part_rvCheck 1) ⟨#[.agg (Att.c a), undef, undef, undef, undef, undef, undef, undef, undef, undef, undef, undef, undef, undef, undef, undef, undef, undef, undef], []⟩ Try.func101 (by kernel_rfl) (by kernel_rfl) ?_
  refine sy_sq (part_rvCheck 2) (part_rvCheck 3) ?_
  refine sy_reg ?_
  refine rg_plain 0 (opsAt (part_rvCheck 2)) [0, 1] (by kernel_rfl) (by kernel_rfl) ?_
  obtain ⟨V1, eV1, ga, ega, h2, kV1⟩ := alloc_step w ((Att.c a)) 31
  have n3 : w.heap.size ≤ ga := ega ▸ K0.size
  refine ps_r (o_rvCheck 2 0) (pT ga 0) (w' := V1) (by rw [← eV1, ← ega]; exact exec_box 31 (.tmp 0) (by kernel_rfl) (.agg (Att.c a)) (by kernel_rfl)) ?_
  clear eV1
  have K4 := K0.nn kV1
  have z5 := kV1.size
  refine ps_k (o_rvCheck 2 1) (.int .i64 0) ?_
  refine ps_end ?_
  refine then_n ?_
  refine sy_sq (part_rvCheck 6) (part_rvCheck 7) ?_
  refine sy_sq (part_rvCheck 12) (part_rvCheck 13) ?_
  refine sy_reg ?_
  refine rg_plain 1 (opsAt (part_rvCheck 12)) [0, 1, 2, 3, 4, 5, 6, 7, 8, 9, 10, 11, 12, 13, 14, 15] (by kernel_rfl) (by kernel_rfl) ?_
  refine ps_k (o_rvCheck 12 0) (pT ga 0) ?_
  refine ps_p (o_rvCheck 12 1) (.int .i64 a.v) (exec_ld 3 (.tmp 3) ga 0 Try.underlying3 (rc (h2) (Att.c_0 _))) ?_
  refine ps_c (o_rvCheck 12 2) 113 #[.int .i64 a.v, .int .i64 0, .int .i64 31] Try.func113 ((rwithin_yes a.v 0 31 _ c0).mono ?_)
  rintro e w1 ⟨rfl, rfl⟩
  refine ⟨_, rfl, ?_⟩
  refine ps_k (o_rvCheck 12 3) (.bool false) ?_
  refine ps_k (o_rvCheck 12 4) (.bool false) ?_
  refine ps_k (o_rvCheck 12 5) (pT ga 1) ?_
  refine ps_p (o_rvCheck 12 6) (.int .i64 a.s) (exec_ld 3 (.tmp 8) ga 1 Try.underlying3 (rc (h2) (Att.c_1 _))) ?_
  refine ps_c (o_rvCheck 12 7) 113 #[.int .i64 a.s, .int .i64 0, .int .i64 4294967296] Try.func113 ((rwithin_no a.s 0 4294967296 _ c1).mono ?_)
  rintro e w1 ⟨rfl, rfl⟩
  refine ⟨_, rfl, ?_⟩
  refine ps_k (o_rvCheck 12 8) (.bool true) ?_
  refine ps_k (o_rvCheck 12 9) (.bool true) ?_
  refine ps_k (o_rvCheck 12 10) (.bool true) ?_
  refine ps_n (o_rvCheck 12 11) ?_
  refine ps_n (o_rvCheck 12 12) ?_
  refine ps_n (o_rvCheck 12 13) ?_
  refine ps_n (o_rvCheck 12 14) ?_
  refine ps_k (o_rvCheck 12 15) (.bool true) ?_
  refine ps_end ?_
  refine then_n ?_
  refine sy_ys (.tmp 18) (part_rvCheck 26) (part_rvCheck 27) ?_
  refine sy_sq (part_rvCheck 52) (part_rvCheck 53) ?_
  refine sy_reg ?_
  refine rg_plain 2 (opsAt (part_rvCheck 52)) [0] (by kernel_rfl) (by kernel_rfl) ?_
  refine ps_k (o_rvCheck 52 0) (.int .i64 3) ?_
  refine ps_end ?_
  refine then_n ?_
  refine sy_ret (by kernel_rfl) ?_
  refine then_r ?_
  refine sy_out (.int .i64 3) rfl (by kernel_rfl) ?_
  exact ⟨by rw [Att.err_no (by unfold Att.fine; omega)], K4⟩
set_option maxRecDepth 100000 in
set_option maxHeartbeats 4000000 in
theorem rvCheck_2 (a : Att) (w : World) (hr : a.r.length = 32) (c0 : (0 ≤ a.v ∧ a.v ≤ 31)) (c1 : (0 ≤ a.s ∧ a.s ≤ 4294967296)) (c2 : ¬ (0 ≤ a.t ∧ a.t ≤ 4294967296)) :
    Calls Try.prog 101 #[.agg (Att.c a)] w (fun e w' => e = .returned (.int .i64 a.err) ∧ Keeps Nob w w') := by
  have K0 : Keeps Nob w w := Keeps.refl _ _
  refine sy_enter (part_rvCheck 1) ⟨#[.agg (Att.c a), undef, undef, undef, undef, undef, undef, undef, undef, undef, undef, undef, undef, undef, undef, undef, undef, undef, undef], []⟩ Try.func101 (by kernel_rfl) (by kernel_rfl) ?_
  refine sy_sq (part_rvCheck 2) (part_rvCheck 3) ?_
  refine sy_reg ?_
  refine rg_plain 0 (opsAt (part_rvCheck 2)) [0, 1] (by kernel_rfl) (by kernel_rfl) ?_
  obtain ⟨V1, eV1, ga, ega, h2, kV1⟩ := alloc_step w ((Att.c a)) 31
  have n3 : w.heap.size ≤ ga := ega ▸ K0.size
  refine ps_r (o_rvCheck 2 0) (pT ga 0) (w' := V1) (by rw [← eV1, ← ega]; exact exec_box 31 (.tmp 0) (by kernel_rfl) (.agg (Att.c a)) (by kernel_rfl)) ?_
  clear eV1
  have K4 := K0.nn kV1
  have z5 := kV1.size
  refine ps_k (o_rvCheck 2 1) (.int .i64 0) ?_
  refine ps_end ?_
  refine then_n ?_
  refine sy_sq (part_rvCheck 6) (part_rvCheck 7) ?_
  refine sy_sq (part_rvCheck 12) (part_rvCheck 13) ?_
  refine sy_reg ?_
  refine rg_plain 1 (opsAt (part_rvCheck 12)) [0, 1, 2, 3, 4, 5, 6, 7, 8, 9, 10, 11, 12, 13, 14, 15] (by kernel_rfl) (by kernel_rfl) ?_
  refine ps_k (o_rvCheck 12 0) (pT ga 0) ?_
  refine ps_p (o_rvCheck 12 1) (.int .i64 a.v) (exec_ld 3 (.tmp 3) ga 0 Try.underlying3 (rc (h2) (Att.c_0 _))) ?_
  refine ps_c (o_rvCheck 12 2) 113 #[.int .i64 a.v, .int .i64 0, .int .i64 31] Try.func113 ((rwithin_yes a.v 0 31 _ c0).mono ?_)
  rintro e w1 ⟨rfl, rfl⟩
  refine ⟨_, rfl, ?_⟩
  refine ps_k (o_rvCheck 12 3) (.bool false) ?_
  refine ps_k (o_rvCheck 12 4) (.bool false) ?_
  refine ps_k (o_rvCheck 12 5) (pT ga 1) ?_
  refine ps_p (o_rvCheck 12 6) (.int .i64 a.s) (exec_ld 3 (.tmp 8) ga 1 Try.underlying3 (rc (h2) (Att.c_1 _))) ?_
  refine ps_c (o_rvCheck 12 7) 113 #[.int .i64 a.s, .int .i64 0, .int .i64 4294967296] Try.func113 ((rwithin_yes a.s 0 4294967296 _ c1).mono ?_)
  rintro e w1 ⟨rfl, rfl⟩
  refine ⟨_, rfl, ?_⟩
  refine ps_k (o_rvCheck 12 8) (.bool false) ?_
  refine ps_k (o_rvCheck 12 9) (.bool false) ?_
  refine ps_k (o_rvCheck 12 10) (.bool false) ?_
  refine ps_k (o_rvCheck 12 11) (pT ga 2) ?_
  refine ps_p (o_rvCheck 12 12) (.int .i64 a.t) (exec_ld 3 (.tmp 14) ga 2 Try.underlying3 (rc (h2) (Att.c_2 _))) ?_
  refine ps_c (o_rvCheck 12 13) 113 #[.int .i64 a.t, .int .i64 0, .int .i64 4294967296] Try.func113 ((rwithin_no a.t 0 4294967296 _ c2).mono ?_)
  rintro e w1 ⟨rfl, rfl⟩
  refine ⟨_, rfl, ?_⟩
  refine ps_k (o_rvCheck 12 14) (.bool true) ?_
  refine ps_k (o_rvCheck 12 15) (.bool true) ?_
  refine ps_end ?_
  refine then_n ?_
  refine sy_ys (.tmp 18) (part_rvCheck 26) (part_rvCheck 27) ?_
  refine sy_sq (part_rvCheck 52) (part_rvCheck 53) ?_
  refine sy_reg ?_
  refine rg_plain 2 (opsAt (part_rvCheck 52)) [0] (by kernel_rfl) (by kernel_rfl) ?_
  refine ps_k (o_rvCheck 52 0) (.int .i64 3) ?_
  refine ps_end ?_
  refine then_n ?_
  refine sy_ret (by kernel_rfl) ?_
  refine then_r ?_
  refine sy_out (.int .i64 3) rfl (by kernel_rfl) ?_
  exact ⟨by rw [Att.err_no (by unfold Att.fine; omega)], K4⟩
set_option maxRecDepth 100000 in
set_option maxHeartbeats 4000000 in
theorem rvCheck_3 (a : Att) (w : World) (hr : a.r.length = 32) (c0 : (0 ≤ a.v ∧ a.v ≤ 31)) (c1 : (0 ≤ a.s ∧ a.s ≤ 4294967296)) (c2 : (0 ≤ a.t ∧ a.t ≤ 4294967296)) :
    Calls Try.prog 101 #[.agg (Att.c a)] w (fun e w' => e = .returned (.int .i64 a.err) ∧ Keeps Nob w w') := by
  have K0 : Keeps Nob w w := Keeps.refl _ _
  refine sy_enter (part_rvCheck 1) ⟨#[.agg (Att.c a), undef, undef, undef, undef, undef, undef, undef, undef, undef, undef, undef, undef, undef, undef, undef, undef, undef, undef], []⟩ Try.func101 (by kernel_rfl) (by kernel_rfl) ?_
  refine sy_sq (part_rvCheck 2) (part_rvCheck 3) ?_
  refine sy_reg ?_
  refine rg_plain 0 (opsAt (part_rvCheck 2)) [0, 1] (by kernel_rfl) (by kernel_rfl) ?_
  obtain ⟨V1, eV1, ga, ega, h2, kV1⟩ := alloc_step w ((Att.c a)) 31
  have n3 : w.heap.size ≤ ga := ega ▸ K0.size
  refine ps_r (o_rvCheck 2 0) (pT ga 0) (w' := V1) (by rw [← eV1, ← ega]; exact exec_box 31 (.tmp 0) (by kernel_rfl) (.agg (Att.c a)) (by kernel_rfl)) ?_
  clear eV1
  have K4 := K0.nn kV1
  have z5 := kV1.size
  refine ps_k (o_rvCheck 2 1) (.int .i64 0) ?_
  refine ps_end ?_
  refine then_n ?_
  refine sy_sq (part_rvCheck 6) (part_rvCheck 7) ?_
  refine sy_sq (part_rvCheck 12) (part_rvCheck 13) ?_
  refine sy_reg ?_
  refine rg_plain 1 (opsAt (part_rvCheck 12)) [0, 1, 2, 3, 4, 5, 6, 7, 8, 9, 10, 11, 12, 13, 14, 15] (by kernel_rfl) (by kernel_rfl) ?_
  refine ps_k (o_rvCheck 12 0) (pT ga 0) ?_
  refine ps_p (o_rvCheck 12 1) (.int .i64 a.v) (exec_ld 3 (.tmp 3) ga 0 Try.underlying3 (rc (h2) (Att.c_0 _))) ?_
  refine ps_c (o_rvCheck 12 2) 113 #[.int .i64 a.v, .int .i64 0, .int .i64 31] Try.func113 ((rwithin_yes a.v 0 31 _ c0).mono ?_)
  rintro e w1 ⟨rfl, rfl⟩
  refine ⟨_, rfl, ?_⟩
  refine ps_k (o_rvCheck 12 3) (.bool false) ?_
  refine ps_k (o_rvCheck 12 4) (.bool false) ?_
  refine ps_k (o_rvCheck 12 5) (pT ga 1) ?_
  refine ps_p (o_rvCheck 12 6) (.int .i64 a.s) (exec_ld 3 (.tmp 8) ga 1 Try.underlying3 (rc (h2) (Att.c_1 _))) ?_
  refine ps_c (o_rvCheck 12 7) 113 #[.int .i64 a.s, .int .i64 0, .int .i64 4294967296] Try.func113 ((rwithin_yes a.s 0 4294967296 _ c1).mono ?_)
  rintro e w1 ⟨rfl, rfl⟩
  refine ⟨_, rfl, ?_⟩
  refine ps_k (o_rvCheck 12 8) (.bool false) ?_
  refine ps_k (o_rvCheck 12 9) (.bool false) ?_
  refine ps_k (o_rvCheck 12 10) (.bool false) ?_
  refine ps_k (o_rvCheck 12 11) (pT ga 2) ?_
  refine ps_p (o_rvCheck 12 12) (.int .i64 a.t) (exec_ld 3 (.tmp 14) ga 2 Try.underlying3 (rc (h2) (Att.c_2 _))) ?_
  refine ps_c (o_rvCheck 12 13) 113 #[.int .i64 a.t, .int .i64 0, .int .i64 4294967296] Try.func113 ((rwithin_yes a.t 0 4294967296 _ c2).mono ?_)
  rintro e w1 ⟨rfl, rfl⟩
  refine ⟨_, rfl, ?_⟩
  refine ps_k (o_rvCheck 12 14) (.bool false) ?_
  refine ps_k (o_rvCheck 12 15) (.bool false) ?_
  refine ps_end ?_
  refine then_n ?_
  refine sy_n (.tmp 18) (part_rvCheck 26) (part_rvCheck 27) ?_
  refine sy_sk ?_
  refine then_n ?_
  refine sy_sq (part_rvCheck 14) (part_rvCheck 15) ?_
  refine sy_reg ?_
  refine rg_plain 3 (opsAt (part_rvCheck 14)) [0] (by kernel_rfl) (by kernel_rfl) ?_
  refine ps_k (o_rvCheck 14 0) (.int .i64 0) ?_
  refine ps_end ?_
  refine then_n ?_
  refine sy_ret (by kernel_rfl) ?_
  refine sy_out (.int .i64 0) rfl (by kernel_rfl) ?_
  exact ⟨by rw [Att.err_ok (by unfold Att.fine; omega)], K4⟩
theorem rvCheck_ok (a : Att) (w : World) (hr : a.r.length = 32) : Calls Try.prog 101 #[.agg (Att.c a)] w fun e w' => e = .returned (.int .i64 a.err) ∧ Keeps Nob w w' := by
  by_cases c0 : (0 ≤ a.v ∧ a.v ≤ 31)
  case neg => exact rvCheck_0 a w hr c0
  by_cases c1 : (0 ≤ a.s ∧ a.s ≤ 4294967296)
  case neg => exact rvCheck_1 a w hr c0 c1
  by_cases c2 : (0 ≤ a.t ∧ a.t ≤ 4294967296)
  case neg => exact rvCheck_2 a w hr c0 c1 c2
  exact rvCheck_3 a w hr c0 c1 c2
noncomputable def part_rvCheckBlock (n : Nat) : Code := partOf Try.f103 n
noncomputable abbrev o_rvCheckBlock (n k : Nat) : Oper := (opsAt (part_rvCheckBlock n)).getD k default
set_option maxRecDepth 100000 in
set_option maxHeartbeats 4000000 in
theorem rvCheckBlock_0 (a : Pro) (w : World) (hr : a.r.length = 32) (c0 : ¬ (0 ≤ a.v ∧ a.v ≤ 31)) :
    Calls Try.prog 103 #[.agg (Pro.c a)] w (fun e w' => e = .returned (.int .i64 a.err) ∧ Keeps Nob w w') := by
  have K0 : Keeps Nob w w := Keeps.refl _ _
  refine sy_enter (part_rvCheckBlock 1) ⟨#[.agg (Pro.c a), undef, undef, undef, undef, undef, undef, undef, undef, undef, undef, undef, undef], []⟩ Try.func103 (by kernel_rfl) (by kernel_rfl) ?_
  refine sy_sq (part_rvCheckBlock 2) (part_rvCheckBlock 3) ?_
  refine sy_reg ?_
  refine rg_plain 0 (opsAt (part_rvCheckBlock 2)) [0, 1] (by kernel_rfl) (by kernel_rfl) ?_
  obtain ⟨V1, eV1, ga, ega, h2, kV1⟩ := alloc_step w ((Pro.c a)) 33
  have n3 : w.heap.size ≤ ga := ega ▸ K0.size
  refine ps_r (o_rvCheckBlock 2 0) (pT ga 0) (w' := V1) (by rw [← eV1, ← ega]; exact exec_box 33 (.tmp 0) (by kernel_rfl) (.agg (Pro.c a)) (by kernel_rfl)) ?_
  clear eV1
  have K4 := K0.nn kV1
  have z5 := kV1.size
  refine ps_k (o_rvCheckBlock 2 1) (.int .i64 0) ?_
  refine ps_end ?_
  refine then_n ?_
  refine sy_sq (part_rvCheckBlock 6) (part_rvCheckBlock 7) ?_
  refine sy_sq (part_rvCheckBlock 12) (part_rvCheckBlock 13) ?_
  refine sy_reg ?_
  refine rg_plain 1 (opsAt (part_rvCheckBlock 12)) [0, 1, 2, 3, 4, 5, 6, 7, 8, 9] (by kernel_rfl) (by kernel_rfl) ?_
  refine ps_k (o_rvCheckBlock 12 0) (pT ga 0) ?_
  refine ps_p (o_rvCheckBlock 12 1) (.int .i64 a.v) (exec_ld 3 (.tmp 3) ga 0 Try.underlying3 (rc (h2) (Pro.c_0 _))) ?_
  refine ps_c (o_rvCheckBlock 12 2) 113 #[.int .i64 a.v, .int .i64 0, .int .i64 31] Try.func113 ((rwithin_no a.v 0 31 _ c0).mono ?_)
  rintro e w1 ⟨rfl, rfl⟩
  refine ⟨_, rfl, ?_⟩
  refine ps_k (o_rvCheckBlock 12 3) (.bool true) ?_
  refine ps_k (o_rvCheckBlock 12 4) (.bool true) ?_
  refine ps_n (o_rvCheckBlock 12 5) ?_
  refine ps_n (o_rvCheckBlock 12 6) ?_
  refine ps_n (o_rvCheckBlock 12 7) ?_
  refine ps_n (o_rvCheckBlock 12 8) ?_
  refine ps_k (o_rvCheckBlock 12 9) (.bool true) ?_
  refine ps_end ?_
  refine then_n ?_
  refine sy_ys (.tmp 12) (part_rvCheckBlock 26) (part_rvCheckBlock 27) ?_
  refine sy_sq (part_rvCheckBlock 52) (part_rvCheckBlock 53) ?_
  refine sy_reg ?_
  refine rg_plain 2 (opsAt (part_rvCheckBlock 52)) [0] (by kernel_rfl) (by kernel_rfl) ?_
  refine ps_k (o_rvCheckBlock 52 0) (.int .i64 3) ?_
  refine ps_end ?_
  refine then_n ?_
  refine sy_ret (by kernel_rfl) ?_
  refine then_r ?_
  refine sy_out (.int .i64 3) rfl (by kernel_rfl) ?_
  exact ⟨by rw [Pro.err_no (by unfold Pro.fine; omega)], K4⟩
set_option maxRecDepth 100000 in
set_option maxHeartbeats 4000000 in
theorem rvCheckBlock_1 (a : Pro) (w : World) (hr : a.r.length = 32) (c0 : (0 ≤ a.v ∧ a.v ≤ 31)) (c1 : ¬ (1 ≤ a.h ∧ a.h ≤ 4294967296)) :
    Calls Try.prog 103 #[.agg (Pro.c a)] w (fun e w' => e = .returned (.int .i64 a.err) ∧ Keeps Nob w w') := by
  have K0 : Keeps Nob w w := Keeps.refl _ _
  refine sy_enter (part_rvCheckBlock 1) ⟨#[.agg (Pro.c a), undef, undef, undef, undef, undef, undef, undef, undef, undef, undef, undef, undef], []⟩ Try.func103 (by kernel_rfl) (by kernel_rfl) ?_
  refine sy_sq (part_rvCheckBlock 2) (part_rvCheckBlock 3) ?_
  refine sy_reg ?_
  refine rg_plain 0 (opsAt (part_rvCheckBlock 2)) [0, 1] (by kernel_rfl) (by kernel_rfl) ?_
  obtain ⟨V1, eV1, ga, ega, h2, kV1⟩ := alloc_step w ((Pro.c a)) 33
  have n3 : w.heap.size ≤ ga := ega ▸ K0.size
  refine ps_r (o_rvCheckBlock 2 0) (pT ga 0) (w' := V1) (by rw [← eV1, ← ega]; exact exec_box 33 (.tmp 0) (by kernel_rfl) (.agg (Pro.c a)) (by kernel_rfl)) ?_
  clear eV1
  have K4 := K0.nn kV1
  have z5 := kV1.size
  refine ps_k (o_rvCheckBlock 2 1) (.int .i64 0) ?_
  refine ps_end ?_
  refine then_n ?_
  refine sy_sq (part_rvCheckBlock 6) (part_rvCheckBlock 7) ?_
  refine sy_sq (part_rvCheckBlock 12) (part_rvCheckBlock 13) ?_
  refine sy_reg ?_
  refine rg_plain 1 (opsAt (part_rvCheckBlock 12)) [0, 1, 2, 3, 4, 5, 6, 7, 8, 9] (by kernel_rfl) (by kernel_rfl) ?_
  refine ps_k (o_rvCheckBlock 12 0) (pT ga 0) ?_
  refine ps_p (o_rvCheckBlock 12 1) (.int .i64 a.v) (exec_ld 3 (.tmp 3) ga 0 Try.underlying3 (rc (h2) (Pro.c_0 _))) ?_
  refine ps_c (o_rvCheckBlock 12 2) 113 #[.int .i64 a.v, .int .i64 0, .int .i64 31] Try.func113 ((rwithin_yes a.v 0 31 _ c0).mono ?_)
  rintro e w1 ⟨rfl, rfl⟩
  refine ⟨_, rfl, ?_⟩
  refine ps_k (o_rvCheckBlock 12 3) (.bool false) ?_
  refine ps_k (o_rvCheckBlock 12 4) (.bool false) ?_
  refine ps_k (o_rvCheckBlock 12 5) (pT ga 1) ?_
  refine ps_p (o_rvCheckBlock 12 6) (.int .i64 a.h) (exec_ld 3 (.tmp 8) ga 1 Try.underlying3 (rc (h2) (Pro.c_1 _))) ?_
  refine ps_c (o_rvCheckBlock 12 7) 113 #[.int .i64 a.h, .int .i64 1, .int .i64 4294967296] Try.func113 ((rwithin_no a.h 1 4294967296 _ c1).mono ?_)
  rintro e w1 ⟨rfl, rfl⟩
  refine ⟨_, rfl, ?_⟩
  refine ps_k (o_rvCheckBlock 12 8) (.bool true) ?_
  refine ps_k (o_rvCheckBlock 12 9) (.bool true) ?_
  refine ps_end ?_
  refine then_n ?_
  refine sy_ys (.tmp 12) (part_rvCheckBlock 26) (part_rvCheckBlock 27) ?_
  refine sy_sq (part_rvCheckBlock 52) (part_rvCheckBlock 53) ?_
  refine sy_reg ?_
  refine rg_plain 2 (opsAt (part_rvCheckBlock 52)) [0] (by kernel_rfl) (by kernel_rfl) ?_
  refine ps_k (o_rvCheckBlock 52 0) (.int .i64 3) ?_
  refine ps_end ?_
  refine then_n ?_
  refine sy_ret (by kernel_rfl) ?_
  refine then_r ?_
  refine sy_out (.int .i64 3) rfl (by kernel_rfl) ?_
  exact ⟨by rw [Pro.err_no (by unfold Pro.fine; omega)], K4⟩
set_option maxRecDepth 100000 in
set_option maxHeartbeats 4000000 in
theorem rvCheckBlock_2 (a : Pro) (w : World) (hr : a.r.length = 32) (c0 : (0 ≤ a.v ∧ a.v ≤ 31)) (c1 : (1 ≤ a.h ∧ a.h ≤ 4294967296)) :
    Calls Try.prog 103 #[.agg (Pro.c a)] w (fun e w' => e = .returned (.int .i64 a.err) ∧ Keeps Nob w w') := by
  have K0 : Keeps Nob w w := Keeps.refl _ _
  refine sy_enter (part_rvCheckBlock 1) ⟨#[.agg (Pro.c a), undef, undef, undef, undef, undef, undef, undef, undef, undef, undef, undef, undef], []⟩ Try.func103 (by kernel_rfl) (by kernel_rfl) ?_
  refine sy_sq (part_rvCheckBlock 2) (part_rvCheckBlock 3) ?_
  refine sy_reg ?_
  refine rg_plain 0 (opsAt (part_rvCheckBlock 2)) [0, 1] (by kernel_rfl) (by kernel_rfl) ?_
  obtain ⟨V1, eV1, ga, ega, h2, kV1⟩ := alloc_step w ((Pro.c a)) 33
  have n3 : w.heap.size ≤ ga := ega ▸ K0.size
  refine ps_r (o_rvCheckBlock 2 0) (pT ga 0) (w' := V1) (by rw [← eV1, ← ega]; exact exec_box 33 (.tmp 0) (by kernel_rfl) (.agg (Pro.c a)) (by kernel_rfl)) ?_
  clear eV1
  have K4 := K0.nn kV1
  have z5 := kV1.size
  refine ps_k (o_rvCheckBlock 2 1) (.int .i64 0) ?_
  refine ps_end ?_
  refine then_n ?_
  refine sy_sq (part_rvCheckBlock 6) (part_rvCheckBlock 7) ?_
  refine sy_sq (part_rvCheckBlock 12) (part_rvCheckBlock 13) ?_
  refine sy_reg ?_
  refine rg_plain 1 (opsAt (part_rvCheckBlock 12)) [0, 1, 2, 3, 4, 5, 6, 7, 8, 9] (by kernel_rfl) (by kernel_rfl) ?_
  refine ps_k (o_rvCheckBlock 12 0) (pT ga 0) ?_
  refine ps_p (o_rvCheckBlock 12 1) (.int .i64 a.v) (exec_ld 3 (.tmp 3) ga 0 Try.underlying3 (rc (h2) (Pro.c_0 _))) ?_
  refine ps_c (o_rvCheckBlock 12 2) 113 #[.int .i64 a.v, .int .i64 0, .int .i64 31] Try.func113 ((rwithin_yes a.v 0 31 _ c0).mono ?_)
  rintro e w1 ⟨rfl, rfl⟩
  refine ⟨_, rfl, ?_⟩
  refine ps_k (o_rvCheckBlock 12 3) (.bool false) ?_
  refine ps_k (o_rvCheckBlock 12 4) (.bool false) ?_
  refine ps_k (o_rvCheckBlock 12 5) (pT ga 1) ?_
  refine ps_p (o_rvCheckBlock 12 6) (.int .i64 a.h) (exec_ld 3 (.tmp 8) ga 1 Try.underlying3 (rc (h2) (Pro.c_1 _))) ?_
  refine ps_c (o_rvCheckBlock 12 7) 113 #[.int .i64 a.h, .int .i64 1, .int .i64 4294967296] Try.func113 ((rwithin_yes a.h 1 4294967296 _ c1).mono ?_)
  rintro e w1 ⟨rfl, rfl⟩
  refine ⟨_, rfl, ?_⟩
  refine ps_k (o_rvCheckBlock 12 8) (.bool false) ?_
  refine ps_k (o_rvCheckBlock 12 9) (.bool false) ?_
  refine ps_end ?_
  refine then_n ?_
  refine sy_n (.tmp 12) (part_rvCheckBlock 26) (part_rvCheckBlock 27) ?_
  refine sy_sk ?_
  refine then_n ?_
  refine sy_sq (part_rvCheckBlock 14) (part_rvCheckBlock 15) ?_
  refine sy_reg ?_
  refine rg_plain 3 (opsAt (part_rvCheckBlock 14)) [0] (by kernel_rfl) (by kernel_rfl) ?_
  refine ps_k (o_rvCheckBlock 14 0) (.int .i64 0) ?_
  refine ps_end ?_
  refine then_n ?_
  refine sy_ret (by kernel_rfl) ?_
  refine sy_out (.int .i64 0) rfl (by kernel_rfl) ?_
  exact ⟨by rw [Pro.err_ok (by unfold Pro.fine; omega)], K4⟩
theorem rvCheckBlock_ok (a : Pro) (w : World) (hr : a.r.length = 32) : Calls Try.prog 103 #[.agg (Pro.c a)] w fun e w' => e = .returned (.int .i64 a.err) ∧ Keeps Nob w w' := by
  by_cases c0 : (0 ≤ a.v ∧ a.v ≤ 31)
  case neg => exact rvCheckBlock_0 a w hr c0
  by_cases c1 : (1 ≤ a.h ∧ a.h ≤ 4294967296)
  case neg => exact rvCheckBlock_1 a w hr c0 c1
  exact rvCheckBlock_2 a w hr c0 c1
end Go.Proofs.Ytmapcghgdbfmhaa
