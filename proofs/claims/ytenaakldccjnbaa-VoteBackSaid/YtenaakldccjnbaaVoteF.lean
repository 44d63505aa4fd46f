/-
  Votes: which clash, on both sides (printed by vote5.py). Conditions: none.
-/
import Derived.Test.YtenaakldccjnbaaVoteB
namespace Go.Proofs.Ytenaakldccjnbaa
open Go Go.RowKit Go.Own Go.Shelf
def surr (a b : Att) : Bool := decide (a.fine ∧ b.fine ∧ a.v = b.v ∧ a.s < b.s ∧ a.t > b.t)

noncomputable def part_vSurrounds (n : Nat) : Code := partOf Try.f32 n
noncomputable abbrev o_vSurrounds (n k : Nat) : Oper := (opsAt (part_vSurrounds n)).getD k default
set_option maxRecDepth 100000 in
set_option maxHeartbeats 4000000 in
theorem vSurrounds_ok (a b : Att) (w : World) (ha : a.Ok) (hb : b.Ok) :
    Calls Try.prog 32 #[.agg (Att.c a), .agg (Att.c b)] w (fun e w' => e = .returned (.bool (surr a b)) ∧ Keeps Nob w w') := by
  have hr := ha.r
  have hs := hb.r
  have K0 : Keeps Nob w w := Keeps.refl _ _
  refine sy_enter (part_vSurrounds 1) ⟨#[.agg (Att.c a), .agg (Att.c b), undef, undef, undef, undef, undef, undef, undef, undef, undef, undef, undef, undef, undef, undef, undef, undef, undef, undef, undef, undef, undef, undef, undef, undef, undef, undef, undef, undef, undef, undef, undef, undef], []⟩ Try.func32 (by kernel_rfl) (by kernel_rfl) ?_
  refine sy_sq (part_vSurrounds 2) (part_vSurrounds 3) ?_
  refine sy_reg ?_
  refine rg_plain 0 (opsAt (part_vSurrounds 2)) [0, 1, 2] (by kernel_rfl) (by kernel_rfl) ?_
  obtain ⟨V1, eV1, ga, ega, h2, kV1⟩ := alloc_step w ((Att.c a)) 29
  have n3 : w.heap.size ≤ ga := ega ▸ K0.size
  refine ps_r (o_vSurrounds 2 0) (pT ga 0) (w' := V1) (by rw [← eV1, ← ega]; exact exec_box 29 (.tmp 0) (by kernel_rfl) (.agg (Att.c a)) (by kernel_rfl)) ?_
  clear eV1
  have K4 := K0.nn kV1
  have z5 := kV1.size
  obtain ⟨V6, eV6, gb, egb, h7, kV6⟩ := alloc_step V1 ((Att.c b)) 29
  have n8 : ga < gb := egb ▸ lt_of_block h2
  have n9 : w.heap.size ≤ gb := egb ▸ K4.size
  refine ps_r (o_vSurrounds 2 1) (pT gb 0) (w' := V6) (by rw [← eV6, ← egb]; exact exec_box 29 (.tmp 1) (by kernel_rfl) (.agg (Att.c b)) (by kernel_rfl)) ?_
  clear eV6
  have h10 := kV6.bk h2
  have K11 := K4.nn kV6
  have z12 := kV6.size
  refine ps_k (o_vSurrounds 2 2) (.bool false) ?_
  refine ps_end ?_
  refine then_n ?_
  refine sy_sq (part_vSurrounds 6) (part_vSurrounds 7) ?_
  refine sy_reg ?_
  refine rg_plain 1 (opsAt (part_vSurrounds 6)) [0, 1, 2, 3, 4, 5, 6, 7, 8, 9, 10, 11, 12, 13, 14, 15, 16, 17, 18, 19, 20, 21, 22, 23, 24, 25, 26, 27, 28, 29] (by kernel_rfl) (by kernel_rfl) ?_
  refine ps_p (o_vSurrounds 6 0) (.agg (Att.c a)) (exec_load_row 29 (.tmp 2) (by kernel_rfl) ga (by kernel_rfl) _ _ (0, 0) _ (h10) Try.underlying29 rfl (by rw [Att.c_size _ hr]; kernel_rfl)) ?_
  refine ps_c (o_vSurrounds 6 1) 21 #[.agg (Att.c a)] Try.func21 ((vCheck_ok a _ hr).mono ?_)
  rintro e V13 ⟨rfl, kV13⟩
  refine ⟨_, rfl, ?_⟩
  have h14 := kV13.bk h10
  have h15 := kV13.bk h7
  have K16 := K11.nn kV13
  have z17 := kV13.size
  by_cases c0 : a.fine
  · have e0 := Att.err_ok c0
    refine ps_p (o_vSurrounds 6 2) (.bool true) (eqt ((a.err) : Int) ((0) : Int) (by omega)) ?_
    refine ps_k (o_vSurrounds 6 3) (.bool true) ?_
    refine ps_p (o_vSurrounds 6 4) (.agg (Att.c b)) (exec_load_row 29 (.tmp 3) (by kernel_rfl) gb (by kernel_rfl) _ _ (0, 0) _ (h15) Try.underlying29 rfl (by rw [Att.c_size _ hs]; kernel_rfl)) ?_
    refine ps_c (o_vSurrounds 6 5) 21 #[.agg (Att.c b)] Try.func21 ((vCheck_ok b _ hs).mono ?_)
    rintro e V18 ⟨rfl, kV18⟩
    refine ⟨_, rfl, ?_⟩
    have h19 := kV18.bk h14
    have h20 := kV18.bk h15
    have K21 := K16.nn kV18
    have z22 := kV18.size
    by_cases c1 : b.fine
    · have e1 := Att.err_ok c1
      refine ps_p (o_vSurrounds 6 6) (.bool true) (eqt ((b.err) : Int) ((0) : Int) (by omega)) ?_
      refine ps_k (o_vSurrounds 6 7) (.bool true) ?_
      refine ps_k (o_vSurrounds 6 8) (.bool true) ?_
      refine ps_k (o_vSurrounds 6 9) (pT ga 0) ?_
      refine ps_p (o_vSurrounds 6 10) (.int .i64 a.v) (exec_ld 3 (.tmp 14) ga 0 Try.underlying3 (rc (h19) (Att.c_0 _))) ?_
      refine ps_k (o_vSurrounds 6 11) (pT gb 0) ?_
      refine ps_p (o_vSurrounds 6 12) (.int .i64 b.v) (exec_ld 3 (.tmp 16) gb 0 Try.underlying3 (rc (h20) (Att.c_0 _))) ?_
      by_cases c2 : a.v = b.v
      · have e2 := c2
        refine ps_p (o_vSurrounds 6 13) (.bool true) (eqt ((a.v) : Int) ((b.v) : Int) (by omega)) ?_
        refine ps_k (o_vSurrounds 6 14) (.bool true) ?_
        refine ps_k (o_vSurrounds 6 15) (.bool true) ?_
        refine ps_k (o_vSurrounds 6 16) (pT ga 1) ?_
        refine ps_p (o_vSurrounds 6 17) (.int .i64 a.s) (exec_ld 3 (.tmp 21) ga 1 Try.underlying3 (rc (h19) (Att.c_1 _))) ?_
        refine ps_k (o_vSurrounds 6 18) (pT gb 1) ?_
        refine ps_p (o_vSurrounds 6 19) (.int .i64 b.s) (exec_ld 3 (.tmp 23) gb 1 Try.underlying3 (rc (h20) (Att.c_1 _))) ?_
        by_cases c3 : a.s < b.s
        · have e3 := c3
          refine ps_p (o_vSurrounds 6 20) (.bool true) (dct (((a.s) : Int) < ((b.s) : Int)) (by omega)) ?_
          refine ps_k (o_vSurrounds 6 21) (.bool true) ?_
          refine ps_k (o_vSurrounds 6 22) (.bool true) ?_
          refine ps_k (o_vSurrounds 6 23) (pT ga 2) ?_
          refine ps_p (o_vSurrounds 6 24) (.int .i64 a.t) (exec_ld 3 (.tmp 28) ga 2 Try.underlying3 (rc (h19) (Att.c_2 _))) ?_
          refine ps_k (o_vSurrounds 6 25) (pT gb 2) ?_
          refine ps_p (o_vSurrounds 6 26) (.int .i64 b.t) (exec_ld 3 (.tmp 30) gb 2 Try.underlying3 (rc (h20) (Att.c_2 _))) ?_
          by_cases c4 : b.t < a.t
          · have e4 := c4
            refine ps_p (o_vSurrounds 6 27) (.bool true) (dct (((a.t) : Int) > ((b.t) : Int)) (by omega)) ?_
            refine ps_k (o_vSurrounds 6 28) (.bool true) ?_
            refine ps_k (o_vSurrounds 6 29) (.bool true) ?_
            refine ps_end ?_
            refine sy_a ⟨#[.agg (Att.c a), .agg (Att.c b), pT ga 0, pT gb 0, .bool true, .agg (Att.c a), .int .i64 a.err, .bool true, .bool true, .agg (Att.c b), .int .i64 b.err, .bool true, .bool true, .bool true, pT ga 0, .int .i64 a.v, pT gb 0, .int .i64 b.v, .bool true, .bool true, .bool true, pT ga 1, .int .i64 a.s, pT gb 1, .int .i64 b.s, .bool true, .bool true, .bool true, pT ga 2, .int .i64 a.t, pT gb 2, .int .i64 b.t, .bool true, .bool true], []⟩ ?_
            refine then_n ?_
            refine sy_ret (by kernel_rfl) ?_
            refine sy_out (.bool true) rfl (by kernel_rfl) ?_
            exact ⟨by unfold surr; simp [c0, c1, c2, c3, c4], K21⟩
          · have e4 := c4
            refine ps_p (o_vSurrounds 6 27) (.bool false) (dcf (((a.t) : Int) > ((b.t) : Int)) (by omega)) ?_
            refine ps_k (o_vSurrounds 6 28) (.bool false) ?_
            refine ps_k (o_vSurrounds 6 29) (.bool false) ?_
            refine ps_end ?_
            refine sy_a ⟨#[.agg (Att.c a), .agg (Att.c b), pT ga 0, pT gb 0, .bool false, .agg (Att.c a), .int .i64 a.err, .bool true, .bool true, .agg (Att.c b), .int .i64 b.err, .bool true, .bool true, .bool true, pT ga 0, .int .i64 a.v, pT gb 0, .int .i64 b.v, .bool true, .bool true, .bool true, pT ga 1, .int .i64 a.s, pT gb 1, .int .i64 b.s, .bool true, .bool true, .bool true, pT ga 2, .int .i64 a.t, pT gb 2, .int .i64 b.t, .bool false, .bool false], []⟩ ?_
            refine then_n ?_
            refine sy_ret (by kernel_rfl) ?_
            refine sy_out (.bool false) rfl (by kernel_rfl) ?_
            exact ⟨by unfold surr; simp [c0, c1, c2, c3, c4], K21⟩
        · have e3 := c3
          refine ps_p (o_vSurrounds 6 20) (.bool false) (dcf (((a.s) : Int) < ((b.s) : Int)) (by omega)) ?_
          refine ps_k (o_vSurrounds 6 21) (.bool false) ?_
          refine ps_k (o_vSurrounds 6 22) (.bool false) ?_
          refine ps_n (o_vSurrounds 6 23) ?_
          refine ps_n (o_vSurrounds 6 24) ?_
          refine ps_n (o_vSurrounds 6 25) ?_
          refine ps_n (o_vSurrounds 6 26) ?_
          refine ps_n (o_vSurrounds 6 27) ?_
          refine ps_k (o_vSurrounds 6 28) (.bool false) ?_
          refine ps_k (o_vSurrounds 6 29) (.bool false) ?_
          refine ps_end ?_
          refine sy_a ⟨#[.agg (Att.c a), .agg (Att.c b), pT ga 0, pT gb 0, .bool false, .agg (Att.c a), .int .i64 a.err, .bool true, .bool true, .agg (Att.c b), .int .i64 b.err, .bool true, .bool true, .bool true, pT ga 0, .int .i64 a.v, pT gb 0, .int .i64 b.v, .bool true, .bool true, .bool true, pT ga 1, .int .i64 a.s, pT gb 1, .int .i64 b.s, .bool false, .bool false, .bool false, undef, undef, undef, undef, undef, .bool false], []⟩ ?_
          refine then_n ?_
          refine sy_ret (by kernel_rfl) ?_
          refine sy_out (.bool false) rfl (by kernel_rfl) ?_
          exact ⟨by unfold surr; simp [c0, c1, c2, c3], K21⟩
      · have e2 := c2
        refine ps_p (o_vSurrounds 6 13) (.bool false) (eqf ((a.v) : Int) ((b.v) : Int) (by omega)) ?_
        refine ps_k (o_vSurrounds 6 14) (.bool false) ?_
        refine ps_k (o_vSurrounds 6 15) (.bool false) ?_
        refine ps_n (o_vSurrounds 6 16) ?_
        refine ps_n (o_vSurrounds 6 17) ?_
        refine ps_n (o_vSurrounds 6 18) ?_
        refine ps_n (o_vSurrounds 6 19) ?_
        refine ps_n (o_vSurrounds 6 20) ?_
        refine ps_k (o_vSurrounds 6 21) (.bool false) ?_
        refine ps_k (o_vSurrounds 6 22) (.bool false) ?_
        refine ps_n (o_vSurrounds 6 23) ?_
        refine ps_n (o_vSurrounds 6 24) ?_
        refine ps_n (o_vSurrounds 6 25) ?_
        refine ps_n (o_vSurrounds 6 26) ?_
        refine ps_n (o_vSurrounds 6 27) ?_
        refine ps_k (o_vSurrounds 6 28) (.bool false) ?_
        refine ps_k (o_vSurrounds 6 29) (.bool false) ?_
        refine ps_end ?_
        refine sy_a ⟨#[.agg (Att.c a), .agg (Att.c b), pT ga 0, pT gb 0, .bool false, .agg (Att.c a), .int .i64 a.err, .bool true, .bool true, .agg (Att.c b), .int .i64 b.err, .bool true, .bool true, .bool true, pT ga 0, .int .i64 a.v, pT gb 0, .int .i64 b.v, .bool false, .bool false, .bool false, undef, undef, undef, undef, undef, .bool false, .bool false, undef, undef, undef, undef, undef, .bool false], []⟩ ?_
        refine then_n ?_
        refine sy_ret (by kernel_rfl) ?_
        refine sy_out (.bool false) rfl (by kernel_rfl) ?_
        exact ⟨by unfold surr; simp [c0, c1, c2], K21⟩
    · have e1 := Att.err_no c1
      refine ps_p (o_vSurrounds 6 6) (.bool false) (eqf ((b.err) : Int) ((0) : Int) (by omega)) ?_
      refine ps_k (o_vSurrounds 6 7) (.bool false) ?_
      refine ps_k (o_vSurrounds 6 8) (.bool false) ?_
      refine ps_n (o_vSurrounds 6 9) ?_
      refine ps_n (o_vSurrounds 6 10) ?_
      refine ps_n (o_vSurrounds 6 11) ?_
      refine ps_n (o_vSurrounds 6 12) ?_
      refine ps_n (o_vSurrounds 6 13) ?_
      refine ps_k (o_vSurrounds 6 14) (.bool false) ?_
      refine ps_k (o_vSurrounds 6 15) (.bool false) ?_
      refine ps_n (o_vSurrounds 6 16) ?_
      refine ps_n (o_vSurrounds 6 17) ?_
      refine ps_n (o_vSurrounds 6 18) ?_
      refine ps_n (o_vSurrounds 6 19) ?_
      refine ps_n (o_vSurrounds 6 20) ?_
      refine ps_k (o_vSurrounds 6 21) (.bool false) ?_
      refine ps_k (o_vSurrounds 6 22) (.bool false) ?_
      refine ps_n (o_vSurrounds 6 23) ?_
      refine ps_n (o_vSurrounds 6 24) ?_
      refine ps_n (o_vSurrounds 6 25) ?_
      refine ps_n (o_vSurrounds 6 26) ?_
      refine ps_n (o_vSurrounds 6 27) ?_
      refine ps_k (o_vSurrounds 6 28) (.bool false) ?_
      refine ps_k (o_vSurrounds 6 29) (.bool false) ?_
      refine ps_end ?_
      refine sy_a ⟨#[.agg (Att.c a), .agg (Att.c b), pT ga 0, pT gb 0, .bool false, .agg (Att.c a), .int .i64 a.err, .bool true, .bool true, .agg (Att.c b), .int .i64 b.err, .bool false, .bool false, .bool false, undef, undef, undef, undef, undef, .bool false, .bool false, undef, undef, undef, undef, undef, .bool false, .bool false, undef, undef, undef, undef, undef, .bool false], []⟩ ?_
      refine then_n ?_
      refine sy_ret (by kernel_rfl) ?_
      refine sy_out (.bool false) rfl (by kernel_rfl) ?_
      exact ⟨by unfold surr; simp [c0, c1], K21⟩
  · have e0 := Att.err_no c0
    refine ps_p (o_vSurrounds 6 2) (.bool false) (eqf ((a.err) : Int) ((0) : Int) (by omega)) ?_
    refine ps_k (o_vSurrounds 6 3) (.bool false) ?_
    refine ps_n (o_vSurrounds 6 4) ?_
    refine ps_n (o_vSurrounds 6 5) ?_
    refine ps_n (o_vSurrounds 6 6) ?_
    refine ps_k (o_vSurrounds 6 7) (.bool false) ?_
    refine ps_k (o_vSurrounds 6 8) (.bool false) ?_
    refine ps_n (o_vSurrounds 6 9) ?_
    refine ps_n (o_vSurrounds 6 10) ?_
    refine ps_n (o_vSurrounds 6 11) ?_
    refine ps_n (o_vSurrounds 6 12) ?_
    refine ps_n (o_vSurrounds 6 13) ?_
    refine ps_k (o_vSurrounds 6 14) (.bool false) ?_
    refine ps_k (o_vSurrounds 6 15) (.bool false) ?_
    refine ps_n (o_vSurrounds 6 16) ?_
    refine ps_n (o_vSurrounds 6 17) ?_
    refine ps_n (o_vSurrounds 6 18) ?_
    refine ps_n (o_vSurrounds 6 19) ?_
    refine ps_n (o_vSurrounds 6 20) ?_
    refine ps_k (o_vSurrounds 6 21) (.bool false) ?_
    refine ps_k (o_vSurrounds 6 22) (.bool false) ?_
    refine ps_n (o_vSurrounds 6 23) ?_
    refine ps_n (o_vSurrounds 6 24) ?_
    refine ps_n (o_vSurrounds 6 25) ?_
    refine ps_n (o_vSurrounds 6 26) ?_
    refine ps_n (o_vSurrounds 6 27) ?_
    refine ps_k (o_vSurrounds 6 28) (.bool false) ?_
    refine ps_k (o_vSurrounds 6 29) (.bool false) ?_
    refine ps_end ?_
    refine sy_a ⟨#[.agg (Att.c a), .agg (Att.c b), pT ga 0, pT gb 0, .bool false, .agg (Att.c a), .int .i64 a.err, .bool false, .bool false, undef, undef, undef, .bool false, .bool false, undef, undef, undef, undef, undef, .bool false, .bool false, undef, undef, undef, undef, undef, .bool false, .bool false, undef, undef, undef, undef, undef, .bool false], []⟩ ?_
    refine then_n ?_
    refine sy_ret (by kernel_rfl) ?_
    refine sy_out (.bool false) rfl (by kernel_rfl) ?_
    exact ⟨by unfold surr; simp [c0], K16⟩
noncomputable def part_rvSurrounds (n : Nat) : Code := partOf Try.f33 n
noncomputable abbrev o_rvSurrounds (n k : Nat) : Oper := (opsAt (part_rvSurrounds n)).getD k default
set_option maxRecDepth 100000 in
set_option maxHeartbeats 4000000 in
theorem rvSurrounds_ok (a b : Att) (w : World) (ha : a.Ok) (hb : b.Ok) :
    Calls Try.prog 33 #[.agg (Att.c a), .agg (Att.c b)] w (fun e w' => e = .returned (.bool (surr a b)) ∧ Keeps Nob w w') := by
  have hr := ha.r
  have hs := hb.r
  have K0 : Keeps Nob w w := Keeps.refl _ _
  refine sy_enter (part_rvSurrounds 1) ⟨#[.agg (Att.c a), .agg (Att.c b), undef, undef, undef, undef, undef, undef, undef, undef, undef, undef, undef, undef, undef, undef, undef, undef, undef, undef, undef, undef, undef, undef, undef, undef, undef, undef, undef, undef, undef, undef, undef, undef], []⟩ Try.func33 (by kernel_rfl) (by kernel_rfl) ?_
  refine sy_sq (part_rvSurrounds 2) (part_rvSurrounds 3) ?_
  refine sy_reg ?_
  refine rg_plain 0 (opsAt (part_rvSurrounds 2)) [0, 1, 2] (by kernel_rfl) (by kernel_rfl) ?_
  obtain ⟨V1, eV1, ga, ega, h2, kV1⟩ := alloc_step w ((Att.c a)) 29
  have n3 : w.heap.size ≤ ga := ega ▸ K0.size
  refine ps_r (o_rvSurrounds 2 0) (pT ga 0) (w' := V1) (by rw [← eV1, ← ega]; exact exec_box 29 (.tmp 0) (by kernel_rfl) (.agg (Att.c a)) (by kernel_rfl)) ?_
  clear eV1
  have K4 := K0.nn kV1
  have z5 := kV1.size
  obtain ⟨V6, eV6, gb, egb, h7, kV6⟩ := alloc_step V1 ((Att.c b)) 29
  have n8 : ga < gb := egb ▸ lt_of_block h2
  have n9 : w.heap.size ≤ gb := egb ▸ K4.size
  refine ps_r (o_rvSurrounds 2 1) (pT gb 0) (w' := V6) (by rw [← eV6, ← egb]; exact exec_box 29 (.tmp 1) (by kernel_rfl) (.agg (Att.c b)) (by kernel_rfl)) ?_
  clear eV6
  have h10 := kV6.bk h2
  have K11 := K4.nn kV6
  have z12 := kV6.size
  refine ps_k (o_rvSurrounds 2 2) (.bool false) ?_
  refine ps_end ?_
  refine then_n ?_
  refine sy_sq (part_rvSurrounds 6) (part_rvSurrounds 7) ?_
  refine sy_reg ?_
  refine rg_plain 1 (opsAt (part_rvSurrounds 6)) [0, 1, 2, 3, 4, 5, 6, 7, 8, 9, 10, 11, 12, 13, 14, 15, 16, 17, 18, 19, 20, 21, 22, 23, 24, 25, 26, 27, 28, 29] (by kernel_rfl) (by kernel_rfl) ?_
  refine ps_p (o_rvSurrounds 6 0) (.agg (Att.c a)) (exec_load_row 29 (.tmp 2) (by kernel_rfl) ga (by kernel_rfl) _ _ (0, 0) _ (h10) Try.underlying29 rfl (by rw [Att.c_size _ hr]; kernel_rfl)) ?_
  refine ps_c (o_rvSurrounds 6 1) 22 #[.agg (Att.c a)] Try.func22 ((rvCheck_ok a _ hr).mono ?_)
  rintro e V13 ⟨rfl, kV13⟩
  refine ⟨_, rfl, ?_⟩
  have h14 := kV13.bk h10
  have h15 := kV13.bk h7
  have K16 := K11.nn kV13
  have z17 := kV13.size
  by_cases c0 : a.fine
  · have e0 := Att.err_ok c0
    refine ps_p (o_rvSurrounds 6 2) (.bool true) (eqt ((a.err) : Int) ((0) : Int) (by omega)) ?_
    refine ps_k (o_rvSurrounds 6 3) (.bool true) ?_
    refine ps_p (o_rvSurrounds 6 4) (.agg (Att.c b)) (exec_load_row 29 (.tmp 3) (by kernel_rfl) gb (by kernel_rfl) _ _ (0, 0) _ (h15) Try.underlying29 rfl (by rw [Att.c_size _ hs]; kernel_rfl)) ?_
    refine ps_c (o_rvSurrounds 6 5) 22 #[.agg (Att.c b)] Try.func22 ((rvCheck_ok b _ hs).mono ?_)
    rintro e V18 ⟨rfl, kV18⟩
    refine ⟨_, rfl, ?_⟩
    have h19 := kV18.bk h14
    have h20 := kV18.bk h15
    have K21 := K16.nn kV18
    have z22 := kV18.size
    by_cases c1 : b.fine
    · have e1 := Att.err_ok c1
      refine ps_p (o_rvSurrounds 6 6) (.bool true) (eqt ((b.err) : Int) ((0) : Int) (by omega)) ?_
      refine ps_k (o_rvSurrounds 6 7) (.bool true) ?_
      refine ps_k (o_rvSurrounds 6 8) (.bool true) ?_
      refine ps_k (o_rvSurrounds 6 9) (pT ga 0) ?_
      refine ps_p (o_rvSurrounds 6 10) (.int .i64 a.v) (exec_ld 3 (.tmp 14) ga 0 Try.underlying3 (rc (h19) (Att.c_0 _))) ?_
      refine ps_k (o_rvSurrounds 6 11) (pT gb 0) ?_
      refine ps_p (o_rvSurrounds 6 12) (.int .i64 b.v) (exec_ld 3 (.tmp 16) gb 0 Try.underlying3 (rc (h20) (Att.c_0 _))) ?_
      by_cases c2 : a.v = b.v
      · have e2 := c2
        refine ps_p (o_rvSurrounds 6 13) (.bool true) (eqt ((a.v) : Int) ((b.v) : Int) (by omega)) ?_
        refine ps_k (o_rvSurrounds 6 14) (.bool true) ?_
        refine ps_k (o_rvSurrounds 6 15) (.bool true) ?_
        refine ps_k (o_rvSurrounds 6 16) (pT ga 1) ?_
        refine ps_p (o_rvSurrounds 6 17) (.int .i64 a.s) (exec_ld 3 (.tmp 21) ga 1 Try.underlying3 (rc (h19) (Att.c_1 _))) ?_
        refine ps_k (o_rvSurrounds 6 18) (pT gb 1) ?_
        refine ps_p (o_rvSurrounds 6 19) (.int .i64 b.s) (exec_ld 3 (.tmp 23) gb 1 Try.underlying3 (rc (h20) (Att.c_1 _))) ?_
        by_cases c3 : a.s < b.s
        · have e3 := c3
          refine ps_p (o_rvSurrounds 6 20) (.bool true) (dct (((a.s) : Int) < ((b.s) : Int)) (by omega)) ?_
          refine ps_k (o_rvSurrounds 6 21) (.bool true) ?_
          refine ps_k (o_rvSurrounds 6 22) (.bool true) ?_
          refine ps_k (o_rvSurrounds 6 23) (pT ga 2) ?_
          refine ps_p (o_rvSurrounds 6 24) (.int .i64 a.t) (exec_ld 3 (.tmp 28) ga 2 Try.underlying3 (rc (h19) (Att.c_2 _))) ?_
          refine ps_k (o_rvSurrounds 6 25) (pT gb 2) ?_
          refine ps_p (o_rvSurrounds 6 26) (.int .i64 b.t) (exec_ld 3 (.tmp 30) gb 2 Try.underlying3 (rc (h20) (Att.c_2 _))) ?_
          by_cases c4 : b.t < a.t
          · have e4 := c4
            refine ps_p (o_rvSurrounds 6 27) (.bool true) (dct (((a.t) : Int) > ((b.t) : Int)) (by omega)) ?_
            refine ps_k (o_rvSurrounds 6 28) (.bool true) ?_
            refine ps_k (o_rvSurrounds 6 29) (.bool true) ?_
            refine ps_end ?_
            refine sy_a ⟨#[.agg (Att.c a), .agg (Att.c b), pT ga 0, pT gb 0, .bool true, .agg (Att.c a), .int .i64 a.err, .bool true, .bool true, .agg (Att.c b), .int .i64 b.err, .bool true, .bool true, .bool true, pT ga 0, .int .i64 a.v, pT gb 0, .int .i64 b.v, .bool true, .bool true, .bool true, pT ga 1, .int .i64 a.s, pT gb 1, .int .i64 b.s, .bool true, .bool true, .bool true, pT ga 2, .int .i64 a.t, pT gb 2, .int .i64 b.t, .bool true, .bool true], []⟩ ?_
            refine then_n ?_
            refine sy_ret (by kernel_rfl) ?_
            refine sy_out (.bool true) rfl (by kernel_rfl) ?_
            exact ⟨by unfold surr; simp [c0, c1, c2, c3, c4], K21⟩
          · have e4 := c4
            refine ps_p (o_rvSurrounds 6 27) (.bool false) (dcf (((a.t) : Int) > ((b.t) : Int)) (by omega)) ?_
            refine ps_k (o_rvSurrounds 6 28) (.bool false) ?_
            refine ps_k (o_rvSurrounds 6 29) (.bool false) ?_
            refine ps_end ?_
            refine sy_a ⟨#[.agg (Att.c a), .agg (Att.c b), pT ga 0, pT gb 0, .bool false, .agg (Att.c a), .int .i64 a.err, .bool true, .bool true, .agg (Att.c b), .int .i64 b.err, .bool true, .bool true, .bool true, pT ga 0, .int .i64 a.v, pT gb 0, .int .i64 b.v, .bool true, .bool true, .bool true, pT ga 1, .int .i64 a.s, pT gb 1, .int .i64 b.s, .bool true, .bool true, .bool true, pT ga 2, .int .i64 a.t, pT gb 2, .int .i64 b.t, .bool false, .bool false], []⟩ ?_
            refine then_n ?_
            refine sy_ret (by kernel_rfl) ?_
            refine sy_out (.bool false) rfl (by kernel_rfl) ?_
            exact ⟨by unfold surr; simp [c0, c1, c2, c3, c4], K21⟩
        · have e3 := c3
          refine ps_p (o_rvSurrounds 6 20) (.bool false) (dcf (((a.s) : Int) < ((b.s) : Int)) (by omega)) ?_
          refine ps_k (o_rvSurrounds 6 21) (.bool false) ?_
          refine ps_k (o_rvSurrounds 6 22) (.bool false) ?_
          refine ps_n (o_rvSurrounds 6 23) ?_
          refine ps_n (o_rvSurrounds 6 24) ?_
          refine ps_n (o_rvSurrounds 6 25) ?_
          refine ps_n (o_rvSurrounds 6 26) ?_
          refine ps_n (o_rvSurrounds 6 27) ?_
          refine ps_k (o_rvSurrounds 6 28) (.bool false) ?_
          refine ps_k (o_rvSurrounds 6 29) (.bool false) ?_
          refine ps_end ?_
          refine sy_a ⟨#[.agg (Att.c a), .agg (Att.c b), pT ga 0, pT gb 0, .bool false, .agg (Att.c a), .int .i64 a.err, .bool true, .bool true, .agg (Att.c b), .int .i64 b.err, .bool true, .bool true, .bool true, pT ga 0, .int .i64 a.v, pT gb 0, .int .i64 b.v, .bool true, .bool true, .bool true, pT ga 1, .int .i64 a.s, pT gb 1, .int .i64 b.s, .bool false, .bool false, .bool false, undef, undef, undef, undef, undef, .bool false], []⟩ ?_
          refine then_n ?_
          refine sy_ret (by kernel_rfl) ?_
          refine sy_out (.bool false) rfl (by kernel_rfl) ?_
          exact ⟨by unfold surr; simp [c0, c1, c2, c3], K21⟩
      · have e2 := c2
        refine ps_p (o_rvSurrounds 6 13) (.bool false) (eqf ((a.v) : Int) ((b.v) : Int) (by omega)) ?_
        refine ps_k (o_rvSurrounds 6 14) (.bool false) ?_
        refine ps_k (o_rvSurrounds 6 15) (.bool false) ?_
        refine ps_n (o_rvSurrounds 6 16) ?_
        refine ps_n (o_rvSurrounds 6 17) ?_
        refine ps_n (o_rvSurrounds 6 18) ?_
        refine ps_n (o_rvSurrounds 6 19) ?_
        refine ps_n (o_rvSurrounds 6 20) ?_
        refine ps_k (o_rvSurrounds 6 21) (.bool false) ?_
        refine ps_k (o_rvSurrounds 6 22) (.bool false) ?_
        refine ps_n (o_rvSurrounds 6 23) ?_
        refine ps_n (o_rvSurrounds 6 24) ?_
        refine ps_n (o_rvSurrounds 6 25) ?_
        refine ps_n (o_rvSurrounds 6 26) ?_
        refine ps_n (o_rvSurrounds 6 27) ?_
        refine ps_k (o_rvSurrounds 6 28) (.bool false) ?_
        refine ps_k (o_rvSurrounds 6 29) (.bool false) ?_
        refine ps_end ?_
        refine sy_a ⟨#[.agg (Att.c a), .agg (Att.c b), pT ga 0, pT gb 0, .bool false, .agg (Att.c a), .int .i64 a.err, .bool true, .bool true, .agg (Att.c b), .int .i64 b.err, .bool true, .bool true, .bool true, pT ga 0, .int .i64 a.v, pT gb 0, .int .i64 b.v, .bool false, .bool false, .bool false, undef, undef, undef, undef, undef, .bool false, .bool false, undef, undef, undef, undef, undef, .bool false], []⟩ ?_
        refine then_n ?_
        refine sy_ret (by kernel_rfl) ?_
        refine sy_out (.bool false) rfl (by kernel_rfl) ?_
        exact ⟨by unfold surr; simp [c0, c1, c2], K21⟩
    · have e1 := Att.err_no c1
      refine ps_p (o_rvSurrounds 6 6) (.bool false) (eqf ((b.err) : Int) ((0) : Int) (by omega)) ?_
      refine ps_k (o_rvSurrounds 6 7) (.bool false) ?_
      refine ps_k (o_rvSurrounds 6 8) (.bool false) ?_
      refine ps_n (o_rvSurrounds 6 9) ?_
      refine ps_n (o_rvSurrounds 6 10) ?_
      refine ps_n (o_rvSurrounds 6 11) ?_
      refine ps_n (o_rvSurrounds 6 12) ?_
      refine ps_n (o_rvSurrounds 6 13) ?_
      refine ps_k (o_rvSurrounds 6 14) (.bool false) ?_
      refine ps_k (o_rvSurrounds 6 15) (.bool false) ?_
      refine ps_n (o_rvSurrounds 6 16) ?_
      refine ps_n (o_rvSurrounds 6 17) ?_
      refine ps_n (o_rvSurrounds 6 18) ?_
      refine ps_n (o_rvSurrounds 6 19) ?_
      refine ps_n (o_rvSurrounds 6 20) ?_
      refine ps_k (o_rvSurrounds 6 21) (.bool false) ?_
      refine ps_k (o_rvSurrounds 6 22) (.bool false) ?_
      refine ps_n (o_rvSurrounds 6 23) ?_
      refine ps_n (o_rvSurrounds 6 24) ?_
      refine ps_n (o_rvSurrounds 6 25) ?_
      refine ps_n (o_rvSurrounds 6 26) ?_
      refine ps_n (o_rvSurrounds 6 27) ?_
      refine ps_k (o_rvSurrounds 6 28) (.bool false) ?_
      refine ps_k (o_rvSurrounds 6 29) (.bool false) ?_
      refine ps_end ?_
      refine sy_a ⟨#[.agg (Att.c a), .agg (Att.c b), pT ga 0, pT gb 0, .bool false, .agg (Att.c a), .int .i64 a.err, .bool true, .bool true, .agg (Att.c b), .int .i64 b.err, .bool false, .bool false, .bool false, undef, undef, undef, undef, undef, .bool false, .bool false, undef, undef, undef, undef, undef, .bool false, .bool false, undef, undef, undef, undef, undef, .bool false], []⟩ ?_
      refine then_n ?_
      refine sy_ret (by kernel_rfl) ?_
      refine sy_out (.bool false) rfl (by kernel_rfl) ?_
      exact ⟨by unfold surr; simp [c0, c1], K21⟩
  · have e0 := Att.err_no c0
    refine ps_p (o_rvSurrounds 6 2) (.bool false) (eqf ((a.err) : Int) ((0) : Int) (by omega)) ?_
    refine ps_k (o_rvSurrounds 6 3) (.bool false) ?_
    refine ps_n (o_rvSurrounds 6 4) ?_
    refine ps_n (o_rvSurrounds 6 5) ?_
    refine ps_n (o_rvSurrounds 6 6) ?_
    refine ps_k (o_rvSurrounds 6 7) (.bool false) ?_
    refine ps_k (o_rvSurrounds 6 8) (.bool false) ?_
    refine ps_n (o_rvSurrounds 6 9) ?_
    refine ps_n (o_rvSurrounds 6 10) ?_
    refine ps_n (o_rvSurrounds 6 11) ?_
    refine ps_n (o_rvSurrounds 6 12) ?_
    refine ps_n (o_rvSurrounds 6 13) ?_
    refine ps_k (o_rvSurrounds 6 14) (.bool false) ?_
    refine ps_k (o_rvSurrounds 6 15) (.bool false) ?_
    refine ps_n (o_rvSurrounds 6 16) ?_
    refine ps_n (o_rvSurrounds 6 17) ?_
    refine ps_n (o_rvSurrounds 6 18) ?_
    refine ps_n (o_rvSurrounds 6 19) ?_
    refine ps_n (o_rvSurrounds 6 20) ?_
    refine ps_k (o_rvSurrounds 6 21) (.bool false) ?_
    refine ps_k (o_rvSurrounds 6 22) (.bool false) ?_
    refine ps_n (o_rvSurrounds 6 23) ?_
    refine ps_n (o_rvSurrounds 6 24) ?_
    refine ps_n (o_rvSurrounds 6 25) ?_
    refine ps_n (o_rvSurrounds 6 26) ?_
    refine ps_n (o_rvSurrounds 6 27) ?_
    refine ps_k (o_rvSurrounds 6 28) (.bool false) ?_
    refine ps_k (o_rvSurrounds 6 29) (.bool false) ?_
    refine ps_end ?_
    refine sy_a ⟨#[.agg (Att.c a), .agg (Att.c b), pT ga 0, pT gb 0, .bool false, .agg (Att.c a), .int .i64 a.err, .bool false, .bool false, undef, undef, undef, .bool false, .bool false, undef, undef, undef, undef, undef, .bool false, .bool false, undef, undef, undef, undef, undef, .bool false, .bool false, undef, undef, undef, undef, undef, .bool false], []⟩ ?_
    refine then_n ?_
    refine sy_ret (by kernel_rfl) ?_
    refine sy_out (.bool false) rfl (by kernel_rfl) ?_
    exact ⟨by unfold surr; simp [c0], K16⟩
end Go.Proofs.Ytenaakldccjnbaa
