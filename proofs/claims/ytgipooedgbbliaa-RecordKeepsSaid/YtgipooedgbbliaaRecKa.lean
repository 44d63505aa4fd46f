/-
  Records: what was put is there until it is left behind (printed by rec13.py). Conditions: none.
-/
import Derived.Test.YtgipooedgbbliaaRecZ
import Derived.Test.YtgipooedgbbliaaRecJ
import Derived.Test.YtgipooedgbbliaaRecR
import Derived.Test.YtgipooedgbbliaaPickOk
namespace Go.Proofs.Ytgipooedgbbliaa
open Go Go.RowKit Go.Own Go.Shelf
theorem pick_nat (x : Int) (n : Nat) (w : World) (hx : i64b x) (h1 : 0 < n) (h2 : n ≤ 1000) : Calls Try.prog 26 #[.int .i64 x, .int .i64 ((n : Nat) : Int)] w fun e w' => ∃ t : Nat, e = .returned (.int .i64 ((t : Nat) : Int)) ∧ t < n ∧ w = w' :=
  (pick_ok x n w hx (by omega)).mono fun e w' ⟨h3, h4⟩ => by
    rw [if_neg (by omega)] at h3
    have h5 := Int.emod_nonneg x (show (n : Int) ≠ 0 by omega)
    have h6 := Int.emod_lt_of_pos x (show (0 : Int) < n by omega)
    exact ⟨(x % n).toNat, by rw [h3, Int.toNat_of_nonneg h5], by omega, h4⟩

noncomputable def part_RecordKeeps (n : Nat) : Code := partOf Try.f6 n
noncomputable abbrev o_RecordKeeps (n k : Nat) : Oper := (opsAt (part_RecordKeeps n)).getD k default
set_option maxRecDepth 100000 in
set_option maxHeartbeats 4000000 in
theorem recordKeeps_long (wi bl : Int) (hwi : i64b wi) (hbl : i64b bl) (vl : Value) (l : List RAct) (w : World) (Ha : Sl w 76 RAct.cl vl l) (Hok : ∀ x ∈ l, x.Ok) (hl : 80 < l.length) :
    Calls Try.prog 6 #[.int .i64 wi, .int .i64 bl, vl] w (fun e w' => e = .returned (.bool true) ∧ Keeps Nob w w') := by
  have hal := Ha.len_le
  have K0 : Keeps Nob w w := Keeps.refl _ _
  refine sy_enter (part_RecordKeeps 1) ⟨#[.int .i64 wi, .int .i64 bl, vl, undef, undef, undef, undef, undef, undef, undef, undef, undef, undef, undef, undef, undef, undef, undef, undef, undef, undef, undef, undef, undef, undef, undef, undef, undef, undef, undef, undef, undef, undef, undef, undef, undef, undef, undef, undef, undef, undef, undef, undef, undef, undef, undef, undef, undef, undef, undef, undef, undef, undef, undef, undef, undef, undef, undef, undef, undef, undef, undef, undef, undef, undef, undef, undef, undef, undef, undef, undef, undef, undef, undef, undef, undef, undef, undef, undef, undef, undef, undef, undef, undef, undef, undef, undef, undef, undef, undef, undef, undef, undef, undef, undef, undef, undef, undef, undef, undef, undef, undef, undef, undef, undef, undef, undef, undef, undef, undef, undef, undef, undef, undef, undef, undef, undef, undef, undef, undef, undef, undef, undef, undef, undef, undef, undef, undef, undef, undef, undef, undef, undef, undef, undef, undef, undef, undef, undef, undef, undef, undef, undef, undef, undef, undef, undef, undef, undef, undef, undef, undef, undef, undef, undef, undef, undef, undef, undef, undef, undef, undef], []⟩ Try.func6 (by kernel_rfl) (by kernel_rfl) ?_
  refine sy_sq (part_RecordKeeps 2) (part_RecordKeeps 3) ?_
  refine sy_reg ?_
  refine rg_plain 0 (opsAt (part_RecordKeeps 2)) [0] (by kernel_rfl) (by kernel_rfl) ?_
  refine ps_k (o_RecordKeeps 2 0) (.bool false) ?_
  refine ps_end ?_
  refine then_n ?_
  refine sy_sq (part_RecordKeeps 6) (part_RecordKeeps 7) ?_
  refine sy_reg ?_
  refine rg_plain 1 (opsAt (part_RecordKeeps 6)) [0, 1] (by kernel_rfl) (by kernel_rfl) ?_
  refine ps_c (o_RecordKeeps 6 0) 3 #[] Try.func3 ((recordKnown_ok _).mono ?_)
  rintro e V1 ⟨rfl, kV1⟩
  refine ⟨_, rfl, ?_⟩
  have K2 := K0.nn kV1
  have z3 := kV1.size
  refine ps_k (o_RecordKeeps 6 1) (.bool true) ?_
  refine ps_end ?_
  refine then_n ?_
  refine sy_sq (part_RecordKeeps 14) (part_RecordKeeps 15) ?_
  refine sy_sq (part_RecordKeeps 28) (part_RecordKeeps 29) ?_
  refine sy_reg ?_
  refine rg_plain 2 (opsAt (part_RecordKeeps 28)) [0, 1, 2] (by kernel_rfl) (by kernel_rfl) ?_
  refine ps_k (o_RecordKeeps 28 0) (vl) ?_
  refine ps_p (o_RecordKeeps 28 1) (iN l.length) (exec_len_sl (.tmp 20) 46 51 (by kernel_rfl) Try.underlying46 (by kernel_rfl) (Ha.keepsN K2)) ?_
  refine ps_p (o_RecordKeeps 28 2) (.bool true) (dct ((((l.length : Nat) : Int)) > ((80) : Int)) (by omega)) ?_
  refine ps_end ?_
  refine then_n ?_
  refine sy_ys (.tmp 22) (part_RecordKeeps 58) (part_RecordKeeps 59) ?_
  refine sy_sq (part_RecordKeeps 116) (part_RecordKeeps 117) ?_
  refine sy_reg ?_
  refine rg_plain 3 (opsAt (part_RecordKeeps 116)) [0, 1] (by kernel_rfl) (by kernel_rfl) ?_
  refine ps_k (o_RecordKeeps 116 0) (.bool true) ?_
  refine ps_k (o_RecordKeeps 116 1) (.bool true) ?_
  refine ps_end ?_
  refine then_n ?_
  refine sy_ret (by kernel_rfl) ?_
  refine then_r ?_
  refine sy_out (.bool true) rfl (by kernel_rfl) ?_
  exact ⟨rfl, K2⟩
theorem ract_one {x : RAct} (_ : x.Ok) : ∀ u ∈ x.cl, u.oneCell' = true := by
  intro u hu
  simp only [RAct.cl, List.mem_cons, List.mem_append] at hu
  rcases hu with rfl | rfl | rfl | rfl | rfl | hu | hu
  · rfl
  · rfl
  · rfl
  · rfl
  · rfl
  · exact Att.cl_one _ hu
  · exact Pro.cl_one _ hu
set_option maxRecDepth 100000 in
set_option maxHeartbeats 4000000 in
theorem recordKeeps_fine (wi bl : Int) (hwi : i64b wi) (hbl : i64b bl) (vl : Value) (l : List RAct) (w : World) (Ha : Sl w 76 RAct.cl vl l) (Hok : ∀ x ∈ l, x.Ok) (hl : ¬ 80 < l.length) :
    Calls Try.prog 6 #[.int .i64 wi, .int .i64 bl, vl] w (fun e w' => e = .returned (.bool true) ∧ Keeps Nob w w') := by
  have hal := Ha.len_le
  have rini : Row w 28 36 (.slice none 0 0) ([] : List Att).length (([] : List Att).flatMap Att.cl) := World.ownsRow_nil _ _ _ _
  have rinj : Row w 35 35 (.slice none 0 0) ([] : List Pro).length (([] : List Pro).flatMap Pro.cl) := World.ownsRow_nil _ _ _ _
  obtain ⟨ia, hia0, hia1, hia2, hia3⟩ := info_parts att_info0
  obtain ⟨ib, hib0, hib1, hib2, hib3⟩ := info_parts pro_info0
  have K0 : Keeps Nob w w := Keeps.refl _ _
  refine sy_enter (part_RecordKeeps 1) ⟨#[.int .i64 wi, .int .i64 bl, vl, undef, undef, undef, undef, undef, undef, undef, undef, undef, undef, undef, undef, undef, undef, undef, undef, undef, undef, undef, undef, undef, undef, undef, undef, undef, undef, undef, undef, undef, undef, undef, undef, undef, undef, undef, undef, undef, undef, undef, undef, undef, undef, undef, undef, undef, undef, undef, undef, undef, undef, undef, undef, undef, undef, undef, undef, undef, undef, undef, undef, undef, undef, undef, undef, undef, undef, undef, undef, undef, undef, undef, undef, undef, undef, undef, undef, undef, undef, undef, undef, undef, undef, undef, undef, undef, undef, undef, undef, undef, undef, undef, undef, undef, undef, undef, undef, undef, undef, undef, undef, undef, undef, undef, undef, undef, undef, undef, undef, undef, undef, undef, undef, undef, undef, undef, undef, undef, undef, undef, undef, undef, undef, undef, undef, undef, undef, undef, undef, undef, undef, undef, undef, undef, undef, undef, undef, undef, undef, undef, undef, undef, undef, undef, undef, undef, undef, undef, undef, undef, undef, undef, undef, undef, undef, undef, undef, undef, undef, undef], []⟩ Try.func6 (by kernel_rfl) (by kernel_rfl) ?_
  refine sy_sq (part_RecordKeeps 2) (part_RecordKeeps 3) ?_
  refine sy_reg ?_
  refine rg_plain 0 (opsAt (part_RecordKeeps 2)) [0] (by kernel_rfl) (by kernel_rfl) ?_
  refine ps_k (o_RecordKeeps 2 0) (.bool false) ?_
  refine ps_end ?_
  refine then_n ?_
  refine sy_sq (part_RecordKeeps 6) (part_RecordKeeps 7) ?_
  refine sy_reg ?_
  refine rg_plain 1 (opsAt (part_RecordKeeps 6)) [0, 1] (by kernel_rfl) (by kernel_rfl) ?_
  refine ps_c (o_RecordKeeps 6 0) 3 #[] Try.func3 ((recordKnown_ok _).mono ?_)
  rintro e V4 ⟨rfl, kV4⟩
  refine ⟨_, rfl, ?_⟩
  have h5 : Row V4 28 36 (.slice none 0 0) ((([] : List Att)).length) ((([] : List Att)).flatMap Att.cl) := rini.keeps kV4 (fun j hj _ => by cases hj)
  have h6 : Row V4 35 35 (.slice none 0 0) ((([] : List Pro)).length) ((([] : List Pro)).flatMap Pro.cl) := rinj.keeps kV4 (fun j hj _ => by cases hj)
  have K7 := K0.nn kV4
  have z8 := kV4.size
  refine ps_k (o_RecordKeeps 6 1) (.bool true) ?_
  refine ps_end ?_
  refine then_n ?_
  refine sy_sq (part_RecordKeeps 14) (part_RecordKeeps 15) ?_
  refine sy_sq (part_RecordKeeps 28) (part_RecordKeeps 29) ?_
  refine sy_reg ?_
  refine rg_plain 2 (opsAt (part_RecordKeeps 28)) [0, 1, 2] (by kernel_rfl) (by kernel_rfl) ?_
  refine ps_k (o_RecordKeeps 28 0) (vl) ?_
  refine ps_p (o_RecordKeeps 28 1) (iN l.length) (exec_len_sl (.tmp 20) 46 51 (by kernel_rfl) Try.underlying46 (by kernel_rfl) (Ha.keepsN K7)) ?_
  refine ps_p (o_RecordKeeps 28 2) (.bool false) (dcf ((((l.length : Nat) : Int)) > ((80) : Int)) (by omega)) ?_
  refine ps_end ?_
  refine then_n ?_
  refine sy_n (.tmp 22) (part_RecordKeeps 58) (part_RecordKeeps 59) ?_
  refine sy_sk ?_
  refine then_n ?_
  refine sy_sq (part_RecordKeeps 30) (part_RecordKeeps 31) ?_
  refine sy_reg ?_
  refine rg_plain 4 (opsAt (part_RecordKeeps 30)) [0, 1, 2, 3, 4, 5, 6, 7, 8, 9, 10, 11] (by kernel_rfl) (by kernel_rfl) ?_
  refine ps_k (o_RecordKeeps 30 0) (.int .i64 wi) ?_
  refine ps_c (o_RecordKeeps 30 1) 26 #[.int .i64 wi, .int .i64 8] Try.func26 ((pick_nat wi 8 _ hwi (by decide) (by decide)).mono ?_)
  rintro e w1 ⟨tna, rfl, hlt_tna, rfl⟩
  refine ⟨_, rfl, ?_⟩
  refine ps_p (o_RecordKeeps 30 2) (iN (1 + tna)) (exec_cast (congrArg (Value.int .i64) (wrapN (1 + tna) (by omega))) (by kernel_rfl)) ?_
  refine ps_k (o_RecordKeeps 30 3) (.int .i64 bl) ?_
  refine ps_c (o_RecordKeeps 30 4) 26 #[.int .i64 bl, .int .i64 20] Try.func26 ((pick_nat bl 20 _ hbl (by decide) (by decide)).mono ?_)
  rintro e w1 ⟨tnb, rfl, hlt_tnb, rfl⟩
  refine ⟨_, rfl, ?_⟩
  refine ps_p (o_RecordKeeps 30 5) (iN (1 + tnb)) (exec_cast (congrArg (Value.int .i64) (wrapN (1 + tnb) (by omega))) (by kernel_rfl)) ?_
  refine ps_c (o_RecordKeeps 30 6) 18 #[.int .i64 1, iN (1 + tna), iN (1 + tnb)] Try.func18 ((qNew_yes 1 ((1 + tna : Nat) : Int) ((1 + tnb : Nat) : Int) _ (by unfold newOk; omega)).mono ?_)
  rintro e V9 ⟨r, rfl, q0, nr, kV9⟩
  have q0w := q0.older K7.size
  refine ⟨_, rfl, ?_⟩
  have h10 : Row V9 28 36 (.slice none 0 0) ((([] : List Att)).length) ((([] : List Att)).flatMap Att.cl) := h5.keeps kV9 (fun j hj _ => by cases hj)
  have h11 : Row V9 35 35 (.slice none 0 0) ((([] : List Pro)).length) ((([] : List Pro)).flatMap Pro.cl) := h6.keeps kV9 (fun j hj _ => by cases hj)
  have K12 := K7.nn kV9
  have z13 := kV9.size
  refine ps_k (o_RecordKeeps 30 7) (.tuple #[pT r 0, .int .i64 0]) ?_
  refine ps_k (o_RecordKeeps 30 8) (pT r 0) ?_
  refine ps_k (o_RecordKeeps 30 9) (.int .i64 0) ?_
  refine ps_k (o_RecordKeeps 30 10) (pT r 0) ?_
  refine ps_k (o_RecordKeeps 30 11) (.int .i64 0) ?_
  refine ps_end ?_
  refine then_n ?_
  refine sy_sq (part_RecordKeeps 62) (part_RecordKeeps 63) ?_
  refine sy_sq (part_RecordKeeps 124) (part_RecordKeeps 125) ?_
  refine sy_reg ?_
  refine rg_plain 5 (opsAt (part_RecordKeeps 124)) [0, 1, 2, 3, 4, 5] (by kernel_rfl) (by kernel_rfl) ?_
  refine ps_k (o_RecordKeeps 124 0) (.int .i64 0) ?_
  refine ps_k (o_RecordKeeps 124 1) (.bool false) ?_
  refine ps_k (o_RecordKeeps 124 2) (.bool false) ?_
  refine ps_k (o_RecordKeeps 124 3) (pT r 0) ?_
  refine ps_k (o_RecordKeeps 124 4) (.bool false) ?_
  refine ps_k (o_RecordKeeps 124 5) (.bool false) ?_
  refine ps_end ?_
  refine sy_a ⟨#[.int .i64 wi, .int .i64 bl, vl, undef, undef, undef, .bool false, .bool true, pT r 0, .int .i64 0, undef, undef, undef, undef, undef, undef, undef, undef, undef, .bool true, vl, iN l.length, .bool false, undef, .tuple #[pT r 0, .int .i64 0], .int .i64 wi, iN tna, iN (1 + tna), .int .i64 bl, iN tnb, iN (1 + tnb), .tuple #[pT r 0, .int .i64 0], pT r 0, .int .i64 0, .int .i64 0, .bool false, .bool false, pT r 0, .bool false, .bool false, undef, undef, undef, undef, undef, undef, undef, undef, undef, undef, undef, undef, undef, undef, undef, undef, undef, undef, undef, undef, undef, undef, undef, undef, undef, undef, undef, undef, undef, undef, undef, undef, undef, undef, undef, undef, undef, undef, undef, undef, undef, undef, undef, undef, undef, undef, undef, undef, undef, undef, undef, undef, undef, undef, undef, undef, undef, undef, undef, undef, undef, undef, undef, undef, undef, undef, undef, undef, undef, undef, undef, undef, undef, undef, undef, undef, undef, undef, undef, undef, undef, undef, undef, undef, undef, undef, undef, undef, undef, undef, undef, undef, undef, undef, undef, undef, undef, undef, undef, undef, undef, undef, undef, undef, undef, undef, undef, undef, undef, undef, undef, undef, undef, undef, undef, undef, undef, undef, undef, undef, undef, undef], []⟩ ?_
  refine then_n ?_
  refine sy_n (.tmp 39) (part_RecordKeeps 250) (part_RecordKeeps 251) ?_
  refine sy_sk ?_
  refine then_n ?_
  refine sy_sq (part_RecordKeeps 126) (part_RecordKeeps 127) ?_
  refine sy_reg ?_
  refine rg_plain 7 (opsAt (part_RecordKeeps 126)) [0] (by kernel_rfl) (by kernel_rfl) ?_
  obtain ⟨V14, eV14, hb, ehb, h15, kV14⟩ := alloc_step V9 (#[.slice none 0 0, .slice none 0 0]) 66
  have n16 : w.heap.size ≤ hb := ehb ▸ K12.size
  refine ps_r (o_RecordKeeps 126 0) (pT hb 0) (w' := V14) (by rw [← eV14, ← ehb]; exact exec_alloc0 66 (by kernel_rfl) (.agg (#[.slice none 0 0, .slice none 0 0])) (by kernel_rfl)) ?_
  clear eV14
  have h17 : Row V14 28 36 (.slice none 0 0) ((([] : List Att)).length) ((([] : List Att)).flatMap Att.cl) := h10.keeps kV14 (fun j hj _ => by cases hj)
  have h18 : Row V14 35 35 (.slice none 0 0) ((([] : List Pro)).length) ((([] : List Pro)).flatMap Pro.cl) := h11.keeps kV14 (fun j hj _ => by cases hj)
  have h19 : RSt w V14 r 1 (⟨0, Int.toNat (((1 + tna : Nat) : Int)), 1, Int.toNat (((1 + tnb : Nat) : Int)), fun _ => none, fun _ => none⟩) := q0w.keepsN kV14
  have K20 := K12.nn kV14
  have z21 := kV14.size
  refine ps_end ?_
  refine then_n ?_
  refine sy_sq (part_RecordKeeps 254) (part_RecordKeeps 255) ?_
  refine sy_reg ?_
  refine rg_plain 8 (opsAt (part_RecordKeeps 254)) [0, 1] (by kernel_rfl) (by kernel_rfl) ?_
  refine ps_k (o_RecordKeeps 254 0) (.int .i64 0) ?_
  refine ps_k (o_RecordKeeps 254 1) (.int .i64 1) ?_
  refine ps_end ?_
  refine then_n ?_
  refine sy_sq (part_RecordKeeps 510) (part_RecordKeeps 511) ?_
  refine sy_sq (part_RecordKeeps 1020) (part_RecordKeeps 1021) ?_
  refine sy_reg ?_
  refine rg_plain 9 (opsAt (part_RecordKeeps 1020)) [0] (by kernel_rfl) (by kernel_rfl) ?_
  refine ps_k (o_RecordKeeps 1020 0) (.int .i64 0) ?_
  refine ps_end ?_
  refine then_n ?_
  refine sy_bk 0 (part_RecordKeeps 2042) ?_
  refine sy_loop (part_RecordKeeps 4084) (fun a V => ∃ (i : Nat) (s : RSpec) (va : Value) (vb : Value) (wa : List Att) (wp : List Pro) (uu : Nat → Value), (a = ⟨#[.int .i64 wi, .int .i64 bl, vl, undef, undef, undef, uu 0, .bool true, pT r 0, .int .i64 0, pT hb 0, iN s.la, iN s.lb, iN i, uu 1, uu 2, uu 3, uu 4, uu 5, .bool true, vl, iN l.length, .bool false, undef, .tuple #[pT r 0, .int .i64 0], .int .i64 wi, iN tna, iN (1 + tna), .int .i64 bl, iN tnb, iN (1 + tnb), .tuple #[pT r 0, .int .i64 0], pT r 0, .int .i64 0, .int .i64 0, .bool false, .bool false, pT r 0, .bool false, .bool false, uu 6, uu 7, uu 8, uu 9, uu 10, uu 11, uu 12, uu 13, uu 14, uu 15, uu 16, uu 17, uu 18, uu 19, uu 20, uu 21, uu 22, uu 23, uu 24, uu 25, uu 26, uu 27, uu 28, uu 29, uu 30, uu 31, uu 32, uu 33, uu 34, uu 35, uu 36, uu 37, uu 38, uu 39, uu 40, uu 41, uu 42, uu 43, uu 44, uu 45, uu 46, uu 47, uu 48, uu 49, uu 50, uu 51, uu 52, uu 53, uu 54, uu 55, uu 56, uu 57, uu 58, uu 59, uu 60, uu 61, uu 62, uu 63, uu 64, uu 65, uu 66, uu 67, uu 68, uu 69, uu 70, uu 71, uu 72, uu 73, uu 74, uu 75, uu 76, uu 77, uu 78, uu 79, uu 80, uu 81, uu 82, uu 83, uu 84, uu 85, uu 86, uu 87, uu 88, uu 89, uu 90, uu 91, uu 92, uu 93, uu 94, uu 95, uu 96, uu 97, uu 98, uu 99, uu 100, uu 101, uu 102, uu 103, uu 104, uu 105, uu 106, uu 107, uu 108, uu 109, uu 110, uu 111, uu 112, uu 113, uu 114, uu 115, uu 116, uu 117, uu 118, uu 119, uu 120, uu 121, uu 122, uu 123, uu 124, uu 125, uu 126, undef], []⟩) ∧ (i ≤ l.length) ∧ (KInv wa wp s) ∧ (s.la ≤ 5 * i) ∧ (s.lb ≤ 1 + 9 * i) ∧ (1 ≤ s.lb) ∧ (wa.length ≤ i) ∧ (wp.length ≤ i) ∧ (va ≠ .slice none 0 0 → 0 < wa.length) ∧ (vb ≠ .slice none 0 0 → 0 < wp.length) ∧ (Row V 28 36 va wa.length (wa.flatMap Att.cl)) ∧ (Row V 35 35 vb wp.length (wp.flatMap Pro.cl)) ∧ (RSt w V r 1 s) ∧ (V.heap[hb]? = some (.cells (#[va, vb]) 66 (0, 0))) ∧ (Keeps Nob w V) ∧ (NewFrom w.heap.size va) ∧ (NewFrom w.heap.size vb)) (fun a _ => l.length - (intOf (a.tmps.getD 13 undef)).toNat) (by kernel_rfl) ?_ ?_
  · exact ⟨0, ⟨0, Int.toNat (((1 + tna : Nat) : Int)), 1, Int.toNat (((1 + tnb : Nat) : Int)), fun _ => none, fun _ => none⟩, .slice none 0 0, .slice none 0 0, [], [], (fun k => ([.bool false, undef, undef, undef, undef, undef, undef, undef, undef, undef, undef, undef, undef, undef, undef, undef, undef, undef, undef, undef, undef, undef, undef, undef, undef, undef, undef, undef, undef, undef, undef, undef, undef, undef, undef, undef, undef, undef, undef, undef, undef, undef, undef, undef, undef, undef, undef, undef, undef, undef, undef, undef, undef, undef, undef, undef, undef, undef, undef, undef, undef, undef, undef, undef, undef, undef, undef, undef, undef, undef, undef, undef, undef, undef, undef, undef, undef, undef, undef, undef, undef, undef, undef, undef, undef, undef, undef, undef, undef, undef, undef, undef, undef, undef, undef, undef, undef, undef, undef, undef, undef, undef, undef, undef, undef, undef, undef, undef, undef, undef, undef, undef, undef, undef, undef, undef, undef, undef, undef, undef, undef, undef, undef, undef, undef, undef, undef] : List Value).getD k undef), by kernel_rfl, Nat.zero_le _, KInv.start _ _, Nat.zero_le _, Nat.le_refl _, Nat.le_refl _, Nat.le_refl _, Nat.le_refl _, fun h => absurd rfl h, fun h => absurd rfl h, h17, h18, h19, h15, K20, NewFrom.nil _, NewFrom.nil _⟩
  · rintro a V22 ⟨i, s, va, vb, wa, wp, uu, rfl, hi, HI, hsl, hsf, hsg, hwa, hwp, hva, hvb, h23, h24, h25, h26, K27, hnwa, hnwb⟩
    rcases keeps_cases l i s hi with ⟨x, hx, lt_i, hk, he⟩ | ⟨x, hx, lt_i, hk, he⟩ | ⟨x, hx, lt_i, hk, he⟩ | ⟨x, hx, lt_i, hk, he⟩ | ⟨x, hx, lt_i, hk⟩ | ⟨x, hx, lt_i, hk, hk1, hk2⟩ | hk
    · have hok_ : x.one.k = x.k := rfl
      have hxo := Hok x (List.mem_of_getElem? hx)
      have hx1 := RAct.one_ok hxo
      obtain ⟨b_x, o_x, c_x, hv_x, hb_x, _⟩ := Ha.at_ i _ hx
      obtain ⟨_, _, _, _, hha, hhb, _, _⟩ := h25.ok
      skip
      refine sy_sq (part_RecordKeeps 8168) (part_RecordKeeps 8169) ?_
      refine sy_sq (part_RecordKeeps 16336) (part_RecordKeeps 16337) ?_
      refine sy_reg ?_
      refine rg_plain 10 (opsAt (part_RecordKeeps 16336)) [0, 1, 2, 3] (by kernel_rfl) (by kernel_rfl) ?_
      refine ps_k (o_RecordKeeps 16336 0) (iN i) ?_
      refine ps_k (o_RecordKeeps 16336 1) (vl) ?_
      refine ps_p (o_RecordKeeps 16336 2) (iN l.length) (exec_len_sl (.tmp 41) 46 51 (by kernel_rfl) Try.underlying46 (by kernel_rfl) (Ha.keepsN K27)) ?_
      refine ps_p (o_RecordKeeps 16336 3) (.bool true) (dct ((((i : Nat) : Int)) < (((l.length : Nat) : Int))) (by omega)) ?_
      refine ps_end ?_
      refine then_n ?_
      refine sy_ys (.tmp 43) (part_RecordKeeps 32674) (part_RecordKeeps 32675) ?_
      refine sy_sk ?_
      refine then_n ?_
      refine sy_sq (part_RecordKeeps 16338) (part_RecordKeeps 16339) ?_
      refine sy_bk 1 (part_RecordKeeps 32676) ?_
      refine sy_sq (part_RecordKeeps 65352) (part_RecordKeeps 65353) ?_
      refine sy_reg ?_
      refine rg_plain 12 (opsAt (part_RecordKeeps 65352)) [0, 1, 2, 3, 4, 5] (by kernel_rfl) (by kernel_rfl) ?_
      refine ps_k (o_RecordKeeps 65352 0) (vl) ?_
      refine ps_k (o_RecordKeeps 65352 1) (iN i) ?_
      refine ps_p (o_RecordKeeps 65352 2) (pT b_x (o_x + i * 76)) (exec_indexAt_slice 46 (.tmp 46) (.tmp 47) (by kernel_rfl) b_x o_x l.length c_x (Eq.trans (b := vl) (by kernel_rfl) hv_x) .i64 i (by kernel_rfl) _ 76 Try.underlying46 (by kernel_rfl) (by omega)) ?_
      refine ps_p (o_RecordKeeps 65352 3) (.agg (RAct.c x)) (exec_load_mid 51 (.tmp 48) (by kernel_rfl) b_x (o_x + i * 76) (by kernel_rfl) (RAct.cl x) _ (Sl.range (Ha.keepsN K27) hx hv_x) Try.underlying51 rfl (by rw [RAct.cl_len hxo]; kernel_rfl)) ?_
      obtain ⟨V28, eV28, xb, exb, h29, kV28⟩ := alloc_step V22 (#[.int .i64 0, .int .i64 0, .int .i64 0, .int .i64 0, .int .i64 0, .int .i64 0, .int .i64 0, .int .i64 0, .int .u8 0, .int .u8 0, .int .u8 0, .int .u8 0, .int .u8 0, .int .u8 0, .int .u8 0, .int .u8 0, .int .u8 0, .int .u8 0, .int .u8 0, .int .u8 0, .int .u8 0, .int .u8 0, .int .u8 0, .int .u8 0, .int .u8 0, .int .u8 0, .int .u8 0, .int .u8 0, .int .u8 0, .int .u8 0, .int .u8 0, .int .u8 0, .int .u8 0, .int .u8 0, .int .u8 0, .int .u8 0, .int .u8 0, .int .u8 0, .int .u8 0, .int .u8 0, .int .u64 0, .int .i64 0, .int .i64 0, .int .u8 0, .int .u8 0, .int .u8 0, .int .u8 0, .int .u8 0, .int .u8 0, .int .u8 0, .int .u8 0, .int .u8 0, .int .u8 0, .int .u8 0, .int .u8 0, .int .u8 0, .int .u8 0, .int .u8 0, .int .u8 0, .int .u8 0, .int .u8 0, .int .u8 0, .int .u8 0, .int .u8 0, .int .u8 0, .int .u8 0, .int .u8 0, .int .u8 0, .int .u8 0, .int .u8 0, .int .u8 0, .int .u8 0, .int .u8 0, .int .u8 0, .int .u8 0, .int .u64 0]) 51
      have n30 : hb < xb := exb ▸ lt_of_block h26
      have n31 : w.heap.size ≤ xb := exb ▸ K27.size
      refine ps_r (o_RecordKeeps 65352 4) (pT xb 0) (w' := V28) (by rw [← eV28, ← exb]; exact exec_alloc0 51 (by kernel_rfl) (.agg (#[.int .i64 0, .int .i64 0, .int .i64 0, .int .i64 0, .int .i64 0, .int .i64 0, .int .i64 0, .int .i64 0, .int .u8 0, .int .u8 0, .int .u8 0, .int .u8 0, .int .u8 0, .int .u8 0, .int .u8 0, .int .u8 0, .int .u8 0, .int .u8 0, .int .u8 0, .int .u8 0, .int .u8 0, .int .u8 0, .int .u8 0, .int .u8 0, .int .u8 0, .int .u8 0, .int .u8 0, .int .u8 0, .int .u8 0, .int .u8 0, .int .u8 0, .int .u8 0, .int .u8 0, .int .u8 0, .int .u8 0, .int .u8 0, .int .u8 0, .int .u8 0, .int .u8 0, .int .u8 0, .int .u64 0, .int .i64 0, .int .i64 0, .int .u8 0, .int .u8 0, .int .u8 0, .int .u8 0, .int .u8 0, .int .u8 0, .int .u8 0, .int .u8 0, .int .u8 0, .int .u8 0, .int .u8 0, .int .u8 0, .int .u8 0, .int .u8 0, .int .u8 0, .int .u8 0, .int .u8 0, .int .u8 0, .int .u8 0, .int .u8 0, .int .u8 0, .int .u8 0, .int .u8 0, .int .u8 0, .int .u8 0, .int .u8 0, .int .u8 0, .int .u8 0, .int .u8 0, .int .u8 0, .int .u8 0, .int .u8 0, .int .u64 0])) (by kernel_rfl)) ?_
      clear eV28
      have h32 : Row V28 28 36 va wa.length (wa.flatMap Att.cl) := h23.keeps kV28 (fun _ _ x => x)
      have h33 : Row V28 35 35 vb wp.length (wp.flatMap Pro.cl) := h24.keeps kV28 (fun _ _ x => x)
      have h34 : RSt w V28 r 1 s := h25.keepsN kV28
      have h35 := kV28.bk h26
      have K36 := K27.nn kV28
      have z37 := kV28.size
      obtain ⟨V38, eV38, kV38⟩ := rowset_step V28 xb ((RAct.c x))
      have h39 : V38.heap[xb]? = some (.cells (RAct.c x) 51 (0, 0)) := eV38 ▸ setRow_heap _ _ _ _ _ _ h29
      refine ps_s (o_RecordKeeps 65352 5) (w' := V38) (by rw [← eV38]; exact exec_store_row 51 (.tmp 14) (.tmp 49) (by kernel_rfl) xb ((RAct.c x)) (by kernel_rfl) (by kernel_rfl) 51 (#[.int .i64 0, .int .i64 0, .int .i64 0, .int .i64 0, .int .i64 0, .int .i64 0, .int .i64 0, .int .i64 0, .int .u8 0, .int .u8 0, .int .u8 0, .int .u8 0, .int .u8 0, .int .u8 0, .int .u8 0, .int .u8 0, .int .u8 0, .int .u8 0, .int .u8 0, .int .u8 0, .int .u8 0, .int .u8 0, .int .u8 0, .int .u8 0, .int .u8 0, .int .u8 0, .int .u8 0, .int .u8 0, .int .u8 0, .int .u8 0, .int .u8 0, .int .u8 0, .int .u8 0, .int .u8 0, .int .u8 0, .int .u8 0, .int .u8 0, .int .u8 0, .int .u8 0, .int .u8 0, .int .u64 0, .int .i64 0, .int .i64 0, .int .u8 0, .int .u8 0, .int .u8 0, .int .u8 0, .int .u8 0, .int .u8 0, .int .u8 0, .int .u8 0, .int .u8 0, .int .u8 0, .int .u8 0, .int .u8 0, .int .u8 0, .int .u8 0, .int .u8 0, .int .u8 0, .int .u8 0, .int .u8 0, .int .u8 0, .int .u8 0, .int .u8 0, .int .u8 0, .int .u8 0, .int .u8 0, .int .u8 0, .int .u8 0, .int .u8 0, .int .u8 0, .int .u8 0, .int .u8 0, .int .u8 0, .int .u8 0, .int .u64 0]) h29 (by rw [RAct.c_size hxo]; kernel_rfl) (by rw [RAct.c_size hxo]; rfl) (by rw [RAct.c, List.all_toArray]; exact List.all_eq_true.2 (ract_one hxo))) ?_
      clear eV38
      have h40 : Row V38 28 36 va wa.length (wa.flatMap Att.cl) := h32.keeps kV38 (fun j hj e => Row.ne h32 h29 (by decide) ((show j = xb from e) ▸ hj))
      have h41 : Row V38 35 35 vb wp.length (wp.flatMap Pro.cl) := h33.keeps kV38 (fun j hj e => Row.ne h33 h29 (by decide) ((show j = xb from e) ▸ hj))
      have h42 : RSt w V38 r 1 s := RSt.one h34 kV38 h29 (by decide) (by decide) (by decide) (by decide) (by decide) (by decide) (by decide)
      have h43 := kV38.bo h35 (by omega)
      have K44 := K36.no kV38 (by omega)
      have z45 := kV38.size
      refine ps_end ?_
      refine then_n ?_
      refine sy_sq (part_RecordKeeps 130706) (part_RecordKeeps 130707) ?_
      refine sy_reg ?_
      refine rg_plain 13 (opsAt (part_RecordKeeps 130706)) [0, 1, 2, 3, 4, 5] (by kernel_rfl) (by kernel_rfl) ?_
      refine ps_k (o_RecordKeeps 130706 0) (pT xb 5) ?_
      refine ps_k (o_RecordKeeps 130706 1) (pT xb 5) ?_
      obtain ⟨V46, eV46, kV46⟩ := cell_step V38 xb 5 (.int .i64 1)
      have h47 : V46.heap[xb]? = some (.cells (RAct.c x.oneA) 51 (0, 0)) := eV46 ▸ ((heap_setCell_same _ xb 5 _ _ (.int .i64 1) h39).trans (congrArg (fun c => some (Obj.cells c 51 (0, 0))) (show (RAct.c x : Array Value).setIfInBounds 5 (.int .i64 1) = RAct.c x.oneA from RAct.set_a x)))
      refine ps_s (o_RecordKeeps 130706 2) (w' := V46) (by rw [← eV46]; exact exec_store_cell 3 (.tmp 51) (.const (.int .i64 1)) (by kernel_rfl) xb 5 (by kernel_rfl) (.int .i64 1) (by kernel_rfl) (by kernel_rfl) (by kernel_rfl) (.int .i64 x.a.v) (rc (h39) (RAct.c_a x 0 _ Att.cl_0)) (frozen_of_row _ _ _ _ _ h39) (by kernel_rfl)) ?_
      clear eV46
      have h48 : Row V46 28 36 va wa.length (wa.flatMap Att.cl) := h40.keeps kV46 (fun j hj e => Row.ne h40 h39 (by decide) ((show j = xb from e) ▸ hj))
      have h49 : Row V46 35 35 vb wp.length (wp.flatMap Pro.cl) := h41.keeps kV46 (fun j hj e => Row.ne h41 h39 (by decide) ((show j = xb from e) ▸ hj))
      have h50 : RSt w V46 r 1 s := RSt.one h42 kV46 h39 (by decide) (by decide) (by decide) (by decide) (by decide) (by decide) (by decide)
      have h51 := kV46.bo h43 (by omega)
      have K52 := K44.no kV46 (by omega)
      have z53 := kV46.size
      refine ps_k (o_RecordKeeps 130706 3) (pT xb 41) ?_
      refine ps_k (o_RecordKeeps 130706 4) (pT xb 41) ?_
      obtain ⟨V54, eV54, kV54⟩ := cell_step V46 xb 41 (.int .i64 1)
      have h55 : V54.heap[xb]? = some (.cells (RAct.c x.one) 51 (0, 0)) := eV54 ▸ ((heap_setCell_same _ xb 41 _ _ (.int .i64 1) h47).trans (congrArg (fun c => some (Obj.cells c 51 (0, 0))) (show (RAct.c x.oneA : Array Value).setIfInBounds 41 (.int .i64 1) = RAct.c x.one from RAct.set_p hxo)))
      refine ps_s (o_RecordKeeps 130706 5) (w' := V54) (by rw [← eV54]; exact exec_store_cell 3 (.tmp 53) (.const (.int .i64 1)) (by kernel_rfl) xb 41 (by kernel_rfl) (.int .i64 1) (by kernel_rfl) (by kernel_rfl) (by kernel_rfl) (.int .i64 x.p.v) (rc (h47) (RAct.c_p _ (RAct.oneA_ok hxo) 0 _ Pro.cl_0)) (frozen_of_row _ _ _ _ _ h47) (by kernel_rfl)) ?_
      clear eV54
      have h56 : Row V54 28 36 va wa.length (wa.flatMap Att.cl) := h48.keeps kV54 (fun j hj e => Row.ne h48 h47 (by decide) ((show j = xb from e) ▸ hj))
      have h57 : Row V54 35 35 vb wp.length (wp.flatMap Pro.cl) := h49.keeps kV54 (fun j hj e => Row.ne h49 h47 (by decide) ((show j = xb from e) ▸ hj))
      have h58 : RSt w V54 r 1 s := RSt.one h50 kV54 h47 (by decide) (by decide) (by decide) (by decide) (by decide) (by decide) (by decide)
      have h59 := kV54.bo h51 (by omega)
      have K60 := K52.no kV54 (by omega)
      have z61 := kV54.size
      refine ps_end ?_
      refine then_n ?_
      refine sy_sq (part_RecordKeeps 261414) (part_RecordKeeps 261415) ?_
      refine sy_sq (part_RecordKeeps 522828) (part_RecordKeeps 522829) ?_
      refine sy_reg ?_
      refine rg_plain 14 (opsAt (part_RecordKeeps 522828)) [0, 1] (by kernel_rfl) (by kernel_rfl) ?_
      refine ps_k (o_RecordKeeps 522828 0) (pT xb 0) ?_
      refine ps_p (o_RecordKeeps 522828 1) (.int .i64 x.one.k) (exec_ld 3 (.tmp 54) xb 0 Try.underlying3 (rc (h55) (RAct.c_0 _))) ?_
      refine ps_end ?_
      refine then_n ?_
      refine sy_bk 2 (part_RecordKeeps 1045658) ?_
      refine sy_sq (part_RecordKeeps 2091316) (part_RecordKeeps 2091317) ?_
      refine sy_reg ?_
      refine rg_plain 15 (opsAt (part_RecordKeeps 2091316)) [0, 1] (by kernel_rfl) (by kernel_rfl) ?_
      refine ps_p (o_RecordKeeps 2091316 0) (.bool true) (eqt ((x.one.k) : Int) ((0) : Int) (by omega)) ?_
      refine ps_k (o_RecordKeeps 2091316 1) (.bool true) ?_
      refine ps_end ?_
      refine then_n ?_
      refine sy_ys (.tmp 56) (part_RecordKeeps 4182634) (part_RecordKeeps 4182635) ?_
      refine sy_sq (part_RecordKeeps 8365268) (part_RecordKeeps 8365269) ?_
      refine sy_reg ?_
      refine rg_plain 16 (opsAt (part_RecordKeeps 8365268)) [0, 1, 2, 3, 4] (by kernel_rfl) (by kernel_rfl) ?_
      refine ps_k (o_RecordKeeps 8365268 0) (pT r 0) ?_
      refine ps_k (o_RecordKeeps 8365268 1) (pT xb 5) ?_
      refine ps_p (o_RecordKeeps 8365268 2) (.agg (Att.c x.one.a)) (exec_load_seg 28 (.tmp 59) (by kernel_rfl) xb 5 (by kernel_rfl) (Att.cl x.one.a) _ _ _ h55 (RAct.c_a x.one) Try.underlying28 rfl (by rw [Att.cl_len hx1.a]; kernel_rfl)) ?_
      refine ps_c (o_RecordKeeps 8365268 3) 9 #[pT r 0, .agg (Att.c x.one.a)] Try.func9 ((RSt.put_yes h58 x.one.a hx1.a he).mono ?_)
      rintro e V62 ⟨rfl, q63, kV62⟩
      refine ⟨_, rfl, ?_⟩
      have h64 : Row V62 28 36 va wa.length (wa.flatMap Att.cl) := h56.keeps kV62 (Row.rings h56 (by decide) (by decide) (by decide) (by decide))
      have h65 : Row V62 35 35 vb wp.length (wp.flatMap Pro.cl) := h57.keeps kV62 (Row.rings h57 (by decide) (by decide) (by decide) (by decide))
      have h66 : V62.heap[hb]? = some (.cells (#[va, vb]) 66 (0, 0)) := (kV62.block hb (lt_of_block h59) (fun e => Rings.not h59 (by decide) (by decide) (by decide) (by decide) e)).trans h59
      have h67 : V62.heap[xb]? = some (.cells (RAct.c x.one) 51 (0, 0)) := (kV62.block xb (lt_of_block h55) (fun e => Rings.not h55 (by decide) (by decide) (by decide) (by decide) e)).trans h55
      have K68 : Keeps Nob w V62 := K60.then kV62 (fun i hi hm => absurd hi (by have := hm.1; omega))
      have z69 := kV62.size
      refine ps_k (o_RecordKeeps 8365268 4) (.bool true) ?_
      refine ps_end ?_
      refine sy_a ⟨#[.int .i64 wi, .int .i64 bl, vl, undef, undef, undef, uu 0, .bool true, pT r 0, .int .i64 0, pT hb 0, iN s.la, iN s.lb, iN i, pT xb 0, uu 2, uu 3, uu 4, uu 5, .bool true, vl, iN l.length, .bool false, undef, .tuple #[pT r 0, .int .i64 0], .int .i64 wi, iN tna, iN (1 + tna), .int .i64 bl, iN tnb, iN (1 + tnb), .tuple #[pT r 0, .int .i64 0], pT r 0, .int .i64 0, .int .i64 0, .bool false, .bool false, pT r 0, .bool false, .bool false, iN i, vl, iN l.length, .bool true, uu 10, uu 11, vl, iN i, pT b_x (o_x + i * 76), .agg (RAct.c x), pT xb 5, pT xb 5, pT xb 41, pT xb 41, pT xb 0, .int .i64 x.one.k, .bool true, .bool true, pT r 0, pT xb 5, .agg (Att.c x.one.a), .int .i64 0, .bool true, uu 29, uu 30, uu 31, uu 32, uu 33, uu 34, uu 35, uu 36, uu 37, uu 38, uu 39, uu 40, uu 41, uu 42, uu 43, uu 44, uu 45, uu 46, uu 47, uu 48, uu 49, uu 50, uu 51, uu 52, uu 53, uu 54, uu 55, uu 56, uu 57, uu 58, uu 59, uu 60, uu 61, uu 62, uu 63, uu 64, uu 65, uu 66, uu 67, uu 68, uu 69, uu 70, uu 71, uu 72, uu 73, uu 74, uu 75, uu 76, uu 77, uu 78, uu 79, uu 80, uu 81, uu 82, uu 83, uu 84, uu 85, uu 86, uu 87, uu 88, uu 89, uu 90, uu 91, uu 92, uu 93, uu 94, uu 95, uu 96, uu 97, uu 98, uu 99, uu 100, uu 101, uu 102, uu 103, uu 104, uu 105, uu 106, uu 107, uu 108, uu 109, uu 110, uu 111, uu 112, uu 113, uu 114, uu 115, uu 116, uu 117, uu 118, uu 119, uu 120, uu 121, uu 122, uu 123, uu 124, uu 125, uu 126, undef], []⟩ ?_
      refine then_n ?_
      refine sy_ys (.tmp 62) (part_RecordKeeps 16730538) (part_RecordKeeps 16730539) ?_
      refine sy_reg ?_
      refine rg_plain 17 (opsAt (part_RecordKeeps 16730538)) [0, 1, 2, 3, 4, 5, 6, 7] (by kernel_rfl) (by kernel_rfl) ?_
      refine ps_k (o_RecordKeeps 16730538 0) (pT hb 0) ?_
      refine ps_p (o_RecordKeeps 16730538 1) (va) (exec_ld 59 (.tmp 63) hb 0 Try.underlying59 (rc (h66) (by kernel_rfl))) ?_
      refine ps_k (o_RecordKeeps 16730538 2) (pT xb 5) ?_
      refine ps_p (o_RecordKeeps 16730538 3) (.agg (Att.c x.one.a)) (exec_load_seg 28 (.tmp 65) (by kernel_rfl) xb 5 (by kernel_rfl) (Att.cl x.one.a) _ _ _ h67 (RAct.c_a x.one) Try.underlying28 rfl (by rw [Att.cl_len hx1.a]; kernel_rfl)) ?_
      obtain ⟨V70, eV70, lit, elit, h71, kV70⟩ := alloc_step V62 (Att.c x.one.a) 28
      refine ps_r (o_RecordKeeps 16730538 4) (.slice (some ⟨lit, 0, none⟩) 1 1) (w' := V70) (by rw [← eV70, ← elit]; exact exec_build1 59 28 (.tmp 66) (by kernel_rfl) (.agg (Att.c x.one.a)) (by kernel_rfl) ia _ Try.underlying59 hia0 hia1 36 hia2 (by decide) (by decide) (Att.c_size x.one.a hx1.a.r)) ?_
      clear eV70
      have h72 : Row V70 28 36 va wa.length (wa.flatMap Att.cl) := h64.keeps kV70 (fun _ _ x => x)
      have h73 : Row V70 35 35 vb wp.length (wp.flatMap Pro.cl) := h65.keeps kV70 (fun _ _ x => x)
      have h74 := kV70.bk h66
      have h75 := kV70.bk h67
      have h76 : RSt w V70 r 1 ({ s with VA := upV s.VA x.one.a.t x.one.a }) := q63.keepsN kV70
      have K77 := K68.nn kV70
      have z78 := kV70.size
      obtain ⟨v79, V80, hr81, h82, hg83, hn84, ha85⟩ := run_append_any (P := Try.prog) (w := V70) 59 (Oper.type (o_RecordKeeps 16730538 5)) 28 ia (.agg zAtt.c) 36 64 Try.underlying59 hia0 hia1 hia2 hia3 rfl (by decide) va wa.length (wa.flatMap Att.cl) h72 (.slice (some ⟨lit, 0, none⟩) 1 1) 1 (Att.cl x.one.a) (src_att hx1.a h71) (by unfold maxLen; omega) (by omega)
      have hones_ : Ones V70 V80 28 36 := append_ones (P := Try.prog) 59 _ 28 ia (.agg zAtt.c) 36 64 Try.underlying59 hia0 hia1 hia2 hia3 rfl (by decide) va wa.length (wa.flatMap Att.cl) h72 _ 1 _ (src_att hx1.a h71) (by decide) (by unfold maxLen; omega) (by omega) hva hr81 hg83
      have kV80 : Keeps (fun j => va.ownBlock = some j) V70 V80 := Keeps.rowAdd hg83
      have hw86 : NewFrom w.heap.size v79 := hnwa.next K77.size ha85
      refine ps_r (o_RecordKeeps 16730538 5) v79 (w' := V80) (exec_append (.tmp 64) (.tmp 67) 59 (by kernel_rfl) va (.slice (some ⟨lit, 0, none⟩) 1 1) (by kernel_rfl) (by kernel_rfl) hr81) ?_
      have h87 : Row V80 28 36 v79 ((wa ++ [x.one.a]).length) ((wa ++ [x.one.a]).flatMap Att.cl) := (by rw [List.flatMap_append, List.length_append]; simpa using h82)
      have h88 : Row V80 35 35 vb wp.length (wp.flatMap Pro.cl) := h73.keeps kV80 (Row.apart h73 h72 (by decide))
      have h89 : V80.heap[hb]? = some (.cells (#[va, vb]) 66 (0, 0)) := (kV80.block hb (lt_of_block h74) (fun e => Row.ne h72 h74 (by decide) e)).trans h74
      have h90 : V80.heap[xb]? = some (.cells (RAct.c x.one) 51 (0, 0)) := (kV80.block xb (lt_of_block h75) (fun e => Row.ne h72 h75 (by decide) e)).trans h75
      have h91 : RSt w V80 r 1 ({ s with VA := upV s.VA x.one.a.t x.one.a }) := RSt.rowA h76 h72 kV80 hones_
      have K92 : Keeps Nob w V80 := K77.then kV80 (fun i hi hm => absurd hi (by have := hnwa i hm; omega))
      have z93 := kV80.size
      refine ps_k (o_RecordKeeps 16730538 6) (pT hb 0) ?_
      obtain ⟨V94, eV94, kV94⟩ := cell_step V80 hb 0 v79
      have h95 : V94.heap[hb]? = some (.cells (#[v79, vb]) 66 (0, 0)) := eV94 ▸ ((heap_setCell_same _ hb 0 _ _ v79 h89).trans (congrArg (fun c => some (Obj.cells c 66 (0, 0))) (show (#[va, vb] : Array Value).setIfInBounds 0 v79 = #[v79, vb] from by kernel_rfl)))
      refine ps_s (o_RecordKeeps 16730538 7) (w' := V94) (by rw [← eV94]; exact exec_store_cell 59 (.tmp 69) (.tmp 68) (by kernel_rfl) hb 0 (by kernel_rfl) v79 (by kernel_rfl) (by kernel_rfl) (Row.cells1 h87) va (rc (h89) (by kernel_rfl)) (frozen_of_row _ _ _ _ _ h89) (Row.one h87)) ?_
      clear eV94
      have h96 : Row V94 35 35 vb wp.length (wp.flatMap Pro.cl) := h88.keeps kV94 (fun j hj e => Row.ne h88 h89 (by decide) ((show j = hb from e) ▸ hj))
      have h97 := kV94.bo h90 (by omega)
      have h98 : RSt w V94 r 1 ({ s with VA := upV s.VA x.one.a.t x.one.a }) := RSt.one h91 kV94 h89 (by decide) (by decide) (by decide) (by decide) (by decide) (by decide) (by decide)
      have h99 : Row V94 28 36 v79 ((wa ++ [x.one.a]).length) ((wa ++ [x.one.a]).flatMap Att.cl) := h87.keeps kV94 (fun j hj e => Row.ne h87 h89 (by decide) ((show j = hb from e) ▸ hj))
      have K100 := K92.no kV94 (by omega)
      have z101 := kV94.size
      refine ps_end ?_
      refine blk_n ?_
      refine then_n ?_
      refine sy_sq (part_RecordKeeps 522830) (part_RecordKeeps 522831) ?_
      refine sy_reg ?_
      refine rg_plain 31 (opsAt (part_RecordKeeps 522830)) [0, 1, 2, 3, 4, 5] (by kernel_rfl) (by kernel_rfl) ?_
      refine ps_k (o_RecordKeeps 522830 0) (pT r 0) ?_
      refine ps_p (o_RecordKeeps 522830 1) (.agg #[v79, vb]) (exec_load_row 66 (.tmp 10) (by kernel_rfl) hb (by kernel_rfl) _ _ (0, 0) _ (h95) Try.underlying66 rfl (by kernel_rfl)) ?_
      refine ps_k (o_RecordKeeps 522830 2) (iN s.la) ?_
      refine ps_k (o_RecordKeeps 522830 3) (iN s.lb) ?_
      have HI9 := HI.put hha hx1.a he
      refine ps_c (o_RecordKeeps 522830 4) 29 #[pT r 0, .agg #[v79, vb], iN s.la, iN s.lb] Try.func29 ((lthere_ok w r ({ s with VA := upV s.VA x.one.a.t x.one.a }) v79 vb ((wa ++ [x.one.a])) wp _ h98 (Row.sl h99 rfl (fun y hy => Att.cl_len (HI9.oka y hy))) (Row.sl h96 rfl (fun y hy => Pro.cl_len (HI9.okp y hy))) HI9).mono ?_)
      rintro e V102 ⟨rfl, kV102⟩
      have hrs9 := h98.keepsN kV102
      refine ⟨_, rfl, ?_⟩
      have h103 : Row V102 35 35 vb wp.length (wp.flatMap Pro.cl) := h96.keeps kV102 (fun _ _ x => x)
      have h104 := kV102.bk h97
      have h105 : Row V102 28 36 v79 ((wa ++ [x.one.a]).length) ((wa ++ [x.one.a]).flatMap Att.cl) := h99.keeps kV102 (fun _ _ x => x)
      have h106 := kV102.bk h95
      have K107 := K100.nn kV102
      have z108 := kV102.size
      refine ps_k (o_RecordKeeps 522830 5) (.bool false) ?_
      refine ps_end ?_
      refine then_n ?_
      refine sy_n (.tmp 160) (part_RecordKeeps 1045662) (part_RecordKeeps 1045663) ?_
      refine sy_sk ?_
      refine blk_n ?_
      refine then_n ?_
      refine sy_reg ?_
      refine rg_plain 11 (opsAt (part_RecordKeeps 16339)) [0, 1, 2] (by kernel_rfl) (by kernel_rfl) ?_
      refine ps_k (o_RecordKeeps 16339 0) (iN i) ?_
      refine ps_p (o_RecordKeeps 16339 1) (iN (i + 1)) (exec_cast (congrArg (Value.int .i64) (wrapN (i + 1) (by omega))) (by kernel_rfl)) ?_
      refine ps_k (o_RecordKeeps 16339 2) (iN (i + 1)) ?_
      refine ps_end ?_
      refine then_n ?_
      refine ⟨⟨i + 1, { s with VA := upV s.VA x.one.a.t x.one.a }, v79, vb, (wa ++ [x.one.a]), wp, (fun k => ([uu 0, pT xb 0, uu 2, uu 3, uu 4, uu 5, iN i, vl, iN l.length, .bool true, iN i, iN (i + 1), vl, iN i, pT b_x (o_x + i * 76), .agg (RAct.c x), pT xb 5, pT xb 5, pT xb 41, pT xb 41, pT xb 0, .int .i64 x.one.k, .bool true, .bool true, pT r 0, pT xb 5, .agg (Att.c x.one.a), .int .i64 0, .bool true, pT hb 0, va, pT xb 5, .agg (Att.c x.one.a), .slice (some ⟨lit, 0, none⟩) 1 1, v79, pT hb 0, uu 36, uu 37, uu 38, uu 39, uu 40, uu 41, uu 42, uu 43, uu 44, uu 45, uu 46, uu 47, uu 48, uu 49, uu 50, uu 51, uu 52, uu 53, uu 54, uu 55, uu 56, uu 57, uu 58, uu 59, uu 60, uu 61, uu 62, uu 63, uu 64, uu 65, uu 66, uu 67, uu 68, uu 69, uu 70, uu 71, uu 72, uu 73, uu 74, uu 75, uu 76, uu 77, uu 78, uu 79, uu 80, uu 81, uu 82, uu 83, uu 84, uu 85, uu 86, uu 87, uu 88, uu 89, uu 90, uu 91, uu 92, uu 93, uu 94, uu 95, uu 96, uu 97, uu 98, uu 99, uu 100, uu 101, uu 102, uu 103, uu 104, uu 105, uu 106, uu 107, uu 108, uu 109, uu 110, uu 111, uu 112, uu 113, uu 114, uu 115, uu 116, uu 117, uu 118, uu 119, uu 120, pT r 0, .agg #[v79, vb], iN s.la, iN s.lb, .bool true, .bool false] : List Value).getD k undef), by kernel_rfl, by omega, HI9, by first | (show s.la ≤ _; omega) | (show lo ≤ _; omega), by first | (show s.lb ≤ _; omega) | (show fl ≤ _; omega), by first | (show 1 ≤ s.lb; omega) | (show 1 ≤ fl; omega), by first | omega | (rw [List.length_append]; show wa.length + 1 ≤ _; omega), by first | omega | (rw [List.length_append]; show wp.length + 1 ≤ _; omega), by first | exact hva | exact fun _ => (by rw [List.length_append]; exact Nat.succ_pos _), by first | exact hvb | exact fun _ => (by rw [List.length_append]; exact Nat.succ_pos _), h105, h103, hrs9, h106, K107, hw86, hnwb⟩, ?_⟩
      exact lt_meas (x := l.length - (i + 1)) (y := l.length - i) (by kernel_rfl) (by kernel_rfl) (by omega)
    · have hok_ : x.one.k = x.k := rfl
      have hxo := Hok x (List.mem_of_getElem? hx)
      have hx1 := RAct.one_ok hxo
      obtain ⟨b_x, o_x, c_x, hv_x, hb_x, _⟩ := Ha.at_ i _ hx
      obtain ⟨_, _, _, _, hha, hhb, _, _⟩ := h25.ok
      skip
      refine sy_sq (part_RecordKeeps 8168) (part_RecordKeeps 8169) ?_
      refine sy_sq (part_RecordKeeps 16336) (part_RecordKeeps 16337) ?_
      refine sy_reg ?_
      refine rg_plain 10 (opsAt (part_RecordKeeps 16336)) [0, 1, 2, 3] (by kernel_rfl) (by kernel_rfl) ?_
      refine ps_k (o_RecordKeeps 16336 0) (iN i) ?_
      refine ps_k (o_RecordKeeps 16336 1) (vl) ?_
      refine ps_p (o_RecordKeeps 16336 2) (iN l.length) (exec_len_sl (.tmp 41) 46 51 (by kernel_rfl) Try.underlying46 (by kernel_rfl) (Ha.keepsN K27)) ?_
      refine ps_p (o_RecordKeeps 16336 3) (.bool true) (dct ((((i : Nat) : Int)) < (((l.length : Nat) : Int))) (by omega)) ?_
      refine ps_end ?_
      refine then_n ?_
      refine sy_ys (.tmp 43) (part_RecordKeeps 32674) (part_RecordKeeps 32675) ?_
      refine sy_sk ?_
      refine then_n ?_
      refine sy_sq (part_RecordKeeps 16338) (part_RecordKeeps 16339) ?_
      refine sy_bk 1 (part_RecordKeeps 32676) ?_
      refine sy_sq (part_RecordKeeps 65352) (part_RecordKeeps 65353) ?_
      refine sy_reg ?_
      refine rg_plain 12 (opsAt (part_RecordKeeps 65352)) [0, 1, 2, 3, 4, 5] (by kernel_rfl) (by kernel_rfl) ?_
      refine ps_k (o_RecordKeeps 65352 0) (vl) ?_
      refine ps_k (o_RecordKeeps 65352 1) (iN i) ?_
      refine ps_p (o_RecordKeeps 65352 2) (pT b_x (o_x + i * 76)) (exec_indexAt_slice 46 (.tmp 46) (.tmp 47) (by kernel_rfl) b_x o_x l.length c_x (Eq.trans (b := vl) (by kernel_rfl) hv_x) .i64 i (by kernel_rfl) _ 76 Try.underlying46 (by kernel_rfl) (by omega)) ?_
      refine ps_p (o_RecordKeeps 65352 3) (.agg (RAct.c x)) (exec_load_mid 51 (.tmp 48) (by kernel_rfl) b_x (o_x + i * 76) (by kernel_rfl) (RAct.cl x) _ (Sl.range (Ha.keepsN K27) hx hv_x) Try.underlying51 rfl (by rw [RAct.cl_len hxo]; kernel_rfl)) ?_
      obtain ⟨V109, eV109, xb, exb, h110, kV109⟩ := alloc_step V22 (#[.int .i64 0, .int .i64 0, .int .i64 0, .int .i64 0, .int .i64 0, .int .i64 0, .int .i64 0, .int .i64 0, .int .u8 0, .int .u8 0, .int .u8 0, .int .u8 0, .int .u8 0, .int .u8 0, .int .u8 0, .int .u8 0, .int .u8 0, .int .u8 0, .int .u8 0, .int .u8 0, .int .u8 0, .int .u8 0, .int .u8 0, .int .u8 0, .int .u8 0, .int .u8 0, .int .u8 0, .int .u8 0, .int .u8 0, .int .u8 0, .int .u8 0, .int .u8 0, .int .u8 0, .int .u8 0, .int .u8 0, .int .u8 0, .int .u8 0, .int .u8 0, .int .u8 0, .int .u8 0, .int .u64 0, .int .i64 0, .int .i64 0, .int .u8 0, .int .u8 0, .int .u8 0, .int .u8 0, .int .u8 0, .int .u8 0, .int .u8 0, .int .u8 0, .int .u8 0, .int .u8 0, .int .u8 0, .int .u8 0, .int .u8 0, .int .u8 0, .int .u8 0, .int .u8 0, .int .u8 0, .int .u8 0, .int .u8 0, .int .u8 0, .int .u8 0, .int .u8 0, .int .u8 0, .int .u8 0, .int .u8 0, .int .u8 0, .int .u8 0, .int .u8 0, .int .u8 0, .int .u8 0, .int .u8 0, .int .u8 0, .int .u64 0]) 51
      have n111 : hb < xb := exb ▸ lt_of_block h26
      have n112 : w.heap.size ≤ xb := exb ▸ K27.size
      refine ps_r (o_RecordKeeps 65352 4) (pT xb 0) (w' := V109) (by rw [← eV109, ← exb]; exact exec_alloc0 51 (by kernel_rfl) (.agg (#[.int .i64 0, .int .i64 0, .int .i64 0, .int .i64 0, .int .i64 0, .int .i64 0, .int .i64 0, .int .i64 0, .int .u8 0, .int .u8 0, .int .u8 0, .int .u8 0, .int .u8 0, .int .u8 0, .int .u8 0, .int .u8 0, .int .u8 0, .int .u8 0, .int .u8 0, .int .u8 0, .int .u8 0, .int .u8 0, .int .u8 0, .int .u8 0, .int .u8 0, .int .u8 0, .int .u8 0, .int .u8 0, .int .u8 0, .int .u8 0, .int .u8 0, .int .u8 0, .int .u8 0, .int .u8 0, .int .u8 0, .int .u8 0, .int .u8 0, .int .u8 0, .int .u8 0, .int .u8 0, .int .u64 0, .int .i64 0, .int .i64 0, .int .u8 0, .int .u8 0, .int .u8 0, .int .u8 0, .int .u8 0, .int .u8 0, .int .u8 0, .int .u8 0, .int .u8 0, .int .u8 0, .int .u8 0, .int .u8 0, .int .u8 0, .int .u8 0, .int .u8 0, .int .u8 0, .int .u8 0, .int .u8 0, .int .u8 0, .int .u8 0, .int .u8 0, .int .u8 0, .int .u8 0, .int .u8 0, .int .u8 0, .int .u8 0, .int .u8 0, .int .u8 0, .int .u8 0, .int .u8 0, .int .u8 0, .int .u8 0, .int .u64 0])) (by kernel_rfl)) ?_
      clear eV109
      have h113 : Row V109 28 36 va wa.length (wa.flatMap Att.cl) := h23.keeps kV109 (fun _ _ x => x)
      have h114 : Row V109 35 35 vb wp.length (wp.flatMap Pro.cl) := h24.keeps kV109 (fun _ _ x => x)
      have h115 : RSt w V109 r 1 s := h25.keepsN kV109
      have h116 := kV109.bk h26
      have K117 := K27.nn kV109
      have z118 := kV109.size
      obtain ⟨V119, eV119, kV119⟩ := rowset_step V109 xb ((RAct.c x))
      have h120 : V119.heap[xb]? = some (.cells (RAct.c x) 51 (0, 0)) := eV119 ▸ setRow_heap _ _ _ _ _ _ h110
      refine ps_s (o_RecordKeeps 65352 5) (w' := V119) (by rw [← eV119]; exact exec_store_row 51 (.tmp 14) (.tmp 49) (by kernel_rfl) xb ((RAct.c x)) (by kernel_rfl) (by kernel_rfl) 51 (#[.int .i64 0, .int .i64 0, .int .i64 0, .int .i64 0, .int .i64 0, .int .i64 0, .int .i64 0, .int .i64 0, .int .u8 0, .int .u8 0, .int .u8 0, .int .u8 0, .int .u8 0, .int .u8 0, .int .u8 0, .int .u8 0, .int .u8 0, .int .u8 0, .int .u8 0, .int .u8 0, .int .u8 0, .int .u8 0, .int .u8 0, .int .u8 0, .int .u8 0, .int .u8 0, .int .u8 0, .int .u8 0, .int .u8 0, .int .u8 0, .int .u8 0, .int .u8 0, .int .u8 0, .int .u8 0, .int .u8 0, .int .u8 0, .int .u8 0, .int .u8 0, .int .u8 0, .int .u8 0, .int .u64 0, .int .i64 0, .int .i64 0, .int .u8 0, .int .u8 0, .int .u8 0, .int .u8 0, .int .u8 0, .int .u8 0, .int .u8 0, .int .u8 0, .int .u8 0, .int .u8 0, .int .u8 0, .int .u8 0, .int .u8 0, .int .u8 0, .int .u8 0, .int .u8 0, .int .u8 0, .int .u8 0, .int .u8 0, .int .u8 0, .int .u8 0, .int .u8 0, .int .u8 0, .int .u8 0, .int .u8 0, .int .u8 0, .int .u8 0, .int .u8 0, .int .u8 0, .int .u8 0, .int .u8 0, .int .u8 0, .int .u64 0]) h110 (by rw [RAct.c_size hxo]; kernel_rfl) (by rw [RAct.c_size hxo]; rfl) (by rw [RAct.c, List.all_toArray]; exact List.all_eq_true.2 (ract_one hxo))) ?_
      clear eV119
      have h121 : Row V119 28 36 va wa.length (wa.flatMap Att.cl) := h113.keeps kV119 (fun j hj e => Row.ne h113 h110 (by decide) ((show j = xb from e) ▸ hj))
      have h122 : Row V119 35 35 vb wp.length (wp.flatMap Pro.cl) := h114.keeps kV119 (fun j hj e => Row.ne h114 h110 (by decide) ((show j = xb from e) ▸ hj))
      have h123 : RSt w V119 r 1 s := RSt.one h115 kV119 h110 (by decide) (by decide) (by decide) (by decide) (by decide) (by decide) (by decide)
      have h124 := kV119.bo h116 (by omega)
      have K125 := K117.no kV119 (by omega)
      have z126 := kV119.size
      refine ps_end ?_
      refine then_n ?_
      refine sy_sq (part_RecordKeeps 130706) (part_RecordKeeps 130707) ?_
      refine sy_reg ?_
      refine rg_plain 13 (opsAt (part_RecordKeeps 130706)) [0, 1, 2, 3, 4, 5] (by kernel_rfl) (by kernel_rfl) ?_
      refine ps_k (o_RecordKeeps 130706 0) (pT xb 5) ?_
      refine ps_k (o_RecordKeeps 130706 1) (pT xb 5) ?_
      obtain ⟨V127, eV127, kV127⟩ := cell_step V119 xb 5 (.int .i64 1)
      have h128 : V127.heap[xb]? = some (.cells (RAct.c x.oneA) 51 (0, 0)) := eV127 ▸ ((heap_setCell_same _ xb 5 _ _ (.int .i64 1) h120).trans (congrArg (fun c => some (Obj.cells c 51 (0, 0))) (show (RAct.c x : Array Value).setIfInBounds 5 (.int .i64 1) = RAct.c x.oneA from RAct.set_a x)))
      refine ps_s (o_RecordKeeps 130706 2) (w' := V127) (by rw [← eV127]; exact exec_store_cell 3 (.tmp 51) (.const (.int .i64 1)) (by kernel_rfl) xb 5 (by kernel_rfl) (.int .i64 1) (by kernel_rfl) (by kernel_rfl) (by kernel_rfl) (.int .i64 x.a.v) (rc (h120) (RAct.c_a x 0 _ Att.cl_0)) (frozen_of_row _ _ _ _ _ h120) (by kernel_rfl)) ?_
      clear eV127
      have h129 : Row V127 28 36 va wa.length (wa.flatMap Att.cl) := h121.keeps kV127 (fun j hj e => Row.ne h121 h120 (by decide) ((show j = xb from e) ▸ hj))
      have h130 : Row V127 35 35 vb wp.length (wp.flatMap Pro.cl) := h122.keeps kV127 (fun j hj e => Row.ne h122 h120 (by decide) ((show j = xb from e) ▸ hj))
      have h131 : RSt w V127 r 1 s := RSt.one h123 kV127 h120 (by decide) (by decide) (by decide) (by decide) (by decide) (by decide) (by decide)
      have h132 := kV127.bo h124 (by omega)
      have K133 := K125.no kV127 (by omega)
      have z134 := kV127.size
      refine ps_k (o_RecordKeeps 130706 3) (pT xb 41) ?_
      refine ps_k (o_RecordKeeps 130706 4) (pT xb 41) ?_
      obtain ⟨V135, eV135, kV135⟩ := cell_step V127 xb 41 (.int .i64 1)
      have h136 : V135.heap[xb]? = some (.cells (RAct.c x.one) 51 (0, 0)) := eV135 ▸ ((heap_setCell_same _ xb 41 _ _ (.int .i64 1) h128).trans (congrArg (fun c => some (Obj.cells c 51 (0, 0))) (show (RAct.c x.oneA : Array Value).setIfInBounds 41 (.int .i64 1) = RAct.c x.one from RAct.set_p hxo)))
      refine ps_s (o_RecordKeeps 130706 5) (w' := V135) (by rw [← eV135]; exact exec_store_cell 3 (.tmp 53) (.const (.int .i64 1)) (by kernel_rfl) xb 41 (by kernel_rfl) (.int .i64 1) (by kernel_rfl) (by kernel_rfl) (by kernel_rfl) (.int .i64 x.p.v) (rc (h128) (RAct.c_p _ (RAct.oneA_ok hxo) 0 _ Pro.cl_0)) (frozen_of_row _ _ _ _ _ h128) (by kernel_rfl)) ?_
      clear eV135
      have h137 : Row V135 28 36 va wa.length (wa.flatMap Att.cl) := h129.keeps kV135 (fun j hj e => Row.ne h129 h128 (by decide) ((show j = xb from e) ▸ hj))
      have h138 : Row V135 35 35 vb wp.length (wp.flatMap Pro.cl) := h130.keeps kV135 (fun j hj e => Row.ne h130 h128 (by decide) ((show j = xb from e) ▸ hj))
      have h139 : RSt w V135 r 1 s := RSt.one h131 kV135 h128 (by decide) (by decide) (by decide) (by decide) (by decide) (by decide) (by decide)
      have h140 := kV135.bo h132 (by omega)
      have K141 := K133.no kV135 (by omega)
      have z142 := kV135.size
      refine ps_end ?_
      refine then_n ?_
      refine sy_sq (part_RecordKeeps 261414) (part_RecordKeeps 261415) ?_
      refine sy_sq (part_RecordKeeps 522828) (part_RecordKeeps 522829) ?_
      refine sy_reg ?_
      refine rg_plain 14 (opsAt (part_RecordKeeps 522828)) [0, 1] (by kernel_rfl) (by kernel_rfl) ?_
      refine ps_k (o_RecordKeeps 522828 0) (pT xb 0) ?_
      refine ps_p (o_RecordKeeps 522828 1) (.int .i64 x.one.k) (exec_ld 3 (.tmp 54) xb 0 Try.underlying3 (rc (h136) (RAct.c_0 _))) ?_
      refine ps_end ?_
      refine then_n ?_
      refine sy_bk 2 (part_RecordKeeps 1045658) ?_
      refine sy_sq (part_RecordKeeps 2091316) (part_RecordKeeps 2091317) ?_
      refine sy_reg ?_
      refine rg_plain 15 (opsAt (part_RecordKeeps 2091316)) [0, 1] (by kernel_rfl) (by kernel_rfl) ?_
      refine ps_p (o_RecordKeeps 2091316 0) (.bool true) (eqt ((x.one.k) : Int) ((0) : Int) (by omega)) ?_
      refine ps_k (o_RecordKeeps 2091316 1) (.bool true) ?_
      refine ps_end ?_
      refine then_n ?_
      refine sy_ys (.tmp 56) (part_RecordKeeps 4182634) (part_RecordKeeps 4182635) ?_
      refine sy_sq (part_RecordKeeps 8365268) (part_RecordKeeps 8365269) ?_
      refine sy_reg ?_
      refine rg_plain 16 (opsAt (part_RecordKeeps 8365268)) [0, 1, 2, 3, 4] (by kernel_rfl) (by kernel_rfl) ?_
      refine ps_k (o_RecordKeeps 8365268 0) (pT r 0) ?_
      refine ps_k (o_RecordKeeps 8365268 1) (pT xb 5) ?_
      refine ps_p (o_RecordKeeps 8365268 2) (.agg (Att.c x.one.a)) (exec_load_seg 28 (.tmp 59) (by kernel_rfl) xb 5 (by kernel_rfl) (Att.cl x.one.a) _ _ _ h136 (RAct.c_a x.one) Try.underlying28 rfl (by rw [Att.cl_len hx1.a]; kernel_rfl)) ?_
      refine ps_c (o_RecordKeeps 8365268 3) 9 #[pT r 0, .agg (Att.c x.one.a)] Try.func9 ((RSt.put_no h139 x.one.a hx1.a _ rfl he).mono ?_)
      rintro e V143 ⟨rfl, q144, kV143⟩
      refine ⟨_, rfl, ?_⟩
      have h145 : Row V143 28 36 va wa.length (wa.flatMap Att.cl) := h137.keeps kV143 (Row.rings h137 (by decide) (by decide) (by decide) (by decide))
      have h146 : Row V143 35 35 vb wp.length (wp.flatMap Pro.cl) := h138.keeps kV143 (Row.rings h138 (by decide) (by decide) (by decide) (by decide))
      have h147 : V143.heap[hb]? = some (.cells (#[va, vb]) 66 (0, 0)) := (kV143.block hb (lt_of_block h140) (fun e => Rings.not h140 (by decide) (by decide) (by decide) (by decide) e)).trans h140
      have h148 : V143.heap[xb]? = some (.cells (RAct.c x.one) 51 (0, 0)) := (kV143.block xb (lt_of_block h136) (fun e => Rings.not h136 (by decide) (by decide) (by decide) (by decide) e)).trans h136
      have K149 : Keeps Nob w V143 := K141.then kV143 (fun i hi hm => absurd hi (by have := hm.1; omega))
      have z150 := kV143.size
      refine ps_p (o_RecordKeeps 8365268 4) (.bool false) (eqf ((s.putErr 1 x.one.a) : Int) ((0) : Int) (by omega)) ?_
      refine ps_end ?_
      refine sy_a ⟨#[.int .i64 wi, .int .i64 bl, vl, undef, undef, undef, uu 0, .bool true, pT r 0, .int .i64 0, pT hb 0, iN s.la, iN s.lb, iN i, pT xb 0, uu 2, uu 3, uu 4, uu 5, .bool true, vl, iN l.length, .bool false, undef, .tuple #[pT r 0, .int .i64 0], .int .i64 wi, iN tna, iN (1 + tna), .int .i64 bl, iN tnb, iN (1 + tnb), .tuple #[pT r 0, .int .i64 0], pT r 0, .int .i64 0, .int .i64 0, .bool false, .bool false, pT r 0, .bool false, .bool false, iN i, vl, iN l.length, .bool true, uu 10, uu 11, vl, iN i, pT b_x (o_x + i * 76), .agg (RAct.c x), pT xb 5, pT xb 5, pT xb 41, pT xb 41, pT xb 0, .int .i64 x.one.k, .bool true, .bool true, pT r 0, pT xb 5, .agg (Att.c x.one.a), .int .i64 (s.putErr 1 x.one.a), .bool false, uu 29, uu 30, uu 31, uu 32, uu 33, uu 34, uu 35, uu 36, uu 37, uu 38, uu 39, uu 40, uu 41, uu 42, uu 43, uu 44, uu 45, uu 46, uu 47, uu 48, uu 49, uu 50, uu 51, uu 52, uu 53, uu 54, uu 55, uu 56, uu 57, uu 58, uu 59, uu 60, uu 61, uu 62, uu 63, uu 64, uu 65, uu 66, uu 67, uu 68, uu 69, uu 70, uu 71, uu 72, uu 73, uu 74, uu 75, uu 76, uu 77, uu 78, uu 79, uu 80, uu 81, uu 82, uu 83, uu 84, uu 85, uu 86, uu 87, uu 88, uu 89, uu 90, uu 91, uu 92, uu 93, uu 94, uu 95, uu 96, uu 97, uu 98, uu 99, uu 100, uu 101, uu 102, uu 103, uu 104, uu 105, uu 106, uu 107, uu 108, uu 109, uu 110, uu 111, uu 112, uu 113, uu 114, uu 115, uu 116, uu 117, uu 118, uu 119, uu 120, uu 121, uu 122, uu 123, uu 124, uu 125, uu 126, undef], []⟩ ?_
      refine then_n ?_
      refine sy_n (.tmp 62) (part_RecordKeeps 16730538) (part_RecordKeeps 16730539) ?_
      refine sy_sk ?_
      refine blk_n ?_
      refine then_n ?_
      refine sy_sq (part_RecordKeeps 522830) (part_RecordKeeps 522831) ?_
      refine sy_reg ?_
      refine rg_plain 31 (opsAt (part_RecordKeeps 522830)) [0, 1, 2, 3, 4, 5] (by kernel_rfl) (by kernel_rfl) ?_
      refine ps_k (o_RecordKeeps 522830 0) (pT r 0) ?_
      refine ps_p (o_RecordKeeps 522830 1) (.agg #[va, vb]) (exec_load_row 66 (.tmp 10) (by kernel_rfl) hb (by kernel_rfl) _ _ (0, 0) _ (h147) Try.underlying66 rfl (by kernel_rfl)) ?_
      refine ps_k (o_RecordKeeps 522830 2) (iN s.la) ?_
      refine ps_k (o_RecordKeeps 522830 3) (iN s.lb) ?_
      have HI9 := HI
      refine ps_c (o_RecordKeeps 522830 4) 29 #[pT r 0, .agg #[va, vb], iN s.la, iN s.lb] Try.func29 ((lthere_ok w r s va vb wa wp _ q144 (Row.sl h145 rfl (fun y hy => Att.cl_len (HI9.oka y hy))) (Row.sl h146 rfl (fun y hy => Pro.cl_len (HI9.okp y hy))) HI9).mono ?_)
      rintro e V151 ⟨rfl, kV151⟩
      have hrs9 := q144.keepsN kV151
      refine ⟨_, rfl, ?_⟩
      have h152 : Row V151 28 36 va wa.length (wa.flatMap Att.cl) := h145.keeps kV151 (fun _ _ x => x)
      have h153 : Row V151 35 35 vb wp.length (wp.flatMap Pro.cl) := h146.keeps kV151 (fun _ _ x => x)
      have h154 := kV151.bk h147
      have h155 := kV151.bk h148
      have K156 := K149.nn kV151
      have z157 := kV151.size
      refine ps_k (o_RecordKeeps 522830 5) (.bool false) ?_
      refine ps_end ?_
      refine then_n ?_
      refine sy_n (.tmp 160) (part_RecordKeeps 1045662) (part_RecordKeeps 1045663) ?_
      refine sy_sk ?_
      refine blk_n ?_
      refine then_n ?_
      refine sy_reg ?_
      refine rg_plain 11 (opsAt (part_RecordKeeps 16339)) [0, 1, 2] (by kernel_rfl) (by kernel_rfl) ?_
      refine ps_k (o_RecordKeeps 16339 0) (iN i) ?_
      refine ps_p (o_RecordKeeps 16339 1) (iN (i + 1)) (exec_cast (congrArg (Value.int .i64) (wrapN (i + 1) (by omega))) (by kernel_rfl)) ?_
      refine ps_k (o_RecordKeeps 16339 2) (iN (i + 1)) ?_
      refine ps_end ?_
      refine then_n ?_
      refine ⟨⟨i + 1, s, va, vb, wa, wp, (fun k => ([uu 0, pT xb 0, uu 2, uu 3, uu 4, uu 5, iN i, vl, iN l.length, .bool true, iN i, iN (i + 1), vl, iN i, pT b_x (o_x + i * 76), .agg (RAct.c x), pT xb 5, pT xb 5, pT xb 41, pT xb 41, pT xb 0, .int .i64 x.one.k, .bool true, .bool true, pT r 0, pT xb 5, .agg (Att.c x.one.a), .int .i64 (s.putErr 1 x.one.a), .bool false, uu 29, uu 30, uu 31, uu 32, uu 33, uu 34, uu 35, uu 36, uu 37, uu 38, uu 39, uu 40, uu 41, uu 42, uu 43, uu 44, uu 45, uu 46, uu 47, uu 48, uu 49, uu 50, uu 51, uu 52, uu 53, uu 54, uu 55, uu 56, uu 57, uu 58, uu 59, uu 60, uu 61, uu 62, uu 63, uu 64, uu 65, uu 66, uu 67, uu 68, uu 69, uu 70, uu 71, uu 72, uu 73, uu 74, uu 75, uu 76, uu 77, uu 78, uu 79, uu 80, uu 81, uu 82, uu 83, uu 84, uu 85, uu 86, uu 87, uu 88, uu 89, uu 90, uu 91, uu 92, uu 93, uu 94, uu 95, uu 96, uu 97, uu 98, uu 99, uu 100, uu 101, uu 102, uu 103, uu 104, uu 105, uu 106, uu 107, uu 108, uu 109, uu 110, uu 111, uu 112, uu 113, uu 114, uu 115, uu 116, uu 117, uu 118, uu 119, uu 120, pT r 0, .agg #[va, vb], iN s.la, iN s.lb, .bool true, .bool false] : List Value).getD k undef), by kernel_rfl, by omega, HI9, by first | (show s.la ≤ _; omega) | (show lo ≤ _; omega), by first | (show s.lb ≤ _; omega) | (show fl ≤ _; omega), by first | (show 1 ≤ s.lb; omega) | (show 1 ≤ fl; omega), by first | omega | (rw [List.length_append]; show wa.length + 1 ≤ _; omega), by first | omega | (rw [List.length_append]; show wp.length + 1 ≤ _; omega), by first | exact hva | exact fun _ => (by rw [List.length_append]; exact Nat.succ_pos _), by first | exact hvb | exact fun _ => (by rw [List.length_append]; exact Nat.succ_pos _), h152, h153, hrs9, h154, K156, hnwa, hnwb⟩, ?_⟩
      exact lt_meas (x := l.length - (i + 1)) (y := l.length - i) (by kernel_rfl) (by kernel_rfl) (by omega)
    · have hok_ : x.one.k = x.k := rfl
      have hxo := Hok x (List.mem_of_getElem? hx)
      have hx1 := RAct.one_ok hxo
      obtain ⟨b_x, o_x, c_x, hv_x, hb_x, _⟩ := Ha.at_ i _ hx
      obtain ⟨_, _, _, _, hha, hhb, _, _⟩ := h25.ok
      skip
      refine sy_sq (part_RecordKeeps 8168) (part_RecordKeeps 8169) ?_
      refine sy_sq (part_RecordKeeps 16336) (part_RecordKeeps 16337) ?_
      refine sy_reg ?_
      refine rg_plain 10 (opsAt (part_RecordKeeps 16336)) [0, 1, 2, 3] (by kernel_rfl) (by kernel_rfl) ?_
      refine ps_k (o_RecordKeeps 16336 0) (iN i) ?_
      refine ps_k (o_RecordKeeps 16336 1) (vl) ?_
      refine ps_p (o_RecordKeeps 16336 2) (iN l.length) (exec_len_sl (.tmp 41) 46 51 (by kernel_rfl) Try.underlying46 (by kernel_rfl) (Ha.keepsN K27)) ?_
      refine ps_p (o_RecordKeeps 16336 3) (.bool true) (dct ((((i : Nat) : Int)) < (((l.length : Nat) : Int))) (by omega)) ?_
      refine ps_end ?_
      refine then_n ?_
      refine sy_ys (.tmp 43) (part_RecordKeeps 32674) (part_RecordKeeps 32675) ?_
      refine sy_sk ?_
      refine then_n ?_
      refine sy_sq (part_RecordKeeps 16338) (part_RecordKeeps 16339) ?_
      refine sy_bk 1 (part_RecordKeeps 32676) ?_
      refine sy_sq (part_RecordKeeps 65352) (part_RecordKeeps 65353) ?_
      refine sy_reg ?_
      refine rg_plain 12 (opsAt (part_RecordKeeps 65352)) [0, 1, 2, 3, 4, 5] (by kernel_rfl) (by kernel_rfl) ?_
      refine ps_k (o_RecordKeeps 65352 0) (vl) ?_
      refine ps_k (o_RecordKeeps 65352 1) (iN i) ?_
      refine ps_p (o_RecordKeeps 65352 2) (pT b_x (o_x + i * 76)) (exec_indexAt_slice 46 (.tmp 46) (.tmp 47) (by kernel_rfl) b_x o_x l.length c_x (Eq.trans (b := vl) (by kernel_rfl) hv_x) .i64 i (by kernel_rfl) _ 76 Try.underlying46 (by kernel_rfl) (by omega)) ?_
      refine ps_p (o_RecordKeeps 65352 3) (.agg (RAct.c x)) (exec_load_mid 51 (.tmp 48) (by kernel_rfl) b_x (o_x + i * 76) (by kernel_rfl) (RAct.cl x) _ (Sl.range (Ha.keepsN K27) hx hv_x) Try.underlying51 rfl (by rw [RAct.cl_len hxo]; kernel_rfl)) ?_
      obtain ⟨V158, eV158, xb, exb, h159, kV158⟩ := alloc_step V22 (#[.int .i64 0, .int .i64 0, .int .i64 0, .int .i64 0, .int .i64 0, .int .i64 0, .int .i64 0, .int .i64 0, .int .u8 0, .int .u8 0, .int .u8 0, .int .u8 0, .int .u8 0, .int .u8 0, .int .u8 0, .int .u8 0, .int .u8 0, .int .u8 0, .int .u8 0, .int .u8 0, .int .u8 0, .int .u8 0, .int .u8 0, .int .u8 0, .int .u8 0, .int .u8 0, .int .u8 0, .int .u8 0, .int .u8 0, .int .u8 0, .int .u8 0, .int .u8 0, .int .u8 0, .int .u8 0, .int .u8 0, .int .u8 0, .int .u8 0, .int .u8 0, .int .u8 0, .int .u8 0, .int .u64 0, .int .i64 0, .int .i64 0, .int .u8 0, .int .u8 0, .int .u8 0, .int .u8 0, .int .u8 0, .int .u8 0, .int .u8 0, .int .u8 0, .int .u8 0, .int .u8 0, .int .u8 0, .int .u8 0, .int .u8 0, .int .u8 0, .int .u8 0, .int .u8 0, .int .u8 0, .int .u8 0, .int .u8 0, .int .u8 0, .int .u8 0, .int .u8 0, .int .u8 0, .int .u8 0, .int .u8 0, .int .u8 0, .int .u8 0, .int .u8 0, .int .u8 0, .int .u8 0, .int .u8 0, .int .u8 0, .int .u64 0]) 51
      have n160 : hb < xb := exb ▸ lt_of_block h26
      have n161 : w.heap.size ≤ xb := exb ▸ K27.size
      refine ps_r (o_RecordKeeps 65352 4) (pT xb 0) (w' := V158) (by rw [← eV158, ← exb]; exact exec_alloc0 51 (by kernel_rfl) (.agg (#[.int .i64 0, .int .i64 0, .int .i64 0, .int .i64 0, .int .i64 0, .int .i64 0, .int .i64 0, .int .i64 0, .int .u8 0, .int .u8 0, .int .u8 0, .int .u8 0, .int .u8 0, .int .u8 0, .int .u8 0, .int .u8 0, .int .u8 0, .int .u8 0, .int .u8 0, .int .u8 0, .int .u8 0, .int .u8 0, .int .u8 0, .int .u8 0, .int .u8 0, .int .u8 0, .int .u8 0, .int .u8 0, .int .u8 0, .int .u8 0, .int .u8 0, .int .u8 0, .int .u8 0, .int .u8 0, .int .u8 0, .int .u8 0, .int .u8 0, .int .u8 0, .int .u8 0, .int .u8 0, .int .u64 0, .int .i64 0, .int .i64 0, .int .u8 0, .int .u8 0, .int .u8 0, .int .u8 0, .int .u8 0, .int .u8 0, .int .u8 0, .int .u8 0, .int .u8 0, .int .u8 0, .int .u8 0, .int .u8 0, .int .u8 0, .int .u8 0, .int .u8 0, .int .u8 0, .int .u8 0, .int .u8 0, .int .u8 0, .int .u8 0, .int .u8 0, .int .u8 0, .int .u8 0, .int .u8 0, .int .u8 0, .int .u8 0, .int .u8 0, .int .u8 0, .int .u8 0, .int .u8 0, .int .u8 0, .int .u8 0, .int .u64 0])) (by kernel_rfl)) ?_
      clear eV158
      have h162 : Row V158 28 36 va wa.length (wa.flatMap Att.cl) := h23.keeps kV158 (fun _ _ x => x)
      have h163 : Row V158 35 35 vb wp.length (wp.flatMap Pro.cl) := h24.keeps kV158 (fun _ _ x => x)
      have h164 : RSt w V158 r 1 s := h25.keepsN kV158
      have h165 := kV158.bk h26
      have K166 := K27.nn kV158
      have z167 := kV158.size
      obtain ⟨V168, eV168, kV168⟩ := rowset_step V158 xb ((RAct.c x))
      have h169 : V168.heap[xb]? = some (.cells (RAct.c x) 51 (0, 0)) := eV168 ▸ setRow_heap _ _ _ _ _ _ h159
      refine ps_s (o_RecordKeeps 65352 5) (w' := V168) (by rw [← eV168]; exact exec_store_row 51 (.tmp 14) (.tmp 49) (by kernel_rfl) xb ((RAct.c x)) (by kernel_rfl) (by kernel_rfl) 51 (#[.int .i64 0, .int .i64 0, .int .i64 0, .int .i64 0, .int .i64 0, .int .i64 0, .int .i64 0, .int .i64 0, .int .u8 0, .int .u8 0, .int .u8 0, .int .u8 0, .int .u8 0, .int .u8 0, .int .u8 0, .int .u8 0, .int .u8 0, .int .u8 0, .int .u8 0, .int .u8 0, .int .u8 0, .int .u8 0, .int .u8 0, .int .u8 0, .int .u8 0, .int .u8 0, .int .u8 0, .int .u8 0, .int .u8 0, .int .u8 0, .int .u8 0, .int .u8 0, .int .u8 0, .int .u8 0, .int .u8 0, .int .u8 0, .int .u8 0, .int .u8 0, .int .u8 0, .int .u8 0, .int .u64 0, .int .i64 0, .int .i64 0, .int .u8 0, .int .u8 0, .int .u8 0, .int .u8 0, .int .u8 0, .int .u8 0, .int .u8 0, .int .u8 0, .int .u8 0, .int .u8 0, .int .u8 0, .int .u8 0, .int .u8 0, .int .u8 0, .int .u8 0, .int .u8 0, .int .u8 0, .int .u8 0, .int .u8 0, .int .u8 0, .int .u8 0, .int .u8 0, .int .u8 0, .int .u8 0, .int .u8 0, .int .u8 0, .int .u8 0, .int .u8 0, .int .u8 0, .int .u8 0, .int .u8 0, .int .u8 0, .int .u64 0]) h159 (by rw [RAct.c_size hxo]; kernel_rfl) (by rw [RAct.c_size hxo]; rfl) (by rw [RAct.c, List.all_toArray]; exact List.all_eq_true.2 (ract_one hxo))) ?_
      clear eV168
      have h170 : Row V168 28 36 va wa.length (wa.flatMap Att.cl) := h162.keeps kV168 (fun j hj e => Row.ne h162 h159 (by decide) ((show j = xb from e) ▸ hj))
      have h171 : Row V168 35 35 vb wp.length (wp.flatMap Pro.cl) := h163.keeps kV168 (fun j hj e => Row.ne h163 h159 (by decide) ((show j = xb from e) ▸ hj))
      have h172 : RSt w V168 r 1 s := RSt.one h164 kV168 h159 (by decide) (by decide) (by decide) (by decide) (by decide) (by decide) (by decide)
      have h173 := kV168.bo h165 (by omega)
      have K174 := K166.no kV168 (by omega)
      have z175 := kV168.size
      refine ps_end ?_
      refine then_n ?_
      refine sy_sq (part_RecordKeeps 130706) (part_RecordKeeps 130707) ?_
      refine sy_reg ?_
      refine rg_plain 13 (opsAt (part_RecordKeeps 130706)) [0, 1, 2, 3, 4, 5] (by kernel_rfl) (by kernel_rfl) ?_
      refine ps_k (o_RecordKeeps 130706 0) (pT xb 5) ?_
      refine ps_k (o_RecordKeeps 130706 1) (pT xb 5) ?_
      obtain ⟨V176, eV176, kV176⟩ := cell_step V168 xb 5 (.int .i64 1)
      have h177 : V176.heap[xb]? = some (.cells (RAct.c x.oneA) 51 (0, 0)) := eV176 ▸ ((heap_setCell_same _ xb 5 _ _ (.int .i64 1) h169).trans (congrArg (fun c => some (Obj.cells c 51 (0, 0))) (show (RAct.c x : Array Value).setIfInBounds 5 (.int .i64 1) = RAct.c x.oneA from RAct.set_a x)))
      refine ps_s (o_RecordKeeps 130706 2) (w' := V176) (by rw [← eV176]; exact exec_store_cell 3 (.tmp 51) (.const (.int .i64 1)) (by kernel_rfl) xb 5 (by kernel_rfl) (.int .i64 1) (by kernel_rfl) (by kernel_rfl) (by kernel_rfl) (.int .i64 x.a.v) (rc (h169) (RAct.c_a x 0 _ Att.cl_0)) (frozen_of_row _ _ _ _ _ h169) (by kernel_rfl)) ?_
      clear eV176
      have h178 : Row V176 28 36 va wa.length (wa.flatMap Att.cl) := h170.keeps kV176 (fun j hj e => Row.ne h170 h169 (by decide) ((show j = xb from e) ▸ hj))
      have h179 : Row V176 35 35 vb wp.length (wp.flatMap Pro.cl) := h171.keeps kV176 (fun j hj e => Row.ne h171 h169 (by decide) ((show j = xb from e) ▸ hj))
      have h180 : RSt w V176 r 1 s := RSt.one h172 kV176 h169 (by decide) (by decide) (by decide) (by decide) (by decide) (by decide) (by decide)
      have h181 := kV176.bo h173 (by omega)
      have K182 := K174.no kV176 (by omega)
      have z183 := kV176.size
      refine ps_k (o_RecordKeeps 130706 3) (pT xb 41) ?_
      refine ps_k (o_RecordKeeps 130706 4) (pT xb 41) ?_
      obtain ⟨V184, eV184, kV184⟩ := cell_step V176 xb 41 (.int .i64 1)
      have h185 : V184.heap[xb]? = some (.cells (RAct.c x.one) 51 (0, 0)) := eV184 ▸ ((heap_setCell_same _ xb 41 _ _ (.int .i64 1) h177).trans (congrArg (fun c => some (Obj.cells c 51 (0, 0))) (show (RAct.c x.oneA : Array Value).setIfInBounds 41 (.int .i64 1) = RAct.c x.one from RAct.set_p hxo)))
      refine ps_s (o_RecordKeeps 130706 5) (w' := V184) (by rw [← eV184]; exact exec_store_cell 3 (.tmp 53) (.const (.int .i64 1)) (by kernel_rfl) xb 41 (by kernel_rfl) (.int .i64 1) (by kernel_rfl) (by kernel_rfl) (by kernel_rfl) (.int .i64 x.p.v) (rc (h177) (RAct.c_p _ (RAct.oneA_ok hxo) 0 _ Pro.cl_0)) (frozen_of_row _ _ _ _ _ h177) (by kernel_rfl)) ?_
      clear eV184
      have h186 : Row V184 28 36 va wa.length (wa.flatMap Att.cl) := h178.keeps kV184 (fun j hj e => Row.ne h178 h177 (by decide) ((show j = xb from e) ▸ hj))
      have h187 : Row V184 35 35 vb wp.length (wp.flatMap Pro.cl) := h179.keeps kV184 (fun j hj e => Row.ne h179 h177 (by decide) ((show j = xb from e) ▸ hj))
      have h188 : RSt w V184 r 1 s := RSt.one h180 kV184 h177 (by decide) (by decide) (by decide) (by decide) (by decide) (by decide) (by decide)
      have h189 := kV184.bo h181 (by omega)
      have K190 := K182.no kV184 (by omega)
      have z191 := kV184.size
      refine ps_end ?_
      refine then_n ?_
      refine sy_sq (part_RecordKeeps 261414) (part_RecordKeeps 261415) ?_
      refine sy_sq (part_RecordKeeps 522828) (part_RecordKeeps 522829) ?_
      refine sy_reg ?_
      refine rg_plain 14 (opsAt (part_RecordKeeps 522828)) [0, 1] (by kernel_rfl) (by kernel_rfl) ?_
      refine ps_k (o_RecordKeeps 522828 0) (pT xb 0) ?_
      refine ps_p (o_RecordKeeps 522828 1) (.int .i64 x.one.k) (exec_ld 3 (.tmp 54) xb 0 Try.underlying3 (rc (h185) (RAct.c_0 _))) ?_
      refine ps_end ?_
      refine then_n ?_
      refine sy_bk 2 (part_RecordKeeps 1045658) ?_
      refine sy_sq (part_RecordKeeps 2091316) (part_RecordKeeps 2091317) ?_
      refine sy_reg ?_
      refine rg_plain 15 (opsAt (part_RecordKeeps 2091316)) [0, 1] (by kernel_rfl) (by kernel_rfl) ?_
      refine ps_p (o_RecordKeeps 2091316 0) (.bool false) (eqf ((x.one.k) : Int) ((0) : Int) (by omega)) ?_
      refine ps_k (o_RecordKeeps 2091316 1) (.bool false) ?_
      refine ps_end ?_
      refine then_n ?_
      refine sy_n (.tmp 56) (part_RecordKeeps 4182634) (part_RecordKeeps 4182635) ?_
      refine sy_sq (part_RecordKeeps 8365270) (part_RecordKeeps 8365271) ?_
      refine sy_reg ?_
      refine rg_plain 18 (opsAt (part_RecordKeeps 8365270)) [0, 1] (by kernel_rfl) (by kernel_rfl) ?_
      refine ps_p (o_RecordKeeps 8365270 0) (.bool true) (eqt ((x.one.k) : Int) ((1) : Int) (by omega)) ?_
      refine ps_k (o_RecordKeeps 8365270 1) (.bool true) ?_
      refine ps_end ?_
      refine then_n ?_
      refine sy_ys (.tmp 70) (part_RecordKeeps 16730542) (part_RecordKeeps 16730543) ?_
      refine sy_sq (part_RecordKeeps 33461084) (part_RecordKeeps 33461085) ?_
      refine sy_reg ?_
      refine rg_plain 19 (opsAt (part_RecordKeeps 33461084)) [0, 1, 2, 3, 4] (by kernel_rfl) (by kernel_rfl) ?_
      refine ps_k (o_RecordKeeps 33461084 0) (pT r 0) ?_
      refine ps_k (o_RecordKeeps 33461084 1) (pT xb 41) ?_
      refine ps_p (o_RecordKeeps 33461084 2) (.agg (Pro.c x.one.p)) (exec_load_seg 35 (.tmp 73) (by kernel_rfl) xb 41 (by kernel_rfl) (Pro.cl x.one.p) _ _ _ h185 (RAct.c_p x.one hx1) Try.underlying35 rfl (by rw [Pro.cl_len hx1.p]; kernel_rfl)) ?_
      refine ps_c (o_RecordKeeps 33461084 3) 12 #[pT r 0, .agg (Pro.c x.one.p)] Try.func12 ((RSt.putB_yes h188 x.one.p hx1.p he).mono ?_)
      rintro e V192 ⟨rfl, q193, kV192⟩
      refine ⟨_, rfl, ?_⟩
      have h194 : Row V192 28 36 va wa.length (wa.flatMap Att.cl) := h186.keeps kV192 (Row.rings h186 (by decide) (by decide) (by decide) (by decide))
      have h195 : Row V192 35 35 vb wp.length (wp.flatMap Pro.cl) := h187.keeps kV192 (Row.rings h187 (by decide) (by decide) (by decide) (by decide))
      have h196 : V192.heap[hb]? = some (.cells (#[va, vb]) 66 (0, 0)) := (kV192.block hb (lt_of_block h189) (fun e => Rings.not h189 (by decide) (by decide) (by decide) (by decide) e)).trans h189
      have h197 : V192.heap[xb]? = some (.cells (RAct.c x.one) 51 (0, 0)) := (kV192.block xb (lt_of_block h185) (fun e => Rings.not h185 (by decide) (by decide) (by decide) (by decide) e)).trans h185
      have K198 : Keeps Nob w V192 := K190.then kV192 (fun i hi hm => absurd hi (by have := hm.1; omega))
      have z199 := kV192.size
      refine ps_k (o_RecordKeeps 33461084 4) (.bool true) ?_
      refine ps_end ?_
      refine sy_a ⟨#[.int .i64 wi, .int .i64 bl, vl, undef, undef, undef, uu 0, .bool true, pT r 0, .int .i64 0, pT hb 0, iN s.la, iN s.lb, iN i, pT xb 0, uu 2, uu 3, uu 4, uu 5, .bool true, vl, iN l.length, .bool false, undef, .tuple #[pT r 0, .int .i64 0], .int .i64 wi, iN tna, iN (1 + tna), .int .i64 bl, iN tnb, iN (1 + tnb), .tuple #[pT r 0, .int .i64 0], pT r 0, .int .i64 0, .int .i64 0, .bool false, .bool false, pT r 0, .bool false, .bool false, iN i, vl, iN l.length, .bool true, uu 10, uu 11, vl, iN i, pT b_x (o_x + i * 76), .agg (RAct.c x), pT xb 5, pT xb 5, pT xb 41, pT xb 41, pT xb 0, .int .i64 x.one.k, .bool false, .bool false, uu 24, uu 25, uu 26, uu 27, uu 28, uu 29, uu 30, uu 31, uu 32, uu 33, uu 34, uu 35, .bool true, .bool true, pT r 0, pT xb 41, .agg (Pro.c x.one.p), .int .i64 0, .bool true, uu 43, uu 44, uu 45, uu 46, uu 47, uu 48, uu 49, uu 50, uu 51, uu 52, uu 53, uu 54, uu 55, uu 56, uu 57, uu 58, uu 59, uu 60, uu 61, uu 62, uu 63, uu 64, uu 65, uu 66, uu 67, uu 68, uu 69, uu 70, uu 71, uu 72, uu 73, uu 74, uu 75, uu 76, uu 77, uu 78, uu 79, uu 80, uu 81, uu 82, uu 83, uu 84, uu 85, uu 86, uu 87, uu 88, uu 89, uu 90, uu 91, uu 92, uu 93, uu 94, uu 95, uu 96, uu 97, uu 98, uu 99, uu 100, uu 101, uu 102, uu 103, uu 104, uu 105, uu 106, uu 107, uu 108, uu 109, uu 110, uu 111, uu 112, uu 113, uu 114, uu 115, uu 116, uu 117, uu 118, uu 119, uu 120, uu 121, uu 122, uu 123, uu 124, uu 125, uu 126, undef], []⟩ ?_
      refine then_n ?_
      refine sy_ys (.tmp 76) (part_RecordKeeps 66922170) (part_RecordKeeps 66922171) ?_
      refine sy_reg ?_
      refine rg_plain 20 (opsAt (part_RecordKeeps 66922170)) [0, 1, 2, 3, 4, 5, 6, 7] (by kernel_rfl) (by kernel_rfl) ?_
      refine ps_k (o_RecordKeeps 66922170 0) (pT hb 1) ?_
      refine ps_p (o_RecordKeeps 66922170 1) (vb) (exec_ld 61 (.tmp 77) hb 1 Try.underlying61 (rc (h196) (by kernel_rfl))) ?_
      refine ps_k (o_RecordKeeps 66922170 2) (pT xb 41) ?_
      refine ps_p (o_RecordKeeps 66922170 3) (.agg (Pro.c x.one.p)) (exec_load_seg 35 (.tmp 79) (by kernel_rfl) xb 41 (by kernel_rfl) (Pro.cl x.one.p) _ _ _ h197 (RAct.c_p x.one hx1) Try.underlying35 rfl (by rw [Pro.cl_len hx1.p]; kernel_rfl)) ?_
      obtain ⟨V200, eV200, lit, elit, h201, kV200⟩ := alloc_step V192 (Pro.c x.one.p) 35
      refine ps_r (o_RecordKeeps 66922170 4) (.slice (some ⟨lit, 0, none⟩) 1 1) (w' := V200) (by rw [← eV200, ← elit]; exact exec_build1 61 35 (.tmp 80) (by kernel_rfl) (.agg (Pro.c x.one.p)) (by kernel_rfl) ib _ Try.underlying61 hib0 hib1 35 hib2 (by decide) (by decide) (Pro.c_size x.one.p hx1.p.r)) ?_
      clear eV200
      have h202 : Row V200 28 36 va wa.length (wa.flatMap Att.cl) := h194.keeps kV200 (fun _ _ x => x)
      have h203 : Row V200 35 35 vb wp.length (wp.flatMap Pro.cl) := h195.keeps kV200 (fun _ _ x => x)
      have h204 := kV200.bk h196
      have h205 := kV200.bk h197
      have h206 : RSt w V200 r 1 ({ s with VB := upV s.VB x.one.p.h x.one.p }) := q193.keepsN kV200
      have K207 := K198.nn kV200
      have z208 := kV200.size
      obtain ⟨v209, V210, hr211, h212, hg213, hn214, ha215⟩ := run_append_any (P := Try.prog) (w := V200) 61 (Oper.type (o_RecordKeeps 66922170 5)) 35 ib (.agg zPro.c) 35 56 Try.underlying61 hib0 hib1 hib2 hib3 rfl (by decide) vb wp.length (wp.flatMap Pro.cl) h203 (.slice (some ⟨lit, 0, none⟩) 1 1) 1 (Pro.cl x.one.p) (src_pro hx1.p h201) (by unfold maxLen; omega) (by omega)
      have hones_ : Ones V200 V210 35 35 := append_ones (P := Try.prog) 61 _ 35 ib (.agg zPro.c) 35 56 Try.underlying61 hib0 hib1 hib2 hib3 rfl (by decide) vb wp.length (wp.flatMap Pro.cl) h203 _ 1 _ (src_pro hx1.p h201) (by decide) (by unfold maxLen; omega) (by omega) hvb hr211 hg213
      have kV210 : Keeps (fun j => vb.ownBlock = some j) V200 V210 := Keeps.rowAdd hg213
      have hw216 : NewFrom w.heap.size v209 := hnwb.next K207.size ha215
      refine ps_r (o_RecordKeeps 66922170 5) v209 (w' := V210) (exec_append (.tmp 78) (.tmp 81) 61 (by kernel_rfl) vb (.slice (some ⟨lit, 0, none⟩) 1 1) (by kernel_rfl) (by kernel_rfl) hr211) ?_
      have h217 : Row V210 35 35 v209 ((wp ++ [x.one.p]).length) ((wp ++ [x.one.p]).flatMap Pro.cl) := (by rw [List.flatMap_append, List.length_append]; simpa using h212)
      have h218 : Row V210 28 36 va wa.length (wa.flatMap Att.cl) := h202.keeps kV210 (Row.apart h202 h203 (by decide))
      have h219 : V210.heap[hb]? = some (.cells (#[va, vb]) 66 (0, 0)) := (kV210.block hb (lt_of_block h204) (fun e => Row.ne h203 h204 (by decide) e)).trans h204
      have h220 : V210.heap[xb]? = some (.cells (RAct.c x.one) 51 (0, 0)) := (kV210.block xb (lt_of_block h205) (fun e => Row.ne h203 h205 (by decide) e)).trans h205
      have h221 : RSt w V210 r 1 ({ s with VB := upV s.VB x.one.p.h x.one.p }) := RSt.rowB h206 h203 kV210 hones_
      have K222 : Keeps Nob w V210 := K207.then kV210 (fun i hi hm => absurd hi (by have := hnwb i hm; omega))
      have z223 := kV210.size
      refine ps_k (o_RecordKeeps 66922170 6) (pT hb 1) ?_
      obtain ⟨V224, eV224, kV224⟩ := cell_step V210 hb 1 v209
      have h225 : V224.heap[hb]? = some (.cells (#[va, v209]) 66 (0, 0)) := eV224 ▸ ((heap_setCell_same _ hb 1 _ _ v209 h219).trans (congrArg (fun c => some (Obj.cells c 66 (0, 0))) (show (#[va, vb] : Array Value).setIfInBounds 1 v209 = #[va, v209] from by kernel_rfl)))
      refine ps_s (o_RecordKeeps 66922170 7) (w' := V224) (by rw [← eV224]; exact exec_store_cell 61 (.tmp 83) (.tmp 82) (by kernel_rfl) hb 1 (by kernel_rfl) v209 (by kernel_rfl) (by kernel_rfl) (Row.cells1 h217) vb (rc (h219) (by kernel_rfl)) (frozen_of_row _ _ _ _ _ h219) (Row.one h217)) ?_
      clear eV224
      have h226 : Row V224 28 36 va wa.length (wa.flatMap Att.cl) := h218.keeps kV224 (fun j hj e => Row.ne h218 h219 (by decide) ((show j = hb from e) ▸ hj))
      have h227 := kV224.bo h220 (by omega)
      have h228 : RSt w V224 r 1 ({ s with VB := upV s.VB x.one.p.h x.one.p }) := RSt.one h221 kV224 h219 (by decide) (by decide) (by decide) (by decide) (by decide) (by decide) (by decide)
      have h229 : Row V224 35 35 v209 ((wp ++ [x.one.p]).length) ((wp ++ [x.one.p]).flatMap Pro.cl) := h217.keeps kV224 (fun j hj e => Row.ne h217 h219 (by decide) ((show j = hb from e) ▸ hj))
      have K230 := K222.no kV224 (by omega)
      have z231 := kV224.size
      refine ps_end ?_
      refine blk_n ?_
      refine then_n ?_
      refine sy_sq (part_RecordKeeps 522830) (part_RecordKeeps 522831) ?_
      refine sy_reg ?_
      refine rg_plain 31 (opsAt (part_RecordKeeps 522830)) [0, 1, 2, 3, 4, 5] (by kernel_rfl) (by kernel_rfl) ?_
      refine ps_k (o_RecordKeeps 522830 0) (pT r 0) ?_
      refine ps_p (o_RecordKeeps 522830 1) (.agg #[va, v209]) (exec_load_row 66 (.tmp 10) (by kernel_rfl) hb (by kernel_rfl) _ _ (0, 0) _ (h225) Try.underlying66 rfl (by kernel_rfl)) ?_
      refine ps_k (o_RecordKeeps 522830 2) (iN s.la) ?_
      refine ps_k (o_RecordKeeps 522830 3) (iN s.lb) ?_
      have HI9 := HI.putB hhb hx1.p he
      refine ps_c (o_RecordKeeps 522830 4) 29 #[pT r 0, .agg #[va, v209], iN s.la, iN s.lb] Try.func29 ((lthere_ok w r ({ s with VB := upV s.VB x.one.p.h x.one.p }) va v209 wa ((wp ++ [x.one.p])) _ h228 (Row.sl h226 rfl (fun y hy => Att.cl_len (HI9.oka y hy))) (Row.sl h229 rfl (fun y hy => Pro.cl_len (HI9.okp y hy))) HI9).mono ?_)
      rintro e V232 ⟨rfl, kV232⟩
      have hrs9 := h228.keepsN kV232
      refine ⟨_, rfl, ?_⟩
      have h233 : Row V232 28 36 va wa.length (wa.flatMap Att.cl) := h226.keeps kV232 (fun _ _ x => x)
      have h234 := kV232.bk h227
      have h235 : Row V232 35 35 v209 ((wp ++ [x.one.p]).length) ((wp ++ [x.one.p]).flatMap Pro.cl) := h229.keeps kV232 (fun _ _ x => x)
      have h236 := kV232.bk h225
      have K237 := K230.nn kV232
      have z238 := kV232.size
      refine ps_k (o_RecordKeeps 522830 5) (.bool false) ?_
      refine ps_end ?_
      refine then_n ?_
      refine sy_n (.tmp 160) (part_RecordKeeps 1045662) (part_RecordKeeps 1045663) ?_
      refine sy_sk ?_
      refine blk_n ?_
      refine then_n ?_
      refine sy_reg ?_
      refine rg_plain 11 (opsAt (part_RecordKeeps 16339)) [0, 1, 2] (by kernel_rfl) (by kernel_rfl) ?_
      refine ps_k (o_RecordKeeps 16339 0) (iN i) ?_
      refine ps_p (o_RecordKeeps 16339 1) (iN (i + 1)) (exec_cast (congrArg (Value.int .i64) (wrapN (i + 1) (by omega))) (by kernel_rfl)) ?_
      refine ps_k (o_RecordKeeps 16339 2) (iN (i + 1)) ?_
      refine ps_end ?_
      refine then_n ?_
      refine ⟨⟨i + 1, { s with VB := upV s.VB x.one.p.h x.one.p }, va, v209, wa, (wp ++ [x.one.p]), (fun k => ([uu 0, pT xb 0, uu 2, uu 3, uu 4, uu 5, iN i, vl, iN l.length, .bool true, iN i, iN (i + 1), vl, iN i, pT b_x (o_x + i * 76), .agg (RAct.c x), pT xb 5, pT xb 5, pT xb 41, pT xb 41, pT xb 0, .int .i64 x.one.k, .bool false, .bool false, uu 24, uu 25, uu 26, uu 27, uu 28, uu 29, uu 30, uu 31, uu 32, uu 33, uu 34, uu 35, .bool true, .bool true, pT r 0, pT xb 41, .agg (Pro.c x.one.p), .int .i64 0, .bool true, pT hb 1, vb, pT xb 41, .agg (Pro.c x.one.p), .slice (some ⟨lit, 0, none⟩) 1 1, v209, pT hb 1, uu 50, uu 51, uu 52, uu 53, uu 54, uu 55, uu 56, uu 57, uu 58, uu 59, uu 60, uu 61, uu 62, uu 63, uu 64, uu 65, uu 66, uu 67, uu 68, uu 69, uu 70, uu 71, uu 72, uu 73, uu 74, uu 75, uu 76, uu 77, uu 78, uu 79, uu 80, uu 81, uu 82, uu 83, uu 84, uu 85, uu 86, uu 87, uu 88, uu 89, uu 90, uu 91, uu 92, uu 93, uu 94, uu 95, uu 96, uu 97, uu 98, uu 99, uu 100, uu 101, uu 102, uu 103, uu 104, uu 105, uu 106, uu 107, uu 108, uu 109, uu 110, uu 111, uu 112, uu 113, uu 114, uu 115, uu 116, uu 117, uu 118, uu 119, uu 120, pT r 0, .agg #[va, v209], iN s.la, iN s.lb, .bool true, .bool false] : List Value).getD k undef), by kernel_rfl, by omega, HI9, by first | (show s.la ≤ _; omega) | (show lo ≤ _; omega), by first | (show s.lb ≤ _; omega) | (show fl ≤ _; omega), by first | (show 1 ≤ s.lb; omega) | (show 1 ≤ fl; omega), by first | omega | (rw [List.length_append]; show wa.length + 1 ≤ _; omega), by first | omega | (rw [List.length_append]; show wp.length + 1 ≤ _; omega), by first | exact hva | exact fun _ => (by rw [List.length_append]; exact Nat.succ_pos _), by first | exact hvb | exact fun _ => (by rw [List.length_append]; exact Nat.succ_pos _), h233, h235, hrs9, h236, K237, hnwa, hw216⟩, ?_⟩
      exact lt_meas (x := l.length - (i + 1)) (y := l.length - i) (by kernel_rfl) (by kernel_rfl) (by omega)
    · have hok_ : x.one.k = x.k := rfl
      have hxo := Hok x (List.mem_of_getElem? hx)
      have hx1 := RAct.one_ok hxo
      obtain ⟨b_x, o_x, c_x, hv_x, hb_x, _⟩ := Ha.at_ i _ hx
      obtain ⟨_, _, _, _, hha, hhb, _, _⟩ := h25.ok
      skip
      refine sy_sq (part_RecordKeeps 8168) (part_RecordKeeps 8169) ?_
      refine sy_sq (part_RecordKeeps 16336) (part_RecordKeeps 16337) ?_
      refine sy_reg ?_
      refine rg_plain 10 (opsAt (part_RecordKeeps 16336)) [0, 1, 2, 3] (by kernel_rfl) (by kernel_rfl) ?_
      refine ps_k (o_RecordKeeps 16336 0) (iN i) ?_
      refine ps_k (o_RecordKeeps 16336 1) (vl) ?_
      refine ps_p (o_RecordKeeps 16336 2) (iN l.length) (exec_len_sl (.tmp 41) 46 51 (by kernel_rfl) Try.underlying46 (by kernel_rfl) (Ha.keepsN K27)) ?_
      refine ps_p (o_RecordKeeps 16336 3) (.bool true) (dct ((((i : Nat) : Int)) < (((l.length : Nat) : Int))) (by omega)) ?_
      refine ps_end ?_
      refine then_n ?_
      refine sy_ys (.tmp 43) (part_RecordKeeps 32674) (part_RecordKeeps 32675) ?_
      refine sy_sk ?_
      refine then_n ?_
      refine sy_sq (part_RecordKeeps 16338) (part_RecordKeeps 16339) ?_
      refine sy_bk 1 (part_RecordKeeps 32676) ?_
      refine sy_sq (part_RecordKeeps 65352) (part_RecordKeeps 65353) ?_
      refine sy_reg ?_
      refine rg_plain 12 (opsAt (part_RecordKeeps 65352)) [0, 1, 2, 3, 4, 5] (by kernel_rfl) (by kernel_rfl) ?_
      refine ps_k (o_RecordKeeps 65352 0) (vl) ?_
      refine ps_k (o_RecordKeeps 65352 1) (iN i) ?_
      refine ps_p (o_RecordKeeps 65352 2) (pT b_x (o_x + i * 76)) (exec_indexAt_slice 46 (.tmp 46) (.tmp 47) (by kernel_rfl) b_x o_x l.length c_x (Eq.trans (b := vl) (by kernel_rfl) hv_x) .i64 i (by kernel_rfl) _ 76 Try.underlying46 (by kernel_rfl) (by omega)) ?_
      refine ps_p (o_RecordKeeps 65352 3) (.agg (RAct.c x)) (exec_load_mid 51 (.tmp 48) (by kernel_rfl) b_x (o_x + i * 76) (by kernel_rfl) (RAct.cl x) _ (Sl.range (Ha.keepsN K27) hx hv_x) Try.underlying51 rfl (by rw [RAct.cl_len hxo]; kernel_rfl)) ?_
      obtain ⟨V239, eV239, xb, exb, h240, kV239⟩ := alloc_step V22 (#[.int .i64 0, .int .i64 0, .int .i64 0, .int .i64 0, .int .i64 0, .int .i64 0, .int .i64 0, .int .i64 0, .int .u8 0, .int .u8 0, .int .u8 0, .int .u8 0, .int .u8 0, .int .u8 0, .int .u8 0, .int .u8 0, .int .u8 0, .int .u8 0, .int .u8 0, .int .u8 0, .int .u8 0, .int .u8 0, .int .u8 0, .int .u8 0, .int .u8 0, .int .u8 0, .int .u8 0, .int .u8 0, .int .u8 0, .int .u8 0, .int .u8 0, .int .u8 0, .int .u8 0, .int .u8 0, .int .u8 0, .int .u8 0, .int .u8 0, .int .u8 0, .int .u8 0, .int .u8 0, .int .u64 0, .int .i64 0, .int .i64 0, .int .u8 0, .int .u8 0, .int .u8 0, .int .u8 0, .int .u8 0, .int .u8 0, .int .u8 0, .int .u8 0, .int .u8 0, .int .u8 0, .int .u8 0, .int .u8 0, .int .u8 0, .int .u8 0, .int .u8 0, .int .u8 0, .int .u8 0, .int .u8 0, .int .u8 0, .int .u8 0, .int .u8 0, .int .u8 0, .int .u8 0, .int .u8 0, .int .u8 0, .int .u8 0, .int .u8 0, .int .u8 0, .int .u8 0, .int .u8 0, .int .u8 0, .int .u8 0, .int .u64 0]) 51
      have n241 : hb < xb := exb ▸ lt_of_block h26
      have n242 : w.heap.size ≤ xb := exb ▸ K27.size
      refine ps_r (o_RecordKeeps 65352 4) (pT xb 0) (w' := V239) (by rw [← eV239, ← exb]; exact exec_alloc0 51 (by kernel_rfl) (.agg (#[.int .i64 0, .int .i64 0, .int .i64 0, .int .i64 0, .int .i64 0, .int .i64 0, .int .i64 0, .int .i64 0, .int .u8 0, .int .u8 0, .int .u8 0, .int .u8 0, .int .u8 0, .int .u8 0, .int .u8 0, .int .u8 0, .int .u8 0, .int .u8 0, .int .u8 0, .int .u8 0, .int .u8 0, .int .u8 0, .int .u8 0, .int .u8 0, .int .u8 0, .int .u8 0, .int .u8 0, .int .u8 0, .int .u8 0, .int .u8 0, .int .u8 0, .int .u8 0, .int .u8 0, .int .u8 0, .int .u8 0, .int .u8 0, .int .u8 0, .int .u8 0, .int .u8 0, .int .u8 0, .int .u64 0, .int .i64 0, .int .i64 0, .int .u8 0, .int .u8 0, .int .u8 0, .int .u8 0, .int .u8 0, .int .u8 0, .int .u8 0, .int .u8 0, .int .u8 0, .int .u8 0, .int .u8 0, .int .u8 0, .int .u8 0, .int .u8 0, .int .u8 0, .int .u8 0, .int .u8 0, .int .u8 0, .int .u8 0, .int .u8 0, .int .u8 0, .int .u8 0, .int .u8 0, .int .u8 0, .int .u8 0, .int .u8 0, .int .u8 0, .int .u8 0, .int .u8 0, .int .u8 0, .int .u8 0, .int .u8 0, .int .u64 0])) (by kernel_rfl)) ?_
      clear eV239
      have h243 : Row V239 28 36 va wa.length (wa.flatMap Att.cl) := h23.keeps kV239 (fun _ _ x => x)
      have h244 : Row V239 35 35 vb wp.length (wp.flatMap Pro.cl) := h24.keeps kV239 (fun _ _ x => x)
      have h245 : RSt w V239 r 1 s := h25.keepsN kV239
      have h246 := kV239.bk h26
      have K247 := K27.nn kV239
      have z248 := kV239.size
      obtain ⟨V249, eV249, kV249⟩ := rowset_step V239 xb ((RAct.c x))
      have h250 : V249.heap[xb]? = some (.cells (RAct.c x) 51 (0, 0)) := eV249 ▸ setRow_heap _ _ _ _ _ _ h240
      refine ps_s (o_RecordKeeps 65352 5) (w' := V249) (by rw [← eV249]; exact exec_store_row 51 (.tmp 14) (.tmp 49) (by kernel_rfl) xb ((RAct.c x)) (by kernel_rfl) (by kernel_rfl) 51 (#[.int .i64 0, .int .i64 0, .int .i64 0, .int .i64 0, .int .i64 0, .int .i64 0, .int .i64 0, .int .i64 0, .int .u8 0, .int .u8 0, .int .u8 0, .int .u8 0, .int .u8 0, .int .u8 0, .int .u8 0, .int .u8 0, .int .u8 0, .int .u8 0, .int .u8 0, .int .u8 0, .int .u8 0, .int .u8 0, .int .u8 0, .int .u8 0, .int .u8 0, .int .u8 0, .int .u8 0, .int .u8 0, .int .u8 0, .int .u8 0, .int .u8 0, .int .u8 0, .int .u8 0, .int .u8 0, .int .u8 0, .int .u8 0, .int .u8 0, .int .u8 0, .int .u8 0, .int .u8 0, .int .u64 0, .int .i64 0, .int .i64 0, .int .u8 0, .int .u8 0, .int .u8 0, .int .u8 0, .int .u8 0, .int .u8 0, .int .u8 0, .int .u8 0, .int .u8 0, .int .u8 0, .int .u8 0, .int .u8 0, .int .u8 0, .int .u8 0, .int .u8 0, .int .u8 0, .int .u8 0, .int .u8 0, .int .u8 0, .int .u8 0, .int .u8 0, .int .u8 0, .int .u8 0, .int .u8 0, .int .u8 0, .int .u8 0, .int .u8 0, .int .u8 0, .int .u8 0, .int .u8 0, .int .u8 0, .int .u8 0, .int .u64 0]) h240 (by rw [RAct.c_size hxo]; kernel_rfl) (by rw [RAct.c_size hxo]; rfl) (by rw [RAct.c, List.all_toArray]; exact List.all_eq_true.2 (ract_one hxo))) ?_
      clear eV249
      have h251 : Row V249 28 36 va wa.length (wa.flatMap Att.cl) := h243.keeps kV249 (fun j hj e => Row.ne h243 h240 (by decide) ((show j = xb from e) ▸ hj))
      have h252 : Row V249 35 35 vb wp.length (wp.flatMap Pro.cl) := h244.keeps kV249 (fun j hj e => Row.ne h244 h240 (by decide) ((show j = xb from e) ▸ hj))
      have h253 : RSt w V249 r 1 s := RSt.one h245 kV249 h240 (by decide) (by decide) (by decide) (by decide) (by decide) (by decide) (by decide)
      have h254 := kV249.bo h246 (by omega)
      have K255 := K247.no kV249 (by omega)
      have z256 := kV249.size
      refine ps_end ?_
      refine then_n ?_
      refine sy_sq (part_RecordKeeps 130706) (part_RecordKeeps 130707) ?_
      refine sy_reg ?_
      refine rg_plain 13 (opsAt (part_RecordKeeps 130706)) [0, 1, 2, 3, 4, 5] (by kernel_rfl) (by kernel_rfl) ?_
      refine ps_k (o_RecordKeeps 130706 0) (pT xb 5) ?_
      refine ps_k (o_RecordKeeps 130706 1) (pT xb 5) ?_
      obtain ⟨V257, eV257, kV257⟩ := cell_step V249 xb 5 (.int .i64 1)
      have h258 : V257.heap[xb]? = some (.cells (RAct.c x.oneA) 51 (0, 0)) := eV257 ▸ ((heap_setCell_same _ xb 5 _ _ (.int .i64 1) h250).trans (congrArg (fun c => some (Obj.cells c 51 (0, 0))) (show (RAct.c x : Array Value).setIfInBounds 5 (.int .i64 1) = RAct.c x.oneA from RAct.set_a x)))
      refine ps_s (o_RecordKeeps 130706 2) (w' := V257) (by rw [← eV257]; exact exec_store_cell 3 (.tmp 51) (.const (.int .i64 1)) (by kernel_rfl) xb 5 (by kernel_rfl) (.int .i64 1) (by kernel_rfl) (by kernel_rfl) (by kernel_rfl) (.int .i64 x.a.v) (rc (h250) (RAct.c_a x 0 _ Att.cl_0)) (frozen_of_row _ _ _ _ _ h250) (by kernel_rfl)) ?_
      clear eV257
      have h259 : Row V257 28 36 va wa.length (wa.flatMap Att.cl) := h251.keeps kV257 (fun j hj e => Row.ne h251 h250 (by decide) ((show j = xb from e) ▸ hj))
      have h260 : Row V257 35 35 vb wp.length (wp.flatMap Pro.cl) := h252.keeps kV257 (fun j hj e => Row.ne h252 h250 (by decide) ((show j = xb from e) ▸ hj))
      have h261 : RSt w V257 r 1 s := RSt.one h253 kV257 h250 (by decide) (by decide) (by decide) (by decide) (by decide) (by decide) (by decide)
      have h262 := kV257.bo h254 (by omega)
      have K263 := K255.no kV257 (by omega)
      have z264 := kV257.size
      refine ps_k (o_RecordKeeps 130706 3) (pT xb 41) ?_
      refine ps_k (o_RecordKeeps 130706 4) (pT xb 41) ?_
      obtain ⟨V265, eV265, kV265⟩ := cell_step V257 xb 41 (.int .i64 1)
      have h266 : V265.heap[xb]? = some (.cells (RAct.c x.one) 51 (0, 0)) := eV265 ▸ ((heap_setCell_same _ xb 41 _ _ (.int .i64 1) h258).trans (congrArg (fun c => some (Obj.cells c 51 (0, 0))) (show (RAct.c x.oneA : Array Value).setIfInBounds 41 (.int .i64 1) = RAct.c x.one from RAct.set_p hxo)))
      refine ps_s (o_RecordKeeps 130706 5) (w' := V265) (by rw [← eV265]; exact exec_store_cell 3 (.tmp 53) (.const (.int .i64 1)) (by kernel_rfl) xb 41 (by kernel_rfl) (.int .i64 1) (by kernel_rfl) (by kernel_rfl) (by kernel_rfl) (.int .i64 x.p.v) (rc (h258) (RAct.c_p _ (RAct.oneA_ok hxo) 0 _ Pro.cl_0)) (frozen_of_row _ _ _ _ _ h258) (by kernel_rfl)) ?_
      clear eV265
      have h267 : Row V265 28 36 va wa.length (wa.flatMap Att.cl) := h259.keeps kV265 (fun j hj e => Row.ne h259 h258 (by decide) ((show j = xb from e) ▸ hj))
      have h268 : Row V265 35 35 vb wp.length (wp.flatMap Pro.cl) := h260.keeps kV265 (fun j hj e => Row.ne h260 h258 (by decide) ((show j = xb from e) ▸ hj))
      have h269 : RSt w V265 r 1 s := RSt.one h261 kV265 h258 (by decide) (by decide) (by decide) (by decide) (by decide) (by decide) (by decide)
      have h270 := kV265.bo h262 (by omega)
      have K271 := K263.no kV265 (by omega)
      have z272 := kV265.size
      refine ps_end ?_
      refine then_n ?_
      refine sy_sq (part_RecordKeeps 261414) (part_RecordKeeps 261415) ?_
      refine sy_sq (part_RecordKeeps 522828) (part_RecordKeeps 522829) ?_
      refine sy_reg ?_
      refine rg_plain 14 (opsAt (part_RecordKeeps 522828)) [0, 1] (by kernel_rfl) (by kernel_rfl) ?_
      refine ps_k (o_RecordKeeps 522828 0) (pT xb 0) ?_
      refine ps_p (o_RecordKeeps 522828 1) (.int .i64 x.one.k) (exec_ld 3 (.tmp 54) xb 0 Try.underlying3 (rc (h266) (RAct.c_0 _))) ?_
      refine ps_end ?_
      refine then_n ?_
      refine sy_bk 2 (part_RecordKeeps 1045658) ?_
      refine sy_sq (part_RecordKeeps 2091316) (part_RecordKeeps 2091317) ?_
      refine sy_reg ?_
      refine rg_plain 15 (opsAt (part_RecordKeeps 2091316)) [0, 1] (by kernel_rfl) (by kernel_rfl) ?_
      refine ps_p (o_RecordKeeps 2091316 0) (.bool false) (eqf ((x.one.k) : Int) ((0) : Int) (by omega)) ?_
      refine ps_k (o_RecordKeeps 2091316 1) (.bool false) ?_
      refine ps_end ?_
      refine then_n ?_
      refine sy_n (.tmp 56) (part_RecordKeeps 4182634) (part_RecordKeeps 4182635) ?_
      refine sy_sq (part_RecordKeeps 8365270) (part_RecordKeeps 8365271) ?_
      refine sy_reg ?_
      refine rg_plain 18 (opsAt (part_RecordKeeps 8365270)) [0, 1] (by kernel_rfl) (by kernel_rfl) ?_
      refine ps_p (o_RecordKeeps 8365270 0) (.bool true) (eqt ((x.one.k) : Int) ((1) : Int) (by omega)) ?_
      refine ps_k (o_RecordKeeps 8365270 1) (.bool true) ?_
      refine ps_end ?_
      refine then_n ?_
      refine sy_ys (.tmp 70) (part_RecordKeeps 16730542) (part_RecordKeeps 16730543) ?_
      refine sy_sq (part_RecordKeeps 33461084) (part_RecordKeeps 33461085) ?_
      refine sy_reg ?_
      refine rg_plain 19 (opsAt (part_RecordKeeps 33461084)) [0, 1, 2, 3, 4] (by kernel_rfl) (by kernel_rfl) ?_
      refine ps_k (o_RecordKeeps 33461084 0) (pT r 0) ?_
      refine ps_k (o_RecordKeeps 33461084 1) (pT xb 41) ?_
      refine ps_p (o_RecordKeeps 33461084 2) (.agg (Pro.c x.one.p)) (exec_load_seg 35 (.tmp 73) (by kernel_rfl) xb 41 (by kernel_rfl) (Pro.cl x.one.p) _ _ _ h266 (RAct.c_p x.one hx1) Try.underlying35 rfl (by rw [Pro.cl_len hx1.p]; kernel_rfl)) ?_
      refine ps_c (o_RecordKeeps 33461084 3) 12 #[pT r 0, .agg (Pro.c x.one.p)] Try.func12 ((RSt.putB_no h269 x.one.p hx1.p _ rfl he).mono ?_)
      rintro e V273 ⟨rfl, q274, kV273⟩
      refine ⟨_, rfl, ?_⟩
      have h275 : Row V273 28 36 va wa.length (wa.flatMap Att.cl) := h267.keeps kV273 (Row.rings h267 (by decide) (by decide) (by decide) (by decide))
      have h276 : Row V273 35 35 vb wp.length (wp.flatMap Pro.cl) := h268.keeps kV273 (Row.rings h268 (by decide) (by decide) (by decide) (by decide))
      have h277 : V273.heap[hb]? = some (.cells (#[va, vb]) 66 (0, 0)) := (kV273.block hb (lt_of_block h270) (fun e => Rings.not h270 (by decide) (by decide) (by decide) (by decide) e)).trans h270
      have h278 : V273.heap[xb]? = some (.cells (RAct.c x.one) 51 (0, 0)) := (kV273.block xb (lt_of_block h266) (fun e => Rings.not h266 (by decide) (by decide) (by decide) (by decide) e)).trans h266
      have K279 : Keeps Nob w V273 := K271.then kV273 (fun i hi hm => absurd hi (by have := hm.1; omega))
      have z280 := kV273.size
      refine ps_p (o_RecordKeeps 33461084 4) (.bool false) (eqf ((s.putErrB 1 x.one.p) : Int) ((0) : Int) (by omega)) ?_
      refine ps_end ?_
      refine sy_a ⟨#[.int .i64 wi, .int .i64 bl, vl, undef, undef, undef, uu 0, .bool true, pT r 0, .int .i64 0, pT hb 0, iN s.la, iN s.lb, iN i, pT xb 0, uu 2, uu 3, uu 4, uu 5, .bool true, vl, iN l.length, .bool false, undef, .tuple #[pT r 0, .int .i64 0], .int .i64 wi, iN tna, iN (1 + tna), .int .i64 bl, iN tnb, iN (1 + tnb), .tuple #[pT r 0, .int .i64 0], pT r 0, .int .i64 0, .int .i64 0, .bool false, .bool false, pT r 0, .bool false, .bool false, iN i, vl, iN l.length, .bool true, uu 10, uu 11, vl, iN i, pT b_x (o_x + i * 76), .agg (RAct.c x), pT xb 5, pT xb 5, pT xb 41, pT xb 41, pT xb 0, .int .i64 x.one.k, .bool false, .bool false, uu 24, uu 25, uu 26, uu 27, uu 28, uu 29, uu 30, uu 31, uu 32, uu 33, uu 34, uu 35, .bool true, .bool true, pT r 0, pT xb 41, .agg (Pro.c x.one.p), .int .i64 (s.putErrB 1 x.one.p), .bool false, uu 43, uu 44, uu 45, uu 46, uu 47, uu 48, uu 49, uu 50, uu 51, uu 52, uu 53, uu 54, uu 55, uu 56, uu 57, uu 58, uu 59, uu 60, uu 61, uu 62, uu 63, uu 64, uu 65, uu 66, uu 67, uu 68, uu 69, uu 70, uu 71, uu 72, uu 73, uu 74, uu 75, uu 76, uu 77, uu 78, uu 79, uu 80, uu 81, uu 82, uu 83, uu 84, uu 85, uu 86, uu 87, uu 88, uu 89, uu 90, uu 91, uu 92, uu 93, uu 94, uu 95, uu 96, uu 97, uu 98, uu 99, uu 100, uu 101, uu 102, uu 103, uu 104, uu 105, uu 106, uu 107, uu 108, uu 109, uu 110, uu 111, uu 112, uu 113, uu 114, uu 115, uu 116, uu 117, uu 118, uu 119, uu 120, uu 121, uu 122, uu 123, uu 124, uu 125, uu 126, undef], []⟩ ?_
      refine then_n ?_
      refine sy_n (.tmp 76) (part_RecordKeeps 66922170) (part_RecordKeeps 66922171) ?_
      refine sy_sk ?_
      refine blk_n ?_
      refine then_n ?_
      refine sy_sq (part_RecordKeeps 522830) (part_RecordKeeps 522831) ?_
      refine sy_reg ?_
      refine rg_plain 31 (opsAt (part_RecordKeeps 522830)) [0, 1, 2, 3, 4, 5] (by kernel_rfl) (by kernel_rfl) ?_
      refine ps_k (o_RecordKeeps 522830 0) (pT r 0) ?_
      refine ps_p (o_RecordKeeps 522830 1) (.agg #[va, vb]) (exec_load_row 66 (.tmp 10) (by kernel_rfl) hb (by kernel_rfl) _ _ (0, 0) _ (h277) Try.underlying66 rfl (by kernel_rfl)) ?_
      refine ps_k (o_RecordKeeps 522830 2) (iN s.la) ?_
      refine ps_k (o_RecordKeeps 522830 3) (iN s.lb) ?_
      have HI9 := HI
      refine ps_c (o_RecordKeeps 522830 4) 29 #[pT r 0, .agg #[va, vb], iN s.la, iN s.lb] Try.func29 ((lthere_ok w r s va vb wa wp _ q274 (Row.sl h275 rfl (fun y hy => Att.cl_len (HI9.oka y hy))) (Row.sl h276 rfl (fun y hy => Pro.cl_len (HI9.okp y hy))) HI9).mono ?_)
      rintro e V281 ⟨rfl, kV281⟩
      have hrs9 := q274.keepsN kV281
      refine ⟨_, rfl, ?_⟩
      have h282 : Row V281 28 36 va wa.length (wa.flatMap Att.cl) := h275.keeps kV281 (fun _ _ x => x)
      have h283 : Row V281 35 35 vb wp.length (wp.flatMap Pro.cl) := h276.keeps kV281 (fun _ _ x => x)
      have h284 := kV281.bk h277
      have h285 := kV281.bk h278
      have K286 := K279.nn kV281
      have z287 := kV281.size
      refine ps_k (o_RecordKeeps 522830 5) (.bool false) ?_
      refine ps_end ?_
      refine then_n ?_
      refine sy_n (.tmp 160) (part_RecordKeeps 1045662) (part_RecordKeeps 1045663) ?_
      refine sy_sk ?_
      refine blk_n ?_
      refine then_n ?_
      refine sy_reg ?_
      refine rg_plain 11 (opsAt (part_RecordKeeps 16339)) [0, 1, 2] (by kernel_rfl) (by kernel_rfl) ?_
      refine ps_k (o_RecordKeeps 16339 0) (iN i) ?_
      refine ps_p (o_RecordKeeps 16339 1) (iN (i + 1)) (exec_cast (congrArg (Value.int .i64) (wrapN (i + 1) (by omega))) (by kernel_rfl)) ?_
      refine ps_k (o_RecordKeeps 16339 2) (iN (i + 1)) ?_
      refine ps_end ?_
      refine then_n ?_
      refine ⟨⟨i + 1, s, va, vb, wa, wp, (fun k => ([uu 0, pT xb 0, uu 2, uu 3, uu 4, uu 5, iN i, vl, iN l.length, .bool true, iN i, iN (i + 1), vl, iN i, pT b_x (o_x + i * 76), .agg (RAct.c x), pT xb 5, pT xb 5, pT xb 41, pT xb 41, pT xb 0, .int .i64 x.one.k, .bool false, .bool false, uu 24, uu 25, uu 26, uu 27, uu 28, uu 29, uu 30, uu 31, uu 32, uu 33, uu 34, uu 35, .bool true, .bool true, pT r 0, pT xb 41, .agg (Pro.c x.one.p), .int .i64 (s.putErrB 1 x.one.p), .bool false, uu 43, uu 44, uu 45, uu 46, uu 47, uu 48, uu 49, uu 50, uu 51, uu 52, uu 53, uu 54, uu 55, uu 56, uu 57, uu 58, uu 59, uu 60, uu 61, uu 62, uu 63, uu 64, uu 65, uu 66, uu 67, uu 68, uu 69, uu 70, uu 71, uu 72, uu 73, uu 74, uu 75, uu 76, uu 77, uu 78, uu 79, uu 80, uu 81, uu 82, uu 83, uu 84, uu 85, uu 86, uu 87, uu 88, uu 89, uu 90, uu 91, uu 92, uu 93, uu 94, uu 95, uu 96, uu 97, uu 98, uu 99, uu 100, uu 101, uu 102, uu 103, uu 104, uu 105, uu 106, uu 107, uu 108, uu 109, uu 110, uu 111, uu 112, uu 113, uu 114, uu 115, uu 116, uu 117, uu 118, uu 119, uu 120, pT r 0, .agg #[va, vb], iN s.la, iN s.lb, .bool true, .bool false] : List Value).getD k undef), by kernel_rfl, by omega, HI9, by first | (show s.la ≤ _; omega) | (show lo ≤ _; omega), by first | (show s.lb ≤ _; omega) | (show fl ≤ _; omega), by first | (show 1 ≤ s.lb; omega) | (show 1 ≤ fl; omega), by first | omega | (rw [List.length_append]; show wa.length + 1 ≤ _; omega), by first | omega | (rw [List.length_append]; show wp.length + 1 ≤ _; omega), by first | exact hva | exact fun _ => (by rw [List.length_append]; exact Nat.succ_pos _), by first | exact hvb | exact fun _ => (by rw [List.length_append]; exact Nat.succ_pos _), h282, h283, hrs9, h284, K286, hnwa, hnwb⟩, ?_⟩
      exact lt_meas (x := l.length - (i + 1)) (y := l.length - i) (by kernel_rfl) (by kernel_rfl) (by omega)
    · have hok_ : x.one.k = x.k := rfl
      have hxo := Hok x (List.mem_of_getElem? hx)
      have hx1 := RAct.one_ok hxo
      obtain ⟨b_x, o_x, c_x, hv_x, hb_x, _⟩ := Ha.at_ i _ hx
      obtain ⟨_, _, _, _, hha, hhb, _, _⟩ := h25.ok
      skip
      refine sy_sq (part_RecordKeeps 8168) (part_RecordKeeps 8169) ?_
      refine sy_sq (part_RecordKeeps 16336) (part_RecordKeeps 16337) ?_
      refine sy_reg ?_
      refine rg_plain 10 (opsAt (part_RecordKeeps 16336)) [0, 1, 2, 3] (by kernel_rfl) (by kernel_rfl) ?_
      refine ps_k (o_RecordKeeps 16336 0) (iN i) ?_
      refine ps_k (o_RecordKeeps 16336 1) (vl) ?_
      refine ps_p (o_RecordKeeps 16336 2) (iN l.length) (exec_len_sl (.tmp 41) 46 51 (by kernel_rfl) Try.underlying46 (by kernel_rfl) (Ha.keepsN K27)) ?_
      refine ps_p (o_RecordKeeps 16336 3) (.bool true) (dct ((((i : Nat) : Int)) < (((l.length : Nat) : Int))) (by omega)) ?_
      refine ps_end ?_
      refine then_n ?_
      refine sy_ys (.tmp 43) (part_RecordKeeps 32674) (part_RecordKeeps 32675) ?_
      refine sy_sk ?_
      refine then_n ?_
      refine sy_sq (part_RecordKeeps 16338) (part_RecordKeeps 16339) ?_
      refine sy_bk 1 (part_RecordKeeps 32676) ?_
      refine sy_sq (part_RecordKeeps 65352) (part_RecordKeeps 65353) ?_
      refine sy_reg ?_
      refine rg_plain 12 (opsAt (part_RecordKeeps 65352)) [0, 1, 2, 3, 4, 5] (by kernel_rfl) (by kernel_rfl) ?_
      refine ps_k (o_RecordKeeps 65352 0) (vl) ?_
      refine ps_k (o_RecordKeeps 65352 1) (iN i) ?_
      refine ps_p (o_RecordKeeps 65352 2) (pT b_x (o_x + i * 76)) (exec_indexAt_slice 46 (.tmp 46) (.tmp 47) (by kernel_rfl) b_x o_x l.length c_x (Eq.trans (b := vl) (by kernel_rfl) hv_x) .i64 i (by kernel_rfl) _ 76 Try.underlying46 (by kernel_rfl) (by omega)) ?_
      refine ps_p (o_RecordKeeps 65352 3) (.agg (RAct.c x)) (exec_load_mid 51 (.tmp 48) (by kernel_rfl) b_x (o_x + i * 76) (by kernel_rfl) (RAct.cl x) _ (Sl.range (Ha.keepsN K27) hx hv_x) Try.underlying51 rfl (by rw [RAct.cl_len hxo]; kernel_rfl)) ?_
      obtain ⟨V288, eV288, xb, exb, h289, kV288⟩ := alloc_step V22 (#[.int .i64 0, .int .i64 0, .int .i64 0, .int .i64 0, .int .i64 0, .int .i64 0, .int .i64 0, .int .i64 0, .int .u8 0, .int .u8 0, .int .u8 0, .int .u8 0, .int .u8 0, .int .u8 0, .int .u8 0, .int .u8 0, .int .u8 0, .int .u8 0, .int .u8 0, .int .u8 0, .int .u8 0, .int .u8 0, .int .u8 0, .int .u8 0, .int .u8 0, .int .u8 0, .int .u8 0, .int .u8 0, .int .u8 0, .int .u8 0, .int .u8 0, .int .u8 0, .int .u8 0, .int .u8 0, .int .u8 0, .int .u8 0, .int .u8 0, .int .u8 0, .int .u8 0, .int .u8 0, .int .u64 0, .int .i64 0, .int .i64 0, .int .u8 0, .int .u8 0, .int .u8 0, .int .u8 0, .int .u8 0, .int .u8 0, .int .u8 0, .int .u8 0, .int .u8 0, .int .u8 0, .int .u8 0, .int .u8 0, .int .u8 0, .int .u8 0, .int .u8 0, .int .u8 0, .int .u8 0, .int .u8 0, .int .u8 0, .int .u8 0, .int .u8 0, .int .u8 0, .int .u8 0, .int .u8 0, .int .u8 0, .int .u8 0, .int .u8 0, .int .u8 0, .int .u8 0, .int .u8 0, .int .u8 0, .int .u8 0, .int .u64 0]) 51
      have n290 : hb < xb := exb ▸ lt_of_block h26
      have n291 : w.heap.size ≤ xb := exb ▸ K27.size
      refine ps_r (o_RecordKeeps 65352 4) (pT xb 0) (w' := V288) (by rw [← eV288, ← exb]; exact exec_alloc0 51 (by kernel_rfl) (.agg (#[.int .i64 0, .int .i64 0, .int .i64 0, .int .i64 0, .int .i64 0, .int .i64 0, .int .i64 0, .int .i64 0, .int .u8 0, .int .u8 0, .int .u8 0, .int .u8 0, .int .u8 0, .int .u8 0, .int .u8 0, .int .u8 0, .int .u8 0, .int .u8 0, .int .u8 0, .int .u8 0, .int .u8 0, .int .u8 0, .int .u8 0, .int .u8 0, .int .u8 0, .int .u8 0, .int .u8 0, .int .u8 0, .int .u8 0, .int .u8 0, .int .u8 0, .int .u8 0, .int .u8 0, .int .u8 0, .int .u8 0, .int .u8 0, .int .u8 0, .int .u8 0, .int .u8 0, .int .u8 0, .int .u64 0, .int .i64 0, .int .i64 0, .int .u8 0, .int .u8 0, .int .u8 0, .int .u8 0, .int .u8 0, .int .u8 0, .int .u8 0, .int .u8 0, .int .u8 0, .int .u8 0, .int .u8 0, .int .u8 0, .int .u8 0, .int .u8 0, .int .u8 0, .int .u8 0, .int .u8 0, .int .u8 0, .int .u8 0, .int .u8 0, .int .u8 0, .int .u8 0, .int .u8 0, .int .u8 0, .int .u8 0, .int .u8 0, .int .u8 0, .int .u8 0, .int .u8 0, .int .u8 0, .int .u8 0, .int .u8 0, .int .u64 0])) (by kernel_rfl)) ?_
      clear eV288
      have h292 : Row V288 28 36 va wa.length (wa.flatMap Att.cl) := h23.keeps kV288 (fun _ _ x => x)
      have h293 : Row V288 35 35 vb wp.length (wp.flatMap Pro.cl) := h24.keeps kV288 (fun _ _ x => x)
      have h294 : RSt w V288 r 1 s := h25.keepsN kV288
      have h295 := kV288.bk h26
      have K296 := K27.nn kV288
      have z297 := kV288.size
      obtain ⟨V298, eV298, kV298⟩ := rowset_step V288 xb ((RAct.c x))
      have h299 : V298.heap[xb]? = some (.cells (RAct.c x) 51 (0, 0)) := eV298 ▸ setRow_heap _ _ _ _ _ _ h289
      refine ps_s (o_RecordKeeps 65352 5) (w' := V298) (by rw [← eV298]; exact exec_store_row 51 (.tmp 14) (.tmp 49) (by kernel_rfl) xb ((RAct.c x)) (by kernel_rfl) (by kernel_rfl) 51 (#[.int .i64 0, .int .i64 0, .int .i64 0, .int .i64 0, .int .i64 0, .int .i64 0, .int .i64 0, .int .i64 0, .int .u8 0, .int .u8 0, .int .u8 0, .int .u8 0, .int .u8 0, .int .u8 0, .int .u8 0, .int .u8 0, .int .u8 0, .int .u8 0, .int .u8 0, .int .u8 0, .int .u8 0, .int .u8 0, .int .u8 0, .int .u8 0, .int .u8 0, .int .u8 0, .int .u8 0, .int .u8 0, .int .u8 0, .int .u8 0, .int .u8 0, .int .u8 0, .int .u8 0, .int .u8 0, .int .u8 0, .int .u8 0, .int .u8 0, .int .u8 0, .int .u8 0, .int .u8 0, .int .u64 0, .int .i64 0, .int .i64 0, .int .u8 0, .int .u8 0, .int .u8 0, .int .u8 0, .int .u8 0, .int .u8 0, .int .u8 0, .int .u8 0, .int .u8 0, .int .u8 0, .int .u8 0, .int .u8 0, .int .u8 0, .int .u8 0, .int .u8 0, .int .u8 0, .int .u8 0, .int .u8 0, .int .u8 0, .int .u8 0, .int .u8 0, .int .u8 0, .int .u8 0, .int .u8 0, .int .u8 0, .int .u8 0, .int .u8 0, .int .u8 0, .int .u8 0, .int .u8 0, .int .u8 0, .int .u8 0, .int .u64 0]) h289 (by rw [RAct.c_size hxo]; kernel_rfl) (by rw [RAct.c_size hxo]; rfl) (by rw [RAct.c, List.all_toArray]; exact List.all_eq_true.2 (ract_one hxo))) ?_
      clear eV298
      have h300 : Row V298 28 36 va wa.length (wa.flatMap Att.cl) := h292.keeps kV298 (fun j hj e => Row.ne h292 h289 (by decide) ((show j = xb from e) ▸ hj))
      have h301 : Row V298 35 35 vb wp.length (wp.flatMap Pro.cl) := h293.keeps kV298 (fun j hj e => Row.ne h293 h289 (by decide) ((show j = xb from e) ▸ hj))
      have h302 : RSt w V298 r 1 s := RSt.one h294 kV298 h289 (by decide) (by decide) (by decide) (by decide) (by decide) (by decide) (by decide)
      have h303 := kV298.bo h295 (by omega)
      have K304 := K296.no kV298 (by omega)
      have z305 := kV298.size
      refine ps_end ?_
      refine then_n ?_
      refine sy_sq (part_RecordKeeps 130706) (part_RecordKeeps 130707) ?_
      refine sy_reg ?_
      refine rg_plain 13 (opsAt (part_RecordKeeps 130706)) [0, 1, 2, 3, 4, 5] (by kernel_rfl) (by kernel_rfl) ?_
      refine ps_k (o_RecordKeeps 130706 0) (pT xb 5) ?_
      refine ps_k (o_RecordKeeps 130706 1) (pT xb 5) ?_
      obtain ⟨V306, eV306, kV306⟩ := cell_step V298 xb 5 (.int .i64 1)
      have h307 : V306.heap[xb]? = some (.cells (RAct.c x.oneA) 51 (0, 0)) := eV306 ▸ ((heap_setCell_same _ xb 5 _ _ (.int .i64 1) h299).trans (congrArg (fun c => some (Obj.cells c 51 (0, 0))) (show (RAct.c x : Array Value).setIfInBounds 5 (.int .i64 1) = RAct.c x.oneA from RAct.set_a x)))
      refine ps_s (o_RecordKeeps 130706 2) (w' := V306) (by rw [← eV306]; exact exec_store_cell 3 (.tmp 51) (.const (.int .i64 1)) (by kernel_rfl) xb 5 (by kernel_rfl) (.int .i64 1) (by kernel_rfl) (by kernel_rfl) (by kernel_rfl) (.int .i64 x.a.v) (rc (h299) (RAct.c_a x 0 _ Att.cl_0)) (frozen_of_row _ _ _ _ _ h299) (by kernel_rfl)) ?_
      clear eV306
      have h308 : Row V306 28 36 va wa.length (wa.flatMap Att.cl) := h300.keeps kV306 (fun j hj e => Row.ne h300 h299 (by decide) ((show j = xb from e) ▸ hj))
      have h309 : Row V306 35 35 vb wp.length (wp.flatMap Pro.cl) := h301.keeps kV306 (fun j hj e => Row.ne h301 h299 (by decide) ((show j = xb from e) ▸ hj))
      have h310 : RSt w V306 r 1 s := RSt.one h302 kV306 h299 (by decide) (by decide) (by decide) (by decide) (by decide) (by decide) (by decide)
      have h311 := kV306.bo h303 (by omega)
      have K312 := K304.no kV306 (by omega)
      have z313 := kV306.size
      refine ps_k (o_RecordKeeps 130706 3) (pT xb 41) ?_
      refine ps_k (o_RecordKeeps 130706 4) (pT xb 41) ?_
      obtain ⟨V314, eV314, kV314⟩ := cell_step V306 xb 41 (.int .i64 1)
      have h315 : V314.heap[xb]? = some (.cells (RAct.c x.one) 51 (0, 0)) := eV314 ▸ ((heap_setCell_same _ xb 41 _ _ (.int .i64 1) h307).trans (congrArg (fun c => some (Obj.cells c 51 (0, 0))) (show (RAct.c x.oneA : Array Value).setIfInBounds 41 (.int .i64 1) = RAct.c x.one from RAct.set_p hxo)))
      refine ps_s (o_RecordKeeps 130706 5) (w' := V314) (by rw [← eV314]; exact exec_store_cell 3 (.tmp 53) (.const (.int .i64 1)) (by kernel_rfl) xb 41 (by kernel_rfl) (.int .i64 1) (by kernel_rfl) (by kernel_rfl) (by kernel_rfl) (.int .i64 x.p.v) (rc (h307) (RAct.c_p _ (RAct.oneA_ok hxo) 0 _ Pro.cl_0)) (frozen_of_row _ _ _ _ _ h307) (by kernel_rfl)) ?_
      clear eV314
      have h316 : Row V314 28 36 va wa.length (wa.flatMap Att.cl) := h308.keeps kV314 (fun j hj e => Row.ne h308 h307 (by decide) ((show j = xb from e) ▸ hj))
      have h317 : Row V314 35 35 vb wp.length (wp.flatMap Pro.cl) := h309.keeps kV314 (fun j hj e => Row.ne h309 h307 (by decide) ((show j = xb from e) ▸ hj))
      have h318 : RSt w V314 r 1 s := RSt.one h310 kV314 h307 (by decide) (by decide) (by decide) (by decide) (by decide) (by decide) (by decide)
      have h319 := kV314.bo h311 (by omega)
      have K320 := K312.no kV314 (by omega)
      have z321 := kV314.size
      refine ps_end ?_
      refine then_n ?_
      refine sy_sq (part_RecordKeeps 261414) (part_RecordKeeps 261415) ?_
      refine sy_sq (part_RecordKeeps 522828) (part_RecordKeeps 522829) ?_
      refine sy_reg ?_
      refine rg_plain 14 (opsAt (part_RecordKeeps 522828)) [0, 1] (by kernel_rfl) (by kernel_rfl) ?_
      refine ps_k (o_RecordKeeps 522828 0) (pT xb 0) ?_
      refine ps_p (o_RecordKeeps 522828 1) (.int .i64 x.one.k) (exec_ld 3 (.tmp 54) xb 0 Try.underlying3 (rc (h315) (RAct.c_0 _))) ?_
      refine ps_end ?_
      refine then_n ?_
      refine sy_bk 2 (part_RecordKeeps 1045658) ?_
      refine sy_sq (part_RecordKeeps 2091316) (part_RecordKeeps 2091317) ?_
      refine sy_reg ?_
      refine rg_plain 15 (opsAt (part_RecordKeeps 2091316)) [0, 1] (by kernel_rfl) (by kernel_rfl) ?_
      refine ps_p (o_RecordKeeps 2091316 0) (.bool false) (eqf ((x.one.k) : Int) ((0) : Int) (by omega)) ?_
      refine ps_k (o_RecordKeeps 2091316 1) (.bool false) ?_
      refine ps_end ?_
      refine then_n ?_
      refine sy_n (.tmp 56) (part_RecordKeeps 4182634) (part_RecordKeeps 4182635) ?_
      refine sy_sq (part_RecordKeeps 8365270) (part_RecordKeeps 8365271) ?_
      refine sy_reg ?_
      refine rg_plain 18 (opsAt (part_RecordKeeps 8365270)) [0, 1] (by kernel_rfl) (by kernel_rfl) ?_
      refine ps_p (o_RecordKeeps 8365270 0) (.bool false) (eqf ((x.one.k) : Int) ((1) : Int) (by omega)) ?_
      refine ps_k (o_RecordKeeps 8365270 1) (.bool false) ?_
      refine ps_end ?_
      refine then_n ?_
      refine sy_n (.tmp 70) (part_RecordKeeps 16730542) (part_RecordKeeps 16730543) ?_
      refine sy_sq (part_RecordKeeps 33461086) (part_RecordKeeps 33461087) ?_
      refine sy_reg ?_
      refine rg_plain 21 (opsAt (part_RecordKeeps 33461086)) [0, 1] (by kernel_rfl) (by kernel_rfl) ?_
      refine ps_p (o_RecordKeeps 33461086 0) (.bool true) (eqt ((x.one.k) : Int) ((2) : Int) (by omega)) ?_
      refine ps_k (o_RecordKeeps 33461086 1) (.bool true) ?_
      refine ps_end ?_
      refine sy_a ⟨#[.int .i64 wi, .int .i64 bl, vl, undef, undef, undef, uu 0, .bool true, pT r 0, .int .i64 0, pT hb 0, iN s.la, iN s.lb, iN i, pT xb 0, uu 2, uu 3, uu 4, uu 5, .bool true, vl, iN l.length, .bool false, undef, .tuple #[pT r 0, .int .i64 0], .int .i64 wi, iN tna, iN (1 + tna), .int .i64 bl, iN tnb, iN (1 + tnb), .tuple #[pT r 0, .int .i64 0], pT r 0, .int .i64 0, .int .i64 0, .bool false, .bool false, pT r 0, .bool false, .bool false, iN i, vl, iN l.length, .bool true, uu 10, uu 11, vl, iN i, pT b_x (o_x + i * 76), .agg (RAct.c x), pT xb 5, pT xb 5, pT xb 41, pT xb 41, pT xb 0, .int .i64 x.one.k, .bool false, .bool false, uu 24, uu 25, uu 26, uu 27, uu 28, uu 29, uu 30, uu 31, uu 32, uu 33, uu 34, uu 35, .bool false, .bool false, uu 38, uu 39, uu 40, uu 41, uu 42, uu 43, uu 44, uu 45, uu 46, uu 47, uu 48, uu 49, .bool true, .bool true, uu 52, uu 53, uu 54, uu 55, uu 56, uu 57, uu 58, uu 59, uu 60, uu 61, uu 62, uu 63, uu 64, uu 65, uu 66, uu 67, uu 68, uu 69, uu 70, uu 71, uu 72, uu 73, uu 74, uu 75, uu 76, uu 77, uu 78, uu 79, uu 80, uu 81, uu 82, uu 83, uu 84, uu 85, uu 86, uu 87, uu 88, uu 89, uu 90, uu 91, uu 92, uu 93, uu 94, uu 95, uu 96, uu 97, uu 98, uu 99, uu 100, uu 101, uu 102, uu 103, uu 104, uu 105, uu 106, uu 107, uu 108, uu 109, uu 110, uu 111, uu 112, uu 113, uu 114, uu 115, uu 116, uu 117, uu 118, uu 119, uu 120, uu 121, uu 122, uu 123, uu 124, uu 125, uu 126, undef], []⟩ ?_
      refine then_n ?_
      refine sy_ys (.tmp 84) (part_RecordKeeps 66922174) (part_RecordKeeps 66922175) ?_
      refine sy_sq (part_RecordKeeps 133844348) (part_RecordKeeps 133844349) ?_
      refine sy_reg ?_
      refine rg_plain 22 (opsAt (part_RecordKeeps 133844348)) [0, 1, 2] (by kernel_rfl) (by kernel_rfl) ?_
      refine ps_k (o_RecordKeeps 133844348 0) (pT r 0) ?_
      refine ps_c (o_RecordKeeps 133844348 1) 21 #[pT r 0] Try.func21 ((RSt.copy h318 K320.size).mono ?_)
      rintro e V322 ⟨r2, rfl, q2, kV322⟩
      refine ⟨_, rfl, ?_⟩
      have h323 : Row V322 28 36 va wa.length (wa.flatMap Att.cl) := h316.keeps kV322 (fun _ _ x => x)
      have h324 : Row V322 35 35 vb wp.length (wp.flatMap Pro.cl) := h317.keeps kV322 (fun _ _ x => x)
      have h325 := kV322.bk h319
      have h326 := kV322.bk h315
      have K327 := K320.nn kV322
      have z328 := kV322.size
      refine ps_k (o_RecordKeeps 133844348 2) (pT r2 0) ?_
      refine ps_end ?_
      refine then_n ?_
      refine sy_sq (part_RecordKeeps 267688698) (part_RecordKeeps 267688699) ?_
      refine sy_np ?_
      refine sy_reg ?_
      refine an_begin 23 12 (opsAt (part_RecordKeeps 267688698)) (fun W => (W.heap[xb]? = some (.cells (RAct.c x.one) 51 (0, 0)))) #[false, false, false, false, false, false, false, false, false, false, false, false] (by kernel_rfl) (by kernel_rfl) (by kernel_rfl) (by kernel_rfl) ?_
      obtain ⟨V329, eV329, kV329⟩ := drew_step V322
      rw [eV329]
      clear eV329
      have h330 : Row V329 28 36 va wa.length (wa.flatMap Att.cl) := h323.keeps kV329 (fun _ _ x => x)
      have h331 : Row V329 35 35 vb wp.length (wp.flatMap Pro.cl) := h324.keeps kV329 (fun _ _ x => x)
      have h332 := kV329.bk h325
      have h333 := kV329.bk h326
      have h334 : RSt2 w V329 r r2 1 s s := q2.keepsN kV329
      have K335 := K327.nn kV329
      have z336 := kV329.size
      refine an_k 0 (o_RecordKeeps 267688698 0) (iN s.la) h333 ?_
      refine an_k 1 (o_RecordKeeps 267688698 1) (pT xb 1) h333 ?_
      refine an_v 2 (o_RecordKeeps 267688698 2) (.int .i64 x.one.l) (fun W hS => exec_ld 3 (.tmp 89) xb 1 Try.underlying3 (rc (hS) (RAct.c_1 _))) h333 ?_
      refine an_k 5 (o_RecordKeeps 267688698 5) (iN s.lb) h333 ?_
      refine an_k 6 (o_RecordKeeps 267688698 6) (pT xb 2) h333 ?_
      refine an_v 7 (o_RecordKeeps 267688698 7) (.int .i64 x.one.f) (fun W hS => exec_ld 3 (.tmp 94) xb 2 Try.underlying3 (rc (hS) (RAct.c_2 _))) h333 ?_
      refine an_o 3 ?_
      refine on_c (o_RecordKeeps 267688698 3) 26 #[.int .i64 x.one.l, .int .i64 6] Try.func26 ((pick_nat x.one.l 6 _ hx1.l (by decide) (by decide)).mono ?_)
      rintro e w1 ⟨tnl, rfl, hlt_tnl, rfl⟩
      refine ⟨_, rfl, ?_⟩
      refine ⟨h333, ?_⟩
      refine an_v 4 (o_RecordKeeps 267688698 4) (iN (s.la + tnl)) (fun W hS => exec_cast (congrArg (Value.int .i64) (wrapN (s.la + tnl) (by omega))) (by kernel_rfl)) h333 ?_
      refine an_o 8 ?_
      refine on_c (o_RecordKeeps 267688698 8) 26 #[.int .i64 x.one.f, .int .i64 10] Try.func26 ((pick_nat x.one.f 10 _ hx1.f (by decide) (by decide)).mono ?_)
      rintro e w1 ⟨tnf, rfl, hlt_tnf, rfl⟩
      refine ⟨_, rfl, ?_⟩
      refine ⟨h333, ?_⟩
      refine an_v 9 (o_RecordKeeps 267688698 9) (iN (s.lb + tnf)) (fun W hS => exec_cast (congrArg (Value.int .i64) (wrapN (s.lb + tnf) (by omega))) (by kernel_rfl)) h333 ?_
      refine an_o 10 ?_
      refine on_r (o_RecordKeeps 267688698 10) (iN (s.la + tnl)) (w' := V329) (by kernel_rfl) ?_
      refine ⟨h333, ?_⟩
      refine an_o 11 ?_
      refine on_r (o_RecordKeeps 267688698 11) (iN (s.lb + tnf)) (w' := V329) (by kernel_rfl) ?_
      refine ⟨h333, ?_⟩
      refine an_end (by kernel_rfl) ?_
      refine then_n ?_
      refine sy_sq (part_RecordKeeps 535377398) (part_RecordKeeps 535377399) ?_
      refine sy_reg ?_
      refine rg_plain 24 (opsAt (part_RecordKeeps 535377398)) [0, 1, 2, 3, 4] (by kernel_rfl) (by kernel_rfl) ?_
      refine ps_k (o_RecordKeeps 535377398 0) (pT r2 0) ?_
      refine ps_k (o_RecordKeeps 535377398 1) (iN (s.la + tnl)) ?_
      refine ps_k (o_RecordKeeps 535377398 2) (iN (s.lb + tnf)) ?_
      refine ps_c (o_RecordKeeps 535377398 3) 14 #[pT r2 0, iN (s.la + tnl), iN (s.lb + tnf)] Try.func14 ((RSt2.moved2 h334 (l := (s.la + tnl)) (f := (s.lb + tnf)) (by omega) (by omega) (by omega) (by omega) (by omega)).mono ?_)
      rintro e V337 ⟨rfl, q338, kV337⟩
      refine ⟨_, rfl, ?_⟩
      have h339 : Row V337 28 36 va wa.length (wa.flatMap Att.cl) := h330.keeps kV337 (Row.rings h330 (by decide) (by decide) (by decide) (by decide))
      have h340 : Row V337 35 35 vb wp.length (wp.flatMap Pro.cl) := h331.keeps kV337 (Row.rings h331 (by decide) (by decide) (by decide) (by decide))
      have h341 : V337.heap[hb]? = some (.cells (#[va, vb]) 66 (0, 0)) := (kV337.block hb (lt_of_block h332) (fun e => Rings.not h332 (by decide) (by decide) (by decide) (by decide) e)).trans h332
      have h342 : V337.heap[xb]? = some (.cells (RAct.c x.one) 51 (0, 0)) := (kV337.block xb (lt_of_block h333) (fun e => Rings.not h333 (by decide) (by decide) (by decide) (by decide) e)).trans h333
      have K343 : Keeps Nob w V337 := K335.then kV337 (fun i hi hm => absurd hi (by have := hm.1; omega))
      have z344 := kV337.size
      refine ps_k (o_RecordKeeps 535377398 4) (.int .i64 0) ?_
      refine ps_end ?_
      refine then_n ?_
      refine sy_sq (part_RecordKeeps 1070754798) (part_RecordKeeps 1070754799) ?_
      refine sy_bk 3 (part_RecordKeeps 2141509596) ?_
      refine sy_loop (part_RecordKeeps 4283019192) (fun a V => ∃ (lo : Nat) (fl : Nat) (u6 u102 u103 u104 u105 u106 u107 u108 u109 u110 u111 u112 u113 u114 u115 u116 u117 u118 u119 u120 u121 u122 : Value), (a = ⟨#[.int .i64 wi, .int .i64 bl, vl, undef, undef, undef, u6, .bool true, pT r 0, .int .i64 0, pT hb 0, iN lo, iN fl, iN i, pT xb 0, pT r2 0, iN (s.la + tnl), iN (s.lb + tnf), .int .i64 0, .bool true, vl, iN l.length, .bool false, undef, .tuple #[pT r 0, .int .i64 0], .int .i64 wi, iN tna, iN (1 + tna), .int .i64 bl, iN tnb, iN (1 + tnb), .tuple #[pT r 0, .int .i64 0], pT r 0, .int .i64 0, .int .i64 0, .bool false, .bool false, pT r 0, .bool false, .bool false, iN i, vl, iN l.length, .bool true, uu 10, uu 11, vl, iN i, pT b_x (o_x + i * 76), .agg (RAct.c x), pT xb 5, pT xb 5, pT xb 41, pT xb 41, pT xb 0, .int .i64 x.one.k, .bool false, .bool false, uu 24, uu 25, uu 26, uu 27, uu 28, uu 29, uu 30, uu 31, uu 32, uu 33, uu 34, uu 35, .bool false, .bool false, uu 38, uu 39, uu 40, uu 41, uu 42, uu 43, uu 44, uu 45, uu 46, uu 47, uu 48, uu 49, .bool true, .bool true, pT r 0, pT r2 0, iN s.la, pT xb 1, .int .i64 x.one.l, iN tnl, iN (s.la + tnl), iN s.lb, pT xb 2, .int .i64 x.one.f, iN tnf, iN (s.lb + tnf), pT r2 0, iN (s.la + tnl), iN (s.lb + tnf), .int .i64 0, u102, u103, u104, u105, u106, u107, u108, u109, u110, u111, u112, u113, u114, u115, u116, u117, u118, u119, u120, u121, u122, uu 89, uu 90, uu 91, uu 92, uu 93, uu 94, uu 95, uu 96, uu 97, uu 98, uu 99, uu 100, uu 101, uu 102, uu 103, uu 104, uu 105, uu 106, uu 107, uu 108, uu 109, uu 110, uu 111, uu 112, uu 113, uu 114, uu 115, uu 116, uu 117, uu 118, uu 119, uu 120, uu 121, uu 122, uu 123, uu 124, uu 125, uu 126, undef], []⟩) ∧ (s.la ≤ lo) ∧ (lo ≤ (s.la + tnl)) ∧ (s.lb ≤ fl) ∧ (fl ≤ (s.lb + tnf)) ∧ (Row V 28 36 va wa.length (wa.flatMap Att.cl)) ∧ (Row V 35 35 vb wp.length (wp.flatMap Pro.cl)) ∧ (V.heap[hb]? = some (.cells (#[va, vb]) 66 (0, 0))) ∧ (V.heap[xb]? = some (.cells (RAct.c x.one) 51 (0, 0))) ∧ (RSt2 w V r r2 1 (s.at2 lo fl) (s.at2 (s.la + tnl) (s.lb + tnf))) ∧ (Keeps Nob w V)) (fun a _ => ((s.la + tnl) - (intOf (a.tmps.getD 11 undef)).toNat) + ((s.lb + tnf) - (intOf (a.tmps.getD 12 undef)).toNat)) (by kernel_rfl) ?_ ?_
      · exact ⟨s.la, s.lb, (uu 0), (uu 68), (uu 69), (uu 70), (uu 71), (uu 72), (uu 73), (uu 74), (uu 75), (uu 76), (uu 77), (uu 78), (uu 79), (uu 80), (uu 81), (uu 82), (uu 83), (uu 84), (uu 85), (uu 86), (uu 87), (uu 88), by kernel_rfl, Nat.le_refl _, by omega, Nat.le_refl _, by omega, h339, h340, h341, h342, (by rw [RSpec.at2_self hha hhb]; exact q338), K343⟩
      · rintro a V345 ⟨lo, fl, u6, u102, u103, u104, u105, u106, u107, u108, u109, u110, u111, u112, u113, u114, u115, u116, u117, u118, u119, u120, u121, u122, rfl, hlo1, hlo2, hfl1, hfl2, h346, h347, h348, h349, h350, K351⟩
        rcases (show (lo < (s.la + tnl) ∧ fl < (s.lb + tnf)) ∨ (lo < (s.la + tnl) ∧ fl = (s.lb + tnf)) ∨ (lo = (s.la + tnl) ∧ fl < (s.lb + tnf)) ∨ (lo = (s.la + tnl) ∧ fl = (s.lb + tnf)) by omega) with ⟨hq1, hq2⟩ | ⟨hq1, hq2⟩ | ⟨hq1, hq2⟩ | ⟨hq1, hq2⟩
        · skip
          refine sy_sq (part_RecordKeeps 8566038384) (part_RecordKeeps 8566038385) ?_
          refine sy_sq (part_RecordKeeps 17132076768) (part_RecordKeeps 17132076769) ?_
          refine sy_reg ?_
          refine rg_plain 25 (opsAt (part_RecordKeeps 17132076768)) [0, 1, 2, 3, 4, 5, 6, 7] (by kernel_rfl) (by kernel_rfl) ?_
          refine ps_k (o_RecordKeeps 17132076768 0) (iN lo) ?_
          refine ps_k (o_RecordKeeps 17132076768 1) (iN (s.la + tnl)) ?_
          refine ps_p (o_RecordKeeps 17132076768 2) (.bool true) (dct ((((lo : Nat) : Int)) < (((s.la + tnl : Nat) : Int))) (by omega)) ?_
          refine ps_k (o_RecordKeeps 17132076768 3) (.bool true) ?_
          refine ps_n (o_RecordKeeps 17132076768 4) ?_
          refine ps_n (o_RecordKeeps 17132076768 5) ?_
          refine ps_n (o_RecordKeeps 17132076768 6) ?_
          refine ps_k (o_RecordKeeps 17132076768 7) (.bool true) ?_
          refine ps_end ?_
          refine then_n ?_
          refine sy_ys (.tmp 109) (part_RecordKeeps 34264153538) (part_RecordKeeps 34264153539) ?_
          refine sy_sk ?_
          refine then_n ?_
          refine sy_bk 4 (part_RecordKeeps 17132076770) ?_
          refine sy_sq (part_RecordKeeps 34264153540) (part_RecordKeeps 34264153541) ?_
          refine sy_reg ?_
          refine rg_plain 26 (opsAt (part_RecordKeeps 34264153540)) [0, 1, 2, 3, 4, 5, 6, 7, 8, 9] (by kernel_rfl) (by kernel_rfl) ?_
          refine ps_k (o_RecordKeeps 34264153540 0) (iN lo) ?_
          refine ps_p (o_RecordKeeps 34264153540 1) (iN (lo + 1)) (exec_cast (congrArg (Value.int .i64) (wrapN (lo + 1) (by omega))) (by kernel_rfl)) ?_
          refine ps_k (o_RecordKeeps 34264153540 2) (iN (s.la + tnl)) ?_
          refine ps_p (o_RecordKeeps 34264153540 3) (iN (lo + 1)) (exec_min (.tmp 111) (.tmp 112) #[3, 3] (by kernel_rfl) .i64 (((lo + 1 : Nat)) : Int) ((((s.la + tnl) : Nat)) : Int) (((lo + 1 : Nat)) : Int) (by kernel_rfl) (by kernel_rfl) (by rw [Int.min_def]; split <;> omega)) ?_
          refine ps_k (o_RecordKeeps 34264153540 4) (iN fl) ?_
          refine ps_p (o_RecordKeeps 34264153540 5) (iN (fl + 1)) (exec_cast (congrArg (Value.int .i64) (wrapN (fl + 1) (by omega))) (by kernel_rfl)) ?_
          refine ps_k (o_RecordKeeps 34264153540 6) (iN (s.lb + tnf)) ?_
          refine ps_p (o_RecordKeeps 34264153540 7) (iN (fl + 1)) (exec_min (.tmp 115) (.tmp 116) #[3, 3] (by kernel_rfl) .i64 (((fl + 1 : Nat)) : Int) ((((s.lb + tnf) : Nat)) : Int) (((fl + 1 : Nat)) : Int) (by kernel_rfl) (by kernel_rfl) (by rw [Int.min_def]; split <;> omega)) ?_
          refine ps_k (o_RecordKeeps 34264153540 8) (iN (lo + 1)) ?_
          refine ps_k (o_RecordKeeps 34264153540 9) (iN (fl + 1)) ?_
          refine ps_end ?_
          refine then_n ?_
          refine sy_sq (part_RecordKeeps 68528307082) (part_RecordKeeps 68528307083) ?_
          refine sy_reg ?_
          refine rg_plain 27 (opsAt (part_RecordKeeps 68528307082)) [0, 1, 2, 3, 4] (by kernel_rfl) (by kernel_rfl) ?_
          refine ps_k (o_RecordKeeps 68528307082 0) (pT r 0) ?_
          refine ps_k (o_RecordKeeps 68528307082 1) (iN (lo + 1)) ?_
          refine ps_k (o_RecordKeeps 68528307082 2) (iN (fl + 1)) ?_
          refine ps_c (o_RecordKeeps 68528307082 3) 14 #[pT r 0, iN (lo + 1), iN (fl + 1)] Try.func14 ((RSt2.moved1 h350 (l := lo + 1) (f := fl + 1) (by show lo ≤ _; omega) (by show fl ≤ _; omega) (by omega) (by omega) (by omega)).mono ?_)
          rintro e V352 ⟨rfl, q353, kV352⟩
          rw [RSpec.at2_at2 (by omega) (by omega)] at q353
          refine ⟨_, rfl, ?_⟩
          have h354 : Row V352 28 36 va wa.length (wa.flatMap Att.cl) := h346.keeps kV352 (Row.rings h346 (by decide) (by decide) (by decide) (by decide))
          have h355 : Row V352 35 35 vb wp.length (wp.flatMap Pro.cl) := h347.keeps kV352 (Row.rings h347 (by decide) (by decide) (by decide) (by decide))
          have h356 : V352.heap[hb]? = some (.cells (#[va, vb]) 66 (0, 0)) := (kV352.block hb (lt_of_block h348) (fun e => Rings.not h348 (by decide) (by decide) (by decide) (by decide) e)).trans h348
          have h357 : V352.heap[xb]? = some (.cells (RAct.c x.one) 51 (0, 0)) := (kV352.block xb (lt_of_block h349) (fun e => Rings.not h349 (by decide) (by decide) (by decide) (by decide) e)).trans h349
          have K358 : Keeps Nob w V352 := K351.then kV352 (fun i hi hm => absurd hi (by have := hm.1; omega))
          have z359 := kV352.size
          refine ps_k (o_RecordKeeps 68528307082 4) (.bool false) ?_
          refine ps_end ?_
          refine then_n ?_
          refine sy_n (.tmp 122) (part_RecordKeeps 137056614166) (part_RecordKeeps 137056614167) ?_
          refine sy_sk ?_
          refine blk_n ?_
          refine then_n ?_
          refine ⟨⟨lo + 1, fl + 1, u6, (iN lo), (iN (s.la + tnl)), (.bool true), (.bool true), undef, undef, undef, (.bool true), (iN lo), (iN (lo + 1)), (iN (s.la + tnl)), (iN (lo + 1)), (iN fl), (iN (fl + 1)), (iN (s.lb + tnf)), (iN (fl + 1)), (pT r 0), (iN (lo + 1)), (iN (fl + 1)), (.int .i64 0), (.bool false), by kernel_rfl, by omega, by omega, by omega, by omega, h354, h355, h356, h357, q353, K358⟩, ?_⟩
          exact lt_meas (x := ((s.la + tnl) - (lo + 1)) + ((s.lb + tnf) - (fl + 1))) (y := ((s.la + tnl) - lo) + ((s.lb + tnf) - fl)) (by kernel_rfl) (by kernel_rfl) (by omega)
        · skip
          refine sy_sq (part_RecordKeeps 8566038384) (part_RecordKeeps 8566038385) ?_
          refine sy_sq (part_RecordKeeps 17132076768) (part_RecordKeeps 17132076769) ?_
          refine sy_reg ?_
          refine rg_plain 25 (opsAt (part_RecordKeeps 17132076768)) [0, 1, 2, 3, 4, 5, 6, 7] (by kernel_rfl) (by kernel_rfl) ?_
          refine ps_k (o_RecordKeeps 17132076768 0) (iN lo) ?_
          refine ps_k (o_RecordKeeps 17132076768 1) (iN (s.la + tnl)) ?_
          refine ps_p (o_RecordKeeps 17132076768 2) (.bool true) (dct ((((lo : Nat) : Int)) < (((s.la + tnl : Nat) : Int))) (by omega)) ?_
          refine ps_k (o_RecordKeeps 17132076768 3) (.bool true) ?_
          refine ps_n (o_RecordKeeps 17132076768 4) ?_
          refine ps_n (o_RecordKeeps 17132076768 5) ?_
          refine ps_n (o_RecordKeeps 17132076768 6) ?_
          refine ps_k (o_RecordKeeps 17132076768 7) (.bool true) ?_
          refine ps_end ?_
          refine then_n ?_
          refine sy_ys (.tmp 109) (part_RecordKeeps 34264153538) (part_RecordKeeps 34264153539) ?_
          refine sy_sk ?_
          refine then_n ?_
          refine sy_bk 4 (part_RecordKeeps 17132076770) ?_
          refine sy_sq (part_RecordKeeps 34264153540) (part_RecordKeeps 34264153541) ?_
          refine sy_reg ?_
          refine rg_plain 26 (opsAt (part_RecordKeeps 34264153540)) [0, 1, 2, 3, 4, 5, 6, 7, 8, 9] (by kernel_rfl) (by kernel_rfl) ?_
          refine ps_k (o_RecordKeeps 34264153540 0) (iN lo) ?_
          refine ps_p (o_RecordKeeps 34264153540 1) (iN (lo + 1)) (exec_cast (congrArg (Value.int .i64) (wrapN (lo + 1) (by omega))) (by kernel_rfl)) ?_
          refine ps_k (o_RecordKeeps 34264153540 2) (iN (s.la + tnl)) ?_
          refine ps_p (o_RecordKeeps 34264153540 3) (iN (lo + 1)) (exec_min (.tmp 111) (.tmp 112) #[3, 3] (by kernel_rfl) .i64 (((lo + 1 : Nat)) : Int) ((((s.la + tnl) : Nat)) : Int) (((lo + 1 : Nat)) : Int) (by kernel_rfl) (by kernel_rfl) (by rw [Int.min_def]; split <;> omega)) ?_
          refine ps_k (o_RecordKeeps 34264153540 4) (iN fl) ?_
          refine ps_p (o_RecordKeeps 34264153540 5) (iN (fl + 1)) (exec_cast (congrArg (Value.int .i64) (wrapN (fl + 1) (by omega))) (by kernel_rfl)) ?_
          refine ps_k (o_RecordKeeps 34264153540 6) (iN (s.lb + tnf)) ?_
          refine ps_p (o_RecordKeeps 34264153540 7) (iN fl) (exec_min (.tmp 115) (.tmp 116) #[3, 3] (by kernel_rfl) .i64 (((fl + 1 : Nat)) : Int) ((((s.lb + tnf) : Nat)) : Int) (((fl : Nat)) : Int) (by kernel_rfl) (by kernel_rfl) (by rw [Int.min_def]; split <;> omega)) ?_
          refine ps_k (o_RecordKeeps 34264153540 8) (iN (lo + 1)) ?_
          refine ps_k (o_RecordKeeps 34264153540 9) (iN fl) ?_
          refine ps_end ?_
          refine then_n ?_
          refine sy_sq (part_RecordKeeps 68528307082) (part_RecordKeeps 68528307083) ?_
          refine sy_reg ?_
          refine rg_plain 27 (opsAt (part_RecordKeeps 68528307082)) [0, 1, 2, 3, 4] (by kernel_rfl) (by kernel_rfl) ?_
          refine ps_k (o_RecordKeeps 68528307082 0) (pT r 0) ?_
          refine ps_k (o_RecordKeeps 68528307082 1) (iN (lo + 1)) ?_
          refine ps_k (o_RecordKeeps 68528307082 2) (iN fl) ?_
          refine ps_c (o_RecordKeeps 68528307082 3) 14 #[pT r 0, iN (lo + 1), iN fl] Try.func14 ((RSt2.moved1 h350 (l := lo + 1) (f := fl) (by show lo ≤ _; omega) (by show fl ≤ _; omega) (by omega) (by omega) (by omega)).mono ?_)
          rintro e V360 ⟨rfl, q361, kV360⟩
          rw [RSpec.at2_at2 (by omega) (by omega)] at q361
          refine ⟨_, rfl, ?_⟩
          have h362 : Row V360 28 36 va wa.length (wa.flatMap Att.cl) := h346.keeps kV360 (Row.rings h346 (by decide) (by decide) (by decide) (by decide))
          have h363 : Row V360 35 35 vb wp.length (wp.flatMap Pro.cl) := h347.keeps kV360 (Row.rings h347 (by decide) (by decide) (by decide) (by decide))
          have h364 : V360.heap[hb]? = some (.cells (#[va, vb]) 66 (0, 0)) := (kV360.block hb (lt_of_block h348) (fun e => Rings.not h348 (by decide) (by decide) (by decide) (by decide) e)).trans h348
          have h365 : V360.heap[xb]? = some (.cells (RAct.c x.one) 51 (0, 0)) := (kV360.block xb (lt_of_block h349) (fun e => Rings.not h349 (by decide) (by decide) (by decide) (by decide) e)).trans h349
          have K366 : Keeps Nob w V360 := K351.then kV360 (fun i hi hm => absurd hi (by have := hm.1; omega))
          have z367 := kV360.size
          refine ps_k (o_RecordKeeps 68528307082 4) (.bool false) ?_
          refine ps_end ?_
          refine then_n ?_
          refine sy_n (.tmp 122) (part_RecordKeeps 137056614166) (part_RecordKeeps 137056614167) ?_
          refine sy_sk ?_
          refine blk_n ?_
          refine then_n ?_
          refine ⟨⟨lo + 1, fl, u6, (iN lo), (iN (s.la + tnl)), (.bool true), (.bool true), undef, undef, undef, (.bool true), (iN lo), (iN (lo + 1)), (iN (s.la + tnl)), (iN (lo + 1)), (iN fl), (iN (fl + 1)), (iN (s.lb + tnf)), (iN fl), (pT r 0), (iN (lo + 1)), (iN fl), (.int .i64 0), (.bool false), by kernel_rfl, by omega, by omega, by omega, by omega, h362, h363, h364, h365, q361, K366⟩, ?_⟩
          exact lt_meas (x := ((s.la + tnl) - (lo + 1)) + ((s.lb + tnf) - (fl))) (y := ((s.la + tnl) - lo) + ((s.lb + tnf) - fl)) (by kernel_rfl) (by kernel_rfl) (by omega)
        · skip
          refine sy_sq (part_RecordKeeps 8566038384) (part_RecordKeeps 8566038385) ?_
          refine sy_sq (part_RecordKeeps 17132076768) (part_RecordKeeps 17132076769) ?_
          refine sy_reg ?_
          refine rg_plain 25 (opsAt (part_RecordKeeps 17132076768)) [0, 1, 2, 3, 4, 5, 6, 7] (by kernel_rfl) (by kernel_rfl) ?_
          refine ps_k (o_RecordKeeps 17132076768 0) (iN lo) ?_
          refine ps_k (o_RecordKeeps 17132076768 1) (iN (s.la + tnl)) ?_
          refine ps_p (o_RecordKeeps 17132076768 2) (.bool false) (dcf ((((lo : Nat) : Int)) < (((s.la + tnl : Nat) : Int))) (by omega)) ?_
          refine ps_k (o_RecordKeeps 17132076768 3) (.bool false) ?_
          refine ps_k (o_RecordKeeps 17132076768 4) (iN fl) ?_
          refine ps_k (o_RecordKeeps 17132076768 5) (iN (s.lb + tnf)) ?_
          refine ps_p (o_RecordKeeps 17132076768 6) (.bool true) (dct ((((fl : Nat) : Int)) < (((s.lb + tnf : Nat) : Int))) (by omega)) ?_
          refine ps_k (o_RecordKeeps 17132076768 7) (.bool true) ?_
          refine ps_end ?_
          refine then_n ?_
          refine sy_ys (.tmp 109) (part_RecordKeeps 34264153538) (part_RecordKeeps 34264153539) ?_
          refine sy_sk ?_
          refine then_n ?_
          refine sy_bk 4 (part_RecordKeeps 17132076770) ?_
          refine sy_sq (part_RecordKeeps 34264153540) (part_RecordKeeps 34264153541) ?_
          refine sy_reg ?_
          refine rg_plain 26 (opsAt (part_RecordKeeps 34264153540)) [0, 1, 2, 3, 4, 5, 6, 7, 8, 9] (by kernel_rfl) (by kernel_rfl) ?_
          refine ps_k (o_RecordKeeps 34264153540 0) (iN lo) ?_
          refine ps_p (o_RecordKeeps 34264153540 1) (iN (lo + 1)) (exec_cast (congrArg (Value.int .i64) (wrapN (lo + 1) (by omega))) (by kernel_rfl)) ?_
          refine ps_k (o_RecordKeeps 34264153540 2) (iN (s.la + tnl)) ?_
          refine ps_p (o_RecordKeeps 34264153540 3) (iN lo) (exec_min (.tmp 111) (.tmp 112) #[3, 3] (by kernel_rfl) .i64 (((lo + 1 : Nat)) : Int) ((((s.la + tnl) : Nat)) : Int) (((lo : Nat)) : Int) (by kernel_rfl) (by kernel_rfl) (by rw [Int.min_def]; split <;> omega)) ?_
          refine ps_k (o_RecordKeeps 34264153540 4) (iN fl) ?_
          refine ps_p (o_RecordKeeps 34264153540 5) (iN (fl + 1)) (exec_cast (congrArg (Value.int .i64) (wrapN (fl + 1) (by omega))) (by kernel_rfl)) ?_
          refine ps_k (o_RecordKeeps 34264153540 6) (iN (s.lb + tnf)) ?_
          refine ps_p (o_RecordKeeps 34264153540 7) (iN (fl + 1)) (exec_min (.tmp 115) (.tmp 116) #[3, 3] (by kernel_rfl) .i64 (((fl + 1 : Nat)) : Int) ((((s.lb + tnf) : Nat)) : Int) (((fl + 1 : Nat)) : Int) (by kernel_rfl) (by kernel_rfl) (by rw [Int.min_def]; split <;> omega)) ?_
          refine ps_k (o_RecordKeeps 34264153540 8) (iN lo) ?_
          refine ps_k (o_RecordKeeps 34264153540 9) (iN (fl + 1)) ?_
          refine ps_end ?_
          refine then_n ?_
          refine sy_sq (part_RecordKeeps 68528307082) (part_RecordKeeps 68528307083) ?_
          refine sy_reg ?_
          refine rg_plain 27 (opsAt (part_RecordKeeps 68528307082)) [0, 1, 2, 3, 4] (by kernel_rfl) (by kernel_rfl) ?_
          refine ps_k (o_RecordKeeps 68528307082 0) (pT r 0) ?_
          refine ps_k (o_RecordKeeps 68528307082 1) (iN lo) ?_
          refine ps_k (o_RecordKeeps 68528307082 2) (iN (fl + 1)) ?_
          refine ps_c (o_RecordKeeps 68528307082 3) 14 #[pT r 0, iN lo, iN (fl + 1)] Try.func14 ((RSt2.moved1 h350 (l := lo) (f := fl + 1) (by show lo ≤ _; omega) (by show fl ≤ _; omega) (by omega) (by omega) (by omega)).mono ?_)
          rintro e V368 ⟨rfl, q369, kV368⟩
          rw [RSpec.at2_at2 (by omega) (by omega)] at q369
          refine ⟨_, rfl, ?_⟩
          have h370 : Row V368 28 36 va wa.length (wa.flatMap Att.cl) := h346.keeps kV368 (Row.rings h346 (by decide) (by decide) (by decide) (by decide))
          have h371 : Row V368 35 35 vb wp.length (wp.flatMap Pro.cl) := h347.keeps kV368 (Row.rings h347 (by decide) (by decide) (by decide) (by decide))
          have h372 : V368.heap[hb]? = some (.cells (#[va, vb]) 66 (0, 0)) := (kV368.block hb (lt_of_block h348) (fun e => Rings.not h348 (by decide) (by decide) (by decide) (by decide) e)).trans h348
          have h373 : V368.heap[xb]? = some (.cells (RAct.c x.one) 51 (0, 0)) := (kV368.block xb (lt_of_block h349) (fun e => Rings.not h349 (by decide) (by decide) (by decide) (by decide) e)).trans h349
          have K374 : Keeps Nob w V368 := K351.then kV368 (fun i hi hm => absurd hi (by have := hm.1; omega))
          have z375 := kV368.size
          refine ps_k (o_RecordKeeps 68528307082 4) (.bool false) ?_
          refine ps_end ?_
          refine then_n ?_
          refine sy_n (.tmp 122) (part_RecordKeeps 137056614166) (part_RecordKeeps 137056614167) ?_
          refine sy_sk ?_
          refine blk_n ?_
          refine then_n ?_
          refine ⟨⟨lo, fl + 1, u6, (iN lo), (iN (s.la + tnl)), (.bool false), (.bool false), (iN fl), (iN (s.lb + tnf)), (.bool true), (.bool true), (iN lo), (iN (lo + 1)), (iN (s.la + tnl)), (iN lo), (iN fl), (iN (fl + 1)), (iN (s.lb + tnf)), (iN (fl + 1)), (pT r 0), (iN lo), (iN (fl + 1)), (.int .i64 0), (.bool false), by kernel_rfl, by omega, by omega, by omega, by omega, h370, h371, h372, h373, q369, K374⟩, ?_⟩
          exact lt_meas (x := ((s.la + tnl) - (lo)) + ((s.lb + tnf) - (fl + 1))) (y := ((s.la + tnl) - lo) + ((s.lb + tnf) - fl)) (by kernel_rfl) (by kernel_rfl) (by omega)
        · have q9 := h350
          rw [← hq1, ← hq2] at q9
          refine sy_sq (part_RecordKeeps 8566038384) (part_RecordKeeps 8566038385) ?_
          refine sy_sq (part_RecordKeeps 17132076768) (part_RecordKeeps 17132076769) ?_
          refine sy_reg ?_
          refine rg_plain 25 (opsAt (part_RecordKeeps 17132076768)) [0, 1, 2, 3, 4, 5, 6, 7] (by kernel_rfl) (by kernel_rfl) ?_
          refine ps_k (o_RecordKeeps 17132076768 0) (iN lo) ?_
          refine ps_k (o_RecordKeeps 17132076768 1) (iN (s.la + tnl)) ?_
          refine ps_p (o_RecordKeeps 17132076768 2) (.bool false) (dcf ((((lo : Nat) : Int)) < (((s.la + tnl : Nat) : Int))) (by omega)) ?_
          refine ps_k (o_RecordKeeps 17132076768 3) (.bool false) ?_
          refine ps_k (o_RecordKeeps 17132076768 4) (iN fl) ?_
          refine ps_k (o_RecordKeeps 17132076768 5) (iN (s.lb + tnf)) ?_
          refine ps_p (o_RecordKeeps 17132076768 6) (.bool false) (dcf ((((fl : Nat) : Int)) < (((s.lb + tnf : Nat) : Int))) (by omega)) ?_
          refine ps_k (o_RecordKeeps 17132076768 7) (.bool false) ?_
          refine ps_end ?_
          refine then_n ?_
          refine sy_n (.tmp 109) (part_RecordKeeps 34264153538) (part_RecordKeeps 34264153539) ?_
          refine sy_exit 3 (by kernel_rfl) ?_
          refine then_e ?_
          refine then_e ?_
          refine blk_e ?_
          refine then_n ?_
          refine sy_sq (part_RecordKeeps 2141509598) (part_RecordKeeps 2141509599) ?_
          refine sy_reg ?_
          refine rg_plain 29 (opsAt (part_RecordKeeps 2141509598)) [0, 1, 2, 3, 4, 5, 6, 7, 8, 9, 10, 11, 12, 13, 14, 15, 16, 17, 18, 19, 20, 21, 22, 23, 24, 25, 26, 27, 28, 29, 30, 31] (by kernel_rfl) (by kernel_rfl) ?_
          refine ps_k (o_RecordKeeps 2141509598 0) (.int .i64 0) ?_
          refine ps_k (o_RecordKeeps 2141509598 1) (.bool false) ?_
          refine ps_k (o_RecordKeeps 2141509598 2) (.bool false) ?_
          refine ps_k (o_RecordKeeps 2141509598 3) (pT r 0) ?_
          refine ps_c (o_RecordKeeps 2141509598 4) 24 #[pT r 0] Try.func24 ((RSt.all q9.fst).mono ?_)
          rintro e V376 ⟨val1, rfl, hval1, nval1, kV376⟩
          refine ⟨_, rfl, ?_⟩
          have h377 : Row V376 28 36 va wa.length (wa.flatMap Att.cl) := h346.keeps kV376 (fun _ _ x => x)
          have h378 : Row V376 35 35 vb wp.length (wp.flatMap Pro.cl) := h347.keeps kV376 (fun _ _ x => x)
          have h379 := kV376.bk h348
          have h380 := kV376.bk h349
          have h381 : RSt2 w V376 r r2 1 (s.at2 lo fl) (s.at2 lo fl) := q9.keepsN kV376
          have K382 := K351.nn kV376
          have z383 := kV376.size
          refine ps_k (o_RecordKeeps 2141509598 5) (pT r2 0) ?_
          refine ps_c (o_RecordKeeps 2141509598 6) 24 #[pT r2 0] Try.func24 ((RSt.all h381.snd).mono ?_)
          rintro e V384 ⟨val2, rfl, hval2, nval2, kV384⟩
          refine ⟨_, rfl, ?_⟩
          have h385 : Row V384 28 36 va wa.length (wa.flatMap Att.cl) := h377.keeps kV384 (fun _ _ x => x)
          have h386 : Row V384 35 35 vb wp.length (wp.flatMap Pro.cl) := h378.keeps kV384 (fun _ _ x => x)
          have h387 := kV384.bk h379
          have h388 := kV384.bk h380
          have h389 : RSt2 w V384 r r2 1 (s.at2 lo fl) (s.at2 lo fl) := h381.keepsN kV384
          have h390 : Row V384 28 36 val1 (s.at2 lo fl).all.length ((s.at2 lo fl).all.flatMap Att.cl) := (hval1).keeps kV384 (fun _ _ x => x)
          have K391 := K382.nn kV384
          have z392 := kV384.size
          obtain ⟨oka_, _⟩ := h389.fst.ok
          refine ps_c (o_RecordKeeps 2141509598 7) 27 #[val1, val2] Try.func27 (((show Calls Try.prog 27 #[val1, val2] V384 (fun e w' => e = .returned (.bool true) ∧ Keeps Nob V384 w') from by have h := kSameVotes_ok val1 val2 _ _ _ (Row.sl h390 rfl (fun y hy => Att.cl_len (oka_ y hy))) (Row.sl hval2 rfl (fun y hy => Att.cl_len (oka_ y hy))) oka_ oka_; rw [decide_eq_true rfl] at h; exact h)).mono ?_)
          rintro e V393 ⟨rfl, kV393⟩
          refine ⟨_, rfl, ?_⟩
          have h394 : Row V393 28 36 va wa.length (wa.flatMap Att.cl) := h385.keeps kV393 (fun _ _ x => x)
          have h395 : Row V393 35 35 vb wp.length (wp.flatMap Pro.cl) := h386.keeps kV393 (fun _ _ x => x)
          have h396 := kV393.bk h387
          have h397 := kV393.bk h388
          have h398 : RSt2 w V393 r r2 1 (s.at2 lo fl) (s.at2 lo fl) := h389.keepsN kV393
          have h399 : Row V393 28 36 val1 (s.at2 lo fl).all.length ((s.at2 lo fl).all.flatMap Att.cl) := (h390).keeps kV393 (fun _ _ x => x)
          have h400 : Row V393 28 36 val2 (s.at2 lo fl).all.length ((s.at2 lo fl).all.flatMap Att.cl) := (hval2).keeps kV393 (fun _ _ x => x)
          have K401 := K391.nn kV393
          have z402 := kV393.size
          refine ps_k (o_RecordKeeps 2141509598 8) (.bool false) ?_
          refine ps_k (o_RecordKeeps 2141509598 9) (.bool false) ?_
          refine ps_k (o_RecordKeeps 2141509598 10) (.bool false) ?_
          refine ps_k (o_RecordKeeps 2141509598 11) (pT r 0) ?_
          refine ps_c (o_RecordKeeps 2141509598 12) 25 #[pT r 0] Try.func25 ((RSt.blocks h398.fst).mono ?_)
          rintro e V403 ⟨vbl1, rfl, hvbl1, nvbl1, kV403⟩
          refine ⟨_, rfl, ?_⟩
          have h404 : Row V403 28 36 va wa.length (wa.flatMap Att.cl) := h394.keeps kV403 (fun _ _ x => x)
          have h405 : Row V403 35 35 vb wp.length (wp.flatMap Pro.cl) := h395.keeps kV403 (fun _ _ x => x)
          have h406 := kV403.bk h396
          have h407 := kV403.bk h397
          have h408 : RSt2 w V403 r r2 1 (s.at2 lo fl) (s.at2 lo fl) := h398.keepsN kV403
          have h409 : Row V403 28 36 val1 (s.at2 lo fl).all.length ((s.at2 lo fl).all.flatMap Att.cl) := (h399).keeps kV403 (fun _ _ x => x)
          have h410 : Row V403 28 36 val2 (s.at2 lo fl).all.length ((s.at2 lo fl).all.flatMap Att.cl) := (h400).keeps kV403 (fun _ _ x => x)
          have K411 := K401.nn kV403
          have z412 := kV403.size
          refine ps_k (o_RecordKeeps 2141509598 13) (pT r2 0) ?_
          refine ps_c (o_RecordKeeps 2141509598 14) 25 #[pT r2 0] Try.func25 ((RSt.blocks h408.snd).mono ?_)
          rintro e V413 ⟨vbl2, rfl, hvbl2, nvbl2, kV413⟩
          refine ⟨_, rfl, ?_⟩
          have h414 : Row V413 28 36 va wa.length (wa.flatMap Att.cl) := h404.keeps kV413 (fun _ _ x => x)
          have h415 : Row V413 35 35 vb wp.length (wp.flatMap Pro.cl) := h405.keeps kV413 (fun _ _ x => x)
          have h416 := kV413.bk h406
          have h417 := kV413.bk h407
          have h418 : RSt2 w V413 r r2 1 (s.at2 lo fl) (s.at2 lo fl) := h408.keepsN kV413
          have h419 : Row V413 28 36 val1 (s.at2 lo fl).all.length ((s.at2 lo fl).all.flatMap Att.cl) := (h409).keeps kV413 (fun _ _ x => x)
          have h420 : Row V413 28 36 val2 (s.at2 lo fl).all.length ((s.at2 lo fl).all.flatMap Att.cl) := (h410).keeps kV413 (fun _ _ x => x)
          have h421 : Row V413 35 35 vbl1 (s.at2 lo fl).allB.length ((s.at2 lo fl).allB.flatMap Pro.cl) := (hvbl1).keeps kV413 (fun _ _ x => x)
          have K422 := K411.nn kV413
          have z423 := kV413.size
          obtain ⟨_, okb_, _⟩ := h418.fst.ok
          refine ps_c (o_RecordKeeps 2141509598 15) 28 #[vbl1, vbl2] Try.func28 (((show Calls Try.prog 28 #[vbl1, vbl2] V413 (fun e w' => e = .returned (.bool true) ∧ Keeps Nob V413 w') from by have h := kSameBlocks_ok vbl1 vbl2 _ _ _ (Row.sl h421 rfl (fun y hy => Pro.cl_len (okb_ y hy))) (Row.sl hvbl2 rfl (fun y hy => Pro.cl_len (okb_ y hy))) okb_ okb_; rw [decide_eq_true rfl] at h; exact h)).mono ?_)
          rintro e V424 ⟨rfl, kV424⟩
          refine ⟨_, rfl, ?_⟩
          have h425 : Row V424 28 36 va wa.length (wa.flatMap Att.cl) := h414.keeps kV424 (fun _ _ x => x)
          have h426 : Row V424 35 35 vb wp.length (wp.flatMap Pro.cl) := h415.keeps kV424 (fun _ _ x => x)
          have h427 := kV424.bk h416
          have h428 := kV424.bk h417
          have h429 : RSt2 w V424 r r2 1 (s.at2 lo fl) (s.at2 lo fl) := h418.keepsN kV424
          have h430 : Row V424 28 36 val1 (s.at2 lo fl).all.length ((s.at2 lo fl).all.flatMap Att.cl) := (h419).keeps kV424 (fun _ _ x => x)
          have h431 : Row V424 28 36 val2 (s.at2 lo fl).all.length ((s.at2 lo fl).all.flatMap Att.cl) := (h420).keeps kV424 (fun _ _ x => x)
          have h432 : Row V424 35 35 vbl1 (s.at2 lo fl).allB.length ((s.at2 lo fl).allB.flatMap Pro.cl) := (h421).keeps kV424 (fun _ _ x => x)
          have h433 : Row V424 35 35 vbl2 (s.at2 lo fl).allB.length ((s.at2 lo fl).allB.flatMap Pro.cl) := (hvbl2).keeps kV424 (fun _ _ x => x)
          have K434 := K422.nn kV424
          have z435 := kV424.size
          refine ps_k (o_RecordKeeps 2141509598 16) (.bool false) ?_
          refine ps_k (o_RecordKeeps 2141509598 17) (.bool false) ?_
          refine ps_k (o_RecordKeeps 2141509598 18) (.bool false) ?_
          refine ps_k (o_RecordKeeps 2141509598 19) (pT r 0) ?_
          refine ps_c (o_RecordKeeps 2141509598 20) 15 #[pT r 0] Try.func15 ((RSt.low h429.fst).mono ?_)
          rintro e w1 ⟨rfl, rfl⟩
          refine ⟨_, rfl, ?_⟩
          refine ps_k (o_RecordKeeps 2141509598 21) (pT r2 0) ?_
          refine ps_c (o_RecordKeeps 2141509598 22) 15 #[pT r2 0] Try.func15 ((RSt.low h429.snd).mono ?_)
          rintro e w1 ⟨rfl, rfl⟩
          refine ⟨_, rfl, ?_⟩
          refine ps_p (o_RecordKeeps 2141509598 23) (.bool false) (nqf ((((s.at2 lo fl).la : Nat) : Int)) ((((s.at2 lo fl).la : Nat) : Int)) (by omega)) ?_
          refine ps_k (o_RecordKeeps 2141509598 24) (.bool false) ?_
          refine ps_k (o_RecordKeeps 2141509598 25) (.bool false) ?_
          refine ps_k (o_RecordKeeps 2141509598 26) (pT r 0) ?_
          refine ps_c (o_RecordKeeps 2141509598 27) 16 #[pT r 0] Try.func16 ((RSt.floor h429.fst).mono ?_)
          rintro e w1 ⟨rfl, rfl⟩
          refine ⟨_, rfl, ?_⟩
          refine ps_k (o_RecordKeeps 2141509598 28) (pT r2 0) ?_
          refine ps_c (o_RecordKeeps 2141509598 29) 16 #[pT r2 0] Try.func16 ((RSt.floor h429.snd).mono ?_)
          rintro e w1 ⟨rfl, rfl⟩
          refine ⟨_, rfl, ?_⟩
          refine ps_p (o_RecordKeeps 2141509598 30) (.bool false) (nqf ((((s.at2 lo fl).lb : Nat) : Int)) ((((s.at2 lo fl).lb : Nat) : Int)) (by omega)) ?_
          refine ps_k (o_RecordKeeps 2141509598 31) (.bool false) ?_
          refine ps_end ?_
          refine sy_a ⟨#[.int .i64 wi, .int .i64 bl, vl, undef, undef, undef, u6, .bool true, pT r 0, .int .i64 0, pT hb 0, iN lo, iN fl, iN i, pT xb 0, pT r2 0, iN (s.la + tnl), iN (s.lb + tnf), .int .i64 0, .bool true, vl, iN l.length, .bool false, undef, .tuple #[pT r 0, .int .i64 0], .int .i64 wi, iN tna, iN (1 + tna), .int .i64 bl, iN tnb, iN (1 + tnb), .tuple #[pT r 0, .int .i64 0], pT r 0, .int .i64 0, .int .i64 0, .bool false, .bool false, pT r 0, .bool false, .bool false, iN i, vl, iN l.length, .bool true, uu 10, uu 11, vl, iN i, pT b_x (o_x + i * 76), .agg (RAct.c x), pT xb 5, pT xb 5, pT xb 41, pT xb 41, pT xb 0, .int .i64 x.one.k, .bool false, .bool false, uu 24, uu 25, uu 26, uu 27, uu 28, uu 29, uu 30, uu 31, uu 32, uu 33, uu 34, uu 35, .bool false, .bool false, uu 38, uu 39, uu 40, uu 41, uu 42, uu 43, uu 44, uu 45, uu 46, uu 47, uu 48, uu 49, .bool true, .bool true, pT r 0, pT r2 0, iN s.la, pT xb 1, .int .i64 x.one.l, iN tnl, iN (s.la + tnl), iN s.lb, pT xb 2, .int .i64 x.one.f, iN tnf, iN (s.lb + tnf), pT r2 0, iN (s.la + tnl), iN (s.lb + tnf), .int .i64 0, iN lo, iN (s.la + tnl), .bool false, .bool false, iN fl, iN (s.lb + tnf), .bool false, .bool false, u110, u111, u112, u113, u114, u115, u116, u117, u118, u119, u120, u121, u122, .int .i64 0, .bool false, .bool false, pT r 0, val1, pT r2 0, val2, .bool true, .bool false, .bool false, .bool false, pT r 0, vbl1, pT r2 0, vbl2, .bool true, .bool false, .bool false, .bool false, pT r 0, iN ((s.at2 lo fl).la), pT r2 0, iN ((s.at2 lo fl).la), .bool false, .bool false, .bool false, pT r 0, iN ((s.at2 lo fl).lb), pT r2 0, iN ((s.at2 lo fl).lb), .bool false, .bool false, uu 121, uu 122, uu 123, uu 124, uu 125, uu 126, undef], []⟩ ?_
          refine then_n ?_
          refine sy_n (.tmp 154) (part_RecordKeeps 4283019198) (part_RecordKeeps 4283019199) ?_
          refine sy_sk ?_
          refine blk_n ?_
          refine then_n ?_
          refine sy_sq (part_RecordKeeps 522830) (part_RecordKeeps 522831) ?_
          refine sy_reg ?_
          refine rg_plain 31 (opsAt (part_RecordKeeps 522830)) [0, 1, 2, 3, 4, 5] (by kernel_rfl) (by kernel_rfl) ?_
          refine ps_k (o_RecordKeeps 522830 0) (pT r 0) ?_
          refine ps_p (o_RecordKeeps 522830 1) (.agg #[va, vb]) (exec_load_row 66 (.tmp 10) (by kernel_rfl) hb (by kernel_rfl) _ _ (0, 0) _ (h427) Try.underlying66 rfl (by kernel_rfl)) ?_
          refine ps_k (o_RecordKeeps 522830 2) (iN lo) ?_
          refine ps_k (o_RecordKeeps 522830 3) (iN fl) ?_
          have HI9 := HI.move hha hhb hlo1 hfl1
          refine ps_c (o_RecordKeeps 522830 4) 29 #[pT r 0, .agg #[va, vb], iN lo, iN fl] Try.func29 ((lthere_ok w r ((s.at2 lo fl)) va vb wa wp _ h429.fst (Row.sl h425 rfl (fun y hy => Att.cl_len (HI9.oka y hy))) (Row.sl h426 rfl (fun y hy => Pro.cl_len (HI9.okp y hy))) HI9).mono ?_)
          rintro e V436 ⟨rfl, kV436⟩
          have hrs9 := h429.fst.keepsN kV436
          refine ⟨_, rfl, ?_⟩
          have h437 : Row V436 28 36 va wa.length (wa.flatMap Att.cl) := h425.keeps kV436 (fun _ _ x => x)
          have h438 : Row V436 35 35 vb wp.length (wp.flatMap Pro.cl) := h426.keeps kV436 (fun _ _ x => x)
          have h439 := kV436.bk h427
          have h440 := kV436.bk h428
          have K441 := K434.nn kV436
          have z442 := kV436.size
          refine ps_k (o_RecordKeeps 522830 5) (.bool false) ?_
          refine ps_end ?_
          refine then_n ?_
          refine sy_n (.tmp 160) (part_RecordKeeps 1045662) (part_RecordKeeps 1045663) ?_
          refine sy_sk ?_
          refine blk_n ?_
          refine then_n ?_
          refine sy_reg ?_
          refine rg_plain 11 (opsAt (part_RecordKeeps 16339)) [0, 1, 2] (by kernel_rfl) (by kernel_rfl) ?_
          refine ps_k (o_RecordKeeps 16339 0) (iN i) ?_
          refine ps_p (o_RecordKeeps 16339 1) (iN (i + 1)) (exec_cast (congrArg (Value.int .i64) (wrapN (i + 1) (by omega))) (by kernel_rfl)) ?_
          refine ps_k (o_RecordKeeps 16339 2) (iN (i + 1)) ?_
          refine ps_end ?_
          refine then_n ?_
          refine ⟨⟨i + 1, (s.at2 lo fl), va, vb, wa, wp, (fun k => ([u6, pT xb 0, pT r2 0, iN (s.la + tnl), iN (s.lb + tnf), .int .i64 0, iN i, vl, iN l.length, .bool true, iN i, iN (i + 1), vl, iN i, pT b_x (o_x + i * 76), .agg (RAct.c x), pT xb 5, pT xb 5, pT xb 41, pT xb 41, pT xb 0, .int .i64 x.one.k, .bool false, .bool false, uu 24, uu 25, uu 26, uu 27, uu 28, uu 29, uu 30, uu 31, uu 32, uu 33, uu 34, uu 35, .bool false, .bool false, uu 38, uu 39, uu 40, uu 41, uu 42, uu 43, uu 44, uu 45, uu 46, uu 47, uu 48, uu 49, .bool true, .bool true, pT r 0, pT r2 0, iN s.la, pT xb 1, .int .i64 x.one.l, iN tnl, iN (s.la + tnl), iN s.lb, pT xb 2, .int .i64 x.one.f, iN tnf, iN (s.lb + tnf), pT r2 0, iN (s.la + tnl), iN (s.lb + tnf), .int .i64 0, iN lo, iN (s.la + tnl), .bool false, .bool false, iN fl, iN (s.lb + tnf), .bool false, .bool false, u110, u111, u112, u113, u114, u115, u116, u117, u118, u119, u120, u121, u122, .int .i64 0, .bool false, .bool false, pT r 0, val1, pT r2 0, val2, .bool true, .bool false, .bool false, .bool false, pT r 0, vbl1, pT r2 0, vbl2, .bool true, .bool false, .bool false, .bool false, pT r 0, iN ((s.at2 lo fl).la), pT r2 0, iN ((s.at2 lo fl).la), .bool false, .bool false, .bool false, pT r 0, iN ((s.at2 lo fl).lb), pT r2 0, iN ((s.at2 lo fl).lb), .bool false, .bool false, pT r 0, .agg #[va, vb], iN lo, iN fl, .bool true, .bool false] : List Value).getD k undef), by kernel_rfl, by omega, HI9, by first | (show s.la ≤ _; omega) | (show lo ≤ _; omega), by first | (show s.lb ≤ _; omega) | (show fl ≤ _; omega), by first | (show 1 ≤ s.lb; omega) | (show 1 ≤ fl; omega), by first | omega | (rw [List.length_append]; show wa.length + 1 ≤ _; omega), by first | omega | (rw [List.length_append]; show wp.length + 1 ≤ _; omega), by first | exact hva | exact fun _ => (by rw [List.length_append]; exact Nat.succ_pos _), by first | exact hvb | exact fun _ => (by rw [List.length_append]; exact Nat.succ_pos _), h437, h438, hrs9, h439, K441, hnwa, hnwb⟩, ?_⟩
          exact lt_meas (x := l.length - (i + 1)) (y := l.length - i) (by kernel_rfl) (by kernel_rfl) (by omega)
    · have hok_ : x.one.k = x.k := rfl
      have hxo := Hok x (List.mem_of_getElem? hx)
      have hx1 := RAct.one_ok hxo
      obtain ⟨b_x, o_x, c_x, hv_x, hb_x, _⟩ := Ha.at_ i _ hx
      obtain ⟨_, _, _, _, hha, hhb, _, _⟩ := h25.ok
      skip
      refine sy_sq (part_RecordKeeps 8168) (part_RecordKeeps 8169) ?_
      refine sy_sq (part_RecordKeeps 16336) (part_RecordKeeps 16337) ?_
      refine sy_reg ?_
      refine rg_plain 10 (opsAt (part_RecordKeeps 16336)) [0, 1, 2, 3] (by kernel_rfl) (by kernel_rfl) ?_
      refine ps_k (o_RecordKeeps 16336 0) (iN i) ?_
      refine ps_k (o_RecordKeeps 16336 1) (vl) ?_
      refine ps_p (o_RecordKeeps 16336 2) (iN l.length) (exec_len_sl (.tmp 41) 46 51 (by kernel_rfl) Try.underlying46 (by kernel_rfl) (Ha.keepsN K27)) ?_
      refine ps_p (o_RecordKeeps 16336 3) (.bool true) (dct ((((i : Nat) : Int)) < (((l.length : Nat) : Int))) (by omega)) ?_
      refine ps_end ?_
      refine then_n ?_
      refine sy_ys (.tmp 43) (part_RecordKeeps 32674) (part_RecordKeeps 32675) ?_
      refine sy_sk ?_
      refine then_n ?_
      refine sy_sq (part_RecordKeeps 16338) (part_RecordKeeps 16339) ?_
      refine sy_bk 1 (part_RecordKeeps 32676) ?_
      refine sy_sq (part_RecordKeeps 65352) (part_RecordKeeps 65353) ?_
      refine sy_reg ?_
      refine rg_plain 12 (opsAt (part_RecordKeeps 65352)) [0, 1, 2, 3, 4, 5] (by kernel_rfl) (by kernel_rfl) ?_
      refine ps_k (o_RecordKeeps 65352 0) (vl) ?_
      refine ps_k (o_RecordKeeps 65352 1) (iN i) ?_
      refine ps_p (o_RecordKeeps 65352 2) (pT b_x (o_x + i * 76)) (exec_indexAt_slice 46 (.tmp 46) (.tmp 47) (by kernel_rfl) b_x o_x l.length c_x (Eq.trans (b := vl) (by kernel_rfl) hv_x) .i64 i (by kernel_rfl) _ 76 Try.underlying46 (by kernel_rfl) (by omega)) ?_
      refine ps_p (o_RecordKeeps 65352 3) (.agg (RAct.c x)) (exec_load_mid 51 (.tmp 48) (by kernel_rfl) b_x (o_x + i * 76) (by kernel_rfl) (RAct.cl x) _ (Sl.range (Ha.keepsN K27) hx hv_x) Try.underlying51 rfl (by rw [RAct.cl_len hxo]; kernel_rfl)) ?_
      obtain ⟨V443, eV443, xb, exb, h444, kV443⟩ := alloc_step V22 (#[.int .i64 0, .int .i64 0, .int .i64 0, .int .i64 0, .int .i64 0, .int .i64 0, .int .i64 0, .int .i64 0, .int .u8 0, .int .u8 0, .int .u8 0, .int .u8 0, .int .u8 0, .int .u8 0, .int .u8 0, .int .u8 0, .int .u8 0, .int .u8 0, .int .u8 0, .int .u8 0, .int .u8 0, .int .u8 0, .int .u8 0, .int .u8 0, .int .u8 0, .int .u8 0, .int .u8 0, .int .u8 0, .int .u8 0, .int .u8 0, .int .u8 0, .int .u8 0, .int .u8 0, .int .u8 0, .int .u8 0, .int .u8 0, .int .u8 0, .int .u8 0, .int .u8 0, .int .u8 0, .int .u64 0, .int .i64 0, .int .i64 0, .int .u8 0, .int .u8 0, .int .u8 0, .int .u8 0, .int .u8 0, .int .u8 0, .int .u8 0, .int .u8 0, .int .u8 0, .int .u8 0, .int .u8 0, .int .u8 0, .int .u8 0, .int .u8 0, .int .u8 0, .int .u8 0, .int .u8 0, .int .u8 0, .int .u8 0, .int .u8 0, .int .u8 0, .int .u8 0, .int .u8 0, .int .u8 0, .int .u8 0, .int .u8 0, .int .u8 0, .int .u8 0, .int .u8 0, .int .u8 0, .int .u8 0, .int .u8 0, .int .u64 0]) 51
      have n445 : hb < xb := exb ▸ lt_of_block h26
      have n446 : w.heap.size ≤ xb := exb ▸ K27.size
      refine ps_r (o_RecordKeeps 65352 4) (pT xb 0) (w' := V443) (by rw [← eV443, ← exb]; exact exec_alloc0 51 (by kernel_rfl) (.agg (#[.int .i64 0, .int .i64 0, .int .i64 0, .int .i64 0, .int .i64 0, .int .i64 0, .int .i64 0, .int .i64 0, .int .u8 0, .int .u8 0, .int .u8 0, .int .u8 0, .int .u8 0, .int .u8 0, .int .u8 0, .int .u8 0, .int .u8 0, .int .u8 0, .int .u8 0, .int .u8 0, .int .u8 0, .int .u8 0, .int .u8 0, .int .u8 0, .int .u8 0, .int .u8 0, .int .u8 0, .int .u8 0, .int .u8 0, .int .u8 0, .int .u8 0, .int .u8 0, .int .u8 0, .int .u8 0, .int .u8 0, .int .u8 0, .int .u8 0, .int .u8 0, .int .u8 0, .int .u8 0, .int .u64 0, .int .i64 0, .int .i64 0, .int .u8 0, .int .u8 0, .int .u8 0, .int .u8 0, .int .u8 0, .int .u8 0, .int .u8 0, .int .u8 0, .int .u8 0, .int .u8 0, .int .u8 0, .int .u8 0, .int .u8 0, .int .u8 0, .int .u8 0, .int .u8 0, .int .u8 0, .int .u8 0, .int .u8 0, .int .u8 0, .int .u8 0, .int .u8 0, .int .u8 0, .int .u8 0, .int .u8 0, .int .u8 0, .int .u8 0, .int .u8 0, .int .u8 0, .int .u8 0, .int .u8 0, .int .u8 0, .int .u64 0])) (by kernel_rfl)) ?_
      clear eV443
      have h447 : Row V443 28 36 va wa.length (wa.flatMap Att.cl) := h23.keeps kV443 (fun _ _ x => x)
      have h448 : Row V443 35 35 vb wp.length (wp.flatMap Pro.cl) := h24.keeps kV443 (fun _ _ x => x)
      have h449 : RSt w V443 r 1 s := h25.keepsN kV443
      have h450 := kV443.bk h26
      have K451 := K27.nn kV443
      have z452 := kV443.size
      obtain ⟨V453, eV453, kV453⟩ := rowset_step V443 xb ((RAct.c x))
      have h454 : V453.heap[xb]? = some (.cells (RAct.c x) 51 (0, 0)) := eV453 ▸ setRow_heap _ _ _ _ _ _ h444
      refine ps_s (o_RecordKeeps 65352 5) (w' := V453) (by rw [← eV453]; exact exec_store_row 51 (.tmp 14) (.tmp 49) (by kernel_rfl) xb ((RAct.c x)) (by kernel_rfl) (by kernel_rfl) 51 (#[.int .i64 0, .int .i64 0, .int .i64 0, .int .i64 0, .int .i64 0, .int .i64 0, .int .i64 0, .int .i64 0, .int .u8 0, .int .u8 0, .int .u8 0, .int .u8 0, .int .u8 0, .int .u8 0, .int .u8 0, .int .u8 0, .int .u8 0, .int .u8 0, .int .u8 0, .int .u8 0, .int .u8 0, .int .u8 0, .int .u8 0, .int .u8 0, .int .u8 0, .int .u8 0, .int .u8 0, .int .u8 0, .int .u8 0, .int .u8 0, .int .u8 0, .int .u8 0, .int .u8 0, .int .u8 0, .int .u8 0, .int .u8 0, .int .u8 0, .int .u8 0, .int .u8 0, .int .u8 0, .int .u64 0, .int .i64 0, .int .i64 0, .int .u8 0, .int .u8 0, .int .u8 0, .int .u8 0, .int .u8 0, .int .u8 0, .int .u8 0, .int .u8 0, .int .u8 0, .int .u8 0, .int .u8 0, .int .u8 0, .int .u8 0, .int .u8 0, .int .u8 0, .int .u8 0, .int .u8 0, .int .u8 0, .int .u8 0, .int .u8 0, .int .u8 0, .int .u8 0, .int .u8 0, .int .u8 0, .int .u8 0, .int .u8 0, .int .u8 0, .int .u8 0, .int .u8 0, .int .u8 0, .int .u8 0, .int .u8 0, .int .u64 0]) h444 (by rw [RAct.c_size hxo]; kernel_rfl) (by rw [RAct.c_size hxo]; rfl) (by rw [RAct.c, List.all_toArray]; exact List.all_eq_true.2 (ract_one hxo))) ?_
      clear eV453
      have h455 : Row V453 28 36 va wa.length (wa.flatMap Att.cl) := h447.keeps kV453 (fun j hj e => Row.ne h447 h444 (by decide) ((show j = xb from e) ▸ hj))
      have h456 : Row V453 35 35 vb wp.length (wp.flatMap Pro.cl) := h448.keeps kV453 (fun j hj e => Row.ne h448 h444 (by decide) ((show j = xb from e) ▸ hj))
      have h457 : RSt w V453 r 1 s := RSt.one h449 kV453 h444 (by decide) (by decide) (by decide) (by decide) (by decide) (by decide) (by decide)
      have h458 := kV453.bo h450 (by omega)
      have K459 := K451.no kV453 (by omega)
      have z460 := kV453.size
      refine ps_end ?_
      refine then_n ?_
      refine sy_sq (part_RecordKeeps 130706) (part_RecordKeeps 130707) ?_
      refine sy_reg ?_
      refine rg_plain 13 (opsAt (part_RecordKeeps 130706)) [0, 1, 2, 3, 4, 5] (by kernel_rfl) (by kernel_rfl) ?_
      refine ps_k (o_RecordKeeps 130706 0) (pT xb 5) ?_
      refine ps_k (o_RecordKeeps 130706 1) (pT xb 5) ?_
      obtain ⟨V461, eV461, kV461⟩ := cell_step V453 xb 5 (.int .i64 1)
      have h462 : V461.heap[xb]? = some (.cells (RAct.c x.oneA) 51 (0, 0)) := eV461 ▸ ((heap_setCell_same _ xb 5 _ _ (.int .i64 1) h454).trans (congrArg (fun c => some (Obj.cells c 51 (0, 0))) (show (RAct.c x : Array Value).setIfInBounds 5 (.int .i64 1) = RAct.c x.oneA from RAct.set_a x)))
      refine ps_s (o_RecordKeeps 130706 2) (w' := V461) (by rw [← eV461]; exact exec_store_cell 3 (.tmp 51) (.const (.int .i64 1)) (by kernel_rfl) xb 5 (by kernel_rfl) (.int .i64 1) (by kernel_rfl) (by kernel_rfl) (by kernel_rfl) (.int .i64 x.a.v) (rc (h454) (RAct.c_a x 0 _ Att.cl_0)) (frozen_of_row _ _ _ _ _ h454) (by kernel_rfl)) ?_
      clear eV461
      have h463 : Row V461 28 36 va wa.length (wa.flatMap Att.cl) := h455.keeps kV461 (fun j hj e => Row.ne h455 h454 (by decide) ((show j = xb from e) ▸ hj))
      have h464 : Row V461 35 35 vb wp.length (wp.flatMap Pro.cl) := h456.keeps kV461 (fun j hj e => Row.ne h456 h454 (by decide) ((show j = xb from e) ▸ hj))
      have h465 : RSt w V461 r 1 s := RSt.one h457 kV461 h454 (by decide) (by decide) (by decide) (by decide) (by decide) (by decide) (by decide)
      have h466 := kV461.bo h458 (by omega)
      have K467 := K459.no kV461 (by omega)
      have z468 := kV461.size
      refine ps_k (o_RecordKeeps 130706 3) (pT xb 41) ?_
      refine ps_k (o_RecordKeeps 130706 4) (pT xb 41) ?_
      obtain ⟨V469, eV469, kV469⟩ := cell_step V461 xb 41 (.int .i64 1)
      have h470 : V469.heap[xb]? = some (.cells (RAct.c x.one) 51 (0, 0)) := eV469 ▸ ((heap_setCell_same _ xb 41 _ _ (.int .i64 1) h462).trans (congrArg (fun c => some (Obj.cells c 51 (0, 0))) (show (RAct.c x.oneA : Array Value).setIfInBounds 41 (.int .i64 1) = RAct.c x.one from RAct.set_p hxo)))
      refine ps_s (o_RecordKeeps 130706 5) (w' := V469) (by rw [← eV469]; exact exec_store_cell 3 (.tmp 53) (.const (.int .i64 1)) (by kernel_rfl) xb 41 (by kernel_rfl) (.int .i64 1) (by kernel_rfl) (by kernel_rfl) (by kernel_rfl) (.int .i64 x.p.v) (rc (h462) (RAct.c_p _ (RAct.oneA_ok hxo) 0 _ Pro.cl_0)) (frozen_of_row _ _ _ _ _ h462) (by kernel_rfl)) ?_
      clear eV469
      have h471 : Row V469 28 36 va wa.length (wa.flatMap Att.cl) := h463.keeps kV469 (fun j hj e => Row.ne h463 h462 (by decide) ((show j = xb from e) ▸ hj))
      have h472 : Row V469 35 35 vb wp.length (wp.flatMap Pro.cl) := h464.keeps kV469 (fun j hj e => Row.ne h464 h462 (by decide) ((show j = xb from e) ▸ hj))
      have h473 : RSt w V469 r 1 s := RSt.one h465 kV469 h462 (by decide) (by decide) (by decide) (by decide) (by decide) (by decide) (by decide)
      have h474 := kV469.bo h466 (by omega)
      have K475 := K467.no kV469 (by omega)
      have z476 := kV469.size
      refine ps_end ?_
      refine then_n ?_
      refine sy_sq (part_RecordKeeps 261414) (part_RecordKeeps 261415) ?_
      refine sy_sq (part_RecordKeeps 522828) (part_RecordKeeps 522829) ?_
      refine sy_reg ?_
      refine rg_plain 14 (opsAt (part_RecordKeeps 522828)) [0, 1] (by kernel_rfl) (by kernel_rfl) ?_
      refine ps_k (o_RecordKeeps 522828 0) (pT xb 0) ?_
      refine ps_p (o_RecordKeeps 522828 1) (.int .i64 x.one.k) (exec_ld 3 (.tmp 54) xb 0 Try.underlying3 (rc (h470) (RAct.c_0 _))) ?_
      refine ps_end ?_
      refine then_n ?_
      refine sy_bk 2 (part_RecordKeeps 1045658) ?_
      refine sy_sq (part_RecordKeeps 2091316) (part_RecordKeeps 2091317) ?_
      refine sy_reg ?_
      refine rg_plain 15 (opsAt (part_RecordKeeps 2091316)) [0, 1] (by kernel_rfl) (by kernel_rfl) ?_
      refine ps_p (o_RecordKeeps 2091316 0) (.bool false) (eqf ((x.one.k) : Int) ((0) : Int) (by omega)) ?_
      refine ps_k (o_RecordKeeps 2091316 1) (.bool false) ?_
      refine ps_end ?_
      refine then_n ?_
      refine sy_n (.tmp 56) (part_RecordKeeps 4182634) (part_RecordKeeps 4182635) ?_
      refine sy_sq (part_RecordKeeps 8365270) (part_RecordKeeps 8365271) ?_
      refine sy_reg ?_
      refine rg_plain 18 (opsAt (part_RecordKeeps 8365270)) [0, 1] (by kernel_rfl) (by kernel_rfl) ?_
      refine ps_p (o_RecordKeeps 8365270 0) (.bool false) (eqf ((x.one.k) : Int) ((1) : Int) (by omega)) ?_
      refine ps_k (o_RecordKeeps 8365270 1) (.bool false) ?_
      refine ps_end ?_
      refine then_n ?_
      refine sy_n (.tmp 70) (part_RecordKeeps 16730542) (part_RecordKeeps 16730543) ?_
      refine sy_sq (part_RecordKeeps 33461086) (part_RecordKeeps 33461087) ?_
      refine sy_reg ?_
      refine rg_plain 21 (opsAt (part_RecordKeeps 33461086)) [0, 1] (by kernel_rfl) (by kernel_rfl) ?_
      refine ps_p (o_RecordKeeps 33461086 0) (.bool false) (eqf ((x.one.k) : Int) ((2) : Int) (by omega)) ?_
      refine ps_k (o_RecordKeeps 33461086 1) (.bool false) ?_
      refine ps_end ?_
      refine sy_a ⟨#[.int .i64 wi, .int .i64 bl, vl, undef, undef, undef, uu 0, .bool true, pT r 0, .int .i64 0, pT hb 0, iN s.la, iN s.lb, iN i, pT xb 0, uu 2, uu 3, uu 4, uu 5, .bool true, vl, iN l.length, .bool false, undef, .tuple #[pT r 0, .int .i64 0], .int .i64 wi, iN tna, iN (1 + tna), .int .i64 bl, iN tnb, iN (1 + tnb), .tuple #[pT r 0, .int .i64 0], pT r 0, .int .i64 0, .int .i64 0, .bool false, .bool false, pT r 0, .bool false, .bool false, iN i, vl, iN l.length, .bool true, uu 10, uu 11, vl, iN i, pT b_x (o_x + i * 76), .agg (RAct.c x), pT xb 5, pT xb 5, pT xb 41, pT xb 41, pT xb 0, .int .i64 x.one.k, .bool false, .bool false, uu 24, uu 25, uu 26, uu 27, uu 28, uu 29, uu 30, uu 31, uu 32, uu 33, uu 34, uu 35, .bool false, .bool false, uu 38, uu 39, uu 40, uu 41, uu 42, uu 43, uu 44, uu 45, uu 46, uu 47, uu 48, uu 49, .bool false, .bool false, uu 52, uu 53, uu 54, uu 55, uu 56, uu 57, uu 58, uu 59, uu 60, uu 61, uu 62, uu 63, uu 64, uu 65, uu 66, uu 67, uu 68, uu 69, uu 70, uu 71, uu 72, uu 73, uu 74, uu 75, uu 76, uu 77, uu 78, uu 79, uu 80, uu 81, uu 82, uu 83, uu 84, uu 85, uu 86, uu 87, uu 88, uu 89, uu 90, uu 91, uu 92, uu 93, uu 94, uu 95, uu 96, uu 97, uu 98, uu 99, uu 100, uu 101, uu 102, uu 103, uu 104, uu 105, uu 106, uu 107, uu 108, uu 109, uu 110, uu 111, uu 112, uu 113, uu 114, uu 115, uu 116, uu 117, uu 118, uu 119, uu 120, uu 121, uu 122, uu 123, uu 124, uu 125, uu 126, undef], []⟩ ?_
      refine then_n ?_
      refine sy_n (.tmp 84) (part_RecordKeeps 66922174) (part_RecordKeeps 66922175) ?_
      refine sy_sk ?_
      refine blk_n ?_
      refine then_n ?_
      refine sy_sq (part_RecordKeeps 522830) (part_RecordKeeps 522831) ?_
      refine sy_reg ?_
      refine rg_plain 31 (opsAt (part_RecordKeeps 522830)) [0, 1, 2, 3, 4, 5] (by kernel_rfl) (by kernel_rfl) ?_
      refine ps_k (o_RecordKeeps 522830 0) (pT r 0) ?_
      refine ps_p (o_RecordKeeps 522830 1) (.agg #[va, vb]) (exec_load_row 66 (.tmp 10) (by kernel_rfl) hb (by kernel_rfl) _ _ (0, 0) _ (h474) Try.underlying66 rfl (by kernel_rfl)) ?_
      refine ps_k (o_RecordKeeps 522830 2) (iN s.la) ?_
      refine ps_k (o_RecordKeeps 522830 3) (iN s.lb) ?_
      have HI9 := HI
      refine ps_c (o_RecordKeeps 522830 4) 29 #[pT r 0, .agg #[va, vb], iN s.la, iN s.lb] Try.func29 ((lthere_ok w r s va vb wa wp _ h473 (Row.sl h471 rfl (fun y hy => Att.cl_len (HI9.oka y hy))) (Row.sl h472 rfl (fun y hy => Pro.cl_len (HI9.okp y hy))) HI9).mono ?_)
      rintro e V477 ⟨rfl, kV477⟩
      have hrs9 := h473.keepsN kV477
      refine ⟨_, rfl, ?_⟩
      have h478 : Row V477 28 36 va wa.length (wa.flatMap Att.cl) := h471.keeps kV477 (fun _ _ x => x)
      have h479 : Row V477 35 35 vb wp.length (wp.flatMap Pro.cl) := h472.keeps kV477 (fun _ _ x => x)
      have h480 := kV477.bk h474
      have h481 := kV477.bk h470
      have K482 := K475.nn kV477
      have z483 := kV477.size
      refine ps_k (o_RecordKeeps 522830 5) (.bool false) ?_
      refine ps_end ?_
      refine then_n ?_
      refine sy_n (.tmp 160) (part_RecordKeeps 1045662) (part_RecordKeeps 1045663) ?_
      refine sy_sk ?_
      refine blk_n ?_
      refine then_n ?_
      refine sy_reg ?_
      refine rg_plain 11 (opsAt (part_RecordKeeps 16339)) [0, 1, 2] (by kernel_rfl) (by kernel_rfl) ?_
      refine ps_k (o_RecordKeeps 16339 0) (iN i) ?_
      refine ps_p (o_RecordKeeps 16339 1) (iN (i + 1)) (exec_cast (congrArg (Value.int .i64) (wrapN (i + 1) (by omega))) (by kernel_rfl)) ?_
      refine ps_k (o_RecordKeeps 16339 2) (iN (i + 1)) ?_
      refine ps_end ?_
      refine then_n ?_
      refine ⟨⟨i + 1, s, va, vb, wa, wp, (fun k => ([uu 0, pT xb 0, uu 2, uu 3, uu 4, uu 5, iN i, vl, iN l.length, .bool true, iN i, iN (i + 1), vl, iN i, pT b_x (o_x + i * 76), .agg (RAct.c x), pT xb 5, pT xb 5, pT xb 41, pT xb 41, pT xb 0, .int .i64 x.one.k, .bool false, .bool false, uu 24, uu 25, uu 26, uu 27, uu 28, uu 29, uu 30, uu 31, uu 32, uu 33, uu 34, uu 35, .bool false, .bool false, uu 38, uu 39, uu 40, uu 41, uu 42, uu 43, uu 44, uu 45, uu 46, uu 47, uu 48, uu 49, .bool false, .bool false, uu 52, uu 53, uu 54, uu 55, uu 56, uu 57, uu 58, uu 59, uu 60, uu 61, uu 62, uu 63, uu 64, uu 65, uu 66, uu 67, uu 68, uu 69, uu 70, uu 71, uu 72, uu 73, uu 74, uu 75, uu 76, uu 77, uu 78, uu 79, uu 80, uu 81, uu 82, uu 83, uu 84, uu 85, uu 86, uu 87, uu 88, uu 89, uu 90, uu 91, uu 92, uu 93, uu 94, uu 95, uu 96, uu 97, uu 98, uu 99, uu 100, uu 101, uu 102, uu 103, uu 104, uu 105, uu 106, uu 107, uu 108, uu 109, uu 110, uu 111, uu 112, uu 113, uu 114, uu 115, uu 116, uu 117, uu 118, uu 119, uu 120, pT r 0, .agg #[va, vb], iN s.la, iN s.lb, .bool true, .bool false] : List Value).getD k undef), by kernel_rfl, by omega, HI9, by first | (show s.la ≤ _; omega) | (show lo ≤ _; omega), by first | (show s.lb ≤ _; omega) | (show fl ≤ _; omega), by first | (show 1 ≤ s.lb; omega) | (show 1 ≤ fl; omega), by first | omega | (rw [List.length_append]; show wa.length + 1 ≤ _; omega), by first | omega | (rw [List.length_append]; show wp.length + 1 ≤ _; omega), by first | exact hva | exact fun _ => (by rw [List.length_append]; exact Nat.succ_pos _), by first | exact hvb | exact fun _ => (by rw [List.length_append]; exact Nat.succ_pos _), h478, h479, hrs9, h480, K482, hnwa, hnwb⟩, ?_⟩
      exact lt_meas (x := l.length - (i + 1)) (y := l.length - i) (by kernel_rfl) (by kernel_rfl) (by omega)
    · skip
      refine sy_sq (part_RecordKeeps 8168) (part_RecordKeeps 8169) ?_
      refine sy_sq (part_RecordKeeps 16336) (part_RecordKeeps 16337) ?_
      refine sy_reg ?_
      refine rg_plain 10 (opsAt (part_RecordKeeps 16336)) [0, 1, 2, 3] (by kernel_rfl) (by kernel_rfl) ?_
      refine ps_k (o_RecordKeeps 16336 0) (iN i) ?_
      refine ps_k (o_RecordKeeps 16336 1) (vl) ?_
      refine ps_p (o_RecordKeeps 16336 2) (iN l.length) (exec_len_sl (.tmp 41) 46 51 (by kernel_rfl) Try.underlying46 (by kernel_rfl) (Ha.keepsN K27)) ?_
      refine ps_p (o_RecordKeeps 16336 3) (.bool false) (dcf ((((i : Nat) : Int)) < (((l.length : Nat) : Int))) (by omega)) ?_
      refine ps_end ?_
      refine then_n ?_
      refine sy_n (.tmp 43) (part_RecordKeeps 32674) (part_RecordKeeps 32675) ?_
      refine sy_exit 0 (by kernel_rfl) ?_
      refine then_e ?_
      refine then_e ?_
      refine blk_e ?_
      refine then_n ?_
      refine sy_sq (part_RecordKeeps 1022) (part_RecordKeeps 1023) ?_
      refine sy_reg ?_
      refine rg_plain 33 (opsAt (part_RecordKeeps 1022)) [0, 1] (by kernel_rfl) (by kernel_rfl) ?_
      refine ps_k (o_RecordKeeps 1022 0) (.bool true) ?_
      refine ps_k (o_RecordKeeps 1022 1) (.bool true) ?_
      refine ps_end ?_
      refine then_n ?_
      refine sy_ret (by kernel_rfl) ?_
      refine sy_out (.bool true) rfl (by kernel_rfl) ?_
      exact ⟨rfl, K27⟩
theorem recordKeeps_law (wi : Int) (hwi : i64b wi) (bl : Int) (hbl : i64b bl) (vl : Value) (l : List RAct) (w : World) (H : Sl w 76 RAct.cl vl l ∧ ∀ x ∈ l, x.Ok) : Calls Try.prog 6 #[.int .i64 wi, .int .i64 bl, vl] w (fun e w' => e = .returned (.bool true) ∧ Keeps Nob w w') := by
  by_cases hl : 80 < l.length
  · exact recordKeeps_long wi bl hwi hbl vl l w H.1 H.2 hl
  · exact recordKeeps_fine wi bl hwi hbl vl l w H.1 H.2 hl
end Go.Proofs.Ytgipooedgbbliaa
