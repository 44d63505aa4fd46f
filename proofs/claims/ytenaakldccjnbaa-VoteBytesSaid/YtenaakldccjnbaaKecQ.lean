/-
  Keccak: the document's permutation, walked (printed by kec11.py). Conditions: none.
-/
import Derived.Test.YtenaakldccjnbaaKecC
namespace Go.Proofs.Ytenaakldccjnbaa
open Go Go.RowKit Go.Own Go.Shelf
theorem rot_zero (x : Nat) (h : x < Kec.W) : Kec.rot x 0 = x := by
  unfold Kec.rot
  rw [Nat.shiftLeft_zero, Nat.mod_eq_of_lt h, Nat.shiftRight_eq_div_pow, Nat.div_eq_of_lt (by rw [Kec.W_eq] at h; exact h), Nat.or_zero]
/-- Columns' sums, word by word. -/
def ccn (s : List Nat) (n : Nat) : List Nat := (List.range n).foldl (fun t i => t.set (i / 5) (Kec.g t (i / 5) ^^^ Kec.g s (Kec.at_ (i / 5) (i % 5)))) [0, 0, 0, 0, 0]
theorem ccn_succ (s : List Nat) (x y : Nat) (hy : y < 5) : (ccn s (5 * x + y)).set x (Kec.g (ccn s (5 * x + y)) x ^^^ Kec.g s (Kec.at_ x y)) = ccn s (5 * x + (y + 1)) := by
  show _ = ccn s (5 * x + y + 1)
  conv => rhs; unfold ccn
  rw [List.range_succ, List.foldl_append]
  show _ = List.set (ccn s (5 * x + y)) _ (Kec.g (ccn s (5 * x + y)) _ ^^^ _)
  rw [show (5 * x + y) / 5 = x by omega, show (5 * x + y) % 5 = y by omega]
theorem ccn_len (s : List Nat) (n : Nat) : (ccn s n).length = 5 := by
  induction n with
  | zero => rfl
  | succ n ih => unfold ccn at *; rw [List.range_succ, List.foldl_append]; simpa using ih
theorem ws_ccn {s : List Nat} (ws : Kec.Ws s) (n : Nat) : Kec.Ws (ccn s n) := by
  induction n with
  | zero => intro i; show Kec.g [0, 0, 0, 0, 0] i < Kec.W; by_cases h : i < 5
            · have : ∀ j : Fin 5, Kec.g [0, 0, 0, 0, 0] j.val < Kec.W := by decide
              exact this ⟨i, h⟩
            · rw [Kec.g_big _ _ (by simp; omega)]; exact Kec.W_pos
  | succ n ih => unfold ccn at *; rw [List.range_succ, List.foldl_append]; exact Kec.ws_set ih _ _ (Kec.xor_lt (ih _) (ws _))
theorem ccn_all (s : List Nat) : ccn s 25 = (List.range 5).map (Kec.col s) := by
  have h : ccn s 25 = (List.range 5).map fun x => 0 ^^^ Kec.g s x ^^^ Kec.g s (x + 5) ^^^ Kec.g s (x + 10) ^^^ Kec.g s (x + 15) ^^^ Kec.g s (x + 20) := by kernel_rfl
  rw [h]
  refine List.map_congr_left fun x _ => ?_
  unfold Kec.col
  rw [Nat.zero_xor]
/-- Words moved, one by one. -/
def mmn (s : List Nat) (n : Nat) : List Nat := (List.range n).foldl (fun t i => t.set (Kec.at_ (i % 5) (2 * (i / 5) + 3 * (i % 5))) (Kec.rot (Kec.g s (Kec.at_ (i / 5) (i % 5)) ^^^ Kec.dd s (i / 5)) (Kec.g Kec.R (Kec.at_ (i / 5) (i % 5))))) Kec.zero
theorem mmn_succ (s : List Nat) (x y : Nat) (hy : y < 5) : (mmn s (5 * x + y)).set (Kec.at_ y (2 * x + 3 * y)) (Kec.rot (Kec.g s (Kec.at_ x y) ^^^ Kec.dd s x) (Kec.g Kec.R (Kec.at_ x y))) = mmn s (5 * x + (y + 1)) := by
  show _ = mmn s (5 * x + y + 1)
  conv => rhs; unfold mmn
  rw [List.range_succ, List.foldl_append]
  show _ = List.set (mmn s (5 * x + y)) _ _
  rw [show (5 * x + y) / 5 = x by omega, show (5 * x + y) % 5 = y by omega]
theorem mmn_len (s : List Nat) (n : Nat) : (mmn s n).length = 25 := by
  induction n with
  | zero => rfl
  | succ n ih => unfold mmn at *; rw [List.range_succ, List.foldl_append]; simpa using ih
theorem mmn_all (s : List Nat) : mmn s 25 = Kec.moves (Kec.columns s) := by kernel_rfl
/-- Words mixed, one by one. -/
def xxn (b : List Nat) (n : Nat) : List Nat → List Nat := fun a => (List.range n).foldl (fun t i => t.set (Kec.at_ (i / 5) (i % 5)) (Kec.g b (Kec.at_ (i / 5) (i % 5)) ^^^ ((Kec.W - 1 - Kec.g b (Kec.at_ (i / 5 + 1) (i % 5))) &&& Kec.g b (Kec.at_ (i / 5 + 2) (i % 5))))) a
theorem xxn_succ (a b : List Nat) (x y : Nat) (hy : y < 5) : (xxn b (5 * x + y) a).set (Kec.at_ x y) (Kec.g b (Kec.at_ x y) ^^^ ((Kec.W - 1 - Kec.g b (Kec.at_ (x + 1) y)) &&& Kec.g b (Kec.at_ (x + 2) y))) = xxn b (5 * x + (y + 1)) a := by
  show _ = xxn b (5 * x + y + 1) a
  conv => rhs; unfold xxn
  rw [List.range_succ, List.foldl_append]
  show _ = List.set (xxn b (5 * x + y) a) _ _
  rw [show (5 * x + y) / 5 = x by omega, show (5 * x + y) % 5 = y by omega]
theorem xxn_len (a b : List Nat) (n : Nat) : (xxn b n a).length = a.length := by
  induction n with
  | zero => rfl
  | succ n ih => unfold xxn at *; rw [List.range_succ, List.foldl_append]; simpa using ih
theorem xxn_all (a b : List Nat) (ha : a.length = 25) : xxn b 25 a = Kec.mixes b := by
  match a, ha with
  | [a0, a1, a2, a3, a4, a5, a6, a7, a8, a9, b0, b1, b2, b3, b4, b5, b6, b7, b8, b9, c0, c1, c2, c3, c4], _ => show xxn b 25 [a0, a1, a2, a3, a4, a5, a6, a7, a8, a9, b0, b1, b2, b3, b4, b5, b6, b7, b8, b9, c0, c1, c2, c3, c4] = Kec.mixes b; kernel_rfl
/-- The constants' register. -/
theorem regn_small (k r : Nat) (h : r = Kec.regn k) (h2 : ¬ 255 < 2 * r) : 2 * r = Kec.regn (k + 1) := by
  subst h; rw [show Kec.regn (k + 1) = if 256 ≤ 2 * Kec.regn k then ((2 * Kec.regn k) &&& 255) ^^^ 113 else 2 * Kec.regn k from rfl, if_neg (by omega)]
theorem regn_big (k r : Nat) (h : r = Kec.regn k) (h2 : 255 < 2 * r) : (2 * r % 256) ^^^ 113 = Kec.regn (k + 1) := by
  subst h; rw [show Kec.regn (k + 1) = if 256 ≤ 2 * Kec.regn k then ((2 * Kec.regn k) &&& 255) ^^^ 113 else 2 * Kec.regn k from rfl, if_pos (by omega), show (255 : Nat) = 2 ^ 8 - 1 from rfl, Nat.and_two_pow_sub_one_eq_mod]
theorem outn_step (i j : Nat) (hj : j < 7) : Kec.outn (7 * i + (j + 1)) = (Kec.outn (7 * i + j)).set i (Kec.g (Kec.outn (7 * i + j)) i ||| (Kec.bitn (7 * i + j) <<< (1 <<< j - 1)) % Kec.W) := by
  rw [show 7 * i + (j + 1) = 7 * i + j + 1 from rfl, show Kec.outn (7 * i + j + 1) = (Kec.outn (7 * i + j)).set ((7 * i + j) / 7) (Kec.g (Kec.outn (7 * i + j)) ((7 * i + j) / 7) ||| (Kec.bitn (7 * i + j) <<< (1 <<< ((7 * i + j) % 7) - 1)) % Kec.W) from rfl,
    show (7 * i + j) / 7 = i by omega, show (7 * i + j) % 7 = j by omega]
theorem outn_odd (i j r : Nat) (hj : j < 7) (hr : r = Kec.regn (7 * i + j)) (h : r % 2 = 1) : (Kec.outn (7 * i + j)).set i (Kec.g (Kec.outn (7 * i + j)) i ||| (1 <<< (1 <<< j - 1)) % Kec.W) = Kec.outn (7 * i + (j + 1)) := by
  have hb : Kec.bitn (7 * i + j) = 1 := by unfold Kec.bitn; rw [← hr, show (1 : Nat) = 2 ^ 1 - 1 from rfl, Nat.and_two_pow_sub_one_eq_mod]; exact h
  rw [outn_step i j hj, hb]
theorem outn_even (i j r : Nat) (hi : i < 24) (hj : j < 7) (hr : r = Kec.regn (7 * i + j)) (h : ¬ r % 2 = 1) : Kec.outn (7 * i + j) = Kec.outn (7 * i + (j + 1)) := by
  have hb : Kec.bitn (7 * i + j) = 0 := by unfold Kec.bitn; rw [← hr, show (1 : Nat) = 2 ^ 1 - 1 from rfl, Nat.and_two_pow_sub_one_eq_mod]; simp; omega
  have hl : i < (Kec.outn (7 * i + j)).length := by rw [Kec.outn_len]; exact hi
  rw [outn_step i j hj, hb, Nat.zero_shiftLeft, Nat.zero_mod, Nat.or_zero]
  unfold Kec.g
  rw [List.getD_eq_getElem?_getD, List.getElem?_eq_getElem hl]
  simp
theorem xor113 (r : Nat) (h : r < 256) : Value.int .i64 (bits .xor .i64 (r : Int) 113) = .int .i64 ((r ^^^ 113 : Nat) : Int) := by
  have : ∀ j : Fin 256, bits .xor .i64 ((j.val : Nat) : Int) 113 = ((j.val ^^^ 113 : Nat) : Int) := by decide +kernel
  exact congrArg _ (this ⟨r, h⟩)

noncomputable def part_hrot (n : Nat) : Code := partOf Try.f109 n
noncomputable abbrev o_hrot (n k : Nat) : Oper := (opsAt (part_hrot n)).getD k default
set_option maxRecDepth 100000 in
set_option maxHeartbeats 4000000 in
theorem hrot_zero (x n : Nat) (w : World) (hx : x < Kec.W) (h0 : n = 0) :
    Calls Try.prog 109 #[.int .u64 ((x : Nat) : Int), .int .i64 ((n : Nat) : Int)] w (fun e w' => e = .returned (.int .u64 ((Kec.rot x n : Nat) : Int)) ∧ Keeps Nob w w') := by
  have K0 : Keeps Nob w w := Keeps.refl _ _
  refine sy_enter (part_hrot 1) ⟨#[uN x, iN n, undef, undef, undef, undef, undef, undef, undef, undef, undef, undef, undef, undef, undef, undef], []⟩ Try.func109 (by kernel_rfl) (by kernel_rfl) ?_
  refine sy_sq (part_hrot 2) (part_hrot 3) ?_
  refine sy_reg ?_
  refine rg_plain 0 (opsAt (part_hrot 2)) [0] (by kernel_rfl) (by kernel_rfl) ?_
  refine ps_k (o_hrot 2 0) (.int .u64 0) ?_
  refine ps_end ?_
  refine then_n ?_
  refine sy_sq (part_hrot 6) (part_hrot 7) ?_
  refine sy_sq (part_hrot 12) (part_hrot 13) ?_
  refine sy_reg ?_
  refine rg_plain 1 (opsAt (part_hrot 12)) [0, 1] (by kernel_rfl) (by kernel_rfl) ?_
  refine ps_k (o_hrot 12 0) (iN n) ?_
  refine ps_p (o_hrot 12 1) (.bool true) (eqt (((n : Nat) : Int)) ((0) : Int) (by omega)) ?_
  refine ps_end ?_
  refine then_n ?_
  refine sy_ys (.tmp 6) (part_hrot 26) (part_hrot 27) ?_
  refine sy_sq (part_hrot 52) (part_hrot 53) ?_
  refine sy_reg ?_
  refine rg_plain 2 (opsAt (part_hrot 52)) [0, 1] (by kernel_rfl) (by kernel_rfl) ?_
  refine ps_k (o_hrot 52 0) (uN x) ?_
  refine ps_k (o_hrot 52 1) (uN x) ?_
  refine ps_end ?_
  refine then_n ?_
  refine sy_ret (by kernel_rfl) ?_
  refine then_r ?_
  refine sy_out (.int .u64 ((x : Nat) : Int)) rfl (by kernel_rfl) ?_
  exact ⟨by subst h0; rw [rot_zero x hx], K0⟩
set_option maxRecDepth 100000 in
set_option maxHeartbeats 4000000 in
theorem hrot_pos (x n : Nat) (w : World) (hx : x < Kec.W) (hn : n < 64) (h0 : ¬ n = 0) :
    Calls Try.prog 109 #[.int .u64 ((x : Nat) : Int), .int .i64 ((n : Nat) : Int)] w (fun e w' => e = .returned (.int .u64 ((Kec.rot x n : Nat) : Int)) ∧ Keeps Nob w w') := by
  have K0 : Keeps Nob w w := Keeps.refl _ _
  refine sy_enter (part_hrot 1) ⟨#[uN x, iN n, undef, undef, undef, undef, undef, undef, undef, undef, undef, undef, undef, undef, undef, undef], []⟩ Try.func109 (by kernel_rfl) (by kernel_rfl) ?_
  refine sy_sq (part_hrot 2) (part_hrot 3) ?_
  refine sy_reg ?_
  refine rg_plain 0 (opsAt (part_hrot 2)) [0] (by kernel_rfl) (by kernel_rfl) ?_
  refine ps_k (o_hrot 2 0) (.int .u64 0) ?_
  refine ps_end ?_
  refine then_n ?_
  refine sy_sq (part_hrot 6) (part_hrot 7) ?_
  refine sy_sq (part_hrot 12) (part_hrot 13) ?_
  refine sy_reg ?_
  refine rg_plain 1 (opsAt (part_hrot 12)) [0, 1] (by kernel_rfl) (by kernel_rfl) ?_
  refine ps_k (o_hrot 12 0) (iN n) ?_
  refine ps_p (o_hrot 12 1) (.bool false) (eqf (((n : Nat) : Int)) ((0) : Int) (by omega)) ?_
  refine ps_end ?_
  refine then_n ?_
  refine sy_n (.tmp 6) (part_hrot 26) (part_hrot 27) ?_
  refine sy_sk ?_
  refine then_n ?_
  refine sy_sq (part_hrot 14) (part_hrot 15) ?_
  refine sy_reg ?_
  refine rg_still 3 8 (opsAt (part_hrot 14)) [o_hrot 14 0, o_hrot 14 1, o_hrot 14 2, o_hrot 14 3, o_hrot 14 4, o_hrot 14 5, o_hrot 14 6, o_hrot 14 7] [o_hrot 14 8] (by kernel_rfl) (by kernel_rfl) (by kernel_rfl) (by kernel_rfl) (by kernel_rfl) ?_
  obtain ⟨V2, eV2, kV2⟩ := drew_step w
  rw [eV2]
  clear eV2
  have K3 := K0.nn kV2
  refine st_k (o_hrot 14 0) (uN x) ?_
  refine st_k (o_hrot 14 1) (iN n) ?_
  refine st_p (o_hrot 14 2) (uN ((x <<< n) % Kec.W)) (exec_binop .shl 27 3 (.tmp 8) (.tmp 9) (by kernel_rfl) (uN x) (iN n) _ (by kernel_rfl) (by kernel_rfl) (by kernel_rfl) (run_shlU _ _ x n (by omega))) ?_
  refine st_k (o_hrot 14 3) (uN x) ?_
  refine st_k (o_hrot 14 4) (iN n) ?_
  refine st_p (o_hrot 14 5) (iN (64 - n)) (exec_cast (v := .int .i64 (IntKind.i64.wrap ((64 : Int) - ((n : Nat) : Int)))) (congrArg (Value.int .i64) (by rw [show (64 : Int) - ((n : Nat) : Int) = ((64 - n : Nat) : Int) by omega]; exact wrapN _ (by omega))) (by kernel_rfl)) ?_
  refine st_p (o_hrot 14 6) (uN (x >>> (64 - n))) (exec_binop .shr 27 3 (.tmp 11) (.tmp 13) (by kernel_rfl) (uN x) (iN (64 - n)) _ (by kernel_rfl) (by kernel_rfl) (by kernel_rfl) (run_shrU _ _ x (64 - n) (by omega))) ?_
  refine st_p (o_hrot 14 7) (uN (((x <<< n) % Kec.W) ||| (x >>> (64 - n)))) (exec_cast (orU ((x <<< n) % Kec.W) (x >>> (64 - n)) (Nat.mod_lt _ Kec.W_pos) (Kec.shr_lt hx _)) (by kernel_rfl)) ?_
  refine st_end ?_
  refine ls_run (o_hrot 14 8) (uN (((x <<< n) % Kec.W) ||| (x >>> (64 - n)))) (w' := V2) (by kernel_rfl) (by kernel_rfl) ?_
  refine ls_end ?_
  refine then_n ?_
  refine sy_ret (by kernel_rfl) ?_
  refine sy_out (.int .u64 ((((x <<< n) % Kec.W) ||| (x >>> (64 - n)) : Nat) : Int)) rfl (by kernel_rfl) ?_
  exact ⟨rfl, K3⟩
theorem hrot_ok (x n : Nat) (w : World) (hx : x < Kec.W) (hn : n < 64) : Calls Try.prog 109 #[.int .u64 ((x : Nat) : Int), .int .i64 ((n : Nat) : Int)] w fun e w' => e = .returned (.int .u64 ((Kec.rot x n : Nat) : Int)) ∧ Keeps Nob w w' := by
  by_cases h0 : n = 0
  · exact hrot_zero x n w hx h0
  · exact hrot_pos x n w hx hn h0
noncomputable def part_hat (n : Nat) : Code := partOf Try.f107 n
noncomputable abbrev o_hat (n k : Nat) : Oper := (opsAt (part_hat n)).getD k default
set_option maxRecDepth 100000 in
set_option maxHeartbeats 4000000 in
theorem hat_ok (x y r : Nat) (w : World) (hx : x ≤ 1000) (hy : y ≤ 1000) (h : Kec.at_ x y = r) :
    Calls Try.prog 107 #[.int .i64 ((x : Nat) : Int), .int .i64 ((y : Nat) : Int)] w (fun e w' => e = .returned (.int .i64 ((r : Nat) : Int)) ∧ w = w') := by
  have K0 : Keeps Nob w w := Keeps.refl _ _
  refine sy_enter (part_hat 1) ⟨#[iN x, iN y, undef, undef, undef, undef, undef, undef, undef, undef, undef], []⟩ Try.func107 (by kernel_rfl) (by kernel_rfl) ?_
  refine sy_sq (part_hat 2) (part_hat 3) ?_
  refine sy_reg ?_
  refine rg_plain 0 (opsAt (part_hat 2)) [0] (by kernel_rfl) (by kernel_rfl) ?_
  refine ps_k (o_hat 2 0) (.int .i64 0) ?_
  refine ps_end ?_
  refine then_n ?_
  refine sy_sq (part_hat 6) (part_hat 7) ?_
  refine sy_reg ?_
  refine rg_plain 1 (opsAt (part_hat 6)) [0, 1, 2, 3, 4, 5, 6] (by kernel_rfl) (by kernel_rfl) ?_
  refine ps_k (o_hat 6 0) (iN x) ?_
  refine ps_k (o_hat 6 1) (iN (x % 5)) ?_
  refine ps_k (o_hat 6 2) (iN y) ?_
  refine ps_k (o_hat 6 3) (iN (y % 5)) ?_
  refine ps_p (o_hat 6 4) (iN (5 * (y % 5))) (exec_cast (congrArg (Value.int .i64) (wrapN (5 * (y % 5)) (by omega))) (by kernel_rfl)) ?_
  refine ps_p (o_hat 6 5) (iN ((x % 5) + (5 * (y % 5)))) (exec_cast (congrArg (Value.int .i64) (wrapN ((x % 5) + (5 * (y % 5))) (by omega))) (by kernel_rfl)) ?_
  refine ps_k (o_hat 6 6) (iN ((x % 5) + (5 * (y % 5)))) ?_
  refine ps_end ?_
  refine then_n ?_
  refine sy_ret (by kernel_rfl) ?_
  refine sy_out (.int .i64 (((x % 5) + (5 * (y % 5)) : Nat) : Int)) rfl (by kernel_rfl) ?_
  exact ⟨congrArg (fun n : Nat => Ending.returned (.int .i64 (n : Int))) h, rfl⟩
noncomputable def part_hturns (n : Nat) : Code := partOf Try.f108 n
noncomputable abbrev o_hturns (n k : Nat) : Oper := (opsAt (part_hturns n)).getD k default
set_option maxRecDepth 100000 in
set_option maxHeartbeats 4000000 in
theorem hturns_ok (w : World) :
    Calls Try.prog 108 #[] w (fun e w' => e = .returned (.agg Rz) ∧ Keeps Nob w w') := by
  have K0 : Keeps Nob w w := Keeps.refl _ _
  refine sy_enter (part_hturns 1) ⟨#[undef, undef], []⟩ Try.func108 (by kernel_rfl) (by kernel_rfl) ?_
  refine sy_sq (part_hturns 2) (part_hturns 3) ?_
  refine sy_reg ?_
  refine rg_plain 0 (opsAt (part_hturns 2)) [0] (by kernel_rfl) (by kernel_rfl) ?_
  obtain ⟨V1, eV1, g, eg, h2, kV1⟩ := alloc_step w (zr_i64_25) 141
  have n3 : w.heap.size ≤ g := eg ▸ K0.size
  refine ps_r (o_hturns 2 0) (pT g 0) (w' := V1) (by rw [← eV1, ← eg]; exact exec_alloc0 141 (by kernel_rfl) (.agg (zr_i64_25)) (by kernel_rfl)) ?_
  clear eV1
  have K4 := K0.nn kV1
  refine ps_end ?_
  refine then_n ?_
  refine sy_sq (part_hturns 6) (part_hturns 7) ?_
  refine sy_reg ?_
  refine rg_plain 1 (opsAt (part_hturns 6)) [0, 1] (by kernel_rfl) (by kernel_rfl) ?_
  refine ps_k (o_hturns 6 0) (.agg #[.int .i64 0, .int .i64 1, .int .i64 62, .int .i64 28, .int .i64 27, .int .i64 36, .int .i64 44, .int .i64 6, .int .i64 55, .int .i64 20, .int .i64 3, .int .i64 10, .int .i64 43, .int .i64 25, .int .i64 39, .int .i64 41, .int .i64 45, .int .i64 15, .int .i64 21, .int .i64 8, .int .i64 18, .int .i64 2, .int .i64 61, .int .i64 56, .int .i64 14]) ?_
  obtain ⟨V5, eV5, kV5⟩ := rowset_step V1 g (#[.int .i64 0, .int .i64 1, .int .i64 62, .int .i64 28, .int .i64 27, .int .i64 36, .int .i64 44, .int .i64 6, .int .i64 55, .int .i64 20, .int .i64 3, .int .i64 10, .int .i64 43, .int .i64 25, .int .i64 39, .int .i64 41, .int .i64 45, .int .i64 15, .int .i64 21, .int .i64 8, .int .i64 18, .int .i64 2, .int .i64 61, .int .i64 56, .int .i64 14])
  have h6 : V5.heap[g]? = some (.cells (#[.int .i64 0, .int .i64 1, .int .i64 62, .int .i64 28, .int .i64 27, .int .i64 36, .int .i64 44, .int .i64 6, .int .i64 55, .int .i64 20, .int .i64 3, .int .i64 10, .int .i64 43, .int .i64 25, .int .i64 39, .int .i64 41, .int .i64 45, .int .i64 15, .int .i64 21, .int .i64 8, .int .i64 18, .int .i64 2, .int .i64 61, .int .i64 56, .int .i64 14]) 141 (0, 0)) := eV5 ▸ setRow_heap _ _ _ _ _ _ h2
  refine ps_s (o_hturns 6 1) (w' := V5) (by rw [← eV5]; exact exec_store_row 141 (.tmp 0) (.tmp 1) (by kernel_rfl) g (#[.int .i64 0, .int .i64 1, .int .i64 62, .int .i64 28, .int .i64 27, .int .i64 36, .int .i64 44, .int .i64 6, .int .i64 55, .int .i64 20, .int .i64 3, .int .i64 10, .int .i64 43, .int .i64 25, .int .i64 39, .int .i64 41, .int .i64 45, .int .i64 15, .int .i64 21, .int .i64 8, .int .i64 18, .int .i64 2, .int .i64 61, .int .i64 56, .int .i64 14]) (by kernel_rfl) (by kernel_rfl) 141 (zr_i64_25) h2 (by kernel_rfl) (by kernel_rfl) (by kernel_rfl)) ?_
  clear eV5
  have K7 := K4.no kV5 (by omega)
  refine ps_end ?_
  refine then_n ?_
  refine sy_ret (by kernel_rfl) ?_
  refine sy_out (.agg (#[.int .i64 0, .int .i64 1, .int .i64 62, .int .i64 28, .int .i64 27, .int .i64 36, .int .i64 44, .int .i64 6, .int .i64 55, .int .i64 20, .int .i64 3, .int .i64 10, .int .i64 43, .int .i64 25, .int .i64 39, .int .i64 41, .int .i64 45, .int .i64 15, .int .i64 21, .int .i64 8, .int .i64 18, .int .i64 2, .int .i64 61, .int .i64 56, .int .i64 14])) rfl (results_cell_row (p := 0) (ty := 141) (by kernel_rfl) _ _ g 141 (#[.int .i64 0, .int .i64 1, .int .i64 62, .int .i64 28, .int .i64 27, .int .i64 36, .int .i64 44, .int .i64 6, .int .i64 55, .int .i64 20, .int .i64 3, .int .i64 10, .int .i64 43, .int .i64 25, .int .i64 39, .int .i64 41, .int .i64 45, .int .i64 15, .int .i64 21, .int .i64 8, .int .i64 18, .int .i64 2, .int .i64 61, .int .i64 56, .int .i64 14]) (0, 0) _ (by kernel_rfl) h6 Try.underlying141 rfl (by kernel_rfl)) ?_
  exact ⟨congrArg Ending.returned (show _ = Value.agg Rz by kernel_rfl), K7⟩
noncomputable def part_hconstants (n : Nat) : Code := partOf Try.f102 n
noncomputable abbrev o_hconstants (n k : Nat) : Oper := (opsAt (part_hconstants n)).getD k default
set_option maxRecDepth 100000 in
set_option maxHeartbeats 4000000 in
theorem hconstants_ok (w : World) :
    Calls Try.prog 102 #[] w (fun e w' => e = .returned (.agg (Wz Kec.K)) ∧ Keeps Nob w w') := by
  have K0 : Keeps Nob w w := Keeps.refl _ _
  refine sy_enter (part_hconstants 1) ⟨#[undef, undef, undef, undef, undef, undef, undef, undef, undef, undef, undef, undef, undef, undef, undef, undef, undef, undef, undef, undef, undef, undef, undef, undef, undef, undef, undef, undef, undef, undef, undef, undef, undef, undef], []⟩ Try.func102 (by kernel_rfl) (by kernel_rfl) ?_
  refine sy_sq (part_hconstants 2) (part_hconstants 3) ?_
  refine sy_reg ?_
  refine rg_plain 0 (opsAt (part_hconstants 2)) [0] (by kernel_rfl) (by kernel_rfl) ?_
  obtain ⟨V1, eV1, gr, egr, h2, kV1⟩ := alloc_step w (zr_u64_24) 135
  have n3 : w.heap.size ≤ gr := egr ▸ K0.size
  refine ps_r (o_hconstants 2 0) (pT gr 0) (w' := V1) (by rw [← eV1, ← egr]; exact exec_alloc0 135 (by kernel_rfl) (.agg (zr_u64_24)) (by kernel_rfl)) ?_
  clear eV1
  have K4 := K0.nn kV1
  refine ps_end ?_
  refine then_n ?_
  refine sy_sq (part_hconstants 6) (part_hconstants 7) ?_
  refine sy_reg ?_
  refine rg_plain 1 (opsAt (part_hconstants 6)) [0] (by kernel_rfl) (by kernel_rfl) ?_
  obtain ⟨V5, eV5, go, ego, h6, kV5⟩ := alloc_step V1 (zr_u64_24) 135
  have n7 : gr < go := ego ▸ lt_of_block h2
  have n8 : w.heap.size ≤ go := ego ▸ K4.size
  refine ps_r (o_hconstants 6 0) (pT go 0) (w' := V5) (by rw [← eV5, ← ego]; exact exec_alloc0 135 (by kernel_rfl) (.agg (zr_u64_24)) (by kernel_rfl)) ?_
  clear eV5
  have h9 := kV5.bk h2
  have K10 := K4.nn kV5
  refine ps_end ?_
  refine then_n ?_
  refine sy_sq (part_hconstants 14) (part_hconstants 15) ?_
  refine sy_reg ?_
  refine rg_plain 2 (opsAt (part_hconstants 14)) [0] (by kernel_rfl) (by kernel_rfl) ?_
  refine ps_k (o_hconstants 14 0) (.int .i64 1) ?_
  refine ps_end ?_
  refine then_n ?_
  refine sy_sq (part_hconstants 30) (part_hconstants 31) ?_
  refine sy_sq (part_hconstants 60) (part_hconstants 61) ?_
  refine sy_reg ?_
  refine rg_plain 3 (opsAt (part_hconstants 60)) [0] (by kernel_rfl) (by kernel_rfl) ?_
  refine ps_k (o_hconstants 60 0) (.int .i64 0) ?_
  refine ps_end ?_
  refine then_n ?_
  refine sy_bk 0 (part_hconstants 122) ?_
  refine sy_loop (part_hconstants 244) (fun a V => ∃ (i : Nat) (r : Nat) (u4 u5 u6 u7 u8 u9 u10 u11 u12 u13 u14 u15 u16 u17 u18 u19 u20 u21 u22 u23 u24 u25 u26 u27 u28 u29 u30 u31 u32 : Value), (a = ⟨#[pT gr 0, pT go 0, iN r, iN i, u4, u5, u6, u7, u8, u9, u10, u11, u12, u13, u14, u15, u16, u17, u18, u19, u20, u21, u22, u23, u24, u25, u26, u27, u28, u29, u30, u31, u32, undef], []⟩) ∧ (i ≤ 24) ∧ (r = Kec.regn (7 * i)) ∧ (V.heap[gr]? = some (.cells (zr_u64_24) 135 (0, 0))) ∧ (V.heap[go]? = some (.cells (Wz (Kec.outn (7 * i))) 135 (0, 0))) ∧ (Keeps Nob w V)) (fun a _ => 24 - (intOf (a.tmps.getD 3 undef)).toNat) (by kernel_rfl) ?_ ?_
  · exact ⟨0, 1, undef, undef, undef, undef, undef, undef, undef, undef, undef, undef, undef, undef, undef, undef, undef, undef, undef, undef, undef, undef, undef, undef, undef, undef, undef, undef, undef, undef, undef, by kernel_rfl, by omega, rfl, h9, h6.trans (by kernel_rfl), K10⟩
  · rintro a V11 ⟨i, r, u4, u5, u6, u7, u8, u9, u10, u11, u12, u13, u14, u15, u16, u17, u18, u19, u20, u21, u22, u23, u24, u25, u26, u27, u28, u29, u30, u31, u32, rfl, hi, hr, h12, h13, K14⟩
    by_cases lt_i : i < 24
    · show _
      refine sy_sq (part_hconstants 488) (part_hconstants 489) ?_
      refine sy_sq (part_hconstants 976) (part_hconstants 977) ?_
      refine sy_reg ?_
      refine rg_plain 4 (opsAt (part_hconstants 976)) [0, 1] (by kernel_rfl) (by kernel_rfl) ?_
      refine ps_k (o_hconstants 976 0) (iN i) ?_
      refine ps_p (o_hconstants 976 1) (.bool true) (dct ((((i : Nat) : Int)) < ((24) : Int)) (by omega)) ?_
      refine ps_end ?_
      refine then_n ?_
      refine sy_ys (.tmp 6) (part_hconstants 1954) (part_hconstants 1955) ?_
      refine sy_sk ?_
      refine then_n ?_
      refine sy_sq (part_hconstants 978) (part_hconstants 979) ?_
      refine sy_bk 1 (part_hconstants 1956) ?_
      refine sy_sq (part_hconstants 3912) (part_hconstants 3913) ?_
      refine sy_reg ?_
      refine rg_plain 6 (opsAt (part_hconstants 3912)) [0] (by kernel_rfl) (by kernel_rfl) ?_
      refine ps_k (o_hconstants 3912 0) (.int .i64 0) ?_
      refine ps_end ?_
      refine then_n ?_
      refine sy_bk 2 (part_hconstants 7826) ?_
      refine sy_loop (part_hconstants 15652) (fun a V => ∃ (j : Nat) (r2 : Nat) (u9 u10 u11 u12 u13 u14 u15 u16 u17 u18 u19 u20 u21 u22 u23 u24 u25 u26 u27 u28 u29 u30 u31 u32 : Value), (a = ⟨#[pT gr 0, pT go 0, iN r2, iN i, iN j, iN i, .bool true, u7, u8, u9, u10, u11, u12, u13, u14, u15, u16, u17, u18, u19, u20, u21, u22, u23, u24, u25, u26, u27, u28, u29, u30, u31, u32, undef], []⟩) ∧ (j ≤ 7) ∧ (r2 = Kec.regn (7 * i + j)) ∧ (V.heap[gr]? = some (.cells (zr_u64_24) 135 (0, 0))) ∧ (V.heap[go]? = some (.cells (Wz (Kec.outn (7 * i + j))) 135 (0, 0))) ∧ (Keeps Nob w V)) (fun a _ => 7 - (intOf (a.tmps.getD 4 undef)).toNat) (by kernel_rfl) ?_ ?_
      · exact ⟨0, r, u9, u10, u11, u12, u13, u14, u15, u16, u17, u18, u19, u20, u21, u22, u23, u24, u25, u26, u27, u28, u29, u30, u31, u32, by kernel_rfl, by omega, hr, h12, h13, K14⟩
      · rintro a V15 ⟨j, r2, u9, u10, u11, u12, u13, u14, u15, u16, u17, u18, u19, u20, u21, u22, u23, u24, u25, u26, u27, u28, u29, u30, u31, u32, rfl, hj, hr2, h16, h17, K18⟩
        rcases (show (j < 7 ∧ r2 % 2 = 1 ∧ 255 < 2 * r2) ∨ (j < 7 ∧ r2 % 2 = 1 ∧ ¬ 255 < 2 * r2) ∨ (j < 7 ∧ ¬ r2 % 2 = 1 ∧ 255 < 2 * r2) ∨ (j < 7 ∧ ¬ r2 % 2 = 1 ∧ ¬ 255 < 2 * r2) ∨ ¬ j < 7 by omega) with ⟨lt_j, hodd, hbig⟩ | ⟨lt_j, hodd, hbig⟩ | ⟨lt_j, hodd, hbig⟩ | ⟨lt_j, hodd, hbig⟩ | ge_j
        · have hr3 : r2 < 256 := by rw [hr2]; exact Kec.regn_lt _
          have s1 := shl1 j lt_j
          obtain ⟨_, s2, s3⟩ := s1
          refine sy_sq (part_hconstants 31304) (part_hconstants 31305) ?_
          refine sy_sq (part_hconstants 62608) (part_hconstants 62609) ?_
          refine sy_reg ?_
          refine rg_plain 7 (opsAt (part_hconstants 62608)) [0, 1] (by kernel_rfl) (by kernel_rfl) ?_
          refine ps_k (o_hconstants 62608 0) (iN j) ?_
          refine ps_p (o_hconstants 62608 1) (.bool true) (dct ((((j : Nat) : Int)) < ((7) : Int)) (by omega)) ?_
          refine ps_end ?_
          refine then_n ?_
          refine sy_ys (.tmp 10) (part_hconstants 125218) (part_hconstants 125219) ?_
          refine sy_sk ?_
          refine then_n ?_
          refine sy_sq (part_hconstants 62610) (part_hconstants 62611) ?_
          refine sy_bk 3 (part_hconstants 125220) ?_
          refine sy_sq (part_hconstants 250440) (part_hconstants 250441) ?_
          refine sy_sq (part_hconstants 500880) (part_hconstants 500881) ?_
          refine sy_reg ?_
          refine rg_plain 9 (opsAt (part_hconstants 500880)) [0, 1, 2] (by kernel_rfl) (by kernel_rfl) ?_
          refine ps_k (o_hconstants 500880 0) (iN r2) ?_
          refine ps_k (o_hconstants 500880 1) (iN (r2 % 2)) ?_
          refine ps_p (o_hconstants 500880 2) (.bool true) (eqt (((r2 % 2 : Nat) : Int)) ((1) : Int) (by omega)) ?_
          refine ps_end ?_
          refine then_n ?_
          refine sy_ys (.tmp 15) (part_hconstants 1001762) (part_hconstants 1001763) ?_
          refine sy_reg ?_
          refine rg_still 10 10 (opsAt (part_hconstants 1001762)) [o_hconstants 1001762 0, o_hconstants 1001762 1, o_hconstants 1001762 2, o_hconstants 1001762 3, o_hconstants 1001762 4, o_hconstants 1001762 5, o_hconstants 1001762 6, o_hconstants 1001762 7, o_hconstants 1001762 8, o_hconstants 1001762 9] [o_hconstants 1001762 10] (by kernel_rfl) (by kernel_rfl) (by kernel_rfl) (by kernel_rfl) (by kernel_rfl) ?_
          obtain ⟨V20, eV20, kV20⟩ := drew_step V15
          rw [eV20]
          clear eV20
          have h21 := kV20.bk h16
          have h22 := kV20.bk h17
          have K23 := K18.nn kV20
          refine st_k (o_hconstants 1001762 0) (iN i) ?_
          refine st_k (o_hconstants 1001762 1) (iN i) ?_
          refine st_p (o_hconstants 1001762 2) (pT go i) (exec_cast (v := pT go (0 + i * 1)) (by simp) (exec_indexAt_arr 135 (.tmp 1) (.tmp 17) (by kernel_rfl) go 0 (by kernel_rfl) .i64 i (by kernel_rfl) _ _ 1 Try.underlying135 (by kernel_rfl) (by omega))) ?_
          refine st_p (o_hconstants 1001762 3) (uN (Kec.g (Kec.outn (7 * i + j)) i)) (exec_ld 27 (.tmp 18) go i Try.underlying27 (rc (h22) (Wz_get _ i (by rw [Kec.outn_len]; omega)))) ?_
          refine st_k (o_hconstants 1001762 4) (iN j) ?_
          refine st_p (o_hconstants 1001762 5) (uN (1 <<< j)) (exec_cast (congrArg (fun n : Nat => Value.int .u64 (n : Int)) (shl1 j (by omega)).1) (exec_binop .shl 125 3 (.const (.int .u64 1)) (.tmp 20) (by kernel_rfl) (uN 1) (iN j) _ (by kernel_rfl) (by kernel_rfl) (by kernel_rfl) (run_shlU _ _ 1 j (by omega)))) ?_
          refine st_p (o_hconstants 1001762 6) (uN (1 <<< j - 1)) (exec_cast (v := .int .u64 (IntKind.u64.wrap (((1 <<< j : Nat) : Int) - 1))) (congrArg (Value.int .u64) (by rw [show ((1 <<< j : Nat) : Int) - (1 : Int) = ((1 <<< j - 1 : Nat) : Int) by omega]; exact wrapU _ (by omega))) (by kernel_rfl)) ?_
          refine st_p (o_hconstants 1001762 7) (uN ((1 <<< (1 <<< j - 1)) % Kec.W)) (exec_binop .shl 27 125 (.const (.int .u64 1)) (.tmp 22) (by kernel_rfl) (uN 1) (uN (1 <<< j - 1)) _ (by kernel_rfl) (by kernel_rfl) (by kernel_rfl) (run_shlU _ _ 1 _ (by omega))) ?_
          refine st_p (o_hconstants 1001762 8) (uN ((Kec.g (Kec.outn (7 * i + j)) i) ||| ((1 <<< (1 <<< j - 1)) % Kec.W))) (exec_cast (orU (Kec.g (Kec.outn (7 * i + j)) i) ((1 <<< (1 <<< j - 1)) % Kec.W) (Kec.ws_outn _ _) (Nat.mod_lt _ Kec.W_pos)) (by kernel_rfl)) ?_
          refine st_p (o_hconstants 1001762 9) (pT go i) (exec_cast (v := pT go (0 + i * 1)) (by simp) (exec_indexAt_arr 135 (.tmp 1) (.tmp 16) (by kernel_rfl) go 0 (by kernel_rfl) .i64 i (by kernel_rfl) _ _ 1 Try.underlying135 (by kernel_rfl) (by omega))) ?_
          refine st_end ?_
          obtain ⟨V24, eV24, kV24⟩ := cell_step V20 go i (.int .u64 (((Kec.g (Kec.outn (7 * i + j)) i) ||| ((1 <<< (1 <<< j - 1)) % Kec.W) : Nat) : Int))
          have h25 : V24.heap[go]? = some (.cells (Wz (Kec.outn (7 * i + (j + 1)))) 135 (0, 0)) := eV24 ▸ ((heap_setCell_same _ go i _ _ (.int .u64 (((Kec.g (Kec.outn (7 * i + j)) i) ||| ((1 <<< (1 <<< j - 1)) % Kec.W) : Nat) : Int)) h22).trans (congrArg (fun c => some (Obj.cells c 135 (0, 0))) (show (Wz (Kec.outn (7 * i + j)) : Array Value).setIfInBounds i (.int .u64 (((Kec.g (Kec.outn (7 * i + j)) i) ||| ((1 <<< (1 <<< j - 1)) % Kec.W) : Nat) : Int)) = Wz (Kec.outn (7 * i + (j + 1))) from by rw [Wz_set]; exact congrArg Wz (outn_odd i j r2 lt_j hr2 hodd))))
          refine ls_skip (o_hconstants 1001762 10) (w' := V24) (by kernel_rfl) (by rw [← eV24]; exact exec_store_cell 27 (.tmp 25) (.tmp 24) (by kernel_rfl) go i (by kernel_rfl) (.int .u64 (((Kec.g (Kec.outn (7 * i + j)) i) ||| ((1 <<< (1 <<< j - 1)) % Kec.W) : Nat) : Int)) (by kernel_rfl) (by kernel_rfl) (by kernel_rfl) (.int .u64 ((Kec.g (Kec.outn (7 * i + j)) i : Nat) : Int)) (rc (h22) (Wz_get _ i (by rw [Kec.outn_len]; omega))) (frozen_of_row _ _ _ _ _ h22) (by kernel_rfl)) ?_
          clear eV24
          have h26 := kV24.bo h21 (by omega)
          have K27 := K23.no kV24 (by omega)
          refine ls_end ?_
          refine then_n ?_
          refine sy_sq (part_hconstants 500882) (part_hconstants 500883) ?_
          refine sy_reg ?_
          refine rg_plain 11 (opsAt (part_hconstants 500882)) [0, 1, 2] (by kernel_rfl) (by kernel_rfl) ?_
          refine ps_k (o_hconstants 500882 0) (iN r2) ?_
          refine ps_p (o_hconstants 500882 1) (iN (2 * r2)) (exec_cast (congrArg (Value.int .i64) (wrapN (2 * r2) (by omega))) (by kernel_rfl)) ?_
          refine ps_k (o_hconstants 500882 2) (iN (2 * r2)) ?_
          refine ps_end ?_
          refine then_n ?_
          refine sy_sq (part_hconstants 1001766) (part_hconstants 1001767) ?_
          refine sy_reg ?_
          refine rg_plain 12 (opsAt (part_hconstants 1001766)) [0, 1] (by kernel_rfl) (by kernel_rfl) ?_
          refine ps_k (o_hconstants 1001766 0) (iN (2 * r2)) ?_
          refine ps_p (o_hconstants 1001766 1) (.bool true) (dct ((((2 * r2 : Nat) : Int)) > ((255) : Int)) (by omega)) ?_
          refine ps_end ?_
          refine then_n ?_
          refine sy_ys (.tmp 29) (part_hconstants 2003534) (part_hconstants 2003535) ?_
          refine sy_reg ?_
          refine rg_plain 13 (opsAt (part_hconstants 2003534)) [0, 1, 2, 3] (by kernel_rfl) (by kernel_rfl) ?_
          refine ps_k (o_hconstants 2003534 0) (iN (2 * r2)) ?_
          refine ps_k (o_hconstants 2003534 1) (iN ((2 * r2) % 256)) ?_
          refine ps_p (o_hconstants 2003534 2) (iN (2 * r2 % 256 ^^^ 113)) (exec_cast (xor113 (2 * r2 % 256) (by omega)) (by kernel_rfl)) ?_
          refine ps_k (o_hconstants 2003534 3) (iN (2 * r2 % 256 ^^^ 113)) ?_
          refine ps_end ?_
          refine sy_a ⟨#[pT gr 0, pT go 0, iN (2 * r2 % 256 ^^^ 113), iN i, iN j, iN i, .bool true, u7, u8, iN j, .bool true, u11, u12, iN r2, iN (r2 % 2), .bool true, iN i, iN i, pT go i, uN (Kec.g (Kec.outn (7 * i + j)) i), iN j, uN (1 <<< j), uN (1 <<< j - 1), uN ((1 <<< (1 <<< j - 1)) % Kec.W), uN ((Kec.g (Kec.outn (7 * i + j)) i) ||| ((1 <<< (1 <<< j - 1)) % Kec.W)), pT go i, iN r2, iN (2 * r2), iN (2 * r2), .bool true, iN (2 * r2), iN ((2 * r2) % 256), iN (2 * r2 % 256 ^^^ 113), undef], []⟩ ?_
          refine blk_n ?_
          refine then_n ?_
          refine sy_reg ?_
          refine rg_plain 8 (opsAt (part_hconstants 62611)) [0, 1, 2] (by kernel_rfl) (by kernel_rfl) ?_
          refine ps_k (o_hconstants 62611 0) (iN j) ?_
          refine ps_p (o_hconstants 62611 1) (iN (j + 1)) (exec_cast (congrArg (Value.int .i64) (wrapN (j + 1) (by omega))) (by kernel_rfl)) ?_
          refine ps_k (o_hconstants 62611 2) (iN (j + 1)) ?_
          refine ps_end ?_
          refine then_n ?_
          refine ⟨⟨j + 1, 2 * r2 % 256 ^^^ 113, (iN j), (.bool true), (iN j), (iN (j + 1)), (iN r2), (iN (r2 % 2)), (.bool true), (iN i), (iN i), (pT go i), (uN (Kec.g (Kec.outn (7 * i + j)) i)), (iN j), (uN (1 <<< j)), (uN (1 <<< j - 1)), (uN ((1 <<< (1 <<< j - 1)) % Kec.W)), (uN ((Kec.g (Kec.outn (7 * i + j)) i) ||| ((1 <<< (1 <<< j - 1)) % Kec.W))), (pT go i), (iN r2), (iN (2 * r2)), (iN (2 * r2)), (.bool true), (iN (2 * r2)), (iN ((2 * r2) % 256)), (iN (2 * r2 % 256 ^^^ 113)), by kernel_rfl, by omega, (by first | exact regn_big _ _ hr2 hbig | exact regn_small _ _ hr2 hbig), h26, h25, K27⟩, ?_⟩
          exact lt_meas (x := 7 - (j + 1)) (y := 7 - j) (by kernel_rfl) (by kernel_rfl) (by omega)
        · have hr3 : r2 < 256 := by rw [hr2]; exact Kec.regn_lt _
          have s1 := shl1 j lt_j
          obtain ⟨_, s2, s3⟩ := s1
          refine sy_sq (part_hconstants 31304) (part_hconstants 31305) ?_
          refine sy_sq (part_hconstants 62608) (part_hconstants 62609) ?_
          refine sy_reg ?_
          refine rg_plain 7 (opsAt (part_hconstants 62608)) [0, 1] (by kernel_rfl) (by kernel_rfl) ?_
          refine ps_k (o_hconstants 62608 0) (iN j) ?_
          refine ps_p (o_hconstants 62608 1) (.bool true) (dct ((((j : Nat) : Int)) < ((7) : Int)) (by omega)) ?_
          refine ps_end ?_
          refine then_n ?_
          refine sy_ys (.tmp 10) (part_hconstants 125218) (part_hconstants 125219) ?_
          refine sy_sk ?_
          refine then_n ?_
          refine sy_sq (part_hconstants 62610) (part_hconstants 62611) ?_
          refine sy_bk 3 (part_hconstants 125220) ?_
          refine sy_sq (part_hconstants 250440) (part_hconstants 250441) ?_
          refine sy_sq (part_hconstants 500880) (part_hconstants 500881) ?_
          refine sy_reg ?_
          refine rg_plain 9 (opsAt (part_hconstants 500880)) [0, 1, 2] (by kernel_rfl) (by kernel_rfl) ?_
          refine ps_k (o_hconstants 500880 0) (iN r2) ?_
          refine ps_k (o_hconstants 500880 1) (iN (r2 % 2)) ?_
          refine ps_p (o_hconstants 500880 2) (.bool true) (eqt (((r2 % 2 : Nat) : Int)) ((1) : Int) (by omega)) ?_
          refine ps_end ?_
          refine then_n ?_
          refine sy_ys (.tmp 15) (part_hconstants 1001762) (part_hconstants 1001763) ?_
          refine sy_reg ?_
          refine rg_still 10 10 (opsAt (part_hconstants 1001762)) [o_hconstants 1001762 0, o_hconstants 1001762 1, o_hconstants 1001762 2, o_hconstants 1001762 3, o_hconstants 1001762 4, o_hconstants 1001762 5, o_hconstants 1001762 6, o_hconstants 1001762 7, o_hconstants 1001762 8, o_hconstants 1001762 9] [o_hconstants 1001762 10] (by kernel_rfl) (by kernel_rfl) (by kernel_rfl) (by kernel_rfl) (by kernel_rfl) ?_
          obtain ⟨V29, eV29, kV29⟩ := drew_step V15
          rw [eV29]
          clear eV29
          have h30 := kV29.bk h16
          have h31 := kV29.bk h17
          have K32 := K18.nn kV29
          refine st_k (o_hconstants 1001762 0) (iN i) ?_
          refine st_k (o_hconstants 1001762 1) (iN i) ?_
          refine st_p (o_hconstants 1001762 2) (pT go i) (exec_cast (v := pT go (0 + i * 1)) (by simp) (exec_indexAt_arr 135 (.tmp 1) (.tmp 17) (by kernel_rfl) go 0 (by kernel_rfl) .i64 i (by kernel_rfl) _ _ 1 Try.underlying135 (by kernel_rfl) (by omega))) ?_
          refine st_p (o_hconstants 1001762 3) (uN (Kec.g (Kec.outn (7 * i + j)) i)) (exec_ld 27 (.tmp 18) go i Try.underlying27 (rc (h31) (Wz_get _ i (by rw [Kec.outn_len]; omega)))) ?_
          refine st_k (o_hconstants 1001762 4) (iN j) ?_
          refine st_p (o_hconstants 1001762 5) (uN (1 <<< j)) (exec_cast (congrArg (fun n : Nat => Value.int .u64 (n : Int)) (shl1 j (by omega)).1) (exec_binop .shl 125 3 (.const (.int .u64 1)) (.tmp 20) (by kernel_rfl) (uN 1) (iN j) _ (by kernel_rfl) (by kernel_rfl) (by kernel_rfl) (run_shlU _ _ 1 j (by omega)))) ?_
          refine st_p (o_hconstants 1001762 6) (uN (1 <<< j - 1)) (exec_cast (v := .int .u64 (IntKind.u64.wrap (((1 <<< j : Nat) : Int) - 1))) (congrArg (Value.int .u64) (by rw [show ((1 <<< j : Nat) : Int) - (1 : Int) = ((1 <<< j - 1 : Nat) : Int) by omega]; exact wrapU _ (by omega))) (by kernel_rfl)) ?_
          refine st_p (o_hconstants 1001762 7) (uN ((1 <<< (1 <<< j - 1)) % Kec.W)) (exec_binop .shl 27 125 (.const (.int .u64 1)) (.tmp 22) (by kernel_rfl) (uN 1) (uN (1 <<< j - 1)) _ (by kernel_rfl) (by kernel_rfl) (by kernel_rfl) (run_shlU _ _ 1 _ (by omega))) ?_
          refine st_p (o_hconstants 1001762 8) (uN ((Kec.g (Kec.outn (7 * i + j)) i) ||| ((1 <<< (1 <<< j - 1)) % Kec.W))) (exec_cast (orU (Kec.g (Kec.outn (7 * i + j)) i) ((1 <<< (1 <<< j - 1)) % Kec.W) (Kec.ws_outn _ _) (Nat.mod_lt _ Kec.W_pos)) (by kernel_rfl)) ?_
          refine st_p (o_hconstants 1001762 9) (pT go i) (exec_cast (v := pT go (0 + i * 1)) (by simp) (exec_indexAt_arr 135 (.tmp 1) (.tmp 16) (by kernel_rfl) go 0 (by kernel_rfl) .i64 i (by kernel_rfl) _ _ 1 Try.underlying135 (by kernel_rfl) (by omega))) ?_
          refine st_end ?_
          obtain ⟨V33, eV33, kV33⟩ := cell_step V29 go i (.int .u64 (((Kec.g (Kec.outn (7 * i + j)) i) ||| ((1 <<< (1 <<< j - 1)) % Kec.W) : Nat) : Int))
          have h34 : V33.heap[go]? = some (.cells (Wz (Kec.outn (7 * i + (j + 1)))) 135 (0, 0)) := eV33 ▸ ((heap_setCell_same _ go i _ _ (.int .u64 (((Kec.g (Kec.outn (7 * i + j)) i) ||| ((1 <<< (1 <<< j - 1)) % Kec.W) : Nat) : Int)) h31).trans (congrArg (fun c => some (Obj.cells c 135 (0, 0))) (show (Wz (Kec.outn (7 * i + j)) : Array Value).setIfInBounds i (.int .u64 (((Kec.g (Kec.outn (7 * i + j)) i) ||| ((1 <<< (1 <<< j - 1)) % Kec.W) : Nat) : Int)) = Wz (Kec.outn (7 * i + (j + 1))) from by rw [Wz_set]; exact congrArg Wz (outn_odd i j r2 lt_j hr2 hodd))))
          refine ls_skip (o_hconstants 1001762 10) (w' := V33) (by kernel_rfl) (by rw [← eV33]; exact exec_store_cell 27 (.tmp 25) (.tmp 24) (by kernel_rfl) go i (by kernel_rfl) (.int .u64 (((Kec.g (Kec.outn (7 * i + j)) i) ||| ((1 <<< (1 <<< j - 1)) % Kec.W) : Nat) : Int)) (by kernel_rfl) (by kernel_rfl) (by kernel_rfl) (.int .u64 ((Kec.g (Kec.outn (7 * i + j)) i : Nat) : Int)) (rc (h31) (Wz_get _ i (by rw [Kec.outn_len]; omega))) (frozen_of_row _ _ _ _ _ h31) (by kernel_rfl)) ?_
          clear eV33
          have h35 := kV33.bo h30 (by omega)
          have K36 := K32.no kV33 (by omega)
          refine ls_end ?_
          refine then_n ?_
          refine sy_sq (part_hconstants 500882) (part_hconstants 500883) ?_
          refine sy_reg ?_
          refine rg_plain 11 (opsAt (part_hconstants 500882)) [0, 1, 2] (by kernel_rfl) (by kernel_rfl) ?_
          refine ps_k (o_hconstants 500882 0) (iN r2) ?_
          refine ps_p (o_hconstants 500882 1) (iN (2 * r2)) (exec_cast (congrArg (Value.int .i64) (wrapN (2 * r2) (by omega))) (by kernel_rfl)) ?_
          refine ps_k (o_hconstants 500882 2) (iN (2 * r2)) ?_
          refine ps_end ?_
          refine then_n ?_
          refine sy_sq (part_hconstants 1001766) (part_hconstants 1001767) ?_
          refine sy_reg ?_
          refine rg_plain 12 (opsAt (part_hconstants 1001766)) [0, 1] (by kernel_rfl) (by kernel_rfl) ?_
          refine ps_k (o_hconstants 1001766 0) (iN (2 * r2)) ?_
          refine ps_p (o_hconstants 1001766 1) (.bool false) (dcf ((((2 * r2 : Nat) : Int)) > ((255) : Int)) (by omega)) ?_
          refine ps_end ?_
          refine then_n ?_
          refine sy_n (.tmp 29) (part_hconstants 2003534) (part_hconstants 2003535) ?_
          refine sy_sk ?_
          refine blk_n ?_
          refine then_n ?_
          refine sy_reg ?_
          refine rg_plain 8 (opsAt (part_hconstants 62611)) [0, 1, 2] (by kernel_rfl) (by kernel_rfl) ?_
          refine ps_k (o_hconstants 62611 0) (iN j) ?_
          refine ps_p (o_hconstants 62611 1) (iN (j + 1)) (exec_cast (congrArg (Value.int .i64) (wrapN (j + 1) (by omega))) (by kernel_rfl)) ?_
          refine ps_k (o_hconstants 62611 2) (iN (j + 1)) ?_
          refine ps_end ?_
          refine sy_a ⟨#[pT gr 0, pT go 0, iN (2 * r2), iN i, iN (j + 1), iN i, .bool true, u7, u8, iN j, .bool true, iN j, iN (j + 1), iN r2, iN (r2 % 2), .bool true, iN i, iN i, pT go i, uN (Kec.g (Kec.outn (7 * i + j)) i), iN j, uN (1 <<< j), uN (1 <<< j - 1), uN ((1 <<< (1 <<< j - 1)) % Kec.W), uN ((Kec.g (Kec.outn (7 * i + j)) i) ||| ((1 <<< (1 <<< j - 1)) % Kec.W)), pT go i, iN r2, iN (2 * r2), iN (2 * r2), .bool false, u30, u31, u32, undef], []⟩ ?_
          refine then_n ?_
          refine ⟨⟨j + 1, 2 * r2, (iN j), (.bool true), (iN j), (iN (j + 1)), (iN r2), (iN (r2 % 2)), (.bool true), (iN i), (iN i), (pT go i), (uN (Kec.g (Kec.outn (7 * i + j)) i)), (iN j), (uN (1 <<< j)), (uN (1 <<< j - 1)), (uN ((1 <<< (1 <<< j - 1)) % Kec.W)), (uN ((Kec.g (Kec.outn (7 * i + j)) i) ||| ((1 <<< (1 <<< j - 1)) % Kec.W))), (pT go i), (iN r2), (iN (2 * r2)), (iN (2 * r2)), (.bool false), u30, u31, u32, by kernel_rfl, by omega, (by first | exact regn_big _ _ hr2 hbig | exact regn_small _ _ hr2 hbig), h35, h34, K36⟩, ?_⟩
          exact lt_meas (x := 7 - (j + 1)) (y := 7 - j) (by kernel_rfl) (by kernel_rfl) (by omega)
        · have hr3 : r2 < 256 := by rw [hr2]; exact Kec.regn_lt _
          have s1 := shl1 j lt_j
          obtain ⟨_, s2, s3⟩ := s1
          refine sy_sq (part_hconstants 31304) (part_hconstants 31305) ?_
          refine sy_sq (part_hconstants 62608) (part_hconstants 62609) ?_
          refine sy_reg ?_
          refine rg_plain 7 (opsAt (part_hconstants 62608)) [0, 1] (by kernel_rfl) (by kernel_rfl) ?_
          refine ps_k (o_hconstants 62608 0) (iN j) ?_
          refine ps_p (o_hconstants 62608 1) (.bool true) (dct ((((j : Nat) : Int)) < ((7) : Int)) (by omega)) ?_
          refine ps_end ?_
          refine then_n ?_
          refine sy_ys (.tmp 10) (part_hconstants 125218) (part_hconstants 125219) ?_
          refine sy_sk ?_
          refine then_n ?_
          refine sy_sq (part_hconstants 62610) (part_hconstants 62611) ?_
          refine sy_bk 3 (part_hconstants 125220) ?_
          refine sy_sq (part_hconstants 250440) (part_hconstants 250441) ?_
          refine sy_sq (part_hconstants 500880) (part_hconstants 500881) ?_
          refine sy_reg ?_
          refine rg_plain 9 (opsAt (part_hconstants 500880)) [0, 1, 2] (by kernel_rfl) (by kernel_rfl) ?_
          refine ps_k (o_hconstants 500880 0) (iN r2) ?_
          refine ps_k (o_hconstants 500880 1) (iN (r2 % 2)) ?_
          refine ps_p (o_hconstants 500880 2) (.bool false) (eqf (((r2 % 2 : Nat) : Int)) ((1) : Int) (by omega)) ?_
          refine ps_end ?_
          refine then_n ?_
          refine sy_n (.tmp 15) (part_hconstants 1001762) (part_hconstants 1001763) ?_
          refine sy_sk ?_
          refine then_n ?_
          refine sy_sq (part_hconstants 500882) (part_hconstants 500883) ?_
          refine sy_reg ?_
          refine rg_plain 11 (opsAt (part_hconstants 500882)) [0, 1, 2] (by kernel_rfl) (by kernel_rfl) ?_
          refine ps_k (o_hconstants 500882 0) (iN r2) ?_
          refine ps_p (o_hconstants 500882 1) (iN (2 * r2)) (exec_cast (congrArg (Value.int .i64) (wrapN (2 * r2) (by omega))) (by kernel_rfl)) ?_
          refine ps_k (o_hconstants 500882 2) (iN (2 * r2)) ?_
          refine ps_end ?_
          refine then_n ?_
          refine sy_sq (part_hconstants 1001766) (part_hconstants 1001767) ?_
          refine sy_reg ?_
          refine rg_plain 12 (opsAt (part_hconstants 1001766)) [0, 1] (by kernel_rfl) (by kernel_rfl) ?_
          refine ps_k (o_hconstants 1001766 0) (iN (2 * r2)) ?_
          refine ps_p (o_hconstants 1001766 1) (.bool true) (dct ((((2 * r2 : Nat) : Int)) > ((255) : Int)) (by omega)) ?_
          refine ps_end ?_
          refine then_n ?_
          refine sy_ys (.tmp 29) (part_hconstants 2003534) (part_hconstants 2003535) ?_
          refine sy_reg ?_
          refine rg_plain 13 (opsAt (part_hconstants 2003534)) [0, 1, 2, 3] (by kernel_rfl) (by kernel_rfl) ?_
          refine ps_k (o_hconstants 2003534 0) (iN (2 * r2)) ?_
          refine ps_k (o_hconstants 2003534 1) (iN ((2 * r2) % 256)) ?_
          refine ps_p (o_hconstants 2003534 2) (iN (2 * r2 % 256 ^^^ 113)) (exec_cast (xor113 (2 * r2 % 256) (by omega)) (by kernel_rfl)) ?_
          refine ps_k (o_hconstants 2003534 3) (iN (2 * r2 % 256 ^^^ 113)) ?_
          refine ps_end ?_
          refine blk_n ?_
          refine then_n ?_
          refine sy_reg ?_
          refine rg_plain 8 (opsAt (part_hconstants 62611)) [0, 1, 2] (by kernel_rfl) (by kernel_rfl) ?_
          refine ps_k (o_hconstants 62611 0) (iN j) ?_
          refine ps_p (o_hconstants 62611 1) (iN (j + 1)) (exec_cast (congrArg (Value.int .i64) (wrapN (j + 1) (by omega))) (by kernel_rfl)) ?_
          refine ps_k (o_hconstants 62611 2) (iN (j + 1)) ?_
          refine ps_end ?_
          refine then_n ?_
          refine ⟨⟨j + 1, 2 * r2 % 256 ^^^ 113, (iN j), (.bool true), (iN j), (iN (j + 1)), (iN r2), (iN (r2 % 2)), (.bool false), u16, u17, u18, u19, u20, u21, u22, u23, u24, u25, (iN r2), (iN (2 * r2)), (iN (2 * r2)), (.bool true), (iN (2 * r2)), (iN ((2 * r2) % 256)), (iN (2 * r2 % 256 ^^^ 113)), by kernel_rfl, by omega, (by first | exact regn_big _ _ hr2 hbig | exact regn_small _ _ hr2 hbig), h16, h17.trans (by rw [outn_even i j r2 lt_i lt_j hr2 hodd]), K18⟩, ?_⟩
          exact lt_meas (x := 7 - (j + 1)) (y := 7 - j) (by kernel_rfl) (by kernel_rfl) (by omega)
        · have hr3 : r2 < 256 := by rw [hr2]; exact Kec.regn_lt _
          have s1 := shl1 j lt_j
          obtain ⟨_, s2, s3⟩ := s1
          refine sy_sq (part_hconstants 31304) (part_hconstants 31305) ?_
          refine sy_sq (part_hconstants 62608) (part_hconstants 62609) ?_
          refine sy_reg ?_
          refine rg_plain 7 (opsAt (part_hconstants 62608)) [0, 1] (by kernel_rfl) (by kernel_rfl) ?_
          refine ps_k (o_hconstants 62608 0) (iN j) ?_
          refine ps_p (o_hconstants 62608 1) (.bool true) (dct ((((j : Nat) : Int)) < ((7) : Int)) (by omega)) ?_
          refine ps_end ?_
          refine then_n ?_
          refine sy_ys (.tmp 10) (part_hconstants 125218) (part_hconstants 125219) ?_
          refine sy_sk ?_
          refine then_n ?_
          refine sy_sq (part_hconstants 62610) (part_hconstants 62611) ?_
          refine sy_bk 3 (part_hconstants 125220) ?_
          refine sy_sq (part_hconstants 250440) (part_hconstants 250441) ?_
          refine sy_sq (part_hconstants 500880) (part_hconstants 500881) ?_
          refine sy_reg ?_
          refine rg_plain 9 (opsAt (part_hconstants 500880)) [0, 1, 2] (by kernel_rfl) (by kernel_rfl) ?_
          refine ps_k (o_hconstants 500880 0) (iN r2) ?_
          refine ps_k (o_hconstants 500880 1) (iN (r2 % 2)) ?_
          refine ps_p (o_hconstants 500880 2) (.bool false) (eqf (((r2 % 2 : Nat) : Int)) ((1) : Int) (by omega)) ?_
          refine ps_end ?_
          refine then_n ?_
          refine sy_n (.tmp 15) (part_hconstants 1001762) (part_hconstants 1001763) ?_
          refine sy_sk ?_
          refine then_n ?_
          refine sy_sq (part_hconstants 500882) (part_hconstants 500883) ?_
          refine sy_reg ?_
          refine rg_plain 11 (opsAt (part_hconstants 500882)) [0, 1, 2] (by kernel_rfl) (by kernel_rfl) ?_
          refine ps_k (o_hconstants 500882 0) (iN r2) ?_
          refine ps_p (o_hconstants 500882 1) (iN (2 * r2)) (exec_cast (congrArg (Value.int .i64) (wrapN (2 * r2) (by omega))) (by kernel_rfl)) ?_
          refine ps_k (o_hconstants 500882 2) (iN (2 * r2)) ?_
          refine ps_end ?_
          refine then_n ?_
          refine sy_sq (part_hconstants 1001766) (part_hconstants 1001767) ?_
          refine sy_reg ?_
          refine rg_plain 12 (opsAt (part_hconstants 1001766)) [0, 1] (by kernel_rfl) (by kernel_rfl) ?_
          refine ps_k (o_hconstants 1001766 0) (iN (2 * r2)) ?_
          refine ps_p (o_hconstants 1001766 1) (.bool false) (dcf ((((2 * r2 : Nat) : Int)) > ((255) : Int)) (by omega)) ?_
          refine ps_end ?_
          refine then_n ?_
          refine sy_n (.tmp 29) (part_hconstants 2003534) (part_hconstants 2003535) ?_
          refine sy_sk ?_
          refine blk_n ?_
          refine then_n ?_
          refine sy_reg ?_
          refine rg_plain 8 (opsAt (part_hconstants 62611)) [0, 1, 2] (by kernel_rfl) (by kernel_rfl) ?_
          refine ps_k (o_hconstants 62611 0) (iN j) ?_
          refine ps_p (o_hconstants 62611 1) (iN (j + 1)) (exec_cast (congrArg (Value.int .i64) (wrapN (j + 1) (by omega))) (by kernel_rfl)) ?_
          refine ps_k (o_hconstants 62611 2) (iN (j + 1)) ?_
          refine ps_end ?_
          refine then_n ?_
          refine ⟨⟨j + 1, 2 * r2, (iN j), (.bool true), (iN j), (iN (j + 1)), (iN r2), (iN (r2 % 2)), (.bool false), u16, u17, u18, u19, u20, u21, u22, u23, u24, u25, (iN r2), (iN (2 * r2)), (iN (2 * r2)), (.bool false), u30, u31, u32, by kernel_rfl, by omega, (by first | exact regn_big _ _ hr2 hbig | exact regn_small _ _ hr2 hbig), h16, h17.trans (by rw [outn_even i j r2 lt_i lt_j hr2 hodd]), K18⟩, ?_⟩
          exact lt_meas (x := 7 - (j + 1)) (y := 7 - j) (by kernel_rfl) (by kernel_rfl) (by omega)
        · have eq_j : j = 7 := by omega
          refine sy_sq (part_hconstants 31304) (part_hconstants 31305) ?_
          refine sy_sq (part_hconstants 62608) (part_hconstants 62609) ?_
          refine sy_reg ?_
          refine rg_plain 7 (opsAt (part_hconstants 62608)) [0, 1] (by kernel_rfl) (by kernel_rfl) ?_
          refine ps_k (o_hconstants 62608 0) (iN j) ?_
          refine ps_p (o_hconstants 62608 1) (.bool false) (dcf ((((j : Nat) : Int)) < ((7) : Int)) (by omega)) ?_
          refine ps_end ?_
          refine then_n ?_
          refine sy_n (.tmp 10) (part_hconstants 125218) (part_hconstants 125219) ?_
          refine sy_exit 2 (by kernel_rfl) ?_
          refine then_e ?_
          refine then_e ?_
          refine blk_e ?_
          refine blk_n ?_
          refine then_n ?_
          refine sy_reg ?_
          refine rg_plain 5 (opsAt (part_hconstants 979)) [0, 1, 2] (by kernel_rfl) (by kernel_rfl) ?_
          refine ps_k (o_hconstants 979 0) (iN i) ?_
          refine ps_p (o_hconstants 979 1) (iN (i + 1)) (exec_cast (congrArg (Value.int .i64) (wrapN (i + 1) (by omega))) (by kernel_rfl)) ?_
          refine ps_k (o_hconstants 979 2) (iN (i + 1)) ?_
          refine ps_end ?_
          refine then_n ?_
          refine ⟨⟨i + 1, r2, (iN j), (iN i), (.bool true), (iN i), (iN (i + 1)), (iN j), (.bool false), u11, u12, u13, u14, u15, u16, u17, u18, u19, u20, u21, u22, u23, u24, u25, u26, u27, u28, u29, u30, u31, u32, by kernel_rfl, by omega, hr2.trans (congrArg Kec.regn (by omega)), h16, h17.trans (congrArg (fun n => some (Obj.cells (Wz (Kec.outn n)) 135 (0, 0))) (by omega)), K18⟩, ?_⟩
          exact lt_meas (x := 24 - (i + 1)) (y := 24 - i) (by kernel_rfl) (by kernel_rfl) (by omega)
    · have eq_i : i = 24 := by omega
      have h37 : V11.heap[go]? = some (.cells (Wz Kec.K) 135 (0, 0)) := (h13.trans (congrArg (fun n => some (Obj.cells (Wz (Kec.outn n)) 135 (0, 0))) (show 7 * i = 168 by omega))).trans (congrArg (fun l => some (Obj.cells (Wz l) 135 (0, 0))) Kec.outn_K)
      refine sy_sq (part_hconstants 488) (part_hconstants 489) ?_
      refine sy_sq (part_hconstants 976) (part_hconstants 977) ?_
      refine sy_reg ?_
      refine rg_plain 4 (opsAt (part_hconstants 976)) [0, 1] (by kernel_rfl) (by kernel_rfl) ?_
      refine ps_k (o_hconstants 976 0) (iN i) ?_
      refine ps_p (o_hconstants 976 1) (.bool false) (dcf ((((i : Nat) : Int)) < ((24) : Int)) (by omega)) ?_
      refine ps_end ?_
      refine then_n ?_
      refine sy_n (.tmp 6) (part_hconstants 1954) (part_hconstants 1955) ?_
      refine sy_exit 0 (by kernel_rfl) ?_
      refine then_e ?_
      refine then_e ?_
      refine blk_e ?_
      refine then_n ?_
      refine sy_sq (part_hconstants 62) (part_hconstants 63) ?_
      refine sy_reg ?_
      refine rg_plain 14 (opsAt (part_hconstants 62)) [0, 1] (by kernel_rfl) (by kernel_rfl) ?_
      refine ps_p (o_hconstants 62 0) (.agg (Wz Kec.K)) (exec_load_row 135 (.tmp 1) (by kernel_rfl) go (by kernel_rfl) _ _ (0, 0) _ (h37) Try.underlying135 rfl (by rw [Wz_size, K_len]; kernel_rfl)) ?_
      obtain ⟨V38, eV38, kV38⟩ := rowset_step V11 gr ((Wz Kec.K))
      have h39 : V38.heap[gr]? = some (.cells (Wz Kec.K) 135 (0, 0)) := eV38 ▸ setRow_heap _ _ _ _ _ _ h12
      refine ps_s (o_hconstants 62 1) (w' := V38) (by rw [← eV38]; exact exec_store_row 135 (.tmp 0) (.tmp 33) (by kernel_rfl) gr ((Wz Kec.K)) (by kernel_rfl) (by kernel_rfl) 135 (zr_u64_24) h12 (by kernel_rfl) (by kernel_rfl) (Wz_one _)) ?_
      clear eV38
      have h40 := kV38.bo h37 (by omega)
      have K41 := K14.no kV38 (by omega)
      refine ps_end ?_
      refine then_n ?_
      refine sy_ret (by kernel_rfl) ?_
      refine sy_out (.agg (Wz Kec.K)) rfl (results_cell_row (p := 0) (ty := 135) (by kernel_rfl) _ _ gr 135 (Wz Kec.K) (0, 0) _ (by kernel_rfl) h39 Try.underlying135 rfl (by rw [Wz_size, K_len]; kernel_rfl)) ?_
      exact ⟨rfl, K41⟩
end Go.Proofs.Ytenaakldccjnbaa
