import Derived.Test.YtcbfnflnokoacaaGreatEvidenceProvesP5
namespace Go.Proofs.YtcbfnflnokoacaaGreat
set_option maxRecDepth 100000
set_option maxHeartbeats 4000000
open Go Go.RowKit Go.Own Go.Shelf
theorem rot_zero (x : Nat) (h : x < Kec.W) : Kec.rot x 0 = x := by
  unfold Kec.rot
  rw [Nat.shiftLeft_zero, Nat.mod_eq_of_lt h, Nat.shiftRight_eq_div_pow, Nat.div_eq_of_lt (by rw [Kec.W_eq] at h; exact h), Nat.or_zero]
/-- Columns' sums, word by word. -/
def ccn (s : List Nat) (n : Nat) : List Nat := (List.range n).foldl (fun t i => t.set (i / 5) (Kec.g t (i / 5) ^^^ Kec.g s (Kec.at_ (i / 5) (i % 5)))) [0, 0, 0, 0, 0]
theorem ccn_succ (s : List Nat) (x y : Nat) (hy : y < 5) : (ccn s (5 * x + y)).set x (Kec.g (ccn s (5 * x + y)) x ^^^ Kec.g s (Kec.at_ x y)) = ccn s (5 * x + (y + 1)) := by
  show _ = ccn s (5 * x + y + 1)
  conv => rhs; unfold ccn
  rw [List.range_succ, List.foldl_append]
  show _ = List.set (ccn s (5 * x + y)) _ (Kec.g (ccn s (5 * x + y)) _ ^^^ _)
  rw [show (5 * x + y) / 5 = x by omega, show (5 * x + y) % 5 = y by omega]
theorem ccn_len (s : List Nat) (n : Nat) : (ccn s n).length = 5 := by
  induction n with
  | zero => rfl
  | succ n ih => unfold ccn at *; rw [List.range_succ, List.foldl_append]; simpa using ih
theorem ws_ccn {s : List Nat} (ws : Kec.Ws s) (n : Nat) : Kec.Ws (ccn s n) := by
  induction n with
  | zero => intro i; show Kec.g [0, 0, 0, 0, 0] i < Kec.W; by_cases h : i < 5
            · have : ∀ j : Fin 5, Kec.g [0, 0, 0, 0, 0] j.val < Kec.W := by decide
              exact this ⟨i, h⟩
            · rw [Kec.g_big _ _ (by simp; omega)]; exact Kec.W_pos
  | succ n ih => unfold ccn at *; rw [List.range_succ, List.foldl_append]; exact Kec.ws_set ih _ _ (Kec.xor_lt (ih _) (ws _))
theorem ccn_all (s : List Nat) : ccn s 25 = (List.range 5).map (Kec.col s) := by
  have h : ccn s 25 = (List.range 5).map fun x => 0 ^^^ Kec.g s x ^^^ Kec.g s (x + 5) ^^^ Kec.g s (x + 10) ^^^ Kec.g s (x + 15) ^^^ Kec.g s (x + 20) := by kernel_rfl
  rw [h]
  refine List.map_congr_left fun x _ => ?_
  unfold Kec.col
  rw [Nat.zero_xor]
/-- Words moved, one by one. -/
def mmn (s : List Nat) (n : Nat) : List Nat := (List.range n).foldl (fun t i => t.set (Kec.at_ (i % 5) (2 * (i / 5) + 3 * (i % 5))) (Kec.rot (Kec.g s (Kec.at_ (i / 5) (i % 5)) ^^^ Kec.dd s (i / 5)) (Kec.g Kec.R (Kec.at_ (i / 5) (i % 5))))) Kec.zero
theorem mmn_succ (s : List Nat) (x y : Nat) (hy : y < 5) : (mmn s (5 * x + y)).set (Kec.at_ y (2 * x + 3 * y)) (Kec.rot (Kec.g s (Kec.at_ x y) ^^^ Kec.dd s x) (Kec.g Kec.R (Kec.at_ x y))) = mmn s (5 * x + (y + 1)) := by
  show _ = mmn s (5 * x + y + 1)
  conv => rhs; unfold mmn
  rw [List.range_succ, List.foldl_append]
  show _ = List.set (mmn s (5 * x + y)) _ _
  rw [show (5 * x + y) / 5 = x by omega, show (5 * x + y) % 5 = y by omega]
theorem mmn_len (s : List Nat) (n : Nat) : (mmn s n).length = 25 := by
  induction n with
  | zero => rfl
  | succ n ih => unfold mmn at *; rw [List.range_succ, List.foldl_append]; simpa using ih
theorem mmn_all (s : List Nat) : mmn s 25 = Kec.moves (Kec.columns s) := by kernel_rfl
/-- Words mixed, one by one. -/
def xxn (b : List Nat) (n : Nat) : List Nat → List Nat := fun a => (List.range n).foldl (fun t i => t.set (Kec.at_ (i / 5) (i % 5)) (Kec.g b (Kec.at_ (i / 5) (i % 5)) ^^^ ((Kec.W - 1 - Kec.g b (Kec.at_ (i / 5 + 1) (i % 5))) &&& Kec.g b (Kec.at_ (i / 5 + 2) (i % 5))))) a
theorem xxn_succ (a b : List Nat) (x y : Nat) (hy : y < 5) : (xxn b (5 * x + y) a).set (Kec.at_ x y) (Kec.g b (Kec.at_ x y) ^^^ ((Kec.W - 1 - Kec.g b (Kec.at_ (x + 1) y)) &&& Kec.g b (Kec.at_ (x + 2) y))) = xxn b (5 * x + (y + 1)) a := by
  show _ = xxn b (5 * x + y + 1) a
  conv => rhs; unfold xxn
  rw [List.range_succ, List.foldl_append]
  show _ = List.set (xxn b (5 * x + y) a) _ _
  rw [show (5 * x + y) / 5 = x by omega, show (5 * x + y) % 5 = y by omega]
theorem xxn_len (a b : List Nat) (n : Nat) : (xxn b n a).length = a.length := by
  induction n with
  | zero => rfl
  | succ n ih => unfold xxn at *; rw [List.range_succ, List.foldl_append]; simpa using ih
theorem xxn_all (a b : List Nat) (ha : a.length = 25) : xxn b 25 a = Kec.mixes b := by
  match a, ha with
  | [a0, a1, a2, a3, a4, a5, a6, a7, a8, a9, b0, b1, b2, b3, b4, b5, b6, b7, b8, b9, c0, c1, c2, c3, c4], _ => show xxn b 25 [a0, a1, a2, a3, a4, a5, a6, a7, a8, a9, b0, b1, b2, b3, b4, b5, b6, b7, b8, b9, c0, c1, c2, c3, c4] = Kec.mixes b; kernel_rfl
/-- The constants' register. -/
theorem regn_small (k r : Nat) (h : r = Kec.regn k) (h2 : ¬ 255 < 2 * r) : 2 * r = Kec.regn (k + 1) := by
  subst h; rw [show Kec.regn (k + 1) = if 256 ≤ 2 * Kec.regn k then ((2 * Kec.regn k) &&& 255) ^^^ 113 else 2 * Kec.regn k from rfl, if_neg (by omega)]
theorem regn_big (k r : Nat) (h : r = Kec.regn k) (h2 : 255 < 2 * r) : (2 * r % 256) ^^^ 113 = Kec.regn (k + 1) := by
  subst h; rw [show Kec.regn (k + 1) = if 256 ≤ 2 * Kec.regn k then ((2 * Kec.regn k) &&& 255) ^^^ 113 else 2 * Kec.regn k from rfl, if_pos (by omega), show (255 : Nat) = 2 ^ 8 - 1 from rfl, Nat.and_two_pow_sub_one_eq_mod]
theorem outn_step (i j : Nat) (hj : j < 7) : Kec.outn (7 * i + (j + 1)) = (Kec.outn (7 * i + j)).set i (Kec.g (Kec.outn (7 * i + j)) i ||| (Kec.bitn (7 * i + j) <<< (1 <<< j - 1)) % Kec.W) := by
  rw [show 7 * i + (j + 1) = 7 * i + j + 1 from rfl, show Kec.outn (7 * i + j + 1) = (Kec.outn (7 * i + j)).set ((7 * i + j) / 7) (Kec.g (Kec.outn (7 * i + j)) ((7 * i + j) / 7) ||| (Kec.bitn (7 * i + j) <<< (1 <<< ((7 * i + j) % 7) - 1)) % Kec.W) from rfl,
    show (7 * i + j) / 7 = i by omega, show (7 * i + j) % 7 = j by omega]
theorem outn_odd (i j r : Nat) (hj : j < 7) (hr : r = Kec.regn (7 * i + j)) (h : r % 2 = 1) : (Kec.outn (7 * i + j)).set i (Kec.g (Kec.outn (7 * i + j)) i ||| (1 <<< (1 <<< j - 1)) % Kec.W) = Kec.outn (7 * i + (j + 1)) := by
  have hb : Kec.bitn (7 * i + j) = 1 := by unfold Kec.bitn; rw [← hr, show (1 : Nat) = 2 ^ 1 - 1 from rfl, Nat.and_two_pow_sub_one_eq_mod]; exact h
  rw [outn_step i j hj, hb]
theorem outn_even (i j r : Nat) (hi : i < 24) (hj : j < 7) (hr : r = Kec.regn (7 * i + j)) (h : ¬ r % 2 = 1) : Kec.outn (7 * i + j) = Kec.outn (7 * i + (j + 1)) := by
  have hb : Kec.bitn (7 * i + j) = 0 := by unfold Kec.bitn; rw [← hr, show (1 : Nat) = 2 ^ 1 - 1 from rfl, Nat.and_two_pow_sub_one_eq_mod]; simp; omega
  have hl : i < (Kec.outn (7 * i + j)).length := by rw [Kec.outn_len]; exact hi
  rw [outn_step i j hj, hb, Nat.zero_shiftLeft, Nat.zero_mod, Nat.or_zero]
  unfold Kec.g
  rw [List.getD_eq_getElem?_getD, List.getElem?_eq_getElem hl]
  simp
theorem xor113 (r : Nat) (h : r < 256) : Value.int .i64 (bits .xor .i64 (r : Int) 113) = .int .i64 ((r ^^^ 113 : Nat) : Int) := by
  have : ∀ j : Fin 256, bits .xor .i64 ((j.val : Nat) : Int) 113 = ((j.val ^^^ 113 : Nat) : Int) := by decide +kernel
  exact congrArg _ (this ⟨r, h⟩)
noncomputable def qc85_2 (n : Nat) : Code := partOf Tryz.f156 n
noncomputable abbrev qo85_2 (n k : Nat) : Oper := (opsAt (qc85_2 n)).getD k default
theorem hrot_zero (x n : Nat) (w : World) (hx : x < Kec.W) (h0 : n = 0) :
    Calls Tryz.prog 156 #[.int .u64 ((x : Nat) : Int), .int .i64 ((n : Nat) : Int)] w (fun e w' => e = .returned (.int .u64 ((Kec.rot x n : Nat) : Int)) ∧ Keeps Nob w w') := by
  have K0 : Keeps Nob w w := Keeps.refl _ _
  refine sy_enter (qc85_2 1) ⟨#[uN x, iN n, ud, ud, ud, ud, ud, ud, ud, ud, ud, ud, ud, ud, ud, ud], []⟩ Tryz.func156 (by kernel_rfl) (by kernel_rfl) <| sy_sq (qc85_2 2) (qc85_2 3) <| sy_reg <| rg_q 0 [0] <| pkq (.int .u64 0) <| ps_end <| then_n <| sy_sq (qc85_2 6) (qc85_2 7) <| sy_sq (qc85_2 12) (qc85_2 13) <| sy_reg <| rg_q 1 [0, 1] <| pkq (iN n) <| ppq (.bool true) (eqt (((n : Nat) : Int)) ((0) : Int) (by omega)) <| ps_end ?_
  refine then_n <| sy_ys (.tmp 6) (qc85_2 26) (qc85_2 27) <| sy_sq (qc85_2 52) (qc85_2 53) <| sy_reg <| rg_q 2 [0, 1] <| pkq (uN x) <| pkq (uN x) <| ps_end <| then_n <| sy_ret (by kernel_rfl) <| then_r <| sy_out (.int .u64 ((x : Nat) : Int)) rfl (by kernel_rfl) ?_
  exact ⟨by subst h0; rw [rot_zero x hx], K0⟩
theorem hrot_pos (x n : Nat) (w : World) (hx : x < Kec.W) (hn : n < 64) (h0 : ¬ n = 0) :
    Calls Tryz.prog 156 #[.int .u64 ((x : Nat) : Int), .int .i64 ((n : Nat) : Int)] w (fun e w' => e = .returned (.int .u64 ((Kec.rot x n : Nat) : Int)) ∧ Keeps Nob w w') := by
  have K0 : Keeps Nob w w := Keeps.refl _ _
  refine sy_enter (qc85_2 1) ⟨#[uN x, iN n, ud, ud, ud, ud, ud, ud, ud, ud, ud, ud, ud, ud, ud, ud], []⟩ Tryz.func156 (by kernel_rfl) (by kernel_rfl) <| sy_sq (qc85_2 2) (qc85_2 3) <| sy_reg <| rg_q 0 [0] <| pkq (.int .u64 0) <| ps_end <| then_n <| sy_sq (qc85_2 6) (qc85_2 7) <| sy_sq (qc85_2 12) (qc85_2 13) <| sy_reg <| rg_q 1 [0, 1] <| pkq (iN n) <| ppq (.bool false) (eqf (((n : Nat) : Int)) ((0) : Int) (by omega)) <| ps_end ?_
  refine then_n <| sy_n (.tmp 6) (qc85_2 26) (qc85_2 27) <| sy_sk <| then_n <| sy_sq (qc85_2 14) (qc85_2 15) <| sy_reg <| rg_still 3 8 (opsAt (qc85_2 14)) [qo85_2 14 0, qo85_2 14 1, qo85_2 14 2, qo85_2 14 3, qo85_2 14 4, qo85_2 14 5, qo85_2 14 6, qo85_2 14 7] [qo85_2 14 8] (by kernel_rfl) (by kernel_rfl) (by kernel_rfl) (by kernel_rfl) (by kernel_rfl) ?_
  obtain ⟨V2, eV2, kV2⟩ := drew_step w
  rw [eV2]
  clear eV2
  have K3 := K0.nn kV2
  refine skq (uN x) <| skq (iN n) <| spq (uN ((x <<< n) % Kec.W)) (exec_binop .shl 24 3 (.tmp 8) (.tmp 9) (by kernel_rfl) (uN x) (iN n) _ (by kernel_rfl) (by kernel_rfl) (by kernel_rfl) (run_shlU _ _ x n (by omega))) <| skq (uN x) <| skq (iN n) <| spq (iN (64 - n)) (exec_cast (v := .int .i64 (IntKind.i64.wrap ((64 : Int) - ((n : Nat) : Int)))) (congrArg (Value.int .i64) (by rw [show (64 : Int) - ((n : Nat) : Int) = ((64 - n : Nat) : Int) by omega]; exact wrapN _ (by omega))) (by kernel_rfl)) <| spq (uN (x >>> (64 - n))) (exec_binop .shr 24 3 (.tmp 11) (.tmp 13) (by kernel_rfl) (uN x) (iN (64 - n)) _ (by kernel_rfl) (by kernel_rfl) (by kernel_rfl) (run_shrU _ _ x (64 - n) (by omega))) <| spq (uN (((x <<< n) % Kec.W) ||| (x >>> (64 - n)))) (exec_cast (orU ((x <<< n) % Kec.W) (x >>> (64 - n)) (Nat.mod_lt _ Kec.W_pos) (Kec.shr_lt hx _)) (by kernel_rfl)) <| st_end <| ls_run (qo85_2 14 8) (uN (((x <<< n) % Kec.W) ||| (x >>> (64 - n)))) (w' := V2) (by kernel_rfl) (by kernel_rfl) <| ls_end <| then_n <| sy_ret (by kernel_rfl) <| sy_out (.int .u64 ((((x <<< n) % Kec.W) ||| (x >>> (64 - n)) : Nat) : Int)) rfl (by kernel_rfl) ?_
  exact ⟨rfl, K3⟩
theorem hrot_ok (x n : Nat) (w : World) (hx : x < Kec.W) (hn : n < 64) : Calls Tryz.prog 156 #[.int .u64 ((x : Nat) : Int), .int .i64 ((n : Nat) : Int)] w fun e w' => e = .returned (.int .u64 ((Kec.rot x n : Nat) : Int)) ∧ Keeps Nob w w' := by
  by_cases h0 : n = 0
  · exact hrot_zero x n w hx h0
  · exact hrot_pos x n w hx hn h0
noncomputable def part_hat (n : Nat) : Code := partOf Tryz.f154 n
theorem hat_ok (x y r : Nat) (w : World) (hx : x ≤ 1000) (hy : y ≤ 1000) (h : Kec.at_ x y = r) :
    Calls Tryz.prog 154 #[.int .i64 ((x : Nat) : Int), .int .i64 ((y : Nat) : Int)] w (fun e w' => e = .returned (.int .i64 ((r : Nat) : Int)) ∧ w = w') := by
  have K0 : Keeps Nob w w := Keeps.refl _ _
  refine sy_enter (part_hat 1) ⟨#[iN x, iN y, ud, ud, ud, ud, ud, ud, ud, ud, ud], []⟩ Tryz.func154 (by kernel_rfl) (by kernel_rfl) <| sy_sq (part_hat 2) (part_hat 3) <| sy_reg <| rg_q 0 [0] <| pkq (.int .i64 0) <| ps_end <| then_n <| sy_sq (part_hat 6) (part_hat 7) <| sy_reg <| rg_q 1 [0, 1, 2, 3, 4, 5, 6] <| pkq (iN x) <| pkq (iN (x % 5)) <| pkq (iN y) <| pkq (iN (y % 5)) ?_
  refine ppq (iN (5 * (y % 5))) (exec_cast (congrArg (Value.int .i64) (wrapN (5 * (y % 5)) (by omega))) (by kernel_rfl)) <| ppq (iN ((x % 5) + (5 * (y % 5)))) (exec_cast (congrArg (Value.int .i64) (wrapN ((x % 5) + (5 * (y % 5))) (by omega))) (by kernel_rfl)) <| pkq (iN ((x % 5) + (5 * (y % 5)))) <| ps_end <| then_n <| sy_ret (by kernel_rfl) <| sy_out (.int .i64 (((x % 5) + (5 * (y % 5)) : Nat) : Int)) rfl (by kernel_rfl) ?_
  exact ⟨congrArg (fun n : Nat => Ending.returned (.int .i64 (n : Int))) h, rfl⟩
noncomputable def qc85_1 (n : Nat) : Code := partOf Tryz.f155 n
theorem hturns_ok (w : World) :
    Calls Tryz.prog 155 #[] w (fun e w' => e = .returned (.agg Rz) ∧ Keeps Nob w w') := by
  have K0 : Keeps Nob w w := Keeps.refl _ _
  refine sy_enter (qc85_1 1) ⟨#[ud, ud], []⟩ Tryz.func155 (by kernel_rfl) (by kernel_rfl) <| sy_sq (qc85_1 2) (qc85_1 3) <| sy_reg <| rg_q 0 [0] ?_
  obtain ⟨V1, eV1, g, eg, h2, kV1⟩ := alloc_step w (zr_i64_25) 189
  have n3 : w.heap.size ≤ g := eg ▸ K0.size
  refine prq (pT g 0) (w' := V1) (by rw [← eV1, ← eg]; exact exec_alloc0 189 (by kernel_rfl) (.agg (zr_i64_25)) (by kernel_rfl)) ?_
  clear eV1
  have K4 := K0.nn kV1
  refine ps_end <| then_n <| sy_sq (qc85_1 6) (qc85_1 7) <| sy_reg <| rg_q 1 [0, 1] <| pkq (.agg #[.int .i64 0, .int .i64 1, .int .i64 62, .int .i64 28, .int .i64 27, .int .i64 36, .int .i64 44, .int .i64 6, .int .i64 55, .int .i64 20, .int .i64 3, .int .i64 10, .int .i64 43, .int .i64 25, .int .i64 39, .int .i64 41, .int .i64 45, .int .i64 15, .int .i64 21, .int .i64 8, .int .i64 18, .int .i64 2, .int .i64 61, .int .i64 56, .int .i64 14]) ?_
  obtain ⟨V5, eV5, kV5⟩ := rowset_step V1 g (#[.int .i64 0, .int .i64 1, .int .i64 62, .int .i64 28, .int .i64 27, .int .i64 36, .int .i64 44, .int .i64 6, .int .i64 55, .int .i64 20, .int .i64 3, .int .i64 10, .int .i64 43, .int .i64 25, .int .i64 39, .int .i64 41, .int .i64 45, .int .i64 15, .int .i64 21, .int .i64 8, .int .i64 18, .int .i64 2, .int .i64 61, .int .i64 56, .int .i64 14])
  have h6 : V5.heap[g]? = some (.cells (#[.int .i64 0, .int .i64 1, .int .i64 62, .int .i64 28, .int .i64 27, .int .i64 36, .int .i64 44, .int .i64 6, .int .i64 55, .int .i64 20, .int .i64 3, .int .i64 10, .int .i64 43, .int .i64 25, .int .i64 39, .int .i64 41, .int .i64 45, .int .i64 15, .int .i64 21, .int .i64 8, .int .i64 18, .int .i64 2, .int .i64 61, .int .i64 56, .int .i64 14]) 189 (0, 0)) := eV5 ▸ setRow_heap _ _ _ _ _ _ h2
  refine pzq (w' := V5) (by rw [← eV5]; exact exec_store_row 189 (.tmp 0) (.tmp 1) (by kernel_rfl) g (#[.int .i64 0, .int .i64 1, .int .i64 62, .int .i64 28, .int .i64 27, .int .i64 36, .int .i64 44, .int .i64 6, .int .i64 55, .int .i64 20, .int .i64 3, .int .i64 10, .int .i64 43, .int .i64 25, .int .i64 39, .int .i64 41, .int .i64 45, .int .i64 15, .int .i64 21, .int .i64 8, .int .i64 18, .int .i64 2, .int .i64 61, .int .i64 56, .int .i64 14]) (by kernel_rfl) (by kernel_rfl) 189 (zr_i64_25) h2 (by kernel_rfl) (by kernel_rfl) (by kernel_rfl)) ?_
  clear eV5
  have K7 := K4.no kV5 (by omega)
  refine ps_end <| then_n <| sy_ret (by kernel_rfl) <| sy_out (.agg (#[.int .i64 0, .int .i64 1, .int .i64 62, .int .i64 28, .int .i64 27, .int .i64 36, .int .i64 44, .int .i64 6, .int .i64 55, .int .i64 20, .int .i64 3, .int .i64 10, .int .i64 43, .int .i64 25, .int .i64 39, .int .i64 41, .int .i64 45, .int .i64 15, .int .i64 21, .int .i64 8, .int .i64 18, .int .i64 2, .int .i64 61, .int .i64 56, .int .i64 14])) rfl (results_cell_row (p := 0) (ty := 189) (by kernel_rfl) _ _ g 189 (#[.int .i64 0, .int .i64 1, .int .i64 62, .int .i64 28, .int .i64 27, .int .i64 36, .int .i64 44, .int .i64 6, .int .i64 55, .int .i64 20, .int .i64 3, .int .i64 10, .int .i64 43, .int .i64 25, .int .i64 39, .int .i64 41, .int .i64 45, .int .i64 15, .int .i64 21, .int .i64 8, .int .i64 18, .int .i64 2, .int .i64 61, .int .i64 56, .int .i64 14]) (0, 0) _ (by kernel_rfl) h6 Tryz.underlying189 rfl (by kernel_rfl)) ?_
  exact ⟨congrArg Ending.returned (show _ = Value.agg Rz by kernel_rfl), K7⟩
noncomputable def qc85_0 (n : Nat) : Code := partOf Tryz.f136 n
noncomputable abbrev qo85_0 (n k : Nat) : Oper := (opsAt (qc85_0 n)).getD k default
theorem hconstants_ok (w : World) :
    Calls Tryz.prog 136 #[] w (fun e w' => e = .returned (.agg (Wz Kec.K)) ∧ Keeps Nob w w') := by
  have K0 : Keeps Nob w w := Keeps.refl _ _
  refine sy_enter (qc85_0 1) ⟨#[ud, ud, ud, ud, ud, ud, ud, ud, ud, ud, ud, ud, ud, ud, ud, ud, ud, ud, ud, ud, ud, ud, ud, ud, ud, ud, ud, ud, ud, ud, ud, ud, ud, ud], []⟩ Tryz.func136 (by kernel_rfl) (by kernel_rfl) <| sy_sq (qc85_0 2) (qc85_0 3) <| sy_reg <| rg_q 0 [0] ?_
  obtain ⟨V1, eV1, gr, egr, h2, kV1⟩ := alloc_step w (zr_u64_24) 169
  have n3 : w.heap.size ≤ gr := egr ▸ K0.size
  refine prq (pT gr 0) (w' := V1) (by rw [← eV1, ← egr]; exact exec_alloc0 169 (by kernel_rfl) (.agg (zr_u64_24)) (by kernel_rfl)) ?_
  clear eV1
  have K4 := K0.nn kV1
  refine ps_end <| then_n <| sy_sq (qc85_0 6) (qc85_0 7) <| sy_reg <| rg_q 1 [0] ?_
  obtain ⟨V5, eV5, go, ego, h6, kV5⟩ := alloc_step V1 (zr_u64_24) 169
  have n7 : gr < go := ego ▸ lt_of_block h2
  have n8 : w.heap.size ≤ go := ego ▸ K4.size
  refine prq (pT go 0) (w' := V5) (by rw [← eV5, ← ego]; exact exec_alloc0 169 (by kernel_rfl) (.agg (zr_u64_24)) (by kernel_rfl)) ?_
  clear eV5
  have h9 := kV5.bk h2
  have K10 := K4.nn kV5
  refine ps_end <| then_n <| sy_sq (qc85_0 14) (qc85_0 15) <| sy_reg <| rg_q 2 [0] <| pkq (.int .i64 1) <| ps_end <| then_n <| sy_sq (qc85_0 30) (qc85_0 31) <| sy_sq (qc85_0 60) (qc85_0 61) <| sy_reg <| rg_q 3 [0] <| pkq (.int .i64 0) <| ps_end ?_
  refine then_n <| sy_bk 0 (qc85_0 122) ?_
  refine sy_loop (qc85_0 244) (fun a V => ∃ (i : Nat) (r : Nat) (u4 u5 u6 u7 u8 u9 u10 u11 u12 u13 u14 u15 u16 u17 u18 u19 u20 u21 u22 u23 u24 u25 u26 u27 u28 u29 u30 u31 u32 : Value), (a = ⟨#[pT gr 0, pT go 0, iN r, iN i, u4, u5, u6, u7, u8, u9, u10, u11, u12, u13, u14, u15, u16, u17, u18, u19, u20, u21, u22, u23, u24, u25, u26, u27, u28, u29, u30, u31, u32, ud], []⟩) ∧ (i ≤ 24) ∧ (r = Kec.regn (7 * i)) ∧ (V.heap[gr]? = some (.cells (zr_u64_24) 169 (0, 0))) ∧ (V.heap[go]? = some (.cells (Wz (Kec.outn (7 * i))) 169 (0, 0))) ∧ (Keeps Nob w V)) (fun a _ => 24 - (intOf (a.tmps.getD 3 undef)).toNat) (by kernel_rfl) ?_ ?_
  · exact ⟨0, 1, undef, undef, undef, undef, undef, undef, undef, undef, undef, undef, undef, undef, undef, undef, undef, undef, undef, undef, undef, undef, undef, undef, undef, undef, undef, undef, undef, undef, undef, by kernel_rfl, by omega, rfl, h9, h6.trans (by kernel_rfl), K10⟩
  · rintro a V11 ⟨i, r, u4, u5, u6, u7, u8, u9, u10, u11, u12, u13, u14, u15, u16, u17, u18, u19, u20, u21, u22, u23, u24, u25, u26, u27, u28, u29, u30, u31, u32, rfl, hi, hr, h12, h13, K14⟩
    by_cases lt_i : i < 24
    · show _
      refine sy_sq (qc85_0 488) (qc85_0 489) <| sy_sq (qc85_0 976) (qc85_0 977) <| sy_reg <| rg_q 4 [0, 1] <| pkq (iN i) <| ppq (.bool true) (dct ((((i : Nat) : Int)) < ((24) : Int)) (by omega)) <| ps_end <| then_n <| sy_ys (.tmp 6) (qc85_0 1954) (qc85_0 1955) <| sy_sk <| then_n <| sy_sq (qc85_0 978) (qc85_0 979) <| sy_bk 1 (qc85_0 1956) <| sy_sq (qc85_0 3912) (qc85_0 3913) ?_
      refine sy_reg <| rg_q 6 [0] <| pkq (.int .i64 0) <| ps_end <| then_n <| sy_bk 2 (qc85_0 7826) ?_
      refine sy_loop (qc85_0 15652) (fun a V => ∃ (j : Nat) (r2 : Nat) (u9 u10 u11 u12 u13 u14 u15 u16 u17 u18 u19 u20 u21 u22 u23 u24 u25 u26 u27 u28 u29 u30 u31 u32 : Value), (a = ⟨#[pT gr 0, pT go 0, iN r2, iN i, iN j, iN i, .bool true, u7, u8, u9, u10, u11, u12, u13, u14, u15, u16, u17, u18, u19, u20, u21, u22, u23, u24, u25, u26, u27, u28, u29, u30, u31, u32, ud], []⟩) ∧ (j ≤ 7) ∧ (r2 = Kec.regn (7 * i + j)) ∧ (V.heap[gr]? = some (.cells (zr_u64_24) 169 (0, 0))) ∧ (V.heap[go]? = some (.cells (Wz (Kec.outn (7 * i + j))) 169 (0, 0))) ∧ (Keeps Nob w V)) (fun a _ => 7 - (intOf (a.tmps.getD 4 undef)).toNat) (by kernel_rfl) ?_ ?_
      · exact ⟨0, r, u9, u10, u11, u12, u13, u14, u15, u16, u17, u18, u19, u20, u21, u22, u23, u24, u25, u26, u27, u28, u29, u30, u31, u32, by kernel_rfl, by omega, hr, h12, h13, K14⟩
      · rintro a V15 ⟨j, r2, u9, u10, u11, u12, u13, u14, u15, u16, u17, u18, u19, u20, u21, u22, u23, u24, u25, u26, u27, u28, u29, u30, u31, u32, rfl, hj, hr2, h16, h17, K18⟩
        rcases (show (j < 7 ∧ r2 % 2 = 1 ∧ 255 < 2 * r2) ∨ (j < 7 ∧ r2 % 2 = 1 ∧ ¬ 255 < 2 * r2) ∨ (j < 7 ∧ ¬ r2 % 2 = 1 ∧ 255 < 2 * r2) ∨ (j < 7 ∧ ¬ r2 % 2 = 1 ∧ ¬ 255 < 2 * r2) ∨ ¬ j < 7 by omega) with ⟨lt_j, hodd, hbig⟩ | ⟨lt_j, hodd, hbig⟩ | ⟨lt_j, hodd, hbig⟩ | ⟨lt_j, hodd, hbig⟩ | ge_j
        · have hr3 : r2 < 256 := by rw [hr2]; exact Kec.regn_lt _
          have s1 := shl1 j lt_j
          obtain ⟨_, s2, s3⟩ := s1
          refine sy_sq (qc85_0 31304) (qc85_0 31305) <| sy_sq (qc85_0 62608) (qc85_0 62609) <| sy_reg <| rg_q 7 [0, 1] <| pkq (iN j) <| ppq (.bool true) (dct ((((j : Nat) : Int)) < ((7) : Int)) (by omega)) <| ps_end <| then_n <| sy_ys (.tmp 10) (qc85_0 125218) (qc85_0 125219) <| sy_sk <| then_n <| sy_sq (qc85_0 62610) (qc85_0 62611) <| sy_bk 3 (qc85_0 125220) <| sy_sq (qc85_0 250440) (qc85_0 250441) ?_
          refine sy_sq (qc85_0 500880) (qc85_0 500881) <| sy_reg <| rg_q 9 [0, 1, 2] <| pkq (iN r2) <| pkq (iN (r2 % 2)) <| ppq (.bool true) (eqt (((r2 % 2 : Nat) : Int)) ((1) : Int) (by omega)) <| ps_end <| then_n <| sy_ys (.tmp 15) (qc85_0 1001762) (qc85_0 1001763) <| sy_reg <| rg_still 10 10 (opsAt (qc85_0 1001762)) [qo85_0 1001762 0, qo85_0 1001762 1, qo85_0 1001762 2, qo85_0 1001762 3, qo85_0 1001762 4, qo85_0 1001762 5, qo85_0 1001762 6, qo85_0 1001762 7, qo85_0 1001762 8, qo85_0 1001762 9] [qo85_0 1001762 10] (by kernel_rfl) (by kernel_rfl) (by kernel_rfl) (by kernel_rfl) (by kernel_rfl) ?_
          obtain ⟨V20, eV20, kV20⟩ := drew_step V15
          rw [eV20]
          clear eV20
          have h21 := kV20.bk h16
          have h22 := kV20.bk h17
          have K23 := K18.nn kV20
          refine skq (iN i) <| skq (iN i) <| spq (pT go i) (exec_cast (v := pT go (0 + i * 1)) (by simp) (exec_indexAt_arr 169 (.tmp 1) (.tmp 17) (by kernel_rfl) go 0 (by kernel_rfl) .i64 i (by kernel_rfl) _ _ 1 Tryz.underlying169 (by kernel_rfl) (by omega))) <| spq (uN (Kec.g (Kec.outn (7 * i + j)) i)) (exec_ld 24 (.tmp 18) go i Tryz.underlying24 (rc (h22) (Wz_get _ i (by rw [Kec.outn_len]; omega)))) <| skq (iN j) <| spq (uN (1 <<< j)) (exec_cast (congrArg (fun n : Nat => Value.int .u64 (n : Int)) (shl1 j (by omega)).1) (exec_binop .shl 186 3 (.const (.int .u64 1)) (.tmp 20) (by kernel_rfl) (uN 1) (iN j) _ (by kernel_rfl) (by kernel_rfl) (by kernel_rfl) (run_shlU _ _ 1 j (by omega)))) <| spq (uN (1 <<< j - 1)) (exec_cast (v := .int .u64 (IntKind.u64.wrap (((1 <<< j : Nat) : Int) - 1))) (congrArg (Value.int .u64) (by rw [show ((1 <<< j : Nat) : Int) - (1 : Int) = ((1 <<< j - 1 : Nat) : Int) by omega]; exact wrapU _ (by omega))) (by kernel_rfl)) <| spq (uN ((1 <<< (1 <<< j - 1)) % Kec.W)) (exec_binop .shl 24 186 (.const (.int .u64 1)) (.tmp 22) (by kernel_rfl) (uN 1) (uN (1 <<< j - 1)) _ (by kernel_rfl) (by kernel_rfl) (by kernel_rfl) (run_shlU _ _ 1 _ (by omega))) <| spq (uN ((Kec.g (Kec.outn (7 * i + j)) i) ||| ((1 <<< (1 <<< j - 1)) % Kec.W))) (exec_cast (orU (Kec.g (Kec.outn (7 * i + j)) i) ((1 <<< (1 <<< j - 1)) % Kec.W) (Kec.ws_outn _ _) (Nat.mod_lt _ Kec.W_pos)) (by kernel_rfl)) <| spq (pT go i) (exec_cast (v := pT go (0 + i * 1)) (by simp) (exec_indexAt_arr 169 (.tmp 1) (.tmp 16) (by kernel_rfl) go 0 (by kernel_rfl) .i64 i (by kernel_rfl) _ _ 1 Tryz.underlying169 (by kernel_rfl) (by omega))) <| st_end ?_
          obtain ⟨V24, eV24, kV24⟩ := cell_step V20 go i (.int .u64 (((Kec.g (Kec.outn (7 * i + j)) i) ||| ((1 <<< (1 <<< j - 1)) % Kec.W) : Nat) : Int))
          have h25 : V24.heap[go]? = some (.cells (Wz (Kec.outn (7 * i + (j + 1)))) 169 (0, 0)) := eV24 ▸ ((heap_setCell_same _ go i _ _ (.int .u64 (((Kec.g (Kec.outn (7 * i + j)) i) ||| ((1 <<< (1 <<< j - 1)) % Kec.W) : Nat) : Int)) h22).trans (congrArg (fun c => some (Obj.cells c 169 (0, 0))) (show (Wz (Kec.outn (7 * i + j)) : Array Value).setIfInBounds i (.int .u64 (((Kec.g (Kec.outn (7 * i + j)) i) ||| ((1 <<< (1 <<< j - 1)) % Kec.W) : Nat) : Int)) = Wz (Kec.outn (7 * i + (j + 1))) from by rw [Wz_set]; exact congrArg Wz (outn_odd i j r2 lt_j hr2 hodd))))
          refine ls_skip (qo85_0 1001762 10) (w' := V24) (by kernel_rfl) (by rw [← eV24]; exact exec_store_cell 24 (.tmp 25) (.tmp 24) (by kernel_rfl) go i (by kernel_rfl) (.int .u64 (((Kec.g (Kec.outn (7 * i + j)) i) ||| ((1 <<< (1 <<< j - 1)) % Kec.W) : Nat) : Int)) (by kernel_rfl) (by kernel_rfl) (by kernel_rfl) (.int .u64 ((Kec.g (Kec.outn (7 * i + j)) i : Nat) : Int)) (rc (h22) (Wz_get _ i (by rw [Kec.outn_len]; omega))) (frozen_of_row _ _ _ _ _ h22) (by kernel_rfl)) ?_
          clear eV24
          have h26 := kV24.bo h21 (by omega)
          have K27 := K23.no kV24 (by omega)
          refine ls_end <| then_n <| sy_sq (qc85_0 500882) (qc85_0 500883) <| sy_reg <| rg_q 11 [0, 1, 2] <| pkq (iN r2) <| ppq (iN (2 * r2)) (exec_cast (congrArg (Value.int .i64) (wrapN (2 * r2) (by omega))) (by kernel_rfl)) <| pkq (iN (2 * r2)) <| ps_end <| then_n <| sy_sq (qc85_0 1001766) (qc85_0 1001767) <| sy_reg <| rg_q 12 [0, 1] <| pkq (iN (2 * r2)) ?_
          refine ppq (.bool true) (dct ((((2 * r2 : Nat) : Int)) > ((255) : Int)) (by omega)) <| ps_end <| then_n <| sy_ys (.tmp 29) (qc85_0 2003534) (qc85_0 2003535) <| sy_reg <| rg_q 13 [0, 1, 2, 3] <| pkq (iN (2 * r2)) <| pkq (iN ((2 * r2) % 256)) <| ppq (iN (2 * r2 % 256 ^^^ 113)) (exec_cast (xor113 (2 * r2 % 256) (by omega)) (by kernel_rfl)) <| pkq (iN (2 * r2 % 256 ^^^ 113)) <| ps_end <| sy_a ⟨#[pT gr 0, pT go 0, iN (2 * r2 % 256 ^^^ 113), iN i, iN j, iN i, .bool true, u7, u8, iN j, .bool true, u11, u12, iN r2, iN (r2 % 2), .bool true, iN i, iN i, pT go i, uN (Kec.g (Kec.outn (7 * i + j)) i), iN j, uN (1 <<< j), uN (1 <<< j - 1), uN ((1 <<< (1 <<< j - 1)) % Kec.W), uN ((Kec.g (Kec.outn (7 * i + j)) i) ||| ((1 <<< (1 <<< j - 1)) % Kec.W)), pT go i, iN r2, iN (2 * r2), iN (2 * r2), .bool true, iN (2 * r2), iN ((2 * r2) % 256), iN (2 * r2 % 256 ^^^ 113), ud], []⟩ <| blk_n <| then_n ?_
          refine sy_reg <| rg_q 8 [0, 1, 2] <| pkq (iN j) <| ppq (iN (j + 1)) (exec_cast (congrArg (Value.int .i64) (wrapN (j + 1) (by omega))) (by kernel_rfl)) <| pkq (iN (j + 1)) <| ps_end <| then_n ?_
          refine ⟨⟨j + 1, 2 * r2 % 256 ^^^ 113, (iN j), (.bool true), (iN j), (iN (j + 1)), (iN r2), (iN (r2 % 2)), (.bool true), (iN i), (iN i), (pT go i), (uN (Kec.g (Kec.outn (7 * i + j)) i)), (iN j), (uN (1 <<< j)), (uN (1 <<< j - 1)), (uN ((1 <<< (1 <<< j - 1)) % Kec.W)), (uN ((Kec.g (Kec.outn (7 * i + j)) i) ||| ((1 <<< (1 <<< j - 1)) % Kec.W))), (pT go i), (iN r2), (iN (2 * r2)), (iN (2 * r2)), (.bool true), (iN (2 * r2)), (iN ((2 * r2) % 256)), (iN (2 * r2 % 256 ^^^ 113)), by kernel_rfl, by omega, (by first | exact regn_big _ _ hr2 hbig | exact regn_small _ _ hr2 hbig), h26, h25, K27⟩, ?_⟩
          exact lt_meas (x := 7 - (j + 1)) (y := 7 - j) (by kernel_rfl) (by kernel_rfl) (by omega)
        · have hr3 : r2 < 256 := by rw [hr2]; exact Kec.regn_lt _
          have s1 := shl1 j lt_j
          obtain ⟨_, s2, s3⟩ := s1
          refine sy_sq (qc85_0 31304) (qc85_0 31305) <| sy_sq (qc85_0 62608) (qc85_0 62609) <| sy_reg <| rg_q 7 [0, 1] <| pkq (iN j) <| ppq (.bool true) (dct ((((j : Nat) : Int)) < ((7) : Int)) (by omega)) <| ps_end <| then_n <| sy_ys (.tmp 10) (qc85_0 125218) (qc85_0 125219) <| sy_sk <| then_n <| sy_sq (qc85_0 62610) (qc85_0 62611) <| sy_bk 3 (qc85_0 125220) <| sy_sq (qc85_0 250440) (qc85_0 250441) ?_
          refine sy_sq (qc85_0 500880) (qc85_0 500881) <| sy_reg <| rg_q 9 [0, 1, 2] <| pkq (iN r2) <| pkq (iN (r2 % 2)) <| ppq (.bool true) (eqt (((r2 % 2 : Nat) : Int)) ((1) : Int) (by omega)) <| ps_end <| then_n <| sy_ys (.tmp 15) (qc85_0 1001762) (qc85_0 1001763) <| sy_reg <| rg_still 10 10 (opsAt (qc85_0 1001762)) [qo85_0 1001762 0, qo85_0 1001762 1, qo85_0 1001762 2, qo85_0 1001762 3, qo85_0 1001762 4, qo85_0 1001762 5, qo85_0 1001762 6, qo85_0 1001762 7, qo85_0 1001762 8, qo85_0 1001762 9] [qo85_0 1001762 10] (by kernel_rfl) (by kernel_rfl) (by kernel_rfl) (by kernel_rfl) (by kernel_rfl) ?_
          obtain ⟨V29, eV29, kV29⟩ := drew_step V15
          rw [eV29]
          clear eV29
          have h30 := kV29.bk h16
          have h31 := kV29.bk h17
          have K32 := K18.nn kV29
          refine skq (iN i) <| skq (iN i) <| spq (pT go i) (exec_cast (v := pT go (0 + i * 1)) (by simp) (exec_indexAt_arr 169 (.tmp 1) (.tmp 17) (by kernel_rfl) go 0 (by kernel_rfl) .i64 i (by kernel_rfl) _ _ 1 Tryz.underlying169 (by kernel_rfl) (by omega))) <| spq (uN (Kec.g (Kec.outn (7 * i + j)) i)) (exec_ld 24 (.tmp 18) go i Tryz.underlying24 (rc (h31) (Wz_get _ i (by rw [Kec.outn_len]; omega)))) <| skq (iN j) <| spq (uN (1 <<< j)) (exec_cast (congrArg (fun n : Nat => Value.int .u64 (n : Int)) (shl1 j (by omega)).1) (exec_binop .shl 186 3 (.const (.int .u64 1)) (.tmp 20) (by kernel_rfl) (uN 1) (iN j) _ (by kernel_rfl) (by kernel_rfl) (by kernel_rfl) (run_shlU _ _ 1 j (by omega)))) <| spq (uN (1 <<< j - 1)) (exec_cast (v := .int .u64 (IntKind.u64.wrap (((1 <<< j : Nat) : Int) - 1))) (congrArg (Value.int .u64) (by rw [show ((1 <<< j : Nat) : Int) - (1 : Int) = ((1 <<< j - 1 : Nat) : Int) by omega]; exact wrapU _ (by omega))) (by kernel_rfl)) <| spq (uN ((1 <<< (1 <<< j - 1)) % Kec.W)) (exec_binop .shl 24 186 (.const (.int .u64 1)) (.tmp 22) (by kernel_rfl) (uN 1) (uN (1 <<< j - 1)) _ (by kernel_rfl) (by kernel_rfl) (by kernel_rfl) (run_shlU _ _ 1 _ (by omega))) <| spq (uN ((Kec.g (Kec.outn (7 * i + j)) i) ||| ((1 <<< (1 <<< j - 1)) % Kec.W))) (exec_cast (orU (Kec.g (Kec.outn (7 * i + j)) i) ((1 <<< (1 <<< j - 1)) % Kec.W) (Kec.ws_outn _ _) (Nat.mod_lt _ Kec.W_pos)) (by kernel_rfl)) <| spq (pT go i) (exec_cast (v := pT go (0 + i * 1)) (by simp) (exec_indexAt_arr 169 (.tmp 1) (.tmp 16) (by kernel_rfl) go 0 (by kernel_rfl) .i64 i (by kernel_rfl) _ _ 1 Tryz.underlying169 (by kernel_rfl) (by omega))) <| st_end ?_
          obtain ⟨V33, eV33, kV33⟩ := cell_step V29 go i (.int .u64 (((Kec.g (Kec.outn (7 * i + j)) i) ||| ((1 <<< (1 <<< j - 1)) % Kec.W) : Nat) : Int))
          have h34 : V33.heap[go]? = some (.cells (Wz (Kec.outn (7 * i + (j + 1)))) 169 (0, 0)) := eV33 ▸ ((heap_setCell_same _ go i _ _ (.int .u64 (((Kec.g (Kec.outn (7 * i + j)) i) ||| ((1 <<< (1 <<< j - 1)) % Kec.W) : Nat) : Int)) h31).trans (congrArg (fun c => some (Obj.cells c 169 (0, 0))) (show (Wz (Kec.outn (7 * i + j)) : Array Value).setIfInBounds i (.int .u64 (((Kec.g (Kec.outn (7 * i + j)) i) ||| ((1 <<< (1 <<< j - 1)) % Kec.W) : Nat) : Int)) = Wz (Kec.outn (7 * i + (j + 1))) from by rw [Wz_set]; exact congrArg Wz (outn_odd i j r2 lt_j hr2 hodd))))
          refine ls_skip (qo85_0 1001762 10) (w' := V33) (by kernel_rfl) (by rw [← eV33]; exact exec_store_cell 24 (.tmp 25) (.tmp 24) (by kernel_rfl) go i (by kernel_rfl) (.int .u64 (((Kec.g (Kec.outn (7 * i + j)) i) ||| ((1 <<< (1 <<< j - 1)) % Kec.W) : Nat) : Int)) (by kernel_rfl) (by kernel_rfl) (by kernel_rfl) (.int .u64 ((Kec.g (Kec.outn (7 * i + j)) i : Nat) : Int)) (rc (h31) (Wz_get _ i (by rw [Kec.outn_len]; omega))) (frozen_of_row _ _ _ _ _ h31) (by kernel_rfl)) ?_
          clear eV33
          have h35 := kV33.bo h30 (by omega)
          have K36 := K32.no kV33 (by omega)
          refine ls_end <| then_n <| sy_sq (qc85_0 500882) (qc85_0 500883) <| sy_reg <| rg_q 11 [0, 1, 2] <| pkq (iN r2) <| ppq (iN (2 * r2)) (exec_cast (congrArg (Value.int .i64) (wrapN (2 * r2) (by omega))) (by kernel_rfl)) <| pkq (iN (2 * r2)) <| ps_end <| then_n <| sy_sq (qc85_0 1001766) (qc85_0 1001767) <| sy_reg <| rg_q 12 [0, 1] <| pkq (iN (2 * r2)) ?_
          refine ppq (.bool false) (dcf ((((2 * r2 : Nat) : Int)) > ((255) : Int)) (by omega)) <| ps_end <| then_n <| sy_n (.tmp 29) (qc85_0 2003534) (qc85_0 2003535) <| sy_sk <| blk_n <| then_n <| sy_reg <| rg_q 8 [0, 1, 2] <| pkq (iN j) <| ppq (iN (j + 1)) (exec_cast (congrArg (Value.int .i64) (wrapN (j + 1) (by omega))) (by kernel_rfl)) <| pkq (iN (j + 1)) <| ps_end <| sy_a ⟨#[pT gr 0, pT go 0, iN (2 * r2), iN i, iN (j + 1), iN i, .bool true, u7, u8, iN j, .bool true, iN j, iN (j + 1), iN r2, iN (r2 % 2), .bool true, iN i, iN i, pT go i, uN (Kec.g (Kec.outn (7 * i + j)) i), iN j, uN (1 <<< j), uN (1 <<< j - 1), uN ((1 <<< (1 <<< j - 1)) % Kec.W), uN ((Kec.g (Kec.outn (7 * i + j)) i) ||| ((1 <<< (1 <<< j - 1)) % Kec.W)), pT go i, iN r2, iN (2 * r2), iN (2 * r2), .bool false, u30, u31, u32, ud], []⟩ ?_
          refine then_n ?_
          refine ⟨⟨j + 1, 2 * r2, (iN j), (.bool true), (iN j), (iN (j + 1)), (iN r2), (iN (r2 % 2)), (.bool true), (iN i), (iN i), (pT go i), (uN (Kec.g (Kec.outn (7 * i + j)) i)), (iN j), (uN (1 <<< j)), (uN (1 <<< j - 1)), (uN ((1 <<< (1 <<< j - 1)) % Kec.W)), (uN ((Kec.g (Kec.outn (7 * i + j)) i) ||| ((1 <<< (1 <<< j - 1)) % Kec.W))), (pT go i), (iN r2), (iN (2 * r2)), (iN (2 * r2)), (.bool false), u30, u31, u32, by kernel_rfl, by omega, (by first | exact regn_big _ _ hr2 hbig | exact regn_small _ _ hr2 hbig), h35, h34, K36⟩, ?_⟩
          exact lt_meas (x := 7 - (j + 1)) (y := 7 - j) (by kernel_rfl) (by kernel_rfl) (by omega)
        · have hr3 : r2 < 256 := by rw [hr2]; exact Kec.regn_lt _
          have s1 := shl1 j lt_j
          obtain ⟨_, s2, s3⟩ := s1
          refine sy_sq (qc85_0 31304) (qc85_0 31305) <| sy_sq (qc85_0 62608) (qc85_0 62609) <| sy_reg <| rg_q 7 [0, 1] <| pkq (iN j) <| ppq (.bool true) (dct ((((j : Nat) : Int)) < ((7) : Int)) (by omega)) <| ps_end <| then_n <| sy_ys (.tmp 10) (qc85_0 125218) (qc85_0 125219) <| sy_sk <| then_n <| sy_sq (qc85_0 62610) (qc85_0 62611) <| sy_bk 3 (qc85_0 125220) <| sy_sq (qc85_0 250440) (qc85_0 250441) ?_
          refine sy_sq (qc85_0 500880) (qc85_0 500881) <| sy_reg <| rg_q 9 [0, 1, 2] <| pkq (iN r2) <| pkq (iN (r2 % 2)) <| ppq (.bool false) (eqf (((r2 % 2 : Nat) : Int)) ((1) : Int) (by omega)) <| ps_end <| then_n <| sy_n (.tmp 15) (qc85_0 1001762) (qc85_0 1001763) <| sy_sk <| then_n <| sy_sq (qc85_0 500882) (qc85_0 500883) <| sy_reg <| rg_q 11 [0, 1, 2] ?_
          refine pkq (iN r2) <| ppq (iN (2 * r2)) (exec_cast (congrArg (Value.int .i64) (wrapN (2 * r2) (by omega))) (by kernel_rfl)) <| pkq (iN (2 * r2)) <| ps_end <| then_n <| sy_sq (qc85_0 1001766) (qc85_0 1001767) <| sy_reg <| rg_q 12 [0, 1] <| pkq (iN (2 * r2)) <| ppq (.bool true) (dct ((((2 * r2 : Nat) : Int)) > ((255) : Int)) (by omega)) <| ps_end <| then_n <| sy_ys (.tmp 29) (qc85_0 2003534) (qc85_0 2003535) <| sy_reg ?_
          refine rg_q 13 [0, 1, 2, 3] <| pkq (iN (2 * r2)) <| pkq (iN ((2 * r2) % 256)) <| ppq (iN (2 * r2 % 256 ^^^ 113)) (exec_cast (xor113 (2 * r2 % 256) (by omega)) (by kernel_rfl)) <| pkq (iN (2 * r2 % 256 ^^^ 113)) <| ps_end <| blk_n <| then_n <| sy_reg <| rg_q 8 [0, 1, 2] <| pkq (iN j) <| ppq (iN (j + 1)) (exec_cast (congrArg (Value.int .i64) (wrapN (j + 1) (by omega))) (by kernel_rfl)) <| pkq (iN (j + 1)) <| ps_end ?_
          refine then_n ?_
          refine ⟨⟨j + 1, 2 * r2 % 256 ^^^ 113, (iN j), (.bool true), (iN j), (iN (j + 1)), (iN r2), (iN (r2 % 2)), (.bool false), u16, u17, u18, u19, u20, u21, u22, u23, u24, u25, (iN r2), (iN (2 * r2)), (iN (2 * r2)), (.bool true), (iN (2 * r2)), (iN ((2 * r2) % 256)), (iN (2 * r2 % 256 ^^^ 113)), by kernel_rfl, by omega, (by first | exact regn_big _ _ hr2 hbig | exact regn_small _ _ hr2 hbig), h16, h17.trans (by rw [outn_even i j r2 lt_i lt_j hr2 hodd]), K18⟩, ?_⟩
          exact lt_meas (x := 7 - (j + 1)) (y := 7 - j) (by kernel_rfl) (by kernel_rfl) (by omega)
        · have hr3 : r2 < 256 := by rw [hr2]; exact Kec.regn_lt _
          have s1 := shl1 j lt_j
          obtain ⟨_, s2, s3⟩ := s1
          refine sy_sq (qc85_0 31304) (qc85_0 31305) <| sy_sq (qc85_0 62608) (qc85_0 62609) <| sy_reg <| rg_q 7 [0, 1] <| pkq (iN j) <| ppq (.bool true) (dct ((((j : Nat) : Int)) < ((7) : Int)) (by omega)) <| ps_end <| then_n <| sy_ys (.tmp 10) (qc85_0 125218) (qc85_0 125219) <| sy_sk <| then_n <| sy_sq (qc85_0 62610) (qc85_0 62611) <| sy_bk 3 (qc85_0 125220) <| sy_sq (qc85_0 250440) (qc85_0 250441) ?_
          refine sy_sq (qc85_0 500880) (qc85_0 500881) <| sy_reg <| rg_q 9 [0, 1, 2] <| pkq (iN r2) <| pkq (iN (r2 % 2)) <| ppq (.bool false) (eqf (((r2 % 2 : Nat) : Int)) ((1) : Int) (by omega)) <| ps_end <| then_n <| sy_n (.tmp 15) (qc85_0 1001762) (qc85_0 1001763) <| sy_sk <| then_n <| sy_sq (qc85_0 500882) (qc85_0 500883) <| sy_reg <| rg_q 11 [0, 1, 2] ?_
          refine pkq (iN r2) <| ppq (iN (2 * r2)) (exec_cast (congrArg (Value.int .i64) (wrapN (2 * r2) (by omega))) (by kernel_rfl)) <| pkq (iN (2 * r2)) <| ps_end <| then_n <| sy_sq (qc85_0 1001766) (qc85_0 1001767) <| sy_reg <| rg_q 12 [0, 1] <| pkq (iN (2 * r2)) <| ppq (.bool false) (dcf ((((2 * r2 : Nat) : Int)) > ((255) : Int)) (by omega)) <| ps_end <| then_n <| sy_n (.tmp 29) (qc85_0 2003534) (qc85_0 2003535) <| sy_sk ?_
          refine blk_n <| then_n <| sy_reg <| rg_q 8 [0, 1, 2] <| pkq (iN j) <| ppq (iN (j + 1)) (exec_cast (congrArg (Value.int .i64) (wrapN (j + 1) (by omega))) (by kernel_rfl)) <| pkq (iN (j + 1)) <| ps_end <| then_n ?_
          refine ⟨⟨j + 1, 2 * r2, (iN j), (.bool true), (iN j), (iN (j + 1)), (iN r2), (iN (r2 % 2)), (.bool false), u16, u17, u18, u19, u20, u21, u22, u23, u24, u25, (iN r2), (iN (2 * r2)), (iN (2 * r2)), (.bool false), u30, u31, u32, by kernel_rfl, by omega, (by first | exact regn_big _ _ hr2 hbig | exact regn_small _ _ hr2 hbig), h16, h17.trans (by rw [outn_even i j r2 lt_i lt_j hr2 hodd]), K18⟩, ?_⟩
          exact lt_meas (x := 7 - (j + 1)) (y := 7 - j) (by kernel_rfl) (by kernel_rfl) (by omega)
        · have eq_j : j = 7 := by omega
          refine sy_sq (qc85_0 31304) (qc85_0 31305) <| sy_sq (qc85_0 62608) (qc85_0 62609) <| sy_reg <| rg_q 7 [0, 1] <| pkq (iN j) <| ppq (.bool false) (dcf ((((j : Nat) : Int)) < ((7) : Int)) (by omega)) <| ps_end <| then_n <| sy_n (.tmp 10) (qc85_0 125218) (qc85_0 125219) <| sy_exit 2 (by kernel_rfl) <| then_e <| then_e <| blk_e <| blk_n ?_
          refine then_n <| sy_reg <| rg_q 5 [0, 1, 2] <| pkq (iN i) <| ppq (iN (i + 1)) (exec_cast (congrArg (Value.int .i64) (wrapN (i + 1) (by omega))) (by kernel_rfl)) <| pkq (iN (i + 1)) <| ps_end <| then_n ?_
          refine ⟨⟨i + 1, r2, (iN j), (iN i), (.bool true), (iN i), (iN (i + 1)), (iN j), (.bool false), u11, u12, u13, u14, u15, u16, u17, u18, u19, u20, u21, u22, u23, u24, u25, u26, u27, u28, u29, u30, u31, u32, by kernel_rfl, by omega, hr2.trans (congrArg Kec.regn (by omega)), h16, h17.trans (congrArg (fun n => some (Obj.cells (Wz (Kec.outn n)) 169 (0, 0))) (by omega)), K18⟩, ?_⟩
          exact lt_meas (x := 24 - (i + 1)) (y := 24 - i) (by kernel_rfl) (by kernel_rfl) (by omega)
    · have eq_i : i = 24 := by omega
      have h37 : V11.heap[go]? = some (.cells (Wz Kec.K) 169 (0, 0)) := (h13.trans (congrArg (fun n => some (Obj.cells (Wz (Kec.outn n)) 169 (0, 0))) (show 7 * i = 168 by omega))).trans (congrArg (fun l => some (Obj.cells (Wz l) 169 (0, 0))) Kec.outn_K)
      refine sy_sq (qc85_0 488) (qc85_0 489) <| sy_sq (qc85_0 976) (qc85_0 977) <| sy_reg <| rg_q 4 [0, 1] <| pkq (iN i) <| ppq (.bool false) (dcf ((((i : Nat) : Int)) < ((24) : Int)) (by omega)) <| ps_end <| then_n <| sy_n (.tmp 6) (qc85_0 1954) (qc85_0 1955) <| sy_exit 0 (by kernel_rfl) <| then_e <| then_e <| blk_e <| then_n ?_
      refine sy_sq (qc85_0 62) (qc85_0 63) <| sy_reg <| rg_q 14 [0, 1] <| ppq (.agg (Wz Kec.K)) (exec_load_row 169 (.tmp 1) (by kernel_rfl) go (by kernel_rfl) _ _ (0, 0) _ (h37) Tryz.underlying169 rfl (by rw [Wz_size, K_len]; kernel_rfl)) ?_
      obtain ⟨V38, eV38, kV38⟩ := rowset_step V11 gr ((Wz Kec.K))
      have h39 : V38.heap[gr]? = some (.cells (Wz Kec.K) 169 (0, 0)) := eV38 ▸ setRow_heap _ _ _ _ _ _ h12
      refine pzq (w' := V38) (by rw [← eV38]; exact exec_store_row 169 (.tmp 0) (.tmp 33) (by kernel_rfl) gr ((Wz Kec.K)) (by kernel_rfl) (by kernel_rfl) 169 (zr_u64_24) h12 (by kernel_rfl) (by kernel_rfl) (Wz_one _)) ?_
      clear eV38
      have K41 := K14.no kV38 (by omega)
      refine ps_end <| then_n <| sy_ret (by kernel_rfl) <| sy_out (.agg (Wz Kec.K)) rfl (results_cell_row (p := 0) (ty := 169) (by kernel_rfl) _ _ gr 169 (Wz Kec.K) (0, 0) _ (by kernel_rfl) h39 Tryz.underlying169 rfl (by rw [Wz_size, K_len]; kernel_rfl)) ?_
      exact ⟨rfl, K41⟩
end Go.Proofs.YtcbfnflnokoacaaGreat
namespace Go.Proofs.YtcbfnflnokoacaaGreat
set_option maxRecDepth 100000
set_option maxHeartbeats 4000000
open Go Go.RowKit Go.Own Go.Shelf
noncomputable def qc86_1 (n : Nat) : Code := partOf Tryz.f137 n
noncomputable abbrev qo86_1 (n k : Nat) : Oper := (opsAt (qc86_1 n)).getD k default
theorem hround_ok (s : List Nat) (k : Nat) (w : World) (hs : s.length = 25) (ws : Kec.Ws s) (hk : k < Kec.W) :
    Calls Tryz.prog 137 #[.agg (Wz s), .int .u64 ((k : Nat) : Int)] w (fun e w' => e = .returned (.agg (Wz (Kec.round s k))) ∧ Keeps Nob w w') := by
  have K0 : Keeps Nob w w := Keeps.refl _ _
  refine sy_enter (qc86_1 1) ⟨#[.agg (Wz s), uN k, ud, ud, ud, ud, ud, ud, ud, ud, ud, ud, ud, ud, ud, ud, ud, ud, ud, ud, ud, ud, ud, ud, ud, ud, ud, ud, ud, ud, ud, ud, ud, ud, ud, ud, ud, ud, ud, ud, ud, ud, ud, ud, ud, ud, ud, ud, ud, ud, ud, ud, ud, ud, ud, ud, ud, ud, ud, ud, ud, ud, ud, ud, ud, ud, ud, ud, ud, ud, ud, ud, ud, ud, ud, ud, ud, ud, ud, ud, ud, ud, ud, ud, ud, ud, ud, ud, ud, ud, ud, ud, ud, ud, ud, ud, ud, ud, ud, ud, ud, ud, ud, ud, ud, ud, ud, ud, ud, ud, ud, ud, ud, ud], []⟩ Tryz.func137 (by kernel_rfl) (by kernel_rfl) <| sy_sq (qc86_1 2) (qc86_1 3) <| sy_reg <| rg_q 0 [0, 1] ?_
  obtain ⟨V1, eV1, ga, ega, h2, kV1⟩ := alloc_step w ((Wz s)) 148
  have n3 : w.heap.size ≤ ga := ega ▸ K0.size
  refine prq (pT ga 0) (w' := V1) (by rw [← eV1, ← ega]; exact exec_box 148 (.tmp 0) (by kernel_rfl) (.agg (Wz s)) (by kernel_rfl)) ?_
  clear eV1
  have K4 := K0.nn kV1
  obtain ⟨V5, eV5, gr, egr, h6, kV5⟩ := alloc_step V1 (zr_u64_25) 148
  have n7 : ga < gr := egr ▸ lt_of_block h2
  have n8 : w.heap.size ≤ gr := egr ▸ K4.size
  refine prq (pT gr 0) (w' := V5) (by rw [← eV5, ← egr]; exact exec_alloc0 148 (by kernel_rfl) (.agg (zr_u64_25)) (by kernel_rfl)) ?_
  clear eV5
  have h9 := kV5.bk h2
  have K10 := K4.nn kV5
  refine ps_end <| then_n <| sy_sq (qc86_1 6) (qc86_1 7) <| sy_reg <| rg_q 1 [0] ?_
  obtain ⟨V11, eV11, gc, egc, h12, kV11⟩ := alloc_step V5 (zr_u64_5) 187
  have n13 : ga < gc := egc ▸ lt_of_block h9
  have n14 : gr < gc := egc ▸ lt_of_block h6
  have n15 : w.heap.size ≤ gc := egc ▸ K10.size
  refine prq (pT gc 0) (w' := V11) (by rw [← eV11, ← egc]; exact exec_alloc0 187 (by kernel_rfl) (.agg (zr_u64_5)) (by kernel_rfl)) ?_
  clear eV11
  have h16 := kV11.bk h9
  have h17 := kV11.bk h6
  have K18 := K10.nn kV11
  refine ps_end <| then_n <| sy_sq (qc86_1 14) (qc86_1 15) <| sy_sq (qc86_1 28) (qc86_1 29) <| sy_reg <| rg_q 2 [0] <| pkq (.int .i64 0) <| ps_end <| then_n <| sy_bk 0 (qc86_1 58) ?_
  refine sy_loop (qc86_1 116) (fun a V => ∃ (x : Nat) (u7 u15 u16 u17 u18 u19 u20 u21 u22 u23 u24 u25 u26 u27 u28 u29 u30 u31 u32 u33 : Value), (a = ⟨#[.agg (Wz s), uN k, pT ga 0, ud, pT gr 0, pT gc 0, iN x, u7, ud, ud, ud, ud, ud, ud, ud, u15, u16, u17, u18, u19, u20, u21, u22, u23, u24, u25, u26, u27, u28, u29, u30, u31, u32, u33, ud, ud, ud, ud, ud, ud, ud, ud, ud, ud, ud, ud, ud, ud, ud, ud, ud, ud, ud, ud, ud, ud, ud, ud, ud, ud, ud, ud, ud, ud, ud, ud, ud, ud, ud, ud, ud, ud, ud, ud, ud, ud, ud, ud, ud, ud, ud, ud, ud, ud, ud, ud, ud, ud, ud, ud, ud, ud, ud, ud, ud, ud, ud, ud, ud, ud, ud, ud, ud, ud, ud, ud, ud, ud, ud, ud, ud, ud, ud, ud], []⟩) ∧ (x ≤ 5) ∧ (V.heap[ga]? = some (.cells (Wz s) 148 (0, 0))) ∧ (V.heap[gr]? = some (.cells (zr_u64_25) 148 (0, 0))) ∧ (V.heap[gc]? = some (.cells (Wz (ccn s (5 * x))) 187 (0, 0))) ∧ (Keeps Nob w V)) (fun a _ => 5 - (intOf (a.tmps.getD 6 undef)).toNat) (by kernel_rfl) ?_ ?_
  · exact ⟨0, undef, undef, undef, undef, undef, undef, undef, undef, undef, undef, undef, undef, undef, undef, undef, undef, undef, undef, undef, undef, by kernel_rfl, by omega, h16, h17, h12.trans (by kernel_rfl), K18⟩
  · rintro a V19 ⟨x, u7, u15, u16, u17, u18, u19, u20, u21, u22, u23, u24, u25, u26, u27, u28, u29, u30, u31, u32, u33, rfl, hx, h20, h21, h22, K23⟩
    by_cases lt_x : x < 5
    · show _
      refine sy_sq (qc86_1 232) (qc86_1 233) <| sy_sq (qc86_1 464) (qc86_1 465) <| sy_reg <| rg_q 3 [0, 1] <| pkq (iN x) <| ppq (.bool true) (dct ((((x : Nat) : Int)) < ((5) : Int)) (by omega)) <| ps_end <| then_n <| sy_ys (.tmp 16) (qc86_1 930) (qc86_1 931) <| sy_sk <| then_n <| sy_sq (qc86_1 466) (qc86_1 467) <| sy_bk 1 (qc86_1 932) <| sy_sq (qc86_1 1864) (qc86_1 1865) ?_
      refine sy_reg <| rg_q 5 [0] <| pkq (.int .i64 0) <| ps_end <| then_n <| sy_bk 2 (qc86_1 3730) ?_
      refine sy_loop (qc86_1 7460) (fun a V => ∃ (y : Nat) (u19 u20 u21 u22 u23 u24 u25 u26 u27 u28 u29 u30 u31 u32 u33 : Value), (a = ⟨#[.agg (Wz s), uN k, pT ga 0, ud, pT gr 0, pT gc 0, iN x, iN y, ud, ud, ud, ud, ud, ud, ud, iN x, .bool true, u17, u18, u19, u20, u21, u22, u23, u24, u25, u26, u27, u28, u29, u30, u31, u32, u33, ud, ud, ud, ud, ud, ud, ud, ud, ud, ud, ud, ud, ud, ud, ud, ud, ud, ud, ud, ud, ud, ud, ud, ud, ud, ud, ud, ud, ud, ud, ud, ud, ud, ud, ud, ud, ud, ud, ud, ud, ud, ud, ud, ud, ud, ud, ud, ud, ud, ud, ud, ud, ud, ud, ud, ud, ud, ud, ud, ud, ud, ud, ud, ud, ud, ud, ud, ud, ud, ud, ud, ud, ud, ud, ud, ud, ud, ud, ud, ud], []⟩) ∧ (y ≤ 5) ∧ (V.heap[ga]? = some (.cells (Wz s) 148 (0, 0))) ∧ (V.heap[gr]? = some (.cells (zr_u64_25) 148 (0, 0))) ∧ (V.heap[gc]? = some (.cells (Wz (ccn s (5 * x + y))) 187 (0, 0))) ∧ (Keeps Nob w V)) (fun a _ => 5 - (intOf (a.tmps.getD 7 undef)).toNat) (by kernel_rfl) ?_ ?_
      · exact ⟨0, u19, u20, u21, u22, u23, u24, u25, u26, u27, u28, u29, u30, u31, u32, u33, by kernel_rfl, by omega, h20, h21, h22, K23⟩
      · rintro a V24 ⟨y, u19, u20, u21, u22, u23, u24, u25, u26, u27, u28, u29, u30, u31, u32, u33, rfl, hy, h25, h26, h27, K28⟩
        by_cases lt_y : y < 5
        · have ha1 := Kec.at_lt x y
          refine sy_sq (qc86_1 14920) (qc86_1 14921) <| sy_sq (qc86_1 29840) (qc86_1 29841) <| sy_reg <| rg_q 6 [0, 1] <| pkq (iN y) <| ppq (.bool true) (dct ((((y : Nat) : Int)) < ((5) : Int)) (by omega)) <| ps_end <| then_n <| sy_ys (.tmp 20) (qc86_1 59682) (qc86_1 59683) <| sy_sk <| then_n <| sy_sq (qc86_1 29842) (qc86_1 29843) <| sy_bk 3 (qc86_1 59684) <| sy_reg ?_
          refine rg_still 8 11 (opsAt (qc86_1 59684)) [qo86_1 59684 0, qo86_1 59684 1, qo86_1 59684 2, qo86_1 59684 3, qo86_1 59684 4, qo86_1 59684 5, qo86_1 59684 6, qo86_1 59684 7, qo86_1 59684 8, qo86_1 59684 9, qo86_1 59684 10] [qo86_1 59684 11] (by kernel_rfl) (by kernel_rfl) (by kernel_rfl) (by kernel_rfl) (by kernel_rfl) ?_
          obtain ⟨V30, eV30, kV30⟩ := drew_step V24
          rw [eV30]
          clear eV30
          have h31 := kV30.bk h25
          have h32 := kV30.bk h26
          have h33 := kV30.bk h27
          have K34 := K28.nn kV30
          refine skq (iN x) <| skq (iN x) <| spq (pT gc x) (exec_cast (v := pT gc (0 + x * 1)) (by simp) (exec_indexAt_arr 187 (.tmp 5) (.tmp 24) (by kernel_rfl) gc 0 (by kernel_rfl) .i64 x (by kernel_rfl) _ _ 1 Tryz.underlying187 (by kernel_rfl) (by omega))) <| spq (uN (Kec.g (ccn s (5 * x + y)) x)) (exec_ld 24 (.tmp 25) gc x Tryz.underlying24 (rc (h33) (Wz_get _ x (by rw [ccn_len]; omega)))) <| skq (iN x) <| skq (iN y) <| scq 154 #[iN x, iN y] (iN (Kec.at_ x y)) Tryz.func154 (hat_ok x y _ _ (by omega) (by omega) rfl) <| spq (.pointer (some ⟨ga, Kec.at_ x y, none⟩)) (exec_cast (v := .pointer (some ⟨ga, 0 + (Kec.at_ x y) * 1, none⟩)) (by simp) (exec_indexAt_arr 148 (.tmp 2) (.tmp 29) (by kernel_rfl) ga 0 (by kernel_rfl) .i64 (Kec.at_ x y) (by kernel_rfl) _ _ 1 Tryz.underlying148 (by kernel_rfl) (by omega))) <| spq (uN (Kec.g s (Kec.at_ x y))) (exec_ld 24 (.tmp 30) ga (Kec.at_ x y) Tryz.underlying24 (rc (h31) (Wz_get _ (Kec.at_ x y) (by rw [hs]; omega)))) <| spq (uN ((Kec.g (ccn s (5 * x + y)) x) ^^^ (Kec.g s (Kec.at_ x y)))) (exec_cast (xorU (Kec.g (ccn s (5 * x + y)) x) (Kec.g s (Kec.at_ x y)) (ws_ccn ws _ _) (ws _)) (by kernel_rfl)) <| spq (pT gc x) (exec_cast (v := pT gc (0 + x * 1)) (by simp) (exec_indexAt_arr 187 (.tmp 5) (.tmp 23) (by kernel_rfl) gc 0 (by kernel_rfl) .i64 x (by kernel_rfl) _ _ 1 Tryz.underlying187 (by kernel_rfl) (by omega))) <| st_end ?_
          obtain ⟨V35, eV35, kV35⟩ := cell_step V30 gc x (.int .u64 (((Kec.g (ccn s (5 * x + y)) x) ^^^ (Kec.g s (Kec.at_ x y)) : Nat) : Int))
          have h36 : V35.heap[gc]? = some (.cells (Wz (ccn s (5 * x + (y + 1)))) 187 (0, 0)) := eV35 ▸ ((heap_setCell_same _ gc x _ _ (.int .u64 (((Kec.g (ccn s (5 * x + y)) x) ^^^ (Kec.g s (Kec.at_ x y)) : Nat) : Int)) h33).trans (congrArg (fun c => some (Obj.cells c 187 (0, 0))) (show (Wz (ccn s (5 * x + y)) : Array Value).setIfInBounds x (.int .u64 (((Kec.g (ccn s (5 * x + y)) x) ^^^ (Kec.g s (Kec.at_ x y)) : Nat) : Int)) = Wz (ccn s (5 * x + (y + 1))) from by rw [Wz_set]; exact congrArg Wz (ccn_succ s x y lt_y))))
          refine ls_skip (qo86_1 59684 11) (w' := V35) (by kernel_rfl) (by rw [← eV35]; exact exec_store_cell 24 (.tmp 33) (.tmp 32) (by kernel_rfl) gc x (by kernel_rfl) (.int .u64 (((Kec.g (ccn s (5 * x + y)) x) ^^^ (Kec.g s (Kec.at_ x y)) : Nat) : Int)) (by kernel_rfl) (by kernel_rfl) (by kernel_rfl) (.int .u64 ((Kec.g (ccn s (5 * x + y)) x : Nat) : Int)) (rc (h33) (Wz_get _ x (by rw [ccn_len]; omega))) (frozen_of_row _ _ _ _ _ h33) (by kernel_rfl)) ?_
          clear eV35
          have h37 := kV35.bo h31 (by omega)
          have h38 := kV35.bo h32 (by omega)
          have K39 := K34.no kV35 (by omega)
          refine ls_end <| blk_n <| then_n <| sy_reg <| rg_q 7 [0, 1, 2] <| pkq (iN y) <| ppq (iN (y + 1)) (exec_cast (congrArg (Value.int .i64) (wrapN (y + 1) (by omega))) (by kernel_rfl)) <| pkq (iN (y + 1)) <| ps_end <| then_n ?_
          refine ⟨⟨y + 1, (iN y), (.bool true), (iN y), (iN (y + 1)), (iN x), (iN x), (pT gc x), (uN (Kec.g (ccn s (5 * x + y)) x)), (iN x), (iN y), (iN (Kec.at_ x y)), (.pointer (some ⟨ga, Kec.at_ x y, none⟩)), (uN (Kec.g s (Kec.at_ x y))), (uN ((Kec.g (ccn s (5 * x + y)) x) ^^^ (Kec.g s (Kec.at_ x y)))), (pT gc x), by kernel_rfl, by omega, h37, h38, h36, K39⟩, ?_⟩
          exact lt_meas (x := 5 - (y + 1)) (y := 5 - y) (by kernel_rfl) (by kernel_rfl) (by omega)
        · have eq_y : y = 5 := by omega
          refine sy_sq (qc86_1 14920) (qc86_1 14921) <| sy_sq (qc86_1 29840) (qc86_1 29841) <| sy_reg <| rg_q 6 [0, 1] <| pkq (iN y) <| ppq (.bool false) (dcf ((((y : Nat) : Int)) < ((5) : Int)) (by omega)) <| ps_end <| then_n <| sy_n (.tmp 20) (qc86_1 59682) (qc86_1 59683) <| sy_exit 2 (by kernel_rfl) <| then_e <| then_e <| blk_e <| blk_n ?_
          refine then_n <| sy_reg <| rg_q 4 [0, 1, 2] <| pkq (iN x) <| ppq (iN (x + 1)) (exec_cast (congrArg (Value.int .i64) (wrapN (x + 1) (by omega))) (by kernel_rfl)) <| pkq (iN (x + 1)) <| ps_end <| then_n ?_
          refine ⟨⟨x + 1, (iN y), (iN x), (.bool true), (iN x), (iN (x + 1)), (iN y), (.bool false), u21, u22, u23, u24, u25, u26, u27, u28, u29, u30, u31, u32, u33, by kernel_rfl, by omega, h25, h26, h27.trans (congrArg (fun n => some (Obj.cells (Wz (ccn s n)) 187 (0, 0))) (show 5 * x + y = 5 * (x + 1) by omega)), K28⟩, ?_⟩
          exact lt_meas (x := 5 - (x + 1)) (y := 5 - x) (by kernel_rfl) (by kernel_rfl) (by omega)
    · have eq_x : x = 5 := by omega
      have h40 : V19.heap[gc]? = some (.cells (Wz ((List.range 5).map (Kec.col s))) 187 (0, 0)) := (h22.trans (congrArg (fun n => some (Obj.cells (Wz (ccn s n)) 187 (0, 0))) (show 5 * x = 25 by omega))).trans (congrArg (fun l => some (Obj.cells (Wz l) 187 (0, 0))) (ccn_all s))
      refine sy_sq (qc86_1 232) (qc86_1 233) <| sy_sq (qc86_1 464) (qc86_1 465) <| sy_reg <| rg_q 3 [0, 1] <| pkq (iN x) <| ppq (.bool false) (dcf ((((x : Nat) : Int)) < ((5) : Int)) (by omega)) <| ps_end <| then_n <| sy_n (.tmp 16) (qc86_1 930) (qc86_1 931) <| sy_exit 0 (by kernel_rfl) <| then_e <| then_e <| blk_e <| then_n ?_
      refine sy_sq (qc86_1 30) (qc86_1 31) <| sy_reg <| rg_q 9 [0, 1, 2] ?_
      refine pcq 155 #[] Tryz.func155 ((hturns_ok _).mono ?_)
      rintro e V41 ⟨rfl, kV41⟩
      refine ⟨_, rfl, ?_⟩
      have h42 := kV41.bk h20
      have h43 := kV41.bk h21
      have h44 := kV41.bk h40
      have K45 := K23.nn kV41
      obtain ⟨V46, eV46, gt, egt, h47, kV46⟩ := alloc_step V41 (zr_i64_25) 189
      have n48 : ga < gt := egt ▸ lt_of_block h42
      have n49 : gr < gt := egt ▸ lt_of_block h43
      have n50 : gc < gt := egt ▸ lt_of_block h44
      have n51 : w.heap.size ≤ gt := egt ▸ K45.size
      refine prq (pT gt 0) (w' := V46) (by rw [← eV46, ← egt]; exact exec_alloc0 189 (by kernel_rfl) (.agg (zr_i64_25)) (by kernel_rfl)) ?_
      clear eV46
      have h52 := kV46.bk h42
      have h53 := kV46.bk h43
      have h54 := kV46.bk h44
      have K55 := K45.nn kV46
      obtain ⟨V56, eV56, kV56⟩ := rowset_step V46 gt Rz
      have h57 : V56.heap[gt]? = some (.cells Rz 189 (0, 0)) := eV56 ▸ setRow_heap _ _ _ _ _ _ h47
      refine pzq (w' := V56) (by rw [← eV56]; exact exec_store_row 189 (.tmp 8) (.tmp 34) (by kernel_rfl) gt Rz (by kernel_rfl) (by kernel_rfl) 189 (zr_i64_25) h47 (by kernel_rfl) (by kernel_rfl) (by kernel_rfl)) ?_
      clear eV56
      have h58 := kV56.bo h52 (by omega)
      have h59 := kV56.bo h53 (by omega)
      have h60 := kV56.bo h54 (by omega)
      have K61 := K55.no kV56 (by omega)
      refine ps_end <| then_n <| sy_sq (qc86_1 62) (qc86_1 63) <| sy_reg <| rg_q 10 [0] ?_
      obtain ⟨V62, eV62, gb, egb, h63, kV62⟩ := alloc_step V56 (zr_u64_25) 148
      have n64 : ga < gb := egb ▸ lt_of_block h58
      have n65 : gr < gb := egb ▸ lt_of_block h59
      have n66 : gc < gb := egb ▸ lt_of_block h60
      have n67 : gt < gb := egb ▸ lt_of_block h57
      have n68 : w.heap.size ≤ gb := egb ▸ K61.size
      refine prq (pT gb 0) (w' := V62) (by rw [← eV62, ← egb]; exact exec_alloc0 148 (by kernel_rfl) (.agg (zr_u64_25)) (by kernel_rfl)) ?_
      clear eV62
      have h69 := kV62.bk h58
      have h70 := kV62.bk h59
      have h71 := kV62.bk h60
      have h72 := kV62.bk h57
      have K73 := K61.nn kV62
      refine ps_end <| then_n <| sy_sq (qc86_1 126) (qc86_1 127) <| sy_sq (qc86_1 252) (qc86_1 253) <| sy_reg <| rg_q 11 [0] <| pkq (.int .i64 0) <| ps_end <| then_n <| sy_bk 4 (qc86_1 506) ?_
      refine sy_loop (qc86_1 1012) (fun a V => ∃ (x2 : Nat) (u11 u12 u35 u36 u37 u38 u39 u40 u41 u42 u43 u44 u45 u46 u47 u48 u49 u50 u51 u52 u53 u54 u55 u56 u57 u58 u59 u60 u61 u62 u63 u64 u65 u66 u67 u68 u69 u70 u71 u72 u73 u74 u75 : Value), (a = ⟨#[.agg (Wz s), uN k, pT ga 0, ud, pT gr 0, pT gc 0, iN x, u7, pT gt 0, pT gb 0, iN x2, u11, u12, ud, ud, iN x, .bool false, u17, u18, u19, u20, u21, u22, u23, u24, u25, u26, u27, u28, u29, u30, u31, u32, u33, .agg Rz, u35, u36, u37, u38, u39, u40, u41, u42, u43, u44, u45, u46, u47, u48, u49, u50, u51, u52, u53, u54, u55, u56, u57, u58, u59, u60, u61, u62, u63, u64, u65, u66, u67, u68, u69, u70, u71, u72, u73, u74, u75, ud, ud, ud, ud, ud, ud, ud, ud, ud, ud, ud, ud, ud, ud, ud, ud, ud, ud, ud, ud, ud, ud, ud, ud, ud, ud, ud, ud, ud, ud, ud, ud, ud, ud, ud, ud, ud, ud], []⟩) ∧ (x2 ≤ 5) ∧ (V.heap[ga]? = some (.cells (Wz s) 148 (0, 0))) ∧ (V.heap[gr]? = some (.cells (zr_u64_25) 148 (0, 0))) ∧ (V.heap[gc]? = some (.cells (Wz ((List.range 5).map (Kec.col s))) 187 (0, 0))) ∧ (V.heap[gt]? = some (.cells Rz 189 (0, 0))) ∧ (V.heap[gb]? = some (.cells (Wz (mmn s (5 * x2))) 148 (0, 0))) ∧ (Keeps Nob w V)) (fun a _ => 5 - (intOf (a.tmps.getD 10 undef)).toNat) (by kernel_rfl) ?_ ?_
      · exact ⟨0, undef, undef, undef, undef, undef, undef, undef, undef, undef, undef, undef, undef, undef, undef, undef, undef, undef, undef, undef, undef, undef, undef, undef, undef, undef, undef, undef, undef, undef, undef, undef, undef, undef, undef, undef, undef, undef, undef, undef, undef, undef, undef, undef, by kernel_rfl, by omega, h69, h70, h71, h72, h63.trans (by kernel_rfl), K73⟩
      · rintro a V74 ⟨x2, u11, u12, u35, u36, u37, u38, u39, u40, u41, u42, u43, u44, u45, u46, u47, u48, u49, u50, u51, u52, u53, u54, u55, u56, u57, u58, u59, u60, u61, u62, u63, u64, u65, u66, u67, u68, u69, u70, u71, u72, u73, u74, u75, rfl, hx2, h75, h76, h77, h78, h79, K80⟩
        by_cases lt_x2 : x2 < 5
        · show _
          refine sy_sq (qc86_1 2024) (qc86_1 2025) <| sy_sq (qc86_1 4048) (qc86_1 4049) <| sy_reg <| rg_q 12 [0, 1] <| pkq (iN x2) <| ppq (.bool true) (dct ((((x2 : Nat) : Int)) < ((5) : Int)) (by omega)) <| ps_end <| then_n <| sy_ys (.tmp 36) (qc86_1 8098) (qc86_1 8099) <| sy_sk <| then_n <| sy_sq (qc86_1 4050) (qc86_1 4051) <| sy_bk 5 (qc86_1 8100) <| sy_sq (qc86_1 16200) (qc86_1 16201) ?_
          refine sy_np <| sy_reg <| an_begin 14 13 (opsAt (qc86_1 16200)) (fun W => (W.heap[gc]? = some (.cells (Wz ((List.range 5).map (Kec.col s))) 187 (0, 0)))) #[false, false, false, false, false, false, false, false, false, false, false, false, false] (by kernel_rfl) (by kernel_rfl) (by kernel_rfl) (by kernel_rfl) ?_
          obtain ⟨V81, eV81, kV81⟩ := drew_step V74
          rw [eV81]
          clear eV81
          have h82 := kV81.bk h75
          have h83 := kV81.bk h76
          have h84 := kV81.bk h77
          have h85 := kV81.bk h78
          have h86 := kV81.bk h79
          have K87 := K80.nn kV81
          refine akq 0 (iN x2) h84 <| avq 1 (iN (x2 + 4)) (fun W hS => exec_cast (congrArg (Value.int .i64) (wrapN (x2 + 4) (by omega))) (by kernel_rfl)) h84 <| akq 2 (iN ((x2 + 4) % 5)) h84 <| avq 3 (.pointer (some ⟨gc, (x2 + 4) % 5, none⟩)) (fun W hS => exec_cast (v := .pointer (some ⟨gc, 0 + ((x2 + 4) % 5) * 1, none⟩)) (by simp) (exec_indexAt_arr 187 (.tmp 5) (.tmp 41) (by kernel_rfl) gc 0 (by kernel_rfl) .i64 ((x2 + 4) % 5) (by kernel_rfl) _ _ 1 Tryz.underlying187 (by kernel_rfl) (by omega))) h84 <| avq 4 (uN (Kec.col s ((x2 + 4) % 5))) (fun W hS => exec_ld 24 (.tmp 42) gc ((x2 + 4) % 5) Tryz.underlying24 (rc (hS) (Wz_get' _ ((x2 + 4) % 5) _ (by rw [List.length_map, List.length_range]; omega) (g_map5 _ _ (by omega))))) h84 <| akq 5 (iN x2) h84 <| avq 6 (iN (x2 + 1)) (fun W hS => exec_cast (congrArg (Value.int .i64) (wrapN (x2 + 1) (by omega))) (by kernel_rfl)) h84 <| akq 7 (iN ((x2 + 1) % 5)) h84 <| avq 8 (.pointer (some ⟨gc, (x2 + 1) % 5, none⟩)) (fun W hS => exec_cast (v := .pointer (some ⟨gc, 0 + ((x2 + 1) % 5) * 1, none⟩)) (by simp) (exec_indexAt_arr 187 (.tmp 5) (.tmp 46) (by kernel_rfl) gc 0 (by kernel_rfl) .i64 ((x2 + 1) % 5) (by kernel_rfl) _ _ 1 Tryz.underlying187 (by kernel_rfl) (by omega))) h84 <| avq 9 (uN (Kec.col s ((x2 + 1) % 5))) (fun W hS => exec_ld 24 (.tmp 47) gc ((x2 + 1) % 5) Tryz.underlying24 (rc (hS) (Wz_get' _ ((x2 + 1) % 5) _ (by rw [List.length_map, List.length_range]; omega) (g_map5 _ _ (by omega))))) h84 <| an_o 10 ?_
          refine ncq 156 #[uN (Kec.col s ((x2 + 1) % 5)), .int .i64 1] Tryz.func156 ((hrot_ok (Kec.col s ((x2 + 1) % 5)) 1 _ (Kec.col_lt ws _) (by omega)).mono ?_)
          rintro e V88 ⟨rfl, kV88⟩
          refine ⟨_, rfl, ?_⟩
          have h89 := kV88.bk h82
          have h90 := kV88.bk h83
          have h91 := kV88.bk h84
          have h92 := kV88.bk h85
          have h93 := kV88.bk h86
          have K94 := K87.nn kV88
          refine ⟨h91, ?_⟩
          refine avq 11 (uN ((Kec.col s ((x2 + 4) % 5)) ^^^ (Kec.rot (Kec.col s ((x2 + 1) % 5)) 1))) (fun W hS => exec_cast (xorU (Kec.col s ((x2 + 4) % 5)) (Kec.rot (Kec.col s ((x2 + 1) % 5)) 1) (Kec.col_lt ws _) (Kec.rot_lt (Kec.col_lt ws _) _)) (by kernel_rfl)) h91 <| an_o 12 <| nrq (uN ((Kec.col s ((x2 + 4) % 5)) ^^^ (Kec.rot (Kec.col s ((x2 + 1) % 5)) 1))) (w' := V88) (by kernel_rfl) ?_
          refine ⟨h91, ?_⟩
          refine an_end (by kernel_rfl) <| then_n <| sy_sq (qc86_1 32402) (qc86_1 32403) <| sy_reg <| rg_q 15 [0] <| pkq (.int .i64 0) <| ps_end <| then_n <| sy_bk 6 (qc86_1 64806) ?_
          refine sy_loop (qc86_1 129612) (fun a V => ∃ (y2 : Nat) (u51 u52 u53 u54 u55 u56 u57 u58 u59 u60 u61 u62 u63 u64 u65 u66 u67 u68 u69 u70 u71 u72 u73 u74 u75 : Value), (a = ⟨#[.agg (Wz s), uN k, pT ga 0, ud, pT gr 0, pT gc 0, iN x, u7, pT gt 0, pT gb 0, iN x2, uN ((Kec.col s ((x2 + 4) % 5)) ^^^ (Kec.rot (Kec.col s ((x2 + 1) % 5)) 1)), iN y2, ud, ud, iN x, .bool false, u17, u18, u19, u20, u21, u22, u23, u24, u25, u26, u27, u28, u29, u30, u31, u32, u33, .agg Rz, iN x2, .bool true, u37, u38, iN x2, iN (x2 + 4), iN ((x2 + 4) % 5), .pointer (some ⟨gc, (x2 + 4) % 5, none⟩), uN (Kec.col s ((x2 + 4) % 5)), iN x2, iN (x2 + 1), iN ((x2 + 1) % 5), .pointer (some ⟨gc, (x2 + 1) % 5, none⟩), uN (Kec.col s ((x2 + 1) % 5)), uN (Kec.rot (Kec.col s ((x2 + 1) % 5)) 1), uN ((Kec.col s ((x2 + 4) % 5)) ^^^ (Kec.rot (Kec.col s ((x2 + 1) % 5)) 1)), u51, u52, u53, u54, u55, u56, u57, u58, u59, u60, u61, u62, u63, u64, u65, u66, u67, u68, u69, u70, u71, u72, u73, u74, u75, ud, ud, ud, ud, ud, ud, ud, ud, ud, ud, ud, ud, ud, ud, ud, ud, ud, ud, ud, ud, ud, ud, ud, ud, ud, ud, ud, ud, ud, ud, ud, ud, ud, ud, ud, ud, ud, ud], []⟩) ∧ (y2 ≤ 5) ∧ (V.heap[ga]? = some (.cells (Wz s) 148 (0, 0))) ∧ (V.heap[gr]? = some (.cells (zr_u64_25) 148 (0, 0))) ∧ (V.heap[gc]? = some (.cells (Wz ((List.range 5).map (Kec.col s))) 187 (0, 0))) ∧ (V.heap[gt]? = some (.cells Rz 189 (0, 0))) ∧ (V.heap[gb]? = some (.cells (Wz (mmn s (5 * x2 + y2))) 148 (0, 0))) ∧ (Keeps Nob w V)) (fun a _ => 5 - (intOf (a.tmps.getD 12 undef)).toNat) (by kernel_rfl) ?_ ?_
          · exact ⟨0, u51, u52, u53, u54, u55, u56, u57, u58, u59, u60, u61, u62, u63, u64, u65, u66, u67, u68, u69, u70, u71, u72, u73, u74, u75, by kernel_rfl, by omega, h89, h90, h91, h92, h93, K94⟩
          · rintro a V95 ⟨y2, u51, u52, u53, u54, u55, u56, u57, u58, u59, u60, u61, u62, u63, u64, u65, u66, u67, u68, u69, u70, u71, u72, u73, u74, u75, rfl, hy2, h96, h97, h98, h99, h100, K101⟩
            by_cases lt_y2 : y2 < 5
            · have ha1 := Kec.at_lt x2 y2
              have ha2 := Kec.at_lt y2 (2 * x2 + 3 * y2)
              refine sy_sq (qc86_1 259224) (qc86_1 259225) <| sy_sq (qc86_1 518448) (qc86_1 518449) <| sy_reg <| rg_q 16 [0, 1] <| pkq (iN y2) <| ppq (.bool true) (dct ((((y2 : Nat) : Int)) < ((5) : Int)) (by omega)) <| ps_end <| then_n <| sy_ys (.tmp 52) (qc86_1 1036898) (qc86_1 1036899) <| sy_sk <| then_n <| sy_sq (qc86_1 518450) (qc86_1 518451) <| sy_bk 7 (qc86_1 1036900) <| sy_np ?_
              refine sy_reg <| an_begin 18 22 (opsAt (qc86_1 1036900)) (fun W => (W.heap[ga]? = some (.cells (Wz s) 148 (0, 0))) ∧ (W.heap[gt]? = some (.cells Rz 189 (0, 0)))) #[false, false, false, false, false, false, false, false, false, false, false, false, false, false, false, false, false, false, false, false, false, false] (by kernel_rfl) (by kernel_rfl) (by kernel_rfl) (by kernel_rfl) ?_
              obtain ⟨V102, eV102, kV102⟩ := drew_step V95
              rw [eV102]
              clear eV102
              have h103 := kV102.bk h96
              have h104 := kV102.bk h97
              have h105 := kV102.bk h98
              have h106 := kV102.bk h99
              have h107 := kV102.bk h100
              have K108 := K101.nn kV102
              refine akq 0 (iN y2) ⟨h103, h106⟩ <| akq 1 (iN x2) ⟨h103, h106⟩ <| avq 2 (iN (2 * x2)) (fun W hS => exec_cast (congrArg (Value.int .i64) (wrapN (2 * x2) (by omega))) (by kernel_rfl)) ⟨h103, h106⟩ <| akq 3 (iN y2) ⟨h103, h106⟩ <| avq 4 (iN (3 * y2)) (fun W hS => exec_cast (congrArg (Value.int .i64) (wrapN (3 * y2) (by omega))) (by kernel_rfl)) ⟨h103, h106⟩ <| avq 5 (iN ((2 * x2) + (3 * y2))) (fun W hS => exec_cast (congrArg (Value.int .i64) (wrapN ((2 * x2) + (3 * y2)) (by omega))) (by kernel_rfl)) ⟨h103, h106⟩ <| akq 7 (iN x2) ⟨h103, h106⟩ <| akq 8 (iN y2) ⟨h103, h106⟩ <| akq 12 (uN ((Kec.col s ((x2 + 4) % 5)) ^^^ (Kec.rot (Kec.col s ((x2 + 1) % 5)) 1))) ⟨h103, h106⟩ <| akq 14 (iN x2) ⟨h103, h106⟩ <| akq 15 (iN y2) ⟨h103, h106⟩ <| an_o 6 ?_
              refine ncq 154 #[iN y2, iN ((2 * x2) + (3 * y2))] Tryz.func154 ((hat_ok y2 ((2 * x2) + (3 * y2)) _ _ (by omega) (by omega) rfl).mono ?_)
              rintro e w1 ⟨rfl, rfl⟩
              refine ⟨_, rfl, ?_⟩
              refine ⟨⟨h103, h106⟩, ?_⟩
              refine an_o 9 ?_
              refine ncq 154 #[iN x2, iN y2] Tryz.func154 ((hat_ok x2 y2 _ _ (by omega) (by omega) rfl).mono ?_)
              rintro e w1 ⟨rfl, rfl⟩
              refine ⟨_, rfl, ?_⟩
              refine ⟨⟨h103, h106⟩, ?_⟩
              refine avq 10 (.pointer (some ⟨ga, Kec.at_ x2 y2, none⟩)) (fun W hS => exec_cast (v := .pointer (some ⟨ga, 0 + (Kec.at_ x2 y2) * 1, none⟩)) (by simp) (exec_indexAt_arr 148 (.tmp 2) (.tmp 64) (by kernel_rfl) ga 0 (by kernel_rfl) .i64 (Kec.at_ x2 y2) (by kernel_rfl) _ _ 1 Tryz.underlying148 (by kernel_rfl) (by omega))) ⟨h103, h106⟩ <| avq 11 (uN (Kec.g s (Kec.at_ x2 y2))) (fun W hS => exec_ld 24 (.tmp 65) ga (Kec.at_ x2 y2) Tryz.underlying24 (rc (hS.1) (Wz_get _ (Kec.at_ x2 y2) (by rw [hs]; omega)))) ⟨h103, h106⟩ <| avq 13 (uN ((Kec.g s (Kec.at_ x2 y2)) ^^^ ((Kec.col s ((x2 + 4) % 5)) ^^^ (Kec.rot (Kec.col s ((x2 + 1) % 5)) 1)))) (fun W hS => exec_cast (xorU (Kec.g s (Kec.at_ x2 y2)) ((Kec.col s ((x2 + 4) % 5)) ^^^ (Kec.rot (Kec.col s ((x2 + 1) % 5)) 1)) (ws _) (Kec.xor_lt (Kec.col_lt ws _) (Kec.rot_lt (Kec.col_lt ws _) _))) (by kernel_rfl)) ⟨h103, h106⟩ <| an_o 16 ?_
              refine ncq 154 #[iN x2, iN y2] Tryz.func154 ((hat_ok x2 y2 _ _ (by omega) (by omega) rfl).mono ?_)
              rintro e w1 ⟨rfl, rfl⟩
              refine ⟨_, rfl, ?_⟩
              refine ⟨⟨h103, h106⟩, ?_⟩
              refine avq 17 (.pointer (some ⟨gt, Kec.at_ x2 y2, none⟩)) (fun W hS => exec_cast (v := .pointer (some ⟨gt, 0 + (Kec.at_ x2 y2) * 1, none⟩)) (by simp) (exec_indexAt_arr 189 (.tmp 8) (.tmp 71) (by kernel_rfl) gt 0 (by kernel_rfl) .i64 (Kec.at_ x2 y2) (by kernel_rfl) _ _ 1 Tryz.underlying189 (by kernel_rfl) (by omega))) ⟨h103, h106⟩ <| avq 18 (iN (Kec.g Kec.R (Kec.at_ x2 y2))) (fun W hS => exec_ld 3 (.tmp 72) gt (Kec.at_ x2 y2) Tryz.underlying3 (rc (hS.2) (Rz_get (Kec.at_ x2 y2) (by omega)))) ⟨h103, h106⟩ <| an_o 19 ?_
              refine ncq 156 #[uN ((Kec.g s (Kec.at_ x2 y2)) ^^^ ((Kec.col s ((x2 + 4) % 5)) ^^^ (Kec.rot (Kec.col s ((x2 + 1) % 5)) 1))), iN (Kec.g Kec.R (Kec.at_ x2 y2))] Tryz.func156 ((hrot_ok ((Kec.g s (Kec.at_ x2 y2)) ^^^ ((Kec.col s ((x2 + 4) % 5)) ^^^ (Kec.rot (Kec.col s ((x2 + 1) % 5)) 1))) (Kec.g Kec.R (Kec.at_ x2 y2)) _ (Kec.xor_lt (ws _) (Kec.xor_lt (Kec.col_lt ws _) (Kec.rot_lt (Kec.col_lt ws _) _))) (Kec.R_lt' _ (by omega))).mono ?_)
              rintro e V109 ⟨rfl, kV109⟩
              refine ⟨_, rfl, ?_⟩
              have h110 := kV109.bk h103
              have h111 := kV109.bk h104
              have h112 := kV109.bk h105
              have h113 := kV109.bk h106
              have h114 := kV109.bk h107
              have K115 := K108.nn kV109
              refine ⟨⟨h110, h113⟩, ?_⟩
              refine avq 20 (.pointer (some ⟨gb, Kec.at_ y2 ((2 * x2) + (3 * y2)), none⟩)) (fun W hS => exec_cast (v := .pointer (some ⟨gb, 0 + (Kec.at_ y2 ((2 * x2) + (3 * y2))) * 1, none⟩)) (by simp) (exec_indexAt_arr 148 (.tmp 9) (.tmp 61) (by kernel_rfl) gb 0 (by kernel_rfl) .i64 (Kec.at_ y2 ((2 * x2) + (3 * y2))) (by kernel_rfl) _ _ 1 Tryz.underlying148 (by kernel_rfl) (by omega))) ⟨h110, h113⟩ <| an_o 21 ?_
              obtain ⟨V116, eV116, kV116⟩ := cell_step V109 gb (Kec.at_ y2 ((2 * x2) + (3 * y2))) (.int .u64 ((Kec.rot ((Kec.g s (Kec.at_ x2 y2)) ^^^ ((Kec.col s ((x2 + 4) % 5)) ^^^ (Kec.rot (Kec.col s ((x2 + 1) % 5)) 1))) (Kec.g Kec.R (Kec.at_ x2 y2)) : Nat) : Int))
              have h117 : V116.heap[gb]? = some (.cells (Wz (mmn s (5 * x2 + (y2 + 1)))) 148 (0, 0)) := eV116 ▸ ((heap_setCell_same _ gb (Kec.at_ y2 ((2 * x2) + (3 * y2))) _ _ (.int .u64 ((Kec.rot ((Kec.g s (Kec.at_ x2 y2)) ^^^ ((Kec.col s ((x2 + 4) % 5)) ^^^ (Kec.rot (Kec.col s ((x2 + 1) % 5)) 1))) (Kec.g Kec.R (Kec.at_ x2 y2)) : Nat) : Int)) h114).trans (congrArg (fun c => some (Obj.cells c 148 (0, 0))) (show (Wz (mmn s (5 * x2 + y2)) : Array Value).setIfInBounds (Kec.at_ y2 ((2 * x2) + (3 * y2))) (.int .u64 ((Kec.rot ((Kec.g s (Kec.at_ x2 y2)) ^^^ ((Kec.col s ((x2 + 4) % 5)) ^^^ (Kec.rot (Kec.col s ((x2 + 1) % 5)) 1))) (Kec.g Kec.R (Kec.at_ x2 y2)) : Nat) : Int)) = Wz (mmn s (5 * x2 + (y2 + 1))) from by rw [Wz_set]; exact congrArg Wz (mmn_succ s x2 y2 lt_y2))))
              refine nzq (w' := V116) (by rw [← eV116]; exact exec_store_cell 24 (.tmp 75) (.tmp 74) (by kernel_rfl) gb (Kec.at_ y2 ((2 * x2) + (3 * y2))) (by kernel_rfl) (uN (Kec.rot ((Kec.g s (Kec.at_ x2 y2)) ^^^ ((Kec.col s ((x2 + 4) % 5)) ^^^ (Kec.rot (Kec.col s ((x2 + 1) % 5)) 1))) (Kec.g Kec.R (Kec.at_ x2 y2)))) (by kernel_rfl) (by kernel_rfl) (by kernel_rfl) (uN (Kec.g (mmn s (5 * x2 + y2)) (Kec.at_ y2 ((2 * x2) + (3 * y2))))) (rc (h114) (Wz_get _ (Kec.at_ y2 ((2 * x2) + (3 * y2))) (by rw [mmn_len]; omega))) (frozen_of_row _ _ _ _ _ h114) (by kernel_rfl)) ?_
              clear eV116
              have h118 := kV116.bo h110 (by omega)
              have h119 := kV116.bo h111 (by omega)
              have h120 := kV116.bo h112 (by omega)
              have h121 := kV116.bo h113 (by omega)
              have K122 := K115.no kV116 (by omega)
              refine ⟨⟨h118, h121⟩, ?_⟩
              refine an_end (by kernel_rfl) <| sy_a ⟨#[.agg (Wz s), uN k, pT ga 0, ud, pT gr 0, pT gc 0, iN x, u7, pT gt 0, pT gb 0, iN x2, uN ((Kec.col s ((x2 + 4) % 5)) ^^^ (Kec.rot (Kec.col s ((x2 + 1) % 5)) 1)), iN y2, ud, ud, iN x, .bool false, u17, u18, u19, u20, u21, u22, u23, u24, u25, u26, u27, u28, u29, u30, u31, u32, u33, .agg Rz, iN x2, .bool true, u37, u38, iN x2, iN (x2 + 4), iN ((x2 + 4) % 5), .pointer (some ⟨gc, (x2 + 4) % 5, none⟩), uN (Kec.col s ((x2 + 4) % 5)), iN x2, iN (x2 + 1), iN ((x2 + 1) % 5), .pointer (some ⟨gc, (x2 + 1) % 5, none⟩), uN (Kec.col s ((x2 + 1) % 5)), uN (Kec.rot (Kec.col s ((x2 + 1) % 5)) 1), uN ((Kec.col s ((x2 + 4) % 5)) ^^^ (Kec.rot (Kec.col s ((x2 + 1) % 5)) 1)), iN y2, .bool true, u53, u54, iN y2, iN x2, iN (2 * x2), iN y2, iN (3 * y2), iN ((2 * x2) + (3 * y2)), iN (Kec.at_ y2 ((2 * x2) + (3 * y2))), iN x2, iN y2, iN (Kec.at_ x2 y2), .pointer (some ⟨ga, Kec.at_ x2 y2, none⟩), uN (Kec.g s (Kec.at_ x2 y2)), uN ((Kec.col s ((x2 + 4) % 5)) ^^^ (Kec.rot (Kec.col s ((x2 + 1) % 5)) 1)), uN ((Kec.g s (Kec.at_ x2 y2)) ^^^ ((Kec.col s ((x2 + 4) % 5)) ^^^ (Kec.rot (Kec.col s ((x2 + 1) % 5)) 1))), iN x2, iN y2, iN (Kec.at_ x2 y2), .pointer (some ⟨gt, Kec.at_ x2 y2, none⟩), iN (Kec.g Kec.R (Kec.at_ x2 y2)), uN (Kec.rot ((Kec.g s (Kec.at_ x2 y2)) ^^^ ((Kec.col s ((x2 + 4) % 5)) ^^^ (Kec.rot (Kec.col s ((x2 + 1) % 5)) 1))) (Kec.g Kec.R (Kec.at_ x2 y2))), .pointer (some ⟨gb, Kec.at_ y2 ((2 * x2) + (3 * y2)), none⟩), ud, ud, ud, ud, ud, ud, ud, ud, ud, ud, ud, ud, ud, ud, ud, ud, ud, ud, ud, ud, ud, ud, ud, ud, ud, ud, ud, ud, ud, ud, ud, ud, ud, ud, ud, ud, ud, ud], []⟩ <| blk_n <| then_n <| sy_reg <| rg_q 17 [0, 1, 2] <| pkq (iN y2) <| ppq (iN (y2 + 1)) (exec_cast (congrArg (Value.int .i64) (wrapN (y2 + 1) (by omega))) (by kernel_rfl)) <| pkq (iN (y2 + 1)) <| ps_end <| then_n ?_
              refine ⟨⟨y2 + 1, (iN y2), (.bool true), (iN y2), (iN (y2 + 1)), (iN y2), (iN x2), (iN (2 * x2)), (iN y2), (iN (3 * y2)), (iN ((2 * x2) + (3 * y2))), (iN (Kec.at_ y2 ((2 * x2) + (3 * y2)))), (iN x2), (iN y2), (iN (Kec.at_ x2 y2)), (.pointer (some ⟨ga, Kec.at_ x2 y2, none⟩)), (uN (Kec.g s (Kec.at_ x2 y2))), (uN ((Kec.col s ((x2 + 4) % 5)) ^^^ (Kec.rot (Kec.col s ((x2 + 1) % 5)) 1))), (uN ((Kec.g s (Kec.at_ x2 y2)) ^^^ ((Kec.col s ((x2 + 4) % 5)) ^^^ (Kec.rot (Kec.col s ((x2 + 1) % 5)) 1)))), (iN x2), (iN y2), (iN (Kec.at_ x2 y2)), (.pointer (some ⟨gt, Kec.at_ x2 y2, none⟩)), (iN (Kec.g Kec.R (Kec.at_ x2 y2))), (uN (Kec.rot ((Kec.g s (Kec.at_ x2 y2)) ^^^ ((Kec.col s ((x2 + 4) % 5)) ^^^ (Kec.rot (Kec.col s ((x2 + 1) % 5)) 1))) (Kec.g Kec.R (Kec.at_ x2 y2)))), (.pointer (some ⟨gb, Kec.at_ y2 ((2 * x2) + (3 * y2)), none⟩)), by kernel_rfl, by omega, h118, h119, h120, h121, h117, K122⟩, ?_⟩
              exact lt_meas (x := 5 - (y2 + 1)) (y := 5 - y2) (by kernel_rfl) (by kernel_rfl) (by omega)
            · have eq_y2 : y2 = 5 := by omega
              refine sy_sq (qc86_1 259224) (qc86_1 259225) <| sy_sq (qc86_1 518448) (qc86_1 518449) <| sy_reg <| rg_q 16 [0, 1] <| pkq (iN y2) <| ppq (.bool false) (dcf ((((y2 : Nat) : Int)) < ((5) : Int)) (by omega)) <| ps_end <| then_n <| sy_n (.tmp 52) (qc86_1 1036898) (qc86_1 1036899) <| sy_exit 6 (by kernel_rfl) <| then_e <| then_e <| blk_e <| blk_n ?_
              refine then_n <| sy_reg <| rg_q 13 [0, 1, 2] <| pkq (iN x2) <| ppq (iN (x2 + 1)) (exec_cast (congrArg (Value.int .i64) (wrapN (x2 + 1) (by omega))) (by kernel_rfl)) <| pkq (iN (x2 + 1)) <| ps_end <| then_n ?_
              refine ⟨⟨x2 + 1, (uN ((Kec.col s ((x2 + 4) % 5)) ^^^ (Kec.rot (Kec.col s ((x2 + 1) % 5)) 1))), (iN y2), (iN x2), (.bool true), (iN x2), (iN (x2 + 1)), (iN x2), (iN (x2 + 4)), (iN ((x2 + 4) % 5)), (.pointer (some ⟨gc, (x2 + 4) % 5, none⟩)), (uN (Kec.col s ((x2 + 4) % 5))), (iN x2), (iN (x2 + 1)), (iN ((x2 + 1) % 5)), (.pointer (some ⟨gc, (x2 + 1) % 5, none⟩)), (uN (Kec.col s ((x2 + 1) % 5))), (uN (Kec.rot (Kec.col s ((x2 + 1) % 5)) 1)), (uN ((Kec.col s ((x2 + 4) % 5)) ^^^ (Kec.rot (Kec.col s ((x2 + 1) % 5)) 1))), (iN y2), (.bool false), u53, u54, u55, u56, u57, u58, u59, u60, u61, u62, u63, u64, u65, u66, u67, u68, u69, u70, u71, u72, u73, u74, u75, by kernel_rfl, by omega, h96, h97, h98, h99, h100.trans (congrArg (fun n => some (Obj.cells (Wz (mmn s n)) 148 (0, 0))) (show 5 * x2 + y2 = 5 * (x2 + 1) by omega)), K101⟩, ?_⟩
              exact lt_meas (x := 5 - (x2 + 1)) (y := 5 - x2) (by kernel_rfl) (by kernel_rfl) (by omega)
        · have eq_x2 : x2 = 5 := by omega
          have h123 : V74.heap[gb]? = some (.cells (Wz (Kec.moves (Kec.columns s))) 148 (0, 0)) := (h79.trans (congrArg (fun n => some (Obj.cells (Wz (mmn s n)) 148 (0, 0))) (show 5 * x2 = 25 by omega))).trans (congrArg (fun l => some (Obj.cells (Wz l) 148 (0, 0))) (mmn_all s))
          refine sy_sq (qc86_1 2024) (qc86_1 2025) <| sy_sq (qc86_1 4048) (qc86_1 4049) <| sy_reg <| rg_q 12 [0, 1] <| pkq (iN x2) <| ppq (.bool false) (dcf ((((x2 : Nat) : Int)) < ((5) : Int)) (by omega)) <| ps_end <| then_n <| sy_n (.tmp 36) (qc86_1 8098) (qc86_1 8099) <| sy_exit 4 (by kernel_rfl) <| then_e <| then_e <| blk_e <| then_n ?_
          refine sy_sq (qc86_1 254) (qc86_1 255) <| sy_sq (qc86_1 508) (qc86_1 509) <| sy_reg <| rg_q 19 [0] <| pkq (.int .i64 0) <| ps_end <| then_n <| sy_bk 8 (qc86_1 1018) ?_
          refine sy_loop (qc86_1 2036) (fun a V => ∃ (x3 : Nat) (u14 u76 u77 u78 u79 u80 u81 u82 u83 u84 u85 u86 u87 u88 u89 u90 u91 u92 u93 u94 u95 u96 u97 u98 u99 u100 u101 u102 u103 u104 u105 u106 u107 : Value), (a = ⟨#[.agg (Wz s), uN k, pT ga 0, ud, pT gr 0, pT gc 0, iN x, u7, pT gt 0, pT gb 0, iN x2, u11, u12, iN x3, u14, iN x, .bool false, u17, u18, u19, u20, u21, u22, u23, u24, u25, u26, u27, u28, u29, u30, u31, u32, u33, .agg Rz, iN x2, .bool false, u37, u38, u39, u40, u41, u42, u43, u44, u45, u46, u47, u48, u49, u50, u51, u52, u53, u54, u55, u56, u57, u58, u59, u60, u61, u62, u63, u64, u65, u66, u67, u68, u69, u70, u71, u72, u73, u74, u75, u76, u77, u78, u79, u80, u81, u82, u83, u84, u85, u86, u87, u88, u89, u90, u91, u92, u93, u94, u95, u96, u97, u98, u99, u100, u101, u102, u103, u104, u105, u106, u107, ud, ud, ud, ud, ud, ud], []⟩) ∧ (x3 ≤ 5) ∧ (V.heap[ga]? = some (.cells (Wz (xxn (Kec.moves (Kec.columns s)) (5 * x3) s)) 148 (0, 0))) ∧ (V.heap[gr]? = some (.cells (zr_u64_25) 148 (0, 0))) ∧ (V.heap[gc]? = some (.cells (Wz ((List.range 5).map (Kec.col s))) 187 (0, 0))) ∧ (V.heap[gt]? = some (.cells Rz 189 (0, 0))) ∧ (V.heap[gb]? = some (.cells (Wz (Kec.moves (Kec.columns s))) 148 (0, 0))) ∧ (Keeps Nob w V)) (fun a _ => 5 - (intOf (a.tmps.getD 13 undef)).toNat) (by kernel_rfl) ?_ ?_
          · exact ⟨0, undef, undef, undef, undef, undef, undef, undef, undef, undef, undef, undef, undef, undef, undef, undef, undef, undef, undef, undef, undef, undef, undef, undef, undef, undef, undef, undef, undef, undef, undef, undef, undef, undef, by kernel_rfl, by omega, h75, h76, h77, h78, h123, K80⟩
          · rintro a V124 ⟨x3, u14, u76, u77, u78, u79, u80, u81, u82, u83, u84, u85, u86, u87, u88, u89, u90, u91, u92, u93, u94, u95, u96, u97, u98, u99, u100, u101, u102, u103, u104, u105, u106, u107, rfl, hx3, h125, h126, h127, h128, h129, K130⟩
            by_cases lt_x3 : x3 < 5
            · show _
              refine sy_sq (qc86_1 4072) (qc86_1 4073) <| sy_sq (qc86_1 8144) (qc86_1 8145) <| sy_reg <| rg_q 20 [0, 1] <| pkq (iN x3) <| ppq (.bool true) (dct ((((x3 : Nat) : Int)) < ((5) : Int)) (by omega)) <| ps_end <| then_n <| sy_ys (.tmp 77) (qc86_1 16290) (qc86_1 16291) <| sy_sk <| then_n <| sy_sq (qc86_1 8146) (qc86_1 8147) <| sy_bk 9 (qc86_1 16292) <| sy_sq (qc86_1 32584) (qc86_1 32585) ?_
              refine sy_reg <| rg_q 22 [0] <| pkq (.int .i64 0) <| ps_end <| then_n <| sy_bk 10 (qc86_1 65170) ?_
              refine sy_loop (qc86_1 130340) (fun a V => ∃ (y3 : Nat) (u80 u81 u82 u83 u84 u85 u86 u87 u88 u89 u90 u91 u92 u93 u94 u95 u96 u97 u98 u99 u100 u101 u102 u103 u104 u105 u106 u107 : Value), (a = ⟨#[.agg (Wz s), uN k, pT ga 0, ud, pT gr 0, pT gc 0, iN x, u7, pT gt 0, pT gb 0, iN x2, u11, u12, iN x3, iN y3, iN x, .bool false, u17, u18, u19, u20, u21, u22, u23, u24, u25, u26, u27, u28, u29, u30, u31, u32, u33, .agg Rz, iN x2, .bool false, u37, u38, u39, u40, u41, u42, u43, u44, u45, u46, u47, u48, u49, u50, u51, u52, u53, u54, u55, u56, u57, u58, u59, u60, u61, u62, u63, u64, u65, u66, u67, u68, u69, u70, u71, u72, u73, u74, u75, iN x3, .bool true, u78, u79, u80, u81, u82, u83, u84, u85, u86, u87, u88, u89, u90, u91, u92, u93, u94, u95, u96, u97, u98, u99, u100, u101, u102, u103, u104, u105, u106, u107, ud, ud, ud, ud, ud, ud], []⟩) ∧ (y3 ≤ 5) ∧ (V.heap[ga]? = some (.cells (Wz (xxn (Kec.moves (Kec.columns s)) (5 * x3 + y3) s)) 148 (0, 0))) ∧ (V.heap[gr]? = some (.cells (zr_u64_25) 148 (0, 0))) ∧ (V.heap[gc]? = some (.cells (Wz ((List.range 5).map (Kec.col s))) 187 (0, 0))) ∧ (V.heap[gt]? = some (.cells Rz 189 (0, 0))) ∧ (V.heap[gb]? = some (.cells (Wz (Kec.moves (Kec.columns s))) 148 (0, 0))) ∧ (Keeps Nob w V)) (fun a _ => 5 - (intOf (a.tmps.getD 14 undef)).toNat) (by kernel_rfl) ?_ ?_
              · exact ⟨0, u80, u81, u82, u83, u84, u85, u86, u87, u88, u89, u90, u91, u92, u93, u94, u95, u96, u97, u98, u99, u100, u101, u102, u103, u104, u105, u106, u107, by kernel_rfl, by omega, h125, h126, h127, h128, h129, K130⟩
              · rintro a V131 ⟨y3, u80, u81, u82, u83, u84, u85, u86, u87, u88, u89, u90, u91, u92, u93, u94, u95, u96, u97, u98, u99, u100, u101, u102, u103, u104, u105, u106, u107, rfl, hy3, h132, h133, h134, h135, h136, K137⟩
                by_cases lt_y3 : y3 < 5
                · have ha1 := Kec.at_lt x3 y3
                  have ha2 := Kec.at_lt (x3 + 1) y3
                  have ha3 := Kec.at_lt (x3 + 2) y3
                  refine sy_sq (qc86_1 260680) (qc86_1 260681) <| sy_sq (qc86_1 521360) (qc86_1 521361) <| sy_reg <| rg_q 23 [0, 1] <| pkq (iN y3) <| ppq (.bool true) (dct ((((y3 : Nat) : Int)) < ((5) : Int)) (by omega)) <| ps_end <| then_n <| sy_ys (.tmp 81) (qc86_1 1042722) (qc86_1 1042723) <| sy_sk <| then_n <| sy_sq (qc86_1 521362) (qc86_1 521363) <| sy_bk 11 (qc86_1 1042724) <| sy_reg ?_
                  refine rg_still 25 24 (opsAt (qc86_1 1042724)) [qo86_1 1042724 0, qo86_1 1042724 1, qo86_1 1042724 2, qo86_1 1042724 3, qo86_1 1042724 4, qo86_1 1042724 5, qo86_1 1042724 6, qo86_1 1042724 7, qo86_1 1042724 8, qo86_1 1042724 9, qo86_1 1042724 10, qo86_1 1042724 11, qo86_1 1042724 12, qo86_1 1042724 13, qo86_1 1042724 14, qo86_1 1042724 15, qo86_1 1042724 16, qo86_1 1042724 17, qo86_1 1042724 18, qo86_1 1042724 19, qo86_1 1042724 20, qo86_1 1042724 21, qo86_1 1042724 22, qo86_1 1042724 23] [qo86_1 1042724 24] (by kernel_rfl) (by kernel_rfl) (by kernel_rfl) (by kernel_rfl) (by kernel_rfl) ?_
                  obtain ⟨V139, eV139, kV139⟩ := drew_step V131
                  rw [eV139]
                  clear eV139
                  have h140 := kV139.bk h132
                  have h141 := kV139.bk h133
                  have h142 := kV139.bk h134
                  have h143 := kV139.bk h135
                  have h144 := kV139.bk h136
                  have K145 := K137.nn kV139
                  refine skq (iN x3) <| skq (iN y3) <| scq 154 #[iN x3, iN y3] (iN (Kec.at_ x3 y3)) Tryz.func154 (hat_ok x3 y3 _ _ (by omega) (by omega) rfl) <| skq (iN x3) <| skq (iN y3) <| scq 154 #[iN x3, iN y3] (iN (Kec.at_ x3 y3)) Tryz.func154 (hat_ok x3 y3 _ _ (by omega) (by omega) rfl) <| spq (.pointer (some ⟨gb, Kec.at_ x3 y3, none⟩)) (exec_cast (v := .pointer (some ⟨gb, 0 + (Kec.at_ x3 y3) * 1, none⟩)) (by simp) (exec_indexAt_arr 148 (.tmp 9) (.tmp 89) (by kernel_rfl) gb 0 (by kernel_rfl) .i64 (Kec.at_ x3 y3) (by kernel_rfl) _ _ 1 Tryz.underlying148 (by kernel_rfl) (by omega))) <| spq (uN (Kec.g (Kec.moves (Kec.columns s)) (Kec.at_ x3 y3))) (exec_ld 24 (.tmp 90) gb (Kec.at_ x3 y3) Tryz.underlying24 (rc (h144) (Wz_get _ (Kec.at_ x3 y3) (by rw [Kec.len_moves]; omega)))) <| skq (iN x3) <| spq (iN (x3 + 1)) (exec_cast (congrArg (Value.int .i64) (wrapN (x3 + 1) (by omega))) (by kernel_rfl)) <| skq (iN y3) <| scq 154 #[iN (x3 + 1), iN y3] (iN (Kec.at_ (x3 + 1) y3)) Tryz.func154 (hat_ok (x3 + 1) y3 _ _ (by omega) (by omega) rfl) <| spq (.pointer (some ⟨gb, Kec.at_ (x3 + 1) y3, none⟩)) (exec_cast (v := .pointer (some ⟨gb, 0 + (Kec.at_ (x3 + 1) y3) * 1, none⟩)) (by simp) (exec_indexAt_arr 148 (.tmp 9) (.tmp 95) (by kernel_rfl) gb 0 (by kernel_rfl) .i64 (Kec.at_ (x3 + 1) y3) (by kernel_rfl) _ _ 1 Tryz.underlying148 (by kernel_rfl) (by omega))) <| spq (uN (Kec.g (Kec.moves (Kec.columns s)) (Kec.at_ (x3 + 1) y3))) (exec_ld 24 (.tmp 96) gb (Kec.at_ (x3 + 1) y3) Tryz.underlying24 (rc (h144) (Wz_get _ (Kec.at_ (x3 + 1) y3) (by rw [Kec.len_moves]; omega)))) ?_
                  refine spq (uN (Kec.W - 1 - (Kec.g (Kec.moves (Kec.columns s)) (Kec.at_ (x3 + 1) y3)))) (exec_cast (notU (Kec.g (Kec.moves (Kec.columns s)) (Kec.at_ (x3 + 1) y3)) (Kec.ws_moves (Kec.ws_columns ws) _)) (by kernel_rfl)) <| skq (iN x3) <| spq (iN (x3 + 2)) (exec_cast (congrArg (Value.int .i64) (wrapN (x3 + 2) (by omega))) (by kernel_rfl)) <| skq (iN y3) <| scq 154 #[iN (x3 + 2), iN y3] (iN (Kec.at_ (x3 + 2) y3)) Tryz.func154 (hat_ok (x3 + 2) y3 _ _ (by omega) (by omega) rfl) <| spq (.pointer (some ⟨gb, Kec.at_ (x3 + 2) y3, none⟩)) (exec_cast (v := .pointer (some ⟨gb, 0 + (Kec.at_ (x3 + 2) y3) * 1, none⟩)) (by simp) (exec_indexAt_arr 148 (.tmp 9) (.tmp 102) (by kernel_rfl) gb 0 (by kernel_rfl) .i64 (Kec.at_ (x3 + 2) y3) (by kernel_rfl) _ _ 1 Tryz.underlying148 (by kernel_rfl) (by omega))) <| spq (uN (Kec.g (Kec.moves (Kec.columns s)) (Kec.at_ (x3 + 2) y3))) (exec_ld 24 (.tmp 103) gb (Kec.at_ (x3 + 2) y3) Tryz.underlying24 (rc (h144) (Wz_get _ (Kec.at_ (x3 + 2) y3) (by rw [Kec.len_moves]; omega)))) <| spq (uN ((Kec.W - 1 - (Kec.g (Kec.moves (Kec.columns s)) (Kec.at_ (x3 + 1) y3))) &&& (Kec.g (Kec.moves (Kec.columns s)) (Kec.at_ (x3 + 2) y3)))) (exec_cast (andU (Kec.W - 1 - (Kec.g (Kec.moves (Kec.columns s)) (Kec.at_ (x3 + 1) y3))) (Kec.g (Kec.moves (Kec.columns s)) (Kec.at_ (x3 + 2) y3)) (Kec.sub_lt _) (Kec.ws_moves (Kec.ws_columns ws) _)) (by kernel_rfl)) <| spq (uN ((Kec.g (Kec.moves (Kec.columns s)) (Kec.at_ x3 y3)) ^^^ ((Kec.W - 1 - (Kec.g (Kec.moves (Kec.columns s)) (Kec.at_ (x3 + 1) y3))) &&& (Kec.g (Kec.moves (Kec.columns s)) (Kec.at_ (x3 + 2) y3))))) (exec_cast (xorU (Kec.g (Kec.moves (Kec.columns s)) (Kec.at_ x3 y3)) ((Kec.W - 1 - (Kec.g (Kec.moves (Kec.columns s)) (Kec.at_ (x3 + 1) y3))) &&& (Kec.g (Kec.moves (Kec.columns s)) (Kec.at_ (x3 + 2) y3))) (Kec.ws_moves (Kec.ws_columns ws) _) (Kec.and_lt (Kec.ws_moves (Kec.ws_columns ws) _))) (by kernel_rfl)) <| spq (.pointer (some ⟨ga, Kec.at_ x3 y3, none⟩)) (exec_cast (v := .pointer (some ⟨ga, 0 + (Kec.at_ x3 y3) * 1, none⟩)) (by simp) (exec_indexAt_arr 148 (.tmp 2) (.tmp 86) (by kernel_rfl) ga 0 (by kernel_rfl) .i64 (Kec.at_ x3 y3) (by kernel_rfl) _ _ 1 Tryz.underlying148 (by kernel_rfl) (by omega))) <| st_end ?_
                  obtain ⟨V146, eV146, kV146⟩ := cell_step V139 ga (Kec.at_ x3 y3) (.int .u64 (((Kec.g (Kec.moves (Kec.columns s)) (Kec.at_ x3 y3)) ^^^ ((Kec.W - 1 - (Kec.g (Kec.moves (Kec.columns s)) (Kec.at_ (x3 + 1) y3))) &&& (Kec.g (Kec.moves (Kec.columns s)) (Kec.at_ (x3 + 2) y3))) : Nat) : Int))
                  have h147 : V146.heap[ga]? = some (.cells (Wz (xxn (Kec.moves (Kec.columns s)) (5 * x3 + (y3 + 1)) s)) 148 (0, 0)) := eV146 ▸ ((heap_setCell_same _ ga (Kec.at_ x3 y3) _ _ (.int .u64 (((Kec.g (Kec.moves (Kec.columns s)) (Kec.at_ x3 y3)) ^^^ ((Kec.W - 1 - (Kec.g (Kec.moves (Kec.columns s)) (Kec.at_ (x3 + 1) y3))) &&& (Kec.g (Kec.moves (Kec.columns s)) (Kec.at_ (x3 + 2) y3))) : Nat) : Int)) h140).trans (congrArg (fun c => some (Obj.cells c 148 (0, 0))) (show (Wz (xxn (Kec.moves (Kec.columns s)) (5 * x3 + y3) s) : Array Value).setIfInBounds (Kec.at_ x3 y3) (.int .u64 (((Kec.g (Kec.moves (Kec.columns s)) (Kec.at_ x3 y3)) ^^^ ((Kec.W - 1 - (Kec.g (Kec.moves (Kec.columns s)) (Kec.at_ (x3 + 1) y3))) &&& (Kec.g (Kec.moves (Kec.columns s)) (Kec.at_ (x3 + 2) y3))) : Nat) : Int)) = Wz (xxn (Kec.moves (Kec.columns s)) (5 * x3 + (y3 + 1)) s) from by rw [Wz_set]; exact congrArg Wz (xxn_succ s (Kec.moves (Kec.columns s)) x3 y3 lt_y3))))
                  refine ls_skip (qo86_1 1042724 24) (w' := V146) (by kernel_rfl) (by rw [← eV146]; exact exec_store_cell 24 (.tmp 107) (.tmp 106) (by kernel_rfl) ga (Kec.at_ x3 y3) (by kernel_rfl) (.int .u64 (((Kec.g (Kec.moves (Kec.columns s)) (Kec.at_ x3 y3)) ^^^ ((Kec.W - 1 - (Kec.g (Kec.moves (Kec.columns s)) (Kec.at_ (x3 + 1) y3))) &&& (Kec.g (Kec.moves (Kec.columns s)) (Kec.at_ (x3 + 2) y3))) : Nat) : Int)) (by kernel_rfl) (by kernel_rfl) (by kernel_rfl) (.int .u64 ((Kec.g (xxn (Kec.moves (Kec.columns s)) (5 * x3 + y3) s) (Kec.at_ x3 y3) : Nat) : Int)) (rc (h140) (Wz_get _ (Kec.at_ x3 y3) (by rw [xxn_len, hs]; omega))) (frozen_of_row _ _ _ _ _ h140) (by kernel_rfl)) ?_
                  clear eV146
                  have h148 := kV146.bo h141 (by omega)
                  have h149 := kV146.bo h142 (by omega)
                  have h150 := kV146.bo h143 (by omega)
                  have h151 := kV146.bo h144 (by omega)
                  have K152 := K145.no kV146 (by omega)
                  refine ls_end <| sy_a ⟨#[.agg (Wz s), uN k, pT ga 0, ud, pT gr 0, pT gc 0, iN x, u7, pT gt 0, pT gb 0, iN x2, u11, u12, iN x3, iN y3, iN x, .bool false, u17, u18, u19, u20, u21, u22, u23, u24, u25, u26, u27, u28, u29, u30, u31, u32, u33, .agg Rz, iN x2, .bool false, u37, u38, u39, u40, u41, u42, u43, u44, u45, u46, u47, u48, u49, u50, u51, u52, u53, u54, u55, u56, u57, u58, u59, u60, u61, u62, u63, u64, u65, u66, u67, u68, u69, u70, u71, u72, u73, u74, u75, iN x3, .bool true, u78, u79, iN y3, .bool true, u82, u83, iN x3, iN y3, iN (Kec.at_ x3 y3), iN x3, iN y3, iN (Kec.at_ x3 y3), .pointer (some ⟨gb, Kec.at_ x3 y3, none⟩), uN (Kec.g (Kec.moves (Kec.columns s)) (Kec.at_ x3 y3)), iN x3, iN (x3 + 1), iN y3, iN (Kec.at_ (x3 + 1) y3), .pointer (some ⟨gb, Kec.at_ (x3 + 1) y3, none⟩), uN (Kec.g (Kec.moves (Kec.columns s)) (Kec.at_ (x3 + 1) y3)), uN (Kec.W - 1 - (Kec.g (Kec.moves (Kec.columns s)) (Kec.at_ (x3 + 1) y3))), iN x3, iN (x3 + 2), iN y3, iN (Kec.at_ (x3 + 2) y3), .pointer (some ⟨gb, Kec.at_ (x3 + 2) y3, none⟩), uN (Kec.g (Kec.moves (Kec.columns s)) (Kec.at_ (x3 + 2) y3)), uN ((Kec.W - 1 - (Kec.g (Kec.moves (Kec.columns s)) (Kec.at_ (x3 + 1) y3))) &&& (Kec.g (Kec.moves (Kec.columns s)) (Kec.at_ (x3 + 2) y3))), uN ((Kec.g (Kec.moves (Kec.columns s)) (Kec.at_ x3 y3)) ^^^ ((Kec.W - 1 - (Kec.g (Kec.moves (Kec.columns s)) (Kec.at_ (x3 + 1) y3))) &&& (Kec.g (Kec.moves (Kec.columns s)) (Kec.at_ (x3 + 2) y3)))), .pointer (some ⟨ga, Kec.at_ x3 y3, none⟩), ud, ud, ud, ud, ud, ud], []⟩ <| blk_n <| then_n <| sy_reg <| rg_q 24 [0, 1, 2] <| pkq (iN y3) <| ppq (iN (y3 + 1)) (exec_cast (congrArg (Value.int .i64) (wrapN (y3 + 1) (by omega))) (by kernel_rfl)) <| pkq (iN (y3 + 1)) <| ps_end <| then_n ?_
                  refine ⟨⟨y3 + 1, (iN y3), (.bool true), (iN y3), (iN (y3 + 1)), (iN x3), (iN y3), (iN (Kec.at_ x3 y3)), (iN x3), (iN y3), (iN (Kec.at_ x3 y3)), (.pointer (some ⟨gb, Kec.at_ x3 y3, none⟩)), (uN (Kec.g (Kec.moves (Kec.columns s)) (Kec.at_ x3 y3))), (iN x3), (iN (x3 + 1)), (iN y3), (iN (Kec.at_ (x3 + 1) y3)), (.pointer (some ⟨gb, Kec.at_ (x3 + 1) y3, none⟩)), (uN (Kec.g (Kec.moves (Kec.columns s)) (Kec.at_ (x3 + 1) y3))), (uN (Kec.W - 1 - (Kec.g (Kec.moves (Kec.columns s)) (Kec.at_ (x3 + 1) y3)))), (iN x3), (iN (x3 + 2)), (iN y3), (iN (Kec.at_ (x3 + 2) y3)), (.pointer (some ⟨gb, Kec.at_ (x3 + 2) y3, none⟩)), (uN (Kec.g (Kec.moves (Kec.columns s)) (Kec.at_ (x3 + 2) y3))), (uN ((Kec.W - 1 - (Kec.g (Kec.moves (Kec.columns s)) (Kec.at_ (x3 + 1) y3))) &&& (Kec.g (Kec.moves (Kec.columns s)) (Kec.at_ (x3 + 2) y3)))), (uN ((Kec.g (Kec.moves (Kec.columns s)) (Kec.at_ x3 y3)) ^^^ ((Kec.W - 1 - (Kec.g (Kec.moves (Kec.columns s)) (Kec.at_ (x3 + 1) y3))) &&& (Kec.g (Kec.moves (Kec.columns s)) (Kec.at_ (x3 + 2) y3))))), (.pointer (some ⟨ga, Kec.at_ x3 y3, none⟩)), by kernel_rfl, by omega, h147, h148, h149, h150, h151, K152⟩, ?_⟩
                  exact lt_meas (x := 5 - (y3 + 1)) (y := 5 - y3) (by kernel_rfl) (by kernel_rfl) (by omega)
                · have eq_y3 : y3 = 5 := by omega
                  refine sy_sq (qc86_1 260680) (qc86_1 260681) <| sy_sq (qc86_1 521360) (qc86_1 521361) <| sy_reg <| rg_q 23 [0, 1] <| pkq (iN y3) <| ppq (.bool false) (dcf ((((y3 : Nat) : Int)) < ((5) : Int)) (by omega)) <| ps_end <| then_n <| sy_n (.tmp 81) (qc86_1 1042722) (qc86_1 1042723) <| sy_exit 10 (by kernel_rfl) <| then_e <| then_e <| blk_e <| blk_n ?_
                  refine then_n <| sy_reg <| rg_q 21 [0, 1, 2] <| pkq (iN x3) <| ppq (iN (x3 + 1)) (exec_cast (congrArg (Value.int .i64) (wrapN (x3 + 1) (by omega))) (by kernel_rfl)) <| pkq (iN (x3 + 1)) <| ps_end <| then_n ?_
                  refine ⟨⟨x3 + 1, (iN y3), (iN x3), (.bool true), (iN x3), (iN (x3 + 1)), (iN y3), (.bool false), u82, u83, u84, u85, u86, u87, u88, u89, u90, u91, u92, u93, u94, u95, u96, u97, u98, u99, u100, u101, u102, u103, u104, u105, u106, u107, by kernel_rfl, by omega, h132.trans (congrArg (fun n => some (Obj.cells (Wz (xxn (Kec.moves (Kec.columns s)) n s)) 148 (0, 0))) (show 5 * x3 + y3 = 5 * (x3 + 1) by omega)), h133, h134, h135, h136, K137⟩, ?_⟩
                  exact lt_meas (x := 5 - (x3 + 1)) (y := 5 - x3) (by kernel_rfl) (by kernel_rfl) (by omega)
            · have eq_x3 : x3 = 5 := by omega
              have h153 : V124.heap[ga]? = some (.cells (Wz (Kec.mixes (Kec.moves (Kec.columns s)))) 148 (0, 0)) := (h125.trans (congrArg (fun n => some (Obj.cells (Wz (xxn (Kec.moves (Kec.columns s)) n s)) 148 (0, 0))) (show 5 * x3 = 25 by omega))).trans (congrArg (fun l => some (Obj.cells (Wz l) 148 (0, 0))) (xxn_all s (Kec.moves (Kec.columns s)) hs))
              refine sy_sq (qc86_1 4072) (qc86_1 4073) <| sy_sq (qc86_1 8144) (qc86_1 8145) <| sy_reg <| rg_q 20 [0, 1] <| pkq (iN x3) <| ppq (.bool false) (dcf ((((x3 : Nat) : Int)) < ((5) : Int)) (by omega)) <| ps_end <| then_n <| sy_n (.tmp 77) (qc86_1 16290) (qc86_1 16291) <| sy_exit 8 (by kernel_rfl) <| then_e <| then_e <| blk_e <| then_n ?_
              refine sy_sq (qc86_1 510) (qc86_1 511) <| sy_reg <| rg_q 26 [0, 1, 2, 3, 4, 5] <| ppq (pT ga 0) (exec_cast (v := pT ga (0 + 0 * 1)) (by simp) (exec_indexAt_arr 148 (.tmp 2) (.const (.int .i64 0)) (by kernel_rfl) ga 0 (by kernel_rfl) .i64 0 (by kernel_rfl) _ _ 1 Tryz.underlying148 (by kernel_rfl) (by omega))) <| ppq (uN (Kec.g (Kec.mixes (Kec.moves (Kec.columns s))) 0)) (exec_ld 24 (.tmp 108) ga 0 Tryz.underlying24 (rc (h153) (Wz_get _ 0 (by rw [Kec.len_mixes]; omega)))) <| pkq (uN k) <| ppq (uN ((Kec.g (Kec.mixes (Kec.moves (Kec.columns s))) 0) ^^^ k)) (exec_cast (xorU (Kec.g (Kec.mixes (Kec.moves (Kec.columns s))) 0) k (Kec.ws_mixes (Kec.ws_moves (Kec.ws_columns ws)) _) hk) (by kernel_rfl)) <| ppq (pT ga 0) (exec_cast (v := pT ga (0 + 0 * 1)) (by simp) (exec_indexAt_arr 148 (.tmp 2) (.const (.int .i64 0)) (by kernel_rfl) ga 0 (by kernel_rfl) .i64 0 (by kernel_rfl) _ _ 1 Tryz.underlying148 (by kernel_rfl) (by omega))) ?_
              obtain ⟨V154, eV154, kV154⟩ := cell_step V124 ga 0 (.int .u64 (((Kec.g (Kec.mixes (Kec.moves (Kec.columns s))) 0) ^^^ k : Nat) : Int))
              have h155 : V154.heap[ga]? = some (.cells (Wz (Kec.round s k)) 148 (0, 0)) := eV154 ▸ ((heap_setCell_same _ ga 0 _ _ (.int .u64 (((Kec.g (Kec.mixes (Kec.moves (Kec.columns s))) 0) ^^^ k : Nat) : Int)) h153).trans (congrArg (fun c => some (Obj.cells c 148 (0, 0))) (show (Wz (Kec.mixes (Kec.moves (Kec.columns s))) : Array Value).setIfInBounds 0 (.int .u64 (((Kec.g (Kec.mixes (Kec.moves (Kec.columns s))) 0) ^^^ k : Nat) : Int)) = Wz (Kec.round s k) from by rw [Wz_set]; exact congrArg Wz (rfl))))
              refine pzq (w' := V154) (by rw [← eV154]; exact exec_store_cell 24 (.tmp 112) (.tmp 111) (by kernel_rfl) ga 0 (by kernel_rfl) (uN ((Kec.g (Kec.mixes (Kec.moves (Kec.columns s))) 0) ^^^ k)) (by kernel_rfl) (by kernel_rfl) (by kernel_rfl) (uN (Kec.g (Kec.mixes (Kec.moves (Kec.columns s))) 0)) (rc (h153) (Wz_get _ 0 (by rw [Kec.len_mixes]; omega))) (frozen_of_row _ _ _ _ _ h153) (by kernel_rfl)) ?_
              clear eV154
              have h156 := kV154.bo h126 (by omega)
              have K160 := K130.no kV154 (by omega)
              refine ps_end <| then_n <| sy_sq (qc86_1 1022) (qc86_1 1023) <| sy_reg <| rg_q 27 [0, 1] <| ppq (.agg (Wz (Kec.round s k))) (exec_load_row 148 (.tmp 2) (by kernel_rfl) ga (by kernel_rfl) _ _ (0, 0) _ (h155) Tryz.underlying148 rfl (by rw [Wz_size, Kec.len_round]; kernel_rfl)) ?_
              obtain ⟨V161, eV161, kV161⟩ := rowset_step V154 gr ((Wz (Kec.round s k)))
              have h162 : V161.heap[gr]? = some (.cells (Wz (Kec.round s k)) 148 (0, 0)) := eV161 ▸ setRow_heap _ _ _ _ _ _ h156
              refine pzq (w' := V161) (by rw [← eV161]; exact exec_store_row 148 (.tmp 4) (.tmp 113) (by kernel_rfl) gr ((Wz (Kec.round s k))) (by kernel_rfl) (by kernel_rfl) 148 (zr_u64_25) h156 (by rw [Wz_size, Kec.len_round]; kernel_rfl) (by rw [Wz_size, Kec.len_round]; rfl) (Wz_one _)) ?_
              clear eV161
              have K167 := K160.no kV161 (by omega)
              refine ps_end <| then_n <| sy_ret (by kernel_rfl) <| sy_out (.agg (Wz (Kec.round s k))) rfl (results_cell_row (p := 4) (ty := 148) (by kernel_rfl) _ _ gr 148 (Wz (Kec.round s k)) (0, 0) _ (by kernel_rfl) h162 Tryz.underlying148 rfl (by rw [Wz_size, (Kec.len_round _ _)]; kernel_rfl)) ?_
              exact ⟨rfl, K167⟩
theorem hround_as (s : List Nat) (r : Nat) (w : World) (hs : s.length = 25) (ws : Kec.Ws s) (hr : r < 24) : Calls Tryz.prog 137 #[.agg (Wz (permn s r)), .int .u64 ((Kec.g Kec.K r : Nat) : Int)] w fun e w' => e = .returned (.agg (Wz (permn s (r + 1)))) ∧ Keeps Nob w w' := by
  rw [permn_succ s r hr]; exact hround_ok (permn s r) (Kec.g Kec.K r) w (permn_len s hs r) (permn_ws s ws r) (ws_K r)
noncomputable def qc86_0 (n : Nat) : Code := partOf Tryz.f102 n
theorem hPermute_ok (s : List Nat) (w : World) (hs : s.length = 25) (ws : Kec.Ws s) :
    Calls Tryz.prog 102 #[.agg (Wz s)] w (fun e w' => e = .returned (.agg (Wz (Kec.perm s))) ∧ Keeps Nob w w') := by
  have K0 : Keeps Nob w w := Keeps.refl _ _
  refine sy_enter (qc86_0 1) ⟨#[.agg (Wz s), ud, ud, ud, ud, ud, ud, ud, ud, ud, ud, ud, ud, ud, ud, ud], []⟩ Tryz.func102 (by kernel_rfl) (by kernel_rfl) <| sy_sq (qc86_0 2) (qc86_0 3) <| sy_reg <| rg_q 0 [0, 1] ?_
  obtain ⟨V1, eV1, gb, egb, h2, kV1⟩ := alloc_step w ((Wz s)) 148
  have n3 : w.heap.size ≤ gb := egb ▸ K0.size
  refine prq (pT gb 0) (w' := V1) (by rw [← eV1, ← egb]; exact exec_box 148 (.tmp 0) (by kernel_rfl) (.agg (Wz s)) (by kernel_rfl)) ?_
  clear eV1
  have K4 := K0.nn kV1
  obtain ⟨V5, eV5, gr, egr, h6, kV5⟩ := alloc_step V1 (zr_u64_25) 148
  have n7 : gb < gr := egr ▸ lt_of_block h2
  have n8 : w.heap.size ≤ gr := egr ▸ K4.size
  refine prq (pT gr 0) (w' := V5) (by rw [← eV5, ← egr]; exact exec_alloc0 148 (by kernel_rfl) (.agg (zr_u64_25)) (by kernel_rfl)) ?_
  clear eV5
  have h9 := kV5.bk h2
  have K10 := K4.nn kV5
  refine ps_end <| then_n <| sy_sq (qc86_0 6) (qc86_0 7) <| sy_reg <| rg_q 1 [0, 1, 2] ?_
  refine pcq 136 #[] Tryz.func136 ((hconstants_ok _).mono ?_)
  rintro e V11 ⟨rfl, kV11⟩
  refine ⟨_, rfl, ?_⟩
  have h12 := kV11.bk h9
  have h13 := kV11.bk h6
  have K14 := K10.nn kV11
  obtain ⟨V15, eV15, gk, egk, h16, kV15⟩ := alloc_step V11 (zr_u64_24) 169
  have n17 : gb < gk := egk ▸ lt_of_block h12
  have n18 : gr < gk := egk ▸ lt_of_block h13
  have n19 : w.heap.size ≤ gk := egk ▸ K14.size
  refine prq (pT gk 0) (w' := V15) (by rw [← eV15, ← egk]; exact exec_alloc0 169 (by kernel_rfl) (.agg (zr_u64_24)) (by kernel_rfl)) ?_
  clear eV15
  have h20 := kV15.bk h12
  have h21 := kV15.bk h13
  have K22 := K14.nn kV15
  obtain ⟨V23, eV23, kV23⟩ := rowset_step V15 gk ((Wz Kec.K))
  have h24 : V23.heap[gk]? = some (.cells (Wz Kec.K) 169 (0, 0)) := eV23 ▸ setRow_heap _ _ _ _ _ _ h16
  refine pzq (w' := V23) (by rw [← eV23]; exact exec_store_row 169 (.tmp 3) (.tmp 5) (by kernel_rfl) gk ((Wz Kec.K)) (by kernel_rfl) (by kernel_rfl) 169 (zr_u64_24) h16 (by kernel_rfl) (by kernel_rfl) (by kernel_rfl)) ?_
  clear eV23
  have h25 := kV23.bo h20 (by omega)
  have h26 := kV23.bo h21 (by omega)
  have K27 := K22.no kV23 (by omega)
  refine ps_end <| then_n <| sy_sq (qc86_0 14) (qc86_0 15) <| sy_sq (qc86_0 28) (qc86_0 29) <| sy_reg <| rg_q 2 [0] <| pkq (.int .i64 0) <| ps_end <| then_n <| sy_bk 0 (qc86_0 58) ?_
  refine sy_loop (qc86_0 116) (fun a V => ∃ (r : Nat) (u6 u7 u8 u9 u10 u11 u12 u13 u14 : Value), (a = ⟨#[.agg (Wz s), pT gb 0, pT gr 0, pT gk 0, iN r, .agg (Wz Kec.K), u6, u7, u8, u9, u10, u11, u12, u13, u14, ud], []⟩) ∧ (r ≤ 24) ∧ (V.heap[gb]? = some (.cells (Wz (permn s r)) 148 (0, 0))) ∧ (V.heap[gr]? = some (.cells (zr_u64_25) 148 (0, 0))) ∧ (V.heap[gk]? = some (.cells (Wz Kec.K) 169 (0, 0))) ∧ (Keeps Nob w V)) (fun a _ => 24 - (intOf (a.tmps.getD 4 undef)).toNat) (by kernel_rfl) ?_ ?_
  · exact ⟨0, undef, undef, undef, undef, undef, undef, undef, undef, undef, by kernel_rfl, by omega, h25, h26, h24, K27⟩
  · rintro a V28 ⟨r, u6, u7, u8, u9, u10, u11, u12, u13, u14, rfl, hr, h29, h30, h31, K32⟩
    by_cases lt_r : r < 24
    · show _
      refine sy_sq (qc86_0 232) (qc86_0 233) <| sy_sq (qc86_0 464) (qc86_0 465) <| sy_reg <| rg_q 3 [0, 1] <| pkq (iN r) <| ppq (.bool true) (dct ((((r : Nat) : Int)) < ((24) : Int)) (by omega)) <| ps_end <| then_n <| sy_ys (.tmp 7) (qc86_0 930) (qc86_0 931) <| sy_sk <| then_n <| sy_sq (qc86_0 466) (qc86_0 467) <| sy_bk 1 (qc86_0 932) <| sy_np ?_
      refine sy_reg <| an_begin 5 6 (opsAt (qc86_0 932)) (fun W => (W.heap[gk]? = some (.cells (Wz Kec.K) 169 (0, 0)))) #[false, false, false, false, false, false] (by kernel_rfl) (by kernel_rfl) (by kernel_rfl) (by kernel_rfl) ?_
      obtain ⟨V33, eV33, kV33⟩ := drew_step V28
      rw [eV33]
      clear eV33
      have h34 := kV33.bk h29
      have h35 := kV33.bk h30
      have h36 := kV33.bk h31
      have K37 := K32.nn kV33
      refine akq 1 (iN r) h36 <| avq 2 (pT gk r) (fun W hS => exec_cast (v := pT gk (0 + r * 1)) (by simp) (exec_indexAt_arr 169 (.tmp 3) (.tmp 11) (by kernel_rfl) gk 0 (by kernel_rfl) .i64 r (by kernel_rfl) _ _ 1 Tryz.underlying169 (by kernel_rfl) (by omega))) h36 <| avq 3 (uN (Kec.g Kec.K r)) (fun W hS => exec_ld 24 (.tmp 12) gk r Tryz.underlying24 (rc (hS) (Wz_get _ r (by rw [K_len]; omega)))) h36 <| an_o 0 <| nrq (.agg (Wz (permn s r))) (w' := V33) (exec_load_row 148 (.tmp 1) (by kernel_rfl) gb (by kernel_rfl) _ _ (0, 0) _ (h34) Tryz.underlying148 rfl (by rw [Wz_size, permn_len s hs]; kernel_rfl)) ?_
      refine ⟨h36, ?_⟩
      refine an_o 4 ?_
      refine ncq 137 #[.agg (Wz (permn s r)), uN (Kec.g Kec.K r)] Tryz.func137 ((hround_as s r _ hs ws lt_r).mono ?_)
      rintro e V38 ⟨rfl, kV38⟩
      refine ⟨_, rfl, ?_⟩
      have h39 := kV38.bk h34
      have h40 := kV38.bk h35
      have h41 := kV38.bk h36
      have K42 := K37.nn kV38
      refine ⟨h41, ?_⟩
      refine an_o 5 ?_
      obtain ⟨V43, eV43, kV43⟩ := rowset_step V38 gb ((Wz (permn s (r + 1))))
      have h44 : V43.heap[gb]? = some (.cells (Wz (permn s (r + 1))) 148 (0, 0)) := eV43 ▸ setRow_heap _ _ _ _ _ _ h39
      refine nzq (w' := V43) (by rw [← eV43]; exact exec_store_row 148 (.tmp 1) (.tmp 14) (by kernel_rfl) gb ((Wz (permn s (r + 1)))) (by kernel_rfl) (by kernel_rfl) 148 (Wz (permn s r)) h39 (by rw [Wz_size]; first | (rw [permn_len s hs]; kernel_rfl) | (rw [Kec.len_perm hs]; kernel_rfl)) (by simp only [Wz_size, permn_len s hs, Kec.len_perm hs] <;> rfl) (Wz_one _)) ?_
      clear eV43
      have h45 := kV43.bo h40 (by omega)
      have h46 := kV43.bo h41 (by omega)
      have K47 := K42.no kV43 (by omega)
      refine ⟨h46, ?_⟩
      refine an_end (by kernel_rfl) <| blk_n <| then_n <| sy_reg <| rg_q 4 [0, 1, 2] <| pkq (iN r) <| ppq (iN (r + 1)) (exec_cast (congrArg (Value.int .i64) (wrapN (r + 1) (by omega))) (by kernel_rfl)) <| pkq (iN (r + 1)) <| ps_end <| then_n ?_
      refine ⟨⟨r + 1, (iN r), (.bool true), (iN r), (iN (r + 1)), (.agg (Wz (permn s r))), (iN r), (pT gk r), (uN (Kec.g Kec.K r)), (.agg (Wz (permn s (r + 1)))), by kernel_rfl, by omega, h44, h45, h46, K47⟩, ?_⟩
      exact lt_meas (x := 24 - (r + 1)) (y := 24 - r) (by kernel_rfl) (by kernel_rfl) (by omega)
    · have eq_r : r = 24 := by omega
      have h48 : V28.heap[gb]? = some (.cells (Wz (Kec.perm s)) 148 (0, 0)) := h29.trans (by rw [eq_r, permn_all])
      refine sy_sq (qc86_0 232) (qc86_0 233) <| sy_sq (qc86_0 464) (qc86_0 465) <| sy_reg <| rg_q 3 [0, 1] <| pkq (iN r) <| ppq (.bool false) (dcf ((((r : Nat) : Int)) < ((24) : Int)) (by omega)) <| ps_end <| then_n <| sy_n (.tmp 7) (qc86_0 930) (qc86_0 931) <| sy_exit 0 (by kernel_rfl) <| then_e <| then_e <| blk_e <| then_n ?_
      refine sy_sq (qc86_0 30) (qc86_0 31) <| sy_reg <| rg_q 6 [0, 1] <| ppq (.agg (Wz (Kec.perm s))) (exec_load_row 148 (.tmp 1) (by kernel_rfl) gb (by kernel_rfl) _ _ (0, 0) _ (h48) Tryz.underlying148 rfl (by rw [Wz_size, Kec.len_perm hs]; kernel_rfl)) ?_
      obtain ⟨V49, eV49, kV49⟩ := rowset_step V28 gr ((Wz (Kec.perm s)))
      have h50 : V49.heap[gr]? = some (.cells (Wz (Kec.perm s)) 148 (0, 0)) := eV49 ▸ setRow_heap _ _ _ _ _ _ h30
      refine pzq (w' := V49) (by rw [← eV49]; exact exec_store_row 148 (.tmp 2) (.tmp 15) (by kernel_rfl) gr ((Wz (Kec.perm s))) (by kernel_rfl) (by kernel_rfl) 148 (zr_u64_25) h30 (by rw [Wz_size]; first | (rw [permn_len s hs]; kernel_rfl) | (rw [Kec.len_perm hs]; kernel_rfl)) (by simp only [Wz_size, permn_len s hs, Kec.len_perm hs] <;> rfl) (Wz_one _)) ?_
      clear eV49
      have K53 := K32.no kV49 (by omega)
      refine ps_end <| then_n <| sy_ret (by kernel_rfl) <| sy_out (.agg (Wz (Kec.perm s))) rfl (results_cell_row (p := 2) (ty := 148) (by kernel_rfl) _ _ gr 148 (Wz (Kec.perm s)) (0, 0) _ (by kernel_rfl) h50 Tryz.underlying148 rfl (by rw [Wz_size, Kec.len_perm hs]; kernel_rfl)) ?_
      exact ⟨rfl, K53⟩
end Go.Proofs.YtcbfnflnokoacaaGreat
namespace Go.Proofs.YtcbfnflnokoacaaGreat
set_option maxRecDepth 100000
set_option maxHeartbeats 4000000
open Go Go.RowKit Go.Own Go.Shelf
/-- The word of the bytes from m to 8. -/
def wd8 (l : List UInt8) (m : Nat) : Nat := Kec.word ((l.take 8).drop m)
theorem wd8_lt (l : List UInt8) (m : Nat) (h : 0 < m) : 256 * wd8 l m + 256 ≤ Kec.W := by
  have h1 := Kec.word_lt ((l.take 8).drop m)
  have h2 : ((l.take 8).drop m).length ≤ 7 := by rw [List.length_drop, List.length_take]; omega
  have h3 : (256 : Nat) ^ ((l.take 8).drop m).length ≤ 256 ^ 7 := Nat.pow_le_pow_right (by decide) h2
  have h4 : (256 : Nat) ^ 7 * 256 = Kec.W := by decide
  unfold wd8
  omega
theorem wd8_step (l : List UInt8) (m : Nat) (h : 0 < m) (h8 : m ≤ 8) (hl : 8 ≤ l.length) : 256 * wd8 l m + (l.getD (m - 1) 0).toNat = wd8 l (m - 1) := by
  have hlt : m - 1 < (l.take 8).length := by rw [List.length_take]; omega
  unfold wd8
  rw [List.drop_eq_getElem_cons hlt, show m - 1 + 1 = m by omega, Kec.word, List.getElem_take, List.getD_eq_getElem?_getD, List.getElem?_eq_getElem (by omega)]
  show _ = _ + _
  rw [Nat.add_comm]; rfl
theorem wd8_none (l : List UInt8) : wd8 l 8 = 0 := by unfold wd8; rw [List.drop_of_length_le (by rw [List.length_take]; omega)]; rfl
theorem eight_snoc (n k : Nat) : B ((List.range (k + 1)).map fun i => UInt8.ofNat (n / 256 ^ i)) = B ((List.range k).map fun i => UInt8.ofNat (n / 256 ^ i)) ++ [.int .u8 (((UInt8.ofNat (n / 256 ^ k)).toNat : Nat) : Int)] := by
  rw [List.range_succ, List.map_append, B_append]; rfl
noncomputable def qc87_1 (n : Nat) : Code := partOf Tryz.f101 n
theorem hword_ok (g o n cap : Nat) (l : List UInt8) (w : World) (hn : l.length = n) (h8 : 8 ≤ n) (hc : n ≤ cap) (hv : BytesAt w (.slice (some ⟨g, o, none⟩) n cap) l) :
    Calls Tryz.prog 101 #[.slice (some ⟨g, o, none⟩) n cap] w (fun e w' => e = .returned (.int .u64 ((Kec.word (l.take 8) : Nat) : Int)) ∧ w = w') := by
  have hW : Kec.W = 18446744073709551616 := rfl
  have K0 : Keeps Nob w w := Keeps.refl _ _
  refine sy_enter (qc87_1 1) ⟨#[.slice (some ⟨g, o, none⟩) n cap, ud, ud, ud, ud, ud, ud, ud, ud, ud, ud, ud, ud, ud, ud, ud, ud, ud], []⟩ Tryz.func101 (by kernel_rfl) (by kernel_rfl) <| sy_sq (qc87_1 2) (qc87_1 3) <| sy_reg <| rg_q 0 [0] <| pkq (.int .u64 0) <| ps_end <| then_n <| sy_sq (qc87_1 6) (qc87_1 7) <| sy_reg <| rg_q 1 [0] <| pkq (.int .u64 0) <| ps_end <| then_n <| sy_sq (qc87_1 14) (qc87_1 15) ?_
  refine sy_sq (qc87_1 28) (qc87_1 29) <| sy_reg <| rg_q 2 [0] <| pkq (.int .i64 7) <| ps_end <| then_n <| sy_bk 0 (qc87_1 58) ?_
  refine sy_loop (qc87_1 116) (fun a V => ∃ (m : Nat) (r : Nat) (u5 u6 u7 u8 u9 u10 u11 u12 u13 u14 u15 u16 : Value), (a = ⟨#[.slice (some ⟨g, o, none⟩) n cap, ud, .int .u64 0, uN r, .int .i64 (((m : Nat) : Int) - 1), u5, u6, u7, u8, u9, u10, u11, u12, u13, u14, u15, u16, ud], []⟩) ∧ (m ≤ 8) ∧ (r = wd8 l m) ∧ (w = V)) (fun a _ => (intOf (a.tmps.getD 4 undef) + 1).toNat) (by kernel_rfl) ?_ ?_
  · exact ⟨8, 0, undef, undef, undef, undef, undef, undef, undef, undef, undef, undef, undef, undef, by kernel_rfl, by omega, (wd8_none l).symm, rfl⟩
  · rintro a V1 ⟨m, r, u5, u6, u7, u8, u9, u10, u11, u12, u13, u14, u15, u16, rfl, hm, hr, rfl⟩
    by_cases pos_m : 0 < m
    · show _
      refine sy_sq (qc87_1 232) (qc87_1 233) <| sy_sq (qc87_1 464) (qc87_1 465) <| sy_reg <| rg_q 3 [0, 1] <| pkq (.int .i64 (((m : Nat) : Int) - 1)) <| ppq (.bool true) (dct ((((((m : Nat) : Int) - 1)) : Int) ≥ ((0) : Int)) (by omega)) <| ps_end <| then_n <| sy_ys (.tmp 6) (qc87_1 930) (qc87_1 931) <| sy_sk <| then_n <| sy_sq (qc87_1 466) (qc87_1 467) <| sy_bk 1 (qc87_1 932) <| sy_reg ?_
      refine rg_q 5 [0, 1, 2, 3, 4, 5, 6, 7, 8] <| pkq (uN r) <| ppq (uN (256 * r)) (exec_cast (v := .int .u64 (IntKind.u64.wrap (256 * ((r : Nat) : Int)))) (congrArg (Value.int .u64) (by rw [show (256 : Int) * ((r : Nat) : Int) = ((256 * r : Nat) : Int) by omega]; exact wrapU _ (by have := wd8_lt l m pos_m; omega))) (by kernel_rfl)) <| pkq (.slice (some ⟨g, o, none⟩) n cap) <| ppq (iN (m - 1)) (exec_cast (v := .int .i64 (((m : Nat) : Int) - 1)) (congrArg (Value.int .i64) (by omega)) (by kernel_rfl)) <| ppq (.pointer (some ⟨g, o + (m - 1), none⟩)) (exec_cast (v := .pointer (some ⟨g, o + (m - 1) * 1, none⟩)) (by simp) (exec_indexAt_slice 114 (.tmp 11) (.tmp 12) (by kernel_rfl) g o n cap (by kernel_rfl) .i64 (m - 1) (by kernel_rfl) _ 1 Tryz.underlying114 (by kernel_rfl) (by omega))) <| ppq (cN ((l.getD (m - 1) 0).toNat)) (exec_ld 5 (.tmp 13) g (o + (m - 1)) Tryz.underlying5 (bytes_cell hv (m - 1) (by rw [hn]; omega))) <| ppq (uN ((l.getD (m - 1) 0).toNat)) (exec_cast (congrArg (Value.int .u64) (wrapU (l.getD (m - 1) 0).toNat (by have := (l.getD (m - 1) 0).toNat_lt; omega))) (by kernel_rfl)) <| ppq (uN (wd8 l (m - 1))) (exec_cast (v := .int .u64 (IntKind.u64.wrap (((256 * r : Nat) : Int) + (((l.getD (m - 1) 0).toNat : Nat) : Int)))) (congrArg (Value.int .u64) (by rw [show ((256 * r : Nat) : Int) + (((l.getD (m - 1) 0).toNat : Nat) : Int) = ((256 * r + (l.getD (m - 1) 0).toNat : Nat) : Int) by omega, hr, wd8_step l m pos_m hm (by omega)]; exact wrapU _ (by have := wd8_lt l m pos_m; have := (l.getD (m - 1) 0).toNat_lt; have := wd8_step l m pos_m hm (by omega); omega))) (by kernel_rfl)) <| pkq (uN (wd8 l (m - 1))) <| ps_end <| blk_n <| then_n <| sy_reg ?_
      refine rg_q 4 [0, 1, 2] <| pkq (.int .i64 (((m : Nat) : Int) - 1)) <| ppq (.int .i64 (((m - 1 : Nat) : Int) - 1)) (exec_cast (v := .int .i64 (IntKind.i64.wrap ((((m : Nat) : Int) - 1) - 1))) (congrArg (Value.int .i64) (wrapI _ _ (by omega) (by omega) (by omega))) (by kernel_rfl)) <| pkq (.int .i64 (((m - 1 : Nat) : Int) - 1)) <| ps_end <| then_n ?_
      refine ⟨⟨m - 1, wd8 l (m - 1), (.int .i64 (((m : Nat) : Int) - 1)), (.bool true), (.int .i64 (((m : Nat) : Int) - 1)), (.int .i64 (((m - 1 : Nat) : Int) - 1)), (uN r), (uN (256 * r)), (.slice (some ⟨g, o, none⟩) n cap), (iN (m - 1)), (.pointer (some ⟨g, o + (m - 1), none⟩)), (cN ((l.getD (m - 1) 0).toNat)), (uN ((l.getD (m - 1) 0).toNat)), (uN (wd8 l (m - 1))), by kernel_rfl, by omega, rfl, rfl⟩, ?_⟩
      exact lt_meas (x := ((((m - 1 : Nat) : Int) - 1) + 1).toNat) (y := ((((m : Nat) : Int) - 1) + 1).toNat) (by kernel_rfl) (by kernel_rfl) (by omega)
    · have eq_m : m = 0 := by omega
      refine sy_sq (qc87_1 232) (qc87_1 233) <| sy_sq (qc87_1 464) (qc87_1 465) <| sy_reg <| rg_q 3 [0, 1] <| pkq (.int .i64 (((m : Nat) : Int) - 1)) <| ppq (.bool false) (dcf ((((((m : Nat) : Int) - 1)) : Int) ≥ ((0) : Int)) (by omega)) <| ps_end <| then_n <| sy_n (.tmp 6) (qc87_1 930) (qc87_1 931) <| sy_exit 0 (by kernel_rfl) <| then_e <| then_e <| blk_e <| then_n ?_
      refine sy_sq (qc87_1 30) (qc87_1 31) <| sy_reg <| rg_q 6 [0, 1] <| pkq (uN r) <| pkq (uN r) <| ps_end <| then_n <| sy_ret (by kernel_rfl) <| sy_out (.int .u64 ((r : Nat) : Int)) rfl (by kernel_rfl) ?_
      subst eq_m; subst hr; exact ⟨rfl, rfl⟩
noncomputable def qc87_0 (n : Nat) : Code := partOf Tryz.f103 n
noncomputable abbrev qo87_0 (n k : Nat) : Oper := (opsAt (qc87_0 n)).getD k default
theorem hbytes_ok (n : Nat) (w : World) (hn : n < Kec.W) :
    Calls Tryz.prog 103 #[.int .u64 ((n : Nat) : Int)] w (fun e w' => ∃ v, e = .returned v ∧ Row w' 5 1 v 8 (B (Kec.eight n)) ∧ NewFrom w.heap.size v ∧ Keeps Nob w w') := by
  obtain ⟨i0, hi, hz0, hz1, hz2⟩ := info_parts u8_infoK
  have r0 : Row w 5 1 (.slice none 0 0) 0 (B ((List.range 0).map (fun i => UInt8.ofNat (n / 256 ^ i)))) := World.ownsRow_nil _ _ _ _
  have nw0 := NewFrom.nil w.heap.size
  have hW : Kec.W = 18446744073709551616 := rfl
  have K0 : Keeps Nob w w := Keeps.refl _ _
  refine sy_enter (qc87_0 1) ⟨#[uN n, ud, ud, ud, ud, ud, ud, ud, ud, ud, ud, ud, ud, ud, ud, ud, ud, ud], []⟩ Tryz.func103 (by kernel_rfl) (by kernel_rfl) <| sy_sq (qc87_0 2) (qc87_0 3) <| sy_reg <| rg_q 0 [0] <| pkq (.slice none 0 0) <| ps_end <| then_n <| sy_sq (qc87_0 6) (qc87_0 7) <| sy_reg <| rg_q 1 [0] <| pkq (.slice none 0 0) <| ps_end <| then_n <| sy_sq (qc87_0 14) (qc87_0 15) ?_
  refine sy_sq (qc87_0 28) (qc87_0 29) <| sy_reg <| rg_q 2 [0] <| pkq (.int .i64 0) <| ps_end <| then_n <| sy_bk 0 (qc87_0 58) ?_
  refine sy_loop (qc87_0 116) (fun a V => ∃ (k : Nat) (v : Value) (q : Nat) (u5 u6 u7 u8 u9 u10 u11 u12 u13 u14 u15 u16 : Value), (a = ⟨#[uN q, ud, .slice none 0 0, v, iN k, u5, u6, u7, u8, u9, u10, u11, u12, u13, u14, u15, u16, ud], []⟩) ∧ (k ≤ 8) ∧ (q = n / 256 ^ k) ∧ (Row V 5 1 v k (B ((List.range k).map (fun i => UInt8.ofNat (n / 256 ^ i))))) ∧ (Keeps Nob w V) ∧ (NewFrom w.heap.size v)) (fun a _ => 8 - (intOf (a.tmps.getD 4 undef)).toNat) (by kernel_rfl) ?_ ?_
  · exact ⟨0, .slice none 0 0, n, undef, undef, undef, undef, undef, undef, undef, undef, undef, undef, undef, undef, by kernel_rfl, by omega, by simp, r0, K0, NewFrom.nil _⟩
  · rintro a V1 ⟨k, v, q, u5, u6, u7, u8, u9, u10, u11, u12, u13, u14, u15, u16, rfl, hk, hq, h2, K3, hnw⟩
    by_cases lt_k : k < 8
    · have hqn : q ≤ n := by rw [hq]; exact Nat.div_le_self _ _
      refine sy_sq (qc87_0 232) (qc87_0 233) <| sy_sq (qc87_0 464) (qc87_0 465) <| sy_reg <| rg_q 3 [0, 1] <| pkq (iN k) <| ppq (.bool true) (dct ((((k : Nat) : Int)) < ((8) : Int)) (by omega)) <| ps_end <| then_n <| sy_ys (.tmp 6) (qc87_0 930) (qc87_0 931) <| sy_sk <| then_n <| sy_sq (qc87_0 466) (qc87_0 467) <| sy_bk 1 (qc87_0 932) <| sy_sq (qc87_0 1864) (qc87_0 1865) ?_
      refine sy_reg <| rg_q 5 [0, 1, 2, 3, 4, 5, 6] <| pkq (v) <| pkq (uN q) <| pkq (uN (q % 256)) <| ppq (cN ((UInt8.ofNat (n / 256 ^ k)).toNat)) (exec_cast (v := .int .u8 (IntKind.u8.wrap ((q % 256 : Nat) : Int))) (congrArg (Value.int .u8) ((wrap8 (q % 256)).trans (by rw [← hq, UInt8.toNat_ofNat', UInt8.toNat_ofNat', Nat.mod_mod]))) (by kernel_rfl)) ?_
      obtain ⟨V4, eV4, gs, egs, h5, kV4⟩ := alloc_step V1 (#[.int .u8 (((UInt8.ofNat (n / 256 ^ k)).toNat : Nat) : Int)]) 5
      have n6 : w.heap.size ≤ gs := egs ▸ K3.size
      refine prq (.slice (some ⟨gs, 0, none⟩) 1 1) (w' := V4) (by rw [← eV4, ← egs]; kernel_rfl) ?_
      have h7 : Row V4 5 1 v k (B ((List.range k).map (fun i => UInt8.ofNat (n / 256 ^ i)))) := h2.keeps kV4 (fun _ _ x => x)
      have K8 := K3.nn kV4
      obtain ⟨v9, V10, hr11, h12, hg13, hn14, ha15⟩ := run_append_any (P := Tryz.prog) (w := V4) 114 (Oper.type (qo87_0 1864 5)) 5 i0 (.int .u8 0) 1 1 Tryz.underlying114 hi hz0 hz1 hz2 rfl (by decide) v k (B ((List.range k).map (fun i => UInt8.ofNat (n / 256 ^ i)))) h7 (.slice (some ⟨gs, 0, none⟩) 1 1) 1 (#[.int .u8 (((UInt8.ofNat (n / 256 ^ k)).toNat : Nat) : Int)].toList) (src_block h5 1 1 rfl (by kernel_rfl)) (by unfold maxLen; omega) (by omega)
      have kV10 : Keeps (fun j => v.ownBlock = some j) V4 V10 := Keeps.rowAdd hg13
      have hw16 : NewFrom w.heap.size v9 := hnw.next K8.size ha15
      refine prq v9 (w' := V10) (exec_append (.tmp 9) (.tmp 13) 114 (by kernel_rfl) v (.slice (some ⟨gs, 0, none⟩) 1 1) (by kernel_rfl) (by kernel_rfl) hr11) ?_
      have h17 : Row V10 5 1 v9 (k + 1) (B ((List.range (k + 1)).map (fun i => UInt8.ofNat (n / 256 ^ i)))) := (by rw [eight_snoc]; exact h12)
      have K18 : Keeps Nob w V10 := K8.then kV10 (fun i hi hm => absurd hi (by have := hnw i hm; omega))
      refine pkq (v9) <| ps_end <| then_n <| sy_reg <| rg_q 6 [0, 1, 2] <| pkq (uN q) <| ppq (uN (q / 256)) (exec_cast (v := .int .u64 (IntKind.u64.wrap ((q / 256 : Nat) : Int))) (congrArg (Value.int .u64) (wrapU _ (by omega))) (by kernel_rfl)) <| pkq (uN (q / 256)) <| ps_end <| blk_n <| then_n <| sy_reg <| rg_q 4 [0, 1, 2] <| pkq (iN k) ?_
      refine ppq (iN (k + 1)) (exec_cast (congrArg (Value.int .i64) (wrapN (k + 1) (by omega))) (by kernel_rfl)) <| pkq (iN (k + 1)) <| ps_end <| then_n ?_
      refine ⟨⟨k + 1, v9, q / 256, (iN k), (.bool true), (iN k), (iN (k + 1)), v, (uN q), (uN (q % 256)), (cN ((UInt8.ofNat (n / 256 ^ k)).toNat)), (.slice (some ⟨gs, 0, none⟩) 1 1), v9, (uN q), (uN (q / 256)), by kernel_rfl, by omega, by rw [hq, Nat.div_div_eq_div_mul, ← Nat.pow_succ], h17, K18, hw16⟩, ?_⟩
      exact lt_meas (x := 8 - (k + 1)) (y := 8 - k) (by kernel_rfl) (by kernel_rfl) (by omega)
    · have eq_k : k = 8 := by omega
      refine sy_sq (qc87_0 232) (qc87_0 233) <| sy_sq (qc87_0 464) (qc87_0 465) <| sy_reg <| rg_q 3 [0, 1] <| pkq (iN k) <| ppq (.bool false) (dcf ((((k : Nat) : Int)) < ((8) : Int)) (by omega)) <| ps_end <| then_n <| sy_n (.tmp 6) (qc87_0 930) (qc87_0 931) <| sy_exit 0 (by kernel_rfl) <| then_e <| then_e <| blk_e <| then_n ?_
      refine sy_sq (qc87_0 30) (qc87_0 31) <| sy_reg <| rg_q 7 [0, 1] <| pkq (v) <| pkq (v) <| ps_end <| then_n <| sy_ret (by kernel_rfl) <| sy_out (v) rfl (by kernel_rfl) ?_
      exact ⟨v, rfl, by have e := h2; rw [eq_k] at e; exact e, hnw, K3⟩
end Go.Proofs.YtcbfnflnokoacaaGreat
namespace Go.Proofs.YtcbfnflnokoacaaGreat
set_option maxRecDepth 100000
set_option maxHeartbeats 4000000
open Go Go.RowKit Go.Own Go.Shelf
theorem rb_get (X : List UInt8) (rest : List Value) (k : Nat) (h : k < X.length) : (B X ++ rest).toArray[k]? = some (.int .u8 (((X.getD k 0).toNat : Nat) : Int)) := by
  have := Bz_get X k h
  rw [List.getElem?_toArray] at this ⊢
  rw [List.getElem?_append_left (by rw [B_length]; exact h)]; exact this
theorem rb_set (X : List UInt8) (rest : List Value) (k : Nat) (x : UInt8) (h : k < X.length) : (B X ++ rest).toArray.setIfInBounds k (.int .u8 ((x.toNat : Nat) : Int)) = (B (X.set k x) ++ rest).toArray := by
  have := congrArg Array.toList (Bz_set X k x)
  rw [List.setIfInBounds_toArray] at this ⊢
  rw [List.set_append, if_pos (by rw [B_length]; exact h)]
  have e : (B X).set k (.int .u8 ((x.toNat : Nat) : Int)) = B (X.set k x) := by simpa using this
  rw [e]
theorem bytes_at {w : World} {g cap n : Nat} {X : List UInt8} {rest : List Value} {T : TypeId} (h : w.heap[g]? = some (.cells (B X ++ rest).toArray T (0, 0))) (hn : X.length = n) (k : Nat) (hk : k ≤ n) (hc : n ≤ cap) (hm : cap ≤ maxLen) : BytesAt w (.slice (some ⟨g, k, none⟩) (n - k) (cap - k)) (X.drop k) := by
  subst hn
  refine ⟨⟨_, _, by rw [List.length_drop], by rw [List.length_drop]; omega, by omega, fun h => by cases h⟩, fun i x hi => ⟨g, k, _, by rw [List.length_drop], lt_of_block h, ?_⟩⟩
  rw [List.getElem?_drop] at hi
  obtain ⟨h1, h2⟩ := List.getElem?_eq_some_iff.1 hi
  refine rc h ((rb_get X rest (k + i) h1).trans ?_)
  rw [List.getD_eq_getElem?_getD, hi]; rfl
theorem cut_at (g n cap k : Nat) (h : k < cap) : cutV (some ⟨g, 0, none⟩) n cap k = .slice (some ⟨g, k, none⟩) (n - k) (cap - k) := by
  unfold cutV
  rw [if_neg (by omega)]
  show Value.slice (some ((⟨g, 0, none⟩ : Addr).add k)) _ _ = _
  rw [Addr.add_lit, Nat.zero_add]
theorem xor128 (c : UInt8) : Value.int .u8 (bits .xor .u8 ((c.toNat : Nat) : Int) 128) = .int .u8 (((c ^^^ 128).toNat : Nat) : Int) := by
  have : ∀ j : Fin 256, bits .xor .u8 ((j.val : Nat) : Int) 128 = (((UInt8.ofNat j.val ^^^ 128).toNat : Nat) : Int) := by decide +kernel
  have h := this ⟨c.toNat, c.toNat_lt⟩
  rw [show UInt8.ofNat (⟨c.toNat, c.toNat_lt⟩ : Fin 256).val = c by simp] at h
  exact congrArg _ h
theorem pad_step (x : List UInt8) (p : Nat) : B (x ++ 6 :: List.replicate (p + 1) 0) = B (x ++ 6 :: List.replicate p 0) ++ [.int .u8 0] := by
  rw [List.replicate_succ', ← List.cons_append, ← List.append_assoc, B_append]; rfl
theorem pad_all (x Y : List UInt8) (p n : Nat) (hY : x ++ 6 :: List.replicate p 0 = Y) (hp : p = 135 - x.length % 136) (hn : Y.length = n) : Y.set (n - 1) (Y.getD (n - 1) 0 ^^^ 128) = Kec.padded x := by
  subst hn; subst hY; subst hp; rfl
/-- The state behind so many blocks. -/
def ab (Z : List UInt8) (q : Nat) : List Nat := Kec.absorb q Kec.zero Z
theorem ab_len (Z : List UInt8) (q : Nat) : (ab Z q).length = 25 := Kec.len_absorb _ _ _ (by simp [Kec.zero])
theorem ab_ws (Z : List UInt8) (q : Nat) : Kec.Ws (ab Z q) := Kec.ws_absorb _ _ _ Kec.ws_zero
def mx (Z : List UInt8) (q : Nat) : List Nat := Kec.mixin (ab Z q) ((Z.drop (136 * q)).take 136)
theorem ab_succ (Z : List UInt8) (q : Nat) : Kec.perm (mx Z q) = ab Z (q + 1) := by
  unfold ab mx
  rw [Kec.absorb_add, Nat.mul_comm q 136]
  rfl
def mxf (Z : List UInt8) (q i : Nat) : Nat := Kec.g (ab Z q) i ^^^ Kec.word ((Z.drop (136 * q + 8 * i)).take 8)
theorem mx_all (Z : List UInt8) (q : Nat) : stp (mxf Z q) 17 (ab Z q) = mx Z q := by
  have hl := ab_len Z q
  apply List.ext_getElem (by rw [stp_len, hl, mx, Kec.len_mixin])
  intro i h1 h2
  rw [stp_len, hl] at h1
  have e := stp_get (mxf Z q) 17 (ab Z q) i (by omega)
  have f : Kec.g (mx Z q) i = if i < 17 then Kec.g (ab Z q) i ^^^ Kec.wordAt ((Z.drop (136 * q)).take 136) i else Kec.g (ab Z q) i := by
    unfold mx Kec.mixin; rw [Kec.g_map _ _ h1]
  have k : Kec.g (stp (mxf Z q) 17 (ab Z q)) i = Kec.g (mx Z q) i := by
    rw [e, f]
    by_cases h : i < 17
    · rw [if_pos h, if_pos h]
      unfold mxf Kec.wordAt
      rw [List.drop_take, List.take_take, List.drop_drop, show min 8 (136 - 8 * i) = 8 by omega]
    · rw [if_neg h, if_neg h]
  unfold Kec.g at k
  rw [List.getD_eq_getElem?_getD, List.getD_eq_getElem?_getD, List.getElem?_eq_getElem (by rw [stp_len, hl]; exact h1), List.getElem?_eq_getElem h2] at k
  exact k
theorem mx_len (Z : List UInt8) (q : Nat) : (mx Z q).length = 25 := Kec.len_mixin _ _
theorem mx_ws (Z : List UInt8) (q : Nat) : Kec.Ws (mx Z q) := Kec.ws_mixin (ab_ws Z q) _
theorem hPermute_as (Z : List UInt8) (q : Nat) (w : World) : Calls Tryz.prog 102 #[.agg (Wz (mx Z q))] w fun e w' => e = .returned (.agg (Wz (ab Z (q + 1)))) ∧ Keeps Nob w w' := by
  rw [← ab_succ]; exact hPermute_ok (mx Z q) w (mx_len Z q) (mx_ws Z q)
/-- What is squeezed out, byte by byte. -/
def sqf (s : List Nat) (k : Nat) : UInt8 := (Kec.squeeze s).getD k 0
theorem sq_get (s : List Nat) (c e : Nat) (hc : c < 4) (he : e < 8) : (Kec.eight (Kec.g s c)).getD e 0 = sqf s (8 * c + e) := by
  have l8 : ∀ a, (Kec.eight a).length = 8 := fun a => by simp [Kec.eight]
  rcases (by omega : c = 0 ∨ c = 1 ∨ c = 2 ∨ c = 3) with rfl | rfl | rfl | rfl
  · unfold sqf Kec.squeeze; rw [List.append_assoc, List.append_assoc, List.getD_eq_getElem?_getD, List.getD_eq_getElem?_getD, List.getElem?_append_left (by simp only [l8]; omega)]; simp
  · unfold sqf Kec.squeeze; rw [List.append_assoc, List.append_assoc, List.getD_eq_getElem?_getD, List.getD_eq_getElem?_getD, List.getElem?_append_right (by simp only [l8]; omega), List.getElem?_append_left (by simp only [l8]; omega), l8]; congr 2; omega
  · unfold sqf Kec.squeeze; rw [List.append_assoc, List.append_assoc, List.getD_eq_getElem?_getD, List.getD_eq_getElem?_getD, List.getElem?_append_right (by simp only [l8]; omega), List.getElem?_append_right (by simp only [l8]; omega), List.getElem?_append_left (by simp only [l8]; omega), l8, l8]; congr 2; omega
  · unfold sqf Kec.squeeze; rw [List.append_assoc, List.append_assoc, List.getD_eq_getElem?_getD, List.getD_eq_getElem?_getD, List.getElem?_append_right (by simp only [l8]; omega), List.getElem?_append_right (by simp only [l8]; omega), List.getElem?_append_right (by simp only [l8]; omega), l8, l8, l8]; congr 2; omega
theorem sq_all (x : List UInt8) (nq : Nat) (h : nq = x.length / 136 + 1) (s : List UInt8) (hs : s.length = 32) : stpB (sqf (ab (Kec.padded x) nq)) 32 s = Kec.sum x := by
  rw [stpB_all _ _ 32 hs, Kec.sum_padded, Kec.padded_len, Nat.mul_div_cancel _ (by decide), ← h]
  refine List.ext_getElem (by simp [Kec.squeeze_len]) fun i h1 h2 => ?_
  simp only [List.getElem_map, List.getElem_range]
  unfold sqf ab
  rw [List.getD_eq_getElem?_getD, List.getElem?_eq_getElem h2]; rfl
noncomputable def qc88_0 (n : Nat) : Code := partOf Tryz.f78 n
noncomputable abbrev qo88_0 (n k : Nat) : Oper := (opsAt (qc88_0 n)).getD k default
theorem hSum_ok (x : List UInt8) (v0 : Value) (w : World) (hx : BytesAt w v0 x) (hl : x.length ≤ 1000000) :
    Calls Tryz.prog 78 #[v0] w (fun e w' => e = .returned (.agg (B (Kec.sum x)).toArray) ∧ Keeps Nob w w') := by
  obtain ⟨i0, hi, hz0, hz1, hz2⟩ := info_parts u8_infoK
  obtain ⟨P, hP⟩ : ∃ P, 135 - x.length % 136 = P := ⟨_, rfl⟩
  have hW : Kec.W = 18446744073709551616 := rfl
  have K0 : Keeps Nob w w := Keeps.refl _ _
  refine sy_enter (qc88_0 1) ⟨#[v0, ud, ud, ud, ud, ud, ud, ud, ud, ud, ud, ud, ud, ud, ud, ud, ud, ud, ud, ud, ud, ud, ud, ud, ud, ud, ud, ud, ud, ud, ud, ud, ud, ud, ud, ud, ud, ud, ud, ud, ud, ud, ud, ud, ud, ud, ud, ud, ud, ud, ud, ud, ud, ud, ud, ud, ud, ud, ud, ud, ud, ud, ud, ud, ud, ud, ud, ud, ud, ud, ud, ud, ud, ud, ud, ud, ud, ud, ud, ud, ud, ud], []⟩ Tryz.func78 (by kernel_rfl) (by kernel_rfl) <| sy_sq (qc88_0 2) (qc88_0 3) <| sy_reg <| rg_q 0 [0] ?_
  obtain ⟨V1, eV1, gr, egr, h2, kV1⟩ := alloc_step w (zr_u8_32) 23
  have n3 : w.heap.size ≤ gr := egr ▸ K0.size
  refine prq (pT gr 0) (w' := V1) (by rw [← eV1, ← egr]; exact exec_alloc0 23 (by kernel_rfl) (.agg (zr_u8_32)) (by kernel_rfl)) ?_
  clear eV1
  have h4 : BytesAt V1 v0 x := hx.keepsN kV1
  have K5 := K0.nn kV1
  have z6 := kV1.size
  refine ps_end <| then_n <| sy_sq (qc88_0 6) (qc88_0 7) <| sy_reg <| rg_q 1 [0, 1, 2, 3, 4, 5] ?_
  obtain ⟨V7, eV7, g0, eg0, h8, kV7⟩ := alloc_step V1 #[] 5
  have n9 : gr < g0 := eg0 ▸ lt_of_block h2
  have n10 : w.heap.size ≤ g0 := eg0 ▸ K5.size
  refine prq (.slice (some ⟨g0, 0, none⟩) 0 0) (w' := V7) (by rw [← eV7, ← eg0]; kernel_rfl) ?_
  have h11 : BytesAt V7 v0 x := h4.keepsN kV7
  have h12 := kV7.bk h2
  have K13 := K5.nn kV7
  have z14 := kV7.size
  refine pkq (v0) ?_
  have h15 : Row V7 5 1 (.slice (some ⟨g0, 0, none⟩) 0 0) 0 [] := row_of_block h8 rfl (by decide)
  have hw16 : NewFrom (gr + 1) (.slice (some ⟨g0, 0, none⟩) 0 0) := NewFrom.ptr (by omega) _ _
  obtain ⟨v17, V18, hr19, h20, hg21, hn22, ha23⟩ := run_append_any (P := Tryz.prog) (w := V7) 114 (Oper.type (qo88_0 6 2)) 5 i0 (.int .u8 0) 1 1 Tryz.underlying114 hi hz0 hz1 hz2 rfl (by decide) (.slice (some ⟨g0, 0, none⟩) 0 0) 0 [] h15 v0 x.length (B x) (h11.src) (by unfold maxLen; omega) (by omega)
  have kV18 : Keeps (fun j => (.slice (some ⟨g0, 0, none⟩) 0 0 : Value).ownBlock = some j) V7 V18 := Keeps.rowAdd hg21
  have hw24 : NewFrom (gr + 1) v17 := hw16.next (lt_of_block h12) ha23
  refine prq v17 (w' := V18) (exec_append (.tmp 11) (.tmp 12) 114 (by kernel_rfl) (.slice (some ⟨g0, 0, none⟩) 0 0) v0 (by kernel_rfl) (by kernel_rfl) hr19) ?_
  have h25 : Row V18 5 1 v17 x.length (B x) := (by have e := h20; rwa [Nat.zero_add, List.nil_append] at e)
  have h26 : V18.heap[gr]? = some (.cells (zr_u8_32) 23 (0, 0)) := (kV18.block gr (lt_of_block h12) (fun e => by have := hw16 _ e; omega)).trans h12
  have K27 : Keeps Nob w V18 := K13.then kV18 (fun i hi hm => absurd hi (by have := hw16 i hm; omega))
  have z28 := kV18.size
  obtain ⟨V29, eV29, g6, eg6, h30, kV29⟩ := alloc_step V18 (#[.int .u8 6]) 5
  have n31 : gr < g6 := eg6 ▸ lt_of_block h26
  have n32 : w.heap.size ≤ g6 := eg6 ▸ K27.size
  refine prq (.slice (some ⟨g6, 0, none⟩) 1 1) (w' := V29) (by rw [← eV29, ← eg6]; kernel_rfl) ?_
  have h33 := kV29.bk h26
  have h34 : Row V29 5 1 v17 x.length (B x) := h25.keeps kV29 (fun _ _ x => x)
  have K35 := K27.nn kV29
  have z36 := kV29.size
  obtain ⟨v37, V38, hr39, h40, hg41, hn42, ha43⟩ := run_append_any (P := Tryz.prog) (w := V29) 114 (Oper.type (qo88_0 6 4)) 5 i0 (.int .u8 0) 1 1 Tryz.underlying114 hi hz0 hz1 hz2 rfl (by decide) v17 x.length (B x) h34 (.slice (some ⟨g6, 0, none⟩) 1 1) 1 (#[.int .u8 6].toList) (src_block h30 1 1 rfl (by kernel_rfl)) (by unfold maxLen; omega) (by omega)
  have kV38 : Keeps (fun j => v17.ownBlock = some j) V29 V38 := Keeps.rowAdd hg41
  have hw44 : NewFrom (gr + 1) v37 := hw24.next (lt_of_block h33) ha43
  refine prq v37 (w' := V38) (exec_append (.tmp 13) (.tmp 14) 114 (by kernel_rfl) v17 (.slice (some ⟨g6, 0, none⟩) 1 1) (by kernel_rfl) (by kernel_rfl) hr39) ?_
  have h45 : Row V38 5 1 v37 (x.length + 1) (B (x ++ [6])) := (by rw [B_append]; exact h40)
  have h46 : V38.heap[gr]? = some (.cells (zr_u8_32) 23 (0, 0)) := (kV38.block gr (lt_of_block h33) (fun e => by have := hw24 _ e; omega)).trans h33
  have K47 : Keeps Nob w V38 := K35.then kV38 (fun i hi hm => absurd hi (by have := hw24 i hm; omega))
  have z48 := kV38.size
  refine pkq (v37) <| ps_end <| then_n <| sy_sq (qc88_0 14) (qc88_0 15) <| sy_bk 0 (qc88_0 28) ?_
  refine sy_loop (qc88_0 56) (fun a V => ∃ (p : Nat) (v : Value) (u16 u17 u18 u19 u20 u21 u22 : Value), (a = ⟨#[v0, ud, pT gr 0, v, ud, ud, ud, ud, ud, ud, ud, .slice (some ⟨g0, 0, none⟩) 0 0, v0, v17, .slice (some ⟨g6, 0, none⟩) 1 1, v37, u16, u17, u18, u19, u20, u21, u22, ud, ud, ud, ud, ud, ud, ud, ud, ud, ud, ud, ud, ud, ud, ud, ud, ud, ud, ud, ud, ud, ud, ud, ud, ud, ud, ud, ud, ud, ud, ud, ud, ud, ud, ud, ud, ud, ud, ud, ud, ud, ud, ud, ud, ud, ud, ud, ud, ud, ud, ud, ud, ud, ud, ud, ud, ud, ud, ud], []⟩) ∧ (p ≤ P) ∧ (V.heap[gr]? = some (.cells (zr_u8_32) 23 (0, 0))) ∧ (Row V 5 1 v (x.length + 1 + p) (B (x ++ 6 :: List.replicate p 0))) ∧ (Keeps Nob w V) ∧ (NewFrom (gr + 1) v)) (fun a _ => (x.length + 200) - lenOf (a.tmps.getD 3 undef)) (by kernel_rfl) ?_ ?_
  · exact ⟨0, v37, undef, undef, undef, undef, undef, undef, undef, by kernel_rfl, by omega, h46, h45, K47, hw44⟩
  · rintro a V49 ⟨p, v, u16, u17, u18, u19, u20, u21, u22, rfl, hp, h50, h51, K52, hnw⟩
    by_cases lt_p : p < P
    · show _
      refine sy_sq (qc88_0 112) (qc88_0 113) <| sy_sq (qc88_0 224) (qc88_0 225) <| sy_reg <| rg_q 2 [0, 1, 2, 3] <| pkq (v) <| ppq (iN (x.length + 1 + p)) (exec_len_row (.tmp 16) 114 5 (by kernel_rfl) Tryz.underlying114 (by kernel_rfl) h51) <| pkq (iN ((x.length + 1 + p) % 136)) <| ppq (.bool true) (nqt ((((x.length + 1 + p) % 136 : Nat) : Int)) ((0) : Int) (by omega)) <| ps_end <| then_n <| sy_ys (.tmp 19) (qc88_0 450) (qc88_0 451) <| sy_sk <| then_n <| sy_bk 1 (qc88_0 226) ?_
      refine sy_reg <| rg_q 3 [0, 1, 2, 3] <| pkq (v) ?_
      obtain ⟨V53, eV53, gz, egz, h54, kV53⟩ := alloc_step V49 (#[.int .u8 0]) 5
      have n55 : gr < gz := egz ▸ lt_of_block h50
      have n56 : w.heap.size ≤ gz := egz ▸ K52.size
      refine prq (.slice (some ⟨gz, 0, none⟩) 1 1) (w' := V53) (by rw [← eV53, ← egz]; kernel_rfl) ?_
      have h57 := kV53.bk h50
      have h58 : Row V53 5 1 v (x.length + 1 + p) (B (x ++ 6 :: List.replicate p 0)) := h51.keeps kV53 (fun _ _ x => x)
      have K59 := K52.nn kV53
      have z60 := kV53.size
      obtain ⟨v61, V62, hr63, h64, hg65, hn66, ha67⟩ := run_append_any (P := Tryz.prog) (w := V53) 114 (Oper.type (qo88_0 226 2)) 5 i0 (.int .u8 0) 1 1 Tryz.underlying114 hi hz0 hz1 hz2 rfl (by decide) v (x.length + 1 + p) (B (x ++ 6 :: List.replicate p 0)) h58 (.slice (some ⟨gz, 0, none⟩) 1 1) 1 (#[.int .u8 0].toList) (src_block h54 1 1 rfl (by kernel_rfl)) (by unfold maxLen; omega) (by omega)
      have kV62 : Keeps (fun j => v.ownBlock = some j) V53 V62 := Keeps.rowAdd hg65
      have hw68 : NewFrom (gr + 1) v61 := hnw.next (lt_of_block h57) ha67
      refine prq v61 (w' := V62) (exec_append (.tmp 20) (.tmp 21) 114 (by kernel_rfl) v (.slice (some ⟨gz, 0, none⟩) 1 1) (by kernel_rfl) (by kernel_rfl) hr63) ?_
      have h69 : Row V62 5 1 v61 (x.length + 1 + (p + 1)) (B (x ++ 6 :: List.replicate (p + 1) 0)) := (by rw [pad_step]; exact h64)
      have h70 : V62.heap[gr]? = some (.cells (zr_u8_32) 23 (0, 0)) := (kV62.block gr (lt_of_block h57) (fun e => by have := hnw _ e; omega)).trans h57
      have K71 : Keeps Nob w V62 := K59.then kV62 (fun i hi hm => absurd hi (by have := hnw i hm; omega))
      have z72 := kV62.size
      refine pkq (v61) <| ps_end <| blk_n <| then_n ?_
      refine ⟨⟨p + 1, v61, v, (iN (x.length + 1 + p)), (iN ((x.length + 1 + p) % 136)), (.bool true), v, (.slice (some ⟨gz, 0, none⟩) 1 1), v61, by kernel_rfl, by omega, h70, h69, K71, hw68⟩, ?_⟩
      exact lt_meas (x := (x.length + 200) - lenOf v61) (y := (x.length + 200) - lenOf v) (by kernel_rfl) (by kernel_rfl) (by rw [row_len h69, row_len h51]; omega)
    · have eq_p : p = P := by omega
      refine sy_sq (qc88_0 112) (qc88_0 113) <| sy_sq (qc88_0 224) (qc88_0 225) <| sy_reg <| rg_q 2 [0, 1, 2, 3] <| pkq (v) <| ppq (iN (x.length + 1 + p)) (exec_len_row (.tmp 16) 114 5 (by kernel_rfl) Tryz.underlying114 (by kernel_rfl) h51) <| pkq (iN ((x.length + 1 + p) % 136)) <| ppq (.bool false) (nqf ((((x.length + 1 + p) % 136 : Nat) : Int)) ((0) : Int) (by omega)) <| ps_end <| then_n <| sy_n (.tmp 19) (qc88_0 450) (qc88_0 451) <| sy_exit 0 (by kernel_rfl) <| then_e <| then_e ?_
      refine blk_e <| then_n <| sy_sq (qc88_0 30) (qc88_0 31) ?_
      obtain ⟨n, hn0⟩ : ∃ n, x.length + 1 + p = n := ⟨_, rfl⟩
      obtain ⟨Y, hY⟩ : ∃ Y, x ++ 6 :: List.replicate p 0 = Y := ⟨_, rfl⟩
      have hYl : Y.length = n := by rw [← hY, ← hn0]; simp; omega
      have hrw : Row V49 5 1 v n (B Y) := by rw [← hn0, ← hY]; exact h51
      obtain ⟨g, cap, rest, rfl, hg, hcap, hmax⟩ := row_open hrw (by omega)
      have hgw : gr + 1 ≤ g := hnw g rfl
      have hglt := lt_of_block hg
      obtain ⟨Z, hZ⟩ : ∃ Z, Kec.padded x = Z := ⟨_, rfl⟩
      obtain ⟨nq, hnq⟩ : ∃ nq, x.length / 136 + 1 = nq := ⟨_, rfl⟩
      have hnn : n = 136 * nq := by omega
      have hZl : Z.length = n := by rw [← hZ, Kec.padded_len, hnn, ← hnq]; omega
      refine sy_reg <| rg_q 4 [0, 1, 2, 3, 4, 5, 6, 7, 8, 9, 10, 11, 12] <| pkq (.slice (some ⟨g, 0, none⟩) n cap) <| pkq (.slice (some ⟨g, 0, none⟩) n cap) <| ppq (iN n) (exec_len (.tmp 24) 114 _ (by kernel_rfl) Tryz.underlying114 (some ⟨g, 0, none⟩) n cap (by kernel_rfl)) <| ppq (iN (n - 1)) (exec_cast (congrArg (Value.int .i64) (wrapI (((n : Nat) : Int) - ((1 : Nat) : Int)) _ (by omega) (by omega) (by omega))) (by kernel_rfl)) <| pkq (.slice (some ⟨g, 0, none⟩) n cap) <| pkq (.slice (some ⟨g, 0, none⟩) n cap) <| ppq (iN n) (exec_len (.tmp 28) 114 _ (by kernel_rfl) Tryz.underlying114 (some ⟨g, 0, none⟩) n cap (by kernel_rfl)) <| ppq (iN (n - 1)) (exec_cast (congrArg (Value.int .i64) (wrapI (((n : Nat) : Int) - ((1 : Nat) : Int)) _ (by omega) (by omega) (by omega))) (by kernel_rfl)) <| ppq (.pointer (some ⟨g, n - 1, none⟩)) (exec_cast (v := .pointer (some ⟨g, 0 + (n - 1) * 1, none⟩)) (by simp) (exec_indexAt_slice 114 (.tmp 27) (.tmp 30) (by kernel_rfl) g 0 n cap (by kernel_rfl) .i64 (n - 1) (by kernel_rfl) _ 1 Tryz.underlying114 (by kernel_rfl) (by omega))) <| ppq (cN ((Y.getD (n - 1) 0).toNat)) (exec_ld 5 (.tmp 31) g (n - 1) Tryz.underlying5 (rc (hg) (rb_get _ _ (n - 1) (by rw [hYl]; omega)))) <| ppq (cN ((Y.getD (n - 1) 0 ^^^ 128).toNat)) (exec_cast (xor128 (Y.getD (n - 1) 0)) (by kernel_rfl)) <| ppq (.pointer (some ⟨g, n - 1, none⟩)) (exec_cast (v := .pointer (some ⟨g, 0 + (n - 1) * 1, none⟩)) (by simp) (exec_indexAt_slice 114 (.tmp 23) (.tmp 26) (by kernel_rfl) g 0 n cap (by kernel_rfl) .i64 (n - 1) (by kernel_rfl) _ 1 Tryz.underlying114 (by kernel_rfl) (by omega))) ?_
      obtain ⟨V73, eV73, kV73⟩ := cell_step V49 g (n - 1) (.int .u8 (((Y.getD (n - 1) 0 ^^^ 128).toNat : Nat) : Int))
      have h74 : V73.heap[g]? = some (.cells ((B Z ++ rest).toArray) 5 (0, 0)) := eV73 ▸ ((heap_setCell_same _ g (n - 1) _ _ (.int .u8 (((Y.getD (n - 1) 0 ^^^ 128).toNat : Nat) : Int)) hg).trans (congrArg (fun c => some (Obj.cells c 5 (0, 0))) (show ((B Y ++ rest).toArray : Array Value).setIfInBounds (n - 1) (.int .u8 (((Y.getD (n - 1) 0 ^^^ 128).toNat : Nat) : Int)) = (B Z ++ rest).toArray from (rb_set _ _ (n - 1) ((Y.getD (n - 1) 0 ^^^ 128)) (by rw [hYl]; omega)).trans (congrArg (fun l => (B l ++ rest).toArray) ((pad_all x Y p n hY (by omega) hYl).trans hZ)))))
      refine pzq (w' := V73) (by rw [← eV73]; exact exec_store_cell 5 (.tmp 34) (.tmp 33) (by kernel_rfl) g (n - 1) (by kernel_rfl) (cN ((Y.getD (n - 1) 0 ^^^ 128).toNat)) (by kernel_rfl) (by kernel_rfl) (by kernel_rfl) (cN ((Y.getD (n - 1) 0).toNat)) (rc (hg) (rb_get _ _ (n - 1) (by rw [hYl]; omega))) (frozen_of_row _ _ _ _ _ hg) (by kernel_rfl)) ?_
      clear eV73
      have h75 := kV73.bo h50 (by omega)
      have K76 := K52.no kV73 (by omega)
      have z77 := kV73.size
      refine ps_end <| then_n <| sy_sq (qc88_0 62) (qc88_0 63) <| sy_reg <| rg_q 5 [0] ?_
      obtain ⟨V78, eV78, gs, egs, h79, kV78⟩ := alloc_step V73 (zr_u64_25) 148
      have n80 : gr < gs := egs ▸ lt_of_block h75
      have n81 : g < gs := egs ▸ lt_of_block h74
      have n82 : w.heap.size ≤ gs := egs ▸ K76.size
      refine prq (pT gs 0) (w' := V78) (by rw [← eV78, ← egs]; exact exec_alloc0 148 (by kernel_rfl) (.agg (zr_u64_25)) (by kernel_rfl)) ?_
      clear eV78
      have h83 := kV78.bk h75
      have h84 := kV78.bk h74
      have K85 := K76.nn kV78
      have z86 := kV78.size
      refine ps_end <| then_n <| sy_sq (qc88_0 126) (qc88_0 127) <| sy_sq (qc88_0 252) (qc88_0 253) <| sy_reg <| rg_q 6 [0] <| pkq (.int .i64 0) <| ps_end <| then_n <| sy_bk 2 (qc88_0 506) ?_
      refine sy_loop (qc88_0 1012) (fun a V => ∃ (q : Nat) (u6 u35 u36 u37 u38 u39 u40 u41 u42 u43 u44 u45 u46 u47 u48 u49 u50 u51 u52 u53 u54 u55 u56 u57 u58 u59 : Value), (a = ⟨#[v0, ud, pT gr 0, .slice (some ⟨g, 0, none⟩) n cap, pT gs 0, iN (136 * q), u6, ud, ud, ud, ud, .slice (some ⟨g0, 0, none⟩) 0 0, v0, v17, .slice (some ⟨g6, 0, none⟩) 1 1, v37, .slice (some ⟨g, 0, none⟩) n cap, iN (x.length + 1 + p), iN ((x.length + 1 + p) % 136), .bool false, u20, u21, u22, .slice (some ⟨g, 0, none⟩) n cap, .slice (some ⟨g, 0, none⟩) n cap, iN n, iN (n - 1), .slice (some ⟨g, 0, none⟩) n cap, .slice (some ⟨g, 0, none⟩) n cap, iN n, iN (n - 1), .pointer (some ⟨g, n - 1, none⟩), cN ((Y.getD (n - 1) 0).toNat), cN ((Y.getD (n - 1) 0 ^^^ 128).toNat), .pointer (some ⟨g, n - 1, none⟩), u35, u36, u37, u38, u39, u40, u41, u42, u43, u44, u45, u46, u47, u48, u49, u50, u51, u52, u53, u54, u55, u56, u57, u58, u59, ud, ud, ud, ud, ud, ud, ud, ud, ud, ud, ud, ud, ud, ud, ud, ud, ud, ud, ud, ud, ud, ud], []⟩) ∧ (q ≤ nq) ∧ (V.heap[gr]? = some (.cells (zr_u8_32) 23 (0, 0))) ∧ (V.heap[g]? = some (.cells ((B Z ++ rest).toArray) 5 (0, 0))) ∧ (V.heap[gs]? = some (.cells (Wz (ab Z q)) 148 (0, 0))) ∧ (Keeps Nob w V)) (fun a _ => 136 * nq - (intOf (a.tmps.getD 5 undef)).toNat) (by kernel_rfl) ?_ ?_
      · exact ⟨0, undef, undef, undef, undef, undef, undef, undef, undef, undef, undef, undef, undef, undef, undef, undef, undef, undef, undef, undef, undef, undef, undef, undef, undef, undef, undef, by kernel_rfl, by omega, h83, h84, h79.trans (by kernel_rfl), K85⟩
      · rintro a V87 ⟨q, u6, u35, u36, u37, u38, u39, u40, u41, u42, u43, u44, u45, u46, u47, u48, u49, u50, u51, u52, u53, u54, u55, u56, u57, u58, u59, rfl, hq, h88, h89, h90, K91⟩
        by_cases lt_q : q < nq
        · show _
          refine sy_sq (qc88_0 2024) (qc88_0 2025) <| sy_sq (qc88_0 4048) (qc88_0 4049) <| sy_reg <| rg_q 7 [0, 1, 2, 3] <| pkq (iN (136 * q)) <| pkq (.slice (some ⟨g, 0, none⟩) n cap) <| ppq (iN n) (exec_len (.tmp 36) 114 _ (by kernel_rfl) Tryz.underlying114 (some ⟨g, 0, none⟩) n cap (by kernel_rfl)) <| ppq (.bool true) (dct ((((136 * q : Nat) : Int)) < (((n : Nat) : Int))) (by omega)) <| ps_end <| then_n <| sy_ys (.tmp 38) (qc88_0 8098) (qc88_0 8099) <| sy_sk <| then_n <| sy_sq (qc88_0 4050) (qc88_0 4051) ?_
          refine sy_bk 3 (qc88_0 8100) <| sy_sq (qc88_0 16200) (qc88_0 16201) <| sy_sq (qc88_0 32400) (qc88_0 32401) <| sy_reg <| rg_q 9 [0] <| pkq (.int .i64 0) <| ps_end <| then_n <| sy_bk 4 (qc88_0 64802) ?_
          refine sy_loop (qc88_0 129604) (fun a V => ∃ (i : Nat) (u41 u42 u43 u44 u45 u46 u47 u48 u49 u50 u51 u52 u53 u54 u55 u56 u57 : Value), (a = ⟨#[v0, ud, pT gr 0, .slice (some ⟨g, 0, none⟩) n cap, pT gs 0, iN (136 * q), iN i, ud, ud, ud, ud, .slice (some ⟨g0, 0, none⟩) 0 0, v0, v17, .slice (some ⟨g6, 0, none⟩) 1 1, v37, .slice (some ⟨g, 0, none⟩) n cap, iN (x.length + 1 + p), iN ((x.length + 1 + p) % 136), .bool false, u20, u21, u22, .slice (some ⟨g, 0, none⟩) n cap, .slice (some ⟨g, 0, none⟩) n cap, iN n, iN (n - 1), .slice (some ⟨g, 0, none⟩) n cap, .slice (some ⟨g, 0, none⟩) n cap, iN n, iN (n - 1), .pointer (some ⟨g, n - 1, none⟩), cN ((Y.getD (n - 1) 0).toNat), cN ((Y.getD (n - 1) 0 ^^^ 128).toNat), .pointer (some ⟨g, n - 1, none⟩), iN (136 * q), .slice (some ⟨g, 0, none⟩) n cap, iN n, .bool true, u39, u40, u41, u42, u43, u44, u45, u46, u47, u48, u49, u50, u51, u52, u53, u54, u55, u56, u57, u58, u59, ud, ud, ud, ud, ud, ud, ud, ud, ud, ud, ud, ud, ud, ud, ud, ud, ud, ud, ud, ud, ud, ud], []⟩) ∧ (i ≤ 17) ∧ (V.heap[gr]? = some (.cells (zr_u8_32) 23 (0, 0))) ∧ (V.heap[g]? = some (.cells ((B Z ++ rest).toArray) 5 (0, 0))) ∧ (V.heap[gs]? = some (.cells (Wz (stp (mxf Z q) i (ab Z q))) 148 (0, 0))) ∧ (Keeps Nob w V)) (fun a _ => 17 - (intOf (a.tmps.getD 6 undef)).toNat) (by kernel_rfl) ?_ ?_
          · exact ⟨0, u41, u42, u43, u44, u45, u46, u47, u48, u49, u50, u51, u52, u53, u54, u55, u56, u57, by kernel_rfl, by omega, h88, h89, h90, K91⟩
          · rintro a V92 ⟨i, u41, u42, u43, u44, u45, u46, u47, u48, u49, u50, u51, u52, u53, u54, u55, u56, u57, rfl, hi, h93, h94, h95, K96⟩
            by_cases lt_i : i < 17
            · show _
              refine sy_sq (qc88_0 259208) (qc88_0 259209) <| sy_sq (qc88_0 518416) (qc88_0 518417) <| sy_reg <| rg_q 10 [0, 1] <| pkq (iN i) <| ppq (.bool true) (dct ((((i : Nat) : Int)) < ((17) : Int)) (by omega)) <| ps_end <| then_n <| sy_ys (.tmp 42) (qc88_0 1036834) (qc88_0 1036835) <| sy_sk <| then_n <| sy_sq (qc88_0 518418) (qc88_0 518419) <| sy_bk 5 (qc88_0 1036836) <| sy_reg ?_
              refine rg_still 12 13 (opsAt (qc88_0 1036836)) [qo88_0 1036836 0, qo88_0 1036836 1, qo88_0 1036836 2, qo88_0 1036836 3, qo88_0 1036836 4, qo88_0 1036836 5, qo88_0 1036836 6, qo88_0 1036836 7, qo88_0 1036836 8, qo88_0 1036836 9, qo88_0 1036836 10, qo88_0 1036836 11, qo88_0 1036836 12] [qo88_0 1036836 13] (by kernel_rfl) (by kernel_rfl) (by kernel_rfl) (by kernel_rfl) (by kernel_rfl) ?_
              obtain ⟨V98, eV98, kV98⟩ := drew_step V92
              rw [eV98]
              clear eV98
              have h99 := kV98.bk h93
              have h100 := kV98.bk h94
              have h101 := kV98.bk h95
              have K102 := K96.nn kV98
              have z103 := kV98.size
              refine skq (iN i) <| skq (iN i) <| spq (pT gs i) (exec_cast (v := pT gs (0 + i * 1)) (by simp) (exec_indexAt_arr 148 (.tmp 4) (.tmp 46) (by kernel_rfl) gs 0 (by kernel_rfl) .i64 i (by kernel_rfl) _ _ 1 Tryz.underlying148 (by kernel_rfl) (by omega))) <| spq (uN (Kec.g (ab Z q) i)) (exec_ld 24 (.tmp 47) gs i Tryz.underlying24 (rc (h101) (Wz_get' _ i _ (by rw [stp_len, ab_len]; omega) (by rw [stp_get _ _ _ _ (by rw [ab_len]; omega), if_neg (by omega)])))) <| skq (.slice (some ⟨g, 0, none⟩) n cap) <| skq (iN (136 * q)) <| skq (iN i) <| spq (iN (8 * i)) (exec_cast (congrArg (Value.int .i64) (wrapN (8 * i) (by omega))) (by kernel_rfl)) <| spq (iN ((136 * q) + (8 * i))) (exec_cast (congrArg (Value.int .i64) (wrapN ((136 * q) + (8 * i)) (by omega))) (by kernel_rfl)) <| spq (.slice (some ⟨g, (136 * q + 8 * i), none⟩) (n - (136 * q + 8 * i)) (cap - (136 * q + 8 * i))) (exec_cast (cut_at g n cap (136 * q + 8 * i) (by omega)) (exec_slice_from 114 (.tmp 49) (.tmp 53) (by kernel_rfl) (some ⟨g, 0, none⟩) n cap (by kernel_rfl) .i64 (136 * q + 8 * i) (by kernel_rfl) 5 Tryz.underlying114 (by kernel_rfl) (by omega))) <| scq 101 #[.slice (some ⟨g, (136 * q + 8 * i), none⟩) (n - (136 * q + 8 * i)) (cap - (136 * q + 8 * i))] (uN (Kec.word ((Z.drop (136 * q + 8 * i)).take 8))) Tryz.func101 (hword_ok g (136 * q + 8 * i) (n - (136 * q + 8 * i)) (cap - (136 * q + 8 * i)) (Z.drop (136 * q + 8 * i)) _ (by rw [List.length_drop, hZl]) (by omega) (by omega) (bytes_at h100 hZl (136 * q + 8 * i) (by omega) hcap hmax)) <| spq (uN ((Kec.g (ab Z q) i) ^^^ (Kec.word ((Z.drop (136 * q + 8 * i)).take 8)))) (exec_cast (xorU (Kec.g (ab Z q) i) (Kec.word ((Z.drop (136 * q + 8 * i)).take 8)) (ab_ws _ _ _) (word_take_lt _ 8 (by omega))) (by kernel_rfl)) <| spq (pT gs i) (exec_cast (v := pT gs (0 + i * 1)) (by simp) (exec_indexAt_arr 148 (.tmp 4) (.tmp 45) (by kernel_rfl) gs 0 (by kernel_rfl) .i64 i (by kernel_rfl) _ _ 1 Tryz.underlying148 (by kernel_rfl) (by omega))) <| st_end ?_
              obtain ⟨V104, eV104, kV104⟩ := cell_step V98 gs i (.int .u64 (((Kec.g (ab Z q) i) ^^^ (Kec.word ((Z.drop (136 * q + 8 * i)).take 8)) : Nat) : Int))
              have h105 : V104.heap[gs]? = some (.cells (Wz (stp (mxf Z q) (i + 1) (ab Z q))) 148 (0, 0)) := eV104 ▸ ((heap_setCell_same _ gs i _ _ (.int .u64 (((Kec.g (ab Z q) i) ^^^ (Kec.word ((Z.drop (136 * q + 8 * i)).take 8)) : Nat) : Int)) h101).trans (congrArg (fun c => some (Obj.cells c 148 (0, 0))) (show (Wz (stp (mxf Z q) i (ab Z q)) : Array Value).setIfInBounds i (.int .u64 (((Kec.g (ab Z q) i) ^^^ (Kec.word ((Z.drop (136 * q + 8 * i)).take 8)) : Nat) : Int)) = Wz (stp (mxf Z q) (i + 1) (ab Z q)) from by rw [Wz_set]; exact congrArg Wz (by rw [stp_succ] <;> rfl))))
              refine ls_skip (qo88_0 1036836 13) (w' := V104) (by kernel_rfl) (by rw [← eV104]; exact exec_store_cell 24 (.tmp 57) (.tmp 56) (by kernel_rfl) gs i (by kernel_rfl) (.int .u64 (((Kec.g (ab Z q) i) ^^^ (Kec.word ((Z.drop (136 * q + 8 * i)).take 8)) : Nat) : Int)) (by kernel_rfl) (by kernel_rfl) (by kernel_rfl) (.int .u64 ((Kec.g (ab Z q) i : Nat) : Int)) (rc (h101) (Wz_get' _ i _ (by rw [stp_len, ab_len]; omega) (by rw [stp_get _ _ _ _ (by rw [ab_len]; omega), if_neg (by omega)]))) (frozen_of_row _ _ _ _ _ h101) (by kernel_rfl)) ?_
              clear eV104
              have h106 := kV104.bo h99 (by omega)
              have h107 := kV104.bo h100 (by omega)
              have K108 := K102.no kV104 (by omega)
              have z109 := kV104.size
              refine ls_end <| blk_n <| then_n <| sy_reg <| rg_q 11 [0, 1, 2] <| pkq (iN i) <| ppq (iN (i + 1)) (exec_cast (congrArg (Value.int .i64) (wrapN (i + 1) (by omega))) (by kernel_rfl)) <| pkq (iN (i + 1)) <| ps_end <| then_n ?_
              refine ⟨⟨i + 1, (iN i), (.bool true), (iN i), (iN (i + 1)), (iN i), (iN i), (pT gs i), (uN (Kec.g (ab Z q) i)), (.slice (some ⟨g, 0, none⟩) n cap), (iN (136 * q)), (iN i), (iN (8 * i)), (iN ((136 * q) + (8 * i))), (.slice (some ⟨g, (136 * q + 8 * i), none⟩) (n - (136 * q + 8 * i)) (cap - (136 * q + 8 * i))), (uN (Kec.word ((Z.drop (136 * q + 8 * i)).take 8))), (uN ((Kec.g (ab Z q) i) ^^^ (Kec.word ((Z.drop (136 * q + 8 * i)).take 8)))), (pT gs i), by kernel_rfl, by omega, h106, h107, h105, K108⟩, ?_⟩
              exact lt_meas (x := 17 - (i + 1)) (y := 17 - i) (by kernel_rfl) (by kernel_rfl) (by omega)
            · have eq_i : i = 17 := by omega
              have h110 : V92.heap[gs]? = some (.cells (Wz (mx Z q)) 148 (0, 0)) := h95.trans (by rw [eq_i, mx_all])
              refine sy_sq (qc88_0 259208) (qc88_0 259209) <| sy_sq (qc88_0 518416) (qc88_0 518417) <| sy_reg <| rg_q 10 [0, 1] <| pkq (iN i) <| ppq (.bool false) (dcf ((((i : Nat) : Int)) < ((17) : Int)) (by omega)) <| ps_end <| then_n <| sy_n (.tmp 42) (qc88_0 1036834) (qc88_0 1036835) <| sy_exit 4 (by kernel_rfl) <| then_e <| then_e <| blk_e <| then_n ?_
              refine sy_reg <| rg_q 13 [0, 1, 2] <| ppq (.agg (Wz (mx Z q))) (exec_load_row 148 (.tmp 4) (by kernel_rfl) gs (by kernel_rfl) _ _ (0, 0) _ (h110) Tryz.underlying148 rfl (by rw [Wz_size, mx_len]; kernel_rfl)) ?_
              refine pcq 102 #[.agg (Wz (mx Z q))] Tryz.func102 ((hPermute_as Z q _).mono ?_)
              rintro e V111 ⟨rfl, kV111⟩
              refine ⟨_, rfl, ?_⟩
              have h112 := kV111.bk h93
              have h113 := kV111.bk h94
              have h114 := kV111.bk h110
              have K115 := K96.nn kV111
              have z116 := kV111.size
              obtain ⟨V117, eV117, kV117⟩ := rowset_step V111 gs ((Wz (ab Z (q + 1))))
              have h118 : V117.heap[gs]? = some (.cells (Wz (ab Z (q + 1))) 148 (0, 0)) := eV117 ▸ setRow_heap _ _ _ _ _ _ h114
              refine pzq (w' := V117) (by rw [← eV117]; exact exec_store_row 148 (.tmp 4) (.tmp 59) (by kernel_rfl) gs ((Wz (ab Z (q + 1)))) (by kernel_rfl) (by kernel_rfl) 148 (Wz (mx Z q)) h114 (by rw [Wz_size, ab_len]; kernel_rfl) (by rw [Wz_size, Wz_size, mx_len, ab_len]) (Wz_one _)) ?_
              clear eV117
              have h119 := kV117.bo h112 (by omega)
              have h120 := kV117.bo h113 (by omega)
              have K121 := K115.no kV117 (by omega)
              have z122 := kV117.size
              refine ps_end <| blk_n <| then_n <| sy_reg <| rg_q 8 [0, 1, 2] <| pkq (iN (136 * q)) <| ppq (iN ((136 * q) + 136)) (exec_cast (congrArg (Value.int .i64) (wrapN ((136 * q) + 136) (by omega))) (by kernel_rfl)) <| pkq (iN ((136 * q) + 136)) <| ps_end <| then_n ?_
              refine ⟨⟨q + 1, (iN i), (iN (136 * q)), (.slice (some ⟨g, 0, none⟩) n cap), (iN n), (.bool true), (iN (136 * q)), (iN ((136 * q) + 136)), (iN i), (.bool false), u43, u44, u45, u46, u47, u48, u49, u50, u51, u52, u53, u54, u55, u56, u57, (.agg (Wz (mx Z q))), (.agg (Wz (ab Z (q + 1)))), by kernel_rfl, by omega, h119, h120, h118, K121⟩, ?_⟩
              exact lt_meas (x := 136 * nq - 136 * (q + 1)) (y := 136 * nq - 136 * q) (by kernel_rfl) (by kernel_rfl) (by omega)
        · have eq_q : q = nq := by omega
          have h123 : V87.heap[gs]? = some (.cells (Wz (ab Z nq)) 148 (0, 0)) := h90.trans (by rw [eq_q])
          refine sy_sq (qc88_0 2024) (qc88_0 2025) <| sy_sq (qc88_0 4048) (qc88_0 4049) <| sy_reg <| rg_q 7 [0, 1, 2, 3] <| pkq (iN (136 * q)) <| pkq (.slice (some ⟨g, 0, none⟩) n cap) <| ppq (iN n) (exec_len (.tmp 36) 114 _ (by kernel_rfl) Tryz.underlying114 (some ⟨g, 0, none⟩) n cap (by kernel_rfl)) <| ppq (.bool false) (dcf ((((136 * q : Nat) : Int)) < (((n : Nat) : Int))) (by omega)) <| ps_end <| then_n <| sy_n (.tmp 38) (qc88_0 8098) (qc88_0 8099) <| sy_exit 2 (by kernel_rfl) <| then_e <| then_e ?_
          refine blk_e <| then_n <| sy_sq (qc88_0 254) (qc88_0 255) <| sy_reg <| rg_q 14 [0] ?_
          obtain ⟨V124, eV124, go, ego, h125, kV124⟩ := alloc_step V87 (zr_u8_32) 23
          have n126 : gr < go := ego ▸ lt_of_block h88
          have n127 : g < go := ego ▸ lt_of_block h89
          have n128 : gs < go := ego ▸ lt_of_block h123
          have n129 : w.heap.size ≤ go := ego ▸ K91.size
          refine prq (pT go 0) (w' := V124) (by rw [← eV124, ← ego]; exact exec_alloc0 23 (by kernel_rfl) (.agg (zr_u8_32)) (by kernel_rfl)) ?_
          clear eV124
          have h130 := kV124.bk h88
          have h131 := kV124.bk h89
          have h132 := kV124.bk h123
          have K133 := K91.nn kV124
          have z134 := kV124.size
          refine ps_end <| then_n <| sy_sq (qc88_0 510) (qc88_0 511) <| sy_sq (qc88_0 1020) (qc88_0 1021) <| sy_reg <| rg_q 15 [0] <| pkq (.int .i64 0) <| ps_end <| then_n <| sy_bk 6 (qc88_0 2042) ?_
          refine sy_loop (qc88_0 4084) (fun a V => ∃ (c : Nat) (u9 u10 u60 u61 u62 u63 u64 u65 u66 u67 u68 u69 u70 u71 u72 u73 u74 u75 u76 u77 u78 u79 u80 : Value), (a = ⟨#[v0, ud, pT gr 0, .slice (some ⟨g, 0, none⟩) n cap, pT gs 0, iN (136 * q), u6, pT go 0, iN c, u9, u10, .slice (some ⟨g0, 0, none⟩) 0 0, v0, v17, .slice (some ⟨g6, 0, none⟩) 1 1, v37, .slice (some ⟨g, 0, none⟩) n cap, iN (x.length + 1 + p), iN ((x.length + 1 + p) % 136), .bool false, u20, u21, u22, .slice (some ⟨g, 0, none⟩) n cap, .slice (some ⟨g, 0, none⟩) n cap, iN n, iN (n - 1), .slice (some ⟨g, 0, none⟩) n cap, .slice (some ⟨g, 0, none⟩) n cap, iN n, iN (n - 1), .pointer (some ⟨g, n - 1, none⟩), cN ((Y.getD (n - 1) 0).toNat), cN ((Y.getD (n - 1) 0 ^^^ 128).toNat), .pointer (some ⟨g, n - 1, none⟩), iN (136 * q), .slice (some ⟨g, 0, none⟩) n cap, iN n, .bool false, u39, u40, u41, u42, u43, u44, u45, u46, u47, u48, u49, u50, u51, u52, u53, u54, u55, u56, u57, u58, u59, u60, u61, u62, u63, u64, u65, u66, u67, u68, u69, u70, u71, u72, u73, u74, u75, u76, u77, u78, u79, u80, ud], []⟩) ∧ (c ≤ 4) ∧ (V.heap[gr]? = some (.cells (zr_u8_32) 23 (0, 0))) ∧ (V.heap[g]? = some (.cells ((B Z ++ rest).toArray) 5 (0, 0))) ∧ (V.heap[gs]? = some (.cells (Wz (ab Z nq)) 148 (0, 0))) ∧ (V.heap[go]? = some (.cells ((B (stpB (sqf (ab Z nq)) (8 * c) (List.replicate 32 0))).toArray) 23 (0, 0))) ∧ (Keeps Nob w V)) (fun a _ => 4 - (intOf (a.tmps.getD 8 undef)).toNat) (by kernel_rfl) ?_ ?_
          · exact ⟨0, undef, undef, undef, undef, undef, undef, undef, undef, undef, undef, undef, undef, undef, undef, undef, undef, undef, undef, undef, undef, undef, undef, undef, by kernel_rfl, by omega, h130, h131, h132, h125.trans (by kernel_rfl), K133⟩
          · rintro a V135 ⟨c, u9, u10, u60, u61, u62, u63, u64, u65, u66, u67, u68, u69, u70, u71, u72, u73, u74, u75, u76, u77, u78, u79, u80, rfl, hc, h136, h137, h138, h139, K140⟩
            by_cases lt_c : c < 4
            · show _
              refine sy_sq (qc88_0 8168) (qc88_0 8169) <| sy_sq (qc88_0 16336) (qc88_0 16337) <| sy_reg <| rg_q 16 [0, 1] <| pkq (iN c) <| ppq (.bool true) (dct ((((c : Nat) : Int)) < ((4) : Int)) (by omega)) <| ps_end <| then_n <| sy_ys (.tmp 61) (qc88_0 32674) (qc88_0 32675) <| sy_sk <| then_n <| sy_sq (qc88_0 16338) (qc88_0 16339) <| sy_bk 7 (qc88_0 32676) <| sy_sq (qc88_0 65352) (qc88_0 65353) ?_
              refine sy_reg <| rg_q 18 [0, 1, 2, 3, 4] <| pkq (iN c) <| ppq (pT gs c) (exec_cast (v := pT gs (0 + c * 1)) (by simp) (exec_indexAt_arr 148 (.tmp 4) (.tmp 64) (by kernel_rfl) gs 0 (by kernel_rfl) .i64 c (by kernel_rfl) _ _ 1 Tryz.underlying148 (by kernel_rfl) (by omega))) <| ppq (uN (Kec.g (ab Z nq) c)) (exec_ld 24 (.tmp 65) gs c Tryz.underlying24 (rc (h138) (Wz_get _ c (by rw [ab_len]; omega)))) ?_
              have hgo8 := lt_of_block h139
              refine pcq 103 #[uN (Kec.g (ab Z nq) c)] Tryz.func103 ((hbytes_ok (Kec.g (ab Z nq) c) _ (ab_ws _ _ _)).mono ?_)
              rintro e V141 ⟨v8, rfl, hrow8, hnew8, kV141⟩
              obtain ⟨g8, cap8, rest8, rfl, hg8, hcap8, hmax8⟩ := row_open hrow8 (by omega)
              have hge8 := hnew8 g8 rfl
              have hlt8 := lt_of_block hg8
              refine ⟨_, rfl, ?_⟩
              have h142 := kV141.bk h136
              have h143 := kV141.bk h137
              have h144 := kV141.bk h138
              have h145 := kV141.bk h139
              have K146 := K140.nn kV141
              have z147 := kV141.size
              refine pkq (.slice (some ⟨g8, 0, none⟩) 8 cap8) <| ps_end <| then_n <| sy_sq (qc88_0 130706) (qc88_0 130707) <| sy_reg <| rg_q 19 [0] <| pkq (.int .i64 0) <| ps_end <| then_n <| sy_bk 8 (qc88_0 261414) ?_
              refine sy_loop (qc88_0 522828) (fun a V => ∃ (e : Nat) (u68 u69 u70 u71 u72 u73 u74 u75 u76 u77 u78 u79 u80 : Value), (a = ⟨#[v0, ud, pT gr 0, .slice (some ⟨g, 0, none⟩) n cap, pT gs 0, iN (136 * q), u6, pT go 0, iN c, .slice (some ⟨g8, 0, none⟩) 8 cap8, iN e, .slice (some ⟨g0, 0, none⟩) 0 0, v0, v17, .slice (some ⟨g6, 0, none⟩) 1 1, v37, .slice (some ⟨g, 0, none⟩) n cap, iN (x.length + 1 + p), iN ((x.length + 1 + p) % 136), .bool false, u20, u21, u22, .slice (some ⟨g, 0, none⟩) n cap, .slice (some ⟨g, 0, none⟩) n cap, iN n, iN (n - 1), .slice (some ⟨g, 0, none⟩) n cap, .slice (some ⟨g, 0, none⟩) n cap, iN n, iN (n - 1), .pointer (some ⟨g, n - 1, none⟩), cN ((Y.getD (n - 1) 0).toNat), cN ((Y.getD (n - 1) 0 ^^^ 128).toNat), .pointer (some ⟨g, n - 1, none⟩), iN (136 * q), .slice (some ⟨g, 0, none⟩) n cap, iN n, .bool false, u39, u40, u41, u42, u43, u44, u45, u46, u47, u48, u49, u50, u51, u52, u53, u54, u55, u56, u57, u58, u59, iN c, .bool true, u62, u63, iN c, pT gs c, uN (Kec.g (ab Z nq) c), .slice (some ⟨g8, 0, none⟩) 8 cap8, u68, u69, u70, u71, u72, u73, u74, u75, u76, u77, u78, u79, u80, ud], []⟩) ∧ (e ≤ 8) ∧ (V.heap[gr]? = some (.cells (zr_u8_32) 23 (0, 0))) ∧ (V.heap[g]? = some (.cells ((B Z ++ rest).toArray) 5 (0, 0))) ∧ (V.heap[gs]? = some (.cells (Wz (ab Z nq)) 148 (0, 0))) ∧ (V.heap[go]? = some (.cells ((B (stpB (sqf (ab Z nq)) (8 * c + e) (List.replicate 32 0))).toArray) 23 (0, 0))) ∧ (V.heap[g8]? = some (.cells ((B (Kec.eight (Kec.g (ab Z nq) c)) ++ rest8).toArray) 5 (0, 0))) ∧ (Keeps Nob w V)) (fun a _ => 8 - (intOf (a.tmps.getD 10 undef)).toNat) (by kernel_rfl) ?_ ?_
              · exact ⟨0, u68, u69, u70, u71, u72, u73, u74, u75, u76, u77, u78, u79, u80, by kernel_rfl, by omega, h142, h143, h144, h145, hg8, K146⟩
              · rintro a V148 ⟨e, u68, u69, u70, u71, u72, u73, u74, u75, u76, u77, u78, u79, u80, rfl, he, h149, h150, h151, h152, h153, K154⟩
                by_cases lt_e : e < 8
                · show _
                  refine sy_sq (qc88_0 1045656) (qc88_0 1045657) <| sy_sq (qc88_0 2091312) (qc88_0 2091313) <| sy_reg <| rg_q 20 [0, 1] <| pkq (iN e) <| ppq (.bool true) (dct ((((e : Nat) : Int)) < ((8) : Int)) (by omega)) <| ps_end <| then_n <| sy_ys (.tmp 69) (qc88_0 4182626) (qc88_0 4182627) <| sy_sk <| then_n <| sy_sq (qc88_0 2091314) (qc88_0 2091315) <| sy_bk 9 (qc88_0 4182628) <| sy_reg ?_
                  refine rg_q 22 [0, 1, 2, 3, 4, 5, 6, 7, 8, 9] <| pkq (iN c) <| ppq (iN (8 * c)) (exec_cast (congrArg (Value.int .i64) (wrapN (8 * c) (by omega))) (by kernel_rfl)) <| pkq (iN e) <| ppq (iN ((8 * c) + e)) (exec_cast (congrArg (Value.int .i64) (wrapN ((8 * c) + e) (by omega))) (by kernel_rfl)) <| pkq (.slice (some ⟨g8, 0, none⟩) 8 cap8) <| pkq (iN e) <| ppq (pT g8 e) (exec_cast (v := pT g8 (0 + e * 1)) (by simp) (exec_indexAt_slice 114 (.tmp 76) (.tmp 77) (by kernel_rfl) g8 0 8 cap8 (by kernel_rfl) .i64 e (by kernel_rfl) _ 1 Tryz.underlying114 (by kernel_rfl) (by omega))) <| ppq (cN (((Kec.eight (Kec.g (ab Z nq) c)).getD e 0).toNat)) (exec_ld 5 (.tmp 78) g8 e Tryz.underlying5 (rc (h153) (rb_get _ _ e (by rw [eight_len]; omega)))) <| ppq (.pointer (some ⟨go, (8 * c) + e, none⟩)) (exec_cast (v := .pointer (some ⟨go, 0 + ((8 * c) + e) * 1, none⟩)) (by simp) (exec_indexAt_arr 23 (.tmp 7) (.tmp 75) (by kernel_rfl) go 0 (by kernel_rfl) .i64 ((8 * c) + e) (by kernel_rfl) _ _ 1 Tryz.underlying23 (by kernel_rfl) (by omega))) ?_
                  obtain ⟨V155, eV155, kV155⟩ := cell_step V148 go ((8 * c) + e) (.int .u8 ((((Kec.eight (Kec.g (ab Z nq) c)).getD e 0).toNat : Nat) : Int))
                  have h156 : V155.heap[go]? = some (.cells ((B (stpB (sqf (ab Z nq)) (8 * c + (e + 1)) (List.replicate 32 0))).toArray) 23 (0, 0)) := eV155 ▸ ((heap_setCell_same _ go ((8 * c) + e) _ _ (.int .u8 ((((Kec.eight (Kec.g (ab Z nq) c)).getD e 0).toNat : Nat) : Int)) h152).trans (congrArg (fun c => some (Obj.cells c 23 (0, 0))) (show ((B (stpB (sqf (ab Z nq)) (8 * c + e) (List.replicate 32 0))).toArray : Array Value).setIfInBounds ((8 * c) + e) (.int .u8 ((((Kec.eight (Kec.g (ab Z nq) c)).getD e 0).toNat : Nat) : Int)) = (B (stpB (sqf (ab Z nq)) (8 * c + (e + 1)) (List.replicate 32 0))).toArray from by rw [Bz_set]; exact congrArg (fun l => (B l).toArray) (by rw [sq_get _ _ _ (by omega) (by omega)]; exact (stpB_succ (sqf (ab Z nq)) (8 * c + e) (List.replicate 32 0)).symm))))
                  refine pzq (w' := V155) (by rw [← eV155]; exact exec_store_cell 5 (.tmp 80) (.tmp 79) (by kernel_rfl) go ((8 * c) + e) (by kernel_rfl) (cN (((Kec.eight (Kec.g (ab Z nq) c)).getD e 0).toNat)) (by kernel_rfl) (by kernel_rfl) (by kernel_rfl) (cN (((stpB (sqf (ab Z nq)) (8 * c + e) (List.replicate 32 0)).getD ((8 * c) + e) 0).toNat)) (rc (h152) (Bz_get _ ((8 * c) + e) (by rw [stpB_len, List.length_replicate]; omega))) (frozen_of_row _ _ _ _ _ h152) (by kernel_rfl)) ?_
                  clear eV155
                  have h157 := kV155.bo h149 (by omega)
                  have h158 := kV155.bo h150 (by omega)
                  have h159 := kV155.bo h151 (by omega)
                  have h160 := kV155.bo h153 (by omega)
                  have K161 := K154.no kV155 (by omega)
                  have z162 := kV155.size
                  refine ps_end <| blk_n <| then_n <| sy_reg <| rg_q 21 [0, 1, 2] <| pkq (iN e) <| ppq (iN (e + 1)) (exec_cast (congrArg (Value.int .i64) (wrapN (e + 1) (by omega))) (by kernel_rfl)) <| pkq (iN (e + 1)) <| ps_end <| then_n ?_
                  refine ⟨⟨e + 1, (iN e), (.bool true), (iN e), (iN (e + 1)), (iN c), (iN (8 * c)), (iN e), (iN ((8 * c) + e)), (.slice (some ⟨g8, 0, none⟩) 8 cap8), (iN e), (pT g8 e), (cN (((Kec.eight (Kec.g (ab Z nq) c)).getD e 0).toNat)), (.pointer (some ⟨go, (8 * c) + e, none⟩)), by kernel_rfl, by omega, h157, h158, h159, h156, h160, K161⟩, ?_⟩
                  exact lt_meas (x := 8 - (e + 1)) (y := 8 - e) (by kernel_rfl) (by kernel_rfl) (by omega)
                · have eq_e : e = 8 := by omega
                  refine sy_sq (qc88_0 1045656) (qc88_0 1045657) <| sy_sq (qc88_0 2091312) (qc88_0 2091313) <| sy_reg <| rg_q 20 [0, 1] <| pkq (iN e) <| ppq (.bool false) (dcf ((((e : Nat) : Int)) < ((8) : Int)) (by omega)) <| ps_end <| then_n <| sy_n (.tmp 69) (qc88_0 4182626) (qc88_0 4182627) <| sy_exit 8 (by kernel_rfl) <| then_e <| then_e <| blk_e <| blk_n ?_
                  refine then_n <| sy_reg <| rg_q 17 [0, 1, 2] <| pkq (iN c) <| ppq (iN (c + 1)) (exec_cast (congrArg (Value.int .i64) (wrapN (c + 1) (by omega))) (by kernel_rfl)) <| pkq (iN (c + 1)) <| ps_end <| then_n ?_
                  refine ⟨⟨c + 1, (.slice (some ⟨g8, 0, none⟩) 8 cap8), (iN e), (iN c), (.bool true), (iN c), (iN (c + 1)), (iN c), (pT gs c), (uN (Kec.g (ab Z nq) c)), (.slice (some ⟨g8, 0, none⟩) 8 cap8), (iN e), (.bool false), u70, u71, u72, u73, u74, u75, u76, u77, u78, u79, u80, by kernel_rfl, by omega, h149, h150, h151, h152.trans (congrArg (fun t => some (Obj.cells (B (stpB (sqf (ab Z nq)) t (List.replicate 32 0))).toArray 23 (0, 0))) (show 8 * c + e = 8 * (c + 1) by omega)), K154⟩, ?_⟩
                  exact lt_meas (x := 4 - (c + 1)) (y := 4 - c) (by kernel_rfl) (by kernel_rfl) (by omega)
            · have eq_c : c = 4 := by omega
              have h163 : V135.heap[go]? = some (.cells ((B (Kec.sum x)).toArray) 23 (0, 0)) := h139.trans (congrArg (fun l => some (Obj.cells (B l).toArray 23 (0, 0))) (by subst eq_c; rw [← hZ]; exact sq_all x nq hnq.symm _ (by simp)))
              refine sy_sq (qc88_0 8168) (qc88_0 8169) <| sy_sq (qc88_0 16336) (qc88_0 16337) <| sy_reg <| rg_q 16 [0, 1] <| pkq (iN c) <| ppq (.bool false) (dcf ((((c : Nat) : Int)) < ((4) : Int)) (by omega)) <| ps_end <| then_n <| sy_n (.tmp 61) (qc88_0 32674) (qc88_0 32675) <| sy_exit 6 (by kernel_rfl) <| then_e <| then_e <| blk_e <| then_n ?_
              refine sy_sq (qc88_0 1022) (qc88_0 1023) <| sy_reg <| rg_q 23 [0, 1] <| ppq (.agg ((B (Kec.sum x)).toArray)) (exec_load_row 23 (.tmp 7) (by kernel_rfl) go (by kernel_rfl) _ _ (0, 0) _ (h163) Tryz.underlying23 rfl (by rw [Bz_size, Kec.sum_len]; kernel_rfl)) ?_
              obtain ⟨V164, eV164, kV164⟩ := rowset_step V135 gr (((B (Kec.sum x)).toArray))
              have h165 : V164.heap[gr]? = some (.cells ((B (Kec.sum x)).toArray) 23 (0, 0)) := eV164 ▸ setRow_heap _ _ _ _ _ _ h136
              refine pzq (w' := V164) (by rw [← eV164]; exact exec_store_row 23 (.tmp 2) (.tmp 81) (by kernel_rfl) gr (((B (Kec.sum x)).toArray)) (by kernel_rfl) (by kernel_rfl) 23 (zr_u8_32) h136 (by rw [Bz_size, Kec.sum_len]; kernel_rfl) (by rw [Bz_size, Kec.sum_len]; rfl) (by rw [List.all_toArray]; exact List.all_eq_true.2 (B_one _))) ?_
              clear eV164
              have K169 := K140.no kV164 (by omega)
              have z170 := kV164.size
              refine ps_end <| then_n <| sy_ret (by kernel_rfl) <| sy_out (.agg ((B (Kec.sum x)).toArray)) rfl (results_cell_row (p := 2) (ty := 23) (by kernel_rfl) _ _ gr 23 ((B (Kec.sum x)).toArray) (0, 0) _ (by kernel_rfl) h165 Tryz.underlying23 rfl (by rw [Bz_size, Kec.sum_len]; kernel_rfl)) ?_
              exact ⟨rfl, K169⟩
end Go.Proofs.YtcbfnflnokoacaaGreat
namespace Go.Proofs.YtcbfnflnokoacaaGreat
set_option maxRecDepth 100000
set_option maxHeartbeats 4000000
open Go Go.RowKit Go.Own Go.Shelf
noncomputable def qc89_1 (n : Nat) : Code := partOf Tryz.f42 n
theorem rvDigest_bad (a : Att) (w : World) (ha : a.Ok) (hf : ¬ a.fine) :
    Calls Tryz.prog 42 #[.agg (Att.c a)] w (fun e w' => e = .returned (.tuple #[.agg (B zhash).toArray, .int .i64 3]) ∧ Keeps Nob w w') := by
  have hr := ha.r
  have hlen := att_len hr
  have K0 : Keeps Nob w w := Keeps.refl _ _
  refine sy_enter (qc89_1 1) ⟨#[.agg (Att.c a), ud, ud, ud, ud, ud, ud, ud, ud, ud, ud, ud, ud, ud], []⟩ Tryz.func42 (by kernel_rfl) (by kernel_rfl) <| sy_sq (qc89_1 2) (qc89_1 3) <| sy_reg <| rg_q 0 [0, 1, 2] ?_
  obtain ⟨V1, eV1, ga, ega, h2, kV1⟩ := alloc_step w ((Att.c a)) 26
  have n3 : w.heap.size ≤ ga := ega ▸ K0.size
  refine prq (pT ga 0) (w' := V1) (by rw [← eV1, ← ega]; exact exec_box 26 (.tmp 0) (by kernel_rfl) (.agg (Att.c a)) (by kernel_rfl)) ?_
  clear eV1
  have K4 := K0.nn kV1
  have z5 := kV1.size
  obtain ⟨V6, eV6, gr, egr, h7, kV6⟩ := alloc_step V1 (zr_u8_32) 23
  have n8 : ga < gr := egr ▸ lt_of_block h2
  have n9 : w.heap.size ≤ gr := egr ▸ K4.size
  refine prq (pT gr 0) (w' := V6) (by rw [← eV6, ← egr]; exact exec_alloc0 23 (by kernel_rfl) (.agg (zr_u8_32)) (by kernel_rfl)) ?_
  clear eV6
  have h10 := kV6.bk h2
  have K11 := K4.nn kV6
  have z12 := kV6.size
  refine pkq (.int .i64 0) <| ps_end <| then_n <| sy_sq (qc89_1 6) (qc89_1 7) <| sy_sq (qc89_1 12) (qc89_1 13) <| sy_reg <| rg_q 1 [0, 1, 2] <| ppq (.agg (Att.c a)) (exec_load_row 26 (.tmp 1) (by kernel_rfl) ga (by kernel_rfl) _ _ (0, 0) _ (h10) Tryz.underlying26 rfl (by rw [Att.c_size _ hr]; kernel_rfl)) ?_
  refine pcq 77 #[.agg (Att.c a)] Tryz.func77 ((rvCheck_is a _ hr (Att.err_no hf)).mono ?_)
  rintro e V13 ⟨rfl, kV13⟩
  refine ⟨_, rfl, ?_⟩
  have h15 := kV13.bk h7
  have K16 := K11.nn kV13
  have z17 := kV13.size
  refine pkq (.int .i64 3) <| ps_end <| then_n <| sy_sq (qc89_1 26) (qc89_1 27) <| sy_reg <| rg_q 2 [0, 1] <| pkq (.int .i64 3) <| pkq (.bool true) <| ps_end <| then_n <| sy_ys (.tmp 8) (qc89_1 54) (qc89_1 55) <| sy_sq (qc89_1 108) (qc89_1 109) <| sy_reg <| rg_q 3 [0, 1, 2, 3] ?_
  refine pkq (.agg (B zhash).toArray) <| pkq (.int .i64 3) ?_
  obtain ⟨V18, eV18, kV18⟩ := rowset_step V13 gr ((B zhash).toArray)
  have h19 : V18.heap[gr]? = some (.cells ((B zhash).toArray) 23 (0, 0)) := eV18 ▸ setRow_heap _ _ _ _ _ _ h15
  refine pzq (w' := V18) (by rw [← eV18]; exact exec_store_row 23 (.tmp 2) (.tmp 9) (by kernel_rfl) gr ((B zhash).toArray) (by kernel_rfl) (by kernel_rfl) 23 (zr_u8_32) h15 (by rw [Bz_size, show (zhash).length = 32 from zhash_len]; kernel_rfl) (by rw [Bz_size, show (zhash).length = 32 from zhash_len]; rfl) (by rw [List.all_toArray]; exact List.all_eq_true.2 (B_one _))) ?_
  clear eV18
  have K21 := K16.no kV18 (by omega)
  have z22 := kV18.size
  refine pkq (.int .i64 3) <| ps_end <| then_n <| sy_ret (by kernel_rfl) <| then_r <| sy_out (.tuple #[.agg ((B zhash).toArray), .int .i64 3]) rfl (results_row_tmp (p := 2) (q := 3) (ty := 23) (by kernel_rfl) _ _ gr 23 ((B zhash).toArray) (0, 0) _ (.int .i64 3) (by kernel_rfl) h19 Tryz.underlying23 rfl (by rw [Bz_size, zhash_len]; kernel_rfl) (by kernel_rfl)) ?_
  exact ⟨rfl, K21⟩
theorem rvDigest_ok (a : Att) (w : World) (ha : a.Ok) (hf : a.fine) :
    Calls Tryz.prog 42 #[.agg (Att.c a)] w (fun e w' => e = .returned (.tuple #[.agg (B a.dig).toArray, .int .i64 0]) ∧ Keeps Nob w w') := by
  have hr := ha.r
  have hlen := att_len hr
  have K0 : Keeps Nob w w := Keeps.refl _ _
  refine sy_enter (qc89_1 1) ⟨#[.agg (Att.c a), ud, ud, ud, ud, ud, ud, ud, ud, ud, ud, ud, ud, ud], []⟩ Tryz.func42 (by kernel_rfl) (by kernel_rfl) <| sy_sq (qc89_1 2) (qc89_1 3) <| sy_reg <| rg_q 0 [0, 1, 2] ?_
  obtain ⟨V1, eV1, ga, ega, h2, kV1⟩ := alloc_step w ((Att.c a)) 26
  have n3 : w.heap.size ≤ ga := ega ▸ K0.size
  refine prq (pT ga 0) (w' := V1) (by rw [← eV1, ← ega]; exact exec_box 26 (.tmp 0) (by kernel_rfl) (.agg (Att.c a)) (by kernel_rfl)) ?_
  clear eV1
  have K4 := K0.nn kV1
  have z5 := kV1.size
  obtain ⟨V6, eV6, gr, egr, h7, kV6⟩ := alloc_step V1 (zr_u8_32) 23
  have n8 : ga < gr := egr ▸ lt_of_block h2
  have n9 : w.heap.size ≤ gr := egr ▸ K4.size
  refine prq (pT gr 0) (w' := V6) (by rw [← eV6, ← egr]; exact exec_alloc0 23 (by kernel_rfl) (.agg (zr_u8_32)) (by kernel_rfl)) ?_
  clear eV6
  have h10 := kV6.bk h2
  have K11 := K4.nn kV6
  have z12 := kV6.size
  refine pkq (.int .i64 0) <| ps_end <| then_n <| sy_sq (qc89_1 6) (qc89_1 7) <| sy_sq (qc89_1 12) (qc89_1 13) <| sy_reg <| rg_q 1 [0, 1, 2] <| ppq (.agg (Att.c a)) (exec_load_row 26 (.tmp 1) (by kernel_rfl) ga (by kernel_rfl) _ _ (0, 0) _ (h10) Tryz.underlying26 rfl (by rw [Att.c_size _ hr]; kernel_rfl)) ?_
  refine pcq 77 #[.agg (Att.c a)] Tryz.func77 ((rvCheck_is a _ hr (Att.err_ok hf)).mono ?_)
  rintro e V13 ⟨rfl, kV13⟩
  refine ⟨_, rfl, ?_⟩
  have h14 := kV13.bk h10
  have h15 := kV13.bk h7
  have K16 := K11.nn kV13
  have z17 := kV13.size
  refine pkq (.int .i64 0) <| ps_end <| then_n <| sy_sq (qc89_1 26) (qc89_1 27) <| sy_reg <| rg_q 2 [0, 1] <| pkq (.int .i64 0) <| pkq (.bool false) <| ps_end <| then_n <| sy_n (.tmp 8) (qc89_1 54) (qc89_1 55) <| sy_sk <| then_n <| sy_sq (qc89_1 14) (qc89_1 15) ?_
  refine sy_reg <| rg_q 4 [0, 1, 2, 3, 4] <| ppq (.agg (Att.c a)) (exec_load_row 26 (.tmp 1) (by kernel_rfl) ga (by kernel_rfl) _ _ (0, 0) _ (h14) Tryz.underlying26 rfl (by rw [Att.c_size _ hr]; kernel_rfl)) ?_
  refine pcq 79 #[.agg (Att.c a)] Tryz.func79 ((rbare_ok a _ ha hf).mono ?_)
  rintro e V18 ⟨X, rfl, hX, hnX, kV18⟩
  refine ⟨_, rfl, ?_⟩
  have h20 := kV18.bk h15
  have K21 := K16.nn kV18
  have z22 := kV18.size
  refine pcq 78 #[X] Tryz.func78 ((hSum_ok a.bare _ _ (Row.bytes hX) (by omega)).mono ?_)
  rintro e V23 ⟨rfl, kV23⟩
  refine ⟨_, rfl, ?_⟩
  have h25 := kV23.bk h20
  have K26 := K21.nn kV23
  have z27 := kV23.size
  obtain ⟨V28, eV28, kV28⟩ := rowset_step V23 gr ((B a.dig).toArray)
  have h29 : V28.heap[gr]? = some (.cells ((B a.dig).toArray) 23 (0, 0)) := eV28 ▸ setRow_heap _ _ _ _ _ _ h25
  refine pzq (w' := V28) (by rw [← eV28]; exact exec_store_row 23 (.tmp 2) (.tmp 13) (by kernel_rfl) gr ((B a.dig).toArray) (by kernel_rfl) (by kernel_rfl) 23 (zr_u8_32) h25 (by rw [Bz_size, show (a.dig).length = 32 from (Att.dig_len a)]; kernel_rfl) (by rw [Bz_size, show (a.dig).length = 32 from (Att.dig_len a)]; rfl) (by rw [List.all_toArray]; exact List.all_eq_true.2 (B_one _))) ?_
  clear eV28
  have K31 := K26.no kV28 (by omega)
  have z32 := kV28.size
  refine pkq (.int .i64 0) <| ps_end <| then_n <| sy_ret (by kernel_rfl) <| sy_out (.tuple #[.agg ((B a.dig).toArray), .int .i64 0]) rfl (results_row_tmp (p := 2) (q := 3) (ty := 23) (by kernel_rfl) _ _ gr 23 ((B a.dig).toArray) (0, 0) _ (.int .i64 0) (by kernel_rfl) h29 Tryz.underlying23 rfl (by rw [Bz_size, (Att.dig_len a)]; kernel_rfl) (by kernel_rfl)) ?_
  exact ⟨rfl, K31⟩
noncomputable def qc89_0 (n : Nat) : Code := partOf Tryz.f44 n
theorem rvDigestBlock_bad (a : Pro) (w : World) (ha : a.Ok) (hf : ¬ a.fine) :
    Calls Tryz.prog 44 #[.agg (Pro.c a)] w (fun e w' => e = .returned (.tuple #[.agg (B zhash).toArray, .int .i64 3]) ∧ Keeps Nob w w') := by
  have hr := ha.r
  have hlen := pro_len hr
  have K0 : Keeps Nob w w := Keeps.refl _ _
  refine sy_enter (qc89_0 1) ⟨#[.agg (Pro.c a), ud, ud, ud, ud, ud, ud, ud, ud, ud, ud, ud, ud, ud], []⟩ Tryz.func44 (by kernel_rfl) (by kernel_rfl) <| sy_sq (qc89_0 2) (qc89_0 3) <| sy_reg <| rg_q 0 [0, 1, 2] ?_
  obtain ⟨V1, eV1, ga, ega, h2, kV1⟩ := alloc_step w ((Pro.c a)) 28
  have n3 : w.heap.size ≤ ga := ega ▸ K0.size
  refine prq (pT ga 0) (w' := V1) (by rw [← eV1, ← ega]; exact exec_box 28 (.tmp 0) (by kernel_rfl) (.agg (Pro.c a)) (by kernel_rfl)) ?_
  clear eV1
  have K4 := K0.nn kV1
  have z5 := kV1.size
  obtain ⟨V6, eV6, gr, egr, h7, kV6⟩ := alloc_step V1 (zr_u8_32) 23
  have n8 : ga < gr := egr ▸ lt_of_block h2
  have n9 : w.heap.size ≤ gr := egr ▸ K4.size
  refine prq (pT gr 0) (w' := V6) (by rw [← eV6, ← egr]; exact exec_alloc0 23 (by kernel_rfl) (.agg (zr_u8_32)) (by kernel_rfl)) ?_
  clear eV6
  have h10 := kV6.bk h2
  have K11 := K4.nn kV6
  have z12 := kV6.size
  refine pkq (.int .i64 0) <| ps_end <| then_n <| sy_sq (qc89_0 6) (qc89_0 7) <| sy_sq (qc89_0 12) (qc89_0 13) <| sy_reg <| rg_q 1 [0, 1, 2] <| ppq (.agg (Pro.c a)) (exec_load_row 28 (.tmp 1) (by kernel_rfl) ga (by kernel_rfl) _ _ (0, 0) _ (h10) Tryz.underlying28 rfl (by rw [Pro.c_size _ hr]; kernel_rfl)) ?_
  refine pcq 80 #[.agg (Pro.c a)] Tryz.func80 ((rvCheckBlock_is a _ hr (Pro.err_no hf)).mono ?_)
  rintro e V13 ⟨rfl, kV13⟩
  refine ⟨_, rfl, ?_⟩
  have h15 := kV13.bk h7
  have K16 := K11.nn kV13
  have z17 := kV13.size
  refine pkq (.int .i64 3) <| ps_end <| then_n <| sy_sq (qc89_0 26) (qc89_0 27) <| sy_reg <| rg_q 2 [0, 1] <| pkq (.int .i64 3) <| pkq (.bool true) <| ps_end <| then_n <| sy_ys (.tmp 8) (qc89_0 54) (qc89_0 55) <| sy_sq (qc89_0 108) (qc89_0 109) <| sy_reg <| rg_q 3 [0, 1, 2, 3] ?_
  refine pkq (.agg (B zhash).toArray) <| pkq (.int .i64 3) ?_
  obtain ⟨V18, eV18, kV18⟩ := rowset_step V13 gr ((B zhash).toArray)
  have h19 : V18.heap[gr]? = some (.cells ((B zhash).toArray) 23 (0, 0)) := eV18 ▸ setRow_heap _ _ _ _ _ _ h15
  refine pzq (w' := V18) (by rw [← eV18]; exact exec_store_row 23 (.tmp 2) (.tmp 9) (by kernel_rfl) gr ((B zhash).toArray) (by kernel_rfl) (by kernel_rfl) 23 (zr_u8_32) h15 (by rw [Bz_size, show (zhash).length = 32 from zhash_len]; kernel_rfl) (by rw [Bz_size, show (zhash).length = 32 from zhash_len]; rfl) (by rw [List.all_toArray]; exact List.all_eq_true.2 (B_one _))) ?_
  clear eV18
  have K21 := K16.no kV18 (by omega)
  have z22 := kV18.size
  refine pkq (.int .i64 3) <| ps_end <| then_n <| sy_ret (by kernel_rfl) <| then_r <| sy_out (.tuple #[.agg ((B zhash).toArray), .int .i64 3]) rfl (results_row_tmp (p := 2) (q := 3) (ty := 23) (by kernel_rfl) _ _ gr 23 ((B zhash).toArray) (0, 0) _ (.int .i64 3) (by kernel_rfl) h19 Tryz.underlying23 rfl (by rw [Bz_size, zhash_len]; kernel_rfl) (by kernel_rfl)) ?_
  exact ⟨rfl, K21⟩
theorem rvDigestBlock_ok (a : Pro) (w : World) (ha : a.Ok) (hf : a.fine) :
    Calls Tryz.prog 44 #[.agg (Pro.c a)] w (fun e w' => e = .returned (.tuple #[.agg (B a.dig).toArray, .int .i64 0]) ∧ Keeps Nob w w') := by
  have hr := ha.r
  have hlen := pro_len hr
  have K0 : Keeps Nob w w := Keeps.refl _ _
  refine sy_enter (qc89_0 1) ⟨#[.agg (Pro.c a), ud, ud, ud, ud, ud, ud, ud, ud, ud, ud, ud, ud, ud], []⟩ Tryz.func44 (by kernel_rfl) (by kernel_rfl) <| sy_sq (qc89_0 2) (qc89_0 3) <| sy_reg <| rg_q 0 [0, 1, 2] ?_
  obtain ⟨V1, eV1, ga, ega, h2, kV1⟩ := alloc_step w ((Pro.c a)) 28
  have n3 : w.heap.size ≤ ga := ega ▸ K0.size
  refine prq (pT ga 0) (w' := V1) (by rw [← eV1, ← ega]; exact exec_box 28 (.tmp 0) (by kernel_rfl) (.agg (Pro.c a)) (by kernel_rfl)) ?_
  clear eV1
  have K4 := K0.nn kV1
  have z5 := kV1.size
  obtain ⟨V6, eV6, gr, egr, h7, kV6⟩ := alloc_step V1 (zr_u8_32) 23
  have n8 : ga < gr := egr ▸ lt_of_block h2
  have n9 : w.heap.size ≤ gr := egr ▸ K4.size
  refine prq (pT gr 0) (w' := V6) (by rw [← eV6, ← egr]; exact exec_alloc0 23 (by kernel_rfl) (.agg (zr_u8_32)) (by kernel_rfl)) ?_
  clear eV6
  have h10 := kV6.bk h2
  have K11 := K4.nn kV6
  have z12 := kV6.size
  refine pkq (.int .i64 0) <| ps_end <| then_n <| sy_sq (qc89_0 6) (qc89_0 7) <| sy_sq (qc89_0 12) (qc89_0 13) <| sy_reg <| rg_q 1 [0, 1, 2] <| ppq (.agg (Pro.c a)) (exec_load_row 28 (.tmp 1) (by kernel_rfl) ga (by kernel_rfl) _ _ (0, 0) _ (h10) Tryz.underlying28 rfl (by rw [Pro.c_size _ hr]; kernel_rfl)) ?_
  refine pcq 80 #[.agg (Pro.c a)] Tryz.func80 ((rvCheckBlock_is a _ hr (Pro.err_ok hf)).mono ?_)
  rintro e V13 ⟨rfl, kV13⟩
  refine ⟨_, rfl, ?_⟩
  have h14 := kV13.bk h10
  have h15 := kV13.bk h7
  have K16 := K11.nn kV13
  have z17 := kV13.size
  refine pkq (.int .i64 0) <| ps_end <| then_n <| sy_sq (qc89_0 26) (qc89_0 27) <| sy_reg <| rg_q 2 [0, 1] <| pkq (.int .i64 0) <| pkq (.bool false) <| ps_end <| then_n <| sy_n (.tmp 8) (qc89_0 54) (qc89_0 55) <| sy_sk <| then_n <| sy_sq (qc89_0 14) (qc89_0 15) ?_
  refine sy_reg <| rg_q 4 [0, 1, 2, 3, 4] <| ppq (.agg (Pro.c a)) (exec_load_row 28 (.tmp 1) (by kernel_rfl) ga (by kernel_rfl) _ _ (0, 0) _ (h14) Tryz.underlying28 rfl (by rw [Pro.c_size _ hr]; kernel_rfl)) ?_
  refine pcq 81 #[.agg (Pro.c a)] Tryz.func81 ((rbareBlock_ok a _ ha hf).mono ?_)
  rintro e V18 ⟨X, rfl, hX, hnX, kV18⟩
  refine ⟨_, rfl, ?_⟩
  have h20 := kV18.bk h15
  have K21 := K16.nn kV18
  have z22 := kV18.size
  refine pcq 78 #[X] Tryz.func78 ((hSum_ok a.bare _ _ (Row.bytes hX) (by omega)).mono ?_)
  rintro e V23 ⟨rfl, kV23⟩
  refine ⟨_, rfl, ?_⟩
  have h25 := kV23.bk h20
  have K26 := K21.nn kV23
  have z27 := kV23.size
  obtain ⟨V28, eV28, kV28⟩ := rowset_step V23 gr ((B a.dig).toArray)
  have h29 : V28.heap[gr]? = some (.cells ((B a.dig).toArray) 23 (0, 0)) := eV28 ▸ setRow_heap _ _ _ _ _ _ h25
  refine pzq (w' := V28) (by rw [← eV28]; exact exec_store_row 23 (.tmp 2) (.tmp 13) (by kernel_rfl) gr ((B a.dig).toArray) (by kernel_rfl) (by kernel_rfl) 23 (zr_u8_32) h25 (by rw [Bz_size, show (a.dig).length = 32 from (Pro.dig_len a)]; kernel_rfl) (by rw [Bz_size, show (a.dig).length = 32 from (Pro.dig_len a)]; rfl) (by rw [List.all_toArray]; exact List.all_eq_true.2 (B_one _))) ?_
  clear eV28
  have K31 := K26.no kV28 (by omega)
  have z32 := kV28.size
  refine pkq (.int .i64 0) <| ps_end <| then_n <| sy_ret (by kernel_rfl) <| sy_out (.tuple #[.agg ((B a.dig).toArray), .int .i64 0]) rfl (results_row_tmp (p := 2) (q := 3) (ty := 23) (by kernel_rfl) _ _ gr 23 ((B a.dig).toArray) (0, 0) _ (.int .i64 0) (by kernel_rfl) h29 Tryz.underlying23 rfl (by rw [Bz_size, (Pro.dig_len a)]; kernel_rfl) (by kernel_rfl)) ?_
  exact ⟨rfl, K31⟩
end Go.Proofs.YtcbfnflnokoacaaGreat
namespace Go.Proofs.YtcbfnflnokoacaaGreat
set_option maxRecDepth 100000
set_option maxHeartbeats 4000000
open Go Go.RowKit Go.Own Go.Shelf
theorem rvDigest_any (a : Att) (w : World) (ha : a.Ok) : Calls Tryz.prog 42 #[.agg (Att.c a)] w fun e w' => e = .returned (.tuple #[.agg (B a.dg).toArray, .int .i64 a.err]) ∧ Keeps Nob w w' := by
  by_cases hf : a.fine
  · rw [Att.err_ok hf, Att.dg, if_pos hf]; exact rvDigest_ok a w ha hf
  · rw [Att.err_no hf, Att.dg, if_neg hf]; exact rvDigest_bad a w ha hf
noncomputable def qc90_1 (n : Nat) : Code := partOf Tryz.f45 n
theorem rvDoubles_ok (a b : Att) (w : World) (ha : a.Ok) (hb : b.Ok) :
    Calls Tryz.prog 45 #[.agg (Att.c a), .agg (Att.c b)] w (fun e w' => e = .returned (.bool (doub a b)) ∧ Keeps Nob w w') := by
  have hr := ha.r
  have hs := hb.r
  have K0 : Keeps Nob w w := Keeps.refl _ _
  refine sy_enter (qc90_1 1) ⟨#[.agg (Att.c a), .agg (Att.c b), ud, ud, ud, ud, ud, ud, ud, ud, ud, ud, ud, ud, ud, ud, ud, ud, ud, ud, ud, ud, ud, ud, ud, ud, ud, ud, ud, ud, ud, ud, ud, ud, ud, ud, ud, ud, ud, ud, ud, ud, ud, ud], []⟩ Tryz.func45 (by kernel_rfl) (by kernel_rfl) <| sy_sq (qc90_1 2) (qc90_1 3) <| sy_reg <| rg_q 0 [0, 1, 2] ?_
  obtain ⟨V1, eV1, ga, ega, h2, kV1⟩ := alloc_step w ((Att.c a)) 26
  have n3 : w.heap.size ≤ ga := ega ▸ K0.size
  refine prq (pT ga 0) (w' := V1) (by rw [← eV1, ← ega]; exact exec_box 26 (.tmp 0) (by kernel_rfl) (.agg (Att.c a)) (by kernel_rfl)) ?_
  clear eV1
  have K4 := K0.nn kV1
  have z5 := kV1.size
  obtain ⟨V6, eV6, gb, egb, h7, kV6⟩ := alloc_step V1 ((Att.c b)) 26
  have n8 : ga < gb := egb ▸ lt_of_block h2
  have n9 : w.heap.size ≤ gb := egb ▸ K4.size
  refine prq (pT gb 0) (w' := V6) (by rw [← eV6, ← egb]; exact exec_box 26 (.tmp 1) (by kernel_rfl) (.agg (Att.c b)) (by kernel_rfl)) ?_
  clear eV6
  have h10 := kV6.bk h2
  have K11 := K4.nn kV6
  have z12 := kV6.size
  refine pkq (.bool false) <| ps_end <| then_n <| sy_sq (qc90_1 6) (qc90_1 7) <| sy_reg <| rg_q 1 [0, 1, 2, 3, 4, 5, 6, 7] <| ppq (.agg (Att.c a)) (exec_load_row 26 (.tmp 2) (by kernel_rfl) ga (by kernel_rfl) _ _ (0, 0) _ (h10) Tryz.underlying26 rfl (by rw [Att.c_size _ hr]; kernel_rfl)) ?_
  refine pcq 42 #[.agg (Att.c a)] Tryz.func42 ((rvDigest_any a _ ha).mono ?_)
  rintro e V13 ⟨rfl, kV13⟩
  refine ⟨_, rfl, ?_⟩
  have h14 := kV13.bk h10
  have h15 := kV13.bk h7
  have K16 := K11.nn kV13
  have z17 := kV13.size
  refine pkq (.tuple #[.agg (B a.dg).toArray, .int .i64 a.err]) <| pkq (.agg (B a.dg).toArray) <| pkq (.int .i64 a.err) ?_
  obtain ⟨V18, eV18, gx, egx, h19, kV18⟩ := alloc_step V13 (zr_u8_32) 23
  have n20 : ga < gx := egx ▸ lt_of_block h14
  have n21 : gb < gx := egx ▸ lt_of_block h15
  have n22 : w.heap.size ≤ gx := egx ▸ K16.size
  refine prq (pT gx 0) (w' := V18) (by rw [← eV18, ← egx]; exact exec_alloc0 23 (by kernel_rfl) (.agg (zr_u8_32)) (by kernel_rfl)) ?_
  clear eV18
  have h23 := kV18.bk h14
  have h24 := kV18.bk h15
  have K25 := K16.nn kV18
  have z26 := kV18.size
  obtain ⟨V27, eV27, kV27⟩ := rowset_step V18 gx ((B a.dg).toArray)
  have h28 : V27.heap[gx]? = some (.cells ((B a.dg).toArray) 23 (0, 0)) := eV27 ▸ setRow_heap _ _ _ _ _ _ h19
  refine pzq (w' := V27) (by rw [← eV27]; exact exec_store_row 23 (.tmp 5) (.tmp 12) (by kernel_rfl) gx ((B a.dg).toArray) (by kernel_rfl) (by kernel_rfl) 23 (zr_u8_32) h19 (by rw [Bz_size, Att.dg_len]; kernel_rfl) (by rw [Bz_size, Att.dg_len]; rfl) (by rw [List.all_toArray]; exact List.all_eq_true.2 (B_one _))) ?_
  clear eV27
  have h29 := kV27.bo h23 (by omega)
  have h30 := kV27.bo h24 (by omega)
  have K31 := K25.no kV27 (by omega)
  have z32 := kV27.size
  refine pkq (.int .i64 a.err) <| ps_end <| then_n <| sy_sq (qc90_1 14) (qc90_1 15) <| sy_reg <| rg_q 2 [0, 1, 2, 3, 4, 5, 6, 7] <| ppq (.agg (Att.c b)) (exec_load_row 26 (.tmp 3) (by kernel_rfl) gb (by kernel_rfl) _ _ (0, 0) _ (h30) Tryz.underlying26 rfl (by rw [Att.c_size _ hs]; kernel_rfl)) ?_
  refine pcq 42 #[.agg (Att.c b)] Tryz.func42 ((rvDigest_any b _ hb).mono ?_)
  rintro e V33 ⟨rfl, kV33⟩
  refine ⟨_, rfl, ?_⟩
  have h34 := kV33.bk h29
  have h35 := kV33.bk h30
  have h36 := kV33.bk h28
  have K37 := K31.nn kV33
  have z38 := kV33.size
  refine pkq (.tuple #[.agg (B b.dg).toArray, .int .i64 b.err]) <| pkq (.agg (B b.dg).toArray) <| pkq (.int .i64 b.err) ?_
  obtain ⟨V39, eV39, gy, egy, h40, kV39⟩ := alloc_step V33 (zr_u8_32) 23
  have n41 : ga < gy := egy ▸ lt_of_block h34
  have n42 : gb < gy := egy ▸ lt_of_block h35
  have n43 : gx < gy := egy ▸ lt_of_block h36
  have n44 : w.heap.size ≤ gy := egy ▸ K37.size
  refine prq (pT gy 0) (w' := V39) (by rw [← eV39, ← egy]; exact exec_alloc0 23 (by kernel_rfl) (.agg (zr_u8_32)) (by kernel_rfl)) ?_
  clear eV39
  have h45 := kV39.bk h34
  have h46 := kV39.bk h35
  have h47 := kV39.bk h36
  have K48 := K37.nn kV39
  have z49 := kV39.size
  obtain ⟨V50, eV50, kV50⟩ := rowset_step V39 gy ((B b.dg).toArray)
  have h51 : V50.heap[gy]? = some (.cells ((B b.dg).toArray) 23 (0, 0)) := eV50 ▸ setRow_heap _ _ _ _ _ _ h40
  refine pzq (w' := V50) (by rw [← eV50]; exact exec_store_row 23 (.tmp 7) (.tmp 17) (by kernel_rfl) gy ((B b.dg).toArray) (by kernel_rfl) (by kernel_rfl) 23 (zr_u8_32) h40 (by rw [Bz_size, Att.dg_len]; kernel_rfl) (by rw [Bz_size, Att.dg_len]; rfl) (by rw [List.all_toArray]; exact List.all_eq_true.2 (B_one _))) ?_
  clear eV50
  have h52 := kV50.bo h45 (by omega)
  have h53 := kV50.bo h46 (by omega)
  have h54 := kV50.bo h47 (by omega)
  have K55 := K48.no kV50 (by omega)
  have z56 := kV50.size
  refine pkq (.int .i64 b.err) <| ps_end <| then_n <| sy_sq (qc90_1 30) (qc90_1 31) <| sy_reg <| rg_q 3 [0, 1, 2, 3, 4, 5, 6, 7, 8, 9, 10, 11, 12, 13, 14, 15, 16, 17, 18, 19, 20, 21, 22, 23, 24, 25] <| pkq (.int .i64 a.err) ?_
  by_cases c0 : a.fine
  · have e0 := Att.err_ok c0
    refine ppq (.bool true) (eqt ((a.err) : Int) ((0) : Int) (by omega)) <| pkq (.bool true) <| pkq (.int .i64 b.err) ?_
    by_cases c1 : b.fine
    · have e1 := Att.err_ok c1
      refine ppq (.bool true) (eqt ((b.err) : Int) ((0) : Int) (by omega)) <| pkq (.bool true) <| pkq (.bool true) <| pkq (pT ga 0) <| ppq (.int .i64 a.v) (exec_ld 3 (.tmp 26) ga 0 Tryz.underlying3 (rc (h52) (Att.c_0 _))) <| pkq (pT gb 0) <| ppq (.int .i64 b.v) (exec_ld 3 (.tmp 28) gb 0 Tryz.underlying3 (rc (h53) (Att.c_0 _))) ?_
      by_cases c2 : a.v = b.v
      · have e2 := c2
        refine ppq (.bool true) (eqt ((a.v) : Int) ((b.v) : Int) (by omega)) <| pkq (.bool true) <| pkq (.bool true) <| pkq (pT ga 2) <| ppq (.int .i64 a.t) (exec_ld 3 (.tmp 33) ga 2 Tryz.underlying3 (rc (h52) (Att.c_2 _))) <| pkq (pT gb 2) <| ppq (.int .i64 b.t) (exec_ld 3 (.tmp 35) gb 2 Tryz.underlying3 (rc (h53) (Att.c_2 _))) ?_
        by_cases c3 : a.t = b.t
        · have e3 := c3
          refine ppq (.bool true) (eqt ((a.t) : Int) ((b.t) : Int) (by omega)) <| pkq (.bool true) <| pkq (.bool true) <| ppq (.agg ((B a.dg).toArray)) (exec_load_row 23 (.tmp 5) (by kernel_rfl) gx (by kernel_rfl) _ _ (0, 0) _ (h54) Tryz.underlying23 rfl (by rw [Bz_size, (Att.dg_len a)]; kernel_rfl)) <| ppq (.agg ((B b.dg).toArray)) (exec_load_row 23 (.tmp 7) (by kernel_rfl) gy (by kernel_rfl) _ _ (0, 0) _ (h51) Tryz.underlying23 rfl (by rw [Bz_size, (Att.dg_len b)]; kernel_rfl)) <| ppq (.bool (!(a.dg == b.dg))) (exec_binop .neq 23 23 (.tmp 40) (.tmp 41) (by kernel_rfl) (.agg (B a.dg).toArray) (.agg (B b.dg).toArray) _ (by kernel_rfl) (by kernel_rfl) (run_eqGuard_agg _ _ _ _ _ _ _ hash_guard) (hash_ne _ _ (Att.dg_len a) (Att.dg_len b) _)) <| pkq (.bool (!(a.dg == b.dg))) <| pkq (.bool (!(a.dg == b.dg))) <| ps_end <| sy_a ⟨#[.agg (Att.c a), .agg (Att.c b), pT ga 0, pT gb 0, .bool (!(a.dg == b.dg)), pT gx 0, .int .i64 a.err, pT gy 0, .int .i64 b.err, .tuple #[.agg (B a.dg).toArray, .int .i64 a.err], .agg (Att.c a), .tuple #[.agg (B a.dg).toArray, .int .i64 a.err], .agg (B a.dg).toArray, .int .i64 a.err, .tuple #[.agg (B b.dg).toArray, .int .i64 b.err], .agg (Att.c b), .tuple #[.agg (B b.dg).toArray, .int .i64 b.err], .agg (B b.dg).toArray, .int .i64 b.err, .int .i64 a.err, .bool true, .bool true, .int .i64 b.err, .bool true, .bool true, .bool true, pT ga 0, .int .i64 a.v, pT gb 0, .int .i64 b.v, .bool true, .bool true, .bool true, pT ga 2, .int .i64 a.t, pT gb 2, .int .i64 b.t, .bool true, .bool true, .bool true, .agg ((B a.dg).toArray), .agg ((B b.dg).toArray), .bool (!(a.dg == b.dg)), .bool (!(a.dg == b.dg))], []⟩ <| then_n <| sy_ret (by kernel_rfl) <| sy_out (.bool (!(a.dg == b.dg))) rfl (by kernel_rfl) ?_
          exact ⟨by rw [ne_dec, Att.dg, Att.dg, if_pos c0, if_pos c1]; unfold doub; simp [c0, c1, c2, c3], K55⟩
        · have e3 := c3
          refine ppq (.bool false) (eqf ((a.t) : Int) ((b.t) : Int) (by omega)) <| pkq (.bool false) <| pkq (.bool false) <| pnq <| pnq <| pnq <| pkq (.bool false) <| pkq (.bool false) <| ps_end <| sy_a ⟨#[.agg (Att.c a), .agg (Att.c b), pT ga 0, pT gb 0, .bool false, pT gx 0, .int .i64 a.err, pT gy 0, .int .i64 b.err, .tuple #[.agg (B a.dg).toArray, .int .i64 a.err], .agg (Att.c a), .tuple #[.agg (B a.dg).toArray, .int .i64 a.err], .agg (B a.dg).toArray, .int .i64 a.err, .tuple #[.agg (B b.dg).toArray, .int .i64 b.err], .agg (Att.c b), .tuple #[.agg (B b.dg).toArray, .int .i64 b.err], .agg (B b.dg).toArray, .int .i64 b.err, .int .i64 a.err, .bool true, .bool true, .int .i64 b.err, .bool true, .bool true, .bool true, pT ga 0, .int .i64 a.v, pT gb 0, .int .i64 b.v, .bool true, .bool true, .bool true, pT ga 2, .int .i64 a.t, pT gb 2, .int .i64 b.t, .bool false, .bool false, .bool false, ud, ud, ud, .bool false], []⟩ <| then_n <| sy_ret (by kernel_rfl) <| sy_out (.bool false) rfl (by kernel_rfl) ?_
          exact ⟨by unfold doub; simp [c0, c1, c2, c3], K55⟩
      · have e2 := c2
        refine ppq (.bool false) (eqf ((a.v) : Int) ((b.v) : Int) (by omega)) <| pkq (.bool false) <| pkq (.bool false) <| pnq <| pnq <| pnq <| pnq <| pnq <| pkq (.bool false) <| pkq (.bool false) <| pnq <| pnq <| pnq <| pkq (.bool false) ?_
        refine pkq (.bool false) <| ps_end <| sy_a ⟨#[.agg (Att.c a), .agg (Att.c b), pT ga 0, pT gb 0, .bool false, pT gx 0, .int .i64 a.err, pT gy 0, .int .i64 b.err, .tuple #[.agg (B a.dg).toArray, .int .i64 a.err], .agg (Att.c a), .tuple #[.agg (B a.dg).toArray, .int .i64 a.err], .agg (B a.dg).toArray, .int .i64 a.err, .tuple #[.agg (B b.dg).toArray, .int .i64 b.err], .agg (Att.c b), .tuple #[.agg (B b.dg).toArray, .int .i64 b.err], .agg (B b.dg).toArray, .int .i64 b.err, .int .i64 a.err, .bool true, .bool true, .int .i64 b.err, .bool true, .bool true, .bool true, pT ga 0, .int .i64 a.v, pT gb 0, .int .i64 b.v, .bool false, .bool false, .bool false, ud, ud, ud, ud, ud, .bool false, .bool false, ud, ud, ud, .bool false], []⟩ <| then_n <| sy_ret (by kernel_rfl) <| sy_out (.bool false) rfl (by kernel_rfl) ?_
        exact ⟨by unfold doub; simp [c0, c1, c2], K55⟩
    · have e1 := Att.err_no c1
      refine ppq (.bool false) (eqf ((b.err) : Int) ((0) : Int) (by omega)) <| pkq (.bool false) <| pkq (.bool false) <| pnq <| pnq <| pnq <| pnq <| pnq <| pkq (.bool false) <| pkq (.bool false) <| pnq <| pnq <| pnq <| pnq ?_
      refine pnq <| pkq (.bool false) <| pkq (.bool false) <| pnq <| pnq <| pnq <| pkq (.bool false) <| pkq (.bool false) <| ps_end <| sy_a ⟨#[.agg (Att.c a), .agg (Att.c b), pT ga 0, pT gb 0, .bool false, pT gx 0, .int .i64 a.err, pT gy 0, .int .i64 b.err, .tuple #[.agg (B a.dg).toArray, .int .i64 a.err], .agg (Att.c a), .tuple #[.agg (B a.dg).toArray, .int .i64 a.err], .agg (B a.dg).toArray, .int .i64 a.err, .tuple #[.agg (B b.dg).toArray, .int .i64 b.err], .agg (Att.c b), .tuple #[.agg (B b.dg).toArray, .int .i64 b.err], .agg (B b.dg).toArray, .int .i64 b.err, .int .i64 a.err, .bool true, .bool true, .int .i64 b.err, .bool false, .bool false, .bool false, ud, ud, ud, ud, ud, .bool false, .bool false, ud, ud, ud, ud, ud, .bool false, .bool false, ud, ud, ud, .bool false], []⟩ <| then_n <| sy_ret (by kernel_rfl) <| sy_out (.bool false) rfl (by kernel_rfl) ?_
      exact ⟨by unfold doub; simp [c0, c1], K55⟩
  · have e0 := Att.err_no c0
    refine ppq (.bool false) (eqf ((a.err) : Int) ((0) : Int) (by omega)) <| pkq (.bool false) <| pnq <| pnq <| pkq (.bool false) <| pkq (.bool false) <| pnq <| pnq <| pnq <| pnq <| pnq <| pkq (.bool false) <| pkq (.bool false) <| pnq ?_
    refine pnq <| pnq <| pnq <| pnq <| pkq (.bool false) <| pkq (.bool false) <| pnq <| pnq <| pnq <| pkq (.bool false) <| pkq (.bool false) <| ps_end <| sy_a ⟨#[.agg (Att.c a), .agg (Att.c b), pT ga 0, pT gb 0, .bool false, pT gx 0, .int .i64 a.err, pT gy 0, .int .i64 b.err, .tuple #[.agg (B a.dg).toArray, .int .i64 a.err], .agg (Att.c a), .tuple #[.agg (B a.dg).toArray, .int .i64 a.err], .agg (B a.dg).toArray, .int .i64 a.err, .tuple #[.agg (B b.dg).toArray, .int .i64 b.err], .agg (Att.c b), .tuple #[.agg (B b.dg).toArray, .int .i64 b.err], .agg (B b.dg).toArray, .int .i64 b.err, .int .i64 a.err, .bool false, .bool false, ud, ud, .bool false, .bool false, ud, ud, ud, ud, ud, .bool false, .bool false, ud, ud, ud, ud, ud, .bool false, .bool false, ud, ud, ud, .bool false], []⟩ <| then_n ?_
    refine sy_ret (by kernel_rfl) <| sy_out (.bool false) rfl (by kernel_rfl) ?_
    exact ⟨by unfold doub; simp [c0], K55⟩
theorem rvDigestBlock_any (a : Pro) (w : World) (ha : a.Ok) : Calls Tryz.prog 44 #[.agg (Pro.c a)] w fun e w' => e = .returned (.tuple #[.agg (B a.dg).toArray, .int .i64 a.err]) ∧ Keeps Nob w w' := by
  by_cases hf : a.fine
  · rw [Pro.err_ok hf, Pro.dg, if_pos hf]; exact rvDigestBlock_ok a w ha hf
  · rw [Pro.err_no hf, Pro.dg, if_neg hf]; exact rvDigestBlock_bad a w ha hf
noncomputable def qc90_0 (n : Nat) : Code := partOf Tryz.f47 n
theorem rvDoublesBlock_ok (a b : Pro) (w : World) (ha : a.Ok) (hb : b.Ok) :
    Calls Tryz.prog 47 #[.agg (Pro.c a), .agg (Pro.c b)] w (fun e w' => e = .returned (.bool (doubP a b)) ∧ Keeps Nob w w') := by
  have hr := ha.r
  have hs := hb.r
  have K0 : Keeps Nob w w := Keeps.refl _ _
  refine sy_enter (qc90_0 1) ⟨#[.agg (Pro.c a), .agg (Pro.c b), ud, ud, ud, ud, ud, ud, ud, ud, ud, ud, ud, ud, ud, ud, ud, ud, ud, ud, ud, ud, ud, ud, ud, ud, ud, ud, ud, ud, ud, ud, ud, ud, ud, ud, ud, ud, ud, ud, ud, ud, ud, ud], []⟩ Tryz.func47 (by kernel_rfl) (by kernel_rfl) <| sy_sq (qc90_0 2) (qc90_0 3) <| sy_reg <| rg_q 0 [0, 1, 2] ?_
  obtain ⟨V1, eV1, ga, ega, h2, kV1⟩ := alloc_step w ((Pro.c a)) 28
  have n3 : w.heap.size ≤ ga := ega ▸ K0.size
  refine prq (pT ga 0) (w' := V1) (by rw [← eV1, ← ega]; exact exec_box 28 (.tmp 0) (by kernel_rfl) (.agg (Pro.c a)) (by kernel_rfl)) ?_
  clear eV1
  have K4 := K0.nn kV1
  have z5 := kV1.size
  obtain ⟨V6, eV6, gb, egb, h7, kV6⟩ := alloc_step V1 ((Pro.c b)) 28
  have n8 : ga < gb := egb ▸ lt_of_block h2
  have n9 : w.heap.size ≤ gb := egb ▸ K4.size
  refine prq (pT gb 0) (w' := V6) (by rw [← eV6, ← egb]; exact exec_box 28 (.tmp 1) (by kernel_rfl) (.agg (Pro.c b)) (by kernel_rfl)) ?_
  clear eV6
  have h10 := kV6.bk h2
  have K11 := K4.nn kV6
  have z12 := kV6.size
  refine pkq (.bool false) <| ps_end <| then_n <| sy_sq (qc90_0 6) (qc90_0 7) <| sy_reg <| rg_q 1 [0, 1, 2, 3, 4, 5, 6, 7] <| ppq (.agg (Pro.c a)) (exec_load_row 28 (.tmp 2) (by kernel_rfl) ga (by kernel_rfl) _ _ (0, 0) _ (h10) Tryz.underlying28 rfl (by rw [Pro.c_size _ hr]; kernel_rfl)) ?_
  refine pcq 44 #[.agg (Pro.c a)] Tryz.func44 ((rvDigestBlock_any a _ ha).mono ?_)
  rintro e V13 ⟨rfl, kV13⟩
  refine ⟨_, rfl, ?_⟩
  have h14 := kV13.bk h10
  have h15 := kV13.bk h7
  have K16 := K11.nn kV13
  have z17 := kV13.size
  refine pkq (.tuple #[.agg (B a.dg).toArray, .int .i64 a.err]) <| pkq (.agg (B a.dg).toArray) <| pkq (.int .i64 a.err) ?_
  obtain ⟨V18, eV18, gx, egx, h19, kV18⟩ := alloc_step V13 (zr_u8_32) 23
  have n20 : ga < gx := egx ▸ lt_of_block h14
  have n21 : gb < gx := egx ▸ lt_of_block h15
  have n22 : w.heap.size ≤ gx := egx ▸ K16.size
  refine prq (pT gx 0) (w' := V18) (by rw [← eV18, ← egx]; exact exec_alloc0 23 (by kernel_rfl) (.agg (zr_u8_32)) (by kernel_rfl)) ?_
  clear eV18
  have h23 := kV18.bk h14
  have h24 := kV18.bk h15
  have K25 := K16.nn kV18
  have z26 := kV18.size
  obtain ⟨V27, eV27, kV27⟩ := rowset_step V18 gx ((B a.dg).toArray)
  have h28 : V27.heap[gx]? = some (.cells ((B a.dg).toArray) 23 (0, 0)) := eV27 ▸ setRow_heap _ _ _ _ _ _ h19
  refine pzq (w' := V27) (by rw [← eV27]; exact exec_store_row 23 (.tmp 5) (.tmp 12) (by kernel_rfl) gx ((B a.dg).toArray) (by kernel_rfl) (by kernel_rfl) 23 (zr_u8_32) h19 (by rw [Bz_size, Pro.dg_len]; kernel_rfl) (by rw [Bz_size, Pro.dg_len]; rfl) (by rw [List.all_toArray]; exact List.all_eq_true.2 (B_one _))) ?_
  clear eV27
  have h29 := kV27.bo h23 (by omega)
  have h30 := kV27.bo h24 (by omega)
  have K31 := K25.no kV27 (by omega)
  have z32 := kV27.size
  refine pkq (.int .i64 a.err) <| ps_end <| then_n <| sy_sq (qc90_0 14) (qc90_0 15) <| sy_reg <| rg_q 2 [0, 1, 2, 3, 4, 5, 6, 7] <| ppq (.agg (Pro.c b)) (exec_load_row 28 (.tmp 3) (by kernel_rfl) gb (by kernel_rfl) _ _ (0, 0) _ (h30) Tryz.underlying28 rfl (by rw [Pro.c_size _ hs]; kernel_rfl)) ?_
  refine pcq 44 #[.agg (Pro.c b)] Tryz.func44 ((rvDigestBlock_any b _ hb).mono ?_)
  rintro e V33 ⟨rfl, kV33⟩
  refine ⟨_, rfl, ?_⟩
  have h34 := kV33.bk h29
  have h35 := kV33.bk h30
  have h36 := kV33.bk h28
  have K37 := K31.nn kV33
  have z38 := kV33.size
  refine pkq (.tuple #[.agg (B b.dg).toArray, .int .i64 b.err]) <| pkq (.agg (B b.dg).toArray) <| pkq (.int .i64 b.err) ?_
  obtain ⟨V39, eV39, gy, egy, h40, kV39⟩ := alloc_step V33 (zr_u8_32) 23
  have n41 : ga < gy := egy ▸ lt_of_block h34
  have n42 : gb < gy := egy ▸ lt_of_block h35
  have n43 : gx < gy := egy ▸ lt_of_block h36
  have n44 : w.heap.size ≤ gy := egy ▸ K37.size
  refine prq (pT gy 0) (w' := V39) (by rw [← eV39, ← egy]; exact exec_alloc0 23 (by kernel_rfl) (.agg (zr_u8_32)) (by kernel_rfl)) ?_
  clear eV39
  have h45 := kV39.bk h34
  have h46 := kV39.bk h35
  have h47 := kV39.bk h36
  have K48 := K37.nn kV39
  have z49 := kV39.size
  obtain ⟨V50, eV50, kV50⟩ := rowset_step V39 gy ((B b.dg).toArray)
  have h51 : V50.heap[gy]? = some (.cells ((B b.dg).toArray) 23 (0, 0)) := eV50 ▸ setRow_heap _ _ _ _ _ _ h40
  refine pzq (w' := V50) (by rw [← eV50]; exact exec_store_row 23 (.tmp 7) (.tmp 17) (by kernel_rfl) gy ((B b.dg).toArray) (by kernel_rfl) (by kernel_rfl) 23 (zr_u8_32) h40 (by rw [Bz_size, Pro.dg_len]; kernel_rfl) (by rw [Bz_size, Pro.dg_len]; rfl) (by rw [List.all_toArray]; exact List.all_eq_true.2 (B_one _))) ?_
  clear eV50
  have h52 := kV50.bo h45 (by omega)
  have h53 := kV50.bo h46 (by omega)
  have h54 := kV50.bo h47 (by omega)
  have K55 := K48.no kV50 (by omega)
  have z56 := kV50.size
  refine pkq (.int .i64 b.err) <| ps_end <| then_n <| sy_sq (qc90_0 30) (qc90_0 31) <| sy_reg <| rg_q 3 [0, 1, 2, 3, 4, 5, 6, 7, 8, 9, 10, 11, 12, 13, 14, 15, 16, 17, 18, 19, 20, 21, 22, 23, 24, 25] <| pkq (.int .i64 a.err) ?_
  by_cases c0 : a.fine
  · have e0 := Pro.err_ok c0
    refine ppq (.bool true) (eqt ((a.err) : Int) ((0) : Int) (by omega)) <| pkq (.bool true) <| pkq (.int .i64 b.err) ?_
    by_cases c1 : b.fine
    · have e1 := Pro.err_ok c1
      refine ppq (.bool true) (eqt ((b.err) : Int) ((0) : Int) (by omega)) <| pkq (.bool true) <| pkq (.bool true) <| pkq (pT ga 0) <| ppq (.int .i64 a.v) (exec_ld 3 (.tmp 26) ga 0 Tryz.underlying3 (rc (h52) (Pro.c_0 _))) <| pkq (pT gb 0) <| ppq (.int .i64 b.v) (exec_ld 3 (.tmp 28) gb 0 Tryz.underlying3 (rc (h53) (Pro.c_0 _))) ?_
      by_cases c2 : a.v = b.v
      · have e2 := c2
        refine ppq (.bool true) (eqt ((a.v) : Int) ((b.v) : Int) (by omega)) <| pkq (.bool true) <| pkq (.bool true) <| pkq (pT ga 1) <| ppq (.int .i64 a.h) (exec_ld 3 (.tmp 33) ga 1 Tryz.underlying3 (rc (h52) (Pro.c_1 _))) <| pkq (pT gb 1) <| ppq (.int .i64 b.h) (exec_ld 3 (.tmp 35) gb 1 Tryz.underlying3 (rc (h53) (Pro.c_1 _))) ?_
        by_cases c3 : a.h = b.h
        · have e3 := c3
          refine ppq (.bool true) (eqt ((a.h) : Int) ((b.h) : Int) (by omega)) <| pkq (.bool true) <| pkq (.bool true) <| ppq (.agg ((B a.dg).toArray)) (exec_load_row 23 (.tmp 5) (by kernel_rfl) gx (by kernel_rfl) _ _ (0, 0) _ (h54) Tryz.underlying23 rfl (by rw [Bz_size, (Pro.dg_len a)]; kernel_rfl)) <| ppq (.agg ((B b.dg).toArray)) (exec_load_row 23 (.tmp 7) (by kernel_rfl) gy (by kernel_rfl) _ _ (0, 0) _ (h51) Tryz.underlying23 rfl (by rw [Bz_size, (Pro.dg_len b)]; kernel_rfl)) <| ppq (.bool (!(a.dg == b.dg))) (exec_binop .neq 23 23 (.tmp 40) (.tmp 41) (by kernel_rfl) (.agg (B a.dg).toArray) (.agg (B b.dg).toArray) _ (by kernel_rfl) (by kernel_rfl) (run_eqGuard_agg _ _ _ _ _ _ _ hash_guard) (hash_ne _ _ (Pro.dg_len a) (Pro.dg_len b) _)) <| pkq (.bool (!(a.dg == b.dg))) <| pkq (.bool (!(a.dg == b.dg))) <| ps_end <| sy_a ⟨#[.agg (Pro.c a), .agg (Pro.c b), pT ga 0, pT gb 0, .bool (!(a.dg == b.dg)), pT gx 0, .int .i64 a.err, pT gy 0, .int .i64 b.err, .tuple #[.agg (B a.dg).toArray, .int .i64 a.err], .agg (Pro.c a), .tuple #[.agg (B a.dg).toArray, .int .i64 a.err], .agg (B a.dg).toArray, .int .i64 a.err, .tuple #[.agg (B b.dg).toArray, .int .i64 b.err], .agg (Pro.c b), .tuple #[.agg (B b.dg).toArray, .int .i64 b.err], .agg (B b.dg).toArray, .int .i64 b.err, .int .i64 a.err, .bool true, .bool true, .int .i64 b.err, .bool true, .bool true, .bool true, pT ga 0, .int .i64 a.v, pT gb 0, .int .i64 b.v, .bool true, .bool true, .bool true, pT ga 1, .int .i64 a.h, pT gb 1, .int .i64 b.h, .bool true, .bool true, .bool true, .agg ((B a.dg).toArray), .agg ((B b.dg).toArray), .bool (!(a.dg == b.dg)), .bool (!(a.dg == b.dg))], []⟩ <| then_n <| sy_ret (by kernel_rfl) <| sy_out (.bool (!(a.dg == b.dg))) rfl (by kernel_rfl) ?_
          exact ⟨by rw [ne_dec, Pro.dg, Pro.dg, if_pos c0, if_pos c1]; unfold doubP; simp [c0, c1, c2, c3], K55⟩
        · have e3 := c3
          refine ppq (.bool false) (eqf ((a.h) : Int) ((b.h) : Int) (by omega)) <| pkq (.bool false) <| pkq (.bool false) <| pnq <| pnq <| pnq <| pkq (.bool false) <| pkq (.bool false) <| ps_end <| sy_a ⟨#[.agg (Pro.c a), .agg (Pro.c b), pT ga 0, pT gb 0, .bool false, pT gx 0, .int .i64 a.err, pT gy 0, .int .i64 b.err, .tuple #[.agg (B a.dg).toArray, .int .i64 a.err], .agg (Pro.c a), .tuple #[.agg (B a.dg).toArray, .int .i64 a.err], .agg (B a.dg).toArray, .int .i64 a.err, .tuple #[.agg (B b.dg).toArray, .int .i64 b.err], .agg (Pro.c b), .tuple #[.agg (B b.dg).toArray, .int .i64 b.err], .agg (B b.dg).toArray, .int .i64 b.err, .int .i64 a.err, .bool true, .bool true, .int .i64 b.err, .bool true, .bool true, .bool true, pT ga 0, .int .i64 a.v, pT gb 0, .int .i64 b.v, .bool true, .bool true, .bool true, pT ga 1, .int .i64 a.h, pT gb 1, .int .i64 b.h, .bool false, .bool false, .bool false, ud, ud, ud, .bool false], []⟩ <| then_n <| sy_ret (by kernel_rfl) <| sy_out (.bool false) rfl (by kernel_rfl) ?_
          exact ⟨by unfold doubP; simp [c0, c1, c2, c3], K55⟩
      · have e2 := c2
        refine ppq (.bool false) (eqf ((a.v) : Int) ((b.v) : Int) (by omega)) <| pkq (.bool false) <| pkq (.bool false) <| pnq <| pnq <| pnq <| pnq <| pnq <| pkq (.bool false) <| pkq (.bool false) <| pnq <| pnq <| pnq <| pkq (.bool false) ?_
        refine pkq (.bool false) <| ps_end <| sy_a ⟨#[.agg (Pro.c a), .agg (Pro.c b), pT ga 0, pT gb 0, .bool false, pT gx 0, .int .i64 a.err, pT gy 0, .int .i64 b.err, .tuple #[.agg (B a.dg).toArray, .int .i64 a.err], .agg (Pro.c a), .tuple #[.agg (B a.dg).toArray, .int .i64 a.err], .agg (B a.dg).toArray, .int .i64 a.err, .tuple #[.agg (B b.dg).toArray, .int .i64 b.err], .agg (Pro.c b), .tuple #[.agg (B b.dg).toArray, .int .i64 b.err], .agg (B b.dg).toArray, .int .i64 b.err, .int .i64 a.err, .bool true, .bool true, .int .i64 b.err, .bool true, .bool true, .bool true, pT ga 0, .int .i64 a.v, pT gb 0, .int .i64 b.v, .bool false, .bool false, .bool false, ud, ud, ud, ud, ud, .bool false, .bool false, ud, ud, ud, .bool false], []⟩ <| then_n <| sy_ret (by kernel_rfl) <| sy_out (.bool false) rfl (by kernel_rfl) ?_
        exact ⟨by unfold doubP; simp [c0, c1, c2], K55⟩
    · have e1 := Pro.err_no c1
      refine ppq (.bool false) (eqf ((b.err) : Int) ((0) : Int) (by omega)) <| pkq (.bool false) <| pkq (.bool false) <| pnq <| pnq <| pnq <| pnq <| pnq <| pkq (.bool false) <| pkq (.bool false) <| pnq <| pnq <| pnq <| pnq ?_
      refine pnq <| pkq (.bool false) <| pkq (.bool false) <| pnq <| pnq <| pnq <| pkq (.bool false) <| pkq (.bool false) <| ps_end <| sy_a ⟨#[.agg (Pro.c a), .agg (Pro.c b), pT ga 0, pT gb 0, .bool false, pT gx 0, .int .i64 a.err, pT gy 0, .int .i64 b.err, .tuple #[.agg (B a.dg).toArray, .int .i64 a.err], .agg (Pro.c a), .tuple #[.agg (B a.dg).toArray, .int .i64 a.err], .agg (B a.dg).toArray, .int .i64 a.err, .tuple #[.agg (B b.dg).toArray, .int .i64 b.err], .agg (Pro.c b), .tuple #[.agg (B b.dg).toArray, .int .i64 b.err], .agg (B b.dg).toArray, .int .i64 b.err, .int .i64 a.err, .bool true, .bool true, .int .i64 b.err, .bool false, .bool false, .bool false, ud, ud, ud, ud, ud, .bool false, .bool false, ud, ud, ud, ud, ud, .bool false, .bool false, ud, ud, ud, .bool false], []⟩ <| then_n <| sy_ret (by kernel_rfl) <| sy_out (.bool false) rfl (by kernel_rfl) ?_
      exact ⟨by unfold doubP; simp [c0, c1], K55⟩
  · have e0 := Pro.err_no c0
    refine ppq (.bool false) (eqf ((a.err) : Int) ((0) : Int) (by omega)) <| pkq (.bool false) <| pnq <| pnq <| pkq (.bool false) <| pkq (.bool false) <| pnq <| pnq <| pnq <| pnq <| pnq <| pkq (.bool false) <| pkq (.bool false) <| pnq ?_
    refine pnq <| pnq <| pnq <| pnq <| pkq (.bool false) <| pkq (.bool false) <| pnq <| pnq <| pnq <| pkq (.bool false) <| pkq (.bool false) <| ps_end <| sy_a ⟨#[.agg (Pro.c a), .agg (Pro.c b), pT ga 0, pT gb 0, .bool false, pT gx 0, .int .i64 a.err, pT gy 0, .int .i64 b.err, .tuple #[.agg (B a.dg).toArray, .int .i64 a.err], .agg (Pro.c a), .tuple #[.agg (B a.dg).toArray, .int .i64 a.err], .agg (B a.dg).toArray, .int .i64 a.err, .tuple #[.agg (B b.dg).toArray, .int .i64 b.err], .agg (Pro.c b), .tuple #[.agg (B b.dg).toArray, .int .i64 b.err], .agg (B b.dg).toArray, .int .i64 b.err, .int .i64 a.err, .bool false, .bool false, ud, ud, .bool false, .bool false, ud, ud, ud, ud, ud, .bool false, .bool false, ud, ud, ud, ud, ud, .bool false, .bool false, ud, ud, ud, .bool false], []⟩ <| then_n ?_
    refine sy_ret (by kernel_rfl) <| sy_out (.bool false) rfl (by kernel_rfl) ?_
    exact ⟨by unfold doubP; simp [c0], K55⟩
end Go.Proofs.YtcbfnflnokoacaaGreat
