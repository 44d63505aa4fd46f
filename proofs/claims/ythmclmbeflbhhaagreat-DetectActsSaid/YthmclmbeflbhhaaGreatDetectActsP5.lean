import Derived.Test.YthmclmbeflbhhaaGreatDetectActsP4
set_option maxRecDepth 100000
set_option maxHeartbeats 4000000
noncomputable section
open Go.Proofs.Tryz
namespace Go.Proofs.YthmclmbeflbhhaaGreat
section
open Go Go.RowKit Go.Own Go.Shelf
theorem rot_zero (x : Nat) (h : x < Kec.W) : Kec.rot x 0 = x := by
 unfold Kec.rot
 rw [Nat.shiftLeft_zero, Nat.mod_eq_of_lt h, Nat.shiftRight_eq_div_pow, Nat.div_eq_of_lt (by rw [Kec.W_eq] at h; exact h), Nat.or_zero]
def ccn (s : List Nat) (n : Nat) : List Nat := (List.range n).foldl (fun t i => t.set (i / 5) (Kec.g t (i / 5) ^^^ Kec.g s (Kec.at_ (i / 5) (i % 5)))) [0, 0, 0, 0, 0]
theorem ccn_succ (s : List Nat) (x y : Nat) (hy : y < 5) : (ccn s (5 * x + y)).set x (Kec.g (ccn s (5 * x + y)) x ^^^ Kec.g s (Kec.at_ x y)) = ccn s (5 * x + (y + 1)) := by
 show _ = ccn s (5 * x + y + 1)
 conv => rhs; unfold ccn
 rw [List.range_succ, List.foldl_append]
 show _ = List.set (ccn s (5 * x + y)) _ (Kec.g (ccn s (5 * x + y)) _ ^^^ _)
 rw [show (5 * x + y) / 5 = x by omega, show (5 * x + y) % 5 = y by omega]
theorem ccn_len (s : List Nat) (n : Nat) : (ccn s n).length = 5 := by
 induction n with
 | zero => rfl
 | succ n ih => unfold ccn at *; rw [List.range_succ, List.foldl_append]; simpa using ih
theorem ws_ccn {s : List Nat} (ws : Kec.Ws s) (n : Nat) : Kec.Ws (ccn s n) := by
 induction n with
 | zero =>
  intro i; show Kec.g [0, 0, 0, 0, 0] i < Kec.W; by_cases h : i < 5
  ·have : ∀ j : Fin 5, Kec.g [0, 0, 0, 0, 0] j.val < Kec.W := by decide
   exact this ⟨i, h⟩
  ·rw [Kec.g_big _ _ (by simp; omega)]; exact Kec.W_pos
 | succ n ih => unfold ccn at *; rw [List.range_succ, List.foldl_append]; exact Kec.ws_set ih _ _ (Kec.xor_lt (ih _) (ws _))
theorem ccn_all (s : List Nat) : ccn s 25 = (List.range 5).map (Kec.col s) := by
 have h : ccn s 25 = (List.range 5).map fun x => 0 ^^^ Kec.g s x ^^^ Kec.g s (x + 5) ^^^ Kec.g s (x + 10) ^^^ Kec.g s (x + 15) ^^^ Kec.g s (x + 20) := by kernel_rfl
 rw [h]
 refine List.map_congr_left fun x _ => ?_
 unfold Kec.col
 rw [Nat.zero_xor]
def mmn (s : List Nat) (n : Nat) : List Nat := (List.range n).foldl (fun t i => t.set (Kec.at_ (i % 5) (2 * (i / 5) + 3 * (i % 5))) (Kec.rot (Kec.g s (Kec.at_ (i / 5) (i % 5)) ^^^ Kec.dd s (i / 5)) (Kec.g Kec.R (Kec.at_ (i / 5) (i % 5))))) Kec.zero
theorem mmn_succ (s : List Nat) (x y : Nat) (hy : y < 5) : (mmn s (5 * x + y)).set (Kec.at_ y (2 * x + 3 * y)) (Kec.rot (Kec.g s (Kec.at_ x y) ^^^ Kec.dd s x) (Kec.g Kec.R (Kec.at_ x y))) = mmn s (5 * x + (y + 1)) := by
 show _ = mmn s (5 * x + y + 1)
 conv => rhs; unfold mmn
 rw [List.range_succ, List.foldl_append]
 show _ = List.set (mmn s (5 * x + y)) _ _
 rw [show (5 * x + y) / 5 = x by omega, show (5 * x + y) % 5 = y by omega]
theorem mmn_len (s : List Nat) (n : Nat) : (mmn s n).length = 25 := by
 induction n with
 | zero => rfl
 | succ n ih => unfold mmn at *; rw [List.range_succ, List.foldl_append]; simpa using ih
theorem mmn_all (s : List Nat) : mmn s 25 = Kec.moves (Kec.columns s) := by kernel_rfl
def xxn (b : List Nat) (n : Nat) : List Nat → List Nat := fun a => (List.range n).foldl (fun t i => t.set (Kec.at_ (i / 5) (i % 5)) (Kec.g b (Kec.at_ (i / 5) (i % 5)) ^^^ ((Kec.W - 1 - Kec.g b (Kec.at_ (i / 5 + 1) (i % 5))) &&& Kec.g b (Kec.at_ (i / 5 + 2) (i % 5))))) a
theorem xxn_succ (a b : List Nat) (x y : Nat) (hy : y < 5) : (xxn b (5 * x + y) a).set (Kec.at_ x y) (Kec.g b (Kec.at_ x y) ^^^ ((Kec.W - 1 - Kec.g b (Kec.at_ (x + 1) y)) &&& Kec.g b (Kec.at_ (x + 2) y))) = xxn b (5 * x + (y + 1)) a := by
 show _ = xxn b (5 * x + y + 1) a
 conv => rhs; unfold xxn
 rw [List.range_succ, List.foldl_append]
 show _ = List.set (xxn b (5 * x + y) a) _ _
 rw [show (5 * x + y) / 5 = x by omega, show (5 * x + y) % 5 = y by omega]
theorem xxn_len (a b : List Nat) (n : Nat) : (xxn b n a).length = a.length := by
 induction n with
 | zero => rfl
 | succ n ih => unfold xxn at *; rw [List.range_succ, List.foldl_append]; simpa using ih
theorem xxn_all (a b : List Nat) (ha : a.length = 25) : xxn b 25 a = Kec.mixes b := by
 match a, ha with
 | [a0, a1, a2, a3, a4, a5, a6, a7, a8, a9, b0, b1, b2, b3, b4, b5, b6, b7, b8, b9, c0, c1, c2, c3, c4], _ => show xxn b 25 [a0, a1, a2, a3, a4, a5, a6, a7, a8, a9, b0, b1, b2, b3, b4, b5, b6, b7, b8, b9, c0, c1, c2, c3, c4] = Kec.mixes b; kernel_rfl
theorem regn_small (k r : Nat) (h : r = Kec.regn k) (h2 : ¬ 255 < 2 * r) : 2 * r = Kec.regn (k + 1) := by
 subst h; rw [show Kec.regn (k + 1) = if 256 ≤ 2 * Kec.regn k then ((2 * Kec.regn k) &&& 255) ^^^ 113 else 2 * Kec.regn k from rfl, if_neg (by omega)]
theorem regn_big (k r : Nat) (h : r = Kec.regn k) (h2 : 255 < 2 * r) : (2 * r % 256) ^^^ 113 = Kec.regn (k + 1) := by
 subst h; rw [show Kec.regn (k + 1) = if 256 ≤ 2 * Kec.regn k then ((2 * Kec.regn k) &&& 255) ^^^ 113 else 2 * Kec.regn k from rfl, if_pos (by omega), show (255 : Nat) = 2 ^ 8 - 1 from rfl, Nat.and_two_pow_sub_one_eq_mod]
theorem outn_step (i j : Nat) (hj : j < 7) : Kec.outn (7 * i + (j + 1)) = (Kec.outn (7 * i + j)).set i (Kec.g (Kec.outn (7 * i + j)) i ||| (Kec.bitn (7 * i + j) <<< (1 <<< j - 1)) % Kec.W) := by
 rw [show 7 * i + (j + 1) = 7 * i + j + 1 from rfl, show Kec.outn (7 * i + j + 1) = (Kec.outn (7 * i + j)).set ((7 * i + j) / 7) (Kec.g (Kec.outn (7 * i + j)) ((7 * i + j) / 7) ||| (Kec.bitn (7 * i + j) <<< (1 <<< ((7 * i + j) % 7) - 1)) % Kec.W) from rfl,
  show (7 * i + j) / 7 = i by omega, show (7 * i + j) % 7 = j by omega]
theorem outn_odd (i j r : Nat) (hj : j < 7) (hr : r = Kec.regn (7 * i + j)) (h : r % 2 = 1) : (Kec.outn (7 * i + j)).set i (Kec.g (Kec.outn (7 * i + j)) i ||| (1 <<< (1 <<< j - 1)) % Kec.W) = Kec.outn (7 * i + (j + 1)) := by
 have hb : Kec.bitn (7 * i + j) = 1 := by unfold Kec.bitn; rw [← hr, show (1 : Nat) = 2 ^ 1 - 1 from rfl, Nat.and_two_pow_sub_one_eq_mod]; exact h
 rw [outn_step i j hj, hb]
theorem outn_even (i j r : Nat) (hi : i < 24) (hj : j < 7) (hr : r = Kec.regn (7 * i + j)) (h : ¬ r % 2 = 1) : Kec.outn (7 * i + j) = Kec.outn (7 * i + (j + 1)) := by
 have hb : Kec.bitn (7 * i + j) = 0 := by unfold Kec.bitn; rw [← hr, show (1 : Nat) = 2 ^ 1 - 1 from rfl, Nat.and_two_pow_sub_one_eq_mod]; simp; omega
 have hl : i < (Kec.outn (7 * i + j)).length := by rw [Kec.outn_len]; exact hi
 rw [outn_step i j hj, hb, Nat.zero_shiftLeft, Nat.zero_mod, Nat.or_zero]
 unfold Kec.g
 rw [List.getD_eq_getElem?_getD, List.getElem?_eq_getElem hl]
 simp
theorem xor113 (r : Nat) (h : r < 256) : Value.int .i64 (bits .xor .i64 (r : Int) 113) = iI ((r ^^^ 113 : Nat) : Int) := by
 have : ∀ j : Fin 256, bits .xor .i64 (j.val : Int) 113 = ((j.val ^^^ 113 : Nat) : Int) := by decide +kernel
 exact congrArg _ (this ⟨r, h⟩)
def qc90_2 (n : Nat) : Code := partOf f187 n
abbrev qo90_2 (n k : Nat) : Oper := (opsAt (qc90_2 n)).getD k default
theorem hrot_zero (x n : Nat) (w : World) (hx : x < Kec.W) (h0 : n = 0) :
  Calls prog 187 #[.int .u64 (x : Int), iI (n : Int)] w (RK w (.int .u64 ((Kec.rot x n : Nat) : Int))) := by
 have K0 := kz0 w
 refine sf_ (qc90_2 1) func187 <| qr_ [0] <| kk 1 <| eq_ <| qr_ [0, 1] <| kk 1 <| pP (eqT (n : Int) ((0) : Int)) <| ey_ <| qr_ [0, 1] <| kk 2 <| eu_ <| then_r <| so_ (.int .u64 (x : Int)) ?_
 exact ⟨by subst h0; rw [rot_zero x hx], K0⟩
theorem hrot_pos (x n : Nat) (w : World) (hx : x < Kec.W) (hn : n < 64) (h0 : ¬ n = 0) :
  Calls prog 187 #[.int .u64 (x : Int), iI (n : Int)] w (RK w (.int .u64 ((Kec.rot x n : Nat) : Int))) := by
 have K0 := kz0 w
 refine sf_ (qc90_2 1) func187 <| qr_ [0] <| kk 1 <| eq_ <| qr_ [0, 1] <| kk 1 <| pP (eqF (n : Int) ((0) : Int)) <| en_ <| s_ <| tq_ <| rgp 8 (zo8_ (qo90_2 14)) [qo90_2 14 8] fun V2 j2 => ?_
 have K3 := K0.nn j2
 refine ks 2 <| spq (uN ((x <<< n) % Kec.W)) (exec_binop .shl 26 3 (.tmp 8) (.tmp 9) (by kernel_rfl) (uN x) (iN n) _ (by kernel_rfl) (by kernel_rfl) (by kernel_rfl) (run_shlU _ _ x n (by omega))) <| ks 2 <| spq (iN (64 - n)) (exec_cast (v := iI (IntKind.i64.wrap ((64 : Int) - (n : Int)))) (congrArg (Value.int .i64) (by rw [show (64 : Int) - (n : Int) = ((64 - n : Nat) : Int) by omega]; exact wrapN _ (by omega))) (by kernel_rfl)) <| spq (uN (x >>> (64 - n))) (exec_binop .shr 26 3 (.tmp 11) (.tmp 13) (by kernel_rfl) (uN x) (iN (64 - n)) _ (by kernel_rfl) (by kernel_rfl) (by kernel_rfl) (run_shrU _ _ x (64 - n) (by omega))) <| spq (uN (((x <<< n) % Kec.W) ||| (x >>> (64 - n)))) (exec_cast (orU ((x <<< n) % Kec.W) (x >>> (64 - n)) (Nat.mod_lt _ Kec.W_pos) (Kec.shr_lt hx _)) (by kernel_rfl)) <| st_end <| ls_run (qo90_2 14 8) (uN (((x <<< n) % Kec.W) ||| (x >>> (64 - n)))) (w' := V2) (by kernel_rfl) (by kernel_rfl) <| ls_end <| then_n <| u_ <| so_ (.int .u64 ((((x <<< n) % Kec.W) ||| (x >>> (64 - n)) : Nat) : Int)) ?_
 exact ⟨rfl, K3⟩
theorem hrot_ok (x n : Nat) (w : World) (hx : x < Kec.W) (hn : n < 64) : Calls prog 187 #[.int .u64 (x : Int), iI (n : Int)] w (RK w (.int .u64 ((Kec.rot x n : Nat) : Int))) := by
 by_cases h0 : n = 0
 ·exact hrot_zero x n w hx h0
 ·exact hrot_pos x n w hx hn h0
def part_hat (n : Nat) : Code := partOf f185 n
theorem hat_ok (x y r : Nat) (w : World) (hx : x ≤ 1000) (hy : y ≤ 1000) (h : Kec.at_ x y = r) :
  Calls prog 185 #[iI (x : Int), iI (y : Int)] w (fun e w' => e = .returned (iI (r : Int)) ∧ w = w') := by
 have K0 := kz0 w
 refine sf_ (part_hat 1) func185 <| qr_ [0] <| kk 1 <| eqr_ nl7_ <| kk 4 <| pP (cwN (n := 5 * (y % 5))) <| pP (cwN (n := (x % 5) + (5 * (y % 5)))) <| kk 1 <| eu_ <| so_ (iI (((x % 5) + (5 * (y % 5)) : Nat) : Int)) ?_
 exact ⟨congrArg (fun n : Nat => Ending.returned (iI (n : Int))) h, rfl⟩
def qc90_1 (n : Nat) : Code := partOf f186 n
theorem hturns_ok (w : World) :
  Calls prog 186 #[] w (RK w (.agg Rz)) := by
 have K0 := kz0 w
 refine sf_ (qc90_1 1) func186 <| qr_ [0] <| pag 256 (zr_i64_25) fun V1 g eg h2 j1 => ?_
 have n3 := nk eg K0
 have K4 := K0.nn j1
 refine eqr_ [0, 1] <| kk 1 <| psk 256 g (#[iI 0, iI 1, iI 62, iI 28, iI 27, iI 36, iI 44, iI 6, iI 55, iI 20, iI 3, iI 10, iI 43, iI 25, iI 39, iI 41, iI 45, iI 15, iI 21, iI 8, iI 18, iI 2, iI 61, iI 56, iI 14]) h2 fun V5 h6 j5 => ?_
 have K7 := K4.nO j5
 refine eu_ <| sor 256 g h6 underlying256 (by kernel_rfl) ?_
 exact ⟨congrArg Ending.returned (show _ = Value.agg Rz by kernel_rfl), K7⟩
def qc90_0 (n : Nat) : Code := partOf f179 n
abbrev qo90_0 (n k : Nat) : Oper := (opsAt (qc90_0 n)).getD k default
theorem hconstants_ok (w : World) :
  Calls prog 179 #[] w (RK w (.agg (Wz Kec.K))) := by
 have K0 := kz0 w
 refine sf_ (qc90_0 1) func179 <| qr_ [0] <| pag 250 (zr_u64_24) fun V1 gr egr h2 j1 => ?_
 have n3 := nk egr K0
 have K4 := K0.nn j1
 refine eqr_ [0] <| pag 250 (zr_u64_24) fun V5 go ego h6 j5 => ?_
 have := nqk1 ego h2 K4
 have ⟨K10, h9⟩ := j5.K1 K4 h2
 refine eqr_ [0] <| kk 1 <| eq_ <| qr_ [0] <| kk 1 <| et_ <| bl_ 0 ?_
 refine sy_loop (qc90_0 244) (fun a V => ∃ (i : Nat) (r : Nat), (Fr 34 [(0, pT gr 0), (1, pT go 0), (2, iN r), (3, iN i)] [] a) ∧ (i ≤ 24) ∧ (r = Kec.regn (7 * i)) ∧ (HP V gr (zr_u64_24) 250) ∧ (HP V go (Wz (Kec.outn (7 * i))) 250) ∧ (Keeps Nob w V)) (fun a _ => 24 - (intOf (a.tmps.getD 3 undef)).toNat) (by kernel_rfl) ?_ ?_
 ·exact ⟨0, 1, fq, by omega, rfl, h9, h6.trans (by kernel_rfl), K10⟩
 ·rintro a V11 ⟨i, r, hfr, hi, hr, h12, h13, K14⟩
  obtain ⟨uu15, rfl⟩ := Fr.open hfr
  by_cases lt_i : i < 24
  ·show _
   refine q_ <| qr_ [0, 1] <| kk 1 <| pP (dtT ((i : Int) < ((24) : Int))) <| ey_ <| s_ <| tq_ <| bl_ 1 <| qr_ [0] <| kk 1 <| et_ <| bl_ 2 ?_
   refine sy_loop (qc90_0 15652) (fun a V => ∃ (j : Nat) (r2 : Nat), (Fr 34 [(0, pT gr 0), (1, pT go 0), (2, iN r2), (3, iN i), (4, iN j)] [] a) ∧ (j ≤ 7) ∧ (r2 = Kec.regn (7 * i + j)) ∧ (HP V gr (zr_u64_24) 250) ∧ (HP V go (Wz (Kec.outn (7 * i + j))) 250) ∧ (Keeps Nob w V)) (fun a _ => 7 - (intOf (a.tmps.getD 4 undef)).toNat) (by kernel_rfl) ?_ ?_
   ·exact ⟨0, r, fq, by omega, hr, h12, h13, K14⟩
   ·rintro a V16 ⟨j, r2, hfr, hj, hr2, h17, h18, K19⟩
    obtain ⟨uu20, rfl⟩ := Fr.open hfr
    rcases (show (j < 7 ∧ r2 % 2 = 1 ∧ 255 < 2 * r2) ∨ (j < 7 ∧ r2 % 2 = 1 ∧ ¬ 255 < 2 * r2) ∨ (j < 7 ∧ ¬ r2 % 2 = 1 ∧ 255 < 2 * r2) ∨ (j < 7 ∧ ¬ r2 % 2 = 1 ∧ ¬ 255 < 2 * r2) ∨ ¬ j < 7 by omega) with ⟨lt_j, hodd, hbig⟩ | ⟨lt_j, hodd, hbig⟩ | ⟨lt_j, hodd, hbig⟩ | ⟨lt_j, hodd, hbig⟩ | ge_j
    ·have hr3 : r2 < 256 := by rw [hr2]; exact Kec.regn_lt _
     have s1 := shl1 j lt_j
     obtain ⟨_, s2, s3⟩ := s1
     refine q_ <| qr_ [0, 1] <| kk 1 <| pP (dtT ((j : Int) < ((7) : Int))) <| ey_ <| s_ <| tq_ <| bl_ 3 <| q_ <| qr_ [0, 1, 2] <| kk 2 <| pP (eqT (((r2 % 2 : Nat) : Int)) ((1) : Int)) <| ey_ <| rgp 10 (zo10_ (qo90_0 1001762)) [qo90_0 1001762 10] fun V22 j22 => ?_
     have ⟨K25, h23, h24⟩ := j22.K2 K19 h17 h18
     refine ks 2 <| spq (pT go i) (exec_cast (v := pT go (0 + i * 1)) (by simp) (ixa go 0 .i64 i 1 underlying250 (by omega))) <| spq (uN (Kec.g (Kec.outn (7 * i + j)) i)) (lc h24 (Wz_get _ i (by rw [Kec.outn_len]; omega)) (k := i)) <| ks 1 <| spq (uN (1 <<< j)) (exec_cast (congrArg (fun n : Nat => Value.int .u64 (n : Int)) (shl1 j (by omega)).1) (exec_binop .shl 254 3 (.const (.int .u64 1)) (.tmp 20) (by kernel_rfl) (uN 1) (iN j) _ (by kernel_rfl) (by kernel_rfl) (by kernel_rfl) (run_shlU _ _ 1 j (by omega)))) <| spq (uN (1 <<< j - 1)) (exec_cast (v := .int .u64 (IntKind.u64.wrap (((1 <<< j : Nat) : Int) - 1))) (congrArg (Value.int .u64) (by rw [show ((1 <<< j : Nat) : Int) - (1 : Int) = ((1 <<< j - 1 : Nat) : Int) by omega]; exact wrapU _ (by omega))) (by kernel_rfl)) <| spq (uN ((1 <<< (1 <<< j - 1)) % Kec.W)) (exec_binop .shl 26 254 (.const (.int .u64 1)) (.tmp 22) (by kernel_rfl) (uN 1) (uN (1 <<< j - 1)) _ (by kernel_rfl) (by kernel_rfl) (by kernel_rfl) (run_shlU _ _ 1 _ (by omega))) <| spq (uN ((Kec.g (Kec.outn (7 * i + j)) i) ||| ((1 <<< (1 <<< j - 1)) % Kec.W))) (exec_cast (orU (Kec.g (Kec.outn (7 * i + j)) i) ((1 <<< (1 <<< j - 1)) % Kec.W) (Kec.ws_outn _ _) (Nat.mod_lt _ Kec.W_pos)) (by kernel_rfl)) <| spq (pT go i) (exec_cast (v := pT go (0 + i * 1)) (by simp) (ixa go 0 .i64 i 1 underlying250 (by omega))) <| st_end ?_
     obtain ⟨V26, eV26, j26⟩ := cell_step V22 go i (.int .u64 (((Kec.g (Kec.outn (7 * i + j)) i) ||| ((1 <<< (1 <<< j - 1)) % Kec.W) : Nat) : Int))
     have h27 : HP V26 go (Wz (Kec.outn (7 * i + (j + 1)))) 250 := eV26 ▸ ((heap_setCell_same _ go i _ _ (.int .u64 (((Kec.g (Kec.outn (7 * i + j)) i) ||| ((1 <<< (1 <<< j - 1)) % Kec.W) : Nat) : Int)) h24).trans (congrArg (fun c => some (Obj.cells c 250 (0, 0))) (show (Wz (Kec.outn (7 * i + j)) : Array Value).setIfInBounds i (.int .u64 (((Kec.g (Kec.outn (7 * i + j)) i) ||| ((1 <<< (1 <<< j - 1)) % Kec.W) : Nat) : Int)) = Wz (Kec.outn (7 * i + (j + 1))) from by rw [Wz_set]; exact congrArg Wz (outn_odd i j r2 lt_j hr2 hodd))))
     refine ls_skip (qo90_0 1001762 10) (w' := V26) (by kernel_rfl) (by rw [← eV26]; exact exec_store_cell 26 (.tmp 25) (.tmp 24) (by kernel_rfl) go i (by kernel_rfl) (.int .u64 (((Kec.g (Kec.outn (7 * i + j)) i) ||| ((1 <<< (1 <<< j - 1)) % Kec.W) : Nat) : Int)) (by kernel_rfl) (by kernel_rfl) (by kernel_rfl) (.int .u64 ((Kec.g (Kec.outn (7 * i + j)) i : Nat) : Int)) (rc h24 (Wz_get _ i (by rw [Kec.outn_len]; omega))) (frozen_of_row _ _ _ _ _ h24) (by kernel_rfl)) ?_
     clear eV26
     have ⟨K29, h28⟩ := j26.Ko1 K25 h23
     refine ls_end <| tqr_ [0, 1, 2] <| kk 1 <| pP (cwN (n := 2 * r2)) <| kk 1 <| eqr_ [0, 1] <| kk 1 <| pP (dtT ((((2 * r2 : Nat) : Int)) > ((255) : Int))) <| ey_ <| r_ [0, 1, 2, 3] <| kk 2 <| ppq (iN (2 * r2 % 256 ^^^ 113)) (exec_cast (xor113 (2 * r2 % 256) (by omega)) (by kernel_rfl)) <| kk 1 <| ps_end <| blk_n <| tr_ [0, 1, 2] <| kk 1 <| pP (cwN (n := j + 1)) <| kk 1 <| et_ ?_
     refine ⟨⟨j + 1, 2 * r2 % 256 ^^^ 113, fq, by omega, (by first | exact regn_big _ _ hr2 hbig | exact regn_small _ _ hr2 hbig), h28, h27, K29⟩, ?_⟩
     exact ltm (7 - (j + 1)) (7 - j)
    ·have hr3 : r2 < 256 := by rw [hr2]; exact Kec.regn_lt _
     have s1 := shl1 j lt_j
     obtain ⟨_, s2, s3⟩ := s1
     refine q_ <| qr_ [0, 1] <| kk 1 <| pP (dtT ((j : Int) < ((7) : Int))) <| ey_ <| s_ <| tq_ <| bl_ 3 <| q_ <| qr_ [0, 1, 2] <| kk 2 <| pP (eqT (((r2 % 2 : Nat) : Int)) ((1) : Int)) <| ey_ <| rgp 10 (zo10_ (qo90_0 1001762)) [qo90_0 1001762 10] fun V31 j31 => ?_
     have ⟨K34, h32, h33⟩ := j31.K2 K19 h17 h18
     refine ks 2 <| spq (pT go i) (exec_cast (v := pT go (0 + i * 1)) (by simp) (ixa go 0 .i64 i 1 underlying250 (by omega))) <| spq (uN (Kec.g (Kec.outn (7 * i + j)) i)) (lc h33 (Wz_get _ i (by rw [Kec.outn_len]; omega)) (k := i)) <| ks 1 <| spq (uN (1 <<< j)) (exec_cast (congrArg (fun n : Nat => Value.int .u64 (n : Int)) (shl1 j (by omega)).1) (exec_binop .shl 254 3 (.const (.int .u64 1)) (.tmp 20) (by kernel_rfl) (uN 1) (iN j) _ (by kernel_rfl) (by kernel_rfl) (by kernel_rfl) (run_shlU _ _ 1 j (by omega)))) <| spq (uN (1 <<< j - 1)) (exec_cast (v := .int .u64 (IntKind.u64.wrap (((1 <<< j : Nat) : Int) - 1))) (congrArg (Value.int .u64) (by rw [show ((1 <<< j : Nat) : Int) - (1 : Int) = ((1 <<< j - 1 : Nat) : Int) by omega]; exact wrapU _ (by omega))) (by kernel_rfl)) <| spq (uN ((1 <<< (1 <<< j - 1)) % Kec.W)) (exec_binop .shl 26 254 (.const (.int .u64 1)) (.tmp 22) (by kernel_rfl) (uN 1) (uN (1 <<< j - 1)) _ (by kernel_rfl) (by kernel_rfl) (by kernel_rfl) (run_shlU _ _ 1 _ (by omega))) <| spq (uN ((Kec.g (Kec.outn (7 * i + j)) i) ||| ((1 <<< (1 <<< j - 1)) % Kec.W))) (exec_cast (orU (Kec.g (Kec.outn (7 * i + j)) i) ((1 <<< (1 <<< j - 1)) % Kec.W) (Kec.ws_outn _ _) (Nat.mod_lt _ Kec.W_pos)) (by kernel_rfl)) <| spq (pT go i) (exec_cast (v := pT go (0 + i * 1)) (by simp) (ixa go 0 .i64 i 1 underlying250 (by omega))) <| st_end ?_
     obtain ⟨V35, eV35, j35⟩ := cell_step V31 go i (.int .u64 (((Kec.g (Kec.outn (7 * i + j)) i) ||| ((1 <<< (1 <<< j - 1)) % Kec.W) : Nat) : Int))
     have h36 : HP V35 go (Wz (Kec.outn (7 * i + (j + 1)))) 250 := eV35 ▸ ((heap_setCell_same _ go i _ _ (.int .u64 (((Kec.g (Kec.outn (7 * i + j)) i) ||| ((1 <<< (1 <<< j - 1)) % Kec.W) : Nat) : Int)) h33).trans (congrArg (fun c => some (Obj.cells c 250 (0, 0))) (show (Wz (Kec.outn (7 * i + j)) : Array Value).setIfInBounds i (.int .u64 (((Kec.g (Kec.outn (7 * i + j)) i) ||| ((1 <<< (1 <<< j - 1)) % Kec.W) : Nat) : Int)) = Wz (Kec.outn (7 * i + (j + 1))) from by rw [Wz_set]; exact congrArg Wz (outn_odd i j r2 lt_j hr2 hodd))))
     refine ls_skip (qo90_0 1001762 10) (w' := V35) (by kernel_rfl) (by rw [← eV35]; exact exec_store_cell 26 (.tmp 25) (.tmp 24) (by kernel_rfl) go i (by kernel_rfl) (.int .u64 (((Kec.g (Kec.outn (7 * i + j)) i) ||| ((1 <<< (1 <<< j - 1)) % Kec.W) : Nat) : Int)) (by kernel_rfl) (by kernel_rfl) (by kernel_rfl) (.int .u64 ((Kec.g (Kec.outn (7 * i + j)) i : Nat) : Int)) (rc h33 (Wz_get _ i (by rw [Kec.outn_len]; omega))) (frozen_of_row _ _ _ _ _ h33) (by kernel_rfl)) ?_
     clear eV35
     have ⟨K38, h37⟩ := j35.Ko1 K34 h32
     refine ls_end <| tqr_ [0, 1, 2] <| kk 1 <| pP (cwN (n := 2 * r2)) <| kk 1 <| eqr_ [0, 1] <| kk 1 <| pP (dtF ((((2 * r2 : Nat) : Int)) > ((255) : Int))) <| en_ <| s_ <| blk_n <| tr_ [0, 1, 2] <| kk 1 <| pP (cwN (n := j + 1)) <| kk 1 <| et_ ?_
     refine ⟨⟨j + 1, 2 * r2, fq, by omega, (by first | exact regn_big _ _ hr2 hbig | exact regn_small _ _ hr2 hbig), h37, h36, K38⟩, ?_⟩
     exact ltm (7 - (j + 1)) (7 - j)
    ·have hr3 : r2 < 256 := by rw [hr2]; exact Kec.regn_lt _
     have s1 := shl1 j lt_j
     obtain ⟨_, s2, s3⟩ := s1
     refine q_ <| qr_ [0, 1] <| kk 1 <| pP (dtT ((j : Int) < ((7) : Int))) <| ey_ <| s_ <| tq_ <| bl_ 3 <| q_ <| qr_ [0, 1, 2] <| kk 2 <| pP (eqF (((r2 % 2 : Nat) : Int)) ((1) : Int)) <| en_ <| s_ <| tqr_ [0, 1, 2] <| kk 1 <| pP (cwN (n := 2 * r2)) <| kk 1 <| eqr_ [0, 1] <| kk 1 <| pP (dtT ((((2 * r2 : Nat) : Int)) > ((255) : Int))) <| ey_ <| r_ [0, 1, 2, 3] <| kk 2 <| ppq (iN (2 * r2 % 256 ^^^ 113)) (exec_cast (xor113 (2 * r2 % 256) (by omega)) (by kernel_rfl)) <| kk 1 ?_
     refine ps_end <| blk_n <| tr_ [0, 1, 2] <| kk 1 <| pP (cwN (n := j + 1)) <| kk 1 <| et_ ?_
     refine ⟨⟨j + 1, 2 * r2 % 256 ^^^ 113, fq, by omega, (by first | exact regn_big _ _ hr2 hbig | exact regn_small _ _ hr2 hbig), h17, h18.trans (by rw [outn_even i j r2 lt_i lt_j hr2 hodd]), K19⟩, ?_⟩
     exact ltm (7 - (j + 1)) (7 - j)
    ·have hr3 : r2 < 256 := by rw [hr2]; exact Kec.regn_lt _
     have s1 := shl1 j lt_j
     obtain ⟨_, s2, s3⟩ := s1
     refine q_ <| qr_ [0, 1] <| kk 1 <| pP (dtT ((j : Int) < ((7) : Int))) <| ey_ <| s_ <| tq_ <| bl_ 3 <| q_ <| qr_ [0, 1, 2] <| kk 2 <| pP (eqF (((r2 % 2 : Nat) : Int)) ((1) : Int)) <| en_ <| s_ <| tqr_ [0, 1, 2] <| kk 1 <| pP (cwN (n := 2 * r2)) <| kk 1 <| eqr_ [0, 1] <| kk 1 <| pP (dtF ((((2 * r2 : Nat) : Int)) > ((255) : Int))) <| en_ <| s_ <| blk_n <| tr_ [0, 1, 2] <| kk 1 <| pP (cwN (n := j + 1)) ?_
     refine kk 1 <| et_ ?_
     refine ⟨⟨j + 1, 2 * r2, fq, by omega, (by first | exact regn_big _ _ hr2 hbig | exact regn_small _ _ hr2 hbig), h17, h18.trans (by rw [outn_even i j r2 lt_i lt_j hr2 hodd]), K19⟩, ?_⟩
     exact ltm (7 - (j + 1)) (7 - j)
    ·have eq_j : j = 7 := by omega
     refine q_ <| qr_ [0, 1] <| kk 1 <| pP (dtF ((j : Int) < ((7) : Int))) <| en_ <| sy_exit 2 (by kernel_rfl) <| then_e <| then_e <| blk_e <| blk_n <| tr_ [0, 1, 2] <| kk 1 <| pP (cwN (n := i + 1)) <| kk 1 <| et_ ?_
     refine ⟨⟨i + 1, r2, fq, by omega, hr2.trans (congrArg Kec.regn (by omega)), h17, h18.trans (congrArg (fun n => some (Obj.cells (Wz (Kec.outn n)) 250 (0, 0))) (by omega)), K19⟩, ?_⟩
     exact ltm (24 - (i + 1)) (24 - i)
  ·have eq_i : i = 24 := by omega
   have h39 : HP V11 go (Wz Kec.K) 250 := (h13.trans (congrArg (fun n => some (Obj.cells (Wz (Kec.outn n)) 250 (0, 0))) (show 7 * i = 168 by omega))).trans (congrArg (fun l => some (Obj.cells (Wz l) 250 (0, 0))) Kec.outn_K)
   refine q_ <| qr_ [0, 1] <| kk 1 <| pP (dtF ((i : Int) < ((24) : Int))) <| en_ <| sy_exit 0 (by kernel_rfl) <| then_e <| then_e <| blk_e <| tqr_ [0, 1] <| pP (ldr 250 go h39 (by rw [Wz_size, K_len]; kernel_rfl)) <| pst 250 gr ((Wz Kec.K)) h12 (by kernel_rfl) (by kernel_rfl) (Wz_one _) fun V40 h41 j40 => ?_
   have K43 := K14.nO j40
   refine eu_ <| sor 250 gr h41 underlying250 (by rw [Wz_size, K_len]; kernel_rfl) ?_
   exact ⟨rfl, K43⟩
def qc91_1 (n : Nat) : Code := partOf f180 n
abbrev qo91_1 (n k : Nat) : Oper := (opsAt (qc91_1 n)).getD k default
theorem hround_ok (s : List Nat) (k : Nat) (w : World) (hs : s.length = 25) (ws : Kec.Ws s) (hk : k < Kec.W) :
  Calls prog 180 #[.agg (Wz s), .int .u64 (k : Int)] w (RK w (.agg (Wz (Kec.round s k)))) := by
 have K0 := kz0 w
 refine sf_ (qc91_1 1) func180 <| qr_ [0, 1] <| pbg 228 (Wz s) fun V1 ga ega h2 j1 => ?_
 have n3 := nk ega K0
 have K4 := K0.nn j1
 refine pag 228 (zr_u64_25) fun V5 gr egr h6 j5 => ?_
 have := nqk1 egr h2 K4
 have ⟨K10, h9⟩ := j5.K1 K4 h2
 refine eqr_ [0] <| pag 255 (zr_u64_5) fun V11 gc egc h12 j11 => ?_
 have := nqk2 egc h9 h6 K10
 have ⟨K18, h16, h17⟩ := j11.K2 K10 h9 h6
 refine eq_ <| qr_ [0] <| kk 1 <| et_ <| bl_ 0 ?_
 refine sy_loop (qc91_1 116) (fun a V => ∃ (x : Nat), (Fr 114 [(1, uN k), (2, pT ga 0), (4, pT gr 0), (5, pT gc 0), (6, iN x)] [] a) ∧ (x ≤ 5) ∧ (HP V ga (Wz s) 228) ∧ (HP V gr (zr_u64_25) 228) ∧ (HP V gc (Wz (ccn s (5 * x))) 255) ∧ (Keeps Nob w V)) (fun a _ => 5 - (intOf (a.tmps.getD 6 undef)).toNat) (by kernel_rfl) ?_ ?_
 ·exact ⟨0, fq, by omega, h16, h17, h12.trans (by kernel_rfl), K18⟩
 ·rintro a V19 ⟨x, hfr, hx, h20, h21, h22, K23⟩
  obtain ⟨uu24, rfl⟩ := Fr.open hfr
  by_cases lt_x : x < 5
  ·show _
   refine q_ <| qr_ [0, 1] <| kk 1 <| pP (dtT ((x : Int) < ((5) : Int))) <| ey_ <| s_ <| tq_ <| bl_ 1 <| qr_ [0] <| kk 1 <| et_ <| bl_ 2 ?_
   refine sy_loop (qc91_1 7460) (fun a V => ∃ (y : Nat), (Fr 114 [(1, uN k), (2, pT ga 0), (4, pT gr 0), (5, pT gc 0), (6, iN x), (7, iN y)] [] a) ∧ (y ≤ 5) ∧ (HP V ga (Wz s) 228) ∧ (HP V gr (zr_u64_25) 228) ∧ (HP V gc (Wz (ccn s (5 * x + y))) 255) ∧ (Keeps Nob w V)) (fun a _ => 5 - (intOf (a.tmps.getD 7 undef)).toNat) (by kernel_rfl) ?_ ?_
   ·exact ⟨0, fq, by omega, h20, h21, h22, K23⟩
   ·rintro a V25 ⟨y, hfr, hy, h26, h27, h28, K29⟩
    obtain ⟨uu30, rfl⟩ := Fr.open hfr
    by_cases lt_y : y < 5
    ·have ha1 := Kec.at_lt x y
     refine q_ <| qr_ [0, 1] <| kk 1 <| pP (dtT ((y : Int) < ((5) : Int))) <| ey_ <| s_ <| tq_ <| bl_ 3 <| rgp 11 (zo11_ (qo91_1 59684)) [qo91_1 59684 11] fun V32 j32 => ?_
     have ⟨K36, h33, h34, h35⟩ := j32.K3 K29 h26 h27 h28
     refine ks 2 <| spq (pT gc x) (exec_cast (v := pT gc (0 + x * 1)) (by simp) (ixa gc 0 .i64 x 1 underlying255 (by omega))) <| spq (uN (Kec.g (ccn s (5 * x + y)) x)) (lc h35 (Wz_get _ x (by rw [ccn_len]; omega)) (k := x)) <| ks 2 <| scq 185 #[iN x, iN y] (iN (Kec.at_ x y)) func185 (hat_ok x y _ _ (by omega) (by omega) rfl) <| spq (pT ga (Kec.at_ x y)) (exec_cast (v := pT ga (0 + (Kec.at_ x y) * 1)) (by simp) (ixa ga 0 .i64 (Kec.at_ x y) 1 underlying228 (by omega))) <| spq (uN (Kec.g s (Kec.at_ x y))) (lc h33 (Wz_get _ (Kec.at_ x y) (by rw [hs]; omega)) (k := Kec.at_ x y)) <| spq (uN ((Kec.g (ccn s (5 * x + y)) x) ^^^ (Kec.g s (Kec.at_ x y)))) (exec_cast (xorU (Kec.g (ccn s (5 * x + y)) x) (Kec.g s (Kec.at_ x y)) (ws_ccn ws _ _) (ws _)) (by kernel_rfl)) <| spq (pT gc x) (exec_cast (v := pT gc (0 + x * 1)) (by simp) (ixa gc 0 .i64 x 1 underlying255 (by omega))) <| st_end ?_
     obtain ⟨V37, eV37, j37⟩ := cell_step V32 gc x (.int .u64 (((Kec.g (ccn s (5 * x + y)) x) ^^^ (Kec.g s (Kec.at_ x y)) : Nat) : Int))
     have h38 : HP V37 gc (Wz (ccn s (5 * x + (y + 1)))) 255 := eV37 ▸ ((heap_setCell_same _ gc x _ _ (.int .u64 (((Kec.g (ccn s (5 * x + y)) x) ^^^ (Kec.g s (Kec.at_ x y)) : Nat) : Int)) h35).trans (congrArg (fun c => some (Obj.cells c 255 (0, 0))) (show (Wz (ccn s (5 * x + y)) : Array Value).setIfInBounds x (.int .u64 (((Kec.g (ccn s (5 * x + y)) x) ^^^ (Kec.g s (Kec.at_ x y)) : Nat) : Int)) = Wz (ccn s (5 * x + (y + 1))) from by rw [Wz_set]; exact congrArg Wz (ccn_succ s x y lt_y))))
     refine ls_skip (qo91_1 59684 11) (w' := V37) (by kernel_rfl) (by rw [← eV37]; exact exec_store_cell 26 (.tmp 33) (.tmp 32) (by kernel_rfl) gc x (by kernel_rfl) (.int .u64 (((Kec.g (ccn s (5 * x + y)) x) ^^^ (Kec.g s (Kec.at_ x y)) : Nat) : Int)) (by kernel_rfl) (by kernel_rfl) (by kernel_rfl) (.int .u64 ((Kec.g (ccn s (5 * x + y)) x : Nat) : Int)) (rc h35 (Wz_get _ x (by rw [ccn_len]; omega))) (frozen_of_row _ _ _ _ _ h35) (by kernel_rfl)) ?_
     clear eV37
     have ⟨K41, h39, h40⟩ := j37.Ko2 K36 h33 h34
     refine ls_end <| blk_n <| tr_ [0, 1, 2] <| kk 1 <| pP (cwN (n := y + 1)) <| kk 1 <| et_ ?_
     refine ⟨⟨y + 1, fq, by omega, h39, h40, h38, K41⟩, ?_⟩
     exact ltm (5 - (y + 1)) (5 - y)
    ·have eq_y : y = 5 := by omega
     refine q_ <| qr_ [0, 1] <| kk 1 <| pP (dtF ((y : Int) < ((5) : Int))) <| en_ <| sy_exit 2 (by kernel_rfl) <| then_e <| then_e <| blk_e <| blk_n <| tr_ [0, 1, 2] <| kk 1 <| pP (cwN (n := x + 1)) <| kk 1 <| et_ ?_
     refine ⟨⟨x + 1, fq, by omega, h26, h27, h28.trans (congrArg (fun n => some (Obj.cells (Wz (ccn s n)) 255 (0, 0))) (show 5 * x + y = 5 * (x + 1) by omega)), K29⟩, ?_⟩
     exact ltm (5 - (x + 1)) (5 - x)
  ·have eq_x : x = 5 := by omega
   have h42 : HP V19 gc (Wz ((List.range 5).map (Kec.col s))) 255 := (h22.trans (congrArg (fun n => some (Obj.cells (Wz (ccn s n)) 255 (0, 0))) (show 5 * x = 25 by omega))).trans (congrArg (fun l => some (Obj.cells (Wz l) 255 (0, 0))) (ccn_all s))
   refine q_ <| qr_ [0, 1] <| kk 1 <| pP (dtF ((x : Int) < ((5) : Int))) <| en_ <| sy_exit 0 (by kernel_rfl) <| then_e <| then_e <| blk_e <| tqr_ [0, 1, 2] <| pcs (hturns_ok _) fun V43 j43 => ?_
   have ⟨K47, h44, h45, h46⟩ := j43.K3 K23 h20 h21 h42
   refine pag 256 (zr_i64_25) fun V48 gt egt h49 j48 => ?_
   have := nq3 egt h44 h45 h46
   have n53 := nk egt K47
   have ⟨K57, h54, h55, h56⟩ := j48.K3 K47 h44 h45 h46
   refine psk 256 gt Rz h49 fun V58 h59 j58 => ?_
   have ⟨K63, h60, h61, h62⟩ := j58.Ko3 K57 h54 h55 h56
   refine eqr_ [0] <| pag 228 (zr_u64_25) fun V64 gb egb h65 j64 => ?_
   have := nq3 egb h60 h61 h62
   have := nqk1 egb h59 K63
   have ⟨K75, h71, h72, h73, h74⟩ := j64.K4 K63 h60 h61 h62 h59
   refine eq_ <| qr_ [0] <| kk 1 <| et_ <| bl_ 4 ?_
   refine sy_loop (qc91_1 1012) (fun a V => ∃ (x2 : Nat), (Fr 114 [(1, uN k), (2, pT ga 0), (4, pT gr 0), (5, pT gc 0), (8, pT gt 0), (9, pT gb 0), (10, iN x2)] [] a) ∧ (x2 ≤ 5) ∧ (HP V ga (Wz s) 228) ∧ (HP V gr (zr_u64_25) 228) ∧ (HP V gc (Wz ((List.range 5).map (Kec.col s))) 255) ∧ (HP V gt Rz 256) ∧ (HP V gb (Wz (mmn s (5 * x2))) 228) ∧ (Keeps Nob w V)) (fun a _ => 5 - (intOf (a.tmps.getD 10 undef)).toNat) (by kernel_rfl) ?_ ?_
   ·exact ⟨0, fq, by omega, h71, h72, h73, h74, h65.trans (by kernel_rfl), K75⟩
   ·rintro a V76 ⟨x2, hfr, hx2, h77, h78, h79, h80, h81, K82⟩
    obtain ⟨uu83, rfl⟩ := Fr.open hfr
    by_cases lt_x2 : x2 < 5
    ·show _
     refine q_ <| qr_ [0, 1] <| kk 1 <| pP (dtT ((x2 : Int) < ((5) : Int))) <| ey_ <| s_ <| tq_ <| bl_ 5 <| q_ <| anp 13 (fun W => (HP W gc (Wz ((List.range 5).map (Kec.col s))) 255)) fun V84 j84 => ?_
     have ⟨K90, h85, h86, h87, h88⟩ := j84.K4 K82 h77 h78 h79 h80
     have h89 := j84.bk h81
     refine kA [0] <| aV 1 _ (fun W hS => cwN (n := x2 + 4)) <| kA [2] <| aV 3 (pT gc ((x2 + 4) % 5)) (fun W hS => exec_cast (v := pT gc (0 + ((x2 + 4) % 5) * 1)) (by simp) (ixa gc 0 .i64 ((x2 + 4) % 5) 1 underlying255 (by omega))) <| aV 4 (uN (Kec.col s ((x2 + 4) % 5))) (fun W hS => exec_ld 26 (.tmp 42) gc ((x2 + 4) % 5) underlying26 (rc hS (Wz_get' _ ((x2 + 4) % 5) _ (by rw [List.length_map, List.length_range]; omega) (g_map5 _ _ (by omega))))) <| kA [5] <| aV 6 _ (fun W hS => cwN (n := x2 + 1)) <| kA [7] <| aV 8 (pT gc ((x2 + 1) % 5)) (fun W hS => exec_cast (v := pT gc (0 + ((x2 + 1) % 5) * 1)) (by simp) (ixa gc 0 .i64 ((x2 + 1) % 5) 1 underlying255 (by omega))) <| aV 9 (uN (Kec.col s ((x2 + 1) % 5))) (fun W hS => exec_ld 26 (.tmp 47) gc ((x2 + 1) % 5) underlying26 (rc hS (Wz_get' _ ((x2 + 1) % 5) _ (by rw [List.length_map, List.length_range]; omega) (g_map5 _ _ (by omega))))) <| an_o 10 <| ncr 187 #[uN (Kec.col s ((x2 + 1) % 5)), iI 1] func187 (hrot_ok (Kec.col s ((x2 + 1) % 5)) 1 _ (Kec.col_lt ws _) (by omega)) fun V91 j91 => ?_
     have ⟨K97, h92, h93, h94, h95⟩ := j91.K4 K90 h85 h86 h87 h88
     have h96 := j91.bk h89
     refine ⟨h94, ?_⟩
     refine aV 11 (uN ((Kec.col s ((x2 + 4) % 5)) ^^^ (Kec.rot (Kec.col s ((x2 + 1) % 5)) 1))) (fun W hS => exec_cast (xorU (Kec.col s ((x2 + 4) % 5)) (Kec.rot (Kec.col s ((x2 + 1) % 5)) 1) (Kec.col_lt ws _) (Kec.rot_lt (Kec.col_lt ws _) _)) (by kernel_rfl)) <| ako 12 ?_
     refine ane <| tqr_ [0] <| kk 1 <| et_ <| bl_ 6 ?_
     refine sy_loop (qc91_1 129612) (fun a V => ∃ (y2 : Nat), (Fr 114 [(1, uN k), (2, pT ga 0), (4, pT gr 0), (5, pT gc 0), (8, pT gt 0), (9, pT gb 0), (10, iN x2), (11, uN ((Kec.col s ((x2 + 4) % 5)) ^^^ (Kec.rot (Kec.col s ((x2 + 1) % 5)) 1))), (12, iN y2)] [] a) ∧ (y2 ≤ 5) ∧ (HP V ga (Wz s) 228) ∧ (HP V gr (zr_u64_25) 228) ∧ (HP V gc (Wz ((List.range 5).map (Kec.col s))) 255) ∧ (HP V gt Rz 256) ∧ (HP V gb (Wz (mmn s (5 * x2 + y2))) 228) ∧ (Keeps Nob w V)) (fun a _ => 5 - (intOf (a.tmps.getD 12 undef)).toNat) (by kernel_rfl) ?_ ?_
     ·exact ⟨0, fq, by omega, h92, h93, h94, h95, h96, K97⟩
     ·rintro a V98 ⟨y2, hfr, hy2, h99, h100, h101, h102, h103, K104⟩
      obtain ⟨uu105, rfl⟩ := Fr.open hfr
      by_cases lt_y2 : y2 < 5
      ·have ha1 := Kec.at_lt x2 y2
       have ha2 := Kec.at_lt y2 (2 * x2 + 3 * y2)
       refine q_ <| qr_ [0, 1] <| kk 1 <| pP (dtT ((y2 : Int) < ((5) : Int))) <| ey_ <| s_ <| tq_ <| bl_ 7 <| anp 22 (fun W => (HP W ga (Wz s) 228) ∧ (HP W gt Rz 256)) fun V106 j106 => ?_
       have ⟨K112, h107, h108, h109, h110⟩ := j106.K4 K104 h99 h100 h101 h102
       have h111 := j106.bk h103
       refine kA [0, 1] <| aV 2 _ (fun W hS => cwN (n := 2 * x2)) <| kA [3] <| aV 4 _ (fun W hS => cwN (n := 3 * y2)) <| aV 5 _ (fun W hS => cwN (n := (2 * x2) + (3 * y2))) <| kA [7, 8, 12, 14, 15] <| an_o 6 ?_
       refine ncq 185 #[iN y2, iN ((2 * x2) + (3 * y2))] func185 ((hat_ok y2 ((2 * x2) + (3 * y2)) _ _ (by omega) (by omega) rfl).mono ?_)
       rintro e w1 ⟨rfl, rfl⟩
       refine ⟨_, rfl, ?_⟩
       refine ⟨⟨h107, h110⟩, ?_⟩
       refine an_o 9 ?_
       refine ncq 185 #[iN x2, iN y2] func185 ((hat_ok x2 y2 _ _ (by omega) (by omega) rfl).mono ?_)
       rintro e w1 ⟨rfl, rfl⟩
       refine ⟨_, rfl, ?_⟩
       refine ⟨⟨h107, h110⟩, ?_⟩
       refine aV 10 (pT ga (Kec.at_ x2 y2)) (fun W hS => exec_cast (v := pT ga (0 + (Kec.at_ x2 y2) * 1)) (by simp) (ixa ga 0 .i64 (Kec.at_ x2 y2) 1 underlying228 (by omega))) <| aV 11 (uN (Kec.g s (Kec.at_ x2 y2))) (fun W hS => lc hS.1 (Wz_get _ (Kec.at_ x2 y2) (by rw [hs]; omega)) (k := Kec.at_ x2 y2)) <| aV 13 (uN ((Kec.g s (Kec.at_ x2 y2)) ^^^ ((Kec.col s ((x2 + 4) % 5)) ^^^ (Kec.rot (Kec.col s ((x2 + 1) % 5)) 1)))) (fun W hS => exec_cast (xorU (Kec.g s (Kec.at_ x2 y2)) ((Kec.col s ((x2 + 4) % 5)) ^^^ (Kec.rot (Kec.col s ((x2 + 1) % 5)) 1)) (ws _) (Kec.xor_lt (Kec.col_lt ws _) (Kec.rot_lt (Kec.col_lt ws _) _))) (by kernel_rfl)) <| an_o 16 ?_
       refine ncq 185 #[iN x2, iN y2] func185 ((hat_ok x2 y2 _ _ (by omega) (by omega) rfl).mono ?_)
       rintro e w1 ⟨rfl, rfl⟩
       refine ⟨_, rfl, ?_⟩
       refine ⟨⟨h107, h110⟩, ?_⟩
       refine aV 17 (pT gt (Kec.at_ x2 y2)) (fun W hS => exec_cast (v := pT gt (0 + (Kec.at_ x2 y2) * 1)) (by simp) (ixa gt 0 .i64 (Kec.at_ x2 y2) 1 underlying256 (by omega))) <| aV 18 (iN (Kec.g Kec.R (Kec.at_ x2 y2))) (fun W hS => lc hS.2 (Rz_get (Kec.at_ x2 y2) (by omega)) (k := Kec.at_ x2 y2)) <| an_o 19 <| ncr 187 #[uN ((Kec.g s (Kec.at_ x2 y2)) ^^^ ((Kec.col s ((x2 + 4) % 5)) ^^^ (Kec.rot (Kec.col s ((x2 + 1) % 5)) 1))), iN (Kec.g Kec.R (Kec.at_ x2 y2))] func187 (hrot_ok ((Kec.g s (Kec.at_ x2 y2)) ^^^ ((Kec.col s ((x2 + 4) % 5)) ^^^ (Kec.rot (Kec.col s ((x2 + 1) % 5)) 1))) (Kec.g Kec.R (Kec.at_ x2 y2)) _ (Kec.xor_lt (ws _) (Kec.xor_lt (Kec.col_lt ws _) (Kec.rot_lt (Kec.col_lt ws _) _))) (Kec.R_lt' _ (by omega))) fun V113 j113 => ?_
       have ⟨K119, h114, h115, h116, h117⟩ := j113.K4 K112 h107 h108 h109 h110
       have h118 := j113.bk h111
       refine ⟨⟨h114, h117⟩, ?_⟩
       refine aV 20 (pT gb (Kec.at_ y2 ((2 * x2) + (3 * y2)))) (fun W hS => exec_cast (v := pT gb (0 + (Kec.at_ y2 ((2 * x2) + (3 * y2))) * 1)) (by simp) (ixa gb 0 .i64 (Kec.at_ y2 ((2 * x2) + (3 * y2))) 1 underlying228 (by omega))) <| an_o 21 <| nce 26 gb (Kec.at_ y2 ((2 * x2) + (3 * y2))) (uN (Kec.rot ((Kec.g s (Kec.at_ x2 y2)) ^^^ ((Kec.col s ((x2 + 4) % 5)) ^^^ (Kec.rot (Kec.col s ((x2 + 1) % 5)) 1))) (Kec.g Kec.R (Kec.at_ x2 y2)))) (Wz (mmn s (5 * x2 + (y2 + 1)))) h118 (rc h118 (Wz_get _ (Kec.at_ y2 ((2 * x2) + (3 * y2))) (by rw [mmn_len]; omega))) (by rw [Wz_set]; exact congrArg Wz (mmn_succ s x2 y2 lt_y2)) fun V120 h121 j120 => ?_
       have ⟨K126, h122, h123, h124, h125⟩ := j120.Ko4 K119 h114 h115 h116 h117
       refine ⟨⟨h122, h125⟩, ?_⟩
       refine ane <| blk_n <| tr_ [0, 1, 2] <| kk 1 <| pP (cwN (n := y2 + 1)) <| kk 1 <| et_ ?_
       refine ⟨⟨y2 + 1, fq, by omega, h122, h123, h124, h125, h121, K126⟩, ?_⟩
       exact ltm (5 - (y2 + 1)) (5 - y2)
      ·have eq_y2 : y2 = 5 := by omega
       refine q_ <| qr_ [0, 1] <| kk 1 <| pP (dtF ((y2 : Int) < ((5) : Int))) <| en_ <| sy_exit 6 (by kernel_rfl) <| then_e <| then_e <| blk_e <| blk_n <| tr_ [0, 1, 2] <| kk 1 <| pP (cwN (n := x2 + 1)) <| kk 1 <| et_ ?_
       refine ⟨⟨x2 + 1, fq, by omega, h99, h100, h101, h102, h103.trans (congrArg (fun n => some (Obj.cells (Wz (mmn s n)) 228 (0, 0))) (show 5 * x2 + y2 = 5 * (x2 + 1) by omega)), K104⟩, ?_⟩
       exact ltm (5 - (x2 + 1)) (5 - x2)
    ·have eq_x2 : x2 = 5 := by omega
     have h127 : HP V76 gb (Wz (Kec.moves (Kec.columns s))) 228 := (h81.trans (congrArg (fun n => some (Obj.cells (Wz (mmn s n)) 228 (0, 0))) (show 5 * x2 = 25 by omega))).trans (congrArg (fun l => some (Obj.cells (Wz l) 228 (0, 0))) (mmn_all s))
     refine q_ <| qr_ [0, 1] <| kk 1 <| pP (dtF ((x2 : Int) < ((5) : Int))) <| en_ <| sy_exit 4 (by kernel_rfl) <| then_e <| then_e <| blk_e <| tq_ <| qr_ [0] <| kk 1 <| et_ <| bl_ 8 ?_
     refine sy_loop (qc91_1 2036) (fun a V => ∃ (x3 : Nat), (Fr 114 [(1, uN k), (2, pT ga 0), (4, pT gr 0), (9, pT gb 0), (13, iN x3)] [] a) ∧ (x3 ≤ 5) ∧ (HP V ga (Wz (xxn (Kec.moves (Kec.columns s)) (5 * x3) s)) 228) ∧ (HP V gr (zr_u64_25) 228) ∧ (HP V gc (Wz ((List.range 5).map (Kec.col s))) 255) ∧ (HP V gt Rz 256) ∧ (HP V gb (Wz (Kec.moves (Kec.columns s))) 228) ∧ (Keeps Nob w V)) (fun a _ => 5 - (intOf (a.tmps.getD 13 undef)).toNat) (by kernel_rfl) ?_ ?_
     ·exact ⟨0, fq, by omega, h77, h78, h79, h80, h127, K82⟩
     ·rintro a V128 ⟨x3, hfr, hx3, h129, h130, h131, h132, h133, K134⟩
      obtain ⟨uu135, rfl⟩ := Fr.open hfr
      by_cases lt_x3 : x3 < 5
      ·show _
       refine q_ <| qr_ [0, 1] <| kk 1 <| pP (dtT ((x3 : Int) < ((5) : Int))) <| ey_ <| s_ <| tq_ <| bl_ 9 <| qr_ [0] <| kk 1 <| et_ <| bl_ 10 ?_
       refine sy_loop (qc91_1 130340) (fun a V => ∃ (y3 : Nat), (Fr 114 [(1, uN k), (2, pT ga 0), (4, pT gr 0), (9, pT gb 0), (13, iN x3), (14, iN y3)] [] a) ∧ (y3 ≤ 5) ∧ (HP V ga (Wz (xxn (Kec.moves (Kec.columns s)) (5 * x3 + y3) s)) 228) ∧ (HP V gr (zr_u64_25) 228) ∧ (HP V gc (Wz ((List.range 5).map (Kec.col s))) 255) ∧ (HP V gt Rz 256) ∧ (HP V gb (Wz (Kec.moves (Kec.columns s))) 228) ∧ (Keeps Nob w V)) (fun a _ => 5 - (intOf (a.tmps.getD 14 undef)).toNat) (by kernel_rfl) ?_ ?_
       ·exact ⟨0, fq, by omega, h129, h130, h131, h132, h133, K134⟩
       ·rintro a V136 ⟨y3, hfr, hy3, h137, h138, h139, h140, h141, K142⟩
        obtain ⟨uu143, rfl⟩ := Fr.open hfr
        by_cases lt_y3 : y3 < 5
        ·have ha1 := Kec.at_lt x3 y3
         have ha2 := Kec.at_lt (x3 + 1) y3
         have ha3 := Kec.at_lt (x3 + 2) y3
         refine q_ <| qr_ [0, 1] <| kk 1 <| pP (dtT ((y3 : Int) < ((5) : Int))) <| ey_ <| s_ <| tq_ <| bl_ 11 <| rgp 24 (zo24_ (qo91_1 1042724)) [qo91_1 1042724 24] fun V145 j145 => ?_
         have ⟨K151, h146, h147, h148, h149⟩ := j145.K4 K142 h137 h138 h139 h140
         have h150 := j145.bk h141
         refine ks 2 <| scq 185 #[iN x3, iN y3] (iN (Kec.at_ x3 y3)) func185 (hat_ok x3 y3 _ _ (by omega) (by omega) rfl) <| ks 2 <| scq 185 #[iN x3, iN y3] (iN (Kec.at_ x3 y3)) func185 (hat_ok x3 y3 _ _ (by omega) (by omega) rfl) <| spq (pT gb (Kec.at_ x3 y3)) (exec_cast (v := pT gb (0 + (Kec.at_ x3 y3) * 1)) (by simp) (ixa gb 0 .i64 (Kec.at_ x3 y3) 1 underlying228 (by omega))) <| spq (uN (Kec.g (Kec.moves (Kec.columns s)) (Kec.at_ x3 y3))) (lc h150 (Wz_get _ (Kec.at_ x3 y3) (by rw [Kec.len_moves]; omega)) (k := Kec.at_ x3 y3)) <| ks 1 <| spq _ (cwN (n := x3 + 1)) <| ks 1 <| scq 185 #[iN (x3 + 1), iN y3] (iN (Kec.at_ (x3 + 1) y3)) func185 (hat_ok (x3 + 1) y3 _ _ (by omega) (by omega) rfl) <| spq (pT gb (Kec.at_ (x3 + 1) y3)) (exec_cast (v := pT gb (0 + (Kec.at_ (x3 + 1) y3) * 1)) (by simp) (ixa gb 0 .i64 (Kec.at_ (x3 + 1) y3) 1 underlying228 (by omega))) <| spq (uN (Kec.g (Kec.moves (Kec.columns s)) (Kec.at_ (x3 + 1) y3))) (exec_ld 26 (.tmp 96) gb (Kec.at_ (x3 + 1) y3) underlying26 (rc h150 (Wz_get _ (Kec.at_ (x3 + 1) y3) (by rw [Kec.len_moves]; omega)))) <| spq (uN (Kec.W - 1 - (Kec.g (Kec.moves (Kec.columns s)) (Kec.at_ (x3 + 1) y3)))) (exec_cast (notU (Kec.g (Kec.moves (Kec.columns s)) (Kec.at_ (x3 + 1) y3)) (Kec.ws_moves (Kec.ws_columns ws) _)) (by kernel_rfl)) <| ks 1 <| spq _ (cwN (n := x3 + 2)) <| ks 1 <| scq 185 #[iN (x3 + 2), iN y3] (iN (Kec.at_ (x3 + 2) y3)) func185 (hat_ok (x3 + 2) y3 _ _ (by omega) (by omega) rfl) <| spq (pT gb (Kec.at_ (x3 + 2) y3)) (exec_cast (v := pT gb (0 + (Kec.at_ (x3 + 2) y3) * 1)) (by simp) (ixa gb 0 .i64 (Kec.at_ (x3 + 2) y3) 1 underlying228 (by omega))) <| spq (uN (Kec.g (Kec.moves (Kec.columns s)) (Kec.at_ (x3 + 2) y3))) (exec_ld 26 (.tmp 103) gb (Kec.at_ (x3 + 2) y3) underlying26 (rc h150 (Wz_get _ (Kec.at_ (x3 + 2) y3) (by rw [Kec.len_moves]; omega)))) <| spq (uN ((Kec.W - 1 - (Kec.g (Kec.moves (Kec.columns s)) (Kec.at_ (x3 + 1) y3))) &&& (Kec.g (Kec.moves (Kec.columns s)) (Kec.at_ (x3 + 2) y3)))) (exec_cast (andU (Kec.W - 1 - (Kec.g (Kec.moves (Kec.columns s)) (Kec.at_ (x3 + 1) y3))) (Kec.g (Kec.moves (Kec.columns s)) (Kec.at_ (x3 + 2) y3)) (Kec.sub_lt _) (Kec.ws_moves (Kec.ws_columns ws) _)) (by kernel_rfl)) <| spq (uN ((Kec.g (Kec.moves (Kec.columns s)) (Kec.at_ x3 y3)) ^^^ ((Kec.W - 1 - (Kec.g (Kec.moves (Kec.columns s)) (Kec.at_ (x3 + 1) y3))) &&& (Kec.g (Kec.moves (Kec.columns s)) (Kec.at_ (x3 + 2) y3))))) (exec_cast (xorU (Kec.g (Kec.moves (Kec.columns s)) (Kec.at_ x3 y3)) ((Kec.W - 1 - (Kec.g (Kec.moves (Kec.columns s)) (Kec.at_ (x3 + 1) y3))) &&& (Kec.g (Kec.moves (Kec.columns s)) (Kec.at_ (x3 + 2) y3))) (Kec.ws_moves (Kec.ws_columns ws) _) (Kec.and_lt (Kec.ws_moves (Kec.ws_columns ws) _))) (by kernel_rfl)) <| spq (pT ga (Kec.at_ x3 y3)) (exec_cast (v := pT ga (0 + (Kec.at_ x3 y3) * 1)) (by simp) (ixa ga 0 .i64 (Kec.at_ x3 y3) 1 underlying228 (by omega))) <| st_end ?_
         obtain ⟨V152, eV152, j152⟩ := cell_step V145 ga (Kec.at_ x3 y3) (.int .u64 (((Kec.g (Kec.moves (Kec.columns s)) (Kec.at_ x3 y3)) ^^^ ((Kec.W - 1 - (Kec.g (Kec.moves (Kec.columns s)) (Kec.at_ (x3 + 1) y3))) &&& (Kec.g (Kec.moves (Kec.columns s)) (Kec.at_ (x3 + 2) y3))) : Nat) : Int))
         have h153 : HP V152 ga (Wz (xxn (Kec.moves (Kec.columns s)) (5 * x3 + (y3 + 1)) s)) 228 := eV152 ▸ ((heap_setCell_same _ ga (Kec.at_ x3 y3) _ _ (.int .u64 (((Kec.g (Kec.moves (Kec.columns s)) (Kec.at_ x3 y3)) ^^^ ((Kec.W - 1 - (Kec.g (Kec.moves (Kec.columns s)) (Kec.at_ (x3 + 1) y3))) &&& (Kec.g (Kec.moves (Kec.columns s)) (Kec.at_ (x3 + 2) y3))) : Nat) : Int)) h146).trans (congrArg (fun c => some (Obj.cells c 228 (0, 0))) (show (Wz (xxn (Kec.moves (Kec.columns s)) (5 * x3 + y3) s) : Array Value).setIfInBounds (Kec.at_ x3 y3) (.int .u64 (((Kec.g (Kec.moves (Kec.columns s)) (Kec.at_ x3 y3)) ^^^ ((Kec.W - 1 - (Kec.g (Kec.moves (Kec.columns s)) (Kec.at_ (x3 + 1) y3))) &&& (Kec.g (Kec.moves (Kec.columns s)) (Kec.at_ (x3 + 2) y3))) : Nat) : Int)) = Wz (xxn (Kec.moves (Kec.columns s)) (5 * x3 + (y3 + 1)) s) from by rw [Wz_set]; exact congrArg Wz (xxn_succ s (Kec.moves (Kec.columns s)) x3 y3 lt_y3))))
         refine ls_skip (qo91_1 1042724 24) (w' := V152) (by kernel_rfl) (by rw [← eV152]; exact exec_store_cell 26 (.tmp 107) (.tmp 106) (by kernel_rfl) ga (Kec.at_ x3 y3) (by kernel_rfl) (.int .u64 (((Kec.g (Kec.moves (Kec.columns s)) (Kec.at_ x3 y3)) ^^^ ((Kec.W - 1 - (Kec.g (Kec.moves (Kec.columns s)) (Kec.at_ (x3 + 1) y3))) &&& (Kec.g (Kec.moves (Kec.columns s)) (Kec.at_ (x3 + 2) y3))) : Nat) : Int)) (by kernel_rfl) (by kernel_rfl) (by kernel_rfl) (.int .u64 ((Kec.g (xxn (Kec.moves (Kec.columns s)) (5 * x3 + y3) s) (Kec.at_ x3 y3) : Nat) : Int)) (rc h146 (Wz_get _ (Kec.at_ x3 y3) (by rw [xxn_len, hs]; omega))) (frozen_of_row _ _ _ _ _ h146) (by kernel_rfl)) ?_
         clear eV152
         have ⟨K158, h154, h155, h156, h157⟩ := j152.Ko4 K151 h147 h148 h149 h150
         refine ls_end <| blk_n <| tr_ [0, 1, 2] <| kk 1 <| pP (cwN (n := y3 + 1)) <| kk 1 <| et_ ?_
         refine ⟨⟨y3 + 1, fq, by omega, h153, h154, h155, h156, h157, K158⟩, ?_⟩
         exact ltm (5 - (y3 + 1)) (5 - y3)
        ·have eq_y3 : y3 = 5 := by omega
         refine q_ <| qr_ [0, 1] <| kk 1 <| pP (dtF ((y3 : Int) < ((5) : Int))) <| en_ <| sy_exit 10 (by kernel_rfl) <| then_e <| then_e <| blk_e <| blk_n <| tr_ [0, 1, 2] <| kk 1 <| pP (cwN (n := x3 + 1)) <| kk 1 <| et_ ?_
         refine ⟨⟨x3 + 1, fq, by omega, h137.trans (congrArg (fun n => some (Obj.cells (Wz (xxn (Kec.moves (Kec.columns s)) n s)) 228 (0, 0))) (show 5 * x3 + y3 = 5 * (x3 + 1) by omega)), h138, h139, h140, h141, K142⟩, ?_⟩
         exact ltm (5 - (x3 + 1)) (5 - x3)
      ·have eq_x3 : x3 = 5 := by omega
       have h159 : HP V128 ga (Wz (Kec.mixes (Kec.moves (Kec.columns s)))) 228 := (h129.trans (congrArg (fun n => some (Obj.cells (Wz (xxn (Kec.moves (Kec.columns s)) n s)) 228 (0, 0))) (show 5 * x3 = 25 by omega))).trans (congrArg (fun l => some (Obj.cells (Wz l) 228 (0, 0))) (xxn_all s (Kec.moves (Kec.columns s)) hs))
       refine q_ <| qr_ [0, 1] <| kk 1 <| pP (dtF ((x3 : Int) < ((5) : Int))) <| en_ <| sy_exit 8 (by kernel_rfl) <| then_e <| then_e <| blk_e <| tqr_ nl6_ <| ppq (pT ga 0) (exec_cast (v := pT ga (0 + 0 * 1)) (by simp) (ixa ga 0 .i64 0 1 underlying228 (by omega))) <| ppq (uN (Kec.g (Kec.mixes (Kec.moves (Kec.columns s))) 0)) (lc h159 (Wz_get _ 0 (by rw [Kec.len_mixes]; omega)) (k := 0)) <| kk 1 <| ppq (uN ((Kec.g (Kec.mixes (Kec.moves (Kec.columns s))) 0) ^^^ k)) (exec_cast (xorU (Kec.g (Kec.mixes (Kec.moves (Kec.columns s))) 0) k (Kec.ws_mixes (Kec.ws_moves (Kec.ws_columns ws)) _) hk) (by kernel_rfl)) <| ppq (pT ga 0) (exec_cast (v := pT ga (0 + 0 * 1)) (by simp) (ixa ga 0 .i64 0 1 underlying228 (by omega))) <| pce 26 ga 0 (uN ((Kec.g (Kec.mixes (Kec.moves (Kec.columns s))) 0) ^^^ k)) (Wz (Kec.round s k)) h159 (rc h159 (Wz_get _ 0 (by rw [Kec.len_mixes]; omega))) (by rw [Wz_set]; exact congrArg Wz (rfl)) fun V160 h161 j160 => ?_
       have ⟨K166, h162⟩ := j160.Ko1 K134 h130
       refine eqr_ [0, 1] <| pP (ldr 228 ga h161 (by rw [Wz_size, Kec.len_round]; kernel_rfl)) <| pst 228 gr ((Wz (Kec.round s k))) h162 (by rw [Wz_size, Kec.len_round]; kernel_rfl) (by rw [Wz_size, Kec.len_round]; rfl) (Wz_one _) fun V167 h168 j167 => ?_
       have K173 := K166.nO j167
       refine eu_ <| sor 228 gr h168 underlying228 (by rw [Wz_size, (Kec.len_round _ _)]; kernel_rfl) ?_
       exact ⟨rfl, K173⟩
theorem hround_as (s : List Nat) (r : Nat) (w : World) (hs : s.length = 25) (ws : Kec.Ws s) (hr : r < 24) : Calls prog 180 #[.agg (Wz (permn s r)), .int .u64 ((Kec.g Kec.K r : Nat) : Int)] w (RK w (.agg (Wz (permn s (r + 1))))) := by
 rw [permn_succ s r hr]; exact hround_ok (permn s r) (Kec.g Kec.K r) w (permn_len s hs r) (permn_ws s ws r) (ws_K r)
def qc91_0 (n : Nat) : Code := partOf f170 n
theorem hPermute_ok (s : List Nat) (w : World) (hs : s.length = 25) (ws : Kec.Ws s) :
  Calls prog 170 #[.agg (Wz s)] w (RK w (.agg (Wz (Kec.perm s)))) := by
 have K0 := kz0 w
 refine sf_ (qc91_0 1) func170 <| qr_ [0, 1] <| pbg 228 (Wz s) fun V1 gb egb h2 j1 => ?_
 have n3 := nk egb K0
 have K4 := K0.nn j1
 refine pag 228 (zr_u64_25) fun V5 gr egr h6 j5 => ?_
 have := nqk1 egr h2 K4
 have ⟨K10, h9⟩ := j5.K1 K4 h2
 refine eqr_ [0, 1, 2] <| pcs (hconstants_ok _) fun V11 j11 => ?_
 have ⟨K14, h12, h13⟩ := j11.K2 K10 h9 h6
 refine pag 250 (zr_u64_24) fun V15 gk egk h16 j15 => ?_
 have := nqk2 egk h12 h13 K14
 have ⟨K22, h20, h21⟩ := j15.K2 K14 h12 h13
 refine psk 250 gk ((Wz Kec.K)) h16 fun V23 h24 j23 => ?_
 have ⟨K27, h25, h26⟩ := j23.Ko2 K22 h20 h21
 refine eq_ <| qr_ [0] <| kk 1 <| et_ <| bl_ 0 ?_
 refine sy_loop (qc91_0 116) (fun a V => ∃ (r : Nat), (Fr 16 [(1, pT gb 0), (2, pT gr 0), (3, pT gk 0), (4, iN r)] [] a) ∧ (r ≤ 24) ∧ (HP V gb (Wz (permn s r)) 228) ∧ (HP V gr (zr_u64_25) 228) ∧ (HP V gk (Wz Kec.K) 250) ∧ (Keeps Nob w V)) (fun a _ => 24 - (intOf (a.tmps.getD 4 undef)).toNat) (by kernel_rfl) ?_ ?_
 ·exact ⟨0, fq, by omega, h25, h26, h24, K27⟩
 ·rintro a V28 ⟨r, hfr, hr, h29, h30, h31, K32⟩
  obtain ⟨uu33, rfl⟩ := Fr.open hfr
  by_cases lt_r : r < 24
  ·show _
   refine q_ <| qr_ [0, 1] <| kk 1 <| pP (dtT ((r : Int) < ((24) : Int))) <| ey_ <| s_ <| tq_ <| bl_ 1 <| anp 6 (fun W => (HP W gk (Wz Kec.K) 250)) fun V34 j34 => ?_
   have ⟨K38, h35, h36, h37⟩ := j34.K3 K32 h29 h30 h31
   refine kA [1] <| aV 2 (pT gk r) (fun W hS => exec_cast (v := pT gk (0 + r * 1)) (by simp) (ixa gk 0 .i64 r 1 underlying250 (by omega))) <| aV 3 (uN (Kec.g Kec.K r)) (fun W hS => lc hS (Wz_get _ r (by rw [K_len]; omega)) (k := r)) <| an_o 0 <| nrq (.agg (Wz (permn s r))) (w' := V34) (ldr 228 gb h35 (by rw [Wz_size, permn_len s hs]; kernel_rfl)) ?_
   refine ⟨h37, ?_⟩
   refine an_o 4 <| ncs (hround_as s r _ hs ws lt_r) fun V39 j39 => ?_
   have ⟨K43, h40, h41, h42⟩ := j39.K3 K38 h35 h36 h37
   refine ⟨h42, ?_⟩
   refine an_o 5 <| nst 228 gb ((Wz (permn s (r + 1)))) h40 (by rw [Wz_size]; first | (rw [permn_len s hs]; kernel_rfl) | (rw [Kec.len_perm hs]; kernel_rfl)) (by simp only [Wz_size, permn_len s hs, Kec.len_perm hs] <;> rfl) (Wz_one _) fun V44 h45 j44 => ?_
   have ⟨K48, h46, h47⟩ := j44.Ko2 K43 h41 h42
   refine ⟨h47, ?_⟩
   refine ane <| blk_n <| tr_ [0, 1, 2] <| kk 1 <| pP (cwN (n := r + 1)) <| kk 1 <| et_ ?_
   refine ⟨⟨r + 1, fq, by omega, h45, h46, h47, K48⟩, ?_⟩
   exact ltm (24 - (r + 1)) (24 - r)
  ·have eq_r : r = 24 := by omega
   have h49 : HP V28 gb (Wz (Kec.perm s)) 228 := h29.trans (by rw [eq_r, permn_all])
   refine q_ <| qr_ [0, 1] <| kk 1 <| pP (dtF ((r : Int) < ((24) : Int))) <| en_ <| sy_exit 0 (by kernel_rfl) <| then_e <| then_e <| blk_e <| tqr_ [0, 1] <| pP (ldr 228 gb h49 (by rw [Wz_size, Kec.len_perm hs]; kernel_rfl)) <| pst 228 gr ((Wz (Kec.perm s))) h30 (by rw [Wz_size]; first | (rw [permn_len s hs]; kernel_rfl) | (rw [Kec.len_perm hs]; kernel_rfl)) (by simp only [Wz_size, permn_len s hs, Kec.len_perm hs] <;> rfl) (Wz_one _) fun V50 h51 j50 => ?_
   have K54 := K32.nO j50
   refine eu_ <| sor 228 gr h51 underlying228 (by rw [Wz_size, Kec.len_perm hs]; kernel_rfl) ?_
   exact ⟨rfl, K54⟩
def wd8 (l : List UInt8) (m : Nat) : Nat := Kec.word ((l.take 8).drop m)
theorem wd8_lt (l : List UInt8) (m : Nat) (h : 0 < m) : 256 * wd8 l m + 256 ≤ Kec.W := by
 have h1 := Kec.word_lt ((l.take 8).drop m)
 have h2 : ((l.take 8).drop m).length ≤ 7 := by rw [List.length_drop, List.length_take]; omega
 have h3 : (256 : Nat) ^ ((l.take 8).drop m).length ≤ 256 ^ 7 := Nat.pow_le_pow_right (by decide) h2
 have h4 : (256 : Nat) ^ 7 * 256 = Kec.W := by decide
 unfold wd8
 omega
theorem wd8_step (l : List UInt8) (m : Nat) (h : 0 < m) (h8 : m ≤ 8) (hl : 8 ≤ l.length) : 256 * wd8 l m + (l.getD (m - 1) 0).toNat = wd8 l (m - 1) := by
 have hlt : m - 1 < (l.take 8).length := by rw [List.length_take]; omega
 unfold wd8
 rw [List.drop_eq_getElem_cons hlt, show m - 1 + 1 = m by omega, Kec.word, List.getElem_take, List.getD_eq_getElem?_getD, List.getElem?_eq_getElem (by omega)]
 show _ = _ + _
 rw [Nat.add_comm]; rfl
theorem wd8_none (l : List UInt8) : wd8 l 8 = 0 := by unfold wd8; rw [List.drop_of_length_le (by rw [List.length_take]; omega)]; rfl
theorem eight_snoc (n k : Nat) : B ((List.range (k + 1)).map fun i => UInt8.ofNat (n / 256 ^ i)) = B ((List.range k).map fun i => UInt8.ofNat (n / 256 ^ i)) ++ [.int .u8 (((UInt8.ofNat (n / 256 ^ k)).toNat : Nat) : Int)] := by
 rw [List.range_succ, List.map_append, B_append]; rfl
def qc92_1 (n : Nat) : Code := partOf f169 n
theorem hword_ok (g o n cap : Nat) (l : List UInt8) (w : World) (hn : l.length = n) (h8 : 8 ≤ n) (hc : n ≤ cap) (hv : BytesAt w (.slice (some ⟨g, o, none⟩) n cap) l) :
  Calls prog 169 #[.slice (some ⟨g, o, none⟩) n cap] w (fun e w' => e = .returned (.int .u64 ((Kec.word (l.take 8) : Nat) : Int)) ∧ w = w') := by
 have hW : Kec.W = 18446744073709551616 := rfl
 have K0 := kz0 w
 refine sf_ (qc92_1 1) func169 <| qr_ [0] <| kk 1 <| eqr_ [0] <| kk 1 <| eq_ <| qr_ [0] <| kk 1 <| et_ <| bl_ 0 ?_
 refine sy_loop (qc92_1 116) (fun a V => ∃ (m : Nat) (r : Nat), (Fr 18 [(0, .slice (some ⟨g, o, none⟩) n cap), (3, uN r), (4, iI ((m : Int) - 1))] [] a) ∧ (m ≤ 8) ∧ (r = wd8 l m) ∧ (w = V)) (fun a _ => (intOf (a.tmps.getD 4 undef) + 1).toNat) (by kernel_rfl) ?_ ?_
 ·exact ⟨8, 0, fq, by omega, (wd8_none l).symm, rfl⟩
 ·rintro a V1 ⟨m, r, hfr, hm, hr, rfl⟩
  obtain ⟨uu3, rfl⟩ := Fr.open hfr
  by_cases pos_m : 0 < m
  ·show _
   refine q_ <| qr_ [0, 1] <| kk 1 <| pP (dtT (((((m : Int) - 1)) : Int) ≥ ((0) : Int))) <| ey_ <| s_ <| tq_ <| bl_ 1 <| r_ nl9_ <| kk 1 <| ppq (uN (256 * r)) (exec_cast (v := .int .u64 (IntKind.u64.wrap (256 * (r : Int)))) (congrArg (Value.int .u64) (by rw [show (256 : Int) * (r : Int) = ((256 * r : Nat) : Int) by omega]; exact wrapU _ (by have := wd8_lt l m pos_m; omega))) (by kernel_rfl)) <| kk 1 <| ppq (iN (m - 1)) (exec_cast (v := iI ((m : Int) - 1)) (congrArg (Value.int .i64) (by omega)) (by kernel_rfl)) <| ppq (pT g (o + (m - 1))) (exec_cast (v := pT g (o + (m - 1) * 1)) (by simp) (ixs g o n cap .i64 (m - 1) 1 underlying214 (by omega))) <| ppq (cN ((l.getD (m - 1) 0).toNat)) (exec_ld 5 (.tmp 13) g (o + (m - 1)) underlying5 (bytes_cell hv (m - 1) (by rw [hn]; omega))) <| ppq (uN ((l.getD (m - 1) 0).toNat)) (exec_cast (congrArg (Value.int .u64) (wrapU (l.getD (m - 1) 0).toNat (by have := (l.getD (m - 1) 0).toNat_lt; omega))) (by kernel_rfl)) <| ppq (uN (wd8 l (m - 1))) (exec_cast (v := .int .u64 (IntKind.u64.wrap (((256 * r : Nat) : Int) + (((l.getD (m - 1) 0).toNat : Nat) : Int)))) (congrArg (Value.int .u64) (by rw [show ((256 * r : Nat) : Int) + (((l.getD (m - 1) 0).toNat : Nat) : Int) = ((256 * r + (l.getD (m - 1) 0).toNat : Nat) : Int) by omega, hr, wd8_step l m pos_m hm (by omega)]; exact wrapU _ (by have := wd8_lt l m pos_m; have := (l.getD (m - 1) 0).toNat_lt; have := wd8_step l m pos_m hm (by omega); omega))) (by kernel_rfl)) <| kk 1 <| ps_end <| blk_n <| tr_ [0, 1, 2] <| kk 1 <| ppq (iI (((m - 1 : Nat) : Int) - 1)) (exec_cast (v := iI (IntKind.i64.wrap (((m : Int) - 1) - 1))) (congrArg (Value.int .i64) (wrapI _ _ (by omega) (by omega) (by omega))) (by kernel_rfl)) <| kk 1 <| et_ ?_
   refine ⟨⟨m - 1, wd8 l (m - 1), fq, by omega, rfl, rfl⟩, ?_⟩
   exact ltm (((((m - 1 : Nat) : Int) - 1) + 1).toNat) ((((m : Int) - 1) + 1).toNat)
  ·have eq_m : m = 0 := by omega
   refine q_ <| qr_ [0, 1] <| kk 1 <| pP (dtF (((((m : Int) - 1)) : Int) ≥ ((0) : Int))) <| en_ <| sy_exit 0 (by kernel_rfl) <| then_e <| then_e <| blk_e <| tqr_ [0, 1] <| kk 2 <| eu_ <| so_ (.int .u64 (r : Int)) ?_
   subst eq_m; subst hr; exact ⟨rfl, rfl⟩
def qc92_0 (n : Nat) : Code := partOf f171 n
abbrev qo92_0 (n k : Nat) : Oper := (opsAt (qc92_0 n)).getD k default
theorem hbytes_ok (n : Nat) (w : World) (hn : n < Kec.W) :
  Calls prog 171 #[.int .u64 (n : Int)] w (fun e w' => ∃ v, e = .returned v ∧ Row w' 5 1 v 8 (B (Kec.eight n)) ∧ NewFrom w.heap.size v ∧ Keeps Nob w w') := by
 obtain ⟨i0, hi, hz0, hz1, hz2⟩ := info_parts u8_infoK
 have r0 : Row w 5 1 (.slice none 0 0) 0 (B ((List.range 0).map (fun i => UInt8.ofNat (n / 256 ^ i)))) := World.ownsRow_nil _ _ _ _
 have nw0 := NewFrom.nil w.heap.size
 have hW : Kec.W = 18446744073709551616 := rfl
 have K0 := kz0 w
 refine sf_ (qc92_0 1) func171 <| qr_ [0] <| kk 1 <| eqr_ [0] <| kk 1 <| eq_ <| qr_ [0] <| kk 1 <| et_ <| bl_ 0 ?_
 refine sy_loop (qc92_0 116) (fun a V => ∃ (k : Nat) (v : Value) (q : Nat), (Fr 18 [(0, uN q), (3, v), (4, iN k)] [] a) ∧ (k ≤ 8) ∧ (q = n / 256 ^ k) ∧ (Row V 5 1 v k (B ((List.range k).map (fun i => UInt8.ofNat (n / 256 ^ i))))) ∧ (Keeps Nob w V) ∧ (NewFrom w.heap.size v)) (fun a _ => 8 - (intOf (a.tmps.getD 4 undef)).toNat) (by kernel_rfl) ?_ ?_
 ·exact ⟨0, .slice none 0 0, n, fq, by omega, by simp, r0, K0, NewFrom.nil _⟩
 ·rintro a V1 ⟨k, v, q, hfr, hk, hq, h2, K3, hnw⟩
  obtain ⟨uu4, rfl⟩ := Fr.open hfr
  by_cases lt_k : k < 8
  ·have hqn : q ≤ n := by rw [hq]; exact Nat.div_le_self _ _
   refine q_ <| qr_ [0, 1] <| kk 1 <| pP (dtT ((k : Int) < ((8) : Int))) <| ey_ <| s_ <| tq_ <| bl_ 1 <| qr_ nl7_ <| kk 3 <| ppq (cN ((UInt8.ofNat (n / 256 ^ k)).toNat)) (exec_cast (v := .int .u8 (IntKind.u8.wrap ((q % 256 : Nat) : Int))) (congrArg (Value.int .u8) ((wrap8 (q % 256)).trans (by rw [← hq, UInt8.toNat_ofNat', UInt8.toNat_ofNat', Nat.mod_mod]))) (by kernel_rfl)) ?_
   obtain ⟨V5, eV5, gs, egs, h6, j5⟩ := alloc_step V1 (#[.int .u8 (((UInt8.ofNat (n / 256 ^ k)).toNat : Nat) : Int)]) 5
   have n7 := nk egs K3
   refine prq (sS gs 1 1) (w' := V5) (by rw [← eV5, ← egs]; kernel_rfl) ?_
   have h8 := h2.rn j5
   have K9 := K3.nn j5
   obtain ⟨v10, V11, hr12, h13, hg14, hn15, ha16⟩ := run_append_any (P := prog) (w := V5) 214 (Oper.type (qo92_0 1864 5)) 5 i0 (.int .u8 0) 1 1 underlying214 hi hz0 hz1 hz2 rfl (by decide) v k (B ((List.range k).map (fun i => UInt8.ofNat (n / 256 ^ i)))) h8 (sS gs 1 1) 1 (#[.int .u8 (((UInt8.ofNat (n / 256 ^ k)).toNat : Nat) : Int)].toList) (src_block h6 1 1 rfl (by kernel_rfl)) (by unfold maxLen; omega) (by omega)
   have j11 : Keeps (fun j => v.ownBlock = some j) V5 V11 := Keeps.rowAdd hg14
   have hw17 : NewFrom w.heap.size v10 := hnw.next K9.size ha16
   refine prq v10 (w' := V11) (exec_append (.tmp 9) (.tmp 13) 214 (by kernel_rfl) v (sS gs 1 1) (by kernel_rfl) (by kernel_rfl) hr12) ?_
   have h18 : Row V11 5 1 v10 (k + 1) (B ((List.range (k + 1)).map (fun i => UInt8.ofNat (n / 256 ^ i)))) := (by rw [eight_snoc]; exact h13)
   have K19 := K9.nr j11 hnw
   refine kk 1 <| er_ [0, 1, 2] <| kk 1 <| ppq (uN (q / 256)) (exec_cast (v := .int .u64 (IntKind.u64.wrap ((q / 256 : Nat) : Int))) (congrArg (Value.int .u64) (wrapU _ (by omega))) (by kernel_rfl)) <| kk 1 <| ps_end <| blk_n <| tr_ [0, 1, 2] <| kk 1 <| pP (cwN (n := k + 1)) <| kk 1 <| et_ ?_
   refine ⟨⟨k + 1, v10, q / 256, fq, by omega, by rw [hq, Nat.div_div_eq_div_mul, ← Nat.pow_succ], h18, K19, hw17⟩, ?_⟩
   exact ltm (8 - (k + 1)) (8 - k)
  ·have eq_k : k = 8 := by omega
   refine q_ <| qr_ [0, 1] <| kk 1 <| pP (dtF ((k : Int) < ((8) : Int))) <| en_ <| sy_exit 0 (by kernel_rfl) <| then_e <| then_e <| blk_e <| tqr_ [0, 1] <| kk 2 <| eu_ <| so_ (v) ?_
   exact ⟨v, rfl, by have e := h2; rw [eq_k] at e; exact e, hnw, K3⟩
theorem rb_get (X : List UInt8) (rest : List Value) (k : Nat) (h : k < X.length) : (B X ++ rest).toArray[k]? = some (.int .u8 (((X.getD k 0).toNat : Nat) : Int)) := by
 have := Bz_get X k h
 rw [List.getElem?_toArray] at this ⊢
 rw [List.getElem?_append_left (by rw [B_length]; exact h)]; exact this
theorem rb_set (X : List UInt8) (rest : List Value) (k : Nat) (x : UInt8) (h : k < X.length) : (B X ++ rest).toArray.setIfInBounds k (.int .u8 (x.toNat : Int)) = (B (X.set k x) ++ rest).toArray := by
 have := congrArg Array.toList (Bz_set X k x)
 rw [List.setIfInBounds_toArray] at this ⊢
 rw [List.set_append, if_pos (by rw [B_length]; exact h)]
 have e : (B X).set k (.int .u8 (x.toNat : Int)) = B (X.set k x) := by simpa using this
 rw [e]
theorem bytes_at {w : World} {g cap n : Nat} {X : List UInt8} {rest : List Value} {T : TypeId} (h : HP w g (B X ++ rest).toArray T) (hn : X.length = n) (k : Nat) (hk : k ≤ n) (hc : n ≤ cap) (hm : cap ≤ maxLen) : BytesAt w (.slice (some ⟨g, k, none⟩) (n - k) (cap - k)) (X.drop k) := by
 subst hn
 refine ⟨⟨_, _, by rw [List.length_drop], by rw [List.length_drop]; omega, by omega, fun h => by cases h⟩, fun i x hi => ⟨g, k, _, by rw [List.length_drop], lt_of_block h, ?_⟩⟩
 rw [List.getElem?_drop] at hi
 obtain ⟨h1, h2⟩ := List.getElem?_eq_some_iff.1 hi
 refine rc h ((rb_get X rest (k + i) h1).trans ?_)
 rw [List.getD_eq_getElem?_getD, hi]; rfl
theorem cut_at (g n cap k : Nat) (h : k < cap) : cutV (some ⟨g, 0, none⟩) n cap k = .slice (some ⟨g, k, none⟩) (n - k) (cap - k) := by
 unfold cutV
 rw [if_neg (by omega)]
 show Value.slice (some ((⟨g, 0, none⟩ : Addr).add k)) _ _ = _
 rw [Addr.add_lit, Nat.zero_add]
theorem xor128 (c : UInt8) : Value.int .u8 (bits .xor .u8 (c.toNat : Int) 128) = .int .u8 (((c ^^^ 128).toNat : Nat) : Int) := by
 have : ∀ j : Fin 256, bits .xor .u8 (j.val : Int) 128 = (((UInt8.ofNat j.val ^^^ 128).toNat : Nat) : Int) := by decide +kernel
 have h := this ⟨c.toNat, c.toNat_lt⟩
 rw [show UInt8.ofNat (⟨c.toNat, c.toNat_lt⟩ : Fin 256).val = c by simp] at h
 exact congrArg _ h
theorem pad_step (x : List UInt8) (p : Nat) : B (x ++ 6 :: List.replicate (p + 1) 0) = B (x ++ 6 :: List.replicate p 0) ++ [.int .u8 0] := by
 rw [List.replicate_succ', ← List.cons_append, ← List.append_assoc, B_append]; rfl
theorem pad_all (x Y : List UInt8) (p n : Nat) (hY : x ++ 6 :: List.replicate p 0 = Y) (hp : p = 135 - x.length % 136) (hn : Y.length = n) : Y.set (n - 1) (Y.getD (n - 1) 0 ^^^ 128) = Kec.padded x := by
 subst hn; subst hY; subst hp; rfl
def ab (Z : List UInt8) (q : Nat) : List Nat := Kec.absorb q Kec.zero Z
theorem ab_len (Z : List UInt8) (q : Nat) : (ab Z q).length = 25 := Kec.len_absorb _ _ _ (by simp [Kec.zero])
theorem ab_ws (Z : List UInt8) (q : Nat) : Kec.Ws (ab Z q) := Kec.ws_absorb _ _ _ Kec.ws_zero
def mx (Z : List UInt8) (q : Nat) : List Nat := Kec.mixin (ab Z q) ((Z.drop (136 * q)).take 136)
theorem ab_succ (Z : List UInt8) (q : Nat) : Kec.perm (mx Z q) = ab Z (q + 1) := by
 unfold ab mx
 rw [Kec.absorb_add, Nat.mul_comm q 136]
 rfl
def mxf (Z : List UInt8) (q i : Nat) : Nat := Kec.g (ab Z q) i ^^^ Kec.word ((Z.drop (136 * q + 8 * i)).take 8)
theorem mx_all (Z : List UInt8) (q : Nat) : stp (mxf Z q) 17 (ab Z q) = mx Z q := by
 have hl := ab_len Z q
 apply List.ext_getElem (by rw [stp_len, hl, mx, Kec.len_mixin])
 intro i h1 h2
 rw [stp_len, hl] at h1
 have e := stp_get (mxf Z q) 17 (ab Z q) i (by omega)
 have f : Kec.g (mx Z q) i = if i < 17 then Kec.g (ab Z q) i ^^^ Kec.wordAt ((Z.drop (136 * q)).take 136) i else Kec.g (ab Z q) i := by
  unfold mx Kec.mixin; rw [Kec.g_map _ _ h1]
 have k : Kec.g (stp (mxf Z q) 17 (ab Z q)) i = Kec.g (mx Z q) i := by
  rw [e, f]
  by_cases h : i < 17
  ·rw [if_pos h, if_pos h]
   unfold mxf Kec.wordAt
   rw [List.drop_take, List.take_take, List.drop_drop, show min 8 (136 - 8 * i) = 8 by omega]
  ·rw [if_neg h, if_neg h]
 unfold Kec.g at k
 rw [List.getD_eq_getElem?_getD, List.getD_eq_getElem?_getD, List.getElem?_eq_getElem (by rw [stp_len, hl]; exact h1), List.getElem?_eq_getElem h2] at k
 exact k
theorem mx_len (Z : List UInt8) (q : Nat) : (mx Z q).length = 25 := Kec.len_mixin _ _
theorem mx_ws (Z : List UInt8) (q : Nat) : Kec.Ws (mx Z q) := Kec.ws_mixin (ab_ws Z q) _
theorem hPermute_as (Z : List UInt8) (q : Nat) (w : World) : Calls prog 170 #[.agg (Wz (mx Z q))] w (RK w (.agg (Wz (ab Z (q + 1))))) := by
 rw [← ab_succ]; exact hPermute_ok (mx Z q) w (mx_len Z q) (mx_ws Z q)
def sqf (s : List Nat) (k : Nat) : UInt8 := (Kec.squeeze s).getD k 0
theorem sq_get (s : List Nat) (c e : Nat) (hc : c < 4) (he : e < 8) : (Kec.eight (Kec.g s c)).getD e 0 = sqf s (8 * c + e) := by
 have l8 : ∀ a, (Kec.eight a).length = 8 := fun a => by simp [Kec.eight]
 rcases (by omega : c = 0 ∨ c = 1 ∨ c = 2 ∨ c = 3) with rfl | rfl | rfl | rfl
 ·unfold sqf Kec.squeeze; rw [List.append_assoc, List.append_assoc, List.getD_eq_getElem?_getD, List.getD_eq_getElem?_getD, List.getElem?_append_left (by simp only [l8]; omega)]; simp
 ·unfold sqf Kec.squeeze; rw [List.append_assoc, List.append_assoc, List.getD_eq_getElem?_getD, List.getD_eq_getElem?_getD, List.getElem?_append_right (by simp only [l8]; omega), List.getElem?_append_left (by simp only [l8]; omega), l8]; congr 2; omega
 ·unfold sqf Kec.squeeze; rw [List.append_assoc, List.append_assoc, List.getD_eq_getElem?_getD, List.getD_eq_getElem?_getD, List.getElem?_append_right (by simp only [l8]; omega), List.getElem?_append_right (by simp only [l8]; omega), List.getElem?_append_left (by simp only [l8]; omega), l8, l8]; congr 2; omega
 ·unfold sqf Kec.squeeze; rw [List.append_assoc, List.append_assoc, List.getD_eq_getElem?_getD, List.getD_eq_getElem?_getD, List.getElem?_append_right (by simp only [l8]; omega), List.getElem?_append_right (by simp only [l8]; omega), List.getElem?_append_right (by simp only [l8]; omega), l8, l8, l8]; congr 2; omega
theorem sq_all (x : List UInt8) (nq : Nat) (h : nq = x.length / 136 + 1) (s : List UInt8) (hs : s.length = 32) : stpB (sqf (ab (Kec.padded x) nq)) 32 s = Kec.sum x := by
 rw [stpB_all _ _ 32 hs, Kec.sum_padded, Kec.padded_len, Nat.mul_div_cancel _ (by decide), ← h]
 refine List.ext_getElem (by simp [Kec.squeeze_len]) fun i h1 h2 => ?_
 simp only [List.getElem_map, List.getElem_range]
 unfold sqf ab
 rw [List.getD_eq_getElem?_getD, List.getElem?_eq_getElem h2]; rfl
def qc93_0 (n : Nat) : Code := partOf f158 n
abbrev qo93_0 (n k : Nat) : Oper := (opsAt (qc93_0 n)).getD k default
theorem hSum_ok (x : List UInt8) (v0 : Value) (w : World) (hx : BytesAt w v0 x) (hl : x.length ≤ 1000000) :
  Calls prog 158 #[v0] w (RK w (.agg (B (Kec.sum x)).toArray)) := by
 obtain ⟨i0, hi, hz0, hz1, hz2⟩ := info_parts u8_infoK
 obtain ⟨P, hP⟩ : ∃ P, 135 - x.length % 136 = P := ⟨_, rfl⟩
 have hW : Kec.W = 18446744073709551616 := rfl
 have K0 := kz0 w
 refine sf_ (qc93_0 1) func158 <| qr_ [0] <| pag 25 (zr_u8_32) fun V1 gr egr h2 j1 => ?_
 have n3 := nk egr K0
 have h4 := hx.keepsN j1
 have ⟨K5, z6⟩ := j1.z0 K0
 refine eqr_ nl6_ <| pbs 5 #[] 0 fun V7 g0 eg0 h8 j7 => ?_
 have := nqk1 eg0 h2 K5
 have h11 := h4.keepsN j7
 have ⟨K13, z14, h12⟩ := j7.z1 K5 h2
 refine kk 1 ?_
 have h15 : Row V7 5 1 (sS g0 0 0) 0 [] := row_of_block h8 rfl (by decide)
 have hw16 : NewFrom (gr + 1) (sS g0 0 0) := NewFrom.ptr (by omega) _ _
 obtain ⟨v17, V18, hr19, h20, hg21, hn22, ha23⟩ := run_append_any (P := prog) (w := V7) 214 (Oper.type (qo93_0 6 2)) 5 i0 (.int .u8 0) 1 1 underlying214 hi hz0 hz1 hz2 rfl (by decide) (sS g0 0 0) 0 [] h15 v0 x.length (B x) (h11.src) (by unfold maxLen; omega) (by omega)
 have j18 : Keeps (fun j => (sS g0 0 0 : Value).ownBlock = some j) V7 V18 := Keeps.rowAdd hg21
 have hw24 : NewFrom (gr + 1) v17 := hw16.next (lt_of_block h12) ha23
 refine prq v17 (w' := V18) (exec_append (.tmp 11) (.tmp 12) 214 (by kernel_rfl) (sS g0 0 0) v0 (by kernel_rfl) (by kernel_rfl) hr19) ?_
 have h25 : Row V18 5 1 v17 x.length (B x) := (by have e := h20; rwa [Nat.zero_add, List.nil_append] at e)
 have h26 : HP V18 gr (zr_u8_32) 25 := (j18.block gr (lt_of_block h12) (fun e => by have := hw16 _ e; omega)).trans h12
 have K27 := K13.nr j18 hw16
 have z28 := j18.size
 refine pbs 5 (#[.int .u8 6]) 1 fun V29 g6 eg6 h30 j29 => ?_
 have := nqk1 eg6 h26 K27
 have h33 := j29.bk h26
 have h34 := h25.rn j29
 have ⟨K35, z36⟩ := j29.z0 K27
 obtain ⟨v37, V38, hr39, h40, hg41, hn42, ha43⟩ := run_append_any (P := prog) (w := V29) 214 (Oper.type (qo93_0 6 4)) 5 i0 (.int .u8 0) 1 1 underlying214 hi hz0 hz1 hz2 rfl (by decide) v17 x.length (B x) h34 (sS g6 1 1) 1 (#[.int .u8 6].toList) (src_block h30 1 1 rfl (by kernel_rfl)) (by unfold maxLen; omega) (by omega)
 have j38 : Keeps (fun j => v17.ownBlock = some j) V29 V38 := Keeps.rowAdd hg41
 have hw44 : NewFrom (gr + 1) v37 := hw24.next (lt_of_block h33) ha43
 refine prq v37 (w' := V38) (exec_append (.tmp 13) (.tmp 14) 214 (by kernel_rfl) v17 (sS g6 1 1) (by kernel_rfl) (by kernel_rfl) hr39) ?_
 have h45 : Row V38 5 1 v37 (x.length + 1) (B (x ++ [6])) := (by rw [B_append]; exact h40)
 have h46 : HP V38 gr (zr_u8_32) 25 := (j38.block gr (lt_of_block h33) (fun e => by have := hw24 _ e; omega)).trans h33
 have K47 := K35.nr j38 hw24
 have z48 := j38.size
 refine kk 1 <| eq_ <| bl_ 0 ?_
 refine sy_loop (qc93_0 56) (fun a V => ∃ (p : Nat) (v : Value), (Fr 82 [(2, pT gr 0), (3, v)] [] a) ∧ (p ≤ P) ∧ (HP V gr (zr_u8_32) 25) ∧ (Row V 5 1 v (x.length + 1 + p) (B (x ++ 6 :: List.replicate p 0))) ∧ (Keeps Nob w V) ∧ (NewFrom (gr + 1) v)) (fun a _ => (x.length + 200) - lenOf (a.tmps.getD 3 undef)) (by kernel_rfl) ?_ ?_
 ·exact ⟨0, v37, fq, by omega, h46, h45, K47, hw44⟩
 ·rintro a V49 ⟨p, v, hfr, hp, h50, h51, K52, hnw⟩
  obtain ⟨uu53, rfl⟩ := Fr.open hfr
  by_cases lt_p : p < P
  ·show _
   refine q_ <| qr_ [0, 1, 2, 3] <| kk 1 <| ppq (iN (x.length + 1 + p)) (exec_len_row (.tmp 16) 214 5 (by kernel_rfl) underlying214 (by kernel_rfl) h51) <| kk 1 <| pP (nqT ((((x.length + 1 + p) % 136 : Nat) : Int)) ((0) : Int)) <| ey_ <| s_ <| then_n <| bl_ 1 <| r_ [0, 1, 2, 3] <| kk 1 <| pbs 5 (#[.int .u8 0]) 1 fun V54 gz egz h55 j54 => ?_
   have := nqk1 egz h50 K52
   have h58 := j54.bk h50
   have h59 := h51.rn j54
   have ⟨K60, z61⟩ := j54.z0 K52
   obtain ⟨v62, V63, hr64, h65, hg66, hn67, ha68⟩ := run_append_any (P := prog) (w := V54) 214 (Oper.type (qo93_0 226 2)) 5 i0 (.int .u8 0) 1 1 underlying214 hi hz0 hz1 hz2 rfl (by decide) v (x.length + 1 + p) (B (x ++ 6 :: List.replicate p 0)) h59 (sS gz 1 1) 1 (#[.int .u8 0].toList) (src_block h55 1 1 rfl (by kernel_rfl)) (by unfold maxLen; omega) (by omega)
   have j63 : Keeps (fun j => v.ownBlock = some j) V54 V63 := Keeps.rowAdd hg66
   have hw69 : NewFrom (gr + 1) v62 := hnw.next (lt_of_block h58) ha68
   refine prq v62 (w' := V63) (exec_append (.tmp 20) (.tmp 21) 214 (by kernel_rfl) v (sS gz 1 1) (by kernel_rfl) (by kernel_rfl) hr64) ?_
   have h70 : Row V63 5 1 v62 (x.length + 1 + (p + 1)) (B (x ++ 6 :: List.replicate (p + 1) 0)) := (by rw [pad_step]; exact h65)
   have h71 : HP V63 gr (zr_u8_32) 25 := (j63.block gr (lt_of_block h58) (fun e => by have := hnw _ e; omega)).trans h58
   have K72 := K60.nr j63 hnw
   have z73 := j63.size
   refine kk 1 <| ps_end <| blk_n <| then_n ?_
   refine ⟨⟨p + 1, v62, fq, by omega, h71, h70, K72, hw69⟩, ?_⟩
   exact lt_meas (x := (x.length + 200) - lenOf v62) (y := (x.length + 200) - lenOf v) (by kernel_rfl) (by kernel_rfl) (by rw [row_len h70, row_len h51]; omega)
  ·have eq_p : p = P := by omega
   refine q_ <| qr_ [0, 1, 2, 3] <| kk 1 <| ppq (iN (x.length + 1 + p)) (exec_len_row (.tmp 16) 214 5 (by kernel_rfl) underlying214 (by kernel_rfl) h51) <| kk 1 <| pP (nqF ((((x.length + 1 + p) % 136 : Nat) : Int)) ((0) : Int)) <| en_ <| sy_exit 0 (by kernel_rfl) <| then_e <| then_e <| blk_e <| tq_ ?_
   obtain ⟨n, hn0⟩ : ∃ n, x.length + 1 + p = n := ⟨_, rfl⟩
   obtain ⟨Y, hY⟩ : ∃ Y, x ++ 6 :: List.replicate p 0 = Y := ⟨_, rfl⟩
   have hYl : Y.length = n := by rw [← hY, ← hn0]; simp; omega
   have hrw : Row V49 5 1 v n (B Y) := by rw [← hn0, ← hY]; exact h51
   obtain ⟨g, cap, rest, rfl, hg, hcap, hmax⟩ := row_open hrw (by omega)
   have hgw : gr + 1 ≤ g := hnw g rfl
   have hglt := lt_of_block hg
   obtain ⟨Z, hZ⟩ : ∃ Z, Kec.padded x = Z := ⟨_, rfl⟩
   obtain ⟨nq, hnq⟩ : ∃ nq, x.length / 136 + 1 = nq := ⟨_, rfl⟩
   have hnn : n = 136 * nq := by omega
   have hZl : Z.length = n := by rw [← hZ, Kec.padded_len, hnn, ← hnq]; omega
   refine r_ nl13_ <| kk 2 <| pP (len_ (some ⟨g, 0, none⟩) n cap underlying214) <| ppq (iN (n - 1)) (exec_cast (congrArg (Value.int .i64) (wrapI ((n : Int) - ((1 : Nat) : Int)) _ (by omega) (by omega) (by omega))) (by kernel_rfl)) <| kk 2 <| pP (len_ (some ⟨g, 0, none⟩) n cap underlying214) <| ppq (iN (n - 1)) (exec_cast (congrArg (Value.int .i64) (wrapI ((n : Int) - ((1 : Nat) : Int)) _ (by omega) (by omega) (by omega))) (by kernel_rfl)) <| ppq (pT g (n - 1)) (exec_cast (v := pT g (0 + (n - 1) * 1)) (by simp) (ixs g 0 n cap .i64 (n - 1) 1 underlying214 (by omega))) <| ppq (cN ((Y.getD (n - 1) 0).toNat)) (lc (hg) (rb_get _ _ (n - 1) (by rw [hYl]; omega)) (k := n - 1)) <| ppq (cN ((Y.getD (n - 1) 0 ^^^ 128).toNat)) (exec_cast (xor128 (Y.getD (n - 1) 0)) (by kernel_rfl)) <| ppq (pT g (n - 1)) (exec_cast (v := pT g (0 + (n - 1) * 1)) (by simp) (ixs g 0 n cap .i64 (n - 1) 1 underlying214 (by omega))) <| pce 5 g (n - 1) (cN ((Y.getD (n - 1) 0 ^^^ 128).toNat)) ((B Z ++ rest).toArray) hg (rc (hg) (rb_get _ _ (n - 1) (by rw [hYl]; omega))) ((rb_set _ _ (n - 1) ((Y.getD (n - 1) 0 ^^^ 128)) (by rw [hYl]; omega)).trans (congrArg (fun l => (B l ++ rest).toArray) ((pad_all x Y p n hY (by omega) hYl).trans hZ))) fun V74 h75 j74 => ?_
   have ⟨K77, z78, h76⟩ := j74.zo1 K52 h50
   refine eqr_ [0] <| pag 228 (zr_u64_25) fun V79 gs egs h80 j79 => ?_
   have := nqk2 egs h76 h75 K77
   have ⟨K86, z87, h84, h85⟩ := j79.z2 K77 h76 h75
   refine eq_ <| qr_ [0] <| kk 1 <| et_ <| bl_ 2 ?_
   refine sy_loop (qc93_0 1012) (fun a V => ∃ (q : Nat), (Fr 82 [(2, pT gr 0), (3, sS g n cap), (4, pT gs 0), (5, iN (136 * q))] [] a) ∧ (q ≤ nq) ∧ (HP V gr (zr_u8_32) 25) ∧ (HP V g ((B Z ++ rest).toArray) 5) ∧ (HP V gs (Wz (ab Z q)) 228) ∧ (Keeps Nob w V)) (fun a _ => 136 * nq - (intOf (a.tmps.getD 5 undef)).toNat) (by kernel_rfl) ?_ ?_
   ·exact ⟨0, fq, by omega, h84, h85, h80.trans (by kernel_rfl), K86⟩
   ·rintro a V88 ⟨q, hfr, hq, h89, h90, h91, K92⟩
    obtain ⟨uu93, rfl⟩ := Fr.open hfr
    by_cases lt_q : q < nq
    ·show _
     refine q_ <| qr_ [0, 1, 2, 3] <| kk 2 <| pP (len_ (some ⟨g, 0, none⟩) n cap underlying214) <| pP (dtT ((((136 * q : Nat) : Int)) < (n : Int))) <| ey_ <| s_ <| tq_ <| bl_ 3 <| q_ <| qr_ [0] <| kk 1 <| et_ <| bl_ 4 ?_
     refine sy_loop (qc93_0 129604) (fun a V => ∃ (i : Nat), (Fr 82 [(2, pT gr 0), (3, sS g n cap), (4, pT gs 0), (5, iN (136 * q)), (6, iN i)] [] a) ∧ (i ≤ 17) ∧ (HP V gr (zr_u8_32) 25) ∧ (HP V g ((B Z ++ rest).toArray) 5) ∧ (HP V gs (Wz (stp (mxf Z q) i (ab Z q))) 228) ∧ (Keeps Nob w V)) (fun a _ => 17 - (intOf (a.tmps.getD 6 undef)).toNat) (by kernel_rfl) ?_ ?_
     ·exact ⟨0, fq, by omega, h89, h90, h91, K92⟩
     ·rintro a V94 ⟨i, hfr, hi, h95, h96, h97, K98⟩
      obtain ⟨uu99, rfl⟩ := Fr.open hfr
      by_cases lt_i : i < 17
      ·show _
       refine q_ <| qr_ [0, 1] <| kk 1 <| pP (dtT ((i : Int) < ((17) : Int))) <| ey_ <| s_ <| tq_ <| bl_ 5 <| rgp 13 (zo13_ (qo93_0 1036836)) [qo93_0 1036836 13] fun V101 j101 => ?_
       have ⟨K105, z106, h102, h103, h104⟩ := j101.z3 K98 h95 h96 h97
       refine ks 2 <| spq (pT gs i) (exec_cast (v := pT gs (0 + i * 1)) (by simp) (ixa gs 0 .i64 i 1 underlying228 (by omega))) <| spq (uN (Kec.g (ab Z q) i)) (lc h104 (Wz_get' _ i _ (by rw [stp_len, ab_len]; omega) (by rw [stp_get _ _ _ _ (by rw [ab_len]; omega), if_neg (by omega)])) (k := i)) <| ks 3 <| spq _ (cwN (n := 8 * i)) <| spq _ (cwN (n := (136 * q) + (8 * i))) <| spq (.slice (some ⟨g, (136 * q + 8 * i), none⟩) (n - (136 * q + 8 * i)) (cap - (136 * q + 8 * i))) (exec_cast (cut_at g n cap (136 * q + 8 * i) (by omega)) (exec_slice_from 214 (.tmp 49) (.tmp 53) (by kernel_rfl) (some ⟨g, 0, none⟩) n cap (by kernel_rfl) .i64 (136 * q + 8 * i) (by kernel_rfl) 5 underlying214 (by kernel_rfl) (by omega))) <| scq 169 #[.slice (some ⟨g, (136 * q + 8 * i), none⟩) (n - (136 * q + 8 * i)) (cap - (136 * q + 8 * i))] (uN (Kec.word ((Z.drop (136 * q + 8 * i)).take 8))) func169 (hword_ok g (136 * q + 8 * i) (n - (136 * q + 8 * i)) (cap - (136 * q + 8 * i)) (Z.drop (136 * q + 8 * i)) _ (by rw [List.length_drop, hZl]) (by omega) (by omega) (bytes_at h103 hZl (136 * q + 8 * i) (by omega) hcap hmax)) <| spq (uN ((Kec.g (ab Z q) i) ^^^ (Kec.word ((Z.drop (136 * q + 8 * i)).take 8)))) (exec_cast (xorU (Kec.g (ab Z q) i) (Kec.word ((Z.drop (136 * q + 8 * i)).take 8)) (ab_ws _ _ _) (word_take_lt _ 8 (by omega))) (by kernel_rfl)) <| spq (pT gs i) (exec_cast (v := pT gs (0 + i * 1)) (by simp) (ixa gs 0 .i64 i 1 underlying228 (by omega))) <| st_end ?_
       obtain ⟨V107, eV107, j107⟩ := cell_step V101 gs i (.int .u64 (((Kec.g (ab Z q) i) ^^^ (Kec.word ((Z.drop (136 * q + 8 * i)).take 8)) : Nat) : Int))
       have h108 : HP V107 gs (Wz (stp (mxf Z q) (i + 1) (ab Z q))) 228 := eV107 ▸ ((heap_setCell_same _ gs i _ _ (.int .u64 (((Kec.g (ab Z q) i) ^^^ (Kec.word ((Z.drop (136 * q + 8 * i)).take 8)) : Nat) : Int)) h104).trans (congrArg (fun c => some (Obj.cells c 228 (0, 0))) (show (Wz (stp (mxf Z q) i (ab Z q)) : Array Value).setIfInBounds i (.int .u64 (((Kec.g (ab Z q) i) ^^^ (Kec.word ((Z.drop (136 * q + 8 * i)).take 8)) : Nat) : Int)) = Wz (stp (mxf Z q) (i + 1) (ab Z q)) from by rw [Wz_set]; exact congrArg Wz (by rw [stp_succ] <;> rfl))))
       refine ls_skip (qo93_0 1036836 13) (w' := V107) (by kernel_rfl) (by rw [← eV107]; exact exec_store_cell 26 (.tmp 57) (.tmp 56) (by kernel_rfl) gs i (by kernel_rfl) (.int .u64 (((Kec.g (ab Z q) i) ^^^ (Kec.word ((Z.drop (136 * q + 8 * i)).take 8)) : Nat) : Int)) (by kernel_rfl) (by kernel_rfl) (by kernel_rfl) (.int .u64 ((Kec.g (ab Z q) i : Nat) : Int)) (rc h104 (Wz_get' _ i _ (by rw [stp_len, ab_len]; omega) (by rw [stp_get _ _ _ _ (by rw [ab_len]; omega), if_neg (by omega)]))) (frozen_of_row _ _ _ _ _ h104) (by kernel_rfl)) ?_
       clear eV107
       have ⟨K111, z112, h109, h110⟩ := j107.zo2 K105 h102 h103
       refine ls_end <| blk_n <| tr_ [0, 1, 2] <| kk 1 <| pP (cwN (n := i + 1)) <| kk 1 <| et_ ?_
       refine ⟨⟨i + 1, fq, by omega, h109, h110, h108, K111⟩, ?_⟩
       exact ltm (17 - (i + 1)) (17 - i)
      ·have eq_i : i = 17 := by omega
       have h113 : HP V94 gs (Wz (mx Z q)) 228 := h97.trans (by rw [eq_i, mx_all])
       refine q_ <| qr_ [0, 1] <| kk 1 <| pP (dtF ((i : Int) < ((17) : Int))) <| en_ <| sy_exit 4 (by kernel_rfl) <| then_e <| then_e <| blk_e <| tr_ [0, 1, 2] <| pP (ldr 228 gs h113 (by rw [Wz_size, mx_len]; kernel_rfl)) <| pcs (hPermute_as Z q _) fun V114 j114 => ?_
       have ⟨K118, z119, h115, h116, h117⟩ := j114.z3 K98 h95 h96 h113
       refine pst 228 gs ((Wz (ab Z (q + 1)))) h117 (by rw [Wz_size, ab_len]; kernel_rfl) (by rw [Wz_size, Wz_size, mx_len, ab_len]) (Wz_one _) fun V120 h121 j120 => ?_
       have ⟨K124, z125, h122, h123⟩ := j120.zo2 K118 h115 h116
       refine ps_end <| blk_n <| tr_ [0, 1, 2] <| kk 1 <| pP (cwN (n := (136 * q) + 136)) <| kk 1 <| et_ ?_
       refine ⟨⟨q + 1, fq, by omega, h122, h123, h121, K124⟩, ?_⟩
       exact ltm (136 * nq - 136 * (q + 1)) (136 * nq - 136 * q)
    ·have eq_q : q = nq := by omega
     have h126 : HP V88 gs (Wz (ab Z nq)) 228 := h91.trans (by rw [eq_q])
     refine q_ <| qr_ [0, 1, 2, 3] <| kk 2 <| pP (len_ (some ⟨g, 0, none⟩) n cap underlying214) <| pP (dtF ((((136 * q : Nat) : Int)) < (n : Int))) <| en_ <| sy_exit 2 (by kernel_rfl) <| then_e <| then_e <| blk_e <| tqr_ [0] <| pag 25 (zr_u8_32) fun V127 go ego h128 j127 => ?_
     have := nq3 ego h89 h90 h126
     have n132 := nk ego K92
     have ⟨K136, z137, h133, h134, h135⟩ := j127.z3 K92 h89 h90 h126
     refine eq_ <| qr_ [0] <| kk 1 <| et_ <| bl_ 6 ?_
     refine sy_loop (qc93_0 4084) (fun a V => ∃ (c : Nat), (Fr 82 [(2, pT gr 0), (4, pT gs 0), (7, pT go 0), (8, iN c)] [] a) ∧ (c ≤ 4) ∧ (HP V gr (zr_u8_32) 25) ∧ (HP V g ((B Z ++ rest).toArray) 5) ∧ (HP V gs (Wz (ab Z nq)) 228) ∧ (HP V go ((B (stpB (sqf (ab Z nq)) (8 * c) (List.replicate 32 0))).toArray) 25) ∧ (Keeps Nob w V)) (fun a _ => 4 - (intOf (a.tmps.getD 8 undef)).toNat) (by kernel_rfl) ?_ ?_
     ·exact ⟨0, fq, by omega, h133, h134, h135, h128.trans (by kernel_rfl), K136⟩
     ·rintro a V138 ⟨c, hfr, hc, h139, h140, h141, h142, K143⟩
      obtain ⟨uu144, rfl⟩ := Fr.open hfr
      by_cases lt_c : c < 4
      ·show _
       refine q_ <| qr_ [0, 1] <| kk 1 <| pP (dtT ((c : Int) < ((4) : Int))) <| ey_ <| s_ <| tq_ <| bl_ 7 <| qr_ nl5_ <| kk 1 <| ppq (pT gs c) (exec_cast (v := pT gs (0 + c * 1)) (by simp) (ixa gs 0 .i64 c 1 underlying228 (by omega))) <| ppq (uN (Kec.g (ab Z nq) c)) (lc h141 (Wz_get _ c (by rw [ab_len]; omega)) (k := c)) ?_
       have hgo8 := lt_of_block h142
       refine pcq 171 #[uN (Kec.g (ab Z nq) c)] func171 ((hbytes_ok (Kec.g (ab Z nq) c) _ (ab_ws _ _ _)).mono ?_)
       rintro e V145 ⟨v8, rfl, hrow8, hnew8, j145⟩
       obtain ⟨g8, cap8, rest8, rfl, hg8, hcap8, hmax8⟩ := row_open hrow8 (by omega)
       have hge8 := hnew8 g8 rfl
       have hlt8 := lt_of_block hg8
       refine ⟨_, rfl, ?_⟩
       have ⟨K150, z151, h146, h147, h148, h149⟩ := j145.z4 K143 h139 h140 h141 h142
       refine kk 1 <| eqr_ [0] <| kk 1 <| et_ <| bl_ 8 ?_
       refine sy_loop (qc93_0 522828) (fun a V => ∃ (e : Nat), (Fr 82 [(2, pT gr 0), (4, pT gs 0), (7, pT go 0), (8, iN c), (9, sS g8 8 cap8), (10, iN e)] [] a) ∧ (e ≤ 8) ∧ (HP V gr (zr_u8_32) 25) ∧ (HP V g ((B Z ++ rest).toArray) 5) ∧ (HP V gs (Wz (ab Z nq)) 228) ∧ (HP V go ((B (stpB (sqf (ab Z nq)) (8 * c + e) (List.replicate 32 0))).toArray) 25) ∧ (HP V g8 ((B (Kec.eight (Kec.g (ab Z nq) c)) ++ rest8).toArray) 5) ∧ (Keeps Nob w V)) (fun a _ => 8 - (intOf (a.tmps.getD 10 undef)).toNat) (by kernel_rfl) ?_ ?_
       ·exact ⟨0, fq, by omega, h146, h147, h148, h149, hg8, K150⟩
       ·rintro a V152 ⟨e, hfr, he, h153, h154, h155, h156, h157, K158⟩
        obtain ⟨uu159, rfl⟩ := Fr.open hfr
        by_cases lt_e : e < 8
        ·show _
         refine q_ <| qr_ [0, 1] <| kk 1 <| pP (dtT ((e : Int) < ((8) : Int))) <| ey_ <| s_ <| tq_ <| bl_ 9 <| r_ nl10_ <| kk 1 <| pP (cwN (n := 8 * c)) <| kk 1 <| pP (cwN (n := (8 * c) + e)) <| kk 1 <| kk 1 <| ppq (pT g8 e) (exec_cast (v := pT g8 (0 + e * 1)) (by simp) (ixs g8 0 8 cap8 .i64 e 1 underlying214 (by omega))) <| ppq (cN (((Kec.eight (Kec.g (ab Z nq) c)).getD e 0).toNat)) (lc h157 (rb_get _ _ e (by rw [eight_len]; omega)) (k := e)) <| ppq (pT go ((8 * c) + e)) (exec_cast (v := pT go (0 + ((8 * c) + e) * 1)) (by simp) (ixa go 0 .i64 ((8 * c) + e) 1 underlying25 (by omega))) <| pce 5 go ((8 * c) + e) (cN (((Kec.eight (Kec.g (ab Z nq) c)).getD e 0).toNat)) ((B (stpB (sqf (ab Z nq)) (8 * c + (e + 1)) (List.replicate 32 0))).toArray) h156 (rc h156 (Bz_get _ ((8 * c) + e) (by rw [stpB_len, List.length_replicate]; omega))) (by rw [Bz_set]; exact congrArg (fun l => (B l).toArray) (by rw [sq_get _ _ _ (by omega) (by omega)]; exact (stpB_succ (sqf (ab Z nq)) (8 * c + e) (List.replicate 32 0)).symm)) fun V160 h161 j160 => ?_
         have ⟨K166, z167, h162, h163, h164, h165⟩ := j160.zo4 K158 h153 h154 h155 h157
         refine ps_end <| blk_n <| tr_ [0, 1, 2] <| kk 1 <| pP (cwN (n := e + 1)) <| kk 1 <| et_ ?_
         refine ⟨⟨e + 1, fq, by omega, h162, h163, h164, h161, h165, K166⟩, ?_⟩
         exact ltm (8 - (e + 1)) (8 - e)
        ·have eq_e : e = 8 := by omega
         refine q_ <| qr_ [0, 1] <| kk 1 <| pP (dtF ((e : Int) < ((8) : Int))) <| en_ <| sy_exit 8 (by kernel_rfl) <| then_e <| then_e <| blk_e <| blk_n <| tr_ [0, 1, 2] <| kk 1 <| pP (cwN (n := c + 1)) <| kk 1 <| et_ ?_
         refine ⟨⟨c + 1, fq, by omega, h153, h154, h155, h156.trans (congrArg (fun t => some (Obj.cells (B (stpB (sqf (ab Z nq)) t (List.replicate 32 0))).toArray 25 (0, 0))) (show 8 * c + e = 8 * (c + 1) by omega)), K158⟩, ?_⟩
         exact ltm (4 - (c + 1)) (4 - c)
      ·have eq_c : c = 4 := by omega
       have h168 : HP V138 go ((B (Kec.sum x)).toArray) 25 := h142.trans (congrArg (fun l => some (Obj.cells (B l).toArray 25 (0, 0))) (by subst eq_c; rw [← hZ]; exact sq_all x nq hnq.symm _ (by simp)))
       refine q_ <| qr_ [0, 1] <| kk 1 <| pP (dtF ((c : Int) < ((4) : Int))) <| en_ <| sy_exit 6 (by kernel_rfl) <| then_e <| then_e <| blk_e <| tqr_ [0, 1] <| pP (ldr 25 go h168 (by rw [Bz_size, Kec.sum_len]; kernel_rfl)) <| pst 25 gr (((B (Kec.sum x)).toArray)) h139 (by rw [Bz_size, Kec.sum_len]; kernel_rfl) (by rw [Bz_size, Kec.sum_len]; rfl) (by rw [List.all_toArray]; exact List.all_eq_true.2 (B_one _)) fun V169 h170 j169 => ?_
       have ⟨K174, z175⟩ := j169.zo0 K143
       refine eu_ <| sor 25 gr h170 underlying25 (by rw [Bz_size, Kec.sum_len]; kernel_rfl) ?_
       exact ⟨rfl, K174⟩
def qc94_1 (n : Nat) : Code := partOf f156 n
theorem rvDigest_bad (a : Att) (w : World) (ha : a.Ok) (hf : ¬ a.fine) :
  Calls prog 156 #[.agg (Att.c a)] w (RK w (.tuple #[.agg (B zhash).toArray, iI 3])) := by
 have hr := ha.r
 have hlen := att_len hr
 have K0 := kz0 w
 refine sf_ (qc94_1 1) func156 <| qr_ [0, 1, 2] <| pbg 28 (Att.c a) fun V1 ga ega h2 j1 => ?_
 have n3 := nk ega K0
 have ⟨K4, z5⟩ := j1.z0 K0
 refine pag 25 (zr_u8_32) fun V6 gr egr h7 j6 => ?_
 have := nqk1 egr h2 K4
 have ⟨K11, z12, h10⟩ := j6.z1 K4 h2
 refine kk 1 <| eq_ <| qr_ [0, 1, 2] <| pP (ldz 28 ga h10 (Att.c_size _ hr)) <| pcs (rvCheck_is a _ hr (Att.err_no hf)) fun V13 j13 => ?_
 have ⟨K16, z17, h15⟩ := j13.z1 K11 h7
 refine kk 1 <| eqr_ [0, 1] <| kk 2 <| ey_ <| qr_ [0, 1, 2, 3] <| kk 2 <| pst 25 gr ((B zhash).toArray) h15 (by rw [Bz_size, show (zhash).length = 32 from zhash_len]; kernel_rfl) (by rw [Bz_size, show (zhash).length = 32 from zhash_len]; rfl) (by rw [List.all_toArray]; exact List.all_eq_true.2 (B_one _)) fun V18 h19 j18 => ?_
 have ⟨K21, z22⟩ := j18.zo0 K16
 refine kk 1 <| eu_ <| then_r <| sy_out (.tuple #[.agg ((B zhash).toArray), iI 3]) rfl (rrt 25 gr h19 underlying25 (by rw [Bz_size, zhash_len]; kernel_rfl)) ?_
 exact ⟨rfl, K21⟩
theorem rvDigest_ok (a : Att) (w : World) (ha : a.Ok) (hf : a.fine) :
  Calls prog 156 #[.agg (Att.c a)] w (RK w (.tuple #[.agg (B a.dig).toArray, iI 0])) := by
 have hr := ha.r
 have hlen := att_len hr
 have K0 := kz0 w
 refine sf_ (qc94_1 1) func156 <| qr_ [0, 1, 2] <| pbg 28 (Att.c a) fun V1 ga ega h2 j1 => ?_
 have n3 := nk ega K0
 have ⟨K4, z5⟩ := j1.z0 K0
 refine pag 25 (zr_u8_32) fun V6 gr egr h7 j6 => ?_
 have := nqk1 egr h2 K4
 have ⟨K11, z12, h10⟩ := j6.z1 K4 h2
 refine kk 1 <| eq_ <| qr_ [0, 1, 2] <| pP (ldz 28 ga h10 (Att.c_size _ hr)) <| pcs (rvCheck_is a _ hr (Att.err_ok hf)) fun V13 j13 => ?_
 have ⟨K16, z17, h14, h15⟩ := j13.z2 K11 h10 h7
 refine kk 1 <| eqr_ [0, 1] <| kk 2 <| en_ <| s_ <| tqr_ nl5_ <| pP (ldz 28 ga h14 (Att.c_size _ hr)) ?_
 refine pct ((rbare_ok a _ ha hf).mono ?_)
 rintro e V18 ⟨X, rfl, hX, hnX, j18⟩
 refine ⟨_, rfl, ?_⟩
 have ⟨K21, z22, h20⟩ := j18.z1 K16 h15
 refine pcr 158 #[X] func158 (hSum_ok a.bare _ _ (Row.bytes hX) (by omega)) fun V23 j23 => ?_
 have ⟨K26, z27, h25⟩ := j23.z1 K21 h20
 refine pst 25 gr ((B a.dig).toArray) h25 (by rw [Bz_size, show (a.dig).length = 32 from (Att.dig_len a)]; kernel_rfl) (by rw [Bz_size, show (a.dig).length = 32 from (Att.dig_len a)]; rfl) (by rw [List.all_toArray]; exact List.all_eq_true.2 (B_one _)) fun V28 h29 j28 => ?_
 have ⟨K31, z32⟩ := j28.zo0 K26
 refine kk 1 <| eu_ <| sy_out (.tuple #[.agg ((B a.dig).toArray), iI 0]) rfl (rrt 25 gr h29 underlying25 (by rw [Bz_size, (Att.dig_len a)]; kernel_rfl)) ?_
 exact ⟨rfl, K31⟩
def qc94_0 (n : Nat) : Code := partOf f142 n
theorem rvDigestBlock_bad (a : Pro) (w : World) (ha : a.Ok) (hf : ¬ a.fine) :
  Calls prog 142 #[.agg (Pro.c a)] w (RK w (.tuple #[.agg (B zhash).toArray, iI 3])) := by
 have hr := ha.r
 have hlen := pro_len hr
 have K0 := kz0 w
 refine sf_ (qc94_0 1) func142 <| qr_ [0, 1, 2] <| pbg 37 (Pro.c a) fun V1 ga ega h2 j1 => ?_
 have n3 := nk ega K0
 have ⟨K4, z5⟩ := j1.z0 K0
 refine pag 25 (zr_u8_32) fun V6 gr egr h7 j6 => ?_
 have := nqk1 egr h2 K4
 have ⟨K11, z12, h10⟩ := j6.z1 K4 h2
 refine kk 1 <| eq_ <| qr_ [0, 1, 2] <| pP (ldz 37 ga h10 (Pro.c_size _ hr)) <| pcs (rvCheckBlock_is a _ hr (Pro.err_no hf)) fun V13 j13 => ?_
 have ⟨K16, z17, h15⟩ := j13.z1 K11 h7
 refine kk 1 <| eqr_ [0, 1] <| kk 2 <| ey_ <| qr_ [0, 1, 2, 3] <| kk 2 <| pst 25 gr ((B zhash).toArray) h15 (by rw [Bz_size, show (zhash).length = 32 from zhash_len]; kernel_rfl) (by rw [Bz_size, show (zhash).length = 32 from zhash_len]; rfl) (by rw [List.all_toArray]; exact List.all_eq_true.2 (B_one _)) fun V18 h19 j18 => ?_
 have ⟨K21, z22⟩ := j18.zo0 K16
 refine kk 1 <| eu_ <| then_r <| sy_out (.tuple #[.agg ((B zhash).toArray), iI 3]) rfl (rrt 25 gr h19 underlying25 (by rw [Bz_size, zhash_len]; kernel_rfl)) ?_
 exact ⟨rfl, K21⟩
theorem rvDigestBlock_ok (a : Pro) (w : World) (ha : a.Ok) (hf : a.fine) :
  Calls prog 142 #[.agg (Pro.c a)] w (RK w (.tuple #[.agg (B a.dig).toArray, iI 0])) := by
 have hr := ha.r
 have hlen := pro_len hr
 have K0 := kz0 w
 refine sf_ (qc94_0 1) func142 <| qr_ [0, 1, 2] <| pbg 37 (Pro.c a) fun V1 ga ega h2 j1 => ?_
 have n3 := nk ega K0
 have ⟨K4, z5⟩ := j1.z0 K0
 refine pag 25 (zr_u8_32) fun V6 gr egr h7 j6 => ?_
 have := nqk1 egr h2 K4
 have ⟨K11, z12, h10⟩ := j6.z1 K4 h2
 refine kk 1 <| eq_ <| qr_ [0, 1, 2] <| pP (ldz 37 ga h10 (Pro.c_size _ hr)) <| pcs (rvCheckBlock_is a _ hr (Pro.err_ok hf)) fun V13 j13 => ?_
 have ⟨K16, z17, h14, h15⟩ := j13.z2 K11 h10 h7
 refine kk 1 <| eqr_ [0, 1] <| kk 2 <| en_ <| s_ <| tqr_ nl5_ <| pP (ldz 37 ga h14 (Pro.c_size _ hr)) ?_
 refine pct ((rbareBlock_ok a _ ha hf).mono ?_)
 rintro e V18 ⟨X, rfl, hX, hnX, j18⟩
 refine ⟨_, rfl, ?_⟩
 have ⟨K21, z22, h20⟩ := j18.z1 K16 h15
 refine pcr 158 #[X] func158 (hSum_ok a.bare _ _ (Row.bytes hX) (by omega)) fun V23 j23 => ?_
 have ⟨K26, z27, h25⟩ := j23.z1 K21 h20
 refine pst 25 gr ((B a.dig).toArray) h25 (by rw [Bz_size, show (a.dig).length = 32 from (Pro.dig_len a)]; kernel_rfl) (by rw [Bz_size, show (a.dig).length = 32 from (Pro.dig_len a)]; rfl) (by rw [List.all_toArray]; exact List.all_eq_true.2 (B_one _)) fun V28 h29 j28 => ?_
 have ⟨K31, z32⟩ := j28.zo0 K26
 refine kk 1 <| eu_ <| sy_out (.tuple #[.agg ((B a.dig).toArray), iI 0]) rfl (rrt 25 gr h29 underlying25 (by rw [Bz_size, (Pro.dig_len a)]; kernel_rfl)) ?_
 exact ⟨rfl, K31⟩
theorem rvDigest_any (a : Att) (w : World) (ha : a.Ok) : Calls prog 156 #[.agg (Att.c a)] w (RK w (.tuple #[.agg (B a.dg).toArray, iI a.err])) := by
 by_cases hf : a.fine
 ·rw [Att.err_ok hf, Att.dg, if_pos hf]; exact rvDigest_ok a w ha hf
 ·rw [Att.err_no hf, Att.dg, if_neg hf]; exact rvDigest_bad a w ha hf
theorem rvDigestBlock_any (a : Pro) (w : World) (ha : a.Ok) : Calls prog 142 #[.agg (Pro.c a)] w (RK w (.tuple #[.agg (B a.dg).toArray, iI a.err])) := by
 by_cases hf : a.fine
 ·rw [Pro.err_ok hf, Pro.dg, if_pos hf]; exact rvDigestBlock_ok a w ha hf
 ·rw [Pro.err_no hf, Pro.dg, if_neg hf]; exact rvDigestBlock_bad a w ha hf
def qc95_0 (n : Nat) : Code := partOf f109 n
theorem rvDoublesBlock_ok (a b : Pro) (w : World) (ha : a.Ok) (hb : b.Ok) :
  Calls prog 109 #[.agg (Pro.c a), .agg (Pro.c b)] w (RK w (.bool (doubP a b))) := by
 have hr := ha.r
 have hs := hb.r
 have K0 := kz0 w
 refine sf_ (qc95_0 1) func109 <| qr_ [0, 1, 2] <| pbg 37 (Pro.c a) fun V1 ga ega h2 j1 => ?_
 have n3 := nk ega K0
 have ⟨K4, z5⟩ := j1.z0 K0
 refine pbg 37 (Pro.c b) fun V6 gb egb h7 j6 => ?_
 have := nqk1 egb h2 K4
 have ⟨K11, z12, h10⟩ := j6.z1 K4 h2
 refine kk 1 <| eqr_ nl8_ <| pP (ldz 37 ga h10 (Pro.c_size _ hr)) <| pcs (rvDigestBlock_any a _ ha) fun V13 j13 => ?_
 have ⟨K16, z17, h14, h15⟩ := j13.z2 K11 h10 h7
 refine kk 3 <| pag 25 (zr_u8_32) fun V18 gx egx h19 j18 => ?_
 have := nqk2 egx h14 h15 K16
 have ⟨K25, z26, h23, h24⟩ := j18.z2 K16 h14 h15
 refine pst 25 gx ((B a.dg).toArray) h19 (by rw [Bz_size, Pro.dg_len]; kernel_rfl) (by rw [Bz_size, Pro.dg_len]; rfl) (by rw [List.all_toArray]; exact List.all_eq_true.2 (B_one _)) fun V27 h28 j27 => ?_
 have ⟨K31, z32, h29, h30⟩ := j27.zo2 K25 h23 h24
 refine kk 1 <| eqr_ nl8_ <| pP (ldz 37 gb h30 (Pro.c_size _ hs)) <| pcs (rvDigestBlock_any b _ hb) fun V33 j33 => ?_
 have ⟨K37, z38, h34, h35, h36⟩ := j33.z3 K31 h29 h30 h28
 refine kk 3 <| pag 25 (zr_u8_32) fun V39 gy egy h40 j39 => ?_
 have := nq3 egy h34 h35 h36
 have n44 := nk egy K37
 have ⟨K48, z49, h45, h46, h47⟩ := j39.z3 K37 h34 h35 h36
 refine pst 25 gy ((B b.dg).toArray) h40 (by rw [Bz_size, Pro.dg_len]; kernel_rfl) (by rw [Bz_size, Pro.dg_len]; rfl) (by rw [List.all_toArray]; exact List.all_eq_true.2 (B_one _)) fun V50 h51 j50 => ?_
 have ⟨K55, z56, h52, h53, h54⟩ := j50.zo3 K48 h45 h46 h47
 refine kk 1 <| eqr_ nl26_ <| kk 1 ?_
 by_cases c0 : a.fine
 ·have e0 := Pro.err_ok c0
  refine pP (eqT ((a.err) : Int) ((0) : Int)) <| kk 2 ?_
  by_cases c1 : b.fine
  ·have e1 := Pro.err_ok c1
   refine pP (eqT ((b.err) : Int) ((0) : Int)) <| kk 3 <| pP (lc h52 (Pro.c_0 _)) <| kk 1 <| pP (lc h53 (Pro.c_0 _)) ?_
   by_cases c2 : a.v = b.v
   ·have e2 := c2
    refine pP (eqT ((a.v) : Int) ((b.v) : Int)) <| kk 3 <| pP (lc h52 (Pro.c_1 _)) <| kk 1 <| pP (lc h53 (Pro.c_1 _)) ?_
    by_cases c3 : a.h = b.h
    ·have e3 := c3
     refine pP (eqT ((a.h) : Int) ((b.h) : Int)) <| kk 2 <| pP (ldr 25 gx h54 (by rw [Bz_size, (Pro.dg_len a)]; kernel_rfl)) <| pP (ldr 25 gy h51 (by rw [Bz_size, (Pro.dg_len b)]; kernel_rfl)) <| ppq (.bool (!(a.dg == b.dg))) (exec_binop .neq 25 25 (.tmp 40) (.tmp 41) (by kernel_rfl) (.agg (B a.dg).toArray) (.agg (B b.dg).toArray) _ (by kernel_rfl) (by kernel_rfl) (run_eqGuard_agg _ _ _ _ _ _ _ hash_guard) (hash_ne _ _ (Pro.dg_len a) (Pro.dg_len b) _)) <| kk 2 <| ps_end <| then_n <| u_ <| so_ (.bool (!(a.dg == b.dg))) ?_
     exact ⟨by rw [ne_dec, Pro.dg, Pro.dg, if_pos c0, if_pos c1]; unfold doubP; simp [c0, c1, c2, c3], K55⟩
    ·have e3 := c3
     refine pP (eqF ((a.h) : Int) ((b.h) : Int)) <| kk 7 <| ps_end <| then_n <| u_ <| so_ (.bool false) ?_
     exact ⟨by unfold doubP; simp [c0, c1, c2, c3], K55⟩
   ·have e2 := c2
    refine pP (eqF ((a.v) : Int) ((b.v) : Int)) <| kk 13 <| kk 1 <| ps_end <| then_n <| u_ <| so_ (.bool false) ?_
    exact ⟨by unfold doubP; simp [c0, c1, c2], K55⟩
  ·have e1 := Pro.err_no c1
   refine pP (eqF ((b.err) : Int) ((0) : Int)) <| kk 13 <| kk 8 <| ps_end <| then_n <| u_ <| so_ (.bool false) ?_
   exact ⟨by unfold doubP; simp [c0, c1], K55⟩
 ·have e0 := Pro.err_no c0
  refine pP (eqF ((a.err) : Int) ((0) : Int)) <| kk 13 <| kk 11 <| ps_end <| then_n <| u_ <| so_ (.bool false) ?_
  exact ⟨by unfold doubP; simp [c0], K55⟩
def qc96_0 (n : Nat) : Code := partOf f85 n
theorem dsame_ok (a b : Att) (w : World) (ha : a.Ok) (hb : b.Ok) :
  Calls prog 85 #[.agg (Att.c a), .agg (Att.c b)] w (RK w (.bool (a.dg == b.dg))) := by
 have hr_a := ha.r
 have hr_b := hb.r
 have K0 := kz0 w
 refine sf_ (qc96_0 1) func85 <| qr_ [0, 1, 2] <| pbg 28 (Att.c a) fun V1 ga ega h2 j1 => ?_
 have n3 := nk ega K0
 have ⟨K4, z5⟩ := j1.z0 K0
 refine pbg 28 (Att.c b) fun V6 gb egb h7 j6 => ?_
 have := nqk1 egb h2 K4
 have ⟨K11, z12, h10⟩ := j6.z1 K4 h2
 refine kk 1 <| eqr_ nl8_ <| pP (ldz 28 ga h10 (Att.c_size _ hr_a)) <| pcs (vDigest_any a _ ha) fun V13 j13 => ?_
 have ⟨K16, z17, h14, h15⟩ := j13.z2 K11 h10 h7
 refine kk 3 <| pag 25 (zr_u8_32) fun V18 gx egx h19 j18 => ?_
 have := nqk2 egx h14 h15 K16
 have ⟨K25, z26, h23, h24⟩ := j18.z2 K16 h14 h15
 refine pst 25 gx ((B a.dg).toArray) h19 (by rw [Bz_size, Att.dg_len]; kernel_rfl) (by rw [Bz_size, Att.dg_len]; rfl) (by rw [List.all_toArray]; exact List.all_eq_true.2 (B_one _)) fun V27 h28 j27 => ?_
 have ⟨K31, z32, h29, h30⟩ := j27.zo2 K25 h23 h24
 refine kk 1 <| eqr_ nl8_ <| pP (ldz 28 gb h30 (Att.c_size _ hr_b)) <| pcs (vDigest_any b _ hb) fun V33 j33 => ?_
 have ⟨K37, z38, h34, h35, h36⟩ := j33.z3 K31 h29 h30 h28
 refine kk 3 <| pag 25 (zr_u8_32) fun V39 gy egy h40 j39 => ?_
 have := nq3 egy h34 h35 h36
 have n44 := nk egy K37
 have ⟨K48, z49, h47⟩ := j39.z1 K37 h36
 refine pst 25 gy ((B b.dg).toArray) h40 (by rw [Bz_size, Att.dg_len]; kernel_rfl) (by rw [Bz_size, Att.dg_len]; rfl) (by rw [List.all_toArray]; exact List.all_eq_true.2 (B_one _)) fun V50 h51 j50 => ?_
 have ⟨K55, z56, h54⟩ := j50.zo1 K48 h47
 refine kk 1 <| eqr_ [0, 1, 2, 3] <| pP (ldr 25 gx h54 (by rw [Bz_size, (Att.dg_len a)]; kernel_rfl)) <| pP (ldr 25 gy h51 (by rw [Bz_size, (Att.dg_len b)]; kernel_rfl)) <| ppq (.bool (a.dg == b.dg)) (exec_binop .eql 25 25 (.tmp 19) (.tmp 20) (by kernel_rfl) (.agg (B a.dg).toArray) (.agg (B b.dg).toArray) _ (by kernel_rfl) (by kernel_rfl) (run_eqGuard_agg _ _ _ _ _ _ _ hash_guard) (hash_eq _ _ (Att.dg_len a) (Att.dg_len b) _)) <| kk 1 <| eu_ <| so_ (.bool (a.dg == b.dg)) ?_
 exact ⟨rfl, K55⟩
theorem qAt_is {r : Nat} {v i : Int} {A : RD Att} {B : RD Pro} {w : World} (H : RecAt w r v A B) {o : Option Att} (ho : A.V i = o) : Calls prog 84 #[pT r 0, iI i] w (RK w (.tuple #[.agg (Att.c (o.getD zAtt)), .bool o.isSome])) := ho ▸ qAt_ok r v A B i w H
theorem zAtt_r : zAtt.r.length = 32 := by kernel_rfl
def qc97_0 (n : Nat) : Code := partOf f83 n
theorem djudge1_no (gp ga gd d q sp r : Nat) (a : Att) (hr_a : a.r.length = 32) (p : Par) (hp : p.Ok) (h : Int) (P : Nat → Option Nat) (v : Int) (A : RD Att) (B : RD Pro) (w : World) (hgp : HP w gp #[pT q 0] 76) (hq : HP w q #[pT sp 0, pT r 0] 85) (hga : HP w ga (Att.c a) 28) (hgd : HP w gd #[pT d 0] 22) (hd : HP w d (detC p h P) 79) (hR : RecAt w r v A B) (hV : A.V a.t = none) :
  Calls prog 83 #[pT gp 0, pT ga 0, pT gd 0] w (RK w (.tuple #[.agg (vdC 0 attZ proZ 0), .bool false])) := by
 have K0 := kz0 w
 refine sf_ (qc97_0 1) func83 <| qr_ [0, 1] <| pag 57 (zl0_) fun V1 res eres h2 j1 => ?_
 have := nq3 eres hgp hq hga
 have := nqk2 eres hgd hd K0
 have ⟨K14, z15, h9, h10, h11, h12⟩ := j1.z4 K0 hgp hq hga hgd
 have h13 := j1.bk hd
 refine kk 1 <| eq_ <| anp 13 (fun W => (HP W gp (#[pT q 0]) 76) ∧ (HP W q (#[pT sp 0, pT r 0]) 85) ∧ (HP W ga (Att.c a) 28)) fun V16 j16 => ?_
 have ⟨K23, z24, h17, h18, h19, h20⟩ := j16.z4 K14 h9 h10 h11 h12
 have ⟨h21, h22⟩ := j16.k2 h13 h2
 refine aV 0 _ (fun W hS => lk hS.1) <| kA [1, 2] <| aV 3 _ (fun W hS => lk hS.2.1) <| kA [4] <| avq 5 _ (fun W hS => lc hS.2.2 (Att.c_2 _)) ⟨h17, h18, h19⟩ ?_
 refine an_two 6 10 (by kernel_rfl) ?_ ?_
 ·refine ncs (qAt_is (hR.keepsN K23) hV) fun V25 j25 => ?_
  have ⟨K32, z33, h26, h27, h28, h29⟩ := j25.z4 K23 h17 h18 h19 h20
  have ⟨h30, h31⟩ := j25.k2 h21 h22
  refine ⟨⟨h26, h27, h28⟩, ?_⟩
  refine kA [7, 8, 9] <| an_o 10 <| nal 28 (zl1_) (.agg (zl1_)) fun V34 gb egb h35 j34 => ?_
  have := nq3 egb h26 h27 h28
  have := nq3 egb h29 h30 h31
  have n42 := nk egb K32
  have ⟨K49, z50, h43, h44, h45, h48⟩ := j34.z4 K32 h26 h27 h28 h31
  refine ⟨⟨h43, h44, h45⟩, ?_⟩
  refine an_o 11 ?_
  obtain ⟨V51, eV51, j51⟩ := rowset_step V34 gb ((Att.c zAtt))
  refine nzq (w' := V51) (by rw [← eV51]; exact exec_store_row 28 (.tmp 5) (.tmp 15) (by kernel_rfl) gb ((Att.c zAtt)) (by kernel_rfl) (by kernel_rfl) 28 (zl1_) h35 (by rw [Att.c_size _ zAtt_r]; kernel_rfl) (by rw [Att.c_size _ zAtt_r]; rfl) (Att.c_one _)) ?_
  clear eV51
  have ⟨K59, z60, h53, h54, h55, h58⟩ := j51.zo4 K49 h43 h44 h45 h48
  refine ⟨⟨h53, h54, h55⟩, ?_⟩
  refine ako 12 ?_
  refine ane <| tq_ <| bl_ 0 <| qr_ [0, 1, 2] <| kk 3 <| ey_ <| qr_ [0, 1, 2] <| kk 1 <| pst 57 res (zl0_) h58 (by kernel_rfl) rfl (by kernel_rfl) fun V61 h62 j61 => ?_
  have ⟨K69, z70⟩ := j61.zo0 K59
  refine kk 1 <| eu_ <| blk_r <| then_r <| sy_out (.tuple #[.agg (zl0_), .bool false]) rfl (rrt 57 res h62 underlying57 (by kernel_rfl)) ?_
  exact ⟨by kernel_rfl, K69⟩
 ·refine nal 28 (zl1_) (.agg (zl1_)) fun V71 gb egb h72 j71 => ?_
  have := nq3 egb h17 h18 h19
  have := nq3 egb h20 h21 h22
  have n79 := nk egb K23
  have ⟨K86, z87, h80, h81, h82, h85⟩ := j71.z4 K23 h17 h18 h19 h22
  refine ⟨⟨h80, h81, h82⟩, ?_⟩
  refine an_o 6 <| ncs (qAt_is (hR.keepsN K86) hV) fun V88 j88 => ?_
  have ⟨K96, z97, h89, h90, h91, h94⟩ := j88.z4 K86 h80 h81 h82 h85
  have h95 := j88.bk h72
  refine ⟨⟨h89, h90, h91⟩, ?_⟩
  refine kA [7, 8, 9] <| an_o 11 ?_
  obtain ⟨V98, eV98, j98⟩ := rowset_step V88 gb ((Att.c zAtt))
  refine nzq (w' := V98) (by rw [← eV98]; exact exec_store_row 28 (.tmp 5) (.tmp 15) (by kernel_rfl) gb ((Att.c zAtt)) (by kernel_rfl) (by kernel_rfl) 28 (zl1_) h95 (by rw [Att.c_size _ zAtt_r]; kernel_rfl) (by rw [Att.c_size _ zAtt_r]; rfl) (Att.c_one _)) ?_
  clear eV98
  have ⟨K106, z107, h100, h101, h102, h105⟩ := j98.zo4 K96 h89 h90 h91 h94
  refine ⟨⟨h100, h101, h102⟩, ?_⟩
  refine ako 12 ?_
  refine ane <| tq_ <| bl_ 0 <| qr_ [0, 1, 2] <| kk 3 <| ey_ <| qr_ [0, 1, 2] <| kk 1 <| pst 57 res (zl0_) h105 (by kernel_rfl) rfl (by kernel_rfl) fun V108 h109 j108 => ?_
  have ⟨K116, z117⟩ := j108.zo0 K106
  refine kk 1 <| eu_ <| blk_r <| then_r <| sy_out (.tuple #[.agg (zl0_), .bool false]) rfl (rrt 57 res h109 underlying57 (by kernel_rfl)) ?_
  exact ⟨by kernel_rfl, K116⟩
theorem dsame_is (a b : Att) {r : Bool} (w : World) (ha : a.Ok) (hb : b.Ok) (h : (a.dg == b.dg) = r) : Calls prog 85 #[.agg (Att.c a), .agg (Att.c b)] w (RK w (.bool r)) := by
 subst h; exact dsame_ok a b w ha hb
theorem vdC_one {k f : Int} (b : Att) : (vdC k b.cl proZ f).all (·.oneCell') = true := by
 have h := Att.c_one b
 unfold vdC
 rw [List.all_toArray, List.all_cons, List.all_append, List.all_append]
 have h2 : b.cl.all (·.oneCell') = true := by rw [← Array.all_toList] at h; exact h
 rw [h2]; rfl
theorem djudge1_same (gp ga gd d q sp r : Nat) (a : Att) (hr_a : a.r.length = 32) (p : Par) (hp : p.Ok) (h : Int) (P : Nat → Option Nat) (v : Int) (A : RD Att) (B : RD Pro) (w : World) (hgp : HP w gp #[pT q 0] 76) (hq : HP w q #[pT sp 0, pT r 0] 85) (hga : HP w ga (Att.c a) 28) (hgd : HP w gd #[pT d 0] 22) (hd : HP w d (detC p h P) 79) (hR : RecAt w r v A B) (b : Att) (hV : A.V a.t = some b) (ha : a.Ok) (hb : b.Ok) (hr_b : b.r.length = 32) (hs : (a.dg == b.dg) = true) :
  Calls prog 83 #[pT gp 0, pT ga 0, pT gd 0] w (RK w (.tuple #[.agg (vdC 1 b.cl proZ 0), .bool true])) := by
 have K0 := kz0 w
 refine sf_ (qc97_0 1) func83 <| qr_ [0, 1] <| pag 57 (zl0_) fun V1 res eres h2 j1 => ?_
 have := nq3 eres hgp hq hga
 have := nqk2 eres hgd hd K0
 have ⟨K14, z15, h9, h10, h11, h12⟩ := j1.z4 K0 hgp hq hga hgd
 have h13 := j1.bk hd
 refine kk 1 <| eq_ <| anp 13 (fun W => (HP W gp (#[pT q 0]) 76) ∧ (HP W q (#[pT sp 0, pT r 0]) 85) ∧ (HP W ga (Att.c a) 28)) fun V16 j16 => ?_
 have ⟨K23, z24, h17, h18, h19, h20⟩ := j16.z4 K14 h9 h10 h11 h12
 have ⟨h21, h22⟩ := j16.k2 h13 h2
 refine aV 0 _ (fun W hS => lk hS.1) <| kA [1, 2] <| aV 3 _ (fun W hS => lk hS.2.1) <| kA [4] <| avq 5 _ (fun W hS => lc hS.2.2 (Att.c_2 _)) ⟨h17, h18, h19⟩ ?_
 refine an_two 6 10 (by kernel_rfl) ?_ ?_
 ·refine ncs (qAt_is (hR.keepsN K23) hV) fun V25 j25 => ?_
  have ⟨K32, z33, h26, h27, h28, h29⟩ := j25.z4 K23 h17 h18 h19 h20
  have ⟨h30, h31⟩ := j25.k2 h21 h22
  refine ⟨⟨h26, h27, h28⟩, ?_⟩
  refine kA [7, 8, 9] <| an_o 10 <| nal 28 (zl1_) (.agg (zl1_)) fun V34 gb egb h35 j34 => ?_
  have := nq3 egb h26 h27 h28
  have := nq3 egb h29 h30 h31
  have n42 := nk egb K32
  have ⟨K49, z50, h43, h44, h45, h46⟩ := j34.z4 K32 h26 h27 h28 h29
  have ⟨h47, h48⟩ := j34.k2 h30 h31
  refine ⟨⟨h43, h44, h45⟩, ?_⟩
  refine an_o 11 <| nst 28 gb ((Att.c b)) h35 (by rw [Att.c_size _ hr_b]; kernel_rfl) (by rw [Att.c_size _ hr_b]; rfl) (Att.c_one _) fun V51 h52 j51 => ?_
  have ⟨K59, z60, h53, h54, h55, h56⟩ := j51.zo4 K49 h43 h44 h45 h46
  have ⟨h57, h58⟩ := j51.ko2 h47 h48
  refine ⟨⟨h53, h54, h55⟩, ?_⟩
  refine ako 12 ?_
  refine ane <| tq_ <| bl_ 0 <| qr_ [0, 1, 2] <| kk 3 <| en_ <| qr_ [0, 1, 2, 3] <| pP (ldz 28 ga h55 (Att.c_size _ hr_a)) <| pP (ldz 28 gb h52 (Att.c_size _ hr_b)) <| pcs (dsame_is a b _ ha hb hs) fun V61 j61 => ?_
  have ⟨K69, z70, h62, h63, h64, h65⟩ := j61.z4 K59 h53 h54 h55 h56
  have ⟨h66, h67, h68⟩ := j61.k3 h57 h58 h52
  refine kk 1 <| ey_ <| qr_ nl6_ <| pP (ldz 28 gb h68 (Att.c_size _ hr_b)) ?_
  refine pct ((dby_ok b _).mono ?_)
  rintro e V71 ⟨gy, rfl, hgyV71, nyV71, j71⟩
  refine ⟨_, rfl, ?_⟩
  have ⟨K79, z80, h72, h73, h74, h75⟩ := j71.z4 K69 h62 h63 h64 h65
  have ⟨h76, h77, h78⟩ := j71.k3 h66 h67 h68
  refine pbs 144 (#[.func (.func 120) #[] #[pT gy 0]]) 1 fun V81 go1 ego1 h82 j81 => ?_
  have := nq3 ego1 h72 h73 h74
  have := nq3 ego1 h75 h76 h77
  have := nqk2 ego1 h78 hgyV71 K79
  have ⟨K100, z101, h97, h99⟩ := j81.z2 K79 h77 hgyV71
  refine pcs (dverdict_one 1 120 (pT gy 0) b.cl proZ 0 (Att.tl hr_b) proZ_len (vdC_one b) go1 _ h82 (enters_of func120 (by kernel_rfl) rfl) (fun bv W hbv k hb => dby1_ok bv gy 1 0 attZ proZ attZ_len proZ_len b hr_b (by have := lt_of_block h99; omega) W (k.bk h99) hb)) fun V102 j102 => ?_
  have ⟨K112, z113, h108⟩ := j102.z1 K100 h97
  refine pst 57 res ((vdC 1 b.cl proZ 0)) h108 (by rw [vdC_size (Att.tl hr_b) proZ_len]; kernel_rfl) (by rw [vdC_size (Att.tl hr_b) proZ_len]; rfl) (vdC_one b) fun V114 h115 j114 => ?_
  have ⟨K124, z125⟩ := j114.zo0 K112
  refine kk 1 <| ps_end <| then_n <| u_ <| blk_r <| then_r <| sy_out (.tuple #[.agg (vdC 1 b.cl proZ 0), .bool true]) rfl (rrt 57 res h115 underlying57 (by rw [vdC_size (Att.tl hr_b) proZ_len]; kernel_rfl)) ?_
  exact ⟨rfl, K124⟩
 ·refine nal 28 (zl1_) (.agg (zl1_)) fun V126 gb egb h127 j126 => ?_
  have := nq3 egb h17 h18 h19
  have := nq3 egb h20 h21 h22
  have n134 := nk egb K23
  have ⟨K141, z142, h135, h136, h137, h138⟩ := j126.z4 K23 h17 h18 h19 h20
  have ⟨h139, h140⟩ := j126.k2 h21 h22
  refine ⟨⟨h135, h136, h137⟩, ?_⟩
  refine an_o 6 <| ncs (qAt_is (hR.keepsN K141) hV) fun V143 j143 => ?_
  have ⟨K151, z152, h144, h145, h146, h147⟩ := j143.z4 K141 h135 h136 h137 h138
  have ⟨h148, h149, h150⟩ := j143.k3 h139 h140 h127
  refine ⟨⟨h144, h145, h146⟩, ?_⟩
  refine kA [7, 8, 9] <| an_o 11 <| nst 28 gb ((Att.c b)) h150 (by rw [Att.c_size _ hr_b]; kernel_rfl) (by rw [Att.c_size _ hr_b]; rfl) (Att.c_one _) fun V153 h154 j153 => ?_
  have ⟨K161, z162, h155, h156, h157, h158⟩ := j153.zo4 K151 h144 h145 h146 h147
  have ⟨h159, h160⟩ := j153.ko2 h148 h149
  refine ⟨⟨h155, h156, h157⟩, ?_⟩
  refine ako 12 ?_
  refine ane <| tq_ <| bl_ 0 <| qr_ [0, 1, 2] <| kk 3 <| en_ <| qr_ [0, 1, 2, 3] <| pP (ldz 28 ga h157 (Att.c_size _ hr_a)) <| pP (ldz 28 gb h154 (Att.c_size _ hr_b)) <| pcs (dsame_is a b _ ha hb hs) fun V163 j163 => ?_
  have ⟨K171, z172, h164, h165, h166, h167⟩ := j163.z4 K161 h155 h156 h157 h158
  have ⟨h168, h169, h170⟩ := j163.k3 h159 h160 h154
  refine kk 1 <| ey_ <| qr_ nl6_ <| pP (ldz 28 gb h170 (Att.c_size _ hr_b)) ?_
  refine pct ((dby_ok b _).mono ?_)
  rintro e V173 ⟨gy, rfl, hgyV173, nyV173, j173⟩
  refine ⟨_, rfl, ?_⟩
  have ⟨K181, z182, h174, h175, h176, h177⟩ := j173.z4 K171 h164 h165 h166 h167
  have ⟨h178, h179, h180⟩ := j173.k3 h168 h169 h170
  refine pbs 144 (#[.func (.func 120) #[] #[pT gy 0]]) 1 fun V183 go1 ego1 h184 j183 => ?_
  have := nq3 ego1 h174 h175 h176
  have := nq3 ego1 h177 h178 h179
  have := nqk2 ego1 h180 hgyV173 K181
  have ⟨K202, z203, h199, h201⟩ := j183.z2 K181 h179 hgyV173
  refine pcs (dverdict_one 1 120 (pT gy 0) b.cl proZ 0 (Att.tl hr_b) proZ_len (vdC_one b) go1 _ h184 (enters_of func120 (by kernel_rfl) rfl) (fun bv W hbv k hb => dby1_ok bv gy 1 0 attZ proZ attZ_len proZ_len b hr_b (by have := lt_of_block h201; omega) W (k.bk h201) hb)) fun V204 j204 => ?_
  have ⟨K214, z215, h210⟩ := j204.z1 K202 h199
  refine pst 57 res ((vdC 1 b.cl proZ 0)) h210 (by rw [vdC_size (Att.tl hr_b) proZ_len]; kernel_rfl) (by rw [vdC_size (Att.tl hr_b) proZ_len]; rfl) (vdC_one b) fun V216 h217 j216 => ?_
  have ⟨K226, z227⟩ := j216.zo0 K214
  refine kk 1 <| ps_end <| then_n <| u_ <| blk_r <| then_r <| sy_out (.tuple #[.agg (vdC 1 b.cl proZ 0), .bool true]) rfl (rrt 57 res h217 underlying57 (by rw [vdC_size (Att.tl hr_b) proZ_len]; kernel_rfl)) ?_
  exact ⟨rfl, K226⟩
theorem djudge1_other (gp ga gd d q sp r : Nat) (a : Att) (hr_a : a.r.length = 32) (p : Par) (hp : p.Ok) (h : Int) (P : Nat → Option Nat) (v : Int) (A : RD Att) (B : RD Pro) (w : World) (hgp : HP w gp #[pT q 0] 76) (hq : HP w q #[pT sp 0, pT r 0] 85) (hga : HP w ga (Att.c a) 28) (hgd : HP w gd #[pT d 0] 22) (hd : HP w d (detC p h P) 79) (hR : RecAt w r v A B) (b : Att) (hV : A.V a.t = some b) (ha : a.Ok) (hb : b.Ok) (hr_b : b.r.length = 32) (hs : (a.dg == b.dg) = false) (hmx : i64ok (max 0 a.t)) :
  Calls prog 83 #[pT gp 0, pT ga 0, pT gd 0] w (RK w (.tuple #[.agg (vdC 2 b.cl proZ (p.first (max 0 a.t)).1), .bool true])) := by
 have K0 := kz0 w
 refine sf_ (qc97_0 1) func83 <| qr_ [0, 1] <| pag 57 (zl0_) fun V1 res eres h2 j1 => ?_
 have := nq3 eres hgp hq hga
 have := nqk2 eres hgd hd K0
 have ⟨K14, z15, h9, h10, h11, h12⟩ := j1.z4 K0 hgp hq hga hgd
 have h13 := j1.bk hd
 refine kk 1 <| eq_ <| anp 13 (fun W => (HP W gp (#[pT q 0]) 76) ∧ (HP W q (#[pT sp 0, pT r 0]) 85) ∧ (HP W ga (Att.c a) 28)) fun V16 j16 => ?_
 have ⟨K23, z24, h17, h18, h19, h20⟩ := j16.z4 K14 h9 h10 h11 h12
 have ⟨h21, h22⟩ := j16.k2 h13 h2
 refine aV 0 _ (fun W hS => lk hS.1) <| kA [1, 2] <| aV 3 _ (fun W hS => lk hS.2.1) <| kA [4] <| avq 5 _ (fun W hS => lc hS.2.2 (Att.c_2 _)) ⟨h17, h18, h19⟩ ?_
 refine an_two 6 10 (by kernel_rfl) ?_ ?_
 ·refine ncs (qAt_is (hR.keepsN K23) hV) fun V25 j25 => ?_
  have ⟨K32, z33, h26, h27, h28, h29⟩ := j25.z4 K23 h17 h18 h19 h20
  have ⟨h30, h31⟩ := j25.k2 h21 h22
  refine ⟨⟨h26, h27, h28⟩, ?_⟩
  refine kA [7, 8, 9] <| an_o 10 <| nal 28 (zl1_) (.agg (zl1_)) fun V34 gb egb h35 j34 => ?_
  have := nq3 egb h26 h27 h28
  have := nq3 egb h29 h30 h31
  have n42 := nk egb K32
  have ⟨K49, z50, h43, h44, h45, h46⟩ := j34.z4 K32 h26 h27 h28 h29
  have ⟨h47, h48⟩ := j34.k2 h30 h31
  refine ⟨⟨h43, h44, h45⟩, ?_⟩
  refine an_o 11 <| nst 28 gb ((Att.c b)) h35 (by rw [Att.c_size _ hr_b]; kernel_rfl) (by rw [Att.c_size _ hr_b]; rfl) (Att.c_one _) fun V51 h52 j51 => ?_
  have ⟨K59, z60, h53, h54, h55, h56⟩ := j51.zo4 K49 h43 h44 h45 h46
  have ⟨h57, h58⟩ := j51.ko2 h47 h48
  refine ⟨⟨h53, h54, h55⟩, ?_⟩
  refine ako 12 ?_
  refine ane <| tq_ <| bl_ 0 <| qr_ [0, 1, 2] <| kk 3 <| en_ <| qr_ [0, 1, 2, 3] <| pP (ldz 28 ga h55 (Att.c_size _ hr_a)) <| pP (ldz 28 gb h52 (Att.c_size _ hr_b)) <| pcs (dsame_is a b _ ha hb hs) fun V61 j61 => ?_
  have ⟨K69, z70, h62, h63, h64, h65⟩ := j61.z4 K59 h53 h54 h55 h56
  have ⟨h66, h67, h68⟩ := j61.k3 h57 h58 h52
  refine kk 1 <| en_ <| s_ <| blk_n <| tq_ <| anp 11 (fun W => (HP W gb (Att.c b) 28) ∧ (HP W gd (#[pT d 0]) 22) ∧ (HP W ga (Att.c a) 28)) fun V71 j71 => ?_
  have ⟨K79, z80, h72, h73, h74, h75⟩ := j71.z4 K69 h62 h63 h64 h65
  have ⟨h76, h77, h78⟩ := j71.k3 h66 h67 h68
  refine aV 0 _ (fun W hS => ldz 28 gb hS.1 (Att.c_size _ hr_b)) <| aV 2 _ (fun W hS => lk hS.2.1) <| kA [3] <| avq 4 _ (fun W hS => lc hS.2.2 (Att.c_2 _)) ⟨h78, h75, h74⟩ ?_
  refine an_two 1 5 (by kernel_rfl) ?_ ?_
  ·refine nct ((dby_ok b _).mono ?_)
   rintro e V81 ⟨gy, rfl, hgyV81, nyV81, j81⟩
   refine ⟨_, rfl, ?_⟩
   have ⟨K89, z90, h82, h83, h84, h85⟩ := j81.z4 K79 h72 h73 h74 h75
   have ⟨h86, h87, h88⟩ := j81.k3 h76 h77 h78
   refine ⟨⟨h88, h85, h84⟩, ?_⟩
   refine an_o 5 <| nbs 3 (#[iI a.t]) 1 fun V91 gl egl h92 j91 => ?_
   have := nq3 egl h82 h83 h84
   have := nq3 egl h85 h86 h87
   have := nqk2 egl h88 hgyV81 K89
   have ⟨K110, z111, h102, h103, h104, h105⟩ := j91.z4 K89 h82 h83 h84 h85
   have ⟨h106, h107, h108, h109⟩ := j91.k4 h86 h87 h88 hgyV81
   refine ⟨⟨h108, h105, h104⟩, ?_⟩
   refine an_o 6 ?_
   refine nct ((dat_ok d gl 1 _).mono ?_)
   rintro e V112 ⟨gs, ge, rfl, hgsV112, hgeV112, nsV112, neV112, j112⟩
   refine ⟨_, rfl, ?_⟩
   have ⟨K122, z123, h113, h114, h115, h116⟩ := j112.z4 K110 h102 h103 h104 h105
   have ⟨h117, h118, h119, h120⟩ := j112.k4 h106 h107 h108 h109
   have h121 := j112.bk h92
   refine ⟨⟨h119, h116, h115⟩, ?_⟩
   refine an_o 7 <| nbs 144 (#[.func (.func 120) #[] #[pT gy 0], .func (.func 121) #[] #[pT gs 0, pT ge 0]]) 2 fun V124 go1 ego1 h125 j124 => ?_
   have := nq3 ego1 h113 h114 h115
   have := nq3 ego1 h116 h117 h118
   have := nq3 ego1 h119 h120 h121
   have := nqk2 ego1 hgsV112 hgeV112 K122
   have ⟨K149, z150, h140, h141, h142, h143⟩ := j124.z4 K122 h115 h116 h117 h118
   have ⟨h144, h145, h146, h147⟩ := j124.k4 h119 h120 h121 hgsV112
   have h148 := j124.bk hgeV112
   refine ⟨⟨h144, h141, h140⟩, ?_⟩
   refine an_o 8 <| ncs (dverdict_two 2 120 (pT gy 0) b.cl proZ 0 (Att.tl hr_b) proZ_len 121 (pT gs 0) (pT ge 0) b.cl proZ (p.first (max 0 a.t)).1 (Att.tl hr_b) proZ_len (vdC_one b) go1 _ h125 (enters_of func120 (by kernel_rfl) rfl) (fun bv W hbv k hb => dby1_ok bv gy 2 0 attZ proZ attZ_len proZ_len b hr_b (by have := lt_of_block h145; omega) W (k.bk h145) hb) (enters_of func121 (by kernel_rfl) rfl) (fun bv W hbv k hb => dat1_1 bv gs ge gl d a.t 2 0 b.cl proZ (Att.tl hr_b) proZ_len p hp h P W hmx hb (k.bk h147) (k.bk h148) (k.bk h146) (k.bk h142))) fun V151 j151 => ?_
   have ⟨K164, z165, h154, h155, h157, h158⟩ := j151.z4 K149 h140 h141 h143 h144
   refine ⟨⟨h158, h155, h154⟩, ?_⟩
   refine an_o 9 <| nst 57 res ((vdC 2 b.cl proZ (p.first (max 0 a.t)).1)) h157 (by rw [vdC_size (Att.tl hr_b) proZ_len]; kernel_rfl) (by rw [vdC_size (Att.tl hr_b) proZ_len]; rfl) (vdC_one b) fun V166 h167 j166 => ?_
   have ⟨K179, z180, h170, h171, h173⟩ := j166.zo3 K164 h154 h155 h158
   refine ⟨⟨h173, h171, h170⟩, ?_⟩
   refine ako 10 ?_
   refine ane <| then_n <| u_ <| sy_out (.tuple #[.agg (vdC 2 b.cl proZ ((p.first (max 0 a.t)).1)), .bool true]) rfl (rrt 57 res h167 underlying57 (by rw [vdC_size (Att.tl hr_b) proZ_len]; kernel_rfl)) ?_
   exact ⟨rfl, K179⟩
  ·refine nbs 3 (#[iI a.t]) 1 fun V181 gl egl h182 j181 => ?_
   have := nq3 egl h72 h73 h74
   have := nq3 egl h75 h76 h77
   have := nqk1 egl h78 K79
   have ⟨K198, z199, h191, h192, h193, h194⟩ := j181.z4 K79 h72 h73 h74 h75
   have ⟨h195, h196, h197⟩ := j181.k3 h76 h77 h78
   refine ⟨⟨h197, h194, h193⟩, ?_⟩
   refine an_o 1 ?_
   refine nct ((dby_ok b _).mono ?_)
   rintro e V200 ⟨gy, rfl, hgyV200, nyV200, j200⟩
   refine ⟨_, rfl, ?_⟩
   have ⟨K209, z210, h201, h202, h203, h204⟩ := j200.z4 K198 h191 h192 h193 h194
   have ⟨h205, h206, h207, h208⟩ := j200.k4 h195 h196 h197 h182
   refine ⟨⟨h207, h204, h203⟩, ?_⟩
   refine an_o 6 ?_
   refine nct ((dat_ok d gl 1 _).mono ?_)
   rintro e V211 ⟨gs, ge, rfl, hgsV211, hgeV211, nsV211, neV211, j211⟩
   refine ⟨_, rfl, ?_⟩
   have ⟨K221, z222, h212, h213, h214, h215⟩ := j211.z4 K209 h201 h202 h203 h204
   have ⟨h216, h217, h218, h219⟩ := j211.k4 h205 h206 h207 h208
   have h220 := j211.bk hgyV200
   refine ⟨⟨h218, h215, h214⟩, ?_⟩
   refine an_o 7 <| nbs 144 (#[.func (.func 120) #[] #[pT gy 0], .func (.func 121) #[] #[pT gs 0, pT ge 0]]) 2 fun V223 go1 ego1 h224 j223 => ?_
   have := nq3 ego1 h212 h213 h214
   have := nq3 ego1 h215 h216 h217
   have := nq3 ego1 h218 h219 h220
   have := nqk2 ego1 hgsV211 hgeV211 K221
   have ⟨K248, z249, h239, h240, h241, h242⟩ := j223.z4 K221 h214 h215 h216 h217
   have ⟨h243, h244, h245, h246⟩ := j223.k4 h218 h219 h220 hgsV211
   have h247 := j223.bk hgeV211
   refine ⟨⟨h243, h240, h239⟩, ?_⟩
   refine an_o 8 <| ncs (dverdict_two 2 120 (pT gy 0) b.cl proZ 0 (Att.tl hr_b) proZ_len 121 (pT gs 0) (pT ge 0) b.cl proZ (p.first (max 0 a.t)).1 (Att.tl hr_b) proZ_len (vdC_one b) go1 _ h224 (enters_of func120 (by kernel_rfl) rfl) (fun bv W hbv k hb => dby1_ok bv gy 2 0 attZ proZ attZ_len proZ_len b hr_b (by have := lt_of_block h245; omega) W (k.bk h245) hb) (enters_of func121 (by kernel_rfl) rfl) (fun bv W hbv k hb => dat1_1 bv gs ge gl d a.t 2 0 b.cl proZ (Att.tl hr_b) proZ_len p hp h P W hmx hb (k.bk h246) (k.bk h247) (k.bk h244) (k.bk h241))) fun V250 j250 => ?_
   have ⟨K263, z264, h253, h254, h256, h257⟩ := j250.z4 K248 h239 h240 h242 h243
   refine ⟨⟨h257, h254, h253⟩, ?_⟩
   refine an_o 9 <| nst 57 res ((vdC 2 b.cl proZ (p.first (max 0 a.t)).1)) h256 (by rw [vdC_size (Att.tl hr_b) proZ_len]; kernel_rfl) (by rw [vdC_size (Att.tl hr_b) proZ_len]; rfl) (vdC_one b) fun V265 h266 j265 => ?_
   have ⟨K278, z279, h269, h270, h272⟩ := j265.zo3 K263 h253 h254 h257
   refine ⟨⟨h272, h270, h269⟩, ?_⟩
   refine ako 10 ?_
   refine ane <| then_n <| u_ <| sy_out (.tuple #[.agg (vdC 2 b.cl proZ ((p.first (max 0 a.t)).1)), .bool true]) rfl (rrt 57 res h266 underlying57 (by rw [vdC_size (Att.tl hr_b) proZ_len]; kernel_rfl)) ?_
   exact ⟨rfl, K278⟩
 ·refine nal 28 (zl1_) (.agg (zl1_)) fun V280 gb egb h281 j280 => ?_
  have := nq3 egb h17 h18 h19
  have := nq3 egb h20 h21 h22
  have n288 := nk egb K23
  have ⟨K295, z296, h289, h290, h291, h292⟩ := j280.z4 K23 h17 h18 h19 h20
  have ⟨h293, h294⟩ := j280.k2 h21 h22
  refine ⟨⟨h289, h290, h291⟩, ?_⟩
  refine an_o 6 <| ncs (qAt_is (hR.keepsN K295) hV) fun V297 j297 => ?_
  have ⟨K305, z306, h298, h299, h300, h301⟩ := j297.z4 K295 h289 h290 h291 h292
  have ⟨h302, h303, h304⟩ := j297.k3 h293 h294 h281
  refine ⟨⟨h298, h299, h300⟩, ?_⟩
  refine kA [7, 8, 9] <| an_o 11 <| nst 28 gb ((Att.c b)) h304 (by rw [Att.c_size _ hr_b]; kernel_rfl) (by rw [Att.c_size _ hr_b]; rfl) (Att.c_one _) fun V307 h308 j307 => ?_
  have ⟨K315, z316, h309, h310, h311, h312⟩ := j307.zo4 K305 h298 h299 h300 h301
  have ⟨h313, h314⟩ := j307.ko2 h302 h303
  refine ⟨⟨h309, h310, h311⟩, ?_⟩
  refine ako 12 ?_
  refine ane <| tq_ <| bl_ 0 <| qr_ [0, 1, 2] <| kk 3 <| en_ <| qr_ [0, 1, 2, 3] <| pP (ldz 28 ga h311 (Att.c_size _ hr_a)) <| pP (ldz 28 gb h308 (Att.c_size _ hr_b)) <| pcs (dsame_is a b _ ha hb hs) fun V317 j317 => ?_
  have ⟨K325, z326, h318, h319, h320, h321⟩ := j317.z4 K315 h309 h310 h311 h312
  have ⟨h322, h323, h324⟩ := j317.k3 h313 h314 h308
  refine kk 1 <| en_ <| s_ <| blk_n <| tq_ <| anp 11 (fun W => (HP W gb (Att.c b) 28) ∧ (HP W gd (#[pT d 0]) 22) ∧ (HP W ga (Att.c a) 28)) fun V327 j327 => ?_
  have ⟨K335, z336, h328, h329, h330, h331⟩ := j327.z4 K325 h318 h319 h320 h321
  have ⟨h332, h333, h334⟩ := j327.k3 h322 h323 h324
  refine aV 0 _ (fun W hS => ldz 28 gb hS.1 (Att.c_size _ hr_b)) <| aV 2 _ (fun W hS => lk hS.2.1) <| kA [3] <| avq 4 _ (fun W hS => lc hS.2.2 (Att.c_2 _)) ⟨h334, h331, h330⟩ ?_
  refine an_two 1 5 (by kernel_rfl) ?_ ?_
  ·refine nct ((dby_ok b _).mono ?_)
   rintro e V337 ⟨gy, rfl, hgyV337, nyV337, j337⟩
   refine ⟨_, rfl, ?_⟩
   have ⟨K345, z346, h338, h339, h340, h341⟩ := j337.z4 K335 h328 h329 h330 h331
   have ⟨h342, h343, h344⟩ := j337.k3 h332 h333 h334
   refine ⟨⟨h344, h341, h340⟩, ?_⟩
   refine an_o 5 <| nbs 3 (#[iI a.t]) 1 fun V347 gl egl h348 j347 => ?_
   have := nq3 egl h338 h339 h340
   have := nq3 egl h341 h342 h343
   have := nqk2 egl h344 hgyV337 K345
   have ⟨K366, z367, h358, h359, h360, h361⟩ := j347.z4 K345 h338 h339 h340 h341
   have ⟨h362, h363, h364, h365⟩ := j347.k4 h342 h343 h344 hgyV337
   refine ⟨⟨h364, h361, h360⟩, ?_⟩
   refine an_o 6 ?_
   refine nct ((dat_ok d gl 1 _).mono ?_)
   rintro e V368 ⟨gs, ge, rfl, hgsV368, hgeV368, nsV368, neV368, j368⟩
   refine ⟨_, rfl, ?_⟩
   have ⟨K378, z379, h369, h370, h371, h372⟩ := j368.z4 K366 h358 h359 h360 h361
   have ⟨h373, h374, h375, h376⟩ := j368.k4 h362 h363 h364 h365
   have h377 := j368.bk h348
   refine ⟨⟨h375, h372, h371⟩, ?_⟩
   refine an_o 7 <| nbs 144 (#[.func (.func 120) #[] #[pT gy 0], .func (.func 121) #[] #[pT gs 0, pT ge 0]]) 2 fun V380 go1 ego1 h381 j380 => ?_
   have := nq3 ego1 h369 h370 h371
   have := nq3 ego1 h372 h373 h374
   have := nq3 ego1 h375 h376 h377
   have := nqk2 ego1 hgsV368 hgeV368 K378
   have ⟨K405, z406, h396, h397, h398, h399⟩ := j380.z4 K378 h371 h372 h373 h374
   have ⟨h400, h401, h402, h403⟩ := j380.k4 h375 h376 h377 hgsV368
   have h404 := j380.bk hgeV368
   refine ⟨⟨h400, h397, h396⟩, ?_⟩
   refine an_o 8 <| ncs (dverdict_two 2 120 (pT gy 0) b.cl proZ 0 (Att.tl hr_b) proZ_len 121 (pT gs 0) (pT ge 0) b.cl proZ (p.first (max 0 a.t)).1 (Att.tl hr_b) proZ_len (vdC_one b) go1 _ h381 (enters_of func120 (by kernel_rfl) rfl) (fun bv W hbv k hb => dby1_ok bv gy 2 0 attZ proZ attZ_len proZ_len b hr_b (by have := lt_of_block h401; omega) W (k.bk h401) hb) (enters_of func121 (by kernel_rfl) rfl) (fun bv W hbv k hb => dat1_1 bv gs ge gl d a.t 2 0 b.cl proZ (Att.tl hr_b) proZ_len p hp h P W hmx hb (k.bk h403) (k.bk h404) (k.bk h402) (k.bk h398))) fun V407 j407 => ?_
   have ⟨K420, z421, h410, h411, h413, h414⟩ := j407.z4 K405 h396 h397 h399 h400
   refine ⟨⟨h414, h411, h410⟩, ?_⟩
   refine an_o 9 <| nst 57 res ((vdC 2 b.cl proZ (p.first (max 0 a.t)).1)) h413 (by rw [vdC_size (Att.tl hr_b) proZ_len]; kernel_rfl) (by rw [vdC_size (Att.tl hr_b) proZ_len]; rfl) (vdC_one b) fun V422 h423 j422 => ?_
   have ⟨K435, z436, h426, h427, h429⟩ := j422.zo3 K420 h410 h411 h414
   refine ⟨⟨h429, h427, h426⟩, ?_⟩
   refine ako 10 ?_
   refine ane <| then_n <| u_ <| sy_out (.tuple #[.agg (vdC 2 b.cl proZ ((p.first (max 0 a.t)).1)), .bool true]) rfl (rrt 57 res h423 underlying57 (by rw [vdC_size (Att.tl hr_b) proZ_len]; kernel_rfl)) ?_
   exact ⟨rfl, K435⟩
  ·refine nbs 3 (#[iI a.t]) 1 fun V437 gl egl h438 j437 => ?_
   have := nq3 egl h328 h329 h330
   have := nq3 egl h331 h332 h333
   have := nqk1 egl h334 K335
   have ⟨K454, z455, h447, h448, h449, h450⟩ := j437.z4 K335 h328 h329 h330 h331
   have ⟨h451, h452, h453⟩ := j437.k3 h332 h333 h334
   refine ⟨⟨h453, h450, h449⟩, ?_⟩
   refine an_o 1 ?_
   refine nct ((dby_ok b _).mono ?_)
   rintro e V456 ⟨gy, rfl, hgyV456, nyV456, j456⟩
   refine ⟨_, rfl, ?_⟩
   have ⟨K465, z466, h457, h458, h459, h460⟩ := j456.z4 K454 h447 h448 h449 h450
   have ⟨h461, h462, h463, h464⟩ := j456.k4 h451 h452 h453 h438
   refine ⟨⟨h463, h460, h459⟩, ?_⟩
   refine an_o 6 ?_
   refine nct ((dat_ok d gl 1 _).mono ?_)
   rintro e V467 ⟨gs, ge, rfl, hgsV467, hgeV467, nsV467, neV467, j467⟩
   refine ⟨_, rfl, ?_⟩
   have ⟨K477, z478, h468, h469, h470, h471⟩ := j467.z4 K465 h457 h458 h459 h460
   have ⟨h472, h473, h474, h475⟩ := j467.k4 h461 h462 h463 h464
   have h476 := j467.bk hgyV456
   refine ⟨⟨h474, h471, h470⟩, ?_⟩
   refine an_o 7 <| nbs 144 (#[.func (.func 120) #[] #[pT gy 0], .func (.func 121) #[] #[pT gs 0, pT ge 0]]) 2 fun V479 go1 ego1 h480 j479 => ?_
   have := nq3 ego1 h468 h469 h470
   have := nq3 ego1 h471 h472 h473
   have := nq3 ego1 h474 h475 h476
   have := nqk2 ego1 hgsV467 hgeV467 K477
   have ⟨K504, z505, h495, h496, h497, h498⟩ := j479.z4 K477 h470 h471 h472 h473
   have ⟨h499, h500, h501, h502⟩ := j479.k4 h474 h475 h476 hgsV467
   have h503 := j479.bk hgeV467
   refine ⟨⟨h499, h496, h495⟩, ?_⟩
   refine an_o 8 <| ncs (dverdict_two 2 120 (pT gy 0) b.cl proZ 0 (Att.tl hr_b) proZ_len 121 (pT gs 0) (pT ge 0) b.cl proZ (p.first (max 0 a.t)).1 (Att.tl hr_b) proZ_len (vdC_one b) go1 _ h480 (enters_of func120 (by kernel_rfl) rfl) (fun bv W hbv k hb => dby1_ok bv gy 2 0 attZ proZ attZ_len proZ_len b hr_b (by have := lt_of_block h501; omega) W (k.bk h501) hb) (enters_of func121 (by kernel_rfl) rfl) (fun bv W hbv k hb => dat1_1 bv gs ge gl d a.t 2 0 b.cl proZ (Att.tl hr_b) proZ_len p hp h P W hmx hb (k.bk h502) (k.bk h503) (k.bk h500) (k.bk h497))) fun V506 j506 => ?_
   have ⟨K519, z520, h509, h510, h512, h513⟩ := j506.z4 K504 h495 h496 h498 h499
   refine ⟨⟨h513, h510, h509⟩, ?_⟩
   refine an_o 9 <| nst 57 res ((vdC 2 b.cl proZ (p.first (max 0 a.t)).1)) h512 (by rw [vdC_size (Att.tl hr_b) proZ_len]; kernel_rfl) (by rw [vdC_size (Att.tl hr_b) proZ_len]; rfl) (vdC_one b) fun V521 h522 j521 => ?_
   have ⟨K534, z535, h525, h526, h528⟩ := j521.zo3 K519 h509 h510 h513
   refine ⟨⟨h528, h526, h525⟩, ?_⟩
   refine ako 10 ?_
   refine ane <| then_n <| u_ <| sy_out (.tuple #[.agg (vdC 2 b.cl proZ ((p.first (max 0 a.t)).1)), .bool true]) rfl (rrt 57 res h522 underlying57 (by rw [vdC_size (Att.tl hr_b) proZ_len]; kernel_rfl)) ?_
   exact ⟨rfl, K534⟩
theorem span_ne {w : World} {FP : Nat → Prop} {b q : Nat} {W E : Int} {view : Int → Option Int × Option Int} {cs : Array Value} {T : TypeId} (hs : Sp.SpanView w FP b W E view) (h : HP w q cs T) (hT : 161 ≠ T) : q ≠ b := fun e => by
 obtain ⟨cs', hc⟩ := SpanView.blk hs
 exact Odd.one hc hT q cs (0, 0) e h
theorem rec_typ {w w' : World} {r d : Nat} {v : Int} {A : RD Att} {B : RD Pro} {cs : Array Value} {T : TypeId} (h : RecAt w r v A B) (hd : HP w d cs T) (k : Keeps (One d) w w') (n1 : 184 ≠ T := by decide) (n2 : 185 ≠ T := by decide) (n3 : 192 ≠ T := by decide) (n4 : 168 ≠ T := by decide) (n5 : T ≠ 28 := by decide) (n6 : T ≠ 37 := by decide) (n7 : T ≠ 122 := by decide) : RecAt w' r v A B := h.mono fun j cs' U hj e => by
 rcases hj with hj | rfl | rfl | rfl
 ·exact (k.block j (lt_of_block e) (fun e2 => h.odd (T := T) n1 n2 n3 n4 j cs (0, 0) hj (e2 ▸ hd))).trans e
 ·exact k.odd (Odd.one hd n5) e
 ·exact k.odd (Odd.one hd n6) e
 ·exact k.odd (Odd.one hd n7) e
theorem clash_is {w : World} {FP : Nat → Prop} {b : Nat} {W E s t ck ct : Int} {view : Int → Option Int × Option Int} (h : Sp.SpanView w FP b W E view) (hc : Sp.clashOf W E s t view = (ck, ct)) : Calls prog 89 #[pT b 0, iI s, iI t] w fun v w' => v = .returned (.tuple #[iI ck, iI ct]) ∧ Sp.SpanView w' FP b W E view ∧ Keeps (One b) w w' := by
 have x := Sp.span_clash b W E s t w FP view h
 rw [hc] at x; exact x
theorem qAt_z {r : Nat} {v i : Int} {A : RD Att} {B : RD Pro} {w : World} {b : Att} (H : RecAt w r v A B) (ho : A.V i = none) (hb : b = zAtt) : Calls prog 84 #[pT r 0, iI i] w (RK w (.tuple #[.agg (Att.c b), .bool false])) := hb ▸ qAt_is H ho
theorem qAt_any {r : Nat} {v i : Int} {A : RD Att} {B : RD Pro} {w : World} {b : Att} {sm : Bool} (H : RecAt w r v A B) (hV : (sm = true ∧ A.V i = some b) ∨ (sm = false ∧ A.V i = none ∧ b = zAtt)) : Calls prog 84 #[pT r 0, iI i] w (RK w (.tuple #[.agg (Att.c b), .bool sm])) := by
 rcases hV with ⟨rfl, h⟩ | ⟨rfl, h, hb⟩
 ·exact qAt_is H h
 ·exact qAt_z H h hb
def qc98_0 (n : Nat) : Code := partOf f88 n
theorem djudge2_ok (gp ga gd d q sp r : Nat) (a : Att) (hr_a : a.r.length = 32) (p : Par) (hp : p.Ok) (h : Int) (P : Nat → Option Nat) (v : Int) (A : RD Att) (B : RD Pro) (FP : Nat → Prop) (WW EE : Int) (view : Int → Option Int × Option Int) (w : World) (hgp : HP w gp #[pT q 0] 76) (hq : HP w q #[pT sp 0, pT r 0] 85) (hga : HP w ga (Att.c a) 28) (hgd : HP w gd #[pT d 0] 22) (hd : HP w d (detC p h P) 79) (hS : Sp.SpanView w FP sp WW EE view) (hR : RecAt w r v A B) (ck ct : Int) (hck : Sp.clashOf WW EE a.s a.t view = (ck, ct)) (hmx : i64ok (max (max 0 a.t) ct)) (b : Att) (sm rb : Bool) (hV : (sm = true ∧ A.V ct = some b) ∨ (sm = false ∧ A.V ct = none ∧ b = zAtt)) (hr_b : b.r.length = 32) (hrb : rb = (sm && decide (¬ ck = 0))) :
  Calls prog 88 #[pT gp 0, pT ga 0, pT gd 0] w (fun e w' => e = .returned (.tuple #[.agg (vdC ck b.cl proZ (p.first (max (max 0 a.t) ct)).1), .bool rb]) ∧ Sp.SpanView w' FP sp WW EE view ∧ RecAt w' r v A B ∧ Keeps (One sp) w w') := by
 have n0 := span_ne hS hgp (by decide)
 have n1 := span_ne hS hq (by decide)
 have n2 := span_ne hS hga (by decide)
 have n3 := span_ne hS hgd (by decide)
 have n4 := span_ne hS hd (by decide)
 obtain ⟨css, hcss⟩ := SpanView.blk hS
 have nsp := lt_of_block hcss
 have K0 := Keeps.refl (One sp) w
 refine sf_ (qc98_0 1) func88 <| qr_ [0, 1] <| pag 57 (zl0_) fun V1 res eres h2 j1 => ?_
 have := nq3 eres hgp hq hga
 have := nqk2 eres hgd hd K0
 have ⟨h9, h10, h11, h12⟩ := j1.k4 hgp hq hga hgd
 have h13 := j1.bk hd
 have h14 : Sp.SpanView V1 FP sp WW EE view := span_nob hS j1
 have h15 := hR.keepsN j1
 have ⟨K16, z17⟩ := j1.z0 K0
 refine kk 1 <| eq_ <| anp 14 (fun W => (HP W gp (#[pT q 0]) 76) ∧ (HP W q (#[pT sp 0, pT r 0]) 85) ∧ (HP W ga (Att.c a) 28)) fun V18 j18 => ?_
 have ⟨h19, h20, h21, h22⟩ := j18.k4 h9 h10 h11 h12
 have h23 := j18.bk h13
 have h24 : Sp.SpanView V18 FP sp WW EE view := span_nob h14 j18
 have h25 := h15.keepsN j18
 have ⟨K27, z28, h26⟩ := j18.z1 K16 h2
 refine aV 0 _ (fun W hS => lk hS.1) <| kA [1, 2] <| aV 3 _ (fun W hS => lk hS.2.1) <| kA [4] <| aV 5 _ (fun W hS => lc hS.2.2 (Att.c_1 _)) <| kA [6] <| aV 7 _ (fun W hS => lc hS.2.2 (Att.c_2 _)) <| an_o 8 ?_
 refine nct ((clash_is h24 hck).mono ?_)
 rintro e V29 ⟨rfl, hSV29, j29⟩
 have hRV29 := rec_one h25 h24 j29
 have hresV29 := j29.bO h26
 refine ⟨_, rfl, ?_⟩
 have ⟨h30, h31, h32, h33⟩ := j29.ko4 h19 h20 h21 h22
 have ⟨h34, h35⟩ := j29.ko2 h23 h26
 have K36 : Keeps (One sp) w V29 := K27.then j29 (fun i hi hm => hm)
 have z37 := j29.size
 refine ⟨⟨h30, h31, h32⟩, ?_⟩
 refine kA [9, 10, 11] <| ako 12 ?_
 refine ako 13 ?_
 refine ane <| tqr_ nl12_ <| pP (lk h30) <| kk 2 <| pP (lk h31) <| kk 1 <| pcs (qAt_any (rec_typ hRV29 hresV29 (Keeps.refl (One res) V29)) hV) fun V38 j38 => ?_
 have ⟨h39, h40, h41, h42⟩ := j38.k4 h30 h31 h32 h33
 have ⟨h43, h44⟩ := j38.k2 h34 h35
 have h45 : Keeps (One res) V29 V38 := (Keeps.refl (One res) V29).nn j38
 have ⟨K46, z47⟩ := j38.z0 K36
 refine kk 3 <| pag 28 (zl1_) fun V48 gb egb h49 j48 => ?_
 have := nq3 egb h39 h40 h41
 have := nq3 egb h42 h43 h44
 have n56 := nk egb K46
 have ⟨h57, h58, h59, h60⟩ := j48.k4 h39 h40 h41 h42
 have ⟨h61, h62⟩ := j48.k2 h43 h44
 have h63 : Keeps (One res) V29 V48 := h45.nn j48
 have ⟨K64, z65⟩ := j48.z0 K46
 refine pst 28 gb ((Att.c b)) h49 (by rw [Att.c_size _ hr_b]; kernel_rfl) (by rw [Att.c_size _ hr_b]; rfl) (Att.c_one _) fun V66 h67 j66 => ?_
 have ⟨h68, h69, h70, h71⟩ := j66.ko4 h57 h58 h59 h60
 have ⟨h72, h73⟩ := j66.ko2 h61 h62
 have h74 : Keeps (One res) V29 V66 := h63.nO j66
 have ⟨K75, z76⟩ := j66.zo0 K64
 refine kk 1 <| ps_end <| tq_ <| anp 18 (fun W => (HP W gb (Att.c b) 28) ∧ (HP W gd (#[pT d 0]) 22) ∧ (HP W ga (Att.c a) 28)) fun V77 j77 => ?_
 have ⟨h78, h79, h80, h81⟩ := j77.k4 h68 h69 h70 h71
 have ⟨h82, h83⟩ := j77.k2 h72 h73
 have h84 : Keeps (One res) V29 V77 := h74.nn j77
 have ⟨K86, z87, h85⟩ := j77.z1 K75 h67
 refine kA [0] <| aV 1 _ (fun W hS => ldz 28 gb hS.1 (Att.c_size _ hr_b)) <| aV 3 _ (fun W hS => lk hS.2.1) <| kA [4] <| aV 5 _ (fun W hS => lc hS.2.2 (Att.c_2 _)) <| ka [6, 11] ⟨h85, h81, h80⟩ ?_
 refine an_two 2 7 (by kernel_rfl) ?_ ?_
 ·refine nct ((dby_ok b _).mono ?_)
  rintro e V88 ⟨gy, rfl, hgyV88, nyV88, j88⟩
  refine ⟨_, rfl, ?_⟩
  have ⟨h89, h90, h91, h92⟩ := j88.k4 h78 h79 h80 h81
  have ⟨h93, h94⟩ := j88.k2 h82 h83
  have h95 : Keeps (One res) V29 V88 := h84.nn j88
  have ⟨K97, z98, h96⟩ := j88.z1 K86 h85
  refine ⟨⟨h96, h92, h91⟩, ?_⟩
  refine an_o 7 <| nbs 3 (#[iI a.t, iI ct]) 2 fun V99 gl egl h100 j99 => ?_
  have := nq3 egl h89 h90 h91
  have := nq3 egl h92 h93 h94
  have := nqk2 egl h96 hgyV88 K97
  have ⟨h110, h111, h112, h113⟩ := j99.k4 h89 h90 h91 h92
  have ⟨h114, h115⟩ := j99.k2 h93 h94
  have h116 : Keeps (One res) V29 V99 := h95.nn j99
  have ⟨K119, z120, h117, h118⟩ := j99.z2 K97 h96 hgyV88
  refine ⟨⟨h117, h113, h112⟩, ?_⟩
  refine an_o 8 ?_
  refine nct ((dat_ok d gl 2 _).mono ?_)
  rintro e V121 ⟨gs, ge, rfl, hgsV121, hgeV121, nsV121, neV121, j121⟩
  refine ⟨_, rfl, ?_⟩
  have ⟨h122, h123, h124, h125⟩ := j121.k4 h110 h111 h112 h113
  have ⟨h126, h127⟩ := j121.k2 h114 h115
  have h128 : Keeps (One res) V29 V121 := h116.nn j121
  have ⟨K132, z133, h129, h130, h131⟩ := j121.z3 K119 h117 h118 h100
  refine ⟨⟨h129, h125, h124⟩, ?_⟩
  refine an_o 9 <| nbs 144 (#[.func (.func 120) #[] #[pT gy 0], .func (.func 121) #[] #[pT gs 0, pT ge 0]]) 2 fun V134 go1 ego1 h135 j134 => ?_
  have := nq3 ego1 h122 h123 h124
  have := nq3 ego1 h125 h126 h127
  have := nq3 ego1 h129 h130 h131
  have := nqk2 ego1 hgsV121 hgeV121 K132
  have ⟨h150, h151, h152, h153⟩ := j134.k4 h124 h125 h126 h127
  have h154 : Keeps (One res) V29 V134 := h128.nn j134
  have ⟨K160, z161, h155, h156, h157, h158⟩ := j134.z4 K132 h129 h130 h131 hgsV121
  have h159 := j134.bk hgeV121
  refine ⟨⟨h155, h151, h150⟩, ?_⟩
  refine an_o 10 <| ncs (dverdict_two ck 120 (pT gy 0) b.cl proZ 0 (Att.tl hr_b) proZ_len 121 (pT gs 0) (pT ge 0) b.cl proZ (p.first (max (max 0 a.t) ct)).1 (Att.tl hr_b) proZ_len (vdC_one b) go1 _ h135 (enters_of func120 (by kernel_rfl) rfl) (fun bv W hbv k hb => dby1_ok bv gy ck 0 attZ proZ attZ_len proZ_len b hr_b (by have := lt_of_block h156; omega) W (k.bk h156) hb) (enters_of func121 (by kernel_rfl) rfl) (fun bv W hbv k hb => dat1_2 bv gs ge gl d a.t ct ck 0 b.cl proZ (Att.tl hr_b) proZ_len p hp h P W hmx hb (k.bk h158) (k.bk h159) (k.bk h157) (k.bk h152))) fun V162 j162 => ?_
  have ⟨h165, h166, h168⟩ := j162.k3 h150 h151 h153
  have h169 : Keeps (One res) V29 V162 := h154.nn j162
  have ⟨K176, z177, h170⟩ := j162.z1 K160 h155
  refine ⟨⟨h170, h166, h165⟩, ?_⟩
  rcases (show (sm = true ∧ ck = 0) ∨ (sm = true ∧ ¬ ck = 0) ∨ sm = false by cases sm <;> simp; omega) with ⟨rfl, hk0⟩ | ⟨rfl, hk0⟩ | rfl
  ·obtain rfl : rb = false := by rw [hrb]; simp [hk0]
   refine kA [12, 13] <| aV 14 _ (fun W hS => nqF ((ck) : Int) ((0) : Int)) <| kA [15] <| an_o 16 <| nst 57 res ((vdC ck b.cl proZ (p.first (max (max 0 a.t) ct)).1)) h168 (by rw [vdC_size (Att.tl hr_b) proZ_len]; kernel_rfl) (by rw [vdC_size (Att.tl hr_b) proZ_len]; rfl) (vdC_one b) fun V178 h179 j178 => ?_
   have ⟨h182, h183⟩ := j178.ko2 h165 h166
   have h185 : Keeps (One res) V29 V178 := h169.then j178 (fun i _ hm => hm)
   have ⟨K192, z193, h186⟩ := j178.zo1 K176 h170
   refine ⟨⟨h186, h183, h182⟩, ?_⟩
   refine ako 17 ?_
   refine ane <| then_n <| u_ <| sy_out (.tuple #[.agg (vdC ck b.cl proZ ((p.first (max (max 0 a.t) ct)).1)), .bool false]) rfl (rrt 57 res h179 underlying57 (by rw [vdC_size (Att.tl hr_b) proZ_len]; kernel_rfl)) ?_
   exact ⟨rfl, hSV29.of_keeps h185 (fun e => by unfold Own.One at e; omega) (fun j hj e => by have := hS.fp j hj; unfold Own.One at e; omega) (fun _ h => h) hSV29.nb (fun j hj => Nat.lt_of_lt_of_le (hSV29.fp j hj) h185.size), rec_typ hRV29 hresV29 h185, K192⟩
  ·obtain rfl : rb = true := by rw [hrb]; simp [hk0]
   refine kA [12, 13] <| aV 14 _ (fun W hS => nqT ((ck) : Int) ((0) : Int)) <| kA [15] <| an_o 16 <| nst 57 res ((vdC ck b.cl proZ (p.first (max (max 0 a.t) ct)).1)) h168 (by rw [vdC_size (Att.tl hr_b) proZ_len]; kernel_rfl) (by rw [vdC_size (Att.tl hr_b) proZ_len]; rfl) (vdC_one b) fun V194 h195 j194 => ?_
   have ⟨h198, h199⟩ := j194.ko2 h165 h166
   have h201 : Keeps (One res) V29 V194 := h169.then j194 (fun i _ hm => hm)
   have ⟨K208, z209, h202⟩ := j194.zo1 K176 h170
   refine ⟨⟨h202, h199, h198⟩, ?_⟩
   refine ako 17 ?_
   refine ane <| then_n <| u_ <| sy_out (.tuple #[.agg (vdC ck b.cl proZ ((p.first (max (max 0 a.t) ct)).1)), .bool true]) rfl (rrt 57 res h195 underlying57 (by rw [vdC_size (Att.tl hr_b) proZ_len]; kernel_rfl)) ?_
   exact ⟨rfl, hSV29.of_keeps h201 (fun e => by unfold Own.One at e; omega) (fun j hj e => by have := hS.fp j hj; unfold Own.One at e; omega) (fun _ h => h) hSV29.nb (fun j hj => Nat.lt_of_lt_of_le (hSV29.fp j hj) h201.size), rec_typ hRV29 hresV29 h201, K208⟩
  ·obtain rfl : rb = false := hrb
   refine kA [12, 13, 14, 15] <| an_o 16 <| nst 57 res ((vdC ck b.cl proZ (p.first (max (max 0 a.t) ct)).1)) h168 (by rw [vdC_size (Att.tl hr_b) proZ_len]; kernel_rfl) (by rw [vdC_size (Att.tl hr_b) proZ_len]; rfl) (vdC_one b) fun V210 h211 j210 => ?_
   have ⟨h214, h215⟩ := j210.ko2 h165 h166
   have h217 : Keeps (One res) V29 V210 := h169.then j210 (fun i _ hm => hm)
   have ⟨K224, z225, h218⟩ := j210.zo1 K176 h170
   refine ⟨⟨h218, h215, h214⟩, ?_⟩
   refine ako 17 ?_
   refine ane <| then_n <| u_ <| sy_out (.tuple #[.agg (vdC ck b.cl proZ ((p.first (max (max 0 a.t) ct)).1)), .bool false]) rfl (rrt 57 res h211 underlying57 (by rw [vdC_size (Att.tl hr_b) proZ_len]; kernel_rfl)) ?_
   exact ⟨rfl, hSV29.of_keeps h217 (fun e => by unfold Own.One at e; omega) (fun j hj e => by have := hS.fp j hj; unfold Own.One at e; omega) (fun _ h => h) hSV29.nb (fun j hj => Nat.lt_of_lt_of_le (hSV29.fp j hj) h217.size), rec_typ hRV29 hresV29 h217, K224⟩
 ·refine nbs 3 (#[iI a.t, iI ct]) 2 fun V226 gl egl h227 j226 => ?_
  have := nq3 egl h78 h79 h80
  have := nq3 egl h81 h82 h83
  have := nqk1 egl h85 K86
  have ⟨h236, h237, h238, h239⟩ := j226.k4 h78 h79 h80 h81
  have ⟨h240, h241⟩ := j226.k2 h82 h83
  have h242 : Keeps (One res) V29 V226 := h84.nn j226
  have ⟨K244, z245, h243⟩ := j226.z1 K86 h85
  refine ⟨⟨h243, h239, h238⟩, ?_⟩
  refine an_o 2 ?_
  refine nct ((dby_ok b _).mono ?_)
  rintro e V246 ⟨gy, rfl, hgyV246, nyV246, j246⟩
  refine ⟨_, rfl, ?_⟩
  have ⟨h247, h248, h249, h250⟩ := j246.k4 h236 h237 h238 h239
  have ⟨h251, h252⟩ := j246.k2 h240 h241
  have h253 : Keeps (One res) V29 V246 := h242.nn j246
  have ⟨K256, z257, h254, h255⟩ := j246.z2 K244 h243 h227
  refine ⟨⟨h254, h250, h249⟩, ?_⟩
  refine an_o 8 ?_
  refine nct ((dat_ok d gl 2 _).mono ?_)
  rintro e V258 ⟨gs, ge, rfl, hgsV258, hgeV258, nsV258, neV258, j258⟩
  refine ⟨_, rfl, ?_⟩
  have ⟨h259, h260, h261, h262⟩ := j258.k4 h247 h248 h249 h250
  have ⟨h263, h264⟩ := j258.k2 h251 h252
  have h265 : Keeps (One res) V29 V258 := h253.nn j258
  have ⟨K269, z270, h266, h267, h268⟩ := j258.z3 K256 h254 h255 hgyV246
  refine ⟨⟨h266, h262, h261⟩, ?_⟩
  refine an_o 9 <| nbs 144 (#[.func (.func 120) #[] #[pT gy 0], .func (.func 121) #[] #[pT gs 0, pT ge 0]]) 2 fun V271 go1 ego1 h272 j271 => ?_
  have := nq3 ego1 h259 h260 h261
  have := nq3 ego1 h262 h263 h264
  have := nq3 ego1 h266 h267 h268
  have := nqk2 ego1 hgsV258 hgeV258 K269
  have ⟨h287, h288, h289, h290⟩ := j271.k4 h261 h262 h263 h264
  have h291 : Keeps (One res) V29 V271 := h265.nn j271
  have ⟨K297, z298, h292, h293, h294, h295⟩ := j271.z4 K269 h266 h267 h268 hgsV258
  have h296 := j271.bk hgeV258
  refine ⟨⟨h292, h288, h287⟩, ?_⟩
  refine an_o 10 <| ncs (dverdict_two ck 120 (pT gy 0) b.cl proZ 0 (Att.tl hr_b) proZ_len 121 (pT gs 0) (pT ge 0) b.cl proZ (p.first (max (max 0 a.t) ct)).1 (Att.tl hr_b) proZ_len (vdC_one b) go1 _ h272 (enters_of func120 (by kernel_rfl) rfl) (fun bv W hbv k hb => dby1_ok bv gy ck 0 attZ proZ attZ_len proZ_len b hr_b (by have := lt_of_block h294; omega) W (k.bk h294) hb) (enters_of func121 (by kernel_rfl) rfl) (fun bv W hbv k hb => dat1_2 bv gs ge gl d a.t ct ck 0 b.cl proZ (Att.tl hr_b) proZ_len p hp h P W hmx hb (k.bk h295) (k.bk h296) (k.bk h293) (k.bk h289))) fun V299 j299 => ?_
  have ⟨h302, h303, h305⟩ := j299.k3 h287 h288 h290
  have h306 : Keeps (One res) V29 V299 := h291.nn j299
  have ⟨K313, z314, h307⟩ := j299.z1 K297 h292
  refine ⟨⟨h307, h303, h302⟩, ?_⟩
  rcases (show (sm = true ∧ ck = 0) ∨ (sm = true ∧ ¬ ck = 0) ∨ sm = false by cases sm <;> simp; omega) with ⟨rfl, hk0⟩ | ⟨rfl, hk0⟩ | rfl
  ·obtain rfl : rb = false := by rw [hrb]; simp [hk0]
   refine kA [12, 13] <| aV 14 _ (fun W hS => nqF ((ck) : Int) ((0) : Int)) <| kA [15] <| an_o 16 <| nst 57 res ((vdC ck b.cl proZ (p.first (max (max 0 a.t) ct)).1)) h305 (by rw [vdC_size (Att.tl hr_b) proZ_len]; kernel_rfl) (by rw [vdC_size (Att.tl hr_b) proZ_len]; rfl) (vdC_one b) fun V315 h316 j315 => ?_
   have ⟨h319, h320⟩ := j315.ko2 h302 h303
   have h322 : Keeps (One res) V29 V315 := h306.then j315 (fun i _ hm => hm)
   have ⟨K329, z330, h323⟩ := j315.zo1 K313 h307
   refine ⟨⟨h323, h320, h319⟩, ?_⟩
   refine ako 17 ?_
   refine ane <| then_n <| u_ <| sy_out (.tuple #[.agg (vdC ck b.cl proZ ((p.first (max (max 0 a.t) ct)).1)), .bool false]) rfl (rrt 57 res h316 underlying57 (by rw [vdC_size (Att.tl hr_b) proZ_len]; kernel_rfl)) ?_
   exact ⟨rfl, hSV29.of_keeps h322 (fun e => by unfold Own.One at e; omega) (fun j hj e => by have := hS.fp j hj; unfold Own.One at e; omega) (fun _ h => h) hSV29.nb (fun j hj => Nat.lt_of_lt_of_le (hSV29.fp j hj) h322.size), rec_typ hRV29 hresV29 h322, K329⟩
  ·obtain rfl : rb = true := by rw [hrb]; simp [hk0]
   refine kA [12, 13] <| aV 14 _ (fun W hS => nqT ((ck) : Int) ((0) : Int)) <| kA [15] <| an_o 16 <| nst 57 res ((vdC ck b.cl proZ (p.first (max (max 0 a.t) ct)).1)) h305 (by rw [vdC_size (Att.tl hr_b) proZ_len]; kernel_rfl) (by rw [vdC_size (Att.tl hr_b) proZ_len]; rfl) (vdC_one b) fun V331 h332 j331 => ?_
   have ⟨h335, h336⟩ := j331.ko2 h302 h303
   have h338 : Keeps (One res) V29 V331 := h306.then j331 (fun i _ hm => hm)
   have ⟨K345, z346, h339⟩ := j331.zo1 K313 h307
   refine ⟨⟨h339, h336, h335⟩, ?_⟩
   refine ako 17 ?_
   refine ane <| then_n <| u_ <| sy_out (.tuple #[.agg (vdC ck b.cl proZ ((p.first (max (max 0 a.t) ct)).1)), .bool true]) rfl (rrt 57 res h332 underlying57 (by rw [vdC_size (Att.tl hr_b) proZ_len]; kernel_rfl)) ?_
   exact ⟨rfl, hSV29.of_keeps h338 (fun e => by unfold Own.One at e; omega) (fun j hj e => by have := hS.fp j hj; unfold Own.One at e; omega) (fun _ h => h) hSV29.nb (fun j hj => Nat.lt_of_lt_of_le (hSV29.fp j hj) h338.size), rec_typ hRV29 hresV29 h338, K345⟩
  ·obtain rfl : rb = false := hrb
   refine kA [12, 13, 14, 15] <| an_o 16 <| nst 57 res ((vdC ck b.cl proZ (p.first (max (max 0 a.t) ct)).1)) h305 (by rw [vdC_size (Att.tl hr_b) proZ_len]; kernel_rfl) (by rw [vdC_size (Att.tl hr_b) proZ_len]; rfl) (vdC_one b) fun V347 h348 j347 => ?_
   have ⟨h351, h352⟩ := j347.ko2 h302 h303
   have h354 : Keeps (One res) V29 V347 := h306.then j347 (fun i _ hm => hm)
   have ⟨K361, z362, h355⟩ := j347.zo1 K313 h307
   refine ⟨⟨h355, h352, h351⟩, ?_⟩
   refine ako 17 ?_
   refine ane <| then_n <| u_ <| sy_out (.tuple #[.agg (vdC ck b.cl proZ ((p.first (max (max 0 a.t) ct)).1)), .bool false]) rfl (rrt 57 res h348 underlying57 (by rw [vdC_size (Att.tl hr_b) proZ_len]; kernel_rfl)) ?_
   exact ⟨rfl, hSV29.of_keeps h354 (fun e => by unfold Own.One at e; omega) (fun j hj e => by have := hS.fp j hj; unfold Own.One at e; omega) (fun _ h => h) hSV29.nb (fun j hj => Nat.lt_of_lt_of_le (hSV29.fp j hj) h354.size), rec_typ hRV29 hresV29 h354, K361⟩
def surr (a b : Att) : Bool := decide (a.fine ∧ b.fine ∧ a.v = b.v ∧ a.s < b.s ∧ a.t > b.t)
def qc99_0 (n : Nat) : Code := partOf f141 n
theorem rvSurrounds_ok (a b : Att) (w : World) (ha : a.Ok) (hb : b.Ok) :
  Calls prog 141 #[.agg (Att.c a), .agg (Att.c b)] w (RK w (.bool (surr a b))) := by
 have hr := ha.r
 have hs := hb.r
 have K0 := kz0 w
 refine sf_ (qc99_0 1) func141 <| qr_ [0, 1, 2] <| pbg 28 (Att.c a) fun V1 ga ega h2 j1 => ?_
 have n3 := nk ega K0
 have ⟨K4, z5⟩ := j1.z0 K0
 refine pbg 28 (Att.c b) fun V6 gb egb h7 j6 => ?_
 have := nqk1 egb h2 K4
 have ⟨K11, z12, h10⟩ := j6.z1 K4 h2
 refine kk 1 <| eqr_ nl30_ <| pP (ldz 28 ga h10 (Att.c_size _ hr)) <| pcs (rvCheck_ok a _ hr) fun V13 j13 => ?_
 have ⟨K16, z17, h14, h15⟩ := j13.z2 K11 h10 h7
 by_cases c0 : a.fine
 ·have e0 := Att.err_ok c0
  refine pP (eqT ((a.err) : Int) ((0) : Int)) <| kk 1 <| pP (ldz 28 gb h15 (Att.c_size _ hs)) <| pcs (rvCheck_ok b _ hs) fun V18 j18 => ?_
  have ⟨K21, z22, h19, h20⟩ := j18.z2 K16 h14 h15
  by_cases c1 : b.fine
  ·have e1 := Att.err_ok c1
   refine pP (eqT ((b.err) : Int) ((0) : Int)) <| kk 3 <| pP (lc h19 (Att.c_0 _)) <| kk 1 <| pP (lc h20 (Att.c_0 _)) ?_
   by_cases c2 : a.v = b.v
   ·have e2 := c2
    refine pP (eqT ((a.v) : Int) ((b.v) : Int)) <| kk 3 <| pP (lc h19 (Att.c_1 _)) <| kk 1 <| pP (lc h20 (Att.c_1 _)) ?_
    by_cases c3 : a.s < b.s
    ·have e3 := c3
     refine pP (dtT (((a.s) : Int) < ((b.s) : Int))) <| kk 3 <| pP (lc h19 (Att.c_2 _)) <| kk 1 <| pP (lc h20 (Att.c_2 _)) ?_
     by_cases c4 : b.t < a.t
     ·have e4 := c4
      refine pP (dtT (((a.t) : Int) > ((b.t) : Int))) <| kk 2 <| ps_end <| then_n <| u_ <| so_ (.bool true) ?_
      exact ⟨by unfold surr; simp [c0, c1, c2, c3, c4], K21⟩
     ·have e4 := c4
      refine pP (dtF (((a.t) : Int) > ((b.t) : Int))) <| kk 2 <| ps_end <| then_n <| u_ <| so_ (.bool false) ?_
      exact ⟨by unfold surr; simp [c0, c1, c2, c3, c4], K21⟩
    ·have e3 := c3
     refine pP (dtF (((a.s) : Int) < ((b.s) : Int))) <| kk 9 <| ps_end <| then_n <| u_ <| so_ (.bool false) ?_
     exact ⟨by unfold surr; simp [c0, c1, c2, c3], K21⟩
   ·have e2 := c2
    refine pP (eqF ((a.v) : Int) ((b.v) : Int)) <| kk 13 <| kk 3 <| ps_end <| then_n <| u_ <| so_ (.bool false) ?_
    exact ⟨by unfold surr; simp [c0, c1, c2], K21⟩
  ·have e1 := Att.err_no c1
   refine pP (eqF ((b.err) : Int) ((0) : Int)) <| kk 13 <| kk 10 <| ps_end <| then_n <| u_ <| so_ (.bool false) ?_
   exact ⟨by unfold surr; simp [c0, c1], K21⟩
 ·have e0 := Att.err_no c0
  refine pP (eqF ((a.err) : Int) ((0) : Int)) <| kk 13 <| kk 14 <| ps_end <| then_n <| u_ <| so_ (.bool false) ?_
  exact ⟨by unfold surr; simp [c0], K16⟩
theorem pair_any {α : Type} {R : α → α → Prop} {l : List α} (h : l.Pairwise R) {a b : α} (ha : a ∈ l) (hb : b ∈ l) : a = b ∨ R a b ∨ R b a := by
  induction l with
  | nil => cases ha
  | cons x r ih =>
    rw [List.pairwise_cons] at h
    rcases List.mem_cons.1 ha with e1 | e1
    · rcases List.mem_cons.1 hb with e2 | e2
      · exact .inl (e1.trans e2.symm)
      · rw [e1]; exact .inr (.inl (h.1 b e2))
    · rcases List.mem_cons.1 hb with e2 | e2
      · rw [e2]; exact .inr (.inr (h.1 a e1))
      · exact ih h.2 e1 e2
theorem find_by {α : Type} {R : α → α → Prop} {l : List α} (hs : l.Pairwise R) {P : α → Bool} {w : α} (h : l.find? P = some w) : w ∈ l ∧ P w = true ∧ ∀ b ∈ l, P b = true → b = w ∨ R w b := by
  induction l with
  | nil => cases h
  | cons x r ih =>
    rw [List.find?_cons] at h
    rw [List.pairwise_cons] at hs
    cases hx : P x with
    | true =>
      rw [hx] at h
      simp only [Option.some.injEq] at h
      subst h
      exact ⟨by simp, hx, fun b hb _ => by
        rcases List.mem_cons.1 hb with rfl | hb
        · exact .inl rfl
        · exact .inr (hs.1 b hb)⟩
    | false =>
      rw [hx] at h
      obtain ⟨a, b, c⟩ := ih hs.2 h
      exact ⟨by simp [a], b, fun y hy hp => by
        rcases List.mem_cons.1 hy with rfl | hy
        · rw [hx] at hp; cases hp
        · exact c y hy hp⟩
theorem mem_epochs {lo E t : Int} : t ∈ Sp.epochs lo E ↔ lo ≤ t ∧ t ≤ E := by
  unfold Sp.epochs
  simp only [List.mem_map, List.mem_range]
  constructor
  · rintro ⟨j, hj, rfl⟩; omega
  · rintro ⟨h1, h2⟩; exact ⟨(t - lo).toNat, by omega, by omega⟩
theorem epochs_sorted (lo E : Int) : (Sp.epochs lo E).Pairwise (· < ·) := by
  unfold Sp.epochs
  rw [List.pairwise_map]
  exact List.pairwise_lt_range.imp (fun h => by omega)
theorem sorted_eq {α : Type} (key : α → Int) : ∀ {l m : List α}, l.Pairwise (fun a b => key a < key b) → m.Pairwise (fun a b => key a < key b) → (∀ b, b ∈ l ↔ b ∈ m) → l = m
  | [], m, _, _, h => by
    cases m with
    | nil => rfl
    | cons y s => exact absurd ((h y).2 (by simp)) (by simp)
  | x :: r, m, hl, hm, h => by
    rw [List.pairwise_cons] at hl
    cases m with
    | nil => exact absurd ((h x).1 (by simp)) (by simp)
    | cons y s =>
      rw [List.pairwise_cons] at hm
      have e : x = y := by
        rcases List.mem_cons.1 ((h x).1 (by simp)) with e | e
        · exact e
        · rcases List.mem_cons.1 ((h y).2 (by simp)) with e' | e'
          · exact e'.symm
          · have := hm.1 x e; have := hl.1 y e'; omega
      subst e
      rw [sorted_eq key hl.2 hm.2 fun b => ?_]
      constructor
      · intro hb
        rcases List.mem_cons.1 ((h b).1 (by simp [hb])) with e | e
        · subst e; exact absurd (hl.1 b hb) (Int.lt_irrefl _)
        · exact e
      · intro hb
        rcases List.mem_cons.1 ((h b).2 (by simp [hb])) with e | e
        · subst e; exact absurd (hm.1 b hb) (Int.lt_irrefl _)
        · exact e
theorem items_nil {α : Type} (low n : Nat) : items (fun _ => (none : Option α)) low n = [] := by
  induction n with
  | zero => rfl
  | succ n ih => rw [items_succ, ih]; rfl
def votesOf (p : Par) (h : Int) (A : List Att) (v : Int) : List Att := (Sp.epochs (dlo p h) (dep p h)).flatMap fun t => A.filter fun a => decide (a.v = v ∧ a.t = t)
def blocksOf (p : Par) (h : Int) (Q : List Pro) (v : Int) : List Pro := Q.foldl (fun l q => if q.v = v ∧ dfl p h ≤ q.h then insK (·.h) l q else l) []
section
variable {p : Par} {h : Int} {A : List Att} {Q : List Pro} {v : Int}
theorem mem_votes {b : Att} : b ∈ votesOf p h A v ↔ b ∈ A ∧ b.v = v ∧ dlo p h ≤ b.t ∧ b.t ≤ dep p h := by
  unfold votesOf
  simp only [List.mem_flatMap, List.mem_filter, decide_eq_true_eq, mem_epochs]
  constructor
  · rintro ⟨t, ⟨h1, h2⟩, h3, h4, rfl⟩; exact ⟨h3, h4, h1, h2⟩
  · rintro ⟨h1, h2, h3, h4⟩; exact ⟨b.t, ⟨h3, h4⟩, h1, h2, rfl⟩
theorem votes_sorted (ua : A.Pairwise fun a b => ¬ (a.v = b.v ∧ a.t = b.t)) : (votesOf p h A v).Pairwise fun a b => a.t < b.t := by
  unfold votesOf
  rw [List.pairwise_flatMap]
  refine ⟨fun t _ => ?_, (epochs_sorted _ _).imp fun {t u} htu x hx y hy => ?_⟩
  · refine List.Pairwise.imp_of_mem ?_ (ua.filter (fun a => decide (a.v = v ∧ a.t = t)))
    intro a b ha hb hn
    have a1 := (List.mem_filter.1 ha).2
    have b1 := (List.mem_filter.1 hb).2
    simp only [decide_eq_true_eq] at a1 b1
    exact absurd ⟨by rw [a1.1, b1.1], by rw [a1.2, b1.2]⟩ hn
  · have a1 := (List.mem_filter.1 hx).2
    have b1 := (List.mem_filter.1 hy).2
    simp only [decide_eq_true_eq] at a1 b1
    rw [a1.2, b1.2]; exact htu
theorem votes_uniq (ua : A.Pairwise fun a b => ¬ (a.v = b.v ∧ a.t = b.t)) {a b : Att} (ha : a ∈ A) (hb : b ∈ A) (hv : a.v = b.v) (ht : a.t = b.t) : a = b := by
  rcases pair_any ua ha hb with e | e | e
  · exact e
  · exact absurd ⟨hv, ht⟩ e
  · exact absurd ⟨hv.symm, ht.symm⟩ e
theorem pros_uniq (ua : Q.Pairwise fun a b => ¬ (a.v = b.v ∧ a.h = b.h)) {a b : Pro} (ha : a ∈ Q) (hb : b ∈ Q) (hv : a.v = b.v) (ht : a.h = b.h) : a = b := by
  rcases pair_any ua ha hb with e | e | e
  · exact e
  · exact absurd ⟨hv, ht⟩ e
  · exact absurd ⟨hv.symm, ht.symm⟩ e
theorem va_some (q : DInv p h A Q) {t : Int} {w : Att} : vaOf A v (dlo p h) t = some w ↔ w ∈ votesOf p h A v ∧ w.t = t := by
  rw [mem_votes]
  unfold vaOf
  constructor
  · intro e
    split at e
    · cases e
    · have h1 := List.mem_of_find?_eq_some e
      have h2 := List.find?_some e
      simp only [decide_eq_true_eq] at h2
      have h3 := (q.a w h1).2.2.2
      exact ⟨⟨h1, h2.1, by omega, h3⟩, h2.2⟩
  · rintro ⟨⟨h1, h2, h3, h4⟩, h5⟩
    rw [if_neg (by omega)]
    cases hf : A.find? fun a => decide (a.v = v ∧ a.t = t) with
    | none =>
      have := (List.find?_eq_none.1 hf) w h1
      simp [h2, h5] at this
    | some u =>
      have g1 := List.mem_of_find?_eq_some hf
      have g2 := List.find?_some hf
      simp only [decide_eq_true_eq] at g2
      rw [votes_uniq q.ua g1 h1 (by rw [g2.1, h2]) (by rw [g2.2, h5])]
theorem va_none (q : DInv p h A Q) {t : Int} : vaOf A v (dlo p h) t = none ↔ ∀ w ∈ votesOf p h A v, w.t ≠ t := by
  constructor
  · intro e w hw ht
    have := (va_some q).2 ⟨hw, ht⟩
    rw [e] at this; cases this
  · intro hn
    cases hf : vaOf A v (dlo p h) t with
    | none => rfl
    | some w => have := (va_some q).1 hf; exact absurd this.2 (hn w this.1)
theorem vb_some (q : DInv p h A Q) {t : Int} {w : Pro} : vbOf Q v (dfl p h) t = some w ↔ (w ∈ Q ∧ w.v = v ∧ dfl p h ≤ w.h) ∧ w.h = t := by
  unfold vbOf
  constructor
  · intro e
    split at e
    · cases e
    · have h1 := List.mem_of_find?_eq_some e
      have h2 := List.find?_some e
      simp only [decide_eq_true_eq] at h2
      exact ⟨⟨h1, h2.1, by omega⟩, h2.2⟩
  · rintro ⟨⟨h1, h2, h3⟩, h5⟩
    rw [if_neg (by omega)]
    cases hf : Q.find? fun a => decide (a.v = v ∧ a.h = t) with
    | none =>
      have := (List.find?_eq_none.1 hf) w h1
      simp [h2, h5] at this
    | some u =>
      have g1 := List.mem_of_find?_eq_some hf
      have g2 := List.find?_some hf
      simp only [decide_eq_true_eq] at g2
      rw [pros_uniq q.uq g1 h1 (by rw [g2.1, h2]) (by rw [g2.2, h5])]
end
structure Vd where
  (k : Int) (a : Att) (b : Pro) (f : Int)
  deriving DecidableEq
def Vd.z : Vd := ⟨0, zAtt, zPro, 0⟩
def dJudge2 (p : Par) (l : List Att) (a : Att) : Vd :=
  match l.reverse.find? (fun b => surr b a) with
  | some w => ⟨4, w, zPro, (p.first (max a.t w.t)).1⟩
  | none => Vd.z
def dJudge (p : Par) (l : List Att) (a : Att) : Vd :=
  match l.find? (fun b => decide (b.t = a.t)) with
  | some w => if a.dg == w.dg then ⟨1, w, zPro, 0⟩ else ⟨2, w, zPro, (p.first (max a.t w.t)).1⟩
  | none =>
    match l.find? (fun b => decide (b.s > a.s)) with
    | some w => if w.t < a.t then ⟨3, w, zPro, (p.first (max a.t w.t)).1⟩ else dJudge2 p l a
    | none => dJudge2 p l a
def pJudge2 (p : Par) (h : Int) (A : List Att) (a : Att) (c : Int × Int) : Vd :=
  match vaOf A a.v (dlo p h) c.2 with
  | some w => if c.1 = 0 then Vd.z else ⟨c.1, w, zPro, (p.first (max (max 0 a.t) c.2)).1⟩
  | none => Vd.z
def pJudge (p : Par) (h : Int) (A : List Att) (a : Att) : Vd :=
  match vaOf A a.v (dlo p h) a.t with
  | some w => if a.dg == w.dg then ⟨1, w, zPro, 0⟩ else ⟨2, w, zPro, (p.first (max 0 a.t)).1⟩
  | none => pJudge2 p h A a (Sp.clashOf p.win (dep p h) a.s a.t (Sp.viewOf (prs A a.v)))
structure Comes (p : Par) (h : Int) (a : Att) : Prop where
  fine : a.fine
  st : a.s ≤ a.t
  hi : a.t ≤ dep p h
  lo : dlo p h ≤ a.s
section
variable {p : Par} {h : Int} {A : List Att} {Q : List Pro} {a : Att}
theorem mem_prs {v s t : Int} : (s, t) ∈ prs A v ↔ ∃ u ∈ A, u.v = v ∧ u.s = s ∧ u.t = t := by
  unfold prs
  simp only [List.mem_map, List.mem_filter, decide_eq_true_eq, Prod.mk.injEq]
  constructor
  · rintro ⟨u, ⟨h1, h2⟩, h3, h4⟩; exact ⟨u, h1, h2, h3, h4⟩
  · rintro ⟨u, h1, h2, h3, h4⟩; exact ⟨u, ⟨h1, h2⟩, h3, h4⟩
theorem view_is (A : List Att) (v e : Int) : Sp.MinOf (Sp.viewOf (prs A v) e).1 (fun t => ∃ u ∈ A, u.v = v ∧ e < u.s ∧ u.t = t) ∧ Sp.MaxOf (Sp.viewOf (prs A v) e).2 (fun t => ∃ u ∈ A, u.v = v ∧ u.s < e ∧ e < u.t ∧ u.t = t) := by
  obtain ⟨h1, h2⟩ := Sp.view_fold e (prs A v) (none, none) (fun _ => False) (fun _ => False) (fun _ h => h) (fun _ h => h)
  refine ⟨h1.to fun t => ?_, h2.to fun t => ?_⟩
  · constructor
    · rintro (x | ⟨⟨s, t'⟩, hu, h3, rfl⟩)
      · exact x.elim
      · obtain ⟨u, g1, g2, rfl, rfl⟩ := mem_prs.1 hu
        exact ⟨u, g1, g2, h3, rfl⟩
    · rintro ⟨u, g1, g2, h3, rfl⟩
      exact .inr ⟨(u.s, u.t), mem_prs.2 ⟨u, g1, g2, rfl, rfl⟩, h3, rfl⟩
  · constructor
    · rintro (x | ⟨⟨s, t'⟩, hu, h3, h4, rfl⟩)
      · exact x.elim
      · obtain ⟨u, g1, g2, rfl, rfl⟩ := mem_prs.1 hu
        exact ⟨u, g1, g2, h3, h4, rfl⟩
    · rintro ⟨u, g1, g2, h3, h4, rfl⟩
      exact .inr ⟨(u.s, u.t), mem_prs.2 ⟨u, g1, g2, rfl, rfl⟩, h3, h4, rfl⟩
theorem judge_back (q : DInv p h A Q) (c : Comes p h a) : pJudge2 p h A a (if (Sp.tellOf p.win (dep p h) a.s (Sp.viewOf (prs A a.v) a.s).2).2 = true ∧ a.t < (Sp.tellOf p.win (dep p h) a.s (Sp.viewOf (prs A a.v) a.s).2).1 then (4, (Sp.tellOf p.win (dep p h) a.s (Sp.viewOf (prs A a.v) a.s).2).1) else (0, 0)) = dJudge2 p (votesOf p h A a.v) a := by
  have hso := votes_sorted (p := p) (h := h) (v := a.v) q.ua
  have hr : (votesOf p h A a.v).reverse.Pairwise fun a b => b.t < a.t := List.pairwise_reverse.2 hso
  have ht : Sp.tellOf p.win (dep p h) a.s (Sp.viewOf (prs A a.v) a.s).2 = ((Sp.viewOf (prs A a.v) a.s).2.getD 0, (Sp.viewOf (prs A a.v) a.s).2.isSome) := by
    unfold Sp.tellOf; rw [dlow_is, if_pos ⟨c.lo, by have := c.st; have := c.hi; omega⟩]
  rw [ht]
  have h0 : ∀ x, pJudge2 p h A a (0, x) = Vd.z := fun x => by unfold pJudge2; split <;> rfl
  have hz : (∀ b ∈ votesOf p h A a.v, ¬ (b.s < a.s ∧ a.t < b.t)) → dJudge2 p (votesOf p h A a.v) a = Vd.z := fun hn => by
    have hf : (votesOf p h A a.v).reverse.find? (fun b => surr b a) = none := by
      rw [List.find?_eq_none]
      intro b hb hs
      simp only [surr, decide_eq_true_eq] at hs
      exact hn b (List.mem_reverse.1 hb) ⟨hs.2.2.2.1, hs.2.2.2.2⟩
    unfold dJudge2; rw [hf]
  have hM := (view_is A a.v a.s).2
  have hin : ∀ b ∈ votesOf p h A a.v, b.s < a.s → a.t < b.t → ∃ u ∈ A, u.v = a.v ∧ u.s < a.s ∧ a.s < u.t ∧ u.t = b.t := fun b hb h1 h2 => by
    obtain ⟨g1, g2, _, _⟩ := mem_votes.1 hb
    exact ⟨b, g1, g2, h1, by have := c.st; omega, rfl⟩
  cases hv : (Sp.viewOf (prs A a.v) a.s).2 with
  | none =>
    rw [hv] at hM
    simp only [Option.isSome_none, Bool.false_eq_true, false_and, if_false]
    rw [h0, hz fun b hb ⟨h1, h2⟩ => hM b.t (hin b hb h1 h2)]
  | some m =>
    rw [hv] at hM
    obtain ⟨⟨u, g1, g2, g3, g4, g5⟩, hmax⟩ := hM
    simp only [Option.getD_some, Option.isSome_some, true_and]
    by_cases hm : a.t < m
    · rw [if_pos hm]
      have hu : u ∈ votesOf p h A a.v := mem_votes.2 ⟨g1, g2, by have := c.lo; have := c.st; omega, (q.a u g1).2.2.2⟩
      have hsu : surr u a = true := by
        simp only [surr, decide_eq_true_eq]
        exact ⟨(q.a u g1).2.1, c.fine, g2, g3, by omega⟩
      unfold pJudge2
      rw [show vaOf A a.v (dlo p h) m = some u from (va_some q).2 ⟨hu, g5⟩]
      unfold dJudge2
      cases hf : (votesOf p h A a.v).reverse.find? (fun b => surr b a) with
      | none => exact absurd hsu ((List.find?_eq_none.1 hf) u (List.mem_reverse.2 hu))
      | some w =>
        obtain ⟨k1, k2, k3⟩ := find_by hr hf
        have k1 := List.mem_reverse.1 k1
        simp only [surr, decide_eq_true_eq] at k2
        have e : u = w := by
          rcases k3 u (List.mem_reverse.2 hu) hsu with e | e
          · exact e
          · have := hmax w.t (hin w k1 k2.2.2.2.1 k2.2.2.2.2); omega
        subst e
        simp only [if_neg (show ¬ (4 : Int) = 0 by decide)]
        rw [show max (max 0 a.t) m = max a.t u.t by have := c.fine.2.2.2.2.1; rw [g5, Int.max_eq_right this]]
    · rw [if_neg hm, h0, hz fun b hb ⟨h1, h2⟩ => by have := hmax b.t (hin b hb h1 h2); omega]
theorem judge_is (q : DInv p h A Q) (c : Comes p h a) : pJudge p h A a = dJudge p (votesOf p h A a.v) a := by
  have hso := votes_sorted (p := p) (h := h) (v := a.v) q.ua
  unfold pJudge dJudge
  have h0 := c.fine.2.2.2.2.1
  cases hv : vaOf A a.v (dlo p h) a.t with
  | some w =>
    obtain ⟨g1, g2⟩ := (va_some q).1 hv
    cases hf : (votesOf p h A a.v).find? (fun b => decide (b.t = a.t)) with
    | none => exact absurd (by simpa using g2) ((List.find?_eq_none.1 hf) w g1)
    | some u =>
      obtain ⟨k1, k2, _⟩ := find_by hso hf
      simp only [decide_eq_true_eq] at k2
      have e : u = w := by
        obtain ⟨a1, a2, _⟩ := mem_votes.1 g1
        obtain ⟨b1, b2, _⟩ := mem_votes.1 k1
        exact votes_uniq q.ua b1 a1 (by rw [a2, b2]) (by rw [k2, g2])
      subst e
      simp only []
      rw [show max 0 a.t = max a.t u.t by rw [k2]; omega]
  | none =>
    have hn := (va_none q).1 hv
    have hf : (votesOf p h A a.v).find? (fun b => decide (b.t = a.t)) = none := List.find?_eq_none.2 fun b hb => by simpa using hn b hb
    rw [hf]
    have hb := judge_back q c
    have ht : Sp.tellOf p.win (dep p h) a.s (Sp.viewOf (prs A a.v) a.s).1 = ((Sp.viewOf (prs A a.v) a.s).1.getD 0, (Sp.viewOf (prs A a.v) a.s).1.isSome) := by
      unfold Sp.tellOf; rw [dlow_is, if_pos ⟨c.lo, by have := c.st; have := c.hi; omega⟩]
    have hM := (view_is A a.v a.s).1
    simp only []
    unfold Sp.clashOf
    rw [ht]
    cases hw : (Sp.viewOf (prs A a.v) a.s).1 with
    | none =>
      rw [hw] at hM
      simp only [Option.isSome_none, Bool.false_eq_true, false_and, if_false]
      rw [hb]
      have hg : (votesOf p h A a.v).find? (fun b => decide (b.s > a.s)) = none := List.find?_eq_none.2 fun b hb => by
        obtain ⟨b1, b2, _⟩ := mem_votes.1 hb
        simp only [decide_eq_true_eq]
        exact fun hc => hM b.t ⟨b, b1, b2, hc, rfl⟩
      rw [hg]
    | some m =>
      rw [hw] at hM
      obtain ⟨⟨u, g1, g2, g3, g4⟩, hmin⟩ := hM
      simp only [Option.getD_some, Option.isSome_some, true_and]
      have hu : u ∈ votesOf p h A a.v := mem_votes.2 ⟨g1, g2, by have := c.lo; have := (q.a u g1).2.2.1; omega, (q.a u g1).2.2.2⟩
      cases hg : (votesOf p h A a.v).find? (fun b => decide (b.s > a.s)) with
      | none => exact absurd (by simpa using g3) ((List.find?_eq_none.1 hg) u hu)
      | some w =>
        obtain ⟨k1, k2, k3⟩ := find_by hso hg
        simp only [decide_eq_true_eq] at k2
        have e : u = w := by
          rcases k3 u hu (by simpa using g3) with e | e
          · exact e
          · obtain ⟨b1, b2, _⟩ := mem_votes.1 k1
            have := hmin w.t ⟨w, b1, b2, k2, rfl⟩; omega
        subst e
        simp only []
        by_cases hm : m < a.t
        · rw [if_pos hm, if_pos (by omega)]
          unfold pJudge2
          rw [show vaOf A a.v (dlo p h) m = some u from (va_some q).2 ⟨hu, g4⟩]
          simp only [if_neg (show ¬ (3 : Int) = 0 by decide)]
          rw [show max (max 0 a.t) m = max a.t u.t by rw [g4, Int.max_eq_right h0]]
        · rw [if_neg hm, if_neg (show ¬ u.t < a.t by omega)]; exact hb
end
section
variable {p : Par} {h : Int} {A : List Att} {Q : List Pro} {v : Int}
theorem mem_insK' {α : Type} {key : α → Int} {l : List α} {a b : α} : b ∈ insK key l a ↔ b = a ∨ b ∈ l := by
  refine ⟨mem_insK, fun h => ?_⟩
  unfold insK
  rcases h with rfl | h
  · simp
  · rw [← List.takeWhile_append_dropWhile (p := fun b => decide (key b < key a)) (l := l)] at h
    rcases List.mem_append.1 h with h | h
    · exact List.mem_append.2 (.inl h)
    · exact List.mem_append.2 (.inr (by simp [h]))
theorem blocks_snoc (q : Pro) : blocksOf p h (Q ++ [q]) v = if q.v = v ∧ dfl p h ≤ q.h then insK (·.h) (blocksOf p h Q v) q else blocksOf p h Q v := by
  unfold blocksOf; rw [List.foldl_append]; rfl
theorem mem_blocks {b : Pro} : b ∈ blocksOf p h Q v ↔ b ∈ Q ∧ b.v = v ∧ dfl p h ≤ b.h := by
  suffices ∀ (R : List Pro), (b ∈ R.reverse.foldl (fun l q => if q.v = v ∧ dfl p h ≤ q.h then insK (·.h) l q else l) [] ↔ b ∈ R ∧ b.v = v ∧ dfl p h ≤ b.h) by
    have := this Q.reverse
    rw [List.reverse_reverse, List.mem_reverse] at this; exact this
  intro R
  induction R with
  | nil => simp
  | cons q R ih =>
    rw [List.reverse_cons, List.foldl_append]
    simp only [List.foldl_cons, List.foldl_nil]
    by_cases hq : q.v = v ∧ dfl p h ≤ q.h
    · rw [if_pos hq, mem_insK', ih, List.mem_cons]
      constructor
      · rintro (rfl | ⟨h1, h2⟩)
        · exact ⟨.inl rfl, hq⟩
        · exact ⟨.inr h1, h2⟩
      · rintro ⟨rfl | h1, h2⟩
        · exact .inl rfl
        · exact .inr ⟨h1, h2⟩
    · rw [if_neg hq, ih, List.mem_cons]
      constructor
      · rintro ⟨h1, h2⟩; exact ⟨.inr h1, h2⟩
      · rintro ⟨rfl | h1, h2⟩
        · exact absurd h2 hq
        · exact ⟨h1, h2⟩
theorem held_vb (q : DInv p h A Q) : Held (·.h) (vbOf Q v (dfl p h)) (dfl p h).toNat (p.win * p.elen).toNat := fun i b hb => by
  obtain ⟨⟨g1, g2, g3⟩, g4⟩ := (vb_some q).1 hb
  have := q.ok.fl
  have := q.ok.mulb
  have := (q.q b g1).2.2
  exact ⟨by omega, by omega, g4⟩
theorem held_va (q : DInv p h A Q) : Held (·.t) (vaOf A v (dlo p h)) (dlo p h).toNat p.win.toNat := fun i b hb => by
  obtain ⟨g1, g2⟩ := (va_some q).1 hb
  obtain ⟨_, _, g3, g4⟩ := mem_votes.1 g1
  have := q.ok.lo
  have := q.ok.bnd
  have : dep p h < dlo p h + p.win := by unfold dlo; omega
  exact ⟨by omega, by omega, g2⟩
theorem DInv.less {q : Pro} (i : DInv p h A (Q ++ [q])) : DInv p h A Q := ⟨i.ok, i.a, fun x hx => i.q x (by simp [hx]), i.ua, (List.pairwise_append.1 i.uq).1⟩
theorem blocks_is (q : DInv p h A Q) : items (vbOf Q v (dfl p h)) (dfl p h).toNat (p.win * p.elen).toNat = blocksOf p h Q v := by
  suffices ∀ (R : List Pro), DInv p h A R.reverse → items (vbOf R.reverse v (dfl p h)) (dfl p h).toNat (p.win * p.elen).toNat = blocksOf p h R.reverse v by
    have := this Q.reverse
    rw [List.reverse_reverse] at this; exact this q
  intro R
  induction R with
  | nil =>
    intro _
    rw [List.reverse_nil, vbOf_none (fun a ha => by cases ha)]
    exact items_nil _ _
  | cons b R ih =>
    intro i
    rw [List.reverse_cons] at i ⊢
    have il := i.less
    have e := ih il
    rw [blocks_snoc]
    by_cases hb : b.v = v ∧ dfl p h ≤ b.h
    · obtain ⟨rfl, hb⟩ := hb
      rw [if_pos ⟨rfl, hb⟩, ← e]
      have hn : vbOf R.reverse b.v (dfl p h) b.h = none := by
        cases hx : vbOf R.reverse b.v (dfl p h) b.h with
        | none => rfl
        | some u =>
          obtain ⟨⟨g1, g2, _⟩, g4⟩ := (vb_some il).1 hx
          exact absurd ⟨g2, g4⟩ ((List.pairwise_append.1 i.uq).2.2 u g1 b (by simp))
      rw [← vbOf_put hb hn]
      have := il.ok.fl
      have hbh := (i.q b (by simp)).2.2
      obtain ⟨t, ht⟩ : ∃ t : Nat, b.h = (t : Int) := ⟨b.h.toNat, by omega⟩
      have := items_put (held_vb (v := b.v) il) (t := t) (a := b) (by omega) (by omega) ht (by rw [← ht]; exact hn)
      rw [← ht] at this; exact this
    · rw [if_neg hb, ← e]
      congr 1
      funext t
      unfold vbOf
      split
      · rfl
      · rw [List.find?_append]
        have hne : ¬ (b.v = v ∧ b.h = t) := fun ⟨x, y⟩ => hb ⟨x, by omega⟩
        simp [hne]
theorem votes_is (q : DInv p h A Q) : items (vaOf A v (dlo p h)) (dlo p h).toNat p.win.toNat = votesOf p h A v := by
  have hs : (items (vaOf A v (dlo p h)) (dlo p h).toNat p.win.toNat).Pairwise fun a b => a.t < b.t := by
    unfold items
    rw [List.pairwise_filterMap]
    refine List.pairwise_lt_range.imp fun {k j} hkj x hx y hy => ?_
    have h1 := ((va_some q).1 hx).2
    have h2 := ((va_some q).1 hy).2
    omega
  refine sorted_eq (fun a : Att => a.t) hs (votes_sorted q.ua) fun b => ?_
  rw [mem_items]
  constructor
  · rintro ⟨k, _, hk⟩; exact ((va_some q).1 hk).1
  · intro hb
    have hv := (va_some q).2 ⟨hb, rfl⟩
    obtain ⟨h1, h2, _⟩ := held_va q _ _ hv
    exact ⟨(b.t - ((dlo p h).toNat : Int)).toNat, by omega, by rw [show (((dlo p h).toNat + (b.t - ((dlo p h).toNat : Int)).toNat : Nat) : Int) = b.t by omega]; exact hv⟩
end
def Vd.c (x : Vd) : Array Value := vdC x.k x.a.cl x.b.cl x.f
structure VdOk (x : Vd) : Prop where
  a : x.a.r.length = 32
  b : x.b.r.length = 32
theorem Vd.c_size {x : Vd} (h : VdOk x) : x.c.size = 73 := vdC_size (Att.tl h.a) (Pro.tl h.b)
theorem Vd.c_one {x : Vd} : x.c.all (·.oneCell') = true := by
  have h1 := Att.c_one x.a
  have h2 := Pro.c_one x.b
  rw [← Array.all_toList] at h1 h2
  unfold Vd.c vdC
  rw [List.all_toArray, List.all_cons, List.all_append, List.all_append, show x.a.cl.all (·.oneCell') = true from h1, show x.b.cl.all (·.oneCell') = true from h2]; rfl
theorem Vd.z_ok : VdOk Vd.z := ⟨by kernel_rfl, by kernel_rfl⟩
def J1 (V : Int → Option Att) (p : Par) (a : Att) : Vd × Bool :=
  match V a.t with
  | none => (Vd.z, false)
  | some b => (if a.dg == b.dg then ⟨1, b, zPro, 0⟩ else ⟨2, b, zPro, (p.first (max 0 a.t)).1⟩, true)
def J2 (V : Int → Option Att) (p : Par) (a : Att) (c : Int × Int) : Vd × Bool :=
  match V c.2 with
  | none => (⟨c.1, zAtt, zPro, (p.first (max (max 0 a.t) c.2)).1⟩, false)
  | some b => (⟨c.1, b, zPro, (p.first (max (max 0 a.t) c.2)).1⟩, decide (c.1 ≠ 0))
theorem pJudge_is (p : Par) (h : Int) (A : List Att) (a : Att) : pJudge p h A a = if (J1 (vaOf A a.v (dlo p h)) p a).2 = true then (J1 (vaOf A a.v (dlo p h)) p a).1 else if (J2 (vaOf A a.v (dlo p h)) p a (Sp.clashOf p.win (dep p h) a.s a.t (Sp.viewOf (prs A a.v)))).2 = true then (J2 (vaOf A a.v (dlo p h)) p a (Sp.clashOf p.win (dep p h) a.s a.t (Sp.viewOf (prs A a.v)))).1 else Vd.z := by
  unfold pJudge J1
  cases vaOf A a.v (dlo p h) a.t with
  | some w => simp
  | none =>
    simp only [Bool.false_eq_true, if_false]
    unfold pJudge2 J2
    cases vaOf A a.v (dlo p h) (Sp.clashOf p.win (dep p h) a.s a.t (Sp.viewOf (prs A a.v))).2 with
    | none => simp
    | some w =>
      by_cases hc : (Sp.clashOf p.win (dep p h) a.s a.t (Sp.viewOf (prs A a.v))).1 = 0
      · simp [hc]
      · simp [hc]
section
variable {gp ga gd d q sp r : Nat} {a : Att} {p : Par} {h : Int} {P : Nat → Option Nat} {v : Int} {A : RD Att} {B : RD Pro} {FP : Nat → Prop} {WW EE : Int} {view : Int → Option Int × Option Int} {w : World}
theorem djudge1_all (ha : a.Ok) (hp : p.Ok) (h0 : 0 ≤ a.t) (hgp : w.heap[gp]? = some (.cells #[.pointer (some ⟨q, 0, none⟩)] 76 (0, 0))) (hq : w.heap[q]? = some (.cells #[.pointer (some ⟨sp, 0, none⟩), .pointer (some ⟨r, 0, none⟩)] 85 (0, 0))) (hga : w.heap[ga]? = some (.cells (Att.c a) 28 (0, 0))) (hgd : w.heap[gd]? = some (.cells #[.pointer (some ⟨d, 0, none⟩)] 22 (0, 0))) (hd : w.heap[d]? = some (.cells (detC p h P) 79 (0, 0))) (hR : RecAt w r v A B) :
    Calls prog 83 #[.pointer (some ⟨gp, 0, none⟩), .pointer (some ⟨ga, 0, none⟩), .pointer (some ⟨gd, 0, none⟩)] w (RK w (.tuple #[.agg (J1 A.V p a).1.c, .bool (J1 A.V p a).2])) := by
  unfold J1
  cases hV : A.V a.t with
  | none => exact djudge1_no gp ga gd d q sp r a ha.r p hp h P v A B w hgp hq hga hgd hd hR hV
  | some b =>
    have hb : b.Ok := (hR.a.out _ _ hV).2.2.2
    by_cases hs : (a.dg == b.dg) = true
    · simp only [hs, if_true]
      exact djudge1_same gp ga gd d q sp r a ha.r p hp h P v A B w hgp hq hga hgd hd hR b hV ha hb hb.r hs
    · simp only [hs]
      exact djudge1_other gp ga gd d q sp r a ha.r p hp h P v A B w hgp hq hga hgd hd hR b hV ha hb hb.r (by simpa using hs) (by have := ha.t; constructor <;> omega)
theorem djudge2_all (ha : a.Ok) (hp : p.Ok) (h0 : 0 ≤ a.t) (hgp : w.heap[gp]? = some (.cells #[.pointer (some ⟨q, 0, none⟩)] 76 (0, 0))) (hq : w.heap[q]? = some (.cells #[.pointer (some ⟨sp, 0, none⟩), .pointer (some ⟨r, 0, none⟩)] 85 (0, 0))) (hga : w.heap[ga]? = some (.cells (Att.c a) 28 (0, 0))) (hgd : w.heap[gd]? = some (.cells #[.pointer (some ⟨d, 0, none⟩)] 22 (0, 0))) (hd : w.heap[d]? = some (.cells (detC p h P) 79 (0, 0))) (hS : Sp.SpanView w FP sp WW EE view) (hR : RecAt w r v A B) (hmx : i64ok (max (max 0 a.t) (Sp.clashOf WW EE a.s a.t view).2)) :
    Calls prog 88 #[.pointer (some ⟨gp, 0, none⟩), .pointer (some ⟨ga, 0, none⟩), .pointer (some ⟨gd, 0, none⟩)] w fun e w' => e = .returned (.tuple #[.agg (J2 A.V p a (Sp.clashOf WW EE a.s a.t view)).1.c, .bool (J2 A.V p a (Sp.clashOf WW EE a.s a.t view)).2]) ∧ Sp.SpanView w' FP sp WW EE view ∧ RecAt w' r v A B ∧ Keeps (One sp) w w' := by
  unfold J2
  rcases hc : Sp.clashOf WW EE a.s a.t view with ⟨ck, ct⟩
  rw [hc] at hmx
  simp only [] at hmx ⊢
  cases hV : A.V ct with
  | none => exact djudge2_ok gp ga gd d q sp r a ha.r p hp h P v A B FP WW EE view w hgp hq hga hgd hd hS hR ck ct hc hmx zAtt false _ (.inr ⟨rfl, hV, rfl⟩) zAtt_r rfl
  | some b =>
    have hb : b.Ok := (hR.a.out _ _ hV).2.2.2
    by_cases hk : ck = 0
    · simp only [hk, ne_eq, not_true, decide_false]
      subst hk
      exact djudge2_ok gp ga gd d q sp r a ha.r p hp h P v A B FP WW EE view w hgp hq hga hgd hd hS hR 0 ct hc hmx b true _ (.inl ⟨rfl, hV⟩) hb.r rfl
    · simp only [ne_eq, hk, not_false_eq_true, decide_true]
      exact djudge2_ok gp ga gd d q sp r a ha.r p hp h P v A B FP WW EE view w hgp hq hga hgd hd hS hR ck ct hc hmx b true _ (.inl ⟨rfl, hV⟩) hb.r (by simp [hk])
end
def DetT (B : Nat) (w : World) (d : Nat) (p : Par) (h : Int) (A : List Att) (Q : List Pro) (F R : Nat → Prop) (T : (Nat → Option PD) → Prop) : Prop :=
  ∃ P who, DetP w d p h (fun _ => h) A Q P who ∧ T P ∧ (∀ j, DF d P j → F j ∨ B ≤ j) ∧ ∀ j, DR P j → R j ∧ j < B
def AnyP : (Nat → Option PD) → Prop := fun _ => True
def HasP (v : Nat) (x : PD) : (Nat → Option PD) → Prop := fun P => P v = some x
section
variable {B : Nat} {w w' : World} {d : Nat} {p : Par} {h : Int} {A : List Att} {Q : List Pro} {F R : Nat → Prop} {T : (Nat → Option PD) → Prop}
theorem DetT.keepsN (s : DetT B w d p h A Q F R T) (k : Keeps Nob w w') : DetT B w' d p h A Q F R T := let ⟨P, who, a, b⟩ := s; ⟨P, who, a.keepsN k, b⟩
theorem DetT.any (s : DetT B w d p h A Q F R T) : DetT B w d p h A Q F R AnyP := let ⟨P, who, a, _, b⟩ := s; ⟨P, who, a, trivial, b⟩
theorem DetT.one (s : DetT B w d p h A Q F R T) {g : Nat} {cs : Array Value} {U : TypeId} (hg : w.heap[g]? = some (.cells cs U (0, 0))) (hB : B ≤ g) (k : Keeps (One g) w w')
    (h5 : 79 ≠ U := by decide) (h0 : 161 ≠ U := by decide) (h1 : 184 ≠ U := by decide) (h2 : 185 ≠ U := by decide) (h3 : 192 ≠ U := by decide) (h4 : 168 ≠ U := by decide)
    (u1 : U ≠ 85 := by decide) (u2 : U ≠ 122 := by decide) (u3 : U ≠ 28 := by decide) (u4 : U ≠ 37 := by decide) : DetT B w' d p h A Q F R T := by
  obtain ⟨P, who, a, b, c, e⟩ := s
  refine ⟨P, who, a.keeps k (fun j hj (hm : j = g) => ?_) (fun j hj (hm : j = g) => ?_) ⟨Odd.one hg u1, Odd.one hg u2, Odd.one hg u3, Odd.one hg u4⟩, b, c, e⟩
  · subst hm; exact a.odd h5 h0 h1 h2 h3 h4 _ _ _ hj hg
  · subst hm; have := (e j hj).2; omega
theorem DetT.f_of (s : DetT B w d p h A Q F R T) : F d ∨ B ≤ d := let ⟨_, _, _, _, c, _⟩ := s; c d (.inl rfl)
theorem DetT.kd (s : DetT B w d p h A Q F R T) : ∀ i, i < B → One d i → F i := fun i hi (hm : i = d) => by
  subst hm
  rcases s.f_of with e | e
  · exact e
  · omega
theorem DetT.blk (s : DetT B w d p h A Q F R T) : ∃ P, w.heap[d]? = some (.cells (detC p h P) 79 (0, 0)) := let ⟨_, _, a, _⟩ := s; ⟨_, a.blk⟩
theorem DetT.f (s : DetT B w d p h A Q F R T) : F d ∨ B ≤ d := let ⟨_, _, _, _, c, _⟩ := s; c d (.inl rfl)
theorem DetT.sp {v : Nat} {x : PD} (s : DetT B w d p h A Q F R (HasP v x)) (hv : v < 32) : F x.sp ∨ B ≤ x.sp := let ⟨_, _, _, b, c, _⟩ := s; c x.sp (.inr ⟨v, x, hv, b, .inl rfl⟩)
theorem DetT.ks {v : Nat} {x : PD} (s : DetT B w d p h A Q F R (HasP v x)) (hv : v < 32) : ∀ i, i < B → One x.sp i → F i := fun i hi (hm : i = x.sp) => by
  subst hm
  rcases s.sp hv with e | e
  · exact e
  · omega
theorem DetT.own {v : Nat} {x : PD} (s : DetT B w d p h A Q F R (HasP v x)) (hv : v < 32) : ∀ j, x.own j → F j ∨ B ≤ j := let ⟨_, _, _, b, c, _⟩ := s; fun j hj => c j (.inr ⟨v, x, hv, b, hj⟩)
theorem DetT.part {v : Nat} {x : PD} (s : DetT B w d p h A Q F R (HasP v x)) (hv : v < 32) : PartAt w x (v : Int) p.win (dep p h) (Sp.viewOf (prs A v)) ∧ ((x.A.low : Int) = dlo p h ∧ (x.A.n : Int) = p.win ∧ x.A.V = vaOf A v (dlo p h)) ∧ ((x.B.low : Int) = dfl p h ∧ (x.B.n : Int) = p.win * p.elen ∧ x.B.V = vbOf Q v (dfl p h)) :=
  let ⟨_, _, a, b, _⟩ := s; a.part v x hv b
theorem dof_T (s : DetT B w d p h A Q F R T) (hB : B ≤ w.heap.size) (hk : DOk p h) {v : Nat} (hv : v < 32) {vi : Int} (hvi : vi = (v : Int)) :
    Calls prog 48 #[.pointer (some ⟨d, 0, none⟩), iI vi] w fun e w' => ∃ x, e = .returned (.pointer (some ⟨x.q, 0, none⟩)) ∧ DetT B w' d p h A Q F R (HasP v x) ∧ Keeps (One d) w w' := by
  subst hvi
  obtain ⟨P, who, a, _, c, e⟩ := s
  refine (dof_ok a hk hv).mono ?_
  rintro _ w' ⟨x, P', who', rfl, h1, h2, h3, h4, k⟩
  refine ⟨x, rfl, ⟨P', who', h4, h1, fun j hj => ?_, fun j hj => ?_⟩, k⟩
  · rcases hj with rfl | ⟨u, y, hu, hy, hj⟩
    · exact c j (.inl rfl)
    · by_cases hne : u = v
      · subst hne
        rw [h1] at hy
        simp only [Option.some.injEq] at hy
        subst hy
        rcases h3 with h3 | ⟨_, h3, _⟩
        · exact c j (.inr ⟨u, x, hu, h3, hj⟩)
        · exact .inr (Nat.le_trans hB (h3 j hj))
      · exact c j (.inr ⟨u, y, hu, (h2 u hne) ▸ hy, hj⟩)
  · obtain ⟨u, y, hu, hy, hj⟩ := hj
    by_cases hne : u = v
    · subst hne
      rw [h1] at hy
      simp only [Option.some.injEq] at hy
      subst hy
      rcases h3 with h3 | ⟨_, _, h3⟩
      · exact e j ⟨u, x, hu, h3, hj⟩
      · rw [h3] at hj; exact hj.elim
    · exact e j ⟨u, y, hu, (h2 u hne) ▸ hy, hj⟩
theorem J1_ok {V : Int → Option Att} {p : Par} {a : Att} (hV : ∀ i b, V i = some b → b.Ok) : VdOk (J1 V p a).1 := by
  unfold J1
  cases h : V a.t with
  | none => exact Vd.z_ok
  | some b => dsimp only; split <;> exact ⟨(hV _ _ h).r, by kernel_rfl⟩
theorem J2_ok {V : Int → Option Att} {p : Par} {a : Att} {c : Int × Int} (hV : ∀ i b, V i = some b → b.Ok) : VdOk (J2 V p a c).1 := by
  unfold J2
  cases h : V c.2 with
  | none => exact ⟨by kernel_rfl, by kernel_rfl⟩
  | some b => exact ⟨(hV _ _ h).r, by kernel_rfl⟩
theorem djudge1_T {v : Nat} {x : PD} {a : Att} {gp ga gd : Nat} (s : DetT B w d p h A Q F R (HasP v x)) (hv : v < 32) (hp : p.Ok) (ha : a.Ok) (h0 : 0 ≤ a.t) (hvv : a.v = (v : Int)) {j1 : Vd × Bool} (hj : J1 (vaOf A a.v (dlo p h)) p a = j1) (hgp : w.heap[gp]? = some (.cells #[.pointer (some ⟨x.q, 0, none⟩)] 76 (0, 0))) (hga : w.heap[ga]? = some (.cells (Att.c a) 28 (0, 0))) (hgd : w.heap[gd]? = some (.cells #[.pointer (some ⟨d, 0, none⟩)] 22 (0, 0))) :
    Calls prog 83 #[.pointer (some ⟨gp, 0, none⟩), .pointer (some ⟨ga, 0, none⟩), .pointer (some ⟨gd, 0, none⟩)] w (RK w (.tuple #[.agg j1.1.c, .bool j1.2])) := by
  obtain ⟨P, hd⟩ := s.blk
  obtain ⟨q1, ⟨_, _, q2⟩, _⟩ := s.part hv
  have c := djudge1_all ha hp h0 hgp q1.blk hga hgd hd q1.rec_
  rw [q2, ← hvv, hj] at c; exact c
theorem djudge2_T {v : Nat} {x : PD} {a : Att} {gp ga gd : Nat} (s : DetT B w d p h A Q F R (HasP v x)) (hv : v < 32) (hp : p.Ok) (ha : a.Ok) (h0 : 0 ≤ a.t) (hvv : a.v = (v : Int)) {j2 : Vd × Bool} (hj : J2 (vaOf A a.v (dlo p h)) p a (Sp.clashOf p.win (dep p h) a.s a.t (Sp.viewOf (prs A a.v))) = j2) (hct : i64ok (Sp.clashOf p.win (dep p h) a.s a.t (Sp.viewOf (prs A a.v))).2) (hgp : w.heap[gp]? = some (.cells #[.pointer (some ⟨x.q, 0, none⟩)] 76 (0, 0))) (hga : w.heap[ga]? = some (.cells (Att.c a) 28 (0, 0))) (hgd : w.heap[gd]? = some (.cells #[.pointer (some ⟨d, 0, none⟩)] 22 (0, 0))) :
    Calls prog 88 #[.pointer (some ⟨gp, 0, none⟩), .pointer (some ⟨ga, 0, none⟩), .pointer (some ⟨gd, 0, none⟩)] w fun e w' => e = .returned (.tuple #[.agg j2.1.c, .bool j2.2]) ∧ DetT B w' d p h A Q F R (HasP v x) ∧ Keeps (One x.sp) w w' := by
  obtain ⟨P0, hd⟩ := s.blk
  obtain ⟨q1, ⟨q3, q4, q2⟩, q5⟩ := s.part hv
  have c := djudge2_all ha hp h0 hgp q1.blk hga hgd hd q1.span q1.rec_ (by rw [← hvv]; have := ha.t; unfold i64ok at hct ⊢; omega)
  rw [q2, ← hvv, hj] at c
  refine c.mono ?_
  rintro e w' ⟨rfl, hS, hR, k⟩
  obtain ⟨P, who, a1, b1, c1, d1⟩ := s
  have k2 : Keeps x.own w w' := k.mono fun j _ (hj : j = x.sp) => .inl hj
  have hq : w'.heap[x.q]? = some (.cells #[.pointer (some ⟨x.sp, 0, none⟩), .pointer (some ⟨x.r, 0, none⟩)] 85 (0, 0)) := k2.odd q1.still.1 q1.blk
  obtain ⟨who', g⟩ := a1.turn hv b1 k2 (x' := x) rfl (fun _ h => h) (fun _ h => .inl h) (g' := fun _ => h) (fun _ _ => rfl) (A' := A) (Q' := Q) (fun u _ => ⟨rfl, fun _ => rfl, fun _ => rfl, id, id⟩) ⟨⟨hq, by rw [← hvv]; exact hS, hvv ▸ hR⟩, ⟨q3, q4, q2⟩, q5⟩
  have e : (fun u => if u = v then some x else P u) = P := by
    funext u
    by_cases hu : u = v
    · subst hu; rw [if_pos rfl]; exact b1.symm
    · rw [if_neg hu]
  rw [e] at g
  exact ⟨rfl, ⟨P, who', g, b1, c1, d1⟩, k⟩
end
theorem vd_sizes {x y : Array Value} (hn : x.size = 73) (ho : y.size = 73) : y.size = x.size := ho.trans hn.symm
def qc102_0 (n : Nat) : Code := partOf f47 n
theorem djudge_one (d : Nat) (a : Att) (p : Par) (hp : p.Ok) (h : Int) (A : List Att) (Q : List Pro) (F R : Nat → Prop) (v : Nat) (hv : v < 32) (ha : a.Ok) (hr_a : a.r.length = 32) (hvv : a.v = (v : Int)) (h0 : 0 ≤ a.t) (hk : DOk p h) (w : World) (s : DetT w.heap.size w d p h A Q F R AnyP) (x1 : Vd) (hx1 : VdOk x1) (hj1 : J1 (vaOf A a.v (dlo p h)) p a = (x1, true)) :
  Calls prog 47 #[pT d 0, .agg (Att.c a)] w (fun e w' => e = .returned (.agg (Vd.c x1)) ∧ DetT w.heap.size w' d p h A Q F R AnyP ∧ Keeps F w w') := by
 obtain ⟨PP, hPP⟩ := s.blk
 have nd := lt_of_block hPP
 have K0 : Keeps F w w := Keeps.refl _ _
 refine sf_ (qc102_0 1) func47 <| qr_ [0, 1, 2] <| pbx 22 (#[pT d 0]) (pT d 0) fun V1 gd egd h2 j1 => ?_
 have n3 := nk egd K0
 have h4 := s.keepsN j1
 have ⟨K5, z6⟩ := j1.z0 K0
 refine pbg 28 (Att.c a) fun V7 ga ega h8 j7 => ?_
 have := nqk1 ega h2 K5
 have h11 := h4.keepsN j7
 have ⟨K13, z14, h12⟩ := j7.z1 K5 h2
 refine pag 57 (vdC 0 attZ proZ 0) fun V15 res eres h16 j15 => ?_
 have := nqk2 eres h12 h8 K13
 have h20 := h11.keepsN j15
 have ⟨K23, z24, h21, h22⟩ := j15.z2 K13 h12 h8
 refine eqr_ nl6_ <| pP (lk h21) <| kk 1 <| pP (lc h22 (Att.c_0 _)) ?_
 refine pct ((dof_T h20 K23.size hk hv hvv).mono ?_)
 rintro e V25 ⟨x, rfl, hJV25, j25⟩
 refine ⟨_, rfl, ?_⟩
 have ⟨h26, h27, h28⟩ := j25.ko3 h21 h22 h16
 have K29 : Keeps F w V25 := K23.then j25 (DetT.kd h20)
 have z30 := j25.size
 refine pal 76 (#[.pointer none]) (.pointer none) fun V31 gp egp h32 j31 => ?_
 have := nq3 egp h26 h27 h28
 have n36 := nk egp K29
 have ⟨h37, h38, h39⟩ := j31.k3 h26 h27 h28
 have h40 := hJV25.keepsN j31
 have ⟨K41, z42⟩ := j31.z0 K29
 refine pce 76 gp 0 (pT x.q 0) (#[pT x.q 0]) h32 (rc h32 (by kernel_rfl)) (by kernel_rfl) (u := .pointer none) fun V43 h44 j43 => ?_
 have ⟨h45, h46, h47⟩ := j43.ko3 h37 h38 h39
 have h48 : DetT w.heap.size V43 d p h A Q F R (HasP v x) := DetT.one h40 h32 (by omega) j43
 have ⟨K49, z50⟩ := j43.zo0 K41
 refine eq_ <| qr_ nl5_ <| kk 2 <| pbs 147 (#[.func (.func 83) #[] #[pT gp 0, pT ga 0, pT gd 0], .func (.func 88) #[] #[pT gp 0, pT ga 0, pT gd 0]]) 2 fun V51 gf egf h52 j51 => ?_
 have := nq3 egf h45 h46 h47
 have := nqk1 egf h44 K49
 have ⟨h58, h59, h60⟩ := j51.k3 h45 h46 h47
 have h61 := h48.keepsN j51
 have ⟨K63, z64, h62⟩ := j51.z1 K49 h44
 refine pP (len_ (some ⟨gf, 0, none⟩) 2 2 underlying150) <| kk 1 <| et_ <| bl_ 0 <| sy_rounds 3 (qc102_0 116) (by kernel_rfl) <| rd_step <| qr_ [0] <| kk 1 <| eq_ <| y_ <| s_ <| tq_ <| bl_ 1 <| qr_ [0, 1, 2] <| ppq (pT gf 0) (exec_cast (v := pT gf (0 + 0 * 1)) (by simp) (ixs gf 0 2 2 .i64 0 1 underlying150 (by omega))) <| pP (lk h52) <| kk 1 <| eqr_ nl8_ <| kk 1 ?_
 refine pcv 83 #[] #[pT gp 0, pT ga 0, pT gd 0] #[pT gp 0, pT ga 0, pT gd 0] (enters_of func83 (by kernel_rfl) rfl) ((djudge1_T h61 hv hp ha h0 hvv hj1 h62 h59 h58).mono ?_)
 rintro e V65 ⟨rfl, j65⟩
 refine ⟨_, rfl, ?_⟩
 have ⟨h66, h67, h68⟩ := j65.k3 h58 h59 h60
 have h69 := h61.keepsN j65
 have ⟨K72, z73, h70, h71⟩ := j65.z2 K63 h62 h52
 refine kk 3 <| pag 57 (vdC 0 attZ proZ 0) fun V74 g75 eg75 h76 j74 => ?_
 have := nq3 eg75 h66 h67 h68
 have := nqk2 eg75 h70 h71 K72
 have h85 := j74.bk h68
 have h86 := h69.keepsN j74
 have ⟨K89, z90⟩ := j74.z0 K72
 refine pst 57 g75 (Vd.c x1) h76 (by rw [Vd.c_size hx1]; kernel_rfl) (vd_sizes (Vd.c_size hx1) (by kernel_rfl)) Vd.c_one fun V91 h92 j91 => ?_
 have h95 := j91.bO h85
 have h96 : DetT w.heap.size V91 d p h A Q F R (HasP v x) := DetT.one h86 h76 (by omega) j91
 have ⟨K99, z100⟩ := j91.zo0 K89
 refine kk 1 <| ps_end <| tqr_ [0] <| kk 1 <| ey_ <| qr_ [0, 1] <| pP (ldz 57 g75 h92 (Vd.c_size hx1)) <| pst 57 res (Vd.c x1) h95 (by rw [Vd.c_size hx1]; kernel_rfl) (vd_sizes (Vd.c_size hx1) (by kernel_rfl)) Vd.c_one fun V101 h102 j101 => ?_
 have h105 : DetT w.heap.size V101 d p h A Q F R (HasP v x) := DetT.one h96 h95 (by omega) j101
 have ⟨K109, z110⟩ := j101.zo0 K99
 refine eu_ <| blk_r <| then_r <| then_r <| blk_r <| then_r <| sor 57 res h102 underlying57 (by rw [Vd.c_size hx1]; kernel_rfl) ?_
 exact ⟨rfl, h105.any, K109⟩
theorem djudge_two (d : Nat) (a : Att) (p : Par) (hp : p.Ok) (h : Int) (A : List Att) (Q : List Pro) (F R : Nat → Prop) (v : Nat) (hv : v < 32) (ha : a.Ok) (hr_a : a.r.length = 32) (hvv : a.v = (v : Int)) (h0 : 0 ≤ a.t) (hk : DOk p h) (w : World) (s : DetT w.heap.size w d p h A Q F R AnyP) (x1 : Vd) (hx1 : VdOk x1) (hj1 : J1 (vaOf A a.v (dlo p h)) p a = (x1, false)) (x2 : Vd) (hx2 : VdOk x2) (hj2 : J2 (vaOf A a.v (dlo p h)) p a (Sp.clashOf p.win (dep p h) a.s a.t (Sp.viewOf (prs A a.v))) = (x2, true)) (hct : i64ok (Sp.clashOf p.win (dep p h) a.s a.t (Sp.viewOf (prs A a.v))).2) :
  Calls prog 47 #[pT d 0, .agg (Att.c a)] w (fun e w' => e = .returned (.agg (Vd.c x2)) ∧ DetT w.heap.size w' d p h A Q F R AnyP ∧ Keeps F w w') := by
 obtain ⟨PP, hPP⟩ := s.blk
 have nd := lt_of_block hPP
 have K0 : Keeps F w w := Keeps.refl _ _
 refine sf_ (qc102_0 1) func47 <| qr_ [0, 1, 2] <| pbx 22 (#[pT d 0]) (pT d 0) fun V1 gd egd h2 j1 => ?_
 have n3 := nk egd K0
 have h4 := s.keepsN j1
 have ⟨K5, z6⟩ := j1.z0 K0
 refine pbg 28 (Att.c a) fun V7 ga ega h8 j7 => ?_
 have := nqk1 ega h2 K5
 have h11 := h4.keepsN j7
 have ⟨K13, z14, h12⟩ := j7.z1 K5 h2
 refine pag 57 (vdC 0 attZ proZ 0) fun V15 res eres h16 j15 => ?_
 have := nqk2 eres h12 h8 K13
 have h20 := h11.keepsN j15
 have ⟨K23, z24, h21, h22⟩ := j15.z2 K13 h12 h8
 refine eqr_ nl6_ <| pP (lk h21) <| kk 1 <| pP (lc h22 (Att.c_0 _)) ?_
 refine pct ((dof_T h20 K23.size hk hv hvv).mono ?_)
 rintro e V25 ⟨x, rfl, hJV25, j25⟩
 refine ⟨_, rfl, ?_⟩
 have ⟨h26, h27, h28⟩ := j25.ko3 h21 h22 h16
 have K29 : Keeps F w V25 := K23.then j25 (DetT.kd h20)
 have z30 := j25.size
 refine pal 76 (#[.pointer none]) (.pointer none) fun V31 gp egp h32 j31 => ?_
 have := nq3 egp h26 h27 h28
 have n36 := nk egp K29
 have ⟨h37, h38, h39⟩ := j31.k3 h26 h27 h28
 have h40 := hJV25.keepsN j31
 have ⟨K41, z42⟩ := j31.z0 K29
 refine pce 76 gp 0 (pT x.q 0) (#[pT x.q 0]) h32 (rc h32 (by kernel_rfl)) (by kernel_rfl) (u := .pointer none) fun V43 h44 j43 => ?_
 have ⟨h45, h46, h47⟩ := j43.ko3 h37 h38 h39
 have h48 : DetT w.heap.size V43 d p h A Q F R (HasP v x) := DetT.one h40 h32 (by omega) j43
 have ⟨K49, z50⟩ := j43.zo0 K41
 refine eq_ <| qr_ nl5_ <| kk 2 <| pbs 147 (#[.func (.func 83) #[] #[pT gp 0, pT ga 0, pT gd 0], .func (.func 88) #[] #[pT gp 0, pT ga 0, pT gd 0]]) 2 fun V51 gf egf h52 j51 => ?_
 have := nq3 egf h45 h46 h47
 have := nqk1 egf h44 K49
 have ⟨h58, h59, h60⟩ := j51.k3 h45 h46 h47
 have h61 := h48.keepsN j51
 have ⟨K63, z64, h62⟩ := j51.z1 K49 h44
 refine pP (len_ (some ⟨gf, 0, none⟩) 2 2 underlying150) <| kk 1 <| et_ <| bl_ 0 <| sy_rounds 3 (qc102_0 116) (by kernel_rfl) <| rd_step <| qr_ [0] <| kk 1 <| eq_ <| y_ <| s_ <| tq_ <| bl_ 1 <| qr_ [0, 1, 2] <| ppq (pT gf 0) (exec_cast (v := pT gf (0 + 0 * 1)) (by simp) (ixs gf 0 2 2 .i64 0 1 underlying150 (by omega))) <| pP (lk h52) <| kk 1 <| eqr_ nl8_ <| kk 1 ?_
 refine pcv 83 #[] #[pT gp 0, pT ga 0, pT gd 0] #[pT gp 0, pT ga 0, pT gd 0] (enters_of func83 (by kernel_rfl) rfl) ((djudge1_T h61 hv hp ha h0 hvv hj1 h62 h59 h58).mono ?_)
 rintro e V65 ⟨rfl, j65⟩
 refine ⟨_, rfl, ?_⟩
 have ⟨h66, h67, h68⟩ := j65.k3 h58 h59 h60
 have h69 := h61.keepsN j65
 have ⟨K72, z73, h70, h71⟩ := j65.z2 K63 h62 h52
 refine kk 3 <| pag 57 (vdC 0 attZ proZ 0) fun V74 g75 eg75 h76 j74 => ?_
 have := nq3 eg75 h66 h67 h68
 have := nqk2 eg75 h70 h71 K72
 have ⟨h83, h84, h85⟩ := j74.k3 h66 h67 h68
 have h86 := h69.keepsN j74
 have ⟨K89, z90, h87, h88⟩ := j74.z2 K72 h70 h71
 refine pst 57 g75 (Vd.c x1) h76 (by rw [Vd.c_size hx1]; kernel_rfl) (vd_sizes (Vd.c_size hx1) (by kernel_rfl)) Vd.c_one fun V91 h92 j91 => ?_
 have ⟨h93, h94, h95⟩ := j91.ko3 h83 h84 h85
 have h96 : DetT w.heap.size V91 d p h A Q F R (HasP v x) := DetT.one h86 h76 (by omega) j91
 have ⟨K99, z100, h97, h98⟩ := j91.zo2 K89 h87 h88
 refine kk 1 <| ps_end <| tqr_ [0] <| kk 1 <| en_ <| s_ <| blk_n <| tr_ [0, 1] <| kk 2 <| et_ <| rd_step <| qr_ [0] <| kk 1 <| eq_ <| y_ <| s_ <| tq_ <| bl_ 1 <| qr_ [0, 1, 2] <| ppq (pT gf 1) (exec_cast (v := pT gf (0 + 1 * 1)) (by simp) (ixs gf 0 2 2 .i64 1 1 underlying150 (by omega))) <| pP (lk h98) <| kk 1 <| eqr_ nl8_ <| kk 1 ?_
 have n102 := span_ne (DetT.part h96 hv).1.span h93 (by decide)
 have n103 := span_ne (DetT.part h96 hv).1.span h94 (by decide)
 have n104 := span_ne (DetT.part h96 hv).1.span h95 (by decide)
 have n105 := span_ne (DetT.part h96 hv).1.span h97 (by decide)
 have n106 := span_ne (DetT.part h96 hv).1.span h98 (by decide)
 have n107 := span_ne (DetT.part h96 hv).1.span h92 (by decide)
 refine pcv 88 #[] #[pT gp 0, pT ga 0, pT gd 0] #[pT gp 0, pT ga 0, pT gd 0] (enters_of func88 (by kernel_rfl) rfl) ((djudge2_T h96 hv hp ha h0 hvv hj2 hct h97 h94 h93).mono ?_)
 rintro e V101 ⟨rfl, hJV101, j101⟩
 refine ⟨_, rfl, ?_⟩
 have ⟨h108, h109, h110, h111⟩ := j101.ko4 h93 h94 h95 h97
 have ⟨h112, h113⟩ := j101.ko2 h98 h92
 have K114 : Keeps F w V101 := K99.then j101 (DetT.ks h96 hv)
 have z115 := j101.size
 refine kk 3 <| pag 57 (vdC 0 attZ proZ 0) fun V116 g117 eg117 h118 j116 => ?_
 have := nq3 eg117 h108 h109 h110
 have := nq3 eg117 h111 h112 h113
 have n125 := nk eg117 K114
 have h128 := j116.bk h110
 have h132 := hJV101.keepsN j116
 have ⟨K133, z134⟩ := j116.z0 K114
 refine pst 57 g117 (Vd.c x2) h118 (by rw [Vd.c_size hx2]; kernel_rfl) (vd_sizes (Vd.c_size hx2) (by kernel_rfl)) Vd.c_one fun V135 h136 j135 => ?_
 have h139 := j135.bO h128
 have h143 : DetT w.heap.size V135 d p h A Q F R (HasP v x) := DetT.one h132 h118 (by omega) j135
 have ⟨K144, z145⟩ := j135.zo0 K133
 refine kk 1 <| eqr_ [0] <| kk 1 <| ey_ <| qr_ [0, 1] <| pP (ldz 57 g117 h136 (Vd.c_size hx2)) <| pst 57 res (Vd.c x2) h139 (by rw [Vd.c_size hx2]; kernel_rfl) (vd_sizes (Vd.c_size hx2) (by kernel_rfl)) Vd.c_one fun V146 h147 j146 => ?_
 have h153 : DetT w.heap.size V146 d p h A Q F R (HasP v x) := DetT.one h143 h139 (by omega) j146
 have ⟨K155, z156⟩ := j146.zo0 K144
 refine eu_ <| blk_r <| then_r <| then_r <| blk_r <| then_r <| sor 57 res h147 underlying57 (by rw [Vd.c_size hx2]; kernel_rfl) ?_
 exact ⟨rfl, h153.any, K155⟩
theorem djudge_none (d : Nat) (a : Att) (p : Par) (hp : p.Ok) (h : Int) (A : List Att) (Q : List Pro) (F R : Nat → Prop) (v : Nat) (hv : v < 32) (ha : a.Ok) (hr_a : a.r.length = 32) (hvv : a.v = (v : Int)) (h0 : 0 ≤ a.t) (hk : DOk p h) (w : World) (s : DetT w.heap.size w d p h A Q F R AnyP) (x1 : Vd) (hx1 : VdOk x1) (hj1 : J1 (vaOf A a.v (dlo p h)) p a = (x1, false)) (x2 : Vd) (hx2 : VdOk x2) (hj2 : J2 (vaOf A a.v (dlo p h)) p a (Sp.clashOf p.win (dep p h) a.s a.t (Sp.viewOf (prs A a.v))) = (x2, false)) (hct : i64ok (Sp.clashOf p.win (dep p h) a.s a.t (Sp.viewOf (prs A a.v))).2) :
  Calls prog 47 #[pT d 0, .agg (Att.c a)] w (fun e w' => e = .returned (.agg (Vd.c Vd.z)) ∧ DetT w.heap.size w' d p h A Q F R AnyP ∧ Keeps F w w') := by
 obtain ⟨PP, hPP⟩ := s.blk
 have nd := lt_of_block hPP
 have K0 : Keeps F w w := Keeps.refl _ _
 refine sf_ (qc102_0 1) func47 <| qr_ [0, 1, 2] <| pbx 22 (#[pT d 0]) (pT d 0) fun V1 gd egd h2 j1 => ?_
 have n3 := nk egd K0
 have h4 := s.keepsN j1
 have ⟨K5, z6⟩ := j1.z0 K0
 refine pbg 28 (Att.c a) fun V7 ga ega h8 j7 => ?_
 have := nqk1 ega h2 K5
 have h11 := h4.keepsN j7
 have ⟨K13, z14, h12⟩ := j7.z1 K5 h2
 refine pag 57 (vdC 0 attZ proZ 0) fun V15 res eres h16 j15 => ?_
 have := nqk2 eres h12 h8 K13
 have h20 := h11.keepsN j15
 have ⟨K23, z24, h21, h22⟩ := j15.z2 K13 h12 h8
 refine eqr_ nl6_ <| pP (lk h21) <| kk 1 <| pP (lc h22 (Att.c_0 _)) ?_
 refine pct ((dof_T h20 K23.size hk hv hvv).mono ?_)
 rintro e V25 ⟨x, rfl, hJV25, j25⟩
 refine ⟨_, rfl, ?_⟩
 have ⟨h26, h27, h28⟩ := j25.ko3 h21 h22 h16
 have K29 : Keeps F w V25 := K23.then j25 (DetT.kd h20)
 have z30 := j25.size
 refine pal 76 (#[.pointer none]) (.pointer none) fun V31 gp egp h32 j31 => ?_
 have := nq3 egp h26 h27 h28
 have n36 := nk egp K29
 have ⟨h37, h38, h39⟩ := j31.k3 h26 h27 h28
 have h40 := hJV25.keepsN j31
 have ⟨K41, z42⟩ := j31.z0 K29
 refine pce 76 gp 0 (pT x.q 0) (#[pT x.q 0]) h32 (rc h32 (by kernel_rfl)) (by kernel_rfl) (u := .pointer none) fun V43 h44 j43 => ?_
 have ⟨h45, h46, h47⟩ := j43.ko3 h37 h38 h39
 have h48 : DetT w.heap.size V43 d p h A Q F R (HasP v x) := DetT.one h40 h32 (by omega) j43
 have ⟨K49, z50⟩ := j43.zo0 K41
 refine eq_ <| qr_ nl5_ <| kk 2 <| pbs 147 (#[.func (.func 83) #[] #[pT gp 0, pT ga 0, pT gd 0], .func (.func 88) #[] #[pT gp 0, pT ga 0, pT gd 0]]) 2 fun V51 gf egf h52 j51 => ?_
 have := nq3 egf h45 h46 h47
 have := nqk1 egf h44 K49
 have ⟨h58, h59, h60⟩ := j51.k3 h45 h46 h47
 have h61 := h48.keepsN j51
 have ⟨K63, z64, h62⟩ := j51.z1 K49 h44
 refine pP (len_ (some ⟨gf, 0, none⟩) 2 2 underlying150) <| kk 1 <| et_ <| bl_ 0 <| sy_rounds 3 (qc102_0 116) (by kernel_rfl) <| rd_step <| qr_ [0] <| kk 1 <| eq_ <| y_ <| s_ <| tq_ <| bl_ 1 <| qr_ [0, 1, 2] <| ppq (pT gf 0) (exec_cast (v := pT gf (0 + 0 * 1)) (by simp) (ixs gf 0 2 2 .i64 0 1 underlying150 (by omega))) <| pP (lk h52) <| kk 1 <| eqr_ nl8_ <| kk 1 ?_
 refine pcv 83 #[] #[pT gp 0, pT ga 0, pT gd 0] #[pT gp 0, pT ga 0, pT gd 0] (enters_of func83 (by kernel_rfl) rfl) ((djudge1_T h61 hv hp ha h0 hvv hj1 h62 h59 h58).mono ?_)
 rintro e V65 ⟨rfl, j65⟩
 refine ⟨_, rfl, ?_⟩
 have ⟨h66, h67, h68⟩ := j65.k3 h58 h59 h60
 have h69 := h61.keepsN j65
 have ⟨K72, z73, h70, h71⟩ := j65.z2 K63 h62 h52
 refine kk 3 <| pag 57 (vdC 0 attZ proZ 0) fun V74 g75 eg75 h76 j74 => ?_
 have := nq3 eg75 h66 h67 h68
 have := nqk2 eg75 h70 h71 K72
 have ⟨h83, h84, h85⟩ := j74.k3 h66 h67 h68
 have h86 := h69.keepsN j74
 have ⟨K89, z90, h87, h88⟩ := j74.z2 K72 h70 h71
 refine pst 57 g75 (Vd.c x1) h76 (by rw [Vd.c_size hx1]; kernel_rfl) (vd_sizes (Vd.c_size hx1) (by kernel_rfl)) Vd.c_one fun V91 h92 j91 => ?_
 have ⟨h93, h94, h95⟩ := j91.ko3 h83 h84 h85
 have h96 : DetT w.heap.size V91 d p h A Q F R (HasP v x) := DetT.one h86 h76 (by omega) j91
 have ⟨K99, z100, h97, h98⟩ := j91.zo2 K89 h87 h88
 refine kk 1 <| ps_end <| tqr_ [0] <| kk 1 <| en_ <| s_ <| blk_n <| tr_ [0, 1] <| kk 2 <| et_ <| rd_step <| qr_ [0] <| kk 1 <| eq_ <| y_ <| s_ <| tq_ <| bl_ 1 <| qr_ [0, 1, 2] <| ppq (pT gf 1) (exec_cast (v := pT gf (0 + 1 * 1)) (by simp) (ixs gf 0 2 2 .i64 1 1 underlying150 (by omega))) <| pP (lk h98) <| kk 1 <| eqr_ nl8_ <| kk 1 ?_
 have n102 := span_ne (DetT.part h96 hv).1.span h93 (by decide)
 have n103 := span_ne (DetT.part h96 hv).1.span h94 (by decide)
 have n104 := span_ne (DetT.part h96 hv).1.span h95 (by decide)
 have n105 := span_ne (DetT.part h96 hv).1.span h97 (by decide)
 have n106 := span_ne (DetT.part h96 hv).1.span h98 (by decide)
 have n107 := span_ne (DetT.part h96 hv).1.span h92 (by decide)
 refine pcv 88 #[] #[pT gp 0, pT ga 0, pT gd 0] #[pT gp 0, pT ga 0, pT gd 0] (enters_of func88 (by kernel_rfl) rfl) ((djudge2_T h96 hv hp ha h0 hvv hj2 hct h97 h94 h93).mono ?_)
 rintro e V101 ⟨rfl, hJV101, j101⟩
 refine ⟨_, rfl, ?_⟩
 have ⟨h108, h109, h110, h111⟩ := j101.ko4 h93 h94 h95 h97
 have ⟨h112, h113⟩ := j101.ko2 h98 h92
 have K114 : Keeps F w V101 := K99.then j101 (DetT.ks h96 hv)
 have z115 := j101.size
 refine kk 3 <| pag 57 (vdC 0 attZ proZ 0) fun V116 g117 eg117 h118 j116 => ?_
 have := nq3 eg117 h108 h109 h110
 have := nq3 eg117 h111 h112 h113
 have n125 := nk eg117 K114
 have h128 := j116.bk h110
 have h132 := hJV101.keepsN j116
 have ⟨K133, z134⟩ := j116.z0 K114
 obtain ⟨V135, eV135, j135⟩ := rowset_step V116 g117 (Vd.c x2)
 refine pzq (w' := V135) (by rw [← eV135]; exact exec_store_row 57 (.tmp 8) (.tmp 25) (by kernel_rfl) g117 (Vd.c x2) (by kernel_rfl) (by kernel_rfl) 57 (vdC 0 attZ proZ 0) h118 (by rw [Vd.c_size hx2]; kernel_rfl) (vd_sizes (Vd.c_size hx2) (by kernel_rfl)) Vd.c_one) ?_
 clear eV135
 have h139 := j135.bO h128
 have h143 : DetT w.heap.size V135 d p h A Q F R (HasP v x) := DetT.one h132 h118 (by omega) j135
 have ⟨K144, z145⟩ := j135.zo0 K133
 refine kk 1 <| eqr_ [0] <| kk 1 <| en_ <| s_ <| blk_n <| tr_ [0, 1] <| kk 2 <| et_ <| rd_step <| qr_ [0] <| kk 1 <| eq_ <| n_ <| sy_exit 0 (by kernel_rfl) <| then_e <| then_e <| blk_e <| tqr_ [0, 1] <| kk 1 <| pst 57 res (vdC 0 attZ proZ 0) h139 (by kernel_rfl) (vd_sizes (by kernel_rfl) (by kernel_rfl)) (by kernel_rfl) fun V146 h147 j146 => ?_
 have h153 : DetT w.heap.size V146 d p h A Q F R (HasP v x) := DetT.one h143 h139 (by omega) j146
 have ⟨K155, z156⟩ := j146.zo0 K144
 refine eu_ <| sor 57 res h147 underlying57 (by kernel_rfl) ?_
 exact ⟨by kernel_rfl, h153.any, K155⟩
def attErr (p : Par) (h : Int) (a : Att) : Int := if a.err ≠ 0 then a.err else if a.s > a.t then 9 else if a.t > dep p h then 17 else if a.s < dlo p h then 16 else 0
def attVd (p : Par) (h : Int) (A : List Att) (a : Att) : Vd := if attErr p h a = 0 then dJudge p (votesOf p h A a.v) a else Vd.z
def attNew (p : Par) (h : Int) (A : List Att) (a : Att) : List Att := if attErr p h a = 0 ∧ (attVd p h A a).k = 0 then A ++ [a] else A
theorem Att.err_fine {a : Att} : a.err = 0 ↔ a.fine := by
  unfold Att.err
  constructor
  · intro h
    by_cases f : a.fine
    · exact f
    · rw [if_neg f] at h; cases h
  · intro f; rw [if_pos f]
theorem Pro.err_fine {a : Pro} : a.err = 0 ↔ a.fine := by
  unfold Pro.err
  constructor
  · intro h
    by_cases f : a.fine
    · exact f
    · rw [if_neg f] at h; cases h
  · intro f; rw [if_pos f]
theorem attErr_0 {p : Par} {h : Int} {a : Att} (e : attErr p h a = 0) : Comes p h a := by
  unfold attErr at e
  by_cases h1 : a.err = 0
  · rw [if_neg (by simpa using h1)] at e
    by_cases h2 : a.s > a.t
    · rw [if_pos h2] at e; cases e
    · rw [if_neg h2] at e
      by_cases h3 : a.t > dep p h
      · rw [if_pos h3] at e; cases e
      · rw [if_neg h3] at e
        by_cases h4 : a.s < dlo p h
        · rw [if_pos h4] at e; cases e
        · exact ⟨Att.err_fine.1 h1, by omega, by omega, by omega⟩
  · rw [if_pos h1] at e; exact absurd e h1
theorem Comes.err {p : Par} {h : Int} {a : Att} (c : Comes p h a) : attErr p h a = 0 := by
  unfold attErr
  have := c.st
  have := c.hi
  have := c.lo
  rw [if_neg (by simpa using Att.err_fine.2 c.fine), if_neg (by omega), if_neg (by omega), if_neg (by omega)]
section
variable {p : Par} {h : Int} {A : List Att} {Q : List Pro} {a : Att}
theorem judge_k0 {l : List Att} (e : (dJudge p l a).k = 0) : ∀ w ∈ l, w.t ≠ a.t := by
  unfold dJudge at e
  cases hf : l.find? (fun b => decide (b.t = a.t)) with
  | some w =>
    rw [hf] at e
    dsimp only at e
    split at e <;> cases e
  | none => intro w hw; have := (List.find?_eq_none.1 hf) w hw; simpa using this
theorem clash_bnd (q : DInv p h A Q) (v W E s t : Int) : i64ok (Sp.clashOf W E s t (Sp.viewOf (prs A v))).2 := by
  have hb : ∀ u ∈ A, i64ok u.t := fun u hu => (q.a u hu).1.t
  have h0 : i64ok 0 := ⟨by omega, by omega⟩
  have h1 : i64ok (Sp.tellOf W E s (Sp.viewOf (prs A v) s).1).1 := by
    unfold Sp.tellOf
    split
    · have hM := (view_is A v s).1
      cases hw : (Sp.viewOf (prs A v) s).1 with
      | none => exact h0
      | some m => rw [hw] at hM; obtain ⟨⟨u, g1, _, _, g4⟩, _⟩ := hM; rw [← g4]; exact hb u g1
    · exact h0
  have h2 : i64ok (Sp.tellOf W E s (Sp.viewOf (prs A v) s).2).1 := by
    unfold Sp.tellOf
    split
    · have hM := (view_is A v s).2
      cases hw : (Sp.viewOf (prs A v) s).2 with
      | none => exact h0
      | some m => rw [hw] at hM; obtain ⟨⟨u, g1, _, _, _, g4⟩, _⟩ := hM; rw [← g4]; exact hb u g1
    · exact h0
  unfold Sp.clashOf
  split
  · exact h1
  · split
    · exact h2
    · exact h0
end
def DetN (B C : Nat) (w : World) (d : Nat) (p : Par) (h : Int) (A : List Att) (Q : List Pro) (F R : Nat → Prop) : Prop :=
  ∃ P who, DetP w d p h (fun _ => h) A Q P who ∧ (∀ j, DF d P j → F j ∨ B ≤ j) ∧ ∀ j, DR P j → (R j ∧ j < B) ∨ C ≤ j
def DetMid (B C : Nat) (w : World) (d : Nat) (p : Par) (h : Int) (A : List Att) (Q : List Pro) (F R : Nat → Prop) (v : Nat) (x : PD) (a : Att) : Prop :=
  ∃ V, DetT B V d p h A Q F R (HasP v x) ∧ V.heap.size = C ∧ Keeps (One x.sp) V w ∧ Sp.SpanView w (fun j => x.FP j ∨ j = C + 1 + 1) x.sp p.win (dep p h) (Sp.viewOf (prs (A ++ [a]) a.v))
section
variable {B C : Nat} {w w' : World} {d : Nat} {p : Par} {h : Int} {A : List Att} {Q : List Pro} {F R : Nat → Prop} {T : (Nat → Option PD) → Prop} {v : Nat} {x : PD} {a : Att}
theorem DetT.toN (s : DetT B w d p h A Q F R T) (C : Nat) : DetN B C w d p h A Q F R := let ⟨P, who, a, _, b, c⟩ := s; ⟨P, who, a, b, fun j hj => .inl (c j hj)⟩
theorem DetN.weak (s : DetN B C w d p h A Q F R) (hc : B ≤ C) : DetN B B w d p h A Q F R := let ⟨P, who, a, b, c⟩ := s; ⟨P, who, a, b, fun j hj => (c j hj).elim .inl fun e => .inr (Nat.le_trans hc e)⟩
theorem DetN.keepsN (s : DetN B C w d p h A Q F R) (k : Keeps Nob w w') : DetN B C w' d p h A Q F R := let ⟨P, who, a, b⟩ := s; ⟨P, who, a.keepsN k, b⟩
theorem DetN.one (s : DetN B C w d p h A Q F R) {g : Nat} {cs : Array Value} {U : TypeId} (hg : w.heap[g]? = some (.cells cs U (0, 0))) (hB : B ≤ g ∧ g < C) (k : Keeps (One g) w w')
    (h5 : 79 ≠ U := by decide) (h0 : 161 ≠ U := by decide) (h1 : 184 ≠ U := by decide) (h2 : 185 ≠ U := by decide) (h3 : 192 ≠ U := by decide) (h4 : 168 ≠ U := by decide)
    (u1 : U ≠ 85 := by decide) (u2 : U ≠ 122 := by decide) (u3 : U ≠ 28 := by decide) (u4 : U ≠ 37 := by decide) : DetN B C w' d p h A Q F R := by
  obtain ⟨P, who, a, c, e⟩ := s
  refine ⟨P, who, a.keeps k (fun j hj (hm : j = g) => ?_) (fun j hj (hm : j = g) => ?_) ⟨Odd.one hg u1, Odd.one hg u2, Odd.one hg u3, Odd.one hg u4⟩, c, e⟩
  · subst hm; exact a.odd h5 h0 h1 h2 h3 h4 _ _ _ hj hg
  · subst hm; have := e j hj; omega
theorem DetMid.keepsN (s : DetMid B C w d p h A Q F R v x a) (k : Keeps Nob w w') : DetMid B C w' d p h A Q F R v x a := let ⟨V, q1, q2, q3, q4⟩ := s; ⟨V, q1, q2, q3.nn k, span_nob q4 k⟩
theorem DetMid.rec_ (s : DetMid B C w d p h A Q F R v x a) (hv : v < 32) : RecAt w x.r (v : Int) x.A x.B := let ⟨_, q1, _, q3, _⟩ := s; rec_one (q1.part hv).1.rec_ (q1.part hv).1.span q3
theorem DetMid.kr (s : DetMid B C w d p h A Q F R v x a) (hv : v < 32) : ∀ i, i < B → One x.A.s i → F i := fun i hi (hm : i = x.A.s) => by
  obtain ⟨V, q1, _⟩ := s
  rcases q1.own hv i (.inr (.inr (.inl hm))) with e | e
  · exact e
  · omega
theorem rec_ne {w : World} {r g : Nat} {v : Int} {A : RD Att} {B : RD Pro} {cs : Array Value} {U : TypeId} (H : RecAt w r v A B) (hg : w.heap[g]? = some (.cells cs U (0, 0))) (hU : 185 ≠ U) : g ≠ A.s := fun e => Odd.one H.a.slots hU g cs (0, 0) e hg
theorem rec_neB {w : World} {r g : Nat} {v : Int} {A : RD Att} {B : RD Pro} {cs : Array Value} {U : TypeId} (H : RecAt w r v A B) (hg : w.heap[g]? = some (.cells cs U (0, 0))) (hU : 168 ≠ U) : g ≠ B.s := fun e => Odd.one H.b.slots hU g cs (0, 0) e hg
theorem djudge_T (s : DetT w.heap.size w d p h A Q F R AnyP) (i : DInv p h A Q) (c : Comes p h a) (ha : a.Ok) {y : Vd} (hy : dJudge p (votesOf p h A a.v) a = y) :
    Calls prog 47 #[.pointer (some ⟨d, 0, none⟩), .agg (Att.c a)] w fun e w' => e = .returned (.agg (Vd.c y)) ∧ VdOk y ∧ DetT w.heap.size w' d p h A Q F R AnyP ∧ Keeps F w w' := by
  obtain ⟨v, hv⟩ : ∃ v : Nat, a.v = (v : Int) := ⟨a.v.toNat, by have := c.fine.1; omega⟩
  have hv2 : v < 32 := by have := c.fine.2.1; omega
  have h0 := c.fine.2.2.2.2.1
  have hV : ∀ t b, vaOf A a.v (dlo p h) t = some b → b.Ok := fun t b hb => (i.a b (mem_votes.1 ((va_some i).1 hb).1).1).1
  rw [← judge_is i c, pJudge_is] at hy
  rcases hj : J1 (vaOf A a.v (dlo p h)) p a with ⟨x1, b1⟩
  have hx1 : VdOk x1 := by have := J1_ok (p := p) (a := a) hV; rw [hj] at this; exact this
  rw [hj] at hy
  cases b1 with
  | true =>
    rw [if_pos rfl] at hy
    subst hy
    exact (djudge_one d a p i.ok.1 h A Q F R v hv2 ha ha.r hv h0 i.ok w s x1 hx1 hj).mono fun e w' ⟨e1, e2, e3⟩ => ⟨e1, hx1, e2, e3⟩
  | false =>
    rw [if_neg (by simp)] at hy
    rcases hj2 : J2 (vaOf A a.v (dlo p h)) p a (Sp.clashOf p.win (dep p h) a.s a.t (Sp.viewOf (prs A a.v))) with ⟨x2, b2⟩
    have hx2 : VdOk x2 := by have := J2_ok (p := p) (a := a) (c := Sp.clashOf p.win (dep p h) a.s a.t (Sp.viewOf (prs A a.v))) hV; rw [hj2] at this; exact this
    have hct := clash_bnd i a.v p.win (dep p h) a.s a.t
    rw [hj2] at hy
    cases b2 with
    | true =>
      rw [if_pos rfl] at hy
      subst hy
      exact (djudge_two d a p i.ok.1 h A Q F R v hv2 ha ha.r hv h0 i.ok w s x1 hx1 hj x2 hx2 hj2 hct).mono fun e w' ⟨e1, e2, e3⟩ => ⟨e1, hx2, e2, e3⟩
    | false =>
      rw [if_neg (by simp)] at hy
      subst hy
      exact (djudge_none d a p i.ok.1 h A Q F R v hv2 ha ha.r hv h0 i.ok w s x1 hx1 hj x2 hx2 hj2 hct).mono fun e w' ⟨e1, e2, e3⟩ => ⟨e1, Vd.z_ok, e2, e3⟩
theorem sput_T (s : DetT B w d p h A Q F R (HasP v x)) (hv : v < 32) (hvv : a.v = (v : Int)) (c : Comes p h a) :
    Calls prog 49 #[.pointer (some ⟨x.sp, 0, none⟩), iI a.s, iI a.t] w fun e w' => e = .returned (iI 0) ∧ DetMid B w.heap.size w' d p h A Q F R v x a ∧ Keeps (One x.sp) w w' := by
  obtain ⟨q1, _⟩ := s.part hv
  refine (Sp.span_put_ok x.sp _ _ a.s a.t w x.FP _ q1.span (by have := c.fine.2.2.1; omega) (by have := c.st; omega) (by rw [dlow_is]; have := c.lo; have := c.st; omega) (by have := c.hi; omega)).mono ?_
  rintro e w' ⟨rfl, hS, k⟩
  refine ⟨rfl, ⟨w, s, rfl, k, ?_⟩, k⟩
  rw [← hvv] at hS
  rw [← view_put]; exact hS
theorem rput_T (m : DetMid B C w d p h A Q F R v x a) (hB : B ≤ C) (hv : v < 32) (hvv : a.v = (v : Int)) (ha : a.Ok) (c : Comes p h a) (hn : vaOf A a.v (dlo p h) a.t = none) :
    Calls prog 50 #[.pointer (some ⟨x.r, 0, none⟩), .agg (Att.c a)] w fun e w' => e = .returned (iI 0) ∧ DetN B C w' d p h (A ++ [a]) Q F R ∧ Keeps (One x.A.s) w w' := by
  have hr := m.rec_ hv
  obtain ⟨V, s, rfl, k1, hS⟩ := m
  obtain ⟨q1, ⟨a1, a2, a3⟩, b1, b2, b3⟩ := s.part hv
  have hE : qPutErr (v : Int) x.A a = 0 := by
    unfold qPutErr whoErr gputErr
    have hf := Att.err_fine.2 c.fine
    have hw := c.hi
    have hl := c.lo
    have hst := c.st
    have hwin : dep p h < dlo p h + p.win := by unfold dlo; omega
    rw [if_neg (by rw [if_neg (by simpa using hf), if_neg (by simpa using hvv)]; simp), if_neg (by omega), if_neg (by omega), a3, ← hvv, hn]; rfl
  refine (qPut_ok x.r v x.A x.B a w hr ha).mono ?_
  rintro e w' ⟨rfl, _, hg, k2⟩
  obtain ⟨S', hR⟩ := hg hE
  have k : Keeps x.own V w' := (k1.mono fun j _ (hj : j = x.sp) => .inl hj).then k2 fun j _ (hj : j = x.A.s) => .inr (.inr (.inl hj))
  obtain ⟨P, who, s1, s2, s3, s4⟩ := s
  have hsp : Sp.SpanView w' (fun j => x.FP j ∨ j = V.heap.size + 1 + 1) x.sp p.win (dep p h) (Sp.viewOf (prs (A ++ [a]) a.v)) := by
    refine hS.of_keeps k2 (fun (e : x.sp = x.A.s) => ?_) (fun j hj (e : j = x.A.s) => ?_) (fun _ h => h) hS.nb (fun j hj => Nat.lt_of_lt_of_le (hS.fp j hj) k2.size)
    · obtain ⟨cs, hc⟩ := SpanView.blk hS
      exact rec_ne hr hc (by decide) e
    · have ho : x.own x.A.s := .inr (.inr (.inl rfl))
      rcases hj with hj | hj
      · exact (s1.self hv s2).1 j hj (e ▸ ho)
      · have := q1.lt _ ho; omega
  have hq : w'.heap[x.q]? = some (.cells #[.pointer (some ⟨x.sp, 0, none⟩), .pointer (some ⟨x.r, 0, none⟩)] 85 (0, 0)) := k.odd q1.still.1 q1.blk
  obtain ⟨who', g⟩ := s1.turn hv s2 k (x' := { x with A := { x.A with V := upV x.A.V a.t a, S := S' }, FP := fun j => x.FP j ∨ j = V.heap.size + 1 + 1 }) rfl (fun _ h => h) (fun j hj => hj.elim .inl fun e => .inr (by omega)) (g' := fun _ => h) (fun _ _ => rfl) (A' := A ++ [a]) (Q' := Q)
    (fun u hu => by
      have hne : a.v ≠ (u : Int) := by omega
      exact ⟨prs_other hne, fun lo => vaOf_other hne, fun _ => rfl, fun hn x hx => by
        rcases List.mem_append.1 hx with hx | hx
        · exact hn x hx
        · simp only [List.mem_singleton] at hx; subst hx; exact hne, id⟩)
    ⟨⟨hq, hvv ▸ hsp, hR⟩, ⟨a1, a2, by rw [← hvv]; rw [← vaOf_put (by have := c.lo; have := c.st; omega) hn, hvv]; exact congrArg (fun V => upV V a.t a) a3⟩, b1, b2, b3⟩
  refine ⟨by rw [hE], ⟨_, who', g, fun j hj => ?_, fun j hj => ?_⟩, k2⟩
  · rcases hj with rfl | ⟨u, y, hu, hy, hj⟩
    · exact s3 j (.inl rfl)
    · by_cases hne : u = v
      · simp only [if_pos hne, Option.some.injEq] at hy
        subst hy; exact s3 j (.inr ⟨v, x, hv, s2, hj⟩)
      · simp only [if_neg hne] at hy
        exact s3 j (.inr ⟨u, y, hu, hy, hj⟩)
  · obtain ⟨u, y, hu, hy, hj⟩ := hj
    by_cases hne : u = v
    · simp only [if_pos hne, Option.some.injEq] at hy
      subst hy
      rcases hj with hj | hj
      · exact .inl (s4 j ⟨v, x, hv, s2, hj⟩)
      · exact .inr (by omega)
    · simp only [if_neg hne] at hy
      exact .inl (s4 j ⟨u, y, hu, hy, hj⟩)
end
structure Mine (B : Nat) (w : World) (F M : Nat → Prop) : Prop where
  sub : ∀ i, i < B → M i → F i
  odd : ∀ U : TypeId, 79 ≠ U → 161 ≠ U → 184 ≠ U → 185 ≠ U → 192 ≠ U → 168 ≠ U → Odd w M U
theorem Mine.no {B : Nat} {w : World} {F M : Nat → Prop} (m : Mine B w F M) {g : Nat} {cs : Array Value} {U : TypeId} (hg : w.heap[g]? = some (.cells cs U (0, 0))) (hm : M g)
    (h5 : 79 ≠ U := by decide) (h0 : 161 ≠ U := by decide) (h1 : 184 ≠ U := by decide) (h2 : 185 ≠ U := by decide) (h3 : 192 ≠ U := by decide) (h4 : 168 ≠ U := by decide) : False :=
  m.odd U h5 h0 h1 h2 h3 h4 g cs (0, 0) hm hg
section
variable {B C : Nat} {w w' : World} {d : Nat} {p : Par} {h : Int} {A : List Att} {Q : List Pro} {F R : Nat → Prop} {a : Att}
theorem djudge_B (s : DetT B w d p h A Q F R AnyP) (hB : B ≤ w.heap.size) (i : DInv p h A Q) (c : Comes p h a) (ha : a.Ok) {y : Vd} (hy : dJudge p (votesOf p h A a.v) a = y) :
    Calls prog 47 #[.pointer (some ⟨d, 0, none⟩), .agg (Att.c a)] w fun e w' => e = .returned (.agg (Vd.c y)) ∧ VdOk y ∧ DetT B w' d p h A Q F R AnyP ∧ ∃ M, Mine B w F M ∧ Keeps M w w' := by
  obtain ⟨P, who, sP, _, hF, hR⟩ := s
  have s2 : DetT w.heap.size w d p h A Q (DF d P) (DR P) AnyP := ⟨P, who, sP, trivial, fun j hj => .inl hj, fun j hj => ⟨hj, sP.ltR j hj⟩⟩
  refine (djudge_T s2 i c ha hy).mono ?_
  rintro e w' ⟨e1, e2, ⟨P', who', a1, a2, a3, a4⟩, k⟩
  exact ⟨e1, e2, ⟨P', who', a1, a2, fun j hj => (a3 j hj).elim (hF j) (fun h => .inr (by omega)), fun j hj => hR j (a4 j hj).1⟩, DF d P, ⟨fun i hi hm => (hF i hm).elim id (fun h => by omega), fun U h5 h0 h1 h2 h3 h4 => sP.odd h5 h0 h1 h2 h3 h4⟩, k⟩
theorem att_no {e : Int} (hE : attErr p h a = e) (h0 : ¬ e = 0) : attVd p h A a = Vd.z ∧ attNew p h A a = A := by
  unfold attNew attVd
  rw [hE, if_neg h0, if_neg (fun x => h0 x.1)]; exact ⟨rfl, rfl⟩
theorem att_yes (hE : attErr p h a = 0) {y : Vd} (hy : dJudge p (votesOf p h A a.v) a = y) : attVd p h A a = y ∧ attNew p h A a = if y.k = 0 then A ++ [a] else A := by
  unfold attNew attVd
  rw [hE, if_pos rfl, hy]; simp
theorem attErr_1 (h1 : ¬ a.err = 0) : attErr p h a = a.err := by unfold attErr; rw [if_pos h1]
theorem attErr_2 (h1 : a.err = 0) (h2 : a.s > a.t) : attErr p h a = 9 := by unfold attErr; rw [if_neg (by simpa using h1), if_pos h2]
theorem attErr_3 (h1 : a.err = 0) (h2 : ¬ a.s > a.t) (h3 : a.t > dep p h) : attErr p h a = 17 := by unfold attErr; rw [if_neg (by simpa using h1), if_neg h2, if_pos h3]
theorem attErr_4 (h1 : a.err = 0) (h2 : ¬ a.s > a.t) (h3 : ¬ a.t > dep p h) (h4 : a.s < dlo p h) : attErr p h a = 16 := by unfold attErr; rw [if_neg (by simpa using h1), if_neg h2, if_neg h3, if_pos h4]
theorem attErr_5 (h1 : a.err = 0) (h2 : ¬ a.s > a.t) (h3 : ¬ a.t > dep p h) (h4 : ¬ a.s < dlo p h) : attErr p h a = 0 := by unfold attErr; rw [if_neg (by simpa using h1), if_neg h2, if_neg h3, if_neg h4]
end
def qc104_0 (n : Nat) : Code := partOf f24 n
theorem dAttest_core (d : Nat) (a : Att) (p : Par) (h : Int) (A : List Att) (Q : List Pro) (F R : Nat → Prop) (ha : a.Ok) (hr_a : a.r.length = 32) (inv : DInv p h A Q) (w : World) (s : DetT w.heap.size w d p h A Q F R AnyP) :
  Calls prog 24 #[pT d 0, .agg (Att.c a)] w (fun e w' => e = .returned (.tuple #[.agg (Vd.c (attVd p h A a)), iI (attErr p h a)]) ∧ DetN w.heap.size w.heap.size w' d p h (attNew p h A a) Q F R ∧ Keeps F w w') := by
 obtain ⟨PP, hPP⟩ := s.blk
 have nd := lt_of_block hPP
 have hk := inv.ok
 have hh0 : ¬ h = 0 := by have := hk.2.2; omega
 have K0 : Keeps F w w := Keeps.refl _ _
 refine sf_ (qc104_0 1) func24 <| qr_ [0, 1, 2] <| pbg 28 (Att.c a) fun V1 ga ega h2 j1 => ?_
 have := nqk1 ega hPP K0
 have h5 := s.keepsN j1
 have ⟨K7, z8, h6⟩ := j1.z1 K0 hPP
 refine pag 57 (vdC 0 attZ proZ 0) fun V9 res eres h10 j9 => ?_
 have := nqk2 eres h6 h2 K7
 have h14 := h5.keepsN j9
 have ⟨K17, z18, h15, h16⟩ := j9.z2 K7 h6 h2
 refine kk 1 <| eq_ <| qr_ [0, 1] <| kk 1 ?_
 refine pct ((dnone_no d p h PP _ h15 hh0).mono ?_)
 rintro e w1 ⟨rfl, rfl⟩
 refine ⟨_, rfl, ?_⟩
 refine en_ <| s_ <| tqr_ nl9_ <| kk 1 <| pcr 45 #[pT d 0] func45 (dwindow_ok d p h PP _ h15 hk _ _ _ rfl rfl rfl) fun V19 j19 => ?_
 have h20 := h14.keepsN j19
 have ⟨K24, z25, h22, h23⟩ := j19.z2 K17 h16 h10
 refine kk 7 <| eqr_ [0, 1, 2] <| pP (ldz 28 ga h22 (Att.c_size _ hr_a)) <| pcs (vCheck_ok a _ hr_a) fun V26 j26 => ?_
 have h27 := h20.keepsN j26
 have ⟨K31, z32, h29, h30⟩ := j26.z2 K24 h22 h23
 refine kk 1 <| eq_ <| bl_ 0 <| q_ ?_
 by_cases g1 : a.err = 0
 ·refine r_ [0, 1, 2] <| kk 1 <| pP (nqF ((a.err) : Int) ((0) : Int)) <| kk 1 <| en_ <| q_ ?_
  by_cases g2 : a.s > a.t
  ·skip
   have hE : attErr p h a = (9 : Int) := attErr_2 g1 g2
   have hz : ¬ (9 : Int) = 0 := by omega
   refine r_ nl6_ <| kk 1 <| pP (lc h29 (Att.c_1 _)) <| kk 1 <| pP (lc h29 (Att.c_2 _)) <| pP (dtT (((a.s) : Int) > ((a.t) : Int))) <| kk 1 <| ps_end <| then_n <| y_ <| qr_ [0, 1, 2] <| kk 1 <| pst 57 res (vdC 0 attZ proZ 0) h30 (by kernel_rfl) (vd_sizes (by kernel_rfl) (by kernel_rfl)) (by kernel_rfl) fun V33 h34 j33 => ?_
   have h35 : DetT w.heap.size V33 d p h A Q F R AnyP := DetT.one h27 h30 (by omega) j33
   have ⟨K38, z39⟩ := j33.zo0 K31
   refine kk 1 <| eu_ <| blk_r <| then_r <| sy_out (.tuple #[.agg (vdC 0 attZ proZ 0), iI 9]) rfl (rrt 57 res h34 underlying57 (by kernel_rfl)) ?_
   exact ⟨by rw [(att_no hE hz).1, hE]; kernel_rfl, by rw [(att_no hE hz).2]; exact h35.toN _, K38⟩
  ·refine r_ nl6_ <| kk 1 <| pP (lc h29 (Att.c_1 _)) <| kk 1 <| pP (lc h29 (Att.c_2 _)) <| pP (dtF (((a.s) : Int) > ((a.t) : Int))) <| kk 1 <| ps_end <| then_n <| n_ <| q_ ?_
   by_cases g3 : a.t > dep p h
   ·skip
    have hE : attErr p h a = (17 : Int) := attErr_3 g1 g2 g3
    have hz : ¬ (17 : Int) = 0 := by omega
    refine r_ nl5_ <| kk 1 <| pP (lc h29 (Att.c_2 _)) <| kk 1 <| pP (dtT (((a.t) : Int) > ((dep p h) : Int))) <| kk 1 <| ey_ <| qr_ [0, 1, 2] <| kk 1 <| pst 57 res (vdC 0 attZ proZ 0) h30 (by kernel_rfl) (vd_sizes (by kernel_rfl) (by kernel_rfl)) (by kernel_rfl) fun V40 h41 j40 => ?_
    have h42 : DetT w.heap.size V40 d p h A Q F R AnyP := DetT.one h27 h30 (by omega) j40
    have ⟨K45, z46⟩ := j40.zo0 K31
    refine kk 1 <| eu_ <| blk_r <| then_r <| sy_out (.tuple #[.agg (vdC 0 attZ proZ 0), iI 17]) rfl (rrt 57 res h41 underlying57 (by kernel_rfl)) ?_
    exact ⟨by rw [(att_no hE hz).1, hE]; kernel_rfl, by rw [(att_no hE hz).2]; exact h42.toN _, K45⟩
   ·refine r_ nl5_ <| kk 1 <| pP (lc h29 (Att.c_2 _)) <| kk 1 <| pP (dtF (((a.t) : Int) > ((dep p h) : Int))) <| kk 1 <| en_ <| q_ ?_
    by_cases g4 : a.s < dlo p h
    ·skip
     have hE : attErr p h a = (16 : Int) := attErr_4 g1 g2 g3 g4
     have hz : ¬ (16 : Int) = 0 := by omega
     refine r_ nl5_ <| kk 1 <| pP (lc h29 (Att.c_1 _)) <| kk 1 <| pP (dtT (((a.s) : Int) < ((dlo p h) : Int))) <| kk 1 <| ey_ <| qr_ [0, 1, 2] <| kk 1 <| pst 57 res (vdC 0 attZ proZ 0) h30 (by kernel_rfl) (vd_sizes (by kernel_rfl) (by kernel_rfl)) (by kernel_rfl) fun V47 h48 j47 => ?_
     have h49 : DetT w.heap.size V47 d p h A Q F R AnyP := DetT.one h27 h30 (by omega) j47
     have ⟨K52, z53⟩ := j47.zo0 K31
     refine kk 1 <| eu_ <| blk_r <| then_r <| sy_out (.tuple #[.agg (vdC 0 attZ proZ 0), iI 16]) rfl (rrt 57 res h48 underlying57 (by kernel_rfl)) ?_
     exact ⟨by rw [(att_no hE hz).1, hE]; kernel_rfl, by rw [(att_no hE hz).2]; exact h49.toN _, K52⟩
    ·have hE : attErr p h a = 0 := attErr_5 g1 g2 g3 g4
     have com := attErr_0 hE
     obtain ⟨y, hy⟩ : ∃ y, dJudge p (votesOf p h A a.v) a = y := ⟨_, rfl⟩
     obtain ⟨v, hvv⟩ : ∃ v : Nat, a.v = (v : Int) := ⟨a.v.toNat, by have := com.fine.1; omega⟩
     have hv2 : v < 32 := by have := com.fine.2.1; omega
     refine r_ nl5_ <| kk 1 <| pP (lc h29 (Att.c_1 _)) <| kk 1 <| pP (dtF (((a.s) : Int) < ((dlo p h) : Int))) <| kk 1 <| en_ <| s_ <| blk_n <| tqr_ nl5_ <| kk 1 <| pP (ldz 28 ga h29 (Att.c_size _ hr_a)) ?_
     refine pct ((djudge_B h27 K31.size inv com ha hy).mono ?_)
     rintro e V54 ⟨rfl, hyo, hJV54, MV54, hMV54, j54⟩
     refine ⟨_, rfl, ?_⟩
     have h55 : HP V54 ga (Att.c a) 28 := (j54.block ga (lt_of_block h29) (fun e => hMV54.no h29 e)).trans h29
     have h56 : HP V54 res (vdC 0 attZ proZ 0) 57 := (j54.block res (lt_of_block h30) (fun e => hMV54.no h30 e)).trans h30
     have K57 : Keeps F w V54 := K31.then j54 hMV54.sub
     have z58 := j54.size
     refine pag 57 (vdC 0 attZ proZ 0) fun V59 gv egv h60 j59 => ?_
     have := nqk2 egv h55 h56 K57
     have ⟨h64, h65⟩ := j59.k2 h55 h56
     have h66 := hJV54.keepsN j59
     have ⟨K67, z68⟩ := j59.z0 K57
     refine pst 57 gv (Vd.c y) h60 (by rw [Vd.c_size hyo]; kernel_rfl) (vd_sizes (Vd.c_size hyo) (by kernel_rfl)) Vd.c_one fun V69 h70 j69 => ?_
     have ⟨h71, h72⟩ := j69.ko2 h64 h65
     have h73 : DetT w.heap.size V69 d p h A Q F R AnyP := DetT.one h66 h60 (by omega) j69
     have ⟨K74, z75⟩ := j69.zo0 K67
     refine eq_ <| q_ ?_
     by_cases hk0 : y.k = 0
     ·refine r_ [0, 1, 2] <| kk 1 <| ppq (iI y.k) (lc h70 (rfl) (k := 0)) <| pP (eqT ((y.k) : Int) ((0) : Int)) <| ey_ <| qr_ nl5_ <| kk 2 <| pP (lc h71 (Att.c_0 _)) ?_
      refine pct ((dof_T h73 K74.size hk hv2 hvv).mono ?_)
      rintro e V76 ⟨x, rfl, hJV76, j76⟩
      have hqV76 := (DetT.part hJV76 hv2).1.blk
      refine ⟨_, rfl, ?_⟩
      have ⟨h77, h78, h79⟩ := j76.ko3 h71 h72 h70
      have K80 : Keeps F w V76 := K74.then j76 (DetT.kd h73)
      have z81 := j76.size
      refine kk 1 <| eq_ <| anp 9 (fun W => (HP W x.q (#[pT x.sp 0, pT x.r 0]) 85) ∧ (HP W ga (Att.c a) 28)) fun V82 j82 => ?_
      have ⟨h83, h84, h85⟩ := j82.k3 h77 h78 h79
      have h86 := hJV76.keepsN j82
      have h87 : HP V82 x.q (#[pT x.sp 0, pT x.r 0]) 85 := j82.bk hqV76
      have ⟨K88, z89⟩ := j82.z0 K80
      refine kA [0, 1, 2] <| aV 3 _ (fun W hS => lk hS.1) <| kA [4] <| aV 5 _ (fun W hS => lc hS.2 (Att.c_1 _)) <| kA [6] <| aV 7 _ (fun W hS => lc hS.2 (Att.c_2 _)) <| an_o 8 ?_
      have n91 := span_ne (DetT.part h86 hv2).1.span h83 (by decide)
      have n92 := span_ne (DetT.part h86 hv2).1.span h84 (by decide)
      have n93 := span_ne (DetT.part h86 hv2).1.span h85 (by decide)
      have n94 := span_ne (DetT.part h86 hv2).1.span h87 (by decide)
      have n95 := lt_of_block h84
      refine nct ((sput_T h86 hv2 hvv com).mono ?_)
      rintro e V90 ⟨rfl, hDV90, j90⟩
      refine ⟨_, rfl, ?_⟩
      have ⟨h96, h97, h98⟩ := j90.ko3 h83 h84 h85
      have h99 : HP V90 x.q (#[pT x.sp 0, pT x.r 0]) 85 := j90.bO h87
      have K100 : Keeps F w V90 := K88.then j90 (DetT.ks h86 hv2)
      have z101 := j90.size
      refine ⟨⟨h99, h96⟩, ?_⟩
      refine ane <| then_n <| anp 6 (fun W => (HP W x.q (#[pT x.sp 0, pT x.r 0]) 85) ∧ (HP W ga (Att.c a) 28)) fun V102 j102 => ?_
      have ⟨h103, h104, h105⟩ := j102.k3 h96 h97 h98
      have h106 : HP V102 x.q (#[pT x.sp 0, pT x.r 0]) 85 := j102.bk h99
      have h107 : DetMid w.heap.size V82.heap.size V102 d p h A Q F R v x a := hDV90.keepsN j102
      have ⟨K108, z109⟩ := j102.z0 K100
      refine kA [0, 1, 2] <| aV 3 _ (fun W hS => lk hS.1) <| aV 4 _ (fun W hS => ldz 28 ga hS.2 (Att.c_size _ hr_a)) <| an_o 5 ?_
      have n111 := rec_ne (DetMid.rec_ h107 hv2) h103 (by decide)
      have n112 := rec_ne (DetMid.rec_ h107 hv2) h104 (by decide)
      have n113 := rec_ne (DetMid.rec_ h107 hv2) h105 (by decide)
      have n114 := rec_ne (DetMid.rec_ h107 hv2) h106 (by decide)
      refine nct ((rput_T h107 K88.size hv2 hvv ha com ((va_none inv).2 (judge_k0 (by rw [hy]; exact hk0)))).mono ?_)
      rintro e V110 ⟨rfl, hNV110, j110⟩
      refine ⟨_, rfl, ?_⟩
      have ⟨h115, h116, h117⟩ := j110.ko3 h103 h104 h105
      have h118 : HP V110 x.q (#[pT x.sp 0, pT x.r 0]) 85 := j110.bO h106
      have K119 : Keeps F w V110 := K108.then j110 (DetMid.kr h107 hv2)
      have z120 := j110.size
      refine ⟨⟨h118, h115⟩, ?_⟩
      refine ane <| tqr_ [0, 1, 2] <| pP (ldz 57 gv h117 (Vd.c_size hyo)) <| pst 57 res (Vd.c y) h116 (by rw [Vd.c_size hyo]; kernel_rfl) (vd_sizes (Vd.c_size hyo) (by kernel_rfl)) Vd.c_one fun V121 h122 j121 => ?_
      have h126 : DetN w.heap.size V82.heap.size V121 d p h (A ++ [a]) Q F R := DetN.one hNV110 h116 ⟨by omega, by omega⟩ j121
      have ⟨K127, z128⟩ := j121.zo0 K119
      refine kk 1 <| eu_ <| sy_out (.tuple #[.agg (Vd.c y), iI 0]) rfl (rrt 57 res h122 underlying57 (by rw [Vd.c_size hyo]; kernel_rfl)) ?_
      exact ⟨by rw [(att_yes hE hy).1, hE], by rw [(att_yes hE hy).2, if_pos hk0]; exact h126.weak K88.size, K127⟩
     ·skip
      refine r_ [0, 1, 2] <| kk 1 <| ppq (iI y.k) (lc h70 (rfl) (k := 0)) <| pP (eqF ((y.k) : Int) ((0) : Int)) <| en_ <| s_ <| tqr_ [0, 1, 2] <| pP (ldz 57 gv h70 (Vd.c_size hyo)) <| pst 57 res (Vd.c y) h72 (by rw [Vd.c_size hyo]; kernel_rfl) (vd_sizes (Vd.c_size hyo) (by kernel_rfl)) Vd.c_one fun V129 h130 j129 => ?_
      have h132 : DetT w.heap.size V129 d p h A Q F R AnyP := DetT.one h73 h72 (by omega) j129
      have ⟨K134, z135⟩ := j129.zo0 K74
      refine kk 1 <| eu_ <| sy_out (.tuple #[.agg (Vd.c y), iI 0]) rfl (rrt 57 res h130 underlying57 (by rw [Vd.c_size hyo]; kernel_rfl)) ?_
      exact ⟨by rw [(att_yes hE hy).1, hE], by rw [(att_yes hE hy).2, if_neg hk0]; exact h132.toN _, K134⟩
 ·skip
  have hE : attErr p h a = a.err := attErr_1 g1
  have hz : ¬ a.err = 0 := by omega
  refine r_ [0, 1, 2] <| kk 1 <| pP (nqT ((a.err) : Int) ((0) : Int)) <| kk 1 <| ey_ <| qr_ [0, 1, 2, 3] <| kk 2 <| pst 57 res (vdC 0 attZ proZ 0) h30 (by kernel_rfl) (vd_sizes (by kernel_rfl) (by kernel_rfl)) (by kernel_rfl) fun V136 h137 j136 => ?_
  have h138 : DetT w.heap.size V136 d p h A Q F R AnyP := DetT.one h27 h30 (by omega) j136
  have ⟨K141, z142⟩ := j136.zo0 K31
  refine kk 1 <| ps_end <| then_n <| u_ <| blk_r <| then_r <| sy_out (.tuple #[.agg (vdC 0 attZ proZ 0), iI a.err]) rfl (rrt 57 res h137 underlying57 (by kernel_rfl)) ?_
  exact ⟨by rw [(att_no hE hz).1, hE]; kernel_rfl, by rw [(att_no hE hz).2]; exact h138.toN _, K141⟩
end
end Go.Proofs.YthmclmbeflbhhaaGreat
end
