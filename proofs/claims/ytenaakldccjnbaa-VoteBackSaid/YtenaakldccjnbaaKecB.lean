/-
  Keccak: the permutation's functions, walked (printed by kec1.py). Conditions: none.
-/
import Derived.Test.YtenaakldccjnbaaKecA
import Derived.Test.YtenaakldccjnbaaSym
import Derived.Test.YtenaakldccjnbaaSeg
import Derived.Test.YtenaakldccjnbaaRows
import Derived.Laws.BitsAllLaws
namespace Go.Proofs.Ytenaakldccjnbaa
open Go Go.RowKit Go.Own Go.Shelf

/-- Words as cells. -/
def Wz (s : List Nat) : Array Value := (s.map fun (x : Nat) => Value.int .u64 (x : Int)).toArray
theorem Wz_get (s : List Nat) (i : Nat) (h : i < s.length) : (Wz s)[i]? = some (.int .u64 ((Kec.g s i : Nat) : Int)) := by
  simp [Wz, Kec.g, List.getElem?_eq_getElem h]
theorem Wz_get' (s : List Nat) (i v : Nat) (h : i < s.length) (hv : Kec.g s i = v) : (Wz s)[i]? = some (.int .u64 ((v : Nat) : Int)) := hv ▸ Wz_get s i h
theorem Wz_set (s : List Nat) (i v : Nat) : (Wz s).setIfInBounds i (.int .u64 ((v : Nat) : Int)) = Wz (s.set i v) := by
  simp [Wz, List.map_set]
theorem Wz_size (s : List Nat) : (Wz s).size = s.length := by simp [Wz]
theorem Wz_one (s : List Nat) : (Wz s).all (·.oneCell') = true := by
  simp only [Array.all_eq_true_iff_forall_mem]
  intro x hx
  simp only [Wz, List.mem_toArray, List.mem_map] at hx
  obtain ⟨j, _, rfl⟩ := hx
  rfl
theorem xorU (a b : Nat) (ha : a < Kec.W) (hb : b < Kec.W) : Value.int .u64 (bits .xor .u64 (a : Int) (b : Int)) = .int .u64 ((a ^^^ b : Nat) : Int) := congrArg _ (u64_xor_nat a b ha hb)
theorem andU (a b : Nat) (ha : a < Kec.W) (hb : b < Kec.W) : Value.int .u64 (bits .and .u64 (a : Int) (b : Int)) = .int .u64 ((a &&& b : Nat) : Int) := congrArg _ (u64_and_nat a b ha hb)
theorem orU (a b : Nat) (ha : a < Kec.W) (hb : b < Kec.W) : Value.int .u64 (bits .or .u64 (a : Int) (b : Int)) = .int .u64 ((a ||| b : Nat) : Int) := congrArg _ (u64_or_nat a b ha hb)
/-- Elements put one by one. -/
def stp (f : Nat → Nat) (k : Nat) (s : List Nat) : List Nat := (List.range k).foldl (fun t i => t.set i (f i)) s
theorem stp_zero (f : Nat → Nat) (s : List Nat) : stp f 0 s = s := rfl
theorem stp_succ (f : Nat → Nat) (k : Nat) (s : List Nat) : stp f (k + 1) s = (stp f k s).set k (f k) := by simp [stp, List.range_succ]
theorem stp_len (f : Nat → Nat) (k : Nat) (s : List Nat) : (stp f k s).length = s.length := by
  induction k with
  | zero => rfl
  | succ k ih => rw [stp_succ, List.length_set, ih]
theorem stp_get (f : Nat → Nat) (k : Nat) (s : List Nat) (i : Nat) (hi : i < s.length) : Kec.g (stp f k s) i = if i < k then f i else Kec.g s i := by
  induction k with
  | zero => simp [stp_zero]
  | succ k ih =>
    rw [stp_succ]
    by_cases hk : k < s.length
    · rw [Kec.g_set _ _ _ _ (by rw [stp_len]; exact hk), ih]
      by_cases h1 : k = i
      · subst h1; simp
      · rw [if_neg h1]
        by_cases h2 : i < k
        · rw [if_pos h2, if_pos (by omega)]
        · rw [if_neg h2, if_neg (by omega)]
    · rw [List.set_eq_of_length_le (by rw [stp_len]; omega), ih, if_pos (by omega), if_pos (by omega)]
theorem stp_all (f : Nat → Nat) (s : List Nat) (n : Nat) (h : s.length = n) : stp f n s = (List.range n).map f := by
  apply List.ext_getElem (by simp [stp_len, h])
  intro i h1 h2
  have hi : i < s.length := by rwa [stp_len] at h1
  have := stp_get f n s i hi
  unfold Kec.g at this
  rw [List.getD_eq_getElem?_getD, List.getElem?_eq_getElem h1, if_pos (by omega)] at this
  simpa using this

theorem run_shlU {P : Program} {w : World} (t : TypeId) (yk : IntKind) (x n : Nat) (hn : n ≤ 64) : (binOp .shl t (.int .u64 (x : Int)) (.int yk (n : Int))).run P w = .ok (.int .u64 (((x <<< n) % Kec.W : Nat) : Int)) w := by
  rw [binOp_shl, shift_shl .u64 yk (x : Int) (n : Int) (by omega) (by show (n : Int) ≤ 64; omega)]
  have e : IntKind.u64.wrap ((x : Int) * 2 ^ (n : Int).toNat) = (((x <<< n) % Kec.W : Nat) : Int) := by
    show ((x : Int) * 2 ^ n % (2 ^ 64 : Int)) = _
    rw [Nat.shiftLeft_eq, Int.natCast_emod, Int.natCast_mul, Int.natCast_pow]
    rfl
  rw [e]; rfl
theorem run_shrU {P : Program} {w : World} (t : TypeId) (yk : IntKind) (x n : Nat) (hn : n ≤ 64) : (binOp .shr t (.int .u64 (x : Int)) (.int yk (n : Int))).run P w = .ok (.int .u64 ((x >>> n : Nat) : Int)) w := by
  rw [binOp_shr, shift_shr .u64 yk (x : Int) (n : Int) (by omega) (by show (n : Int) ≤ 64; omega)]
  have e : (x : Int) / 2 ^ (n : Int).toNat = ((x >>> n : Nat) : Int) := by
    rw [Nat.shiftRight_eq_div_pow, Int.natCast_ediv, Int.natCast_pow]; rfl
  rw [e]; rfl
theorem notN (x : Nat) (h : x < Kec.W) : (Kec.W - 1) ^^^ x = Kec.W - 1 - x := by
  apply Nat.eq_of_testBit_eq
  intro z
  rw [Kec.W_eq] at *
  have h1 := Nat.testBit_two_pow_sub_succ (n := 64) (x := 0) (by decide) z
  have h2 := Nat.testBit_two_pow_sub_succ (n := 64) (x := x) h z
  rw [Nat.testBit_xor, show 2 ^ 64 - 1 - x = 2 ^ 64 - (x + 1) by omega, h2, show 2 ^ 64 - 1 = 2 ^ 64 - (0 + 1) by omega, h1]
  by_cases hz : z < 64
  · simp [hz]
  · have := Nat.testBit_lt_two_pow (Nat.lt_of_lt_of_le h (Nat.pow_le_pow_right (show 0 < 2 by decide) (show 64 ≤ z by omega)))
    simp [hz, this]
theorem notU (x : Nat) (h : x < Kec.W) : Value.int .u64 (bits .xor .u64 18446744073709551615 (x : Int)) = .int .u64 ((Kec.W - 1 - x : Nat) : Int) := by
  rw [← notN x h]
  exact xorU (Kec.W - 1) x (by decide) h
/-- How far each word is turned, as cells. -/
def Rz : Array Value := (Kec.R.map fun (x : Nat) => Value.int .i64 (x : Int)).toArray
theorem Rz_get (k : Nat) (h : k < 25) : Rz[k]? = some (.int .i64 ((Kec.g Kec.R k : Nat) : Int)) := by
  have : Kec.R.length = 25 := rfl
  simp [Rz, Kec.g, List.getElem?_eq_getElem (show k < Kec.R.length by omega)]
theorem rotl_and (n : Nat) (h : n < 64) : bits .and .u64 (n : Int) 63 = (n : Int) := by
  have := u64_and_nat n 63 (by omega) (by decide)
  rw [show ((63 : Nat) : Int) = 63 from rfl] at this
  rw [this, Nat.and_two_pow_sub_one_eq_mod n 6, Nat.mod_eq_of_lt (by omega)]

noncomputable def part_kat (n : Nat) : Code := partOf Try.f115 n
noncomputable abbrev o_kat (n k : Nat) : Oper := (opsAt (part_kat n)).getD k default
set_option maxRecDepth 100000 in
set_option maxHeartbeats 4000000 in
theorem kat_ok (x y : Nat) (w : World) (hx : x ≤ 1000) (hy : y ≤ 1000) :
    Calls Try.prog 115 #[.int .i64 ((x : Nat) : Int), .int .i64 ((y : Nat) : Int)] w (fun e w' => e = .returned (.int .i64 ((Kec.at_ x y : Nat) : Int)) ∧ w = w') := by
  have K0 : Keeps Nob w w := Keeps.refl _ _
  refine sy_enter (part_kat 1) ⟨#[iN x, iN y, undef, undef, undef, undef, undef, undef, undef, undef, undef], []⟩ Try.func115 (by kernel_rfl) (by kernel_rfl) ?_
  refine sy_sq (part_kat 2) (part_kat 3) ?_
  refine sy_reg ?_
  refine rg_plain 0 (opsAt (part_kat 2)) [0] (by kernel_rfl) (by kernel_rfl) ?_
  refine ps_k (o_kat 2 0) (.int .i64 0) ?_
  refine ps_end ?_
  refine then_n ?_
  refine sy_sq (part_kat 6) (part_kat 7) ?_
  refine sy_reg ?_
  refine rg_plain 1 (opsAt (part_kat 6)) [0, 1, 2, 3, 4, 5, 6] (by kernel_rfl) (by kernel_rfl) ?_
  refine ps_k (o_kat 6 0) (iN x) ?_
  refine ps_k (o_kat 6 1) (iN (x % 5)) ?_
  refine ps_k (o_kat 6 2) (iN y) ?_
  refine ps_k (o_kat 6 3) (iN (y % 5)) ?_
  refine ps_p (o_kat 6 4) (iN (5 * (y % 5))) (exec_cast (congrArg (Value.int .i64) (wrapN (5 * (y % 5)) (by omega))) (by kernel_rfl)) ?_
  refine ps_p (o_kat 6 5) (iN ((x % 5) + (5 * (y % 5)))) (exec_cast (congrArg (Value.int .i64) (wrapN ((x % 5) + (5 * (y % 5))) (by omega))) (by kernel_rfl)) ?_
  refine ps_k (o_kat 6 6) (iN ((x % 5) + (5 * (y % 5)))) ?_
  refine ps_end ?_
  refine then_n ?_
  refine sy_ret (by kernel_rfl) ?_
  refine sy_out (.int .i64 (((x % 5) + (5 * (y % 5)) : Nat) : Int)) rfl (by kernel_rfl) ?_
  exact ⟨rfl, rfl⟩
theorem kat_as (x y r : Nat) (w : World) (hx : x ≤ 1000) (hy : y ≤ 1000) (h : Kec.at_ x y = r) : Calls Try.prog 115 #[.int .i64 ((x : Nat) : Int), .int .i64 ((y : Nat) : Int)] w fun e w' => e = .returned (.int .i64 ((r : Nat) : Int)) ∧ w = w' := h ▸ kat_ok x y w hx hy
noncomputable def part_rotl (n : Nat) : Code := partOf Try.f116 n
noncomputable abbrev o_rotl (n k : Nat) : Oper := (opsAt (part_rotl n)).getD k default
set_option maxRecDepth 100000 in
set_option maxHeartbeats 4000000 in
theorem rotl_ok (x n : Nat) (w : World) (hx : x < Kec.W) (hn : n < 64) :
    Calls Try.prog 116 #[.int .u64 ((x : Nat) : Int), .int .i64 ((n : Nat) : Int)] w (fun e w' => e = .returned (.int .u64 ((Kec.rot x n : Nat) : Int)) ∧ w = w') := by
  have K0 : Keeps Nob w w := Keeps.refl _ _
  refine sy_enter (part_rotl 1) ⟨#[uN x, iN n, undef, undef, undef, undef, undef, undef, undef, undef, undef, undef, undef, undef, undef, undef, undef], []⟩ Try.func116 (by kernel_rfl) (by kernel_rfl) ?_
  refine sy_sq (part_rotl 2) (part_rotl 3) ?_
  refine sy_reg ?_
  refine rg_plain 0 (opsAt (part_rotl 2)) [0] (by kernel_rfl) (by kernel_rfl) ?_
  refine ps_k (o_rotl 2 0) (.int .u64 0) ?_
  refine ps_end ?_
  refine then_n ?_
  refine sy_sq (part_rotl 6) (part_rotl 7) ?_
  refine sy_reg ?_
  refine rg_plain 1 (opsAt (part_rotl 6)) [0, 1, 2, 3] (by kernel_rfl) (by kernel_rfl) ?_
  refine ps_k (o_rotl 6 0) (iN n) ?_
  refine ps_p (o_rotl 6 1) (uN n) (exec_cast (congrArg (Value.int .u64) (wrapU n (by omega))) (by kernel_rfl)) ?_
  refine ps_p (o_rotl 6 2) (uN n) (exec_cast (congrArg (Value.int .u64) (rotl_and n hn)) (by kernel_rfl)) ?_
  refine ps_k (o_rotl 6 3) (uN n) ?_
  refine ps_end ?_
  refine then_n ?_
  refine sy_sq (part_rotl 14) (part_rotl 15) ?_
  refine sy_reg ?_
  refine rg_plain 2 (opsAt (part_rotl 14)) [0, 1, 2, 3, 4, 5, 6, 7, 8] (by kernel_rfl) (by kernel_rfl) ?_
  refine ps_k (o_rotl 14 0) (uN x) ?_
  refine ps_k (o_rotl 14 1) (uN n) ?_
  refine ps_p (o_rotl 14 2) (uN ((x <<< n) % Kec.W)) (exec_binop .shl 27 125 (.tmp 9) (.tmp 10) (by kernel_rfl) (uN x) (uN n) _ (by kernel_rfl) (by kernel_rfl) (by kernel_rfl) (run_shlU _ _ x n (by omega))) ?_
  refine ps_k (o_rotl 14 3) (uN x) ?_
  refine ps_k (o_rotl 14 4) (uN n) ?_
  refine ps_p (o_rotl 14 5) (uN (64 - n)) (exec_cast (v := .int .u64 (IntKind.u64.wrap ((64 : Int) - ((n : Nat) : Int)))) (congrArg (Value.int .u64) (by rw [show (64 : Int) - ((n : Nat) : Int) = ((64 - n : Nat) : Int) by omega]; exact wrapU _ (by omega))) (by kernel_rfl)) ?_
  refine ps_p (o_rotl 14 6) (uN (x >>> (64 - n))) (exec_binop .shr 27 125 (.tmp 12) (.tmp 14) (by kernel_rfl) (uN x) (uN (64 - n)) _ (by kernel_rfl) (by kernel_rfl) (by kernel_rfl) (run_shrU _ _ x (64 - n) (by omega))) ?_
  refine ps_p (o_rotl 14 7) (uN (((x <<< n) % Kec.W) ||| (x >>> (64 - n)))) (exec_cast (orU ((x <<< n) % Kec.W) (x >>> (64 - n)) (Nat.mod_lt _ Kec.W_pos) (Kec.shr_lt hx _)) (by kernel_rfl)) ?_
  refine ps_k (o_rotl 14 8) (uN (((x <<< n) % Kec.W) ||| (x >>> (64 - n)))) ?_
  refine ps_end ?_
  refine then_n ?_
  refine sy_ret (by kernel_rfl) ?_
  refine sy_out (.int .u64 ((((x <<< n) % Kec.W) ||| (x >>> (64 - n)) : Nat) : Int)) rfl (by kernel_rfl) ?_
  exact ⟨rfl, rfl⟩
theorem g_map5 (f : Nat → Nat) (i : Nat) (h : i < 5) : Kec.g ((List.range 5).map f) i = f i := by simp [Kec.g, h]
noncomputable def part_kcolumns (n : Nat) : Code := partOf Try.f110 n
noncomputable abbrev o_kcolumns (n k : Nat) : Oper := (opsAt (part_kcolumns n)).getD k default
set_option maxRecDepth 100000 in
set_option maxHeartbeats 4000000 in
theorem kcolumns_ok (b : Nat) (s : List Nat) (w : World) (hs : s.length = 25) (ws : Kec.Ws s) (hb : w.heap[b]? = some (.cells (Wz s) 87 (0, 0))) :
    Calls Try.prog 110 #[.pointer (some ⟨b, 0, none⟩)] w (fun e w' => e = .returned (.tuple #[]) ∧ w'.heap[b]? = some (.cells (Wz (Kec.columns s)) 87 (0, 0)) ∧ Keeps (One b) w w') := by
  have K0 : Keeps (One b) w w := Keeps.refl _ _
  refine sy_enter (part_kcolumns 1) ⟨#[pT b 0, undef, undef, undef, undef, undef, undef, undef, undef, undef, undef, undef, undef, undef, undef, undef, undef, undef, undef, undef, undef, undef, undef, undef, undef, undef, undef, undef, undef, undef, undef, undef, undef, undef, undef, undef, undef, undef, undef, undef, undef, undef, undef, undef, undef, undef, undef, undef, undef, undef, undef, undef, undef, undef, undef, undef, undef, undef, undef, undef, undef, undef, undef, undef, undef, undef, undef, undef, undef, undef, undef, undef], []⟩ Try.func110 (by kernel_rfl) (by kernel_rfl) ?_
  refine sy_sq (part_kcolumns 2) (part_kcolumns 3) ?_
  refine sy_reg ?_
  refine rg_plain 0 (opsAt (part_kcolumns 2)) [0] (by kernel_rfl) (by kernel_rfl) ?_
  obtain ⟨V1, eV1, gc, egc, h2, kV1⟩ := alloc_step w (zr_u64_5) 140
  have n3 : b < gc := egc ▸ lt_of_block hb
  have n4 : w.heap.size ≤ gc := egc ▸ K0.size
  refine ps_r (o_kcolumns 2 0) (pT gc 0) (w' := V1) (by rw [← eV1, ← egc]; exact exec_alloc0 140 (by kernel_rfl) (.agg (zr_u64_5)) (by kernel_rfl)) ?_
  clear eV1
  have h5 := kV1.bk hb
  have K6 := K0.nn kV1
  refine ps_end ?_
  refine then_n ?_
  refine sy_sq (part_kcolumns 6) (part_kcolumns 7) ?_
  refine sy_sq (part_kcolumns 12) (part_kcolumns 13) ?_
  refine sy_reg ?_
  refine rg_plain 1 (opsAt (part_kcolumns 12)) [0] (by kernel_rfl) (by kernel_rfl) ?_
  refine ps_k (o_kcolumns 12 0) (.int .i64 0) ?_
  refine ps_end ?_
  refine then_n ?_
  refine sy_bk 0 (part_kcolumns 26) ?_
  refine sy_loop (part_kcolumns 52) (fun a V => ∃ (k : Nat) (u3 u7 u8 u9 u10 u11 u12 u13 u14 u15 u16 u17 u18 u19 u20 u21 u22 u23 u24 u25 u26 u27 u28 u29 u30 u31 u32 u33 u34 u35 u36 u37 u38 u39 u40 u41 u42 u43 u44 u45 : Value), (a = ⟨#[pT b 0, undef, pT gc 0, u3, undef, undef, iN k, u7, u8, u9, u10, u11, u12, u13, u14, u15, u16, u17, u18, u19, u20, u21, u22, u23, u24, u25, u26, u27, u28, u29, u30, u31, u32, u33, u34, u35, u36, u37, u38, u39, u40, u41, u42, u43, u44, u45, undef, undef, undef, undef, undef, undef, undef, undef, undef, undef, undef, undef, undef, undef, undef, undef, undef, undef, undef, undef, undef, undef, undef, undef, undef, undef], []⟩) ∧ (k ≤ 5) ∧ (V.heap[b]? = some (.cells (Wz s) 87 (0, 0))) ∧ (V.heap[gc]? = some (.cells (Wz (stp (Kec.col s) k [0, 0, 0, 0, 0])) 140 (0, 0))) ∧ (Keeps (One b) w V)) (fun a _ => 5 - (intOf (a.tmps.getD 6 undef)).toNat) (by kernel_rfl) ?_ ?_
  · exact ⟨0, undef, undef, undef, undef, undef, undef, undef, undef, undef, undef, undef, undef, undef, undef, undef, undef, undef, undef, undef, undef, undef, undef, undef, undef, undef, undef, undef, undef, undef, undef, undef, undef, undef, undef, undef, undef, undef, undef, undef, undef, by kernel_rfl, by omega, h5, h2.trans (by kernel_rfl), K6⟩
  · rintro a V7 ⟨k, u3, u7, u8, u9, u10, u11, u12, u13, u14, u15, u16, u17, u18, u19, u20, u21, u22, u23, u24, u25, u26, u27, u28, u29, u30, u31, u32, u33, u34, u35, u36, u37, u38, u39, u40, u41, u42, u43, u44, u45, rfl, hk, h8, h9, K10⟩
    by_cases lt_k : k < 5
    · show _
      refine sy_sq (part_kcolumns 104) (part_kcolumns 105) ?_
      refine sy_reg ?_
      refine rg_plain 2 (opsAt (part_kcolumns 104)) [0] (by kernel_rfl) (by kernel_rfl) ?_
      refine ps_p (o_kcolumns 104 0) (.bool true) (dct ((((k : Nat) : Int)) < ((5) : Int)) (by omega)) ?_
      refine ps_end ?_
      refine then_n ?_
      refine sy_sq (part_kcolumns 210) (part_kcolumns 211) ?_
      refine sy_ys (.tmp 7) (part_kcolumns 420) (part_kcolumns 421) ?_
      refine sy_sk ?_
      refine then_n ?_
      refine sy_sq (part_kcolumns 422) (part_kcolumns 423) ?_
      refine sy_bk 1 (part_kcolumns 844) ?_
      refine sy_sq (part_kcolumns 1688) (part_kcolumns 1689) ?_
      refine sy_reg ?_
      refine rg_plain 3 (opsAt (part_kcolumns 1688)) [0, 1] (by kernel_rfl) (by kernel_rfl) ?_
      refine ps_k (o_kcolumns 1688 0) (iN k) ?_
      refine ps_k (o_kcolumns 1688 1) (iN k) ?_
      refine ps_end ?_
      refine then_n ?_
      refine sy_reg ?_
      refine rg_still 4 36 (opsAt (part_kcolumns 1689)) [o_kcolumns 1689 0, o_kcolumns 1689 1, o_kcolumns 1689 2, o_kcolumns 1689 3, o_kcolumns 1689 4, o_kcolumns 1689 5, o_kcolumns 1689 6, o_kcolumns 1689 7, o_kcolumns 1689 8, o_kcolumns 1689 9, o_kcolumns 1689 10, o_kcolumns 1689 11, o_kcolumns 1689 12, o_kcolumns 1689 13, o_kcolumns 1689 14, o_kcolumns 1689 15, o_kcolumns 1689 16, o_kcolumns 1689 17, o_kcolumns 1689 18, o_kcolumns 1689 19, o_kcolumns 1689 20, o_kcolumns 1689 21, o_kcolumns 1689 22, o_kcolumns 1689 23, o_kcolumns 1689 24, o_kcolumns 1689 25, o_kcolumns 1689 26, o_kcolumns 1689 27, o_kcolumns 1689 28, o_kcolumns 1689 29, o_kcolumns 1689 30, o_kcolumns 1689 31, o_kcolumns 1689 32, o_kcolumns 1689 33, o_kcolumns 1689 34, o_kcolumns 1689 35] [o_kcolumns 1689 36] (by kernel_rfl) (by kernel_rfl) (by kernel_rfl) (by kernel_rfl) (by kernel_rfl) ?_
      obtain ⟨V12, eV12, kV12⟩ := drew_step V7
      rw [eV12]
      clear eV12
      have h13 := kV12.bk h8
      have h14 := kV12.bk h9
      have K15 := K10.nn kV12
      refine st_k (o_kcolumns 1689 0) (iN k) ?_
      refine st_k (o_kcolumns 1689 1) (pT b 0) ?_
      refine st_k (o_kcolumns 1689 2) (iN k) ?_
      refine st_c (o_kcolumns 1689 3) 115 #[iN k, .int .i64 0] (iN k) Try.func115 (kat_as k 0 k _ (by omega) (by omega) (by unfold Kec.at_; omega)) ?_
      refine st_k (o_kcolumns 1689 4) (pT b 0) ?_
      refine st_p (o_kcolumns 1689 5) (pT b k) (exec_cast (v := pT b (0 + k * 1)) (by simp) (exec_indexAt_arr 87 (.tmp 13) (.tmp 12) (by kernel_rfl) b 0 (by kernel_rfl) .i64 k (by kernel_rfl) _ _ 1 Try.underlying87 (by kernel_rfl) (by omega))) ?_
      refine st_p (o_kcolumns 1689 6) (uN (Kec.g s k)) (exec_ld 27 (.tmp 14) b k Try.underlying27 (rc (h13) (Wz_get _ k (by rw [hs]; omega)))) ?_
      refine st_k (o_kcolumns 1689 7) (pT b 0) ?_
      refine st_k (o_kcolumns 1689 8) (iN k) ?_
      refine st_c (o_kcolumns 1689 9) 115 #[iN k, .int .i64 1] (iN (k + 5)) Try.func115 (kat_as k 1 (k + 5) _ (by omega) (by omega) (by unfold Kec.at_; omega)) ?_
      refine st_k (o_kcolumns 1689 10) (pT b 0) ?_
      refine st_p (o_kcolumns 1689 11) (pT b (k + 5)) (exec_cast (v := .pointer (some ⟨b, 0 + (k + 5) * 1, none⟩)) (by simp) (exec_indexAt_arr 87 (.tmp 19) (.tmp 18) (by kernel_rfl) b 0 (by kernel_rfl) .i64 (k + 5) (by kernel_rfl) _ _ 1 Try.underlying87 (by kernel_rfl) (by omega))) ?_
      refine st_p (o_kcolumns 1689 12) (uN (Kec.g s (k + 5))) (exec_ld 27 (.tmp 20) b (k + 5) Try.underlying27 (rc (h13) (Wz_get _ (k + 5) (by rw [hs]; omega)))) ?_
      refine st_p (o_kcolumns 1689 13) (uN ((Kec.g s k) ^^^ (Kec.g s (k + 5)))) (exec_cast (xorU (Kec.g s k) (Kec.g s (k + 5)) (ws _) (ws _)) (by kernel_rfl)) ?_
      refine st_k (o_kcolumns 1689 14) (pT b 0) ?_
      refine st_k (o_kcolumns 1689 15) (iN k) ?_
      refine st_c (o_kcolumns 1689 16) 115 #[iN k, .int .i64 2] (iN (k + 10)) Try.func115 (kat_as k 2 (k + 10) _ (by omega) (by omega) (by unfold Kec.at_; omega)) ?_
      refine st_k (o_kcolumns 1689 17) (pT b 0) ?_
      refine st_p (o_kcolumns 1689 18) (pT b (k + 10)) (exec_cast (v := .pointer (some ⟨b, 0 + (k + 10) * 1, none⟩)) (by simp) (exec_indexAt_arr 87 (.tmp 26) (.tmp 25) (by kernel_rfl) b 0 (by kernel_rfl) .i64 (k + 10) (by kernel_rfl) _ _ 1 Try.underlying87 (by kernel_rfl) (by omega))) ?_
      refine st_p (o_kcolumns 1689 19) (uN (Kec.g s (k + 10))) (exec_ld 27 (.tmp 27) b (k + 10) Try.underlying27 (rc (h13) (Wz_get _ (k + 10) (by rw [hs]; omega)))) ?_
      refine st_p (o_kcolumns 1689 20) (uN (((Kec.g s k) ^^^ (Kec.g s (k + 5))) ^^^ (Kec.g s (k + 10)))) (exec_cast (xorU ((Kec.g s k) ^^^ (Kec.g s (k + 5))) (Kec.g s (k + 10)) (Kec.xor_lt (ws _) (ws _)) (ws _)) (by kernel_rfl)) ?_
      refine st_k (o_kcolumns 1689 21) (pT b 0) ?_
      refine st_k (o_kcolumns 1689 22) (iN k) ?_
      refine st_c (o_kcolumns 1689 23) 115 #[iN k, .int .i64 3] (iN (k + 15)) Try.func115 (kat_as k 3 (k + 15) _ (by omega) (by omega) (by unfold Kec.at_; omega)) ?_
      refine st_k (o_kcolumns 1689 24) (pT b 0) ?_
      refine st_p (o_kcolumns 1689 25) (pT b (k + 15)) (exec_cast (v := .pointer (some ⟨b, 0 + (k + 15) * 1, none⟩)) (by simp) (exec_indexAt_arr 87 (.tmp 33) (.tmp 32) (by kernel_rfl) b 0 (by kernel_rfl) .i64 (k + 15) (by kernel_rfl) _ _ 1 Try.underlying87 (by kernel_rfl) (by omega))) ?_
      refine st_p (o_kcolumns 1689 26) (uN (Kec.g s (k + 15))) (exec_ld 27 (.tmp 34) b (k + 15) Try.underlying27 (rc (h13) (Wz_get _ (k + 15) (by rw [hs]; omega)))) ?_
      refine st_p (o_kcolumns 1689 27) (uN ((((Kec.g s k) ^^^ (Kec.g s (k + 5))) ^^^ (Kec.g s (k + 10))) ^^^ (Kec.g s (k + 15)))) (exec_cast (xorU (((Kec.g s k) ^^^ (Kec.g s (k + 5))) ^^^ (Kec.g s (k + 10))) (Kec.g s (k + 15)) (Kec.xor_lt (Kec.xor_lt (ws _) (ws _)) (ws _)) (ws _)) (by kernel_rfl)) ?_
      refine st_k (o_kcolumns 1689 28) (pT b 0) ?_
      refine st_k (o_kcolumns 1689 29) (iN k) ?_
      refine st_c (o_kcolumns 1689 30) 115 #[iN k, .int .i64 4] (iN (k + 20)) Try.func115 (kat_as k 4 (k + 20) _ (by omega) (by omega) (by unfold Kec.at_; omega)) ?_
      refine st_k (o_kcolumns 1689 31) (pT b 0) ?_
      refine st_p (o_kcolumns 1689 32) (pT b (k + 20)) (exec_cast (v := .pointer (some ⟨b, 0 + (k + 20) * 1, none⟩)) (by simp) (exec_indexAt_arr 87 (.tmp 40) (.tmp 39) (by kernel_rfl) b 0 (by kernel_rfl) .i64 (k + 20) (by kernel_rfl) _ _ 1 Try.underlying87 (by kernel_rfl) (by omega))) ?_
      refine st_p (o_kcolumns 1689 33) (uN (Kec.g s (k + 20))) (exec_ld 27 (.tmp 41) b (k + 20) Try.underlying27 (rc (h13) (Wz_get _ (k + 20) (by rw [hs]; omega)))) ?_
      refine st_p (o_kcolumns 1689 34) (uN (((((Kec.g s k) ^^^ (Kec.g s (k + 5))) ^^^ (Kec.g s (k + 10))) ^^^ (Kec.g s (k + 15))) ^^^ (Kec.g s (k + 20)))) (exec_cast (xorU ((((Kec.g s k) ^^^ (Kec.g s (k + 5))) ^^^ (Kec.g s (k + 10))) ^^^ (Kec.g s (k + 15))) (Kec.g s (k + 20)) (Kec.xor_lt (Kec.xor_lt (Kec.xor_lt (ws _) (ws _)) (ws _)) (ws _)) (ws _)) (by kernel_rfl)) ?_
      refine st_p (o_kcolumns 1689 35) (pT gc k) (exec_cast (v := pT gc (0 + k * 1)) (by simp) (exec_indexAt_arr 140 (.tmp 2) (.tmp 9) (by kernel_rfl) gc 0 (by kernel_rfl) .i64 k (by kernel_rfl) _ _ 1 Try.underlying140 (by kernel_rfl) (by omega))) ?_
      refine st_end ?_
      obtain ⟨V16, eV16, kV16⟩ := cell_step V12 gc k (.int .u64 ((((((Kec.g s k) ^^^ (Kec.g s (k + 5))) ^^^ (Kec.g s (k + 10))) ^^^ (Kec.g s (k + 15))) ^^^ (Kec.g s (k + 20)) : Nat) : Int))
      have h17 : V16.heap[gc]? = some (.cells (Wz (stp (Kec.col s) (k + 1) [0, 0, 0, 0, 0])) 140 (0, 0)) := eV16 ▸ ((heap_setCell_same _ gc k _ _ (.int .u64 ((((((Kec.g s k) ^^^ (Kec.g s (k + 5))) ^^^ (Kec.g s (k + 10))) ^^^ (Kec.g s (k + 15))) ^^^ (Kec.g s (k + 20)) : Nat) : Int)) h14).trans (congrArg (fun c => some (Obj.cells c 140 (0, 0))) (show (Wz (stp (Kec.col s) k [0, 0, 0, 0, 0]) : Array Value).setIfInBounds k (.int .u64 ((((((Kec.g s k) ^^^ (Kec.g s (k + 5))) ^^^ (Kec.g s (k + 10))) ^^^ (Kec.g s (k + 15))) ^^^ (Kec.g s (k + 20)) : Nat) : Int)) = Wz (stp (Kec.col s) (k + 1) [0, 0, 0, 0, 0]) from by rw [Wz_set]; exact congrArg Wz (by rw [stp_succ] <;> rfl))))
      refine ls_skip (o_kcolumns 1689 36) (w' := V16) (by kernel_rfl) (by rw [← eV16]; exact exec_store_cell 27 (.tmp 44) (.tmp 43) (by kernel_rfl) gc k (by kernel_rfl) (.int .u64 ((((((Kec.g s k) ^^^ (Kec.g s (k + 5))) ^^^ (Kec.g s (k + 10))) ^^^ (Kec.g s (k + 15))) ^^^ (Kec.g s (k + 20)) : Nat) : Int)) (by kernel_rfl) (by kernel_rfl) (by kernel_rfl) (.int .u64 ((Kec.g (stp (Kec.col s) k [0, 0, 0, 0, 0]) k : Nat) : Int)) (rc (h14) (Wz_get _ k (by rw [stp_len, show ([0, 0, 0, 0, 0] : List Nat).length = 5 from rfl]; omega))) (frozen_of_row _ _ _ _ _ h14) (by kernel_rfl)) ?_
      clear eV16
      have h18 := kV16.bo h13 (by omega)
      have K19 := K15.no kV16 (by omega)
      refine ls_end ?_
      refine sy_a ⟨#[pT b 0, undef, pT gc 0, iN k, undef, undef, iN k, .bool true, iN k, iN k, pT b 0, iN k, iN k, pT b 0, pT b k, uN (Kec.g s k), pT b 0, iN k, iN (k + 5), pT b 0, pT b (k + 5), uN (Kec.g s (k + 5)), uN ((Kec.g s k) ^^^ (Kec.g s (k + 5))), pT b 0, iN k, iN (k + 10), pT b 0, pT b (k + 10), uN (Kec.g s (k + 10)), uN (((Kec.g s k) ^^^ (Kec.g s (k + 5))) ^^^ (Kec.g s (k + 10))), pT b 0, iN k, iN (k + 15), pT b 0, pT b (k + 15), uN (Kec.g s (k + 15)), uN ((((Kec.g s k) ^^^ (Kec.g s (k + 5))) ^^^ (Kec.g s (k + 10))) ^^^ (Kec.g s (k + 15))), pT b 0, iN k, iN (k + 20), pT b 0, pT b (k + 20), uN (Kec.g s (k + 20)), uN (((((Kec.g s k) ^^^ (Kec.g s (k + 5))) ^^^ (Kec.g s (k + 10))) ^^^ (Kec.g s (k + 15))) ^^^ (Kec.g s (k + 20))), pT gc k, u45, undef, undef, undef, undef, undef, undef, undef, undef, undef, undef, undef, undef, undef, undef, undef, undef, undef, undef, undef, undef, undef, undef, undef, undef, undef, undef], []⟩ ?_
      refine blk_n ?_
      refine then_n ?_
      refine sy_reg ?_
      refine rg_plain 5 (opsAt (part_kcolumns 423)) [0, 1] (by kernel_rfl) (by kernel_rfl) ?_
      refine ps_p (o_kcolumns 423 0) (iN (k + 1)) (exec_cast (congrArg (Value.int .i64) (wrapN (k + 1) (by omega))) (by kernel_rfl)) ?_
      refine ps_k (o_kcolumns 423 1) (iN (k + 1)) ?_
      refine ps_end ?_
      refine then_n ?_
      refine ⟨⟨k + 1, (iN k), (.bool true), (iN k), (iN k), (pT b 0), (iN k), (iN k), (pT b 0), (pT b k), (uN (Kec.g s k)), (pT b 0), (iN k), (iN (k + 5)), (pT b 0), (pT b (k + 5)), (uN (Kec.g s (k + 5))), (uN ((Kec.g s k) ^^^ (Kec.g s (k + 5)))), (pT b 0), (iN k), (iN (k + 10)), (pT b 0), (pT b (k + 10)), (uN (Kec.g s (k + 10))), (uN (((Kec.g s k) ^^^ (Kec.g s (k + 5))) ^^^ (Kec.g s (k + 10)))), (pT b 0), (iN k), (iN (k + 15)), (pT b 0), (pT b (k + 15)), (uN (Kec.g s (k + 15))), (uN ((((Kec.g s k) ^^^ (Kec.g s (k + 5))) ^^^ (Kec.g s (k + 10))) ^^^ (Kec.g s (k + 15)))), (pT b 0), (iN k), (iN (k + 20)), (pT b 0), (pT b (k + 20)), (uN (Kec.g s (k + 20))), (uN (((((Kec.g s k) ^^^ (Kec.g s (k + 5))) ^^^ (Kec.g s (k + 10))) ^^^ (Kec.g s (k + 15))) ^^^ (Kec.g s (k + 20)))), (pT gc k), (iN (k + 1)), by kernel_rfl, by omega, h18, h17, K19⟩, ?_⟩
      exact lt_meas (x := 5 - (k + 1)) (y := 5 - k) (by kernel_rfl) (by kernel_rfl) (by omega)
    · have eq_k : k = 5 := by omega
      have h20 : V7.heap[gc]? = some (.cells (Wz ((List.range 5).map (Kec.col s))) 140 (0, 0)) := h9.trans (by rw [eq_k, stp_all _ _ 5 rfl])
      refine sy_sq (part_kcolumns 104) (part_kcolumns 105) ?_
      refine sy_reg ?_
      refine rg_plain 2 (opsAt (part_kcolumns 104)) [0] (by kernel_rfl) (by kernel_rfl) ?_
      refine ps_p (o_kcolumns 104 0) (.bool false) (dcf ((((k : Nat) : Int)) < ((5) : Int)) (by omega)) ?_
      refine ps_end ?_
      refine then_n ?_
      refine sy_sq (part_kcolumns 210) (part_kcolumns 211) ?_
      refine sy_n (.tmp 7) (part_kcolumns 420) (part_kcolumns 421) ?_
      refine sy_exit 0 (by kernel_rfl) ?_
      refine then_e ?_
      refine then_e ?_
      refine blk_e ?_
      refine then_n ?_
      refine sy_sq (part_kcolumns 14) (part_kcolumns 15) ?_
      refine sy_reg ?_
      refine rg_plain 6 (opsAt (part_kcolumns 14)) [0] (by kernel_rfl) (by kernel_rfl) ?_
      refine ps_k (o_kcolumns 14 0) (.int .i64 0) ?_
      refine ps_end ?_
      refine then_n ?_
      refine sy_bk 2 (part_kcolumns 30) ?_
      refine sy_loop (part_kcolumns 60) (fun a V => ∃ (j : Nat) (u4 u5 u47 u48 u49 u50 u51 u52 u53 u54 u55 u56 u57 u58 u59 u60 u61 u62 u63 u64 u65 u66 u67 u68 u69 u70 u71 : Value), (a = ⟨#[pT b 0, undef, pT gc 0, u3, u4, u5, iN k, .bool false, u8, u9, u10, u11, u12, u13, u14, u15, u16, u17, u18, u19, u20, u21, u22, u23, u24, u25, u26, u27, u28, u29, u30, u31, u32, u33, u34, u35, u36, u37, u38, u39, u40, u41, u42, u43, u44, u45, iN j, u47, u48, u49, u50, u51, u52, u53, u54, u55, u56, u57, u58, u59, u60, u61, u62, u63, u64, u65, u66, u67, u68, u69, u70, u71], []⟩) ∧ (j ≤ 25) ∧ (V.heap[b]? = some (.cells (Wz (stp (fun i => Kec.g s i ^^^ Kec.dd s (i % 5)) j s)) 87 (0, 0))) ∧ (V.heap[gc]? = some (.cells (Wz ((List.range 5).map (Kec.col s))) 140 (0, 0))) ∧ (Keeps (One b) w V)) (fun a _ => 25 - (intOf (a.tmps.getD 46 undef)).toNat) (by kernel_rfl) ?_ ?_
      · exact ⟨0, undef, undef, undef, undef, undef, undef, undef, undef, undef, undef, undef, undef, undef, undef, undef, undef, undef, undef, undef, undef, undef, undef, undef, undef, undef, undef, undef, by kernel_rfl, by omega, h8, h20, K10⟩
      · rintro a V21 ⟨j, u4, u5, u47, u48, u49, u50, u51, u52, u53, u54, u55, u56, u57, u58, u59, u60, u61, u62, u63, u64, u65, u66, u67, u68, u69, u70, u71, rfl, hj, h22, h23, K24⟩
        by_cases lt_j : j < 25
        · show _
          refine sy_sq (part_kcolumns 120) (part_kcolumns 121) ?_
          refine sy_reg ?_
          refine rg_plain 7 (opsAt (part_kcolumns 120)) [0] (by kernel_rfl) (by kernel_rfl) ?_
          refine ps_p (o_kcolumns 120 0) (.bool true) (dct ((((j : Nat) : Int)) < ((25) : Int)) (by omega)) ?_
          refine ps_end ?_
          refine then_n ?_
          refine sy_sq (part_kcolumns 242) (part_kcolumns 243) ?_
          refine sy_ys (.tmp 47) (part_kcolumns 484) (part_kcolumns 485) ?_
          refine sy_sk ?_
          refine then_n ?_
          refine sy_sq (part_kcolumns 486) (part_kcolumns 487) ?_
          refine sy_bk 3 (part_kcolumns 972) ?_
          refine sy_sq (part_kcolumns 1944) (part_kcolumns 1945) ?_
          refine sy_reg ?_
          refine rg_plain 8 (opsAt (part_kcolumns 1944)) [0, 1] (by kernel_rfl) (by kernel_rfl) ?_
          refine ps_k (o_kcolumns 1944 0) (iN j) ?_
          refine ps_k (o_kcolumns 1944 1) (iN j) ?_
          refine ps_end ?_
          refine then_n ?_
          refine sy_sq (part_kcolumns 3890) (part_kcolumns 3891) ?_
          refine sy_reg ?_
          refine rg_plain 9 (opsAt (part_kcolumns 3890)) [0, 1, 2] (by kernel_rfl) (by kernel_rfl) ?_
          refine ps_k (o_kcolumns 3890 0) (iN j) ?_
          refine ps_k (o_kcolumns 3890 1) (iN (j % 5)) ?_
          refine ps_k (o_kcolumns 3890 2) (iN (j % 5)) ?_
          refine ps_end ?_
          refine then_n ?_
          refine sy_reg ?_
          refine rg_still 10 20 (opsAt (part_kcolumns 3891)) [o_kcolumns 3891 0, o_kcolumns 3891 1, o_kcolumns 3891 2, o_kcolumns 3891 3, o_kcolumns 3891 4, o_kcolumns 3891 5, o_kcolumns 3891 6, o_kcolumns 3891 7, o_kcolumns 3891 8, o_kcolumns 3891 9, o_kcolumns 3891 10, o_kcolumns 3891 11, o_kcolumns 3891 12, o_kcolumns 3891 13, o_kcolumns 3891 14, o_kcolumns 3891 15, o_kcolumns 3891 16, o_kcolumns 3891 17, o_kcolumns 3891 18, o_kcolumns 3891 19] [o_kcolumns 3891 20] (by kernel_rfl) (by kernel_rfl) (by kernel_rfl) (by kernel_rfl) (by kernel_rfl) ?_
          obtain ⟨V26, eV26, kV26⟩ := drew_step V21
          rw [eV26]
          clear eV26
          have h27 := kV26.bk h22
          have h28 := kV26.bk h23
          have K29 := K24.nn kV26
          refine st_k (o_kcolumns 3891 0) (pT b 0) ?_
          refine st_k (o_kcolumns 3891 1) (iN j) ?_
          refine st_k (o_kcolumns 3891 2) (pT b 0) ?_
          refine st_p (o_kcolumns 3891 3) (pT b j) (exec_cast (v := pT b (0 + j * 1)) (by simp) (exec_indexAt_arr 87 (.tmp 53) (.tmp 52) (by kernel_rfl) b 0 (by kernel_rfl) .i64 j (by kernel_rfl) _ _ 1 Try.underlying87 (by kernel_rfl) (by omega))) ?_
          refine st_p (o_kcolumns 3891 4) (uN (Kec.g s j)) (exec_ld 27 (.tmp 54) b j Try.underlying27 (rc (h27) (Wz_get' _ j _ (by rw [stp_len, hs]; omega) (by rw [stp_get _ _ _ _ (by omega), if_neg (by omega)])))) ?_
          refine st_k (o_kcolumns 3891 5) (iN (j % 5)) ?_
          refine st_p (o_kcolumns 3891 6) (iN ((j % 5) + 4)) (exec_cast (congrArg (Value.int .i64) (wrapN ((j % 5) + 4) (by omega))) (by kernel_rfl)) ?_
          refine st_k (o_kcolumns 3891 7) (iN (((j % 5) + 4) % 5)) ?_
          refine st_p (o_kcolumns 3891 8) (.pointer (some ⟨gc, ((j % 5) + 4) % 5, none⟩)) (exec_cast (v := .pointer (some ⟨gc, 0 + (((j % 5) + 4) % 5) * 1, none⟩)) (by simp) (exec_indexAt_arr 140 (.tmp 2) (.tmp 58) (by kernel_rfl) gc 0 (by kernel_rfl) .i64 (((j % 5) + 4) % 5) (by kernel_rfl) _ _ 1 Try.underlying140 (by kernel_rfl) (by omega))) ?_
          refine st_p (o_kcolumns 3891 9) (uN (Kec.col s (((j % 5) + 4) % 5))) (exec_ld 27 (.tmp 59) gc (((j % 5) + 4) % 5) Try.underlying27 (rc (h28) (Wz_get' _ (((j % 5) + 4) % 5) _ (by rw [List.length_map, List.length_range]; omega) (g_map5 _ _ (by omega))))) ?_
          refine st_k (o_kcolumns 3891 10) (iN (j % 5)) ?_
          refine st_p (o_kcolumns 3891 11) (iN ((j % 5) + 1)) (exec_cast (congrArg (Value.int .i64) (wrapN ((j % 5) + 1) (by omega))) (by kernel_rfl)) ?_
          refine st_k (o_kcolumns 3891 12) (iN (((j % 5) + 1) % 5)) ?_
          refine st_p (o_kcolumns 3891 13) (.pointer (some ⟨gc, ((j % 5) + 1) % 5, none⟩)) (exec_cast (v := .pointer (some ⟨gc, 0 + (((j % 5) + 1) % 5) * 1, none⟩)) (by simp) (exec_indexAt_arr 140 (.tmp 2) (.tmp 63) (by kernel_rfl) gc 0 (by kernel_rfl) .i64 (((j % 5) + 1) % 5) (by kernel_rfl) _ _ 1 Try.underlying140 (by kernel_rfl) (by omega))) ?_
          refine st_p (o_kcolumns 3891 14) (uN (Kec.col s (((j % 5) + 1) % 5))) (exec_ld 27 (.tmp 64) gc (((j % 5) + 1) % 5) Try.underlying27 (rc (h28) (Wz_get' _ (((j % 5) + 1) % 5) _ (by rw [List.length_map, List.length_range]; omega) (g_map5 _ _ (by omega))))) ?_
          refine st_c (o_kcolumns 3891 15) 116 #[uN (Kec.col s (((j % 5) + 1) % 5)), .int .i64 1] (uN (Kec.rot (Kec.col s (((j % 5) + 1) % 5)) 1)) Try.func116 (rotl_ok (Kec.col s (((j % 5) + 1) % 5)) 1 _ (Kec.col_lt ws _) (by omega)) ?_
          refine st_p (o_kcolumns 3891 16) (uN ((Kec.col s (((j % 5) + 4) % 5)) ^^^ (Kec.rot (Kec.col s (((j % 5) + 1) % 5)) 1))) (exec_cast (xorU (Kec.col s (((j % 5) + 4) % 5)) (Kec.rot (Kec.col s (((j % 5) + 1) % 5)) 1) (Kec.col_lt ws _) (Kec.rot_lt (Kec.col_lt ws _) _)) (by kernel_rfl)) ?_
          refine st_p (o_kcolumns 3891 17) (uN ((Kec.g s j) ^^^ ((Kec.col s (((j % 5) + 4) % 5)) ^^^ (Kec.rot (Kec.col s (((j % 5) + 1) % 5)) 1)))) (exec_cast (xorU (Kec.g s j) ((Kec.col s (((j % 5) + 4) % 5)) ^^^ (Kec.rot (Kec.col s (((j % 5) + 1) % 5)) 1)) (ws _) (Kec.xor_lt (Kec.col_lt ws _) (Kec.rot_lt (Kec.col_lt ws _) _))) (by kernel_rfl)) ?_
          refine st_k (o_kcolumns 3891 18) (pT b 0) ?_
          refine st_p (o_kcolumns 3891 19) (pT b j) (exec_cast (v := pT b (0 + j * 1)) (by simp) (exec_indexAt_arr 87 (.tmp 69) (.tmp 52) (by kernel_rfl) b 0 (by kernel_rfl) .i64 j (by kernel_rfl) _ _ 1 Try.underlying87 (by kernel_rfl) (by omega))) ?_
          refine st_end ?_
          obtain ⟨V30, eV30, kV30⟩ := cell_step V26 b j (.int .u64 (((Kec.g s j) ^^^ ((Kec.col s (((j % 5) + 4) % 5)) ^^^ (Kec.rot (Kec.col s (((j % 5) + 1) % 5)) 1)) : Nat) : Int))
          have h31 : V30.heap[b]? = some (.cells (Wz (stp (fun i => Kec.g s i ^^^ Kec.dd s (i % 5)) (j + 1) s)) 87 (0, 0)) := eV30 ▸ ((heap_setCell_same _ b j _ _ (.int .u64 (((Kec.g s j) ^^^ ((Kec.col s (((j % 5) + 4) % 5)) ^^^ (Kec.rot (Kec.col s (((j % 5) + 1) % 5)) 1)) : Nat) : Int)) h27).trans (congrArg (fun c => some (Obj.cells c 87 (0, 0))) (show (Wz (stp (fun i => Kec.g s i ^^^ Kec.dd s (i % 5)) j s) : Array Value).setIfInBounds j (.int .u64 (((Kec.g s j) ^^^ ((Kec.col s (((j % 5) + 4) % 5)) ^^^ (Kec.rot (Kec.col s (((j % 5) + 1) % 5)) 1)) : Nat) : Int)) = Wz (stp (fun i => Kec.g s i ^^^ Kec.dd s (i % 5)) (j + 1) s) from by rw [Wz_set]; exact congrArg Wz (by rw [stp_succ] <;> rfl))))
          refine ls_skip (o_kcolumns 3891 20) (w' := V30) (by kernel_rfl) (by rw [← eV30]; exact exec_store_cell 27 (.tmp 70) (.tmp 68) (by kernel_rfl) b j (by kernel_rfl) (.int .u64 (((Kec.g s j) ^^^ ((Kec.col s (((j % 5) + 4) % 5)) ^^^ (Kec.rot (Kec.col s (((j % 5) + 1) % 5)) 1)) : Nat) : Int)) (by kernel_rfl) (by kernel_rfl) (by kernel_rfl) (.int .u64 ((Kec.g s j : Nat) : Int)) (rc (h27) (Wz_get' _ j _ (by rw [stp_len, hs]; omega) (by rw [stp_get _ _ _ _ (by omega), if_neg (by omega)]))) (frozen_of_row _ _ _ _ _ h27) (by kernel_rfl)) ?_
          clear eV30
          have h32 := kV30.bo h28 (by omega)
          have K33 : Keeps (One b) w V30 := K29.then kV30 (fun i hi hm => by unfold Own.One at hm; subst hm; exact rfl)
          refine ls_end ?_
          refine sy_a ⟨#[pT b 0, undef, pT gc 0, u3, iN j, iN (j % 5), iN k, .bool false, u8, u9, u10, u11, u12, u13, u14, u15, u16, u17, u18, u19, u20, u21, u22, u23, u24, u25, u26, u27, u28, u29, u30, u31, u32, u33, u34, u35, u36, u37, u38, u39, u40, u41, u42, u43, u44, u45, iN j, .bool true, iN j, iN j, iN (j % 5), pT b 0, iN j, pT b 0, pT b j, uN (Kec.g s j), iN (j % 5), iN ((j % 5) + 4), iN (((j % 5) + 4) % 5), .pointer (some ⟨gc, ((j % 5) + 4) % 5, none⟩), uN (Kec.col s (((j % 5) + 4) % 5)), iN (j % 5), iN ((j % 5) + 1), iN (((j % 5) + 1) % 5), .pointer (some ⟨gc, ((j % 5) + 1) % 5, none⟩), uN (Kec.col s (((j % 5) + 1) % 5)), uN (Kec.rot (Kec.col s (((j % 5) + 1) % 5)) 1), uN ((Kec.col s (((j % 5) + 4) % 5)) ^^^ (Kec.rot (Kec.col s (((j % 5) + 1) % 5)) 1)), uN ((Kec.g s j) ^^^ ((Kec.col s (((j % 5) + 4) % 5)) ^^^ (Kec.rot (Kec.col s (((j % 5) + 1) % 5)) 1))), pT b 0, pT b j, u71], []⟩ ?_
          refine blk_n ?_
          refine then_n ?_
          refine sy_reg ?_
          refine rg_plain 11 (opsAt (part_kcolumns 487)) [0, 1] (by kernel_rfl) (by kernel_rfl) ?_
          refine ps_p (o_kcolumns 487 0) (iN (j + 1)) (exec_cast (congrArg (Value.int .i64) (wrapN (j + 1) (by omega))) (by kernel_rfl)) ?_
          refine ps_k (o_kcolumns 487 1) (iN (j + 1)) ?_
          refine ps_end ?_
          refine then_n ?_
          refine ⟨⟨j + 1, (iN j), (iN (j % 5)), (.bool true), (iN j), (iN j), (iN (j % 5)), (pT b 0), (iN j), (pT b 0), (pT b j), (uN (Kec.g s j)), (iN (j % 5)), (iN ((j % 5) + 4)), (iN (((j % 5) + 4) % 5)), (.pointer (some ⟨gc, ((j % 5) + 4) % 5, none⟩)), (uN (Kec.col s (((j % 5) + 4) % 5))), (iN (j % 5)), (iN ((j % 5) + 1)), (iN (((j % 5) + 1) % 5)), (.pointer (some ⟨gc, ((j % 5) + 1) % 5, none⟩)), (uN (Kec.col s (((j % 5) + 1) % 5))), (uN (Kec.rot (Kec.col s (((j % 5) + 1) % 5)) 1)), (uN ((Kec.col s (((j % 5) + 4) % 5)) ^^^ (Kec.rot (Kec.col s (((j % 5) + 1) % 5)) 1))), (uN ((Kec.g s j) ^^^ ((Kec.col s (((j % 5) + 4) % 5)) ^^^ (Kec.rot (Kec.col s (((j % 5) + 1) % 5)) 1)))), (pT b 0), (pT b j), (iN (j + 1)), by kernel_rfl, by omega, h31, h32, K33⟩, ?_⟩
          exact lt_meas (x := 25 - (j + 1)) (y := 25 - j) (by kernel_rfl) (by kernel_rfl) (by omega)
        · have eq_j : j = 25 := by omega
          refine sy_sq (part_kcolumns 120) (part_kcolumns 121) ?_
          refine sy_reg ?_
          refine rg_plain 7 (opsAt (part_kcolumns 120)) [0] (by kernel_rfl) (by kernel_rfl) ?_
          refine ps_p (o_kcolumns 120 0) (.bool false) (dcf ((((j : Nat) : Int)) < ((25) : Int)) (by omega)) ?_
          refine ps_end ?_
          refine then_n ?_
          refine sy_sq (part_kcolumns 242) (part_kcolumns 243) ?_
          refine sy_n (.tmp 47) (part_kcolumns 484) (part_kcolumns 485) ?_
          refine sy_exit 2 (by kernel_rfl) ?_
          refine then_e ?_
          refine then_e ?_
          refine blk_e ?_
          refine sy_fall (.tuple #[]) rfl (by kernel_rfl) ?_
          exact ⟨rfl, h22.trans (by rw [eq_j, stp_all _ _ 25 hs]; rfl), K24⟩
noncomputable def part_kturns (n : Nat) : Code := partOf Try.f117 n
noncomputable abbrev o_kturns (n k : Nat) : Oper := (opsAt (part_kturns n)).getD k default
set_option maxRecDepth 100000 in
set_option maxHeartbeats 4000000 in
theorem kturns_ok (w : World) :
    Calls Try.prog 117 #[] w (fun e w' => e = .returned (.agg Rz) ∧ Keeps Nob w w') := by
  have K0 : Keeps Nob w w := Keeps.refl _ _
  refine sy_enter (part_kturns 1) ⟨#[undef, undef], []⟩ Try.func117 (by kernel_rfl) (by kernel_rfl) ?_
  refine sy_sq (part_kturns 2) (part_kturns 3) ?_
  refine sy_reg ?_
  refine rg_plain 0 (opsAt (part_kturns 2)) [0] (by kernel_rfl) (by kernel_rfl) ?_
  obtain ⟨V1, eV1, g, eg, h2, kV1⟩ := alloc_step w (zr_i64_25) 141
  have n3 : w.heap.size ≤ g := eg ▸ K0.size
  refine ps_r (o_kturns 2 0) (pT g 0) (w' := V1) (by rw [← eV1, ← eg]; exact exec_alloc0 141 (by kernel_rfl) (.agg (zr_i64_25)) (by kernel_rfl)) ?_
  clear eV1
  have K4 := K0.nn kV1
  refine ps_end ?_
  refine then_n ?_
  refine sy_sq (part_kturns 6) (part_kturns 7) ?_
  refine sy_reg ?_
  refine rg_plain 1 (opsAt (part_kturns 6)) [0, 1] (by kernel_rfl) (by kernel_rfl) ?_
  refine ps_k (o_kturns 6 0) (.agg #[.int .i64 0, .int .i64 1, .int .i64 62, .int .i64 28, .int .i64 27, .int .i64 36, .int .i64 44, .int .i64 6, .int .i64 55, .int .i64 20, .int .i64 3, .int .i64 10, .int .i64 43, .int .i64 25, .int .i64 39, .int .i64 41, .int .i64 45, .int .i64 15, .int .i64 21, .int .i64 8, .int .i64 18, .int .i64 2, .int .i64 61, .int .i64 56, .int .i64 14]) ?_
  obtain ⟨V5, eV5, kV5⟩ := rowset_step V1 g (#[.int .i64 0, .int .i64 1, .int .i64 62, .int .i64 28, .int .i64 27, .int .i64 36, .int .i64 44, .int .i64 6, .int .i64 55, .int .i64 20, .int .i64 3, .int .i64 10, .int .i64 43, .int .i64 25, .int .i64 39, .int .i64 41, .int .i64 45, .int .i64 15, .int .i64 21, .int .i64 8, .int .i64 18, .int .i64 2, .int .i64 61, .int .i64 56, .int .i64 14])
  have h6 : V5.heap[g]? = some (.cells (#[.int .i64 0, .int .i64 1, .int .i64 62, .int .i64 28, .int .i64 27, .int .i64 36, .int .i64 44, .int .i64 6, .int .i64 55, .int .i64 20, .int .i64 3, .int .i64 10, .int .i64 43, .int .i64 25, .int .i64 39, .int .i64 41, .int .i64 45, .int .i64 15, .int .i64 21, .int .i64 8, .int .i64 18, .int .i64 2, .int .i64 61, .int .i64 56, .int .i64 14]) 141 (0, 0)) := eV5 ▸ setRow_heap _ _ _ _ _ _ h2
  refine ps_s (o_kturns 6 1) (w' := V5) (by rw [← eV5]; exact exec_store_row 141 (.tmp 0) (.tmp 1) (by kernel_rfl) g (#[.int .i64 0, .int .i64 1, .int .i64 62, .int .i64 28, .int .i64 27, .int .i64 36, .int .i64 44, .int .i64 6, .int .i64 55, .int .i64 20, .int .i64 3, .int .i64 10, .int .i64 43, .int .i64 25, .int .i64 39, .int .i64 41, .int .i64 45, .int .i64 15, .int .i64 21, .int .i64 8, .int .i64 18, .int .i64 2, .int .i64 61, .int .i64 56, .int .i64 14]) (by kernel_rfl) (by kernel_rfl) 141 (zr_i64_25) h2 (by kernel_rfl) (by kernel_rfl) (by kernel_rfl)) ?_
  clear eV5
  have K7 := K4.no kV5 (by omega)
  refine ps_end ?_
  refine then_n ?_
  refine sy_ret (by kernel_rfl) ?_
  refine sy_out (.agg (#[.int .i64 0, .int .i64 1, .int .i64 62, .int .i64 28, .int .i64 27, .int .i64 36, .int .i64 44, .int .i64 6, .int .i64 55, .int .i64 20, .int .i64 3, .int .i64 10, .int .i64 43, .int .i64 25, .int .i64 39, .int .i64 41, .int .i64 45, .int .i64 15, .int .i64 21, .int .i64 8, .int .i64 18, .int .i64 2, .int .i64 61, .int .i64 56, .int .i64 14])) rfl (results_cell_row (p := 0) (ty := 141) (by kernel_rfl) _ _ g 141 (#[.int .i64 0, .int .i64 1, .int .i64 62, .int .i64 28, .int .i64 27, .int .i64 36, .int .i64 44, .int .i64 6, .int .i64 55, .int .i64 20, .int .i64 3, .int .i64 10, .int .i64 43, .int .i64 25, .int .i64 39, .int .i64 41, .int .i64 45, .int .i64 15, .int .i64 21, .int .i64 8, .int .i64 18, .int .i64 2, .int .i64 61, .int .i64 56, .int .i64 14]) (0, 0) _ (by kernel_rfl) h6 Try.underlying141 rfl (by kernel_rfl)) ?_
  exact ⟨congrArg Ending.returned (show _ = Value.agg Rz by kernel_rfl), K7⟩
noncomputable def part_kmoves (n : Nat) : Code := partOf Try.f111 n
noncomputable abbrev o_kmoves (n k : Nat) : Oper := (opsAt (part_kmoves n)).getD k default
set_option maxRecDepth 100000 in
set_option maxHeartbeats 4000000 in
theorem kmoves_ok (b : Nat) (s : List Nat) (w : World) (hs : s.length = 25) (ws : Kec.Ws s) (hb : w.heap[b]? = some (.cells (Wz s) 87 (0, 0))) :
    Calls Try.prog 111 #[.pointer (some ⟨b, 0, none⟩)] w (fun e w' => e = .returned (.tuple #[]) ∧ w'.heap[b]? = some (.cells (Wz (Kec.moves s)) 87 (0, 0)) ∧ Keeps (One b) w w') := by
  have K0 : Keeps (One b) w w := Keeps.refl _ _
  refine sy_enter (part_kmoves 1) ⟨#[pT b 0, undef, undef, undef, undef, undef, undef, undef, undef, undef, undef, undef, undef, undef, undef, undef, undef, undef, undef, undef, undef, undef, undef, undef, undef, undef, undef, undef, undef, undef, undef, undef, undef, undef, undef], []⟩ Try.func111 (by kernel_rfl) (by kernel_rfl) ?_
  refine sy_sq (part_kmoves 2) (part_kmoves 3) ?_
  refine sy_reg ?_
  refine rg_plain 0 (opsAt (part_kmoves 2)) [0, 1, 2, 3, 4] (by kernel_rfl) (by kernel_rfl) ?_
  refine ps_k (o_kmoves 2 0) (pT b 0) ?_
  refine ps_k (o_kmoves 2 1) (pT b 0) ?_
  refine ps_p (o_kmoves 2 2) (.agg (Wz s)) (exec_load_row 87 (.tmp 8) (by kernel_rfl) b (by kernel_rfl) _ _ (0, 0) _ (hb) Try.underlying87 rfl (by rw [Wz_size, hs]; kernel_rfl)) ?_
  obtain ⟨V1, eV1, gw, egw, h2, kV1⟩ := alloc_step w (zr_u64_25) 87
  have n3 : b < gw := egw ▸ lt_of_block hb
  have n4 : w.heap.size ≤ gw := egw ▸ K0.size
  refine ps_r (o_kmoves 2 3) (pT gw 0) (w' := V1) (by rw [← eV1, ← egw]; exact exec_alloc0 87 (by kernel_rfl) (.agg (zr_u64_25)) (by kernel_rfl)) ?_
  clear eV1
  have h5 := kV1.bk hb
  have K6 := K0.nn kV1
  obtain ⟨V7, eV7, kV7⟩ := rowset_step V1 gw ((Wz s))
  have h8 : V7.heap[gw]? = some (.cells (Wz s) 87 (0, 0)) := eV7 ▸ setRow_heap _ _ _ _ _ _ h2
  refine ps_s (o_kmoves 2 4) (w' := V7) (by rw [← eV7]; exact exec_store_row 87 (.tmp 2) (.tmp 9) (by kernel_rfl) gw ((Wz s)) (by kernel_rfl) (by kernel_rfl) 87 (zr_u64_25) h2 (by rw [Wz_size, hs]; kernel_rfl) (by rw [Wz_size, hs]; rfl) (Wz_one _)) ?_
  clear eV7
  have h9 := kV7.bo h5 (by omega)
  have K10 := K6.no kV7 (by omega)
  refine ps_end ?_
  refine then_n ?_
  refine sy_sq (part_kmoves 6) (part_kmoves 7) ?_
  refine sy_reg ?_
  refine rg_plain 1 (opsAt (part_kmoves 6)) [0, 1] (by kernel_rfl) (by kernel_rfl) ?_
  refine ps_c (o_kmoves 6 0) 117 #[] Try.func117 ((kturns_ok _).mono ?_)
  rintro e V11 ⟨rfl, kV11⟩
  refine ⟨_, rfl, ?_⟩
  have h12 := kV11.bk h9
  have h13 := kV11.bk h8
  have K14 := K10.nn kV11
  refine ps_k (o_kmoves 6 1) (.int .i64 0) ?_
  refine ps_end ?_
  refine then_n ?_
  refine sy_bk 0 (part_kmoves 14) ?_
  refine sy_loop (part_kmoves 28) (fun a V => ∃ (k : Nat) (u3 u4 u5 u6 u12 u13 u14 u15 u16 u17 u18 u19 u20 u21 u22 u23 u24 u25 u26 u27 u28 u29 u30 u31 u32 u33 u34 : Value), (a = ⟨#[pT b 0, undef, pT gw 0, u3, u4, u5, u6, pT b 0, pT b 0, .agg (Wz s), .agg Rz, iN k, u12, u13, u14, u15, u16, u17, u18, u19, u20, u21, u22, u23, u24, u25, u26, u27, u28, u29, u30, u31, u32, u33, u34], []⟩) ∧ (k ≤ 25) ∧ (V.heap[b]? = some (.cells (Wz (Kec.stpD Kec.dest (fun i => Kec.rot (Kec.g s i) (Kec.g Kec.R i)) k s)) 87 (0, 0))) ∧ (V.heap[gw]? = some (.cells (Wz s) 87 (0, 0))) ∧ (Keeps (One b) w V)) (fun a _ => 25 - (intOf (a.tmps.getD 11 undef)).toNat) (by kernel_rfl) ?_ ?_
  · exact ⟨0, undef, undef, undef, undef, undef, undef, undef, undef, undef, undef, undef, undef, undef, undef, undef, undef, undef, undef, undef, undef, undef, undef, undef, undef, undef, undef, undef, by kernel_rfl, by omega, h12, h13, K14⟩
  · rintro a V15 ⟨k, u3, u4, u5, u6, u12, u13, u14, u15, u16, u17, u18, u19, u20, u21, u22, u23, u24, u25, u26, u27, u28, u29, u30, u31, u32, u33, u34, rfl, hk, h16, h17, K18⟩
    by_cases lt_k : k < 25
    · have hdk := Kec.dest_lt k
      refine sy_sq (part_kmoves 56) (part_kmoves 57) ?_
      refine sy_reg ?_
      refine rg_plain 2 (opsAt (part_kmoves 56)) [0] (by kernel_rfl) (by kernel_rfl) ?_
      refine ps_p (o_kmoves 56 0) (.bool true) (dct ((((k : Nat) : Int)) < ((25) : Int)) (by omega)) ?_
      refine ps_end ?_
      refine then_n ?_
      refine sy_sq (part_kmoves 114) (part_kmoves 115) ?_
      refine sy_ys (.tmp 12) (part_kmoves 228) (part_kmoves 229) ?_
      refine sy_sk ?_
      refine then_n ?_
      refine sy_sq (part_kmoves 230) (part_kmoves 231) ?_
      refine sy_bk 1 (part_kmoves 460) ?_
      refine sy_sq (part_kmoves 920) (part_kmoves 921) ?_
      refine sy_reg ?_
      refine rg_plain 3 (opsAt (part_kmoves 920)) [0, 1, 2, 3] (by kernel_rfl) (by kernel_rfl) ?_
      refine ps_k (o_kmoves 920 0) (iN k) ?_
      refine ps_p (o_kmoves 920 1) (iN (Kec.g Kec.R k)) (exec_index_arr 141 (.tmp 10) (.tmp 11) (by kernel_rfl) Rz (by kernel_rfl) .i64 k (by kernel_rfl) 25 3 Try.underlying141 (by kernel_rfl) (by kernel_rfl) (by omega) _ (Rz_get k (by omega))) ?_
      refine ps_k (o_kmoves 920 2) (iN k) ?_
      refine ps_k (o_kmoves 920 3) (iN (Kec.g Kec.R k)) ?_
      refine ps_end ?_
      refine then_n ?_
      refine sy_sq (part_kmoves 1842) (part_kmoves 1843) ?_
      refine sy_reg ?_
      refine rg_plain 4 (opsAt (part_kmoves 1842)) [0, 1, 2, 3, 4, 5] (by kernel_rfl) (by kernel_rfl) ?_
      refine ps_k (o_kmoves 1842 0) (iN k) ?_
      refine ps_k (o_kmoves 1842 1) (iN (k % 5)) ?_
      refine ps_k (o_kmoves 1842 2) (iN k) ?_
      refine ps_p (o_kmoves 1842 3) (iN (k / 5)) (exec_cast (congrArg (Value.int .i64) (wrapN (k / 5) (by omega))) (by kernel_rfl)) ?_
      refine ps_k (o_kmoves 1842 4) (iN (k % 5)) ?_
      refine ps_k (o_kmoves 1842 5) (iN (k / 5)) ?_
      refine ps_end ?_
      refine then_n ?_
      refine sy_reg ?_
      refine rg_still 5 15 (opsAt (part_kmoves 1843)) [o_kmoves 1843 0, o_kmoves 1843 1, o_kmoves 1843 2, o_kmoves 1843 3, o_kmoves 1843 4, o_kmoves 1843 5, o_kmoves 1843 6, o_kmoves 1843 7, o_kmoves 1843 8, o_kmoves 1843 9, o_kmoves 1843 10, o_kmoves 1843 11, o_kmoves 1843 12, o_kmoves 1843 13, o_kmoves 1843 14] [o_kmoves 1843 15] (by kernel_rfl) (by kernel_rfl) (by kernel_rfl) (by kernel_rfl) (by kernel_rfl) ?_
      obtain ⟨V20, eV20, kV20⟩ := drew_step V15
      rw [eV20]
      clear eV20
      have h21 := kV20.bk h16
      have h22 := kV20.bk h17
      have K23 := K18.nn kV20
      refine st_k (o_kmoves 1843 0) (pT b 0) ?_
      refine st_k (o_kmoves 1843 1) (iN (k / 5)) ?_
      refine st_k (o_kmoves 1843 2) (iN (k % 5)) ?_
      refine st_p (o_kmoves 1843 3) (iN (2 * (k % 5))) (exec_cast (congrArg (Value.int .i64) (wrapN (2 * (k % 5)) (by omega))) (by kernel_rfl)) ?_
      refine st_k (o_kmoves 1843 4) (iN (k / 5)) ?_
      refine st_p (o_kmoves 1843 5) (iN (3 * (k / 5))) (exec_cast (congrArg (Value.int .i64) (wrapN (3 * (k / 5)) (by omega))) (by kernel_rfl)) ?_
      refine st_p (o_kmoves 1843 6) (iN ((2 * (k % 5)) + (3 * (k / 5)))) (exec_cast (congrArg (Value.int .i64) (wrapN ((2 * (k % 5)) + (3 * (k / 5))) (by omega))) (by kernel_rfl)) ?_
      refine st_c (o_kmoves 1843 7) 115 #[iN (k / 5), iN ((2 * (k % 5)) + (3 * (k / 5)))] (iN (Kec.dest k)) Try.func115 (kat_as (k / 5) ((2 * (k % 5)) + (3 * (k / 5))) (Kec.dest k) _ (by omega) (by omega) (rfl)) ?_
      refine st_k (o_kmoves 1843 8) (iN k) ?_
      refine st_p (o_kmoves 1843 9) (pT gw k) (exec_cast (v := pT gw (0 + k * 1)) (by simp) (exec_indexAt_arr 87 (.tmp 2) (.tmp 27) (by kernel_rfl) gw 0 (by kernel_rfl) .i64 k (by kernel_rfl) _ _ 1 Try.underlying87 (by kernel_rfl) (by omega))) ?_
      refine st_p (o_kmoves 1843 10) (uN (Kec.g s k)) (exec_ld 27 (.tmp 28) gw k Try.underlying27 (rc (h22) (Wz_get _ k (by rw [hs]; omega)))) ?_
      refine st_k (o_kmoves 1843 11) (iN (Kec.g Kec.R k)) ?_
      refine st_c (o_kmoves 1843 12) 116 #[uN (Kec.g s k), iN (Kec.g Kec.R k)] (uN (Kec.rot (Kec.g s k) (Kec.g Kec.R k))) Try.func116 (rotl_ok (Kec.g s k) (Kec.g Kec.R k) _ (ws _) (Kec.R_lt' _ (by omega))) ?_
      refine st_k (o_kmoves 1843 13) (pT b 0) ?_
      refine st_p (o_kmoves 1843 14) (.pointer (some ⟨b, Kec.dest k, none⟩)) (exec_cast (v := .pointer (some ⟨b, 0 + (Kec.dest k) * 1, none⟩)) (by simp) (exec_indexAt_arr 87 (.tmp 32) (.tmp 26) (by kernel_rfl) b 0 (by kernel_rfl) .i64 (Kec.dest k) (by kernel_rfl) _ _ 1 Try.underlying87 (by kernel_rfl) (by omega))) ?_
      refine st_end ?_
      obtain ⟨V24, eV24, kV24⟩ := cell_step V20 b (Kec.dest k) (.int .u64 ((Kec.rot (Kec.g s k) (Kec.g Kec.R k) : Nat) : Int))
      have h25 : V24.heap[b]? = some (.cells (Wz (Kec.stpD Kec.dest (fun i => Kec.rot (Kec.g s i) (Kec.g Kec.R i)) (k + 1) s)) 87 (0, 0)) := eV24 ▸ ((heap_setCell_same _ b (Kec.dest k) _ _ (.int .u64 ((Kec.rot (Kec.g s k) (Kec.g Kec.R k) : Nat) : Int)) h21).trans (congrArg (fun c => some (Obj.cells c 87 (0, 0))) (show (Wz (Kec.stpD Kec.dest (fun i => Kec.rot (Kec.g s i) (Kec.g Kec.R i)) k s) : Array Value).setIfInBounds (Kec.dest k) (.int .u64 ((Kec.rot (Kec.g s k) (Kec.g Kec.R k) : Nat) : Int)) = Wz (Kec.stpD Kec.dest (fun i => Kec.rot (Kec.g s i) (Kec.g Kec.R i)) (k + 1) s) from by rw [Wz_set]; exact congrArg Wz (by rw [Kec.stpD_succ]))))
      refine ls_skip (o_kmoves 1843 15) (w' := V24) (by kernel_rfl) (by rw [← eV24]; exact exec_store_cell 27 (.tmp 33) (.tmp 31) (by kernel_rfl) b (Kec.dest k) (by kernel_rfl) (.int .u64 ((Kec.rot (Kec.g s k) (Kec.g Kec.R k) : Nat) : Int)) (by kernel_rfl) (by kernel_rfl) (by kernel_rfl) (.int .u64 ((Kec.g (Kec.stpD Kec.dest (fun i => Kec.rot (Kec.g s i) (Kec.g Kec.R i)) k s) (Kec.dest k) : Nat) : Int)) (rc (h21) (Wz_get _ (Kec.dest k) (by rw [Kec.stpD_len, hs]; omega))) (frozen_of_row _ _ _ _ _ h21) (by kernel_rfl)) ?_
      clear eV24
      have h26 := kV24.bo h22 (by omega)
      have K27 : Keeps (One b) w V24 := K23.then kV24 (fun i hi hm => by unfold Own.One at hm; subst hm; exact rfl)
      refine ls_end ?_
      refine sy_a ⟨#[pT b 0, undef, pT gw 0, iN k, iN (Kec.g Kec.R k), iN (k % 5), iN (k / 5), pT b 0, pT b 0, .agg (Wz s), .agg Rz, iN k, .bool true, iN k, iN (Kec.g Kec.R k), iN k, iN (k % 5), iN k, iN (k / 5), pT b 0, iN (k / 5), iN (k % 5), iN (2 * (k % 5)), iN (k / 5), iN (3 * (k / 5)), iN ((2 * (k % 5)) + (3 * (k / 5))), iN (Kec.dest k), iN k, pT gw k, uN (Kec.g s k), iN (Kec.g Kec.R k), uN (Kec.rot (Kec.g s k) (Kec.g Kec.R k)), pT b 0, .pointer (some ⟨b, Kec.dest k, none⟩), u34], []⟩ ?_
      refine blk_n ?_
      refine then_n ?_
      refine sy_reg ?_
      refine rg_plain 6 (opsAt (part_kmoves 231)) [0, 1] (by kernel_rfl) (by kernel_rfl) ?_
      refine ps_p (o_kmoves 231 0) (iN (k + 1)) (exec_cast (congrArg (Value.int .i64) (wrapN (k + 1) (by omega))) (by kernel_rfl)) ?_
      refine ps_k (o_kmoves 231 1) (iN (k + 1)) ?_
      refine ps_end ?_
      refine then_n ?_
      refine ⟨⟨k + 1, (iN k), (iN (Kec.g Kec.R k)), (iN (k % 5)), (iN (k / 5)), (.bool true), (iN k), (iN (Kec.g Kec.R k)), (iN k), (iN (k % 5)), (iN k), (iN (k / 5)), (pT b 0), (iN (k / 5)), (iN (k % 5)), (iN (2 * (k % 5))), (iN (k / 5)), (iN (3 * (k / 5))), (iN ((2 * (k % 5)) + (3 * (k / 5)))), (iN (Kec.dest k)), (iN k), (pT gw k), (uN (Kec.g s k)), (iN (Kec.g Kec.R k)), (uN (Kec.rot (Kec.g s k) (Kec.g Kec.R k))), (pT b 0), (.pointer (some ⟨b, Kec.dest k, none⟩)), (iN (k + 1)), by kernel_rfl, by omega, h25, h26, K27⟩, ?_⟩
      exact lt_meas (x := 25 - (k + 1)) (y := 25 - k) (by kernel_rfl) (by kernel_rfl) (by omega)
    · have eq_k : k = 25 := by omega
      refine sy_sq (part_kmoves 56) (part_kmoves 57) ?_
      refine sy_reg ?_
      refine rg_plain 2 (opsAt (part_kmoves 56)) [0] (by kernel_rfl) (by kernel_rfl) ?_
      refine ps_p (o_kmoves 56 0) (.bool false) (dcf ((((k : Nat) : Int)) < ((25) : Int)) (by omega)) ?_
      refine ps_end ?_
      refine then_n ?_
      refine sy_sq (part_kmoves 114) (part_kmoves 115) ?_
      refine sy_n (.tmp 12) (part_kmoves 228) (part_kmoves 229) ?_
      refine sy_exit 0 (by kernel_rfl) ?_
      refine then_e ?_
      refine then_e ?_
      refine blk_e ?_
      refine sy_fall (.tuple #[]) rfl (by kernel_rfl) ?_
      exact ⟨rfl, h16.trans (by rw [eq_k, Kec.stpD_moves _ _ hs]; rfl), K18⟩
noncomputable def part_kmixes (n : Nat) : Code := partOf Try.f112 n
noncomputable abbrev o_kmixes (n k : Nat) : Oper := (opsAt (part_kmixes n)).getD k default
set_option maxRecDepth 100000 in
set_option maxHeartbeats 4000000 in
theorem kmixes_ok (b : Nat) (s : List Nat) (w : World) (hs : s.length = 25) (ws : Kec.Ws s) (hb : w.heap[b]? = some (.cells (Wz s) 87 (0, 0))) :
    Calls Try.prog 112 #[.pointer (some ⟨b, 0, none⟩)] w (fun e w' => e = .returned (.tuple #[]) ∧ w'.heap[b]? = some (.cells (Wz (Kec.mixes s)) 87 (0, 0)) ∧ Keeps (One b) w w') := by
  have K0 : Keeps (One b) w w := Keeps.refl _ _
  refine sy_enter (part_kmixes 1) ⟨#[pT b 0, undef, undef, undef, undef, undef, undef, undef, undef, undef, undef, undef, undef, undef, undef, undef, undef, undef, undef, undef, undef, undef, undef, undef, undef, undef, undef, undef, undef, undef, undef, undef, undef, undef, undef, undef, undef, undef, undef], []⟩ Try.func112 (by kernel_rfl) (by kernel_rfl) ?_
  refine sy_sq (part_kmixes 2) (part_kmixes 3) ?_
  refine sy_reg ?_
  refine rg_plain 0 (opsAt (part_kmixes 2)) [0, 1, 2, 3, 4] (by kernel_rfl) (by kernel_rfl) ?_
  refine ps_k (o_kmixes 2 0) (pT b 0) ?_
  refine ps_k (o_kmixes 2 1) (pT b 0) ?_
  refine ps_p (o_kmixes 2 2) (.agg (Wz s)) (exec_load_row 87 (.tmp 7) (by kernel_rfl) b (by kernel_rfl) _ _ (0, 0) _ (hb) Try.underlying87 rfl (by rw [Wz_size, hs]; kernel_rfl)) ?_
  obtain ⟨V1, eV1, gw, egw, h2, kV1⟩ := alloc_step w (zr_u64_25) 87
  have n3 : b < gw := egw ▸ lt_of_block hb
  have n4 : w.heap.size ≤ gw := egw ▸ K0.size
  refine ps_r (o_kmixes 2 3) (pT gw 0) (w' := V1) (by rw [← eV1, ← egw]; exact exec_alloc0 87 (by kernel_rfl) (.agg (zr_u64_25)) (by kernel_rfl)) ?_
  clear eV1
  have h5 := kV1.bk hb
  have K6 := K0.nn kV1
  obtain ⟨V7, eV7, kV7⟩ := rowset_step V1 gw ((Wz s))
  have h8 : V7.heap[gw]? = some (.cells (Wz s) 87 (0, 0)) := eV7 ▸ setRow_heap _ _ _ _ _ _ h2
  refine ps_s (o_kmixes 2 4) (w' := V7) (by rw [← eV7]; exact exec_store_row 87 (.tmp 2) (.tmp 8) (by kernel_rfl) gw ((Wz s)) (by kernel_rfl) (by kernel_rfl) 87 (zr_u64_25) h2 (by rw [Wz_size, hs]; kernel_rfl) (by rw [Wz_size, hs]; rfl) (Wz_one _)) ?_
  clear eV7
  have h9 := kV7.bo h5 (by omega)
  have K10 := K6.no kV7 (by omega)
  refine ps_end ?_
  refine then_n ?_
  refine sy_sq (part_kmixes 6) (part_kmixes 7) ?_
  refine sy_reg ?_
  refine rg_plain 1 (opsAt (part_kmixes 6)) [0] (by kernel_rfl) (by kernel_rfl) ?_
  refine ps_k (o_kmixes 6 0) (.int .i64 0) ?_
  refine ps_end ?_
  refine then_n ?_
  refine sy_bk 0 (part_kmixes 14) ?_
  refine sy_loop (part_kmixes 28) (fun a V => ∃ (k : Nat) (u3 u4 u5 u10 u11 u12 u13 u14 u15 u16 u17 u18 u19 u20 u21 u22 u23 u24 u25 u26 u27 u28 u29 u30 u31 u32 u33 u34 u35 u36 u37 u38 : Value), (a = ⟨#[pT b 0, undef, pT gw 0, u3, u4, u5, pT b 0, pT b 0, .agg (Wz s), iN k, u10, u11, u12, u13, u14, u15, u16, u17, u18, u19, u20, u21, u22, u23, u24, u25, u26, u27, u28, u29, u30, u31, u32, u33, u34, u35, u36, u37, u38], []⟩) ∧ (k ≤ 25) ∧ (V.heap[b]? = some (.cells (Wz (stp (fun i => Kec.g s i ^^^ ((Kec.W - 1 - Kec.g s (Kec.at_ (i % 5 + 1) (i / 5))) &&& Kec.g s (Kec.at_ (i % 5 + 2) (i / 5)))) k s)) 87 (0, 0))) ∧ (V.heap[gw]? = some (.cells (Wz s) 87 (0, 0))) ∧ (Keeps (One b) w V)) (fun a _ => 25 - (intOf (a.tmps.getD 9 undef)).toNat) (by kernel_rfl) ?_ ?_
  · exact ⟨0, undef, undef, undef, undef, undef, undef, undef, undef, undef, undef, undef, undef, undef, undef, undef, undef, undef, undef, undef, undef, undef, undef, undef, undef, undef, undef, undef, undef, undef, undef, undef, undef, by kernel_rfl, by omega, h9, h8, K10⟩
  · rintro a V11 ⟨k, u3, u4, u5, u10, u11, u12, u13, u14, u15, u16, u17, u18, u19, u20, u21, u22, u23, u24, u25, u26, u27, u28, u29, u30, u31, u32, u33, u34, u35, u36, u37, u38, rfl, hk, h12, h13, K14⟩
    by_cases lt_k : k < 25
    · have ha1 := Kec.at_lt (k % 5 + 1) (k / 5)
      have ha2 := Kec.at_lt (k % 5 + 2) (k / 5)
      refine sy_sq (part_kmixes 56) (part_kmixes 57) ?_
      refine sy_reg ?_
      refine rg_plain 2 (opsAt (part_kmixes 56)) [0] (by kernel_rfl) (by kernel_rfl) ?_
      refine ps_p (o_kmixes 56 0) (.bool true) (dct ((((k : Nat) : Int)) < ((25) : Int)) (by omega)) ?_
      refine ps_end ?_
      refine then_n ?_
      refine sy_sq (part_kmixes 114) (part_kmixes 115) ?_
      refine sy_ys (.tmp 10) (part_kmixes 228) (part_kmixes 229) ?_
      refine sy_sk ?_
      refine then_n ?_
      refine sy_sq (part_kmixes 230) (part_kmixes 231) ?_
      refine sy_bk 1 (part_kmixes 460) ?_
      refine sy_sq (part_kmixes 920) (part_kmixes 921) ?_
      refine sy_reg ?_
      refine rg_plain 3 (opsAt (part_kmixes 920)) [0, 1] (by kernel_rfl) (by kernel_rfl) ?_
      refine ps_k (o_kmixes 920 0) (iN k) ?_
      refine ps_k (o_kmixes 920 1) (iN k) ?_
      refine ps_end ?_
      refine then_n ?_
      refine sy_sq (part_kmixes 1842) (part_kmixes 1843) ?_
      refine sy_reg ?_
      refine rg_plain 4 (opsAt (part_kmixes 1842)) [0, 1, 2, 3, 4, 5] (by kernel_rfl) (by kernel_rfl) ?_
      refine ps_k (o_kmixes 1842 0) (iN k) ?_
      refine ps_k (o_kmixes 1842 1) (iN (k % 5)) ?_
      refine ps_k (o_kmixes 1842 2) (iN k) ?_
      refine ps_p (o_kmixes 1842 3) (iN (k / 5)) (exec_cast (congrArg (Value.int .i64) (wrapN (k / 5) (by omega))) (by kernel_rfl)) ?_
      refine ps_k (o_kmixes 1842 4) (iN (k % 5)) ?_
      refine ps_k (o_kmixes 1842 5) (iN (k / 5)) ?_
      refine ps_end ?_
      refine then_n ?_
      refine sy_reg ?_
      refine rg_still 5 22 (opsAt (part_kmixes 1843)) [o_kmixes 1843 0, o_kmixes 1843 1, o_kmixes 1843 2, o_kmixes 1843 3, o_kmixes 1843 4, o_kmixes 1843 5, o_kmixes 1843 6, o_kmixes 1843 7, o_kmixes 1843 8, o_kmixes 1843 9, o_kmixes 1843 10, o_kmixes 1843 11, o_kmixes 1843 12, o_kmixes 1843 13, o_kmixes 1843 14, o_kmixes 1843 15, o_kmixes 1843 16, o_kmixes 1843 17, o_kmixes 1843 18, o_kmixes 1843 19, o_kmixes 1843 20, o_kmixes 1843 21] [o_kmixes 1843 22] (by kernel_rfl) (by kernel_rfl) (by kernel_rfl) (by kernel_rfl) (by kernel_rfl) ?_
      obtain ⟨V16, eV16, kV16⟩ := drew_step V11
      rw [eV16]
      clear eV16
      have h17 := kV16.bk h12
      have h18 := kV16.bk h13
      have K19 := K14.nn kV16
      refine st_k (o_kmixes 1843 0) (pT b 0) ?_
      refine st_k (o_kmixes 1843 1) (iN k) ?_
      refine st_k (o_kmixes 1843 2) (pT b 0) ?_
      refine st_p (o_kmixes 1843 3) (pT b k) (exec_cast (v := pT b (0 + k * 1)) (by simp) (exec_indexAt_arr 87 (.tmp 18) (.tmp 17) (by kernel_rfl) b 0 (by kernel_rfl) .i64 k (by kernel_rfl) _ _ 1 Try.underlying87 (by kernel_rfl) (by omega))) ?_
      refine st_p (o_kmixes 1843 4) (uN (Kec.g s k)) (exec_ld 27 (.tmp 19) b k Try.underlying27 (rc (h17) (Wz_get' _ k _ (by rw [stp_len, hs]; omega) (by rw [stp_get _ _ _ _ (by omega), if_neg (by omega)])))) ?_
      refine st_k (o_kmixes 1843 5) (iN (k % 5)) ?_
      refine st_p (o_kmixes 1843 6) (iN ((k % 5) + 1)) (exec_cast (congrArg (Value.int .i64) (wrapN ((k % 5) + 1) (by omega))) (by kernel_rfl)) ?_
      refine st_k (o_kmixes 1843 7) (iN (k / 5)) ?_
      refine st_c (o_kmixes 1843 8) 115 #[iN ((k % 5) + 1), iN (k / 5)] (iN (Kec.at_ ((k % 5) + 1) (k / 5))) Try.func115 (kat_as ((k % 5) + 1) (k / 5) (Kec.at_ ((k % 5) + 1) (k / 5)) _ (by omega) (by omega) (rfl)) ?_
      refine st_p (o_kmixes 1843 9) (.pointer (some ⟨gw, Kec.at_ ((k % 5) + 1) (k / 5), none⟩)) (exec_cast (v := .pointer (some ⟨gw, 0 + (Kec.at_ ((k % 5) + 1) (k / 5)) * 1, none⟩)) (by simp) (exec_indexAt_arr 87 (.tmp 2) (.tmp 24) (by kernel_rfl) gw 0 (by kernel_rfl) .i64 (Kec.at_ ((k % 5) + 1) (k / 5)) (by kernel_rfl) _ _ 1 Try.underlying87 (by kernel_rfl) (by omega))) ?_
      refine st_p (o_kmixes 1843 10) (uN (Kec.g s (Kec.at_ ((k % 5) + 1) (k / 5)))) (exec_ld 27 (.tmp 25) gw (Kec.at_ ((k % 5) + 1) (k / 5)) Try.underlying27 (rc (h18) (Wz_get _ (Kec.at_ ((k % 5) + 1) (k / 5)) (by rw [hs]; omega)))) ?_
      refine st_p (o_kmixes 1843 11) (uN (Kec.W - 1 - (Kec.g s (Kec.at_ ((k % 5) + 1) (k / 5))))) (exec_cast (notU (Kec.g s (Kec.at_ ((k % 5) + 1) (k / 5))) (ws _)) (by kernel_rfl)) ?_
      refine st_k (o_kmixes 1843 12) (iN (k % 5)) ?_
      refine st_p (o_kmixes 1843 13) (iN ((k % 5) + 2)) (exec_cast (congrArg (Value.int .i64) (wrapN ((k % 5) + 2) (by omega))) (by kernel_rfl)) ?_
      refine st_k (o_kmixes 1843 14) (iN (k / 5)) ?_
      refine st_c (o_kmixes 1843 15) 115 #[iN ((k % 5) + 2), iN (k / 5)] (iN (Kec.at_ ((k % 5) + 2) (k / 5))) Try.func115 (kat_as ((k % 5) + 2) (k / 5) (Kec.at_ ((k % 5) + 2) (k / 5)) _ (by omega) (by omega) (rfl)) ?_
      refine st_p (o_kmixes 1843 16) (.pointer (some ⟨gw, Kec.at_ ((k % 5) + 2) (k / 5), none⟩)) (exec_cast (v := .pointer (some ⟨gw, 0 + (Kec.at_ ((k % 5) + 2) (k / 5)) * 1, none⟩)) (by simp) (exec_indexAt_arr 87 (.tmp 2) (.tmp 31) (by kernel_rfl) gw 0 (by kernel_rfl) .i64 (Kec.at_ ((k % 5) + 2) (k / 5)) (by kernel_rfl) _ _ 1 Try.underlying87 (by kernel_rfl) (by omega))) ?_
      refine st_p (o_kmixes 1843 17) (uN (Kec.g s (Kec.at_ ((k % 5) + 2) (k / 5)))) (exec_ld 27 (.tmp 32) gw (Kec.at_ ((k % 5) + 2) (k / 5)) Try.underlying27 (rc (h18) (Wz_get _ (Kec.at_ ((k % 5) + 2) (k / 5)) (by rw [hs]; omega)))) ?_
      refine st_p (o_kmixes 1843 18) (uN ((Kec.W - 1 - (Kec.g s (Kec.at_ ((k % 5) + 1) (k / 5)))) &&& (Kec.g s (Kec.at_ ((k % 5) + 2) (k / 5))))) (exec_cast (andU (Kec.W - 1 - (Kec.g s (Kec.at_ ((k % 5) + 1) (k / 5)))) (Kec.g s (Kec.at_ ((k % 5) + 2) (k / 5))) (Kec.sub_lt _) (ws _)) (by kernel_rfl)) ?_
      refine st_p (o_kmixes 1843 19) (uN ((Kec.g s k) ^^^ ((Kec.W - 1 - (Kec.g s (Kec.at_ ((k % 5) + 1) (k / 5)))) &&& (Kec.g s (Kec.at_ ((k % 5) + 2) (k / 5)))))) (exec_cast (xorU (Kec.g s k) ((Kec.W - 1 - (Kec.g s (Kec.at_ ((k % 5) + 1) (k / 5)))) &&& (Kec.g s (Kec.at_ ((k % 5) + 2) (k / 5)))) (ws _) (Kec.and_lt (ws _))) (by kernel_rfl)) ?_
      refine st_k (o_kmixes 1843 20) (pT b 0) ?_
      refine st_p (o_kmixes 1843 21) (pT b k) (exec_cast (v := pT b (0 + k * 1)) (by simp) (exec_indexAt_arr 87 (.tmp 36) (.tmp 17) (by kernel_rfl) b 0 (by kernel_rfl) .i64 k (by kernel_rfl) _ _ 1 Try.underlying87 (by kernel_rfl) (by omega))) ?_
      refine st_end ?_
      obtain ⟨V20, eV20, kV20⟩ := cell_step V16 b k (.int .u64 (((Kec.g s k) ^^^ ((Kec.W - 1 - (Kec.g s (Kec.at_ ((k % 5) + 1) (k / 5)))) &&& (Kec.g s (Kec.at_ ((k % 5) + 2) (k / 5)))) : Nat) : Int))
      have h21 : V20.heap[b]? = some (.cells (Wz (stp (fun i => Kec.g s i ^^^ ((Kec.W - 1 - Kec.g s (Kec.at_ (i % 5 + 1) (i / 5))) &&& Kec.g s (Kec.at_ (i % 5 + 2) (i / 5)))) (k + 1) s)) 87 (0, 0)) := eV20 ▸ ((heap_setCell_same _ b k _ _ (.int .u64 (((Kec.g s k) ^^^ ((Kec.W - 1 - (Kec.g s (Kec.at_ ((k % 5) + 1) (k / 5)))) &&& (Kec.g s (Kec.at_ ((k % 5) + 2) (k / 5)))) : Nat) : Int)) h17).trans (congrArg (fun c => some (Obj.cells c 87 (0, 0))) (show (Wz (stp (fun i => Kec.g s i ^^^ ((Kec.W - 1 - Kec.g s (Kec.at_ (i % 5 + 1) (i / 5))) &&& Kec.g s (Kec.at_ (i % 5 + 2) (i / 5)))) k s) : Array Value).setIfInBounds k (.int .u64 (((Kec.g s k) ^^^ ((Kec.W - 1 - (Kec.g s (Kec.at_ ((k % 5) + 1) (k / 5)))) &&& (Kec.g s (Kec.at_ ((k % 5) + 2) (k / 5)))) : Nat) : Int)) = Wz (stp (fun i => Kec.g s i ^^^ ((Kec.W - 1 - Kec.g s (Kec.at_ (i % 5 + 1) (i / 5))) &&& Kec.g s (Kec.at_ (i % 5 + 2) (i / 5)))) (k + 1) s) from by rw [Wz_set]; exact congrArg Wz (by rw [stp_succ] <;> rfl))))
      refine ls_skip (o_kmixes 1843 22) (w' := V20) (by kernel_rfl) (by rw [← eV20]; exact exec_store_cell 27 (.tmp 37) (.tmp 35) (by kernel_rfl) b k (by kernel_rfl) (.int .u64 (((Kec.g s k) ^^^ ((Kec.W - 1 - (Kec.g s (Kec.at_ ((k % 5) + 1) (k / 5)))) &&& (Kec.g s (Kec.at_ ((k % 5) + 2) (k / 5)))) : Nat) : Int)) (by kernel_rfl) (by kernel_rfl) (by kernel_rfl) (.int .u64 ((Kec.g s k : Nat) : Int)) (rc (h17) (Wz_get' _ k _ (by rw [stp_len, hs]; omega) (by rw [stp_get _ _ _ _ (by omega), if_neg (by omega)]))) (frozen_of_row _ _ _ _ _ h17) (by kernel_rfl)) ?_
      clear eV20
      have h22 := kV20.bo h18 (by omega)
      have K23 : Keeps (One b) w V20 := K19.then kV20 (fun i hi hm => by unfold Own.One at hm; subst hm; exact rfl)
      refine ls_end ?_
      refine sy_a ⟨#[pT b 0, undef, pT gw 0, iN k, iN (k % 5), iN (k / 5), pT b 0, pT b 0, .agg (Wz s), iN k, .bool true, iN k, iN k, iN (k % 5), iN k, iN (k / 5), pT b 0, iN k, pT b 0, pT b k, uN (Kec.g s k), iN (k % 5), iN ((k % 5) + 1), iN (k / 5), iN (Kec.at_ ((k % 5) + 1) (k / 5)), .pointer (some ⟨gw, Kec.at_ ((k % 5) + 1) (k / 5), none⟩), uN (Kec.g s (Kec.at_ ((k % 5) + 1) (k / 5))), uN (Kec.W - 1 - (Kec.g s (Kec.at_ ((k % 5) + 1) (k / 5)))), iN (k % 5), iN ((k % 5) + 2), iN (k / 5), iN (Kec.at_ ((k % 5) + 2) (k / 5)), .pointer (some ⟨gw, Kec.at_ ((k % 5) + 2) (k / 5), none⟩), uN (Kec.g s (Kec.at_ ((k % 5) + 2) (k / 5))), uN ((Kec.W - 1 - (Kec.g s (Kec.at_ ((k % 5) + 1) (k / 5)))) &&& (Kec.g s (Kec.at_ ((k % 5) + 2) (k / 5)))), uN ((Kec.g s k) ^^^ ((Kec.W - 1 - (Kec.g s (Kec.at_ ((k % 5) + 1) (k / 5)))) &&& (Kec.g s (Kec.at_ ((k % 5) + 2) (k / 5))))), pT b 0, pT b k, u38], []⟩ ?_
      refine blk_n ?_
      refine then_n ?_
      refine sy_reg ?_
      refine rg_plain 6 (opsAt (part_kmixes 231)) [0, 1] (by kernel_rfl) (by kernel_rfl) ?_
      refine ps_p (o_kmixes 231 0) (iN (k + 1)) (exec_cast (congrArg (Value.int .i64) (wrapN (k + 1) (by omega))) (by kernel_rfl)) ?_
      refine ps_k (o_kmixes 231 1) (iN (k + 1)) ?_
      refine ps_end ?_
      refine then_n ?_
      refine ⟨⟨k + 1, (iN k), (iN (k % 5)), (iN (k / 5)), (.bool true), (iN k), (iN k), (iN (k % 5)), (iN k), (iN (k / 5)), (pT b 0), (iN k), (pT b 0), (pT b k), (uN (Kec.g s k)), (iN (k % 5)), (iN ((k % 5) + 1)), (iN (k / 5)), (iN (Kec.at_ ((k % 5) + 1) (k / 5))), (.pointer (some ⟨gw, Kec.at_ ((k % 5) + 1) (k / 5), none⟩)), (uN (Kec.g s (Kec.at_ ((k % 5) + 1) (k / 5)))), (uN (Kec.W - 1 - (Kec.g s (Kec.at_ ((k % 5) + 1) (k / 5))))), (iN (k % 5)), (iN ((k % 5) + 2)), (iN (k / 5)), (iN (Kec.at_ ((k % 5) + 2) (k / 5))), (.pointer (some ⟨gw, Kec.at_ ((k % 5) + 2) (k / 5), none⟩)), (uN (Kec.g s (Kec.at_ ((k % 5) + 2) (k / 5)))), (uN ((Kec.W - 1 - (Kec.g s (Kec.at_ ((k % 5) + 1) (k / 5)))) &&& (Kec.g s (Kec.at_ ((k % 5) + 2) (k / 5))))), (uN ((Kec.g s k) ^^^ ((Kec.W - 1 - (Kec.g s (Kec.at_ ((k % 5) + 1) (k / 5)))) &&& (Kec.g s (Kec.at_ ((k % 5) + 2) (k / 5)))))), (pT b 0), (pT b k), (iN (k + 1)), by kernel_rfl, by omega, h21, h22, K23⟩, ?_⟩
      exact lt_meas (x := 25 - (k + 1)) (y := 25 - k) (by kernel_rfl) (by kernel_rfl) (by omega)
    · have eq_k : k = 25 := by omega
      refine sy_sq (part_kmixes 56) (part_kmixes 57) ?_
      refine sy_reg ?_
      refine rg_plain 2 (opsAt (part_kmixes 56)) [0] (by kernel_rfl) (by kernel_rfl) ?_
      refine ps_p (o_kmixes 56 0) (.bool false) (dcf ((((k : Nat) : Int)) < ((25) : Int)) (by omega)) ?_
      refine ps_end ?_
      refine then_n ?_
      refine sy_sq (part_kmixes 114) (part_kmixes 115) ?_
      refine sy_n (.tmp 10) (part_kmixes 228) (part_kmixes 229) ?_
      refine sy_exit 0 (by kernel_rfl) ?_
      refine then_e ?_
      refine then_e ?_
      refine blk_e ?_
      refine sy_fall (.tuple #[]) rfl (by kernel_rfl) ?_
      exact ⟨rfl, h12.trans (by rw [eq_k, stp_all _ _ 25 hs]; rfl), K14⟩
end Go.Proofs.Ytenaakldccjnbaa
