import Derived.Test.YtghohakbepeffaaGreatDoorPenaltyKnownP2
namespace Go.Proofs.YtghohakbepeffaaGreatDoor
set_option maxRecDepth 100000
set_option maxHeartbeats 4000000
open Go Go.RowKit Go.Own Go.Shelf
theorem exec_quoU {P : Program} {o : Oper} {ρ : Operand → Value} {w : World} (t t' : TypeId) (x y : Operand) (ho : o.op = .binOp .quo t x y t') (a b : Nat) (hx : ρ x = .int .u64 (a : Int)) (hy : ρ y = .int .u64 (b : Int)) (hb : 0 < b) (ha : a < 18446744073709551616) :
    (execOp ρ o).run P w = .ok (.value (.int .u64 ((a / b : Nat) : Int))) w := by
  refine exec_binop .quo t t' x y ho _ _ _ hx hy rfl ?_
  have h : ¬ ((b : Int) = 0) := by omega
  rw [binOp_quo]
  simp only [Op.intDiv, if_neg h]
  have e : IntKind.u64.wrap (Int.tdiv (a : Int) (b : Int)) = ((a / b : Nat) : Int) := by
    rw [show Int.tdiv (a : Int) (b : Int) = ((a / b : Nat) : Int) from rfl]
    exact wrapU _ (by have := Nat.div_le_self a b; omega)
  rw [e]; rfl
theorem exec_remU {P : Program} {o : Oper} {ρ : Operand → Value} {w : World} (t t' : TypeId) (x y : Operand) (ho : o.op = .binOp .rem t x y t') (a b : Nat) (hx : ρ x = .int .u64 (a : Int)) (hy : ρ y = .int .u64 (b : Int)) (hb : 0 < b) (ha : a < 18446744073709551616) :
    (execOp ρ o).run P w = .ok (.value (.int .u64 ((a % b : Nat) : Int))) w := by
  refine exec_binop .rem t t' x y ho _ _ _ hx hy rfl ?_
  have h : ¬ ((b : Int) = 0) := by omega
  rw [binOp_rem]
  simp only [Op.intDiv, if_neg h]
  have e : IntKind.u64.wrap (Int.tmod (a : Int) (b : Int)) = ((a % b : Nat) : Int) := by
    rw [show Int.tmod (a : Int) (b : Int) = ((a % b : Nat) : Int) from rfl]
    exact wrapU _ (by have := Nat.mod_le a b; omega)
  first | rfl | (rw [e]; rfl)
theorem wrapM (n : Nat) : IntKind.u64.wrap (n : Int) = ((n % 18446744073709551616 : Nat) : Int) := by rw [IntKind.wrap_u64]; omega
theorem conv_u64_u8 {x : Nat} (h : x < 256) (w : World) : (convert 40 5 (.int .u64 ((x : Nat) : Int))).run Tryz.prog w = .ok (.int .u8 ((x : Nat) : Int)) w := by
  simp only [convert, Tryz.underlying40, Tryz.underlying5]
  have : IntKind.u8.wrap ((x : Nat) : Int) = ((x : Nat) : Int) := by
    unfold IntKind.wrap; simp [IntKind.signed, IntKind.bits]; omega
  simp [Conv.intToInt, this]
theorem conv_u8_int {x : Nat} (h : x < 256) (w : World) : (convert 5 3 (.int .u8 ((x : Nat) : Int))).run Tryz.prog w = .ok (.int .i64 ((x : Nat) : Int)) w := by
  simp only [convert, Tryz.underlying5, Tryz.underlying3]
  have : IntKind.i64.wrap ((x : Nat) : Int) = ((x : Nat) : Int) := by
    unfold IntKind.wrap; simp [IntKind.signed, IntKind.bits]; omega
  simp [Conv.intToInt, this]
theorem conv_int_uint {x : Nat} (h : x ≤ 64) (w : World) : (convert 3 169 (.int .i64 ((x : Nat) : Int))).run Tryz.prog w = .ok (.int .u64 ((x : Nat) : Int)) w := by
  simp only [convert, Tryz.underlying3, Tryz.underlying169]
  simp [Conv.intToInt, wrapU x (by omega)]
/-! The length of a number. -/
def ltab : List UInt8 := Lib.len8tab.toList
theorem ltab_all : ∀ k : Fin 256, ∃ c, ltab[k.val]? = some c ∧ c.toNat ≤ 8 ∧ k.val < 2 ^ c.toNat ∧ (k.val ≠ 0 → 1 ≤ c.toNat ∧ 2 ^ (c.toNat - 1) ≤ k.val) := by
  have h : ∀ k : Fin 256, (match ltab[k.val]? with | some c => decide (c.toNat ≤ 8) && decide (k.val < 2 ^ c.toNat) && (decide (k.val = 0) || (decide (1 ≤ c.toNat) && decide (2 ^ (c.toNat - 1) ≤ k.val))) | none => false) = true := by decide +kernel
  intro k
  have := h k
  cases e : ltab[k.val]? with
  | none => rw [e] at this; cases this
  | some c =>
    rw [e] at this
    simp only [Bool.and_eq_true, Bool.or_eq_true, decide_eq_true_eq] at this
    obtain ⟨⟨q1, q2⟩, q3⟩ := this
    exact ⟨c, rfl, q1, q2, fun h0 => q3.resolve_left h0⟩
def IsLen (y n : Nat) : Prop := n ≤ 64 ∧ 1 ≤ n ∧ y < 2 ^ n ∧ 2 ^ (n - 1) ≤ y
theorem len_fin {y x a K t : Nat} (hK : K = 2 ^ a) (ha : a ≤ 56) (ht0 : t ≤ 8) (h1 : x * K ≤ y) (h2 : y < (x + 1) * K) (ht : x < 2 ^ t) (hn : x ≠ 0) (hl : x ≠ 0 → 1 ≤ t ∧ 2 ^ (t - 1) ≤ x) : IsLen y (a + t) := by
  obtain ⟨l1, l2⟩ := hl hn
  refine ⟨by omega, by omega, ?_, ?_⟩
  · rw [Nat.pow_add, ← hK, Nat.mul_comm]
    exact Nat.lt_of_lt_of_le h2 (Nat.mul_le_mul_right _ ht)
  · rw [show a + t - 1 = a + (t - 1) by omega, Nat.pow_add, ← hK, Nat.mul_comm]
    exact Nat.le_trans (Nat.mul_le_mul_right _ l2) h1
theorem two_pos (s : Nat) : 0 < 2 ^ s := Nat.pow_pos (by decide)
theorem lead_len {y n s : Nat} (h : IsLen y n) (hs : s + n = 64) : s ≤ 63 ∧ 9223372036854775808 ≤ y * 2 ^ s ∧ y * 2 ^ s < 18446744073709551616 := by
  obtain ⟨h0, h1, h2, h3⟩ := h
  refine ⟨by omega, ?_, ?_⟩
  · have := Nat.mul_le_mul_right (2 ^ s) h3
    rw [← Nat.pow_add, show n - 1 + s = 63 by omega] at this
    exact this
  · have := Nat.mul_lt_mul_of_pos_right h2 (two_pos s)
    rw [← Nat.pow_add, show n + s = 64 by omega] at this
    exact this
/-! One digit of a long division, and both. -/
def Dig (U Y y1 u q r : Nat) : Prop := q * y1 + r = U ∧ (U * 4294967296 + u) / Y ≤ q
theorem dig_init {U Y y1 y0 u : Nat} (hY : Y = y1 * 4294967296 + y0) (h0 : y0 < 4294967296) (h1 : 1 ≤ y1) (hu : u < 4294967296) (hU : U < Y) : Dig U Y y1 u (U / y1) (U - U / y1 * y1) := by
  refine ⟨by have := Nat.div_mul_le_self U y1; omega, ?_⟩
  refine Nat.le_trans (Nat.div_le_div_left (c := y1 * 4294967296) (by omega) (by omega)) ?_
  rw [Nat.mul_comm y1, ← Nat.div_div_eq_div_mul]
  exact Nat.div_le_div_right (by omega)
theorem dig_lt {U Y y1 y0 u : Nat} (hY : Y = y1 * 4294967296 + y0) (h0 : y0 < 4294967296) (h1 : 1 ≤ y1) (hu : u < 4294967296) (hU : U < Y) : (U * 4294967296 + u) / Y < 4294967296 := by
  rw [Nat.div_lt_iff_lt_mul (by omega)]; omega
theorem dig_step {U Y y1 y0 u q r : Nat} (hY : Y = y1 * 4294967296 + y0) (h0 : y0 < 4294967296) (h1 : 1 ≤ y1) (hu : u < 4294967296) (hU : U < Y) (h : Dig U Y y1 u q r) (hc : 4294967296 ≤ q ∨ 4294967296 * r + u < q * y0) : 1 ≤ q ∧ Dig U Y y1 u (q - 1) (r + y1) := by
  obtain ⟨a1, a2⟩ := h
  have hl := dig_lt hY h0 h1 hu hU
  have hq : (U * 4294967296 + u) / Y < q := by
    rcases hc with hc | hc
    · omega
    · rw [Nat.div_lt_iff_lt_mul (by omega), hY, Nat.mul_add, ← Nat.mul_assoc]; omega
  have q1 : 1 ≤ q := Nat.lt_of_le_of_lt (Nat.zero_le _) hq
  refine ⟨q1, ?_, Nat.le_sub_one_of_lt hq⟩
  obtain ⟨k, rfl⟩ : ∃ k, q = k + 1 := ⟨q - 1, by omega⟩
  rw [Nat.add_mul, Nat.one_mul] at a1
  rw [Nat.add_sub_cancel]; omega
theorem dig_done {U Y y1 y0 u q r : Nat} (hY : Y = y1 * 4294967296 + y0) (h0 : y0 < 4294967296) (h1 : 1 ≤ y1) (hu : u < 4294967296) (hU : U < Y) (h : Dig U Y y1 u q r) (hc : (q < 4294967296 ∧ q * y0 ≤ 4294967296 * r + u) ∨ 4294967296 ≤ r) : q = (U * 4294967296 + u) / Y := by
  obtain ⟨a1, a2⟩ := h
  refine Nat.le_antisymm ?_ a2
  rw [Nat.le_div_iff_mul_le (by omega), hY, Nat.mul_add, ← Nat.mul_assoc]
  rcases hc with ⟨_, hc⟩ | hc
  · omega
  · have q2 : q < 4294967296 := by
      rcases Nat.lt_or_ge q 4294967296 with g | g
      · exact g
      · have g2 := Nat.mul_le_mul_right y1 g
        clear a2
        exact absurd hU (by rw [← a1, hY]; have : y1 * 4294967296 = 4294967296 * y1 := Nat.mul_comm _ _; generalize q * y1 = z at *; generalize 4294967296 * y1 = z2 at *; omega)
    have g1 := Nat.mul_le_mul (Nat.le_of_lt q2) (Nat.le_of_lt h0)
    have g2 := Nat.mul_le_mul (Nat.le_refl 4294967296) hc
    clear a2 hY h0 h1 hu hU
    generalize q * y0 = z at *
    generalize q * y1 = z2 at *
    omega
theorem dig_rest {U Y y1 y0 u q : Nat} (hY : Y = y1 * 4294967296 + y0) (h0 : y0 < 4294967296) (h1 : 1 ≤ y1) (hu : u < 4294967296) (hU : U < Y) (h : q = (U * 4294967296 + u) / Y) : IntKind.u64.wrap (IntKind.u64.wrap (IntKind.u64.wrap (((U : Nat) : Int) * 4294967296) + ((u : Nat) : Int)) - IntKind.u64.wrap (((q : Nat) : Int) * ((Y : Nat) : Int))) = (((U * 4294967296 + u) % Y : Nat) : Int) ∨ 18446744073709551616 ≤ Y := by
  by_cases hb : Y < 18446744073709551616
  · refine .inl ?_
    have e := Nat.div_add_mod (U * 4294967296 + u) Y
    have l := Nat.mod_lt (U * 4294967296 + u) (show 0 < Y by omega)
    rw [← h, Nat.mul_comm] at e
    obtain ⟨z, hz⟩ : ∃ z : Nat, q * Y = z := ⟨_, rfl⟩
    obtain ⟨m, hm⟩ : ∃ z : Nat, (U * 4294967296 + u) % Y = z := ⟨_, rfl⟩
    rw [hm, hz] at e; rw [hm] at l ⊢
    rw [← Int.natCast_mul, hz]
    simp only [IntKind.wrap_u64]
    omega
  · exact .inr (by omega)
theorem dig_cases (q r y0 y1 u : Nat) : (4294967296 ≤ q ∧ r + y1 < 4294967296) ∨ (4294967296 ≤ q ∧ 4294967296 ≤ r + y1) ∨ (q < 4294967296 ∧ 4294967296 * r + u < q * y0 ∧ r + y1 < 4294967296) ∨ (q < 4294967296 ∧ 4294967296 * r + u < q * y0 ∧ 4294967296 ≤ r + y1) ∨ (q < 4294967296 ∧ q * y0 ≤ 4294967296 * r + u) := by
  generalize q * y0 = z
  omega
theorem mul_small {q y : Nat} (h : q < 4294967296) (h2 : y < 4294967296) : q * y < 18446744073709551616 := by
  have := Nat.mul_le_mul (Nat.le_sub_one_of_lt h) (Nat.le_sub_one_of_lt h2)
  omega
theorem rem_small {U y : Nat} (h : 1 ≤ y) (h2 : y < 4294967296) : U - U / y * y < 4294967296 := by
  have e := Nat.div_add_mod U y
  have l := Nat.mod_lt U h
  rw [Nat.mul_comm] at e
  omega
theorem wrap_sub (x z : Nat) (h : z ≤ x) (hx : x < 18446744073709551616) : IntKind.u64.wrap (((x : Nat) : Int) - ((z : Nat) : Int)) = ((x - z : Nat) : Int) := by
  rw [IntKind.wrap_u64]; omega
theorem wide_shift {hi lo y s : Nat} (hs : s ≤ 63) (hl : lo < 18446744073709551616) (hh : hi < y) (hb : y * 2 ^ s < 18446744073709551616) : ((hi <<< s) % Kec.W ||| lo >>> (64 - s)) * 18446744073709551616 + (lo <<< s) % Kec.W = (hi * 18446744073709551616 + lo) * 2 ^ s ∧ ((hi <<< s) % Kec.W ||| lo >>> (64 - s)) < y * 2 ^ s := by
  have p := two_pos s
  have e64 : 2 ^ (64 - s) * 2 ^ s = 18446744073709551616 := by rw [← Nat.pow_add, show 64 - s + s = 64 by omega]
  have m1 : hi * 2 ^ s + 2 ^ s ≤ y * 2 ^ s := by rw [← Nat.succ_mul]; exact Nat.mul_le_mul_right _ hh
  have hW : Kec.W = 18446744073709551616 := rfl
  have h1 : (hi <<< s) % Kec.W = hi <<< s := Nat.mod_eq_of_lt (by rw [Nat.shiftLeft_eq, hW]; omega)
  have hq : lo / 2 ^ (64 - s) < 2 ^ s := by
    rw [Nat.div_lt_iff_lt_mul (two_pos _), Nat.mul_comm, e64]; exact hl
  have h2 : lo >>> (64 - s) = lo / 2 ^ (64 - s) := Nat.shiftRight_eq_div_pow ..
  have h3 : (hi <<< s) ||| lo / 2 ^ (64 - s) = hi * 2 ^ s + lo / 2 ^ (64 - s) := by
    rw [← Nat.shiftLeft_add_eq_or_of_lt hq, Nat.shiftLeft_eq]
  rw [h1, h2, h3, Nat.shiftLeft_eq, hW, Nat.add_mul]
  have h4 : lo / 2 ^ (64 - s) * 18446744073709551616 + lo * 2 ^ s % 18446744073709551616 = lo * 2 ^ s := by
    have : lo * 2 ^ s / 18446744073709551616 = lo / 2 ^ (64 - s) := by
      rw [← e64]; exact Nat.mul_div_mul_right _ _ p
    rw [← this, Nat.mul_comm]; exact Nat.div_add_mod ..
  refine ⟨?_, by omega⟩
  rw [Nat.add_mul, Nat.mul_right_comm hi]
  omega
theorem long_div {U Y u1 u0 q1 V q0 : Nat} (hY : 0 < Y) (h1 : q1 = (U * 4294967296 + u1) / Y) (hV : V = (U * 4294967296 + u1) % Y) (h0 : q0 = (V * 4294967296 + u0) / Y) : (U * 18446744073709551616 + (u1 * 4294967296 + u0)) / Y = q1 * 4294967296 + q0 := by
  have e := Nat.div_add_mod (U * 4294967296 + u1) Y
  rw [← h1, ← hV] at e
  have : U * 18446744073709551616 + (u1 * 4294967296 + u0) = (V * 4294967296 + u0) + Y * (q1 * 4294967296) := by
    rw [← Nat.mul_assoc]; omega
  rw [this, Nat.add_mul_div_left _ _ hY, ← h0]; omega
theorem div_end {hi lo y s U Y L u1 u0 q1 V q0 : Nat} (hy1 : 1 ≤ y) (hYe : y * 2 ^ s = Y) (hsum : U * 18446744073709551616 + L = (hi * 18446744073709551616 + lo) * 2 ^ s) (hLs : L = u1 * 4294967296 + u0) (h1 : q1 = (U * 4294967296 + u1) / Y) (hV : (U * 4294967296 + u1) % Y = V) (h0 : q0 = (V * 4294967296 + u0) / Y) : q1 * 4294967296 + q0 = (hi * 18446744073709551616 + lo) / y := by
  have p := two_pos s
  have hY : 0 < Y := hYe ▸ Nat.mul_pos hy1 p
  rw [← long_div hY h1 hV.symm h0, ← hLs, hsum, ← hYe, Nat.mul_div_mul_right _ _ p]
noncomputable def qc32_1 (n : Nat) : Code := partOf Tryz.f108 n
theorem bLen64_yyy (y : Nat) (hy1 : 1 ≤ y) (hy2 : y < 18446744073709551616) (g0 : 4294967296 ≤ y) (g1 : 65536 ≤ y / 4294967296) (g2 : 256 ≤ y / 4294967296 / 65536) (w : World) :
    Calls Tryz.prog 108 #[.int .u64 ((y : Nat) : Int)] w (fun e w' => ∃ n : Nat, e = .returned (.int .i64 ((n : Nat) : Int)) ∧ IsLen y n ∧ w = w') := by
  obtain ⟨c, hc, hc8, hct, hcl⟩ := ltab_all ⟨y / 4294967296 / 65536 / 256, by omega⟩
  have K0 : Keeps Nob w w := Keeps.refl _ _
  refine sy_enter (qc32_1 1) ⟨#[uN y, ud, ud, ud, ud, ud, ud, ud, ud, ud, ud, ud, ud, ud, ud, ud, ud, ud, ud, ud, ud, ud, ud, ud, ud], []⟩ Tryz.func108 (by kernel_rfl) (by kernel_rfl) <| qr_ [0] <| pkq (.int .i64 0) <| eq_ <| qr_ [0, 1] <| pkq (uN y) <| ppq (.bool true) (dct ((((y : Nat) : Int)) ≥ ((4294967296) : Int)) (by omega)) <| ey_ <| qr_ [0, 1, 2] <| pkq (uN y) <| ppq (uN (y / 4294967296)) (exec_cast (congrArg (fun n : Nat => Value.int .u64 (n : Int)) (Nat.shiftRight_eq_div_pow y 32)) (exec_binop .shr 40 169 (.tmp 5) (.const (.int .u64 32)) (by kernel_rfl) (uN y) (uN 32) _ (by kernel_rfl) (by kernel_rfl) (by kernel_rfl) (run_shrU _ _ _ 32 (by omega)))) <| pkq (uN (y / 4294967296)) <| er_ [0] <| pkq (.int .i64 32) ?_
  refine eq_ <| qr_ [0, 1] <| pkq (uN (y / 4294967296)) <| ppq (.bool true) (dct ((((y / 4294967296 : Nat) : Int)) ≥ ((65536) : Int)) (by omega)) <| ey_ <| qr_ [0, 1, 2] <| pkq (uN (y / 4294967296)) <| ppq (uN (y / 4294967296 / 65536)) (exec_cast (congrArg (fun n : Nat => Value.int .u64 (n : Int)) (Nat.shiftRight_eq_div_pow (y / 4294967296) 16)) (exec_binop .shr 40 169 (.tmp 9) (.const (.int .u64 16)) (by kernel_rfl) (uN (y / 4294967296)) (uN 16) _ (by kernel_rfl) (by kernel_rfl) (by kernel_rfl) (run_shrU _ _ _ 16 (by omega)))) <| pkq (uN (y / 4294967296 / 65536)) <| er_ [0, 1, 2] <| pkq (.int .i64 32) <| pkq (.int .i64 48) <| pkq (.int .i64 48) <| eq_ ?_
  refine qr_ [0, 1] <| pkq (uN (y / 4294967296 / 65536)) <| ppq (.bool true) (dct ((((y / 4294967296 / 65536 : Nat) : Int)) ≥ ((256) : Int)) (by omega)) <| ey_ <| qr_ [0, 1, 2] <| pkq (uN (y / 4294967296 / 65536)) <| ppq (uN (y / 4294967296 / 65536 / 256)) (exec_cast (congrArg (fun n : Nat => Value.int .u64 (n : Int)) (Nat.shiftRight_eq_div_pow (y / 4294967296 / 65536) 8)) (exec_binop .shr 40 169 (.tmp 15) (.const (.int .u64 8)) (by kernel_rfl) (uN (y / 4294967296 / 65536)) (uN 8) _ (by kernel_rfl) (by kernel_rfl) (by kernel_rfl) (run_shrU _ _ _ 8 (by omega)))) <| pkq (uN (y / 4294967296 / 65536 / 256)) <| er_ [0, 1, 2] <| pkq (.int .i64 48) <| pkq (.int .i64 56) <| pkq (.int .i64 56) <| eqr_ [0, 1, 2, 3, 4, 5, 6] <| pkq (.int .i64 56) ?_
  refine pkq (uN (y / 4294967296 / 65536 / 256)) <| prq (cN (y / 4294967296 / 65536 / 256)) (w' := w) (exec_convert 40 5 (.tmp 20) (by kernel_rfl) _ (by kernel_rfl) (conv_u64_u8 (by omega) _)) <| ppq (cN c.toNat) (exec_index_str 9 (.const (.string ⟨ltab.toArray⟩)) (.tmp 21) (by kernel_rfl) ltab (by kernel_rfl) .u8 (y / 4294967296 / 65536 / 256) (by kernel_rfl) Tryz.underlying9 c hc) <| prq (iN c.toNat) (w' := w) (exec_convert 5 3 (.tmp 22) (by kernel_rfl) _ (by kernel_rfl) (conv_u8_int (by omega) _)) <| ppq (iN (56 + c.toNat)) (exec_cast (congrArg (Value.int .i64) (wrapN (56 + c.toNat) (by omega))) (by kernel_rfl)) <| pkq (iN (56 + c.toNat)) <| ps_end <| sy_a ⟨#[uN (y / 4294967296 / 65536 / 256), ud, iN (56 + c.toNat), uN y, .bool true, uN y, uN (y / 4294967296), uN (y / 4294967296), .bool true, uN (y / 4294967296), uN (y / 4294967296 / 65536), .int .i64 32, .int .i64 48, uN (y / 4294967296 / 65536), .bool true, uN (y / 4294967296 / 65536), uN (y / 4294967296 / 65536 / 256), .int .i64 48, .int .i64 56, .int .i64 56, uN (y / 4294967296 / 65536 / 256), cN (y / 4294967296 / 65536 / 256), cN c.toNat, iN c.toNat, iN (56 + c.toNat)], []⟩ <| then_n <| u_ <| so_ (.int .i64 ((56 + c.toNat : Nat) : Int)) ?_
  exact ⟨56 + c.toNat, rfl, len_fin (x := y / 4294967296 / 65536 / 256) (K := 72057594037927936) (by decide) (by decide) hc8 (by omega) (by omega) hct (by omega) hcl, rfl⟩
theorem bLen64_yyn (y : Nat) (hy1 : 1 ≤ y) (hy2 : y < 18446744073709551616) (g0 : 4294967296 ≤ y) (g1 : 65536 ≤ y / 4294967296) (g2 : y / 4294967296 / 65536 < 256) (w : World) :
    Calls Tryz.prog 108 #[.int .u64 ((y : Nat) : Int)] w (fun e w' => ∃ n : Nat, e = .returned (.int .i64 ((n : Nat) : Int)) ∧ IsLen y n ∧ w = w') := by
  obtain ⟨c, hc, hc8, hct, hcl⟩ := ltab_all ⟨y / 4294967296 / 65536, by omega⟩
  have K0 : Keeps Nob w w := Keeps.refl _ _
  refine sy_enter (qc32_1 1) ⟨#[uN y, ud, ud, ud, ud, ud, ud, ud, ud, ud, ud, ud, ud, ud, ud, ud, ud, ud, ud, ud, ud, ud, ud, ud, ud], []⟩ Tryz.func108 (by kernel_rfl) (by kernel_rfl) <| qr_ [0] <| pkq (.int .i64 0) <| eq_ <| qr_ [0, 1] <| pkq (uN y) <| ppq (.bool true) (dct ((((y : Nat) : Int)) ≥ ((4294967296) : Int)) (by omega)) <| ey_ <| qr_ [0, 1, 2] <| pkq (uN y) <| ppq (uN (y / 4294967296)) (exec_cast (congrArg (fun n : Nat => Value.int .u64 (n : Int)) (Nat.shiftRight_eq_div_pow y 32)) (exec_binop .shr 40 169 (.tmp 5) (.const (.int .u64 32)) (by kernel_rfl) (uN y) (uN 32) _ (by kernel_rfl) (by kernel_rfl) (by kernel_rfl) (run_shrU _ _ _ 32 (by omega)))) <| pkq (uN (y / 4294967296)) <| er_ [0] <| pkq (.int .i64 32) ?_
  refine eq_ <| qr_ [0, 1] <| pkq (uN (y / 4294967296)) <| ppq (.bool true) (dct ((((y / 4294967296 : Nat) : Int)) ≥ ((65536) : Int)) (by omega)) <| ey_ <| qr_ [0, 1, 2] <| pkq (uN (y / 4294967296)) <| ppq (uN (y / 4294967296 / 65536)) (exec_cast (congrArg (fun n : Nat => Value.int .u64 (n : Int)) (Nat.shiftRight_eq_div_pow (y / 4294967296) 16)) (exec_binop .shr 40 169 (.tmp 9) (.const (.int .u64 16)) (by kernel_rfl) (uN (y / 4294967296)) (uN 16) _ (by kernel_rfl) (by kernel_rfl) (by kernel_rfl) (run_shrU _ _ _ 16 (by omega)))) <| pkq (uN (y / 4294967296 / 65536)) <| er_ [0, 1, 2] <| pkq (.int .i64 32) <| pkq (.int .i64 48) <| pkq (.int .i64 48) <| eq_ ?_
  refine qr_ [0, 1] <| pkq (uN (y / 4294967296 / 65536)) <| ppq (.bool false) (dcf ((((y / 4294967296 / 65536 : Nat) : Int)) ≥ ((256) : Int)) (by omega)) <| en_ <| s_ <| tqr_ [0, 1, 2, 3, 4, 5, 6] <| pkq (.int .i64 48) <| pkq (uN (y / 4294967296 / 65536)) <| prq (cN (y / 4294967296 / 65536)) (w' := w) (exec_convert 40 5 (.tmp 20) (by kernel_rfl) _ (by kernel_rfl) (conv_u64_u8 (by omega) _)) <| ppq (cN c.toNat) (exec_index_str 9 (.const (.string ⟨ltab.toArray⟩)) (.tmp 21) (by kernel_rfl) ltab (by kernel_rfl) .u8 (y / 4294967296 / 65536) (by kernel_rfl) Tryz.underlying9 c hc) <| prq (iN c.toNat) (w' := w) (exec_convert 5 3 (.tmp 22) (by kernel_rfl) _ (by kernel_rfl) (conv_u8_int (by omega) _)) <| ppq (iN (48 + c.toNat)) (exec_cast (congrArg (Value.int .i64) (wrapN (48 + c.toNat) (by omega))) (by kernel_rfl)) <| pkq (iN (48 + c.toNat)) <| ps_end ?_
  refine sy_a ⟨#[uN (y / 4294967296 / 65536), ud, iN (48 + c.toNat), uN y, .bool true, uN y, uN (y / 4294967296), uN (y / 4294967296), .bool true, uN (y / 4294967296), uN (y / 4294967296 / 65536), .int .i64 32, .int .i64 48, uN (y / 4294967296 / 65536), .bool false, ud, ud, ud, ud, .int .i64 48, uN (y / 4294967296 / 65536), cN (y / 4294967296 / 65536), cN c.toNat, iN c.toNat, iN (48 + c.toNat)], []⟩ <| then_n <| u_ <| so_ (.int .i64 ((48 + c.toNat : Nat) : Int)) ?_
  exact ⟨48 + c.toNat, rfl, len_fin (x := y / 4294967296 / 65536) (K := 281474976710656) (by decide) (by decide) hc8 (by omega) (by omega) hct (by omega) hcl, rfl⟩
theorem bLen64_yny (y : Nat) (hy1 : 1 ≤ y) (hy2 : y < 18446744073709551616) (g0 : 4294967296 ≤ y) (g1 : y / 4294967296 < 65536) (g2 : 256 ≤ y / 4294967296) (w : World) :
    Calls Tryz.prog 108 #[.int .u64 ((y : Nat) : Int)] w (fun e w' => ∃ n : Nat, e = .returned (.int .i64 ((n : Nat) : Int)) ∧ IsLen y n ∧ w = w') := by
  obtain ⟨c, hc, hc8, hct, hcl⟩ := ltab_all ⟨y / 4294967296 / 256, by omega⟩
  have K0 : Keeps Nob w w := Keeps.refl _ _
  refine sy_enter (qc32_1 1) ⟨#[uN y, ud, ud, ud, ud, ud, ud, ud, ud, ud, ud, ud, ud, ud, ud, ud, ud, ud, ud, ud, ud, ud, ud, ud, ud], []⟩ Tryz.func108 (by kernel_rfl) (by kernel_rfl) <| qr_ [0] <| pkq (.int .i64 0) <| eq_ <| qr_ [0, 1] <| pkq (uN y) <| ppq (.bool true) (dct ((((y : Nat) : Int)) ≥ ((4294967296) : Int)) (by omega)) <| ey_ <| qr_ [0, 1, 2] <| pkq (uN y) <| ppq (uN (y / 4294967296)) (exec_cast (congrArg (fun n : Nat => Value.int .u64 (n : Int)) (Nat.shiftRight_eq_div_pow y 32)) (exec_binop .shr 40 169 (.tmp 5) (.const (.int .u64 32)) (by kernel_rfl) (uN y) (uN 32) _ (by kernel_rfl) (by kernel_rfl) (by kernel_rfl) (run_shrU _ _ _ 32 (by omega)))) <| pkq (uN (y / 4294967296)) <| er_ [0] <| pkq (.int .i64 32) ?_
  refine eq_ <| qr_ [0, 1] <| pkq (uN (y / 4294967296)) <| ppq (.bool false) (dcf ((((y / 4294967296 : Nat) : Int)) ≥ ((65536) : Int)) (by omega)) <| en_ <| s_ <| tq_ <| qr_ [0, 1] <| pkq (uN (y / 4294967296)) <| ppq (.bool true) (dct ((((y / 4294967296 : Nat) : Int)) ≥ ((256) : Int)) (by omega)) <| ey_ <| qr_ [0, 1, 2] <| pkq (uN (y / 4294967296)) <| ppq (uN (y / 4294967296 / 256)) (exec_cast (congrArg (fun n : Nat => Value.int .u64 (n : Int)) (Nat.shiftRight_eq_div_pow (y / 4294967296) 8)) (exec_binop .shr 40 169 (.tmp 15) (.const (.int .u64 8)) (by kernel_rfl) (uN (y / 4294967296)) (uN 8) _ (by kernel_rfl) (by kernel_rfl) (by kernel_rfl) (run_shrU _ _ _ 8 (by omega)))) ?_
  refine pkq (uN (y / 4294967296 / 256)) <| er_ [0, 1, 2] <| pkq (.int .i64 32) <| pkq (.int .i64 40) <| pkq (.int .i64 40) <| eqr_ [0, 1, 2, 3, 4, 5, 6] <| pkq (.int .i64 40) <| pkq (uN (y / 4294967296 / 256)) <| prq (cN (y / 4294967296 / 256)) (w' := w) (exec_convert 40 5 (.tmp 20) (by kernel_rfl) _ (by kernel_rfl) (conv_u64_u8 (by omega) _)) <| ppq (cN c.toNat) (exec_index_str 9 (.const (.string ⟨ltab.toArray⟩)) (.tmp 21) (by kernel_rfl) ltab (by kernel_rfl) .u8 (y / 4294967296 / 256) (by kernel_rfl) Tryz.underlying9 c hc) <| prq (iN c.toNat) (w' := w) (exec_convert 5 3 (.tmp 22) (by kernel_rfl) _ (by kernel_rfl) (conv_u8_int (by omega) _)) <| ppq (iN (40 + c.toNat)) (exec_cast (congrArg (Value.int .i64) (wrapN (40 + c.toNat) (by omega))) (by kernel_rfl)) <| pkq (iN (40 + c.toNat)) <| ps_end ?_
  refine sy_a ⟨#[uN (y / 4294967296 / 256), ud, iN (40 + c.toNat), uN y, .bool true, uN y, uN (y / 4294967296), uN (y / 4294967296), .bool false, ud, ud, ud, ud, uN (y / 4294967296), .bool true, uN (y / 4294967296), uN (y / 4294967296 / 256), .int .i64 32, .int .i64 40, .int .i64 40, uN (y / 4294967296 / 256), cN (y / 4294967296 / 256), cN c.toNat, iN c.toNat, iN (40 + c.toNat)], []⟩ <| then_n <| u_ <| so_ (.int .i64 ((40 + c.toNat : Nat) : Int)) ?_
  exact ⟨40 + c.toNat, rfl, len_fin (x := y / 4294967296 / 256) (K := 1099511627776) (by decide) (by decide) hc8 (by omega) (by omega) hct (by omega) hcl, rfl⟩
theorem bLen64_ynn (y : Nat) (hy1 : 1 ≤ y) (hy2 : y < 18446744073709551616) (g0 : 4294967296 ≤ y) (g1 : y / 4294967296 < 65536) (g2 : y / 4294967296 < 256) (w : World) :
    Calls Tryz.prog 108 #[.int .u64 ((y : Nat) : Int)] w (fun e w' => ∃ n : Nat, e = .returned (.int .i64 ((n : Nat) : Int)) ∧ IsLen y n ∧ w = w') := by
  obtain ⟨c, hc, hc8, hct, hcl⟩ := ltab_all ⟨y / 4294967296, by omega⟩
  have K0 : Keeps Nob w w := Keeps.refl _ _
  refine sy_enter (qc32_1 1) ⟨#[uN y, ud, ud, ud, ud, ud, ud, ud, ud, ud, ud, ud, ud, ud, ud, ud, ud, ud, ud, ud, ud, ud, ud, ud, ud], []⟩ Tryz.func108 (by kernel_rfl) (by kernel_rfl) <| qr_ [0] <| pkq (.int .i64 0) <| eq_ <| qr_ [0, 1] <| pkq (uN y) <| ppq (.bool true) (dct ((((y : Nat) : Int)) ≥ ((4294967296) : Int)) (by omega)) <| ey_ <| qr_ [0, 1, 2] <| pkq (uN y) <| ppq (uN (y / 4294967296)) (exec_cast (congrArg (fun n : Nat => Value.int .u64 (n : Int)) (Nat.shiftRight_eq_div_pow y 32)) (exec_binop .shr 40 169 (.tmp 5) (.const (.int .u64 32)) (by kernel_rfl) (uN y) (uN 32) _ (by kernel_rfl) (by kernel_rfl) (by kernel_rfl) (run_shrU _ _ _ 32 (by omega)))) <| pkq (uN (y / 4294967296)) <| er_ [0] <| pkq (.int .i64 32) ?_
  refine eq_ <| qr_ [0, 1] <| pkq (uN (y / 4294967296)) <| ppq (.bool false) (dcf ((((y / 4294967296 : Nat) : Int)) ≥ ((65536) : Int)) (by omega)) <| en_ <| s_ <| tq_ <| qr_ [0, 1] <| pkq (uN (y / 4294967296)) <| ppq (.bool false) (dcf ((((y / 4294967296 : Nat) : Int)) ≥ ((256) : Int)) (by omega)) <| en_ <| s_ <| tqr_ [0, 1, 2, 3, 4, 5, 6] <| pkq (.int .i64 32) ?_
  refine pkq (uN (y / 4294967296)) <| prq (cN (y / 4294967296)) (w' := w) (exec_convert 40 5 (.tmp 20) (by kernel_rfl) _ (by kernel_rfl) (conv_u64_u8 (by omega) _)) <| ppq (cN c.toNat) (exec_index_str 9 (.const (.string ⟨ltab.toArray⟩)) (.tmp 21) (by kernel_rfl) ltab (by kernel_rfl) .u8 (y / 4294967296) (by kernel_rfl) Tryz.underlying9 c hc) <| prq (iN c.toNat) (w' := w) (exec_convert 5 3 (.tmp 22) (by kernel_rfl) _ (by kernel_rfl) (conv_u8_int (by omega) _)) <| ppq (iN (32 + c.toNat)) (exec_cast (congrArg (Value.int .i64) (wrapN (32 + c.toNat) (by omega))) (by kernel_rfl)) <| pkq (iN (32 + c.toNat)) <| eu_ <| so_ (.int .i64 ((32 + c.toNat : Nat) : Int)) ?_
  exact ⟨32 + c.toNat, rfl, len_fin (x := y / 4294967296) (K := 4294967296) (by decide) (by decide) hc8 (by omega) (by omega) hct (by omega) hcl, rfl⟩
theorem bLen64_nyy (y : Nat) (hy1 : 1 ≤ y) (hy2 : y < 18446744073709551616) (g0 : y < 4294967296) (g1 : 65536 ≤ y) (g2 : 256 ≤ y / 65536) (w : World) :
    Calls Tryz.prog 108 #[.int .u64 ((y : Nat) : Int)] w (fun e w' => ∃ n : Nat, e = .returned (.int .i64 ((n : Nat) : Int)) ∧ IsLen y n ∧ w = w') := by
  obtain ⟨c, hc, hc8, hct, hcl⟩ := ltab_all ⟨y / 65536 / 256, by omega⟩
  have K0 : Keeps Nob w w := Keeps.refl _ _
  refine sy_enter (qc32_1 1) ⟨#[uN y, ud, ud, ud, ud, ud, ud, ud, ud, ud, ud, ud, ud, ud, ud, ud, ud, ud, ud, ud, ud, ud, ud, ud, ud], []⟩ Tryz.func108 (by kernel_rfl) (by kernel_rfl) <| qr_ [0] <| pkq (.int .i64 0) <| eq_ <| qr_ [0, 1] <| pkq (uN y) <| ppq (.bool false) (dcf ((((y : Nat) : Int)) ≥ ((4294967296) : Int)) (by omega)) <| en_ <| s_ <| tq_ <| qr_ [0, 1] <| pkq (uN y) <| ppq (.bool true) (dct ((((y : Nat) : Int)) ≥ ((65536) : Int)) (by omega)) <| ey_ ?_
  refine qr_ [0, 1, 2] <| pkq (uN y) <| ppq (uN (y / 65536)) (exec_cast (congrArg (fun n : Nat => Value.int .u64 (n : Int)) (Nat.shiftRight_eq_div_pow y 16)) (exec_binop .shr 40 169 (.tmp 9) (.const (.int .u64 16)) (by kernel_rfl) (uN y) (uN 16) _ (by kernel_rfl) (by kernel_rfl) (by kernel_rfl) (run_shrU _ _ _ 16 (by omega)))) <| pkq (uN (y / 65536)) <| er_ [0, 1, 2] <| pkq (.int .i64 0) <| pkq (.int .i64 16) <| pkq (.int .i64 16) <| eq_ <| qr_ [0, 1] <| pkq (uN (y / 65536)) <| ppq (.bool true) (dct ((((y / 65536 : Nat) : Int)) ≥ ((256) : Int)) (by omega)) <| ey_ <| qr_ [0, 1, 2] ?_
  refine pkq (uN (y / 65536)) <| ppq (uN (y / 65536 / 256)) (exec_cast (congrArg (fun n : Nat => Value.int .u64 (n : Int)) (Nat.shiftRight_eq_div_pow (y / 65536) 8)) (exec_binop .shr 40 169 (.tmp 15) (.const (.int .u64 8)) (by kernel_rfl) (uN (y / 65536)) (uN 8) _ (by kernel_rfl) (by kernel_rfl) (by kernel_rfl) (run_shrU _ _ _ 8 (by omega)))) <| pkq (uN (y / 65536 / 256)) <| er_ [0, 1, 2] <| pkq (.int .i64 16) <| pkq (.int .i64 24) <| pkq (.int .i64 24) <| eqr_ [0, 1, 2, 3, 4, 5, 6] <| pkq (.int .i64 24) <| pkq (uN (y / 65536 / 256)) <| prq (cN (y / 65536 / 256)) (w' := w) (exec_convert 40 5 (.tmp 20) (by kernel_rfl) _ (by kernel_rfl) (conv_u64_u8 (by omega) _)) <| ppq (cN c.toNat) (exec_index_str 9 (.const (.string ⟨ltab.toArray⟩)) (.tmp 21) (by kernel_rfl) ltab (by kernel_rfl) .u8 (y / 65536 / 256) (by kernel_rfl) Tryz.underlying9 c hc) <| prq (iN c.toNat) (w' := w) (exec_convert 5 3 (.tmp 22) (by kernel_rfl) _ (by kernel_rfl) (conv_u8_int (by omega) _)) <| ppq (iN (24 + c.toNat)) (exec_cast (congrArg (Value.int .i64) (wrapN (24 + c.toNat) (by omega))) (by kernel_rfl)) ?_
  refine pkq (iN (24 + c.toNat)) <| ps_end <| sy_a ⟨#[uN (y / 65536 / 256), ud, iN (24 + c.toNat), uN y, .bool false, ud, ud, uN y, .bool true, uN y, uN (y / 65536), .int .i64 0, .int .i64 16, uN (y / 65536), .bool true, uN (y / 65536), uN (y / 65536 / 256), .int .i64 16, .int .i64 24, .int .i64 24, uN (y / 65536 / 256), cN (y / 65536 / 256), cN c.toNat, iN c.toNat, iN (24 + c.toNat)], []⟩ <| then_n <| u_ <| so_ (.int .i64 ((24 + c.toNat : Nat) : Int)) ?_
  exact ⟨24 + c.toNat, rfl, len_fin (x := y / 65536 / 256) (K := 16777216) (by decide) (by decide) hc8 (by omega) (by omega) hct (by omega) hcl, rfl⟩
theorem bLen64_nyn (y : Nat) (hy1 : 1 ≤ y) (hy2 : y < 18446744073709551616) (g0 : y < 4294967296) (g1 : 65536 ≤ y) (g2 : y / 65536 < 256) (w : World) :
    Calls Tryz.prog 108 #[.int .u64 ((y : Nat) : Int)] w (fun e w' => ∃ n : Nat, e = .returned (.int .i64 ((n : Nat) : Int)) ∧ IsLen y n ∧ w = w') := by
  obtain ⟨c, hc, hc8, hct, hcl⟩ := ltab_all ⟨y / 65536, by omega⟩
  have K0 : Keeps Nob w w := Keeps.refl _ _
  refine sy_enter (qc32_1 1) ⟨#[uN y, ud, ud, ud, ud, ud, ud, ud, ud, ud, ud, ud, ud, ud, ud, ud, ud, ud, ud, ud, ud, ud, ud, ud, ud], []⟩ Tryz.func108 (by kernel_rfl) (by kernel_rfl) <| qr_ [0] <| pkq (.int .i64 0) <| eq_ <| qr_ [0, 1] <| pkq (uN y) <| ppq (.bool false) (dcf ((((y : Nat) : Int)) ≥ ((4294967296) : Int)) (by omega)) <| en_ <| s_ <| tq_ <| qr_ [0, 1] <| pkq (uN y) <| ppq (.bool true) (dct ((((y : Nat) : Int)) ≥ ((65536) : Int)) (by omega)) <| ey_ ?_
  refine qr_ [0, 1, 2] <| pkq (uN y) <| ppq (uN (y / 65536)) (exec_cast (congrArg (fun n : Nat => Value.int .u64 (n : Int)) (Nat.shiftRight_eq_div_pow y 16)) (exec_binop .shr 40 169 (.tmp 9) (.const (.int .u64 16)) (by kernel_rfl) (uN y) (uN 16) _ (by kernel_rfl) (by kernel_rfl) (by kernel_rfl) (run_shrU _ _ _ 16 (by omega)))) <| pkq (uN (y / 65536)) <| er_ [0, 1, 2] <| pkq (.int .i64 0) <| pkq (.int .i64 16) <| pkq (.int .i64 16) <| eq_ <| qr_ [0, 1] <| pkq (uN (y / 65536)) <| ppq (.bool false) (dcf ((((y / 65536 : Nat) : Int)) ≥ ((256) : Int)) (by omega)) <| en_ <| s_ ?_
  refine tqr_ [0, 1, 2, 3, 4, 5, 6] <| pkq (.int .i64 16) <| pkq (uN (y / 65536)) <| prq (cN (y / 65536)) (w' := w) (exec_convert 40 5 (.tmp 20) (by kernel_rfl) _ (by kernel_rfl) (conv_u64_u8 (by omega) _)) <| ppq (cN c.toNat) (exec_index_str 9 (.const (.string ⟨ltab.toArray⟩)) (.tmp 21) (by kernel_rfl) ltab (by kernel_rfl) .u8 (y / 65536) (by kernel_rfl) Tryz.underlying9 c hc) <| prq (iN c.toNat) (w' := w) (exec_convert 5 3 (.tmp 22) (by kernel_rfl) _ (by kernel_rfl) (conv_u8_int (by omega) _)) <| ppq (iN (16 + c.toNat)) (exec_cast (congrArg (Value.int .i64) (wrapN (16 + c.toNat) (by omega))) (by kernel_rfl)) <| pkq (iN (16 + c.toNat)) <| eu_ <| so_ (.int .i64 ((16 + c.toNat : Nat) : Int)) ?_
  exact ⟨16 + c.toNat, rfl, len_fin (x := y / 65536) (K := 65536) (by decide) (by decide) hc8 (by omega) (by omega) hct (by omega) hcl, rfl⟩
theorem bLen64_nny (y : Nat) (hy1 : 1 ≤ y) (hy2 : y < 18446744073709551616) (g0 : y < 4294967296) (g1 : y < 65536) (g2 : 256 ≤ y) (w : World) :
    Calls Tryz.prog 108 #[.int .u64 ((y : Nat) : Int)] w (fun e w' => ∃ n : Nat, e = .returned (.int .i64 ((n : Nat) : Int)) ∧ IsLen y n ∧ w = w') := by
  obtain ⟨c, hc, hc8, hct, hcl⟩ := ltab_all ⟨y / 256, by omega⟩
  have K0 : Keeps Nob w w := Keeps.refl _ _
  refine sy_enter (qc32_1 1) ⟨#[uN y, ud, ud, ud, ud, ud, ud, ud, ud, ud, ud, ud, ud, ud, ud, ud, ud, ud, ud, ud, ud, ud, ud, ud, ud], []⟩ Tryz.func108 (by kernel_rfl) (by kernel_rfl) <| qr_ [0] <| pkq (.int .i64 0) <| eq_ <| qr_ [0, 1] <| pkq (uN y) <| ppq (.bool false) (dcf ((((y : Nat) : Int)) ≥ ((4294967296) : Int)) (by omega)) <| en_ <| s_ <| tq_ <| qr_ [0, 1] <| pkq (uN y) <| ppq (.bool false) (dcf ((((y : Nat) : Int)) ≥ ((65536) : Int)) (by omega)) <| en_ ?_
  refine s_ <| tq_ <| qr_ [0, 1] <| pkq (uN y) <| ppq (.bool true) (dct ((((y : Nat) : Int)) ≥ ((256) : Int)) (by omega)) <| ey_ <| qr_ [0, 1, 2] <| pkq (uN y) <| ppq (uN (y / 256)) (exec_cast (congrArg (fun n : Nat => Value.int .u64 (n : Int)) (Nat.shiftRight_eq_div_pow y 8)) (exec_binop .shr 40 169 (.tmp 15) (.const (.int .u64 8)) (by kernel_rfl) (uN y) (uN 8) _ (by kernel_rfl) (by kernel_rfl) (by kernel_rfl) (run_shrU _ _ _ 8 (by omega)))) <| pkq (uN (y / 256)) <| er_ [0, 1, 2] <| pkq (.int .i64 0) <| pkq (.int .i64 8) <| pkq (.int .i64 8) ?_
  refine eqr_ [0, 1, 2, 3, 4, 5, 6] <| pkq (.int .i64 8) <| pkq (uN (y / 256)) <| prq (cN (y / 256)) (w' := w) (exec_convert 40 5 (.tmp 20) (by kernel_rfl) _ (by kernel_rfl) (conv_u64_u8 (by omega) _)) <| ppq (cN c.toNat) (exec_index_str 9 (.const (.string ⟨ltab.toArray⟩)) (.tmp 21) (by kernel_rfl) ltab (by kernel_rfl) .u8 (y / 256) (by kernel_rfl) Tryz.underlying9 c hc) <| prq (iN c.toNat) (w' := w) (exec_convert 5 3 (.tmp 22) (by kernel_rfl) _ (by kernel_rfl) (conv_u8_int (by omega) _)) <| ppq (iN (8 + c.toNat)) (exec_cast (congrArg (Value.int .i64) (wrapN (8 + c.toNat) (by omega))) (by kernel_rfl)) <| pkq (iN (8 + c.toNat)) <| eu_ <| so_ (.int .i64 ((8 + c.toNat : Nat) : Int)) ?_
  exact ⟨8 + c.toNat, rfl, len_fin (x := y / 256) (K := 256) (by decide) (by decide) hc8 (by omega) (by omega) hct (by omega) hcl, rfl⟩
theorem bLen64_nnn (y : Nat) (hy1 : 1 ≤ y) (hy2 : y < 18446744073709551616) (g0 : y < 4294967296) (g1 : y < 65536) (g2 : y < 256) (w : World) :
    Calls Tryz.prog 108 #[.int .u64 ((y : Nat) : Int)] w (fun e w' => ∃ n : Nat, e = .returned (.int .i64 ((n : Nat) : Int)) ∧ IsLen y n ∧ w = w') := by
  obtain ⟨c, hc, hc8, hct, hcl⟩ := ltab_all ⟨y, by omega⟩
  have K0 : Keeps Nob w w := Keeps.refl _ _
  refine sy_enter (qc32_1 1) ⟨#[uN y, ud, ud, ud, ud, ud, ud, ud, ud, ud, ud, ud, ud, ud, ud, ud, ud, ud, ud, ud, ud, ud, ud, ud, ud], []⟩ Tryz.func108 (by kernel_rfl) (by kernel_rfl) <| qr_ [0] <| pkq (.int .i64 0) <| eq_ <| qr_ [0, 1] <| pkq (uN y) <| ppq (.bool false) (dcf ((((y : Nat) : Int)) ≥ ((4294967296) : Int)) (by omega)) <| en_ <| s_ <| tq_ <| qr_ [0, 1] <| pkq (uN y) <| ppq (.bool false) (dcf ((((y : Nat) : Int)) ≥ ((65536) : Int)) (by omega)) <| en_ ?_
  refine s_ <| tq_ <| qr_ [0, 1] <| pkq (uN y) <| ppq (.bool false) (dcf ((((y : Nat) : Int)) ≥ ((256) : Int)) (by omega)) <| en_ <| s_ <| tqr_ [0, 1, 2, 3, 4, 5, 6] <| pkq (.int .i64 0) <| pkq (uN y) <| prq (cN y) (w' := w) (exec_convert 40 5 (.tmp 20) (by kernel_rfl) _ (by kernel_rfl) (conv_u64_u8 (by omega) _)) <| ppq (cN c.toNat) (exec_index_str 9 (.const (.string ⟨ltab.toArray⟩)) (.tmp 21) (by kernel_rfl) ltab (by kernel_rfl) .u8 (y) (by kernel_rfl) Tryz.underlying9 c hc) <| prq (iN c.toNat) (w' := w) (exec_convert 5 3 (.tmp 22) (by kernel_rfl) _ (by kernel_rfl) (conv_u8_int (by omega) _)) <| ppq (iN (0 + c.toNat)) (exec_cast (congrArg (Value.int .i64) (wrapN (0 + c.toNat) (by omega))) (by kernel_rfl)) ?_
  refine pkq (iN (0 + c.toNat)) <| eu_ <| so_ (.int .i64 ((0 + c.toNat : Nat) : Int)) ?_
  exact ⟨0 + c.toNat, rfl, len_fin (x := y) (K := 1) (by decide) (by decide) hc8 (by omega) (by omega) hct (by omega) hcl, rfl⟩
theorem bLen64_ok (y : Nat) (hy1 : 1 ≤ y) (hy2 : y < 18446744073709551616) (w : World) : Calls Tryz.prog 108 #[.int .u64 ((y : Nat) : Int)] w (fun e w' => ∃ n : Nat, e = .returned (.int .i64 ((n : Nat) : Int)) ∧ IsLen y n ∧ w = w') := by
  by_cases c1 : 4294967296 ≤ y
  · by_cases c2 : 65536 ≤ y / 4294967296
    · by_cases c3 : 256 ≤ y / 4294967296 / 65536
      · exact bLen64_yyy y hy1 hy2 c1 c2 c3 w
      · exact bLen64_yyn y hy1 hy2 c1 c2 (by omega) w
    · by_cases c3 : 256 ≤ y / 4294967296
      · exact bLen64_yny y hy1 hy2 c1 (by omega) c3 w
      · exact bLen64_ynn y hy1 hy2 c1 (by omega) (by omega) w
  · by_cases c2 : 65536 ≤ y
    · by_cases c3 : 256 ≤ y / 65536
      · exact bLen64_nyy y hy1 hy2 (by omega) c2 c3 w
      · exact bLen64_nyn y hy1 hy2 (by omega) c2 (by omega) w
    · by_cases c3 : 256 ≤ y
      · exact bLen64_nny y hy1 hy2 (by omega) (by omega) c3 w
      · exact bLen64_nnn y hy1 hy2 (by omega) (by omega) (by omega) w
noncomputable def qc32_0 (n : Nat) : Code := partOf Tryz.f105 n
theorem bLead64_ok (y : Nat) (hy1 : 1 ≤ y) (hy2 : y < 18446744073709551616) (w : World) :
    Calls Tryz.prog 105 #[.int .u64 ((y : Nat) : Int)] w (fun e w' => ∃ s : Nat, e = .returned (.int .i64 ((s : Nat) : Int)) ∧ s ≤ 63 ∧ 9223372036854775808 ≤ y * 2 ^ s ∧ y * 2 ^ s < 18446744073709551616 ∧ w = w') := by
  have K0 : Keeps Nob w w := Keeps.refl _ _
  refine sy_enter (qc32_0 1) ⟨#[uN y, ud, ud, ud, ud, ud], []⟩ Tryz.func105 (by kernel_rfl) (by kernel_rfl) <| qr_ [0] <| pkq (.int .i64 0) <| eqr_ [0, 1, 2, 3] <| pkq (uN y) ?_
  refine pcq 108 #[uN y] Tryz.func108 ((bLen64_ok y hy1 hy2 _).mono ?_)
  rintro e w1 ⟨n, rfl, hn, rfl⟩
  obtain ⟨s, hs⟩ : ∃ s, s + n = 64 := ⟨64 - n, by have := hn.1; omega⟩
  refine ⟨_, rfl, ?_⟩
  refine ppq (iN s) (exec_cast (congrArg (Value.int .i64) (wrapI (64 - ((n : Nat) : Int)) ((s : Nat) : Int) (by omega) (by omega) (by omega))) (by kernel_rfl)) <| pkq (iN s) <| eu_ <| so_ (.int .i64 ((s : Nat) : Int)) ?_
  exact ⟨s, rfl, (lead_len hn hs).1, (lead_len hn hs).2.1, (lead_len hn hs).2.2, rfl⟩
noncomputable def qc32_2 (n : Nat) : Code := partOf Tryz.f94 n
theorem bDiv64_zero (hi lo y : Nat) (hz : hi = 0) (hy1 : 1 ≤ y) (hlo : lo < 18446744073709551616) (w : World) :
    Calls Tryz.prog 94 #[.int .u64 ((hi : Nat) : Int), .int .u64 ((lo : Nat) : Int), .int .u64 ((y : Nat) : Int)] w (fun e w' => ∃ r : Nat, e = .returned (.tuple #[.int .u64 (((hi * 18446744073709551616 + lo) / y : Nat) : Int), .int .u64 ((r : Nat) : Int)]) ∧ Keeps Nob w w') := by
  have K0 : Keeps Nob w w := Keeps.refl _ _
  refine sy_enter (qc32_2 1) ⟨#[uN hi, uN lo, uN y, ud, ud, ud, ud, ud, ud, ud, ud, ud, ud, ud, ud, ud, ud, ud, ud, ud, ud, ud, ud, ud, ud, ud, ud, ud, ud, ud, ud, ud, ud, ud, ud, ud, ud, ud, ud, ud, ud, ud, ud, ud, ud, ud, ud, ud, ud, ud, ud, ud, ud, ud, ud, ud, ud, ud, ud, ud, ud, ud, ud, ud, ud, ud, ud, ud, ud, ud, ud, ud, ud, ud, ud, ud, ud, ud, ud, ud, ud, ud, ud, ud, ud, ud, ud, ud, ud, ud, ud, ud, ud, ud, ud, ud, ud, ud, ud, ud, ud, ud, ud, ud, ud, ud, ud, ud, ud, ud, ud, ud, ud, ud, ud, ud, ud, ud, ud, ud, ud, ud, ud, ud, ud, ud, ud, ud, ud, ud, ud, ud, ud, ud, ud], []⟩ Tryz.func94 (by kernel_rfl) (by kernel_rfl) <| qr_ [0, 1] <| pkq (.int .u64 0) <| pkq (.int .u64 0) <| eq_ <| qr_ [0, 1] <| pkq (uN y) <| ppq (.bool false) (eqf (((y : Nat) : Int)) ((0) : Int) (by omega)) <| en_ <| s_ <| tq_ <| qr_ [0, 1, 2] <| pkq (uN y) <| pkq (uN hi) ?_
  refine ppq (.bool false) (dcf ((((y : Nat) : Int)) ≤ (((hi : Nat) : Int))) (by omega)) <| en_ <| s_ <| tq_ <| qr_ [0, 1] <| pkq (uN hi) <| ppq (.bool true) (eqt (((hi : Nat) : Int)) ((0) : Int) (by omega)) <| ey_ <| q_ <| sy_np <| sy_reg <| an_begin 6 8 (opsAt (qc32_2 244)) (fun W => True) #[false, false, false, false, false, false, false, false] (by kernel_rfl) (by kernel_rfl) (by kernel_rfl) (by kernel_rfl) ?_
  obtain ⟨V1, eV1, kV1⟩ := drew_step w
  rw [eV1]
  clear eV1
  have K2 := K0.nn kV1
  have z3 := kV1.size
  refine akq 0 (uN lo) trivial <| akq 1 (uN y) trivial <| avq 2 (uN (lo / y)) (fun W hS => exec_quoU 40 40 (.tmp 28) (.tmp 29) (by kernel_rfl) lo y (by kernel_rfl) (by kernel_rfl) hy1 hlo) trivial <| akq 3 (uN lo) trivial <| akq 4 (uN y) trivial <| avq 5 (uN (lo % y)) (fun W hS => exec_remU 40 40 (.tmp 31) (.tmp 32) (by kernel_rfl) lo y (by kernel_rfl) (by kernel_rfl) hy1 hlo) trivial <| an_o 6 <| nrq (uN (lo / y)) (w' := V1) (by kernel_rfl) ?_
  refine ⟨trivial, ?_⟩
  refine an_o 7 <| nrq (uN (lo % y)) (w' := V1) (by kernel_rfl) ?_
  refine ⟨trivial, ?_⟩
  refine an_end (by kernel_rfl) <| then_n <| u_ <| then_r <| so_ (.tuple #[.int .u64 ((lo / y : Nat) : Int), .int .u64 ((lo % y : Nat) : Int)]) ?_
  exact ⟨_, by subst hz; rw [Nat.zero_mul, Nat.zero_add], K2⟩
theorem bDiv64_pos (hi lo y : Nat) (hz : 1 ≤ hi) (hh : hi < y) (hy2 : y < 18446744073709551616) (hlo : lo < 18446744073709551616) (w : World) :
    Calls Tryz.prog 94 #[.int .u64 ((hi : Nat) : Int), .int .u64 ((lo : Nat) : Int), .int .u64 ((y : Nat) : Int)] w (fun e w' => ∃ r : Nat, e = .returned (.tuple #[.int .u64 (((hi * 18446744073709551616 + lo) / y : Nat) : Int), .int .u64 ((r : Nat) : Int)]) ∧ Keeps Nob w w') := by
  have hy1 : 1 ≤ y := by omega
  have K0 : Keeps Nob w w := Keeps.refl _ _
  refine sy_enter (qc32_2 1) ⟨#[uN hi, uN lo, uN y, ud, ud, ud, ud, ud, ud, ud, ud, ud, ud, ud, ud, ud, ud, ud, ud, ud, ud, ud, ud, ud, ud, ud, ud, ud, ud, ud, ud, ud, ud, ud, ud, ud, ud, ud, ud, ud, ud, ud, ud, ud, ud, ud, ud, ud, ud, ud, ud, ud, ud, ud, ud, ud, ud, ud, ud, ud, ud, ud, ud, ud, ud, ud, ud, ud, ud, ud, ud, ud, ud, ud, ud, ud, ud, ud, ud, ud, ud, ud, ud, ud, ud, ud, ud, ud, ud, ud, ud, ud, ud, ud, ud, ud, ud, ud, ud, ud, ud, ud, ud, ud, ud, ud, ud, ud, ud, ud, ud, ud, ud, ud, ud, ud, ud, ud, ud, ud, ud, ud, ud, ud, ud, ud, ud, ud, ud, ud, ud, ud, ud, ud, ud], []⟩ Tryz.func94 (by kernel_rfl) (by kernel_rfl) <| qr_ [0, 1] <| pkq (.int .u64 0) <| pkq (.int .u64 0) <| eq_ <| qr_ [0, 1] <| pkq (uN y) <| ppq (.bool false) (eqf (((y : Nat) : Int)) ((0) : Int) (by omega)) <| en_ <| s_ <| tq_ <| qr_ [0, 1, 2] <| pkq (uN y) <| pkq (uN hi) ?_
  refine ppq (.bool false) (dcf ((((y : Nat) : Int)) ≤ (((hi : Nat) : Int))) (by omega)) <| en_ <| s_ <| tq_ <| qr_ [0, 1] <| pkq (uN hi) <| ppq (.bool false) (eqf (((hi : Nat) : Int)) ((0) : Int) (by omega)) <| en_ <| s_ <| tqr_ [0, 1, 2, 3] <| pkq (uN y) ?_
  refine pcq 105 #[uN y] Tryz.func105 ((bLead64_ok y hy1 hy2 _).mono ?_)
  rintro e w1 ⟨s, rfl, hs63, hYl, hYh, rfl⟩
  obtain ⟨Y, hYe⟩ : ∃ Y, y * 2 ^ s = Y := ⟨_, rfl⟩
  obtain ⟨y1, hy1e⟩ : ∃ z, Y / 4294967296 = z := ⟨_, rfl⟩
  obtain ⟨y0, hy0e⟩ : ∃ z, Y % 4294967296 = z := ⟨_, rfl⟩
  obtain ⟨hsum, hUY⟩ := wide_shift hs63 hlo hh hYh
  rw [hYe] at hYl hYh hUY
  obtain ⟨U, hUe⟩ : ∃ z, ((hi <<< s) % Kec.W ||| lo >>> (64 - s)) = z := ⟨_, rfl⟩
  obtain ⟨L, hLe⟩ : ∃ z, (lo <<< s) % Kec.W = z := ⟨_, rfl⟩
  have hL : L < 18446744073709551616 := hLe ▸ Nat.mod_lt _ Kec.W_pos
  rw [hUe, hLe] at hsum
  rw [hUe] at hUY
  obtain ⟨u1, hu1e⟩ : ∃ z, L / 4294967296 = z := ⟨_, rfl⟩
  obtain ⟨u0, hu0e⟩ : ∃ z, L % 4294967296 = z := ⟨_, rfl⟩
  have hYs : Y = y1 * 4294967296 + y0 := by omega
  have hy0 : y0 < 4294967296 := by omega
  have hy1p : 1 ≤ y1 := by omega
  have hy1l : y1 < 4294967296 := by omega
  have hu1 : u1 < 4294967296 := by omega
  have hu0 : u0 < 4294967296 := by omega
  have hLs : L = u1 * 4294967296 + u0 := by omega
  obtain ⟨Vr, hVr⟩ : ∃ z, (U * 4294967296 + u1) % Y = z := ⟨_, rfl⟩
  have hVY : Vr < Y := hVr ▸ Nat.mod_lt _ (by omega)
  refine ⟨_, rfl, ?_⟩
  refine prq (uN s) (w' := w) (exec_convert 3 169 (.tmp 35) (by kernel_rfl) _ (by kernel_rfl) (conv_int_uint (by omega) _)) <| pkq (uN s) <| eqr_ [0, 1, 2, 3] <| pkq (uN y) <| pkq (uN s) <| ppq (uN Y) (exec_cast (congrArg (fun n : Nat => Value.int .u64 (n : Int)) (show (y <<< s) % Kec.W = Y by rw [Nat.shiftLeft_eq, hYe]; exact Nat.mod_eq_of_lt hYh)) (exec_binop .shl 40 169 (.tmp 37) (.tmp 38) (by kernel_rfl) (uN y) (uN s) _ (by kernel_rfl) (by kernel_rfl) (by kernel_rfl) (run_shlU _ _ y s (by omega)))) <| pkq (uN Y) <| eqr_ [0, 1, 2] <| pkq (uN Y) <| ppq (uN y1) (exec_cast (congrArg (fun n : Nat => Value.int .u64 (n : Int)) (show Y >>> 32 = y1 by rw [Nat.shiftRight_eq_div_pow]; exact hy1e)) (exec_binop .shr 40 169 (.tmp 40) (.const (.int .u64 32)) (by kernel_rfl) (uN Y) (uN 32) _ (by kernel_rfl) (by kernel_rfl) (by kernel_rfl) (run_shrU _ _ Y 32 (by omega)))) <| pkq (uN y1) <| eqr_ [0, 1, 2] <| pkq (uN Y) <| ppq (uN y0) (exec_cast ((andU Y 4294967295 (show Y < Kec.W from hYh) (by decide)).trans (congrArg (fun n : Nat => Value.int .u64 (n : Int)) (show Y &&& 4294967295 = y0 from (Nat.and_two_pow_sub_one_eq_mod Y 32).trans hy0e))) (by kernel_rfl)) ?_
  refine pkq (uN y0) <| eqr_ [0, 1, 2, 3, 4, 5, 6, 7, 8] <| pkq (uN hi) <| pkq (uN s) <| ppq (uN ((hi <<< s) % Kec.W)) (exec_binop .shl 40 169 (.tmp 44) (.tmp 45) (by kernel_rfl) (uN hi) (uN s) _ (by kernel_rfl) (by kernel_rfl) (by kernel_rfl) (run_shlU _ _ hi s (by omega))) <| pkq (uN lo) <| pkq (uN s) <| ppq (uN (64 - s)) (exec_cast (congrArg (Value.int .u64) (show IntKind.u64.wrap (64 - ((s : Nat) : Int)) = ((64 - s : Nat) : Int) by rw [IntKind.wrap_u64]; omega)) (by kernel_rfl)) <| ppq (uN (lo >>> (64 - s))) (exec_binop .shr 40 169 (.tmp 47) (.tmp 49) (by kernel_rfl) (uN lo) (uN ((64 - s))) _ (by kernel_rfl) (by kernel_rfl) (by kernel_rfl) (run_shrU _ _ lo ((64 - s)) (by omega))) <| ppq (uN U) (exec_cast ((orU ((hi <<< s) % Kec.W) (lo >>> (64 - s)) (Nat.mod_lt _ Kec.W_pos) (Kec.shr_lt hlo _)).trans (congrArg (fun n : Nat => Value.int .u64 (n : Int)) hUe)) (by kernel_rfl)) <| pkq (uN U) <| ps_end <| sy_a ⟨#[uN hi, uN lo, uN Y, ud, ud, ud, .int .u64 0, .int .u64 0, uN s, uN y1, uN y0, uN U, ud, ud, ud, ud, ud, ud, ud, uN y, .bool false, ud, uN y, uN hi, .bool false, ud, uN hi, .bool false, ud, ud, ud, ud, ud, ud, uN y, iN s, uN s, uN y, uN s, uN Y, uN Y, uN y1, uN Y, uN y0, uN hi, uN s, uN ((hi <<< s) % Kec.W), uN lo, uN s, uN (64 - s), uN (lo >>> (64 - s)), uN U, ud, ud, ud, ud, ud, ud, ud, ud, ud, ud, ud, ud, ud, ud, ud, ud, ud, ud, ud, ud, ud, ud, ud, ud, ud, ud, ud, ud, ud, ud, ud, ud, ud, ud, ud, ud, ud, ud, ud, ud, ud, ud, ud, ud, ud, ud, ud, ud, ud, ud, ud, ud, ud, ud, ud, ud, ud, ud, ud, ud, ud, ud, ud, ud, ud, ud, ud, ud, ud, ud, ud, ud, ud, ud, ud, ud, ud, ud, ud, ud, ud, ud, ud], []⟩ <| tqr_ [0, 1, 2, 3] ?_
  refine pkq (uN lo) <| pkq (uN s) <| ppq (uN L) (exec_cast (congrArg (fun n : Nat => Value.int .u64 (n : Int)) hLe) (exec_binop .shl 40 169 (.tmp 52) (.tmp 53) (by kernel_rfl) (uN lo) (uN s) _ (by kernel_rfl) (by kernel_rfl) (by kernel_rfl) (run_shlU _ _ lo s (by omega)))) <| pkq (uN L) <| eqr_ [0, 1, 2] <| pkq (uN L) <| ppq (uN u1) (exec_cast (congrArg (fun n : Nat => Value.int .u64 (n : Int)) (show L >>> 32 = u1 by rw [Nat.shiftRight_eq_div_pow]; exact hu1e)) (exec_binop .shr 40 169 (.tmp 55) (.const (.int .u64 32)) (by kernel_rfl) (uN L) (uN 32) _ (by kernel_rfl) (by kernel_rfl) (by kernel_rfl) (run_shrU _ _ L 32 (by omega)))) <| pkq (uN u1) <| eqr_ [0, 1, 2] <| pkq (uN L) <| ppq (uN u0) (exec_cast ((andU L 4294967295 (show L < Kec.W from hL) (by decide)).trans (congrArg (fun n : Nat => Value.int .u64 (n : Int)) (show L &&& 4294967295 = u0 from (Nat.and_two_pow_sub_one_eq_mod L 32).trans hu0e))) (by kernel_rfl)) <| pkq (uN u0) <| eqr_ [0, 1, 2, 3] <| pkq (uN U) ?_
  refine pkq (uN y1) <| ppq (uN (U / y1)) (exec_quoU 40 40 (.tmp 59) (.tmp 60) (by kernel_rfl) U y1 (by kernel_rfl) (by kernel_rfl) hy1p (by omega)) <| pkq (uN (U / y1)) <| eqr_ [0, 1, 2, 3, 4, 5] <| pkq (uN U) <| pkq (uN (U / y1)) <| pkq (uN y1) <| ppq (uN (U / y1 * y1)) (exec_cast (congrArg (Value.int .u64) (wrapU (U / y1 * y1) (by have := Nat.div_mul_le_self U y1; omega))) (by kernel_rfl)) <| ppq (uN (U - U / y1 * y1)) (exec_cast (congrArg (Value.int .u64) (wrap_sub U (U / y1 * y1) (Nat.div_mul_le_self U y1) (by omega))) (by kernel_rfl)) <| pkq (uN (U - U / y1 * y1)) <| eq_ <| bl_ 0 ?_
  refine sy_loop (qc32_2 262136) (fun a V => ∃ (qA : Nat) (rA : Nat) (u67 u68 u69 u70 u71 u72 u73 u74 u75 u76 u77 u78 u79 u80 u81 u82 u83 u84 u85 : Value), (a = ⟨#[uN hi, uN lo, uN Y, ud, ud, ud, .int .u64 0, .int .u64 0, uN s, uN y1, uN y0, uN U, uN L, uN u1, uN u0, uN qA, uN rA, ud, ud, uN y, .bool false, ud, uN y, uN hi, .bool false, ud, uN hi, .bool false, ud, ud, ud, ud, ud, ud, uN y, iN s, uN s, uN y, uN s, uN Y, uN Y, uN y1, uN Y, uN y0, uN hi, uN s, uN ((hi <<< s) % Kec.W), uN lo, uN s, uN (64 - s), uN (lo >>> (64 - s)), uN U, uN lo, uN s, uN L, uN L, uN u1, uN L, uN u0, uN U, uN y1, uN (U / y1), uN U, uN (U / y1), uN y1, uN (U / y1 * y1), uN (U - U / y1 * y1), u67, u68, u69, u70, u71, u72, u73, u74, u75, u76, u77, u78, u79, u80, u81, u82, u83, u84, u85, ud, ud, ud, ud, ud, ud, ud, ud, ud, ud, ud, ud, ud, ud, ud, ud, ud, ud, ud, ud, ud, ud, ud, ud, ud, ud, ud, ud, ud, ud, ud, ud, ud, ud, ud, ud, ud, ud, ud, ud, ud, ud, ud, ud, ud, ud, ud, ud, ud], []⟩) ∧ (Dig U Y y1 u1 qA rA) ∧ (qA < 18446744073709551616) ∧ (rA < 4294967296) ∧ (Keeps Nob w V)) (fun a _ => (intOf (a.tmps.getD 15 undef)).toNat) (by kernel_rfl) ?_ ?_
  · exact ⟨U / y1, U - U / y1 * y1, undef, undef, undef, undef, undef, undef, undef, undef, undef, undef, undef, undef, undef, undef, undef, undef, undef, undef, undef, by kernel_rfl, dig_init hYs hy0 hy1p hu1 hUY, by have := Nat.div_le_self U y1; omega, rem_small hy1p hy1l, K0⟩
  · rintro a V1 ⟨qA, rA, u67, u68, u69, u70, u71, u72, u73, u74, u75, u76, u77, u78, u79, u80, u81, u82, u83, u84, u85, rfl, hd, hql, hr, K2⟩
    rcases dig_cases qA rA y0 y1 u1 with ⟨hq, hr2⟩ | ⟨hq, hr2⟩ | ⟨hq, hc, hr2⟩ | ⟨hq, hc, hr2⟩ | ⟨hq, hc⟩
    · obtain ⟨qp, hdn⟩ := dig_step hYs hy0 hy1p hu1 hUY hd (.inl hq)
      refine q_ <| qr_ [0, 1, 2, 3, 4, 5, 6, 7, 8, 9, 10, 11] <| pkq (uN qA) <| ppq (.bool true) (dct ((((qA : Nat) : Int)) ≥ ((4294967296) : Int)) (by omega)) <| pkq (.bool true) <| pnq <| pnq <| pnq <| pnq <| pnq <| pnq <| pnq <| pnq <| pkq (.bool true) ?_
      refine ey_ <| s_ <| then_n <| bl_ 1 <| qr_ [0, 1, 2] <| pkq (uN qA) <| ppq (uN (qA - 1)) (exec_cast (congrArg (Value.int .u64) (wrap_sub qA 1 qp (by omega))) (by kernel_rfl)) <| pkq (uN (qA - 1)) <| eqr_ [0, 1, 2, 3] <| pkq (uN rA) <| pkq (uN y1) <| ppq (uN (rA + y1)) (exec_cast (congrArg (Value.int .u64) (wrapU (rA + y1) (by omega))) (by kernel_rfl)) <| pkq (uN (rA + y1)) <| eqr_ [0, 1] ?_
      refine pkq (uN (rA + y1)) <| ppq (.bool false) (dcf ((((rA + y1 : Nat) : Int)) ≥ ((4294967296) : Int)) (by omega)) <| en_ <| s_ <| blk_n <| then_n ?_
      refine ⟨⟨qA - 1, rA + y1, (uN qA), (.bool true), (.bool true), undef, undef, undef, undef, undef, undef, undef, undef, (.bool true), (uN qA), (uN (qA - 1)), (uN rA), (uN y1), (uN (rA + y1)), (uN (rA + y1)), (.bool false), by kernel_rfl, hdn, by omega, by omega, K2⟩, ?_⟩
      exact lt_meas (x := qA - 1) (y := qA) (by kernel_rfl) (by kernel_rfl) (by omega)
    · obtain ⟨qp, hdn⟩ := dig_step hYs hy0 hy1p hu1 hUY hd (.inl hq)
      have hxA : qA - 1 = (U * 4294967296 + u1) / Y := dig_done hYs hy0 hy1p hu1 hUY hdn (.inr hr2)
      refine q_ <| qr_ [0, 1, 2, 3, 4, 5, 6, 7, 8, 9, 10, 11] <| pkq (uN qA) <| ppq (.bool true) (dct ((((qA : Nat) : Int)) ≥ ((4294967296) : Int)) (by omega)) <| pkq (.bool true) <| pnq <| pnq <| pnq <| pnq <| pnq <| pnq <| pnq <| pnq <| pkq (.bool true) ?_
      refine ey_ <| s_ <| then_n <| bl_ 1 <| qr_ [0, 1, 2] <| pkq (uN qA) <| ppq (uN (qA - 1)) (exec_cast (congrArg (Value.int .u64) (wrap_sub qA 1 qp (by omega))) (by kernel_rfl)) <| pkq (uN (qA - 1)) <| eqr_ [0, 1, 2, 3] <| pkq (uN rA) <| pkq (uN y1) <| ppq (uN (rA + y1)) (exec_cast (congrArg (Value.int .u64) (wrapU (rA + y1) (by omega))) (by kernel_rfl)) <| pkq (uN (rA + y1)) <| eqr_ [0, 1] ?_
      refine pkq (uN (rA + y1)) <| ppq (.bool true) (dct ((((rA + y1 : Nat) : Int)) ≥ ((4294967296) : Int)) (by omega)) <| ey_ <| sy_exit 0 (by kernel_rfl) <| blk_p (by decide) <| then_e <| blk_e <| tqr_ [0, 1, 2, 3, 4, 5, 6, 7, 8] <| pkq (uN U) <| pkq (.int .u64 (IntKind.u64.wrap (((U : Nat) : Int) * 4294967296))) <| pkq (uN u1) <| pkq (.int .u64 (IntKind.u64.wrap (IntKind.u64.wrap (((U : Nat) : Int) * 4294967296) + ((u1 : Nat) : Int)))) <| pkq (uN (qA - 1)) <| pkq (uN Y) ?_
      refine pkq (.int .u64 (IntKind.u64.wrap (((qA - 1 : Nat) : Int) * ((Y : Nat) : Int)))) <| ppq (uN Vr) (exec_cast (congrArg (Value.int .u64) (((dig_rest hYs hy0 hy1p hu1 hUY hxA).resolve_right (by omega)).trans (congrArg (fun n : Nat => (n : Int)) hVr))) (by kernel_rfl)) <| pkq (uN Vr) <| ps_end <| sy_a ⟨#[uN hi, uN lo, uN Y, ud, ud, ud, .int .u64 0, .int .u64 0, uN s, uN y1, uN y0, uN U, uN L, uN u1, uN u0, uN (qA - 1), uN (rA + y1), uN Vr, ud, uN y, .bool false, ud, uN y, uN hi, .bool false, ud, uN hi, .bool false, ud, ud, ud, ud, ud, ud, uN y, iN s, uN s, uN y, uN s, uN Y, uN Y, uN y1, uN Y, uN y0, uN hi, uN s, uN ((hi <<< s) % Kec.W), uN lo, uN s, uN (64 - s), uN (lo >>> (64 - s)), uN U, uN lo, uN s, uN L, uN L, uN u1, uN L, uN u0, uN U, uN y1, uN (U / y1), uN U, uN (U / y1), uN y1, uN (U / y1 * y1), uN (U - U / y1 * y1), uN qA, .bool true, .bool true, ud, ud, ud, ud, ud, ud, ud, ud, .bool true, uN qA, uN (qA - 1), uN rA, uN y1, uN (rA + y1), uN (rA + y1), .bool true, uN U, .int .u64 (IntKind.u64.wrap (((U : Nat) : Int) * 4294967296)), uN u1, .int .u64 (IntKind.u64.wrap (IntKind.u64.wrap (((U : Nat) : Int) * 4294967296) + ((u1 : Nat) : Int))), uN (qA - 1), uN Y, .int .u64 (IntKind.u64.wrap (((qA - 1 : Nat) : Int) * ((Y : Nat) : Int))), uN Vr, ud, ud, ud, ud, ud, ud, ud, ud, ud, ud, ud, ud, ud, ud, ud, ud, ud, ud, ud, ud, ud, ud, ud, ud, ud, ud, ud, ud, ud, ud, ud, ud, ud, ud, ud, ud, ud, ud, ud, ud, ud], []⟩ <| tqr_ [0, 1, 2, 3] <| pkq (uN Vr) <| pkq (uN y1) <| ppq (uN (Vr / y1)) (exec_quoU 40 40 (.tmp 94) (.tmp 95) (by kernel_rfl) Vr y1 (by kernel_rfl) (by kernel_rfl) hy1p (by omega)) <| pkq (uN (Vr / y1)) <| eqr_ [0, 1, 2, 3, 4, 5] <| pkq (uN Vr) <| pkq (uN (Vr / y1)) <| pkq (uN y1) ?_
      refine ppq (uN (Vr / y1 * y1)) (exec_cast (congrArg (Value.int .u64) (wrapU (Vr / y1 * y1) (by have := Nat.div_mul_le_self Vr y1; omega))) (by kernel_rfl)) <| ppq (uN (Vr - Vr / y1 * y1)) (exec_cast (congrArg (Value.int .u64) (wrap_sub Vr (Vr / y1 * y1) (Nat.div_mul_le_self Vr y1) (by omega))) (by kernel_rfl)) <| pkq (uN (Vr - Vr / y1 * y1)) <| eq_ <| bl_ 2 ?_
      refine sy_loop (qc32_2 4194296) (fun a V => ∃ (qB : Nat) (rB : Nat) (u102 u103 u104 u105 u106 u107 u108 u109 u110 u111 u112 u113 u114 u115 u116 u117 u118 u119 u120 : Value), (a = ⟨#[uN hi, uN lo, uN Y, ud, ud, ud, .int .u64 0, .int .u64 0, uN s, uN y1, uN y0, uN U, uN L, uN u1, uN u0, uN (qA - 1), uN rB, uN Vr, uN qB, uN y, .bool false, ud, uN y, uN hi, .bool false, ud, uN hi, .bool false, ud, ud, ud, ud, ud, ud, uN y, iN s, uN s, uN y, uN s, uN Y, uN Y, uN y1, uN Y, uN y0, uN hi, uN s, uN ((hi <<< s) % Kec.W), uN lo, uN s, uN (64 - s), uN (lo >>> (64 - s)), uN U, uN lo, uN s, uN L, uN L, uN u1, uN L, uN u0, uN U, uN y1, uN (U / y1), uN U, uN (U / y1), uN y1, uN (U / y1 * y1), uN (U - U / y1 * y1), uN qA, .bool true, .bool true, ud, ud, ud, ud, ud, ud, ud, ud, .bool true, uN qA, uN (qA - 1), uN rA, uN y1, uN (rA + y1), uN (rA + y1), .bool true, uN U, .int .u64 (IntKind.u64.wrap (((U : Nat) : Int) * 4294967296)), uN u1, .int .u64 (IntKind.u64.wrap (IntKind.u64.wrap (((U : Nat) : Int) * 4294967296) + ((u1 : Nat) : Int))), uN (qA - 1), uN Y, .int .u64 (IntKind.u64.wrap (((qA - 1 : Nat) : Int) * ((Y : Nat) : Int))), uN Vr, uN Vr, uN y1, uN (Vr / y1), uN Vr, uN (Vr / y1), uN y1, uN (Vr / y1 * y1), uN (Vr - Vr / y1 * y1), u102, u103, u104, u105, u106, u107, u108, u109, u110, u111, u112, u113, u114, u115, u116, u117, u118, u119, u120, ud, ud, ud, ud, ud, ud, ud, ud, ud, ud, ud, ud, ud, ud], []⟩) ∧ (Dig Vr Y y1 u0 qB rB) ∧ (qB < 18446744073709551616) ∧ (rB < 4294967296) ∧ (Keeps Nob w V)) (fun a _ => (intOf (a.tmps.getD 18 undef)).toNat) (by kernel_rfl) ?_ ?_
      · exact ⟨Vr / y1, Vr - Vr / y1 * y1, undef, undef, undef, undef, undef, undef, undef, undef, undef, undef, undef, undef, undef, undef, undef, undef, undef, undef, undef, by kernel_rfl, dig_init hYs hy0 hy1p hu0 hVY, by have := Nat.div_le_self Vr y1; omega, rem_small hy1p hy1l, K2⟩
      · rintro a V3 ⟨qB, rB, u102, u103, u104, u105, u106, u107, u108, u109, u110, u111, u112, u113, u114, u115, u116, u117, u118, u119, u120, rfl, hd, hql, hr, K4⟩
        rcases dig_cases qB rB y0 y1 u0 with ⟨hq, hr2⟩ | ⟨hq, hr2⟩ | ⟨hq, hc, hr2⟩ | ⟨hq, hc, hr2⟩ | ⟨hq, hc⟩
        · obtain ⟨qp, hdn⟩ := dig_step hYs hy0 hy1p hu0 hVY hd (.inl hq)
          refine q_ <| qr_ [0, 1, 2, 3, 4, 5, 6, 7, 8, 9, 10, 11] <| pkq (uN qB) <| ppq (.bool true) (dct ((((qB : Nat) : Int)) ≥ ((4294967296) : Int)) (by omega)) <| pkq (.bool true) <| pnq <| pnq <| pnq <| pnq <| pnq <| pnq <| pnq <| pnq <| pkq (.bool true) ?_
          refine ey_ <| s_ <| then_n <| bl_ 3 <| qr_ [0, 1, 2] <| pkq (uN qB) <| ppq (uN (qB - 1)) (exec_cast (congrArg (Value.int .u64) (wrap_sub qB 1 qp (by omega))) (by kernel_rfl)) <| pkq (uN (qB - 1)) <| eqr_ [0, 1, 2, 3] <| pkq (uN rB) <| pkq (uN y1) <| ppq (uN (rB + y1)) (exec_cast (congrArg (Value.int .u64) (wrapU (rB + y1) (by omega))) (by kernel_rfl)) <| pkq (uN (rB + y1)) <| eqr_ [0, 1] ?_
          refine pkq (uN (rB + y1)) <| ppq (.bool false) (dcf ((((rB + y1 : Nat) : Int)) ≥ ((4294967296) : Int)) (by omega)) <| en_ <| s_ <| blk_n <| then_n ?_
          refine ⟨⟨qB - 1, rB + y1, (uN qB), (.bool true), (.bool true), undef, undef, undef, undef, undef, undef, undef, undef, (.bool true), (uN qB), (uN (qB - 1)), (uN rB), (uN y1), (uN (rB + y1)), (uN (rB + y1)), (.bool false), by kernel_rfl, hdn, by omega, by omega, K4⟩, ?_⟩
          exact lt_meas (x := qB - 1) (y := qB) (by kernel_rfl) (by kernel_rfl) (by omega)
        · obtain ⟨qp, hdn⟩ := dig_step hYs hy0 hy1p hu0 hVY hd (.inl hq)
          have hxB : qB - 1 = (Vr * 4294967296 + u0) / Y := dig_done hYs hy0 hy1p hu0 hVY hdn (.inr hr2)
          refine q_ <| qr_ [0, 1, 2, 3, 4, 5, 6, 7, 8, 9, 10, 11] <| pkq (uN qB) <| ppq (.bool true) (dct ((((qB : Nat) : Int)) ≥ ((4294967296) : Int)) (by omega)) <| pkq (.bool true) <| pnq <| pnq <| pnq <| pnq <| pnq <| pnq <| pnq <| pnq <| pkq (.bool true) ?_
          refine ey_ <| s_ <| then_n <| bl_ 3 <| qr_ [0, 1, 2] <| pkq (uN qB) <| ppq (uN (qB - 1)) (exec_cast (congrArg (Value.int .u64) (wrap_sub qB 1 qp (by omega))) (by kernel_rfl)) <| pkq (uN (qB - 1)) <| eqr_ [0, 1, 2, 3] <| pkq (uN rB) <| pkq (uN y1) <| ppq (uN (rB + y1)) (exec_cast (congrArg (Value.int .u64) (wrapU (rB + y1) (by omega))) (by kernel_rfl)) <| pkq (uN (rB + y1)) <| eqr_ [0, 1] ?_
          refine pkq (uN (rB + y1)) <| ppq (.bool true) (dct ((((rB + y1 : Nat) : Int)) ≥ ((4294967296) : Int)) (by omega)) <| ey_ <| sy_exit 2 (by kernel_rfl) <| blk_p (by decide) <| then_e <| blk_e <| tqr_ [0, 1, 2, 3, 4, 5, 6, 7, 8, 9, 10, 11, 12, 13, 14, 15] <| pkq (uN (qA - 1)) <| ppq (uN ((qA - 1) * 4294967296)) (exec_cast (congrArg (Value.int .u64) (wrapU ((qA - 1) * 4294967296) (by have := dig_lt hYs hy0 hy1p hu1 hUY; rw [← hxA] at this; omega))) (by kernel_rfl)) <| pkq (uN (qB - 1)) <| ppq (uN ((hi * 18446744073709551616 + lo) / y)) (exec_cast (congrArg (Value.int .u64) ((wrapU ((qA - 1) * 4294967296 + (qB - 1)) (by have g1 := dig_lt hYs hy0 hy1p hu1 hUY; have g2 := dig_lt hYs hy0 hy1p hu0 hVY; rw [← hxA] at g1; rw [← hxB] at g2; omega)).trans (congrArg (fun n : Nat => (n : Int)) (div_end hy1 hYe hsum hLs hxA hVr hxB)))) (by kernel_rfl)) <| pkq (uN Vr) <| pkq (.int .u64 (IntKind.u64.wrap (((Vr : Nat) : Int) * 4294967296))) ?_
          refine pkq (uN u0) <| pkq (.int .u64 (IntKind.u64.wrap (IntKind.u64.wrap (((Vr : Nat) : Int) * 4294967296) + ((u0 : Nat) : Int)))) <| pkq (uN (qB - 1)) <| pkq (uN Y) <| pkq (.int .u64 (IntKind.u64.wrap (((qB - 1 : Nat) : Int) * ((Y : Nat) : Int)))) <| ppq (uN ((Vr * 4294967296 + u0) % Y)) (exec_cast (congrArg (Value.int .u64) ((dig_rest hYs hy0 hy1p hu0 hVY hxB).resolve_right (by omega))) (by kernel_rfl)) <| pkq (uN s) <| ppq (uN (((Vr * 4294967296 + u0) % Y) >>> s)) (exec_binop .shr 40 169 (.tmp 132) (.tmp 133) (by kernel_rfl) (uN (((Vr * 4294967296 + u0) % Y))) (uN s) _ (by kernel_rfl) (by kernel_rfl) (by kernel_rfl) (run_shrU _ _ ((Vr * 4294967296 + u0) % Y) s (by omega))) <| pkq (uN ((hi * 18446744073709551616 + lo) / y)) <| pkq (uN (((Vr * 4294967296 + u0) % Y) >>> s)) <| ps_end <| sy_a ⟨#[uN hi, uN lo, uN Y, ud, ud, ud, uN ((hi * 18446744073709551616 + lo) / y), uN (((Vr * 4294967296 + u0) % Y) >>> s), uN s, uN y1, uN y0, uN U, uN L, uN u1, uN u0, uN (qA - 1), uN (rB + y1), uN Vr, uN (qB - 1), uN y, .bool false, ud, uN y, uN hi, .bool false, ud, uN hi, .bool false, ud, ud, ud, ud, ud, ud, uN y, iN s, uN s, uN y, uN s, uN Y, uN Y, uN y1, uN Y, uN y0, uN hi, uN s, uN ((hi <<< s) % Kec.W), uN lo, uN s, uN (64 - s), uN (lo >>> (64 - s)), uN U, uN lo, uN s, uN L, uN L, uN u1, uN L, uN u0, uN U, uN y1, uN (U / y1), uN U, uN (U / y1), uN y1, uN (U / y1 * y1), uN (U - U / y1 * y1), uN qA, .bool true, .bool true, ud, ud, ud, ud, ud, ud, ud, ud, .bool true, uN qA, uN (qA - 1), uN rA, uN y1, uN (rA + y1), uN (rA + y1), .bool true, uN U, .int .u64 (IntKind.u64.wrap (((U : Nat) : Int) * 4294967296)), uN u1, .int .u64 (IntKind.u64.wrap (IntKind.u64.wrap (((U : Nat) : Int) * 4294967296) + ((u1 : Nat) : Int))), uN (qA - 1), uN Y, .int .u64 (IntKind.u64.wrap (((qA - 1 : Nat) : Int) * ((Y : Nat) : Int))), uN Vr, uN Vr, uN y1, uN (Vr / y1), uN Vr, uN (Vr / y1), uN y1, uN (Vr / y1 * y1), uN (Vr - Vr / y1 * y1), uN qB, .bool true, .bool true, ud, ud, ud, ud, ud, ud, ud, ud, .bool true, uN qB, uN (qB - 1), uN rB, uN y1, uN (rB + y1), uN (rB + y1), .bool true, uN (qA - 1), uN ((qA - 1) * 4294967296), uN (qB - 1), uN ((hi * 18446744073709551616 + lo) / y), uN Vr, .int .u64 (IntKind.u64.wrap (((Vr : Nat) : Int) * 4294967296)), uN u0, .int .u64 (IntKind.u64.wrap (IntKind.u64.wrap (((Vr : Nat) : Int) * 4294967296) + ((u0 : Nat) : Int))), uN (qB - 1), uN Y, .int .u64 (IntKind.u64.wrap (((qB - 1 : Nat) : Int) * ((Y : Nat) : Int))), uN ((Vr * 4294967296 + u0) % Y), uN s, uN (((Vr * 4294967296 + u0) % Y) >>> s)], []⟩ <| then_n <| u_ ?_
          refine so_ (.tuple #[.int .u64 (((hi * 18446744073709551616 + lo) / y : Nat) : Int), .int .u64 ((((Vr * 4294967296 + u0) % Y) >>> s : Nat) : Int)]) ?_
          exact ⟨_, rfl, K4⟩
        · obtain ⟨qp, hdn⟩ := dig_step hYs hy0 hy1p hu0 hVY hd (.inr hc)
          refine q_ <| qr_ [0, 1, 2, 3, 4, 5, 6, 7, 8, 9, 10, 11] <| pkq (uN qB) <| ppq (.bool false) (dcf ((((qB : Nat) : Int)) ≥ ((4294967296) : Int)) (by omega)) <| pkq (.bool false) <| pkq (uN qB) <| pkq (uN y0) <| ppq (uN (qB * y0)) (exec_cast (congrArg (Value.int .u64) (wrapU (qB * y0) (mul_small hq hy0))) (by kernel_rfl)) <| pkq (uN rB) <| ppq (uN (4294967296 * rB)) (exec_cast (congrArg (Value.int .u64) (wrapU (4294967296 * rB) (by omega))) (by kernel_rfl)) <| pkq (uN u0) <| ppq (uN (4294967296 * rB + u0)) (exec_cast (congrArg (Value.int .u64) (wrapU (4294967296 * rB + u0) (by omega))) (by kernel_rfl)) <| ppq (.bool true) (dct ((((qB * y0 : Nat) : Int)) > (((4294967296 * rB + u0 : Nat) : Int))) (by omega)) <| pkq (.bool true) ?_
          refine ey_ <| s_ <| then_n <| bl_ 3 <| qr_ [0, 1, 2] <| pkq (uN qB) <| ppq (uN (qB - 1)) (exec_cast (congrArg (Value.int .u64) (wrap_sub qB 1 qp (by omega))) (by kernel_rfl)) <| pkq (uN (qB - 1)) <| eqr_ [0, 1, 2, 3] <| pkq (uN rB) <| pkq (uN y1) <| ppq (uN (rB + y1)) (exec_cast (congrArg (Value.int .u64) (wrapU (rB + y1) (by omega))) (by kernel_rfl)) <| pkq (uN (rB + y1)) <| eqr_ [0, 1] ?_
          refine pkq (uN (rB + y1)) <| ppq (.bool false) (dcf ((((rB + y1 : Nat) : Int)) ≥ ((4294967296) : Int)) (by omega)) <| en_ <| s_ <| blk_n <| then_n ?_
          refine ⟨⟨qB - 1, rB + y1, (uN qB), (.bool false), (.bool false), (uN qB), (uN y0), (uN (qB * y0)), (uN rB), (uN (4294967296 * rB)), (uN u0), (uN (4294967296 * rB + u0)), (.bool true), (.bool true), (uN qB), (uN (qB - 1)), (uN rB), (uN y1), (uN (rB + y1)), (uN (rB + y1)), (.bool false), by kernel_rfl, hdn, by omega, by omega, K4⟩, ?_⟩
          exact lt_meas (x := qB - 1) (y := qB) (by kernel_rfl) (by kernel_rfl) (by omega)
        · obtain ⟨qp, hdn⟩ := dig_step hYs hy0 hy1p hu0 hVY hd (.inr hc)
          have hxB : qB - 1 = (Vr * 4294967296 + u0) / Y := dig_done hYs hy0 hy1p hu0 hVY hdn (.inr hr2)
          refine q_ <| qr_ [0, 1, 2, 3, 4, 5, 6, 7, 8, 9, 10, 11] <| pkq (uN qB) <| ppq (.bool false) (dcf ((((qB : Nat) : Int)) ≥ ((4294967296) : Int)) (by omega)) <| pkq (.bool false) <| pkq (uN qB) <| pkq (uN y0) <| ppq (uN (qB * y0)) (exec_cast (congrArg (Value.int .u64) (wrapU (qB * y0) (mul_small hq hy0))) (by kernel_rfl)) <| pkq (uN rB) <| ppq (uN (4294967296 * rB)) (exec_cast (congrArg (Value.int .u64) (wrapU (4294967296 * rB) (by omega))) (by kernel_rfl)) <| pkq (uN u0) <| ppq (uN (4294967296 * rB + u0)) (exec_cast (congrArg (Value.int .u64) (wrapU (4294967296 * rB + u0) (by omega))) (by kernel_rfl)) <| ppq (.bool true) (dct ((((qB * y0 : Nat) : Int)) > (((4294967296 * rB + u0 : Nat) : Int))) (by omega)) <| pkq (.bool true) ?_
          refine ey_ <| s_ <| then_n <| bl_ 3 <| qr_ [0, 1, 2] <| pkq (uN qB) <| ppq (uN (qB - 1)) (exec_cast (congrArg (Value.int .u64) (wrap_sub qB 1 qp (by omega))) (by kernel_rfl)) <| pkq (uN (qB - 1)) <| eqr_ [0, 1, 2, 3] <| pkq (uN rB) <| pkq (uN y1) <| ppq (uN (rB + y1)) (exec_cast (congrArg (Value.int .u64) (wrapU (rB + y1) (by omega))) (by kernel_rfl)) <| pkq (uN (rB + y1)) <| eqr_ [0, 1] ?_
          refine pkq (uN (rB + y1)) <| ppq (.bool true) (dct ((((rB + y1 : Nat) : Int)) ≥ ((4294967296) : Int)) (by omega)) <| ey_ <| sy_exit 2 (by kernel_rfl) <| blk_p (by decide) <| then_e <| blk_e <| tqr_ [0, 1, 2, 3, 4, 5, 6, 7, 8, 9, 10, 11, 12, 13, 14, 15] <| pkq (uN (qA - 1)) <| ppq (uN ((qA - 1) * 4294967296)) (exec_cast (congrArg (Value.int .u64) (wrapU ((qA - 1) * 4294967296) (by have := dig_lt hYs hy0 hy1p hu1 hUY; rw [← hxA] at this; omega))) (by kernel_rfl)) <| pkq (uN (qB - 1)) <| ppq (uN ((hi * 18446744073709551616 + lo) / y)) (exec_cast (congrArg (Value.int .u64) ((wrapU ((qA - 1) * 4294967296 + (qB - 1)) (by have g1 := dig_lt hYs hy0 hy1p hu1 hUY; have g2 := dig_lt hYs hy0 hy1p hu0 hVY; rw [← hxA] at g1; rw [← hxB] at g2; omega)).trans (congrArg (fun n : Nat => (n : Int)) (div_end hy1 hYe hsum hLs hxA hVr hxB)))) (by kernel_rfl)) <| pkq (uN Vr) <| pkq (.int .u64 (IntKind.u64.wrap (((Vr : Nat) : Int) * 4294967296))) ?_
          refine pkq (uN u0) <| pkq (.int .u64 (IntKind.u64.wrap (IntKind.u64.wrap (((Vr : Nat) : Int) * 4294967296) + ((u0 : Nat) : Int)))) <| pkq (uN (qB - 1)) <| pkq (uN Y) <| pkq (.int .u64 (IntKind.u64.wrap (((qB - 1 : Nat) : Int) * ((Y : Nat) : Int)))) <| ppq (uN ((Vr * 4294967296 + u0) % Y)) (exec_cast (congrArg (Value.int .u64) ((dig_rest hYs hy0 hy1p hu0 hVY hxB).resolve_right (by omega))) (by kernel_rfl)) <| pkq (uN s) <| ppq (uN (((Vr * 4294967296 + u0) % Y) >>> s)) (exec_binop .shr 40 169 (.tmp 132) (.tmp 133) (by kernel_rfl) (uN (((Vr * 4294967296 + u0) % Y))) (uN s) _ (by kernel_rfl) (by kernel_rfl) (by kernel_rfl) (run_shrU _ _ ((Vr * 4294967296 + u0) % Y) s (by omega))) <| pkq (uN ((hi * 18446744073709551616 + lo) / y)) <| pkq (uN (((Vr * 4294967296 + u0) % Y) >>> s)) <| ps_end <| sy_a ⟨#[uN hi, uN lo, uN Y, ud, ud, ud, uN ((hi * 18446744073709551616 + lo) / y), uN (((Vr * 4294967296 + u0) % Y) >>> s), uN s, uN y1, uN y0, uN U, uN L, uN u1, uN u0, uN (qA - 1), uN (rB + y1), uN Vr, uN (qB - 1), uN y, .bool false, ud, uN y, uN hi, .bool false, ud, uN hi, .bool false, ud, ud, ud, ud, ud, ud, uN y, iN s, uN s, uN y, uN s, uN Y, uN Y, uN y1, uN Y, uN y0, uN hi, uN s, uN ((hi <<< s) % Kec.W), uN lo, uN s, uN (64 - s), uN (lo >>> (64 - s)), uN U, uN lo, uN s, uN L, uN L, uN u1, uN L, uN u0, uN U, uN y1, uN (U / y1), uN U, uN (U / y1), uN y1, uN (U / y1 * y1), uN (U - U / y1 * y1), uN qA, .bool true, .bool true, ud, ud, ud, ud, ud, ud, ud, ud, .bool true, uN qA, uN (qA - 1), uN rA, uN y1, uN (rA + y1), uN (rA + y1), .bool true, uN U, .int .u64 (IntKind.u64.wrap (((U : Nat) : Int) * 4294967296)), uN u1, .int .u64 (IntKind.u64.wrap (IntKind.u64.wrap (((U : Nat) : Int) * 4294967296) + ((u1 : Nat) : Int))), uN (qA - 1), uN Y, .int .u64 (IntKind.u64.wrap (((qA - 1 : Nat) : Int) * ((Y : Nat) : Int))), uN Vr, uN Vr, uN y1, uN (Vr / y1), uN Vr, uN (Vr / y1), uN y1, uN (Vr / y1 * y1), uN (Vr - Vr / y1 * y1), uN qB, .bool false, .bool false, uN qB, uN y0, uN (qB * y0), uN rB, uN (4294967296 * rB), uN u0, uN (4294967296 * rB + u0), .bool true, .bool true, uN qB, uN (qB - 1), uN rB, uN y1, uN (rB + y1), uN (rB + y1), .bool true, uN (qA - 1), uN ((qA - 1) * 4294967296), uN (qB - 1), uN ((hi * 18446744073709551616 + lo) / y), uN Vr, .int .u64 (IntKind.u64.wrap (((Vr : Nat) : Int) * 4294967296)), uN u0, .int .u64 (IntKind.u64.wrap (IntKind.u64.wrap (((Vr : Nat) : Int) * 4294967296) + ((u0 : Nat) : Int))), uN (qB - 1), uN Y, .int .u64 (IntKind.u64.wrap (((qB - 1 : Nat) : Int) * ((Y : Nat) : Int))), uN ((Vr * 4294967296 + u0) % Y), uN s, uN (((Vr * 4294967296 + u0) % Y) >>> s)], []⟩ <| then_n <| u_ ?_
          refine so_ (.tuple #[.int .u64 (((hi * 18446744073709551616 + lo) / y : Nat) : Int), .int .u64 ((((Vr * 4294967296 + u0) % Y) >>> s : Nat) : Int)]) ?_
          exact ⟨_, rfl, K4⟩
        · have hxB : qB = (Vr * 4294967296 + u0) / Y := dig_done hYs hy0 hy1p hu0 hVY hd (.inl ⟨hq, hc⟩)
          refine q_ <| qr_ [0, 1, 2, 3, 4, 5, 6, 7, 8, 9, 10, 11] <| pkq (uN qB) <| ppq (.bool false) (dcf ((((qB : Nat) : Int)) ≥ ((4294967296) : Int)) (by omega)) <| pkq (.bool false) <| pkq (uN qB) <| pkq (uN y0) <| ppq (uN (qB * y0)) (exec_cast (congrArg (Value.int .u64) (wrapU (qB * y0) (mul_small hq hy0))) (by kernel_rfl)) <| pkq (uN rB) <| ppq (uN (4294967296 * rB)) (exec_cast (congrArg (Value.int .u64) (wrapU (4294967296 * rB) (by omega))) (by kernel_rfl)) <| pkq (uN u0) <| ppq (uN (4294967296 * rB + u0)) (exec_cast (congrArg (Value.int .u64) (wrapU (4294967296 * rB + u0) (by omega))) (by kernel_rfl)) <| ppq (.bool false) (dcf ((((qB * y0 : Nat) : Int)) > (((4294967296 * rB + u0 : Nat) : Int))) (by omega)) <| pkq (.bool false) ?_
          refine en_ <| sy_exit 2 (by kernel_rfl) <| then_e <| then_e <| blk_e <| tqr_ [0, 1, 2, 3, 4, 5, 6, 7, 8, 9, 10, 11, 12, 13, 14, 15] <| pkq (uN (qA - 1)) <| ppq (uN ((qA - 1) * 4294967296)) (exec_cast (congrArg (Value.int .u64) (wrapU ((qA - 1) * 4294967296) (by have := dig_lt hYs hy0 hy1p hu1 hUY; rw [← hxA] at this; omega))) (by kernel_rfl)) <| pkq (uN qB) <| ppq (uN ((hi * 18446744073709551616 + lo) / y)) (exec_cast (congrArg (Value.int .u64) ((wrapU ((qA - 1) * 4294967296 + qB) (by have g1 := dig_lt hYs hy0 hy1p hu1 hUY; have g2 := dig_lt hYs hy0 hy1p hu0 hVY; rw [← hxA] at g1; rw [← hxB] at g2; omega)).trans (congrArg (fun n : Nat => (n : Int)) (div_end hy1 hYe hsum hLs hxA hVr hxB)))) (by kernel_rfl)) <| pkq (uN Vr) <| pkq (.int .u64 (IntKind.u64.wrap (((Vr : Nat) : Int) * 4294967296))) <| pkq (uN u0) <| pkq (.int .u64 (IntKind.u64.wrap (IntKind.u64.wrap (((Vr : Nat) : Int) * 4294967296) + ((u0 : Nat) : Int)))) ?_
          refine pkq (uN qB) <| pkq (uN Y) <| pkq (.int .u64 (IntKind.u64.wrap (((qB : Nat) : Int) * ((Y : Nat) : Int)))) <| ppq (uN ((Vr * 4294967296 + u0) % Y)) (exec_cast (congrArg (Value.int .u64) ((dig_rest hYs hy0 hy1p hu0 hVY hxB).resolve_right (by omega))) (by kernel_rfl)) <| pkq (uN s) <| ppq (uN (((Vr * 4294967296 + u0) % Y) >>> s)) (exec_binop .shr 40 169 (.tmp 132) (.tmp 133) (by kernel_rfl) (uN (((Vr * 4294967296 + u0) % Y))) (uN s) _ (by kernel_rfl) (by kernel_rfl) (by kernel_rfl) (run_shrU _ _ ((Vr * 4294967296 + u0) % Y) s (by omega))) <| pkq (uN ((hi * 18446744073709551616 + lo) / y)) <| pkq (uN (((Vr * 4294967296 + u0) % Y) >>> s)) <| ps_end <| sy_a ⟨#[uN hi, uN lo, uN Y, ud, ud, ud, uN ((hi * 18446744073709551616 + lo) / y), uN (((Vr * 4294967296 + u0) % Y) >>> s), uN s, uN y1, uN y0, uN U, uN L, uN u1, uN u0, uN (qA - 1), uN rB, uN Vr, uN qB, uN y, .bool false, ud, uN y, uN hi, .bool false, ud, uN hi, .bool false, ud, ud, ud, ud, ud, ud, uN y, iN s, uN s, uN y, uN s, uN Y, uN Y, uN y1, uN Y, uN y0, uN hi, uN s, uN ((hi <<< s) % Kec.W), uN lo, uN s, uN (64 - s), uN (lo >>> (64 - s)), uN U, uN lo, uN s, uN L, uN L, uN u1, uN L, uN u0, uN U, uN y1, uN (U / y1), uN U, uN (U / y1), uN y1, uN (U / y1 * y1), uN (U - U / y1 * y1), uN qA, .bool true, .bool true, ud, ud, ud, ud, ud, ud, ud, ud, .bool true, uN qA, uN (qA - 1), uN rA, uN y1, uN (rA + y1), uN (rA + y1), .bool true, uN U, .int .u64 (IntKind.u64.wrap (((U : Nat) : Int) * 4294967296)), uN u1, .int .u64 (IntKind.u64.wrap (IntKind.u64.wrap (((U : Nat) : Int) * 4294967296) + ((u1 : Nat) : Int))), uN (qA - 1), uN Y, .int .u64 (IntKind.u64.wrap (((qA - 1 : Nat) : Int) * ((Y : Nat) : Int))), uN Vr, uN Vr, uN y1, uN (Vr / y1), uN Vr, uN (Vr / y1), uN y1, uN (Vr / y1 * y1), uN (Vr - Vr / y1 * y1), uN qB, .bool false, .bool false, uN qB, uN y0, uN (qB * y0), uN rB, uN (4294967296 * rB), uN u0, uN (4294967296 * rB + u0), .bool false, .bool false, u114, u115, u116, u117, u118, u119, u120, uN (qA - 1), uN ((qA - 1) * 4294967296), uN qB, uN ((hi * 18446744073709551616 + lo) / y), uN Vr, .int .u64 (IntKind.u64.wrap (((Vr : Nat) : Int) * 4294967296)), uN u0, .int .u64 (IntKind.u64.wrap (IntKind.u64.wrap (((Vr : Nat) : Int) * 4294967296) + ((u0 : Nat) : Int))), uN qB, uN Y, .int .u64 (IntKind.u64.wrap (((qB : Nat) : Int) * ((Y : Nat) : Int))), uN ((Vr * 4294967296 + u0) % Y), uN s, uN (((Vr * 4294967296 + u0) % Y) >>> s)], []⟩ <| then_n <| u_ <| so_ (.tuple #[.int .u64 (((hi * 18446744073709551616 + lo) / y : Nat) : Int), .int .u64 ((((Vr * 4294967296 + u0) % Y) >>> s : Nat) : Int)]) ?_
          exact ⟨_, rfl, K4⟩
    · obtain ⟨qp, hdn⟩ := dig_step hYs hy0 hy1p hu1 hUY hd (.inr hc)
      refine q_ <| qr_ [0, 1, 2, 3, 4, 5, 6, 7, 8, 9, 10, 11] <| pkq (uN qA) <| ppq (.bool false) (dcf ((((qA : Nat) : Int)) ≥ ((4294967296) : Int)) (by omega)) <| pkq (.bool false) <| pkq (uN qA) <| pkq (uN y0) <| ppq (uN (qA * y0)) (exec_cast (congrArg (Value.int .u64) (wrapU (qA * y0) (mul_small hq hy0))) (by kernel_rfl)) <| pkq (uN rA) <| ppq (uN (4294967296 * rA)) (exec_cast (congrArg (Value.int .u64) (wrapU (4294967296 * rA) (by omega))) (by kernel_rfl)) <| pkq (uN u1) <| ppq (uN (4294967296 * rA + u1)) (exec_cast (congrArg (Value.int .u64) (wrapU (4294967296 * rA + u1) (by omega))) (by kernel_rfl)) <| ppq (.bool true) (dct ((((qA * y0 : Nat) : Int)) > (((4294967296 * rA + u1 : Nat) : Int))) (by omega)) <| pkq (.bool true) ?_
      refine ey_ <| s_ <| then_n <| bl_ 1 <| qr_ [0, 1, 2] <| pkq (uN qA) <| ppq (uN (qA - 1)) (exec_cast (congrArg (Value.int .u64) (wrap_sub qA 1 qp (by omega))) (by kernel_rfl)) <| pkq (uN (qA - 1)) <| eqr_ [0, 1, 2, 3] <| pkq (uN rA) <| pkq (uN y1) <| ppq (uN (rA + y1)) (exec_cast (congrArg (Value.int .u64) (wrapU (rA + y1) (by omega))) (by kernel_rfl)) <| pkq (uN (rA + y1)) <| eqr_ [0, 1] ?_
      refine pkq (uN (rA + y1)) <| ppq (.bool false) (dcf ((((rA + y1 : Nat) : Int)) ≥ ((4294967296) : Int)) (by omega)) <| en_ <| s_ <| blk_n <| then_n ?_
      refine ⟨⟨qA - 1, rA + y1, (uN qA), (.bool false), (.bool false), (uN qA), (uN y0), (uN (qA * y0)), (uN rA), (uN (4294967296 * rA)), (uN u1), (uN (4294967296 * rA + u1)), (.bool true), (.bool true), (uN qA), (uN (qA - 1)), (uN rA), (uN y1), (uN (rA + y1)), (uN (rA + y1)), (.bool false), by kernel_rfl, hdn, by omega, by omega, K2⟩, ?_⟩
      exact lt_meas (x := qA - 1) (y := qA) (by kernel_rfl) (by kernel_rfl) (by omega)
    · obtain ⟨qp, hdn⟩ := dig_step hYs hy0 hy1p hu1 hUY hd (.inr hc)
      have hxA : qA - 1 = (U * 4294967296 + u1) / Y := dig_done hYs hy0 hy1p hu1 hUY hdn (.inr hr2)
      refine q_ <| qr_ [0, 1, 2, 3, 4, 5, 6, 7, 8, 9, 10, 11] <| pkq (uN qA) <| ppq (.bool false) (dcf ((((qA : Nat) : Int)) ≥ ((4294967296) : Int)) (by omega)) <| pkq (.bool false) <| pkq (uN qA) <| pkq (uN y0) <| ppq (uN (qA * y0)) (exec_cast (congrArg (Value.int .u64) (wrapU (qA * y0) (mul_small hq hy0))) (by kernel_rfl)) <| pkq (uN rA) <| ppq (uN (4294967296 * rA)) (exec_cast (congrArg (Value.int .u64) (wrapU (4294967296 * rA) (by omega))) (by kernel_rfl)) <| pkq (uN u1) <| ppq (uN (4294967296 * rA + u1)) (exec_cast (congrArg (Value.int .u64) (wrapU (4294967296 * rA + u1) (by omega))) (by kernel_rfl)) <| ppq (.bool true) (dct ((((qA * y0 : Nat) : Int)) > (((4294967296 * rA + u1 : Nat) : Int))) (by omega)) <| pkq (.bool true) ?_
      refine ey_ <| s_ <| then_n <| bl_ 1 <| qr_ [0, 1, 2] <| pkq (uN qA) <| ppq (uN (qA - 1)) (exec_cast (congrArg (Value.int .u64) (wrap_sub qA 1 qp (by omega))) (by kernel_rfl)) <| pkq (uN (qA - 1)) <| eqr_ [0, 1, 2, 3] <| pkq (uN rA) <| pkq (uN y1) <| ppq (uN (rA + y1)) (exec_cast (congrArg (Value.int .u64) (wrapU (rA + y1) (by omega))) (by kernel_rfl)) <| pkq (uN (rA + y1)) <| eqr_ [0, 1] ?_
      refine pkq (uN (rA + y1)) <| ppq (.bool true) (dct ((((rA + y1 : Nat) : Int)) ≥ ((4294967296) : Int)) (by omega)) <| ey_ <| sy_exit 0 (by kernel_rfl) <| blk_p (by decide) <| then_e <| blk_e <| tqr_ [0, 1, 2, 3, 4, 5, 6, 7, 8] <| pkq (uN U) <| pkq (.int .u64 (IntKind.u64.wrap (((U : Nat) : Int) * 4294967296))) <| pkq (uN u1) <| pkq (.int .u64 (IntKind.u64.wrap (IntKind.u64.wrap (((U : Nat) : Int) * 4294967296) + ((u1 : Nat) : Int)))) <| pkq (uN (qA - 1)) <| pkq (uN Y) ?_
      refine pkq (.int .u64 (IntKind.u64.wrap (((qA - 1 : Nat) : Int) * ((Y : Nat) : Int)))) <| ppq (uN Vr) (exec_cast (congrArg (Value.int .u64) (((dig_rest hYs hy0 hy1p hu1 hUY hxA).resolve_right (by omega)).trans (congrArg (fun n : Nat => (n : Int)) hVr))) (by kernel_rfl)) <| pkq (uN Vr) <| ps_end <| sy_a ⟨#[uN hi, uN lo, uN Y, ud, ud, ud, .int .u64 0, .int .u64 0, uN s, uN y1, uN y0, uN U, uN L, uN u1, uN u0, uN (qA - 1), uN (rA + y1), uN Vr, ud, uN y, .bool false, ud, uN y, uN hi, .bool false, ud, uN hi, .bool false, ud, ud, ud, ud, ud, ud, uN y, iN s, uN s, uN y, uN s, uN Y, uN Y, uN y1, uN Y, uN y0, uN hi, uN s, uN ((hi <<< s) % Kec.W), uN lo, uN s, uN (64 - s), uN (lo >>> (64 - s)), uN U, uN lo, uN s, uN L, uN L, uN u1, uN L, uN u0, uN U, uN y1, uN (U / y1), uN U, uN (U / y1), uN y1, uN (U / y1 * y1), uN (U - U / y1 * y1), uN qA, .bool false, .bool false, uN qA, uN y0, uN (qA * y0), uN rA, uN (4294967296 * rA), uN u1, uN (4294967296 * rA + u1), .bool true, .bool true, uN qA, uN (qA - 1), uN rA, uN y1, uN (rA + y1), uN (rA + y1), .bool true, uN U, .int .u64 (IntKind.u64.wrap (((U : Nat) : Int) * 4294967296)), uN u1, .int .u64 (IntKind.u64.wrap (IntKind.u64.wrap (((U : Nat) : Int) * 4294967296) + ((u1 : Nat) : Int))), uN (qA - 1), uN Y, .int .u64 (IntKind.u64.wrap (((qA - 1 : Nat) : Int) * ((Y : Nat) : Int))), uN Vr, ud, ud, ud, ud, ud, ud, ud, ud, ud, ud, ud, ud, ud, ud, ud, ud, ud, ud, ud, ud, ud, ud, ud, ud, ud, ud, ud, ud, ud, ud, ud, ud, ud, ud, ud, ud, ud, ud, ud, ud, ud], []⟩ <| tqr_ [0, 1, 2, 3] <| pkq (uN Vr) <| pkq (uN y1) <| ppq (uN (Vr / y1)) (exec_quoU 40 40 (.tmp 94) (.tmp 95) (by kernel_rfl) Vr y1 (by kernel_rfl) (by kernel_rfl) hy1p (by omega)) <| pkq (uN (Vr / y1)) <| eqr_ [0, 1, 2, 3, 4, 5] <| pkq (uN Vr) <| pkq (uN (Vr / y1)) <| pkq (uN y1) ?_
      refine ppq (uN (Vr / y1 * y1)) (exec_cast (congrArg (Value.int .u64) (wrapU (Vr / y1 * y1) (by have := Nat.div_mul_le_self Vr y1; omega))) (by kernel_rfl)) <| ppq (uN (Vr - Vr / y1 * y1)) (exec_cast (congrArg (Value.int .u64) (wrap_sub Vr (Vr / y1 * y1) (Nat.div_mul_le_self Vr y1) (by omega))) (by kernel_rfl)) <| pkq (uN (Vr - Vr / y1 * y1)) <| eq_ <| bl_ 2 ?_
      refine sy_loop (qc32_2 4194296) (fun a V => ∃ (qB : Nat) (rB : Nat) (u102 u103 u104 u105 u106 u107 u108 u109 u110 u111 u112 u113 u114 u115 u116 u117 u118 u119 u120 : Value), (a = ⟨#[uN hi, uN lo, uN Y, ud, ud, ud, .int .u64 0, .int .u64 0, uN s, uN y1, uN y0, uN U, uN L, uN u1, uN u0, uN (qA - 1), uN rB, uN Vr, uN qB, uN y, .bool false, ud, uN y, uN hi, .bool false, ud, uN hi, .bool false, ud, ud, ud, ud, ud, ud, uN y, iN s, uN s, uN y, uN s, uN Y, uN Y, uN y1, uN Y, uN y0, uN hi, uN s, uN ((hi <<< s) % Kec.W), uN lo, uN s, uN (64 - s), uN (lo >>> (64 - s)), uN U, uN lo, uN s, uN L, uN L, uN u1, uN L, uN u0, uN U, uN y1, uN (U / y1), uN U, uN (U / y1), uN y1, uN (U / y1 * y1), uN (U - U / y1 * y1), uN qA, .bool false, .bool false, uN qA, uN y0, uN (qA * y0), uN rA, uN (4294967296 * rA), uN u1, uN (4294967296 * rA + u1), .bool true, .bool true, uN qA, uN (qA - 1), uN rA, uN y1, uN (rA + y1), uN (rA + y1), .bool true, uN U, .int .u64 (IntKind.u64.wrap (((U : Nat) : Int) * 4294967296)), uN u1, .int .u64 (IntKind.u64.wrap (IntKind.u64.wrap (((U : Nat) : Int) * 4294967296) + ((u1 : Nat) : Int))), uN (qA - 1), uN Y, .int .u64 (IntKind.u64.wrap (((qA - 1 : Nat) : Int) * ((Y : Nat) : Int))), uN Vr, uN Vr, uN y1, uN (Vr / y1), uN Vr, uN (Vr / y1), uN y1, uN (Vr / y1 * y1), uN (Vr - Vr / y1 * y1), u102, u103, u104, u105, u106, u107, u108, u109, u110, u111, u112, u113, u114, u115, u116, u117, u118, u119, u120, ud, ud, ud, ud, ud, ud, ud, ud, ud, ud, ud, ud, ud, ud], []⟩) ∧ (Dig Vr Y y1 u0 qB rB) ∧ (qB < 18446744073709551616) ∧ (rB < 4294967296) ∧ (Keeps Nob w V)) (fun a _ => (intOf (a.tmps.getD 18 undef)).toNat) (by kernel_rfl) ?_ ?_
      · exact ⟨Vr / y1, Vr - Vr / y1 * y1, undef, undef, undef, undef, undef, undef, undef, undef, undef, undef, undef, undef, undef, undef, undef, undef, undef, undef, undef, by kernel_rfl, dig_init hYs hy0 hy1p hu0 hVY, by have := Nat.div_le_self Vr y1; omega, rem_small hy1p hy1l, K2⟩
      · rintro a V5 ⟨qB, rB, u102, u103, u104, u105, u106, u107, u108, u109, u110, u111, u112, u113, u114, u115, u116, u117, u118, u119, u120, rfl, hd, hql, hr, K6⟩
        rcases dig_cases qB rB y0 y1 u0 with ⟨hq, hr2⟩ | ⟨hq, hr2⟩ | ⟨hq, hc, hr2⟩ | ⟨hq, hc, hr2⟩ | ⟨hq, hc⟩
        · obtain ⟨qp, hdn⟩ := dig_step hYs hy0 hy1p hu0 hVY hd (.inl hq)
          refine q_ <| qr_ [0, 1, 2, 3, 4, 5, 6, 7, 8, 9, 10, 11] <| pkq (uN qB) <| ppq (.bool true) (dct ((((qB : Nat) : Int)) ≥ ((4294967296) : Int)) (by omega)) <| pkq (.bool true) <| pnq <| pnq <| pnq <| pnq <| pnq <| pnq <| pnq <| pnq <| pkq (.bool true) ?_
          refine ey_ <| s_ <| then_n <| bl_ 3 <| qr_ [0, 1, 2] <| pkq (uN qB) <| ppq (uN (qB - 1)) (exec_cast (congrArg (Value.int .u64) (wrap_sub qB 1 qp (by omega))) (by kernel_rfl)) <| pkq (uN (qB - 1)) <| eqr_ [0, 1, 2, 3] <| pkq (uN rB) <| pkq (uN y1) <| ppq (uN (rB + y1)) (exec_cast (congrArg (Value.int .u64) (wrapU (rB + y1) (by omega))) (by kernel_rfl)) <| pkq (uN (rB + y1)) <| eqr_ [0, 1] ?_
          refine pkq (uN (rB + y1)) <| ppq (.bool false) (dcf ((((rB + y1 : Nat) : Int)) ≥ ((4294967296) : Int)) (by omega)) <| en_ <| s_ <| blk_n <| then_n ?_
          refine ⟨⟨qB - 1, rB + y1, (uN qB), (.bool true), (.bool true), undef, undef, undef, undef, undef, undef, undef, undef, (.bool true), (uN qB), (uN (qB - 1)), (uN rB), (uN y1), (uN (rB + y1)), (uN (rB + y1)), (.bool false), by kernel_rfl, hdn, by omega, by omega, K6⟩, ?_⟩
          exact lt_meas (x := qB - 1) (y := qB) (by kernel_rfl) (by kernel_rfl) (by omega)
        · obtain ⟨qp, hdn⟩ := dig_step hYs hy0 hy1p hu0 hVY hd (.inl hq)
          have hxB : qB - 1 = (Vr * 4294967296 + u0) / Y := dig_done hYs hy0 hy1p hu0 hVY hdn (.inr hr2)
          refine q_ <| qr_ [0, 1, 2, 3, 4, 5, 6, 7, 8, 9, 10, 11] <| pkq (uN qB) <| ppq (.bool true) (dct ((((qB : Nat) : Int)) ≥ ((4294967296) : Int)) (by omega)) <| pkq (.bool true) <| pnq <| pnq <| pnq <| pnq <| pnq <| pnq <| pnq <| pnq <| pkq (.bool true) ?_
          refine ey_ <| s_ <| then_n <| bl_ 3 <| qr_ [0, 1, 2] <| pkq (uN qB) <| ppq (uN (qB - 1)) (exec_cast (congrArg (Value.int .u64) (wrap_sub qB 1 qp (by omega))) (by kernel_rfl)) <| pkq (uN (qB - 1)) <| eqr_ [0, 1, 2, 3] <| pkq (uN rB) <| pkq (uN y1) <| ppq (uN (rB + y1)) (exec_cast (congrArg (Value.int .u64) (wrapU (rB + y1) (by omega))) (by kernel_rfl)) <| pkq (uN (rB + y1)) <| eqr_ [0, 1] ?_
          refine pkq (uN (rB + y1)) <| ppq (.bool true) (dct ((((rB + y1 : Nat) : Int)) ≥ ((4294967296) : Int)) (by omega)) <| ey_ <| sy_exit 2 (by kernel_rfl) <| blk_p (by decide) <| then_e <| blk_e <| tqr_ [0, 1, 2, 3, 4, 5, 6, 7, 8, 9, 10, 11, 12, 13, 14, 15] <| pkq (uN (qA - 1)) <| ppq (uN ((qA - 1) * 4294967296)) (exec_cast (congrArg (Value.int .u64) (wrapU ((qA - 1) * 4294967296) (by have := dig_lt hYs hy0 hy1p hu1 hUY; rw [← hxA] at this; omega))) (by kernel_rfl)) <| pkq (uN (qB - 1)) <| ppq (uN ((hi * 18446744073709551616 + lo) / y)) (exec_cast (congrArg (Value.int .u64) ((wrapU ((qA - 1) * 4294967296 + (qB - 1)) (by have g1 := dig_lt hYs hy0 hy1p hu1 hUY; have g2 := dig_lt hYs hy0 hy1p hu0 hVY; rw [← hxA] at g1; rw [← hxB] at g2; omega)).trans (congrArg (fun n : Nat => (n : Int)) (div_end hy1 hYe hsum hLs hxA hVr hxB)))) (by kernel_rfl)) <| pkq (uN Vr) <| pkq (.int .u64 (IntKind.u64.wrap (((Vr : Nat) : Int) * 4294967296))) ?_
          refine pkq (uN u0) <| pkq (.int .u64 (IntKind.u64.wrap (IntKind.u64.wrap (((Vr : Nat) : Int) * 4294967296) + ((u0 : Nat) : Int)))) <| pkq (uN (qB - 1)) <| pkq (uN Y) <| pkq (.int .u64 (IntKind.u64.wrap (((qB - 1 : Nat) : Int) * ((Y : Nat) : Int)))) <| ppq (uN ((Vr * 4294967296 + u0) % Y)) (exec_cast (congrArg (Value.int .u64) ((dig_rest hYs hy0 hy1p hu0 hVY hxB).resolve_right (by omega))) (by kernel_rfl)) <| pkq (uN s) <| ppq (uN (((Vr * 4294967296 + u0) % Y) >>> s)) (exec_binop .shr 40 169 (.tmp 132) (.tmp 133) (by kernel_rfl) (uN (((Vr * 4294967296 + u0) % Y))) (uN s) _ (by kernel_rfl) (by kernel_rfl) (by kernel_rfl) (run_shrU _ _ ((Vr * 4294967296 + u0) % Y) s (by omega))) <| pkq (uN ((hi * 18446744073709551616 + lo) / y)) <| pkq (uN (((Vr * 4294967296 + u0) % Y) >>> s)) <| ps_end <| sy_a ⟨#[uN hi, uN lo, uN Y, ud, ud, ud, uN ((hi * 18446744073709551616 + lo) / y), uN (((Vr * 4294967296 + u0) % Y) >>> s), uN s, uN y1, uN y0, uN U, uN L, uN u1, uN u0, uN (qA - 1), uN (rB + y1), uN Vr, uN (qB - 1), uN y, .bool false, ud, uN y, uN hi, .bool false, ud, uN hi, .bool false, ud, ud, ud, ud, ud, ud, uN y, iN s, uN s, uN y, uN s, uN Y, uN Y, uN y1, uN Y, uN y0, uN hi, uN s, uN ((hi <<< s) % Kec.W), uN lo, uN s, uN (64 - s), uN (lo >>> (64 - s)), uN U, uN lo, uN s, uN L, uN L, uN u1, uN L, uN u0, uN U, uN y1, uN (U / y1), uN U, uN (U / y1), uN y1, uN (U / y1 * y1), uN (U - U / y1 * y1), uN qA, .bool false, .bool false, uN qA, uN y0, uN (qA * y0), uN rA, uN (4294967296 * rA), uN u1, uN (4294967296 * rA + u1), .bool true, .bool true, uN qA, uN (qA - 1), uN rA, uN y1, uN (rA + y1), uN (rA + y1), .bool true, uN U, .int .u64 (IntKind.u64.wrap (((U : Nat) : Int) * 4294967296)), uN u1, .int .u64 (IntKind.u64.wrap (IntKind.u64.wrap (((U : Nat) : Int) * 4294967296) + ((u1 : Nat) : Int))), uN (qA - 1), uN Y, .int .u64 (IntKind.u64.wrap (((qA - 1 : Nat) : Int) * ((Y : Nat) : Int))), uN Vr, uN Vr, uN y1, uN (Vr / y1), uN Vr, uN (Vr / y1), uN y1, uN (Vr / y1 * y1), uN (Vr - Vr / y1 * y1), uN qB, .bool true, .bool true, ud, ud, ud, ud, ud, ud, ud, ud, .bool true, uN qB, uN (qB - 1), uN rB, uN y1, uN (rB + y1), uN (rB + y1), .bool true, uN (qA - 1), uN ((qA - 1) * 4294967296), uN (qB - 1), uN ((hi * 18446744073709551616 + lo) / y), uN Vr, .int .u64 (IntKind.u64.wrap (((Vr : Nat) : Int) * 4294967296)), uN u0, .int .u64 (IntKind.u64.wrap (IntKind.u64.wrap (((Vr : Nat) : Int) * 4294967296) + ((u0 : Nat) : Int))), uN (qB - 1), uN Y, .int .u64 (IntKind.u64.wrap (((qB - 1 : Nat) : Int) * ((Y : Nat) : Int))), uN ((Vr * 4294967296 + u0) % Y), uN s, uN (((Vr * 4294967296 + u0) % Y) >>> s)], []⟩ <| then_n <| u_ ?_
          refine so_ (.tuple #[.int .u64 (((hi * 18446744073709551616 + lo) / y : Nat) : Int), .int .u64 ((((Vr * 4294967296 + u0) % Y) >>> s : Nat) : Int)]) ?_
          exact ⟨_, rfl, K6⟩
        · obtain ⟨qp, hdn⟩ := dig_step hYs hy0 hy1p hu0 hVY hd (.inr hc)
          refine q_ <| qr_ [0, 1, 2, 3, 4, 5, 6, 7, 8, 9, 10, 11] <| pkq (uN qB) <| ppq (.bool false) (dcf ((((qB : Nat) : Int)) ≥ ((4294967296) : Int)) (by omega)) <| pkq (.bool false) <| pkq (uN qB) <| pkq (uN y0) <| ppq (uN (qB * y0)) (exec_cast (congrArg (Value.int .u64) (wrapU (qB * y0) (mul_small hq hy0))) (by kernel_rfl)) <| pkq (uN rB) <| ppq (uN (4294967296 * rB)) (exec_cast (congrArg (Value.int .u64) (wrapU (4294967296 * rB) (by omega))) (by kernel_rfl)) <| pkq (uN u0) <| ppq (uN (4294967296 * rB + u0)) (exec_cast (congrArg (Value.int .u64) (wrapU (4294967296 * rB + u0) (by omega))) (by kernel_rfl)) <| ppq (.bool true) (dct ((((qB * y0 : Nat) : Int)) > (((4294967296 * rB + u0 : Nat) : Int))) (by omega)) <| pkq (.bool true) ?_
          refine ey_ <| s_ <| then_n <| bl_ 3 <| qr_ [0, 1, 2] <| pkq (uN qB) <| ppq (uN (qB - 1)) (exec_cast (congrArg (Value.int .u64) (wrap_sub qB 1 qp (by omega))) (by kernel_rfl)) <| pkq (uN (qB - 1)) <| eqr_ [0, 1, 2, 3] <| pkq (uN rB) <| pkq (uN y1) <| ppq (uN (rB + y1)) (exec_cast (congrArg (Value.int .u64) (wrapU (rB + y1) (by omega))) (by kernel_rfl)) <| pkq (uN (rB + y1)) <| eqr_ [0, 1] ?_
          refine pkq (uN (rB + y1)) <| ppq (.bool false) (dcf ((((rB + y1 : Nat) : Int)) ≥ ((4294967296) : Int)) (by omega)) <| en_ <| s_ <| blk_n <| then_n ?_
          refine ⟨⟨qB - 1, rB + y1, (uN qB), (.bool false), (.bool false), (uN qB), (uN y0), (uN (qB * y0)), (uN rB), (uN (4294967296 * rB)), (uN u0), (uN (4294967296 * rB + u0)), (.bool true), (.bool true), (uN qB), (uN (qB - 1)), (uN rB), (uN y1), (uN (rB + y1)), (uN (rB + y1)), (.bool false), by kernel_rfl, hdn, by omega, by omega, K6⟩, ?_⟩
          exact lt_meas (x := qB - 1) (y := qB) (by kernel_rfl) (by kernel_rfl) (by omega)
        · obtain ⟨qp, hdn⟩ := dig_step hYs hy0 hy1p hu0 hVY hd (.inr hc)
          have hxB : qB - 1 = (Vr * 4294967296 + u0) / Y := dig_done hYs hy0 hy1p hu0 hVY hdn (.inr hr2)
          refine q_ <| qr_ [0, 1, 2, 3, 4, 5, 6, 7, 8, 9, 10, 11] <| pkq (uN qB) <| ppq (.bool false) (dcf ((((qB : Nat) : Int)) ≥ ((4294967296) : Int)) (by omega)) <| pkq (.bool false) <| pkq (uN qB) <| pkq (uN y0) <| ppq (uN (qB * y0)) (exec_cast (congrArg (Value.int .u64) (wrapU (qB * y0) (mul_small hq hy0))) (by kernel_rfl)) <| pkq (uN rB) <| ppq (uN (4294967296 * rB)) (exec_cast (congrArg (Value.int .u64) (wrapU (4294967296 * rB) (by omega))) (by kernel_rfl)) <| pkq (uN u0) <| ppq (uN (4294967296 * rB + u0)) (exec_cast (congrArg (Value.int .u64) (wrapU (4294967296 * rB + u0) (by omega))) (by kernel_rfl)) <| ppq (.bool true) (dct ((((qB * y0 : Nat) : Int)) > (((4294967296 * rB + u0 : Nat) : Int))) (by omega)) <| pkq (.bool true) ?_
          refine ey_ <| s_ <| then_n <| bl_ 3 <| qr_ [0, 1, 2] <| pkq (uN qB) <| ppq (uN (qB - 1)) (exec_cast (congrArg (Value.int .u64) (wrap_sub qB 1 qp (by omega))) (by kernel_rfl)) <| pkq (uN (qB - 1)) <| eqr_ [0, 1, 2, 3] <| pkq (uN rB) <| pkq (uN y1) <| ppq (uN (rB + y1)) (exec_cast (congrArg (Value.int .u64) (wrapU (rB + y1) (by omega))) (by kernel_rfl)) <| pkq (uN (rB + y1)) <| eqr_ [0, 1] ?_
          refine pkq (uN (rB + y1)) <| ppq (.bool true) (dct ((((rB + y1 : Nat) : Int)) ≥ ((4294967296) : Int)) (by omega)) <| ey_ <| sy_exit 2 (by kernel_rfl) <| blk_p (by decide) <| then_e <| blk_e <| tqr_ [0, 1, 2, 3, 4, 5, 6, 7, 8, 9, 10, 11, 12, 13, 14, 15] <| pkq (uN (qA - 1)) <| ppq (uN ((qA - 1) * 4294967296)) (exec_cast (congrArg (Value.int .u64) (wrapU ((qA - 1) * 4294967296) (by have := dig_lt hYs hy0 hy1p hu1 hUY; rw [← hxA] at this; omega))) (by kernel_rfl)) <| pkq (uN (qB - 1)) <| ppq (uN ((hi * 18446744073709551616 + lo) / y)) (exec_cast (congrArg (Value.int .u64) ((wrapU ((qA - 1) * 4294967296 + (qB - 1)) (by have g1 := dig_lt hYs hy0 hy1p hu1 hUY; have g2 := dig_lt hYs hy0 hy1p hu0 hVY; rw [← hxA] at g1; rw [← hxB] at g2; omega)).trans (congrArg (fun n : Nat => (n : Int)) (div_end hy1 hYe hsum hLs hxA hVr hxB)))) (by kernel_rfl)) <| pkq (uN Vr) <| pkq (.int .u64 (IntKind.u64.wrap (((Vr : Nat) : Int) * 4294967296))) ?_
          refine pkq (uN u0) <| pkq (.int .u64 (IntKind.u64.wrap (IntKind.u64.wrap (((Vr : Nat) : Int) * 4294967296) + ((u0 : Nat) : Int)))) <| pkq (uN (qB - 1)) <| pkq (uN Y) <| pkq (.int .u64 (IntKind.u64.wrap (((qB - 1 : Nat) : Int) * ((Y : Nat) : Int)))) <| ppq (uN ((Vr * 4294967296 + u0) % Y)) (exec_cast (congrArg (Value.int .u64) ((dig_rest hYs hy0 hy1p hu0 hVY hxB).resolve_right (by omega))) (by kernel_rfl)) <| pkq (uN s) <| ppq (uN (((Vr * 4294967296 + u0) % Y) >>> s)) (exec_binop .shr 40 169 (.tmp 132) (.tmp 133) (by kernel_rfl) (uN (((Vr * 4294967296 + u0) % Y))) (uN s) _ (by kernel_rfl) (by kernel_rfl) (by kernel_rfl) (run_shrU _ _ ((Vr * 4294967296 + u0) % Y) s (by omega))) <| pkq (uN ((hi * 18446744073709551616 + lo) / y)) <| pkq (uN (((Vr * 4294967296 + u0) % Y) >>> s)) <| ps_end <| sy_a ⟨#[uN hi, uN lo, uN Y, ud, ud, ud, uN ((hi * 18446744073709551616 + lo) / y), uN (((Vr * 4294967296 + u0) % Y) >>> s), uN s, uN y1, uN y0, uN U, uN L, uN u1, uN u0, uN (qA - 1), uN (rB + y1), uN Vr, uN (qB - 1), uN y, .bool false, ud, uN y, uN hi, .bool false, ud, uN hi, .bool false, ud, ud, ud, ud, ud, ud, uN y, iN s, uN s, uN y, uN s, uN Y, uN Y, uN y1, uN Y, uN y0, uN hi, uN s, uN ((hi <<< s) % Kec.W), uN lo, uN s, uN (64 - s), uN (lo >>> (64 - s)), uN U, uN lo, uN s, uN L, uN L, uN u1, uN L, uN u0, uN U, uN y1, uN (U / y1), uN U, uN (U / y1), uN y1, uN (U / y1 * y1), uN (U - U / y1 * y1), uN qA, .bool false, .bool false, uN qA, uN y0, uN (qA * y0), uN rA, uN (4294967296 * rA), uN u1, uN (4294967296 * rA + u1), .bool true, .bool true, uN qA, uN (qA - 1), uN rA, uN y1, uN (rA + y1), uN (rA + y1), .bool true, uN U, .int .u64 (IntKind.u64.wrap (((U : Nat) : Int) * 4294967296)), uN u1, .int .u64 (IntKind.u64.wrap (IntKind.u64.wrap (((U : Nat) : Int) * 4294967296) + ((u1 : Nat) : Int))), uN (qA - 1), uN Y, .int .u64 (IntKind.u64.wrap (((qA - 1 : Nat) : Int) * ((Y : Nat) : Int))), uN Vr, uN Vr, uN y1, uN (Vr / y1), uN Vr, uN (Vr / y1), uN y1, uN (Vr / y1 * y1), uN (Vr - Vr / y1 * y1), uN qB, .bool false, .bool false, uN qB, uN y0, uN (qB * y0), uN rB, uN (4294967296 * rB), uN u0, uN (4294967296 * rB + u0), .bool true, .bool true, uN qB, uN (qB - 1), uN rB, uN y1, uN (rB + y1), uN (rB + y1), .bool true, uN (qA - 1), uN ((qA - 1) * 4294967296), uN (qB - 1), uN ((hi * 18446744073709551616 + lo) / y), uN Vr, .int .u64 (IntKind.u64.wrap (((Vr : Nat) : Int) * 4294967296)), uN u0, .int .u64 (IntKind.u64.wrap (IntKind.u64.wrap (((Vr : Nat) : Int) * 4294967296) + ((u0 : Nat) : Int))), uN (qB - 1), uN Y, .int .u64 (IntKind.u64.wrap (((qB - 1 : Nat) : Int) * ((Y : Nat) : Int))), uN ((Vr * 4294967296 + u0) % Y), uN s, uN (((Vr * 4294967296 + u0) % Y) >>> s)], []⟩ <| then_n <| u_ ?_
          refine so_ (.tuple #[.int .u64 (((hi * 18446744073709551616 + lo) / y : Nat) : Int), .int .u64 ((((Vr * 4294967296 + u0) % Y) >>> s : Nat) : Int)]) ?_
          exact ⟨_, rfl, K6⟩
        · have hxB : qB = (Vr * 4294967296 + u0) / Y := dig_done hYs hy0 hy1p hu0 hVY hd (.inl ⟨hq, hc⟩)
          refine q_ <| qr_ [0, 1, 2, 3, 4, 5, 6, 7, 8, 9, 10, 11] <| pkq (uN qB) <| ppq (.bool false) (dcf ((((qB : Nat) : Int)) ≥ ((4294967296) : Int)) (by omega)) <| pkq (.bool false) <| pkq (uN qB) <| pkq (uN y0) <| ppq (uN (qB * y0)) (exec_cast (congrArg (Value.int .u64) (wrapU (qB * y0) (mul_small hq hy0))) (by kernel_rfl)) <| pkq (uN rB) <| ppq (uN (4294967296 * rB)) (exec_cast (congrArg (Value.int .u64) (wrapU (4294967296 * rB) (by omega))) (by kernel_rfl)) <| pkq (uN u0) <| ppq (uN (4294967296 * rB + u0)) (exec_cast (congrArg (Value.int .u64) (wrapU (4294967296 * rB + u0) (by omega))) (by kernel_rfl)) <| ppq (.bool false) (dcf ((((qB * y0 : Nat) : Int)) > (((4294967296 * rB + u0 : Nat) : Int))) (by omega)) <| pkq (.bool false) ?_
          refine en_ <| sy_exit 2 (by kernel_rfl) <| then_e <| then_e <| blk_e <| tqr_ [0, 1, 2, 3, 4, 5, 6, 7, 8, 9, 10, 11, 12, 13, 14, 15] <| pkq (uN (qA - 1)) <| ppq (uN ((qA - 1) * 4294967296)) (exec_cast (congrArg (Value.int .u64) (wrapU ((qA - 1) * 4294967296) (by have := dig_lt hYs hy0 hy1p hu1 hUY; rw [← hxA] at this; omega))) (by kernel_rfl)) <| pkq (uN qB) <| ppq (uN ((hi * 18446744073709551616 + lo) / y)) (exec_cast (congrArg (Value.int .u64) ((wrapU ((qA - 1) * 4294967296 + qB) (by have g1 := dig_lt hYs hy0 hy1p hu1 hUY; have g2 := dig_lt hYs hy0 hy1p hu0 hVY; rw [← hxA] at g1; rw [← hxB] at g2; omega)).trans (congrArg (fun n : Nat => (n : Int)) (div_end hy1 hYe hsum hLs hxA hVr hxB)))) (by kernel_rfl)) <| pkq (uN Vr) <| pkq (.int .u64 (IntKind.u64.wrap (((Vr : Nat) : Int) * 4294967296))) <| pkq (uN u0) <| pkq (.int .u64 (IntKind.u64.wrap (IntKind.u64.wrap (((Vr : Nat) : Int) * 4294967296) + ((u0 : Nat) : Int)))) ?_
          refine pkq (uN qB) <| pkq (uN Y) <| pkq (.int .u64 (IntKind.u64.wrap (((qB : Nat) : Int) * ((Y : Nat) : Int)))) <| ppq (uN ((Vr * 4294967296 + u0) % Y)) (exec_cast (congrArg (Value.int .u64) ((dig_rest hYs hy0 hy1p hu0 hVY hxB).resolve_right (by omega))) (by kernel_rfl)) <| pkq (uN s) <| ppq (uN (((Vr * 4294967296 + u0) % Y) >>> s)) (exec_binop .shr 40 169 (.tmp 132) (.tmp 133) (by kernel_rfl) (uN (((Vr * 4294967296 + u0) % Y))) (uN s) _ (by kernel_rfl) (by kernel_rfl) (by kernel_rfl) (run_shrU _ _ ((Vr * 4294967296 + u0) % Y) s (by omega))) <| pkq (uN ((hi * 18446744073709551616 + lo) / y)) <| pkq (uN (((Vr * 4294967296 + u0) % Y) >>> s)) <| ps_end <| sy_a ⟨#[uN hi, uN lo, uN Y, ud, ud, ud, uN ((hi * 18446744073709551616 + lo) / y), uN (((Vr * 4294967296 + u0) % Y) >>> s), uN s, uN y1, uN y0, uN U, uN L, uN u1, uN u0, uN (qA - 1), uN rB, uN Vr, uN qB, uN y, .bool false, ud, uN y, uN hi, .bool false, ud, uN hi, .bool false, ud, ud, ud, ud, ud, ud, uN y, iN s, uN s, uN y, uN s, uN Y, uN Y, uN y1, uN Y, uN y0, uN hi, uN s, uN ((hi <<< s) % Kec.W), uN lo, uN s, uN (64 - s), uN (lo >>> (64 - s)), uN U, uN lo, uN s, uN L, uN L, uN u1, uN L, uN u0, uN U, uN y1, uN (U / y1), uN U, uN (U / y1), uN y1, uN (U / y1 * y1), uN (U - U / y1 * y1), uN qA, .bool false, .bool false, uN qA, uN y0, uN (qA * y0), uN rA, uN (4294967296 * rA), uN u1, uN (4294967296 * rA + u1), .bool true, .bool true, uN qA, uN (qA - 1), uN rA, uN y1, uN (rA + y1), uN (rA + y1), .bool true, uN U, .int .u64 (IntKind.u64.wrap (((U : Nat) : Int) * 4294967296)), uN u1, .int .u64 (IntKind.u64.wrap (IntKind.u64.wrap (((U : Nat) : Int) * 4294967296) + ((u1 : Nat) : Int))), uN (qA - 1), uN Y, .int .u64 (IntKind.u64.wrap (((qA - 1 : Nat) : Int) * ((Y : Nat) : Int))), uN Vr, uN Vr, uN y1, uN (Vr / y1), uN Vr, uN (Vr / y1), uN y1, uN (Vr / y1 * y1), uN (Vr - Vr / y1 * y1), uN qB, .bool false, .bool false, uN qB, uN y0, uN (qB * y0), uN rB, uN (4294967296 * rB), uN u0, uN (4294967296 * rB + u0), .bool false, .bool false, u114, u115, u116, u117, u118, u119, u120, uN (qA - 1), uN ((qA - 1) * 4294967296), uN qB, uN ((hi * 18446744073709551616 + lo) / y), uN Vr, .int .u64 (IntKind.u64.wrap (((Vr : Nat) : Int) * 4294967296)), uN u0, .int .u64 (IntKind.u64.wrap (IntKind.u64.wrap (((Vr : Nat) : Int) * 4294967296) + ((u0 : Nat) : Int))), uN qB, uN Y, .int .u64 (IntKind.u64.wrap (((qB : Nat) : Int) * ((Y : Nat) : Int))), uN ((Vr * 4294967296 + u0) % Y), uN s, uN (((Vr * 4294967296 + u0) % Y) >>> s)], []⟩ <| then_n <| u_ <| so_ (.tuple #[.int .u64 (((hi * 18446744073709551616 + lo) / y : Nat) : Int), .int .u64 ((((Vr * 4294967296 + u0) % Y) >>> s : Nat) : Int)]) ?_
          exact ⟨_, rfl, K6⟩
    · have hxA : qA = (U * 4294967296 + u1) / Y := dig_done hYs hy0 hy1p hu1 hUY hd (.inl ⟨hq, hc⟩)
      refine q_ <| qr_ [0, 1, 2, 3, 4, 5, 6, 7, 8, 9, 10, 11] <| pkq (uN qA) <| ppq (.bool false) (dcf ((((qA : Nat) : Int)) ≥ ((4294967296) : Int)) (by omega)) <| pkq (.bool false) <| pkq (uN qA) <| pkq (uN y0) <| ppq (uN (qA * y0)) (exec_cast (congrArg (Value.int .u64) (wrapU (qA * y0) (mul_small hq hy0))) (by kernel_rfl)) <| pkq (uN rA) <| ppq (uN (4294967296 * rA)) (exec_cast (congrArg (Value.int .u64) (wrapU (4294967296 * rA) (by omega))) (by kernel_rfl)) <| pkq (uN u1) <| ppq (uN (4294967296 * rA + u1)) (exec_cast (congrArg (Value.int .u64) (wrapU (4294967296 * rA + u1) (by omega))) (by kernel_rfl)) <| ppq (.bool false) (dcf ((((qA * y0 : Nat) : Int)) > (((4294967296 * rA + u1 : Nat) : Int))) (by omega)) <| pkq (.bool false) ?_
      refine en_ <| sy_exit 0 (by kernel_rfl) <| then_e <| then_e <| blk_e <| tqr_ [0, 1, 2, 3, 4, 5, 6, 7, 8] <| pkq (uN U) <| pkq (.int .u64 (IntKind.u64.wrap (((U : Nat) : Int) * 4294967296))) <| pkq (uN u1) <| pkq (.int .u64 (IntKind.u64.wrap (IntKind.u64.wrap (((U : Nat) : Int) * 4294967296) + ((u1 : Nat) : Int)))) <| pkq (uN qA) <| pkq (uN Y) <| pkq (.int .u64 (IntKind.u64.wrap (((qA : Nat) : Int) * ((Y : Nat) : Int)))) <| ppq (uN Vr) (exec_cast (congrArg (Value.int .u64) (((dig_rest hYs hy0 hy1p hu1 hUY hxA).resolve_right (by omega)).trans (congrArg (fun n : Nat => (n : Int)) hVr))) (by kernel_rfl)) ?_
      refine pkq (uN Vr) <| eqr_ [0, 1, 2, 3] <| pkq (uN Vr) <| pkq (uN y1) <| ppq (uN (Vr / y1)) (exec_quoU 40 40 (.tmp 94) (.tmp 95) (by kernel_rfl) Vr y1 (by kernel_rfl) (by kernel_rfl) hy1p (by omega)) <| pkq (uN (Vr / y1)) <| ps_end <| sy_a ⟨#[uN hi, uN lo, uN Y, ud, ud, ud, .int .u64 0, .int .u64 0, uN s, uN y1, uN y0, uN U, uN L, uN u1, uN u0, uN qA, uN rA, uN Vr, uN (Vr / y1), uN y, .bool false, ud, uN y, uN hi, .bool false, ud, uN hi, .bool false, ud, ud, ud, ud, ud, ud, uN y, iN s, uN s, uN y, uN s, uN Y, uN Y, uN y1, uN Y, uN y0, uN hi, uN s, uN ((hi <<< s) % Kec.W), uN lo, uN s, uN (64 - s), uN (lo >>> (64 - s)), uN U, uN lo, uN s, uN L, uN L, uN u1, uN L, uN u0, uN U, uN y1, uN (U / y1), uN U, uN (U / y1), uN y1, uN (U / y1 * y1), uN (U - U / y1 * y1), uN qA, .bool false, .bool false, uN qA, uN y0, uN (qA * y0), uN rA, uN (4294967296 * rA), uN u1, uN (4294967296 * rA + u1), .bool false, .bool false, u79, u80, u81, u82, u83, u84, u85, uN U, .int .u64 (IntKind.u64.wrap (((U : Nat) : Int) * 4294967296)), uN u1, .int .u64 (IntKind.u64.wrap (IntKind.u64.wrap (((U : Nat) : Int) * 4294967296) + ((u1 : Nat) : Int))), uN qA, uN Y, .int .u64 (IntKind.u64.wrap (((qA : Nat) : Int) * ((Y : Nat) : Int))), uN Vr, uN Vr, uN y1, uN (Vr / y1), ud, ud, ud, ud, ud, ud, ud, ud, ud, ud, ud, ud, ud, ud, ud, ud, ud, ud, ud, ud, ud, ud, ud, ud, ud, ud, ud, ud, ud, ud, ud, ud, ud, ud, ud, ud, ud, ud], []⟩ <| tqr_ [0, 1, 2, 3, 4, 5] <| pkq (uN Vr) <| pkq (uN (Vr / y1)) <| pkq (uN y1) <| ppq (uN (Vr / y1 * y1)) (exec_cast (congrArg (Value.int .u64) (wrapU (Vr / y1 * y1) (by have := Nat.div_mul_le_self Vr y1; omega))) (by kernel_rfl)) <| ppq (uN (Vr - Vr / y1 * y1)) (exec_cast (congrArg (Value.int .u64) (wrap_sub Vr (Vr / y1 * y1) (Nat.div_mul_le_self Vr y1) (by omega))) (by kernel_rfl)) ?_
      refine pkq (uN (Vr - Vr / y1 * y1)) <| eq_ <| bl_ 2 ?_
      refine sy_loop (qc32_2 4194296) (fun a V => ∃ (qB : Nat) (rB : Nat) (u102 u103 u104 u105 u106 u107 u108 u109 u110 u111 u112 u113 u114 u115 u116 u117 u118 u119 u120 : Value), (a = ⟨#[uN hi, uN lo, uN Y, ud, ud, ud, .int .u64 0, .int .u64 0, uN s, uN y1, uN y0, uN U, uN L, uN u1, uN u0, uN qA, uN rB, uN Vr, uN qB, uN y, .bool false, ud, uN y, uN hi, .bool false, ud, uN hi, .bool false, ud, ud, ud, ud, ud, ud, uN y, iN s, uN s, uN y, uN s, uN Y, uN Y, uN y1, uN Y, uN y0, uN hi, uN s, uN ((hi <<< s) % Kec.W), uN lo, uN s, uN (64 - s), uN (lo >>> (64 - s)), uN U, uN lo, uN s, uN L, uN L, uN u1, uN L, uN u0, uN U, uN y1, uN (U / y1), uN U, uN (U / y1), uN y1, uN (U / y1 * y1), uN (U - U / y1 * y1), uN qA, .bool false, .bool false, uN qA, uN y0, uN (qA * y0), uN rA, uN (4294967296 * rA), uN u1, uN (4294967296 * rA + u1), .bool false, .bool false, u79, u80, u81, u82, u83, u84, u85, uN U, .int .u64 (IntKind.u64.wrap (((U : Nat) : Int) * 4294967296)), uN u1, .int .u64 (IntKind.u64.wrap (IntKind.u64.wrap (((U : Nat) : Int) * 4294967296) + ((u1 : Nat) : Int))), uN qA, uN Y, .int .u64 (IntKind.u64.wrap (((qA : Nat) : Int) * ((Y : Nat) : Int))), uN Vr, uN Vr, uN y1, uN (Vr / y1), uN Vr, uN (Vr / y1), uN y1, uN (Vr / y1 * y1), uN (Vr - Vr / y1 * y1), u102, u103, u104, u105, u106, u107, u108, u109, u110, u111, u112, u113, u114, u115, u116, u117, u118, u119, u120, ud, ud, ud, ud, ud, ud, ud, ud, ud, ud, ud, ud, ud, ud], []⟩) ∧ (Dig Vr Y y1 u0 qB rB) ∧ (qB < 18446744073709551616) ∧ (rB < 4294967296) ∧ (Keeps Nob w V)) (fun a _ => (intOf (a.tmps.getD 18 undef)).toNat) (by kernel_rfl) ?_ ?_
      · exact ⟨Vr / y1, Vr - Vr / y1 * y1, undef, undef, undef, undef, undef, undef, undef, undef, undef, undef, undef, undef, undef, undef, undef, undef, undef, undef, undef, by kernel_rfl, dig_init hYs hy0 hy1p hu0 hVY, by have := Nat.div_le_self Vr y1; omega, rem_small hy1p hy1l, K2⟩
      · rintro a V7 ⟨qB, rB, u102, u103, u104, u105, u106, u107, u108, u109, u110, u111, u112, u113, u114, u115, u116, u117, u118, u119, u120, rfl, hd, hql, hr, K8⟩
        rcases dig_cases qB rB y0 y1 u0 with ⟨hq, hr2⟩ | ⟨hq, hr2⟩ | ⟨hq, hc, hr2⟩ | ⟨hq, hc, hr2⟩ | ⟨hq, hc⟩
        · obtain ⟨qp, hdn⟩ := dig_step hYs hy0 hy1p hu0 hVY hd (.inl hq)
          refine q_ <| qr_ [0, 1, 2, 3, 4, 5, 6, 7, 8, 9, 10, 11] <| pkq (uN qB) <| ppq (.bool true) (dct ((((qB : Nat) : Int)) ≥ ((4294967296) : Int)) (by omega)) <| pkq (.bool true) <| pnq <| pnq <| pnq <| pnq <| pnq <| pnq <| pnq <| pnq <| pkq (.bool true) ?_
          refine ey_ <| s_ <| then_n <| bl_ 3 <| qr_ [0, 1, 2] <| pkq (uN qB) <| ppq (uN (qB - 1)) (exec_cast (congrArg (Value.int .u64) (wrap_sub qB 1 qp (by omega))) (by kernel_rfl)) <| pkq (uN (qB - 1)) <| eqr_ [0, 1, 2, 3] <| pkq (uN rB) <| pkq (uN y1) <| ppq (uN (rB + y1)) (exec_cast (congrArg (Value.int .u64) (wrapU (rB + y1) (by omega))) (by kernel_rfl)) <| pkq (uN (rB + y1)) <| eqr_ [0, 1] ?_
          refine pkq (uN (rB + y1)) <| ppq (.bool false) (dcf ((((rB + y1 : Nat) : Int)) ≥ ((4294967296) : Int)) (by omega)) <| en_ <| s_ <| blk_n <| then_n ?_
          refine ⟨⟨qB - 1, rB + y1, (uN qB), (.bool true), (.bool true), undef, undef, undef, undef, undef, undef, undef, undef, (.bool true), (uN qB), (uN (qB - 1)), (uN rB), (uN y1), (uN (rB + y1)), (uN (rB + y1)), (.bool false), by kernel_rfl, hdn, by omega, by omega, K8⟩, ?_⟩
          exact lt_meas (x := qB - 1) (y := qB) (by kernel_rfl) (by kernel_rfl) (by omega)
        · obtain ⟨qp, hdn⟩ := dig_step hYs hy0 hy1p hu0 hVY hd (.inl hq)
          have hxB : qB - 1 = (Vr * 4294967296 + u0) / Y := dig_done hYs hy0 hy1p hu0 hVY hdn (.inr hr2)
          refine q_ <| qr_ [0, 1, 2, 3, 4, 5, 6, 7, 8, 9, 10, 11] <| pkq (uN qB) <| ppq (.bool true) (dct ((((qB : Nat) : Int)) ≥ ((4294967296) : Int)) (by omega)) <| pkq (.bool true) <| pnq <| pnq <| pnq <| pnq <| pnq <| pnq <| pnq <| pnq <| pkq (.bool true) ?_
          refine ey_ <| s_ <| then_n <| bl_ 3 <| qr_ [0, 1, 2] <| pkq (uN qB) <| ppq (uN (qB - 1)) (exec_cast (congrArg (Value.int .u64) (wrap_sub qB 1 qp (by omega))) (by kernel_rfl)) <| pkq (uN (qB - 1)) <| eqr_ [0, 1, 2, 3] <| pkq (uN rB) <| pkq (uN y1) <| ppq (uN (rB + y1)) (exec_cast (congrArg (Value.int .u64) (wrapU (rB + y1) (by omega))) (by kernel_rfl)) <| pkq (uN (rB + y1)) <| eqr_ [0, 1] ?_
          refine pkq (uN (rB + y1)) <| ppq (.bool true) (dct ((((rB + y1 : Nat) : Int)) ≥ ((4294967296) : Int)) (by omega)) <| ey_ <| sy_exit 2 (by kernel_rfl) <| blk_p (by decide) <| then_e <| blk_e <| tqr_ [0, 1, 2, 3, 4, 5, 6, 7, 8, 9, 10, 11, 12, 13, 14, 15] <| pkq (uN qA) <| ppq (uN (qA * 4294967296)) (exec_cast (congrArg (Value.int .u64) (wrapU (qA * 4294967296) (by have := dig_lt hYs hy0 hy1p hu1 hUY; rw [← hxA] at this; omega))) (by kernel_rfl)) <| pkq (uN (qB - 1)) <| ppq (uN ((hi * 18446744073709551616 + lo) / y)) (exec_cast (congrArg (Value.int .u64) ((wrapU (qA * 4294967296 + (qB - 1)) (by have g1 := dig_lt hYs hy0 hy1p hu1 hUY; have g2 := dig_lt hYs hy0 hy1p hu0 hVY; rw [← hxA] at g1; rw [← hxB] at g2; omega)).trans (congrArg (fun n : Nat => (n : Int)) (div_end hy1 hYe hsum hLs hxA hVr hxB)))) (by kernel_rfl)) <| pkq (uN Vr) <| pkq (.int .u64 (IntKind.u64.wrap (((Vr : Nat) : Int) * 4294967296))) ?_
          refine pkq (uN u0) <| pkq (.int .u64 (IntKind.u64.wrap (IntKind.u64.wrap (((Vr : Nat) : Int) * 4294967296) + ((u0 : Nat) : Int)))) <| pkq (uN (qB - 1)) <| pkq (uN Y) <| pkq (.int .u64 (IntKind.u64.wrap (((qB - 1 : Nat) : Int) * ((Y : Nat) : Int)))) <| ppq (uN ((Vr * 4294967296 + u0) % Y)) (exec_cast (congrArg (Value.int .u64) ((dig_rest hYs hy0 hy1p hu0 hVY hxB).resolve_right (by omega))) (by kernel_rfl)) <| pkq (uN s) <| ppq (uN (((Vr * 4294967296 + u0) % Y) >>> s)) (exec_binop .shr 40 169 (.tmp 132) (.tmp 133) (by kernel_rfl) (uN (((Vr * 4294967296 + u0) % Y))) (uN s) _ (by kernel_rfl) (by kernel_rfl) (by kernel_rfl) (run_shrU _ _ ((Vr * 4294967296 + u0) % Y) s (by omega))) <| pkq (uN ((hi * 18446744073709551616 + lo) / y)) <| pkq (uN (((Vr * 4294967296 + u0) % Y) >>> s)) <| ps_end <| sy_a ⟨#[uN hi, uN lo, uN Y, ud, ud, ud, uN ((hi * 18446744073709551616 + lo) / y), uN (((Vr * 4294967296 + u0) % Y) >>> s), uN s, uN y1, uN y0, uN U, uN L, uN u1, uN u0, uN qA, uN (rB + y1), uN Vr, uN (qB - 1), uN y, .bool false, ud, uN y, uN hi, .bool false, ud, uN hi, .bool false, ud, ud, ud, ud, ud, ud, uN y, iN s, uN s, uN y, uN s, uN Y, uN Y, uN y1, uN Y, uN y0, uN hi, uN s, uN ((hi <<< s) % Kec.W), uN lo, uN s, uN (64 - s), uN (lo >>> (64 - s)), uN U, uN lo, uN s, uN L, uN L, uN u1, uN L, uN u0, uN U, uN y1, uN (U / y1), uN U, uN (U / y1), uN y1, uN (U / y1 * y1), uN (U - U / y1 * y1), uN qA, .bool false, .bool false, uN qA, uN y0, uN (qA * y0), uN rA, uN (4294967296 * rA), uN u1, uN (4294967296 * rA + u1), .bool false, .bool false, u79, u80, u81, u82, u83, u84, u85, uN U, .int .u64 (IntKind.u64.wrap (((U : Nat) : Int) * 4294967296)), uN u1, .int .u64 (IntKind.u64.wrap (IntKind.u64.wrap (((U : Nat) : Int) * 4294967296) + ((u1 : Nat) : Int))), uN qA, uN Y, .int .u64 (IntKind.u64.wrap (((qA : Nat) : Int) * ((Y : Nat) : Int))), uN Vr, uN Vr, uN y1, uN (Vr / y1), uN Vr, uN (Vr / y1), uN y1, uN (Vr / y1 * y1), uN (Vr - Vr / y1 * y1), uN qB, .bool true, .bool true, ud, ud, ud, ud, ud, ud, ud, ud, .bool true, uN qB, uN (qB - 1), uN rB, uN y1, uN (rB + y1), uN (rB + y1), .bool true, uN qA, uN (qA * 4294967296), uN (qB - 1), uN ((hi * 18446744073709551616 + lo) / y), uN Vr, .int .u64 (IntKind.u64.wrap (((Vr : Nat) : Int) * 4294967296)), uN u0, .int .u64 (IntKind.u64.wrap (IntKind.u64.wrap (((Vr : Nat) : Int) * 4294967296) + ((u0 : Nat) : Int))), uN (qB - 1), uN Y, .int .u64 (IntKind.u64.wrap (((qB - 1 : Nat) : Int) * ((Y : Nat) : Int))), uN ((Vr * 4294967296 + u0) % Y), uN s, uN (((Vr * 4294967296 + u0) % Y) >>> s)], []⟩ <| then_n <| u_ ?_
          refine so_ (.tuple #[.int .u64 (((hi * 18446744073709551616 + lo) / y : Nat) : Int), .int .u64 ((((Vr * 4294967296 + u0) % Y) >>> s : Nat) : Int)]) ?_
          exact ⟨_, rfl, K8⟩
        · obtain ⟨qp, hdn⟩ := dig_step hYs hy0 hy1p hu0 hVY hd (.inr hc)
          refine q_ <| qr_ [0, 1, 2, 3, 4, 5, 6, 7, 8, 9, 10, 11] <| pkq (uN qB) <| ppq (.bool false) (dcf ((((qB : Nat) : Int)) ≥ ((4294967296) : Int)) (by omega)) <| pkq (.bool false) <| pkq (uN qB) <| pkq (uN y0) <| ppq (uN (qB * y0)) (exec_cast (congrArg (Value.int .u64) (wrapU (qB * y0) (mul_small hq hy0))) (by kernel_rfl)) <| pkq (uN rB) <| ppq (uN (4294967296 * rB)) (exec_cast (congrArg (Value.int .u64) (wrapU (4294967296 * rB) (by omega))) (by kernel_rfl)) <| pkq (uN u0) <| ppq (uN (4294967296 * rB + u0)) (exec_cast (congrArg (Value.int .u64) (wrapU (4294967296 * rB + u0) (by omega))) (by kernel_rfl)) <| ppq (.bool true) (dct ((((qB * y0 : Nat) : Int)) > (((4294967296 * rB + u0 : Nat) : Int))) (by omega)) <| pkq (.bool true) ?_
          refine ey_ <| s_ <| then_n <| bl_ 3 <| qr_ [0, 1, 2] <| pkq (uN qB) <| ppq (uN (qB - 1)) (exec_cast (congrArg (Value.int .u64) (wrap_sub qB 1 qp (by omega))) (by kernel_rfl)) <| pkq (uN (qB - 1)) <| eqr_ [0, 1, 2, 3] <| pkq (uN rB) <| pkq (uN y1) <| ppq (uN (rB + y1)) (exec_cast (congrArg (Value.int .u64) (wrapU (rB + y1) (by omega))) (by kernel_rfl)) <| pkq (uN (rB + y1)) <| eqr_ [0, 1] ?_
          refine pkq (uN (rB + y1)) <| ppq (.bool false) (dcf ((((rB + y1 : Nat) : Int)) ≥ ((4294967296) : Int)) (by omega)) <| en_ <| s_ <| blk_n <| then_n ?_
          refine ⟨⟨qB - 1, rB + y1, (uN qB), (.bool false), (.bool false), (uN qB), (uN y0), (uN (qB * y0)), (uN rB), (uN (4294967296 * rB)), (uN u0), (uN (4294967296 * rB + u0)), (.bool true), (.bool true), (uN qB), (uN (qB - 1)), (uN rB), (uN y1), (uN (rB + y1)), (uN (rB + y1)), (.bool false), by kernel_rfl, hdn, by omega, by omega, K8⟩, ?_⟩
          exact lt_meas (x := qB - 1) (y := qB) (by kernel_rfl) (by kernel_rfl) (by omega)
        · obtain ⟨qp, hdn⟩ := dig_step hYs hy0 hy1p hu0 hVY hd (.inr hc)
          have hxB : qB - 1 = (Vr * 4294967296 + u0) / Y := dig_done hYs hy0 hy1p hu0 hVY hdn (.inr hr2)
          refine q_ <| qr_ [0, 1, 2, 3, 4, 5, 6, 7, 8, 9, 10, 11] <| pkq (uN qB) <| ppq (.bool false) (dcf ((((qB : Nat) : Int)) ≥ ((4294967296) : Int)) (by omega)) <| pkq (.bool false) <| pkq (uN qB) <| pkq (uN y0) <| ppq (uN (qB * y0)) (exec_cast (congrArg (Value.int .u64) (wrapU (qB * y0) (mul_small hq hy0))) (by kernel_rfl)) <| pkq (uN rB) <| ppq (uN (4294967296 * rB)) (exec_cast (congrArg (Value.int .u64) (wrapU (4294967296 * rB) (by omega))) (by kernel_rfl)) <| pkq (uN u0) <| ppq (uN (4294967296 * rB + u0)) (exec_cast (congrArg (Value.int .u64) (wrapU (4294967296 * rB + u0) (by omega))) (by kernel_rfl)) <| ppq (.bool true) (dct ((((qB * y0 : Nat) : Int)) > (((4294967296 * rB + u0 : Nat) : Int))) (by omega)) <| pkq (.bool true) ?_
          refine ey_ <| s_ <| then_n <| bl_ 3 <| qr_ [0, 1, 2] <| pkq (uN qB) <| ppq (uN (qB - 1)) (exec_cast (congrArg (Value.int .u64) (wrap_sub qB 1 qp (by omega))) (by kernel_rfl)) <| pkq (uN (qB - 1)) <| eqr_ [0, 1, 2, 3] <| pkq (uN rB) <| pkq (uN y1) <| ppq (uN (rB + y1)) (exec_cast (congrArg (Value.int .u64) (wrapU (rB + y1) (by omega))) (by kernel_rfl)) <| pkq (uN (rB + y1)) <| eqr_ [0, 1] ?_
          refine pkq (uN (rB + y1)) <| ppq (.bool true) (dct ((((rB + y1 : Nat) : Int)) ≥ ((4294967296) : Int)) (by omega)) <| ey_ <| sy_exit 2 (by kernel_rfl) <| blk_p (by decide) <| then_e <| blk_e <| tqr_ [0, 1, 2, 3, 4, 5, 6, 7, 8, 9, 10, 11, 12, 13, 14, 15] <| pkq (uN qA) <| ppq (uN (qA * 4294967296)) (exec_cast (congrArg (Value.int .u64) (wrapU (qA * 4294967296) (by have := dig_lt hYs hy0 hy1p hu1 hUY; rw [← hxA] at this; omega))) (by kernel_rfl)) <| pkq (uN (qB - 1)) <| ppq (uN ((hi * 18446744073709551616 + lo) / y)) (exec_cast (congrArg (Value.int .u64) ((wrapU (qA * 4294967296 + (qB - 1)) (by have g1 := dig_lt hYs hy0 hy1p hu1 hUY; have g2 := dig_lt hYs hy0 hy1p hu0 hVY; rw [← hxA] at g1; rw [← hxB] at g2; omega)).trans (congrArg (fun n : Nat => (n : Int)) (div_end hy1 hYe hsum hLs hxA hVr hxB)))) (by kernel_rfl)) <| pkq (uN Vr) <| pkq (.int .u64 (IntKind.u64.wrap (((Vr : Nat) : Int) * 4294967296))) ?_
          refine pkq (uN u0) <| pkq (.int .u64 (IntKind.u64.wrap (IntKind.u64.wrap (((Vr : Nat) : Int) * 4294967296) + ((u0 : Nat) : Int)))) <| pkq (uN (qB - 1)) <| pkq (uN Y) <| pkq (.int .u64 (IntKind.u64.wrap (((qB - 1 : Nat) : Int) * ((Y : Nat) : Int)))) <| ppq (uN ((Vr * 4294967296 + u0) % Y)) (exec_cast (congrArg (Value.int .u64) ((dig_rest hYs hy0 hy1p hu0 hVY hxB).resolve_right (by omega))) (by kernel_rfl)) <| pkq (uN s) <| ppq (uN (((Vr * 4294967296 + u0) % Y) >>> s)) (exec_binop .shr 40 169 (.tmp 132) (.tmp 133) (by kernel_rfl) (uN (((Vr * 4294967296 + u0) % Y))) (uN s) _ (by kernel_rfl) (by kernel_rfl) (by kernel_rfl) (run_shrU _ _ ((Vr * 4294967296 + u0) % Y) s (by omega))) <| pkq (uN ((hi * 18446744073709551616 + lo) / y)) <| pkq (uN (((Vr * 4294967296 + u0) % Y) >>> s)) <| ps_end <| sy_a ⟨#[uN hi, uN lo, uN Y, ud, ud, ud, uN ((hi * 18446744073709551616 + lo) / y), uN (((Vr * 4294967296 + u0) % Y) >>> s), uN s, uN y1, uN y0, uN U, uN L, uN u1, uN u0, uN qA, uN (rB + y1), uN Vr, uN (qB - 1), uN y, .bool false, ud, uN y, uN hi, .bool false, ud, uN hi, .bool false, ud, ud, ud, ud, ud, ud, uN y, iN s, uN s, uN y, uN s, uN Y, uN Y, uN y1, uN Y, uN y0, uN hi, uN s, uN ((hi <<< s) % Kec.W), uN lo, uN s, uN (64 - s), uN (lo >>> (64 - s)), uN U, uN lo, uN s, uN L, uN L, uN u1, uN L, uN u0, uN U, uN y1, uN (U / y1), uN U, uN (U / y1), uN y1, uN (U / y1 * y1), uN (U - U / y1 * y1), uN qA, .bool false, .bool false, uN qA, uN y0, uN (qA * y0), uN rA, uN (4294967296 * rA), uN u1, uN (4294967296 * rA + u1), .bool false, .bool false, u79, u80, u81, u82, u83, u84, u85, uN U, .int .u64 (IntKind.u64.wrap (((U : Nat) : Int) * 4294967296)), uN u1, .int .u64 (IntKind.u64.wrap (IntKind.u64.wrap (((U : Nat) : Int) * 4294967296) + ((u1 : Nat) : Int))), uN qA, uN Y, .int .u64 (IntKind.u64.wrap (((qA : Nat) : Int) * ((Y : Nat) : Int))), uN Vr, uN Vr, uN y1, uN (Vr / y1), uN Vr, uN (Vr / y1), uN y1, uN (Vr / y1 * y1), uN (Vr - Vr / y1 * y1), uN qB, .bool false, .bool false, uN qB, uN y0, uN (qB * y0), uN rB, uN (4294967296 * rB), uN u0, uN (4294967296 * rB + u0), .bool true, .bool true, uN qB, uN (qB - 1), uN rB, uN y1, uN (rB + y1), uN (rB + y1), .bool true, uN qA, uN (qA * 4294967296), uN (qB - 1), uN ((hi * 18446744073709551616 + lo) / y), uN Vr, .int .u64 (IntKind.u64.wrap (((Vr : Nat) : Int) * 4294967296)), uN u0, .int .u64 (IntKind.u64.wrap (IntKind.u64.wrap (((Vr : Nat) : Int) * 4294967296) + ((u0 : Nat) : Int))), uN (qB - 1), uN Y, .int .u64 (IntKind.u64.wrap (((qB - 1 : Nat) : Int) * ((Y : Nat) : Int))), uN ((Vr * 4294967296 + u0) % Y), uN s, uN (((Vr * 4294967296 + u0) % Y) >>> s)], []⟩ <| then_n <| u_ ?_
          refine so_ (.tuple #[.int .u64 (((hi * 18446744073709551616 + lo) / y : Nat) : Int), .int .u64 ((((Vr * 4294967296 + u0) % Y) >>> s : Nat) : Int)]) ?_
          exact ⟨_, rfl, K8⟩
        · have hxB : qB = (Vr * 4294967296 + u0) / Y := dig_done hYs hy0 hy1p hu0 hVY hd (.inl ⟨hq, hc⟩)
          refine q_ <| qr_ [0, 1, 2, 3, 4, 5, 6, 7, 8, 9, 10, 11] <| pkq (uN qB) <| ppq (.bool false) (dcf ((((qB : Nat) : Int)) ≥ ((4294967296) : Int)) (by omega)) <| pkq (.bool false) <| pkq (uN qB) <| pkq (uN y0) <| ppq (uN (qB * y0)) (exec_cast (congrArg (Value.int .u64) (wrapU (qB * y0) (mul_small hq hy0))) (by kernel_rfl)) <| pkq (uN rB) <| ppq (uN (4294967296 * rB)) (exec_cast (congrArg (Value.int .u64) (wrapU (4294967296 * rB) (by omega))) (by kernel_rfl)) <| pkq (uN u0) <| ppq (uN (4294967296 * rB + u0)) (exec_cast (congrArg (Value.int .u64) (wrapU (4294967296 * rB + u0) (by omega))) (by kernel_rfl)) <| ppq (.bool false) (dcf ((((qB * y0 : Nat) : Int)) > (((4294967296 * rB + u0 : Nat) : Int))) (by omega)) <| pkq (.bool false) ?_
          refine en_ <| sy_exit 2 (by kernel_rfl) <| then_e <| then_e <| blk_e <| tqr_ [0, 1, 2, 3, 4, 5, 6, 7, 8, 9, 10, 11, 12, 13, 14, 15] <| pkq (uN qA) <| ppq (uN (qA * 4294967296)) (exec_cast (congrArg (Value.int .u64) (wrapU (qA * 4294967296) (by have := dig_lt hYs hy0 hy1p hu1 hUY; rw [← hxA] at this; omega))) (by kernel_rfl)) <| pkq (uN qB) <| ppq (uN ((hi * 18446744073709551616 + lo) / y)) (exec_cast (congrArg (Value.int .u64) ((wrapU (qA * 4294967296 + qB) (by have g1 := dig_lt hYs hy0 hy1p hu1 hUY; have g2 := dig_lt hYs hy0 hy1p hu0 hVY; rw [← hxA] at g1; rw [← hxB] at g2; omega)).trans (congrArg (fun n : Nat => (n : Int)) (div_end hy1 hYe hsum hLs hxA hVr hxB)))) (by kernel_rfl)) <| pkq (uN Vr) <| pkq (.int .u64 (IntKind.u64.wrap (((Vr : Nat) : Int) * 4294967296))) <| pkq (uN u0) <| pkq (.int .u64 (IntKind.u64.wrap (IntKind.u64.wrap (((Vr : Nat) : Int) * 4294967296) + ((u0 : Nat) : Int)))) ?_
          refine pkq (uN qB) <| pkq (uN Y) <| pkq (.int .u64 (IntKind.u64.wrap (((qB : Nat) : Int) * ((Y : Nat) : Int)))) <| ppq (uN ((Vr * 4294967296 + u0) % Y)) (exec_cast (congrArg (Value.int .u64) ((dig_rest hYs hy0 hy1p hu0 hVY hxB).resolve_right (by omega))) (by kernel_rfl)) <| pkq (uN s) <| ppq (uN (((Vr * 4294967296 + u0) % Y) >>> s)) (exec_binop .shr 40 169 (.tmp 132) (.tmp 133) (by kernel_rfl) (uN (((Vr * 4294967296 + u0) % Y))) (uN s) _ (by kernel_rfl) (by kernel_rfl) (by kernel_rfl) (run_shrU _ _ ((Vr * 4294967296 + u0) % Y) s (by omega))) <| pkq (uN ((hi * 18446744073709551616 + lo) / y)) <| pkq (uN (((Vr * 4294967296 + u0) % Y) >>> s)) <| ps_end <| sy_a ⟨#[uN hi, uN lo, uN Y, ud, ud, ud, uN ((hi * 18446744073709551616 + lo) / y), uN (((Vr * 4294967296 + u0) % Y) >>> s), uN s, uN y1, uN y0, uN U, uN L, uN u1, uN u0, uN qA, uN rB, uN Vr, uN qB, uN y, .bool false, ud, uN y, uN hi, .bool false, ud, uN hi, .bool false, ud, ud, ud, ud, ud, ud, uN y, iN s, uN s, uN y, uN s, uN Y, uN Y, uN y1, uN Y, uN y0, uN hi, uN s, uN ((hi <<< s) % Kec.W), uN lo, uN s, uN (64 - s), uN (lo >>> (64 - s)), uN U, uN lo, uN s, uN L, uN L, uN u1, uN L, uN u0, uN U, uN y1, uN (U / y1), uN U, uN (U / y1), uN y1, uN (U / y1 * y1), uN (U - U / y1 * y1), uN qA, .bool false, .bool false, uN qA, uN y0, uN (qA * y0), uN rA, uN (4294967296 * rA), uN u1, uN (4294967296 * rA + u1), .bool false, .bool false, u79, u80, u81, u82, u83, u84, u85, uN U, .int .u64 (IntKind.u64.wrap (((U : Nat) : Int) * 4294967296)), uN u1, .int .u64 (IntKind.u64.wrap (IntKind.u64.wrap (((U : Nat) : Int) * 4294967296) + ((u1 : Nat) : Int))), uN qA, uN Y, .int .u64 (IntKind.u64.wrap (((qA : Nat) : Int) * ((Y : Nat) : Int))), uN Vr, uN Vr, uN y1, uN (Vr / y1), uN Vr, uN (Vr / y1), uN y1, uN (Vr / y1 * y1), uN (Vr - Vr / y1 * y1), uN qB, .bool false, .bool false, uN qB, uN y0, uN (qB * y0), uN rB, uN (4294967296 * rB), uN u0, uN (4294967296 * rB + u0), .bool false, .bool false, u114, u115, u116, u117, u118, u119, u120, uN qA, uN (qA * 4294967296), uN qB, uN ((hi * 18446744073709551616 + lo) / y), uN Vr, .int .u64 (IntKind.u64.wrap (((Vr : Nat) : Int) * 4294967296)), uN u0, .int .u64 (IntKind.u64.wrap (IntKind.u64.wrap (((Vr : Nat) : Int) * 4294967296) + ((u0 : Nat) : Int))), uN qB, uN Y, .int .u64 (IntKind.u64.wrap (((qB : Nat) : Int) * ((Y : Nat) : Int))), uN ((Vr * 4294967296 + u0) % Y), uN s, uN (((Vr * 4294967296 + u0) % Y) >>> s)], []⟩ <| then_n <| u_ <| so_ (.tuple #[.int .u64 (((hi * 18446744073709551616 + lo) / y : Nat) : Int), .int .u64 ((((Vr * 4294967296 + u0) % Y) >>> s : Nat) : Int)]) ?_
          exact ⟨_, rfl, K8⟩
/-- Div64: the quotient of two words by one that is above the higher one. -/
theorem bDiv64_ok (hi lo y : Nat) (hh : hi < y) (hy2 : y < 18446744073709551616) (hlo : lo < 18446744073709551616) (w : World) : Calls Tryz.prog 94 #[.int .u64 ((hi : Nat) : Int), .int .u64 ((lo : Nat) : Int), .int .u64 ((y : Nat) : Int)] w (fun e w' => ∃ r : Nat, e = .returned (.tuple #[.int .u64 (((hi * 18446744073709551616 + lo) / y : Nat) : Int), .int .u64 ((r : Nat) : Int)]) ∧ Keeps Nob w w') := by
  by_cases hz : hi = 0
  · exact bDiv64_zero hi lo y hz (by omega) hlo w
  · exact bDiv64_pos hi lo y (by omega) hh hy2 hlo w
end Go.Proofs.YtghohakbepeffaaGreatDoor
namespace Go.Proofs.YtghohakbepeffaaGreatDoor
set_option maxRecDepth 100000
set_option maxHeartbeats 4000000
open Go Go.RowKit Go.Own Go.Shelf
theorem run_sub0 (x y : Nat) (w : World) : (callFunc 95 #[.int .u64 ((x : Nat) : Int), .int .u64 ((y : Nat) : Int), .int .u64 ((0 : Nat) : Int)]).run Tryz.prog w = .ok (.value (.tuple #[.int .u64 (((x + 18446744073709551616 - y - 0) % 18446744073709551616 : Nat) : Int), .int .u64 ((if x < y + 0 then 1 else 0 : Nat) : Int)])) w := by kernel_rfl
theorem run_sub1 (x y : Nat) (w : World) : (callFunc 95 #[.int .u64 ((x : Nat) : Int), .int .u64 ((y : Nat) : Int), .int .u64 ((1 : Nat) : Int)]).run Tryz.prog w = .ok (.value (.tuple #[.int .u64 (((x + 18446744073709551616 - y - 1) % 18446744073709551616 : Nat) : Int), .int .u64 ((if x < y + 1 then 1 else 0 : Nat) : Int)])) w := by kernel_rfl
theorem run_bSub64 (x y b : Nat) (hb : b ≤ 1) (w : World) : (callFunc 95 #[.int .u64 ((x : Nat) : Int), .int .u64 ((y : Nat) : Int), .int .u64 ((b : Nat) : Int)]).run Tryz.prog w = .ok (.value (.tuple #[.int .u64 (((x + 18446744073709551616 - y - b) % 18446744073709551616 : Nat) : Int), .int .u64 ((if x < y + b then 1 else 0 : Nat) : Int)])) w := by
  match b, hb with
  | 0, _ => exact run_sub0 x y w
  | 1, _ => exact run_sub1 x y w
theorem shr32 (x : Nat) : x >>> 32 = x / 4294967296 := Nat.shiftRight_eq_div_pow x 32
theorem and32 (x : Nat) : x &&& 4294967295 = x % 4294967296 := Nat.and_two_pow_sub_one_eq_mod x 32
theorem over_law {hi lo c : Nat} (_ : 0 < c) : (hi * 18446744073709551616 + lo) / c = hi / c * 18446744073709551616 + (hi % c * 18446744073709551616 + lo) / c := by
  have e := Nat.div_add_mod hi c
  have : hi * 18446744073709551616 + lo = (hi % c * 18446744073709551616 + lo) + c * (hi / c * 18446744073709551616) := by
    rw [← Nat.mul_assoc]
    conv => lhs; rw [← e]
    rw [Nat.add_mul]; omega
  rw [this, Nat.add_mul_div_left _ _ (by omega)]
  omega
theorem over_lt {hi lo c : Nat} (hc : 0 < c) (hl : lo < 18446744073709551616) : (hi % c * 18446744073709551616 + lo) / c < 18446744073709551616 := by
  rw [Nat.div_lt_iff_lt_mul hc]
  have := Nat.mod_lt hi hc
  have g := Nat.mul_le_mul_right 18446744073709551616 (Nat.succ_le_of_lt this)
  rw [Nat.mul_comm 18446744073709551616 c]
  rw [Nat.succ_mul] at g
  omega
noncomputable def qc33_4 (n : Nat) : Code := partOf Tryz.f93 n
theorem bMul64_ok (x y : Nat) (hx : x < 18446744073709551616) (hy : y < 18446744073709551616) (w : World) :
    Calls Tryz.prog 93 #[.int .u64 ((x : Nat) : Int), .int .u64 ((y : Nat) : Int)] w (fun e w' => e = .returned (.tuple #[.int .u64 ((x * y / 18446744073709551616 : Nat) : Int), .int .u64 ((x * y % 18446744073709551616 : Nat) : Int)]) ∧ w = w') := by
  obtain ⟨bd, bt, bw, hhi⟩ := Lib.mul64_hi x y hx hy
  have ba : (x / 4294967296) * (y / 4294967296) < 18446744073709551616 := by have := Lib.half_mul_le (a := x / 4294967296) (b := y / 4294967296) (by omega) (by omega); omega
  have bb : (x / 4294967296) * (y % 4294967296) < 18446744073709551616 := by have := Lib.half_mul_le (a := x / 4294967296) (b := y % 4294967296) (by omega) (by omega); omega
  have bc : (x % 4294967296) * (y / 4294967296) < 18446744073709551616 := by have := Lib.half_mul_le (a := x % 4294967296) (b := y / 4294967296) (by omega) (by omega); omega
  have bz : x * y / 18446744073709551616 < 18446744073709551616 := by rw [Nat.div_lt_iff_lt_mul (by decide)]; exact Nat.mul_lt_mul'' hx hy
  have K0 : Keeps Nob w w := Keeps.refl _ _
  refine sy_enter (qc33_4 1) ⟨#[uN x, uN y, ud, ud, ud, ud, ud, ud, ud, ud, ud, ud, ud, ud, ud, ud, ud, ud, ud, ud, ud, ud, ud, ud, ud, ud, ud, ud, ud, ud, ud, ud, ud, ud, ud, ud, ud, ud, ud, ud, ud, ud, ud, ud, ud, ud, ud, ud, ud, ud, ud], []⟩ Tryz.func93 (by kernel_rfl) (by kernel_rfl) <| qr_ [0, 1] <| pkq (.int .u64 0) <| pkq (.int .u64 0) <| eqr_ [0, 1, 2] <| pkq (uN x) <| ppq (uN (x % 4294967296)) (exec_cast ((andU x 4294967295 (show x < Kec.W from hx) (by decide)).trans (congrArg (fun n : Nat => Value.int .u64 (n : Int)) (and32 x))) (by kernel_rfl)) <| pkq (uN (x % 4294967296)) <| eqr_ [0, 1, 2] <| pkq (uN x) <| ppq (uN (x / 4294967296)) (exec_cast (congrArg (fun n : Nat => Value.int .u64 (n : Int)) (shr32 x)) (exec_binop .shr 40 169 (.tmp 16) (.const (.int .u64 32)) (by kernel_rfl) (uN x) (uN 32) _ (by kernel_rfl) (by kernel_rfl) (by kernel_rfl) (run_shrU _ _ x 32 (by omega)))) <| pkq (uN (x / 4294967296)) <| eqr_ [0, 1, 2] <| pkq (uN y) ?_
  refine ppq (uN (y % 4294967296)) (exec_cast ((andU y 4294967295 (show y < Kec.W from hy) (by decide)).trans (congrArg (fun n : Nat => Value.int .u64 (n : Int)) (and32 y))) (by kernel_rfl)) <| pkq (uN (y % 4294967296)) <| eqr_ [0, 1, 2] <| pkq (uN y) <| ppq (uN (y / 4294967296)) (exec_cast (congrArg (fun n : Nat => Value.int .u64 (n : Int)) (shr32 y)) (exec_binop .shr 40 169 (.tmp 20) (.const (.int .u64 32)) (by kernel_rfl) (uN y) (uN 32) _ (by kernel_rfl) (by kernel_rfl) (by kernel_rfl) (run_shrU _ _ y 32 (by omega)))) <| pkq (uN (y / 4294967296)) <| eqr_ [0, 1, 2, 3] <| pkq (uN (x % 4294967296)) <| pkq (uN (y % 4294967296)) <| ppq (uN ((x % 4294967296) * (y % 4294967296))) (exec_cast (congrArg (Value.int .u64) (wrapU ((x % 4294967296) * (y % 4294967296)) (bd))) (by kernel_rfl)) <| pkq (uN ((x % 4294967296) * (y % 4294967296))) <| eqr_ [0, 1, 2, 3, 4, 5, 6] <| pkq (uN (x / 4294967296)) <| pkq (uN (y % 4294967296)) ?_
  refine ppq (uN ((x / 4294967296) * (y % 4294967296))) (exec_cast (congrArg (Value.int .u64) (wrapU ((x / 4294967296) * (y % 4294967296)) (bb))) (by kernel_rfl)) <| pkq (uN ((x % 4294967296) * (y % 4294967296))) <| ppq (uN (((x % 4294967296) * (y % 4294967296)) / 4294967296)) (exec_cast (congrArg (fun n : Nat => Value.int .u64 (n : Int)) (shr32 ((x % 4294967296) * (y % 4294967296)))) (exec_binop .shr 40 169 (.tmp 28) (.const (.int .u64 32)) (by kernel_rfl) (uN ((x % 4294967296) * (y % 4294967296))) (uN 32) _ (by kernel_rfl) (by kernel_rfl) (by kernel_rfl) (run_shrU _ _ ((x % 4294967296) * (y % 4294967296)) 32 (by omega)))) <| ppq (uN ((x / 4294967296) * (y % 4294967296) + ((x % 4294967296) * (y % 4294967296)) / 4294967296)) (exec_cast (congrArg (Value.int .u64) (wrapU ((x / 4294967296) * (y % 4294967296) + ((x % 4294967296) * (y % 4294967296)) / 4294967296) (bt))) (by kernel_rfl)) <| pkq (uN ((x / 4294967296) * (y % 4294967296) + ((x % 4294967296) * (y % 4294967296)) / 4294967296)) <| ps_end <| sy_a ⟨#[uN x, uN y, ud, ud, .int .u64 0, .int .u64 0, uN (x % 4294967296), uN (x / 4294967296), uN (y % 4294967296), uN (y / 4294967296), uN ((x % 4294967296) * (y % 4294967296)), uN ((x / 4294967296) * (y % 4294967296) + ((x % 4294967296) * (y % 4294967296)) / 4294967296), ud, ud, uN x, uN (x % 4294967296), uN x, uN (x / 4294967296), uN y, uN (y % 4294967296), uN y, uN (y / 4294967296), uN (x % 4294967296), uN (y % 4294967296), uN ((x % 4294967296) * (y % 4294967296)), uN (x / 4294967296), uN (y % 4294967296), uN ((x / 4294967296) * (y % 4294967296)), uN ((x % 4294967296) * (y % 4294967296)), uN (((x % 4294967296) * (y % 4294967296)) / 4294967296), uN ((x / 4294967296) * (y % 4294967296) + ((x % 4294967296) * (y % 4294967296)) / 4294967296), ud, ud, ud, ud, ud, ud, ud, ud, ud, ud, ud, ud, ud, ud, ud, ud, ud, ud, ud, ud], []⟩ <| tqr_ [0, 1, 2] <| pkq (uN ((x / 4294967296) * (y % 4294967296) + ((x % 4294967296) * (y % 4294967296)) / 4294967296)) <| ppq (uN (((x / 4294967296) * (y % 4294967296) + ((x % 4294967296) * (y % 4294967296)) / 4294967296) % 4294967296)) (exec_cast ((andU ((x / 4294967296) * (y % 4294967296) + ((x % 4294967296) * (y % 4294967296)) / 4294967296) 4294967295 (show _ < Kec.W from bt) (by decide)).trans (congrArg (fun n : Nat => Value.int .u64 (n : Int)) (and32 ((x / 4294967296) * (y % 4294967296) + ((x % 4294967296) * (y % 4294967296)) / 4294967296)))) (by kernel_rfl)) <| pkq (uN (((x / 4294967296) * (y % 4294967296) + ((x % 4294967296) * (y % 4294967296)) / 4294967296) % 4294967296)) <| eqr_ [0, 1, 2] <| pkq (uN ((x / 4294967296) * (y % 4294967296) + ((x % 4294967296) * (y % 4294967296)) / 4294967296)) <| ppq (uN (((x / 4294967296) * (y % 4294967296) + ((x % 4294967296) * (y % 4294967296)) / 4294967296) / 4294967296)) (exec_cast (congrArg (fun n : Nat => Value.int .u64 (n : Int)) (shr32 ((x / 4294967296) * (y % 4294967296) + ((x % 4294967296) * (y % 4294967296)) / 4294967296))) (exec_binop .shr 40 169 (.tmp 33) (.const (.int .u64 32)) (by kernel_rfl) (uN ((x / 4294967296) * (y % 4294967296) + ((x % 4294967296) * (y % 4294967296)) / 4294967296)) (uN 32) _ (by kernel_rfl) (by kernel_rfl) (by kernel_rfl) (run_shrU _ _ ((x / 4294967296) * (y % 4294967296) + ((x % 4294967296) * (y % 4294967296)) / 4294967296) 32 (by omega)))) ?_
  refine pkq (uN (((x / 4294967296) * (y % 4294967296) + ((x % 4294967296) * (y % 4294967296)) / 4294967296) / 4294967296)) <| eqr_ [0, 1, 2, 3, 4, 5] <| pkq (uN (((x / 4294967296) * (y % 4294967296) + ((x % 4294967296) * (y % 4294967296)) / 4294967296) % 4294967296)) <| pkq (uN (x % 4294967296)) <| pkq (uN (y / 4294967296)) <| ppq (uN ((x % 4294967296) * (y / 4294967296))) (exec_cast (congrArg (Value.int .u64) (wrapU ((x % 4294967296) * (y / 4294967296)) (bc))) (by kernel_rfl)) <| ppq (uN (((x / 4294967296) * (y % 4294967296) + ((x % 4294967296) * (y % 4294967296)) / 4294967296) % 4294967296 + (x % 4294967296) * (y / 4294967296))) (exec_cast (congrArg (Value.int .u64) (wrapU (((x / 4294967296) * (y % 4294967296) + ((x % 4294967296) * (y % 4294967296)) / 4294967296) % 4294967296 + (x % 4294967296) * (y / 4294967296)) (bw))) (by kernel_rfl)) <| pkq (uN (((x / 4294967296) * (y % 4294967296) + ((x % 4294967296) * (y % 4294967296)) / 4294967296) % 4294967296 + (x % 4294967296) * (y / 4294967296))) <| eqr_ [0, 1, 2, 3, 4, 5, 6, 7, 8] <| pkq (uN (x / 4294967296)) <| pkq (uN (y / 4294967296)) <| ppq (uN ((x / 4294967296) * (y / 4294967296))) (exec_cast (congrArg (Value.int .u64) (wrapU ((x / 4294967296) * (y / 4294967296)) (ba))) (by kernel_rfl)) <| pkq (uN (((x / 4294967296) * (y % 4294967296) + ((x % 4294967296) * (y % 4294967296)) / 4294967296) / 4294967296)) <| ppq (uN ((x / 4294967296) * (y / 4294967296) + ((x / 4294967296) * (y % 4294967296) + ((x % 4294967296) * (y % 4294967296)) / 4294967296) / 4294967296)) (exec_cast (congrArg (Value.int .u64) (wrapU ((x / 4294967296) * (y / 4294967296) + ((x / 4294967296) * (y % 4294967296) + ((x % 4294967296) * (y % 4294967296)) / 4294967296) / 4294967296) (by omega))) (by kernel_rfl)) ?_
  refine pkq (uN (((x / 4294967296) * (y % 4294967296) + ((x % 4294967296) * (y % 4294967296)) / 4294967296) % 4294967296 + (x % 4294967296) * (y / 4294967296))) <| ppq (uN ((((x / 4294967296) * (y % 4294967296) + ((x % 4294967296) * (y % 4294967296)) / 4294967296) % 4294967296 + (x % 4294967296) * (y / 4294967296)) / 4294967296)) (exec_cast (congrArg (fun n : Nat => Value.int .u64 (n : Int)) (shr32 (((x / 4294967296) * (y % 4294967296) + ((x % 4294967296) * (y % 4294967296)) / 4294967296) % 4294967296 + (x % 4294967296) * (y / 4294967296)))) (exec_binop .shr 40 169 (.tmp 45) (.const (.int .u64 32)) (by kernel_rfl) (uN (((x / 4294967296) * (y % 4294967296) + ((x % 4294967296) * (y % 4294967296)) / 4294967296) % 4294967296 + (x % 4294967296) * (y / 4294967296))) (uN 32) _ (by kernel_rfl) (by kernel_rfl) (by kernel_rfl) (run_shrU _ _ (((x / 4294967296) * (y % 4294967296) + ((x % 4294967296) * (y % 4294967296)) / 4294967296) % 4294967296 + (x % 4294967296) * (y / 4294967296)) 32 (by omega)))) <| ppq (uN (x * y / 18446744073709551616)) (exec_cast (congrArg (Value.int .u64) ((wrapU ((x / 4294967296) * (y / 4294967296) + ((x / 4294967296) * (y % 4294967296) + ((x % 4294967296) * (y % 4294967296)) / 4294967296) / 4294967296 + (((x / 4294967296) * (y % 4294967296) + ((x % 4294967296) * (y % 4294967296)) / 4294967296) % 4294967296 + (x % 4294967296) * (y / 4294967296)) / 4294967296) (by omega)).trans (congrArg (fun n : Nat => (n : Int)) hhi))) (by kernel_rfl)) <| pkq (uN (x * y / 18446744073709551616)) <| eqr_ [0, 1, 2, 3] <| pkq (uN x) <| pkq (uN y) <| ppq (uN (x * y % 18446744073709551616)) (exec_cast (congrArg (Value.int .u64) (wrapM (x * y))) (by kernel_rfl)) <| pkq (uN (x * y % 18446744073709551616)) <| ps_end <| sy_a ⟨#[uN x, uN y, ud, ud, uN (x * y / 18446744073709551616), uN (x * y % 18446744073709551616), uN (x % 4294967296), uN (x / 4294967296), uN (y % 4294967296), uN (y / 4294967296), uN ((x % 4294967296) * (y % 4294967296)), uN ((x / 4294967296) * (y % 4294967296) + ((x % 4294967296) * (y % 4294967296)) / 4294967296), uN (((x / 4294967296) * (y % 4294967296) + ((x % 4294967296) * (y % 4294967296)) / 4294967296) % 4294967296 + (x % 4294967296) * (y / 4294967296)), uN (((x / 4294967296) * (y % 4294967296) + ((x % 4294967296) * (y % 4294967296)) / 4294967296) / 4294967296), uN x, uN (x % 4294967296), uN x, uN (x / 4294967296), uN y, uN (y % 4294967296), uN y, uN (y / 4294967296), uN (x % 4294967296), uN (y % 4294967296), uN ((x % 4294967296) * (y % 4294967296)), uN (x / 4294967296), uN (y % 4294967296), uN ((x / 4294967296) * (y % 4294967296)), uN ((x % 4294967296) * (y % 4294967296)), uN (((x % 4294967296) * (y % 4294967296)) / 4294967296), uN ((x / 4294967296) * (y % 4294967296) + ((x % 4294967296) * (y % 4294967296)) / 4294967296), uN ((x / 4294967296) * (y % 4294967296) + ((x % 4294967296) * (y % 4294967296)) / 4294967296), uN (((x / 4294967296) * (y % 4294967296) + ((x % 4294967296) * (y % 4294967296)) / 4294967296) % 4294967296), uN ((x / 4294967296) * (y % 4294967296) + ((x % 4294967296) * (y % 4294967296)) / 4294967296), uN (((x / 4294967296) * (y % 4294967296) + ((x % 4294967296) * (y % 4294967296)) / 4294967296) / 4294967296), uN (((x / 4294967296) * (y % 4294967296) + ((x % 4294967296) * (y % 4294967296)) / 4294967296) % 4294967296), uN (x % 4294967296), uN (y / 4294967296), uN ((x % 4294967296) * (y / 4294967296)), uN (((x / 4294967296) * (y % 4294967296) + ((x % 4294967296) * (y % 4294967296)) / 4294967296) % 4294967296 + (x % 4294967296) * (y / 4294967296)), uN (x / 4294967296), uN (y / 4294967296), uN ((x / 4294967296) * (y / 4294967296)), uN (((x / 4294967296) * (y % 4294967296) + ((x % 4294967296) * (y % 4294967296)) / 4294967296) / 4294967296), uN ((x / 4294967296) * (y / 4294967296) + ((x / 4294967296) * (y % 4294967296) + ((x % 4294967296) * (y % 4294967296)) / 4294967296) / 4294967296), uN (((x / 4294967296) * (y % 4294967296) + ((x % 4294967296) * (y % 4294967296)) / 4294967296) % 4294967296 + (x % 4294967296) * (y / 4294967296)), uN ((((x / 4294967296) * (y % 4294967296) + ((x % 4294967296) * (y % 4294967296)) / 4294967296) % 4294967296 + (x % 4294967296) * (y / 4294967296)) / 4294967296), uN (x * y / 18446744073709551616), uN x, uN y, uN (x * y % 18446744073709551616)], []⟩ <| then_n <| u_ <| so_ (.tuple #[.int .u64 ((x * y / 18446744073709551616 : Nat) : Int), .int .u64 ((x * y % 18446744073709551616 : Nat) : Int)]) ?_
  exact ⟨rfl, rfl⟩
noncomputable def qc33_2 (n : Nat) : Code := partOf Tryz.f79 n
theorem fxTimes_ok (x y : Nat) (hx : x < 18446744073709551616) (hy : y < 18446744073709551616) (w : World) :
    Calls Tryz.prog 79 #[.int .u64 ((x : Nat) : Int), .int .u64 ((y : Nat) : Int)] w (fun e w' => e = .returned (.agg #[.int .u64 ((x * y / 18446744073709551616 : Nat) : Int), .int .u64 ((x * y % 18446744073709551616 : Nat) : Int)]) ∧ Keeps Nob w w') := by
  have K0 : Keeps Nob w w := Keeps.refl _ _
  refine sy_enter (qc33_2 1) ⟨#[uN x, uN y, ud, ud, ud, ud, ud, ud, ud, ud, ud, ud, ud, ud, ud, ud], []⟩ Tryz.func79 (by kernel_rfl) (by kernel_rfl) <| qr_ [0] <| pal 123 (#[.int .u64 0, .int .u64 0]) (.agg (#[.int .u64 0, .int .u64 0])) fun V1 gw egw h2 kV1 => ?_
  have n3 : w.heap.size ≤ gw := egw ▸ K0.size
  have K4 := K0.nn kV1
  have z5 := kV1.size
  refine eqr_ [0, 1, 2, 3, 4, 5, 6, 7] <| pkq (uN x) <| pkq (uN y) ?_
  refine pcq 93 #[uN x, uN y] Tryz.func93 ((bMul64_ok x y hx hy _).mono ?_)
  rintro e w1 ⟨rfl, rfl⟩
  refine ⟨_, rfl, ?_⟩
  refine pkq (.tuple #[uN (x * y / 18446744073709551616), uN (x * y % 18446744073709551616)]) <| pkq (uN (x * y / 18446744073709551616)) <| pkq (uN (x * y % 18446744073709551616)) <| pkq (uN (x * y / 18446744073709551616)) <| pkq (uN (x * y % 18446744073709551616)) <| eqr_ [0, 1, 2, 3] <| pkq (uN (x * y / 18446744073709551616)) <| pkq (uN (x * y % 18446744073709551616)) <| pkq (.agg #[uN (x * y / 18446744073709551616), uN (x * y % 18446744073709551616)]) ?_
  obtain ⟨V6, eV6, kV6⟩ := rowset_step V1 gw (#[.int .u64 ((x * y / 18446744073709551616 : Nat) : Int), .int .u64 ((x * y % 18446744073709551616 : Nat) : Int)])
  have h7 : V6.heap[gw]? = some (.cells (#[.int .u64 ((x * y / 18446744073709551616 : Nat) : Int), .int .u64 ((x * y % 18446744073709551616 : Nat) : Int)]) 123 (0, 0)) := eV6 ▸ setRow_heap _ _ _ _ _ _ h2
  refine pzq (w' := V6) (by rw [← eV6]; exact exec_store_row 123 (.tmp 4) (.tmp 15) (by kernel_rfl) gw (#[uN (x * y / 18446744073709551616), uN (x * y % 18446744073709551616)]) (by kernel_rfl) (by kernel_rfl) 123 (#[.int .u64 0, .int .u64 0]) h2 (by kernel_rfl) rfl (by kernel_rfl)) ?_
  clear eV6
  have K8 := K4.nO kV6
  have z9 := kV6.size
  refine eu_ <| sy_out (.agg (#[.int .u64 ((x * y / 18446744073709551616 : Nat) : Int), .int .u64 ((x * y % 18446744073709551616 : Nat) : Int)])) rfl (results_cell_row (p := 4) (ty := 123) (by kernel_rfl) _ _ gw 123 (#[.int .u64 ((x * y / 18446744073709551616 : Nat) : Int), .int .u64 ((x * y % 18446744073709551616 : Nat) : Int)]) (0, 0) _ (by kernel_rfl) h7 Tryz.underlying123 rfl (by kernel_rfl)) ?_
  exact ⟨rfl, K8⟩
noncomputable def qc33_3 (n : Nat) : Code := partOf Tryz.f80 n
theorem fxOver_ok (hi lo c : Nat) (hhi : hi < 18446744073709551616) (hlo : lo < 18446744073709551616) (hc : 0 < c) (hc2 : c < 18446744073709551616) (w : World) :
    Calls Tryz.prog 80 #[.agg #[.int .u64 ((hi : Nat) : Int), .int .u64 ((lo : Nat) : Int)], .int .u64 ((c : Nat) : Int)] w (fun e w' => ∃ r : Nat, e = .returned (.tuple #[.agg #[.int .u64 ((hi / c : Nat) : Int), .int .u64 (((hi % c * 18446744073709551616 + lo) / c : Nat) : Int)], .int .u64 ((r : Nat) : Int)]) ∧ Keeps Nob w w') := by
  have K0 : Keeps Nob w w := Keeps.refl _ _
  refine sy_enter (qc33_3 1) ⟨#[.agg #[uN hi, uN lo], uN c, ud, ud, ud, ud, ud, ud, ud, ud, ud, ud, ud, ud, ud, ud, ud, ud, ud, ud, ud, ud, ud, ud, ud, ud], []⟩ Tryz.func80 (by kernel_rfl) (by kernel_rfl) <| qr_ [0, 1, 2] <| pbx 123 (#[.int .u64 ((hi : Nat) : Int), .int .u64 ((lo : Nat) : Int)]) (.agg #[uN hi, uN lo]) fun V1 gx egx h2 kV1 => ?_
  have n3 : w.heap.size ≤ gx := egx ▸ K0.size
  have K4 := K0.nn kV1
  have z5 := kV1.size
  refine pal 123 (#[.int .u64 0, .int .u64 0]) (.agg (#[.int .u64 0, .int .u64 0])) fun V6 gw egw h7 kV6 => ?_
  have n8 : gx < gw := egw ▸ lt_of_block h2
  have n9 : w.heap.size ≤ gw := egw ▸ K4.size
  have h10 := kV6.bk h2
  have K11 := K4.nn kV6
  have z12 := kV6.size
  refine pkq (.int .u64 0) <| eq_ <| sy_np <| sy_reg <| an_begin 1 13 (opsAt (qc33_3 6)) (fun W => (W.heap[gx]? = some (.cells (#[.int .u64 ((hi : Nat) : Int), .int .u64 ((lo : Nat) : Int)]) 123 (0, 0))) ∧ (W.heap[gw]? = some (.cells (#[.int .u64 0, .int .u64 0]) 123 (0, 0)))) #[false, false, false, false, false, false, false, false, false, false, false, false, false] (by kernel_rfl) (by kernel_rfl) (by kernel_rfl) (by kernel_rfl) ?_
  obtain ⟨V13, eV13, kV13⟩ := drew_step V6
  rw [eV13]
  clear eV13
  have h14 := kV13.bk h10
  have h15 := kV13.bk h7
  have K16 := K11.nn kV13
  have z17 := kV13.size
  refine akq 0 (pT gx 0) ⟨h14, h15⟩ <| avq 1 (uN hi) (fun W hS => ldc 40 gx 0 (rc (hS.1) (by kernel_rfl))) ⟨h14, h15⟩ <| akq 2 (uN c) ⟨h14, h15⟩ <| avq 3 (uN (hi % c)) (fun W hS => exec_remU 40 40 (.tmp 10) (.tmp 11) (by kernel_rfl) hi c (by kernel_rfl) (by kernel_rfl) hc hhi) ⟨h14, h15⟩ <| akq 4 (pT gx 1) ⟨h14, h15⟩ <| avq 5 (uN lo) (fun W hS => ldc 40 gx 1 (rc (hS.1) (by kernel_rfl))) ⟨h14, h15⟩ <| akq 6 (uN c) ⟨h14, h15⟩ <| an_o 7 ?_
  refine ncq 94 #[uN (hi % c), uN lo, uN c] Tryz.func94 ((bDiv64_ok (hi % c) lo c (Nat.mod_lt _ hc) hc2 hlo _).mono ?_)
  rintro e V18 ⟨r, rfl, kV18⟩
  refine ⟨_, rfl, ?_⟩
  have h19 := kV18.bk h14
  have h20 := kV18.bk h15
  have K21 := K16.nn kV18
  have z22 := kV18.size
  refine ⟨⟨h19, h20⟩, ?_⟩
  refine akq 8 (.tuple #[uN ((hi % c * 18446744073709551616 + lo) / c), uN r]) ⟨h19, h20⟩ <| akq 9 (uN ((hi % c * 18446744073709551616 + lo) / c)) ⟨h19, h20⟩ <| akq 10 (uN r) ⟨h19, h20⟩ <| an_o 11 <| nrq (uN ((hi % c * 18446744073709551616 + lo) / c)) (w' := V18) (by kernel_rfl) ?_
  refine ⟨⟨h19, h20⟩, ?_⟩
  refine an_o 12 <| nrq (uN r) (w' := V18) (by kernel_rfl) ?_
  refine ⟨⟨h19, h20⟩, ?_⟩
  refine an_end (by kernel_rfl) <| tqr_ [0, 1, 2, 3, 4, 5, 6, 7, 8] <| pkq (pT gx 0) <| ppq (uN hi) (ldk 40 gx 0 h19) <| pkq (uN c) <| ppq (uN (hi / c)) (exec_quoU 40 40 (.tmp 20) (.tmp 21) (by kernel_rfl) hi c (by kernel_rfl) (by kernel_rfl) hc hhi) <| pkq (uN ((hi % c * 18446744073709551616 + lo) / c)) <| pkq (.agg #[uN (hi / c), uN ((hi % c * 18446744073709551616 + lo) / c)]) <| pkq (uN r) ?_
  obtain ⟨V23, eV23, kV23⟩ := rowset_step V18 gw (#[.int .u64 ((hi / c : Nat) : Int), .int .u64 (((hi % c * 18446744073709551616 + lo) / c : Nat) : Int)])
  have h24 : V23.heap[gw]? = some (.cells (#[.int .u64 ((hi / c : Nat) : Int), .int .u64 (((hi % c * 18446744073709551616 + lo) / c : Nat) : Int)]) 123 (0, 0)) := eV23 ▸ setRow_heap _ _ _ _ _ _ h20
  refine pzq (w' := V23) (by rw [← eV23]; exact exec_store_row 123 (.tmp 4) (.tmp 24) (by kernel_rfl) gw (#[uN (hi / c), uN ((hi % c * 18446744073709551616 + lo) / c)]) (by kernel_rfl) (by kernel_rfl) 123 (#[.int .u64 0, .int .u64 0]) h20 (by kernel_rfl) rfl (by kernel_rfl)) ?_
  clear eV23
  have K26 := K21.nO kV23
  have z27 := kV23.size
  refine pkq (uN r) <| ps_end <| sy_a ⟨#[.agg #[uN hi, uN lo], uN c, pT gx 0, ud, pT gw 0, uN r, uN ((hi % c * 18446744073709551616 + lo) / c), uN r, .tuple #[uN ((hi % c * 18446744073709551616 + lo) / c), uN r], pT gx 0, uN hi, uN c, uN (hi % c), pT gx 1, uN lo, uN c, .tuple #[uN ((hi % c * 18446744073709551616 + lo) / c), uN r], uN ((hi % c * 18446744073709551616 + lo) / c), uN r, pT gx 0, uN hi, uN c, uN (hi / c), uN ((hi % c * 18446744073709551616 + lo) / c), .agg #[uN (hi / c), uN ((hi % c * 18446744073709551616 + lo) / c)], uN r], []⟩ <| then_n <| u_ <| sy_out (.tuple #[.agg (#[.int .u64 ((hi / c : Nat) : Int), .int .u64 (((hi % c * 18446744073709551616 + lo) / c : Nat) : Int)]), .int .u64 ((r : Nat) : Int)]) rfl (results_row_tmp (p := 4) (q := 5) (ty := 123) (by kernel_rfl) _ _ gw 123 (#[.int .u64 ((hi / c : Nat) : Int), .int .u64 (((hi % c * 18446744073709551616 + lo) / c : Nat) : Int)]) (0, 0) _ (.int .u64 ((r : Nat) : Int)) (by kernel_rfl) h24 Tryz.underlying123 rfl (by kernel_rfl) (by kernel_rfl)) ?_
  exact ⟨_, rfl, K26⟩
noncomputable def qc33_1 (n : Nat) : Code := partOf Tryz.f81 n
theorem fxBelow_ok (m hi lo : Nat) (hm : m < 18446744073709551616) (hhi : hi < 18446744073709551616) (hlo : lo < 18446744073709551616) (w : World) :
    Calls Tryz.prog 81 #[.agg #[.int .u64 0, .int .u64 ((m : Nat) : Int)], .agg #[.int .u64 ((hi : Nat) : Int), .int .u64 ((lo : Nat) : Int)]] w (fun e w' => e = .returned (.bool (decide (0 < hi ∨ m < lo))) ∧ Keeps Nob w w') := by
  obtain ⟨bo, hbo⟩ : ∃ z, (if m < lo + 0 then 1 else 0 : Nat) = z := ⟨_, rfl⟩
  have hb1 : bo ≤ 1 := by rw [← hbo]; split <;> omega
  obtain ⟨bp, hbp⟩ : ∃ z, (if 0 < hi + bo then 1 else 0 : Nat) = z := ⟨_, rfl⟩
  have hres : ((((bp : Nat) : Int)) == (1 : Int)) = decide (0 < hi ∨ m < lo) := by rw [← hbp, ← hbo]; by_cases q1 : m < lo <;> by_cases q2 : 0 < hi <;> simp [q1, q2]
  have K0 : Keeps Nob w w := Keeps.refl _ _
  refine sy_enter (qc33_1 1) ⟨#[.agg #[.int .u64 0, uN m], .agg #[uN hi, uN lo], ud, ud, ud, ud, ud, ud, ud, ud, ud, ud, ud, ud, ud, ud, ud, ud, ud, ud, ud, ud, ud, ud, ud, ud], []⟩ Tryz.func81 (by kernel_rfl) (by kernel_rfl) <| qr_ [0, 1, 2] <| pbx 123 (#[.int .u64 0, .int .u64 ((m : Nat) : Int)]) (.agg #[.int .u64 0, uN m]) fun V1 gx egx h2 kV1 => ?_
  have n3 : w.heap.size ≤ gx := egx ▸ K0.size
  have K4 := K0.nn kV1
  have z5 := kV1.size
  refine pbx 123 (#[.int .u64 ((hi : Nat) : Int), .int .u64 ((lo : Nat) : Int)]) (.agg #[uN hi, uN lo]) fun V6 gw egw h7 kV6 => ?_
  have n8 : gx < gw := egw ▸ lt_of_block h2
  have n9 : w.heap.size ≤ gw := egw ▸ K4.size
  have h10 := kV6.bk h2
  have K11 := K4.nn kV6
  have z12 := kV6.size
  refine pkq (.bool false) <| eqr_ [0, 1, 2, 3, 4, 5, 6, 7, 8, 9] <| pkq (pT gx 1) <| ppq (uN m) (ldk 40 gx 1 h10) <| pkq (pT gw 1) <| ppq (uN lo) (ldk 40 gw 1 h7) <| ppq (.tuple #[uN ((m + 18446744073709551616 - lo - 0) % 18446744073709551616), uN (if m < lo + 0 then 1 else 0)]) (exec_ext 95 #[uN m, uN lo, .int .u64 0] _ (by kernel_rfl) (by kernel_rfl) (by kernel_rfl) (run_bSub64 m lo 0 (by decide) _)) <| pkq (.tuple #[uN ((m + 18446744073709551616 - lo - 0) % 18446744073709551616), uN (if m < lo + 0 then 1 else 0)]) <| pkq (uN ((m + 18446744073709551616 - lo - 0) % 18446744073709551616)) <| ppq (uN bo) (exec_cast (congrArg (fun n : Nat => Value.int .u64 (n : Int)) hbo) (by kernel_rfl)) <| pkq (uN ((m + 18446744073709551616 - lo - 0) % 18446744073709551616)) <| pkq (uN bo) <| eqr_ [0, 1, 2, 3, 4, 5, 6, 7, 8, 9] <| pkq (pT gx 0) ?_
  refine ppq (.int .u64 0) (ldk 40 gx 0 h10) <| pkq (pT gw 0) <| ppq (uN hi) (ldk 40 gw 0 h7) <| pkq (uN bo) <| ppq (.tuple #[uN ((0 + 18446744073709551616 - hi - bo) % 18446744073709551616), uN (if 0 < hi + bo then 1 else 0)]) (exec_ext 95 #[.int .u64 0, uN hi, uN bo] _ (by kernel_rfl) (by kernel_rfl) (by kernel_rfl) (run_bSub64 0 hi bo hb1 _)) <| pkq (.tuple #[uN ((0 + 18446744073709551616 - hi - bo) % 18446744073709551616), uN (if 0 < hi + bo then 1 else 0)]) <| pkq (uN ((0 + 18446744073709551616 - hi - bo) % 18446744073709551616)) <| ppq (uN bp) (exec_cast (congrArg (fun n : Nat => Value.int .u64 (n : Int)) hbp) (by kernel_rfl)) <| pkq (uN bp) <| eqr_ [0, 1, 2] <| pkq (uN bp) <| ppq (.bool (decide (0 < hi ∨ m < lo))) (exec_cast (congrArg Value.bool hres) (by kernel_rfl)) <| pkq (.bool (decide (0 < hi ∨ m < lo))) <| ps_end ?_
  refine sy_a ⟨#[.agg #[.int .u64 0, uN m], .agg #[uN hi, uN lo], pT gx 0, pT gw 0, .bool (decide (0 < hi ∨ m < lo)), uN ((m + 18446744073709551616 - lo - 0) % 18446744073709551616), uN bp, .tuple #[uN ((m + 18446744073709551616 - lo - 0) % 18446744073709551616), uN (if m < lo + 0 then 1 else 0)], pT gx 1, uN m, pT gw 1, uN lo, .tuple #[uN ((m + 18446744073709551616 - lo - 0) % 18446744073709551616), uN (if m < lo + 0 then 1 else 0)], uN ((m + 18446744073709551616 - lo - 0) % 18446744073709551616), uN bo, .tuple #[uN ((0 + 18446744073709551616 - hi - bo) % 18446744073709551616), uN (if 0 < hi + bo then 1 else 0)], pT gx 0, .int .u64 0, pT gw 0, uN hi, uN bo, .tuple #[uN ((0 + 18446744073709551616 - hi - bo) % 18446744073709551616), uN (if 0 < hi + bo then 1 else 0)], uN ((0 + 18446744073709551616 - hi - bo) % 18446744073709551616), uN bp, uN bp, .bool (decide (0 < hi ∨ m < lo))], []⟩ <| then_n <| u_ <| so_ (.bool (decide (0 < hi ∨ m < lo))) ?_
  exact ⟨rfl, K11⟩
theorem over_is {qh ql q1 q2 : Nat} {args : Array Value} {w : World} (h1 : q1 = qh) (h2 : q2 = ql) (h : Calls Tryz.prog 80 args w (fun e w' => ∃ r : Nat, e = .returned (.tuple #[.agg #[.int .u64 ((q1 : Nat) : Int), .int .u64 ((q2 : Nat) : Int)], .int .u64 ((r : Nat) : Int)]) ∧ Keeps Nob w w')) : Calls Tryz.prog 80 args w (fun e w' => ∃ r : Nat, e = .returned (.tuple #[.agg #[.int .u64 ((qh : Nat) : Int), .int .u64 ((ql : Nat) : Int)], .int .u64 ((r : Nat) : Int)]) ∧ Keeps Nob w w') := h1 ▸ h2 ▸ h
theorem below_is {x : Bool} (y : Bool) {args : Array Value} {w : World} (h1 : x = y) (h : Calls Tryz.prog 81 args w (fun e w' => e = .returned (.bool x) ∧ Keeps Nob w w')) : Calls Tryz.prog 81 args w (fun e w' => e = .returned (.bool y) ∧ Keeps Nob w w') := h1 ▸ h
theorem cap_big {m t qh ql : Nat} {x : Value} (hqt : t = qh * 18446744073709551616 + ql) (hl : ql < 18446744073709551616) (h : 0 < qh ∨ m < ql) (hm : m < 18446744073709551616) : (Ending.returned (.tuple #[.int .u64 ((m : Nat) : Int), x])) = .returned (.tuple #[.int .u64 ((min m t : Nat) : Int), x]) := by
  rw [show min m t = m by omega]
theorem cap_small {m t qh ql : Nat} {x : Value} (hqt : t = qh * 18446744073709551616 + ql) (h : ¬ (0 < qh ∨ m < ql)) : (Ending.returned (.tuple #[.int .u64 ((ql : Nat) : Int), x])) = .returned (.tuple #[.int .u64 ((min m t : Nat) : Int), x]) := by
  rw [show min m t = ql by omega]
noncomputable def qc33_0 (n : Nat) : Code := partOf Tryz.f57 n
theorem fxCapped_big (m a b c qh ql : Nat) (hm : m < 18446744073709551616) (ha : a < 18446744073709551616) (hb : b < 18446744073709551616) (hc : 0 < c) (hc2 : c < 18446744073709551616) (hqh : a * b / 18446744073709551616 / c = qh) (hql : (a * b / 18446744073709551616 % c * 18446744073709551616 + a * b % 18446744073709551616) / c = ql) (hqt : a * b / c = qh * 18446744073709551616 + ql) (hqh2 : qh < 18446744073709551616) (hql2 : ql < 18446744073709551616) (hbig : 0 < qh ∨ m < ql) (w : World) :
    Calls Tryz.prog 57 #[.int .u64 ((m : Nat) : Int), .int .u64 ((a : Nat) : Int), .int .u64 ((b : Nat) : Int), .int .u64 ((c : Nat) : Int)] w (fun e w' => e = .returned (.tuple #[.int .u64 ((min m (a * b / c) : Nat) : Int), .int .i64 0]) ∧ Keeps Nob w w') := by
  have hab : a * b / 18446744073709551616 < 18446744073709551616 := by rw [Nat.div_lt_iff_lt_mul (by decide)]; exact Nat.mul_lt_mul'' ha hb
  have K0 : Keeps Nob w w := Keeps.refl _ _
  refine sy_enter (qc33_0 1) ⟨#[uN m, uN a, uN b, uN c, ud, ud, ud, ud, ud, ud, ud, ud, ud, ud, ud, ud, ud, ud, ud, ud, ud, ud, ud, ud, ud, ud, ud, ud, ud, ud, ud], []⟩ Tryz.func57 (by kernel_rfl) (by kernel_rfl) <| qr_ [0, 1] <| pkq (.int .u64 0) <| pkq (.int .i64 0) <| eq_ <| qr_ [0, 1] <| pkq (uN c) <| ppq (.bool false) (eqf (((c : Nat) : Int)) ((0) : Int) (by omega)) <| en_ <| s_ <| tqr_ [0, 1, 2, 3, 4, 5, 6, 7, 8, 9, 10] <| pkq (uN a) <| pkq (uN b) ?_
  refine pcq 79 #[uN a, uN b] Tryz.func79 ((fxTimes_ok a b ha hb _).mono ?_)
  rintro e V1 ⟨rfl, kV1⟩
  refine ⟨_, rfl, ?_⟩
  have K2 := K0.nn kV1
  have z3 := kV1.size
  refine pkq (uN c) ?_
  refine pcq 80 #[.agg #[uN (a * b / 18446744073709551616), uN (a * b % 18446744073709551616)], uN c] Tryz.func80 ((over_is hqh hql (fxOver_ok (a * b / 18446744073709551616) (a * b % 18446744073709551616) c hab (Nat.mod_lt _ (by decide)) hc hc2 _)).mono ?_)
  rintro e V4 ⟨r, rfl, kV4⟩
  refine ⟨_, rfl, ?_⟩
  have K5 := K2.nn kV4
  have z6 := kV4.size
  refine pkq (.tuple #[.agg #[uN qh, uN ql], uN r]) <| pkq (.agg #[uN qh, uN ql]) <| pkq (uN r) <| pal 123 (#[.int .u64 0, .int .u64 0]) (.agg (#[.int .u64 0, .int .u64 0])) fun V7 gw egw h8 kV7 => ?_
  have n9 : w.heap.size ≤ gw := egw ▸ K5.size
  have K10 := K5.nn kV7
  have z11 := kV7.size
  obtain ⟨V12, eV12, kV12⟩ := rowset_step V7 gw (#[.int .u64 ((qh : Nat) : Int), .int .u64 ((ql : Nat) : Int)])
  have h13 : V12.heap[gw]? = some (.cells (#[.int .u64 ((qh : Nat) : Int), .int .u64 ((ql : Nat) : Int)]) 123 (0, 0)) := eV12 ▸ setRow_heap _ _ _ _ _ _ h8
  refine pzq (w' := V12) (by rw [← eV12]; exact exec_store_row 123 (.tmp 10) (.tmp 20) (by kernel_rfl) gw (#[uN qh, uN ql]) (by kernel_rfl) (by kernel_rfl) 123 (#[.int .u64 0, .int .u64 0]) h8 (by kernel_rfl) rfl (by kernel_rfl)) ?_
  clear eV12
  have K14 := K10.nO kV12
  have z15 := kV12.size
  refine pkq (uN r) <| eq_ <| qr_ [0, 1, 2, 3] <| pkq (uN m) <| pkq (.agg #[.int .u64 0, uN m]) <| ppq (.agg #[uN qh, uN ql]) (ldr 123 gw (h13) (by kernel_rfl)) ?_
  refine pcq 81 #[.agg #[.int .u64 0, uN m], .agg #[uN qh, uN ql]] Tryz.func81 ((below_is true (decide_eq_true hbig) (fxBelow_ok m qh ql hm hqh2 hql2 _)).mono ?_)
  rintro e V16 ⟨rfl, kV16⟩
  refine ⟨_, rfl, ?_⟩
  have K18 := K14.nn kV16
  have z19 := kV16.size
  refine ey_ <| qr_ [0, 1, 2, 3] <| pkq (uN m) <| pkq (.int .i64 0) <| pkq (uN m) <| pkq (.int .i64 0) <| eu_ <| then_r <| so_ (.tuple #[.int .u64 ((m : Nat) : Int), .int .i64 0]) ?_
  exact ⟨cap_big hqt hql2 hbig hm, K18⟩
theorem fxCapped_small (m a b c qh ql : Nat) (hm : m < 18446744073709551616) (ha : a < 18446744073709551616) (hb : b < 18446744073709551616) (hc : 0 < c) (hc2 : c < 18446744073709551616) (hqh : a * b / 18446744073709551616 / c = qh) (hql : (a * b / 18446744073709551616 % c * 18446744073709551616 + a * b % 18446744073709551616) / c = ql) (hqt : a * b / c = qh * 18446744073709551616 + ql) (hqh2 : qh < 18446744073709551616) (hql2 : ql < 18446744073709551616) (hbig : ¬ (0 < qh ∨ m < ql)) (w : World) :
    Calls Tryz.prog 57 #[.int .u64 ((m : Nat) : Int), .int .u64 ((a : Nat) : Int), .int .u64 ((b : Nat) : Int), .int .u64 ((c : Nat) : Int)] w (fun e w' => e = .returned (.tuple #[.int .u64 ((min m (a * b / c) : Nat) : Int), .int .i64 0]) ∧ Keeps Nob w w') := by
  have hab : a * b / 18446744073709551616 < 18446744073709551616 := by rw [Nat.div_lt_iff_lt_mul (by decide)]; exact Nat.mul_lt_mul'' ha hb
  have K0 : Keeps Nob w w := Keeps.refl _ _
  refine sy_enter (qc33_0 1) ⟨#[uN m, uN a, uN b, uN c, ud, ud, ud, ud, ud, ud, ud, ud, ud, ud, ud, ud, ud, ud, ud, ud, ud, ud, ud, ud, ud, ud, ud, ud, ud, ud, ud], []⟩ Tryz.func57 (by kernel_rfl) (by kernel_rfl) <| qr_ [0, 1] <| pkq (.int .u64 0) <| pkq (.int .i64 0) <| eq_ <| qr_ [0, 1] <| pkq (uN c) <| ppq (.bool false) (eqf (((c : Nat) : Int)) ((0) : Int) (by omega)) <| en_ <| s_ <| tqr_ [0, 1, 2, 3, 4, 5, 6, 7, 8, 9, 10] <| pkq (uN a) <| pkq (uN b) ?_
  refine pcq 79 #[uN a, uN b] Tryz.func79 ((fxTimes_ok a b ha hb _).mono ?_)
  rintro e V1 ⟨rfl, kV1⟩
  refine ⟨_, rfl, ?_⟩
  have K2 := K0.nn kV1
  have z3 := kV1.size
  refine pkq (uN c) ?_
  refine pcq 80 #[.agg #[uN (a * b / 18446744073709551616), uN (a * b % 18446744073709551616)], uN c] Tryz.func80 ((over_is hqh hql (fxOver_ok (a * b / 18446744073709551616) (a * b % 18446744073709551616) c hab (Nat.mod_lt _ (by decide)) hc hc2 _)).mono ?_)
  rintro e V4 ⟨r, rfl, kV4⟩
  refine ⟨_, rfl, ?_⟩
  have K5 := K2.nn kV4
  have z6 := kV4.size
  refine pkq (.tuple #[.agg #[uN qh, uN ql], uN r]) <| pkq (.agg #[uN qh, uN ql]) <| pkq (uN r) <| pal 123 (#[.int .u64 0, .int .u64 0]) (.agg (#[.int .u64 0, .int .u64 0])) fun V7 gw egw h8 kV7 => ?_
  have n9 : w.heap.size ≤ gw := egw ▸ K5.size
  have K10 := K5.nn kV7
  have z11 := kV7.size
  obtain ⟨V12, eV12, kV12⟩ := rowset_step V7 gw (#[.int .u64 ((qh : Nat) : Int), .int .u64 ((ql : Nat) : Int)])
  have h13 : V12.heap[gw]? = some (.cells (#[.int .u64 ((qh : Nat) : Int), .int .u64 ((ql : Nat) : Int)]) 123 (0, 0)) := eV12 ▸ setRow_heap _ _ _ _ _ _ h8
  refine pzq (w' := V12) (by rw [← eV12]; exact exec_store_row 123 (.tmp 10) (.tmp 20) (by kernel_rfl) gw (#[uN qh, uN ql]) (by kernel_rfl) (by kernel_rfl) 123 (#[.int .u64 0, .int .u64 0]) h8 (by kernel_rfl) rfl (by kernel_rfl)) ?_
  clear eV12
  have K14 := K10.nO kV12
  have z15 := kV12.size
  refine pkq (uN r) <| eq_ <| qr_ [0, 1, 2, 3] <| pkq (uN m) <| pkq (.agg #[.int .u64 0, uN m]) <| ppq (.agg #[uN qh, uN ql]) (ldr 123 gw (h13) (by kernel_rfl)) ?_
  refine pcq 81 #[.agg #[.int .u64 0, uN m], .agg #[uN qh, uN ql]] Tryz.func81 ((below_is false (decide_eq_false hbig) (fxBelow_ok m qh ql hm hqh2 hql2 _)).mono ?_)
  rintro e V16 ⟨rfl, kV16⟩
  refine ⟨_, rfl, ?_⟩
  have h17 := kV16.bk h13
  have K18 := K14.nn kV16
  have z19 := kV16.size
  refine en_ <| s_ <| tqr_ [0, 1, 2, 3, 4] <| pkq (pT gw 1) <| ppq (uN ql) (ldk 40 gw 1 h17) <| pkq (.int .i64 0) <| pkq (uN ql) <| pkq (.int .i64 0) <| ps_end <| sy_a ⟨#[uN m, uN a, uN b, uN c, ud, ud, ud, ud, uN ql, .int .i64 0, pT gw 0, uN r, uN c, .bool false, .tuple #[.agg #[uN qh, uN ql], uN r], uN a, uN b, .agg #[uN (a * b / 18446744073709551616), uN (a * b % 18446744073709551616)], uN c, .tuple #[.agg #[uN qh, uN ql], uN r], .agg #[uN qh, uN ql], uN r, uN m, .agg #[.int .u64 0, uN m], .agg #[uN qh, uN ql], .bool false, ud, ud, pT gw 1, uN ql, .int .i64 0], []⟩ <| then_n <| u_ <| so_ (.tuple #[.int .u64 ((ql : Nat) : Int), .int .i64 0]) ?_
  exact ⟨cap_small hqt hbig, K18⟩
/-- Capped: the quotient of a product, at most m. -/
theorem fxCapped_ok (m a b c : Nat) (hm : m < 18446744073709551616) (ha : a < 18446744073709551616) (hb : b < 18446744073709551616) (hc : 0 < c) (hc2 : c < 18446744073709551616) (w : World) : Calls Tryz.prog 57 #[.int .u64 ((m : Nat) : Int), .int .u64 ((a : Nat) : Int), .int .u64 ((b : Nat) : Int), .int .u64 ((c : Nat) : Int)] w (fun e w' => e = .returned (.tuple #[.int .u64 ((min m (a * b / c) : Nat) : Int), .int .i64 0]) ∧ Keeps Nob w w') := by
  have hab : a * b / 18446744073709551616 < 18446744073709551616 := by rw [Nat.div_lt_iff_lt_mul (by decide)]; exact Nat.mul_lt_mul'' ha hb
  have hqt : a * b / c = a * b / 18446744073709551616 / c * 18446744073709551616 + (a * b / 18446744073709551616 % c * 18446744073709551616 + a * b % 18446744073709551616) / c := by
    rw [← over_law hc]; congr 1; have := Nat.div_add_mod (a * b) 18446744073709551616; omega
  have h1 : a * b / 18446744073709551616 / c < 18446744073709551616 := Nat.lt_of_le_of_lt (Nat.div_le_self _ _) hab
  have h2 := over_lt (hi := a * b / 18446744073709551616) (lo := a * b % 18446744073709551616) hc (Nat.mod_lt _ (by decide))
  by_cases hbig : 0 < a * b / 18446744073709551616 / c ∨ m < (a * b / 18446744073709551616 % c * 18446744073709551616 + a * b % 18446744073709551616) / c
  · exact fxCapped_big m a b c _ _ hm ha hb hc hc2 rfl rfl hqt h1 h2 hbig w
  · exact fxCapped_small m a b c _ _ hm ha hb hc hc2 rfl rfl hqt h1 h2 hbig w
end Go.Proofs.YtghohakbepeffaaGreatDoor
namespace Go.Proofs.YtghohakbepeffaaGreatDoor
set_option maxRecDepth 100000
set_option maxHeartbeats 4000000
open Go Go.RowKit Go.Own Go.Shelf
theorem _root_.Go.Own.Sl.cell {α : Type} {w : World} {s : Nat} {c : α → List Value} {v : Value} {xs : List α} (h : Sl w s c v xs) {k : Nat} {x : α} (hx : xs[k]? = some x) {b o n cap : Nat} (hv : v = .slice (some ⟨b, o, none⟩) n cap) {j : Nat} {u : Value} (hu : (c x)[j]? = some u) :
    w.cell? ⟨b, o + k * s + j, none⟩ = some u := by
  obtain ⟨b2, o2, cap2, e, _, hc⟩ := h.at_ k x hx
  rw [hv] at e
  simp only [Value.slice.injEq, Option.some.injEq, Addr.mk.injEq, and_true] at e
  obtain ⟨⟨rfl, rfl⟩, _⟩ := e
  exact hc j u hu
theorem _root_.Go.Own.Sl.range {α : Type} {w : World} {s : Nat} {c : α → List Value} {v : Value} {xs : List α} (h : Sl w s c v xs) {k : Nat} {x : α} (hx : xs[k]? = some x) {b o n cap : Nat} (hv : v = .slice (some ⟨b, o, none⟩) n cap) : w.rangeAt b (o + k * s) (c x) := fun j u hu => h.cell hx hv hu
theorem exec_len_sl {P : Program} {o : Oper} {ρ : Operand → Value} {w w0 : World} (x : Operand) (t e : TypeId) (ho : o.op = .call { callee := .builtin .len, args := #[x], argTypes := #[t] }) (ht : P.underlying t = some (.slice e)) {v : Value} (hx : ρ x = v) {α : Type} {s : Nat} {c : α → List Value} {xs : List α} (hv : Sl w0 s c v xs) :
    (execOp ρ o).run P w = .ok (.value (.int .i64 (xs.length : Int))) w := by
  obtain ⟨A, cap, rfl, _⟩ := hv.form
  exact exec_len x t e ho ht A xs.length cap hx
end Go.Proofs.YtghohakbepeffaaGreatDoor
namespace Go.Proofs.YtghohakbepeffaaGreatDoor
set_option maxRecDepth 100000
set_option maxHeartbeats 4000000
open Go Go.RowKit Go.Own Go.Shelf
theorem nmay_bad {x : Nt} {a : List Nt} (h : x.bad) : nmay x a = 3 := by unfold nmay; rw [if_pos h]
theorem nmay_nil {x : Nt} (h : ¬ x.bad) : nmay x [] = 0 := by unfold nmay; rw [if_neg h]; rfl
theorem nmay_last {x y : Nt} {a : List Nt} {k : Nat} (h : ¬ x.bad) (hk : k + 1 = a.length) (hy : a[k]? = some y) : nmay x a = if x.h < y.h then 9 else 0 := by
  have : a.getLast? = some y := by rw [List.getLast?_eq_getElem?, show a.length - 1 = k by omega]; exact hy
  unfold nmay; rw [if_neg h, this]
theorem nt_last {a : List Nt} (h : a ≠ []) : ∃ k y, k + 1 = a.length ∧ a[k]? = some y := by
  have h1 : 0 < a.length := List.length_pos_iff.2 h
  exact ⟨a.length - 1, a[a.length - 1], by omega, List.getElem?_eq_getElem _⟩
noncomputable def qc35_1 (n : Nat) : Code := partOf Tryz.f54 n
theorem nMay_bad1 (x : Nt) (a : List Nt) (v : Value) (w : World) (hl : Sl w 2 Nt.cl v a) (h1 : x.h < 1) :
    Calls Tryz.prog 54 #[.agg x.c, v] w (fun e w' => e = .returned (.iface 118 (.agg #[.int .i64 ((a.length : Nat) : Int), .iface 27 (.int .i64 3)])) ∧ Keeps Nob w w') := by
  have hln := Sl.len_le hl
  have K0 : Keeps Nob w w := Keeps.refl _ _
  refine sy_enter (qc35_1 1) ⟨#[.agg x.c, v, ud, ud, ud, ud, ud, ud, ud, ud, ud, ud, ud, ud, ud, ud, ud, ud, ud, ud, ud, ud, ud, ud, ud, ud, ud, ud, ud, ud, ud, ud, ud, ud, ud, ud, ud, ud, ud, ud, ud, ud, ud, ud, ud, ud], []⟩ Tryz.func54 (by kernel_rfl) (by kernel_rfl) <| qr_ [0, 1] <| pbx 46 x.c (.agg x.c) fun V1 gx egx h2 kV1 => ?_
  have n3 : w.heap.size ≤ gx := egx ▸ K0.size
  have h4 : Sl V1 2 Nt.cl v a := hl.keepsN kV1
  have K5 := K0.nn kV1
  have z6 := kV1.size
  refine pkq (.nilIface) <| eqr_ [0, 1, 2, 3] <| pkq (v) <| ppq (iN a.length) (exec_len_sl (.tmp 6) 22 46 (by kernel_rfl) Tryz.underlying22 (by kernel_rfl) h4) <| ppq (.int .i64 (((a.length : Nat) : Int) - 1)) (exec_cast (congrArg (Value.int .i64) (wrapI (((a.length : Nat) : Int) - 1) _ rfl (by omega) (by omega))) (by kernel_rfl)) <| pkq (.int .i64 (((a.length : Nat) : Int) - 1)) <| eq_ <| bl_ 0 <| qr_ [0, 1, 2, 3, 4, 5, 6, 7, 8, 9, 10, 11, 12, 13] <| pkq (pT gx 0) <| ppq (.int .i64 x.h) (ldc 3 gx 0 (rc (h2) (rfl))) <| ppq (.bool true) (dct (((x.h) : Int) < ((1) : Int)) (by omega)) <| pkq (.bool true) <| pnq ?_
  refine pnq <| pnq <| pkq (.bool true) <| pkq (.bool true) <| pnq <| pnq <| pnq <| pkq (.bool true) <| pkq (.bool true) <| ey_ <| qr_ [0, 1, 2, 3, 4, 5] <| pkq (v) <| ppq (iN a.length) (exec_len_sl (.tmp 23) 22 46 (by kernel_rfl) Tryz.underlying22 (by kernel_rfl) h4) <| pkq (.iface 27 (.int .i64 3)) ?_
  refine pkq (.agg #[iN a.length, .iface 27 (.int .i64 3)]) <| pkq (.iface 118 (.agg #[iN a.length, .iface 27 (.int .i64 3)])) <| pkq (.iface 118 (.agg #[iN a.length, .iface 27 (.int .i64 3)])) <| ps_end <| sy_a ⟨#[.agg x.c, v, pT gx 0, ud, .iface 118 (.agg #[iN a.length, .iface 27 (.int .i64 3)]), .int .i64 (((a.length : Nat) : Int) - 1), v, iN a.length, .int .i64 (((a.length : Nat) : Int) - 1), .bool true, pT gx 0, .int .i64 x.h, .bool true, .bool true, ud, ud, ud, .bool true, .bool true, ud, ud, ud, .bool true, v, iN a.length, .iface 27 (.int .i64 3), .agg #[iN a.length, .iface 27 (.int .i64 3)], .iface 118 (.agg #[iN a.length, .iface 27 (.int .i64 3)]), ud, ud, ud, ud, ud, ud, ud, ud, ud, ud, ud, ud, ud, ud, ud, ud, ud, ud], []⟩ <| then_n <| u_ <| blk_r <| then_r <| so_ (.iface 118 (.agg #[.int .i64 ((a.length : Nat) : Int), .iface 27 (.int .i64 3)])) ?_
  exact ⟨rfl, K5⟩
theorem nMay_bad2 (x : Nt) (a : List Nt) (v : Value) (w : World) (hl : Sl w 2 Nt.cl v a) (h1 : ¬ x.h < 1) (h2 : 4294967296 < x.h) :
    Calls Tryz.prog 54 #[.agg x.c, v] w (fun e w' => e = .returned (.iface 118 (.agg #[.int .i64 ((a.length : Nat) : Int), .iface 27 (.int .i64 3)])) ∧ Keeps Nob w w') := by
  have hln := Sl.len_le hl
  have K0 : Keeps Nob w w := Keeps.refl _ _
  refine sy_enter (qc35_1 1) ⟨#[.agg x.c, v, ud, ud, ud, ud, ud, ud, ud, ud, ud, ud, ud, ud, ud, ud, ud, ud, ud, ud, ud, ud, ud, ud, ud, ud, ud, ud, ud, ud, ud, ud, ud, ud, ud, ud, ud, ud, ud, ud, ud, ud, ud, ud, ud, ud], []⟩ Tryz.func54 (by kernel_rfl) (by kernel_rfl) <| qr_ [0, 1] <| pbx 46 x.c (.agg x.c) fun V1 gx egx h2 kV1 => ?_
  have n3 : w.heap.size ≤ gx := egx ▸ K0.size
  have h4 : Sl V1 2 Nt.cl v a := hl.keepsN kV1
  have K5 := K0.nn kV1
  have z6 := kV1.size
  refine pkq (.nilIface) <| eqr_ [0, 1, 2, 3] <| pkq (v) <| ppq (iN a.length) (exec_len_sl (.tmp 6) 22 46 (by kernel_rfl) Tryz.underlying22 (by kernel_rfl) h4) <| ppq (.int .i64 (((a.length : Nat) : Int) - 1)) (exec_cast (congrArg (Value.int .i64) (wrapI (((a.length : Nat) : Int) - 1) _ rfl (by omega) (by omega))) (by kernel_rfl)) <| pkq (.int .i64 (((a.length : Nat) : Int) - 1)) <| eq_ <| bl_ 0 <| qr_ [0, 1, 2, 3, 4, 5, 6, 7, 8, 9, 10, 11, 12, 13] <| pkq (pT gx 0) <| ppq (.int .i64 x.h) (ldc 3 gx 0 (rc (h2) (rfl))) <| ppq (.bool false) (dcf (((x.h) : Int) < ((1) : Int)) (by omega)) <| pkq (.bool false) <| pkq (pT gx 0) ?_
  refine ppq (.int .i64 x.h) (ldc 3 gx 0 (rc (h2) (rfl))) <| ppq (.bool true) (dct (((x.h) : Int) > ((4294967296) : Int)) (by omega)) <| pkq (.bool true) <| pkq (.bool true) <| pnq <| pnq <| pnq <| pkq (.bool true) <| pkq (.bool true) <| ey_ <| qr_ [0, 1, 2, 3, 4, 5] <| pkq (v) <| ppq (iN a.length) (exec_len_sl (.tmp 23) 22 46 (by kernel_rfl) Tryz.underlying22 (by kernel_rfl) h4) <| pkq (.iface 27 (.int .i64 3)) ?_
  refine pkq (.agg #[iN a.length, .iface 27 (.int .i64 3)]) <| pkq (.iface 118 (.agg #[iN a.length, .iface 27 (.int .i64 3)])) <| pkq (.iface 118 (.agg #[iN a.length, .iface 27 (.int .i64 3)])) <| ps_end <| sy_a ⟨#[.agg x.c, v, pT gx 0, ud, .iface 118 (.agg #[iN a.length, .iface 27 (.int .i64 3)]), .int .i64 (((a.length : Nat) : Int) - 1), v, iN a.length, .int .i64 (((a.length : Nat) : Int) - 1), .bool true, pT gx 0, .int .i64 x.h, .bool false, .bool false, pT gx 0, .int .i64 x.h, .bool true, .bool true, .bool true, ud, ud, ud, .bool true, v, iN a.length, .iface 27 (.int .i64 3), .agg #[iN a.length, .iface 27 (.int .i64 3)], .iface 118 (.agg #[iN a.length, .iface 27 (.int .i64 3)]), ud, ud, ud, ud, ud, ud, ud, ud, ud, ud, ud, ud, ud, ud, ud, ud, ud, ud], []⟩ <| then_n <| u_ <| blk_r <| then_r <| so_ (.iface 118 (.agg #[.int .i64 ((a.length : Nat) : Int), .iface 27 (.int .i64 3)])) ?_
  exact ⟨rfl, K5⟩
theorem nMay_bad3 (x : Nt) (a : List Nt) (v : Value) (w : World) (hl : Sl w 2 Nt.cl v a) (h1 : ¬ x.h < 1) (h2 : ¬ 4294967296 < x.h) (h3 : 4611686018427387904 < x.s) :
    Calls Tryz.prog 54 #[.agg x.c, v] w (fun e w' => e = .returned (.iface 118 (.agg #[.int .i64 ((a.length : Nat) : Int), .iface 27 (.int .i64 3)])) ∧ Keeps Nob w w') := by
  have hln := Sl.len_le hl
  have K0 : Keeps Nob w w := Keeps.refl _ _
  refine sy_enter (qc35_1 1) ⟨#[.agg x.c, v, ud, ud, ud, ud, ud, ud, ud, ud, ud, ud, ud, ud, ud, ud, ud, ud, ud, ud, ud, ud, ud, ud, ud, ud, ud, ud, ud, ud, ud, ud, ud, ud, ud, ud, ud, ud, ud, ud, ud, ud, ud, ud, ud, ud], []⟩ Tryz.func54 (by kernel_rfl) (by kernel_rfl) <| qr_ [0, 1] <| pbx 46 x.c (.agg x.c) fun V1 gx egx h2 kV1 => ?_
  have n3 : w.heap.size ≤ gx := egx ▸ K0.size
  have h4 : Sl V1 2 Nt.cl v a := hl.keepsN kV1
  have K5 := K0.nn kV1
  have z6 := kV1.size
  refine pkq (.nilIface) <| eqr_ [0, 1, 2, 3] <| pkq (v) <| ppq (iN a.length) (exec_len_sl (.tmp 6) 22 46 (by kernel_rfl) Tryz.underlying22 (by kernel_rfl) h4) <| ppq (.int .i64 (((a.length : Nat) : Int) - 1)) (exec_cast (congrArg (Value.int .i64) (wrapI (((a.length : Nat) : Int) - 1) _ rfl (by omega) (by omega))) (by kernel_rfl)) <| pkq (.int .i64 (((a.length : Nat) : Int) - 1)) <| eq_ <| bl_ 0 <| qr_ [0, 1, 2, 3, 4, 5, 6, 7, 8, 9, 10, 11, 12, 13] <| pkq (pT gx 0) <| ppq (.int .i64 x.h) (ldc 3 gx 0 (rc (h2) (rfl))) <| ppq (.bool false) (dcf (((x.h) : Int) < ((1) : Int)) (by omega)) <| pkq (.bool false) <| pkq (pT gx 0) ?_
  refine ppq (.int .i64 x.h) (ldc 3 gx 0 (rc (h2) (rfl))) <| ppq (.bool false) (dcf (((x.h) : Int) > ((4294967296) : Int)) (by omega)) <| pkq (.bool false) <| pkq (.bool false) <| pkq (pT gx 1) <| ppq (uN x.s) (ldc 40 gx 1 (rc (h2) (rfl))) <| ppq (.bool true) (dct ((((x.s : Nat) : Int)) > ((4611686018427387904) : Int)) (by omega)) <| pkq (.bool true) <| pkq (.bool true) <| ey_ <| qr_ [0, 1, 2, 3, 4, 5] <| pkq (v) <| ppq (iN a.length) (exec_len_sl (.tmp 23) 22 46 (by kernel_rfl) Tryz.underlying22 (by kernel_rfl) h4) <| pkq (.iface 27 (.int .i64 3)) ?_
  refine pkq (.agg #[iN a.length, .iface 27 (.int .i64 3)]) <| pkq (.iface 118 (.agg #[iN a.length, .iface 27 (.int .i64 3)])) <| pkq (.iface 118 (.agg #[iN a.length, .iface 27 (.int .i64 3)])) <| ps_end <| sy_a ⟨#[.agg x.c, v, pT gx 0, ud, .iface 118 (.agg #[iN a.length, .iface 27 (.int .i64 3)]), .int .i64 (((a.length : Nat) : Int) - 1), v, iN a.length, .int .i64 (((a.length : Nat) : Int) - 1), .bool true, pT gx 0, .int .i64 x.h, .bool false, .bool false, pT gx 0, .int .i64 x.h, .bool false, .bool false, .bool false, pT gx 1, uN x.s, .bool true, .bool true, v, iN a.length, .iface 27 (.int .i64 3), .agg #[iN a.length, .iface 27 (.int .i64 3)], .iface 118 (.agg #[iN a.length, .iface 27 (.int .i64 3)]), ud, ud, ud, ud, ud, ud, ud, ud, ud, ud, ud, ud, ud, ud, ud, ud, ud, ud], []⟩ <| then_n <| u_ <| blk_r <| then_r <| so_ (.iface 118 (.agg #[.int .i64 ((a.length : Nat) : Int), .iface 27 (.int .i64 3)])) ?_
  exact ⟨rfl, K5⟩
theorem nMay_nil (x : Nt) (a : List Nt) (v : Value) (w : World) (hl : Sl w 2 Nt.cl v a) (h1 : ¬ x.h < 1) (h2 : ¬ 4294967296 < x.h) (h3 : ¬ 4611686018427387904 < x.s) (ha : a.length = 0) :
    Calls Tryz.prog 54 #[.agg x.c, v] w (fun e w' => e = .returned (.nilIface) ∧ Keeps Nob w w') := by
  have hln := Sl.len_le hl
  have K0 : Keeps Nob w w := Keeps.refl _ _
  refine sy_enter (qc35_1 1) ⟨#[.agg x.c, v, ud, ud, ud, ud, ud, ud, ud, ud, ud, ud, ud, ud, ud, ud, ud, ud, ud, ud, ud, ud, ud, ud, ud, ud, ud, ud, ud, ud, ud, ud, ud, ud, ud, ud, ud, ud, ud, ud, ud, ud, ud, ud, ud, ud], []⟩ Tryz.func54 (by kernel_rfl) (by kernel_rfl) <| qr_ [0, 1] <| pbx 46 x.c (.agg x.c) fun V1 gx egx h2 kV1 => ?_
  have n3 : w.heap.size ≤ gx := egx ▸ K0.size
  have h4 : Sl V1 2 Nt.cl v a := hl.keepsN kV1
  have K5 := K0.nn kV1
  have z6 := kV1.size
  refine pkq (.nilIface) <| eqr_ [0, 1, 2, 3] <| pkq (v) <| ppq (iN a.length) (exec_len_sl (.tmp 6) 22 46 (by kernel_rfl) Tryz.underlying22 (by kernel_rfl) h4) <| ppq (.int .i64 (((a.length : Nat) : Int) - 1)) (exec_cast (congrArg (Value.int .i64) (wrapI (((a.length : Nat) : Int) - 1) _ rfl (by omega) (by omega))) (by kernel_rfl)) <| pkq (.int .i64 (((a.length : Nat) : Int) - 1)) <| eq_ <| bl_ 0 <| qr_ [0, 1, 2, 3, 4, 5, 6, 7, 8, 9, 10, 11, 12, 13] <| pkq (pT gx 0) <| ppq (.int .i64 x.h) (ldc 3 gx 0 (rc (h2) (rfl))) <| ppq (.bool false) (dcf (((x.h) : Int) < ((1) : Int)) (by omega)) <| pkq (.bool false) <| pkq (pT gx 0) ?_
  refine ppq (.int .i64 x.h) (ldc 3 gx 0 (rc (h2) (rfl))) <| ppq (.bool false) (dcf (((x.h) : Int) > ((4294967296) : Int)) (by omega)) <| pkq (.bool false) <| pkq (.bool false) <| pkq (pT gx 1) <| ppq (uN x.s) (ldc 40 gx 1 (rc (h2) (rfl))) <| ppq (.bool false) (dcf ((((x.s : Nat) : Int)) > ((4611686018427387904) : Int)) (by omega)) <| pkq (.bool false) <| pkq (.bool false) <| en_ <| q_ <| sy_np <| sy_reg <| an_begin 4 13 (opsAt (qc35_1 230)) (fun W => (W.heap[gx]? = some (.cells x.c 46 (0, 0))) ∧ (Sl W 2 Nt.cl v a)) #[false, false, false, false, false, false, false, false, false, false, false, false, false] (by kernel_rfl) (by kernel_rfl) (by kernel_rfl) (by kernel_rfl) ?_
  obtain ⟨V7, eV7, kV7⟩ := drew_step V1
  rw [eV7]
  clear eV7
  have h8 : Sl V7 2 Nt.cl v a := h4.keepsN kV7
  have h9 := kV7.bk h2
  have K10 := K5.nn kV7
  have z11 := kV7.size
  refine akq 0 (.int .i64 (((a.length : Nat) : Int) - 1)) ⟨h9, h8⟩ <| avq 1 (.bool false) (fun W hS => dcf ((((((a.length : Nat) : Int) - 1)) : Int) ≥ ((0) : Int)) (by omega)) ⟨h9, h8⟩ <| akq 2 (.bool false) ⟨h9, h8⟩ <| anq 3 ⟨h9, h8⟩ <| anq 4 ⟨h9, h8⟩ <| anq 5 ⟨h9, h8⟩ <| anq 6 ⟨h9, h8⟩ <| anq 7 ⟨h9, h8⟩ <| anq 8 ⟨h9, h8⟩ <| anq 9 ⟨h9, h8⟩ <| anq 10 ⟨h9, h8⟩ <| akq 11 (.bool false) ⟨h9, h8⟩ <| an_o 12 <| nrq (.bool false) (w' := V7) (by kernel_rfl) ?_
  refine ⟨⟨h9, h8⟩, ?_⟩
  refine an_end (by kernel_rfl) <| sy_a ⟨#[.agg x.c, v, pT gx 0, ud, .nilIface, .int .i64 (((a.length : Nat) : Int) - 1), v, iN a.length, .int .i64 (((a.length : Nat) : Int) - 1), .bool false, pT gx 0, .int .i64 x.h, .bool false, .bool false, pT gx 0, .int .i64 x.h, .bool false, .bool false, .bool false, pT gx 1, uN x.s, .bool false, .bool false, ud, ud, ud, ud, ud, .bool false, .int .i64 (((a.length : Nat) : Int) - 1), .bool false, .bool false, ud, ud, ud, ud, ud, ud, ud, ud, .bool false, ud, ud, ud, ud, ud], []⟩ <| then_n <| n_ <| s_ <| blk_n <| tqr_ [0] <| pkq (.nilIface) <| eu_ <| so_ (.nilIface) ?_
  exact ⟨rfl, K10⟩
theorem nMay_ord (x : Nt) (a : List Nt) (v : Value) (w : World) (hl : Sl w 2 Nt.cl v a) (h1 : ¬ x.h < 1) (h2 : ¬ 4294967296 < x.h) (h3 : ¬ 4611686018427387904 < x.s) (k : Nat) (y : Nt) (hk : k + 1 = a.length) (hy : a[k]? = some y) (ho : x.h < y.h) :
    Calls Tryz.prog 54 #[.agg x.c, v] w (fun e w' => e = .returned (.iface 118 (.agg #[.int .i64 ((a.length : Nat) : Int), .iface 27 (.int .i64 9)])) ∧ Keeps Nob w w') := by
  have hln := Sl.len_le hl
  obtain ⟨b_, o_, c_, hv_, hb_, _⟩ := hl.at_ k _ hy
  have K0 : Keeps Nob w w := Keeps.refl _ _
  refine sy_enter (qc35_1 1) ⟨#[.agg x.c, v, ud, ud, ud, ud, ud, ud, ud, ud, ud, ud, ud, ud, ud, ud, ud, ud, ud, ud, ud, ud, ud, ud, ud, ud, ud, ud, ud, ud, ud, ud, ud, ud, ud, ud, ud, ud, ud, ud, ud, ud, ud, ud, ud, ud], []⟩ Tryz.func54 (by kernel_rfl) (by kernel_rfl) <| qr_ [0, 1] <| pbx 46 x.c (.agg x.c) fun V1 gx egx h2 kV1 => ?_
  have n3 : w.heap.size ≤ gx := egx ▸ K0.size
  have h4 : Sl V1 2 Nt.cl v a := hl.keepsN kV1
  have K5 := K0.nn kV1
  have z6 := kV1.size
  refine pkq (.nilIface) <| eqr_ [0, 1, 2, 3] <| pkq (v) <| ppq (iN a.length) (exec_len_sl (.tmp 6) 22 46 (by kernel_rfl) Tryz.underlying22 (by kernel_rfl) h4) <| ppq (iN k) (exec_cast (congrArg (Value.int .i64) (wrapI (((a.length : Nat) : Int) - 1) ((k : Nat) : Int) (by omega) (by omega) (by omega))) (by kernel_rfl)) <| pkq (iN k) <| eq_ <| bl_ 0 <| qr_ [0, 1, 2, 3, 4, 5, 6, 7, 8, 9, 10, 11, 12, 13] <| pkq (pT gx 0) <| ppq (.int .i64 x.h) (ldc 3 gx 0 (rc (h2) (rfl))) <| ppq (.bool false) (dcf (((x.h) : Int) < ((1) : Int)) (by omega)) <| pkq (.bool false) <| pkq (pT gx 0) ?_
  refine ppq (.int .i64 x.h) (ldc 3 gx 0 (rc (h2) (rfl))) <| ppq (.bool false) (dcf (((x.h) : Int) > ((4294967296) : Int)) (by omega)) <| pkq (.bool false) <| pkq (.bool false) <| pkq (pT gx 1) <| ppq (uN x.s) (ldc 40 gx 1 (rc (h2) (rfl))) <| ppq (.bool false) (dcf ((((x.s : Nat) : Int)) > ((4611686018427387904) : Int)) (by omega)) <| pkq (.bool false) <| pkq (.bool false) <| en_ <| q_ <| sy_np <| sy_reg <| an_begin 4 13 (opsAt (qc35_1 230)) (fun W => (W.heap[gx]? = some (.cells x.c 46 (0, 0))) ∧ (Sl W 2 Nt.cl v a)) #[false, false, false, false, false, false, false, false, false, false, false, false, false] (by kernel_rfl) (by kernel_rfl) (by kernel_rfl) (by kernel_rfl) ?_
  obtain ⟨V7, eV7, kV7⟩ := drew_step V1
  rw [eV7]
  clear eV7
  have h8 : Sl V7 2 Nt.cl v a := h4.keepsN kV7
  have h9 := kV7.bk h2
  have K10 := K5.nn kV7
  have z11 := kV7.size
  refine akq 0 (iN k) ⟨h9, h8⟩ <| avq 1 (.bool true) (fun W hS => dct ((((k : Nat) : Int)) ≥ ((0) : Int)) (by omega)) ⟨h9, h8⟩ <| akq 2 (.bool true) ⟨h9, h8⟩ <| akq 3 (pT gx 0) ⟨h9, h8⟩ <| avq 4 (.int .i64 x.h) (fun W hS => ldc 3 gx 0 (rc (hS.1) (rfl))) ⟨h9, h8⟩ <| akq 5 (v) ⟨h9, h8⟩ <| akq 6 (iN k) ⟨h9, h8⟩ <| avq 7 (pT b_ (o_ + k * 2)) (fun W hS => exec_indexAt_slice 22 (.tmp 34) (.tmp 35) (by kernel_rfl) b_ o_ a.length c_ (Eq.trans (b := v) (by kernel_rfl) hv_) .i64 k (by kernel_rfl) _ 2 Tryz.underlying22 (by kernel_rfl) (by omega)) ⟨h9, h8⟩ <| akq 8 (pT b_ (o_ + k * 2 + 0)) ⟨h9, h8⟩ <| avq 9 (.int .i64 y.h) (fun W hS => ldc 3 b_ (o_ + k * 2 + 0) (Sl.cell hS.2 hy hv_ rfl)) ⟨h9, h8⟩ <| avq 10 (.bool true) (fun W hS => dct (((x.h) : Int) < ((y.h) : Int)) (by omega)) ⟨h9, h8⟩ <| akq 11 (.bool true) ⟨h9, h8⟩ <| an_o 12 <| nrq (.bool true) (w' := V7) (by kernel_rfl) ?_
  refine ⟨⟨h9, h8⟩, ?_⟩
  refine an_end (by kernel_rfl) <| sy_a ⟨#[.agg x.c, v, pT gx 0, ud, .nilIface, iN k, v, iN a.length, iN k, .bool false, pT gx 0, .int .i64 x.h, .bool false, .bool false, pT gx 0, .int .i64 x.h, .bool false, .bool false, .bool false, pT gx 1, uN x.s, .bool false, .bool false, ud, ud, ud, ud, ud, .bool true, iN k, .bool true, .bool true, pT gx 0, .int .i64 x.h, v, iN k, pT b_ (o_ + k * 2), pT b_ (o_ + k * 2 + 0), .int .i64 y.h, .bool true, .bool true, ud, ud, ud, ud, ud], []⟩ <| then_n <| y_ <| qr_ [0, 1, 2, 3, 4, 5] <| pkq (v) <| ppq (iN a.length) (exec_len_sl (.tmp 41) 22 46 (by kernel_rfl) Tryz.underlying22 (by kernel_rfl) h8) <| pkq (.iface 27 (.int .i64 9)) <| pkq (.agg #[iN a.length, .iface 27 (.int .i64 9)]) <| pkq (.iface 118 (.agg #[iN a.length, .iface 27 (.int .i64 9)])) <| pkq (.iface 118 (.agg #[iN a.length, .iface 27 (.int .i64 9)])) <| eu_ <| blk_r <| then_r ?_
  refine so_ (.iface 118 (.agg #[.int .i64 ((a.length : Nat) : Int), .iface 27 (.int .i64 9)])) ?_
  exact ⟨rfl, K10⟩
theorem nMay_good (x : Nt) (a : List Nt) (v : Value) (w : World) (hl : Sl w 2 Nt.cl v a) (h1 : ¬ x.h < 1) (h2 : ¬ 4294967296 < x.h) (h3 : ¬ 4611686018427387904 < x.s) (k : Nat) (y : Nt) (hk : k + 1 = a.length) (hy : a[k]? = some y) (ho : ¬ x.h < y.h) :
    Calls Tryz.prog 54 #[.agg x.c, v] w (fun e w' => e = .returned (.nilIface) ∧ Keeps Nob w w') := by
  have hln := Sl.len_le hl
  obtain ⟨b_, o_, c_, hv_, hb_, _⟩ := hl.at_ k _ hy
  have K0 : Keeps Nob w w := Keeps.refl _ _
  refine sy_enter (qc35_1 1) ⟨#[.agg x.c, v, ud, ud, ud, ud, ud, ud, ud, ud, ud, ud, ud, ud, ud, ud, ud, ud, ud, ud, ud, ud, ud, ud, ud, ud, ud, ud, ud, ud, ud, ud, ud, ud, ud, ud, ud, ud, ud, ud, ud, ud, ud, ud, ud, ud], []⟩ Tryz.func54 (by kernel_rfl) (by kernel_rfl) <| qr_ [0, 1] <| pbx 46 x.c (.agg x.c) fun V1 gx egx h2 kV1 => ?_
  have n3 : w.heap.size ≤ gx := egx ▸ K0.size
  have h4 : Sl V1 2 Nt.cl v a := hl.keepsN kV1
  have K5 := K0.nn kV1
  have z6 := kV1.size
  refine pkq (.nilIface) <| eqr_ [0, 1, 2, 3] <| pkq (v) <| ppq (iN a.length) (exec_len_sl (.tmp 6) 22 46 (by kernel_rfl) Tryz.underlying22 (by kernel_rfl) h4) <| ppq (iN k) (exec_cast (congrArg (Value.int .i64) (wrapI (((a.length : Nat) : Int) - 1) ((k : Nat) : Int) (by omega) (by omega) (by omega))) (by kernel_rfl)) <| pkq (iN k) <| eq_ <| bl_ 0 <| qr_ [0, 1, 2, 3, 4, 5, 6, 7, 8, 9, 10, 11, 12, 13] <| pkq (pT gx 0) <| ppq (.int .i64 x.h) (ldc 3 gx 0 (rc (h2) (rfl))) <| ppq (.bool false) (dcf (((x.h) : Int) < ((1) : Int)) (by omega)) <| pkq (.bool false) <| pkq (pT gx 0) ?_
  refine ppq (.int .i64 x.h) (ldc 3 gx 0 (rc (h2) (rfl))) <| ppq (.bool false) (dcf (((x.h) : Int) > ((4294967296) : Int)) (by omega)) <| pkq (.bool false) <| pkq (.bool false) <| pkq (pT gx 1) <| ppq (uN x.s) (ldc 40 gx 1 (rc (h2) (rfl))) <| ppq (.bool false) (dcf ((((x.s : Nat) : Int)) > ((4611686018427387904) : Int)) (by omega)) <| pkq (.bool false) <| pkq (.bool false) <| en_ <| q_ <| sy_np <| sy_reg <| an_begin 4 13 (opsAt (qc35_1 230)) (fun W => (W.heap[gx]? = some (.cells x.c 46 (0, 0))) ∧ (Sl W 2 Nt.cl v a)) #[false, false, false, false, false, false, false, false, false, false, false, false, false] (by kernel_rfl) (by kernel_rfl) (by kernel_rfl) (by kernel_rfl) ?_
  obtain ⟨V7, eV7, kV7⟩ := drew_step V1
  rw [eV7]
  clear eV7
  have h8 : Sl V7 2 Nt.cl v a := h4.keepsN kV7
  have h9 := kV7.bk h2
  have K10 := K5.nn kV7
  have z11 := kV7.size
  refine akq 0 (iN k) ⟨h9, h8⟩ <| avq 1 (.bool true) (fun W hS => dct ((((k : Nat) : Int)) ≥ ((0) : Int)) (by omega)) ⟨h9, h8⟩ <| akq 2 (.bool true) ⟨h9, h8⟩ <| akq 3 (pT gx 0) ⟨h9, h8⟩ <| avq 4 (.int .i64 x.h) (fun W hS => ldc 3 gx 0 (rc (hS.1) (rfl))) ⟨h9, h8⟩ <| akq 5 (v) ⟨h9, h8⟩ <| akq 6 (iN k) ⟨h9, h8⟩ <| avq 7 (pT b_ (o_ + k * 2)) (fun W hS => exec_indexAt_slice 22 (.tmp 34) (.tmp 35) (by kernel_rfl) b_ o_ a.length c_ (Eq.trans (b := v) (by kernel_rfl) hv_) .i64 k (by kernel_rfl) _ 2 Tryz.underlying22 (by kernel_rfl) (by omega)) ⟨h9, h8⟩ <| akq 8 (pT b_ (o_ + k * 2 + 0)) ⟨h9, h8⟩ <| avq 9 (.int .i64 y.h) (fun W hS => ldc 3 b_ (o_ + k * 2 + 0) (Sl.cell hS.2 hy hv_ rfl)) ⟨h9, h8⟩ <| avq 10 (.bool false) (fun W hS => dcf (((x.h) : Int) < ((y.h) : Int)) (by omega)) ⟨h9, h8⟩ <| akq 11 (.bool false) ⟨h9, h8⟩ <| an_o 12 <| nrq (.bool false) (w' := V7) (by kernel_rfl) ?_
  refine ⟨⟨h9, h8⟩, ?_⟩
  refine an_end (by kernel_rfl) <| sy_a ⟨#[.agg x.c, v, pT gx 0, ud, .nilIface, iN k, v, iN a.length, iN k, .bool false, pT gx 0, .int .i64 x.h, .bool false, .bool false, pT gx 0, .int .i64 x.h, .bool false, .bool false, .bool false, pT gx 1, uN x.s, .bool false, .bool false, ud, ud, ud, ud, ud, .bool false, iN k, .bool true, .bool true, pT gx 0, .int .i64 x.h, v, iN k, pT b_ (o_ + k * 2), pT b_ (o_ + k * 2 + 0), .int .i64 y.h, .bool false, .bool false, ud, ud, ud, ud, ud], []⟩ <| then_n <| n_ <| s_ <| blk_n <| tqr_ [0] <| pkq (.nilIface) <| eu_ <| so_ (.nilIface) ?_
  exact ⟨rfl, K10⟩
theorem nMay_err (x : Nt) (a : List Nt) (v : Value) (er : Int) (w : World) (hl : Sl w 2 Nt.cl v a) (he : nmay x a = er) (h0 : er ≠ 0) : Calls Tryz.prog 54 #[.agg x.c, v] w (fun e w' => e = .returned (.iface 118 (.agg #[.int .i64 ((a.length : Nat) : Int), .iface 27 (.int .i64 er)])) ∧ Keeps Nob w w') := by
  by_cases h1 : x.h < 1
  · rw [nmay_bad (.inl h1)] at he; subst he; exact nMay_bad1 x a v w hl h1
  · by_cases h2 : 4294967296 < x.h
    · rw [nmay_bad (.inr (.inl h2))] at he; subst he; exact nMay_bad2 x a v w hl h1 h2
    · by_cases h3 : 4611686018427387904 < x.s
      · rw [nmay_bad (.inr (.inr h3))] at he; subst he; exact nMay_bad3 x a v w hl h1 h2 h3
      · have hb : ¬ x.bad := fun h => by rcases h with h | h | h <;> omega
        by_cases ha : a = []
        · subst ha; rw [nmay_nil hb] at he; exact absurd he.symm h0
        · obtain ⟨k, y, hk, hy⟩ := nt_last ha
          rw [nmay_last hb hk hy] at he
          by_cases ho : x.h < y.h
          · rw [if_pos ho] at he; subst he; exact nMay_ord x a v w hl h1 h2 h3 k y hk hy ho
          · rw [if_neg ho] at he; exact absurd he.symm h0
theorem nMay_fine (x : Nt) (a : List Nt) (v : Value) (w : World) (hl : Sl w 2 Nt.cl v a) (he : nmay x a = 0) : Calls Tryz.prog 54 #[.agg x.c, v] w (fun e w' => e = .returned (.nilIface) ∧ Keeps Nob w w') := by
  by_cases hb : x.bad
  · rw [nmay_bad hb] at he; cases he
  · have h1 : ¬ x.h < 1 := fun h => hb (.inl h)
    have h2 : ¬ 4294967296 < x.h := fun h => hb (.inr (.inl h))
    have h3 : ¬ 4611686018427387904 < x.s := fun h => hb (.inr (.inr h))
    by_cases ha : a = []
    · subst ha; exact nMay_nil x [] v w hl h1 h2 h3 rfl
    · obtain ⟨k, y, hk, hy⟩ := nt_last ha
      rw [nmay_last hb hk hy] at he
      by_cases ho : x.h < y.h
      · rw [if_pos ho] at he; cases he
      · exact nMay_good x a v w hl h1 h2 h3 k y hk hy ho
theorem nchk_step {i : Nat} {l : List Nt} {x : Nt} (hx : l[i]? = some x) (h : nmay x (l.take i) = 0) : nchk (l.take i) (l.drop i) = nchk (l.take (i + 1)) (l.drop (i + 1)) := by
  have hi : i < l.length := (List.getElem?_eq_some_iff.1 hx).1
  rw [List.drop_eq_getElem_cons hi, nchk]
  have e : l[i] = x := (List.getElem?_eq_some_iff.1 hx).2
  rw [e, if_pos h, List.take_add_one, hx]; rfl
theorem nchk_stop {i : Nat} {l : List Nt} {x : Nt} {e : Int} (hx : l[i]? = some x) (h : nmay x (l.take i) = e) (h0 : e ≠ 0) : nchk (l.take i) (l.drop i) = (e, (i : Int)) := by
  have hi : i < l.length := (List.getElem?_eq_some_iff.1 hx).1
  rw [List.drop_eq_getElem_cons hi, nchk]
  have e : l[i] = x := (List.getElem?_eq_some_iff.1 hx).2
  rw [e, h, if_neg h0, List.length_take, Nat.min_eq_left (by omega)]
theorem nchk_end {i : Nat} {l : List Nt} (h : i = l.length) : nchk (l.take i) (l.drop i) = (0, 0) := by rw [h, List.drop_length]; rfl
theorem ncheck_long {l : List Nt} (h : 64 < l.length) : ncheck l = (4, 64) := by unfold ncheck; rw [if_pos h]
theorem ncheck_go {l : List Nt} (h : ¬ 64 < l.length) : ncheck l = nchk (l.take 0) (l.drop 0) := by unfold ncheck; rw [if_neg h]; rfl
theorem check_cases (l : List Nt) (i : Nat) (hi : i ≤ l.length) : (∃ x, i < l.length ∧ l[i]? = some x ∧ nmay x (l.take i) = 0) ∨ (∃ x e, i < l.length ∧ l[i]? = some x ∧ nmay x (l.take i) = e ∧ e ≠ 0) ∨ i = l.length := by
  by_cases h : i < l.length
  · obtain ⟨x, hx⟩ : ∃ x, l[i]? = some x := ⟨_, List.getElem?_eq_getElem h⟩
    by_cases h0 : nmay x (l.take i) = 0
    · exact .inl ⟨x, h, hx, h0⟩
    · exact .inr (.inl ⟨x, _, h, hx, rfl, h0⟩)
  · exact .inr (.inr (by omega))
theorem nMay_is (x : Nt) (a : List Nt) (v : Value) (er : Int) (k : Nat) (w : World) (hl : Sl w 2 Nt.cl v a) (he : nmay x a = er) (h0 : er ≠ 0) (hk : a.length = k) : Calls Tryz.prog 54 #[.agg x.c, v] w (fun e w' => e = .returned (.iface 118 (.agg #[.int .i64 ((k : Nat) : Int), .iface 27 (.int .i64 er)])) ∧ Keeps Nob w w') := hk ▸ nMay_err x a v er w hl he h0
noncomputable def qc35_0 (n : Nat) : Code := partOf Tryz.f22 n
theorem nCheck_long (l : List Nt) (A : Option Addr) (cap : Nat) (w : World) (hl : Sl w 2 Nt.cl (.slice A l.length cap) l) (hcap : l.length ≤ cap) (hs : 64 < l.length) (het : ErrTab w) :
    Calls Tryz.prog 22 #[.slice A l.length cap] w (fun e w' => e = .returned (.tuple #[.int .i64 (ncheck l).1, .int .i64 (ncheck l).2]) ∧ Keeps Nob w w') := by
  have hln := Sl.len_le hl
  have K0 : Keeps Nob w w := Keeps.refl _ _
  refine sy_enter (qc35_0 1) ⟨#[.slice A l.length cap, ud, ud, ud, ud, ud, ud, ud, ud, ud, ud, ud, ud, ud, ud, ud, ud, ud, ud, ud, ud, ud, ud, ud, ud, ud, ud, ud, ud], []⟩ Tryz.func22 (by kernel_rfl) (by kernel_rfl) <| qr_ [0, 1] <| pkq (.int .i64 0) <| pkq (.int .i64 0) <| eq_ <| qr_ [0, 1, 2] <| pkq (.slice A l.length cap) <| ppq (iN l.length) (exec_len_sl (.tmp 7) 22 46 (by kernel_rfl) Tryz.underlying22 (by kernel_rfl) hl) <| ppq (.bool true) (dct ((((l.length : Nat) : Int)) > ((64) : Int)) (by omega)) <| ey_ <| qr_ [0, 1] <| pkq (.int .i64 4) <| pkq (.int .i64 64) <| eu_ ?_
  refine then_r <| so_ (.tuple #[.int .i64 4, .int .i64 64]) ?_
  exact ⟨by rw [ncheck_long hs], K0⟩
theorem nCheck_main (l : List Nt) (A : Option Addr) (cap : Nat) (w : World) (hl : Sl w 2 Nt.cl (.slice A l.length cap) l) (hcap : l.length ≤ cap) (hs : ¬ 64 < l.length) (het : ErrTab w) :
    Calls Tryz.prog 22 #[.slice A l.length cap] w (fun e w' => e = .returned (.tuple #[.int .i64 (ncheck l).1, .int .i64 (ncheck l).2]) ∧ Keeps Nob w w') := by
  have hln := Sl.len_le hl
  have K0 : Keeps Nob w w := Keeps.refl _ _
  refine sy_enter (qc35_0 1) ⟨#[.slice A l.length cap, ud, ud, ud, ud, ud, ud, ud, ud, ud, ud, ud, ud, ud, ud, ud, ud, ud, ud, ud, ud, ud, ud, ud, ud, ud, ud, ud, ud], []⟩ Tryz.func22 (by kernel_rfl) (by kernel_rfl) <| qr_ [0, 1] <| pkq (.int .i64 0) <| pkq (.int .i64 0) <| eq_ <| qr_ [0, 1, 2] <| pkq (.slice A l.length cap) <| ppq (iN l.length) (exec_len_sl (.tmp 7) 22 46 (by kernel_rfl) Tryz.underlying22 (by kernel_rfl) hl) <| ppq (.bool false) (dcf ((((l.length : Nat) : Int)) > ((64) : Int)) (by omega)) <| en_ <| s_ <| tq_ <| qr_ [0, 1, 2] <| pkq (.slice A l.length cap) ?_
  refine ppq (iN l.length) (exec_len_sl (.tmp 10) 22 46 (by kernel_rfl) Tryz.underlying22 (by kernel_rfl) hl) <| pkq (.int .i64 0) <| et_ <| bl_ 0 ?_
  refine sy_loop (qc35_0 116) (fun a V => ∃ (i : Nat) (u2 u3 u4 u5 u6 u13 u14 u15 u16 u17 u18 u19 u20 u21 u22 u23 u24 u25 u26 u27 u28 : Value), (a = ⟨#[.slice A l.length cap, ud, u2, u3, u4, u5, u6, .slice A l.length cap, iN l.length, .bool false, .slice A l.length cap, iN l.length, iN i, u13, u14, u15, u16, u17, u18, u19, u20, u21, u22, u23, u24, u25, u26, u27, u28], []⟩) ∧ (i ≤ l.length) ∧ (nchk (l.take i) (l.drop i) = ncheck l) ∧ (Sl V 2 Nt.cl (.slice A l.length cap) l) ∧ (Keeps Nob w V)) (fun a _ => l.length - (intOf (a.tmps.getD 12 undef)).toNat) (by kernel_rfl) ?_ ?_
  · exact ⟨0, (.int .i64 0), (.int .i64 0), undef, undef, undef, undef, undef, undef, undef, undef, undef, undef, undef, undef, undef, undef, undef, undef, undef, undef, undef, by kernel_rfl, by omega, (ncheck_go hs).symm, hl, K0⟩
  · rintro a V1 ⟨i, u2, u3, u4, u5, u6, u13, u14, u15, u16, u17, u18, u19, u20, u21, u22, u23, u24, u25, u26, u27, u28, rfl, hi, hp, h2, K3⟩
    rcases check_cases l i hi with ⟨x, hi2, hx, he⟩ | ⟨x, er, hi2, hx, he, h0⟩ | eq_i
    · skip
      obtain ⟨b_, o_, c_, hv_, hb_, _⟩ := hl.at_ i _ hx
      have hpe := (nchk_step hx he).symm.trans hp
      refine qr_ [0] <| ppq (.bool true) (dct ((((i : Nat) : Int)) < (((l.length : Nat) : Int))) (by omega)) <| eq_ <| y_ <| s_ <| tq_ <| bl_ 1 <| qr_ [0, 1, 2, 3, 4, 5] <| pkq (iN i) <| ppq (pT b_ (o_ + i * 2)) (exec_indexAt_slice 22 (.tmp 10) (.tmp 12) (by kernel_rfl) b_ o_ l.length c_ (Eq.trans (b := (.slice A l.length cap)) (by kernel_rfl) hv_) .i64 i (by kernel_rfl) _ 2 Tryz.underlying22 (by kernel_rfl) (by omega)) <| ppq (.agg x.c) (exec_load_mid 46 (.tmp 15) (by kernel_rfl) b_ (o_ + i * 2) (by kernel_rfl) (Nt.cl x) _ (Sl.range h2 hx hv_) Tryz.underlying46 rfl (by kernel_rfl)) <| pal 46 (#[.int .i64 0, .int .u64 0]) (.agg (#[.int .i64 0, .int .u64 0])) fun V4 gx egx h5 kV4 => ?_
      have n6 : w.heap.size ≤ gx := egx ▸ K3.size
      have h7 : Sl V4 2 Nt.cl (.slice A l.length cap) l := h2.keepsN kV4
      have K8 := K3.nn kV4
      have z9 := kV4.size
      refine pkq (iN i) <| pst 46 gx x.c h5 (by kernel_rfl) rfl (by kernel_rfl) fun V10 h11 kV10 => ?_
      have h12 : Sl V10 2 Nt.cl (.slice A l.length cap) l := Sl.keepsB hl h7 kV10 (fun j e => by first | (unfold Own.One at e; omega) | omega)
      have K13 := K8.nO kV10
      have z14 := kV10.size
      refine eq_ <| sy_np <| sy_reg <| an_begin 6 6 (opsAt (qc35_0 7474)) (fun W => (W.heap[gx]? = some (.cells x.c 46 (0, 0)))) #[false, false, false, false, false, false] (by kernel_rfl) (by kernel_rfl) (by kernel_rfl) (by kernel_rfl) ?_
      obtain ⟨V15, eV15, kV15⟩ := drew_step V10
      rw [eV15]
      clear eV15
      have h16 : Sl V15 2 Nt.cl (.slice A l.length cap) l := h12.keepsN kV15
      have h17 := kV15.bk h11
      have K18 := K13.nn kV15
      have z19 := kV15.size
      refine avq 0 (.agg (x.c)) (fun W hS => ldr 46 gx (hS) (by kernel_rfl)) h17 <| akq 1 (.slice A l.length cap) h17 <| akq 2 (iN i) h17 <| avq 3 (.slice A i cap) (fun W hS => exec_slice_toW 22 (.tmp 18) (.tmp 19) (by kernel_rfl) A l.length cap (by kernel_rfl) .i64 i (by kernel_rfl) 46 Tryz.underlying22 2 (by kernel_rfl) (by omega)) h17 <| an_o 4 ?_
      refine ncq 54 #[.agg (x.c), .slice A i cap] Tryz.func54 ((nMay_fine x (l.take i) _ _ (Sl.take h16 i hi A _ cap rfl) he).mono ?_)
      rintro e V20 ⟨rfl, kV20⟩
      refine ⟨_, rfl, ?_⟩
      have h21 : Sl V20 2 Nt.cl (.slice A l.length cap) l := h16.keepsN kV20
      have h22 := kV20.bk h17
      have K23 := K18.nn kV20
      have z24 := kV20.size
      refine ⟨h22, ?_⟩
      refine an_o 5 <| nrq (.nilIface) (w' := V20) (by kernel_rfl) ?_
      refine ⟨h22, ?_⟩
      refine an_end (by kernel_rfl) <| tqr_ [0, 1] <| pkq (.nilIface) <| pkq (.bool false) <| en_ <| s_ <| blk_n <| tr_ [0, 1] <| ppq (iN (i + 1)) (exec_cast (congrArg (Value.int .i64) (wrapN (i + 1) (by omega))) (by kernel_rfl)) <| pkq (iN (i + 1)) <| et_ ?_
      refine ⟨⟨i + 1, u2, u3, (iN i), (pT gx 0), .nilIface, (.bool true), (iN i), (pT b_ (o_ + i * 2)), (.agg x.c), (.agg (x.c)), (.slice A l.length cap), (iN i), (.slice A i cap), .nilIface, .nilIface, (.bool false), u24, u25, u26, u27, (iN (i + 1)), by kernel_rfl, by omega, hpe, h21, K23⟩, ?_⟩
      exact lt_meas (x := l.length - (i + 1)) (y := l.length - i) (by kernel_rfl) (by kernel_rfl) (by omega)
    · skip
      obtain ⟨b_, o_, c_, hv_, hb_, _⟩ := hl.at_ i _ hx
      have hres := (nchk_stop hx he h0).symm.trans hp
      refine qr_ [0] <| ppq (.bool true) (dct ((((i : Nat) : Int)) < (((l.length : Nat) : Int))) (by omega)) <| eq_ <| y_ <| s_ <| tq_ <| bl_ 1 <| qr_ [0, 1, 2, 3, 4, 5] <| pkq (iN i) <| ppq (pT b_ (o_ + i * 2)) (exec_indexAt_slice 22 (.tmp 10) (.tmp 12) (by kernel_rfl) b_ o_ l.length c_ (Eq.trans (b := (.slice A l.length cap)) (by kernel_rfl) hv_) .i64 i (by kernel_rfl) _ 2 Tryz.underlying22 (by kernel_rfl) (by omega)) <| ppq (.agg x.c) (exec_load_mid 46 (.tmp 15) (by kernel_rfl) b_ (o_ + i * 2) (by kernel_rfl) (Nt.cl x) _ (Sl.range h2 hx hv_) Tryz.underlying46 rfl (by kernel_rfl)) <| pal 46 (#[.int .i64 0, .int .u64 0]) (.agg (#[.int .i64 0, .int .u64 0])) fun V25 gx egx h26 kV25 => ?_
      have n27 : w.heap.size ≤ gx := egx ▸ K3.size
      have h28 : Sl V25 2 Nt.cl (.slice A l.length cap) l := h2.keepsN kV25
      have K29 := K3.nn kV25
      have z30 := kV25.size
      refine pkq (iN i) <| pst 46 gx x.c h26 (by kernel_rfl) rfl (by kernel_rfl) fun V31 h32 kV31 => ?_
      have h33 : Sl V31 2 Nt.cl (.slice A l.length cap) l := Sl.keepsB hl h28 kV31 (fun j e => by first | (unfold Own.One at e; omega) | omega)
      have K34 := K29.nO kV31
      have z35 := kV31.size
      refine eq_ <| sy_np <| sy_reg <| an_begin 6 6 (opsAt (qc35_0 7474)) (fun W => (W.heap[gx]? = some (.cells x.c 46 (0, 0)))) #[false, false, false, false, false, false] (by kernel_rfl) (by kernel_rfl) (by kernel_rfl) (by kernel_rfl) ?_
      obtain ⟨V36, eV36, kV36⟩ := drew_step V31
      rw [eV36]
      clear eV36
      have h37 : Sl V36 2 Nt.cl (.slice A l.length cap) l := h33.keepsN kV36
      have h38 := kV36.bk h32
      have K39 := K34.nn kV36
      have z40 := kV36.size
      refine avq 0 (.agg (x.c)) (fun W hS => ldr 46 gx (hS) (by kernel_rfl)) h38 <| akq 1 (.slice A l.length cap) h38 <| akq 2 (iN i) h38 <| avq 3 (.slice A i cap) (fun W hS => exec_slice_toW 22 (.tmp 18) (.tmp 19) (by kernel_rfl) A l.length cap (by kernel_rfl) .i64 i (by kernel_rfl) 46 Tryz.underlying22 2 (by kernel_rfl) (by omega)) h38 <| an_o 4 ?_
      refine ncq 54 #[.agg (x.c), .slice A i cap] Tryz.func54 ((nMay_is x (l.take i) _ er i _ (Sl.take h37 i hi A _ cap rfl) he h0 (by rw [List.length_take]; omega)).mono ?_)
      rintro e V41 ⟨rfl, kV41⟩
      refine ⟨_, rfl, ?_⟩
      have h43 := kV41.bk h38
      have K44 := K39.nn kV41
      have z45 := kV41.size
      refine ⟨h43, ?_⟩
      refine an_o 5 <| nrq (.iface 118 (.agg #[iN i, .iface 27 (.int .i64 er)])) (w' := V41) (by kernel_rfl) ?_
      refine ⟨h43, ?_⟩
      refine an_end (by kernel_rfl) <| tqr_ [0, 1] <| pkq (.iface 118 (.agg #[iN i, .iface 27 (.int .i64 er)])) <| pkq (.bool true) <| ey_ <| qr_ [0, 1, 2, 3, 4, 5] <| pkq (.iface 118 (.agg #[iN i, .iface 27 (.int .i64 er)])) ?_
      refine pcq 55 #[.iface 118 (.agg #[iN i, .iface 27 (.int .i64 er)])] Tryz.func55 ((number_some ((i : Nat) : Int) er _ (ErrTab.keeps het K44)).mono ?_)
      rintro e V46 ⟨rfl, kV46⟩
      refine ⟨_, rfl, ?_⟩
      have K49 := K44.nn kV46
      have z50 := kV46.size
      refine pkq (.int .i64 er) <| pkq (iN i) <| pkq (.int .i64 er) <| pkq (iN i) <| eu_ <| blk_r <| then_r <| then_r <| blk_r <| then_r <| so_ (.tuple #[.int .i64 er, .int .i64 ((i : Nat) : Int)]) ?_
      exact ⟨by rw [← hres], K49⟩
    · have hres := (nchk_end eq_i).symm.trans hp
      refine qr_ [0] <| ppq (.bool false) (dcf ((((i : Nat) : Int)) < (((l.length : Nat) : Int))) (by omega)) <| eq_ <| n_ <| sy_exit 0 (by kernel_rfl) <| then_e <| then_e <| blk_e <| tqr_ [0, 1] <| pkq (.int .i64 0) <| pkq (.int .i64 0) <| eu_ <| so_ (.tuple #[.int .i64 0, .int .i64 0]) ?_
      exact ⟨by rw [← hres], K3⟩
theorem nCheck_ok (l : List Nt) (v : Value) (w : World) (hl : Sl w 2 Nt.cl v l) (het : ErrTab w) : Calls Tryz.prog 22 #[v] w (fun e w' => e = .returned (.tuple #[.int .i64 (ncheck l).1, .int .i64 (ncheck l).2]) ∧ Keeps Nob w w') := by
  obtain ⟨A, cap, rfl, hc, _⟩ := hl.form
  by_cases hs : 64 < l.length
  · exact nCheck_long l A cap w hl hc hs het
  · exact nCheck_main l A cap w hl hc hs het
end Go.Proofs.YtghohakbepeffaaGreatDoor
namespace Go.Own
set_option maxRecDepth 100000
set_option maxHeartbeats 4000000
open Go
/-- The operations of region 'id' in a body. -/
noncomputable def opsIn (id : Nat) : Code → Option (Array Oper)
  | .region k ops _ => if k = id then some ops else none
  | .seq a b => (opsIn id a).or (opsIn id b)
  | .cond _ a b => (opsIn id a).or (opsIn id b)
  | .block _ b => opsIn id b
  | .loop b => opsIn id b
  | .rangeFunc _ _ a b => (opsIn id a).or (opsIn id b)
  | _ => none
noncomputable def opsOf (f : Func) (id : Nat) : Array Oper := ((f.body.bind (opsIn id)).getD #[])
end Go.Own
namespace Go.Proofs.YtghohakbepeffaaGreatDoor
set_option maxRecDepth 100000
set_option maxHeartbeats 4000000
open Go Go.Own
noncomputable def opsFields : Array Oper := opsOf Tryz.f96 1
end Go.Proofs.YtghohakbepeffaaGreatDoor
namespace Go.Proofs.YtghohakbepeffaaGreatDoor
set_option maxRecDepth 100000
set_option maxHeartbeats 4000000
open Go Go.RowKit Go.Own Go.Shelf
/-- The names, bounds and functions of the fields. -/
def parName : List ByteArray := [⟨#[117, 110, 98, 111, 110, 100, 105, 110, 103]⟩, ⟨#[109, 97, 120, 97, 103, 101]⟩, ⟨#[101, 112, 111, 99, 104, 108, 101, 110]⟩, ⟨#[119, 105, 110, 100, 111, 119]⟩, ⟨#[101, 110, 116, 114, 105, 101, 115]⟩, ⟨#[109, 97, 120, 97, 99, 116, 105, 118, 101]⟩, ⟨#[106, 97, 105, 108, 116, 105, 109, 101]⟩, ⟨#[98, 97, 115, 101]⟩, ⟨#[109, 117, 108, 116]⟩, ⟨#[99, 111, 114, 114, 119, 105, 110, 100, 111, 119]⟩, ⟨#[114, 101, 119, 97, 114, 100]⟩]
def parLoU : List Int := [1, 0, 1, 1, 1, 1, 1, 0, 0, 1, 0]
def parHiU : List Int := [1048576, 1048576, 1000, 256, 16, 32, 1048576, 1000000000, 1000, 1048576, 1000000000]
def parGet : List Nat := [109, 109, 109, 109, 109, 109, 109, 111, 111, 109, 111]
def parSet : List Nat := [110, 110, 110, 110, 110, 110, 110, 112, 112, 110, 112]
def parField (i k : Nat) : Value := fieldV (.string (parName[i]?.getD ⟨#[]⟩)) (parLoU[i]?.getD 0) (parHiU[i]?.getD 0) (parGet[i]?.getD 0) (parSet[i]?.getD 0) k
/-- The fields of the record at block b lie at block g; field i's box is block ks i. -/
structure FieldsAt (w : World) (g b : Nat) (ks : Nat → Nat) : Prop where
  cell : ∀ i j : Nat, i < 11 → j < 5 → w.cell? ⟨g, i * 5 + j, none⟩ = (parField i (ks i)).cells[j]?
  box : ∀ i : Nat, i < 11 → w.cell? ⟨ks i, 0, none⟩ = some (.pointer (some ⟨b, i, none⟩))
/-- All cells of the fields. -/
def fieldCells (zs : List Nat) : Array Value := ((List.range 11).map fun i => (parField i (zs[i]?.getD 0)).cells.toList).flatten.toArray
theorem fieldCells_get (z0 z1 z2 z3 z4 z5 z6 z7 z8 z9 z10 : Nat) (i j : Nat) (hi : i < 11) (hj : j < 5) :
    (fieldCells [z0, z1, z2, z3, z4, z5, z6, z7, z8, z9, z10])[i * 5 + j]? = (parField i ([z0, z1, z2, z3, z4, z5, z6, z7, z8, z9, z10][i]?.getD 0)).cells[j]? := by
  have h : j = 0 ∨ j = 1 ∨ j = 2 ∨ j = 3 ∨ j = 4 := by omega
  have h' : i = 0 ∨ i = 1 ∨ i = 2 ∨ i = 3 ∨ i = 4 ∨ i = 5 ∨ i = 6 ∨ i = 7 ∨ i = 8 ∨ i = 9 ∨ i = 10 := by omega
  rcases h' with rfl | rfl | rfl | rfl | rfl | rfl | rfl | rfl | rfl | rfl | rfl <;> rcases h with rfl | rfl | rfl | rfl | rfl <;> rfl
theorem fields_sel : Region.noSelect opsFields = true := by kernel_rfl
theorem fields_size : opsFields.size = 46 := by kernel_rfl
theorem fields_pure (b : Nat) : pureRun Tryz.prog .any opsFields [0, 1, 2, 4, 5, 6, 8, 9, 10, 12, 13, 14, 16, 17, 18, 20, 21, 22, 24, 25, 26, 28, 29, 30, 32, 33, 34, 36, 37, 38, 40, 41, 42] (Array.replicate 46 false) ⟨#[.pointer (some ⟨b, 0, none⟩), ud, .slice none 0 0, ud, ud, ud, ud, ud, ud, ud, ud, ud, ud, ud, ud, ud, ud, ud, ud, ud, ud, ud, ud, ud, ud, ud, ud, ud, ud, ud, ud, ud, ud, ud, ud, ud, ud, ud, ud, ud, ud, ud, ud, ud, ud, ud, ud, ud], []⟩ = some (#[true, true, true, false, true, true, true, false, true, true, true, false, true, true, true, false, true, true, true, false, true, true, true, false, true, true, true, false, true, true, true, false, true, true, true, false, true, true, true, false, true, true, true, false, false, false], ⟨#[.pointer (some ⟨b, 0, none⟩), ud, .slice none 0 0, .pointer (some ⟨b, 0, none⟩), .pointer (some ⟨b, 0, none⟩), .pointer (some ⟨b, 0, none⟩), ud, .pointer (some ⟨b, 0, none⟩), .pointer (some ⟨b, 0, none⟩), .pointer (some ⟨b, 1, none⟩), ud, .pointer (some ⟨b, 0, none⟩), .pointer (some ⟨b, 0, none⟩), .pointer (some ⟨b, 2, none⟩), ud, .pointer (some ⟨b, 0, none⟩), .pointer (some ⟨b, 0, none⟩), .pointer (some ⟨b, 3, none⟩), ud, .pointer (some ⟨b, 0, none⟩), .pointer (some ⟨b, 0, none⟩), .pointer (some ⟨b, 4, none⟩), ud, .pointer (some ⟨b, 0, none⟩), .pointer (some ⟨b, 0, none⟩), .pointer (some ⟨b, 5, none⟩), ud, .pointer (some ⟨b, 0, none⟩), .pointer (some ⟨b, 0, none⟩), .pointer (some ⟨b, 6, none⟩), ud, .pointer (some ⟨b, 0, none⟩), .pointer (some ⟨b, 0, none⟩), .pointer (some ⟨b, 7, none⟩), ud, .pointer (some ⟨b, 0, none⟩), .pointer (some ⟨b, 0, none⟩), .pointer (some ⟨b, 8, none⟩), ud, .pointer (some ⟨b, 0, none⟩), .pointer (some ⟨b, 0, none⟩), .pointer (some ⟨b, 9, none⟩), ud, .pointer (some ⟨b, 0, none⟩), .pointer (some ⟨b, 0, none⟩), .pointer (some ⟨b, 10, none⟩), ud, ud], []⟩) := by kernel_rfl
theorem fields_fn0 : (opsFields.getD 3 default).op = .call { callee := .value (.func 106), args := callArgs (opsFields.getD 3 default), argTypes := callTypes (opsFields.getD 3 default) } := by kernel_rfl
theorem fields_fn1 : (opsFields.getD 7 default).op = .call { callee := .value (.func 106), args := callArgs (opsFields.getD 7 default), argTypes := callTypes (opsFields.getD 7 default) } := by kernel_rfl
theorem fields_fn2 : (opsFields.getD 11 default).op = .call { callee := .value (.func 106), args := callArgs (opsFields.getD 11 default), argTypes := callTypes (opsFields.getD 11 default) } := by kernel_rfl
theorem fields_fn3 : (opsFields.getD 15 default).op = .call { callee := .value (.func 106), args := callArgs (opsFields.getD 15 default), argTypes := callTypes (opsFields.getD 15 default) } := by kernel_rfl
theorem fields_fn4 : (opsFields.getD 19 default).op = .call { callee := .value (.func 106), args := callArgs (opsFields.getD 19 default), argTypes := callTypes (opsFields.getD 19 default) } := by kernel_rfl
theorem fields_fn5 : (opsFields.getD 23 default).op = .call { callee := .value (.func 106), args := callArgs (opsFields.getD 23 default), argTypes := callTypes (opsFields.getD 23 default) } := by kernel_rfl
theorem fields_fn6 : (opsFields.getD 27 default).op = .call { callee := .value (.func 106), args := callArgs (opsFields.getD 27 default), argTypes := callTypes (opsFields.getD 27 default) } := by kernel_rfl
theorem fields_fn7 : (opsFields.getD 31 default).op = .call { callee := .value (.func 107), args := callArgs (opsFields.getD 31 default), argTypes := callTypes (opsFields.getD 31 default) } := by kernel_rfl
theorem fields_fn8 : (opsFields.getD 35 default).op = .call { callee := .value (.func 107), args := callArgs (opsFields.getD 35 default), argTypes := callTypes (opsFields.getD 35 default) } := by kernel_rfl
theorem fields_fn9 : (opsFields.getD 39 default).op = .call { callee := .value (.func 106), args := callArgs (opsFields.getD 39 default), argTypes := callTypes (opsFields.getD 39 default) } := by kernel_rfl
theorem fields_fn10 : (opsFields.getD 43 default).op = .call { callee := .value (.func 107), args := callArgs (opsFields.getD 43 default), argTypes := callTypes (opsFields.getD 43 default) } := by kernel_rfl
theorem state_eq {Q : Exit → Act → World → Prop} {e : Exit} {a b : Act} {w : World} (h : a = b) (hq : Q e b w) : Q e a w := h ▸ hq
theorem ent_of : ∀ args w, (callFunc 106 args).run Tryz.prog w = .ok (.enter 106 args) w := enters_of Tryz.func106 (by kernel_rfl) rfl
theorem ent_word : ∀ args w, (callFunc 107 args).run Tryz.prog w = .ok (.enter 107 args) w := enters_of Tryz.func107 (by kernel_rfl) rfl
theorem fields_new (b : Nat) (w : World) :
    Calls Tryz.prog 96 #[.pointer (some ⟨b, 0, none⟩)] w fun e w' => ∃ g ks, e = .returned (.slice (some ⟨g, 0, none⟩) 11 11) ∧ FieldsAt w' g b ks ∧ g < w'.heap.size ∧ Keeps Nob w w' ∧ w.heap.size ≤ g ∧ ∀ i, i < 11 → w.heap.size ≤ ks i := by
  go_enter Tryz.func96, Tryz.ntmps96
  go_wp2_with fail
  refine wp_region_noPanic <| region_named (R := opsFields) (by kernel_rfl) <| wp_region_fuel 46 (Array.replicate 46 false) (by kernel_rfl) fields_size rfl <| wpAny_pure' fields_sel (fun _ _ _ _ _ h => h) [0, 1, 2, 4, 5, 6, 8, 9, 10, 12, 13, 14, 16, 17, 18, 20, 21, 22, 24, 25, 26, 28, 29, 30, 32, 33, 34, 36, 37, 38, 40, 41, 42] _ _ _ _ _ 13 46 rfl (fields_pure b) ?_
  refine wpAny_call' (i := 3) (opsFields.getD 3 default) 106 #[.string ⟨#[117, 110, 98, 111, 110, 100, 105, 110, 103]⟩, .int .u64 1, .int .u64 1048576, .pointer (some ⟨b, 0, none⟩)] (by kernel_rfl) (by kernel_rfl) (by kernel_rfl) fields_fn0 (by kernel_rfl) ent_of ((of_ok ⟨#[117, 110, 98, 111, 110, 100, 105, 110, 103]⟩ 1 1048576 ⟨b, 0, none⟩ _).mono ?_)
  rintro e W0 ⟨rfl, c0, s0, k0⟩
  refine ⟨_, rfl, ?_⟩
  obtain ⟨z0, hz0⟩ : ∃ z, z = w.drew.heap.size := ⟨_, rfl⟩
  rw [← hz0] at c0 s0 ⊢
  refine wpAny_call' (i := 7) (opsFields.getD 7 default) 106 #[.string ⟨#[109, 97, 120, 97, 103, 101]⟩, .int .u64 0, .int .u64 1048576, .pointer (some ⟨b, 1, none⟩)] (by kernel_rfl) (by kernel_rfl) (by kernel_rfl) fields_fn1 (by kernel_rfl) ent_of ((of_ok ⟨#[109, 97, 120, 97, 103, 101]⟩ 0 1048576 ⟨b, 1, none⟩ _).mono ?_)
  rintro e W1 ⟨rfl, c1, s1, k1⟩
  refine ⟨_, rfl, ?_⟩
  obtain ⟨z1, hz1⟩ : ∃ z, z = W0.heap.size := ⟨_, rfl⟩
  rw [← hz1] at c1 s1 ⊢
  refine wpAny_call' (i := 11) (opsFields.getD 11 default) 106 #[.string ⟨#[101, 112, 111, 99, 104, 108, 101, 110]⟩, .int .u64 1, .int .u64 1000, .pointer (some ⟨b, 2, none⟩)] (by kernel_rfl) (by kernel_rfl) (by kernel_rfl) fields_fn2 (by kernel_rfl) ent_of ((of_ok ⟨#[101, 112, 111, 99, 104, 108, 101, 110]⟩ 1 1000 ⟨b, 2, none⟩ _).mono ?_)
  rintro e W2 ⟨rfl, c2, s2, k2⟩
  refine ⟨_, rfl, ?_⟩
  obtain ⟨z2, hz2⟩ : ∃ z, z = W1.heap.size := ⟨_, rfl⟩
  rw [← hz2] at c2 s2 ⊢
  refine wpAny_call' (i := 15) (opsFields.getD 15 default) 106 #[.string ⟨#[119, 105, 110, 100, 111, 119]⟩, .int .u64 1, .int .u64 256, .pointer (some ⟨b, 3, none⟩)] (by kernel_rfl) (by kernel_rfl) (by kernel_rfl) fields_fn3 (by kernel_rfl) ent_of ((of_ok ⟨#[119, 105, 110, 100, 111, 119]⟩ 1 256 ⟨b, 3, none⟩ _).mono ?_)
  rintro e W3 ⟨rfl, c3, s3, k3⟩
  refine ⟨_, rfl, ?_⟩
  obtain ⟨z3, hz3⟩ : ∃ z, z = W2.heap.size := ⟨_, rfl⟩
  rw [← hz3] at c3 s3 ⊢
  refine wpAny_call' (i := 19) (opsFields.getD 19 default) 106 #[.string ⟨#[101, 110, 116, 114, 105, 101, 115]⟩, .int .u64 1, .int .u64 16, .pointer (some ⟨b, 4, none⟩)] (by kernel_rfl) (by kernel_rfl) (by kernel_rfl) fields_fn4 (by kernel_rfl) ent_of ((of_ok ⟨#[101, 110, 116, 114, 105, 101, 115]⟩ 1 16 ⟨b, 4, none⟩ _).mono ?_)
  rintro e W4 ⟨rfl, c4, s4, k4⟩
  refine ⟨_, rfl, ?_⟩
  obtain ⟨z4, hz4⟩ : ∃ z, z = W3.heap.size := ⟨_, rfl⟩
  rw [← hz4] at c4 s4 ⊢
  refine wpAny_call' (i := 23) (opsFields.getD 23 default) 106 #[.string ⟨#[109, 97, 120, 97, 99, 116, 105, 118, 101]⟩, .int .u64 1, .int .u64 32, .pointer (some ⟨b, 5, none⟩)] (by kernel_rfl) (by kernel_rfl) (by kernel_rfl) fields_fn5 (by kernel_rfl) ent_of ((of_ok ⟨#[109, 97, 120, 97, 99, 116, 105, 118, 101]⟩ 1 32 ⟨b, 5, none⟩ _).mono ?_)
  rintro e W5 ⟨rfl, c5, s5, k5⟩
  refine ⟨_, rfl, ?_⟩
  obtain ⟨z5, hz5⟩ : ∃ z, z = W4.heap.size := ⟨_, rfl⟩
  rw [← hz5] at c5 s5 ⊢
  refine wpAny_call' (i := 27) (opsFields.getD 27 default) 106 #[.string ⟨#[106, 97, 105, 108, 116, 105, 109, 101]⟩, .int .u64 1, .int .u64 1048576, .pointer (some ⟨b, 6, none⟩)] (by kernel_rfl) (by kernel_rfl) (by kernel_rfl) fields_fn6 (by kernel_rfl) ent_of ((of_ok ⟨#[106, 97, 105, 108, 116, 105, 109, 101]⟩ 1 1048576 ⟨b, 6, none⟩ _).mono ?_)
  rintro e W6 ⟨rfl, c6, s6, k6⟩
  refine ⟨_, rfl, ?_⟩
  obtain ⟨z6, hz6⟩ : ∃ z, z = W5.heap.size := ⟨_, rfl⟩
  rw [← hz6] at c6 s6 ⊢
  refine wpAny_call' (i := 31) (opsFields.getD 31 default) 107 #[.string ⟨#[98, 97, 115, 101]⟩, .int .u64 1000000000, .pointer (some ⟨b, 7, none⟩)] (by kernel_rfl) (by kernel_rfl) (by kernel_rfl) fields_fn7 (by kernel_rfl) ent_word ((word_ok ⟨#[98, 97, 115, 101]⟩ 1000000000 ⟨b, 7, none⟩ _).mono ?_)
  rintro e W7 ⟨rfl, c7, s7, k7⟩
  refine ⟨_, rfl, ?_⟩
  obtain ⟨z7, hz7⟩ : ∃ z, z = W6.heap.size := ⟨_, rfl⟩
  rw [← hz7] at c7 s7 ⊢
  refine wpAny_call' (i := 35) (opsFields.getD 35 default) 107 #[.string ⟨#[109, 117, 108, 116]⟩, .int .u64 1000, .pointer (some ⟨b, 8, none⟩)] (by kernel_rfl) (by kernel_rfl) (by kernel_rfl) fields_fn8 (by kernel_rfl) ent_word ((word_ok ⟨#[109, 117, 108, 116]⟩ 1000 ⟨b, 8, none⟩ _).mono ?_)
  rintro e W8 ⟨rfl, c8, s8, k8⟩
  refine ⟨_, rfl, ?_⟩
  obtain ⟨z8, hz8⟩ : ∃ z, z = W7.heap.size := ⟨_, rfl⟩
  rw [← hz8] at c8 s8 ⊢
  refine wpAny_call' (i := 39) (opsFields.getD 39 default) 106 #[.string ⟨#[99, 111, 114, 114, 119, 105, 110, 100, 111, 119]⟩, .int .u64 1, .int .u64 1048576, .pointer (some ⟨b, 9, none⟩)] (by kernel_rfl) (by kernel_rfl) (by kernel_rfl) fields_fn9 (by kernel_rfl) ent_of ((of_ok ⟨#[99, 111, 114, 114, 119, 105, 110, 100, 111, 119]⟩ 1 1048576 ⟨b, 9, none⟩ _).mono ?_)
  rintro e W9 ⟨rfl, c9, s9, k9⟩
  refine ⟨_, rfl, ?_⟩
  obtain ⟨z9, hz9⟩ : ∃ z, z = W8.heap.size := ⟨_, rfl⟩
  rw [← hz9] at c9 s9 ⊢
  refine wpAny_call' (i := 43) (opsFields.getD 43 default) 107 #[.string ⟨#[114, 101, 119, 97, 114, 100]⟩, .int .u64 1000000000, .pointer (some ⟨b, 10, none⟩)] (by kernel_rfl) (by kernel_rfl) (by kernel_rfl) fields_fn10 (by kernel_rfl) ent_word ((word_ok ⟨#[114, 101, 119, 97, 114, 100]⟩ 1000000000 ⟨b, 10, none⟩ _).mono ?_)
  rintro e W10 ⟨rfl, c10, s10, k10⟩
  refine ⟨_, rfl, ?_⟩
  obtain ⟨z10, hz10⟩ : ∃ z, z = W9.heap.size := ⟨_, rfl⟩
  rw [← hz10] at c10 s10 ⊢
  refine wpAny_run (i := 44) (opsFields.getD 44 default) (.slice (some ⟨W10.heap.size, 0, none⟩) 11 11) (w' := W10.alloc (.cells (fieldCells [z0, z1, z2, z3, z4, z5, z6, z7, z8, z9, z10]) 161)) (by kernel_rfl) (by kernel_rfl) (by kernel_rfl) (by kernel_rfl) <| wpAny_run (i := 45) (opsFields.getD 45 default) (.slice (some ⟨W10.heap.size, 0, none⟩) 11 11) (w' := W10.alloc (.cells (fieldCells [z0, z1, z2, z3, z4, z5, z6, z7, z8, z9, z10]) 161)) (by kernel_rfl) (by kernel_rfl) (by kernel_rfl) (by kernel_rfl) ?_
  refine wpAny_done (by kernel_rfl) ?_ _
  generalize hR : W10.alloc (.cells (fieldCells [z0, z1, z2, z3, z4, z5, z6, z7, z8, z9, z10]) 161) = V at *
  refine NoPanic.normal <| state_eq (b := ⟨#[.pointer (some ⟨b, 0, none⟩), ud, (.slice (some ⟨W10.heap.size, 0, none⟩) 11 11), .pointer (some ⟨b, 0, none⟩), .pointer (some ⟨b, 0, none⟩), .pointer (some ⟨b, 0, none⟩), fieldV (.string ⟨#[117, 110, 98, 111, 110, 100, 105, 110, 103]⟩) 1 1048576 109 110 z0, .pointer (some ⟨b, 0, none⟩), .pointer (some ⟨b, 0, none⟩), .pointer (some ⟨b, 1, none⟩), fieldV (.string ⟨#[109, 97, 120, 97, 103, 101]⟩) 0 1048576 109 110 z1, .pointer (some ⟨b, 0, none⟩), .pointer (some ⟨b, 0, none⟩), .pointer (some ⟨b, 2, none⟩), fieldV (.string ⟨#[101, 112, 111, 99, 104, 108, 101, 110]⟩) 1 1000 109 110 z2, .pointer (some ⟨b, 0, none⟩), .pointer (some ⟨b, 0, none⟩), .pointer (some ⟨b, 3, none⟩), fieldV (.string ⟨#[119, 105, 110, 100, 111, 119]⟩) 1 256 109 110 z3, .pointer (some ⟨b, 0, none⟩), .pointer (some ⟨b, 0, none⟩), .pointer (some ⟨b, 4, none⟩), fieldV (.string ⟨#[101, 110, 116, 114, 105, 101, 115]⟩) 1 16 109 110 z4, .pointer (some ⟨b, 0, none⟩), .pointer (some ⟨b, 0, none⟩), .pointer (some ⟨b, 5, none⟩), fieldV (.string ⟨#[109, 97, 120, 97, 99, 116, 105, 118, 101]⟩) 1 32 109 110 z5, .pointer (some ⟨b, 0, none⟩), .pointer (some ⟨b, 0, none⟩), .pointer (some ⟨b, 6, none⟩), fieldV (.string ⟨#[106, 97, 105, 108, 116, 105, 109, 101]⟩) 1 1048576 109 110 z6, .pointer (some ⟨b, 0, none⟩), .pointer (some ⟨b, 0, none⟩), .pointer (some ⟨b, 7, none⟩), fieldV (.string ⟨#[98, 97, 115, 101]⟩) 0 1000000000 111 112 z7, .pointer (some ⟨b, 0, none⟩), .pointer (some ⟨b, 0, none⟩), .pointer (some ⟨b, 8, none⟩), fieldV (.string ⟨#[109, 117, 108, 116]⟩) 0 1000 111 112 z8, .pointer (some ⟨b, 0, none⟩), .pointer (some ⟨b, 0, none⟩), .pointer (some ⟨b, 9, none⟩), fieldV (.string ⟨#[99, 111, 114, 114, 119, 105, 110, 100, 111, 119]⟩) 1 1048576 109 110 z9, .pointer (some ⟨b, 0, none⟩), .pointer (some ⟨b, 0, none⟩), .pointer (some ⟨b, 10, none⟩), fieldV (.string ⟨#[114, 101, 119, 97, 114, 100]⟩) 0 1000000000 111 112 z10, (.slice (some ⟨W10.heap.size, 0, none⟩) 11 11)], []⟩) (by kernel_rfl) ?_
  have hk : Keeps Nob W10 V := by rw [← hR]; exact (Keeps.refl _ _).alloc _
  have hcl : ∀ j, V.cell? ⟨W10.heap.size, j, none⟩ = (fieldCells [z0, z1, z2, z3, z4, z5, z6, z7, z8, z9, z10])[j]? := fun j => by rw [← hR]; exact World.cell?_alloc_at _ _ _ _ rfl
  have hsz : W10.heap.size < V.heap.size := by rw [← hR]; simp
  have q10 : Keeps Nob W10 V := hk
  have q9 : Keeps Nob W9 V := k10.trans q10
  have q8 : Keeps Nob W8 V := k9.trans q9
  have q7 : Keeps Nob W7 V := k8.trans q8
  have q6 : Keeps Nob W6 V := k7.trans q7
  have q5 : Keeps Nob W5 V := k6.trans q6
  have q4 : Keeps Nob W4 V := k5.trans q5
  have q3 : Keeps Nob W3 V := k4.trans q4
  have q2 : Keeps Nob W2 V := k3.trans q3
  have q1 : Keeps Nob W1 V := k2.trans q2
  have q0 : Keeps Nob W0 V := k1.trans q1
  have hall : Keeps Nob w V := ((Keeps.refl Nob w).drew.trans k0).trans q0
  have d0 := (q0.cell (i := 0) s0 (fun x => x)).trans c0
  have d1 := (q1.cell (i := 0) s1 (fun x => x)).trans c1
  have d2 := (q2.cell (i := 0) s2 (fun x => x)).trans c2
  have d3 := (q3.cell (i := 0) s3 (fun x => x)).trans c3
  have d4 := (q4.cell (i := 0) s4 (fun x => x)).trans c4
  have d5 := (q5.cell (i := 0) s5 (fun x => x)).trans c5
  have d6 := (q6.cell (i := 0) s6 (fun x => x)).trans c6
  have d7 := (q7.cell (i := 0) s7 (fun x => x)).trans c7
  have d8 := (q8.cell (i := 0) s8 (fun x => x)).trans c8
  have d9 := (q9.cell (i := 0) s9 (fun x => x)).trans c9
  have d10 := (q10.cell (i := 0) s10 (fun x => x)).trans c10
  have HF : Hid (FieldsAt V W10.heap.size b (fun i => [z0, z1, z2, z3, z4, z5, z6, z7, z8, z9, z10][i]?.getD 0)) := Lib.hid ⟨fun i j hi hj => (hcl _).trans (fieldCells_get _ _ _ _ _ _ _ _ _ _ _ i j hi hj), fun i hi => by
    have h' : i = 0 ∨ i = 1 ∨ i = 2 ∨ i = 3 ∨ i = 4 ∨ i = 5 ∨ i = 6 ∨ i = 7 ∨ i = 8 ∨ i = 9 ∨ i = 10 := by omega
    rcases h' with rfl | rfl | rfl | rfl | rfl | rfl | rfl | rfl | rfl | rfl | rfl <;> assumption⟩
  have l0 : w.heap.size ≤ z0 := by rw [hz0]; exact Nat.le_refl _
  have y0 : w.heap.size ≤ W0.heap.size := k0.size
  have l1 : w.heap.size ≤ z1 := by rw [hz1]; exact y0
  have y1 : w.heap.size ≤ W1.heap.size := Nat.le_trans y0 k1.size
  have l2 : w.heap.size ≤ z2 := by rw [hz2]; exact y1
  have y2 : w.heap.size ≤ W2.heap.size := Nat.le_trans y1 k2.size
  have l3 : w.heap.size ≤ z3 := by rw [hz3]; exact y2
  have y3 : w.heap.size ≤ W3.heap.size := Nat.le_trans y2 k3.size
  have l4 : w.heap.size ≤ z4 := by rw [hz4]; exact y3
  have y4 : w.heap.size ≤ W4.heap.size := Nat.le_trans y3 k4.size
  have l5 : w.heap.size ≤ z5 := by rw [hz5]; exact y4
  have y5 : w.heap.size ≤ W5.heap.size := Nat.le_trans y4 k5.size
  have l6 : w.heap.size ≤ z6 := by rw [hz6]; exact y5
  have y6 : w.heap.size ≤ W6.heap.size := Nat.le_trans y5 k6.size
  have l7 : w.heap.size ≤ z7 := by rw [hz7]; exact y6
  have y7 : w.heap.size ≤ W7.heap.size := Nat.le_trans y6 k7.size
  have l8 : w.heap.size ≤ z8 := by rw [hz8]; exact y7
  have y8 : w.heap.size ≤ W8.heap.size := Nat.le_trans y7 k8.size
  have l9 : w.heap.size ≤ z9 := by rw [hz9]; exact y8
  have y9 : w.heap.size ≤ W9.heap.size := Nat.le_trans y8 k9.size
  have l10 : w.heap.size ≤ z10 := by rw [hz10]; exact y9
  have y10 : w.heap.size ≤ W10.heap.size := Nat.le_trans y9 k10.size
  have HN : Hid (w.heap.size ≤ W10.heap.size ∧ ∀ i, i < 11 → w.heap.size ≤ [z0, z1, z2, z3, z4, z5, z6, z7, z8, z9, z10][i]?.getD 0) := Lib.hid ⟨y10, fun i hi => by
    have h' : i = 0 ∨ i = 1 ∨ i = 2 ∨ i = 3 ∨ i = 4 ∨ i = 5 ∨ i = 6 ∨ i = 7 ∨ i = 8 ∨ i = 9 ∨ i = 10 := by omega
    rcases h' with rfl | rfl | rfl | rfl | rfl | rfl | rfl | rfl | rfl | rfl | rfl <;> assumption⟩
  clear l0 y0 l1 y1 l2 y2 l3 y3 l4 y4 l5 y5 l6 y6 l7 y7 l8 y8 l9 y9 l10 y10
  clear hcl c0 s0 k0 d0 q0 hz0 c1 s1 k1 d1 q1 hz1 c2 s2 k2 d2 q2 hz2 c3 s3 k3 d3 q3 hz3 c4 s4 k4 d4 q4 hz4 c5 s5 k5 d5 q5 hz5 c6 s6 k6 d6 q6 hz6 c7 s7 k7 d7 q7 hz7 c8 s8 k8 d8 q8 hz8 c9 s9 k9 d9 q9 hz9 c10 s10 k10 d10 q10 hz10 hR
  go_wp2
  go_ret
  exact ⟨_, _, rfl, HF.out, hsz, hall, HN.out.1, HN.out.2⟩
theorem fields_ok (b : Nat) (w : World) :
    Calls Tryz.prog 96 #[.pointer (some ⟨b, 0, none⟩)] w fun e w' => ∃ g ks, e = .returned (.slice (some ⟨g, 0, none⟩) 11 11) ∧ FieldsAt w' g b ks ∧ g < w'.heap.size ∧ Keeps Nob w w' :=
  (fields_new b w).mono fun _ _ ⟨g, ks, h1, h2, h3, h4, _⟩ => ⟨g, ks, h1, h2, h3, h4⟩
end Go.Proofs.YtghohakbepeffaaGreatDoor
namespace Go.Proofs.YtghohakbepeffaaGreatDoor
set_option maxRecDepth 100000
set_option maxHeartbeats 4000000
set_option maxRecDepth 100000
open Go Go.RowKit Go.Own Go.Shelf
/-- A field's reader tells its number. -/
theorem get_ok (p : Par) (hp : p.Ok) (i b k : Nat) (hi : i < 11) (V : World) (hbox : V.cell? ⟨k, 0, none⟩ = some (.pointer (some ⟨b, i, none⟩))) (hc : ∀ x, p.cells[i]? = some x → V.cell? ⟨b, i, none⟩ = some x) :
    Calls Tryz.prog (parGet[i]?.getD 0) #[.pointer (some ⟨k, 0, none⟩)] V fun e w' => e = .returned (.tuple #[.int .u64 (max (p.l[i]?.getD 0) 0), .bool (decide (0 ≤ p.l[i]?.getD 0))]) ∧ Keeps Nob V w' := by
  have h' : i = 0 ∨ i = 1 ∨ i = 2 ∨ i = 3 ∨ i = 4 ∨ i = 5 ∨ i = 6 ∨ i = 7 ∨ i = 8 ∨ i = 9 ∨ i = 10 := by omega
  rcases h' with rfl | rfl | rfl | rfl | rfl | rfl | rfl | rfl | rfl | rfl | rfl
  · exact of1_ok k ⟨b, 0, none⟩ p.unb V hbox (hc _ rfl) hp.unb.1 hp.unb.2
  · exact of1_ok k ⟨b, 1, none⟩ p.mage V hbox (hc _ rfl) hp.mage.1 hp.mage.2
  · exact of1_ok k ⟨b, 2, none⟩ p.elen V hbox (hc _ rfl) hp.elen.1 hp.elen.2
  · exact of1_ok k ⟨b, 3, none⟩ p.win V hbox (hc _ rfl) hp.win.1 hp.win.2
  · exact of1_ok k ⟨b, 4, none⟩ p.ent V hbox (hc _ rfl) hp.ent.1 hp.ent.2
  · exact of1_ok k ⟨b, 5, none⟩ p.act V hbox (hc _ rfl) hp.act.1 hp.act.2
  · exact of1_ok k ⟨b, 6, none⟩ p.jail V hbox (hc _ rfl) hp.jail.1 hp.jail.2
  · have h0 := hp.base.1
    have := word1_ok k ⟨b, 7, none⟩ p.base V hbox (hc _ rfl)
    simpa [parGet, Par.l, h0, Int.max_eq_left h0] using this
  · have h0 := hp.mult.1
    have := word1_ok k ⟨b, 8, none⟩ p.mult V hbox (hc _ rfl)
    simpa [parGet, Par.l, h0, Int.max_eq_left h0] using this
  · exact of1_ok k ⟨b, 9, none⟩ p.corr V hbox (hc _ rfl) hp.corr.1 hp.corr.2
  · have h0 := hp.rew.1
    have := word1_ok k ⟨b, 10, none⟩ p.rew V hbox (hc _ rfl)
    simpa [parGet, Par.l, h0, Int.max_eq_left h0] using this
theorem get_enters (i : Nat) (hi : i < 11) : ∀ args w, (callFunc (parGet[i]?.getD 0) args).run Tryz.prog w = .ok (.enter (parGet[i]?.getD 0) args) w := by
  have h' : i = 0 ∨ i = 1 ∨ i = 2 ∨ i = 3 ∨ i = 4 ∨ i = 5 ∨ i = 6 ∨ i = 7 ∨ i = 8 ∨ i = 9 ∨ i = 10 := by omega
  have e1 : ∀ args w, (callFunc 109 args).run Tryz.prog w = .ok (.enter 109 args) w := enters_of Tryz.func109 (by kernel_rfl) rfl
  have e2 : ∀ args w, (callFunc 111 args).run Tryz.prog w = .ok (.enter 111 args) w := enters_of Tryz.func111 (by kernel_rfl) rfl
  rcases h' with rfl | rfl | rfl | rfl | rfl | rfl | rfl | rfl | rfl | rfl | rfl <;> first | exact e1 | exact e2
theorem good_iff (p : Par) (i : Nat) (hi : i < 11) : p.good i ↔ 0 ≤ p.l[i]?.getD 0 ∧ parLoU[i]?.getD 0 ≤ max (p.l[i]?.getD 0) 0 ∧ max (p.l[i]?.getD 0) 0 ≤ parHiU[i]?.getD 0 := by
  have h' : i = 0 ∨ i = 1 ∨ i = 2 ∨ i = 3 ∨ i = 4 ∨ i = 5 ∨ i = 6 ∨ i = 7 ∨ i = 8 ∨ i = 9 ∨ i = 10 := by omega
  rcases h' with rfl | rfl | rfl | rfl | rfl | rfl | rfl | rfl | rfl | rfl | rfl <;> simp [Par.good, Par.l, parLo, parHi, parLoU, parHiU] <;> omega
theorem pCheck_ok (p : Par) (hp : p.Ok) (w : World) :
    Calls Tryz.prog 82 #[p.v] w fun e w' => e = .returned (.tuple #[.int .i64 p.check.1, .int .i64 p.check.2]) ∧ Keeps Nob w w' := by
  obtain ⟨ce, hce⟩ : ∃ c, p.check = c := ⟨_, rfl⟩
  rw [hce]
  have HCE := Lib.hid hce; clear hce
  obtain ⟨cs, hcs⟩ : ∃ cs, p.cells = cs := ⟨_, rfl⟩
  have hv : p.v = .agg cs := by rw [← hcs]; rfl
  rw [hv]
  have hcz : cs.size = 11 := by rw [← hcs]; rfl
  have hc0 : cs[0]? = some (.int .i64 p.unb) := by rw [← hcs]; rfl
  have hc1 : cs[1]? = some (.int .i64 p.mage) := by rw [← hcs]; rfl
  have HCS := Lib.hid hcs
  clear hcs hv
  go_enter Tryz.func82, Tryz.ntmps82
  go_wp2_with (go_at_call 96; refine (fields_ok _ _).mono ?_; rintro e V ⟨g, ks, rfl, hF, hg, hk⟩; have HF := Lib.hid hF; clear hF)
  have hk0 := ((Keeps.refl Nob w).alloc (.cells cs 51)).trans hk
  have hb : w.heap.size < (w.alloc (.cells cs 51)).heap.size := by simp
  have HP : Hid (∀ i x, cs[i]? = some x → V.cell? ⟨w.heap.size, i, none⟩ = some x) := Lib.hid (fun i x hx => (hk.cell (i := i) hb (fun x => x)).trans ((World.cell?_alloc_at _ _ _ _ rfl).trans hx))
  have q0 := HP.out 0 _ hc0
  have q1 := HP.out 1 _ hc1
  have hsz : w.heap.size < V.heap.size := Nat.lt_of_lt_of_le hb hk.size
  clear hk hb hc0 hc1
  go_loopg [10] 11 (fun g i V1 => ∃ k : Nat, k ≤ 11 ∧ g = 11 - k ∧ i = .int .i64 k ∧ Hid (∀ j, j < k → p.good j) ∧ Keeps Nob V V1)
  case atStart => exact ⟨0, by omega, rfl, rfl, Lib.hid (fun j hj => by omega), Keeps.refl _ _⟩
  case round =>
    obtain ⟨k, hk, hgf, rfl, HG, hkp⟩ := hrel
    by_cases hlt : k < 11
    · have hfc : ∀ j v, j < 5 → (parField k (ks k)).cells[j]? = some v → wr.cell? ⟨g, k * 5 + j, none⟩ = some v := fun j v hj hv => (hkp.cell (i := k * 5 + j) hg (fun x => x)).trans ((HF.out.cell k j hlt hj).trans hv)
      have f0 : wr.cell? ⟨g, k * 5, none⟩ = some (.string (parName[k]?.getD ⟨#[]⟩)) := hfc 0 _ (by omega) rfl
      have f1 : wr.cell? ⟨g, k * 5 + 1, none⟩ = some (.int .u64 (parLoU[k]?.getD 0)) := hfc 1 _ (by omega) rfl
      have f2 : wr.cell? ⟨g, k * 5 + 2, none⟩ = some (.int .u64 (parHiU[k]?.getD 0)) := hfc 2 _ (by omega) rfl
      have f3 : wr.cell? ⟨g, k * 5 + 3, none⟩ = some (.func (.func (parGet[k]?.getD 0)) #[] #[.pointer (some ⟨ks k, 0, none⟩)]) := hfc 3 _ (by omega) rfl
      have f4 : wr.cell? ⟨g, k * 5 + 4, none⟩ = some (.func (.func (parSet[k]?.getD 0)) #[] #[.pointer (some ⟨ks k, 0, none⟩)]) := hfc 4 _ (by omega) rfl
      clear hfc
      have hent := get_enters k hlt
      have hks : ks k < V.heap.size := World.block_lt_of_cell? V _ (HF.out.box k hlt)
      have GETH : Hid (∀ W, Keeps Nob V W → Calls Tryz.prog (parGet[k]?.getD 0) #[.pointer (some ⟨ks k, 0, none⟩)] W fun e w' => e = .returned (.tuple #[.int .u64 (max (p.l[k]?.getD 0) 0), .bool (decide (0 ≤ p.l[k]?.getD 0))]) ∧ Keeps Nob W w') :=
        Lib.hid (fun W hW => get_ok p hp k w.heap.size (ks k) hlt W ((hW.cell hks (fun x => x)).trans (HF.out.box k hlt)) (fun x hx => (hW.cell hsz (fun x => x)).trans (HP.out k x (by rw [← HCS.out]; exact hx))))
      have hgi := good_iff p k hlt
      generalize parName[k]?.getD ⟨#[]⟩ = nm at *
      generalize parLoU[k]?.getD 0 = lo at *
      generalize parHiU[k]?.getD 0 = hi at *
      generalize parGet[k]?.getD 0 = gk at *
      generalize parSet[k]?.getD 0 = sk at *
      generalize max (p.l[k]?.getD 0) 0 = x at *
      by_cases h1 : 0 ≤ p.l[k]?.getD 0
      · have hd := decide_eq_true h1
        rw [hd] at GETH
        by_cases h2 : lo ≤ x ∧ x ≤ hi
        · have hw : (decide (lo ≤ x) && decide (x ≤ hi)) = true := by simp; exact h2
          have hgood := hgi.2 ⟨h1, h2⟩
          have HG1 := Lib.hid (fun j hj => (Nat.lt_succ_iff_lt_or_eq.1 hj).elim (HG.out j) (fun e => e ▸ hgood) : ∀ j, j < k + 1 → p.good j)
          have WI := Lib.hid (fun nm f g W => within_ok nm f g lo hi x W)
          rw [hw] at WI
          clear hgi hgood hd h1 h2 hw
          go_wp2_with fail
          refine (GETH.out _ (hkp.alloc _)).mono ?_
          rintro e W1 ⟨rfl, k1⟩
          have c0 := (k1.cell (k := wr.heap.size) (i := 0) (by simp) (fun x => x)).trans ((World.cell?_alloc_at _ _ _ _ rfl).trans rfl)
          have c1 := (k1.cell (k := wr.heap.size) (i := 1) (by simp) (fun x => x)).trans ((World.cell?_alloc_at _ _ _ _ rfl).trans rfl)
          have c2 := (k1.cell (k := wr.heap.size) (i := 2) (by simp) (fun x => x)).trans ((World.cell?_alloc_at _ _ _ _ rfl).trans rfl)
          have c3 := (k1.cell (k := wr.heap.size) (i := 3) (by simp) (fun x => x)).trans ((World.cell?_alloc_at _ _ _ _ rfl).trans rfl)
          have c4 := (k1.cell (k := wr.heap.size) (i := 4) (by simp) (fun x => x)).trans ((World.cell?_alloc_at _ _ _ _ rfl).trans rfl)
          go_wp2_with fail
          refine (WI.out _ _ _ _).mono ?_
          rintro e W2 ⟨rfl, k2⟩
          clear c0 c1 c2 c3 c4
          go_wp2_with fail
          go_roundg (11 - (k + 1))
          case measure => omega
          case rel => exact ⟨k + 1, by omega, rfl, by go_num, HG1, ((hkp.alloc _).trans k1).trans k2⟩
        · have hw : (decide (lo ≤ x) && decide (x ≤ hi)) = false := by
            rw [Bool.and_eq_false_iff]; simp; omega
          obtain rfl : ce = (3, (k : Int)) := HCE.out.symm.trans (p.check_bad k hlt HG.out (fun h => h2 (hgi.1 h).2))
          have WI := Lib.hid (fun nm f g W => within_ok nm f g lo hi x W)
          rw [hw] at WI
          clear hgi hd h1 h2 hw
          go_wp2_with fail
          refine (GETH.out _ (hkp.alloc _)).mono ?_
          rintro e W1 ⟨rfl, k1⟩
          have c0 := (k1.cell (k := wr.heap.size) (i := 0) (by simp) (fun x => x)).trans ((World.cell?_alloc_at _ _ _ _ rfl).trans rfl)
          have c1 := (k1.cell (k := wr.heap.size) (i := 1) (by simp) (fun x => x)).trans ((World.cell?_alloc_at _ _ _ _ rfl).trans rfl)
          have c2 := (k1.cell (k := wr.heap.size) (i := 2) (by simp) (fun x => x)).trans ((World.cell?_alloc_at _ _ _ _ rfl).trans rfl)
          have c3 := (k1.cell (k := wr.heap.size) (i := 3) (by simp) (fun x => x)).trans ((World.cell?_alloc_at _ _ _ _ rfl).trans rfl)
          have c4 := (k1.cell (k := wr.heap.size) (i := 4) (by simp) (fun x => x)).trans ((World.cell?_alloc_at _ _ _ _ rfl).trans rfl)
          go_wp2_with fail
          refine (WI.out _ _ _ _).mono ?_
          rintro e W2 ⟨rfl, k2⟩
          clear c0 c1 c2 c3 c4
          go_wp2_with fail
          go_ret2
          exact ⟨rfl, hk0.trans (((hkp.alloc _).trans k1).trans k2)⟩
      · have hd := decide_eq_false h1
        rw [hd] at GETH
        obtain rfl : ce = (3, (k : Int)) := HCE.out.symm.trans (p.check_bad k hlt HG.out (fun h => h1 (hgi.1 h).1))
        clear hgi hd h1
        go_wp2_with fail
        refine (GETH.out _ (hkp.alloc _)).mono ?_
        rintro e W1 ⟨rfl, k1⟩
        go_wp2_with fail
        go_ret2
        exact ⟨rfl, hk0.trans ((hkp.alloc _).trans k1)⟩
    · have h1 : decide ((k : Int) < 11) = false := by simp; omega
      have hk11 : k = 11 := by omega
      have q0 := (hkp.cell (i := 0) hsz (fun x => x)).trans q0
      have q1 := (hkp.cell (i := 1) hsz (fun x => x)).trans q1
      have hce := HCE.out.symm.trans (p.check_good (fun j hj => HG.out j (by omega)))
      by_cases hm : p.unb < p.mage
      · rw [if_pos hm] at hce
        subst hce
        clear HCE
        go_wp2_with fail
        go_ret2
        exact ⟨rfl, hk0.trans hkp⟩
      · rw [if_neg hm] at hce
        subst hce
        clear HCE
        have hmd : decide (p.unb < p.mage) = false := by simpa using hm
        go_wp2_with fail
        go_ret2
        exact ⟨rfl, hk0.trans hkp⟩
end Go.Proofs.YtghohakbepeffaaGreatDoor
