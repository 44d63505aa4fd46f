import Derived.Test.YtghohakbepeffaaGreatDoorPenaltyBytesP3
namespace Go.Proofs.YtghohakbepeffaaGreatDoor
set_option maxRecDepth 100000
set_option maxHeartbeats 4000000
open Go Go.RowKit Go.Own Go.Shelf
theorem exec_quoU {P : Program} {o : Oper} {ρ : Operand → Value} {w : World} (t t' : TypeId) (x y : Operand) (ho : o.op = .binOp .quo t x y t') (a b : Nat) (hx : ρ x = .int .u64 (a : Int)) (hy : ρ y = .int .u64 (b : Int)) (hb : 0 < b) (ha : a < 18446744073709551616) :
    (execOp ρ o).run P w = .ok (.value (.int .u64 ((a / b : Nat) : Int))) w := by
  refine exec_binop .quo t t' x y ho _ _ _ hx hy rfl ?_
  have h : ¬ ((b : Int) = 0) := by omega
  rw [binOp_quo]
  simp only [Op.intDiv, if_neg h]
  have e : IntKind.u64.wrap (Int.tdiv (a : Int) (b : Int)) = ((a / b : Nat) : Int) := by
    rw [show Int.tdiv (a : Int) (b : Int) = ((a / b : Nat) : Int) from rfl]
    exact wrapU _ (by have := Nat.div_le_self a b; omega)
  rw [e]; rfl
theorem exec_remU {P : Program} {o : Oper} {ρ : Operand → Value} {w : World} (t t' : TypeId) (x y : Operand) (ho : o.op = .binOp .rem t x y t') (a b : Nat) (hx : ρ x = .int .u64 (a : Int)) (hy : ρ y = .int .u64 (b : Int)) (hb : 0 < b) (ha : a < 18446744073709551616) :
    (execOp ρ o).run P w = .ok (.value (.int .u64 ((a % b : Nat) : Int))) w := by
  refine exec_binop .rem t t' x y ho _ _ _ hx hy rfl ?_
  have h : ¬ ((b : Int) = 0) := by omega
  rw [binOp_rem]
  simp only [Op.intDiv, if_neg h]
  have e : IntKind.u64.wrap (Int.tmod (a : Int) (b : Int)) = ((a % b : Nat) : Int) := by
    rw [show Int.tmod (a : Int) (b : Int) = ((a % b : Nat) : Int) from rfl]
    exact wrapU _ (by have := Nat.mod_le a b; omega)
  first | rfl | (rw [e]; rfl)
theorem wrapM (n : Nat) : IntKind.u64.wrap (n : Int) = ((n % 18446744073709551616 : Nat) : Int) := by rw [IntKind.wrap_u64]; omega
theorem conv_u64_u8 {x : Nat} (h : x < 256) (w : World) : (convert 40 5 (.int .u64 ((x : Nat) : Int))).run Tryz.prog w = .ok (.int .u8 ((x : Nat) : Int)) w := by
  simp only [convert, Tryz.underlying40, Tryz.underlying5]
  have : IntKind.u8.wrap ((x : Nat) : Int) = ((x : Nat) : Int) := by
    unfold IntKind.wrap; simp [IntKind.signed, IntKind.bits]; omega
  simp [Conv.intToInt, this]
theorem conv_u8_int {x : Nat} (h : x < 256) (w : World) : (convert 5 3 (.int .u8 ((x : Nat) : Int))).run Tryz.prog w = .ok (.int .i64 ((x : Nat) : Int)) w := by
  simp only [convert, Tryz.underlying5, Tryz.underlying3]
  have : IntKind.i64.wrap ((x : Nat) : Int) = ((x : Nat) : Int) := by
    unfold IntKind.wrap; simp [IntKind.signed, IntKind.bits]; omega
  simp [Conv.intToInt, this]
theorem conv_int_uint {x : Nat} (h : x ≤ 64) (w : World) : (convert 3 169 (.int .i64 ((x : Nat) : Int))).run Tryz.prog w = .ok (.int .u64 ((x : Nat) : Int)) w := by
  simp only [convert, Tryz.underlying3, Tryz.underlying169]
  simp [Conv.intToInt, wrapU x (by omega)]
/-! The length of a number. -/
def ltab : List UInt8 := Lib.len8tab.toList
theorem ltab_all : ∀ k : Fin 256, ∃ c, ltab[k.val]? = some c ∧ c.toNat ≤ 8 ∧ k.val < 2 ^ c.toNat ∧ (k.val ≠ 0 → 1 ≤ c.toNat ∧ 2 ^ (c.toNat - 1) ≤ k.val) := by
  have h : ∀ k : Fin 256, (match ltab[k.val]? with | some c => decide (c.toNat ≤ 8) && decide (k.val < 2 ^ c.toNat) && (decide (k.val = 0) || (decide (1 ≤ c.toNat) && decide (2 ^ (c.toNat - 1) ≤ k.val))) | none => false) = true := by decide +kernel
  intro k
  have := h k
  cases e : ltab[k.val]? with
  | none => rw [e] at this; cases this
  | some c =>
    rw [e] at this
    simp only [Bool.and_eq_true, Bool.or_eq_true, decide_eq_true_eq] at this
    obtain ⟨⟨q1, q2⟩, q3⟩ := this
    exact ⟨c, rfl, q1, q2, fun h0 => q3.resolve_left h0⟩
def IsLen (y n : Nat) : Prop := n ≤ 64 ∧ 1 ≤ n ∧ y < 2 ^ n ∧ 2 ^ (n - 1) ≤ y
theorem len_fin {y x a K t : Nat} (hK : K = 2 ^ a) (ha : a ≤ 56) (ht0 : t ≤ 8) (h1 : x * K ≤ y) (h2 : y < (x + 1) * K) (ht : x < 2 ^ t) (hn : x ≠ 0) (hl : x ≠ 0 → 1 ≤ t ∧ 2 ^ (t - 1) ≤ x) : IsLen y (a + t) := by
  obtain ⟨l1, l2⟩ := hl hn
  refine ⟨by omega, by omega, ?_, ?_⟩
  · rw [Nat.pow_add, ← hK, Nat.mul_comm]
    exact Nat.lt_of_lt_of_le h2 (Nat.mul_le_mul_right _ ht)
  · rw [show a + t - 1 = a + (t - 1) by omega, Nat.pow_add, ← hK, Nat.mul_comm]
    exact Nat.le_trans (Nat.mul_le_mul_right _ l2) h1
theorem two_pos (s : Nat) : 0 < 2 ^ s := Nat.pow_pos (by decide)
theorem lead_len {y n s : Nat} (h : IsLen y n) (hs : s + n = 64) : s ≤ 63 ∧ 9223372036854775808 ≤ y * 2 ^ s ∧ y * 2 ^ s < 18446744073709551616 := by
  obtain ⟨h0, h1, h2, h3⟩ := h
  refine ⟨by omega, ?_, ?_⟩
  · have := Nat.mul_le_mul_right (2 ^ s) h3
    rw [← Nat.pow_add, show n - 1 + s = 63 by omega] at this
    exact this
  · have := Nat.mul_lt_mul_of_pos_right h2 (two_pos s)
    rw [← Nat.pow_add, show n + s = 64 by omega] at this
    exact this
/-! One digit of a long division, and both. -/
def Dig (U Y y1 u q r : Nat) : Prop := q * y1 + r = U ∧ (U * 4294967296 + u) / Y ≤ q
theorem dig_init {U Y y1 y0 u : Nat} (hY : Y = y1 * 4294967296 + y0) (h0 : y0 < 4294967296) (h1 : 1 ≤ y1) (hu : u < 4294967296) (hU : U < Y) : Dig U Y y1 u (U / y1) (U - U / y1 * y1) := by
  refine ⟨by have := Nat.div_mul_le_self U y1; omega, ?_⟩
  refine Nat.le_trans (Nat.div_le_div_left (c := y1 * 4294967296) (by omega) (by omega)) ?_
  rw [Nat.mul_comm y1, ← Nat.div_div_eq_div_mul]
  exact Nat.div_le_div_right (by omega)
theorem dig_lt {U Y y1 y0 u : Nat} (hY : Y = y1 * 4294967296 + y0) (h0 : y0 < 4294967296) (h1 : 1 ≤ y1) (hu : u < 4294967296) (hU : U < Y) : (U * 4294967296 + u) / Y < 4294967296 := by
  rw [Nat.div_lt_iff_lt_mul (by omega)]; omega
theorem dig_step {U Y y1 y0 u q r : Nat} (hY : Y = y1 * 4294967296 + y0) (h0 : y0 < 4294967296) (h1 : 1 ≤ y1) (hu : u < 4294967296) (hU : U < Y) (h : Dig U Y y1 u q r) (hc : 4294967296 ≤ q ∨ 4294967296 * r + u < q * y0) : 1 ≤ q ∧ Dig U Y y1 u (q - 1) (r + y1) := by
  obtain ⟨a1, a2⟩ := h
  have hl := dig_lt hY h0 h1 hu hU
  have hq : (U * 4294967296 + u) / Y < q := by
    rcases hc with hc | hc
    · omega
    · rw [Nat.div_lt_iff_lt_mul (by omega), hY, Nat.mul_add, ← Nat.mul_assoc]; omega
  have q1 : 1 ≤ q := Nat.lt_of_le_of_lt (Nat.zero_le _) hq
  refine ⟨q1, ?_, Nat.le_sub_one_of_lt hq⟩
  obtain ⟨k, rfl⟩ : ∃ k, q = k + 1 := ⟨q - 1, by omega⟩
  rw [Nat.add_mul, Nat.one_mul] at a1
  rw [Nat.add_sub_cancel]; omega
theorem dig_done {U Y y1 y0 u q r : Nat} (hY : Y = y1 * 4294967296 + y0) (h0 : y0 < 4294967296) (h1 : 1 ≤ y1) (hu : u < 4294967296) (hU : U < Y) (h : Dig U Y y1 u q r) (hc : (q < 4294967296 ∧ q * y0 ≤ 4294967296 * r + u) ∨ 4294967296 ≤ r) : q = (U * 4294967296 + u) / Y := by
  obtain ⟨a1, a2⟩ := h
  refine Nat.le_antisymm ?_ a2
  rw [Nat.le_div_iff_mul_le (by omega), hY, Nat.mul_add, ← Nat.mul_assoc]
  rcases hc with ⟨_, hc⟩ | hc
  · omega
  · have q2 : q < 4294967296 := by
      rcases Nat.lt_or_ge q 4294967296 with g | g
      · exact g
      · have g2 := Nat.mul_le_mul_right y1 g
        clear a2
        exact absurd hU (by rw [← a1, hY]; have : y1 * 4294967296 = 4294967296 * y1 := Nat.mul_comm _ _; generalize q * y1 = z at *; generalize 4294967296 * y1 = z2 at *; omega)
    have g1 := Nat.mul_le_mul (Nat.le_of_lt q2) (Nat.le_of_lt h0)
    have g2 := Nat.mul_le_mul (Nat.le_refl 4294967296) hc
    clear a2 hY h0 h1 hu hU
    generalize q * y0 = z at *
    generalize q * y1 = z2 at *
    omega
theorem dig_rest {U Y y1 y0 u q : Nat} (hY : Y = y1 * 4294967296 + y0) (h0 : y0 < 4294967296) (h1 : 1 ≤ y1) (hu : u < 4294967296) (hU : U < Y) (h : q = (U * 4294967296 + u) / Y) : IntKind.u64.wrap (IntKind.u64.wrap (IntKind.u64.wrap (((U : Nat) : Int) * 4294967296) + ((u : Nat) : Int)) - IntKind.u64.wrap (((q : Nat) : Int) * ((Y : Nat) : Int))) = (((U * 4294967296 + u) % Y : Nat) : Int) ∨ 18446744073709551616 ≤ Y := by
  by_cases hb : Y < 18446744073709551616
  · refine .inl ?_
    have e := Nat.div_add_mod (U * 4294967296 + u) Y
    have l := Nat.mod_lt (U * 4294967296 + u) (show 0 < Y by omega)
    rw [← h, Nat.mul_comm] at e
    obtain ⟨z, hz⟩ : ∃ z : Nat, q * Y = z := ⟨_, rfl⟩
    obtain ⟨m, hm⟩ : ∃ z : Nat, (U * 4294967296 + u) % Y = z := ⟨_, rfl⟩
    rw [hm, hz] at e; rw [hm] at l ⊢
    rw [← Int.natCast_mul, hz]
    simp only [IntKind.wrap_u64]
    omega
  · exact .inr (by omega)
theorem dig_cases (q r y0 y1 u : Nat) : (4294967296 ≤ q ∧ r + y1 < 4294967296) ∨ (4294967296 ≤ q ∧ 4294967296 ≤ r + y1) ∨ (q < 4294967296 ∧ 4294967296 * r + u < q * y0 ∧ r + y1 < 4294967296) ∨ (q < 4294967296 ∧ 4294967296 * r + u < q * y0 ∧ 4294967296 ≤ r + y1) ∨ (q < 4294967296 ∧ q * y0 ≤ 4294967296 * r + u) := by
  generalize q * y0 = z
  omega
theorem mul_small {q y : Nat} (h : q < 4294967296) (h2 : y < 4294967296) : q * y < 18446744073709551616 := by
  have := Nat.mul_le_mul (Nat.le_sub_one_of_lt h) (Nat.le_sub_one_of_lt h2)
  omega
theorem rem_small {U y : Nat} (h : 1 ≤ y) (h2 : y < 4294967296) : U - U / y * y < 4294967296 := by
  have e := Nat.div_add_mod U y
  have l := Nat.mod_lt U h
  rw [Nat.mul_comm] at e
  omega
theorem wrap_sub (x z : Nat) (h : z ≤ x) (hx : x < 18446744073709551616) : IntKind.u64.wrap (((x : Nat) : Int) - ((z : Nat) : Int)) = ((x - z : Nat) : Int) := by
  rw [IntKind.wrap_u64]; omega
theorem wide_shift {hi lo y s : Nat} (hs : s ≤ 63) (hl : lo < 18446744073709551616) (hh : hi < y) (hb : y * 2 ^ s < 18446744073709551616) : ((hi <<< s) % Kec.W ||| lo >>> (64 - s)) * 18446744073709551616 + (lo <<< s) % Kec.W = (hi * 18446744073709551616 + lo) * 2 ^ s ∧ ((hi <<< s) % Kec.W ||| lo >>> (64 - s)) < y * 2 ^ s := by
  have p := two_pos s
  have e64 : 2 ^ (64 - s) * 2 ^ s = 18446744073709551616 := by rw [← Nat.pow_add, show 64 - s + s = 64 by omega]
  have m1 : hi * 2 ^ s + 2 ^ s ≤ y * 2 ^ s := by rw [← Nat.succ_mul]; exact Nat.mul_le_mul_right _ hh
  have hW : Kec.W = 18446744073709551616 := rfl
  have h1 : (hi <<< s) % Kec.W = hi <<< s := Nat.mod_eq_of_lt (by rw [Nat.shiftLeft_eq, hW]; omega)
  have hq : lo / 2 ^ (64 - s) < 2 ^ s := by
    rw [Nat.div_lt_iff_lt_mul (two_pos _), Nat.mul_comm, e64]; exact hl
  have h2 : lo >>> (64 - s) = lo / 2 ^ (64 - s) := Nat.shiftRight_eq_div_pow ..
  have h3 : (hi <<< s) ||| lo / 2 ^ (64 - s) = hi * 2 ^ s + lo / 2 ^ (64 - s) := by
    rw [← Nat.shiftLeft_add_eq_or_of_lt hq, Nat.shiftLeft_eq]
  rw [h1, h2, h3, Nat.shiftLeft_eq, hW, Nat.add_mul]
  have h4 : lo / 2 ^ (64 - s) * 18446744073709551616 + lo * 2 ^ s % 18446744073709551616 = lo * 2 ^ s := by
    have : lo * 2 ^ s / 18446744073709551616 = lo / 2 ^ (64 - s) := by
      rw [← e64]; exact Nat.mul_div_mul_right _ _ p
    rw [← this, Nat.mul_comm]; exact Nat.div_add_mod ..
  refine ⟨?_, by omega⟩
  rw [Nat.add_mul, Nat.mul_right_comm hi]
  omega
theorem long_div {U Y u1 u0 q1 V q0 : Nat} (hY : 0 < Y) (h1 : q1 = (U * 4294967296 + u1) / Y) (hV : V = (U * 4294967296 + u1) % Y) (h0 : q0 = (V * 4294967296 + u0) / Y) : (U * 18446744073709551616 + (u1 * 4294967296 + u0)) / Y = q1 * 4294967296 + q0 := by
  have e := Nat.div_add_mod (U * 4294967296 + u1) Y
  rw [← h1, ← hV] at e
  have : U * 18446744073709551616 + (u1 * 4294967296 + u0) = (V * 4294967296 + u0) + Y * (q1 * 4294967296) := by
    rw [← Nat.mul_assoc]; omega
  rw [this, Nat.add_mul_div_left _ _ hY, ← h0]; omega
theorem div_end {hi lo y s U Y L u1 u0 q1 V q0 : Nat} (hy1 : 1 ≤ y) (hYe : y * 2 ^ s = Y) (hsum : U * 18446744073709551616 + L = (hi * 18446744073709551616 + lo) * 2 ^ s) (hLs : L = u1 * 4294967296 + u0) (h1 : q1 = (U * 4294967296 + u1) / Y) (hV : (U * 4294967296 + u1) % Y = V) (h0 : q0 = (V * 4294967296 + u0) / Y) : q1 * 4294967296 + q0 = (hi * 18446744073709551616 + lo) / y := by
  have p := two_pos s
  have hY : 0 < Y := hYe ▸ Nat.mul_pos hy1 p
  rw [← long_div hY h1 hV.symm h0, ← hLs, hsum, ← hYe, Nat.mul_div_mul_right _ _ p]
noncomputable def qc53_1 (n : Nat) : Code := partOf Tryz.f108 n
theorem bLen64_yyy (y : Nat) (hy1 : 1 ≤ y) (hy2 : y < 18446744073709551616) (g0 : 4294967296 ≤ y) (g1 : 65536 ≤ y / 4294967296) (g2 : 256 ≤ y / 4294967296 / 65536) (w : World) :
    Calls Tryz.prog 108 #[.int .u64 ((y : Nat) : Int)] w (fun e w' => ∃ n : Nat, e = .returned (.int .i64 ((n : Nat) : Int)) ∧ IsLen y n ∧ w = w') := by
  obtain ⟨c, hc, hc8, hct, hcl⟩ := ltab_all ⟨y / 4294967296 / 65536 / 256, by omega⟩
  have K0 : Keeps Nob w w := Keeps.refl _ _
  refine sy_enter (qc53_1 1) ⟨#[uN y, ud, ud, ud, ud, ud, ud, ud, ud, ud, ud, ud, ud, ud, ud, ud, ud, ud, ud, ud, ud, ud, ud, ud, ud], []⟩ Tryz.func108 (by kernel_rfl) (by kernel_rfl) <| qr_ [0] <| pkq (.int .i64 0) <| eq_ <| qr_ [0, 1] <| pkq (uN y) <| ppq (.bool true) (dct ((((y : Nat) : Int)) ≥ ((4294967296) : Int)) (by omega)) <| ey_ <| qr_ [0, 1, 2] <| pkq (uN y) <| ppq (uN (y / 4294967296)) (exec_cast (congrArg (fun n : Nat => Value.int .u64 (n : Int)) (Nat.shiftRight_eq_div_pow y 32)) (exec_binop .shr 40 169 (.tmp 5) (.const (.int .u64 32)) (by kernel_rfl) (uN y) (uN 32) _ (by kernel_rfl) (by kernel_rfl) (by kernel_rfl) (run_shrU _ _ _ 32 (by omega)))) <| pkq (uN (y / 4294967296)) <| er_ [0] <| pkq (.int .i64 32) ?_
  refine eq_ <| qr_ [0, 1] <| pkq (uN (y / 4294967296)) <| ppq (.bool true) (dct ((((y / 4294967296 : Nat) : Int)) ≥ ((65536) : Int)) (by omega)) <| ey_ <| qr_ [0, 1, 2] <| pkq (uN (y / 4294967296)) <| ppq (uN (y / 4294967296 / 65536)) (exec_cast (congrArg (fun n : Nat => Value.int .u64 (n : Int)) (Nat.shiftRight_eq_div_pow (y / 4294967296) 16)) (exec_binop .shr 40 169 (.tmp 9) (.const (.int .u64 16)) (by kernel_rfl) (uN (y / 4294967296)) (uN 16) _ (by kernel_rfl) (by kernel_rfl) (by kernel_rfl) (run_shrU _ _ _ 16 (by omega)))) <| pkq (uN (y / 4294967296 / 65536)) <| er_ [0, 1, 2] <| pkq (.int .i64 32) <| pkq (.int .i64 48) <| pkq (.int .i64 48) <| eq_ ?_
  refine qr_ [0, 1] <| pkq (uN (y / 4294967296 / 65536)) <| ppq (.bool true) (dct ((((y / 4294967296 / 65536 : Nat) : Int)) ≥ ((256) : Int)) (by omega)) <| ey_ <| qr_ [0, 1, 2] <| pkq (uN (y / 4294967296 / 65536)) <| ppq (uN (y / 4294967296 / 65536 / 256)) (exec_cast (congrArg (fun n : Nat => Value.int .u64 (n : Int)) (Nat.shiftRight_eq_div_pow (y / 4294967296 / 65536) 8)) (exec_binop .shr 40 169 (.tmp 15) (.const (.int .u64 8)) (by kernel_rfl) (uN (y / 4294967296 / 65536)) (uN 8) _ (by kernel_rfl) (by kernel_rfl) (by kernel_rfl) (run_shrU _ _ _ 8 (by omega)))) <| pkq (uN (y / 4294967296 / 65536 / 256)) <| er_ [0, 1, 2] <| pkq (.int .i64 48) <| pkq (.int .i64 56) <| pkq (.int .i64 56) <| eqr_ [0, 1, 2, 3, 4, 5, 6] <| pkq (.int .i64 56) ?_
  refine pkq (uN (y / 4294967296 / 65536 / 256)) <| prq (cN (y / 4294967296 / 65536 / 256)) (w' := w) (exec_convert 40 5 (.tmp 20) (by kernel_rfl) _ (by kernel_rfl) (conv_u64_u8 (by omega) _)) <| ppq (cN c.toNat) (exec_index_str 9 (.const (.string ⟨ltab.toArray⟩)) (.tmp 21) (by kernel_rfl) ltab (by kernel_rfl) .u8 (y / 4294967296 / 65536 / 256) (by kernel_rfl) Tryz.underlying9 c hc) <| prq (iN c.toNat) (w' := w) (exec_convert 5 3 (.tmp 22) (by kernel_rfl) _ (by kernel_rfl) (conv_u8_int (by omega) _)) <| ppq (iN (56 + c.toNat)) (exec_cast (congrArg (Value.int .i64) (wrapN (56 + c.toNat) (by omega))) (by kernel_rfl)) <| pkq (iN (56 + c.toNat)) <| ps_end <| sy_a ⟨#[uN (y / 4294967296 / 65536 / 256), ud, iN (56 + c.toNat), uN y, .bool true, uN y, uN (y / 4294967296), uN (y / 4294967296), .bool true, uN (y / 4294967296), uN (y / 4294967296 / 65536), .int .i64 32, .int .i64 48, uN (y / 4294967296 / 65536), .bool true, uN (y / 4294967296 / 65536), uN (y / 4294967296 / 65536 / 256), .int .i64 48, .int .i64 56, .int .i64 56, uN (y / 4294967296 / 65536 / 256), cN (y / 4294967296 / 65536 / 256), cN c.toNat, iN c.toNat, iN (56 + c.toNat)], []⟩ <| then_n <| u_ <| so_ (.int .i64 ((56 + c.toNat : Nat) : Int)) ?_
  exact ⟨56 + c.toNat, rfl, len_fin (x := y / 4294967296 / 65536 / 256) (K := 72057594037927936) (by decide) (by decide) hc8 (by omega) (by omega) hct (by omega) hcl, rfl⟩
theorem bLen64_yyn (y : Nat) (hy1 : 1 ≤ y) (hy2 : y < 18446744073709551616) (g0 : 4294967296 ≤ y) (g1 : 65536 ≤ y / 4294967296) (g2 : y / 4294967296 / 65536 < 256) (w : World) :
    Calls Tryz.prog 108 #[.int .u64 ((y : Nat) : Int)] w (fun e w' => ∃ n : Nat, e = .returned (.int .i64 ((n : Nat) : Int)) ∧ IsLen y n ∧ w = w') := by
  obtain ⟨c, hc, hc8, hct, hcl⟩ := ltab_all ⟨y / 4294967296 / 65536, by omega⟩
  have K0 : Keeps Nob w w := Keeps.refl _ _
  refine sy_enter (qc53_1 1) ⟨#[uN y, ud, ud, ud, ud, ud, ud, ud, ud, ud, ud, ud, ud, ud, ud, ud, ud, ud, ud, ud, ud, ud, ud, ud, ud], []⟩ Tryz.func108 (by kernel_rfl) (by kernel_rfl) <| qr_ [0] <| pkq (.int .i64 0) <| eq_ <| qr_ [0, 1] <| pkq (uN y) <| ppq (.bool true) (dct ((((y : Nat) : Int)) ≥ ((4294967296) : Int)) (by omega)) <| ey_ <| qr_ [0, 1, 2] <| pkq (uN y) <| ppq (uN (y / 4294967296)) (exec_cast (congrArg (fun n : Nat => Value.int .u64 (n : Int)) (Nat.shiftRight_eq_div_pow y 32)) (exec_binop .shr 40 169 (.tmp 5) (.const (.int .u64 32)) (by kernel_rfl) (uN y) (uN 32) _ (by kernel_rfl) (by kernel_rfl) (by kernel_rfl) (run_shrU _ _ _ 32 (by omega)))) <| pkq (uN (y / 4294967296)) <| er_ [0] <| pkq (.int .i64 32) ?_
  refine eq_ <| qr_ [0, 1] <| pkq (uN (y / 4294967296)) <| ppq (.bool true) (dct ((((y / 4294967296 : Nat) : Int)) ≥ ((65536) : Int)) (by omega)) <| ey_ <| qr_ [0, 1, 2] <| pkq (uN (y / 4294967296)) <| ppq (uN (y / 4294967296 / 65536)) (exec_cast (congrArg (fun n : Nat => Value.int .u64 (n : Int)) (Nat.shiftRight_eq_div_pow (y / 4294967296) 16)) (exec_binop .shr 40 169 (.tmp 9) (.const (.int .u64 16)) (by kernel_rfl) (uN (y / 4294967296)) (uN 16) _ (by kernel_rfl) (by kernel_rfl) (by kernel_rfl) (run_shrU _ _ _ 16 (by omega)))) <| pkq (uN (y / 4294967296 / 65536)) <| er_ [0, 1, 2] <| pkq (.int .i64 32) <| pkq (.int .i64 48) <| pkq (.int .i64 48) <| eq_ ?_
  refine qr_ [0, 1] <| pkq (uN (y / 4294967296 / 65536)) <| ppq (.bool false) (dcf ((((y / 4294967296 / 65536 : Nat) : Int)) ≥ ((256) : Int)) (by omega)) <| en_ <| s_ <| tqr_ [0, 1, 2, 3, 4, 5, 6] <| pkq (.int .i64 48) <| pkq (uN (y / 4294967296 / 65536)) <| prq (cN (y / 4294967296 / 65536)) (w' := w) (exec_convert 40 5 (.tmp 20) (by kernel_rfl) _ (by kernel_rfl) (conv_u64_u8 (by omega) _)) <| ppq (cN c.toNat) (exec_index_str 9 (.const (.string ⟨ltab.toArray⟩)) (.tmp 21) (by kernel_rfl) ltab (by kernel_rfl) .u8 (y / 4294967296 / 65536) (by kernel_rfl) Tryz.underlying9 c hc) <| prq (iN c.toNat) (w' := w) (exec_convert 5 3 (.tmp 22) (by kernel_rfl) _ (by kernel_rfl) (conv_u8_int (by omega) _)) <| ppq (iN (48 + c.toNat)) (exec_cast (congrArg (Value.int .i64) (wrapN (48 + c.toNat) (by omega))) (by kernel_rfl)) <| pkq (iN (48 + c.toNat)) <| ps_end ?_
  refine sy_a ⟨#[uN (y / 4294967296 / 65536), ud, iN (48 + c.toNat), uN y, .bool true, uN y, uN (y / 4294967296), uN (y / 4294967296), .bool true, uN (y / 4294967296), uN (y / 4294967296 / 65536), .int .i64 32, .int .i64 48, uN (y / 4294967296 / 65536), .bool false, ud, ud, ud, ud, .int .i64 48, uN (y / 4294967296 / 65536), cN (y / 4294967296 / 65536), cN c.toNat, iN c.toNat, iN (48 + c.toNat)], []⟩ <| then_n <| u_ <| so_ (.int .i64 ((48 + c.toNat : Nat) : Int)) ?_
  exact ⟨48 + c.toNat, rfl, len_fin (x := y / 4294967296 / 65536) (K := 281474976710656) (by decide) (by decide) hc8 (by omega) (by omega) hct (by omega) hcl, rfl⟩
theorem bLen64_yny (y : Nat) (hy1 : 1 ≤ y) (hy2 : y < 18446744073709551616) (g0 : 4294967296 ≤ y) (g1 : y / 4294967296 < 65536) (g2 : 256 ≤ y / 4294967296) (w : World) :
    Calls Tryz.prog 108 #[.int .u64 ((y : Nat) : Int)] w (fun e w' => ∃ n : Nat, e = .returned (.int .i64 ((n : Nat) : Int)) ∧ IsLen y n ∧ w = w') := by
  obtain ⟨c, hc, hc8, hct, hcl⟩ := ltab_all ⟨y / 4294967296 / 256, by omega⟩
  have K0 : Keeps Nob w w := Keeps.refl _ _
  refine sy_enter (qc53_1 1) ⟨#[uN y, ud, ud, ud, ud, ud, ud, ud, ud, ud, ud, ud, ud, ud, ud, ud, ud, ud, ud, ud, ud, ud, ud, ud, ud], []⟩ Tryz.func108 (by kernel_rfl) (by kernel_rfl) <| qr_ [0] <| pkq (.int .i64 0) <| eq_ <| qr_ [0, 1] <| pkq (uN y) <| ppq (.bool true) (dct ((((y : Nat) : Int)) ≥ ((4294967296) : Int)) (by omega)) <| ey_ <| qr_ [0, 1, 2] <| pkq (uN y) <| ppq (uN (y / 4294967296)) (exec_cast (congrArg (fun n : Nat => Value.int .u64 (n : Int)) (Nat.shiftRight_eq_div_pow y 32)) (exec_binop .shr 40 169 (.tmp 5) (.const (.int .u64 32)) (by kernel_rfl) (uN y) (uN 32) _ (by kernel_rfl) (by kernel_rfl) (by kernel_rfl) (run_shrU _ _ _ 32 (by omega)))) <| pkq (uN (y / 4294967296)) <| er_ [0] <| pkq (.int .i64 32) ?_
  refine eq_ <| qr_ [0, 1] <| pkq (uN (y / 4294967296)) <| ppq (.bool false) (dcf ((((y / 4294967296 : Nat) : Int)) ≥ ((65536) : Int)) (by omega)) <| en_ <| s_ <| tq_ <| qr_ [0, 1] <| pkq (uN (y / 4294967296)) <| ppq (.bool true) (dct ((((y / 4294967296 : Nat) : Int)) ≥ ((256) : Int)) (by omega)) <| ey_ <| qr_ [0, 1, 2] <| pkq (uN (y / 4294967296)) <| ppq (uN (y / 4294967296 / 256)) (exec_cast (congrArg (fun n : Nat => Value.int .u64 (n : Int)) (Nat.shiftRight_eq_div_pow (y / 4294967296) 8)) (exec_binop .shr 40 169 (.tmp 15) (.const (.int .u64 8)) (by kernel_rfl) (uN (y / 4294967296)) (uN 8) _ (by kernel_rfl) (by kernel_rfl) (by kernel_rfl) (run_shrU _ _ _ 8 (by omega)))) ?_
  refine pkq (uN (y / 4294967296 / 256)) <| er_ [0, 1, 2] <| pkq (.int .i64 32) <| pkq (.int .i64 40) <| pkq (.int .i64 40) <| eqr_ [0, 1, 2, 3, 4, 5, 6] <| pkq (.int .i64 40) <| pkq (uN (y / 4294967296 / 256)) <| prq (cN (y / 4294967296 / 256)) (w' := w) (exec_convert 40 5 (.tmp 20) (by kernel_rfl) _ (by kernel_rfl) (conv_u64_u8 (by omega) _)) <| ppq (cN c.toNat) (exec_index_str 9 (.const (.string ⟨ltab.toArray⟩)) (.tmp 21) (by kernel_rfl) ltab (by kernel_rfl) .u8 (y / 4294967296 / 256) (by kernel_rfl) Tryz.underlying9 c hc) <| prq (iN c.toNat) (w' := w) (exec_convert 5 3 (.tmp 22) (by kernel_rfl) _ (by kernel_rfl) (conv_u8_int (by omega) _)) <| ppq (iN (40 + c.toNat)) (exec_cast (congrArg (Value.int .i64) (wrapN (40 + c.toNat) (by omega))) (by kernel_rfl)) <| pkq (iN (40 + c.toNat)) <| ps_end ?_
  refine sy_a ⟨#[uN (y / 4294967296 / 256), ud, iN (40 + c.toNat), uN y, .bool true, uN y, uN (y / 4294967296), uN (y / 4294967296), .bool false, ud, ud, ud, ud, uN (y / 4294967296), .bool true, uN (y / 4294967296), uN (y / 4294967296 / 256), .int .i64 32, .int .i64 40, .int .i64 40, uN (y / 4294967296 / 256), cN (y / 4294967296 / 256), cN c.toNat, iN c.toNat, iN (40 + c.toNat)], []⟩ <| then_n <| u_ <| so_ (.int .i64 ((40 + c.toNat : Nat) : Int)) ?_
  exact ⟨40 + c.toNat, rfl, len_fin (x := y / 4294967296 / 256) (K := 1099511627776) (by decide) (by decide) hc8 (by omega) (by omega) hct (by omega) hcl, rfl⟩
theorem bLen64_ynn (y : Nat) (hy1 : 1 ≤ y) (hy2 : y < 18446744073709551616) (g0 : 4294967296 ≤ y) (g1 : y / 4294967296 < 65536) (g2 : y / 4294967296 < 256) (w : World) :
    Calls Tryz.prog 108 #[.int .u64 ((y : Nat) : Int)] w (fun e w' => ∃ n : Nat, e = .returned (.int .i64 ((n : Nat) : Int)) ∧ IsLen y n ∧ w = w') := by
  obtain ⟨c, hc, hc8, hct, hcl⟩ := ltab_all ⟨y / 4294967296, by omega⟩
  have K0 : Keeps Nob w w := Keeps.refl _ _
  refine sy_enter (qc53_1 1) ⟨#[uN y, ud, ud, ud, ud, ud, ud, ud, ud, ud, ud, ud, ud, ud, ud, ud, ud, ud, ud, ud, ud, ud, ud, ud, ud], []⟩ Tryz.func108 (by kernel_rfl) (by kernel_rfl) <| qr_ [0] <| pkq (.int .i64 0) <| eq_ <| qr_ [0, 1] <| pkq (uN y) <| ppq (.bool true) (dct ((((y : Nat) : Int)) ≥ ((4294967296) : Int)) (by omega)) <| ey_ <| qr_ [0, 1, 2] <| pkq (uN y) <| ppq (uN (y / 4294967296)) (exec_cast (congrArg (fun n : Nat => Value.int .u64 (n : Int)) (Nat.shiftRight_eq_div_pow y 32)) (exec_binop .shr 40 169 (.tmp 5) (.const (.int .u64 32)) (by kernel_rfl) (uN y) (uN 32) _ (by kernel_rfl) (by kernel_rfl) (by kernel_rfl) (run_shrU _ _ _ 32 (by omega)))) <| pkq (uN (y / 4294967296)) <| er_ [0] <| pkq (.int .i64 32) ?_
  refine eq_ <| qr_ [0, 1] <| pkq (uN (y / 4294967296)) <| ppq (.bool false) (dcf ((((y / 4294967296 : Nat) : Int)) ≥ ((65536) : Int)) (by omega)) <| en_ <| s_ <| tq_ <| qr_ [0, 1] <| pkq (uN (y / 4294967296)) <| ppq (.bool false) (dcf ((((y / 4294967296 : Nat) : Int)) ≥ ((256) : Int)) (by omega)) <| en_ <| s_ <| tqr_ [0, 1, 2, 3, 4, 5, 6] <| pkq (.int .i64 32) ?_
  refine pkq (uN (y / 4294967296)) <| prq (cN (y / 4294967296)) (w' := w) (exec_convert 40 5 (.tmp 20) (by kernel_rfl) _ (by kernel_rfl) (conv_u64_u8 (by omega) _)) <| ppq (cN c.toNat) (exec_index_str 9 (.const (.string ⟨ltab.toArray⟩)) (.tmp 21) (by kernel_rfl) ltab (by kernel_rfl) .u8 (y / 4294967296) (by kernel_rfl) Tryz.underlying9 c hc) <| prq (iN c.toNat) (w' := w) (exec_convert 5 3 (.tmp 22) (by kernel_rfl) _ (by kernel_rfl) (conv_u8_int (by omega) _)) <| ppq (iN (32 + c.toNat)) (exec_cast (congrArg (Value.int .i64) (wrapN (32 + c.toNat) (by omega))) (by kernel_rfl)) <| pkq (iN (32 + c.toNat)) <| eu_ <| so_ (.int .i64 ((32 + c.toNat : Nat) : Int)) ?_
  exact ⟨32 + c.toNat, rfl, len_fin (x := y / 4294967296) (K := 4294967296) (by decide) (by decide) hc8 (by omega) (by omega) hct (by omega) hcl, rfl⟩
theorem bLen64_nyy (y : Nat) (hy1 : 1 ≤ y) (hy2 : y < 18446744073709551616) (g0 : y < 4294967296) (g1 : 65536 ≤ y) (g2 : 256 ≤ y / 65536) (w : World) :
    Calls Tryz.prog 108 #[.int .u64 ((y : Nat) : Int)] w (fun e w' => ∃ n : Nat, e = .returned (.int .i64 ((n : Nat) : Int)) ∧ IsLen y n ∧ w = w') := by
  obtain ⟨c, hc, hc8, hct, hcl⟩ := ltab_all ⟨y / 65536 / 256, by omega⟩
  have K0 : Keeps Nob w w := Keeps.refl _ _
  refine sy_enter (qc53_1 1) ⟨#[uN y, ud, ud, ud, ud, ud, ud, ud, ud, ud, ud, ud, ud, ud, ud, ud, ud, ud, ud, ud, ud, ud, ud, ud, ud], []⟩ Tryz.func108 (by kernel_rfl) (by kernel_rfl) <| qr_ [0] <| pkq (.int .i64 0) <| eq_ <| qr_ [0, 1] <| pkq (uN y) <| ppq (.bool false) (dcf ((((y : Nat) : Int)) ≥ ((4294967296) : Int)) (by omega)) <| en_ <| s_ <| tq_ <| qr_ [0, 1] <| pkq (uN y) <| ppq (.bool true) (dct ((((y : Nat) : Int)) ≥ ((65536) : Int)) (by omega)) <| ey_ ?_
  refine qr_ [0, 1, 2] <| pkq (uN y) <| ppq (uN (y / 65536)) (exec_cast (congrArg (fun n : Nat => Value.int .u64 (n : Int)) (Nat.shiftRight_eq_div_pow y 16)) (exec_binop .shr 40 169 (.tmp 9) (.const (.int .u64 16)) (by kernel_rfl) (uN y) (uN 16) _ (by kernel_rfl) (by kernel_rfl) (by kernel_rfl) (run_shrU _ _ _ 16 (by omega)))) <| pkq (uN (y / 65536)) <| er_ [0, 1, 2] <| pkq (.int .i64 0) <| pkq (.int .i64 16) <| pkq (.int .i64 16) <| eq_ <| qr_ [0, 1] <| pkq (uN (y / 65536)) <| ppq (.bool true) (dct ((((y / 65536 : Nat) : Int)) ≥ ((256) : Int)) (by omega)) <| ey_ <| qr_ [0, 1, 2] ?_
  refine pkq (uN (y / 65536)) <| ppq (uN (y / 65536 / 256)) (exec_cast (congrArg (fun n : Nat => Value.int .u64 (n : Int)) (Nat.shiftRight_eq_div_pow (y / 65536) 8)) (exec_binop .shr 40 169 (.tmp 15) (.const (.int .u64 8)) (by kernel_rfl) (uN (y / 65536)) (uN 8) _ (by kernel_rfl) (by kernel_rfl) (by kernel_rfl) (run_shrU _ _ _ 8 (by omega)))) <| pkq (uN (y / 65536 / 256)) <| er_ [0, 1, 2] <| pkq (.int .i64 16) <| pkq (.int .i64 24) <| pkq (.int .i64 24) <| eqr_ [0, 1, 2, 3, 4, 5, 6] <| pkq (.int .i64 24) <| pkq (uN (y / 65536 / 256)) <| prq (cN (y / 65536 / 256)) (w' := w) (exec_convert 40 5 (.tmp 20) (by kernel_rfl) _ (by kernel_rfl) (conv_u64_u8 (by omega) _)) <| ppq (cN c.toNat) (exec_index_str 9 (.const (.string ⟨ltab.toArray⟩)) (.tmp 21) (by kernel_rfl) ltab (by kernel_rfl) .u8 (y / 65536 / 256) (by kernel_rfl) Tryz.underlying9 c hc) <| prq (iN c.toNat) (w' := w) (exec_convert 5 3 (.tmp 22) (by kernel_rfl) _ (by kernel_rfl) (conv_u8_int (by omega) _)) <| ppq (iN (24 + c.toNat)) (exec_cast (congrArg (Value.int .i64) (wrapN (24 + c.toNat) (by omega))) (by kernel_rfl)) ?_
  refine pkq (iN (24 + c.toNat)) <| ps_end <| sy_a ⟨#[uN (y / 65536 / 256), ud, iN (24 + c.toNat), uN y, .bool false, ud, ud, uN y, .bool true, uN y, uN (y / 65536), .int .i64 0, .int .i64 16, uN (y / 65536), .bool true, uN (y / 65536), uN (y / 65536 / 256), .int .i64 16, .int .i64 24, .int .i64 24, uN (y / 65536 / 256), cN (y / 65536 / 256), cN c.toNat, iN c.toNat, iN (24 + c.toNat)], []⟩ <| then_n <| u_ <| so_ (.int .i64 ((24 + c.toNat : Nat) : Int)) ?_
  exact ⟨24 + c.toNat, rfl, len_fin (x := y / 65536 / 256) (K := 16777216) (by decide) (by decide) hc8 (by omega) (by omega) hct (by omega) hcl, rfl⟩
theorem bLen64_nyn (y : Nat) (hy1 : 1 ≤ y) (hy2 : y < 18446744073709551616) (g0 : y < 4294967296) (g1 : 65536 ≤ y) (g2 : y / 65536 < 256) (w : World) :
    Calls Tryz.prog 108 #[.int .u64 ((y : Nat) : Int)] w (fun e w' => ∃ n : Nat, e = .returned (.int .i64 ((n : Nat) : Int)) ∧ IsLen y n ∧ w = w') := by
  obtain ⟨c, hc, hc8, hct, hcl⟩ := ltab_all ⟨y / 65536, by omega⟩
  have K0 : Keeps Nob w w := Keeps.refl _ _
  refine sy_enter (qc53_1 1) ⟨#[uN y, ud, ud, ud, ud, ud, ud, ud, ud, ud, ud, ud, ud, ud, ud, ud, ud, ud, ud, ud, ud, ud, ud, ud, ud], []⟩ Tryz.func108 (by kernel_rfl) (by kernel_rfl) <| qr_ [0] <| pkq (.int .i64 0) <| eq_ <| qr_ [0, 1] <| pkq (uN y) <| ppq (.bool false) (dcf ((((y : Nat) : Int)) ≥ ((4294967296) : Int)) (by omega)) <| en_ <| s_ <| tq_ <| qr_ [0, 1] <| pkq (uN y) <| ppq (.bool true) (dct ((((y : Nat) : Int)) ≥ ((65536) : Int)) (by omega)) <| ey_ ?_
  refine qr_ [0, 1, 2] <| pkq (uN y) <| ppq (uN (y / 65536)) (exec_cast (congrArg (fun n : Nat => Value.int .u64 (n : Int)) (Nat.shiftRight_eq_div_pow y 16)) (exec_binop .shr 40 169 (.tmp 9) (.const (.int .u64 16)) (by kernel_rfl) (uN y) (uN 16) _ (by kernel_rfl) (by kernel_rfl) (by kernel_rfl) (run_shrU _ _ _ 16 (by omega)))) <| pkq (uN (y / 65536)) <| er_ [0, 1, 2] <| pkq (.int .i64 0) <| pkq (.int .i64 16) <| pkq (.int .i64 16) <| eq_ <| qr_ [0, 1] <| pkq (uN (y / 65536)) <| ppq (.bool false) (dcf ((((y / 65536 : Nat) : Int)) ≥ ((256) : Int)) (by omega)) <| en_ <| s_ ?_
  refine tqr_ [0, 1, 2, 3, 4, 5, 6] <| pkq (.int .i64 16) <| pkq (uN (y / 65536)) <| prq (cN (y / 65536)) (w' := w) (exec_convert 40 5 (.tmp 20) (by kernel_rfl) _ (by kernel_rfl) (conv_u64_u8 (by omega) _)) <| ppq (cN c.toNat) (exec_index_str 9 (.const (.string ⟨ltab.toArray⟩)) (.tmp 21) (by kernel_rfl) ltab (by kernel_rfl) .u8 (y / 65536) (by kernel_rfl) Tryz.underlying9 c hc) <| prq (iN c.toNat) (w' := w) (exec_convert 5 3 (.tmp 22) (by kernel_rfl) _ (by kernel_rfl) (conv_u8_int (by omega) _)) <| ppq (iN (16 + c.toNat)) (exec_cast (congrArg (Value.int .i64) (wrapN (16 + c.toNat) (by omega))) (by kernel_rfl)) <| pkq (iN (16 + c.toNat)) <| eu_ <| so_ (.int .i64 ((16 + c.toNat : Nat) : Int)) ?_
  exact ⟨16 + c.toNat, rfl, len_fin (x := y / 65536) (K := 65536) (by decide) (by decide) hc8 (by omega) (by omega) hct (by omega) hcl, rfl⟩
theorem bLen64_nny (y : Nat) (hy1 : 1 ≤ y) (hy2 : y < 18446744073709551616) (g0 : y < 4294967296) (g1 : y < 65536) (g2 : 256 ≤ y) (w : World) :
    Calls Tryz.prog 108 #[.int .u64 ((y : Nat) : Int)] w (fun e w' => ∃ n : Nat, e = .returned (.int .i64 ((n : Nat) : Int)) ∧ IsLen y n ∧ w = w') := by
  obtain ⟨c, hc, hc8, hct, hcl⟩ := ltab_all ⟨y / 256, by omega⟩
  have K0 : Keeps Nob w w := Keeps.refl _ _
  refine sy_enter (qc53_1 1) ⟨#[uN y, ud, ud, ud, ud, ud, ud, ud, ud, ud, ud, ud, ud, ud, ud, ud, ud, ud, ud, ud, ud, ud, ud, ud, ud], []⟩ Tryz.func108 (by kernel_rfl) (by kernel_rfl) <| qr_ [0] <| pkq (.int .i64 0) <| eq_ <| qr_ [0, 1] <| pkq (uN y) <| ppq (.bool false) (dcf ((((y : Nat) : Int)) ≥ ((4294967296) : Int)) (by omega)) <| en_ <| s_ <| tq_ <| qr_ [0, 1] <| pkq (uN y) <| ppq (.bool false) (dcf ((((y : Nat) : Int)) ≥ ((65536) : Int)) (by omega)) <| en_ ?_
  refine s_ <| tq_ <| qr_ [0, 1] <| pkq (uN y) <| ppq (.bool true) (dct ((((y : Nat) : Int)) ≥ ((256) : Int)) (by omega)) <| ey_ <| qr_ [0, 1, 2] <| pkq (uN y) <| ppq (uN (y / 256)) (exec_cast (congrArg (fun n : Nat => Value.int .u64 (n : Int)) (Nat.shiftRight_eq_div_pow y 8)) (exec_binop .shr 40 169 (.tmp 15) (.const (.int .u64 8)) (by kernel_rfl) (uN y) (uN 8) _ (by kernel_rfl) (by kernel_rfl) (by kernel_rfl) (run_shrU _ _ _ 8 (by omega)))) <| pkq (uN (y / 256)) <| er_ [0, 1, 2] <| pkq (.int .i64 0) <| pkq (.int .i64 8) <| pkq (.int .i64 8) ?_
  refine eqr_ [0, 1, 2, 3, 4, 5, 6] <| pkq (.int .i64 8) <| pkq (uN (y / 256)) <| prq (cN (y / 256)) (w' := w) (exec_convert 40 5 (.tmp 20) (by kernel_rfl) _ (by kernel_rfl) (conv_u64_u8 (by omega) _)) <| ppq (cN c.toNat) (exec_index_str 9 (.const (.string ⟨ltab.toArray⟩)) (.tmp 21) (by kernel_rfl) ltab (by kernel_rfl) .u8 (y / 256) (by kernel_rfl) Tryz.underlying9 c hc) <| prq (iN c.toNat) (w' := w) (exec_convert 5 3 (.tmp 22) (by kernel_rfl) _ (by kernel_rfl) (conv_u8_int (by omega) _)) <| ppq (iN (8 + c.toNat)) (exec_cast (congrArg (Value.int .i64) (wrapN (8 + c.toNat) (by omega))) (by kernel_rfl)) <| pkq (iN (8 + c.toNat)) <| eu_ <| so_ (.int .i64 ((8 + c.toNat : Nat) : Int)) ?_
  exact ⟨8 + c.toNat, rfl, len_fin (x := y / 256) (K := 256) (by decide) (by decide) hc8 (by omega) (by omega) hct (by omega) hcl, rfl⟩
theorem bLen64_nnn (y : Nat) (hy1 : 1 ≤ y) (hy2 : y < 18446744073709551616) (g0 : y < 4294967296) (g1 : y < 65536) (g2 : y < 256) (w : World) :
    Calls Tryz.prog 108 #[.int .u64 ((y : Nat) : Int)] w (fun e w' => ∃ n : Nat, e = .returned (.int .i64 ((n : Nat) : Int)) ∧ IsLen y n ∧ w = w') := by
  obtain ⟨c, hc, hc8, hct, hcl⟩ := ltab_all ⟨y, by omega⟩
  have K0 : Keeps Nob w w := Keeps.refl _ _
  refine sy_enter (qc53_1 1) ⟨#[uN y, ud, ud, ud, ud, ud, ud, ud, ud, ud, ud, ud, ud, ud, ud, ud, ud, ud, ud, ud, ud, ud, ud, ud, ud], []⟩ Tryz.func108 (by kernel_rfl) (by kernel_rfl) <| qr_ [0] <| pkq (.int .i64 0) <| eq_ <| qr_ [0, 1] <| pkq (uN y) <| ppq (.bool false) (dcf ((((y : Nat) : Int)) ≥ ((4294967296) : Int)) (by omega)) <| en_ <| s_ <| tq_ <| qr_ [0, 1] <| pkq (uN y) <| ppq (.bool false) (dcf ((((y : Nat) : Int)) ≥ ((65536) : Int)) (by omega)) <| en_ ?_
  refine s_ <| tq_ <| qr_ [0, 1] <| pkq (uN y) <| ppq (.bool false) (dcf ((((y : Nat) : Int)) ≥ ((256) : Int)) (by omega)) <| en_ <| s_ <| tqr_ [0, 1, 2, 3, 4, 5, 6] <| pkq (.int .i64 0) <| pkq (uN y) <| prq (cN y) (w' := w) (exec_convert 40 5 (.tmp 20) (by kernel_rfl) _ (by kernel_rfl) (conv_u64_u8 (by omega) _)) <| ppq (cN c.toNat) (exec_index_str 9 (.const (.string ⟨ltab.toArray⟩)) (.tmp 21) (by kernel_rfl) ltab (by kernel_rfl) .u8 (y) (by kernel_rfl) Tryz.underlying9 c hc) <| prq (iN c.toNat) (w' := w) (exec_convert 5 3 (.tmp 22) (by kernel_rfl) _ (by kernel_rfl) (conv_u8_int (by omega) _)) <| ppq (iN (0 + c.toNat)) (exec_cast (congrArg (Value.int .i64) (wrapN (0 + c.toNat) (by omega))) (by kernel_rfl)) ?_
  refine pkq (iN (0 + c.toNat)) <| eu_ <| so_ (.int .i64 ((0 + c.toNat : Nat) : Int)) ?_
  exact ⟨0 + c.toNat, rfl, len_fin (x := y) (K := 1) (by decide) (by decide) hc8 (by omega) (by omega) hct (by omega) hcl, rfl⟩
theorem bLen64_ok (y : Nat) (hy1 : 1 ≤ y) (hy2 : y < 18446744073709551616) (w : World) : Calls Tryz.prog 108 #[.int .u64 ((y : Nat) : Int)] w (fun e w' => ∃ n : Nat, e = .returned (.int .i64 ((n : Nat) : Int)) ∧ IsLen y n ∧ w = w') := by
  by_cases c1 : 4294967296 ≤ y
  · by_cases c2 : 65536 ≤ y / 4294967296
    · by_cases c3 : 256 ≤ y / 4294967296 / 65536
      · exact bLen64_yyy y hy1 hy2 c1 c2 c3 w
      · exact bLen64_yyn y hy1 hy2 c1 c2 (by omega) w
    · by_cases c3 : 256 ≤ y / 4294967296
      · exact bLen64_yny y hy1 hy2 c1 (by omega) c3 w
      · exact bLen64_ynn y hy1 hy2 c1 (by omega) (by omega) w
  · by_cases c2 : 65536 ≤ y
    · by_cases c3 : 256 ≤ y / 65536
      · exact bLen64_nyy y hy1 hy2 (by omega) c2 c3 w
      · exact bLen64_nyn y hy1 hy2 (by omega) c2 (by omega) w
    · by_cases c3 : 256 ≤ y
      · exact bLen64_nny y hy1 hy2 (by omega) (by omega) c3 w
      · exact bLen64_nnn y hy1 hy2 (by omega) (by omega) (by omega) w
noncomputable def qc53_0 (n : Nat) : Code := partOf Tryz.f105 n
theorem bLead64_ok (y : Nat) (hy1 : 1 ≤ y) (hy2 : y < 18446744073709551616) (w : World) :
    Calls Tryz.prog 105 #[.int .u64 ((y : Nat) : Int)] w (fun e w' => ∃ s : Nat, e = .returned (.int .i64 ((s : Nat) : Int)) ∧ s ≤ 63 ∧ 9223372036854775808 ≤ y * 2 ^ s ∧ y * 2 ^ s < 18446744073709551616 ∧ w = w') := by
  have K0 : Keeps Nob w w := Keeps.refl _ _
  refine sy_enter (qc53_0 1) ⟨#[uN y, ud, ud, ud, ud, ud], []⟩ Tryz.func105 (by kernel_rfl) (by kernel_rfl) <| qr_ [0] <| pkq (.int .i64 0) <| eqr_ [0, 1, 2, 3] <| pkq (uN y) ?_
  refine pcq 108 #[uN y] Tryz.func108 ((bLen64_ok y hy1 hy2 _).mono ?_)
  rintro e w1 ⟨n, rfl, hn, rfl⟩
  obtain ⟨s, hs⟩ : ∃ s, s + n = 64 := ⟨64 - n, by have := hn.1; omega⟩
  refine ⟨_, rfl, ?_⟩
  refine ppq (iN s) (exec_cast (congrArg (Value.int .i64) (wrapI (64 - ((n : Nat) : Int)) ((s : Nat) : Int) (by omega) (by omega) (by omega))) (by kernel_rfl)) <| pkq (iN s) <| eu_ <| so_ (.int .i64 ((s : Nat) : Int)) ?_
  exact ⟨s, rfl, (lead_len hn hs).1, (lead_len hn hs).2.1, (lead_len hn hs).2.2, rfl⟩
noncomputable def qc53_2 (n : Nat) : Code := partOf Tryz.f94 n
theorem bDiv64_zero (hi lo y : Nat) (hz : hi = 0) (hy1 : 1 ≤ y) (hlo : lo < 18446744073709551616) (w : World) :
    Calls Tryz.prog 94 #[.int .u64 ((hi : Nat) : Int), .int .u64 ((lo : Nat) : Int), .int .u64 ((y : Nat) : Int)] w (fun e w' => ∃ r : Nat, e = .returned (.tuple #[.int .u64 (((hi * 18446744073709551616 + lo) / y : Nat) : Int), .int .u64 ((r : Nat) : Int)]) ∧ Keeps Nob w w') := by
  have K0 : Keeps Nob w w := Keeps.refl _ _
  refine sy_enter (qc53_2 1) ⟨#[uN hi, uN lo, uN y, ud, ud, ud, ud, ud, ud, ud, ud, ud, ud, ud, ud, ud, ud, ud, ud, ud, ud, ud, ud, ud, ud, ud, ud, ud, ud, ud, ud, ud, ud, ud, ud, ud, ud, ud, ud, ud, ud, ud, ud, ud, ud, ud, ud, ud, ud, ud, ud, ud, ud, ud, ud, ud, ud, ud, ud, ud, ud, ud, ud, ud, ud, ud, ud, ud, ud, ud, ud, ud, ud, ud, ud, ud, ud, ud, ud, ud, ud, ud, ud, ud, ud, ud, ud, ud, ud, ud, ud, ud, ud, ud, ud, ud, ud, ud, ud, ud, ud, ud, ud, ud, ud, ud, ud, ud, ud, ud, ud, ud, ud, ud, ud, ud, ud, ud, ud, ud, ud, ud, ud, ud, ud, ud, ud, ud, ud, ud, ud, ud, ud, ud, ud], []⟩ Tryz.func94 (by kernel_rfl) (by kernel_rfl) <| qr_ [0, 1] <| pkq (.int .u64 0) <| pkq (.int .u64 0) <| eq_ <| qr_ [0, 1] <| pkq (uN y) <| ppq (.bool false) (eqf (((y : Nat) : Int)) ((0) : Int) (by omega)) <| en_ <| s_ <| tq_ <| qr_ [0, 1, 2] <| pkq (uN y) <| pkq (uN hi) ?_
  refine ppq (.bool false) (dcf ((((y : Nat) : Int)) ≤ (((hi : Nat) : Int))) (by omega)) <| en_ <| s_ <| tq_ <| qr_ [0, 1] <| pkq (uN hi) <| ppq (.bool true) (eqt (((hi : Nat) : Int)) ((0) : Int) (by omega)) <| ey_ <| q_ <| sy_np <| sy_reg <| an_begin 6 8 (opsAt (qc53_2 244)) (fun W => True) #[false, false, false, false, false, false, false, false] (by kernel_rfl) (by kernel_rfl) (by kernel_rfl) (by kernel_rfl) ?_
  obtain ⟨V1, eV1, kV1⟩ := drew_step w
  rw [eV1]
  clear eV1
  have K2 := K0.nn kV1
  have z3 := kV1.size
  refine akq 0 (uN lo) trivial <| akq 1 (uN y) trivial <| avq 2 (uN (lo / y)) (fun W hS => exec_quoU 40 40 (.tmp 28) (.tmp 29) (by kernel_rfl) lo y (by kernel_rfl) (by kernel_rfl) hy1 hlo) trivial <| akq 3 (uN lo) trivial <| akq 4 (uN y) trivial <| avq 5 (uN (lo % y)) (fun W hS => exec_remU 40 40 (.tmp 31) (.tmp 32) (by kernel_rfl) lo y (by kernel_rfl) (by kernel_rfl) hy1 hlo) trivial <| an_o 6 <| nrq (uN (lo / y)) (w' := V1) (by kernel_rfl) ?_
  refine ⟨trivial, ?_⟩
  refine an_o 7 <| nrq (uN (lo % y)) (w' := V1) (by kernel_rfl) ?_
  refine ⟨trivial, ?_⟩
  refine an_end (by kernel_rfl) <| then_n <| u_ <| then_r <| so_ (.tuple #[.int .u64 ((lo / y : Nat) : Int), .int .u64 ((lo % y : Nat) : Int)]) ?_
  exact ⟨_, by subst hz; rw [Nat.zero_mul, Nat.zero_add], K2⟩
theorem bDiv64_pos (hi lo y : Nat) (hz : 1 ≤ hi) (hh : hi < y) (hy2 : y < 18446744073709551616) (hlo : lo < 18446744073709551616) (w : World) :
    Calls Tryz.prog 94 #[.int .u64 ((hi : Nat) : Int), .int .u64 ((lo : Nat) : Int), .int .u64 ((y : Nat) : Int)] w (fun e w' => ∃ r : Nat, e = .returned (.tuple #[.int .u64 (((hi * 18446744073709551616 + lo) / y : Nat) : Int), .int .u64 ((r : Nat) : Int)]) ∧ Keeps Nob w w') := by
  have hy1 : 1 ≤ y := by omega
  have K0 : Keeps Nob w w := Keeps.refl _ _
  refine sy_enter (qc53_2 1) ⟨#[uN hi, uN lo, uN y, ud, ud, ud, ud, ud, ud, ud, ud, ud, ud, ud, ud, ud, ud, ud, ud, ud, ud, ud, ud, ud, ud, ud, ud, ud, ud, ud, ud, ud, ud, ud, ud, ud, ud, ud, ud, ud, ud, ud, ud, ud, ud, ud, ud, ud, ud, ud, ud, ud, ud, ud, ud, ud, ud, ud, ud, ud, ud, ud, ud, ud, ud, ud, ud, ud, ud, ud, ud, ud, ud, ud, ud, ud, ud, ud, ud, ud, ud, ud, ud, ud, ud, ud, ud, ud, ud, ud, ud, ud, ud, ud, ud, ud, ud, ud, ud, ud, ud, ud, ud, ud, ud, ud, ud, ud, ud, ud, ud, ud, ud, ud, ud, ud, ud, ud, ud, ud, ud, ud, ud, ud, ud, ud, ud, ud, ud, ud, ud, ud, ud, ud, ud], []⟩ Tryz.func94 (by kernel_rfl) (by kernel_rfl) <| qr_ [0, 1] <| pkq (.int .u64 0) <| pkq (.int .u64 0) <| eq_ <| qr_ [0, 1] <| pkq (uN y) <| ppq (.bool false) (eqf (((y : Nat) : Int)) ((0) : Int) (by omega)) <| en_ <| s_ <| tq_ <| qr_ [0, 1, 2] <| pkq (uN y) <| pkq (uN hi) ?_
  refine ppq (.bool false) (dcf ((((y : Nat) : Int)) ≤ (((hi : Nat) : Int))) (by omega)) <| en_ <| s_ <| tq_ <| qr_ [0, 1] <| pkq (uN hi) <| ppq (.bool false) (eqf (((hi : Nat) : Int)) ((0) : Int) (by omega)) <| en_ <| s_ <| tqr_ [0, 1, 2, 3] <| pkq (uN y) ?_
  refine pcq 105 #[uN y] Tryz.func105 ((bLead64_ok y hy1 hy2 _).mono ?_)
  rintro e w1 ⟨s, rfl, hs63, hYl, hYh, rfl⟩
  obtain ⟨Y, hYe⟩ : ∃ Y, y * 2 ^ s = Y := ⟨_, rfl⟩
  obtain ⟨y1, hy1e⟩ : ∃ z, Y / 4294967296 = z := ⟨_, rfl⟩
  obtain ⟨y0, hy0e⟩ : ∃ z, Y % 4294967296 = z := ⟨_, rfl⟩
  obtain ⟨hsum, hUY⟩ := wide_shift hs63 hlo hh hYh
  rw [hYe] at hYl hYh hUY
  obtain ⟨U, hUe⟩ : ∃ z, ((hi <<< s) % Kec.W ||| lo >>> (64 - s)) = z := ⟨_, rfl⟩
  obtain ⟨L, hLe⟩ : ∃ z, (lo <<< s) % Kec.W = z := ⟨_, rfl⟩
  have hL : L < 18446744073709551616 := hLe ▸ Nat.mod_lt _ Kec.W_pos
  rw [hUe, hLe] at hsum
  rw [hUe] at hUY
  obtain ⟨u1, hu1e⟩ : ∃ z, L / 4294967296 = z := ⟨_, rfl⟩
  obtain ⟨u0, hu0e⟩ : ∃ z, L % 4294967296 = z := ⟨_, rfl⟩
  have hYs : Y = y1 * 4294967296 + y0 := by omega
  have hy0 : y0 < 4294967296 := by omega
  have hy1p : 1 ≤ y1 := by omega
  have hy1l : y1 < 4294967296 := by omega
  have hu1 : u1 < 4294967296 := by omega
  have hu0 : u0 < 4294967296 := by omega
  have hLs : L = u1 * 4294967296 + u0 := by omega
  obtain ⟨Vr, hVr⟩ : ∃ z, (U * 4294967296 + u1) % Y = z := ⟨_, rfl⟩
  have hVY : Vr < Y := hVr ▸ Nat.mod_lt _ (by omega)
  refine ⟨_, rfl, ?_⟩
  refine prq (uN s) (w' := w) (exec_convert 3 169 (.tmp 35) (by kernel_rfl) _ (by kernel_rfl) (conv_int_uint (by omega) _)) <| pkq (uN s) <| eqr_ [0, 1, 2, 3] <| pkq (uN y) <| pkq (uN s) <| ppq (uN Y) (exec_cast (congrArg (fun n : Nat => Value.int .u64 (n : Int)) (show (y <<< s) % Kec.W = Y by rw [Nat.shiftLeft_eq, hYe]; exact Nat.mod_eq_of_lt hYh)) (exec_binop .shl 40 169 (.tmp 37) (.tmp 38) (by kernel_rfl) (uN y) (uN s) _ (by kernel_rfl) (by kernel_rfl) (by kernel_rfl) (run_shlU _ _ y s (by omega)))) <| pkq (uN Y) <| eqr_ [0, 1, 2] <| pkq (uN Y) <| ppq (uN y1) (exec_cast (congrArg (fun n : Nat => Value.int .u64 (n : Int)) (show Y >>> 32 = y1 by rw [Nat.shiftRight_eq_div_pow]; exact hy1e)) (exec_binop .shr 40 169 (.tmp 40) (.const (.int .u64 32)) (by kernel_rfl) (uN Y) (uN 32) _ (by kernel_rfl) (by kernel_rfl) (by kernel_rfl) (run_shrU _ _ Y 32 (by omega)))) <| pkq (uN y1) <| eqr_ [0, 1, 2] <| pkq (uN Y) <| ppq (uN y0) (exec_cast ((andU Y 4294967295 (show Y < Kec.W from hYh) (by decide)).trans (congrArg (fun n : Nat => Value.int .u64 (n : Int)) (show Y &&& 4294967295 = y0 from (Nat.and_two_pow_sub_one_eq_mod Y 32).trans hy0e))) (by kernel_rfl)) ?_
  refine pkq (uN y0) <| eqr_ [0, 1, 2, 3, 4, 5, 6, 7, 8] <| pkq (uN hi) <| pkq (uN s) <| ppq (uN ((hi <<< s) % Kec.W)) (exec_binop .shl 40 169 (.tmp 44) (.tmp 45) (by kernel_rfl) (uN hi) (uN s) _ (by kernel_rfl) (by kernel_rfl) (by kernel_rfl) (run_shlU _ _ hi s (by omega))) <| pkq (uN lo) <| pkq (uN s) <| ppq (uN (64 - s)) (exec_cast (congrArg (Value.int .u64) (show IntKind.u64.wrap (64 - ((s : Nat) : Int)) = ((64 - s : Nat) : Int) by rw [IntKind.wrap_u64]; omega)) (by kernel_rfl)) <| ppq (uN (lo >>> (64 - s))) (exec_binop .shr 40 169 (.tmp 47) (.tmp 49) (by kernel_rfl) (uN lo) (uN ((64 - s))) _ (by kernel_rfl) (by kernel_rfl) (by kernel_rfl) (run_shrU _ _ lo ((64 - s)) (by omega))) <| ppq (uN U) (exec_cast ((orU ((hi <<< s) % Kec.W) (lo >>> (64 - s)) (Nat.mod_lt _ Kec.W_pos) (Kec.shr_lt hlo _)).trans (congrArg (fun n : Nat => Value.int .u64 (n : Int)) hUe)) (by kernel_rfl)) <| pkq (uN U) <| ps_end <| sy_a ⟨#[uN hi, uN lo, uN Y, ud, ud, ud, .int .u64 0, .int .u64 0, uN s, uN y1, uN y0, uN U, ud, ud, ud, ud, ud, ud, ud, uN y, .bool false, ud, uN y, uN hi, .bool false, ud, uN hi, .bool false, ud, ud, ud, ud, ud, ud, uN y, iN s, uN s, uN y, uN s, uN Y, uN Y, uN y1, uN Y, uN y0, uN hi, uN s, uN ((hi <<< s) % Kec.W), uN lo, uN s, uN (64 - s), uN (lo >>> (64 - s)), uN U, ud, ud, ud, ud, ud, ud, ud, ud, ud, ud, ud, ud, ud, ud, ud, ud, ud, ud, ud, ud, ud, ud, ud, ud, ud, ud, ud, ud, ud, ud, ud, ud, ud, ud, ud, ud, ud, ud, ud, ud, ud, ud, ud, ud, ud, ud, ud, ud, ud, ud, ud, ud, ud, ud, ud, ud, ud, ud, ud, ud, ud, ud, ud, ud, ud, ud, ud, ud, ud, ud, ud, ud, ud, ud, ud, ud, ud, ud, ud, ud, ud, ud, ud], []⟩ <| tqr_ [0, 1, 2, 3] ?_
  refine pkq (uN lo) <| pkq (uN s) <| ppq (uN L) (exec_cast (congrArg (fun n : Nat => Value.int .u64 (n : Int)) hLe) (exec_binop .shl 40 169 (.tmp 52) (.tmp 53) (by kernel_rfl) (uN lo) (uN s) _ (by kernel_rfl) (by kernel_rfl) (by kernel_rfl) (run_shlU _ _ lo s (by omega)))) <| pkq (uN L) <| eqr_ [0, 1, 2] <| pkq (uN L) <| ppq (uN u1) (exec_cast (congrArg (fun n : Nat => Value.int .u64 (n : Int)) (show L >>> 32 = u1 by rw [Nat.shiftRight_eq_div_pow]; exact hu1e)) (exec_binop .shr 40 169 (.tmp 55) (.const (.int .u64 32)) (by kernel_rfl) (uN L) (uN 32) _ (by kernel_rfl) (by kernel_rfl) (by kernel_rfl) (run_shrU _ _ L 32 (by omega)))) <| pkq (uN u1) <| eqr_ [0, 1, 2] <| pkq (uN L) <| ppq (uN u0) (exec_cast ((andU L 4294967295 (show L < Kec.W from hL) (by decide)).trans (congrArg (fun n : Nat => Value.int .u64 (n : Int)) (show L &&& 4294967295 = u0 from (Nat.and_two_pow_sub_one_eq_mod L 32).trans hu0e))) (by kernel_rfl)) <| pkq (uN u0) <| eqr_ [0, 1, 2, 3] <| pkq (uN U) ?_
  refine pkq (uN y1) <| ppq (uN (U / y1)) (exec_quoU 40 40 (.tmp 59) (.tmp 60) (by kernel_rfl) U y1 (by kernel_rfl) (by kernel_rfl) hy1p (by omega)) <| pkq (uN (U / y1)) <| eqr_ [0, 1, 2, 3, 4, 5] <| pkq (uN U) <| pkq (uN (U / y1)) <| pkq (uN y1) <| ppq (uN (U / y1 * y1)) (exec_cast (congrArg (Value.int .u64) (wrapU (U / y1 * y1) (by have := Nat.div_mul_le_self U y1; omega))) (by kernel_rfl)) <| ppq (uN (U - U / y1 * y1)) (exec_cast (congrArg (Value.int .u64) (wrap_sub U (U / y1 * y1) (Nat.div_mul_le_self U y1) (by omega))) (by kernel_rfl)) <| pkq (uN (U - U / y1 * y1)) <| eq_ <| bl_ 0 ?_
  refine sy_loop (qc53_2 262136) (fun a V => ∃ (qA : Nat) (rA : Nat) (u67 u68 u69 u70 u71 u72 u73 u74 u75 u76 u77 u78 u79 u80 u81 u82 u83 u84 u85 : Value), (a = ⟨#[uN hi, uN lo, uN Y, ud, ud, ud, .int .u64 0, .int .u64 0, uN s, uN y1, uN y0, uN U, uN L, uN u1, uN u0, uN qA, uN rA, ud, ud, uN y, .bool false, ud, uN y, uN hi, .bool false, ud, uN hi, .bool false, ud, ud, ud, ud, ud, ud, uN y, iN s, uN s, uN y, uN s, uN Y, uN Y, uN y1, uN Y, uN y0, uN hi, uN s, uN ((hi <<< s) % Kec.W), uN lo, uN s, uN (64 - s), uN (lo >>> (64 - s)), uN U, uN lo, uN s, uN L, uN L, uN u1, uN L, uN u0, uN U, uN y1, uN (U / y1), uN U, uN (U / y1), uN y1, uN (U / y1 * y1), uN (U - U / y1 * y1), u67, u68, u69, u70, u71, u72, u73, u74, u75, u76, u77, u78, u79, u80, u81, u82, u83, u84, u85, ud, ud, ud, ud, ud, ud, ud, ud, ud, ud, ud, ud, ud, ud, ud, ud, ud, ud, ud, ud, ud, ud, ud, ud, ud, ud, ud, ud, ud, ud, ud, ud, ud, ud, ud, ud, ud, ud, ud, ud, ud, ud, ud, ud, ud, ud, ud, ud, ud], []⟩) ∧ (Dig U Y y1 u1 qA rA) ∧ (qA < 18446744073709551616) ∧ (rA < 4294967296) ∧ (Keeps Nob w V)) (fun a _ => (intOf (a.tmps.getD 15 undef)).toNat) (by kernel_rfl) ?_ ?_
  · exact ⟨U / y1, U - U / y1 * y1, undef, undef, undef, undef, undef, undef, undef, undef, undef, undef, undef, undef, undef, undef, undef, undef, undef, undef, undef, by kernel_rfl, dig_init hYs hy0 hy1p hu1 hUY, by have := Nat.div_le_self U y1; omega, rem_small hy1p hy1l, K0⟩
  · rintro a V1 ⟨qA, rA, u67, u68, u69, u70, u71, u72, u73, u74, u75, u76, u77, u78, u79, u80, u81, u82, u83, u84, u85, rfl, hd, hql, hr, K2⟩
    rcases dig_cases qA rA y0 y1 u1 with ⟨hq, hr2⟩ | ⟨hq, hr2⟩ | ⟨hq, hc, hr2⟩ | ⟨hq, hc, hr2⟩ | ⟨hq, hc⟩
    · obtain ⟨qp, hdn⟩ := dig_step hYs hy0 hy1p hu1 hUY hd (.inl hq)
      refine q_ <| qr_ [0, 1, 2, 3, 4, 5, 6, 7, 8, 9, 10, 11] <| pkq (uN qA) <| ppq (.bool true) (dct ((((qA : Nat) : Int)) ≥ ((4294967296) : Int)) (by omega)) <| pkq (.bool true) <| pnq <| pnq <| pnq <| pnq <| pnq <| pnq <| pnq <| pnq <| pkq (.bool true) ?_
      refine ey_ <| s_ <| then_n <| bl_ 1 <| qr_ [0, 1, 2] <| pkq (uN qA) <| ppq (uN (qA - 1)) (exec_cast (congrArg (Value.int .u64) (wrap_sub qA 1 qp (by omega))) (by kernel_rfl)) <| pkq (uN (qA - 1)) <| eqr_ [0, 1, 2, 3] <| pkq (uN rA) <| pkq (uN y1) <| ppq (uN (rA + y1)) (exec_cast (congrArg (Value.int .u64) (wrapU (rA + y1) (by omega))) (by kernel_rfl)) <| pkq (uN (rA + y1)) <| eqr_ [0, 1] ?_
      refine pkq (uN (rA + y1)) <| ppq (.bool false) (dcf ((((rA + y1 : Nat) : Int)) ≥ ((4294967296) : Int)) (by omega)) <| en_ <| s_ <| blk_n <| then_n ?_
      refine ⟨⟨qA - 1, rA + y1, (uN qA), (.bool true), (.bool true), undef, undef, undef, undef, undef, undef, undef, undef, (.bool true), (uN qA), (uN (qA - 1)), (uN rA), (uN y1), (uN (rA + y1)), (uN (rA + y1)), (.bool false), by kernel_rfl, hdn, by omega, by omega, K2⟩, ?_⟩
      exact lt_meas (x := qA - 1) (y := qA) (by kernel_rfl) (by kernel_rfl) (by omega)
    · obtain ⟨qp, hdn⟩ := dig_step hYs hy0 hy1p hu1 hUY hd (.inl hq)
      have hxA : qA - 1 = (U * 4294967296 + u1) / Y := dig_done hYs hy0 hy1p hu1 hUY hdn (.inr hr2)
      refine q_ <| qr_ [0, 1, 2, 3, 4, 5, 6, 7, 8, 9, 10, 11] <| pkq (uN qA) <| ppq (.bool true) (dct ((((qA : Nat) : Int)) ≥ ((4294967296) : Int)) (by omega)) <| pkq (.bool true) <| pnq <| pnq <| pnq <| pnq <| pnq <| pnq <| pnq <| pnq <| pkq (.bool true) ?_
      refine ey_ <| s_ <| then_n <| bl_ 1 <| qr_ [0, 1, 2] <| pkq (uN qA) <| ppq (uN (qA - 1)) (exec_cast (congrArg (Value.int .u64) (wrap_sub qA 1 qp (by omega))) (by kernel_rfl)) <| pkq (uN (qA - 1)) <| eqr_ [0, 1, 2, 3] <| pkq (uN rA) <| pkq (uN y1) <| ppq (uN (rA + y1)) (exec_cast (congrArg (Value.int .u64) (wrapU (rA + y1) (by omega))) (by kernel_rfl)) <| pkq (uN (rA + y1)) <| eqr_ [0, 1] ?_
      refine pkq (uN (rA + y1)) <| ppq (.bool true) (dct ((((rA + y1 : Nat) : Int)) ≥ ((4294967296) : Int)) (by omega)) <| ey_ <| sy_exit 0 (by kernel_rfl) <| blk_p (by decide) <| then_e <| blk_e <| tqr_ [0, 1, 2, 3, 4, 5, 6, 7, 8] <| pkq (uN U) <| pkq (.int .u64 (IntKind.u64.wrap (((U : Nat) : Int) * 4294967296))) <| pkq (uN u1) <| pkq (.int .u64 (IntKind.u64.wrap (IntKind.u64.wrap (((U : Nat) : Int) * 4294967296) + ((u1 : Nat) : Int)))) <| pkq (uN (qA - 1)) <| pkq (uN Y) ?_
      refine pkq (.int .u64 (IntKind.u64.wrap (((qA - 1 : Nat) : Int) * ((Y : Nat) : Int)))) <| ppq (uN Vr) (exec_cast (congrArg (Value.int .u64) (((dig_rest hYs hy0 hy1p hu1 hUY hxA).resolve_right (by omega)).trans (congrArg (fun n : Nat => (n : Int)) hVr))) (by kernel_rfl)) <| pkq (uN Vr) <| ps_end <| sy_a ⟨#[uN hi, uN lo, uN Y, ud, ud, ud, .int .u64 0, .int .u64 0, uN s, uN y1, uN y0, uN U, uN L, uN u1, uN u0, uN (qA - 1), uN (rA + y1), uN Vr, ud, uN y, .bool false, ud, uN y, uN hi, .bool false, ud, uN hi, .bool false, ud, ud, ud, ud, ud, ud, uN y, iN s, uN s, uN y, uN s, uN Y, uN Y, uN y1, uN Y, uN y0, uN hi, uN s, uN ((hi <<< s) % Kec.W), uN lo, uN s, uN (64 - s), uN (lo >>> (64 - s)), uN U, uN lo, uN s, uN L, uN L, uN u1, uN L, uN u0, uN U, uN y1, uN (U / y1), uN U, uN (U / y1), uN y1, uN (U / y1 * y1), uN (U - U / y1 * y1), uN qA, .bool true, .bool true, ud, ud, ud, ud, ud, ud, ud, ud, .bool true, uN qA, uN (qA - 1), uN rA, uN y1, uN (rA + y1), uN (rA + y1), .bool true, uN U, .int .u64 (IntKind.u64.wrap (((U : Nat) : Int) * 4294967296)), uN u1, .int .u64 (IntKind.u64.wrap (IntKind.u64.wrap (((U : Nat) : Int) * 4294967296) + ((u1 : Nat) : Int))), uN (qA - 1), uN Y, .int .u64 (IntKind.u64.wrap (((qA - 1 : Nat) : Int) * ((Y : Nat) : Int))), uN Vr, ud, ud, ud, ud, ud, ud, ud, ud, ud, ud, ud, ud, ud, ud, ud, ud, ud, ud, ud, ud, ud, ud, ud, ud, ud, ud, ud, ud, ud, ud, ud, ud, ud, ud, ud, ud, ud, ud, ud, ud, ud], []⟩ <| tqr_ [0, 1, 2, 3] <| pkq (uN Vr) <| pkq (uN y1) <| ppq (uN (Vr / y1)) (exec_quoU 40 40 (.tmp 94) (.tmp 95) (by kernel_rfl) Vr y1 (by kernel_rfl) (by kernel_rfl) hy1p (by omega)) <| pkq (uN (Vr / y1)) <| eqr_ [0, 1, 2, 3, 4, 5] <| pkq (uN Vr) <| pkq (uN (Vr / y1)) <| pkq (uN y1) ?_
      refine ppq (uN (Vr / y1 * y1)) (exec_cast (congrArg (Value.int .u64) (wrapU (Vr / y1 * y1) (by have := Nat.div_mul_le_self Vr y1; omega))) (by kernel_rfl)) <| ppq (uN (Vr - Vr / y1 * y1)) (exec_cast (congrArg (Value.int .u64) (wrap_sub Vr (Vr / y1 * y1) (Nat.div_mul_le_self Vr y1) (by omega))) (by kernel_rfl)) <| pkq (uN (Vr - Vr / y1 * y1)) <| eq_ <| bl_ 2 ?_
      refine sy_loop (qc53_2 4194296) (fun a V => ∃ (qB : Nat) (rB : Nat) (u102 u103 u104 u105 u106 u107 u108 u109 u110 u111 u112 u113 u114 u115 u116 u117 u118 u119 u120 : Value), (a = ⟨#[uN hi, uN lo, uN Y, ud, ud, ud, .int .u64 0, .int .u64 0, uN s, uN y1, uN y0, uN U, uN L, uN u1, uN u0, uN (qA - 1), uN rB, uN Vr, uN qB, uN y, .bool false, ud, uN y, uN hi, .bool false, ud, uN hi, .bool false, ud, ud, ud, ud, ud, ud, uN y, iN s, uN s, uN y, uN s, uN Y, uN Y, uN y1, uN Y, uN y0, uN hi, uN s, uN ((hi <<< s) % Kec.W), uN lo, uN s, uN (64 - s), uN (lo >>> (64 - s)), uN U, uN lo, uN s, uN L, uN L, uN u1, uN L, uN u0, uN U, uN y1, uN (U / y1), uN U, uN (U / y1), uN y1, uN (U / y1 * y1), uN (U - U / y1 * y1), uN qA, .bool true, .bool true, ud, ud, ud, ud, ud, ud, ud, ud, .bool true, uN qA, uN (qA - 1), uN rA, uN y1, uN (rA + y1), uN (rA + y1), .bool true, uN U, .int .u64 (IntKind.u64.wrap (((U : Nat) : Int) * 4294967296)), uN u1, .int .u64 (IntKind.u64.wrap (IntKind.u64.wrap (((U : Nat) : Int) * 4294967296) + ((u1 : Nat) : Int))), uN (qA - 1), uN Y, .int .u64 (IntKind.u64.wrap (((qA - 1 : Nat) : Int) * ((Y : Nat) : Int))), uN Vr, uN Vr, uN y1, uN (Vr / y1), uN Vr, uN (Vr / y1), uN y1, uN (Vr / y1 * y1), uN (Vr - Vr / y1 * y1), u102, u103, u104, u105, u106, u107, u108, u109, u110, u111, u112, u113, u114, u115, u116, u117, u118, u119, u120, ud, ud, ud, ud, ud, ud, ud, ud, ud, ud, ud, ud, ud, ud], []⟩) ∧ (Dig Vr Y y1 u0 qB rB) ∧ (qB < 18446744073709551616) ∧ (rB < 4294967296) ∧ (Keeps Nob w V)) (fun a _ => (intOf (a.tmps.getD 18 undef)).toNat) (by kernel_rfl) ?_ ?_
      · exact ⟨Vr / y1, Vr - Vr / y1 * y1, undef, undef, undef, undef, undef, undef, undef, undef, undef, undef, undef, undef, undef, undef, undef, undef, undef, undef, undef, by kernel_rfl, dig_init hYs hy0 hy1p hu0 hVY, by have := Nat.div_le_self Vr y1; omega, rem_small hy1p hy1l, K2⟩
      · rintro a V3 ⟨qB, rB, u102, u103, u104, u105, u106, u107, u108, u109, u110, u111, u112, u113, u114, u115, u116, u117, u118, u119, u120, rfl, hd, hql, hr, K4⟩
        rcases dig_cases qB rB y0 y1 u0 with ⟨hq, hr2⟩ | ⟨hq, hr2⟩ | ⟨hq, hc, hr2⟩ | ⟨hq, hc, hr2⟩ | ⟨hq, hc⟩
        · obtain ⟨qp, hdn⟩ := dig_step hYs hy0 hy1p hu0 hVY hd (.inl hq)
          refine q_ <| qr_ [0, 1, 2, 3, 4, 5, 6, 7, 8, 9, 10, 11] <| pkq (uN qB) <| ppq (.bool true) (dct ((((qB : Nat) : Int)) ≥ ((4294967296) : Int)) (by omega)) <| pkq (.bool true) <| pnq <| pnq <| pnq <| pnq <| pnq <| pnq <| pnq <| pnq <| pkq (.bool true) ?_
          refine ey_ <| s_ <| then_n <| bl_ 3 <| qr_ [0, 1, 2] <| pkq (uN qB) <| ppq (uN (qB - 1)) (exec_cast (congrArg (Value.int .u64) (wrap_sub qB 1 qp (by omega))) (by kernel_rfl)) <| pkq (uN (qB - 1)) <| eqr_ [0, 1, 2, 3] <| pkq (uN rB) <| pkq (uN y1) <| ppq (uN (rB + y1)) (exec_cast (congrArg (Value.int .u64) (wrapU (rB + y1) (by omega))) (by kernel_rfl)) <| pkq (uN (rB + y1)) <| eqr_ [0, 1] ?_
          refine pkq (uN (rB + y1)) <| ppq (.bool false) (dcf ((((rB + y1 : Nat) : Int)) ≥ ((4294967296) : Int)) (by omega)) <| en_ <| s_ <| blk_n <| then_n ?_
          refine ⟨⟨qB - 1, rB + y1, (uN qB), (.bool true), (.bool true), undef, undef, undef, undef, undef, undef, undef, undef, (.bool true), (uN qB), (uN (qB - 1)), (uN rB), (uN y1), (uN (rB + y1)), (uN (rB + y1)), (.bool false), by kernel_rfl, hdn, by omega, by omega, K4⟩, ?_⟩
          exact lt_meas (x := qB - 1) (y := qB) (by kernel_rfl) (by kernel_rfl) (by omega)
        · obtain ⟨qp, hdn⟩ := dig_step hYs hy0 hy1p hu0 hVY hd (.inl hq)
          have hxB : qB - 1 = (Vr * 4294967296 + u0) / Y := dig_done hYs hy0 hy1p hu0 hVY hdn (.inr hr2)
          refine q_ <| qr_ [0, 1, 2, 3, 4, 5, 6, 7, 8, 9, 10, 11] <| pkq (uN qB) <| ppq (.bool true) (dct ((((qB : Nat) : Int)) ≥ ((4294967296) : Int)) (by omega)) <| pkq (.bool true) <| pnq <| pnq <| pnq <| pnq <| pnq <| pnq <| pnq <| pnq <| pkq (.bool true) ?_
          refine ey_ <| s_ <| then_n <| bl_ 3 <| qr_ [0, 1, 2] <| pkq (uN qB) <| ppq (uN (qB - 1)) (exec_cast (congrArg (Value.int .u64) (wrap_sub qB 1 qp (by omega))) (by kernel_rfl)) <| pkq (uN (qB - 1)) <| eqr_ [0, 1, 2, 3] <| pkq (uN rB) <| pkq (uN y1) <| ppq (uN (rB + y1)) (exec_cast (congrArg (Value.int .u64) (wrapU (rB + y1) (by omega))) (by kernel_rfl)) <| pkq (uN (rB + y1)) <| eqr_ [0, 1] ?_
          refine pkq (uN (rB + y1)) <| ppq (.bool true) (dct ((((rB + y1 : Nat) : Int)) ≥ ((4294967296) : Int)) (by omega)) <| ey_ <| sy_exit 2 (by kernel_rfl) <| blk_p (by decide) <| then_e <| blk_e <| tqr_ [0, 1, 2, 3, 4, 5, 6, 7, 8, 9, 10, 11, 12, 13, 14, 15] <| pkq (uN (qA - 1)) <| ppq (uN ((qA - 1) * 4294967296)) (exec_cast (congrArg (Value.int .u64) (wrapU ((qA - 1) * 4294967296) (by have := dig_lt hYs hy0 hy1p hu1 hUY; rw [← hxA] at this; omega))) (by kernel_rfl)) <| pkq (uN (qB - 1)) <| ppq (uN ((hi * 18446744073709551616 + lo) / y)) (exec_cast (congrArg (Value.int .u64) ((wrapU ((qA - 1) * 4294967296 + (qB - 1)) (by have g1 := dig_lt hYs hy0 hy1p hu1 hUY; have g2 := dig_lt hYs hy0 hy1p hu0 hVY; rw [← hxA] at g1; rw [← hxB] at g2; omega)).trans (congrArg (fun n : Nat => (n : Int)) (div_end hy1 hYe hsum hLs hxA hVr hxB)))) (by kernel_rfl)) <| pkq (uN Vr) <| pkq (.int .u64 (IntKind.u64.wrap (((Vr : Nat) : Int) * 4294967296))) ?_
          refine pkq (uN u0) <| pkq (.int .u64 (IntKind.u64.wrap (IntKind.u64.wrap (((Vr : Nat) : Int) * 4294967296) + ((u0 : Nat) : Int)))) <| pkq (uN (qB - 1)) <| pkq (uN Y) <| pkq (.int .u64 (IntKind.u64.wrap (((qB - 1 : Nat) : Int) * ((Y : Nat) : Int)))) <| ppq (uN ((Vr * 4294967296 + u0) % Y)) (exec_cast (congrArg (Value.int .u64) ((dig_rest hYs hy0 hy1p hu0 hVY hxB).resolve_right (by omega))) (by kernel_rfl)) <| pkq (uN s) <| ppq (uN (((Vr * 4294967296 + u0) % Y) >>> s)) (exec_binop .shr 40 169 (.tmp 132) (.tmp 133) (by kernel_rfl) (uN (((Vr * 4294967296 + u0) % Y))) (uN s) _ (by kernel_rfl) (by kernel_rfl) (by kernel_rfl) (run_shrU _ _ ((Vr * 4294967296 + u0) % Y) s (by omega))) <| pkq (uN ((hi * 18446744073709551616 + lo) / y)) <| pkq (uN (((Vr * 4294967296 + u0) % Y) >>> s)) <| ps_end <| sy_a ⟨#[uN hi, uN lo, uN Y, ud, ud, ud, uN ((hi * 18446744073709551616 + lo) / y), uN (((Vr * 4294967296 + u0) % Y) >>> s), uN s, uN y1, uN y0, uN U, uN L, uN u1, uN u0, uN (qA - 1), uN (rB + y1), uN Vr, uN (qB - 1), uN y, .bool false, ud, uN y, uN hi, .bool false, ud, uN hi, .bool false, ud, ud, ud, ud, ud, ud, uN y, iN s, uN s, uN y, uN s, uN Y, uN Y, uN y1, uN Y, uN y0, uN hi, uN s, uN ((hi <<< s) % Kec.W), uN lo, uN s, uN (64 - s), uN (lo >>> (64 - s)), uN U, uN lo, uN s, uN L, uN L, uN u1, uN L, uN u0, uN U, uN y1, uN (U / y1), uN U, uN (U / y1), uN y1, uN (U / y1 * y1), uN (U - U / y1 * y1), uN qA, .bool true, .bool true, ud, ud, ud, ud, ud, ud, ud, ud, .bool true, uN qA, uN (qA - 1), uN rA, uN y1, uN (rA + y1), uN (rA + y1), .bool true, uN U, .int .u64 (IntKind.u64.wrap (((U : Nat) : Int) * 4294967296)), uN u1, .int .u64 (IntKind.u64.wrap (IntKind.u64.wrap (((U : Nat) : Int) * 4294967296) + ((u1 : Nat) : Int))), uN (qA - 1), uN Y, .int .u64 (IntKind.u64.wrap (((qA - 1 : Nat) : Int) * ((Y : Nat) : Int))), uN Vr, uN Vr, uN y1, uN (Vr / y1), uN Vr, uN (Vr / y1), uN y1, uN (Vr / y1 * y1), uN (Vr - Vr / y1 * y1), uN qB, .bool true, .bool true, ud, ud, ud, ud, ud, ud, ud, ud, .bool true, uN qB, uN (qB - 1), uN rB, uN y1, uN (rB + y1), uN (rB + y1), .bool true, uN (qA - 1), uN ((qA - 1) * 4294967296), uN (qB - 1), uN ((hi * 18446744073709551616 + lo) / y), uN Vr, .int .u64 (IntKind.u64.wrap (((Vr : Nat) : Int) * 4294967296)), uN u0, .int .u64 (IntKind.u64.wrap (IntKind.u64.wrap (((Vr : Nat) : Int) * 4294967296) + ((u0 : Nat) : Int))), uN (qB - 1), uN Y, .int .u64 (IntKind.u64.wrap (((qB - 1 : Nat) : Int) * ((Y : Nat) : Int))), uN ((Vr * 4294967296 + u0) % Y), uN s, uN (((Vr * 4294967296 + u0) % Y) >>> s)], []⟩ <| then_n <| u_ ?_
          refine so_ (.tuple #[.int .u64 (((hi * 18446744073709551616 + lo) / y : Nat) : Int), .int .u64 ((((Vr * 4294967296 + u0) % Y) >>> s : Nat) : Int)]) ?_
          exact ⟨_, rfl, K4⟩
        · obtain ⟨qp, hdn⟩ := dig_step hYs hy0 hy1p hu0 hVY hd (.inr hc)
          refine q_ <| qr_ [0, 1, 2, 3, 4, 5, 6, 7, 8, 9, 10, 11] <| pkq (uN qB) <| ppq (.bool false) (dcf ((((qB : Nat) : Int)) ≥ ((4294967296) : Int)) (by omega)) <| pkq (.bool false) <| pkq (uN qB) <| pkq (uN y0) <| ppq (uN (qB * y0)) (exec_cast (congrArg (Value.int .u64) (wrapU (qB * y0) (mul_small hq hy0))) (by kernel_rfl)) <| pkq (uN rB) <| ppq (uN (4294967296 * rB)) (exec_cast (congrArg (Value.int .u64) (wrapU (4294967296 * rB) (by omega))) (by kernel_rfl)) <| pkq (uN u0) <| ppq (uN (4294967296 * rB + u0)) (exec_cast (congrArg (Value.int .u64) (wrapU (4294967296 * rB + u0) (by omega))) (by kernel_rfl)) <| ppq (.bool true) (dct ((((qB * y0 : Nat) : Int)) > (((4294967296 * rB + u0 : Nat) : Int))) (by omega)) <| pkq (.bool true) ?_
          refine ey_ <| s_ <| then_n <| bl_ 3 <| qr_ [0, 1, 2] <| pkq (uN qB) <| ppq (uN (qB - 1)) (exec_cast (congrArg (Value.int .u64) (wrap_sub qB 1 qp (by omega))) (by kernel_rfl)) <| pkq (uN (qB - 1)) <| eqr_ [0, 1, 2, 3] <| pkq (uN rB) <| pkq (uN y1) <| ppq (uN (rB + y1)) (exec_cast (congrArg (Value.int .u64) (wrapU (rB + y1) (by omega))) (by kernel_rfl)) <| pkq (uN (rB + y1)) <| eqr_ [0, 1] ?_
          refine pkq (uN (rB + y1)) <| ppq (.bool false) (dcf ((((rB + y1 : Nat) : Int)) ≥ ((4294967296) : Int)) (by omega)) <| en_ <| s_ <| blk_n <| then_n ?_
          refine ⟨⟨qB - 1, rB + y1, (uN qB), (.bool false), (.bool false), (uN qB), (uN y0), (uN (qB * y0)), (uN rB), (uN (4294967296 * rB)), (uN u0), (uN (4294967296 * rB + u0)), (.bool true), (.bool true), (uN qB), (uN (qB - 1)), (uN rB), (uN y1), (uN (rB + y1)), (uN (rB + y1)), (.bool false), by kernel_rfl, hdn, by omega, by omega, K4⟩, ?_⟩
          exact lt_meas (x := qB - 1) (y := qB) (by kernel_rfl) (by kernel_rfl) (by omega)
        · obtain ⟨qp, hdn⟩ := dig_step hYs hy0 hy1p hu0 hVY hd (.inr hc)
          have hxB : qB - 1 = (Vr * 4294967296 + u0) / Y := dig_done hYs hy0 hy1p hu0 hVY hdn (.inr hr2)
          refine q_ <| qr_ [0, 1, 2, 3, 4, 5, 6, 7, 8, 9, 10, 11] <| pkq (uN qB) <| ppq (.bool false) (dcf ((((qB : Nat) : Int)) ≥ ((4294967296) : Int)) (by omega)) <| pkq (.bool false) <| pkq (uN qB) <| pkq (uN y0) <| ppq (uN (qB * y0)) (exec_cast (congrArg (Value.int .u64) (wrapU (qB * y0) (mul_small hq hy0))) (by kernel_rfl)) <| pkq (uN rB) <| ppq (uN (4294967296 * rB)) (exec_cast (congrArg (Value.int .u64) (wrapU (4294967296 * rB) (by omega))) (by kernel_rfl)) <| pkq (uN u0) <| ppq (uN (4294967296 * rB + u0)) (exec_cast (congrArg (Value.int .u64) (wrapU (4294967296 * rB + u0) (by omega))) (by kernel_rfl)) <| ppq (.bool true) (dct ((((qB * y0 : Nat) : Int)) > (((4294967296 * rB + u0 : Nat) : Int))) (by omega)) <| pkq (.bool true) ?_
          refine ey_ <| s_ <| then_n <| bl_ 3 <| qr_ [0, 1, 2] <| pkq (uN qB) <| ppq (uN (qB - 1)) (exec_cast (congrArg (Value.int .u64) (wrap_sub qB 1 qp (by omega))) (by kernel_rfl)) <| pkq (uN (qB - 1)) <| eqr_ [0, 1, 2, 3] <| pkq (uN rB) <| pkq (uN y1) <| ppq (uN (rB + y1)) (exec_cast (congrArg (Value.int .u64) (wrapU (rB + y1) (by omega))) (by kernel_rfl)) <| pkq (uN (rB + y1)) <| eqr_ [0, 1] ?_
          refine pkq (uN (rB + y1)) <| ppq (.bool true) (dct ((((rB + y1 : Nat) : Int)) ≥ ((4294967296) : Int)) (by omega)) <| ey_ <| sy_exit 2 (by kernel_rfl) <| blk_p (by decide) <| then_e <| blk_e <| tqr_ [0, 1, 2, 3, 4, 5, 6, 7, 8, 9, 10, 11, 12, 13, 14, 15] <| pkq (uN (qA - 1)) <| ppq (uN ((qA - 1) * 4294967296)) (exec_cast (congrArg (Value.int .u64) (wrapU ((qA - 1) * 4294967296) (by have := dig_lt hYs hy0 hy1p hu1 hUY; rw [← hxA] at this; omega))) (by kernel_rfl)) <| pkq (uN (qB - 1)) <| ppq (uN ((hi * 18446744073709551616 + lo) / y)) (exec_cast (congrArg (Value.int .u64) ((wrapU ((qA - 1) * 4294967296 + (qB - 1)) (by have g1 := dig_lt hYs hy0 hy1p hu1 hUY; have g2 := dig_lt hYs hy0 hy1p hu0 hVY; rw [← hxA] at g1; rw [← hxB] at g2; omega)).trans (congrArg (fun n : Nat => (n : Int)) (div_end hy1 hYe hsum hLs hxA hVr hxB)))) (by kernel_rfl)) <| pkq (uN Vr) <| pkq (.int .u64 (IntKind.u64.wrap (((Vr : Nat) : Int) * 4294967296))) ?_
          refine pkq (uN u0) <| pkq (.int .u64 (IntKind.u64.wrap (IntKind.u64.wrap (((Vr : Nat) : Int) * 4294967296) + ((u0 : Nat) : Int)))) <| pkq (uN (qB - 1)) <| pkq (uN Y) <| pkq (.int .u64 (IntKind.u64.wrap (((qB - 1 : Nat) : Int) * ((Y : Nat) : Int)))) <| ppq (uN ((Vr * 4294967296 + u0) % Y)) (exec_cast (congrArg (Value.int .u64) ((dig_rest hYs hy0 hy1p hu0 hVY hxB).resolve_right (by omega))) (by kernel_rfl)) <| pkq (uN s) <| ppq (uN (((Vr * 4294967296 + u0) % Y) >>> s)) (exec_binop .shr 40 169 (.tmp 132) (.tmp 133) (by kernel_rfl) (uN (((Vr * 4294967296 + u0) % Y))) (uN s) _ (by kernel_rfl) (by kernel_rfl) (by kernel_rfl) (run_shrU _ _ ((Vr * 4294967296 + u0) % Y) s (by omega))) <| pkq (uN ((hi * 18446744073709551616 + lo) / y)) <| pkq (uN (((Vr * 4294967296 + u0) % Y) >>> s)) <| ps_end <| sy_a ⟨#[uN hi, uN lo, uN Y, ud, ud, ud, uN ((hi * 18446744073709551616 + lo) / y), uN (((Vr * 4294967296 + u0) % Y) >>> s), uN s, uN y1, uN y0, uN U, uN L, uN u1, uN u0, uN (qA - 1), uN (rB + y1), uN Vr, uN (qB - 1), uN y, .bool false, ud, uN y, uN hi, .bool false, ud, uN hi, .bool false, ud, ud, ud, ud, ud, ud, uN y, iN s, uN s, uN y, uN s, uN Y, uN Y, uN y1, uN Y, uN y0, uN hi, uN s, uN ((hi <<< s) % Kec.W), uN lo, uN s, uN (64 - s), uN (lo >>> (64 - s)), uN U, uN lo, uN s, uN L, uN L, uN u1, uN L, uN u0, uN U, uN y1, uN (U / y1), uN U, uN (U / y1), uN y1, uN (U / y1 * y1), uN (U - U / y1 * y1), uN qA, .bool true, .bool true, ud, ud, ud, ud, ud, ud, ud, ud, .bool true, uN qA, uN (qA - 1), uN rA, uN y1, uN (rA + y1), uN (rA + y1), .bool true, uN U, .int .u64 (IntKind.u64.wrap (((U : Nat) : Int) * 4294967296)), uN u1, .int .u64 (IntKind.u64.wrap (IntKind.u64.wrap (((U : Nat) : Int) * 4294967296) + ((u1 : Nat) : Int))), uN (qA - 1), uN Y, .int .u64 (IntKind.u64.wrap (((qA - 1 : Nat) : Int) * ((Y : Nat) : Int))), uN Vr, uN Vr, uN y1, uN (Vr / y1), uN Vr, uN (Vr / y1), uN y1, uN (Vr / y1 * y1), uN (Vr - Vr / y1 * y1), uN qB, .bool false, .bool false, uN qB, uN y0, uN (qB * y0), uN rB, uN (4294967296 * rB), uN u0, uN (4294967296 * rB + u0), .bool true, .bool true, uN qB, uN (qB - 1), uN rB, uN y1, uN (rB + y1), uN (rB + y1), .bool true, uN (qA - 1), uN ((qA - 1) * 4294967296), uN (qB - 1), uN ((hi * 18446744073709551616 + lo) / y), uN Vr, .int .u64 (IntKind.u64.wrap (((Vr : Nat) : Int) * 4294967296)), uN u0, .int .u64 (IntKind.u64.wrap (IntKind.u64.wrap (((Vr : Nat) : Int) * 4294967296) + ((u0 : Nat) : Int))), uN (qB - 1), uN Y, .int .u64 (IntKind.u64.wrap (((qB - 1 : Nat) : Int) * ((Y : Nat) : Int))), uN ((Vr * 4294967296 + u0) % Y), uN s, uN (((Vr * 4294967296 + u0) % Y) >>> s)], []⟩ <| then_n <| u_ ?_
          refine so_ (.tuple #[.int .u64 (((hi * 18446744073709551616 + lo) / y : Nat) : Int), .int .u64 ((((Vr * 4294967296 + u0) % Y) >>> s : Nat) : Int)]) ?_
          exact ⟨_, rfl, K4⟩
        · have hxB : qB = (Vr * 4294967296 + u0) / Y := dig_done hYs hy0 hy1p hu0 hVY hd (.inl ⟨hq, hc⟩)
          refine q_ <| qr_ [0, 1, 2, 3, 4, 5, 6, 7, 8, 9, 10, 11] <| pkq (uN qB) <| ppq (.bool false) (dcf ((((qB : Nat) : Int)) ≥ ((4294967296) : Int)) (by omega)) <| pkq (.bool false) <| pkq (uN qB) <| pkq (uN y0) <| ppq (uN (qB * y0)) (exec_cast (congrArg (Value.int .u64) (wrapU (qB * y0) (mul_small hq hy0))) (by kernel_rfl)) <| pkq (uN rB) <| ppq (uN (4294967296 * rB)) (exec_cast (congrArg (Value.int .u64) (wrapU (4294967296 * rB) (by omega))) (by kernel_rfl)) <| pkq (uN u0) <| ppq (uN (4294967296 * rB + u0)) (exec_cast (congrArg (Value.int .u64) (wrapU (4294967296 * rB + u0) (by omega))) (by kernel_rfl)) <| ppq (.bool false) (dcf ((((qB * y0 : Nat) : Int)) > (((4294967296 * rB + u0 : Nat) : Int))) (by omega)) <| pkq (.bool false) ?_
          refine en_ <| sy_exit 2 (by kernel_rfl) <| then_e <| then_e <| blk_e <| tqr_ [0, 1, 2, 3, 4, 5, 6, 7, 8, 9, 10, 11, 12, 13, 14, 15] <| pkq (uN (qA - 1)) <| ppq (uN ((qA - 1) * 4294967296)) (exec_cast (congrArg (Value.int .u64) (wrapU ((qA - 1) * 4294967296) (by have := dig_lt hYs hy0 hy1p hu1 hUY; rw [← hxA] at this; omega))) (by kernel_rfl)) <| pkq (uN qB) <| ppq (uN ((hi * 18446744073709551616 + lo) / y)) (exec_cast (congrArg (Value.int .u64) ((wrapU ((qA - 1) * 4294967296 + qB) (by have g1 := dig_lt hYs hy0 hy1p hu1 hUY; have g2 := dig_lt hYs hy0 hy1p hu0 hVY; rw [← hxA] at g1; rw [← hxB] at g2; omega)).trans (congrArg (fun n : Nat => (n : Int)) (div_end hy1 hYe hsum hLs hxA hVr hxB)))) (by kernel_rfl)) <| pkq (uN Vr) <| pkq (.int .u64 (IntKind.u64.wrap (((Vr : Nat) : Int) * 4294967296))) <| pkq (uN u0) <| pkq (.int .u64 (IntKind.u64.wrap (IntKind.u64.wrap (((Vr : Nat) : Int) * 4294967296) + ((u0 : Nat) : Int)))) ?_
          refine pkq (uN qB) <| pkq (uN Y) <| pkq (.int .u64 (IntKind.u64.wrap (((qB : Nat) : Int) * ((Y : Nat) : Int)))) <| ppq (uN ((Vr * 4294967296 + u0) % Y)) (exec_cast (congrArg (Value.int .u64) ((dig_rest hYs hy0 hy1p hu0 hVY hxB).resolve_right (by omega))) (by kernel_rfl)) <| pkq (uN s) <| ppq (uN (((Vr * 4294967296 + u0) % Y) >>> s)) (exec_binop .shr 40 169 (.tmp 132) (.tmp 133) (by kernel_rfl) (uN (((Vr * 4294967296 + u0) % Y))) (uN s) _ (by kernel_rfl) (by kernel_rfl) (by kernel_rfl) (run_shrU _ _ ((Vr * 4294967296 + u0) % Y) s (by omega))) <| pkq (uN ((hi * 18446744073709551616 + lo) / y)) <| pkq (uN (((Vr * 4294967296 + u0) % Y) >>> s)) <| ps_end <| sy_a ⟨#[uN hi, uN lo, uN Y, ud, ud, ud, uN ((hi * 18446744073709551616 + lo) / y), uN (((Vr * 4294967296 + u0) % Y) >>> s), uN s, uN y1, uN y0, uN U, uN L, uN u1, uN u0, uN (qA - 1), uN rB, uN Vr, uN qB, uN y, .bool false, ud, uN y, uN hi, .bool false, ud, uN hi, .bool false, ud, ud, ud, ud, ud, ud, uN y, iN s, uN s, uN y, uN s, uN Y, uN Y, uN y1, uN Y, uN y0, uN hi, uN s, uN ((hi <<< s) % Kec.W), uN lo, uN s, uN (64 - s), uN (lo >>> (64 - s)), uN U, uN lo, uN s, uN L, uN L, uN u1, uN L, uN u0, uN U, uN y1, uN (U / y1), uN U, uN (U / y1), uN y1, uN (U / y1 * y1), uN (U - U / y1 * y1), uN qA, .bool true, .bool true, ud, ud, ud, ud, ud, ud, ud, ud, .bool true, uN qA, uN (qA - 1), uN rA, uN y1, uN (rA + y1), uN (rA + y1), .bool true, uN U, .int .u64 (IntKind.u64.wrap (((U : Nat) : Int) * 4294967296)), uN u1, .int .u64 (IntKind.u64.wrap (IntKind.u64.wrap (((U : Nat) : Int) * 4294967296) + ((u1 : Nat) : Int))), uN (qA - 1), uN Y, .int .u64 (IntKind.u64.wrap (((qA - 1 : Nat) : Int) * ((Y : Nat) : Int))), uN Vr, uN Vr, uN y1, uN (Vr / y1), uN Vr, uN (Vr / y1), uN y1, uN (Vr / y1 * y1), uN (Vr - Vr / y1 * y1), uN qB, .bool false, .bool false, uN qB, uN y0, uN (qB * y0), uN rB, uN (4294967296 * rB), uN u0, uN (4294967296 * rB + u0), .bool false, .bool false, u114, u115, u116, u117, u118, u119, u120, uN (qA - 1), uN ((qA - 1) * 4294967296), uN qB, uN ((hi * 18446744073709551616 + lo) / y), uN Vr, .int .u64 (IntKind.u64.wrap (((Vr : Nat) : Int) * 4294967296)), uN u0, .int .u64 (IntKind.u64.wrap (IntKind.u64.wrap (((Vr : Nat) : Int) * 4294967296) + ((u0 : Nat) : Int))), uN qB, uN Y, .int .u64 (IntKind.u64.wrap (((qB : Nat) : Int) * ((Y : Nat) : Int))), uN ((Vr * 4294967296 + u0) % Y), uN s, uN (((Vr * 4294967296 + u0) % Y) >>> s)], []⟩ <| then_n <| u_ <| so_ (.tuple #[.int .u64 (((hi * 18446744073709551616 + lo) / y : Nat) : Int), .int .u64 ((((Vr * 4294967296 + u0) % Y) >>> s : Nat) : Int)]) ?_
          exact ⟨_, rfl, K4⟩
    · obtain ⟨qp, hdn⟩ := dig_step hYs hy0 hy1p hu1 hUY hd (.inr hc)
      refine q_ <| qr_ [0, 1, 2, 3, 4, 5, 6, 7, 8, 9, 10, 11] <| pkq (uN qA) <| ppq (.bool false) (dcf ((((qA : Nat) : Int)) ≥ ((4294967296) : Int)) (by omega)) <| pkq (.bool false) <| pkq (uN qA) <| pkq (uN y0) <| ppq (uN (qA * y0)) (exec_cast (congrArg (Value.int .u64) (wrapU (qA * y0) (mul_small hq hy0))) (by kernel_rfl)) <| pkq (uN rA) <| ppq (uN (4294967296 * rA)) (exec_cast (congrArg (Value.int .u64) (wrapU (4294967296 * rA) (by omega))) (by kernel_rfl)) <| pkq (uN u1) <| ppq (uN (4294967296 * rA + u1)) (exec_cast (congrArg (Value.int .u64) (wrapU (4294967296 * rA + u1) (by omega))) (by kernel_rfl)) <| ppq (.bool true) (dct ((((qA * y0 : Nat) : Int)) > (((4294967296 * rA + u1 : Nat) : Int))) (by omega)) <| pkq (.bool true) ?_
      refine ey_ <| s_ <| then_n <| bl_ 1 <| qr_ [0, 1, 2] <| pkq (uN qA) <| ppq (uN (qA - 1)) (exec_cast (congrArg (Value.int .u64) (wrap_sub qA 1 qp (by omega))) (by kernel_rfl)) <| pkq (uN (qA - 1)) <| eqr_ [0, 1, 2, 3] <| pkq (uN rA) <| pkq (uN y1) <| ppq (uN (rA + y1)) (exec_cast (congrArg (Value.int .u64) (wrapU (rA + y1) (by omega))) (by kernel_rfl)) <| pkq (uN (rA + y1)) <| eqr_ [0, 1] ?_
      refine pkq (uN (rA + y1)) <| ppq (.bool false) (dcf ((((rA + y1 : Nat) : Int)) ≥ ((4294967296) : Int)) (by omega)) <| en_ <| s_ <| blk_n <| then_n ?_
      refine ⟨⟨qA - 1, rA + y1, (uN qA), (.bool false), (.bool false), (uN qA), (uN y0), (uN (qA * y0)), (uN rA), (uN (4294967296 * rA)), (uN u1), (uN (4294967296 * rA + u1)), (.bool true), (.bool true), (uN qA), (uN (qA - 1)), (uN rA), (uN y1), (uN (rA + y1)), (uN (rA + y1)), (.bool false), by kernel_rfl, hdn, by omega, by omega, K2⟩, ?_⟩
      exact lt_meas (x := qA - 1) (y := qA) (by kernel_rfl) (by kernel_rfl) (by omega)
    · obtain ⟨qp, hdn⟩ := dig_step hYs hy0 hy1p hu1 hUY hd (.inr hc)
      have hxA : qA - 1 = (U * 4294967296 + u1) / Y := dig_done hYs hy0 hy1p hu1 hUY hdn (.inr hr2)
      refine q_ <| qr_ [0, 1, 2, 3, 4, 5, 6, 7, 8, 9, 10, 11] <| pkq (uN qA) <| ppq (.bool false) (dcf ((((qA : Nat) : Int)) ≥ ((4294967296) : Int)) (by omega)) <| pkq (.bool false) <| pkq (uN qA) <| pkq (uN y0) <| ppq (uN (qA * y0)) (exec_cast (congrArg (Value.int .u64) (wrapU (qA * y0) (mul_small hq hy0))) (by kernel_rfl)) <| pkq (uN rA) <| ppq (uN (4294967296 * rA)) (exec_cast (congrArg (Value.int .u64) (wrapU (4294967296 * rA) (by omega))) (by kernel_rfl)) <| pkq (uN u1) <| ppq (uN (4294967296 * rA + u1)) (exec_cast (congrArg (Value.int .u64) (wrapU (4294967296 * rA + u1) (by omega))) (by kernel_rfl)) <| ppq (.bool true) (dct ((((qA * y0 : Nat) : Int)) > (((4294967296 * rA + u1 : Nat) : Int))) (by omega)) <| pkq (.bool true) ?_
      refine ey_ <| s_ <| then_n <| bl_ 1 <| qr_ [0, 1, 2] <| pkq (uN qA) <| ppq (uN (qA - 1)) (exec_cast (congrArg (Value.int .u64) (wrap_sub qA 1 qp (by omega))) (by kernel_rfl)) <| pkq (uN (qA - 1)) <| eqr_ [0, 1, 2, 3] <| pkq (uN rA) <| pkq (uN y1) <| ppq (uN (rA + y1)) (exec_cast (congrArg (Value.int .u64) (wrapU (rA + y1) (by omega))) (by kernel_rfl)) <| pkq (uN (rA + y1)) <| eqr_ [0, 1] ?_
      refine pkq (uN (rA + y1)) <| ppq (.bool true) (dct ((((rA + y1 : Nat) : Int)) ≥ ((4294967296) : Int)) (by omega)) <| ey_ <| sy_exit 0 (by kernel_rfl) <| blk_p (by decide) <| then_e <| blk_e <| tqr_ [0, 1, 2, 3, 4, 5, 6, 7, 8] <| pkq (uN U) <| pkq (.int .u64 (IntKind.u64.wrap (((U : Nat) : Int) * 4294967296))) <| pkq (uN u1) <| pkq (.int .u64 (IntKind.u64.wrap (IntKind.u64.wrap (((U : Nat) : Int) * 4294967296) + ((u1 : Nat) : Int)))) <| pkq (uN (qA - 1)) <| pkq (uN Y) ?_
      refine pkq (.int .u64 (IntKind.u64.wrap (((qA - 1 : Nat) : Int) * ((Y : Nat) : Int)))) <| ppq (uN Vr) (exec_cast (congrArg (Value.int .u64) (((dig_rest hYs hy0 hy1p hu1 hUY hxA).resolve_right (by omega)).trans (congrArg (fun n : Nat => (n : Int)) hVr))) (by kernel_rfl)) <| pkq (uN Vr) <| ps_end <| sy_a ⟨#[uN hi, uN lo, uN Y, ud, ud, ud, .int .u64 0, .int .u64 0, uN s, uN y1, uN y0, uN U, uN L, uN u1, uN u0, uN (qA - 1), uN (rA + y1), uN Vr, ud, uN y, .bool false, ud, uN y, uN hi, .bool false, ud, uN hi, .bool false, ud, ud, ud, ud, ud, ud, uN y, iN s, uN s, uN y, uN s, uN Y, uN Y, uN y1, uN Y, uN y0, uN hi, uN s, uN ((hi <<< s) % Kec.W), uN lo, uN s, uN (64 - s), uN (lo >>> (64 - s)), uN U, uN lo, uN s, uN L, uN L, uN u1, uN L, uN u0, uN U, uN y1, uN (U / y1), uN U, uN (U / y1), uN y1, uN (U / y1 * y1), uN (U - U / y1 * y1), uN qA, .bool false, .bool false, uN qA, uN y0, uN (qA * y0), uN rA, uN (4294967296 * rA), uN u1, uN (4294967296 * rA + u1), .bool true, .bool true, uN qA, uN (qA - 1), uN rA, uN y1, uN (rA + y1), uN (rA + y1), .bool true, uN U, .int .u64 (IntKind.u64.wrap (((U : Nat) : Int) * 4294967296)), uN u1, .int .u64 (IntKind.u64.wrap (IntKind.u64.wrap (((U : Nat) : Int) * 4294967296) + ((u1 : Nat) : Int))), uN (qA - 1), uN Y, .int .u64 (IntKind.u64.wrap (((qA - 1 : Nat) : Int) * ((Y : Nat) : Int))), uN Vr, ud, ud, ud, ud, ud, ud, ud, ud, ud, ud, ud, ud, ud, ud, ud, ud, ud, ud, ud, ud, ud, ud, ud, ud, ud, ud, ud, ud, ud, ud, ud, ud, ud, ud, ud, ud, ud, ud, ud, ud, ud], []⟩ <| tqr_ [0, 1, 2, 3] <| pkq (uN Vr) <| pkq (uN y1) <| ppq (uN (Vr / y1)) (exec_quoU 40 40 (.tmp 94) (.tmp 95) (by kernel_rfl) Vr y1 (by kernel_rfl) (by kernel_rfl) hy1p (by omega)) <| pkq (uN (Vr / y1)) <| eqr_ [0, 1, 2, 3, 4, 5] <| pkq (uN Vr) <| pkq (uN (Vr / y1)) <| pkq (uN y1) ?_
      refine ppq (uN (Vr / y1 * y1)) (exec_cast (congrArg (Value.int .u64) (wrapU (Vr / y1 * y1) (by have := Nat.div_mul_le_self Vr y1; omega))) (by kernel_rfl)) <| ppq (uN (Vr - Vr / y1 * y1)) (exec_cast (congrArg (Value.int .u64) (wrap_sub Vr (Vr / y1 * y1) (Nat.div_mul_le_self Vr y1) (by omega))) (by kernel_rfl)) <| pkq (uN (Vr - Vr / y1 * y1)) <| eq_ <| bl_ 2 ?_
      refine sy_loop (qc53_2 4194296) (fun a V => ∃ (qB : Nat) (rB : Nat) (u102 u103 u104 u105 u106 u107 u108 u109 u110 u111 u112 u113 u114 u115 u116 u117 u118 u119 u120 : Value), (a = ⟨#[uN hi, uN lo, uN Y, ud, ud, ud, .int .u64 0, .int .u64 0, uN s, uN y1, uN y0, uN U, uN L, uN u1, uN u0, uN (qA - 1), uN rB, uN Vr, uN qB, uN y, .bool false, ud, uN y, uN hi, .bool false, ud, uN hi, .bool false, ud, ud, ud, ud, ud, ud, uN y, iN s, uN s, uN y, uN s, uN Y, uN Y, uN y1, uN Y, uN y0, uN hi, uN s, uN ((hi <<< s) % Kec.W), uN lo, uN s, uN (64 - s), uN (lo >>> (64 - s)), uN U, uN lo, uN s, uN L, uN L, uN u1, uN L, uN u0, uN U, uN y1, uN (U / y1), uN U, uN (U / y1), uN y1, uN (U / y1 * y1), uN (U - U / y1 * y1), uN qA, .bool false, .bool false, uN qA, uN y0, uN (qA * y0), uN rA, uN (4294967296 * rA), uN u1, uN (4294967296 * rA + u1), .bool true, .bool true, uN qA, uN (qA - 1), uN rA, uN y1, uN (rA + y1), uN (rA + y1), .bool true, uN U, .int .u64 (IntKind.u64.wrap (((U : Nat) : Int) * 4294967296)), uN u1, .int .u64 (IntKind.u64.wrap (IntKind.u64.wrap (((U : Nat) : Int) * 4294967296) + ((u1 : Nat) : Int))), uN (qA - 1), uN Y, .int .u64 (IntKind.u64.wrap (((qA - 1 : Nat) : Int) * ((Y : Nat) : Int))), uN Vr, uN Vr, uN y1, uN (Vr / y1), uN Vr, uN (Vr / y1), uN y1, uN (Vr / y1 * y1), uN (Vr - Vr / y1 * y1), u102, u103, u104, u105, u106, u107, u108, u109, u110, u111, u112, u113, u114, u115, u116, u117, u118, u119, u120, ud, ud, ud, ud, ud, ud, ud, ud, ud, ud, ud, ud, ud, ud], []⟩) ∧ (Dig Vr Y y1 u0 qB rB) ∧ (qB < 18446744073709551616) ∧ (rB < 4294967296) ∧ (Keeps Nob w V)) (fun a _ => (intOf (a.tmps.getD 18 undef)).toNat) (by kernel_rfl) ?_ ?_
      · exact ⟨Vr / y1, Vr - Vr / y1 * y1, undef, undef, undef, undef, undef, undef, undef, undef, undef, undef, undef, undef, undef, undef, undef, undef, undef, undef, undef, by kernel_rfl, dig_init hYs hy0 hy1p hu0 hVY, by have := Nat.div_le_self Vr y1; omega, rem_small hy1p hy1l, K2⟩
      · rintro a V5 ⟨qB, rB, u102, u103, u104, u105, u106, u107, u108, u109, u110, u111, u112, u113, u114, u115, u116, u117, u118, u119, u120, rfl, hd, hql, hr, K6⟩
        rcases dig_cases qB rB y0 y1 u0 with ⟨hq, hr2⟩ | ⟨hq, hr2⟩ | ⟨hq, hc, hr2⟩ | ⟨hq, hc, hr2⟩ | ⟨hq, hc⟩
        · obtain ⟨qp, hdn⟩ := dig_step hYs hy0 hy1p hu0 hVY hd (.inl hq)
          refine q_ <| qr_ [0, 1, 2, 3, 4, 5, 6, 7, 8, 9, 10, 11] <| pkq (uN qB) <| ppq (.bool true) (dct ((((qB : Nat) : Int)) ≥ ((4294967296) : Int)) (by omega)) <| pkq (.bool true) <| pnq <| pnq <| pnq <| pnq <| pnq <| pnq <| pnq <| pnq <| pkq (.bool true) ?_
          refine ey_ <| s_ <| then_n <| bl_ 3 <| qr_ [0, 1, 2] <| pkq (uN qB) <| ppq (uN (qB - 1)) (exec_cast (congrArg (Value.int .u64) (wrap_sub qB 1 qp (by omega))) (by kernel_rfl)) <| pkq (uN (qB - 1)) <| eqr_ [0, 1, 2, 3] <| pkq (uN rB) <| pkq (uN y1) <| ppq (uN (rB + y1)) (exec_cast (congrArg (Value.int .u64) (wrapU (rB + y1) (by omega))) (by kernel_rfl)) <| pkq (uN (rB + y1)) <| eqr_ [0, 1] ?_
          refine pkq (uN (rB + y1)) <| ppq (.bool false) (dcf ((((rB + y1 : Nat) : Int)) ≥ ((4294967296) : Int)) (by omega)) <| en_ <| s_ <| blk_n <| then_n ?_
          refine ⟨⟨qB - 1, rB + y1, (uN qB), (.bool true), (.bool true), undef, undef, undef, undef, undef, undef, undef, undef, (.bool true), (uN qB), (uN (qB - 1)), (uN rB), (uN y1), (uN (rB + y1)), (uN (rB + y1)), (.bool false), by kernel_rfl, hdn, by omega, by omega, K6⟩, ?_⟩
          exact lt_meas (x := qB - 1) (y := qB) (by kernel_rfl) (by kernel_rfl) (by omega)
        · obtain ⟨qp, hdn⟩ := dig_step hYs hy0 hy1p hu0 hVY hd (.inl hq)
          have hxB : qB - 1 = (Vr * 4294967296 + u0) / Y := dig_done hYs hy0 hy1p hu0 hVY hdn (.inr hr2)
          refine q_ <| qr_ [0, 1, 2, 3, 4, 5, 6, 7, 8, 9, 10, 11] <| pkq (uN qB) <| ppq (.bool true) (dct ((((qB : Nat) : Int)) ≥ ((4294967296) : Int)) (by omega)) <| pkq (.bool true) <| pnq <| pnq <| pnq <| pnq <| pnq <| pnq <| pnq <| pnq <| pkq (.bool true) ?_
          refine ey_ <| s_ <| then_n <| bl_ 3 <| qr_ [0, 1, 2] <| pkq (uN qB) <| ppq (uN (qB - 1)) (exec_cast (congrArg (Value.int .u64) (wrap_sub qB 1 qp (by omega))) (by kernel_rfl)) <| pkq (uN (qB - 1)) <| eqr_ [0, 1, 2, 3] <| pkq (uN rB) <| pkq (uN y1) <| ppq (uN (rB + y1)) (exec_cast (congrArg (Value.int .u64) (wrapU (rB + y1) (by omega))) (by kernel_rfl)) <| pkq (uN (rB + y1)) <| eqr_ [0, 1] ?_
          refine pkq (uN (rB + y1)) <| ppq (.bool true) (dct ((((rB + y1 : Nat) : Int)) ≥ ((4294967296) : Int)) (by omega)) <| ey_ <| sy_exit 2 (by kernel_rfl) <| blk_p (by decide) <| then_e <| blk_e <| tqr_ [0, 1, 2, 3, 4, 5, 6, 7, 8, 9, 10, 11, 12, 13, 14, 15] <| pkq (uN (qA - 1)) <| ppq (uN ((qA - 1) * 4294967296)) (exec_cast (congrArg (Value.int .u64) (wrapU ((qA - 1) * 4294967296) (by have := dig_lt hYs hy0 hy1p hu1 hUY; rw [← hxA] at this; omega))) (by kernel_rfl)) <| pkq (uN (qB - 1)) <| ppq (uN ((hi * 18446744073709551616 + lo) / y)) (exec_cast (congrArg (Value.int .u64) ((wrapU ((qA - 1) * 4294967296 + (qB - 1)) (by have g1 := dig_lt hYs hy0 hy1p hu1 hUY; have g2 := dig_lt hYs hy0 hy1p hu0 hVY; rw [← hxA] at g1; rw [← hxB] at g2; omega)).trans (congrArg (fun n : Nat => (n : Int)) (div_end hy1 hYe hsum hLs hxA hVr hxB)))) (by kernel_rfl)) <| pkq (uN Vr) <| pkq (.int .u64 (IntKind.u64.wrap (((Vr : Nat) : Int) * 4294967296))) ?_
          refine pkq (uN u0) <| pkq (.int .u64 (IntKind.u64.wrap (IntKind.u64.wrap (((Vr : Nat) : Int) * 4294967296) + ((u0 : Nat) : Int)))) <| pkq (uN (qB - 1)) <| pkq (uN Y) <| pkq (.int .u64 (IntKind.u64.wrap (((qB - 1 : Nat) : Int) * ((Y : Nat) : Int)))) <| ppq (uN ((Vr * 4294967296 + u0) % Y)) (exec_cast (congrArg (Value.int .u64) ((dig_rest hYs hy0 hy1p hu0 hVY hxB).resolve_right (by omega))) (by kernel_rfl)) <| pkq (uN s) <| ppq (uN (((Vr * 4294967296 + u0) % Y) >>> s)) (exec_binop .shr 40 169 (.tmp 132) (.tmp 133) (by kernel_rfl) (uN (((Vr * 4294967296 + u0) % Y))) (uN s) _ (by kernel_rfl) (by kernel_rfl) (by kernel_rfl) (run_shrU _ _ ((Vr * 4294967296 + u0) % Y) s (by omega))) <| pkq (uN ((hi * 18446744073709551616 + lo) / y)) <| pkq (uN (((Vr * 4294967296 + u0) % Y) >>> s)) <| ps_end <| sy_a ⟨#[uN hi, uN lo, uN Y, ud, ud, ud, uN ((hi * 18446744073709551616 + lo) / y), uN (((Vr * 4294967296 + u0) % Y) >>> s), uN s, uN y1, uN y0, uN U, uN L, uN u1, uN u0, uN (qA - 1), uN (rB + y1), uN Vr, uN (qB - 1), uN y, .bool false, ud, uN y, uN hi, .bool false, ud, uN hi, .bool false, ud, ud, ud, ud, ud, ud, uN y, iN s, uN s, uN y, uN s, uN Y, uN Y, uN y1, uN Y, uN y0, uN hi, uN s, uN ((hi <<< s) % Kec.W), uN lo, uN s, uN (64 - s), uN (lo >>> (64 - s)), uN U, uN lo, uN s, uN L, uN L, uN u1, uN L, uN u0, uN U, uN y1, uN (U / y1), uN U, uN (U / y1), uN y1, uN (U / y1 * y1), uN (U - U / y1 * y1), uN qA, .bool false, .bool false, uN qA, uN y0, uN (qA * y0), uN rA, uN (4294967296 * rA), uN u1, uN (4294967296 * rA + u1), .bool true, .bool true, uN qA, uN (qA - 1), uN rA, uN y1, uN (rA + y1), uN (rA + y1), .bool true, uN U, .int .u64 (IntKind.u64.wrap (((U : Nat) : Int) * 4294967296)), uN u1, .int .u64 (IntKind.u64.wrap (IntKind.u64.wrap (((U : Nat) : Int) * 4294967296) + ((u1 : Nat) : Int))), uN (qA - 1), uN Y, .int .u64 (IntKind.u64.wrap (((qA - 1 : Nat) : Int) * ((Y : Nat) : Int))), uN Vr, uN Vr, uN y1, uN (Vr / y1), uN Vr, uN (Vr / y1), uN y1, uN (Vr / y1 * y1), uN (Vr - Vr / y1 * y1), uN qB, .bool true, .bool true, ud, ud, ud, ud, ud, ud, ud, ud, .bool true, uN qB, uN (qB - 1), uN rB, uN y1, uN (rB + y1), uN (rB + y1), .bool true, uN (qA - 1), uN ((qA - 1) * 4294967296), uN (qB - 1), uN ((hi * 18446744073709551616 + lo) / y), uN Vr, .int .u64 (IntKind.u64.wrap (((Vr : Nat) : Int) * 4294967296)), uN u0, .int .u64 (IntKind.u64.wrap (IntKind.u64.wrap (((Vr : Nat) : Int) * 4294967296) + ((u0 : Nat) : Int))), uN (qB - 1), uN Y, .int .u64 (IntKind.u64.wrap (((qB - 1 : Nat) : Int) * ((Y : Nat) : Int))), uN ((Vr * 4294967296 + u0) % Y), uN s, uN (((Vr * 4294967296 + u0) % Y) >>> s)], []⟩ <| then_n <| u_ ?_
          refine so_ (.tuple #[.int .u64 (((hi * 18446744073709551616 + lo) / y : Nat) : Int), .int .u64 ((((Vr * 4294967296 + u0) % Y) >>> s : Nat) : Int)]) ?_
          exact ⟨_, rfl, K6⟩
        · obtain ⟨qp, hdn⟩ := dig_step hYs hy0 hy1p hu0 hVY hd (.inr hc)
          refine q_ <| qr_ [0, 1, 2, 3, 4, 5, 6, 7, 8, 9, 10, 11] <| pkq (uN qB) <| ppq (.bool false) (dcf ((((qB : Nat) : Int)) ≥ ((4294967296) : Int)) (by omega)) <| pkq (.bool false) <| pkq (uN qB) <| pkq (uN y0) <| ppq (uN (qB * y0)) (exec_cast (congrArg (Value.int .u64) (wrapU (qB * y0) (mul_small hq hy0))) (by kernel_rfl)) <| pkq (uN rB) <| ppq (uN (4294967296 * rB)) (exec_cast (congrArg (Value.int .u64) (wrapU (4294967296 * rB) (by omega))) (by kernel_rfl)) <| pkq (uN u0) <| ppq (uN (4294967296 * rB + u0)) (exec_cast (congrArg (Value.int .u64) (wrapU (4294967296 * rB + u0) (by omega))) (by kernel_rfl)) <| ppq (.bool true) (dct ((((qB * y0 : Nat) : Int)) > (((4294967296 * rB + u0 : Nat) : Int))) (by omega)) <| pkq (.bool true) ?_
          refine ey_ <| s_ <| then_n <| bl_ 3 <| qr_ [0, 1, 2] <| pkq (uN qB) <| ppq (uN (qB - 1)) (exec_cast (congrArg (Value.int .u64) (wrap_sub qB 1 qp (by omega))) (by kernel_rfl)) <| pkq (uN (qB - 1)) <| eqr_ [0, 1, 2, 3] <| pkq (uN rB) <| pkq (uN y1) <| ppq (uN (rB + y1)) (exec_cast (congrArg (Value.int .u64) (wrapU (rB + y1) (by omega))) (by kernel_rfl)) <| pkq (uN (rB + y1)) <| eqr_ [0, 1] ?_
          refine pkq (uN (rB + y1)) <| ppq (.bool false) (dcf ((((rB + y1 : Nat) : Int)) ≥ ((4294967296) : Int)) (by omega)) <| en_ <| s_ <| blk_n <| then_n ?_
          refine ⟨⟨qB - 1, rB + y1, (uN qB), (.bool false), (.bool false), (uN qB), (uN y0), (uN (qB * y0)), (uN rB), (uN (4294967296 * rB)), (uN u0), (uN (4294967296 * rB + u0)), (.bool true), (.bool true), (uN qB), (uN (qB - 1)), (uN rB), (uN y1), (uN (rB + y1)), (uN (rB + y1)), (.bool false), by kernel_rfl, hdn, by omega, by omega, K6⟩, ?_⟩
          exact lt_meas (x := qB - 1) (y := qB) (by kernel_rfl) (by kernel_rfl) (by omega)
        · obtain ⟨qp, hdn⟩ := dig_step hYs hy0 hy1p hu0 hVY hd (.inr hc)
          have hxB : qB - 1 = (Vr * 4294967296 + u0) / Y := dig_done hYs hy0 hy1p hu0 hVY hdn (.inr hr2)
          refine q_ <| qr_ [0, 1, 2, 3, 4, 5, 6, 7, 8, 9, 10, 11] <| pkq (uN qB) <| ppq (.bool false) (dcf ((((qB : Nat) : Int)) ≥ ((4294967296) : Int)) (by omega)) <| pkq (.bool false) <| pkq (uN qB) <| pkq (uN y0) <| ppq (uN (qB * y0)) (exec_cast (congrArg (Value.int .u64) (wrapU (qB * y0) (mul_small hq hy0))) (by kernel_rfl)) <| pkq (uN rB) <| ppq (uN (4294967296 * rB)) (exec_cast (congrArg (Value.int .u64) (wrapU (4294967296 * rB) (by omega))) (by kernel_rfl)) <| pkq (uN u0) <| ppq (uN (4294967296 * rB + u0)) (exec_cast (congrArg (Value.int .u64) (wrapU (4294967296 * rB + u0) (by omega))) (by kernel_rfl)) <| ppq (.bool true) (dct ((((qB * y0 : Nat) : Int)) > (((4294967296 * rB + u0 : Nat) : Int))) (by omega)) <| pkq (.bool true) ?_
          refine ey_ <| s_ <| then_n <| bl_ 3 <| qr_ [0, 1, 2] <| pkq (uN qB) <| ppq (uN (qB - 1)) (exec_cast (congrArg (Value.int .u64) (wrap_sub qB 1 qp (by omega))) (by kernel_rfl)) <| pkq (uN (qB - 1)) <| eqr_ [0, 1, 2, 3] <| pkq (uN rB) <| pkq (uN y1) <| ppq (uN (rB + y1)) (exec_cast (congrArg (Value.int .u64) (wrapU (rB + y1) (by omega))) (by kernel_rfl)) <| pkq (uN (rB + y1)) <| eqr_ [0, 1] ?_
          refine pkq (uN (rB + y1)) <| ppq (.bool true) (dct ((((rB + y1 : Nat) : Int)) ≥ ((4294967296) : Int)) (by omega)) <| ey_ <| sy_exit 2 (by kernel_rfl) <| blk_p (by decide) <| then_e <| blk_e <| tqr_ [0, 1, 2, 3, 4, 5, 6, 7, 8, 9, 10, 11, 12, 13, 14, 15] <| pkq (uN (qA - 1)) <| ppq (uN ((qA - 1) * 4294967296)) (exec_cast (congrArg (Value.int .u64) (wrapU ((qA - 1) * 4294967296) (by have := dig_lt hYs hy0 hy1p hu1 hUY; rw [← hxA] at this; omega))) (by kernel_rfl)) <| pkq (uN (qB - 1)) <| ppq (uN ((hi * 18446744073709551616 + lo) / y)) (exec_cast (congrArg (Value.int .u64) ((wrapU ((qA - 1) * 4294967296 + (qB - 1)) (by have g1 := dig_lt hYs hy0 hy1p hu1 hUY; have g2 := dig_lt hYs hy0 hy1p hu0 hVY; rw [← hxA] at g1; rw [← hxB] at g2; omega)).trans (congrArg (fun n : Nat => (n : Int)) (div_end hy1 hYe hsum hLs hxA hVr hxB)))) (by kernel_rfl)) <| pkq (uN Vr) <| pkq (.int .u64 (IntKind.u64.wrap (((Vr : Nat) : Int) * 4294967296))) ?_
          refine pkq (uN u0) <| pkq (.int .u64 (IntKind.u64.wrap (IntKind.u64.wrap (((Vr : Nat) : Int) * 4294967296) + ((u0 : Nat) : Int)))) <| pkq (uN (qB - 1)) <| pkq (uN Y) <| pkq (.int .u64 (IntKind.u64.wrap (((qB - 1 : Nat) : Int) * ((Y : Nat) : Int)))) <| ppq (uN ((Vr * 4294967296 + u0) % Y)) (exec_cast (congrArg (Value.int .u64) ((dig_rest hYs hy0 hy1p hu0 hVY hxB).resolve_right (by omega))) (by kernel_rfl)) <| pkq (uN s) <| ppq (uN (((Vr * 4294967296 + u0) % Y) >>> s)) (exec_binop .shr 40 169 (.tmp 132) (.tmp 133) (by kernel_rfl) (uN (((Vr * 4294967296 + u0) % Y))) (uN s) _ (by kernel_rfl) (by kernel_rfl) (by kernel_rfl) (run_shrU _ _ ((Vr * 4294967296 + u0) % Y) s (by omega))) <| pkq (uN ((hi * 18446744073709551616 + lo) / y)) <| pkq (uN (((Vr * 4294967296 + u0) % Y) >>> s)) <| ps_end <| sy_a ⟨#[uN hi, uN lo, uN Y, ud, ud, ud, uN ((hi * 18446744073709551616 + lo) / y), uN (((Vr * 4294967296 + u0) % Y) >>> s), uN s, uN y1, uN y0, uN U, uN L, uN u1, uN u0, uN (qA - 1), uN (rB + y1), uN Vr, uN (qB - 1), uN y, .bool false, ud, uN y, uN hi, .bool false, ud, uN hi, .bool false, ud, ud, ud, ud, ud, ud, uN y, iN s, uN s, uN y, uN s, uN Y, uN Y, uN y1, uN Y, uN y0, uN hi, uN s, uN ((hi <<< s) % Kec.W), uN lo, uN s, uN (64 - s), uN (lo >>> (64 - s)), uN U, uN lo, uN s, uN L, uN L, uN u1, uN L, uN u0, uN U, uN y1, uN (U / y1), uN U, uN (U / y1), uN y1, uN (U / y1 * y1), uN (U - U / y1 * y1), uN qA, .bool false, .bool false, uN qA, uN y0, uN (qA * y0), uN rA, uN (4294967296 * rA), uN u1, uN (4294967296 * rA + u1), .bool true, .bool true, uN qA, uN (qA - 1), uN rA, uN y1, uN (rA + y1), uN (rA + y1), .bool true, uN U, .int .u64 (IntKind.u64.wrap (((U : Nat) : Int) * 4294967296)), uN u1, .int .u64 (IntKind.u64.wrap (IntKind.u64.wrap (((U : Nat) : Int) * 4294967296) + ((u1 : Nat) : Int))), uN (qA - 1), uN Y, .int .u64 (IntKind.u64.wrap (((qA - 1 : Nat) : Int) * ((Y : Nat) : Int))), uN Vr, uN Vr, uN y1, uN (Vr / y1), uN Vr, uN (Vr / y1), uN y1, uN (Vr / y1 * y1), uN (Vr - Vr / y1 * y1), uN qB, .bool false, .bool false, uN qB, uN y0, uN (qB * y0), uN rB, uN (4294967296 * rB), uN u0, uN (4294967296 * rB + u0), .bool true, .bool true, uN qB, uN (qB - 1), uN rB, uN y1, uN (rB + y1), uN (rB + y1), .bool true, uN (qA - 1), uN ((qA - 1) * 4294967296), uN (qB - 1), uN ((hi * 18446744073709551616 + lo) / y), uN Vr, .int .u64 (IntKind.u64.wrap (((Vr : Nat) : Int) * 4294967296)), uN u0, .int .u64 (IntKind.u64.wrap (IntKind.u64.wrap (((Vr : Nat) : Int) * 4294967296) + ((u0 : Nat) : Int))), uN (qB - 1), uN Y, .int .u64 (IntKind.u64.wrap (((qB - 1 : Nat) : Int) * ((Y : Nat) : Int))), uN ((Vr * 4294967296 + u0) % Y), uN s, uN (((Vr * 4294967296 + u0) % Y) >>> s)], []⟩ <| then_n <| u_ ?_
          refine so_ (.tuple #[.int .u64 (((hi * 18446744073709551616 + lo) / y : Nat) : Int), .int .u64 ((((Vr * 4294967296 + u0) % Y) >>> s : Nat) : Int)]) ?_
          exact ⟨_, rfl, K6⟩
        · have hxB : qB = (Vr * 4294967296 + u0) / Y := dig_done hYs hy0 hy1p hu0 hVY hd (.inl ⟨hq, hc⟩)
          refine q_ <| qr_ [0, 1, 2, 3, 4, 5, 6, 7, 8, 9, 10, 11] <| pkq (uN qB) <| ppq (.bool false) (dcf ((((qB : Nat) : Int)) ≥ ((4294967296) : Int)) (by omega)) <| pkq (.bool false) <| pkq (uN qB) <| pkq (uN y0) <| ppq (uN (qB * y0)) (exec_cast (congrArg (Value.int .u64) (wrapU (qB * y0) (mul_small hq hy0))) (by kernel_rfl)) <| pkq (uN rB) <| ppq (uN (4294967296 * rB)) (exec_cast (congrArg (Value.int .u64) (wrapU (4294967296 * rB) (by omega))) (by kernel_rfl)) <| pkq (uN u0) <| ppq (uN (4294967296 * rB + u0)) (exec_cast (congrArg (Value.int .u64) (wrapU (4294967296 * rB + u0) (by omega))) (by kernel_rfl)) <| ppq (.bool false) (dcf ((((qB * y0 : Nat) : Int)) > (((4294967296 * rB + u0 : Nat) : Int))) (by omega)) <| pkq (.bool false) ?_
          refine en_ <| sy_exit 2 (by kernel_rfl) <| then_e <| then_e <| blk_e <| tqr_ [0, 1, 2, 3, 4, 5, 6, 7, 8, 9, 10, 11, 12, 13, 14, 15] <| pkq (uN (qA - 1)) <| ppq (uN ((qA - 1) * 4294967296)) (exec_cast (congrArg (Value.int .u64) (wrapU ((qA - 1) * 4294967296) (by have := dig_lt hYs hy0 hy1p hu1 hUY; rw [← hxA] at this; omega))) (by kernel_rfl)) <| pkq (uN qB) <| ppq (uN ((hi * 18446744073709551616 + lo) / y)) (exec_cast (congrArg (Value.int .u64) ((wrapU ((qA - 1) * 4294967296 + qB) (by have g1 := dig_lt hYs hy0 hy1p hu1 hUY; have g2 := dig_lt hYs hy0 hy1p hu0 hVY; rw [← hxA] at g1; rw [← hxB] at g2; omega)).trans (congrArg (fun n : Nat => (n : Int)) (div_end hy1 hYe hsum hLs hxA hVr hxB)))) (by kernel_rfl)) <| pkq (uN Vr) <| pkq (.int .u64 (IntKind.u64.wrap (((Vr : Nat) : Int) * 4294967296))) <| pkq (uN u0) <| pkq (.int .u64 (IntKind.u64.wrap (IntKind.u64.wrap (((Vr : Nat) : Int) * 4294967296) + ((u0 : Nat) : Int)))) ?_
          refine pkq (uN qB) <| pkq (uN Y) <| pkq (.int .u64 (IntKind.u64.wrap (((qB : Nat) : Int) * ((Y : Nat) : Int)))) <| ppq (uN ((Vr * 4294967296 + u0) % Y)) (exec_cast (congrArg (Value.int .u64) ((dig_rest hYs hy0 hy1p hu0 hVY hxB).resolve_right (by omega))) (by kernel_rfl)) <| pkq (uN s) <| ppq (uN (((Vr * 4294967296 + u0) % Y) >>> s)) (exec_binop .shr 40 169 (.tmp 132) (.tmp 133) (by kernel_rfl) (uN (((Vr * 4294967296 + u0) % Y))) (uN s) _ (by kernel_rfl) (by kernel_rfl) (by kernel_rfl) (run_shrU _ _ ((Vr * 4294967296 + u0) % Y) s (by omega))) <| pkq (uN ((hi * 18446744073709551616 + lo) / y)) <| pkq (uN (((Vr * 4294967296 + u0) % Y) >>> s)) <| ps_end <| sy_a ⟨#[uN hi, uN lo, uN Y, ud, ud, ud, uN ((hi * 18446744073709551616 + lo) / y), uN (((Vr * 4294967296 + u0) % Y) >>> s), uN s, uN y1, uN y0, uN U, uN L, uN u1, uN u0, uN (qA - 1), uN rB, uN Vr, uN qB, uN y, .bool false, ud, uN y, uN hi, .bool false, ud, uN hi, .bool false, ud, ud, ud, ud, ud, ud, uN y, iN s, uN s, uN y, uN s, uN Y, uN Y, uN y1, uN Y, uN y0, uN hi, uN s, uN ((hi <<< s) % Kec.W), uN lo, uN s, uN (64 - s), uN (lo >>> (64 - s)), uN U, uN lo, uN s, uN L, uN L, uN u1, uN L, uN u0, uN U, uN y1, uN (U / y1), uN U, uN (U / y1), uN y1, uN (U / y1 * y1), uN (U - U / y1 * y1), uN qA, .bool false, .bool false, uN qA, uN y0, uN (qA * y0), uN rA, uN (4294967296 * rA), uN u1, uN (4294967296 * rA + u1), .bool true, .bool true, uN qA, uN (qA - 1), uN rA, uN y1, uN (rA + y1), uN (rA + y1), .bool true, uN U, .int .u64 (IntKind.u64.wrap (((U : Nat) : Int) * 4294967296)), uN u1, .int .u64 (IntKind.u64.wrap (IntKind.u64.wrap (((U : Nat) : Int) * 4294967296) + ((u1 : Nat) : Int))), uN (qA - 1), uN Y, .int .u64 (IntKind.u64.wrap (((qA - 1 : Nat) : Int) * ((Y : Nat) : Int))), uN Vr, uN Vr, uN y1, uN (Vr / y1), uN Vr, uN (Vr / y1), uN y1, uN (Vr / y1 * y1), uN (Vr - Vr / y1 * y1), uN qB, .bool false, .bool false, uN qB, uN y0, uN (qB * y0), uN rB, uN (4294967296 * rB), uN u0, uN (4294967296 * rB + u0), .bool false, .bool false, u114, u115, u116, u117, u118, u119, u120, uN (qA - 1), uN ((qA - 1) * 4294967296), uN qB, uN ((hi * 18446744073709551616 + lo) / y), uN Vr, .int .u64 (IntKind.u64.wrap (((Vr : Nat) : Int) * 4294967296)), uN u0, .int .u64 (IntKind.u64.wrap (IntKind.u64.wrap (((Vr : Nat) : Int) * 4294967296) + ((u0 : Nat) : Int))), uN qB, uN Y, .int .u64 (IntKind.u64.wrap (((qB : Nat) : Int) * ((Y : Nat) : Int))), uN ((Vr * 4294967296 + u0) % Y), uN s, uN (((Vr * 4294967296 + u0) % Y) >>> s)], []⟩ <| then_n <| u_ <| so_ (.tuple #[.int .u64 (((hi * 18446744073709551616 + lo) / y : Nat) : Int), .int .u64 ((((Vr * 4294967296 + u0) % Y) >>> s : Nat) : Int)]) ?_
          exact ⟨_, rfl, K6⟩
    · have hxA : qA = (U * 4294967296 + u1) / Y := dig_done hYs hy0 hy1p hu1 hUY hd (.inl ⟨hq, hc⟩)
      refine q_ <| qr_ [0, 1, 2, 3, 4, 5, 6, 7, 8, 9, 10, 11] <| pkq (uN qA) <| ppq (.bool false) (dcf ((((qA : Nat) : Int)) ≥ ((4294967296) : Int)) (by omega)) <| pkq (.bool false) <| pkq (uN qA) <| pkq (uN y0) <| ppq (uN (qA * y0)) (exec_cast (congrArg (Value.int .u64) (wrapU (qA * y0) (mul_small hq hy0))) (by kernel_rfl)) <| pkq (uN rA) <| ppq (uN (4294967296 * rA)) (exec_cast (congrArg (Value.int .u64) (wrapU (4294967296 * rA) (by omega))) (by kernel_rfl)) <| pkq (uN u1) <| ppq (uN (4294967296 * rA + u1)) (exec_cast (congrArg (Value.int .u64) (wrapU (4294967296 * rA + u1) (by omega))) (by kernel_rfl)) <| ppq (.bool false) (dcf ((((qA * y0 : Nat) : Int)) > (((4294967296 * rA + u1 : Nat) : Int))) (by omega)) <| pkq (.bool false) ?_
      refine en_ <| sy_exit 0 (by kernel_rfl) <| then_e <| then_e <| blk_e <| tqr_ [0, 1, 2, 3, 4, 5, 6, 7, 8] <| pkq (uN U) <| pkq (.int .u64 (IntKind.u64.wrap (((U : Nat) : Int) * 4294967296))) <| pkq (uN u1) <| pkq (.int .u64 (IntKind.u64.wrap (IntKind.u64.wrap (((U : Nat) : Int) * 4294967296) + ((u1 : Nat) : Int)))) <| pkq (uN qA) <| pkq (uN Y) <| pkq (.int .u64 (IntKind.u64.wrap (((qA : Nat) : Int) * ((Y : Nat) : Int)))) <| ppq (uN Vr) (exec_cast (congrArg (Value.int .u64) (((dig_rest hYs hy0 hy1p hu1 hUY hxA).resolve_right (by omega)).trans (congrArg (fun n : Nat => (n : Int)) hVr))) (by kernel_rfl)) ?_
      refine pkq (uN Vr) <| eqr_ [0, 1, 2, 3] <| pkq (uN Vr) <| pkq (uN y1) <| ppq (uN (Vr / y1)) (exec_quoU 40 40 (.tmp 94) (.tmp 95) (by kernel_rfl) Vr y1 (by kernel_rfl) (by kernel_rfl) hy1p (by omega)) <| pkq (uN (Vr / y1)) <| ps_end <| sy_a ⟨#[uN hi, uN lo, uN Y, ud, ud, ud, .int .u64 0, .int .u64 0, uN s, uN y1, uN y0, uN U, uN L, uN u1, uN u0, uN qA, uN rA, uN Vr, uN (Vr / y1), uN y, .bool false, ud, uN y, uN hi, .bool false, ud, uN hi, .bool false, ud, ud, ud, ud, ud, ud, uN y, iN s, uN s, uN y, uN s, uN Y, uN Y, uN y1, uN Y, uN y0, uN hi, uN s, uN ((hi <<< s) % Kec.W), uN lo, uN s, uN (64 - s), uN (lo >>> (64 - s)), uN U, uN lo, uN s, uN L, uN L, uN u1, uN L, uN u0, uN U, uN y1, uN (U / y1), uN U, uN (U / y1), uN y1, uN (U / y1 * y1), uN (U - U / y1 * y1), uN qA, .bool false, .bool false, uN qA, uN y0, uN (qA * y0), uN rA, uN (4294967296 * rA), uN u1, uN (4294967296 * rA + u1), .bool false, .bool false, u79, u80, u81, u82, u83, u84, u85, uN U, .int .u64 (IntKind.u64.wrap (((U : Nat) : Int) * 4294967296)), uN u1, .int .u64 (IntKind.u64.wrap (IntKind.u64.wrap (((U : Nat) : Int) * 4294967296) + ((u1 : Nat) : Int))), uN qA, uN Y, .int .u64 (IntKind.u64.wrap (((qA : Nat) : Int) * ((Y : Nat) : Int))), uN Vr, uN Vr, uN y1, uN (Vr / y1), ud, ud, ud, ud, ud, ud, ud, ud, ud, ud, ud, ud, ud, ud, ud, ud, ud, ud, ud, ud, ud, ud, ud, ud, ud, ud, ud, ud, ud, ud, ud, ud, ud, ud, ud, ud, ud, ud], []⟩ <| tqr_ [0, 1, 2, 3, 4, 5] <| pkq (uN Vr) <| pkq (uN (Vr / y1)) <| pkq (uN y1) <| ppq (uN (Vr / y1 * y1)) (exec_cast (congrArg (Value.int .u64) (wrapU (Vr / y1 * y1) (by have := Nat.div_mul_le_self Vr y1; omega))) (by kernel_rfl)) <| ppq (uN (Vr - Vr / y1 * y1)) (exec_cast (congrArg (Value.int .u64) (wrap_sub Vr (Vr / y1 * y1) (Nat.div_mul_le_self Vr y1) (by omega))) (by kernel_rfl)) ?_
      refine pkq (uN (Vr - Vr / y1 * y1)) <| eq_ <| bl_ 2 ?_
      refine sy_loop (qc53_2 4194296) (fun a V => ∃ (qB : Nat) (rB : Nat) (u102 u103 u104 u105 u106 u107 u108 u109 u110 u111 u112 u113 u114 u115 u116 u117 u118 u119 u120 : Value), (a = ⟨#[uN hi, uN lo, uN Y, ud, ud, ud, .int .u64 0, .int .u64 0, uN s, uN y1, uN y0, uN U, uN L, uN u1, uN u0, uN qA, uN rB, uN Vr, uN qB, uN y, .bool false, ud, uN y, uN hi, .bool false, ud, uN hi, .bool false, ud, ud, ud, ud, ud, ud, uN y, iN s, uN s, uN y, uN s, uN Y, uN Y, uN y1, uN Y, uN y0, uN hi, uN s, uN ((hi <<< s) % Kec.W), uN lo, uN s, uN (64 - s), uN (lo >>> (64 - s)), uN U, uN lo, uN s, uN L, uN L, uN u1, uN L, uN u0, uN U, uN y1, uN (U / y1), uN U, uN (U / y1), uN y1, uN (U / y1 * y1), uN (U - U / y1 * y1), uN qA, .bool false, .bool false, uN qA, uN y0, uN (qA * y0), uN rA, uN (4294967296 * rA), uN u1, uN (4294967296 * rA + u1), .bool false, .bool false, u79, u80, u81, u82, u83, u84, u85, uN U, .int .u64 (IntKind.u64.wrap (((U : Nat) : Int) * 4294967296)), uN u1, .int .u64 (IntKind.u64.wrap (IntKind.u64.wrap (((U : Nat) : Int) * 4294967296) + ((u1 : Nat) : Int))), uN qA, uN Y, .int .u64 (IntKind.u64.wrap (((qA : Nat) : Int) * ((Y : Nat) : Int))), uN Vr, uN Vr, uN y1, uN (Vr / y1), uN Vr, uN (Vr / y1), uN y1, uN (Vr / y1 * y1), uN (Vr - Vr / y1 * y1), u102, u103, u104, u105, u106, u107, u108, u109, u110, u111, u112, u113, u114, u115, u116, u117, u118, u119, u120, ud, ud, ud, ud, ud, ud, ud, ud, ud, ud, ud, ud, ud, ud], []⟩) ∧ (Dig Vr Y y1 u0 qB rB) ∧ (qB < 18446744073709551616) ∧ (rB < 4294967296) ∧ (Keeps Nob w V)) (fun a _ => (intOf (a.tmps.getD 18 undef)).toNat) (by kernel_rfl) ?_ ?_
      · exact ⟨Vr / y1, Vr - Vr / y1 * y1, undef, undef, undef, undef, undef, undef, undef, undef, undef, undef, undef, undef, undef, undef, undef, undef, undef, undef, undef, by kernel_rfl, dig_init hYs hy0 hy1p hu0 hVY, by have := Nat.div_le_self Vr y1; omega, rem_small hy1p hy1l, K2⟩
      · rintro a V7 ⟨qB, rB, u102, u103, u104, u105, u106, u107, u108, u109, u110, u111, u112, u113, u114, u115, u116, u117, u118, u119, u120, rfl, hd, hql, hr, K8⟩
        rcases dig_cases qB rB y0 y1 u0 with ⟨hq, hr2⟩ | ⟨hq, hr2⟩ | ⟨hq, hc, hr2⟩ | ⟨hq, hc, hr2⟩ | ⟨hq, hc⟩
        · obtain ⟨qp, hdn⟩ := dig_step hYs hy0 hy1p hu0 hVY hd (.inl hq)
          refine q_ <| qr_ [0, 1, 2, 3, 4, 5, 6, 7, 8, 9, 10, 11] <| pkq (uN qB) <| ppq (.bool true) (dct ((((qB : Nat) : Int)) ≥ ((4294967296) : Int)) (by omega)) <| pkq (.bool true) <| pnq <| pnq <| pnq <| pnq <| pnq <| pnq <| pnq <| pnq <| pkq (.bool true) ?_
          refine ey_ <| s_ <| then_n <| bl_ 3 <| qr_ [0, 1, 2] <| pkq (uN qB) <| ppq (uN (qB - 1)) (exec_cast (congrArg (Value.int .u64) (wrap_sub qB 1 qp (by omega))) (by kernel_rfl)) <| pkq (uN (qB - 1)) <| eqr_ [0, 1, 2, 3] <| pkq (uN rB) <| pkq (uN y1) <| ppq (uN (rB + y1)) (exec_cast (congrArg (Value.int .u64) (wrapU (rB + y1) (by omega))) (by kernel_rfl)) <| pkq (uN (rB + y1)) <| eqr_ [0, 1] ?_
          refine pkq (uN (rB + y1)) <| ppq (.bool false) (dcf ((((rB + y1 : Nat) : Int)) ≥ ((4294967296) : Int)) (by omega)) <| en_ <| s_ <| blk_n <| then_n ?_
          refine ⟨⟨qB - 1, rB + y1, (uN qB), (.bool true), (.bool true), undef, undef, undef, undef, undef, undef, undef, undef, (.bool true), (uN qB), (uN (qB - 1)), (uN rB), (uN y1), (uN (rB + y1)), (uN (rB + y1)), (.bool false), by kernel_rfl, hdn, by omega, by omega, K8⟩, ?_⟩
          exact lt_meas (x := qB - 1) (y := qB) (by kernel_rfl) (by kernel_rfl) (by omega)
        · obtain ⟨qp, hdn⟩ := dig_step hYs hy0 hy1p hu0 hVY hd (.inl hq)
          have hxB : qB - 1 = (Vr * 4294967296 + u0) / Y := dig_done hYs hy0 hy1p hu0 hVY hdn (.inr hr2)
          refine q_ <| qr_ [0, 1, 2, 3, 4, 5, 6, 7, 8, 9, 10, 11] <| pkq (uN qB) <| ppq (.bool true) (dct ((((qB : Nat) : Int)) ≥ ((4294967296) : Int)) (by omega)) <| pkq (.bool true) <| pnq <| pnq <| pnq <| pnq <| pnq <| pnq <| pnq <| pnq <| pkq (.bool true) ?_
          refine ey_ <| s_ <| then_n <| bl_ 3 <| qr_ [0, 1, 2] <| pkq (uN qB) <| ppq (uN (qB - 1)) (exec_cast (congrArg (Value.int .u64) (wrap_sub qB 1 qp (by omega))) (by kernel_rfl)) <| pkq (uN (qB - 1)) <| eqr_ [0, 1, 2, 3] <| pkq (uN rB) <| pkq (uN y1) <| ppq (uN (rB + y1)) (exec_cast (congrArg (Value.int .u64) (wrapU (rB + y1) (by omega))) (by kernel_rfl)) <| pkq (uN (rB + y1)) <| eqr_ [0, 1] ?_
          refine pkq (uN (rB + y1)) <| ppq (.bool true) (dct ((((rB + y1 : Nat) : Int)) ≥ ((4294967296) : Int)) (by omega)) <| ey_ <| sy_exit 2 (by kernel_rfl) <| blk_p (by decide) <| then_e <| blk_e <| tqr_ [0, 1, 2, 3, 4, 5, 6, 7, 8, 9, 10, 11, 12, 13, 14, 15] <| pkq (uN qA) <| ppq (uN (qA * 4294967296)) (exec_cast (congrArg (Value.int .u64) (wrapU (qA * 4294967296) (by have := dig_lt hYs hy0 hy1p hu1 hUY; rw [← hxA] at this; omega))) (by kernel_rfl)) <| pkq (uN (qB - 1)) <| ppq (uN ((hi * 18446744073709551616 + lo) / y)) (exec_cast (congrArg (Value.int .u64) ((wrapU (qA * 4294967296 + (qB - 1)) (by have g1 := dig_lt hYs hy0 hy1p hu1 hUY; have g2 := dig_lt hYs hy0 hy1p hu0 hVY; rw [← hxA] at g1; rw [← hxB] at g2; omega)).trans (congrArg (fun n : Nat => (n : Int)) (div_end hy1 hYe hsum hLs hxA hVr hxB)))) (by kernel_rfl)) <| pkq (uN Vr) <| pkq (.int .u64 (IntKind.u64.wrap (((Vr : Nat) : Int) * 4294967296))) ?_
          refine pkq (uN u0) <| pkq (.int .u64 (IntKind.u64.wrap (IntKind.u64.wrap (((Vr : Nat) : Int) * 4294967296) + ((u0 : Nat) : Int)))) <| pkq (uN (qB - 1)) <| pkq (uN Y) <| pkq (.int .u64 (IntKind.u64.wrap (((qB - 1 : Nat) : Int) * ((Y : Nat) : Int)))) <| ppq (uN ((Vr * 4294967296 + u0) % Y)) (exec_cast (congrArg (Value.int .u64) ((dig_rest hYs hy0 hy1p hu0 hVY hxB).resolve_right (by omega))) (by kernel_rfl)) <| pkq (uN s) <| ppq (uN (((Vr * 4294967296 + u0) % Y) >>> s)) (exec_binop .shr 40 169 (.tmp 132) (.tmp 133) (by kernel_rfl) (uN (((Vr * 4294967296 + u0) % Y))) (uN s) _ (by kernel_rfl) (by kernel_rfl) (by kernel_rfl) (run_shrU _ _ ((Vr * 4294967296 + u0) % Y) s (by omega))) <| pkq (uN ((hi * 18446744073709551616 + lo) / y)) <| pkq (uN (((Vr * 4294967296 + u0) % Y) >>> s)) <| ps_end <| sy_a ⟨#[uN hi, uN lo, uN Y, ud, ud, ud, uN ((hi * 18446744073709551616 + lo) / y), uN (((Vr * 4294967296 + u0) % Y) >>> s), uN s, uN y1, uN y0, uN U, uN L, uN u1, uN u0, uN qA, uN (rB + y1), uN Vr, uN (qB - 1), uN y, .bool false, ud, uN y, uN hi, .bool false, ud, uN hi, .bool false, ud, ud, ud, ud, ud, ud, uN y, iN s, uN s, uN y, uN s, uN Y, uN Y, uN y1, uN Y, uN y0, uN hi, uN s, uN ((hi <<< s) % Kec.W), uN lo, uN s, uN (64 - s), uN (lo >>> (64 - s)), uN U, uN lo, uN s, uN L, uN L, uN u1, uN L, uN u0, uN U, uN y1, uN (U / y1), uN U, uN (U / y1), uN y1, uN (U / y1 * y1), uN (U - U / y1 * y1), uN qA, .bool false, .bool false, uN qA, uN y0, uN (qA * y0), uN rA, uN (4294967296 * rA), uN u1, uN (4294967296 * rA + u1), .bool false, .bool false, u79, u80, u81, u82, u83, u84, u85, uN U, .int .u64 (IntKind.u64.wrap (((U : Nat) : Int) * 4294967296)), uN u1, .int .u64 (IntKind.u64.wrap (IntKind.u64.wrap (((U : Nat) : Int) * 4294967296) + ((u1 : Nat) : Int))), uN qA, uN Y, .int .u64 (IntKind.u64.wrap (((qA : Nat) : Int) * ((Y : Nat) : Int))), uN Vr, uN Vr, uN y1, uN (Vr / y1), uN Vr, uN (Vr / y1), uN y1, uN (Vr / y1 * y1), uN (Vr - Vr / y1 * y1), uN qB, .bool true, .bool true, ud, ud, ud, ud, ud, ud, ud, ud, .bool true, uN qB, uN (qB - 1), uN rB, uN y1, uN (rB + y1), uN (rB + y1), .bool true, uN qA, uN (qA * 4294967296), uN (qB - 1), uN ((hi * 18446744073709551616 + lo) / y), uN Vr, .int .u64 (IntKind.u64.wrap (((Vr : Nat) : Int) * 4294967296)), uN u0, .int .u64 (IntKind.u64.wrap (IntKind.u64.wrap (((Vr : Nat) : Int) * 4294967296) + ((u0 : Nat) : Int))), uN (qB - 1), uN Y, .int .u64 (IntKind.u64.wrap (((qB - 1 : Nat) : Int) * ((Y : Nat) : Int))), uN ((Vr * 4294967296 + u0) % Y), uN s, uN (((Vr * 4294967296 + u0) % Y) >>> s)], []⟩ <| then_n <| u_ ?_
          refine so_ (.tuple #[.int .u64 (((hi * 18446744073709551616 + lo) / y : Nat) : Int), .int .u64 ((((Vr * 4294967296 + u0) % Y) >>> s : Nat) : Int)]) ?_
          exact ⟨_, rfl, K8⟩
        · obtain ⟨qp, hdn⟩ := dig_step hYs hy0 hy1p hu0 hVY hd (.inr hc)
          refine q_ <| qr_ [0, 1, 2, 3, 4, 5, 6, 7, 8, 9, 10, 11] <| pkq (uN qB) <| ppq (.bool false) (dcf ((((qB : Nat) : Int)) ≥ ((4294967296) : Int)) (by omega)) <| pkq (.bool false) <| pkq (uN qB) <| pkq (uN y0) <| ppq (uN (qB * y0)) (exec_cast (congrArg (Value.int .u64) (wrapU (qB * y0) (mul_small hq hy0))) (by kernel_rfl)) <| pkq (uN rB) <| ppq (uN (4294967296 * rB)) (exec_cast (congrArg (Value.int .u64) (wrapU (4294967296 * rB) (by omega))) (by kernel_rfl)) <| pkq (uN u0) <| ppq (uN (4294967296 * rB + u0)) (exec_cast (congrArg (Value.int .u64) (wrapU (4294967296 * rB + u0) (by omega))) (by kernel_rfl)) <| ppq (.bool true) (dct ((((qB * y0 : Nat) : Int)) > (((4294967296 * rB + u0 : Nat) : Int))) (by omega)) <| pkq (.bool true) ?_
          refine ey_ <| s_ <| then_n <| bl_ 3 <| qr_ [0, 1, 2] <| pkq (uN qB) <| ppq (uN (qB - 1)) (exec_cast (congrArg (Value.int .u64) (wrap_sub qB 1 qp (by omega))) (by kernel_rfl)) <| pkq (uN (qB - 1)) <| eqr_ [0, 1, 2, 3] <| pkq (uN rB) <| pkq (uN y1) <| ppq (uN (rB + y1)) (exec_cast (congrArg (Value.int .u64) (wrapU (rB + y1) (by omega))) (by kernel_rfl)) <| pkq (uN (rB + y1)) <| eqr_ [0, 1] ?_
          refine pkq (uN (rB + y1)) <| ppq (.bool false) (dcf ((((rB + y1 : Nat) : Int)) ≥ ((4294967296) : Int)) (by omega)) <| en_ <| s_ <| blk_n <| then_n ?_
          refine ⟨⟨qB - 1, rB + y1, (uN qB), (.bool false), (.bool false), (uN qB), (uN y0), (uN (qB * y0)), (uN rB), (uN (4294967296 * rB)), (uN u0), (uN (4294967296 * rB + u0)), (.bool true), (.bool true), (uN qB), (uN (qB - 1)), (uN rB), (uN y1), (uN (rB + y1)), (uN (rB + y1)), (.bool false), by kernel_rfl, hdn, by omega, by omega, K8⟩, ?_⟩
          exact lt_meas (x := qB - 1) (y := qB) (by kernel_rfl) (by kernel_rfl) (by omega)
        · obtain ⟨qp, hdn⟩ := dig_step hYs hy0 hy1p hu0 hVY hd (.inr hc)
          have hxB : qB - 1 = (Vr * 4294967296 + u0) / Y := dig_done hYs hy0 hy1p hu0 hVY hdn (.inr hr2)
          refine q_ <| qr_ [0, 1, 2, 3, 4, 5, 6, 7, 8, 9, 10, 11] <| pkq (uN qB) <| ppq (.bool false) (dcf ((((qB : Nat) : Int)) ≥ ((4294967296) : Int)) (by omega)) <| pkq (.bool false) <| pkq (uN qB) <| pkq (uN y0) <| ppq (uN (qB * y0)) (exec_cast (congrArg (Value.int .u64) (wrapU (qB * y0) (mul_small hq hy0))) (by kernel_rfl)) <| pkq (uN rB) <| ppq (uN (4294967296 * rB)) (exec_cast (congrArg (Value.int .u64) (wrapU (4294967296 * rB) (by omega))) (by kernel_rfl)) <| pkq (uN u0) <| ppq (uN (4294967296 * rB + u0)) (exec_cast (congrArg (Value.int .u64) (wrapU (4294967296 * rB + u0) (by omega))) (by kernel_rfl)) <| ppq (.bool true) (dct ((((qB * y0 : Nat) : Int)) > (((4294967296 * rB + u0 : Nat) : Int))) (by omega)) <| pkq (.bool true) ?_
          refine ey_ <| s_ <| then_n <| bl_ 3 <| qr_ [0, 1, 2] <| pkq (uN qB) <| ppq (uN (qB - 1)) (exec_cast (congrArg (Value.int .u64) (wrap_sub qB 1 qp (by omega))) (by kernel_rfl)) <| pkq (uN (qB - 1)) <| eqr_ [0, 1, 2, 3] <| pkq (uN rB) <| pkq (uN y1) <| ppq (uN (rB + y1)) (exec_cast (congrArg (Value.int .u64) (wrapU (rB + y1) (by omega))) (by kernel_rfl)) <| pkq (uN (rB + y1)) <| eqr_ [0, 1] ?_
          refine pkq (uN (rB + y1)) <| ppq (.bool true) (dct ((((rB + y1 : Nat) : Int)) ≥ ((4294967296) : Int)) (by omega)) <| ey_ <| sy_exit 2 (by kernel_rfl) <| blk_p (by decide) <| then_e <| blk_e <| tqr_ [0, 1, 2, 3, 4, 5, 6, 7, 8, 9, 10, 11, 12, 13, 14, 15] <| pkq (uN qA) <| ppq (uN (qA * 4294967296)) (exec_cast (congrArg (Value.int .u64) (wrapU (qA * 4294967296) (by have := dig_lt hYs hy0 hy1p hu1 hUY; rw [← hxA] at this; omega))) (by kernel_rfl)) <| pkq (uN (qB - 1)) <| ppq (uN ((hi * 18446744073709551616 + lo) / y)) (exec_cast (congrArg (Value.int .u64) ((wrapU (qA * 4294967296 + (qB - 1)) (by have g1 := dig_lt hYs hy0 hy1p hu1 hUY; have g2 := dig_lt hYs hy0 hy1p hu0 hVY; rw [← hxA] at g1; rw [← hxB] at g2; omega)).trans (congrArg (fun n : Nat => (n : Int)) (div_end hy1 hYe hsum hLs hxA hVr hxB)))) (by kernel_rfl)) <| pkq (uN Vr) <| pkq (.int .u64 (IntKind.u64.wrap (((Vr : Nat) : Int) * 4294967296))) ?_
          refine pkq (uN u0) <| pkq (.int .u64 (IntKind.u64.wrap (IntKind.u64.wrap (((Vr : Nat) : Int) * 4294967296) + ((u0 : Nat) : Int)))) <| pkq (uN (qB - 1)) <| pkq (uN Y) <| pkq (.int .u64 (IntKind.u64.wrap (((qB - 1 : Nat) : Int) * ((Y : Nat) : Int)))) <| ppq (uN ((Vr * 4294967296 + u0) % Y)) (exec_cast (congrArg (Value.int .u64) ((dig_rest hYs hy0 hy1p hu0 hVY hxB).resolve_right (by omega))) (by kernel_rfl)) <| pkq (uN s) <| ppq (uN (((Vr * 4294967296 + u0) % Y) >>> s)) (exec_binop .shr 40 169 (.tmp 132) (.tmp 133) (by kernel_rfl) (uN (((Vr * 4294967296 + u0) % Y))) (uN s) _ (by kernel_rfl) (by kernel_rfl) (by kernel_rfl) (run_shrU _ _ ((Vr * 4294967296 + u0) % Y) s (by omega))) <| pkq (uN ((hi * 18446744073709551616 + lo) / y)) <| pkq (uN (((Vr * 4294967296 + u0) % Y) >>> s)) <| ps_end <| sy_a ⟨#[uN hi, uN lo, uN Y, ud, ud, ud, uN ((hi * 18446744073709551616 + lo) / y), uN (((Vr * 4294967296 + u0) % Y) >>> s), uN s, uN y1, uN y0, uN U, uN L, uN u1, uN u0, uN qA, uN (rB + y1), uN Vr, uN (qB - 1), uN y, .bool false, ud, uN y, uN hi, .bool false, ud, uN hi, .bool false, ud, ud, ud, ud, ud, ud, uN y, iN s, uN s, uN y, uN s, uN Y, uN Y, uN y1, uN Y, uN y0, uN hi, uN s, uN ((hi <<< s) % Kec.W), uN lo, uN s, uN (64 - s), uN (lo >>> (64 - s)), uN U, uN lo, uN s, uN L, uN L, uN u1, uN L, uN u0, uN U, uN y1, uN (U / y1), uN U, uN (U / y1), uN y1, uN (U / y1 * y1), uN (U - U / y1 * y1), uN qA, .bool false, .bool false, uN qA, uN y0, uN (qA * y0), uN rA, uN (4294967296 * rA), uN u1, uN (4294967296 * rA + u1), .bool false, .bool false, u79, u80, u81, u82, u83, u84, u85, uN U, .int .u64 (IntKind.u64.wrap (((U : Nat) : Int) * 4294967296)), uN u1, .int .u64 (IntKind.u64.wrap (IntKind.u64.wrap (((U : Nat) : Int) * 4294967296) + ((u1 : Nat) : Int))), uN qA, uN Y, .int .u64 (IntKind.u64.wrap (((qA : Nat) : Int) * ((Y : Nat) : Int))), uN Vr, uN Vr, uN y1, uN (Vr / y1), uN Vr, uN (Vr / y1), uN y1, uN (Vr / y1 * y1), uN (Vr - Vr / y1 * y1), uN qB, .bool false, .bool false, uN qB, uN y0, uN (qB * y0), uN rB, uN (4294967296 * rB), uN u0, uN (4294967296 * rB + u0), .bool true, .bool true, uN qB, uN (qB - 1), uN rB, uN y1, uN (rB + y1), uN (rB + y1), .bool true, uN qA, uN (qA * 4294967296), uN (qB - 1), uN ((hi * 18446744073709551616 + lo) / y), uN Vr, .int .u64 (IntKind.u64.wrap (((Vr : Nat) : Int) * 4294967296)), uN u0, .int .u64 (IntKind.u64.wrap (IntKind.u64.wrap (((Vr : Nat) : Int) * 4294967296) + ((u0 : Nat) : Int))), uN (qB - 1), uN Y, .int .u64 (IntKind.u64.wrap (((qB - 1 : Nat) : Int) * ((Y : Nat) : Int))), uN ((Vr * 4294967296 + u0) % Y), uN s, uN (((Vr * 4294967296 + u0) % Y) >>> s)], []⟩ <| then_n <| u_ ?_
          refine so_ (.tuple #[.int .u64 (((hi * 18446744073709551616 + lo) / y : Nat) : Int), .int .u64 ((((Vr * 4294967296 + u0) % Y) >>> s : Nat) : Int)]) ?_
          exact ⟨_, rfl, K8⟩
        · have hxB : qB = (Vr * 4294967296 + u0) / Y := dig_done hYs hy0 hy1p hu0 hVY hd (.inl ⟨hq, hc⟩)
          refine q_ <| qr_ [0, 1, 2, 3, 4, 5, 6, 7, 8, 9, 10, 11] <| pkq (uN qB) <| ppq (.bool false) (dcf ((((qB : Nat) : Int)) ≥ ((4294967296) : Int)) (by omega)) <| pkq (.bool false) <| pkq (uN qB) <| pkq (uN y0) <| ppq (uN (qB * y0)) (exec_cast (congrArg (Value.int .u64) (wrapU (qB * y0) (mul_small hq hy0))) (by kernel_rfl)) <| pkq (uN rB) <| ppq (uN (4294967296 * rB)) (exec_cast (congrArg (Value.int .u64) (wrapU (4294967296 * rB) (by omega))) (by kernel_rfl)) <| pkq (uN u0) <| ppq (uN (4294967296 * rB + u0)) (exec_cast (congrArg (Value.int .u64) (wrapU (4294967296 * rB + u0) (by omega))) (by kernel_rfl)) <| ppq (.bool false) (dcf ((((qB * y0 : Nat) : Int)) > (((4294967296 * rB + u0 : Nat) : Int))) (by omega)) <| pkq (.bool false) ?_
          refine en_ <| sy_exit 2 (by kernel_rfl) <| then_e <| then_e <| blk_e <| tqr_ [0, 1, 2, 3, 4, 5, 6, 7, 8, 9, 10, 11, 12, 13, 14, 15] <| pkq (uN qA) <| ppq (uN (qA * 4294967296)) (exec_cast (congrArg (Value.int .u64) (wrapU (qA * 4294967296) (by have := dig_lt hYs hy0 hy1p hu1 hUY; rw [← hxA] at this; omega))) (by kernel_rfl)) <| pkq (uN qB) <| ppq (uN ((hi * 18446744073709551616 + lo) / y)) (exec_cast (congrArg (Value.int .u64) ((wrapU (qA * 4294967296 + qB) (by have g1 := dig_lt hYs hy0 hy1p hu1 hUY; have g2 := dig_lt hYs hy0 hy1p hu0 hVY; rw [← hxA] at g1; rw [← hxB] at g2; omega)).trans (congrArg (fun n : Nat => (n : Int)) (div_end hy1 hYe hsum hLs hxA hVr hxB)))) (by kernel_rfl)) <| pkq (uN Vr) <| pkq (.int .u64 (IntKind.u64.wrap (((Vr : Nat) : Int) * 4294967296))) <| pkq (uN u0) <| pkq (.int .u64 (IntKind.u64.wrap (IntKind.u64.wrap (((Vr : Nat) : Int) * 4294967296) + ((u0 : Nat) : Int)))) ?_
          refine pkq (uN qB) <| pkq (uN Y) <| pkq (.int .u64 (IntKind.u64.wrap (((qB : Nat) : Int) * ((Y : Nat) : Int)))) <| ppq (uN ((Vr * 4294967296 + u0) % Y)) (exec_cast (congrArg (Value.int .u64) ((dig_rest hYs hy0 hy1p hu0 hVY hxB).resolve_right (by omega))) (by kernel_rfl)) <| pkq (uN s) <| ppq (uN (((Vr * 4294967296 + u0) % Y) >>> s)) (exec_binop .shr 40 169 (.tmp 132) (.tmp 133) (by kernel_rfl) (uN (((Vr * 4294967296 + u0) % Y))) (uN s) _ (by kernel_rfl) (by kernel_rfl) (by kernel_rfl) (run_shrU _ _ ((Vr * 4294967296 + u0) % Y) s (by omega))) <| pkq (uN ((hi * 18446744073709551616 + lo) / y)) <| pkq (uN (((Vr * 4294967296 + u0) % Y) >>> s)) <| ps_end <| sy_a ⟨#[uN hi, uN lo, uN Y, ud, ud, ud, uN ((hi * 18446744073709551616 + lo) / y), uN (((Vr * 4294967296 + u0) % Y) >>> s), uN s, uN y1, uN y0, uN U, uN L, uN u1, uN u0, uN qA, uN rB, uN Vr, uN qB, uN y, .bool false, ud, uN y, uN hi, .bool false, ud, uN hi, .bool false, ud, ud, ud, ud, ud, ud, uN y, iN s, uN s, uN y, uN s, uN Y, uN Y, uN y1, uN Y, uN y0, uN hi, uN s, uN ((hi <<< s) % Kec.W), uN lo, uN s, uN (64 - s), uN (lo >>> (64 - s)), uN U, uN lo, uN s, uN L, uN L, uN u1, uN L, uN u0, uN U, uN y1, uN (U / y1), uN U, uN (U / y1), uN y1, uN (U / y1 * y1), uN (U - U / y1 * y1), uN qA, .bool false, .bool false, uN qA, uN y0, uN (qA * y0), uN rA, uN (4294967296 * rA), uN u1, uN (4294967296 * rA + u1), .bool false, .bool false, u79, u80, u81, u82, u83, u84, u85, uN U, .int .u64 (IntKind.u64.wrap (((U : Nat) : Int) * 4294967296)), uN u1, .int .u64 (IntKind.u64.wrap (IntKind.u64.wrap (((U : Nat) : Int) * 4294967296) + ((u1 : Nat) : Int))), uN qA, uN Y, .int .u64 (IntKind.u64.wrap (((qA : Nat) : Int) * ((Y : Nat) : Int))), uN Vr, uN Vr, uN y1, uN (Vr / y1), uN Vr, uN (Vr / y1), uN y1, uN (Vr / y1 * y1), uN (Vr - Vr / y1 * y1), uN qB, .bool false, .bool false, uN qB, uN y0, uN (qB * y0), uN rB, uN (4294967296 * rB), uN u0, uN (4294967296 * rB + u0), .bool false, .bool false, u114, u115, u116, u117, u118, u119, u120, uN qA, uN (qA * 4294967296), uN qB, uN ((hi * 18446744073709551616 + lo) / y), uN Vr, .int .u64 (IntKind.u64.wrap (((Vr : Nat) : Int) * 4294967296)), uN u0, .int .u64 (IntKind.u64.wrap (IntKind.u64.wrap (((Vr : Nat) : Int) * 4294967296) + ((u0 : Nat) : Int))), uN qB, uN Y, .int .u64 (IntKind.u64.wrap (((qB : Nat) : Int) * ((Y : Nat) : Int))), uN ((Vr * 4294967296 + u0) % Y), uN s, uN (((Vr * 4294967296 + u0) % Y) >>> s)], []⟩ <| then_n <| u_ <| so_ (.tuple #[.int .u64 (((hi * 18446744073709551616 + lo) / y : Nat) : Int), .int .u64 ((((Vr * 4294967296 + u0) % Y) >>> s : Nat) : Int)]) ?_
          exact ⟨_, rfl, K8⟩
/-- Div64: the quotient of two words by one that is above the higher one. -/
theorem bDiv64_ok (hi lo y : Nat) (hh : hi < y) (hy2 : y < 18446744073709551616) (hlo : lo < 18446744073709551616) (w : World) : Calls Tryz.prog 94 #[.int .u64 ((hi : Nat) : Int), .int .u64 ((lo : Nat) : Int), .int .u64 ((y : Nat) : Int)] w (fun e w' => ∃ r : Nat, e = .returned (.tuple #[.int .u64 (((hi * 18446744073709551616 + lo) / y : Nat) : Int), .int .u64 ((r : Nat) : Int)]) ∧ Keeps Nob w w') := by
  by_cases hz : hi = 0
  · exact bDiv64_zero hi lo y hz (by omega) hlo w
  · exact bDiv64_pos hi lo y (by omega) hh hy2 hlo w
end Go.Proofs.YtghohakbepeffaaGreatDoor
namespace Go.Proofs.YtghohakbepeffaaGreatDoor
set_option maxRecDepth 100000
set_option maxHeartbeats 4000000
open Go Go.RowKit Go.Own Go.Shelf
theorem run_sub0 (x y : Nat) (w : World) : (callFunc 95 #[.int .u64 ((x : Nat) : Int), .int .u64 ((y : Nat) : Int), .int .u64 ((0 : Nat) : Int)]).run Tryz.prog w = .ok (.value (.tuple #[.int .u64 (((x + 18446744073709551616 - y - 0) % 18446744073709551616 : Nat) : Int), .int .u64 ((if x < y + 0 then 1 else 0 : Nat) : Int)])) w := by kernel_rfl
theorem run_sub1 (x y : Nat) (w : World) : (callFunc 95 #[.int .u64 ((x : Nat) : Int), .int .u64 ((y : Nat) : Int), .int .u64 ((1 : Nat) : Int)]).run Tryz.prog w = .ok (.value (.tuple #[.int .u64 (((x + 18446744073709551616 - y - 1) % 18446744073709551616 : Nat) : Int), .int .u64 ((if x < y + 1 then 1 else 0 : Nat) : Int)])) w := by kernel_rfl
theorem run_bSub64 (x y b : Nat) (hb : b ≤ 1) (w : World) : (callFunc 95 #[.int .u64 ((x : Nat) : Int), .int .u64 ((y : Nat) : Int), .int .u64 ((b : Nat) : Int)]).run Tryz.prog w = .ok (.value (.tuple #[.int .u64 (((x + 18446744073709551616 - y - b) % 18446744073709551616 : Nat) : Int), .int .u64 ((if x < y + b then 1 else 0 : Nat) : Int)])) w := by
  match b, hb with
  | 0, _ => exact run_sub0 x y w
  | 1, _ => exact run_sub1 x y w
theorem shr32 (x : Nat) : x >>> 32 = x / 4294967296 := Nat.shiftRight_eq_div_pow x 32
theorem and32 (x : Nat) : x &&& 4294967295 = x % 4294967296 := Nat.and_two_pow_sub_one_eq_mod x 32
theorem over_law {hi lo c : Nat} (_ : 0 < c) : (hi * 18446744073709551616 + lo) / c = hi / c * 18446744073709551616 + (hi % c * 18446744073709551616 + lo) / c := by
  have e := Nat.div_add_mod hi c
  have : hi * 18446744073709551616 + lo = (hi % c * 18446744073709551616 + lo) + c * (hi / c * 18446744073709551616) := by
    rw [← Nat.mul_assoc]
    conv => lhs; rw [← e]
    rw [Nat.add_mul]; omega
  rw [this, Nat.add_mul_div_left _ _ (by omega)]
  omega
theorem over_lt {hi lo c : Nat} (hc : 0 < c) (hl : lo < 18446744073709551616) : (hi % c * 18446744073709551616 + lo) / c < 18446744073709551616 := by
  rw [Nat.div_lt_iff_lt_mul hc]
  have := Nat.mod_lt hi hc
  have g := Nat.mul_le_mul_right 18446744073709551616 (Nat.succ_le_of_lt this)
  rw [Nat.mul_comm 18446744073709551616 c]
  rw [Nat.succ_mul] at g
  omega
noncomputable def qc54_3 (n : Nat) : Code := partOf Tryz.f93 n
theorem bMul64_ok (x y : Nat) (hx : x < 18446744073709551616) (hy : y < 18446744073709551616) (w : World) :
    Calls Tryz.prog 93 #[.int .u64 ((x : Nat) : Int), .int .u64 ((y : Nat) : Int)] w (fun e w' => e = .returned (.tuple #[.int .u64 ((x * y / 18446744073709551616 : Nat) : Int), .int .u64 ((x * y % 18446744073709551616 : Nat) : Int)]) ∧ w = w') := by
  obtain ⟨bd, bt, bw, hhi⟩ := Lib.mul64_hi x y hx hy
  have ba : (x / 4294967296) * (y / 4294967296) < 18446744073709551616 := by have := Lib.half_mul_le (a := x / 4294967296) (b := y / 4294967296) (by omega) (by omega); omega
  have bb : (x / 4294967296) * (y % 4294967296) < 18446744073709551616 := by have := Lib.half_mul_le (a := x / 4294967296) (b := y % 4294967296) (by omega) (by omega); omega
  have bc : (x % 4294967296) * (y / 4294967296) < 18446744073709551616 := by have := Lib.half_mul_le (a := x % 4294967296) (b := y / 4294967296) (by omega) (by omega); omega
  have bz : x * y / 18446744073709551616 < 18446744073709551616 := by rw [Nat.div_lt_iff_lt_mul (by decide)]; exact Nat.mul_lt_mul'' hx hy
  have K0 : Keeps Nob w w := Keeps.refl _ _
  refine sy_enter (qc54_3 1) ⟨#[uN x, uN y, ud, ud, ud, ud, ud, ud, ud, ud, ud, ud, ud, ud, ud, ud, ud, ud, ud, ud, ud, ud, ud, ud, ud, ud, ud, ud, ud, ud, ud, ud, ud, ud, ud, ud, ud, ud, ud, ud, ud, ud, ud, ud, ud, ud, ud, ud, ud, ud, ud], []⟩ Tryz.func93 (by kernel_rfl) (by kernel_rfl) <| qr_ [0, 1] <| pkq (.int .u64 0) <| pkq (.int .u64 0) <| eqr_ [0, 1, 2] <| pkq (uN x) <| ppq (uN (x % 4294967296)) (exec_cast ((andU x 4294967295 (show x < Kec.W from hx) (by decide)).trans (congrArg (fun n : Nat => Value.int .u64 (n : Int)) (and32 x))) (by kernel_rfl)) <| pkq (uN (x % 4294967296)) <| eqr_ [0, 1, 2] <| pkq (uN x) <| ppq (uN (x / 4294967296)) (exec_cast (congrArg (fun n : Nat => Value.int .u64 (n : Int)) (shr32 x)) (exec_binop .shr 40 169 (.tmp 16) (.const (.int .u64 32)) (by kernel_rfl) (uN x) (uN 32) _ (by kernel_rfl) (by kernel_rfl) (by kernel_rfl) (run_shrU _ _ x 32 (by omega)))) <| pkq (uN (x / 4294967296)) <| eqr_ [0, 1, 2] <| pkq (uN y) ?_
  refine ppq (uN (y % 4294967296)) (exec_cast ((andU y 4294967295 (show y < Kec.W from hy) (by decide)).trans (congrArg (fun n : Nat => Value.int .u64 (n : Int)) (and32 y))) (by kernel_rfl)) <| pkq (uN (y % 4294967296)) <| eqr_ [0, 1, 2] <| pkq (uN y) <| ppq (uN (y / 4294967296)) (exec_cast (congrArg (fun n : Nat => Value.int .u64 (n : Int)) (shr32 y)) (exec_binop .shr 40 169 (.tmp 20) (.const (.int .u64 32)) (by kernel_rfl) (uN y) (uN 32) _ (by kernel_rfl) (by kernel_rfl) (by kernel_rfl) (run_shrU _ _ y 32 (by omega)))) <| pkq (uN (y / 4294967296)) <| eqr_ [0, 1, 2, 3] <| pkq (uN (x % 4294967296)) <| pkq (uN (y % 4294967296)) <| ppq (uN ((x % 4294967296) * (y % 4294967296))) (exec_cast (congrArg (Value.int .u64) (wrapU ((x % 4294967296) * (y % 4294967296)) (bd))) (by kernel_rfl)) <| pkq (uN ((x % 4294967296) * (y % 4294967296))) <| eqr_ [0, 1, 2, 3, 4, 5, 6] <| pkq (uN (x / 4294967296)) <| pkq (uN (y % 4294967296)) ?_
  refine ppq (uN ((x / 4294967296) * (y % 4294967296))) (exec_cast (congrArg (Value.int .u64) (wrapU ((x / 4294967296) * (y % 4294967296)) (bb))) (by kernel_rfl)) <| pkq (uN ((x % 4294967296) * (y % 4294967296))) <| ppq (uN (((x % 4294967296) * (y % 4294967296)) / 4294967296)) (exec_cast (congrArg (fun n : Nat => Value.int .u64 (n : Int)) (shr32 ((x % 4294967296) * (y % 4294967296)))) (exec_binop .shr 40 169 (.tmp 28) (.const (.int .u64 32)) (by kernel_rfl) (uN ((x % 4294967296) * (y % 4294967296))) (uN 32) _ (by kernel_rfl) (by kernel_rfl) (by kernel_rfl) (run_shrU _ _ ((x % 4294967296) * (y % 4294967296)) 32 (by omega)))) <| ppq (uN ((x / 4294967296) * (y % 4294967296) + ((x % 4294967296) * (y % 4294967296)) / 4294967296)) (exec_cast (congrArg (Value.int .u64) (wrapU ((x / 4294967296) * (y % 4294967296) + ((x % 4294967296) * (y % 4294967296)) / 4294967296) (bt))) (by kernel_rfl)) <| pkq (uN ((x / 4294967296) * (y % 4294967296) + ((x % 4294967296) * (y % 4294967296)) / 4294967296)) <| ps_end <| sy_a ⟨#[uN x, uN y, ud, ud, .int .u64 0, .int .u64 0, uN (x % 4294967296), uN (x / 4294967296), uN (y % 4294967296), uN (y / 4294967296), uN ((x % 4294967296) * (y % 4294967296)), uN ((x / 4294967296) * (y % 4294967296) + ((x % 4294967296) * (y % 4294967296)) / 4294967296), ud, ud, uN x, uN (x % 4294967296), uN x, uN (x / 4294967296), uN y, uN (y % 4294967296), uN y, uN (y / 4294967296), uN (x % 4294967296), uN (y % 4294967296), uN ((x % 4294967296) * (y % 4294967296)), uN (x / 4294967296), uN (y % 4294967296), uN ((x / 4294967296) * (y % 4294967296)), uN ((x % 4294967296) * (y % 4294967296)), uN (((x % 4294967296) * (y % 4294967296)) / 4294967296), uN ((x / 4294967296) * (y % 4294967296) + ((x % 4294967296) * (y % 4294967296)) / 4294967296), ud, ud, ud, ud, ud, ud, ud, ud, ud, ud, ud, ud, ud, ud, ud, ud, ud, ud, ud, ud], []⟩ <| tqr_ [0, 1, 2] <| pkq (uN ((x / 4294967296) * (y % 4294967296) + ((x % 4294967296) * (y % 4294967296)) / 4294967296)) <| ppq (uN (((x / 4294967296) * (y % 4294967296) + ((x % 4294967296) * (y % 4294967296)) / 4294967296) % 4294967296)) (exec_cast ((andU ((x / 4294967296) * (y % 4294967296) + ((x % 4294967296) * (y % 4294967296)) / 4294967296) 4294967295 (show _ < Kec.W from bt) (by decide)).trans (congrArg (fun n : Nat => Value.int .u64 (n : Int)) (and32 ((x / 4294967296) * (y % 4294967296) + ((x % 4294967296) * (y % 4294967296)) / 4294967296)))) (by kernel_rfl)) <| pkq (uN (((x / 4294967296) * (y % 4294967296) + ((x % 4294967296) * (y % 4294967296)) / 4294967296) % 4294967296)) <| eqr_ [0, 1, 2] <| pkq (uN ((x / 4294967296) * (y % 4294967296) + ((x % 4294967296) * (y % 4294967296)) / 4294967296)) <| ppq (uN (((x / 4294967296) * (y % 4294967296) + ((x % 4294967296) * (y % 4294967296)) / 4294967296) / 4294967296)) (exec_cast (congrArg (fun n : Nat => Value.int .u64 (n : Int)) (shr32 ((x / 4294967296) * (y % 4294967296) + ((x % 4294967296) * (y % 4294967296)) / 4294967296))) (exec_binop .shr 40 169 (.tmp 33) (.const (.int .u64 32)) (by kernel_rfl) (uN ((x / 4294967296) * (y % 4294967296) + ((x % 4294967296) * (y % 4294967296)) / 4294967296)) (uN 32) _ (by kernel_rfl) (by kernel_rfl) (by kernel_rfl) (run_shrU _ _ ((x / 4294967296) * (y % 4294967296) + ((x % 4294967296) * (y % 4294967296)) / 4294967296) 32 (by omega)))) ?_
  refine pkq (uN (((x / 4294967296) * (y % 4294967296) + ((x % 4294967296) * (y % 4294967296)) / 4294967296) / 4294967296)) <| eqr_ [0, 1, 2, 3, 4, 5] <| pkq (uN (((x / 4294967296) * (y % 4294967296) + ((x % 4294967296) * (y % 4294967296)) / 4294967296) % 4294967296)) <| pkq (uN (x % 4294967296)) <| pkq (uN (y / 4294967296)) <| ppq (uN ((x % 4294967296) * (y / 4294967296))) (exec_cast (congrArg (Value.int .u64) (wrapU ((x % 4294967296) * (y / 4294967296)) (bc))) (by kernel_rfl)) <| ppq (uN (((x / 4294967296) * (y % 4294967296) + ((x % 4294967296) * (y % 4294967296)) / 4294967296) % 4294967296 + (x % 4294967296) * (y / 4294967296))) (exec_cast (congrArg (Value.int .u64) (wrapU (((x / 4294967296) * (y % 4294967296) + ((x % 4294967296) * (y % 4294967296)) / 4294967296) % 4294967296 + (x % 4294967296) * (y / 4294967296)) (bw))) (by kernel_rfl)) <| pkq (uN (((x / 4294967296) * (y % 4294967296) + ((x % 4294967296) * (y % 4294967296)) / 4294967296) % 4294967296 + (x % 4294967296) * (y / 4294967296))) <| eqr_ [0, 1, 2, 3, 4, 5, 6, 7, 8] <| pkq (uN (x / 4294967296)) <| pkq (uN (y / 4294967296)) <| ppq (uN ((x / 4294967296) * (y / 4294967296))) (exec_cast (congrArg (Value.int .u64) (wrapU ((x / 4294967296) * (y / 4294967296)) (ba))) (by kernel_rfl)) <| pkq (uN (((x / 4294967296) * (y % 4294967296) + ((x % 4294967296) * (y % 4294967296)) / 4294967296) / 4294967296)) <| ppq (uN ((x / 4294967296) * (y / 4294967296) + ((x / 4294967296) * (y % 4294967296) + ((x % 4294967296) * (y % 4294967296)) / 4294967296) / 4294967296)) (exec_cast (congrArg (Value.int .u64) (wrapU ((x / 4294967296) * (y / 4294967296) + ((x / 4294967296) * (y % 4294967296) + ((x % 4294967296) * (y % 4294967296)) / 4294967296) / 4294967296) (by omega))) (by kernel_rfl)) ?_
  refine pkq (uN (((x / 4294967296) * (y % 4294967296) + ((x % 4294967296) * (y % 4294967296)) / 4294967296) % 4294967296 + (x % 4294967296) * (y / 4294967296))) <| ppq (uN ((((x / 4294967296) * (y % 4294967296) + ((x % 4294967296) * (y % 4294967296)) / 4294967296) % 4294967296 + (x % 4294967296) * (y / 4294967296)) / 4294967296)) (exec_cast (congrArg (fun n : Nat => Value.int .u64 (n : Int)) (shr32 (((x / 4294967296) * (y % 4294967296) + ((x % 4294967296) * (y % 4294967296)) / 4294967296) % 4294967296 + (x % 4294967296) * (y / 4294967296)))) (exec_binop .shr 40 169 (.tmp 45) (.const (.int .u64 32)) (by kernel_rfl) (uN (((x / 4294967296) * (y % 4294967296) + ((x % 4294967296) * (y % 4294967296)) / 4294967296) % 4294967296 + (x % 4294967296) * (y / 4294967296))) (uN 32) _ (by kernel_rfl) (by kernel_rfl) (by kernel_rfl) (run_shrU _ _ (((x / 4294967296) * (y % 4294967296) + ((x % 4294967296) * (y % 4294967296)) / 4294967296) % 4294967296 + (x % 4294967296) * (y / 4294967296)) 32 (by omega)))) <| ppq (uN (x * y / 18446744073709551616)) (exec_cast (congrArg (Value.int .u64) ((wrapU ((x / 4294967296) * (y / 4294967296) + ((x / 4294967296) * (y % 4294967296) + ((x % 4294967296) * (y % 4294967296)) / 4294967296) / 4294967296 + (((x / 4294967296) * (y % 4294967296) + ((x % 4294967296) * (y % 4294967296)) / 4294967296) % 4294967296 + (x % 4294967296) * (y / 4294967296)) / 4294967296) (by omega)).trans (congrArg (fun n : Nat => (n : Int)) hhi))) (by kernel_rfl)) <| pkq (uN (x * y / 18446744073709551616)) <| eqr_ [0, 1, 2, 3] <| pkq (uN x) <| pkq (uN y) <| ppq (uN (x * y % 18446744073709551616)) (exec_cast (congrArg (Value.int .u64) (wrapM (x * y))) (by kernel_rfl)) <| pkq (uN (x * y % 18446744073709551616)) <| ps_end <| sy_a ⟨#[uN x, uN y, ud, ud, uN (x * y / 18446744073709551616), uN (x * y % 18446744073709551616), uN (x % 4294967296), uN (x / 4294967296), uN (y % 4294967296), uN (y / 4294967296), uN ((x % 4294967296) * (y % 4294967296)), uN ((x / 4294967296) * (y % 4294967296) + ((x % 4294967296) * (y % 4294967296)) / 4294967296), uN (((x / 4294967296) * (y % 4294967296) + ((x % 4294967296) * (y % 4294967296)) / 4294967296) % 4294967296 + (x % 4294967296) * (y / 4294967296)), uN (((x / 4294967296) * (y % 4294967296) + ((x % 4294967296) * (y % 4294967296)) / 4294967296) / 4294967296), uN x, uN (x % 4294967296), uN x, uN (x / 4294967296), uN y, uN (y % 4294967296), uN y, uN (y / 4294967296), uN (x % 4294967296), uN (y % 4294967296), uN ((x % 4294967296) * (y % 4294967296)), uN (x / 4294967296), uN (y % 4294967296), uN ((x / 4294967296) * (y % 4294967296)), uN ((x % 4294967296) * (y % 4294967296)), uN (((x % 4294967296) * (y % 4294967296)) / 4294967296), uN ((x / 4294967296) * (y % 4294967296) + ((x % 4294967296) * (y % 4294967296)) / 4294967296), uN ((x / 4294967296) * (y % 4294967296) + ((x % 4294967296) * (y % 4294967296)) / 4294967296), uN (((x / 4294967296) * (y % 4294967296) + ((x % 4294967296) * (y % 4294967296)) / 4294967296) % 4294967296), uN ((x / 4294967296) * (y % 4294967296) + ((x % 4294967296) * (y % 4294967296)) / 4294967296), uN (((x / 4294967296) * (y % 4294967296) + ((x % 4294967296) * (y % 4294967296)) / 4294967296) / 4294967296), uN (((x / 4294967296) * (y % 4294967296) + ((x % 4294967296) * (y % 4294967296)) / 4294967296) % 4294967296), uN (x % 4294967296), uN (y / 4294967296), uN ((x % 4294967296) * (y / 4294967296)), uN (((x / 4294967296) * (y % 4294967296) + ((x % 4294967296) * (y % 4294967296)) / 4294967296) % 4294967296 + (x % 4294967296) * (y / 4294967296)), uN (x / 4294967296), uN (y / 4294967296), uN ((x / 4294967296) * (y / 4294967296)), uN (((x / 4294967296) * (y % 4294967296) + ((x % 4294967296) * (y % 4294967296)) / 4294967296) / 4294967296), uN ((x / 4294967296) * (y / 4294967296) + ((x / 4294967296) * (y % 4294967296) + ((x % 4294967296) * (y % 4294967296)) / 4294967296) / 4294967296), uN (((x / 4294967296) * (y % 4294967296) + ((x % 4294967296) * (y % 4294967296)) / 4294967296) % 4294967296 + (x % 4294967296) * (y / 4294967296)), uN ((((x / 4294967296) * (y % 4294967296) + ((x % 4294967296) * (y % 4294967296)) / 4294967296) % 4294967296 + (x % 4294967296) * (y / 4294967296)) / 4294967296), uN (x * y / 18446744073709551616), uN x, uN y, uN (x * y % 18446744073709551616)], []⟩ <| then_n <| u_ <| so_ (.tuple #[.int .u64 ((x * y / 18446744073709551616 : Nat) : Int), .int .u64 ((x * y % 18446744073709551616 : Nat) : Int)]) ?_
  exact ⟨rfl, rfl⟩
noncomputable def qc54_1 (n : Nat) : Code := partOf Tryz.f79 n
theorem fxTimes_ok (x y : Nat) (hx : x < 18446744073709551616) (hy : y < 18446744073709551616) (w : World) :
    Calls Tryz.prog 79 #[.int .u64 ((x : Nat) : Int), .int .u64 ((y : Nat) : Int)] w (fun e w' => e = .returned (.agg #[.int .u64 ((x * y / 18446744073709551616 : Nat) : Int), .int .u64 ((x * y % 18446744073709551616 : Nat) : Int)]) ∧ Keeps Nob w w') := by
  have K0 : Keeps Nob w w := Keeps.refl _ _
  refine sy_enter (qc54_1 1) ⟨#[uN x, uN y, ud, ud, ud, ud, ud, ud, ud, ud, ud, ud, ud, ud, ud, ud], []⟩ Tryz.func79 (by kernel_rfl) (by kernel_rfl) <| qr_ [0] <| pal 123 (#[.int .u64 0, .int .u64 0]) (.agg (#[.int .u64 0, .int .u64 0])) fun V1 gw egw h2 kV1 => ?_
  have n3 : w.heap.size ≤ gw := egw ▸ K0.size
  have K4 := K0.nn kV1
  have z5 := kV1.size
  refine eqr_ [0, 1, 2, 3, 4, 5, 6, 7] <| pkq (uN x) <| pkq (uN y) ?_
  refine pcq 93 #[uN x, uN y] Tryz.func93 ((bMul64_ok x y hx hy _).mono ?_)
  rintro e w1 ⟨rfl, rfl⟩
  refine ⟨_, rfl, ?_⟩
  refine pkq (.tuple #[uN (x * y / 18446744073709551616), uN (x * y % 18446744073709551616)]) <| pkq (uN (x * y / 18446744073709551616)) <| pkq (uN (x * y % 18446744073709551616)) <| pkq (uN (x * y / 18446744073709551616)) <| pkq (uN (x * y % 18446744073709551616)) <| eqr_ [0, 1, 2, 3] <| pkq (uN (x * y / 18446744073709551616)) <| pkq (uN (x * y % 18446744073709551616)) <| pkq (.agg #[uN (x * y / 18446744073709551616), uN (x * y % 18446744073709551616)]) ?_
  obtain ⟨V6, eV6, kV6⟩ := rowset_step V1 gw (#[.int .u64 ((x * y / 18446744073709551616 : Nat) : Int), .int .u64 ((x * y % 18446744073709551616 : Nat) : Int)])
  have h7 : V6.heap[gw]? = some (.cells (#[.int .u64 ((x * y / 18446744073709551616 : Nat) : Int), .int .u64 ((x * y % 18446744073709551616 : Nat) : Int)]) 123 (0, 0)) := eV6 ▸ setRow_heap _ _ _ _ _ _ h2
  refine pzq (w' := V6) (by rw [← eV6]; exact exec_store_row 123 (.tmp 4) (.tmp 15) (by kernel_rfl) gw (#[uN (x * y / 18446744073709551616), uN (x * y % 18446744073709551616)]) (by kernel_rfl) (by kernel_rfl) 123 (#[.int .u64 0, .int .u64 0]) h2 (by kernel_rfl) rfl (by kernel_rfl)) ?_
  clear eV6
  have K8 := K4.nO kV6
  have z9 := kV6.size
  refine eu_ <| sy_out (.agg (#[.int .u64 ((x * y / 18446744073709551616 : Nat) : Int), .int .u64 ((x * y % 18446744073709551616 : Nat) : Int)])) rfl (results_cell_row (p := 4) (ty := 123) (by kernel_rfl) _ _ gw 123 (#[.int .u64 ((x * y / 18446744073709551616 : Nat) : Int), .int .u64 ((x * y % 18446744073709551616 : Nat) : Int)]) (0, 0) _ (by kernel_rfl) h7 Tryz.underlying123 rfl (by kernel_rfl)) ?_
  exact ⟨rfl, K8⟩
noncomputable def qc54_4 (n : Nat) : Code := partOf Tryz.f80 n
theorem fxOver_ok (hi lo c : Nat) (hhi : hi < 18446744073709551616) (hlo : lo < 18446744073709551616) (hc : 0 < c) (hc2 : c < 18446744073709551616) (w : World) :
    Calls Tryz.prog 80 #[.agg #[.int .u64 ((hi : Nat) : Int), .int .u64 ((lo : Nat) : Int)], .int .u64 ((c : Nat) : Int)] w (fun e w' => ∃ r : Nat, e = .returned (.tuple #[.agg #[.int .u64 ((hi / c : Nat) : Int), .int .u64 (((hi % c * 18446744073709551616 + lo) / c : Nat) : Int)], .int .u64 ((r : Nat) : Int)]) ∧ Keeps Nob w w') := by
  have K0 : Keeps Nob w w := Keeps.refl _ _
  refine sy_enter (qc54_4 1) ⟨#[.agg #[uN hi, uN lo], uN c, ud, ud, ud, ud, ud, ud, ud, ud, ud, ud, ud, ud, ud, ud, ud, ud, ud, ud, ud, ud, ud, ud, ud, ud], []⟩ Tryz.func80 (by kernel_rfl) (by kernel_rfl) <| qr_ [0, 1, 2] <| pbx 123 (#[.int .u64 ((hi : Nat) : Int), .int .u64 ((lo : Nat) : Int)]) (.agg #[uN hi, uN lo]) fun V1 gx egx h2 kV1 => ?_
  have n3 : w.heap.size ≤ gx := egx ▸ K0.size
  have K4 := K0.nn kV1
  have z5 := kV1.size
  refine pal 123 (#[.int .u64 0, .int .u64 0]) (.agg (#[.int .u64 0, .int .u64 0])) fun V6 gw egw h7 kV6 => ?_
  have n8 : gx < gw := egw ▸ lt_of_block h2
  have n9 : w.heap.size ≤ gw := egw ▸ K4.size
  have h10 := kV6.bk h2
  have K11 := K4.nn kV6
  have z12 := kV6.size
  refine pkq (.int .u64 0) <| eq_ <| sy_np <| sy_reg <| an_begin 1 13 (opsAt (qc54_4 6)) (fun W => (W.heap[gx]? = some (.cells (#[.int .u64 ((hi : Nat) : Int), .int .u64 ((lo : Nat) : Int)]) 123 (0, 0))) ∧ (W.heap[gw]? = some (.cells (#[.int .u64 0, .int .u64 0]) 123 (0, 0)))) #[false, false, false, false, false, false, false, false, false, false, false, false, false] (by kernel_rfl) (by kernel_rfl) (by kernel_rfl) (by kernel_rfl) ?_
  obtain ⟨V13, eV13, kV13⟩ := drew_step V6
  rw [eV13]
  clear eV13
  have h14 := kV13.bk h10
  have h15 := kV13.bk h7
  have K16 := K11.nn kV13
  have z17 := kV13.size
  refine akq 0 (pT gx 0) ⟨h14, h15⟩ <| avq 1 (uN hi) (fun W hS => ldc 40 gx 0 (rc (hS.1) (by kernel_rfl))) ⟨h14, h15⟩ <| akq 2 (uN c) ⟨h14, h15⟩ <| avq 3 (uN (hi % c)) (fun W hS => exec_remU 40 40 (.tmp 10) (.tmp 11) (by kernel_rfl) hi c (by kernel_rfl) (by kernel_rfl) hc hhi) ⟨h14, h15⟩ <| akq 4 (pT gx 1) ⟨h14, h15⟩ <| avq 5 (uN lo) (fun W hS => ldc 40 gx 1 (rc (hS.1) (by kernel_rfl))) ⟨h14, h15⟩ <| akq 6 (uN c) ⟨h14, h15⟩ <| an_o 7 ?_
  refine ncq 94 #[uN (hi % c), uN lo, uN c] Tryz.func94 ((bDiv64_ok (hi % c) lo c (Nat.mod_lt _ hc) hc2 hlo _).mono ?_)
  rintro e V18 ⟨r, rfl, kV18⟩
  refine ⟨_, rfl, ?_⟩
  have h19 := kV18.bk h14
  have h20 := kV18.bk h15
  have K21 := K16.nn kV18
  have z22 := kV18.size
  refine ⟨⟨h19, h20⟩, ?_⟩
  refine akq 8 (.tuple #[uN ((hi % c * 18446744073709551616 + lo) / c), uN r]) ⟨h19, h20⟩ <| akq 9 (uN ((hi % c * 18446744073709551616 + lo) / c)) ⟨h19, h20⟩ <| akq 10 (uN r) ⟨h19, h20⟩ <| an_o 11 <| nrq (uN ((hi % c * 18446744073709551616 + lo) / c)) (w' := V18) (by kernel_rfl) ?_
  refine ⟨⟨h19, h20⟩, ?_⟩
  refine an_o 12 <| nrq (uN r) (w' := V18) (by kernel_rfl) ?_
  refine ⟨⟨h19, h20⟩, ?_⟩
  refine an_end (by kernel_rfl) <| tqr_ [0, 1, 2, 3, 4, 5, 6, 7, 8] <| pkq (pT gx 0) <| ppq (uN hi) (ldk 40 gx 0 h19) <| pkq (uN c) <| ppq (uN (hi / c)) (exec_quoU 40 40 (.tmp 20) (.tmp 21) (by kernel_rfl) hi c (by kernel_rfl) (by kernel_rfl) hc hhi) <| pkq (uN ((hi % c * 18446744073709551616 + lo) / c)) <| pkq (.agg #[uN (hi / c), uN ((hi % c * 18446744073709551616 + lo) / c)]) <| pkq (uN r) ?_
  obtain ⟨V23, eV23, kV23⟩ := rowset_step V18 gw (#[.int .u64 ((hi / c : Nat) : Int), .int .u64 (((hi % c * 18446744073709551616 + lo) / c : Nat) : Int)])
  have h24 : V23.heap[gw]? = some (.cells (#[.int .u64 ((hi / c : Nat) : Int), .int .u64 (((hi % c * 18446744073709551616 + lo) / c : Nat) : Int)]) 123 (0, 0)) := eV23 ▸ setRow_heap _ _ _ _ _ _ h20
  refine pzq (w' := V23) (by rw [← eV23]; exact exec_store_row 123 (.tmp 4) (.tmp 24) (by kernel_rfl) gw (#[uN (hi / c), uN ((hi % c * 18446744073709551616 + lo) / c)]) (by kernel_rfl) (by kernel_rfl) 123 (#[.int .u64 0, .int .u64 0]) h20 (by kernel_rfl) rfl (by kernel_rfl)) ?_
  clear eV23
  have K26 := K21.nO kV23
  have z27 := kV23.size
  refine pkq (uN r) <| ps_end <| sy_a ⟨#[.agg #[uN hi, uN lo], uN c, pT gx 0, ud, pT gw 0, uN r, uN ((hi % c * 18446744073709551616 + lo) / c), uN r, .tuple #[uN ((hi % c * 18446744073709551616 + lo) / c), uN r], pT gx 0, uN hi, uN c, uN (hi % c), pT gx 1, uN lo, uN c, .tuple #[uN ((hi % c * 18446744073709551616 + lo) / c), uN r], uN ((hi % c * 18446744073709551616 + lo) / c), uN r, pT gx 0, uN hi, uN c, uN (hi / c), uN ((hi % c * 18446744073709551616 + lo) / c), .agg #[uN (hi / c), uN ((hi % c * 18446744073709551616 + lo) / c)], uN r], []⟩ <| then_n <| u_ <| sy_out (.tuple #[.agg (#[.int .u64 ((hi / c : Nat) : Int), .int .u64 (((hi % c * 18446744073709551616 + lo) / c : Nat) : Int)]), .int .u64 ((r : Nat) : Int)]) rfl (results_row_tmp (p := 4) (q := 5) (ty := 123) (by kernel_rfl) _ _ gw 123 (#[.int .u64 ((hi / c : Nat) : Int), .int .u64 (((hi % c * 18446744073709551616 + lo) / c : Nat) : Int)]) (0, 0) _ (.int .u64 ((r : Nat) : Int)) (by kernel_rfl) h24 Tryz.underlying123 rfl (by kernel_rfl) (by kernel_rfl)) ?_
  exact ⟨_, rfl, K26⟩
noncomputable def qc54_2 (n : Nat) : Code := partOf Tryz.f81 n
theorem fxBelow_ok (m hi lo : Nat) (hm : m < 18446744073709551616) (hhi : hi < 18446744073709551616) (hlo : lo < 18446744073709551616) (w : World) :
    Calls Tryz.prog 81 #[.agg #[.int .u64 0, .int .u64 ((m : Nat) : Int)], .agg #[.int .u64 ((hi : Nat) : Int), .int .u64 ((lo : Nat) : Int)]] w (fun e w' => e = .returned (.bool (decide (0 < hi ∨ m < lo))) ∧ Keeps Nob w w') := by
  obtain ⟨bo, hbo⟩ : ∃ z, (if m < lo + 0 then 1 else 0 : Nat) = z := ⟨_, rfl⟩
  have hb1 : bo ≤ 1 := by rw [← hbo]; split <;> omega
  obtain ⟨bp, hbp⟩ : ∃ z, (if 0 < hi + bo then 1 else 0 : Nat) = z := ⟨_, rfl⟩
  have hres : ((((bp : Nat) : Int)) == (1 : Int)) = decide (0 < hi ∨ m < lo) := by rw [← hbp, ← hbo]; by_cases q1 : m < lo <;> by_cases q2 : 0 < hi <;> simp [q1, q2]
  have K0 : Keeps Nob w w := Keeps.refl _ _
  refine sy_enter (qc54_2 1) ⟨#[.agg #[.int .u64 0, uN m], .agg #[uN hi, uN lo], ud, ud, ud, ud, ud, ud, ud, ud, ud, ud, ud, ud, ud, ud, ud, ud, ud, ud, ud, ud, ud, ud, ud, ud], []⟩ Tryz.func81 (by kernel_rfl) (by kernel_rfl) <| qr_ [0, 1, 2] <| pbx 123 (#[.int .u64 0, .int .u64 ((m : Nat) : Int)]) (.agg #[.int .u64 0, uN m]) fun V1 gx egx h2 kV1 => ?_
  have n3 : w.heap.size ≤ gx := egx ▸ K0.size
  have K4 := K0.nn kV1
  have z5 := kV1.size
  refine pbx 123 (#[.int .u64 ((hi : Nat) : Int), .int .u64 ((lo : Nat) : Int)]) (.agg #[uN hi, uN lo]) fun V6 gw egw h7 kV6 => ?_
  have n8 : gx < gw := egw ▸ lt_of_block h2
  have n9 : w.heap.size ≤ gw := egw ▸ K4.size
  have h10 := kV6.bk h2
  have K11 := K4.nn kV6
  have z12 := kV6.size
  refine pkq (.bool false) <| eqr_ [0, 1, 2, 3, 4, 5, 6, 7, 8, 9] <| pkq (pT gx 1) <| ppq (uN m) (ldk 40 gx 1 h10) <| pkq (pT gw 1) <| ppq (uN lo) (ldk 40 gw 1 h7) <| ppq (.tuple #[uN ((m + 18446744073709551616 - lo - 0) % 18446744073709551616), uN (if m < lo + 0 then 1 else 0)]) (exec_ext 95 #[uN m, uN lo, .int .u64 0] _ (by kernel_rfl) (by kernel_rfl) (by kernel_rfl) (run_bSub64 m lo 0 (by decide) _)) <| pkq (.tuple #[uN ((m + 18446744073709551616 - lo - 0) % 18446744073709551616), uN (if m < lo + 0 then 1 else 0)]) <| pkq (uN ((m + 18446744073709551616 - lo - 0) % 18446744073709551616)) <| ppq (uN bo) (exec_cast (congrArg (fun n : Nat => Value.int .u64 (n : Int)) hbo) (by kernel_rfl)) <| pkq (uN ((m + 18446744073709551616 - lo - 0) % 18446744073709551616)) <| pkq (uN bo) <| eqr_ [0, 1, 2, 3, 4, 5, 6, 7, 8, 9] <| pkq (pT gx 0) ?_
  refine ppq (.int .u64 0) (ldk 40 gx 0 h10) <| pkq (pT gw 0) <| ppq (uN hi) (ldk 40 gw 0 h7) <| pkq (uN bo) <| ppq (.tuple #[uN ((0 + 18446744073709551616 - hi - bo) % 18446744073709551616), uN (if 0 < hi + bo then 1 else 0)]) (exec_ext 95 #[.int .u64 0, uN hi, uN bo] _ (by kernel_rfl) (by kernel_rfl) (by kernel_rfl) (run_bSub64 0 hi bo hb1 _)) <| pkq (.tuple #[uN ((0 + 18446744073709551616 - hi - bo) % 18446744073709551616), uN (if 0 < hi + bo then 1 else 0)]) <| pkq (uN ((0 + 18446744073709551616 - hi - bo) % 18446744073709551616)) <| ppq (uN bp) (exec_cast (congrArg (fun n : Nat => Value.int .u64 (n : Int)) hbp) (by kernel_rfl)) <| pkq (uN bp) <| eqr_ [0, 1, 2] <| pkq (uN bp) <| ppq (.bool (decide (0 < hi ∨ m < lo))) (exec_cast (congrArg Value.bool hres) (by kernel_rfl)) <| pkq (.bool (decide (0 < hi ∨ m < lo))) <| ps_end ?_
  refine sy_a ⟨#[.agg #[.int .u64 0, uN m], .agg #[uN hi, uN lo], pT gx 0, pT gw 0, .bool (decide (0 < hi ∨ m < lo)), uN ((m + 18446744073709551616 - lo - 0) % 18446744073709551616), uN bp, .tuple #[uN ((m + 18446744073709551616 - lo - 0) % 18446744073709551616), uN (if m < lo + 0 then 1 else 0)], pT gx 1, uN m, pT gw 1, uN lo, .tuple #[uN ((m + 18446744073709551616 - lo - 0) % 18446744073709551616), uN (if m < lo + 0 then 1 else 0)], uN ((m + 18446744073709551616 - lo - 0) % 18446744073709551616), uN bo, .tuple #[uN ((0 + 18446744073709551616 - hi - bo) % 18446744073709551616), uN (if 0 < hi + bo then 1 else 0)], pT gx 0, .int .u64 0, pT gw 0, uN hi, uN bo, .tuple #[uN ((0 + 18446744073709551616 - hi - bo) % 18446744073709551616), uN (if 0 < hi + bo then 1 else 0)], uN ((0 + 18446744073709551616 - hi - bo) % 18446744073709551616), uN bp, uN bp, .bool (decide (0 < hi ∨ m < lo))], []⟩ <| then_n <| u_ <| so_ (.bool (decide (0 < hi ∨ m < lo))) ?_
  exact ⟨rfl, K11⟩
theorem over_is {qh ql q1 q2 : Nat} {args : Array Value} {w : World} (h1 : q1 = qh) (h2 : q2 = ql) (h : Calls Tryz.prog 80 args w (fun e w' => ∃ r : Nat, e = .returned (.tuple #[.agg #[.int .u64 ((q1 : Nat) : Int), .int .u64 ((q2 : Nat) : Int)], .int .u64 ((r : Nat) : Int)]) ∧ Keeps Nob w w')) : Calls Tryz.prog 80 args w (fun e w' => ∃ r : Nat, e = .returned (.tuple #[.agg #[.int .u64 ((qh : Nat) : Int), .int .u64 ((ql : Nat) : Int)], .int .u64 ((r : Nat) : Int)]) ∧ Keeps Nob w w') := h1 ▸ h2 ▸ h
theorem below_is {x : Bool} (y : Bool) {args : Array Value} {w : World} (h1 : x = y) (h : Calls Tryz.prog 81 args w (fun e w' => e = .returned (.bool x) ∧ Keeps Nob w w')) : Calls Tryz.prog 81 args w (fun e w' => e = .returned (.bool y) ∧ Keeps Nob w w') := h1 ▸ h
theorem cap_big {m t qh ql : Nat} {x : Value} (hqt : t = qh * 18446744073709551616 + ql) (hl : ql < 18446744073709551616) (h : 0 < qh ∨ m < ql) (hm : m < 18446744073709551616) : (Ending.returned (.tuple #[.int .u64 ((m : Nat) : Int), x])) = .returned (.tuple #[.int .u64 ((min m t : Nat) : Int), x]) := by
  rw [show min m t = m by omega]
theorem cap_small {m t qh ql : Nat} {x : Value} (hqt : t = qh * 18446744073709551616 + ql) (h : ¬ (0 < qh ∨ m < ql)) : (Ending.returned (.tuple #[.int .u64 ((ql : Nat) : Int), x])) = .returned (.tuple #[.int .u64 ((min m t : Nat) : Int), x]) := by
  rw [show min m t = ql by omega]
noncomputable def qc54_0 (n : Nat) : Code := partOf Tryz.f57 n
theorem fxCapped_big (m a b c qh ql : Nat) (hm : m < 18446744073709551616) (ha : a < 18446744073709551616) (hb : b < 18446744073709551616) (hc : 0 < c) (hc2 : c < 18446744073709551616) (hqh : a * b / 18446744073709551616 / c = qh) (hql : (a * b / 18446744073709551616 % c * 18446744073709551616 + a * b % 18446744073709551616) / c = ql) (hqt : a * b / c = qh * 18446744073709551616 + ql) (hqh2 : qh < 18446744073709551616) (hql2 : ql < 18446744073709551616) (hbig : 0 < qh ∨ m < ql) (w : World) :
    Calls Tryz.prog 57 #[.int .u64 ((m : Nat) : Int), .int .u64 ((a : Nat) : Int), .int .u64 ((b : Nat) : Int), .int .u64 ((c : Nat) : Int)] w (fun e w' => e = .returned (.tuple #[.int .u64 ((min m (a * b / c) : Nat) : Int), .int .i64 0]) ∧ Keeps Nob w w') := by
  have hab : a * b / 18446744073709551616 < 18446744073709551616 := by rw [Nat.div_lt_iff_lt_mul (by decide)]; exact Nat.mul_lt_mul'' ha hb
  have K0 : Keeps Nob w w := Keeps.refl _ _
  refine sy_enter (qc54_0 1) ⟨#[uN m, uN a, uN b, uN c, ud, ud, ud, ud, ud, ud, ud, ud, ud, ud, ud, ud, ud, ud, ud, ud, ud, ud, ud, ud, ud, ud, ud, ud, ud, ud, ud], []⟩ Tryz.func57 (by kernel_rfl) (by kernel_rfl) <| qr_ [0, 1] <| pkq (.int .u64 0) <| pkq (.int .i64 0) <| eq_ <| qr_ [0, 1] <| pkq (uN c) <| ppq (.bool false) (eqf (((c : Nat) : Int)) ((0) : Int) (by omega)) <| en_ <| s_ <| tqr_ [0, 1, 2, 3, 4, 5, 6, 7, 8, 9, 10] <| pkq (uN a) <| pkq (uN b) ?_
  refine pcq 79 #[uN a, uN b] Tryz.func79 ((fxTimes_ok a b ha hb _).mono ?_)
  rintro e V1 ⟨rfl, kV1⟩
  refine ⟨_, rfl, ?_⟩
  have K2 := K0.nn kV1
  have z3 := kV1.size
  refine pkq (uN c) ?_
  refine pcq 80 #[.agg #[uN (a * b / 18446744073709551616), uN (a * b % 18446744073709551616)], uN c] Tryz.func80 ((over_is hqh hql (fxOver_ok (a * b / 18446744073709551616) (a * b % 18446744073709551616) c hab (Nat.mod_lt _ (by decide)) hc hc2 _)).mono ?_)
  rintro e V4 ⟨r, rfl, kV4⟩
  refine ⟨_, rfl, ?_⟩
  have K5 := K2.nn kV4
  have z6 := kV4.size
  refine pkq (.tuple #[.agg #[uN qh, uN ql], uN r]) <| pkq (.agg #[uN qh, uN ql]) <| pkq (uN r) <| pal 123 (#[.int .u64 0, .int .u64 0]) (.agg (#[.int .u64 0, .int .u64 0])) fun V7 gw egw h8 kV7 => ?_
  have n9 : w.heap.size ≤ gw := egw ▸ K5.size
  have K10 := K5.nn kV7
  have z11 := kV7.size
  obtain ⟨V12, eV12, kV12⟩ := rowset_step V7 gw (#[.int .u64 ((qh : Nat) : Int), .int .u64 ((ql : Nat) : Int)])
  have h13 : V12.heap[gw]? = some (.cells (#[.int .u64 ((qh : Nat) : Int), .int .u64 ((ql : Nat) : Int)]) 123 (0, 0)) := eV12 ▸ setRow_heap _ _ _ _ _ _ h8
  refine pzq (w' := V12) (by rw [← eV12]; exact exec_store_row 123 (.tmp 10) (.tmp 20) (by kernel_rfl) gw (#[uN qh, uN ql]) (by kernel_rfl) (by kernel_rfl) 123 (#[.int .u64 0, .int .u64 0]) h8 (by kernel_rfl) rfl (by kernel_rfl)) ?_
  clear eV12
  have K14 := K10.nO kV12
  have z15 := kV12.size
  refine pkq (uN r) <| eq_ <| qr_ [0, 1, 2, 3] <| pkq (uN m) <| pkq (.agg #[.int .u64 0, uN m]) <| ppq (.agg #[uN qh, uN ql]) (ldr 123 gw (h13) (by kernel_rfl)) ?_
  refine pcq 81 #[.agg #[.int .u64 0, uN m], .agg #[uN qh, uN ql]] Tryz.func81 ((below_is true (decide_eq_true hbig) (fxBelow_ok m qh ql hm hqh2 hql2 _)).mono ?_)
  rintro e V16 ⟨rfl, kV16⟩
  refine ⟨_, rfl, ?_⟩
  have K18 := K14.nn kV16
  have z19 := kV16.size
  refine ey_ <| qr_ [0, 1, 2, 3] <| pkq (uN m) <| pkq (.int .i64 0) <| pkq (uN m) <| pkq (.int .i64 0) <| eu_ <| then_r <| so_ (.tuple #[.int .u64 ((m : Nat) : Int), .int .i64 0]) ?_
  exact ⟨cap_big hqt hql2 hbig hm, K18⟩
theorem fxCapped_small (m a b c qh ql : Nat) (hm : m < 18446744073709551616) (ha : a < 18446744073709551616) (hb : b < 18446744073709551616) (hc : 0 < c) (hc2 : c < 18446744073709551616) (hqh : a * b / 18446744073709551616 / c = qh) (hql : (a * b / 18446744073709551616 % c * 18446744073709551616 + a * b % 18446744073709551616) / c = ql) (hqt : a * b / c = qh * 18446744073709551616 + ql) (hqh2 : qh < 18446744073709551616) (hql2 : ql < 18446744073709551616) (hbig : ¬ (0 < qh ∨ m < ql)) (w : World) :
    Calls Tryz.prog 57 #[.int .u64 ((m : Nat) : Int), .int .u64 ((a : Nat) : Int), .int .u64 ((b : Nat) : Int), .int .u64 ((c : Nat) : Int)] w (fun e w' => e = .returned (.tuple #[.int .u64 ((min m (a * b / c) : Nat) : Int), .int .i64 0]) ∧ Keeps Nob w w') := by
  have hab : a * b / 18446744073709551616 < 18446744073709551616 := by rw [Nat.div_lt_iff_lt_mul (by decide)]; exact Nat.mul_lt_mul'' ha hb
  have K0 : Keeps Nob w w := Keeps.refl _ _
  refine sy_enter (qc54_0 1) ⟨#[uN m, uN a, uN b, uN c, ud, ud, ud, ud, ud, ud, ud, ud, ud, ud, ud, ud, ud, ud, ud, ud, ud, ud, ud, ud, ud, ud, ud, ud, ud, ud, ud], []⟩ Tryz.func57 (by kernel_rfl) (by kernel_rfl) <| qr_ [0, 1] <| pkq (.int .u64 0) <| pkq (.int .i64 0) <| eq_ <| qr_ [0, 1] <| pkq (uN c) <| ppq (.bool false) (eqf (((c : Nat) : Int)) ((0) : Int) (by omega)) <| en_ <| s_ <| tqr_ [0, 1, 2, 3, 4, 5, 6, 7, 8, 9, 10] <| pkq (uN a) <| pkq (uN b) ?_
  refine pcq 79 #[uN a, uN b] Tryz.func79 ((fxTimes_ok a b ha hb _).mono ?_)
  rintro e V1 ⟨rfl, kV1⟩
  refine ⟨_, rfl, ?_⟩
  have K2 := K0.nn kV1
  have z3 := kV1.size
  refine pkq (uN c) ?_
  refine pcq 80 #[.agg #[uN (a * b / 18446744073709551616), uN (a * b % 18446744073709551616)], uN c] Tryz.func80 ((over_is hqh hql (fxOver_ok (a * b / 18446744073709551616) (a * b % 18446744073709551616) c hab (Nat.mod_lt _ (by decide)) hc hc2 _)).mono ?_)
  rintro e V4 ⟨r, rfl, kV4⟩
  refine ⟨_, rfl, ?_⟩
  have K5 := K2.nn kV4
  have z6 := kV4.size
  refine pkq (.tuple #[.agg #[uN qh, uN ql], uN r]) <| pkq (.agg #[uN qh, uN ql]) <| pkq (uN r) <| pal 123 (#[.int .u64 0, .int .u64 0]) (.agg (#[.int .u64 0, .int .u64 0])) fun V7 gw egw h8 kV7 => ?_
  have n9 : w.heap.size ≤ gw := egw ▸ K5.size
  have K10 := K5.nn kV7
  have z11 := kV7.size
  obtain ⟨V12, eV12, kV12⟩ := rowset_step V7 gw (#[.int .u64 ((qh : Nat) : Int), .int .u64 ((ql : Nat) : Int)])
  have h13 : V12.heap[gw]? = some (.cells (#[.int .u64 ((qh : Nat) : Int), .int .u64 ((ql : Nat) : Int)]) 123 (0, 0)) := eV12 ▸ setRow_heap _ _ _ _ _ _ h8
  refine pzq (w' := V12) (by rw [← eV12]; exact exec_store_row 123 (.tmp 10) (.tmp 20) (by kernel_rfl) gw (#[uN qh, uN ql]) (by kernel_rfl) (by kernel_rfl) 123 (#[.int .u64 0, .int .u64 0]) h8 (by kernel_rfl) rfl (by kernel_rfl)) ?_
  clear eV12
  have K14 := K10.nO kV12
  have z15 := kV12.size
  refine pkq (uN r) <| eq_ <| qr_ [0, 1, 2, 3] <| pkq (uN m) <| pkq (.agg #[.int .u64 0, uN m]) <| ppq (.agg #[uN qh, uN ql]) (ldr 123 gw (h13) (by kernel_rfl)) ?_
  refine pcq 81 #[.agg #[.int .u64 0, uN m], .agg #[uN qh, uN ql]] Tryz.func81 ((below_is false (decide_eq_false hbig) (fxBelow_ok m qh ql hm hqh2 hql2 _)).mono ?_)
  rintro e V16 ⟨rfl, kV16⟩
  refine ⟨_, rfl, ?_⟩
  have h17 := kV16.bk h13
  have K18 := K14.nn kV16
  have z19 := kV16.size
  refine en_ <| s_ <| tqr_ [0, 1, 2, 3, 4] <| pkq (pT gw 1) <| ppq (uN ql) (ldk 40 gw 1 h17) <| pkq (.int .i64 0) <| pkq (uN ql) <| pkq (.int .i64 0) <| ps_end <| sy_a ⟨#[uN m, uN a, uN b, uN c, ud, ud, ud, ud, uN ql, .int .i64 0, pT gw 0, uN r, uN c, .bool false, .tuple #[.agg #[uN qh, uN ql], uN r], uN a, uN b, .agg #[uN (a * b / 18446744073709551616), uN (a * b % 18446744073709551616)], uN c, .tuple #[.agg #[uN qh, uN ql], uN r], .agg #[uN qh, uN ql], uN r, uN m, .agg #[.int .u64 0, uN m], .agg #[uN qh, uN ql], .bool false, ud, ud, pT gw 1, uN ql, .int .i64 0], []⟩ <| then_n <| u_ <| so_ (.tuple #[.int .u64 ((ql : Nat) : Int), .int .i64 0]) ?_
  exact ⟨cap_small hqt hbig, K18⟩
/-- Capped: the quotient of a product, at most m. -/
theorem fxCapped_ok (m a b c : Nat) (hm : m < 18446744073709551616) (ha : a < 18446744073709551616) (hb : b < 18446744073709551616) (hc : 0 < c) (hc2 : c < 18446744073709551616) (w : World) : Calls Tryz.prog 57 #[.int .u64 ((m : Nat) : Int), .int .u64 ((a : Nat) : Int), .int .u64 ((b : Nat) : Int), .int .u64 ((c : Nat) : Int)] w (fun e w' => e = .returned (.tuple #[.int .u64 ((min m (a * b / c) : Nat) : Int), .int .i64 0]) ∧ Keeps Nob w w') := by
  have hab : a * b / 18446744073709551616 < 18446744073709551616 := by rw [Nat.div_lt_iff_lt_mul (by decide)]; exact Nat.mul_lt_mul'' ha hb
  have hqt : a * b / c = a * b / 18446744073709551616 / c * 18446744073709551616 + (a * b / 18446744073709551616 % c * 18446744073709551616 + a * b % 18446744073709551616) / c := by
    rw [← over_law hc]; congr 1; have := Nat.div_add_mod (a * b) 18446744073709551616; omega
  have h1 : a * b / 18446744073709551616 / c < 18446744073709551616 := Nat.lt_of_le_of_lt (Nat.div_le_self _ _) hab
  have h2 := over_lt (hi := a * b / 18446744073709551616) (lo := a * b % 18446744073709551616) hc (Nat.mod_lt _ (by decide))
  by_cases hbig : 0 < a * b / 18446744073709551616 / c ∨ m < (a * b / 18446744073709551616 % c * 18446744073709551616 + a * b % 18446744073709551616) / c
  · exact fxCapped_big m a b c _ _ hm ha hb hc hc2 rfl rfl hqt h1 h2 hbig w
  · exact fxCapped_small m a b c _ _ hm ha hb hc hc2 rfl rfl hqt h1 h2 hbig w
end Go.Proofs.YtghohakbepeffaaGreatDoor
namespace Go.Proofs.YtghohakbepeffaaGreatDoor
set_option maxRecDepth 100000
set_option maxHeartbeats 4000000
open Go Go.RowKit Go.Own Go.Shelf
end Go.Proofs.YtghohakbepeffaaGreatDoor
namespace Go.Proofs.YtghohakbepeffaaGreatDoor
set_option maxRecDepth 100000
set_option maxHeartbeats 4000000
open Go Go.RowKit Go.Own Go.Shelf Go.ChangeShapes
theorem open_notes {H : Type} {enc : TypeId × Value → H} {W : World} {sp : Nat → Bool} {held : Bool} {v : Value} {d : DataW H} {ps : List MemPlace} (h : DataW.Trod enc Tryz.prog W 0 sp held 22 v d ps) (hv : ∃ a len cap, v = .slice a len cap) : ∃ l : List Nt, Sl W 2 Nt.cl v l ∧ ∀ x ∈ l, x.Ok := by
  have hC : Tryz.prog.cellsOf 46 = 2 := by kernel_rfl
  have hI : Tryz.prog.cellsOf 3 = 1 := by kernel_rfl
  have hU : Tryz.prog.cellsOf 40 = 1 := by kernel_rfl
  obtain ⟨a, len, cap, rfl, hl, hm, hn, hi⟩ := open_elemsN Tryz.underlying22 (by rw [hC]; omega) h hv
  rw [hC] at hi
  obtain ⟨l, hll, hq⟩ := list_of (fun i (x : Nt) => x.Ok ∧ ∃ b o, a = some ⟨b, o, none⟩ ∧ W.cell? ⟨b, o + i * 2, none⟩ = some (.int .i64 x.h) ∧ W.cell? ⟨b, o + i * 2 + 1, none⟩ = some (.int .u64 ((x.s : Nat) : Int))) len (fun i hlt => by
    obtain ⟨b, o, cs, n, y, ha, hcl, hcell, ht⟩ := hi i hlt
    obtain ⟨xs, n', _, _, _, hxl, hf⟩ := DataW.trod_struct Tryz.underlying46 ht
    obtain ⟨q0, e0, w0⟩ := field_int Tryz.underlying3 hI (hf 0 _ rfl) (List.getElem?_eq_getElem (by rw [hxl]; decide))
    obtain ⟨q1, e1, w1⟩ := field_int Tryz.underlying40 hU (hf 1 _ rfl) (List.getElem?_eq_getElem (by rw [hxl]; decide))
    obtain ⟨c, hc, rfl⟩ := u64_nat w1
    have hb := bounds_i64 w0
    exact ⟨⟨q0, c⟩, ⟨hb.1, hb.2, by simpa using hc⟩, b, o, ha, (hcell 0 (by omega)).trans e0, (hcell 1 (by omega)).trans e1⟩)
  subst hll
  refine ⟨l, ⟨⟨a, cap, rfl, hl, hm, hn⟩, fun k x hk => ?_⟩, fun x hx => ?_⟩
  · obtain ⟨_, b, o, rfl, c0, c1⟩ := hq k x hk
    refine ⟨b, o, cap, rfl, World.block_lt_of_cell? W _ c0, fun j u hj => ?_⟩
    match j, hj with
    | 0, hj => simp only [Nt.cl, List.getElem?_cons_zero, Option.some.injEq] at hj; subst hj; exact c0
    | 1, hj => simp only [Nt.cl, List.getElem?_cons_succ, List.getElem?_cons_zero, Option.some.injEq] at hj; subst hj; exact c1
    | j + 2, hj => simp [Nt.cl] at hj
  · obtain ⟨k, hk⟩ := List.getElem?_of_mem hx
    exact (hq k x hk).1
end Go.Proofs.YtghohakbepeffaaGreatDoor
namespace Go.Own
set_option maxRecDepth 100000
set_option maxHeartbeats 4000000
open Go Go.RowKit
/-- A step of an object with the blocks F; behind it has the blocks F'. -/
def Step (w w' : World) (F F' : Nat → Prop) : Prop := Keeps F w w' ∧ ∀ j, F' j → F j ∨ (w.heap.size ≤ j ∧ j < w'.heap.size)
def Dis (F G : Nat → Prop) : Prop := ∀ j, F j → ¬ G j
def Lt (F : Nat → Prop) (w : World) : Prop := ∀ j, F j → j < w.heap.size
def Ge (F : Nat → Prop) (w : World) : Prop := ∀ j, F j → w.heap.size ≤ j
section
variable {w0 w w' w'' : World} {F F' F'' G M : Nat → Prop}
theorem Dis.symm (h : Dis F G) : Dis G F := fun j hg hf => h j hf hg
theorem Lt.mono (h : Lt F w) (k : w.heap.size ≤ w'.heap.size) : Lt F w' := fun j hj => Nat.lt_of_lt_of_le (h j hj) k
theorem Lt.keeps (h : Lt F w) (k : Keeps M w w') : Lt F w' := h.mono k.size
theorem Ge.keeps (h : Ge F w') (k : Keeps M w w') : Ge F w := fun j hj => Nat.le_trans k.size (h j hj)
theorem Step.refl (w : World) (F : Nat → Prop) : Step w w F F := ⟨Keeps.refl _ _, fun _ h => .inl h⟩
theorem Step.trans (h : Step w w' F F') (k : Step w' w'' F' F'') : Step w w'' F F'' :=
  ⟨h.1.then k.1 (fun i hi hm => (h.2 i hm).elim id (fun x => absurd x.1 (by omega))), fun j hj => by
    rcases k.2 j hj with h1 | ⟨h1, h2⟩
    · rcases h.2 j h1 with h3 | ⟨h3, h4⟩
      · exact .inl h3
      · exact .inr ⟨h3, Nat.lt_of_lt_of_le h4 k.1.size⟩
    · exact .inr ⟨Nat.le_trans h.1.size h1, h2⟩⟩
theorem Step.size (h : Step w w' F F') : w.heap.size ≤ w'.heap.size := h.1.size
theorem Step.ge (h : Step w w' F F') (g : Ge F w0) (k : w0.heap.size ≤ w.heap.size) : Ge F' w0 := fun j hj => by
  rcases h.2 j hj with h1 | ⟨h1, _⟩
  · exact g j h1
  · omega
/-- What was there at the start is as it was. -/
theorem Step.keeps (h : Step w w' F F') (k : Keeps Nob w0 w) (g : Ge F w0) : Keeps Nob w0 w' := k.then h.1 (fun i hi hm => by have := g i hm; omega)
theorem Step.lt (h : Step w w' F F') (l : Lt F w) : Lt F' w' := fun j hj => by
  rcases h.2 j hj with h1 | ⟨_, h1⟩
  · exact Nat.lt_of_lt_of_le (l j h1) h.1.size
  · exact h1
end
end Go.Own
namespace Go.Proofs.YtghohakbepeffaaGreatDoor
set_option maxRecDepth 100000
set_option maxHeartbeats 4000000
open Go Go.RowKit Go.Own
theorem u8_info0 : (Tryz.prog.info? 5).map (fun i => (i.zero, i.size, i.bytes)) = some (some (.int .u8 0), 1, 1) := by kernel_rfl
theorem sameBytes_ok (a b : Value) (l m : List UInt8) (w : World) (ha : BytesAt w a l) (hb : BytesAt w b m) :
    Calls Tryz.prog 15 #[a, b] w fun e w' => e = .returned (.bool (l == m)) ∧ w = w' := by
  have h1 := ha.str (P := Tryz.prog) (src := 23) (dst := 9) (e := 5) Tryz.underlying23 Tryz.underlying5 Tryz.underlying9
  have h2 := hb.str (P := Tryz.prog) (src := 23) (dst := 9) (e := 5) Tryz.underlying23 Tryz.underlying5 Tryz.underlying9
  clear ha hb
  go_enter Tryz.func15, Tryz.ntmps15
  go_wp2_with fail
  go_ret
  exact ⟨rfl, rfl⟩
/-- The empty slice that a copy begins with. -/
theorem Row.empty (w : World) (t : TypeId) : Row (w.alloc (.cells #[] t)) t 1 (.slice (some ⟨w.heap.size, 0, none⟩) 0 0) 0 [] :=
  ⟨rfl, .inr ⟨_, _, _, rfl, Nat.zero_le _, heap_alloc_new _ _, Nat.le_refl _, by unfold maxLen; omega, rfl, rfl⟩⟩
theorem copyBytes_ok (a : Value) (l : List UInt8) (w : World) (ha : BytesAt w a l) (hl : l.length ≤ 100000000) :
    Calls Tryz.prog 10 #[a] w fun e w' => ∃ v, e = .returned v ∧ Row w' 5 1 v l.length (B l) ∧ (∀ j, v.ownBlock = some j → w.heap.size ≤ j) ∧ v ≠ .slice none 0 0 ∧ Keeps Nob w w' := by
  obtain ⟨i0, hi, hz0, hz1, hz2⟩ := info_parts u8_info0
  have hr := Row.empty w 5
  have hs := (ha.keepsN ((Keeps.refl Nob w).alloc (.cells #[] 5))).src
  have HA := Lib.hid ha
  clear ha
  go_enter Tryz.func10, Tryz.ntmps10
  go_wp2_with (at_builtin; refine own_append2 rfl _ _ 23 rfl 5 i0 (.int .u8 0) 1 1 Tryz.underlying23 hi hz0 hz1 hz2 rfl (by decide) (.slice (some ⟨w.heap.size, 0, none⟩) 0 0) 0 _ rfl hr a l.length (B l) rfl hs (by unfold maxLen; omega) (by omega) ?_; intro v' w1 hown' hgrow hnil hat; rw [Nat.zero_add, List.nil_append] at hown'; have H1 := Lib.hid hown'; have H2 := Lib.hid hnil; have H3 := Lib.hid hat; have H4 := Lib.hid hgrow; clear hown' hnil hat hgrow)
  go_ret
  refine ⟨_, rfl, H1.out, fun j hj => ?_, fun h => ?_, ((Keeps.refl Nob w).alloc _).grown H4.out (fun j hj hlt => by simp [Value.ownBlock] at hj; omega)⟩
  · rcases H3.out j hj with h | ⟨h, _⟩
    · simp [Value.ownBlock] at h; omega
    · simp at h; omega
  · have := (H2.out.1 h).1
    simp at this
end Go.Proofs.YtghohakbepeffaaGreatDoor
namespace Go.Proofs.YtghohakbepeffaaGreatDoor
set_option maxRecDepth 100000
set_option maxHeartbeats 4000000
open Go Go.RowKit Go.Own
theorem len_small (n m : Nat) (h : n + m ≤ 100000000) : n + m ≤ maxLen := by unfold maxLen; omega
theorem len_bytes (n m : Nat) (h : n + m ≤ 100000000) : (n + m) * 1 ≤ 140737488355328 := by omega
end Go.Proofs.YtghohakbepeffaaGreatDoor
namespace Go.Own.Cod
set_option maxRecDepth 100000
set_option maxHeartbeats 4000000
/-- The bytes of a number (at most so many). -/
def encF : Nat → Nat → List UInt8
  | 0, _ => []
  | f + 1, n => if n < 128 then [UInt8.ofNat n] else UInt8.ofNat (n % 128 + 128) :: encF f (n / 128)
def enc (n : Nat) : List UInt8 := encF 10 n
/-- Which number bytes begin with, its length, an error (0: none): from the byte at place i on, n having come so far. -/
def numF : List UInt8 → Nat → Nat → Nat × Nat × Int
  | [], _, _ => (0, 0, 6)
  | c :: r, i, n => if (i = 9 ∧ 1 < c.toNat) ∨ (0 < i ∧ c.toNat = 0) then (0, 0, 5) else if c.toNat < 128 then (n + c.toNat % 128 * 128 ^ i, i + 1, 0) else numF r (i + 1) (n + c.toNat % 128 * 128 ^ i)
def num (l : List UInt8) : Nat × Nat × Int := numF l 0 0
theorem toNat_ofNat (n : Nat) (h : n < 256) : (UInt8.ofNat n).toNat = n := by simp; omega
theorem encF_more (f n : Nat) (h : 128 ≤ n) : encF (f + 1) n = UInt8.ofNat (n % 128 + 128) :: encF f (n / 128) := by
  rw [encF, if_neg (by omega)]
theorem encF_last (f n : Nat) (h : n < 128) : encF (f + 1) n = [UInt8.ofNat n] := by
  rw [encF, if_pos h]
theorem small_step (k m : Nat) (hk : k ≤ 9) (h : m < 2 ^ (64 - 7 * k)) (hm : 128 ≤ m) : k < 9 ∧ m / 128 < 2 ^ (64 - 7 * (k + 1)) := by
  have hk9 : k < 9 := by
    rcases Nat.lt_or_ge k 9 with h9 | h9
    · exact h9
    · obtain rfl : k = 9 := by omega
      simp at h; omega
  refine ⟨hk9, ?_⟩
  apply Nat.div_lt_of_lt_mul
  have : 64 - 7 * k = (64 - 7 * (k + 1)) + 7 := by omega
  rw [this, Nat.pow_add] at h
  omega
theorem encF_pos (f n : Nat) : 0 < (encF (f + 1) n).length := by
  rw [encF]; split <;> simp
theorem encF_length (f n : Nat) : (encF f n).length ≤ f := by
  induction f generalizing n with
  | zero => simp [encF]
  | succ f ih =>
    rw [encF]; split
    · simp
    · simp; exact ih _
theorem enc_pos (n : Nat) : 0 < (enc n).length := encF_pos _ _
theorem enc_length (n : Nat) : (enc n).length ≤ 10 := encF_length _ _
/-- What is read as a number has just that number's bytes. -/
theorem numF_one (f : Nat) : ∀ (l : List UInt8) (i n x k : Nat), f + i = 10 → i ≤ 9 → numF l i n = (x, k, 0) → ∃ m, m < 2 ^ (64 - 7 * i) ∧ (0 < i → 0 < m) ∧ x = n + m * 128 ^ i ∧ k = i + (encF f m).length ∧ ∃ r, l = encF f m ++ r := by
  induction f with
  | zero => intro l i n x k h hi; omega
  | succ f ih =>
    intro l i n x k h hi hn
    match l with
    | [] => simp [numF] at hn
    | c :: r =>
      have hcl : c.toNat < 256 := c.toNat_lt
      rw [numF] at hn
      split at hn
      · simp at hn
      · rename_i h1
        split at hn
        · rename_i h2
          simp only [Prod.mk.injEq, and_true] at hn
          refine ⟨c.toNat, ?_, fun hp => by omega, ?_, ?_, r, ?_⟩
          · rcases Nat.lt_or_ge i 9 with h9 | h9
            · have : 2 ^ 7 ≤ 2 ^ (64 - 7 * i) := Nat.pow_le_pow_right (by omega) (by omega)
              omega
            · obtain rfl : i = 9 := by omega
              simp; omega
          · rw [Nat.mod_eq_of_lt h2] at hn; exact hn.1.symm
          · rw [encF_last f _ h2]; simp; omega
          · rw [encF_last f _ h2]; simp
        · rename_i h2
          have hi9 : i < 9 := by omega
          obtain ⟨m, hm, hp, hx, hk, r', hr⟩ := ih r (i + 1) _ x k (by omega) (by omega) hn
          have hp := hp (by omega)
          refine ⟨c.toNat % 128 + m * 128, ?_, fun _ => by omega, ?_, ?_, r', ?_⟩
          · have e : 64 - 7 * i = (64 - 7 * (i + 1)) + 7 := by omega
            rw [e, Nat.pow_add]
            have : m + 1 ≤ 2 ^ (64 - 7 * (i + 1)) := hm
            have := Nat.mul_le_mul_right (2 ^ 7) this
            omega
          · rw [hx, Nat.pow_succ, Nat.mul_comm (128 ^ i) 128, ← Nat.mul_assoc, Nat.add_assoc, ← Nat.add_mul]
          · rw [encF_more f _ (by omega), hk, show (c.toNat % 128 + m * 128) / 128 = m by omega]; simp; omega
          · rw [encF_more f _ (by omega), show (c.toNat % 128 + m * 128) / 128 = m by omega, hr]
            simp only [List.cons_append, List.cons.injEq, and_true]
            apply UInt8.toNat_inj.1
            rw [toNat_ofNat _ (by omega)]; omega
theorem num_one (l : List UInt8) (x k : Nat) (h : num l = (x, k, 0)) : x < 2 ^ 64 ∧ k = (enc x).length ∧ ∃ r, l = enc x ++ r := by
  obtain ⟨m, hm, _, hx, hk, r, hr⟩ := numF_one 10 l 0 0 x k (by omega) (by omega) h
  simp only [Nat.pow_zero, Nat.mul_one, Nat.zero_add] at hx hk
  subst hx
  exact ⟨by simpa using hm, hk, r, hr⟩
theorem num_ok (l : List UInt8) (h : (num l).2.2 = 0) : (num l).1 < 2 ^ 64 ∧ 0 < (num l).2.1 ∧ (num l).2.1 ≤ l.length ∧ (num l).2.1 ≤ 10 ∧ l.take (num l).2.1 = enc (num l).1 := by
  obtain ⟨h1, h2, r, h3⟩ := num_one l (num l).1 (num l).2.1 (by rw [← h])
  generalize (num l).1 = x at *
  generalize (num l).2.1 = k at *
  have h4 := enc_pos x
  have h5 := enc_length x
  subst h2
  subst h3
  exact ⟨h1, by omega, by simp, by omega, by simp⟩
end Go.Own.Cod
namespace Go.Proofs.YtghohakbepeffaaGreatDoor
set_option maxRecDepth 100000
set_option maxHeartbeats 4000000
open Go Go.RowKit Go.Own Go.Shelf
attribute [local go_sem] Oper.semAt_some
theorem mf_run0 : ∀ (fn : Fn) (first cap : Array Value) (w : World), (Instr.makeFunc fn first cap).run Tryz.prog w = .ok (.func fn first cap) w := fun _ _ _ _ => rfl
theorem digits_ok (n : Int) (w : World) :
    Calls Tryz.prog 88 #[.int .u64 n] w fun e w' => e = .returned (.func (.func 101) #[] #[.pointer (some ⟨w.heap.size, 0, none⟩)]) ∧ w.alloc (.cells #[.int .u64 n] 40) = w' := by
  have hmf := mf_run0
  go_enter Tryz.func88, Tryz.ntmps88
  go_wp2
  go_ret
  exact ⟨rfl, rfl⟩
/-- The iterator's own state: what is left of the number. -/
def DigS (n : Nat) (Bn : Nat) (k : Nat) (w : World) : Prop :=
  ∃ pre m, m = n / 128 ^ k ∧ pre.length = k ∧ Cod.enc n = pre ++ Cod.encF (10 - k) m ∧ k ≤ 9 ∧ m < 2 ^ (64 - 7 * k) ∧ w.cell? ⟨Bn, 0, none⟩ = some (.int .u64 (m : Int)) ∧ w.frozen? ⟨Bn, 0, none⟩ = false
theorem or128_fin : ∀ r : Fin 256, bits .or .u8 ((r.val : Nat) : Int) 128 = ((r.val % 128 + 128 : Nat) : Int) := by decide +kernel
theorem or128 (m : Nat) : bits .or .u8 ((m : Int) % 256) 128 = ((m % 128 + 128 : Nat) : Int) := by
  have h := or128_fin ⟨m % 256, Nat.mod_lt _ (by omega)⟩
  have e1 : ((m % 256 : Nat) : Int) = (m : Int) % 256 := by omega
  have e2 : m % 256 % 128 = m % 128 := by omega
  simp only [e1, e2] at h
  exact h
theorem digits_seq (n : Nat) (hn : 1 ≤ n) (Bn : Nat) (x : Nat) (hx : x < 2 ^ 64) :
    SeqOwn Fence.wide n Tryz.prog 101 #[.pointer (some ⟨Bn, 0, none⟩)] (fun x : UInt8 => #[.int .u8 (x.toNat : Int)]) (Cod.enc x) (One Bn) (DigS x Bn) := by
  intro l J Jx W0 hJ hJx hY h0 hS0
  have HY := Lib.hid hY; clear hY
  refine callsIn_of_wp Tryz.func101 rfl trivial ?_ rfl
  simp only [Tryz.ntmps101, List.size_toArray, List.length_cons, List.length_nil, Nat.reduceAdd, Nat.reduceSub, Array.replicate_succ, Array.replicate_zero, List.push_toArray, List.append_toArray, List.nil_append, List.cons_append]
  gi_wp2_with fail
  gi_loopg [3] 10 (fun g e wr => ∃ k : Nat, k ≤ 9 ∧ g = 10 - k ∧ J k wr ∧ DigS x Bn k wr)
  case atStart => exact ⟨0, by omega, by omega, h0, hS0⟩
  case round =>
    obtain ⟨k, hk, hg, hj, hs⟩ := hrel
    have hs' := hs
    obtain ⟨pre, m, hmd, hp, he, _, hm, hc, hf⟩ := hs'
    have HD := Lib.hid hmd
    have HS := Lib.hid hs
    have HE := Lib.hid he
    have HM := Lib.hid hm
    have HP := Lib.hid hp
    have HX := Lib.hid hx
    clear he hm hp hs hS0 hx hmd
    by_cases hlt : m < 128
    · have hget : (Cod.enc x)[k]? = some (UInt8.ofNat m) ∧ (Cod.enc x).length = k + 1 := by
        have h1 : 10 - k = (9 - k) + 1 := by omega
        have h2 := HE.out
        rw [h1, Cod.encF_last _ _ (by omega)] at h2
        rw [h2, List.getElem?_append_right (by have := HP.out; omega), HP.out]; simp [HP.out]
      have HL := Lib.hid hget.2
      obtain ⟨fn, tmps, assign, body, hy, hR⟩ := HY.out k _ wr hget.1 hj HS.out
      rw [Cod.toNat_ofNat _ (by omega)] at hy
      have hb : ((m : Int) % 256) = (m : Int) := by omega
      have hd : decide (128 ≤ (m : Int)) = false := by simp; omega
      clear hget
      gi_wp2_with fail
      refine hR.mono ?_
      rintro e W3 (⟨rfl, hj3, hs3⟩ | ⟨rfl, hx3⟩)
      · gi_wp2
        go_end0
        exact ⟨⟨_, rfl⟩, .inl (by rw [HL.out]; exact hj3)⟩
      · gi_wp2
        go_end0
        exact ⟨⟨_, rfl⟩, .inr hx3⟩
    · have hget : (Cod.enc x)[k]? = some (UInt8.ofNat (m % 128 + 128)) := by
        have h1 : 10 - k = (9 - k) + 1 := by omega
        have h2 := HE.out
        rw [h1, Cod.encF_more _ _ (by omega)] at h2
        rw [h2, List.getElem?_append_right (by have := HP.out; omega), HP.out]; simp
      obtain ⟨fn, tmps, assign, body, hy, hR⟩ := HY.out k _ wr hget hj HS.out
      rw [Cod.toNat_ofNat _ (by omega)] at hy
      have hb := or128 m
      generalize hz : m % 128 + 128 = z at hy hb
      clear hz hget
      gi_wp2_with fail
      refine hR.mono ?_
      rintro e W3 (⟨rfl, hj3, hs3⟩ | ⟨rfl, hx3⟩)
      · obtain ⟨pre3, m3, hmd3, _, _, _, _, hc3, hf3⟩ := hs3
        obtain rfl : m3 = m := hmd3.trans HD.out.symm
        have HE1 : Hid (Cod.enc x = (pre ++ [UInt8.ofNat (m3 % 128 + 128)]) ++ Cod.encF (10 - (k + 1)) (m3 / 128)) := Lib.hid (by
          have h1 : 10 - k = (9 - k) + 1 := by omega
          have h2 := HE.out
          rw [h1, Cod.encF_more _ _ (by omega)] at h2
          rw [h2, show 10 - (k + 1) = 9 - k by omega]; simp)
        have HM1 := Lib.hid (Cod.small_step k m3 hk HM.out (by omega))
        clear hmd3 hc hf
        gi_wp2_with fail
        have hk9 := HM1.out.1
        gi_roundg (10 - (k + 1))
        case measure => omega
        case rel => exact ⟨k + 1, by omega, rfl, hJ _ _ _ hj3 ((Keeps.refl _ _).setOne _), pre ++ [UInt8.ofNat (m3 % 128 + 128)], m3 / 128, by rw [HD.out, Nat.pow_succ, Nat.div_div_eq_div_mul], by simp [HP.out], HE1.out, by omega, HM1.out.2, (World.cell?_setCell_same _ _ _ hc3).trans (by simp), by simpa using hf3⟩
      · gi_wp2
        refine bodyPost_ret (results_none rfl _ _ _) rfl ?_
        exact ⟨⟨_, rfl⟩, .inr hx3⟩
end Go.Proofs.YtghohakbepeffaaGreatDoor
namespace Go.Proofs.YtghohakbepeffaaGreatDoor
set_option maxRecDepth 100000
set_option maxHeartbeats 4000000
open Go Go.RowKit Go.Own Go.Shelf
attribute [local go_sem] Oper.semAt_some
theorem u8_info : (Tryz.prog.info? 5).map (fun i => (i.zero, i.size, i.bytes)) = some (some (.int .u8 0), 1, 1) := by kernel_rfl
/-- What is collected so far lies in a variable. -/
structure Coll (w0 : World) (Bn b : Nat) (xs : List UInt8) (k : Nat) (V : World) : Prop where
  ex : ∃ v, V.heap[b]? = some (.cells #[v] 23 (0, 0)) ∧ Row V 5 1 v k (B (xs.take k)) ∧ (∀ j, v.ownBlock = some j → w0.heap.size ≤ j) ∧ (v = .slice none 0 0 ↔ k = 0)
  keeps : Keeps (One Bn) w0 V
theorem appendSeq_ok (Bn : Nat) (x : Nat) (hx : x < 2 ^ 64) (w : World) (hc : w.cell? ⟨Bn, 0, none⟩ = some (.int .u64 (x : Int))) (hf : w.frozen? ⟨Bn, 0, none⟩ = false) :
    Calls Tryz.prog 100 #[.slice none 0 0, .func (.func 101) #[] #[.pointer (some ⟨Bn, 0, none⟩)]] w fun e w' => ∃ v, e = .returned v ∧ Row w' 5 1 v (Cod.enc x).length (B (Cod.enc x)) ∧ (∀ j, v.ownBlock = some j → w.heap.size ≤ j) ∧ v ≠ .slice none 0 0 ∧ Keeps (One Bn) w w' := by
  obtain ⟨i0, hi, hz0, hz1, hz2⟩ := info_parts u8_info
  have hBn : Bn < w.heap.size := World.block_lt_of_cell? w _ hc
  have HX := Lib.hid hx
  refine calls_marks 3 Tryz.func100 rfl ?_
  simp only [Tryz.ntmps100, List.size_toArray, List.length_cons, List.length_nil, Nat.reduceAdd, Nat.reduceSub, Array.replicate_succ, Array.replicate_zero, List.push_toArray, List.append_toArray, List.nil_append, List.cons_append]
  go_wp2_with fail
  have hk : Keeps (One Bn) w (w.alloc (.cells #[.slice none 0 0] 23)) := (Keeps.refl _ _).alloc _
  have hb : (w.alloc (.cells #[.slice none 0 0] 23)).heap[w.heap.size]? = some (.cells #[.slice none 0 0] 23 (0, 0)) := World.alloc_heap_new _ _
  have g0 : (w.alloc (.cells #[.slice none 0 0] 23)).cell? ⟨Bn, 0, none⟩ = some (.int .u64 (x : Int)) := by
    rw [World.cell?_alloc_lt _ _ _ hBn]; exact hc
  have f0 : (w.alloc (.cells #[.slice none 0 0] 23)).frozen? ⟨Bn, 0, none⟩ = false := by
    refine (World.frozen?_of_block (w := w) ?_).trans hf
    exact Below.heap_alloc _ _ _ hBn
  have hs : (w.alloc (.cells #[.slice none 0 0] 23)).heap.size = w.heap.size + 1 := by simp
  clear hc hf hx
  generalize w.alloc (.cells #[.slice none 0 0] 23) = W1 at *
  refine wp_range1 3 (gf := 101) (lb := #[.pointer (some ⟨Bn, 0, none⟩)]) rfl (enters_of Tryz.func101 (by kernel_rfl) rfl) (encs := fun x : UInt8 => #[.int .u8 (x.toNat : Int)]) (fun _ => rfl)
    (Mi := One Bn) (fun j hj => by have : j = Bn := hj; omega) (digits_seq 5 (by omega) Bn x HX.out) ?hS ?hS0
    (fun k V => k ≤ (Cod.enc x).length ∧ Coll w Bn w.heap.size (Cod.enc x) k V) (fun _ _ => False) ?hI (fun _ _ _ h => h.elim) ?h0 ?f ?assign ?body ?done ?stop
  case hS0 => exact ⟨[], x, by simp, rfl, rfl, by omega, by simpa using HX.out, g0, f0⟩
  case hS =>
    rintro k A V ⟨pre, m, a1, a2, a3, a4, a5, a6, a7⟩ t
    exact ⟨pre, m, a1, a2, a3, a4, a5, t.cell a6 (fun x => x), (t.frozen a6 (fun x => x)).trans a7⟩
  case h0 => exact ⟨Nat.zero_le _, ⟨⟨.slice none 0 0, hb, ⟨rfl, .inl ⟨rfl, rfl⟩⟩, (fun j hj => by cases hj), ⟨fun _ => rfl, fun _ => rfl⟩⟩, hk⟩⟩
  case hI =>
    rintro k A V ⟨hk, ⟨v, h1, h2, h3, h4⟩, h5⟩ t
    refine ⟨hk, ⟨v, ?_, ?_, h3, h4⟩, t.keeps h5 (by omega)⟩
    · exact t.same _ _ h1 (fun (h : w.heap.size = Bn) => by omega) (.inr rfl)
    · refine h2.heap fun j hj => ?_
      obtain ⟨cs, hcs⟩ := h2.elem hj
      rw [hcs]
      exact t.same _ _ hcs (fun (h : j = Bn) => by have := h3 j hj; omega) (.inr rfl)
  case assign =>
    intro l k y V K hx hi hs hK
    gi_wp2
    exact hK
  case body =>
    rintro l k y V hl hr hx ⟨hkl, ⟨v, h1, h2, h3, h4⟩, h5⟩ hs
    have hlt : k < (Cod.enc x).length := (List.getElem?_eq_some_iff.1 hx).1
    have hlen := Cod.enc_length x
    have hne := h2.ne h1 (by decide)
    have c1 := cell_of_one h1
    have f1 := free_of_one h1
    have hbl := lt_of_block h1
    have htake : (Cod.enc x).take (k + 1) = (Cod.enc x).take k ++ [y] := by
      rw [List.take_add_one, hx]; rfl
    have HT := Lib.hid htake
    have H4 := Lib.hid h4
    have HX := Lib.hid hx
    have HS := Lib.hid hs
    clear htake h4 hx hs
    have hown := h2.keeps ((Keeps.refl Nob V).alloc (.cells #[.int .u8 (y.toNat : Int)] 5)) (fun _ _ x => x)
    have hsrc := Src.new V 1 1 [.int .u8 (y.toNat : Int)] 5 rfl (by simp [Value.oneCell']) 1
    gi_wp2_with (gi_at_builtin; refine own_append2_in rfl _ _ 23 rfl 5 i0 (.int .u8 0) 1 1 Tryz.underlying23 hi hz0 hz1 hz2 rfl (by decide) v k _ rfl hown _ 1 _ rfl hsrc (by unfold maxLen; omega) (by omega) ?_; intro v' w1 hown' hgrow hnil hat; obtain ⟨g', cap', rfl, hg'⟩ := hown'.spell (by omega); have hb1 : w1.heap[w.heap.size]? = some (.cells #[v] 23 (0, 0)) := (hgrow.block _ (by simp; omega) (fun e => hne e.symm)).trans ((Below.heap_alloc _ _ _ hbl).trans h1); have c2 := cell_of_one hb1; have f2 := free_of_one hb1)
    have hkA : KeepsOthers V (V.alloc (.cells #[.int .u8 (y.toNat : Int)] 5)) := KeepsOthers.alloc _ _
    have hkB := hkA.trans ((hown.others hgrow).trans (KeepsOthers.setCell w1 ⟨w.heap.size, 0, none⟩ (.slice (some ⟨g', 0, none⟩) (k + 1) cap')))
    have hKp : Keeps (fun j => v.ownBlock = some j) V w1 := ((Keeps.refl _ _).alloc _).grown hgrow (fun j hj _ => hj)
    have hgne : g' ≠ w.heap.size := fun e => hown'.ne hb1 (by decide) (by rw [e]; rfl)
    have hKw : Keeps (One Bn) w w1 := h5.then hKp (fun i hi hm => by have := h3 i hm; omega)
    obtain ⟨pre, m, b1, b2, b3, b4, b5, b6, b7⟩ := HS.out
    have hvB : v.ownBlock ≠ some Bn := fun e => by have := h3 _ e; omega
    have hBV : Bn < V.heap.size := World.block_lt_of_cell? V _ b6
    have e6 := (hKp.cell (i := 0) hBV hvB).trans b6
    have e7 := (hKp.frozen (i := 0) hBV hvB).trans b7
    refine ⟨hkB.from _, ⟨hlt, ⟨⟨_, one_setCell hb1, ?_, ?_, ⟨(fun h => by cases h), (fun h => by omega)⟩⟩, hKw.setCell_new (p := ⟨w.heap.size, 0, none⟩) (Nat.le_refl _) _⟩⟩, pre, m, b1, b2, b3, b4, b5, ?_, ?_⟩
    · rw [HT.out, B_append]
      exact ownsRow_setCell_other hown' (by simp [Value.ownBlock]; exact hgne) _
    · intro j hj
      rcases hat j hj with h | ⟨h, _⟩
      · exact h3 j h
      · simp at h; omega
    · rw [World.cell?_setCell_other _ _ _ _ (fun e => by simp at e <;> omega)]; exact e6
    · simpa using e7
  case done =>
    rintro D V hD ⟨_, ⟨v, h1, h2, h3, h4⟩, h5⟩ hK
    rw [List.take_of_length_le (Nat.le_refl _)] at h2
    have hpos := Cod.enc_pos x
    obtain ⟨g, cap, rfl, hg⟩ := h2.spell hpos
    have c1 := cell_of_one h1
    have H2 := Lib.hid h2
    clear h2 h4
    go_wp2
    refine marks_ret hK (v := .slice (some ⟨g, 0, none⟩) (Cod.enc x).length cap) (by simp [results, Tryz.results100, go_sem]) ?_
    have ht : Turn W1.heap.size Nob V (V.putObj D (.deferred none)) := Turn.put _ _ _ _ hD hK rfl
    refine ⟨_, rfl, H2.out.heap fun j hj => ?_, h3, by simp, ht.keepsN h5 (by omega)⟩
    obtain ⟨cs, hcs⟩ := H2.out.elem hj
    rw [hcs]
    exact ht.same _ _ hcs (fun h => h) (.inr rfl)
  case stop =>
    rintro D c V hD hx hK
    exact hx.elim
theorem collect_ok (Bn : Nat) (x : Nat) (hx : x < 2 ^ 64) (w : World) (hc : w.cell? ⟨Bn, 0, none⟩ = some (.int .u64 (x : Int))) (hf : w.frozen? ⟨Bn, 0, none⟩ = false) :
    Calls Tryz.prog 87 #[.func (.func 101) #[] #[.pointer (some ⟨Bn, 0, none⟩)]] w fun e w' => ∃ v, e = .returned v ∧ Row w' 5 1 v (Cod.enc x).length (B (Cod.enc x)) ∧ (∀ j, v.ownBlock = some j → w.heap.size ≤ j) ∧ v ≠ .slice none 0 0 ∧ Keeps (One Bn) w w' := by
  have HA := Lib.hid (appendSeq_ok Bn x hx w hc hf)
  clear hx hc hf
  go_enter Tryz.func87, Tryz.ntmps87
  go_wp2_with (go_at_call 100; refine HA.out.mono ?_; rintro e w' ⟨v, rfl, h1, h2, h3, h4⟩; have H1 := Lib.hid h1; have H2 := Lib.hid h2; have H3 := Lib.hid h3; clear h1 h2 h3)
  go_ret
  exact ⟨_, rfl, H1.out, H2.out, H3.out, h4⟩
/-- The bytes of a number, in new memory. -/
theorem cPut_ok (x : Nat) (hx : x < 2 ^ 64) (w : World) :
    Calls Tryz.prog 68 #[.int .u64 (x : Int)] w fun e w' => ∃ v, e = .returned v ∧ Row w' 5 1 v (Cod.enc x).length (B (Cod.enc x)) ∧ (∀ j, v.ownBlock = some j → w.heap.size ≤ j) ∧ v ≠ .slice none 0 0 ∧ Keeps Nob w w' := by
  have HX := Lib.hid hx
  have c1 : (w.alloc (.cells #[.int .u64 (x : Int)] 40)).cell? ⟨w.heap.size, 0, none⟩ = some (.int .u64 (x : Int)) := (World.cell?_alloc_at _ _ _ _ rfl).trans rfl
  have f1 : (w.alloc (.cells #[.int .u64 (x : Int)] 40)).frozen? ⟨w.heap.size, 0, none⟩ = false := by simp [go_sem]
  have HA := Lib.hid (collect_ok w.heap.size x hx _ c1 f1)
  clear hx c1 f1
  go_enter Tryz.func68, Tryz.ntmps68
  go_wp2_with (first
    | (go_at_call 88; refine (digits_ok _ _).mono ?_; rintro e w' ⟨rfl, rfl⟩)
    | (go_at_call 87; refine HA.out.mono ?_; rintro e w' ⟨v, rfl, h1, h2, h3, h4⟩; have H1 := Lib.hid h1; have H2 := Lib.hid h2; have H3 := Lib.hid h3; clear h1 h2 h3))
  go_ret
  refine ⟨_, rfl, H1.out, fun j hj => ?_, H3.out, ((Keeps.refl Nob w).alloc _).then h4 (fun i hi (e : i = w.heap.size) => by omega)⟩
  have := H2.out j hj
  simp at this; omega
end Go.Proofs.YtghohakbepeffaaGreatDoor
namespace Go.Proofs.YtghohakbepeffaaGreatDoor
set_option maxRecDepth 100000
set_option maxHeartbeats 4000000
open Go Go.RowKit Go.Own Go.Shelf
theorem and127_fin : ∀ r : Fin 256, bits .and .u8 ((r.val : Nat) : Int) 127 = ((r.val % 128 : Nat) : Int) := by decide +kernel
theorem and127 (z : Nat) (hz : z < 256) : bits .and .u8 (z : Int) 127 = ((z % 128 : Nat) : Int) := and127_fin ⟨z, hz⟩
theorem pow128 (k : Nat) : 2 ^ (7 * k) = 128 ^ k := by rw [Nat.pow_mul]
theorem acc_small (z m k : Nat) (hk : k ≤ 9) (h9 : k = 9 → z ≤ 1) : z % 128 * 128 ^ k < 18446744073709551616 := by
  have h : k = 0 ∨ k = 1 ∨ k = 2 ∨ k = 3 ∨ k = 4 ∨ k = 5 ∨ k = 6 ∨ k = 7 ∨ k = 8 ∨ k = 9 := by omega
  rcases h with rfl | rfl | rfl | rfl | rfl | rfl | rfl | rfl | rfl | rfl <;> simp <;> omega
theorem acc_join (x m k : Nat) (hm : m < 128 ^ k) : m ||| x * 128 ^ k = m + x * 128 ^ k := by
  rw [Nat.or_comm, nat_join (7 * k) (x * 128 ^ k) m (by rw [pow128]; exact Nat.mul_mod_left _ _) (by rw [pow128]; exact hm), Nat.add_comm]
theorem wrap_u64_nat (n : Nat) (h : n < 18446744073709551616) : IntKind.u64.wrap (n : Int) = (n : Int) := by
  simp [IntKind.wrap, IntKind.bits, IntKind.signed]; omega
/-- A byte's groups are laid to those that were there. -/
theorem acc_mod (z m k : Nat) (hk : k ≤ 9) (h9 : k = 9 → z ≤ 1) (hm : m < 128 ^ k) (hm2 : m < 18446744073709551616) :
    bits .or .u64 (m : Int) (IntKind.u64.wrap (IntKind.u64.wrap ((z % 128 : Nat) : Int) * 2 ^ (7 * k))) = ((m + z % 128 * 128 ^ k : Nat) : Int) := by
  have hs := acc_small z m k hk h9
  rw [wrap_u64_nat (z % 128) (by omega)]
  have e : ((z % 128 : Nat) : Int) * 2 ^ (7 * k) = ((z % 128 * 128 ^ k : Nat) : Int) := by
    rw [← pow128]; simp
  rw [e, wrap_u64_nat _ hs, u64_or_nat _ _ hm2 hs, acc_join _ _ _ hm]
theorem acc_and (z m k : Nat) (hz : z < 256) (hk : k ≤ 9) (h9 : k = 9 → z ≤ 1) (hm : m < 128 ^ k) (hm2 : m < 18446744073709551616) :
    bits .or .u64 (m : Int) (IntKind.u64.wrap (IntKind.u64.wrap (bits .and .u8 (z : Int) 127) * 2 ^ (7 * k))) = ((m + z % 128 * 128 ^ k : Nat) : Int) := by
  rw [and127 z hz]; exact acc_mod z m k hk h9 hm hm2
theorem acc_next (z m k : Nat) (hm : m < 128 ^ k) : m + z % 128 * 128 ^ k < 128 ^ (k + 1) := by
  rw [Nat.pow_succ, Nat.mul_comm _ 128]
  have : z % 128 ≤ 127 := by omega
  have := Nat.mul_le_mul_right (128 ^ k) this
  omega
theorem pow128_le (k : Nat) (hk : k ≤ 9) : 128 ^ k ≤ 9223372036854775808 := by
  have : 128 ^ k ≤ 128 ^ 9 := Nat.pow_le_pow_right (by omega) hk
  simpa using this
/-- What has come of the bytes ahead of place k. -/
def NumAt (l : List UInt8) (k m : Nat) : Prop := Cod.num l = Cod.numF (l.drop k) k m ∧ m < 128 ^ k ∧ k ≤ 9
theorem NumAt.zero (l : List UInt8) : NumAt l 0 0 := ⟨rfl, by omega, by omega⟩
theorem drop_cons (l : List UInt8) (k : Nat) (c : UInt8) (h : l[k]? = some c) : l.drop k = c :: l.drop (k + 1) := by
  obtain ⟨hk, e⟩ := List.getElem?_eq_some_iff.1 h
  rw [List.drop_eq_getElem_cons hk, e]
theorem NumAt.end_ {l : List UInt8} {k m : Nat} (h : NumAt l k m) (hk : l.length ≤ k) : Cod.num l = (0, 0, 6) := by
  rw [h.1, List.drop_eq_nil_of_le hk]; rfl
theorem NumAt.form {l : List UInt8} {k m z : Nat} {c : UInt8} (h : NumAt l k m) (hc : l[k]? = some c) (hz : c.toNat = z) (hf : (k = 9 ∧ 1 < z) ∨ (0 < k ∧ z = 0)) : Cod.num l = (0, 0, 5) := by
  rw [h.1, drop_cons l k c hc, Cod.numF, hz, if_pos hf]
theorem NumAt.done {l : List UInt8} {k m z : Nat} {c : UInt8} (h : NumAt l k m) (hc : l[k]? = some c) (hz : c.toNat = z) (hf : ¬ ((k = 9 ∧ 1 < z) ∨ (0 < k ∧ z = 0))) (hlt : z < 128) : Cod.num l = (m + z % 128 * 128 ^ k, k + 1, 0) := by
  rw [h.1, drop_cons l k c hc, Cod.numF, hz, if_neg hf, if_pos hlt]
theorem NumAt.more {l : List UInt8} {k m z : Nat} {c : UInt8} (h : NumAt l k m) (hc : l[k]? = some c) (hz : c.toNat = z) (hf : ¬ ((k = 9 ∧ 1 < z) ∨ (0 < k ∧ z = 0))) (hge : ¬ z < 128) : NumAt l (k + 1) (m + z % 128 * 128 ^ k) := by
  refine ⟨?_, acc_next z m k h.2.1, ?_⟩
  · rw [h.1, drop_cons l k c hc, Cod.numF, hz, if_neg hf, if_neg hge]
  · have := h.2.2; omega
theorem num_ret {l : List UInt8} {r : Nat × Nat × Int} {a b : Nat} {e : Int} (h1 : Cod.num l = r) (h2 : Cod.num l = (a, b, e)) : r = (a, b, e) := h1.symm.trans h2
theorem number_ok (v : Value) (l : List UInt8) (w : World) (hv : BytesAt w v l) :
    Calls Tryz.prog 73 #[v] w fun e w' => e = .returned (.tuple #[.int .u64 ((Cod.num l).1 : Int), .int .i64 ((Cod.num l).2.1 : Int), .int .i64 (Cod.num l).2.2]) ∧ w = w' := by
  have hlen := hv.length_le
  obtain ⟨A, cap, rfl⟩ := hv.len
  have HV := Lib.hid hv; clear hv
  obtain ⟨r, hr⟩ : ∃ r, Cod.num l = r := ⟨_, rfl⟩
  rw [hr]
  have HR := Lib.hid hr; clear hr
  go_enter Tryz.func73, Tryz.ntmps73
  go_wp2_with fail
  go_loop [5, 10] (fun n i => ∃ k m : Nat, k ≤ l.length ∧ i = .int .i64 k ∧ n = .int .u64 (m : Int) ∧ Hid (NumAt l k m) ∧ k ≤ 9) (fun _ i => l.length - (intOf i).toNat)
  case atStart => exact ⟨0, 0, Nat.zero_le _, rfl, rfl, Lib.hid (NumAt.zero l), by omega⟩
  case round =>
    obtain ⟨k, m, hk, rfl, rfl, HK, hk9⟩ := hrel
    by_cases hlt : k < l.length
    · obtain ⟨c, hc⟩ : ∃ c, l[k]? = some c := ⟨_, List.getElem?_eq_getElem hlt⟩
      obtain ⟨b, o, cap', hv, hb, c0⟩ := HV.out.at_ k c hc
      simp only [Value.slice.injEq, true_and] at hv
      obtain ⟨rfl, rfl⟩ := hv
      have HC := Lib.hid hc
      clear hc
      have hc256 : c.toNat < 256 := c.toNat_lt
      obtain ⟨z, hz⟩ : ∃ z, c.toNat = z := ⟨_, rfl⟩
      rw [hz] at c0 hc256
      have HZ := Lib.hid hz; clear hz
      have key : ((k = 9 ∧ 1 < z) ∨ (0 < k ∧ z = 0)) ∨ ¬ ((k = 9 ∧ 1 < z) ∨ (0 < k ∧ z = 0)) := Decidable.em _
      rcases key with hf | hf
      · obtain rfl := num_ret HR.out (HK.out.form HC.out HZ.out hf)
        have kinds : (((k : Int) == 9) = true ∧ (k == 9) = true ∧ decide (1 < (z : Int)) = true ∧ decide (1 < z) = true) ∨ (((k : Int) == 9) = false ∧ (k == 9) = false ∧ decide (0 < (k : Int)) = true ∧ decide (0 < k) = true ∧ ((z : Int) == 0) = true ∧ (z == 0) = true) ∨ (((k : Int) == 9) = true ∧ (k == 9) = true ∧ decide (1 < (z : Int)) = false ∧ decide (1 < z) = false ∧ decide (0 < (k : Int)) = true ∧ decide (0 < k) = true ∧ ((z : Int) == 0) = true ∧ (z == 0) = true) := by
          simp; omega
        clear hf
        rcases kinds with ⟨b0, b1, b2, b3⟩ | ⟨b0, b1, b2, b3, b4, b5⟩ | ⟨b0, b1, b2, b3, b4, b5, b6, b7⟩
        all_goals
          go_wp2_with fail
          go_ret3
          exact ⟨rfl, rfl⟩
      · have h9 : k = 9 → z ≤ 1 := fun h => by omega
        have hacc := acc_and z m k hc256 hk9 h9 HK.out.2.1 (Nat.lt_of_lt_of_le HK.out.2.1 (Nat.le_trans (pow128_le k hk9) (by omega)))
        clear h9
        have kinds : (((k : Int) == 9) = false ∧ (k == 9) = false ∧ decide (0 < (k : Int)) = false ∧ decide (0 < k) = false) ∨ (((k : Int) == 9) = false ∧ (k == 9) = false ∧ decide (0 < (k : Int)) = true ∧ decide (0 < k) = true ∧ ((z : Int) == 0) = false ∧ (z == 0) = false) ∨ (((k : Int) == 9) = true ∧ (k == 9) = true ∧ decide (1 < (z : Int)) = false ∧ decide (1 < z) = false ∧ decide (0 < (k : Int)) = true ∧ decide (0 < k) = true ∧ ((z : Int) == 0) = false ∧ (z == 0) = false) := by
          simp; omega
        by_cases hlt : z < 128
        · have hd := HK.out.done HC.out HZ.out hf hlt
          clear hf
          generalize m + z % 128 * 128 ^ k = m' at hacc hd
          obtain rfl := num_ret HR.out hd
          clear hd
          rcases kinds with ⟨b0, b1, b2, b3⟩ | ⟨b0, b1, b2, b3, b4, b5⟩ | ⟨b0, b1, b2, b3, b4, b5, b6, b7⟩
          all_goals
            go_wp2_with fail
            go_ret3
            exact ⟨rfl, rfl⟩
        · have HN := Lib.hid (HK.out.more HC.out HZ.out hf hlt)
          have h91 := HN.out.2.2
          clear hf
          generalize m + z % 128 * 128 ^ k = m' at hacc HN
          rcases kinds with ⟨b0, b1, b2, b3⟩ | ⟨b0, b1, b2, b3, b4, b5⟩ | ⟨b0, b1, b2, b3, b4, b5, b6, b7⟩
          all_goals
            go_wp2_with fail
            go_round
            case rel => exact ⟨k + 1, m', by omega, by go_num, rfl, HN, h91⟩
            case measure => simp [intOf]; omega
    · obtain rfl := num_ret HR.out (HK.out.end_ (by omega))
      go_wp2_with fail
      go_ret3
      exact ⟨rfl, rfl⟩
end Go.Proofs.YtghohakbepeffaaGreatDoor
namespace Go.Proofs.YtghohakbepeffaaGreatDoor
set_option maxRecDepth 100000
set_option maxHeartbeats 4000000
open Go Go.RowKit Go.Own Go.Shelf
/-- What Get tells: a number, the place behind it, an error, its place. -/
def getAt (l : List UInt8) (at_ : Int) : Nat × Int × Int × Int :=
  if at_ < 0 ∨ (l.length : Int) < at_ then (0, 0, 3, 0)
  else if (Cod.num (l.drop at_.toNat)).2.2 = 0 then ((Cod.num (l.drop at_.toNat)).1, at_ + ((Cod.num (l.drop at_.toNat)).2.1 : Int), 0, 0) else (0, 0, (Cod.num (l.drop at_.toNat)).2.2, at_)
theorem getAt_out (l : List UInt8) (at_ : Int) (h : at_ < 0 ∨ (l.length : Int) < at_) : getAt l at_ = (0, 0, 3, 0) := by unfold getAt; rw [if_pos h]
theorem getAt_ok (l : List UInt8) (k : Nat) (h : k ≤ l.length) (he : (Cod.num (l.drop k)).2.2 = 0) : getAt l k = ((Cod.num (l.drop k)).1, (k : Int) + ((Cod.num (l.drop k)).2.1 : Int), 0, 0) := by
  unfold getAt; rw [if_neg (by omega), Int.toNat_natCast, if_pos he]
theorem getAt_bad (l : List UInt8) (k : Nat) (h : k ≤ l.length) (he : (Cod.num (l.drop k)).2.2 ≠ 0) : getAt l k = (0, 0, (Cod.num (l.drop k)).2.2, (k : Int)) := by
  unfold getAt; rw [if_neg (by omega), Int.toNat_natCast, if_neg he]
/-- Its four answers as Go's three. -/
def getV (r : Nat × Int × Int × Int) : Value := .tuple #[.int .u64 (r.1 : Int), .int .i64 r.2.1, .agg #[.int .i64 r.2.2.1, .int .i64 r.2.2.2]]
theorem bytes_size : ∀ w, (Go.sizeOf (Tryz.prog.elem 23)).run Tryz.prog w = .ok 1 w := fun w => by kernel_rfl
end Go.Proofs.YtghohakbepeffaaGreatDoor
namespace Go.Proofs.YtghohakbepeffaaGreatDoor
set_option maxRecDepth 100000
set_option maxHeartbeats 4000000
open Go Go.RowKit Go.Own Go.Shelf
theorem or128b (m : Nat) : bits .or .u8 ((m : Int) % 128) 128 = ((m % 128 + 128 : Nat) : Int) := by
  have h := or128_fin ⟨m % 128, by omega⟩
  have e1 : ((m % 128 : Nat) : Int) = (m : Int) % 128 := by omega
  have e2 : m % 128 % 128 = m % 128 := by omega
  simp only [e1, e2] at h
  exact h
theorem rPut_any (f : Nat) : ∀ (i n : Nat) (w : World), f + i = 10 → i ≤ 9 → n < 2 ^ (64 - 7 * i) →
    Calls Tryz.prog 40 #[.int .u64 (n : Int)] w fun e w' => ∃ v, e = .returned v ∧ Row w' 5 1 v (Cod.encF f n).length (B (Cod.encF f n)) ∧ (∀ j, v.ownBlock = some j → w.heap.size ≤ j) ∧ v ≠ .slice none 0 0 ∧ Keeps Nob w w' := by
  obtain ⟨i0, hi, hz0, hz1, hz2⟩ := info_parts u8_info
  induction f with
  | zero => intro i n w h hi; omega
  | succ f ih =>
    intro i n w h hi9 hn
    by_cases hlt : n < 128
    · rw [Cod.encF_last f n hlt]
      have hm : ((n : Int) % 256) = (n : Int) := by omega
      go_enter Tryz.func40, Tryz.ntmps40
      go_wp2_with fail
      have hr := Row.newB w [UInt8.ofNat n] 5 (by simp [maxLen])
      have e1 : (B [UInt8.ofNat n]).toArray = #[.int .u8 (n : Int)] := by simp [B]; omega
      rw [e1] at hr
      go_ret
      exact ⟨_, rfl, hr, fun j hj => by simp [Value.ownBlock] at hj; omega, by simp, (Keeps.refl _ _).alloc _⟩
    · obtain ⟨hi8, hs⟩ := Cod.small_step i n hi9 hn (by omega)
      rw [Cod.encF_more f n (by omega)]
      have IH := Lib.hid (ih (i + 1) (n / 128) (w.alloc (.cells #[.int .u8 ((n % 128 + 128 : Nat) : Int)] 5)) (by omega) (by omega) hs)
      have hb := or128b n
      have HN := Lib.hid hn
      have HS := Lib.hid hs
      have hq : IntKind.u64.wrap ((n : Int) / 128) = ((n / 128 : Nat) : Int) := by
        have : n / 128 < 18446744073709551616 := Nat.lt_of_lt_of_le hs (by
          have : 2 ^ (64 - 7 * (i + 1)) ≤ 2 ^ 64 := Nat.pow_le_pow_right (by omega) (by omega)
          simpa using this)
        rw [show ((n : Int) / 128) = ((n / 128 : Nat) : Int) by omega]
        exact wrap_u64_nat _ this
      have hlen : (Cod.encF f (n / 128)).length ≤ 10 := by have := Cod.encF_length f (n / 128); omega
      clear ih hn hs
      generalize hz : n % 128 + 128 = z at hb IH ⊢
      have hz256 : z < 256 := by omega
      have hr1 := Row.newB w [UInt8.ofNat z] 5 (by simp [maxLen])
      have e1 : (B [UInt8.ofNat z]).toArray = #[.int .u8 (z : Int)] := by simp [B]; omega
      rw [e1] at hr1
      have HR1 := Lib.hid hr1
      clear hz e1 hr1
      generalize Cod.encF f (n / 128) = rest at IH hlen ⊢
      generalize n / 128 = q at hq IH
      go_enter Tryz.func40, Tryz.ntmps40
      go_wp2_with (first
        | (at_builtin; refine own_append2 rfl _ _ 23 rfl 5 i0 (.int .u8 0) 1 1 Tryz.underlying23 hi hz0 hz1 hz2 rfl (by decide) (.slice (some ⟨w.heap.size, 0, none⟩) 1 1) 1 _ rfl (HR1.out.keeps H4.out (fun _ _ x => x)) v rest.length (B rest) rfl (H1.out.src (B_one _)) (by unfold maxLen; omega) (by omega) ?_; intro v' w1 hown' hgrow hnil hat; obtain ⟨g', cap', rfl, hg'⟩ := hown'.spell (by omega))
        | (go_at_call 40; refine IH.out.mono ?_; rintro e w' ⟨v, rfl, h1, h2, h3, h4⟩; have H1 := Lib.hid h1; have H2 := Lib.hid h2; have H3 := Lib.hid h3; have H4 := Lib.hid h4; clear h1 h2 h3 h4))
      go_ret
      refine ⟨.slice (some ⟨g', 0, none⟩) (1 + rest.length) cap', rfl, ?_, fun j hj => ?_, by simp, ?_⟩
      · rw [show rest.length + 1 = 1 + rest.length by omega]
        exact hown'
      · have h5 := hat j (by simpa [Value.ownBlock] using hj)
        have h6 := H4.out.size
        simp at h6
        rcases h5 with h5 | ⟨h5, _⟩
        · simp [Value.ownBlock] at h5; omega
        · omega
      · exact (((Keeps.refl Nob w).alloc _).trans H4.out).grown hgrow (fun j hj hlt => by simp [Value.ownBlock] at hj; omega)
/-- The document's Put tells the same bytes, in new memory. -/
theorem rPut_ok (x : Nat) (hx : x < 2 ^ 64) (w : World) :
    Calls Tryz.prog 40 #[.int .u64 (x : Int)] w fun e w' => ∃ v, e = .returned v ∧ Row w' 5 1 v (Cod.enc x).length (B (Cod.enc x)) ∧ (∀ j, v.ownBlock = some j → w.heap.size ≤ j) ∧ v ≠ .slice none 0 0 ∧ Keeps Nob w w' :=
  rPut_any 10 0 x w (by omega) (by omega) (by simpa using hx)
end Go.Proofs.YtghohakbepeffaaGreatDoor
namespace Go.Proofs.YtghohakbepeffaaGreatDoor
set_option maxRecDepth 100000
set_option maxHeartbeats 4000000
open Go Go.RowKit Go.Own Go.Shelf
/-- A reader's state: its error (0: none) and its place, or that of its fault. -/
structure RS where
  err : Int
  pos : Int
/-- A reader at block b: its bytes' slice v, its fault's pointer fp, its own place. -/
structure RdAt (w : World) (b : Nat) (v fp : Value) (l : List UInt8) (s : RS) : Prop where
  ex : ∃ at_ : Nat, w.heap[b]? = some (.cells #[v, .int .i64 (at_ : Int), .bool true, fp] 109 (0, 0)) ∧ at_ ≤ l.length ∧
    ((s.err = 0 ∧ s.pos = at_ ∧ fp = .pointer none) ∨ (s.err ≠ 0 ∧ ∃ g, fp = .pointer (some ⟨g, 0, none⟩) ∧ g ≠ b ∧ w.heap[g]? = some (.cells #[.int .i64 s.err, .int .i64 s.pos] 31 (0, 0))))
  bytes : BytesAt w v l
  own : v.ownBlock ≠ some b
def ptrBlock : Value → Option Nat
  | .pointer (some a) => some a.block
  | _ => none
/-- Its blocks. -/
def rdBlk (b : Nat) (v fp : Value) : Nat → Prop := fun j => j = b ∨ v.ownBlock = some j ∨ ptrBlock fp = some j
theorem RdAt.keeps {w w' : World} {M : Nat → Prop} {b : Nat} {v fp : Value} {l : List UInt8} {s : RS} (h : RdAt w b v fp l s) (k : Keeps M w w') (hm : ∀ j, rdBlk b v fp j → ¬ M j) : RdAt w' b v fp l s := by
  obtain ⟨at_, hb, hl, hf⟩ := h.ex
  refine ⟨⟨at_, (k.block b (lt_of_block hb) (hm b (.inl rfl))).trans hb, hl, ?_⟩, h.bytes.keeps k (fun j hj => hm j (.inr (.inl hj))), h.own⟩
  rcases hf with hf | ⟨h0, g, rfl, hg, hc⟩
  · exact .inl hf
  · exact .inr ⟨h0, g, rfl, hg, (k.block g (lt_of_block hc) (hm g (.inr (.inr rfl)))).trans hc⟩
theorem RdAt.lt {w : World} {b : Nat} {v fp : Value} {l : List UInt8} {s : RS} (h : RdAt w b v fp l s) : b < w.heap.size := by
  obtain ⟨at_, hb, _⟩ := h.ex
  exact lt_of_block hb
theorem rnone_ok (b : Nat) (v fp : Value) (l : List UInt8) (s : RS) (w : World) (h : RdAt w b v fp l s) :
    Calls Tryz.prog 74 #[.pointer (some ⟨b, 0, none⟩)] w fun e w' => e = .returned (.bool false) ∧ w = w' := by
  obtain ⟨at_, hb, hl, hf⟩ := h.ex
  have c2 : w.cell? ⟨b, 2, none⟩ = some (.bool true) := (cell_of_row w b 2 _ _ _ hb).trans rfl
  clear h hb hf
  go_enter Tryz.func74, Tryz.ntmps74
  go_wp2
  go_ret
  exact ⟨rfl, rfl⟩
theorem rAt_ok (b : Nat) (v fp : Value) (l : List UInt8) (s : RS) (w : World) (h : RdAt w b v fp l s) :
    Calls Tryz.prog 43 #[.pointer (some ⟨b, 0, none⟩)] w fun e w' => e = .returned (.int .i64 s.pos) ∧ w = w' := by
  have HN := Lib.hid (rnone_ok b v fp l s w h)
  obtain ⟨at_, hb, hl, hf⟩ := h.ex
  have c1 : w.cell? ⟨b, 1, none⟩ = some (.int .i64 (at_ : Int)) := (cell_of_row w b 1 _ _ _ hb).trans rfl
  have c3 : w.cell? ⟨b, 3, none⟩ = some fp := (cell_of_row w b 3 _ _ _ hb).trans rfl
  clear h hb
  rcases hf with ⟨h0, hp, rfl⟩ | ⟨h0, g, rfl, hg, hc⟩
  · rw [hp]
    clear hp
    go_enter Tryz.func43, Tryz.ntmps43
    go_wp2_with (go_at_call 74; refine HN.out.mono ?_; rintro e w' ⟨rfl, rfl⟩)
    go_ret
    exact ⟨rfl, rfl⟩
  · have g1 : w.cell? ⟨g, 1, none⟩ = some (.int .i64 s.pos) := (cell_of_row w g 1 _ _ _ hc).trans rfl
    clear hc
    go_enter Tryz.func43, Tryz.ntmps43
    go_wp2_with (go_at_call 74; refine HN.out.mono ?_; rintro e w' ⟨rfl, rfl⟩)
    go_ret
    exact ⟨rfl, rfl⟩
/-- How many bytes are left. -/
def RS.left (s : RS) (l : List UInt8) : Int := if s.err = 0 then l.length - s.pos else 0
/-- What End tells. -/
def RS.fin (s : RS) (l : List UInt8) : Int × Int := if s.err = 0 then (if s.pos < l.length then (4, s.pos) else (0, 0)) else (s.err, s.pos)
theorem rEnd_ok (b : Nat) (v fp : Value) (l : List UInt8) (s : RS) (w : World) (h : RdAt w b v fp l s) :
    Calls Tryz.prog 46 #[.pointer (some ⟨b, 0, none⟩)] w fun e w' => e = .returned (.agg #[.int .i64 (s.fin l).1, .int .i64 (s.fin l).2]) ∧ Keeps Nob w w' := by
  have hk0 : Keeps Nob w (w.alloc (.cells #[.int .i64 0, .int .i64 0] 31)) := (Keeps.refl _ _).alloc _
  have hA := h.keeps hk0 (fun _ _ x => x)
  have HN := Lib.hid (rnone_ok b v fp l s _ hA)
  have hll := h.bytes.length_le
  obtain ⟨A, cap, rfl⟩ := h.bytes.len
  obtain ⟨at_, hb, hl, hf⟩ := hA.ex
  have hlt := h.lt
  have c0 := (cell_of_row _ b 0 _ _ _ hb).trans (show _ = some (.slice A l.length cap) from rfl)
  have c1 := (cell_of_row _ b 1 _ _ _ hb).trans (show _ = some (.int .i64 (at_ : Int)) from rfl)
  have c3 := (cell_of_row _ b 3 _ _ _ hb).trans (show _ = some fp from rfl)
  clear h hA hb
  rcases hf with ⟨h0, hp, rfl⟩ | ⟨h0, g, rfl, hg, hc⟩
  · by_cases h1 : at_ < l.length
    · have hs : s.fin l = (4, (at_ : Int)) := by unfold RS.fin; rw [if_pos h0, hp, if_pos (by omega)]
      rw [hs]
      clear hs h0 hp
      go_enter Tryz.func46, Tryz.ntmps46
      go_wp2_with (go_at_call 74; refine HN.out.mono ?_; rintro e w' ⟨rfl, rfl⟩)
      go_quiet (fail)
      go_wp2
      exact bodyPost_ret (v := .agg #[.int .i64 4, .int .i64 (at_ : Int)]) (by simp [results, Tryz.results46, go_sem]) rfl ⟨rfl, ((hk0.drewN _).setCell_new (p := ⟨w.heap.size, 0, none⟩) (Nat.le_refl _) _).setCell_new (p := ⟨w.heap.size, 1, none⟩) (Nat.le_refl _) _⟩
    · have hs : s.fin l = (0, 0) := by unfold RS.fin; rw [if_pos h0, hp, if_neg (by omega)]
      rw [hs]
      clear hs h0 hp
      go_enter Tryz.func46, Tryz.ntmps46
      go_wp2_with (go_at_call 74; refine HN.out.mono ?_; rintro e w' ⟨rfl, rfl⟩)
      go_quiet (fail)
      go_wp2
      exact bodyPost_ret (v := .agg #[.int .i64 0, .int .i64 0]) (by simp [results, Tryz.results46, go_sem]) rfl ⟨rfl, ((hk0.drewN _).setCell_new (p := ⟨w.heap.size, 0, none⟩) (Nat.le_refl _) _).setCell_new (p := ⟨w.heap.size, 1, none⟩) (Nat.le_refl _) _⟩
  · have g0 := (cell_of_row _ g 0 _ _ _ hc).trans (show _ = some (.int .i64 s.err) from rfl)
    have g1 := (cell_of_row _ g 1 _ _ _ hc).trans (show _ = some (.int .i64 s.pos) from rfl)
    have hs : s.fin l = (s.err, s.pos) := by unfold RS.fin; rw [if_neg h0]
    rw [hs]
    clear hs h0 hc
    go_enter Tryz.func46, Tryz.ntmps46
    go_wp2_with (go_at_call 74; refine HN.out.mono ?_; rintro e w' ⟨rfl, rfl⟩)
    exact bodyPost_ret (v := .agg #[.int .i64 s.err, .int .i64 s.pos]) (by simp [results, Tryz.results46, go_sem]) rfl ⟨rfl, (Keeps.refl _ _).alloc _⟩
/-- A fault that is laid from without. -/
def RS.fail (s : RS) (e p : Int) : RS := if s.err = 0 ∧ e ≠ 0 then ⟨e, p⟩ else s
/-- What a step may lay: a fault's new block. -/
def NewPtr (w : World) (fp fp' : Value) : Prop := fp' = fp ∨ ∃ g, fp' = .pointer (some ⟨g, 0, none⟩) ∧ w.heap.size ≤ g
theorem rFail_ok (b : Nat) (v fp : Value) (l : List UInt8) (s : RS) (e p : Int) (w : World) (h : RdAt w b v fp l s) :
    Calls Tryz.prog 44 #[.pointer (some ⟨b, 0, none⟩), .int .i64 e, .int .i64 p] w fun x w' => (∃ r, x = .returned r) ∧ (∃ fp', RdAt w' b v fp' l (s.fail e p) ∧ NewPtr w fp fp') ∧ Keeps (One b) w w' := by
  have H := Lib.hid h
  have HN := Lib.hid (rnone_ok b v fp l s w h)
  obtain ⟨at_, hb, hl, hf⟩ := h.ex
  have c3 : w.cell? ⟨b, 3, none⟩ = some fp := (cell_of_row w b 3 _ _ _ hb).trans rfl
  have f3 : w.frozen? ⟨b, 3, none⟩ = false := frozen_of_row w b 3 _ _ hb
  have hlt := h.lt
  have HBK := Lib.hid hb
  clear h hb
  rcases hf with ⟨h0, hp, rfl⟩ | ⟨h0, g, rfl, hg, hc⟩
  · by_cases he : e = 0
    · have hs : s.fail e p = s := by unfold RS.fail; rw [if_neg (by simp [he])]
      rw [hs]
      have hb : (e != 0) = false := by simpa using he
      clear hs h0 hp he
      go_enter Tryz.func44, Tryz.ntmps44
      go_wp2_with (go_at_call 74; refine HN.out.mono ?_; rintro e w' ⟨rfl, rfl⟩)
      go_end0
      exact ⟨⟨_, rfl⟩, ⟨_, H.out, .inl rfl⟩, Keeps.refl _ _⟩
    · have hs : s.fail e p = ⟨e, p⟩ := by unfold RS.fail; rw [if_pos ⟨h0, he⟩]
      rw [hs]
      have hb : (e != 0) = true := by simpa using he
      have HE := Lib.hid he
      clear hs h0 hp he
      go_enter Tryz.func44, Tryz.ntmps44
      go_wp2_with (go_at_call 74; refine HN.out.mono ?_; rintro e w' ⟨rfl, rfl⟩)
      go_end0
      have kS : Keeps (One b) w (w.setCell ⟨b, 3, none⟩ (.pointer (some ⟨w.heap.size, 0, none⟩))) := (Keeps.refl _ _).setOne _
      have hbS : (w.setCell ⟨b, 3, none⟩ (.pointer (some ⟨w.heap.size, 0, none⟩))).heap[b]? = some (.cells #[v, .int .i64 (at_ : Int), .bool true, .pointer (some ⟨w.heap.size, 0, none⟩)] 109 (0, 0)) := heap_setCell_same w b 3 _ _ _ HBK.out
      have hsz : (w.setCell ⟨b, 3, none⟩ (.pointer (some ⟨w.heap.size, 0, none⟩))).heap.size = w.heap.size := by simp
      generalize w.setCell ⟨b, 3, none⟩ (.pointer (some ⟨w.heap.size, 0, none⟩)) = WS at *
      have hg2 : (WS.alloc (.cells #[.int .i64 e, .int .i64 p] 31)).heap[w.heap.size]? = some (.cells #[.int .i64 e, .int .i64 p] 31 (0, 0)) := by rw [← hsz]; exact heap_alloc_new _ _
      have hk := kS.alloc (.cells #[.int .i64 e, .int .i64 p] 31)
      refine ⟨⟨_, rfl⟩, ⟨_, ⟨⟨at_, (Below.heap_alloc _ _ _ (by omega)).trans hbS, hl, .inr ⟨HE.out, w.heap.size, rfl, by omega, hg2⟩⟩, ?_, H.out.own⟩, .inr ⟨_, rfl, Nat.le_refl _⟩⟩, hk⟩
      exact H.out.bytes.keeps hk (fun j hj (e : j = b) => H.out.own (by rw [hj, e]))
  · have hs : s.fail e p = s := by unfold RS.fail; rw [if_neg (by simp [h0])]
    rw [hs]
    clear hs h0 hc
    go_enter Tryz.func44, Tryz.ntmps44
    go_wp2_with (go_at_call 74; refine HN.out.mono ?_; rintro e w' ⟨rfl, rfl⟩)
    go_end0
    exact ⟨⟨_, rfl⟩, ⟨_, H.out, .inl rfl⟩, Keeps.refl _ _⟩
/-- 'slices.Clone' of bytes: nil of nil, else new memory. -/
theorem u8_info1 : (Tryz.prog.info? 5).map (fun i => (i.zero, i.size, i.bytes)) = some (some (.int .u8 0), 1, 1) := by kernel_rfl
theorem clone_ok (a : Value) (l : List UInt8) (w : World) (ha : BytesAt w a l) (hl : l.length ≤ 100000000) :
    Calls Tryz.prog 69 #[a] w fun e w' => ∃ v, e = .returned v ∧ Row w' 5 1 v l.length (B l) ∧ (∀ j, v.ownBlock = some j → w.heap.size ≤ j) ∧ Keeps Nob w w' := by
  obtain ⟨i0, hi, hz0, hz1, hz2⟩ := info_parts u8_info1
  obtain ⟨A, cap, rfl, h1, h2, h3⟩ := ha.form
  cases A with
  | none =>
    have h0 : l = [] := by
      cases l with
      | nil => rfl
      | cons x r => obtain ⟨b, o, c, e, _⟩ := ha.at_ 0 x rfl; simp at e
    subst h0
    obtain rfl := h3 rfl
    clear ha
    have hn := fun W => Lib.run_eql_slice_nil (P := Tryz.prog) W 23 5 none 0 0 0 0 Tryz.underlying23
    go_enter Tryz.func69, Tryz.ntmps69
    go_wp2
    go_ret
    exact ⟨_, rfl, ⟨rfl, .inl ⟨rfl, rfl⟩⟩, (fun j hj => by cases hj), Keeps.refl _ _⟩
  | some ad =>
    have hr := Row.empty w 5
    have hs := (ha.keepsN ((Keeps.refl Nob w).alloc (.cells #[] 5))).src
    have HA := Lib.hid ha
    clear ha h3
    have hn := fun W => Lib.run_eql_slice_nil (P := Tryz.prog) W 23 5 (some ad) l.length cap 0 0 Tryz.underlying23
    go_enter Tryz.func69, Tryz.ntmps69
    go_wp2_with (at_builtin; refine own_append2 rfl _ _ 23 rfl 5 i0 (.int .u8 0) 1 1 Tryz.underlying23 hi hz0 hz1 hz2 rfl (by decide) (.slice (some ⟨w.heap.size, 0, none⟩) 0 0) 0 _ rfl hr (.slice (some ad) l.length cap) l.length (B l) rfl hs (by unfold maxLen; omega) (by omega) ?_; intro v' w1 hown' hgrow hnil hat; rw [Nat.zero_add, List.nil_append] at hown'; have H1 := Lib.hid hown'; have H3 := Lib.hid hat; have H4 := Lib.hid hgrow; clear hown' hnil hat hgrow)
    go_ret
    refine ⟨_, rfl, H1.out, fun j hj => ?_, ((Keeps.refl Nob w).alloc _).grown H4.out (fun j hj hlt => by simp [Value.ownBlock] at hj; omega)⟩
    rcases H3.out j hj with h | ⟨h, _⟩
    · simp [Value.ownBlock] at h; omega
    · simp at h; omega
theorem newReader_ok (a : Value) (l : List UInt8) (w : World) (ha : BytesAt w a l) (hl : l.length ≤ 100000000) :
    Calls Tryz.prog 41 #[a] w fun e w' => ∃ b v, e = .returned (.pointer (some ⟨b, 0, none⟩)) ∧ RdAt w' b v (.pointer none) l ⟨0, 0⟩ ∧ w.heap.size ≤ b ∧ (∀ j, v.ownBlock = some j → w.heap.size ≤ j ∧ j < w'.heap.size) ∧ Keeps Nob w w' := by
  have HC := Lib.hid (clone_ok a l w ha hl)
  clear ha
  go_enter Tryz.func41, Tryz.ntmps41
  go_wp2_with (go_at_call 69; refine HC.out.mono ?_; rintro e w' ⟨v, rfl, h1, h2, h3⟩; obtain ⟨A, cap, rfl⟩ := (Row.bytes h1).len; have H1 := Lib.hid h1; have H2 := Lib.hid h2; clear h1 h2)
  go_ret
  have hkA : Keeps Nob w' (w'.alloc (.cells #[.slice A l.length cap, .int .i64 0, .bool true, .pointer none] 109)) := (Keeps.refl _ _).alloc _
  refine ⟨w'.heap.size, .slice A l.length cap, rfl, ⟨⟨0, heap_alloc_new _ _, Nat.zero_le _, .inl ⟨rfl, rfl, rfl⟩⟩, (Row.bytes H1.out).keepsN hkA, fun h => ?_⟩, h3.size, fun j hj => ⟨H2.out j hj, Nat.lt_of_lt_of_le (H1.out.lt hj) hkA.size⟩, h3.trans hkA⟩
  exact absurd (H1.out.lt h) (by omega)
end Go.Proofs.YtghohakbepeffaaGreatDoor
namespace Go.Proofs.YtghohakbepeffaaGreatDoor
set_option maxRecDepth 100000
set_option maxHeartbeats 4000000
open Go Go.RowKit Go.Own Go.Shelf
/-- A writer's state: its limit, its bytes, its error. -/
structure WS where
  lim : Int
  out : List UInt8
  err : Int
def WS.add (s : WS) (bs : List UInt8) : WS := if s.err = 0 then (if s.lim - s.out.length < bs.length then { s with err := 4 } else { s with out := s.out ++ bs }) else s
structure WrAt (w : World) (b : Nat) (v : Value) (s : WS) : Prop where
  blk : w.heap[b]? = some (.cells #[v, .int .i64 s.lim, .bool true, .int .i64 s.err] 104 (0, 0))
  row : Row w 5 1 v s.out.length (B s.out)
  own : v.ownBlock ≠ some b
  l0 : 0 ≤ s.lim
  l1 : s.lim ≤ 1048576
  fits : (s.out.length : Int) ≤ s.lim
/-- Its blocks. -/
def WBlk (b : Nat) (v : Value) : Nat → Prop := fun j => j = b ∨ v.ownBlock = some j
theorem WrAt.lt {w : World} {b : Nat} {v : Value} {s : WS} (h : WrAt w b v s) : b < w.heap.size := lt_of_block h.blk
theorem WrAt.blk_lt {w : World} {b : Nat} {v : Value} {s : WS} (h : WrAt w b v s) : ∀ j, WBlk b v j → j < w.heap.size := fun j hj => by
  rcases hj with rfl | hj
  · exact h.lt
  · exact h.row.lt hj
theorem WrAt.keeps {w w' : World} {M : Nat → Prop} {b : Nat} {v : Value} {s : WS} (h : WrAt w b v s) (k : Keeps M w w') (hm : ∀ j, WBlk b v j → ¬ M j) : WrAt w' b v s :=
  ⟨(k.block b h.lt (hm b (.inl rfl))).trans h.blk, h.row.keeps k (fun j hj => hm j (.inr hj)), h.own, h.l0, h.l1, h.fits⟩
theorem wstate_ok (b : Nat) (v : Value) (s : WS) (w : World) (h : WrAt w b v s) :
    Calls Tryz.prog 66 #[.pointer (some ⟨b, 0, none⟩)] w fun e w' => e = .returned (.int .i64 s.err) ∧ w = w' := by
  have c2 : w.cell? ⟨b, 2, none⟩ = some (.bool true) := (cell_of_row w b 2 _ _ _ h.blk).trans rfl
  have c3 : w.cell? ⟨b, 3, none⟩ = some (.int .i64 s.err) := (cell_of_row w b 3 _ _ _ h.blk).trans rfl
  clear h
  go_enter Tryz.func66, Tryz.ntmps66
  go_wp2
  go_ret
  exact ⟨rfl, rfl⟩
theorem newWriter_ok (lim : Int) (w : World) (h0 : 0 ≤ lim) (h1 : lim ≤ 1048576) :
    Calls Tryz.prog 35 #[.int .i64 lim] w fun e w' => ∃ b, e = .returned (.tuple #[.pointer (some ⟨b, 0, none⟩), .int .i64 0]) ∧ WrAt w' b (.slice none 0 0) ⟨lim, [], 0⟩ ∧ w.heap.size ≤ b ∧ Keeps Nob w w' := by
  have d0 : decide (lim < 0) = false := by simpa using h0
  have d1 : decide (1048576 < lim) = false := by simpa using h1
  go_enter Tryz.func35, Tryz.ntmps35
  go_wp2
  go_ret2
  exact ⟨_, rfl, ⟨heap_alloc_new _ _, ⟨rfl, .inl ⟨rfl, rfl⟩⟩, by simp [Value.ownBlock], h0, h1, by simpa using h0⟩, Nat.le_refl _, (Keeps.refl _ _).alloc _⟩
/-- What a step leaves of a writer. -/
def WPost (b : Nat) (v : Value) (s : WS) (w : World) (e : Ending) (w' : World) : Prop :=
  e = .returned (.int .i64 s.err) ∧ (∃ v', WrAt w' b v' s ∧ ∀ j, v'.ownBlock = some j → v.ownBlock = some j ∨ w.heap.size ≤ j) ∧ Keeps (WBlk b v) w w'
theorem wadd_ok (b : Nat) (v : Value) (s : WS) (x : Value) (bs : List UInt8) (w : World) (h : WrAt w b v s) (hx : BytesAt w x bs) (hl : bs.length ≤ 10000000) :
    Calls Tryz.prog 67 #[.pointer (some ⟨b, 0, none⟩), x] w (WPost b v (s.add bs) w) := by
  have HS := Lib.hid (wstate_ok b v s w h)
  have H := Lib.hid h
  obtain ⟨A, cap, rfl⟩ := hx.len
  obtain ⟨Av, cv, rfl⟩ := (Row.bytes h.row).len
  have c0 : w.cell? ⟨b, 0, none⟩ = some (.slice Av s.out.length cv) := (cell_of_row w b 0 _ _ _ h.blk).trans rfl
  have c1 : w.cell? ⟨b, 1, none⟩ = some (.int .i64 s.lim) := (cell_of_row w b 1 _ _ _ h.blk).trans rfl
  have c3 : w.cell? ⟨b, 3, none⟩ = some (.int .i64 s.err) := (cell_of_row w b 3 _ _ _ h.blk).trans rfl
  have f3 : w.frozen? ⟨b, 3, none⟩ = false := frozen_of_row w b 3 _ _ h.blk
  have hlt := h.lt
  have l0 := h.l0
  have l1 := h.l1
  have hfit := h.fits
  have HX := Lib.hid hx
  clear h hx
  by_cases h0 : s.err = 0
  · have d0 : (s.err != 0) = false := by simpa using h0
    have ew : IntKind.i64.wrap (s.lim - (s.out.length : Int)) = s.lim - (s.out.length : Int) := by rw [IntKind.wrap_i64]; omega
    by_cases h1 : s.lim - (s.out.length : Int) < (bs.length : Int)
    · have e1 : s.add bs = { s with err := 4 } := by unfold WS.add; rw [if_pos h0, if_pos h1]
      rw [e1]
      have d1 : decide (s.lim - (s.out.length : Int) < (bs.length : Int)) = true := by simpa using h1
      clear e1 h0
      go_enter Tryz.func67, Tryz.ntmps67
      go_wp2_with (go_at_call 66; refine HS.out.mono ?_; rintro e w' ⟨rfl, rfl⟩)
      go_quiet (fail)
      revert nq; intro n1
      go_wp2
      go_ret
      have hb2 := heap_setCell_same (w.drewN n1) b 3 _ _ (.int .i64 4) H.out.blk
      have hk : Keeps (One b) w ((w.drewN n1).setCell ⟨b, 3, none⟩ (.int .i64 4)) := ((Keeps.refl _ _).drewN n1).setOne _
      exact ⟨rfl, ⟨_, ⟨hb2, H.out.row.keeps hk (fun j hj (e : j = b) => H.out.own (by rw [hj, e])), H.out.own, l0, l1, hfit⟩, fun j hj => .inl hj⟩, hk.mono (fun _ _ e => .inl e)⟩
    · have e1 : s.add bs = { s with out := s.out ++ bs } := by unfold WS.add; rw [if_pos h0, if_neg h1]
      rw [e1]
      have d1 : decide (s.lim - (s.out.length : Int) < (bs.length : Int)) = false := by simpa using h1
      obtain ⟨i0, hi, hz0, hz1, hz2⟩ := info_parts u8_info0
      have HI := Lib.hid hi
      have HZ0 := Lib.hid hz0
      have HZ1 := Lib.hid hz1
      have HZ2 := Lib.hid hz2
      have H0 := Lib.hid h0
      clear e1 h0 hi hz0 hz1 hz2
      go_enter Tryz.func67, Tryz.ntmps67
      go_wp2_with (go_at_call 66; refine HS.out.mono ?_; rintro e w' ⟨rfl, rfl⟩)
      go_quiet (fail)
      revert nq; intro n1
      have kd : Hid (Keeps Nob w (w.drewN n1)) := Lib.hid ((Keeps.refl _ _).drewN n1)
      have HR1 := Lib.hid (H.out.row.keeps kd.out (fun _ _ x => x))
      have HS1 := Lib.hid (HX.out.keepsN kd.out).src
      go_wp2_with (at_builtin; refine own_append2 rfl _ _ 23 rfl 5 i0 (.int .u8 0) 1 1 Tryz.underlying23 HI.out HZ0.out HZ1.out HZ2.out rfl (by decide) _ _ _ rfl HR1.out (.slice A bs.length cap) bs.length (B bs) rfl HS1.out (len_small _ _ (by omega)) (len_bytes _ _ (by omega)) ?_; intro v' w1 hown' hgrow hnil hat; rw [← B_append, ← List.length_append] at hown'; obtain ⟨Av', cv', hv'⟩ := (Row.bytes hown').len; subst hv'; have hk1 : Keeps (fun j => (Value.slice Av s.out.length cv).ownBlock = some j) (w.drewN n1) w1 := (Keeps.refl _ _).grown hgrow (fun j hj _ => hj); have hb1 := (hk1.block b hlt (fun e => H.out.own e)).trans H.out.blk; have q0 : w1.cell? ⟨b, 0, none⟩ = some (.slice Av s.out.length cv) := (cell_of_row w1 b 0 _ _ _ hb1).trans rfl; have q1 : w1.frozen? ⟨b, 0, none⟩ = false := frozen_of_row w1 b 0 _ _ hb1; have H1 := Lib.hid hown'; have H3 := Lib.hid hat; have HB := Lib.hid hb1; have HK := Lib.hid hk1; clear hown' hnil hat hgrow hb1 hk1)
      go_ret
      obtain ⟨v', hv'⟩ : ∃ v', (Value.slice Av' (s.out.length + bs.length) cv') = v' := ⟨_, rfl⟩
      rw [List.length_append, hv'] at H1 H3
      rw [hv']
      have hb2 := heap_setCell_same w1 b 0 _ _ v' HB.out
      have hkS : Keeps (One b) w1 (w1.setCell ⟨b, 0, none⟩ v') := (Keeps.refl _ _).setOne _
      have hown : ∀ j, v'.ownBlock = some j → (Value.slice Av s.out.length cv).ownBlock = some j ∨ w.heap.size ≤ j := fun j hj => by
        rcases H3.out j hj with h | ⟨h, _⟩
        · exact .inl h
        · simp at h; exact .inr (by omega)
      have hvb : v'.ownBlock ≠ some b := fun hj => by
        rcases hown b hj with h | h
        · exact H.out.own h
        · omega
      refine ⟨by show Ending.returned (.int .i64 0) = .returned (.int .i64 s.err); rw [H0.out], ⟨v', ⟨hb2, ?_, hvb, l0, l1, by simp; omega⟩, hown⟩, (((Keeps.refl _ w).drewN n1).trans (HK.out.mono (fun _ _ e => .inr e))).trans (hkS.mono (fun _ _ e => .inl e))⟩
      rw [← List.length_append] at H1
      exact H1.out.keeps hkS (fun j hj (e : j = b) => hvb (by rw [hj, e]))
  · have e1 : s.add bs = s := by unfold WS.add; rw [if_neg h0]
    rw [e1]
    have d0 : (s.err != 0) = true := by simpa using h0
    clear h0 e1
    go_enter Tryz.func67, Tryz.ntmps67
    go_wp2_with (go_at_call 66; refine HS.out.mono ?_; rintro e w' ⟨rfl, rfl⟩)
    go_ret
    exact ⟨rfl, ⟨_, H.out, fun j hj => .inl hj⟩, Keeps.refl _ _⟩
end Go.Proofs.YtghohakbepeffaaGreatDoor
namespace Go.Proofs.YtghohakbepeffaaGreatDoor
set_option maxRecDepth 100000
set_option maxHeartbeats 4000000
open Go Go.RowKit Go.Own Go.Shelf
theorem WPost.mono {b : Nat} {v : Value} {s : WS} {w w0 : World} {e : Ending} {w' : World} (h : WPost b v s w e w') (k : Keeps Nob w0 w) : WPost b v s w0 e w' := by
  obtain ⟨h1, ⟨v', h2, h3⟩, h4⟩ := h
  refine ⟨h1, ⟨v', h2, fun j hj => ?_⟩, (k.mono (fun _ _ x => x.elim)).trans h4⟩
  rcases h3 j hj with h | h
  · exact .inl h
  · exact .inr (Nat.le_trans k.size h)
theorem wU_ok (b : Nat) (v : Value) (s : WS) (n : Nat) (w : World) (h : WrAt w b v s) (hn : n < 2 ^ 64) :
    Calls Tryz.prog 37 #[.pointer (some ⟨b, 0, none⟩), .int .u64 (n : Int)] w (WPost b v (s.add (Cod.enc n)) w) := by
  have H := Lib.hid h
  have HP := Lib.hid (cPut_ok n hn w)
  clear h hn
  go_enter Tryz.func37, Tryz.ntmps37
  go_wp2_with (first
    | (go_at_call 68; refine HP.out.mono ?_; rintro e w1 ⟨x, rfl, h1, h2, h3, h4⟩; have H1 := Lib.hid h1; have H4 := Lib.hid h4; clear h1 h2 h3 h4)
    | (go_at_call 67; refine (wadd_ok b v s x (Cod.enc n) w1 (H.out.keeps H4.out (fun _ _ x => x)) (Row.bytes H1.out) (by have := Cod.enc_length n; omega)).mono ?_; rintro e w2 hp; have HQ := Lib.hid (hp.mono H4.out); obtain ⟨rfl, -, -⟩ := hp))
  go_ret
  exact HQ.out
theorem wN_ok (b : Nat) (v : Value) (s : WS) (n : Int) (w : World) (h : WrAt w b v s) (h0 : 0 ≤ n) (h1 : n ≤ 9223372036854775807) :
    Calls Tryz.prog 36 #[.pointer (some ⟨b, 0, none⟩), .int .i64 n] w (WPost b v (s.add (Cod.enc n.toNat)) w) := by
  have H := Lib.hid h
  have HS := Lib.hid (wstate_ok b v s w h)
  obtain ⟨k, rfl⟩ : ∃ k : Nat, n = (k : Int) := ⟨n.toNat, by omega⟩
  have HU := Lib.hid (wU_ok b v s k w h (by omega))
  rw [Int.toNat_natCast]
  have w1' : IntKind.u64.wrap (k : Int) = (k : Int) := by simp [IntKind.wrap, IntKind.bits, IntKind.signed]; omega
  have d0 : decide ((0 : Int) ≤ (k : Int)) = true := by simp
  clear h
  by_cases he : s.err = 0
  · have d1 : (s.err != 0) = false := by simpa using he
    clear he
    go_enter Tryz.func36, Tryz.ntmps36
    go_wp2_with (first
      | (go_at_call 66; refine HS.out.mono ?_; rintro e w' ⟨rfl, rfl⟩)
      | (go_at_call 37; refine HU.out.mono ?_; rintro e w2 hp; have HQ := Lib.hid hp; obtain ⟨rfl, -, -⟩ := hp))
    go_ret
    exact HQ.out
  · have d1 : (s.err != 0) = true := by simpa using he
    clear he
    go_enter Tryz.func36, Tryz.ntmps36
    go_wp2_with (first
      | (go_at_call 66; refine HS.out.mono ?_; rintro e w' ⟨rfl, rfl⟩)
      | (go_at_call 37; refine HU.out.mono ?_; rintro e w2 hp; have HQ := Lib.hid hp; obtain ⟨rfl, -, -⟩ := hp))
    go_ret
    exact HQ.out
/-- Done: the bytes, or why none. -/
def DPost (s : WS) (w : World) (e : Ending) (w' : World) : Prop :=
  ∃ X, e = .returned (.tuple #[X, .int .i64 s.err]) ∧ (Row w' 5 1 X (if s.err = 0 then s.out else []).length (B (if s.err = 0 then s.out else [])) ∧ ∀ j, X.ownBlock = some j → w.heap.size ≤ j) ∧ Keeps Nob w w'
theorem wDone_ok (b : Nat) (v : Value) (s : WS) (w : World) (h : WrAt w b v s) :
    Calls Tryz.prog 38 #[.pointer (some ⟨b, 0, none⟩)] w (DPost s w) := by
  have HS := Lib.hid (wstate_ok b v s w h)
  have hf := h.fits
  have hl := h.l1
  have HC := Lib.hid (clone_ok v s.out w (Row.bytes h.row) (by omega))
  have c0 : w.cell? ⟨b, 0, none⟩ = some v := (cell_of_row w b 0 _ _ _ h.blk).trans rfl
  clear h
  by_cases he : s.err = 0
  · have d1 : (s.err != 0) = false := by simpa using he
    have HE := Lib.hid he
    clear he
    go_enter Tryz.func38, Tryz.ntmps38
    go_wp2_with (first
      | (go_at_call 66; refine HS.out.mono ?_; rintro e w' ⟨rfl, rfl⟩)
      | (go_at_call 69; refine HC.out.mono ?_; rintro e w1 ⟨X, rfl, h1, h2, h3⟩; have H1 := Lib.hid h1; have H2 := Lib.hid h2; have H3 := Lib.hid h3; clear h1 h2 h3))
    go_ret2
    exact ⟨X, by rw [HE.out]; rfl, ⟨by rw [if_pos HE.out]; exact H1.out, H2.out⟩, H3.out⟩
  · have d1 : (s.err != 0) = true := by simpa using he
    have HE := Lib.hid he
    clear he
    go_enter Tryz.func38, Tryz.ntmps38
    go_wp2_with (go_at_call 66; refine HS.out.mono ?_; rintro e w' ⟨rfl, rfl⟩)
    go_ret2
    exact ⟨_, rfl, ⟨by rw [if_neg HE.out]; exact ⟨rfl, .inl ⟨rfl, rfl⟩⟩, fun j hj => by cases hj⟩, Keeps.refl _ _⟩
end Go.Proofs.YtghohakbepeffaaGreatDoor
namespace Go.Proofs.YtghohakbepeffaaGreatDoor
set_option maxRecDepth 100000
set_option maxHeartbeats 4000000
open Go Go.RowKit Go.Own Go.Shelf
def Wr (w : World) (F : Nat → Prop) (b : Nat) (s : WS) : Prop := ∃ v, WrAt w b v s ∧ F = WBlk b v
section
variable {w w' : World} {F M : Nat → Prop} {b : Nat} {t t' : WS}
theorem Wr.lt (h : Wr w F b t) : Lt F w := by
  obtain ⟨v, h1, rfl⟩ := h
  exact h1.blk_lt
theorem Wr.keeps (h : Wr w F b t) (k : Keeps M w w') (d : Dis F M) : Wr w' F b t := by
  obtain ⟨v, h1, rfl⟩ := h
  exact ⟨v, h1.keeps k d, rfl⟩
theorem Wr.keepsN (h : Wr w F b t) (k : Keeps Nob w w') : Wr w' F b t := h.keeps k (fun _ _ x => x)
theorem wr_step {v : Value} {e : Ending} (hp : WPost b v t' w e w') : e = .returned (.int .i64 t'.err) ∧ ∃ F', Wr w' F' b t' ∧ Step w w' (WBlk b v) F' := by
  obtain ⟨h1, ⟨v', h2, h3⟩, h4⟩ := hp
  refine ⟨h1, _, ⟨v', h2, rfl⟩, h4, fun j hj => ?_⟩
  rcases hj with hj | hj
  · exact .inl (.inl hj)
  · rcases h3 j hj with h | h
    · exact .inl (.inr h)
    · exact .inr ⟨h, h2.row.lt hj⟩
def WPost2 (w : World) (F : Nat → Prop) (b : Nat) (t' : WS) (e : Ending) (w' : World) : Prop := e = .returned (.int .i64 t'.err) ∧ ∃ F', Wr w' F' b t' ∧ Step w w' F F'
theorem wr_new (lim : Int) (w : World) (h0 : 0 ≤ lim) (h1 : lim ≤ 1048576) :
    Calls Tryz.prog 35 #[.int .i64 lim] w fun e w' => ∃ b F, e = .returned (.tuple #[.pointer (some ⟨b, 0, none⟩), .int .i64 0]) ∧ Wr w' F b ⟨lim, [], 0⟩ ∧ Ge F w ∧ Keeps Nob w w' :=
  (newWriter_ok lim w h0 h1).mono fun e w' ⟨b, he, hr, hb, hk⟩ => by
    refine ⟨b, _, he, ⟨_, hr, rfl⟩, ?_, hk⟩
    intro j hj
    rcases hj with rfl | hj
    · exact hb
    · cases hj
theorem Wr.u (h : Wr w F b t) (n : Nat) (hn : n < 2 ^ 64) : Calls Tryz.prog 37 #[.pointer (some ⟨b, 0, none⟩), .int .u64 (n : Int)] w (WPost2 w F b (t.add (Cod.enc n))) := by
  obtain ⟨v, h1, rfl⟩ := h
  exact (wU_ok b v t n w h1 hn).mono fun e w' hp => wr_step hp
theorem Wr.n (h : Wr w F b t) (n : Int) (h0 : 0 ≤ n) (h1 : n ≤ 9223372036854775807) : Calls Tryz.prog 36 #[.pointer (some ⟨b, 0, none⟩), .int .i64 n] w (WPost2 w F b (t.add (Cod.enc n.toNat))) := by
  obtain ⟨v, h2, rfl⟩ := h
  exact (wN_ok b v t n w h2 h0 h1).mono fun e w' hp => wr_step hp
theorem Wr.done (h : Wr w F b t) : Calls Tryz.prog 38 #[.pointer (some ⟨b, 0, none⟩)] w (DPost t w) := by
  obtain ⟨v, h1, _⟩ := h
  exact wDone_ok b v t w h1
end
end Go.Proofs.YtghohakbepeffaaGreatDoor
