import Derived.Test.YtghohakbepeffaaGreatDoorPenaltyBackP3
namespace Go.Proofs.YtghohakbepeffaaGreatDoor
set_option maxRecDepth 100000
set_option maxHeartbeats 4000000
open Go Go.RowKit Go.Own Go.Shelf
theorem exec_quoU {P : Program} {o : Oper} {ρ : Operand → Value} {w : World} (t t' : TypeId) (x y : Operand) (ho : o.op = .binOp .quo t x y t') (a b : Nat) (hx : ρ x = .int .u64 (a : Int)) (hy : ρ y = .int .u64 (b : Int)) (hb : 0 < b) (ha : a < 18446744073709551616) :
    (execOp ρ o).run P w = .ok (.value (.int .u64 ((a / b : Nat) : Int))) w := by
  refine exec_binop .quo t t' x y ho _ _ _ hx hy rfl ?_
  have h : ¬ ((b : Int) = 0) := by omega
  rw [binOp_quo]
  simp only [Op.intDiv, if_neg h]
  have e : IntKind.u64.wrap (Int.tdiv (a : Int) (b : Int)) = ((a / b : Nat) : Int) := by
    rw [show Int.tdiv (a : Int) (b : Int) = ((a / b : Nat) : Int) from rfl]
    exact wrapU _ (by have := Nat.div_le_self a b; omega)
  rw [e]; rfl
theorem exec_remU {P : Program} {o : Oper} {ρ : Operand → Value} {w : World} (t t' : TypeId) (x y : Operand) (ho : o.op = .binOp .rem t x y t') (a b : Nat) (hx : ρ x = .int .u64 (a : Int)) (hy : ρ y = .int .u64 (b : Int)) (hb : 0 < b) (ha : a < 18446744073709551616) :
    (execOp ρ o).run P w = .ok (.value (.int .u64 ((a % b : Nat) : Int))) w := by
  refine exec_binop .rem t t' x y ho _ _ _ hx hy rfl ?_
  have h : ¬ ((b : Int) = 0) := by omega
  rw [binOp_rem]
  simp only [Op.intDiv, if_neg h]
  have e : IntKind.u64.wrap (Int.tmod (a : Int) (b : Int)) = ((a % b : Nat) : Int) := by
    rw [show Int.tmod (a : Int) (b : Int) = ((a % b : Nat) : Int) from rfl]
    exact wrapU _ (by have := Nat.mod_le a b; omega)
  first | rfl | (rw [e]; rfl)
theorem wrapM (n : Nat) : IntKind.u64.wrap (n : Int) = ((n % 18446744073709551616 : Nat) : Int) := by rw [IntKind.wrap_u64]; omega
theorem conv_u64_u8 {x : Nat} (h : x < 256) (w : World) : (convert 40 5 (.int .u64 ((x : Nat) : Int))).run Tryz.prog w = .ok (.int .u8 ((x : Nat) : Int)) w := by
  simp only [convert, Tryz.underlying40, Tryz.underlying5]
  have : IntKind.u8.wrap ((x : Nat) : Int) = ((x : Nat) : Int) := by
    unfold IntKind.wrap; simp [IntKind.signed, IntKind.bits]; omega
  simp [Conv.intToInt, this]
theorem conv_u8_int {x : Nat} (h : x < 256) (w : World) : (convert 5 3 (.int .u8 ((x : Nat) : Int))).run Tryz.prog w = .ok (.int .i64 ((x : Nat) : Int)) w := by
  simp only [convert, Tryz.underlying5, Tryz.underlying3]
  have : IntKind.i64.wrap ((x : Nat) : Int) = ((x : Nat) : Int) := by
    unfold IntKind.wrap; simp [IntKind.signed, IntKind.bits]; omega
  simp [Conv.intToInt, this]
theorem conv_int_uint {x : Nat} (h : x ≤ 64) (w : World) : (convert 3 169 (.int .i64 ((x : Nat) : Int))).run Tryz.prog w = .ok (.int .u64 ((x : Nat) : Int)) w := by
  simp only [convert, Tryz.underlying3, Tryz.underlying169]
  simp [Conv.intToInt, wrapU x (by omega)]
/-! The length of a number. -/
def ltab : List UInt8 := Lib.len8tab.toList
theorem ltab_all : ∀ k : Fin 256, ∃ c, ltab[k.val]? = some c ∧ c.toNat ≤ 8 ∧ k.val < 2 ^ c.toNat ∧ (k.val ≠ 0 → 1 ≤ c.toNat ∧ 2 ^ (c.toNat - 1) ≤ k.val) := by
  have h : ∀ k : Fin 256, (match ltab[k.val]? with | some c => decide (c.toNat ≤ 8) && decide (k.val < 2 ^ c.toNat) && (decide (k.val = 0) || (decide (1 ≤ c.toNat) && decide (2 ^ (c.toNat - 1) ≤ k.val))) | none => false) = true := by decide +kernel
  intro k
  have := h k
  cases e : ltab[k.val]? with
  | none => rw [e] at this; cases this
  | some c =>
    rw [e] at this
    simp only [Bool.and_eq_true, Bool.or_eq_true, decide_eq_true_eq] at this
    obtain ⟨⟨q1, q2⟩, q3⟩ := this
    exact ⟨c, rfl, q1, q2, fun h0 => q3.resolve_left h0⟩
def IsLen (y n : Nat) : Prop := n ≤ 64 ∧ 1 ≤ n ∧ y < 2 ^ n ∧ 2 ^ (n - 1) ≤ y
theorem len_fin {y x a K t : Nat} (hK : K = 2 ^ a) (ha : a ≤ 56) (ht0 : t ≤ 8) (h1 : x * K ≤ y) (h2 : y < (x + 1) * K) (ht : x < 2 ^ t) (hn : x ≠ 0) (hl : x ≠ 0 → 1 ≤ t ∧ 2 ^ (t - 1) ≤ x) : IsLen y (a + t) := by
  obtain ⟨l1, l2⟩ := hl hn
  refine ⟨by omega, by omega, ?_, ?_⟩
  · rw [Nat.pow_add, ← hK, Nat.mul_comm]
    exact Nat.lt_of_lt_of_le h2 (Nat.mul_le_mul_right _ ht)
  · rw [show a + t - 1 = a + (t - 1) by omega, Nat.pow_add, ← hK, Nat.mul_comm]
    exact Nat.le_trans (Nat.mul_le_mul_right _ l2) h1
theorem two_pos (s : Nat) : 0 < 2 ^ s := Nat.pow_pos (by decide)
theorem lead_len {y n s : Nat} (h : IsLen y n) (hs : s + n = 64) : s ≤ 63 ∧ 9223372036854775808 ≤ y * 2 ^ s ∧ y * 2 ^ s < 18446744073709551616 := by
  obtain ⟨h0, h1, h2, h3⟩ := h
  refine ⟨by omega, ?_, ?_⟩
  · have := Nat.mul_le_mul_right (2 ^ s) h3
    rw [← Nat.pow_add, show n - 1 + s = 63 by omega] at this
    exact this
  · have := Nat.mul_lt_mul_of_pos_right h2 (two_pos s)
    rw [← Nat.pow_add, show n + s = 64 by omega] at this
    exact this
/-! One digit of a long division, and both. -/
def Dig (U Y y1 u q r : Nat) : Prop := q * y1 + r = U ∧ (U * 4294967296 + u) / Y ≤ q
theorem dig_init {U Y y1 y0 u : Nat} (hY : Y = y1 * 4294967296 + y0) (h0 : y0 < 4294967296) (h1 : 1 ≤ y1) (hu : u < 4294967296) (hU : U < Y) : Dig U Y y1 u (U / y1) (U - U / y1 * y1) := by
  refine ⟨by have := Nat.div_mul_le_self U y1; omega, ?_⟩
  refine Nat.le_trans (Nat.div_le_div_left (c := y1 * 4294967296) (by omega) (by omega)) ?_
  rw [Nat.mul_comm y1, ← Nat.div_div_eq_div_mul]
  exact Nat.div_le_div_right (by omega)
theorem dig_lt {U Y y1 y0 u : Nat} (hY : Y = y1 * 4294967296 + y0) (h0 : y0 < 4294967296) (h1 : 1 ≤ y1) (hu : u < 4294967296) (hU : U < Y) : (U * 4294967296 + u) / Y < 4294967296 := by
  rw [Nat.div_lt_iff_lt_mul (by omega)]; omega
theorem dig_step {U Y y1 y0 u q r : Nat} (hY : Y = y1 * 4294967296 + y0) (h0 : y0 < 4294967296) (h1 : 1 ≤ y1) (hu : u < 4294967296) (hU : U < Y) (h : Dig U Y y1 u q r) (hc : 4294967296 ≤ q ∨ 4294967296 * r + u < q * y0) : 1 ≤ q ∧ Dig U Y y1 u (q - 1) (r + y1) := by
  obtain ⟨a1, a2⟩ := h
  have hl := dig_lt hY h0 h1 hu hU
  have hq : (U * 4294967296 + u) / Y < q := by
    rcases hc with hc | hc
    · omega
    · rw [Nat.div_lt_iff_lt_mul (by omega), hY, Nat.mul_add, ← Nat.mul_assoc]; omega
  have q1 : 1 ≤ q := Nat.lt_of_le_of_lt (Nat.zero_le _) hq
  refine ⟨q1, ?_, Nat.le_sub_one_of_lt hq⟩
  obtain ⟨k, rfl⟩ : ∃ k, q = k + 1 := ⟨q - 1, by omega⟩
  rw [Nat.add_mul, Nat.one_mul] at a1
  rw [Nat.add_sub_cancel]; omega
theorem dig_done {U Y y1 y0 u q r : Nat} (hY : Y = y1 * 4294967296 + y0) (h0 : y0 < 4294967296) (h1 : 1 ≤ y1) (hu : u < 4294967296) (hU : U < Y) (h : Dig U Y y1 u q r) (hc : (q < 4294967296 ∧ q * y0 ≤ 4294967296 * r + u) ∨ 4294967296 ≤ r) : q = (U * 4294967296 + u) / Y := by
  obtain ⟨a1, a2⟩ := h
  refine Nat.le_antisymm ?_ a2
  rw [Nat.le_div_iff_mul_le (by omega), hY, Nat.mul_add, ← Nat.mul_assoc]
  rcases hc with ⟨_, hc⟩ | hc
  · omega
  · have q2 : q < 4294967296 := by
      rcases Nat.lt_or_ge q 4294967296 with g | g
      · exact g
      · have g2 := Nat.mul_le_mul_right y1 g
        clear a2
        exact absurd hU (by rw [← a1, hY]; have : y1 * 4294967296 = 4294967296 * y1 := Nat.mul_comm _ _; generalize q * y1 = z at *; generalize 4294967296 * y1 = z2 at *; omega)
    have g1 := Nat.mul_le_mul (Nat.le_of_lt q2) (Nat.le_of_lt h0)
    have g2 := Nat.mul_le_mul (Nat.le_refl 4294967296) hc
    clear a2 hY h0 h1 hu hU
    generalize q * y0 = z at *
    generalize q * y1 = z2 at *
    omega
theorem dig_rest {U Y y1 y0 u q : Nat} (hY : Y = y1 * 4294967296 + y0) (h0 : y0 < 4294967296) (h1 : 1 ≤ y1) (hu : u < 4294967296) (hU : U < Y) (h : q = (U * 4294967296 + u) / Y) : IntKind.u64.wrap (IntKind.u64.wrap (IntKind.u64.wrap (((U : Nat) : Int) * 4294967296) + ((u : Nat) : Int)) - IntKind.u64.wrap (((q : Nat) : Int) * ((Y : Nat) : Int))) = (((U * 4294967296 + u) % Y : Nat) : Int) ∨ 18446744073709551616 ≤ Y := by
  by_cases hb : Y < 18446744073709551616
  · refine .inl ?_
    have e := Nat.div_add_mod (U * 4294967296 + u) Y
    have l := Nat.mod_lt (U * 4294967296 + u) (show 0 < Y by omega)
    rw [← h, Nat.mul_comm] at e
    obtain ⟨z, hz⟩ : ∃ z : Nat, q * Y = z := ⟨_, rfl⟩
    obtain ⟨m, hm⟩ : ∃ z : Nat, (U * 4294967296 + u) % Y = z := ⟨_, rfl⟩
    rw [hm, hz] at e; rw [hm] at l ⊢
    rw [← Int.natCast_mul, hz]
    simp only [IntKind.wrap_u64]
    omega
  · exact .inr (by omega)
theorem dig_cases (q r y0 y1 u : Nat) : (4294967296 ≤ q ∧ r + y1 < 4294967296) ∨ (4294967296 ≤ q ∧ 4294967296 ≤ r + y1) ∨ (q < 4294967296 ∧ 4294967296 * r + u < q * y0 ∧ r + y1 < 4294967296) ∨ (q < 4294967296 ∧ 4294967296 * r + u < q * y0 ∧ 4294967296 ≤ r + y1) ∨ (q < 4294967296 ∧ q * y0 ≤ 4294967296 * r + u) := by
  generalize q * y0 = z
  omega
theorem mul_small {q y : Nat} (h : q < 4294967296) (h2 : y < 4294967296) : q * y < 18446744073709551616 := by
  have := Nat.mul_le_mul (Nat.le_sub_one_of_lt h) (Nat.le_sub_one_of_lt h2)
  omega
theorem rem_small {U y : Nat} (h : 1 ≤ y) (h2 : y < 4294967296) : U - U / y * y < 4294967296 := by
  have e := Nat.div_add_mod U y
  have l := Nat.mod_lt U h
  rw [Nat.mul_comm] at e
  omega
theorem wrap_sub (x z : Nat) (h : z ≤ x) (hx : x < 18446744073709551616) : IntKind.u64.wrap (((x : Nat) : Int) - ((z : Nat) : Int)) = ((x - z : Nat) : Int) := by
  rw [IntKind.wrap_u64]; omega
theorem wide_shift {hi lo y s : Nat} (hs : s ≤ 63) (hl : lo < 18446744073709551616) (hh : hi < y) (hb : y * 2 ^ s < 18446744073709551616) : ((hi <<< s) % Kec.W ||| lo >>> (64 - s)) * 18446744073709551616 + (lo <<< s) % Kec.W = (hi * 18446744073709551616 + lo) * 2 ^ s ∧ ((hi <<< s) % Kec.W ||| lo >>> (64 - s)) < y * 2 ^ s := by
  have p := two_pos s
  have e64 : 2 ^ (64 - s) * 2 ^ s = 18446744073709551616 := by rw [← Nat.pow_add, show 64 - s + s = 64 by omega]
  have m1 : hi * 2 ^ s + 2 ^ s ≤ y * 2 ^ s := by rw [← Nat.succ_mul]; exact Nat.mul_le_mul_right _ hh
  have hW : Kec.W = 18446744073709551616 := rfl
  have h1 : (hi <<< s) % Kec.W = hi <<< s := Nat.mod_eq_of_lt (by rw [Nat.shiftLeft_eq, hW]; omega)
  have hq : lo / 2 ^ (64 - s) < 2 ^ s := by
    rw [Nat.div_lt_iff_lt_mul (two_pos _), Nat.mul_comm, e64]; exact hl
  have h2 : lo >>> (64 - s) = lo / 2 ^ (64 - s) := Nat.shiftRight_eq_div_pow ..
  have h3 : (hi <<< s) ||| lo / 2 ^ (64 - s) = hi * 2 ^ s + lo / 2 ^ (64 - s) := by
    rw [← Nat.shiftLeft_add_eq_or_of_lt hq, Nat.shiftLeft_eq]
  rw [h1, h2, h3, Nat.shiftLeft_eq, hW, Nat.add_mul]
  have h4 : lo / 2 ^ (64 - s) * 18446744073709551616 + lo * 2 ^ s % 18446744073709551616 = lo * 2 ^ s := by
    have : lo * 2 ^ s / 18446744073709551616 = lo / 2 ^ (64 - s) := by
      rw [← e64]; exact Nat.mul_div_mul_right _ _ p
    rw [← this, Nat.mul_comm]; exact Nat.div_add_mod ..
  refine ⟨?_, by omega⟩
  rw [Nat.add_mul, Nat.mul_right_comm hi]
  omega
theorem long_div {U Y u1 u0 q1 V q0 : Nat} (hY : 0 < Y) (h1 : q1 = (U * 4294967296 + u1) / Y) (hV : V = (U * 4294967296 + u1) % Y) (h0 : q0 = (V * 4294967296 + u0) / Y) : (U * 18446744073709551616 + (u1 * 4294967296 + u0)) / Y = q1 * 4294967296 + q0 := by
  have e := Nat.div_add_mod (U * 4294967296 + u1) Y
  rw [← h1, ← hV] at e
  have : U * 18446744073709551616 + (u1 * 4294967296 + u0) = (V * 4294967296 + u0) + Y * (q1 * 4294967296) := by
    rw [← Nat.mul_assoc]; omega
  rw [this, Nat.add_mul_div_left _ _ hY, ← h0]; omega
theorem div_end {hi lo y s U Y L u1 u0 q1 V q0 : Nat} (hy1 : 1 ≤ y) (hYe : y * 2 ^ s = Y) (hsum : U * 18446744073709551616 + L = (hi * 18446744073709551616 + lo) * 2 ^ s) (hLs : L = u1 * 4294967296 + u0) (h1 : q1 = (U * 4294967296 + u1) / Y) (hV : (U * 4294967296 + u1) % Y = V) (h0 : q0 = (V * 4294967296 + u0) / Y) : q1 * 4294967296 + q0 = (hi * 18446744073709551616 + lo) / y := by
  have p := two_pos s
  have hY : 0 < Y := hYe ▸ Nat.mul_pos hy1 p
  rw [← long_div hY h1 hV.symm h0, ← hLs, hsum, ← hYe, Nat.mul_div_mul_right _ _ p]
noncomputable def qc53_2 (n : Nat) : Code := partOf Tryz.f108 n
theorem bLen64_yyy (y : Nat) (hy1 : 1 ≤ y) (hy2 : y < 18446744073709551616) (g0 : 4294967296 ≤ y) (g1 : 65536 ≤ y / 4294967296) (g2 : 256 ≤ y / 4294967296 / 65536) (w : World) :
    Calls Tryz.prog 108 #[.int .u64 ((y : Nat) : Int)] w (fun e w' => ∃ n : Nat, e = .returned (.int .i64 ((n : Nat) : Int)) ∧ IsLen y n ∧ w = w') := by
  obtain ⟨c, hc, hc8, hct, hcl⟩ := ltab_all ⟨y / 4294967296 / 65536 / 256, by omega⟩
  have K0 : Keeps Nob w w := Keeps.refl _ _
  refine sy_enter (qc53_2 1) ⟨#[uN y, ud, ud, ud, ud, ud, ud, ud, ud, ud, ud, ud, ud, ud, ud, ud, ud, ud, ud, ud, ud, ud, ud, ud, ud], []⟩ Tryz.func108 (by kernel_rfl) (by kernel_rfl) <| qr_ [0] <| pkq (.int .i64 0) <| eq_ <| qr_ [0, 1] <| pkq (uN y) <| ppq (.bool true) (dct ((((y : Nat) : Int)) ≥ ((4294967296) : Int)) (by omega)) <| ey_ <| qr_ [0, 1, 2] <| pkq (uN y) <| ppq (uN (y / 4294967296)) (exec_cast (congrArg (fun n : Nat => Value.int .u64 (n : Int)) (Nat.shiftRight_eq_div_pow y 32)) (exec_binop .shr 40 169 (.tmp 5) (.const (.int .u64 32)) (by kernel_rfl) (uN y) (uN 32) _ (by kernel_rfl) (by kernel_rfl) (by kernel_rfl) (run_shrU _ _ _ 32 (by omega)))) <| pkq (uN (y / 4294967296)) <| er_ [0] <| pkq (.int .i64 32) ?_
  refine eq_ <| qr_ [0, 1] <| pkq (uN (y / 4294967296)) <| ppq (.bool true) (dct ((((y / 4294967296 : Nat) : Int)) ≥ ((65536) : Int)) (by omega)) <| ey_ <| qr_ [0, 1, 2] <| pkq (uN (y / 4294967296)) <| ppq (uN (y / 4294967296 / 65536)) (exec_cast (congrArg (fun n : Nat => Value.int .u64 (n : Int)) (Nat.shiftRight_eq_div_pow (y / 4294967296) 16)) (exec_binop .shr 40 169 (.tmp 9) (.const (.int .u64 16)) (by kernel_rfl) (uN (y / 4294967296)) (uN 16) _ (by kernel_rfl) (by kernel_rfl) (by kernel_rfl) (run_shrU _ _ _ 16 (by omega)))) <| pkq (uN (y / 4294967296 / 65536)) <| er_ [0, 1, 2] <| pkq (.int .i64 32) <| pkq (.int .i64 48) <| pkq (.int .i64 48) <| eq_ ?_
  refine qr_ [0, 1] <| pkq (uN (y / 4294967296 / 65536)) <| ppq (.bool true) (dct ((((y / 4294967296 / 65536 : Nat) : Int)) ≥ ((256) : Int)) (by omega)) <| ey_ <| qr_ [0, 1, 2] <| pkq (uN (y / 4294967296 / 65536)) <| ppq (uN (y / 4294967296 / 65536 / 256)) (exec_cast (congrArg (fun n : Nat => Value.int .u64 (n : Int)) (Nat.shiftRight_eq_div_pow (y / 4294967296 / 65536) 8)) (exec_binop .shr 40 169 (.tmp 15) (.const (.int .u64 8)) (by kernel_rfl) (uN (y / 4294967296 / 65536)) (uN 8) _ (by kernel_rfl) (by kernel_rfl) (by kernel_rfl) (run_shrU _ _ _ 8 (by omega)))) <| pkq (uN (y / 4294967296 / 65536 / 256)) <| er_ [0, 1, 2] <| pkq (.int .i64 48) <| pkq (.int .i64 56) <| pkq (.int .i64 56) <| eqr_ [0, 1, 2, 3, 4, 5, 6] <| pkq (.int .i64 56) ?_
  refine pkq (uN (y / 4294967296 / 65536 / 256)) <| prq (cN (y / 4294967296 / 65536 / 256)) (w' := w) (exec_convert 40 5 (.tmp 20) (by kernel_rfl) _ (by kernel_rfl) (conv_u64_u8 (by omega) _)) <| ppq (cN c.toNat) (exec_index_str 9 (.const (.string ⟨ltab.toArray⟩)) (.tmp 21) (by kernel_rfl) ltab (by kernel_rfl) .u8 (y / 4294967296 / 65536 / 256) (by kernel_rfl) Tryz.underlying9 c hc) <| prq (iN c.toNat) (w' := w) (exec_convert 5 3 (.tmp 22) (by kernel_rfl) _ (by kernel_rfl) (conv_u8_int (by omega) _)) <| ppq (iN (56 + c.toNat)) (exec_cast (congrArg (Value.int .i64) (wrapN (56 + c.toNat) (by omega))) (by kernel_rfl)) <| pkq (iN (56 + c.toNat)) <| ps_end <| sy_a ⟨#[uN (y / 4294967296 / 65536 / 256), ud, iN (56 + c.toNat), uN y, .bool true, uN y, uN (y / 4294967296), uN (y / 4294967296), .bool true, uN (y / 4294967296), uN (y / 4294967296 / 65536), .int .i64 32, .int .i64 48, uN (y / 4294967296 / 65536), .bool true, uN (y / 4294967296 / 65536), uN (y / 4294967296 / 65536 / 256), .int .i64 48, .int .i64 56, .int .i64 56, uN (y / 4294967296 / 65536 / 256), cN (y / 4294967296 / 65536 / 256), cN c.toNat, iN c.toNat, iN (56 + c.toNat)], []⟩ <| then_n <| u_ <| so_ (.int .i64 ((56 + c.toNat : Nat) : Int)) ?_
  exact ⟨56 + c.toNat, rfl, len_fin (x := y / 4294967296 / 65536 / 256) (K := 72057594037927936) (by decide) (by decide) hc8 (by omega) (by omega) hct (by omega) hcl, rfl⟩
theorem bLen64_yyn (y : Nat) (hy1 : 1 ≤ y) (hy2 : y < 18446744073709551616) (g0 : 4294967296 ≤ y) (g1 : 65536 ≤ y / 4294967296) (g2 : y / 4294967296 / 65536 < 256) (w : World) :
    Calls Tryz.prog 108 #[.int .u64 ((y : Nat) : Int)] w (fun e w' => ∃ n : Nat, e = .returned (.int .i64 ((n : Nat) : Int)) ∧ IsLen y n ∧ w = w') := by
  obtain ⟨c, hc, hc8, hct, hcl⟩ := ltab_all ⟨y / 4294967296 / 65536, by omega⟩
  have K0 : Keeps Nob w w := Keeps.refl _ _
  refine sy_enter (qc53_2 1) ⟨#[uN y, ud, ud, ud, ud, ud, ud, ud, ud, ud, ud, ud, ud, ud, ud, ud, ud, ud, ud, ud, ud, ud, ud, ud, ud], []⟩ Tryz.func108 (by kernel_rfl) (by kernel_rfl) <| qr_ [0] <| pkq (.int .i64 0) <| eq_ <| qr_ [0, 1] <| pkq (uN y) <| ppq (.bool true) (dct ((((y : Nat) : Int)) ≥ ((4294967296) : Int)) (by omega)) <| ey_ <| qr_ [0, 1, 2] <| pkq (uN y) <| ppq (uN (y / 4294967296)) (exec_cast (congrArg (fun n : Nat => Value.int .u64 (n : Int)) (Nat.shiftRight_eq_div_pow y 32)) (exec_binop .shr 40 169 (.tmp 5) (.const (.int .u64 32)) (by kernel_rfl) (uN y) (uN 32) _ (by kernel_rfl) (by kernel_rfl) (by kernel_rfl) (run_shrU _ _ _ 32 (by omega)))) <| pkq (uN (y / 4294967296)) <| er_ [0] <| pkq (.int .i64 32) ?_
  refine eq_ <| qr_ [0, 1] <| pkq (uN (y / 4294967296)) <| ppq (.bool true) (dct ((((y / 4294967296 : Nat) : Int)) ≥ ((65536) : Int)) (by omega)) <| ey_ <| qr_ [0, 1, 2] <| pkq (uN (y / 4294967296)) <| ppq (uN (y / 4294967296 / 65536)) (exec_cast (congrArg (fun n : Nat => Value.int .u64 (n : Int)) (Nat.shiftRight_eq_div_pow (y / 4294967296) 16)) (exec_binop .shr 40 169 (.tmp 9) (.const (.int .u64 16)) (by kernel_rfl) (uN (y / 4294967296)) (uN 16) _ (by kernel_rfl) (by kernel_rfl) (by kernel_rfl) (run_shrU _ _ _ 16 (by omega)))) <| pkq (uN (y / 4294967296 / 65536)) <| er_ [0, 1, 2] <| pkq (.int .i64 32) <| pkq (.int .i64 48) <| pkq (.int .i64 48) <| eq_ ?_
  refine qr_ [0, 1] <| pkq (uN (y / 4294967296 / 65536)) <| ppq (.bool false) (dcf ((((y / 4294967296 / 65536 : Nat) : Int)) ≥ ((256) : Int)) (by omega)) <| en_ <| s_ <| tqr_ [0, 1, 2, 3, 4, 5, 6] <| pkq (.int .i64 48) <| pkq (uN (y / 4294967296 / 65536)) <| prq (cN (y / 4294967296 / 65536)) (w' := w) (exec_convert 40 5 (.tmp 20) (by kernel_rfl) _ (by kernel_rfl) (conv_u64_u8 (by omega) _)) <| ppq (cN c.toNat) (exec_index_str 9 (.const (.string ⟨ltab.toArray⟩)) (.tmp 21) (by kernel_rfl) ltab (by kernel_rfl) .u8 (y / 4294967296 / 65536) (by kernel_rfl) Tryz.underlying9 c hc) <| prq (iN c.toNat) (w' := w) (exec_convert 5 3 (.tmp 22) (by kernel_rfl) _ (by kernel_rfl) (conv_u8_int (by omega) _)) <| ppq (iN (48 + c.toNat)) (exec_cast (congrArg (Value.int .i64) (wrapN (48 + c.toNat) (by omega))) (by kernel_rfl)) <| pkq (iN (48 + c.toNat)) <| ps_end ?_
  refine sy_a ⟨#[uN (y / 4294967296 / 65536), ud, iN (48 + c.toNat), uN y, .bool true, uN y, uN (y / 4294967296), uN (y / 4294967296), .bool true, uN (y / 4294967296), uN (y / 4294967296 / 65536), .int .i64 32, .int .i64 48, uN (y / 4294967296 / 65536), .bool false, ud, ud, ud, ud, .int .i64 48, uN (y / 4294967296 / 65536), cN (y / 4294967296 / 65536), cN c.toNat, iN c.toNat, iN (48 + c.toNat)], []⟩ <| then_n <| u_ <| so_ (.int .i64 ((48 + c.toNat : Nat) : Int)) ?_
  exact ⟨48 + c.toNat, rfl, len_fin (x := y / 4294967296 / 65536) (K := 281474976710656) (by decide) (by decide) hc8 (by omega) (by omega) hct (by omega) hcl, rfl⟩
theorem bLen64_yny (y : Nat) (hy1 : 1 ≤ y) (hy2 : y < 18446744073709551616) (g0 : 4294967296 ≤ y) (g1 : y / 4294967296 < 65536) (g2 : 256 ≤ y / 4294967296) (w : World) :
    Calls Tryz.prog 108 #[.int .u64 ((y : Nat) : Int)] w (fun e w' => ∃ n : Nat, e = .returned (.int .i64 ((n : Nat) : Int)) ∧ IsLen y n ∧ w = w') := by
  obtain ⟨c, hc, hc8, hct, hcl⟩ := ltab_all ⟨y / 4294967296 / 256, by omega⟩
  have K0 : Keeps Nob w w := Keeps.refl _ _
  refine sy_enter (qc53_2 1) ⟨#[uN y, ud, ud, ud, ud, ud, ud, ud, ud, ud, ud, ud, ud, ud, ud, ud, ud, ud, ud, ud, ud, ud, ud, ud, ud], []⟩ Tryz.func108 (by kernel_rfl) (by kernel_rfl) <| qr_ [0] <| pkq (.int .i64 0) <| eq_ <| qr_ [0, 1] <| pkq (uN y) <| ppq (.bool true) (dct ((((y : Nat) : Int)) ≥ ((4294967296) : Int)) (by omega)) <| ey_ <| qr_ [0, 1, 2] <| pkq (uN y) <| ppq (uN (y / 4294967296)) (exec_cast (congrArg (fun n : Nat => Value.int .u64 (n : Int)) (Nat.shiftRight_eq_div_pow y 32)) (exec_binop .shr 40 169 (.tmp 5) (.const (.int .u64 32)) (by kernel_rfl) (uN y) (uN 32) _ (by kernel_rfl) (by kernel_rfl) (by kernel_rfl) (run_shrU _ _ _ 32 (by omega)))) <| pkq (uN (y / 4294967296)) <| er_ [0] <| pkq (.int .i64 32) ?_
  refine eq_ <| qr_ [0, 1] <| pkq (uN (y / 4294967296)) <| ppq (.bool false) (dcf ((((y / 4294967296 : Nat) : Int)) ≥ ((65536) : Int)) (by omega)) <| en_ <| s_ <| tq_ <| qr_ [0, 1] <| pkq (uN (y / 4294967296)) <| ppq (.bool true) (dct ((((y / 4294967296 : Nat) : Int)) ≥ ((256) : Int)) (by omega)) <| ey_ <| qr_ [0, 1, 2] <| pkq (uN (y / 4294967296)) <| ppq (uN (y / 4294967296 / 256)) (exec_cast (congrArg (fun n : Nat => Value.int .u64 (n : Int)) (Nat.shiftRight_eq_div_pow (y / 4294967296) 8)) (exec_binop .shr 40 169 (.tmp 15) (.const (.int .u64 8)) (by kernel_rfl) (uN (y / 4294967296)) (uN 8) _ (by kernel_rfl) (by kernel_rfl) (by kernel_rfl) (run_shrU _ _ _ 8 (by omega)))) ?_
  refine pkq (uN (y / 4294967296 / 256)) <| er_ [0, 1, 2] <| pkq (.int .i64 32) <| pkq (.int .i64 40) <| pkq (.int .i64 40) <| eqr_ [0, 1, 2, 3, 4, 5, 6] <| pkq (.int .i64 40) <| pkq (uN (y / 4294967296 / 256)) <| prq (cN (y / 4294967296 / 256)) (w' := w) (exec_convert 40 5 (.tmp 20) (by kernel_rfl) _ (by kernel_rfl) (conv_u64_u8 (by omega) _)) <| ppq (cN c.toNat) (exec_index_str 9 (.const (.string ⟨ltab.toArray⟩)) (.tmp 21) (by kernel_rfl) ltab (by kernel_rfl) .u8 (y / 4294967296 / 256) (by kernel_rfl) Tryz.underlying9 c hc) <| prq (iN c.toNat) (w' := w) (exec_convert 5 3 (.tmp 22) (by kernel_rfl) _ (by kernel_rfl) (conv_u8_int (by omega) _)) <| ppq (iN (40 + c.toNat)) (exec_cast (congrArg (Value.int .i64) (wrapN (40 + c.toNat) (by omega))) (by kernel_rfl)) <| pkq (iN (40 + c.toNat)) <| ps_end ?_
  refine sy_a ⟨#[uN (y / 4294967296 / 256), ud, iN (40 + c.toNat), uN y, .bool true, uN y, uN (y / 4294967296), uN (y / 4294967296), .bool false, ud, ud, ud, ud, uN (y / 4294967296), .bool true, uN (y / 4294967296), uN (y / 4294967296 / 256), .int .i64 32, .int .i64 40, .int .i64 40, uN (y / 4294967296 / 256), cN (y / 4294967296 / 256), cN c.toNat, iN c.toNat, iN (40 + c.toNat)], []⟩ <| then_n <| u_ <| so_ (.int .i64 ((40 + c.toNat : Nat) : Int)) ?_
  exact ⟨40 + c.toNat, rfl, len_fin (x := y / 4294967296 / 256) (K := 1099511627776) (by decide) (by decide) hc8 (by omega) (by omega) hct (by omega) hcl, rfl⟩
theorem bLen64_ynn (y : Nat) (hy1 : 1 ≤ y) (hy2 : y < 18446744073709551616) (g0 : 4294967296 ≤ y) (g1 : y / 4294967296 < 65536) (g2 : y / 4294967296 < 256) (w : World) :
    Calls Tryz.prog 108 #[.int .u64 ((y : Nat) : Int)] w (fun e w' => ∃ n : Nat, e = .returned (.int .i64 ((n : Nat) : Int)) ∧ IsLen y n ∧ w = w') := by
  obtain ⟨c, hc, hc8, hct, hcl⟩ := ltab_all ⟨y / 4294967296, by omega⟩
  have K0 : Keeps Nob w w := Keeps.refl _ _
  refine sy_enter (qc53_2 1) ⟨#[uN y, ud, ud, ud, ud, ud, ud, ud, ud, ud, ud, ud, ud, ud, ud, ud, ud, ud, ud, ud, ud, ud, ud, ud, ud], []⟩ Tryz.func108 (by kernel_rfl) (by kernel_rfl) <| qr_ [0] <| pkq (.int .i64 0) <| eq_ <| qr_ [0, 1] <| pkq (uN y) <| ppq (.bool true) (dct ((((y : Nat) : Int)) ≥ ((4294967296) : Int)) (by omega)) <| ey_ <| qr_ [0, 1, 2] <| pkq (uN y) <| ppq (uN (y / 4294967296)) (exec_cast (congrArg (fun n : Nat => Value.int .u64 (n : Int)) (Nat.shiftRight_eq_div_pow y 32)) (exec_binop .shr 40 169 (.tmp 5) (.const (.int .u64 32)) (by kernel_rfl) (uN y) (uN 32) _ (by kernel_rfl) (by kernel_rfl) (by kernel_rfl) (run_shrU _ _ _ 32 (by omega)))) <| pkq (uN (y / 4294967296)) <| er_ [0] <| pkq (.int .i64 32) ?_
  refine eq_ <| qr_ [0, 1] <| pkq (uN (y / 4294967296)) <| ppq (.bool false) (dcf ((((y / 4294967296 : Nat) : Int)) ≥ ((65536) : Int)) (by omega)) <| en_ <| s_ <| tq_ <| qr_ [0, 1] <| pkq (uN (y / 4294967296)) <| ppq (.bool false) (dcf ((((y / 4294967296 : Nat) : Int)) ≥ ((256) : Int)) (by omega)) <| en_ <| s_ <| tqr_ [0, 1, 2, 3, 4, 5, 6] <| pkq (.int .i64 32) ?_
  refine pkq (uN (y / 4294967296)) <| prq (cN (y / 4294967296)) (w' := w) (exec_convert 40 5 (.tmp 20) (by kernel_rfl) _ (by kernel_rfl) (conv_u64_u8 (by omega) _)) <| ppq (cN c.toNat) (exec_index_str 9 (.const (.string ⟨ltab.toArray⟩)) (.tmp 21) (by kernel_rfl) ltab (by kernel_rfl) .u8 (y / 4294967296) (by kernel_rfl) Tryz.underlying9 c hc) <| prq (iN c.toNat) (w' := w) (exec_convert 5 3 (.tmp 22) (by kernel_rfl) _ (by kernel_rfl) (conv_u8_int (by omega) _)) <| ppq (iN (32 + c.toNat)) (exec_cast (congrArg (Value.int .i64) (wrapN (32 + c.toNat) (by omega))) (by kernel_rfl)) <| pkq (iN (32 + c.toNat)) <| eu_ <| so_ (.int .i64 ((32 + c.toNat : Nat) : Int)) ?_
  exact ⟨32 + c.toNat, rfl, len_fin (x := y / 4294967296) (K := 4294967296) (by decide) (by decide) hc8 (by omega) (by omega) hct (by omega) hcl, rfl⟩
theorem bLen64_nyy (y : Nat) (hy1 : 1 ≤ y) (hy2 : y < 18446744073709551616) (g0 : y < 4294967296) (g1 : 65536 ≤ y) (g2 : 256 ≤ y / 65536) (w : World) :
    Calls Tryz.prog 108 #[.int .u64 ((y : Nat) : Int)] w (fun e w' => ∃ n : Nat, e = .returned (.int .i64 ((n : Nat) : Int)) ∧ IsLen y n ∧ w = w') := by
  obtain ⟨c, hc, hc8, hct, hcl⟩ := ltab_all ⟨y / 65536 / 256, by omega⟩
  have K0 : Keeps Nob w w := Keeps.refl _ _
  refine sy_enter (qc53_2 1) ⟨#[uN y, ud, ud, ud, ud, ud, ud, ud, ud, ud, ud, ud, ud, ud, ud, ud, ud, ud, ud, ud, ud, ud, ud, ud, ud], []⟩ Tryz.func108 (by kernel_rfl) (by kernel_rfl) <| qr_ [0] <| pkq (.int .i64 0) <| eq_ <| qr_ [0, 1] <| pkq (uN y) <| ppq (.bool false) (dcf ((((y : Nat) : Int)) ≥ ((4294967296) : Int)) (by omega)) <| en_ <| s_ <| tq_ <| qr_ [0, 1] <| pkq (uN y) <| ppq (.bool true) (dct ((((y : Nat) : Int)) ≥ ((65536) : Int)) (by omega)) <| ey_ ?_
  refine qr_ [0, 1, 2] <| pkq (uN y) <| ppq (uN (y / 65536)) (exec_cast (congrArg (fun n : Nat => Value.int .u64 (n : Int)) (Nat.shiftRight_eq_div_pow y 16)) (exec_binop .shr 40 169 (.tmp 9) (.const (.int .u64 16)) (by kernel_rfl) (uN y) (uN 16) _ (by kernel_rfl) (by kernel_rfl) (by kernel_rfl) (run_shrU _ _ _ 16 (by omega)))) <| pkq (uN (y / 65536)) <| er_ [0, 1, 2] <| pkq (.int .i64 0) <| pkq (.int .i64 16) <| pkq (.int .i64 16) <| eq_ <| qr_ [0, 1] <| pkq (uN (y / 65536)) <| ppq (.bool true) (dct ((((y / 65536 : Nat) : Int)) ≥ ((256) : Int)) (by omega)) <| ey_ <| qr_ [0, 1, 2] ?_
  refine pkq (uN (y / 65536)) <| ppq (uN (y / 65536 / 256)) (exec_cast (congrArg (fun n : Nat => Value.int .u64 (n : Int)) (Nat.shiftRight_eq_div_pow (y / 65536) 8)) (exec_binop .shr 40 169 (.tmp 15) (.const (.int .u64 8)) (by kernel_rfl) (uN (y / 65536)) (uN 8) _ (by kernel_rfl) (by kernel_rfl) (by kernel_rfl) (run_shrU _ _ _ 8 (by omega)))) <| pkq (uN (y / 65536 / 256)) <| er_ [0, 1, 2] <| pkq (.int .i64 16) <| pkq (.int .i64 24) <| pkq (.int .i64 24) <| eqr_ [0, 1, 2, 3, 4, 5, 6] <| pkq (.int .i64 24) <| pkq (uN (y / 65536 / 256)) <| prq (cN (y / 65536 / 256)) (w' := w) (exec_convert 40 5 (.tmp 20) (by kernel_rfl) _ (by kernel_rfl) (conv_u64_u8 (by omega) _)) <| ppq (cN c.toNat) (exec_index_str 9 (.const (.string ⟨ltab.toArray⟩)) (.tmp 21) (by kernel_rfl) ltab (by kernel_rfl) .u8 (y / 65536 / 256) (by kernel_rfl) Tryz.underlying9 c hc) <| prq (iN c.toNat) (w' := w) (exec_convert 5 3 (.tmp 22) (by kernel_rfl) _ (by kernel_rfl) (conv_u8_int (by omega) _)) <| ppq (iN (24 + c.toNat)) (exec_cast (congrArg (Value.int .i64) (wrapN (24 + c.toNat) (by omega))) (by kernel_rfl)) ?_
  refine pkq (iN (24 + c.toNat)) <| ps_end <| sy_a ⟨#[uN (y / 65536 / 256), ud, iN (24 + c.toNat), uN y, .bool false, ud, ud, uN y, .bool true, uN y, uN (y / 65536), .int .i64 0, .int .i64 16, uN (y / 65536), .bool true, uN (y / 65536), uN (y / 65536 / 256), .int .i64 16, .int .i64 24, .int .i64 24, uN (y / 65536 / 256), cN (y / 65536 / 256), cN c.toNat, iN c.toNat, iN (24 + c.toNat)], []⟩ <| then_n <| u_ <| so_ (.int .i64 ((24 + c.toNat : Nat) : Int)) ?_
  exact ⟨24 + c.toNat, rfl, len_fin (x := y / 65536 / 256) (K := 16777216) (by decide) (by decide) hc8 (by omega) (by omega) hct (by omega) hcl, rfl⟩
theorem bLen64_nyn (y : Nat) (hy1 : 1 ≤ y) (hy2 : y < 18446744073709551616) (g0 : y < 4294967296) (g1 : 65536 ≤ y) (g2 : y / 65536 < 256) (w : World) :
    Calls Tryz.prog 108 #[.int .u64 ((y : Nat) : Int)] w (fun e w' => ∃ n : Nat, e = .returned (.int .i64 ((n : Nat) : Int)) ∧ IsLen y n ∧ w = w') := by
  obtain ⟨c, hc, hc8, hct, hcl⟩ := ltab_all ⟨y / 65536, by omega⟩
  have K0 : Keeps Nob w w := Keeps.refl _ _
  refine sy_enter (qc53_2 1) ⟨#[uN y, ud, ud, ud, ud, ud, ud, ud, ud, ud, ud, ud, ud, ud, ud, ud, ud, ud, ud, ud, ud, ud, ud, ud, ud], []⟩ Tryz.func108 (by kernel_rfl) (by kernel_rfl) <| qr_ [0] <| pkq (.int .i64 0) <| eq_ <| qr_ [0, 1] <| pkq (uN y) <| ppq (.bool false) (dcf ((((y : Nat) : Int)) ≥ ((4294967296) : Int)) (by omega)) <| en_ <| s_ <| tq_ <| qr_ [0, 1] <| pkq (uN y) <| ppq (.bool true) (dct ((((y : Nat) : Int)) ≥ ((65536) : Int)) (by omega)) <| ey_ ?_
  refine qr_ [0, 1, 2] <| pkq (uN y) <| ppq (uN (y / 65536)) (exec_cast (congrArg (fun n : Nat => Value.int .u64 (n : Int)) (Nat.shiftRight_eq_div_pow y 16)) (exec_binop .shr 40 169 (.tmp 9) (.const (.int .u64 16)) (by kernel_rfl) (uN y) (uN 16) _ (by kernel_rfl) (by kernel_rfl) (by kernel_rfl) (run_shrU _ _ _ 16 (by omega)))) <| pkq (uN (y / 65536)) <| er_ [0, 1, 2] <| pkq (.int .i64 0) <| pkq (.int .i64 16) <| pkq (.int .i64 16) <| eq_ <| qr_ [0, 1] <| pkq (uN (y / 65536)) <| ppq (.bool false) (dcf ((((y / 65536 : Nat) : Int)) ≥ ((256) : Int)) (by omega)) <| en_ <| s_ ?_
  refine tqr_ [0, 1, 2, 3, 4, 5, 6] <| pkq (.int .i64 16) <| pkq (uN (y / 65536)) <| prq (cN (y / 65536)) (w' := w) (exec_convert 40 5 (.tmp 20) (by kernel_rfl) _ (by kernel_rfl) (conv_u64_u8 (by omega) _)) <| ppq (cN c.toNat) (exec_index_str 9 (.const (.string ⟨ltab.toArray⟩)) (.tmp 21) (by kernel_rfl) ltab (by kernel_rfl) .u8 (y / 65536) (by kernel_rfl) Tryz.underlying9 c hc) <| prq (iN c.toNat) (w' := w) (exec_convert 5 3 (.tmp 22) (by kernel_rfl) _ (by kernel_rfl) (conv_u8_int (by omega) _)) <| ppq (iN (16 + c.toNat)) (exec_cast (congrArg (Value.int .i64) (wrapN (16 + c.toNat) (by omega))) (by kernel_rfl)) <| pkq (iN (16 + c.toNat)) <| eu_ <| so_ (.int .i64 ((16 + c.toNat : Nat) : Int)) ?_
  exact ⟨16 + c.toNat, rfl, len_fin (x := y / 65536) (K := 65536) (by decide) (by decide) hc8 (by omega) (by omega) hct (by omega) hcl, rfl⟩
theorem bLen64_nny (y : Nat) (hy1 : 1 ≤ y) (hy2 : y < 18446744073709551616) (g0 : y < 4294967296) (g1 : y < 65536) (g2 : 256 ≤ y) (w : World) :
    Calls Tryz.prog 108 #[.int .u64 ((y : Nat) : Int)] w (fun e w' => ∃ n : Nat, e = .returned (.int .i64 ((n : Nat) : Int)) ∧ IsLen y n ∧ w = w') := by
  obtain ⟨c, hc, hc8, hct, hcl⟩ := ltab_all ⟨y / 256, by omega⟩
  have K0 : Keeps Nob w w := Keeps.refl _ _
  refine sy_enter (qc53_2 1) ⟨#[uN y, ud, ud, ud, ud, ud, ud, ud, ud, ud, ud, ud, ud, ud, ud, ud, ud, ud, ud, ud, ud, ud, ud, ud, ud], []⟩ Tryz.func108 (by kernel_rfl) (by kernel_rfl) <| qr_ [0] <| pkq (.int .i64 0) <| eq_ <| qr_ [0, 1] <| pkq (uN y) <| ppq (.bool false) (dcf ((((y : Nat) : Int)) ≥ ((4294967296) : Int)) (by omega)) <| en_ <| s_ <| tq_ <| qr_ [0, 1] <| pkq (uN y) <| ppq (.bool false) (dcf ((((y : Nat) : Int)) ≥ ((65536) : Int)) (by omega)) <| en_ ?_
  refine s_ <| tq_ <| qr_ [0, 1] <| pkq (uN y) <| ppq (.bool true) (dct ((((y : Nat) : Int)) ≥ ((256) : Int)) (by omega)) <| ey_ <| qr_ [0, 1, 2] <| pkq (uN y) <| ppq (uN (y / 256)) (exec_cast (congrArg (fun n : Nat => Value.int .u64 (n : Int)) (Nat.shiftRight_eq_div_pow y 8)) (exec_binop .shr 40 169 (.tmp 15) (.const (.int .u64 8)) (by kernel_rfl) (uN y) (uN 8) _ (by kernel_rfl) (by kernel_rfl) (by kernel_rfl) (run_shrU _ _ _ 8 (by omega)))) <| pkq (uN (y / 256)) <| er_ [0, 1, 2] <| pkq (.int .i64 0) <| pkq (.int .i64 8) <| pkq (.int .i64 8) ?_
  refine eqr_ [0, 1, 2, 3, 4, 5, 6] <| pkq (.int .i64 8) <| pkq (uN (y / 256)) <| prq (cN (y / 256)) (w' := w) (exec_convert 40 5 (.tmp 20) (by kernel_rfl) _ (by kernel_rfl) (conv_u64_u8 (by omega) _)) <| ppq (cN c.toNat) (exec_index_str 9 (.const (.string ⟨ltab.toArray⟩)) (.tmp 21) (by kernel_rfl) ltab (by kernel_rfl) .u8 (y / 256) (by kernel_rfl) Tryz.underlying9 c hc) <| prq (iN c.toNat) (w' := w) (exec_convert 5 3 (.tmp 22) (by kernel_rfl) _ (by kernel_rfl) (conv_u8_int (by omega) _)) <| ppq (iN (8 + c.toNat)) (exec_cast (congrArg (Value.int .i64) (wrapN (8 + c.toNat) (by omega))) (by kernel_rfl)) <| pkq (iN (8 + c.toNat)) <| eu_ <| so_ (.int .i64 ((8 + c.toNat : Nat) : Int)) ?_
  exact ⟨8 + c.toNat, rfl, len_fin (x := y / 256) (K := 256) (by decide) (by decide) hc8 (by omega) (by omega) hct (by omega) hcl, rfl⟩
theorem bLen64_nnn (y : Nat) (hy1 : 1 ≤ y) (hy2 : y < 18446744073709551616) (g0 : y < 4294967296) (g1 : y < 65536) (g2 : y < 256) (w : World) :
    Calls Tryz.prog 108 #[.int .u64 ((y : Nat) : Int)] w (fun e w' => ∃ n : Nat, e = .returned (.int .i64 ((n : Nat) : Int)) ∧ IsLen y n ∧ w = w') := by
  obtain ⟨c, hc, hc8, hct, hcl⟩ := ltab_all ⟨y, by omega⟩
  have K0 : Keeps Nob w w := Keeps.refl _ _
  refine sy_enter (qc53_2 1) ⟨#[uN y, ud, ud, ud, ud, ud, ud, ud, ud, ud, ud, ud, ud, ud, ud, ud, ud, ud, ud, ud, ud, ud, ud, ud, ud], []⟩ Tryz.func108 (by kernel_rfl) (by kernel_rfl) <| qr_ [0] <| pkq (.int .i64 0) <| eq_ <| qr_ [0, 1] <| pkq (uN y) <| ppq (.bool false) (dcf ((((y : Nat) : Int)) ≥ ((4294967296) : Int)) (by omega)) <| en_ <| s_ <| tq_ <| qr_ [0, 1] <| pkq (uN y) <| ppq (.bool false) (dcf ((((y : Nat) : Int)) ≥ ((65536) : Int)) (by omega)) <| en_ ?_
  refine s_ <| tq_ <| qr_ [0, 1] <| pkq (uN y) <| ppq (.bool false) (dcf ((((y : Nat) : Int)) ≥ ((256) : Int)) (by omega)) <| en_ <| s_ <| tqr_ [0, 1, 2, 3, 4, 5, 6] <| pkq (.int .i64 0) <| pkq (uN y) <| prq (cN y) (w' := w) (exec_convert 40 5 (.tmp 20) (by kernel_rfl) _ (by kernel_rfl) (conv_u64_u8 (by omega) _)) <| ppq (cN c.toNat) (exec_index_str 9 (.const (.string ⟨ltab.toArray⟩)) (.tmp 21) (by kernel_rfl) ltab (by kernel_rfl) .u8 (y) (by kernel_rfl) Tryz.underlying9 c hc) <| prq (iN c.toNat) (w' := w) (exec_convert 5 3 (.tmp 22) (by kernel_rfl) _ (by kernel_rfl) (conv_u8_int (by omega) _)) <| ppq (iN (0 + c.toNat)) (exec_cast (congrArg (Value.int .i64) (wrapN (0 + c.toNat) (by omega))) (by kernel_rfl)) ?_
  refine pkq (iN (0 + c.toNat)) <| eu_ <| so_ (.int .i64 ((0 + c.toNat : Nat) : Int)) ?_
  exact ⟨0 + c.toNat, rfl, len_fin (x := y) (K := 1) (by decide) (by decide) hc8 (by omega) (by omega) hct (by omega) hcl, rfl⟩
theorem bLen64_ok (y : Nat) (hy1 : 1 ≤ y) (hy2 : y < 18446744073709551616) (w : World) : Calls Tryz.prog 108 #[.int .u64 ((y : Nat) : Int)] w (fun e w' => ∃ n : Nat, e = .returned (.int .i64 ((n : Nat) : Int)) ∧ IsLen y n ∧ w = w') := by
  by_cases c1 : 4294967296 ≤ y
  · by_cases c2 : 65536 ≤ y / 4294967296
    · by_cases c3 : 256 ≤ y / 4294967296 / 65536
      · exact bLen64_yyy y hy1 hy2 c1 c2 c3 w
      · exact bLen64_yyn y hy1 hy2 c1 c2 (by omega) w
    · by_cases c3 : 256 ≤ y / 4294967296
      · exact bLen64_yny y hy1 hy2 c1 (by omega) c3 w
      · exact bLen64_ynn y hy1 hy2 c1 (by omega) (by omega) w
  · by_cases c2 : 65536 ≤ y
    · by_cases c3 : 256 ≤ y / 65536
      · exact bLen64_nyy y hy1 hy2 (by omega) c2 c3 w
      · exact bLen64_nyn y hy1 hy2 (by omega) c2 (by omega) w
    · by_cases c3 : 256 ≤ y
      · exact bLen64_nny y hy1 hy2 (by omega) (by omega) c3 w
      · exact bLen64_nnn y hy1 hy2 (by omega) (by omega) (by omega) w
noncomputable def qc53_0 (n : Nat) : Code := partOf Tryz.f105 n
theorem bLead64_ok (y : Nat) (hy1 : 1 ≤ y) (hy2 : y < 18446744073709551616) (w : World) :
    Calls Tryz.prog 105 #[.int .u64 ((y : Nat) : Int)] w (fun e w' => ∃ s : Nat, e = .returned (.int .i64 ((s : Nat) : Int)) ∧ s ≤ 63 ∧ 9223372036854775808 ≤ y * 2 ^ s ∧ y * 2 ^ s < 18446744073709551616 ∧ w = w') := by
  have K0 : Keeps Nob w w := Keeps.refl _ _
  refine sy_enter (qc53_0 1) ⟨#[uN y, ud, ud, ud, ud, ud], []⟩ Tryz.func105 (by kernel_rfl) (by kernel_rfl) <| qr_ [0] <| pkq (.int .i64 0) <| eqr_ [0, 1, 2, 3] <| pkq (uN y) ?_
  refine pcq 108 #[uN y] Tryz.func108 ((bLen64_ok y hy1 hy2 _).mono ?_)
  rintro e w1 ⟨n, rfl, hn, rfl⟩
  obtain ⟨s, hs⟩ : ∃ s, s + n = 64 := ⟨64 - n, by have := hn.1; omega⟩
  refine ⟨_, rfl, ?_⟩
  refine ppq (iN s) (exec_cast (congrArg (Value.int .i64) (wrapI (64 - ((n : Nat) : Int)) ((s : Nat) : Int) (by omega) (by omega) (by omega))) (by kernel_rfl)) <| pkq (iN s) <| eu_ <| so_ (.int .i64 ((s : Nat) : Int)) ?_
  exact ⟨s, rfl, (lead_len hn hs).1, (lead_len hn hs).2.1, (lead_len hn hs).2.2, rfl⟩
noncomputable def qc53_1 (n : Nat) : Code := partOf Tryz.f94 n
theorem bDiv64_zero (hi lo y : Nat) (hz : hi = 0) (hy1 : 1 ≤ y) (hlo : lo < 18446744073709551616) (w : World) :
    Calls Tryz.prog 94 #[.int .u64 ((hi : Nat) : Int), .int .u64 ((lo : Nat) : Int), .int .u64 ((y : Nat) : Int)] w (fun e w' => ∃ r : Nat, e = .returned (.tuple #[.int .u64 (((hi * 18446744073709551616 + lo) / y : Nat) : Int), .int .u64 ((r : Nat) : Int)]) ∧ Keeps Nob w w') := by
  have K0 : Keeps Nob w w := Keeps.refl _ _
  refine sy_enter (qc53_1 1) ⟨#[uN hi, uN lo, uN y, ud, ud, ud, ud, ud, ud, ud, ud, ud, ud, ud, ud, ud, ud, ud, ud, ud, ud, ud, ud, ud, ud, ud, ud, ud, ud, ud, ud, ud, ud, ud, ud, ud, ud, ud, ud, ud, ud, ud, ud, ud, ud, ud, ud, ud, ud, ud, ud, ud, ud, ud, ud, ud, ud, ud, ud, ud, ud, ud, ud, ud, ud, ud, ud, ud, ud, ud, ud, ud, ud, ud, ud, ud, ud, ud, ud, ud, ud, ud, ud, ud, ud, ud, ud, ud, ud, ud, ud, ud, ud, ud, ud, ud, ud, ud, ud, ud, ud, ud, ud, ud, ud, ud, ud, ud, ud, ud, ud, ud, ud, ud, ud, ud, ud, ud, ud, ud, ud, ud, ud, ud, ud, ud, ud, ud, ud, ud, ud, ud, ud, ud, ud], []⟩ Tryz.func94 (by kernel_rfl) (by kernel_rfl) <| qr_ [0, 1] <| pkq (.int .u64 0) <| pkq (.int .u64 0) <| eq_ <| qr_ [0, 1] <| pkq (uN y) <| ppq (.bool false) (eqf (((y : Nat) : Int)) ((0) : Int) (by omega)) <| en_ <| s_ <| tq_ <| qr_ [0, 1, 2] <| pkq (uN y) <| pkq (uN hi) ?_
  refine ppq (.bool false) (dcf ((((y : Nat) : Int)) ≤ (((hi : Nat) : Int))) (by omega)) <| en_ <| s_ <| tq_ <| qr_ [0, 1] <| pkq (uN hi) <| ppq (.bool true) (eqt (((hi : Nat) : Int)) ((0) : Int) (by omega)) <| ey_ <| q_ <| sy_np <| sy_reg <| an_begin 6 8 (opsAt (qc53_1 244)) (fun W => True) #[false, false, false, false, false, false, false, false] (by kernel_rfl) (by kernel_rfl) (by kernel_rfl) (by kernel_rfl) ?_
  obtain ⟨V1, eV1, kV1⟩ := drew_step w
  rw [eV1]
  clear eV1
  have K2 := K0.nn kV1
  have z3 := kV1.size
  refine akq 0 (uN lo) trivial <| akq 1 (uN y) trivial <| avq 2 (uN (lo / y)) (fun W hS => exec_quoU 40 40 (.tmp 28) (.tmp 29) (by kernel_rfl) lo y (by kernel_rfl) (by kernel_rfl) hy1 hlo) trivial <| akq 3 (uN lo) trivial <| akq 4 (uN y) trivial <| avq 5 (uN (lo % y)) (fun W hS => exec_remU 40 40 (.tmp 31) (.tmp 32) (by kernel_rfl) lo y (by kernel_rfl) (by kernel_rfl) hy1 hlo) trivial <| an_o 6 <| nrq (uN (lo / y)) (w' := V1) (by kernel_rfl) ?_
  refine ⟨trivial, ?_⟩
  refine an_o 7 <| nrq (uN (lo % y)) (w' := V1) (by kernel_rfl) ?_
  refine ⟨trivial, ?_⟩
  refine an_end (by kernel_rfl) <| then_n <| u_ <| then_r <| so_ (.tuple #[.int .u64 ((lo / y : Nat) : Int), .int .u64 ((lo % y : Nat) : Int)]) ?_
  exact ⟨_, by subst hz; rw [Nat.zero_mul, Nat.zero_add], K2⟩
theorem bDiv64_pos (hi lo y : Nat) (hz : 1 ≤ hi) (hh : hi < y) (hy2 : y < 18446744073709551616) (hlo : lo < 18446744073709551616) (w : World) :
    Calls Tryz.prog 94 #[.int .u64 ((hi : Nat) : Int), .int .u64 ((lo : Nat) : Int), .int .u64 ((y : Nat) : Int)] w (fun e w' => ∃ r : Nat, e = .returned (.tuple #[.int .u64 (((hi * 18446744073709551616 + lo) / y : Nat) : Int), .int .u64 ((r : Nat) : Int)]) ∧ Keeps Nob w w') := by
  have hy1 : 1 ≤ y := by omega
  have K0 : Keeps Nob w w := Keeps.refl _ _
  refine sy_enter (qc53_1 1) ⟨#[uN hi, uN lo, uN y, ud, ud, ud, ud, ud, ud, ud, ud, ud, ud, ud, ud, ud, ud, ud, ud, ud, ud, ud, ud, ud, ud, ud, ud, ud, ud, ud, ud, ud, ud, ud, ud, ud, ud, ud, ud, ud, ud, ud, ud, ud, ud, ud, ud, ud, ud, ud, ud, ud, ud, ud, ud, ud, ud, ud, ud, ud, ud, ud, ud, ud, ud, ud, ud, ud, ud, ud, ud, ud, ud, ud, ud, ud, ud, ud, ud, ud, ud, ud, ud, ud, ud, ud, ud, ud, ud, ud, ud, ud, ud, ud, ud, ud, ud, ud, ud, ud, ud, ud, ud, ud, ud, ud, ud, ud, ud, ud, ud, ud, ud, ud, ud, ud, ud, ud, ud, ud, ud, ud, ud, ud, ud, ud, ud, ud, ud, ud, ud, ud, ud, ud, ud], []⟩ Tryz.func94 (by kernel_rfl) (by kernel_rfl) <| qr_ [0, 1] <| pkq (.int .u64 0) <| pkq (.int .u64 0) <| eq_ <| qr_ [0, 1] <| pkq (uN y) <| ppq (.bool false) (eqf (((y : Nat) : Int)) ((0) : Int) (by omega)) <| en_ <| s_ <| tq_ <| qr_ [0, 1, 2] <| pkq (uN y) <| pkq (uN hi) ?_
  refine ppq (.bool false) (dcf ((((y : Nat) : Int)) ≤ (((hi : Nat) : Int))) (by omega)) <| en_ <| s_ <| tq_ <| qr_ [0, 1] <| pkq (uN hi) <| ppq (.bool false) (eqf (((hi : Nat) : Int)) ((0) : Int) (by omega)) <| en_ <| s_ <| tqr_ [0, 1, 2, 3] <| pkq (uN y) ?_
  refine pcq 105 #[uN y] Tryz.func105 ((bLead64_ok y hy1 hy2 _).mono ?_)
  rintro e w1 ⟨s, rfl, hs63, hYl, hYh, rfl⟩
  obtain ⟨Y, hYe⟩ : ∃ Y, y * 2 ^ s = Y := ⟨_, rfl⟩
  obtain ⟨y1, hy1e⟩ : ∃ z, Y / 4294967296 = z := ⟨_, rfl⟩
  obtain ⟨y0, hy0e⟩ : ∃ z, Y % 4294967296 = z := ⟨_, rfl⟩
  obtain ⟨hsum, hUY⟩ := wide_shift hs63 hlo hh hYh
  rw [hYe] at hYl hYh hUY
  obtain ⟨U, hUe⟩ : ∃ z, ((hi <<< s) % Kec.W ||| lo >>> (64 - s)) = z := ⟨_, rfl⟩
  obtain ⟨L, hLe⟩ : ∃ z, (lo <<< s) % Kec.W = z := ⟨_, rfl⟩
  have hL : L < 18446744073709551616 := hLe ▸ Nat.mod_lt _ Kec.W_pos
  rw [hUe, hLe] at hsum
  rw [hUe] at hUY
  obtain ⟨u1, hu1e⟩ : ∃ z, L / 4294967296 = z := ⟨_, rfl⟩
  obtain ⟨u0, hu0e⟩ : ∃ z, L % 4294967296 = z := ⟨_, rfl⟩
  have hYs : Y = y1 * 4294967296 + y0 := by omega
  have hy0 : y0 < 4294967296 := by omega
  have hy1p : 1 ≤ y1 := by omega
  have hy1l : y1 < 4294967296 := by omega
  have hu1 : u1 < 4294967296 := by omega
  have hu0 : u0 < 4294967296 := by omega
  have hLs : L = u1 * 4294967296 + u0 := by omega
  obtain ⟨Vr, hVr⟩ : ∃ z, (U * 4294967296 + u1) % Y = z := ⟨_, rfl⟩
  have hVY : Vr < Y := hVr ▸ Nat.mod_lt _ (by omega)
  refine ⟨_, rfl, ?_⟩
  refine prq (uN s) (w' := w) (exec_convert 3 169 (.tmp 35) (by kernel_rfl) _ (by kernel_rfl) (conv_int_uint (by omega) _)) <| pkq (uN s) <| eqr_ [0, 1, 2, 3] <| pkq (uN y) <| pkq (uN s) <| ppq (uN Y) (exec_cast (congrArg (fun n : Nat => Value.int .u64 (n : Int)) (show (y <<< s) % Kec.W = Y by rw [Nat.shiftLeft_eq, hYe]; exact Nat.mod_eq_of_lt hYh)) (exec_binop .shl 40 169 (.tmp 37) (.tmp 38) (by kernel_rfl) (uN y) (uN s) _ (by kernel_rfl) (by kernel_rfl) (by kernel_rfl) (run_shlU _ _ y s (by omega)))) <| pkq (uN Y) <| eqr_ [0, 1, 2] <| pkq (uN Y) <| ppq (uN y1) (exec_cast (congrArg (fun n : Nat => Value.int .u64 (n : Int)) (show Y >>> 32 = y1 by rw [Nat.shiftRight_eq_div_pow]; exact hy1e)) (exec_binop .shr 40 169 (.tmp 40) (.const (.int .u64 32)) (by kernel_rfl) (uN Y) (uN 32) _ (by kernel_rfl) (by kernel_rfl) (by kernel_rfl) (run_shrU _ _ Y 32 (by omega)))) <| pkq (uN y1) <| eqr_ [0, 1, 2] <| pkq (uN Y) <| ppq (uN y0) (exec_cast ((andU Y 4294967295 (show Y < Kec.W from hYh) (by decide)).trans (congrArg (fun n : Nat => Value.int .u64 (n : Int)) (show Y &&& 4294967295 = y0 from (Nat.and_two_pow_sub_one_eq_mod Y 32).trans hy0e))) (by kernel_rfl)) ?_
  refine pkq (uN y0) <| eqr_ [0, 1, 2, 3, 4, 5, 6, 7, 8] <| pkq (uN hi) <| pkq (uN s) <| ppq (uN ((hi <<< s) % Kec.W)) (exec_binop .shl 40 169 (.tmp 44) (.tmp 45) (by kernel_rfl) (uN hi) (uN s) _ (by kernel_rfl) (by kernel_rfl) (by kernel_rfl) (run_shlU _ _ hi s (by omega))) <| pkq (uN lo) <| pkq (uN s) <| ppq (uN (64 - s)) (exec_cast (congrArg (Value.int .u64) (show IntKind.u64.wrap (64 - ((s : Nat) : Int)) = ((64 - s : Nat) : Int) by rw [IntKind.wrap_u64]; omega)) (by kernel_rfl)) <| ppq (uN (lo >>> (64 - s))) (exec_binop .shr 40 169 (.tmp 47) (.tmp 49) (by kernel_rfl) (uN lo) (uN ((64 - s))) _ (by kernel_rfl) (by kernel_rfl) (by kernel_rfl) (run_shrU _ _ lo ((64 - s)) (by omega))) <| ppq (uN U) (exec_cast ((orU ((hi <<< s) % Kec.W) (lo >>> (64 - s)) (Nat.mod_lt _ Kec.W_pos) (Kec.shr_lt hlo _)).trans (congrArg (fun n : Nat => Value.int .u64 (n : Int)) hUe)) (by kernel_rfl)) <| pkq (uN U) <| ps_end <| sy_a ⟨#[uN hi, uN lo, uN Y, ud, ud, ud, .int .u64 0, .int .u64 0, uN s, uN y1, uN y0, uN U, ud, ud, ud, ud, ud, ud, ud, uN y, .bool false, ud, uN y, uN hi, .bool false, ud, uN hi, .bool false, ud, ud, ud, ud, ud, ud, uN y, iN s, uN s, uN y, uN s, uN Y, uN Y, uN y1, uN Y, uN y0, uN hi, uN s, uN ((hi <<< s) % Kec.W), uN lo, uN s, uN (64 - s), uN (lo >>> (64 - s)), uN U, ud, ud, ud, ud, ud, ud, ud, ud, ud, ud, ud, ud, ud, ud, ud, ud, ud, ud, ud, ud, ud, ud, ud, ud, ud, ud, ud, ud, ud, ud, ud, ud, ud, ud, ud, ud, ud, ud, ud, ud, ud, ud, ud, ud, ud, ud, ud, ud, ud, ud, ud, ud, ud, ud, ud, ud, ud, ud, ud, ud, ud, ud, ud, ud, ud, ud, ud, ud, ud, ud, ud, ud, ud, ud, ud, ud, ud, ud, ud, ud, ud, ud, ud], []⟩ <| tqr_ [0, 1, 2, 3] ?_
  refine pkq (uN lo) <| pkq (uN s) <| ppq (uN L) (exec_cast (congrArg (fun n : Nat => Value.int .u64 (n : Int)) hLe) (exec_binop .shl 40 169 (.tmp 52) (.tmp 53) (by kernel_rfl) (uN lo) (uN s) _ (by kernel_rfl) (by kernel_rfl) (by kernel_rfl) (run_shlU _ _ lo s (by omega)))) <| pkq (uN L) <| eqr_ [0, 1, 2] <| pkq (uN L) <| ppq (uN u1) (exec_cast (congrArg (fun n : Nat => Value.int .u64 (n : Int)) (show L >>> 32 = u1 by rw [Nat.shiftRight_eq_div_pow]; exact hu1e)) (exec_binop .shr 40 169 (.tmp 55) (.const (.int .u64 32)) (by kernel_rfl) (uN L) (uN 32) _ (by kernel_rfl) (by kernel_rfl) (by kernel_rfl) (run_shrU _ _ L 32 (by omega)))) <| pkq (uN u1) <| eqr_ [0, 1, 2] <| pkq (uN L) <| ppq (uN u0) (exec_cast ((andU L 4294967295 (show L < Kec.W from hL) (by decide)).trans (congrArg (fun n : Nat => Value.int .u64 (n : Int)) (show L &&& 4294967295 = u0 from (Nat.and_two_pow_sub_one_eq_mod L 32).trans hu0e))) (by kernel_rfl)) <| pkq (uN u0) <| eqr_ [0, 1, 2, 3] <| pkq (uN U) ?_
  refine pkq (uN y1) <| ppq (uN (U / y1)) (exec_quoU 40 40 (.tmp 59) (.tmp 60) (by kernel_rfl) U y1 (by kernel_rfl) (by kernel_rfl) hy1p (by omega)) <| pkq (uN (U / y1)) <| eqr_ [0, 1, 2, 3, 4, 5] <| pkq (uN U) <| pkq (uN (U / y1)) <| pkq (uN y1) <| ppq (uN (U / y1 * y1)) (exec_cast (congrArg (Value.int .u64) (wrapU (U / y1 * y1) (by have := Nat.div_mul_le_self U y1; omega))) (by kernel_rfl)) <| ppq (uN (U - U / y1 * y1)) (exec_cast (congrArg (Value.int .u64) (wrap_sub U (U / y1 * y1) (Nat.div_mul_le_self U y1) (by omega))) (by kernel_rfl)) <| pkq (uN (U - U / y1 * y1)) <| eq_ <| bl_ 0 ?_
  refine sy_loop (qc53_1 262136) (fun a V => ∃ (qA : Nat) (rA : Nat) (u67 u68 u69 u70 u71 u72 u73 u74 u75 u76 u77 u78 u79 u80 u81 u82 u83 u84 u85 : Value), (a = ⟨#[uN hi, uN lo, uN Y, ud, ud, ud, .int .u64 0, .int .u64 0, uN s, uN y1, uN y0, uN U, uN L, uN u1, uN u0, uN qA, uN rA, ud, ud, uN y, .bool false, ud, uN y, uN hi, .bool false, ud, uN hi, .bool false, ud, ud, ud, ud, ud, ud, uN y, iN s, uN s, uN y, uN s, uN Y, uN Y, uN y1, uN Y, uN y0, uN hi, uN s, uN ((hi <<< s) % Kec.W), uN lo, uN s, uN (64 - s), uN (lo >>> (64 - s)), uN U, uN lo, uN s, uN L, uN L, uN u1, uN L, uN u0, uN U, uN y1, uN (U / y1), uN U, uN (U / y1), uN y1, uN (U / y1 * y1), uN (U - U / y1 * y1), u67, u68, u69, u70, u71, u72, u73, u74, u75, u76, u77, u78, u79, u80, u81, u82, u83, u84, u85, ud, ud, ud, ud, ud, ud, ud, ud, ud, ud, ud, ud, ud, ud, ud, ud, ud, ud, ud, ud, ud, ud, ud, ud, ud, ud, ud, ud, ud, ud, ud, ud, ud, ud, ud, ud, ud, ud, ud, ud, ud, ud, ud, ud, ud, ud, ud, ud, ud], []⟩) ∧ (Dig U Y y1 u1 qA rA) ∧ (qA < 18446744073709551616) ∧ (rA < 4294967296) ∧ (Keeps Nob w V)) (fun a _ => (intOf (a.tmps.getD 15 undef)).toNat) (by kernel_rfl) ?_ ?_
  · exact ⟨U / y1, U - U / y1 * y1, undef, undef, undef, undef, undef, undef, undef, undef, undef, undef, undef, undef, undef, undef, undef, undef, undef, undef, undef, by kernel_rfl, dig_init hYs hy0 hy1p hu1 hUY, by have := Nat.div_le_self U y1; omega, rem_small hy1p hy1l, K0⟩
  · rintro a V1 ⟨qA, rA, u67, u68, u69, u70, u71, u72, u73, u74, u75, u76, u77, u78, u79, u80, u81, u82, u83, u84, u85, rfl, hd, hql, hr, K2⟩
    rcases dig_cases qA rA y0 y1 u1 with ⟨hq, hr2⟩ | ⟨hq, hr2⟩ | ⟨hq, hc, hr2⟩ | ⟨hq, hc, hr2⟩ | ⟨hq, hc⟩
    · obtain ⟨qp, hdn⟩ := dig_step hYs hy0 hy1p hu1 hUY hd (.inl hq)
      refine q_ <| qr_ [0, 1, 2, 3, 4, 5, 6, 7, 8, 9, 10, 11] <| pkq (uN qA) <| ppq (.bool true) (dct ((((qA : Nat) : Int)) ≥ ((4294967296) : Int)) (by omega)) <| pkq (.bool true) <| pnq <| pnq <| pnq <| pnq <| pnq <| pnq <| pnq <| pnq <| pkq (.bool true) ?_
      refine ey_ <| s_ <| then_n <| bl_ 1 <| qr_ [0, 1, 2] <| pkq (uN qA) <| ppq (uN (qA - 1)) (exec_cast (congrArg (Value.int .u64) (wrap_sub qA 1 qp (by omega))) (by kernel_rfl)) <| pkq (uN (qA - 1)) <| eqr_ [0, 1, 2, 3] <| pkq (uN rA) <| pkq (uN y1) <| ppq (uN (rA + y1)) (exec_cast (congrArg (Value.int .u64) (wrapU (rA + y1) (by omega))) (by kernel_rfl)) <| pkq (uN (rA + y1)) <| eqr_ [0, 1] ?_
      refine pkq (uN (rA + y1)) <| ppq (.bool false) (dcf ((((rA + y1 : Nat) : Int)) ≥ ((4294967296) : Int)) (by omega)) <| en_ <| s_ <| blk_n <| then_n ?_
      refine ⟨⟨qA - 1, rA + y1, (uN qA), (.bool true), (.bool true), undef, undef, undef, undef, undef, undef, undef, undef, (.bool true), (uN qA), (uN (qA - 1)), (uN rA), (uN y1), (uN (rA + y1)), (uN (rA + y1)), (.bool false), by kernel_rfl, hdn, by omega, by omega, K2⟩, ?_⟩
      exact lt_meas (x := qA - 1) (y := qA) (by kernel_rfl) (by kernel_rfl) (by omega)
    · obtain ⟨qp, hdn⟩ := dig_step hYs hy0 hy1p hu1 hUY hd (.inl hq)
      have hxA : qA - 1 = (U * 4294967296 + u1) / Y := dig_done hYs hy0 hy1p hu1 hUY hdn (.inr hr2)
      refine q_ <| qr_ [0, 1, 2, 3, 4, 5, 6, 7, 8, 9, 10, 11] <| pkq (uN qA) <| ppq (.bool true) (dct ((((qA : Nat) : Int)) ≥ ((4294967296) : Int)) (by omega)) <| pkq (.bool true) <| pnq <| pnq <| pnq <| pnq <| pnq <| pnq <| pnq <| pnq <| pkq (.bool true) ?_
      refine ey_ <| s_ <| then_n <| bl_ 1 <| qr_ [0, 1, 2] <| pkq (uN qA) <| ppq (uN (qA - 1)) (exec_cast (congrArg (Value.int .u64) (wrap_sub qA 1 qp (by omega))) (by kernel_rfl)) <| pkq (uN (qA - 1)) <| eqr_ [0, 1, 2, 3] <| pkq (uN rA) <| pkq (uN y1) <| ppq (uN (rA + y1)) (exec_cast (congrArg (Value.int .u64) (wrapU (rA + y1) (by omega))) (by kernel_rfl)) <| pkq (uN (rA + y1)) <| eqr_ [0, 1] ?_
      refine pkq (uN (rA + y1)) <| ppq (.bool true) (dct ((((rA + y1 : Nat) : Int)) ≥ ((4294967296) : Int)) (by omega)) <| ey_ <| sy_exit 0 (by kernel_rfl) <| blk_p (by decide) <| then_e <| blk_e <| tqr_ [0, 1, 2, 3, 4, 5, 6, 7, 8] <| pkq (uN U) <| pkq (.int .u64 (IntKind.u64.wrap (((U : Nat) : Int) * 4294967296))) <| pkq (uN u1) <| pkq (.int .u64 (IntKind.u64.wrap (IntKind.u64.wrap (((U : Nat) : Int) * 4294967296) + ((u1 : Nat) : Int)))) <| pkq (uN (qA - 1)) <| pkq (uN Y) ?_
      refine pkq (.int .u64 (IntKind.u64.wrap (((qA - 1 : Nat) : Int) * ((Y : Nat) : Int)))) <| ppq (uN Vr) (exec_cast (congrArg (Value.int .u64) (((dig_rest hYs hy0 hy1p hu1 hUY hxA).resolve_right (by omega)).trans (congrArg (fun n : Nat => (n : Int)) hVr))) (by kernel_rfl)) <| pkq (uN Vr) <| ps_end <| sy_a ⟨#[uN hi, uN lo, uN Y, ud, ud, ud, .int .u64 0, .int .u64 0, uN s, uN y1, uN y0, uN U, uN L, uN u1, uN u0, uN (qA - 1), uN (rA + y1), uN Vr, ud, uN y, .bool false, ud, uN y, uN hi, .bool false, ud, uN hi, .bool false, ud, ud, ud, ud, ud, ud, uN y, iN s, uN s, uN y, uN s, uN Y, uN Y, uN y1, uN Y, uN y0, uN hi, uN s, uN ((hi <<< s) % Kec.W), uN lo, uN s, uN (64 - s), uN (lo >>> (64 - s)), uN U, uN lo, uN s, uN L, uN L, uN u1, uN L, uN u0, uN U, uN y1, uN (U / y1), uN U, uN (U / y1), uN y1, uN (U / y1 * y1), uN (U - U / y1 * y1), uN qA, .bool true, .bool true, ud, ud, ud, ud, ud, ud, ud, ud, .bool true, uN qA, uN (qA - 1), uN rA, uN y1, uN (rA + y1), uN (rA + y1), .bool true, uN U, .int .u64 (IntKind.u64.wrap (((U : Nat) : Int) * 4294967296)), uN u1, .int .u64 (IntKind.u64.wrap (IntKind.u64.wrap (((U : Nat) : Int) * 4294967296) + ((u1 : Nat) : Int))), uN (qA - 1), uN Y, .int .u64 (IntKind.u64.wrap (((qA - 1 : Nat) : Int) * ((Y : Nat) : Int))), uN Vr, ud, ud, ud, ud, ud, ud, ud, ud, ud, ud, ud, ud, ud, ud, ud, ud, ud, ud, ud, ud, ud, ud, ud, ud, ud, ud, ud, ud, ud, ud, ud, ud, ud, ud, ud, ud, ud, ud, ud, ud, ud], []⟩ <| tqr_ [0, 1, 2, 3] <| pkq (uN Vr) <| pkq (uN y1) <| ppq (uN (Vr / y1)) (exec_quoU 40 40 (.tmp 94) (.tmp 95) (by kernel_rfl) Vr y1 (by kernel_rfl) (by kernel_rfl) hy1p (by omega)) <| pkq (uN (Vr / y1)) <| eqr_ [0, 1, 2, 3, 4, 5] <| pkq (uN Vr) <| pkq (uN (Vr / y1)) <| pkq (uN y1) ?_
      refine ppq (uN (Vr / y1 * y1)) (exec_cast (congrArg (Value.int .u64) (wrapU (Vr / y1 * y1) (by have := Nat.div_mul_le_self Vr y1; omega))) (by kernel_rfl)) <| ppq (uN (Vr - Vr / y1 * y1)) (exec_cast (congrArg (Value.int .u64) (wrap_sub Vr (Vr / y1 * y1) (Nat.div_mul_le_self Vr y1) (by omega))) (by kernel_rfl)) <| pkq (uN (Vr - Vr / y1 * y1)) <| eq_ <| bl_ 2 ?_
      refine sy_loop (qc53_1 4194296) (fun a V => ∃ (qB : Nat) (rB : Nat) (u102 u103 u104 u105 u106 u107 u108 u109 u110 u111 u112 u113 u114 u115 u116 u117 u118 u119 u120 : Value), (a = ⟨#[uN hi, uN lo, uN Y, ud, ud, ud, .int .u64 0, .int .u64 0, uN s, uN y1, uN y0, uN U, uN L, uN u1, uN u0, uN (qA - 1), uN rB, uN Vr, uN qB, uN y, .bool false, ud, uN y, uN hi, .bool false, ud, uN hi, .bool false, ud, ud, ud, ud, ud, ud, uN y, iN s, uN s, uN y, uN s, uN Y, uN Y, uN y1, uN Y, uN y0, uN hi, uN s, uN ((hi <<< s) % Kec.W), uN lo, uN s, uN (64 - s), uN (lo >>> (64 - s)), uN U, uN lo, uN s, uN L, uN L, uN u1, uN L, uN u0, uN U, uN y1, uN (U / y1), uN U, uN (U / y1), uN y1, uN (U / y1 * y1), uN (U - U / y1 * y1), uN qA, .bool true, .bool true, ud, ud, ud, ud, ud, ud, ud, ud, .bool true, uN qA, uN (qA - 1), uN rA, uN y1, uN (rA + y1), uN (rA + y1), .bool true, uN U, .int .u64 (IntKind.u64.wrap (((U : Nat) : Int) * 4294967296)), uN u1, .int .u64 (IntKind.u64.wrap (IntKind.u64.wrap (((U : Nat) : Int) * 4294967296) + ((u1 : Nat) : Int))), uN (qA - 1), uN Y, .int .u64 (IntKind.u64.wrap (((qA - 1 : Nat) : Int) * ((Y : Nat) : Int))), uN Vr, uN Vr, uN y1, uN (Vr / y1), uN Vr, uN (Vr / y1), uN y1, uN (Vr / y1 * y1), uN (Vr - Vr / y1 * y1), u102, u103, u104, u105, u106, u107, u108, u109, u110, u111, u112, u113, u114, u115, u116, u117, u118, u119, u120, ud, ud, ud, ud, ud, ud, ud, ud, ud, ud, ud, ud, ud, ud], []⟩) ∧ (Dig Vr Y y1 u0 qB rB) ∧ (qB < 18446744073709551616) ∧ (rB < 4294967296) ∧ (Keeps Nob w V)) (fun a _ => (intOf (a.tmps.getD 18 undef)).toNat) (by kernel_rfl) ?_ ?_
      · exact ⟨Vr / y1, Vr - Vr / y1 * y1, undef, undef, undef, undef, undef, undef, undef, undef, undef, undef, undef, undef, undef, undef, undef, undef, undef, undef, undef, by kernel_rfl, dig_init hYs hy0 hy1p hu0 hVY, by have := Nat.div_le_self Vr y1; omega, rem_small hy1p hy1l, K2⟩
      · rintro a V3 ⟨qB, rB, u102, u103, u104, u105, u106, u107, u108, u109, u110, u111, u112, u113, u114, u115, u116, u117, u118, u119, u120, rfl, hd, hql, hr, K4⟩
        rcases dig_cases qB rB y0 y1 u0 with ⟨hq, hr2⟩ | ⟨hq, hr2⟩ | ⟨hq, hc, hr2⟩ | ⟨hq, hc, hr2⟩ | ⟨hq, hc⟩
        · obtain ⟨qp, hdn⟩ := dig_step hYs hy0 hy1p hu0 hVY hd (.inl hq)
          refine q_ <| qr_ [0, 1, 2, 3, 4, 5, 6, 7, 8, 9, 10, 11] <| pkq (uN qB) <| ppq (.bool true) (dct ((((qB : Nat) : Int)) ≥ ((4294967296) : Int)) (by omega)) <| pkq (.bool true) <| pnq <| pnq <| pnq <| pnq <| pnq <| pnq <| pnq <| pnq <| pkq (.bool true) ?_
          refine ey_ <| s_ <| then_n <| bl_ 3 <| qr_ [0, 1, 2] <| pkq (uN qB) <| ppq (uN (qB - 1)) (exec_cast (congrArg (Value.int .u64) (wrap_sub qB 1 qp (by omega))) (by kernel_rfl)) <| pkq (uN (qB - 1)) <| eqr_ [0, 1, 2, 3] <| pkq (uN rB) <| pkq (uN y1) <| ppq (uN (rB + y1)) (exec_cast (congrArg (Value.int .u64) (wrapU (rB + y1) (by omega))) (by kernel_rfl)) <| pkq (uN (rB + y1)) <| eqr_ [0, 1] ?_
          refine pkq (uN (rB + y1)) <| ppq (.bool false) (dcf ((((rB + y1 : Nat) : Int)) ≥ ((4294967296) : Int)) (by omega)) <| en_ <| s_ <| blk_n <| then_n ?_
          refine ⟨⟨qB - 1, rB + y1, (uN qB), (.bool true), (.bool true), undef, undef, undef, undef, undef, undef, undef, undef, (.bool true), (uN qB), (uN (qB - 1)), (uN rB), (uN y1), (uN (rB + y1)), (uN (rB + y1)), (.bool false), by kernel_rfl, hdn, by omega, by omega, K4⟩, ?_⟩
          exact lt_meas (x := qB - 1) (y := qB) (by kernel_rfl) (by kernel_rfl) (by omega)
        · obtain ⟨qp, hdn⟩ := dig_step hYs hy0 hy1p hu0 hVY hd (.inl hq)
          have hxB : qB - 1 = (Vr * 4294967296 + u0) / Y := dig_done hYs hy0 hy1p hu0 hVY hdn (.inr hr2)
          refine q_ <| qr_ [0, 1, 2, 3, 4, 5, 6, 7, 8, 9, 10, 11] <| pkq (uN qB) <| ppq (.bool true) (dct ((((qB : Nat) : Int)) ≥ ((4294967296) : Int)) (by omega)) <| pkq (.bool true) <| pnq <| pnq <| pnq <| pnq <| pnq <| pnq <| pnq <| pnq <| pkq (.bool true) ?_
          refine ey_ <| s_ <| then_n <| bl_ 3 <| qr_ [0, 1, 2] <| pkq (uN qB) <| ppq (uN (qB - 1)) (exec_cast (congrArg (Value.int .u64) (wrap_sub qB 1 qp (by omega))) (by kernel_rfl)) <| pkq (uN (qB - 1)) <| eqr_ [0, 1, 2, 3] <| pkq (uN rB) <| pkq (uN y1) <| ppq (uN (rB + y1)) (exec_cast (congrArg (Value.int .u64) (wrapU (rB + y1) (by omega))) (by kernel_rfl)) <| pkq (uN (rB + y1)) <| eqr_ [0, 1] ?_
          refine pkq (uN (rB + y1)) <| ppq (.bool true) (dct ((((rB + y1 : Nat) : Int)) ≥ ((4294967296) : Int)) (by omega)) <| ey_ <| sy_exit 2 (by kernel_rfl) <| blk_p (by decide) <| then_e <| blk_e <| tqr_ [0, 1, 2, 3, 4, 5, 6, 7, 8, 9, 10, 11, 12, 13, 14, 15] <| pkq (uN (qA - 1)) <| ppq (uN ((qA - 1) * 4294967296)) (exec_cast (congrArg (Value.int .u64) (wrapU ((qA - 1) * 4294967296) (by have := dig_lt hYs hy0 hy1p hu1 hUY; rw [← hxA] at this; omega))) (by kernel_rfl)) <| pkq (uN (qB - 1)) <| ppq (uN ((hi * 18446744073709551616 + lo) / y)) (exec_cast (congrArg (Value.int .u64) ((wrapU ((qA - 1) * 4294967296 + (qB - 1)) (by have g1 := dig_lt hYs hy0 hy1p hu1 hUY; have g2 := dig_lt hYs hy0 hy1p hu0 hVY; rw [← hxA] at g1; rw [← hxB] at g2; omega)).trans (congrArg (fun n : Nat => (n : Int)) (div_end hy1 hYe hsum hLs hxA hVr hxB)))) (by kernel_rfl)) <| pkq (uN Vr) <| pkq (.int .u64 (IntKind.u64.wrap (((Vr : Nat) : Int) * 4294967296))) ?_
          refine pkq (uN u0) <| pkq (.int .u64 (IntKind.u64.wrap (IntKind.u64.wrap (((Vr : Nat) : Int) * 4294967296) + ((u0 : Nat) : Int)))) <| pkq (uN (qB - 1)) <| pkq (uN Y) <| pkq (.int .u64 (IntKind.u64.wrap (((qB - 1 : Nat) : Int) * ((Y : Nat) : Int)))) <| ppq (uN ((Vr * 4294967296 + u0) % Y)) (exec_cast (congrArg (Value.int .u64) ((dig_rest hYs hy0 hy1p hu0 hVY hxB).resolve_right (by omega))) (by kernel_rfl)) <| pkq (uN s) <| ppq (uN (((Vr * 4294967296 + u0) % Y) >>> s)) (exec_binop .shr 40 169 (.tmp 132) (.tmp 133) (by kernel_rfl) (uN (((Vr * 4294967296 + u0) % Y))) (uN s) _ (by kernel_rfl) (by kernel_rfl) (by kernel_rfl) (run_shrU _ _ ((Vr * 4294967296 + u0) % Y) s (by omega))) <| pkq (uN ((hi * 18446744073709551616 + lo) / y)) <| pkq (uN (((Vr * 4294967296 + u0) % Y) >>> s)) <| ps_end <| sy_a ⟨#[uN hi, uN lo, uN Y, ud, ud, ud, uN ((hi * 18446744073709551616 + lo) / y), uN (((Vr * 4294967296 + u0) % Y) >>> s), uN s, uN y1, uN y0, uN U, uN L, uN u1, uN u0, uN (qA - 1), uN (rB + y1), uN Vr, uN (qB - 1), uN y, .bool false, ud, uN y, uN hi, .bool false, ud, uN hi, .bool false, ud, ud, ud, ud, ud, ud, uN y, iN s, uN s, uN y, uN s, uN Y, uN Y, uN y1, uN Y, uN y0, uN hi, uN s, uN ((hi <<< s) % Kec.W), uN lo, uN s, uN (64 - s), uN (lo >>> (64 - s)), uN U, uN lo, uN s, uN L, uN L, uN u1, uN L, uN u0, uN U, uN y1, uN (U / y1), uN U, uN (U / y1), uN y1, uN (U / y1 * y1), uN (U - U / y1 * y1), uN qA, .bool true, .bool true, ud, ud, ud, ud, ud, ud, ud, ud, .bool true, uN qA, uN (qA - 1), uN rA, uN y1, uN (rA + y1), uN (rA + y1), .bool true, uN U, .int .u64 (IntKind.u64.wrap (((U : Nat) : Int) * 4294967296)), uN u1, .int .u64 (IntKind.u64.wrap (IntKind.u64.wrap (((U : Nat) : Int) * 4294967296) + ((u1 : Nat) : Int))), uN (qA - 1), uN Y, .int .u64 (IntKind.u64.wrap (((qA - 1 : Nat) : Int) * ((Y : Nat) : Int))), uN Vr, uN Vr, uN y1, uN (Vr / y1), uN Vr, uN (Vr / y1), uN y1, uN (Vr / y1 * y1), uN (Vr - Vr / y1 * y1), uN qB, .bool true, .bool true, ud, ud, ud, ud, ud, ud, ud, ud, .bool true, uN qB, uN (qB - 1), uN rB, uN y1, uN (rB + y1), uN (rB + y1), .bool true, uN (qA - 1), uN ((qA - 1) * 4294967296), uN (qB - 1), uN ((hi * 18446744073709551616 + lo) / y), uN Vr, .int .u64 (IntKind.u64.wrap (((Vr : Nat) : Int) * 4294967296)), uN u0, .int .u64 (IntKind.u64.wrap (IntKind.u64.wrap (((Vr : Nat) : Int) * 4294967296) + ((u0 : Nat) : Int))), uN (qB - 1), uN Y, .int .u64 (IntKind.u64.wrap (((qB - 1 : Nat) : Int) * ((Y : Nat) : Int))), uN ((Vr * 4294967296 + u0) % Y), uN s, uN (((Vr * 4294967296 + u0) % Y) >>> s)], []⟩ <| then_n <| u_ ?_
          refine so_ (.tuple #[.int .u64 (((hi * 18446744073709551616 + lo) / y : Nat) : Int), .int .u64 ((((Vr * 4294967296 + u0) % Y) >>> s : Nat) : Int)]) ?_
          exact ⟨_, rfl, K4⟩
        · obtain ⟨qp, hdn⟩ := dig_step hYs hy0 hy1p hu0 hVY hd (.inr hc)
          refine q_ <| qr_ [0, 1, 2, 3, 4, 5, 6, 7, 8, 9, 10, 11] <| pkq (uN qB) <| ppq (.bool false) (dcf ((((qB : Nat) : Int)) ≥ ((4294967296) : Int)) (by omega)) <| pkq (.bool false) <| pkq (uN qB) <| pkq (uN y0) <| ppq (uN (qB * y0)) (exec_cast (congrArg (Value.int .u64) (wrapU (qB * y0) (mul_small hq hy0))) (by kernel_rfl)) <| pkq (uN rB) <| ppq (uN (4294967296 * rB)) (exec_cast (congrArg (Value.int .u64) (wrapU (4294967296 * rB) (by omega))) (by kernel_rfl)) <| pkq (uN u0) <| ppq (uN (4294967296 * rB + u0)) (exec_cast (congrArg (Value.int .u64) (wrapU (4294967296 * rB + u0) (by omega))) (by kernel_rfl)) <| ppq (.bool true) (dct ((((qB * y0 : Nat) : Int)) > (((4294967296 * rB + u0 : Nat) : Int))) (by omega)) <| pkq (.bool true) ?_
          refine ey_ <| s_ <| then_n <| bl_ 3 <| qr_ [0, 1, 2] <| pkq (uN qB) <| ppq (uN (qB - 1)) (exec_cast (congrArg (Value.int .u64) (wrap_sub qB 1 qp (by omega))) (by kernel_rfl)) <| pkq (uN (qB - 1)) <| eqr_ [0, 1, 2, 3] <| pkq (uN rB) <| pkq (uN y1) <| ppq (uN (rB + y1)) (exec_cast (congrArg (Value.int .u64) (wrapU (rB + y1) (by omega))) (by kernel_rfl)) <| pkq (uN (rB + y1)) <| eqr_ [0, 1] ?_
          refine pkq (uN (rB + y1)) <| ppq (.bool false) (dcf ((((rB + y1 : Nat) : Int)) ≥ ((4294967296) : Int)) (by omega)) <| en_ <| s_ <| blk_n <| then_n ?_
          refine ⟨⟨qB - 1, rB + y1, (uN qB), (.bool false), (.bool false), (uN qB), (uN y0), (uN (qB * y0)), (uN rB), (uN (4294967296 * rB)), (uN u0), (uN (4294967296 * rB + u0)), (.bool true), (.bool true), (uN qB), (uN (qB - 1)), (uN rB), (uN y1), (uN (rB + y1)), (uN (rB + y1)), (.bool false), by kernel_rfl, hdn, by omega, by omega, K4⟩, ?_⟩
          exact lt_meas (x := qB - 1) (y := qB) (by kernel_rfl) (by kernel_rfl) (by omega)
        · obtain ⟨qp, hdn⟩ := dig_step hYs hy0 hy1p hu0 hVY hd (.inr hc)
          have hxB : qB - 1 = (Vr * 4294967296 + u0) / Y := dig_done hYs hy0 hy1p hu0 hVY hdn (.inr hr2)
          refine q_ <| qr_ [0, 1, 2, 3, 4, 5, 6, 7, 8, 9, 10, 11] <| pkq (uN qB) <| ppq (.bool false) (dcf ((((qB : Nat) : Int)) ≥ ((4294967296) : Int)) (by omega)) <| pkq (.bool false) <| pkq (uN qB) <| pkq (uN y0) <| ppq (uN (qB * y0)) (exec_cast (congrArg (Value.int .u64) (wrapU (qB * y0) (mul_small hq hy0))) (by kernel_rfl)) <| pkq (uN rB) <| ppq (uN (4294967296 * rB)) (exec_cast (congrArg (Value.int .u64) (wrapU (4294967296 * rB) (by omega))) (by kernel_rfl)) <| pkq (uN u0) <| ppq (uN (4294967296 * rB + u0)) (exec_cast (congrArg (Value.int .u64) (wrapU (4294967296 * rB + u0) (by omega))) (by kernel_rfl)) <| ppq (.bool true) (dct ((((qB * y0 : Nat) : Int)) > (((4294967296 * rB + u0 : Nat) : Int))) (by omega)) <| pkq (.bool true) ?_
          refine ey_ <| s_ <| then_n <| bl_ 3 <| qr_ [0, 1, 2] <| pkq (uN qB) <| ppq (uN (qB - 1)) (exec_cast (congrArg (Value.int .u64) (wrap_sub qB 1 qp (by omega))) (by kernel_rfl)) <| pkq (uN (qB - 1)) <| eqr_ [0, 1, 2, 3] <| pkq (uN rB) <| pkq (uN y1) <| ppq (uN (rB + y1)) (exec_cast (congrArg (Value.int .u64) (wrapU (rB + y1) (by omega))) (by kernel_rfl)) <| pkq (uN (rB + y1)) <| eqr_ [0, 1] ?_
          refine pkq (uN (rB + y1)) <| ppq (.bool true) (dct ((((rB + y1 : Nat) : Int)) ≥ ((4294967296) : Int)) (by omega)) <| ey_ <| sy_exit 2 (by kernel_rfl) <| blk_p (by decide) <| then_e <| blk_e <| tqr_ [0, 1, 2, 3, 4, 5, 6, 7, 8, 9, 10, 11, 12, 13, 14, 15] <| pkq (uN (qA - 1)) <| ppq (uN ((qA - 1) * 4294967296)) (exec_cast (congrArg (Value.int .u64) (wrapU ((qA - 1) * 4294967296) (by have := dig_lt hYs hy0 hy1p hu1 hUY; rw [← hxA] at this; omega))) (by kernel_rfl)) <| pkq (uN (qB - 1)) <| ppq (uN ((hi * 18446744073709551616 + lo) / y)) (exec_cast (congrArg (Value.int .u64) ((wrapU ((qA - 1) * 4294967296 + (qB - 1)) (by have g1 := dig_lt hYs hy0 hy1p hu1 hUY; have g2 := dig_lt hYs hy0 hy1p hu0 hVY; rw [← hxA] at g1; rw [← hxB] at g2; omega)).trans (congrArg (fun n : Nat => (n : Int)) (div_end hy1 hYe hsum hLs hxA hVr hxB)))) (by kernel_rfl)) <| pkq (uN Vr) <| pkq (.int .u64 (IntKind.u64.wrap (((Vr : Nat) : Int) * 4294967296))) ?_
          refine pkq (uN u0) <| pkq (.int .u64 (IntKind.u64.wrap (IntKind.u64.wrap (((Vr : Nat) : Int) * 4294967296) + ((u0 : Nat) : Int)))) <| pkq (uN (qB - 1)) <| pkq (uN Y) <| pkq (.int .u64 (IntKind.u64.wrap (((qB - 1 : Nat) : Int) * ((Y : Nat) : Int)))) <| ppq (uN ((Vr * 4294967296 + u0) % Y)) (exec_cast (congrArg (Value.int .u64) ((dig_rest hYs hy0 hy1p hu0 hVY hxB).resolve_right (by omega))) (by kernel_rfl)) <| pkq (uN s) <| ppq (uN (((Vr * 4294967296 + u0) % Y) >>> s)) (exec_binop .shr 40 169 (.tmp 132) (.tmp 133) (by kernel_rfl) (uN (((Vr * 4294967296 + u0) % Y))) (uN s) _ (by kernel_rfl) (by kernel_rfl) (by kernel_rfl) (run_shrU _ _ ((Vr * 4294967296 + u0) % Y) s (by omega))) <| pkq (uN ((hi * 18446744073709551616 + lo) / y)) <| pkq (uN (((Vr * 4294967296 + u0) % Y) >>> s)) <| ps_end <| sy_a ⟨#[uN hi, uN lo, uN Y, ud, ud, ud, uN ((hi * 18446744073709551616 + lo) / y), uN (((Vr * 4294967296 + u0) % Y) >>> s), uN s, uN y1, uN y0, uN U, uN L, uN u1, uN u0, uN (qA - 1), uN (rB + y1), uN Vr, uN (qB - 1), uN y, .bool false, ud, uN y, uN hi, .bool false, ud, uN hi, .bool false, ud, ud, ud, ud, ud, ud, uN y, iN s, uN s, uN y, uN s, uN Y, uN Y, uN y1, uN Y, uN y0, uN hi, uN s, uN ((hi <<< s) % Kec.W), uN lo, uN s, uN (64 - s), uN (lo >>> (64 - s)), uN U, uN lo, uN s, uN L, uN L, uN u1, uN L, uN u0, uN U, uN y1, uN (U / y1), uN U, uN (U / y1), uN y1, uN (U / y1 * y1), uN (U - U / y1 * y1), uN qA, .bool true, .bool true, ud, ud, ud, ud, ud, ud, ud, ud, .bool true, uN qA, uN (qA - 1), uN rA, uN y1, uN (rA + y1), uN (rA + y1), .bool true, uN U, .int .u64 (IntKind.u64.wrap (((U : Nat) : Int) * 4294967296)), uN u1, .int .u64 (IntKind.u64.wrap (IntKind.u64.wrap (((U : Nat) : Int) * 4294967296) + ((u1 : Nat) : Int))), uN (qA - 1), uN Y, .int .u64 (IntKind.u64.wrap (((qA - 1 : Nat) : Int) * ((Y : Nat) : Int))), uN Vr, uN Vr, uN y1, uN (Vr / y1), uN Vr, uN (Vr / y1), uN y1, uN (Vr / y1 * y1), uN (Vr - Vr / y1 * y1), uN qB, .bool false, .bool false, uN qB, uN y0, uN (qB * y0), uN rB, uN (4294967296 * rB), uN u0, uN (4294967296 * rB + u0), .bool true, .bool true, uN qB, uN (qB - 1), uN rB, uN y1, uN (rB + y1), uN (rB + y1), .bool true, uN (qA - 1), uN ((qA - 1) * 4294967296), uN (qB - 1), uN ((hi * 18446744073709551616 + lo) / y), uN Vr, .int .u64 (IntKind.u64.wrap (((Vr : Nat) : Int) * 4294967296)), uN u0, .int .u64 (IntKind.u64.wrap (IntKind.u64.wrap (((Vr : Nat) : Int) * 4294967296) + ((u0 : Nat) : Int))), uN (qB - 1), uN Y, .int .u64 (IntKind.u64.wrap (((qB - 1 : Nat) : Int) * ((Y : Nat) : Int))), uN ((Vr * 4294967296 + u0) % Y), uN s, uN (((Vr * 4294967296 + u0) % Y) >>> s)], []⟩ <| then_n <| u_ ?_
          refine so_ (.tuple #[.int .u64 (((hi * 18446744073709551616 + lo) / y : Nat) : Int), .int .u64 ((((Vr * 4294967296 + u0) % Y) >>> s : Nat) : Int)]) ?_
          exact ⟨_, rfl, K4⟩
        · have hxB : qB = (Vr * 4294967296 + u0) / Y := dig_done hYs hy0 hy1p hu0 hVY hd (.inl ⟨hq, hc⟩)
          refine q_ <| qr_ [0, 1, 2, 3, 4, 5, 6, 7, 8, 9, 10, 11] <| pkq (uN qB) <| ppq (.bool false) (dcf ((((qB : Nat) : Int)) ≥ ((4294967296) : Int)) (by omega)) <| pkq (.bool false) <| pkq (uN qB) <| pkq (uN y0) <| ppq (uN (qB * y0)) (exec_cast (congrArg (Value.int .u64) (wrapU (qB * y0) (mul_small hq hy0))) (by kernel_rfl)) <| pkq (uN rB) <| ppq (uN (4294967296 * rB)) (exec_cast (congrArg (Value.int .u64) (wrapU (4294967296 * rB) (by omega))) (by kernel_rfl)) <| pkq (uN u0) <| ppq (uN (4294967296 * rB + u0)) (exec_cast (congrArg (Value.int .u64) (wrapU (4294967296 * rB + u0) (by omega))) (by kernel_rfl)) <| ppq (.bool false) (dcf ((((qB * y0 : Nat) : Int)) > (((4294967296 * rB + u0 : Nat) : Int))) (by omega)) <| pkq (.bool false) ?_
          refine en_ <| sy_exit 2 (by kernel_rfl) <| then_e <| then_e <| blk_e <| tqr_ [0, 1, 2, 3, 4, 5, 6, 7, 8, 9, 10, 11, 12, 13, 14, 15] <| pkq (uN (qA - 1)) <| ppq (uN ((qA - 1) * 4294967296)) (exec_cast (congrArg (Value.int .u64) (wrapU ((qA - 1) * 4294967296) (by have := dig_lt hYs hy0 hy1p hu1 hUY; rw [← hxA] at this; omega))) (by kernel_rfl)) <| pkq (uN qB) <| ppq (uN ((hi * 18446744073709551616 + lo) / y)) (exec_cast (congrArg (Value.int .u64) ((wrapU ((qA - 1) * 4294967296 + qB) (by have g1 := dig_lt hYs hy0 hy1p hu1 hUY; have g2 := dig_lt hYs hy0 hy1p hu0 hVY; rw [← hxA] at g1; rw [← hxB] at g2; omega)).trans (congrArg (fun n : Nat => (n : Int)) (div_end hy1 hYe hsum hLs hxA hVr hxB)))) (by kernel_rfl)) <| pkq (uN Vr) <| pkq (.int .u64 (IntKind.u64.wrap (((Vr : Nat) : Int) * 4294967296))) <| pkq (uN u0) <| pkq (.int .u64 (IntKind.u64.wrap (IntKind.u64.wrap (((Vr : Nat) : Int) * 4294967296) + ((u0 : Nat) : Int)))) ?_
          refine pkq (uN qB) <| pkq (uN Y) <| pkq (.int .u64 (IntKind.u64.wrap (((qB : Nat) : Int) * ((Y : Nat) : Int)))) <| ppq (uN ((Vr * 4294967296 + u0) % Y)) (exec_cast (congrArg (Value.int .u64) ((dig_rest hYs hy0 hy1p hu0 hVY hxB).resolve_right (by omega))) (by kernel_rfl)) <| pkq (uN s) <| ppq (uN (((Vr * 4294967296 + u0) % Y) >>> s)) (exec_binop .shr 40 169 (.tmp 132) (.tmp 133) (by kernel_rfl) (uN (((Vr * 4294967296 + u0) % Y))) (uN s) _ (by kernel_rfl) (by kernel_rfl) (by kernel_rfl) (run_shrU _ _ ((Vr * 4294967296 + u0) % Y) s (by omega))) <| pkq (uN ((hi * 18446744073709551616 + lo) / y)) <| pkq (uN (((Vr * 4294967296 + u0) % Y) >>> s)) <| ps_end <| sy_a ⟨#[uN hi, uN lo, uN Y, ud, ud, ud, uN ((hi * 18446744073709551616 + lo) / y), uN (((Vr * 4294967296 + u0) % Y) >>> s), uN s, uN y1, uN y0, uN U, uN L, uN u1, uN u0, uN (qA - 1), uN rB, uN Vr, uN qB, uN y, .bool false, ud, uN y, uN hi, .bool false, ud, uN hi, .bool false, ud, ud, ud, ud, ud, ud, uN y, iN s, uN s, uN y, uN s, uN Y, uN Y, uN y1, uN Y, uN y0, uN hi, uN s, uN ((hi <<< s) % Kec.W), uN lo, uN s, uN (64 - s), uN (lo >>> (64 - s)), uN U, uN lo, uN s, uN L, uN L, uN u1, uN L, uN u0, uN U, uN y1, uN (U / y1), uN U, uN (U / y1), uN y1, uN (U / y1 * y1), uN (U - U / y1 * y1), uN qA, .bool true, .bool true, ud, ud, ud, ud, ud, ud, ud, ud, .bool true, uN qA, uN (qA - 1), uN rA, uN y1, uN (rA + y1), uN (rA + y1), .bool true, uN U, .int .u64 (IntKind.u64.wrap (((U : Nat) : Int) * 4294967296)), uN u1, .int .u64 (IntKind.u64.wrap (IntKind.u64.wrap (((U : Nat) : Int) * 4294967296) + ((u1 : Nat) : Int))), uN (qA - 1), uN Y, .int .u64 (IntKind.u64.wrap (((qA - 1 : Nat) : Int) * ((Y : Nat) : Int))), uN Vr, uN Vr, uN y1, uN (Vr / y1), uN Vr, uN (Vr / y1), uN y1, uN (Vr / y1 * y1), uN (Vr - Vr / y1 * y1), uN qB, .bool false, .bool false, uN qB, uN y0, uN (qB * y0), uN rB, uN (4294967296 * rB), uN u0, uN (4294967296 * rB + u0), .bool false, .bool false, u114, u115, u116, u117, u118, u119, u120, uN (qA - 1), uN ((qA - 1) * 4294967296), uN qB, uN ((hi * 18446744073709551616 + lo) / y), uN Vr, .int .u64 (IntKind.u64.wrap (((Vr : Nat) : Int) * 4294967296)), uN u0, .int .u64 (IntKind.u64.wrap (IntKind.u64.wrap (((Vr : Nat) : Int) * 4294967296) + ((u0 : Nat) : Int))), uN qB, uN Y, .int .u64 (IntKind.u64.wrap (((qB : Nat) : Int) * ((Y : Nat) : Int))), uN ((Vr * 4294967296 + u0) % Y), uN s, uN (((Vr * 4294967296 + u0) % Y) >>> s)], []⟩ <| then_n <| u_ <| so_ (.tuple #[.int .u64 (((hi * 18446744073709551616 + lo) / y : Nat) : Int), .int .u64 ((((Vr * 4294967296 + u0) % Y) >>> s : Nat) : Int)]) ?_
          exact ⟨_, rfl, K4⟩
    · obtain ⟨qp, hdn⟩ := dig_step hYs hy0 hy1p hu1 hUY hd (.inr hc)
      refine q_ <| qr_ [0, 1, 2, 3, 4, 5, 6, 7, 8, 9, 10, 11] <| pkq (uN qA) <| ppq (.bool false) (dcf ((((qA : Nat) : Int)) ≥ ((4294967296) : Int)) (by omega)) <| pkq (.bool false) <| pkq (uN qA) <| pkq (uN y0) <| ppq (uN (qA * y0)) (exec_cast (congrArg (Value.int .u64) (wrapU (qA * y0) (mul_small hq hy0))) (by kernel_rfl)) <| pkq (uN rA) <| ppq (uN (4294967296 * rA)) (exec_cast (congrArg (Value.int .u64) (wrapU (4294967296 * rA) (by omega))) (by kernel_rfl)) <| pkq (uN u1) <| ppq (uN (4294967296 * rA + u1)) (exec_cast (congrArg (Value.int .u64) (wrapU (4294967296 * rA + u1) (by omega))) (by kernel_rfl)) <| ppq (.bool true) (dct ((((qA * y0 : Nat) : Int)) > (((4294967296 * rA + u1 : Nat) : Int))) (by omega)) <| pkq (.bool true) ?_
      refine ey_ <| s_ <| then_n <| bl_ 1 <| qr_ [0, 1, 2] <| pkq (uN qA) <| ppq (uN (qA - 1)) (exec_cast (congrArg (Value.int .u64) (wrap_sub qA 1 qp (by omega))) (by kernel_rfl)) <| pkq (uN (qA - 1)) <| eqr_ [0, 1, 2, 3] <| pkq (uN rA) <| pkq (uN y1) <| ppq (uN (rA + y1)) (exec_cast (congrArg (Value.int .u64) (wrapU (rA + y1) (by omega))) (by kernel_rfl)) <| pkq (uN (rA + y1)) <| eqr_ [0, 1] ?_
      refine pkq (uN (rA + y1)) <| ppq (.bool false) (dcf ((((rA + y1 : Nat) : Int)) ≥ ((4294967296) : Int)) (by omega)) <| en_ <| s_ <| blk_n <| then_n ?_
      refine ⟨⟨qA - 1, rA + y1, (uN qA), (.bool false), (.bool false), (uN qA), (uN y0), (uN (qA * y0)), (uN rA), (uN (4294967296 * rA)), (uN u1), (uN (4294967296 * rA + u1)), (.bool true), (.bool true), (uN qA), (uN (qA - 1)), (uN rA), (uN y1), (uN (rA + y1)), (uN (rA + y1)), (.bool false), by kernel_rfl, hdn, by omega, by omega, K2⟩, ?_⟩
      exact lt_meas (x := qA - 1) (y := qA) (by kernel_rfl) (by kernel_rfl) (by omega)
    · obtain ⟨qp, hdn⟩ := dig_step hYs hy0 hy1p hu1 hUY hd (.inr hc)
      have hxA : qA - 1 = (U * 4294967296 + u1) / Y := dig_done hYs hy0 hy1p hu1 hUY hdn (.inr hr2)
      refine q_ <| qr_ [0, 1, 2, 3, 4, 5, 6, 7, 8, 9, 10, 11] <| pkq (uN qA) <| ppq (.bool false) (dcf ((((qA : Nat) : Int)) ≥ ((4294967296) : Int)) (by omega)) <| pkq (.bool false) <| pkq (uN qA) <| pkq (uN y0) <| ppq (uN (qA * y0)) (exec_cast (congrArg (Value.int .u64) (wrapU (qA * y0) (mul_small hq hy0))) (by kernel_rfl)) <| pkq (uN rA) <| ppq (uN (4294967296 * rA)) (exec_cast (congrArg (Value.int .u64) (wrapU (4294967296 * rA) (by omega))) (by kernel_rfl)) <| pkq (uN u1) <| ppq (uN (4294967296 * rA + u1)) (exec_cast (congrArg (Value.int .u64) (wrapU (4294967296 * rA + u1) (by omega))) (by kernel_rfl)) <| ppq (.bool true) (dct ((((qA * y0 : Nat) : Int)) > (((4294967296 * rA + u1 : Nat) : Int))) (by omega)) <| pkq (.bool true) ?_
      refine ey_ <| s_ <| then_n <| bl_ 1 <| qr_ [0, 1, 2] <| pkq (uN qA) <| ppq (uN (qA - 1)) (exec_cast (congrArg (Value.int .u64) (wrap_sub qA 1 qp (by omega))) (by kernel_rfl)) <| pkq (uN (qA - 1)) <| eqr_ [0, 1, 2, 3] <| pkq (uN rA) <| pkq (uN y1) <| ppq (uN (rA + y1)) (exec_cast (congrArg (Value.int .u64) (wrapU (rA + y1) (by omega))) (by kernel_rfl)) <| pkq (uN (rA + y1)) <| eqr_ [0, 1] ?_
      refine pkq (uN (rA + y1)) <| ppq (.bool true) (dct ((((rA + y1 : Nat) : Int)) ≥ ((4294967296) : Int)) (by omega)) <| ey_ <| sy_exit 0 (by kernel_rfl) <| blk_p (by decide) <| then_e <| blk_e <| tqr_ [0, 1, 2, 3, 4, 5, 6, 7, 8] <| pkq (uN U) <| pkq (.int .u64 (IntKind.u64.wrap (((U : Nat) : Int) * 4294967296))) <| pkq (uN u1) <| pkq (.int .u64 (IntKind.u64.wrap (IntKind.u64.wrap (((U : Nat) : Int) * 4294967296) + ((u1 : Nat) : Int)))) <| pkq (uN (qA - 1)) <| pkq (uN Y) ?_
      refine pkq (.int .u64 (IntKind.u64.wrap (((qA - 1 : Nat) : Int) * ((Y : Nat) : Int)))) <| ppq (uN Vr) (exec_cast (congrArg (Value.int .u64) (((dig_rest hYs hy0 hy1p hu1 hUY hxA).resolve_right (by omega)).trans (congrArg (fun n : Nat => (n : Int)) hVr))) (by kernel_rfl)) <| pkq (uN Vr) <| ps_end <| sy_a ⟨#[uN hi, uN lo, uN Y, ud, ud, ud, .int .u64 0, .int .u64 0, uN s, uN y1, uN y0, uN U, uN L, uN u1, uN u0, uN (qA - 1), uN (rA + y1), uN Vr, ud, uN y, .bool false, ud, uN y, uN hi, .bool false, ud, uN hi, .bool false, ud, ud, ud, ud, ud, ud, uN y, iN s, uN s, uN y, uN s, uN Y, uN Y, uN y1, uN Y, uN y0, uN hi, uN s, uN ((hi <<< s) % Kec.W), uN lo, uN s, uN (64 - s), uN (lo >>> (64 - s)), uN U, uN lo, uN s, uN L, uN L, uN u1, uN L, uN u0, uN U, uN y1, uN (U / y1), uN U, uN (U / y1), uN y1, uN (U / y1 * y1), uN (U - U / y1 * y1), uN qA, .bool false, .bool false, uN qA, uN y0, uN (qA * y0), uN rA, uN (4294967296 * rA), uN u1, uN (4294967296 * rA + u1), .bool true, .bool true, uN qA, uN (qA - 1), uN rA, uN y1, uN (rA + y1), uN (rA + y1), .bool true, uN U, .int .u64 (IntKind.u64.wrap (((U : Nat) : Int) * 4294967296)), uN u1, .int .u64 (IntKind.u64.wrap (IntKind.u64.wrap (((U : Nat) : Int) * 4294967296) + ((u1 : Nat) : Int))), uN (qA - 1), uN Y, .int .u64 (IntKind.u64.wrap (((qA - 1 : Nat) : Int) * ((Y : Nat) : Int))), uN Vr, ud, ud, ud, ud, ud, ud, ud, ud, ud, ud, ud, ud, ud, ud, ud, ud, ud, ud, ud, ud, ud, ud, ud, ud, ud, ud, ud, ud, ud, ud, ud, ud, ud, ud, ud, ud, ud, ud, ud, ud, ud], []⟩ <| tqr_ [0, 1, 2, 3] <| pkq (uN Vr) <| pkq (uN y1) <| ppq (uN (Vr / y1)) (exec_quoU 40 40 (.tmp 94) (.tmp 95) (by kernel_rfl) Vr y1 (by kernel_rfl) (by kernel_rfl) hy1p (by omega)) <| pkq (uN (Vr / y1)) <| eqr_ [0, 1, 2, 3, 4, 5] <| pkq (uN Vr) <| pkq (uN (Vr / y1)) <| pkq (uN y1) ?_
      refine ppq (uN (Vr / y1 * y1)) (exec_cast (congrArg (Value.int .u64) (wrapU (Vr / y1 * y1) (by have := Nat.div_mul_le_self Vr y1; omega))) (by kernel_rfl)) <| ppq (uN (Vr - Vr / y1 * y1)) (exec_cast (congrArg (Value.int .u64) (wrap_sub Vr (Vr / y1 * y1) (Nat.div_mul_le_self Vr y1) (by omega))) (by kernel_rfl)) <| pkq (uN (Vr - Vr / y1 * y1)) <| eq_ <| bl_ 2 ?_
      refine sy_loop (qc53_1 4194296) (fun a V => ∃ (qB : Nat) (rB : Nat) (u102 u103 u104 u105 u106 u107 u108 u109 u110 u111 u112 u113 u114 u115 u116 u117 u118 u119 u120 : Value), (a = ⟨#[uN hi, uN lo, uN Y, ud, ud, ud, .int .u64 0, .int .u64 0, uN s, uN y1, uN y0, uN U, uN L, uN u1, uN u0, uN (qA - 1), uN rB, uN Vr, uN qB, uN y, .bool false, ud, uN y, uN hi, .bool false, ud, uN hi, .bool false, ud, ud, ud, ud, ud, ud, uN y, iN s, uN s, uN y, uN s, uN Y, uN Y, uN y1, uN Y, uN y0, uN hi, uN s, uN ((hi <<< s) % Kec.W), uN lo, uN s, uN (64 - s), uN (lo >>> (64 - s)), uN U, uN lo, uN s, uN L, uN L, uN u1, uN L, uN u0, uN U, uN y1, uN (U / y1), uN U, uN (U / y1), uN y1, uN (U / y1 * y1), uN (U - U / y1 * y1), uN qA, .bool false, .bool false, uN qA, uN y0, uN (qA * y0), uN rA, uN (4294967296 * rA), uN u1, uN (4294967296 * rA + u1), .bool true, .bool true, uN qA, uN (qA - 1), uN rA, uN y1, uN (rA + y1), uN (rA + y1), .bool true, uN U, .int .u64 (IntKind.u64.wrap (((U : Nat) : Int) * 4294967296)), uN u1, .int .u64 (IntKind.u64.wrap (IntKind.u64.wrap (((U : Nat) : Int) * 4294967296) + ((u1 : Nat) : Int))), uN (qA - 1), uN Y, .int .u64 (IntKind.u64.wrap (((qA - 1 : Nat) : Int) * ((Y : Nat) : Int))), uN Vr, uN Vr, uN y1, uN (Vr / y1), uN Vr, uN (Vr / y1), uN y1, uN (Vr / y1 * y1), uN (Vr - Vr / y1 * y1), u102, u103, u104, u105, u106, u107, u108, u109, u110, u111, u112, u113, u114, u115, u116, u117, u118, u119, u120, ud, ud, ud, ud, ud, ud, ud, ud, ud, ud, ud, ud, ud, ud], []⟩) ∧ (Dig Vr Y y1 u0 qB rB) ∧ (qB < 18446744073709551616) ∧ (rB < 4294967296) ∧ (Keeps Nob w V)) (fun a _ => (intOf (a.tmps.getD 18 undef)).toNat) (by kernel_rfl) ?_ ?_
      · exact ⟨Vr / y1, Vr - Vr / y1 * y1, undef, undef, undef, undef, undef, undef, undef, undef, undef, undef, undef, undef, undef, undef, undef, undef, undef, undef, undef, by kernel_rfl, dig_init hYs hy0 hy1p hu0 hVY, by have := Nat.div_le_self Vr y1; omega, rem_small hy1p hy1l, K2⟩
      · rintro a V5 ⟨qB, rB, u102, u103, u104, u105, u106, u107, u108, u109, u110, u111, u112, u113, u114, u115, u116, u117, u118, u119, u120, rfl, hd, hql, hr, K6⟩
        rcases dig_cases qB rB y0 y1 u0 with ⟨hq, hr2⟩ | ⟨hq, hr2⟩ | ⟨hq, hc, hr2⟩ | ⟨hq, hc, hr2⟩ | ⟨hq, hc⟩
        · obtain ⟨qp, hdn⟩ := dig_step hYs hy0 hy1p hu0 hVY hd (.inl hq)
          refine q_ <| qr_ [0, 1, 2, 3, 4, 5, 6, 7, 8, 9, 10, 11] <| pkq (uN qB) <| ppq (.bool true) (dct ((((qB : Nat) : Int)) ≥ ((4294967296) : Int)) (by omega)) <| pkq (.bool true) <| pnq <| pnq <| pnq <| pnq <| pnq <| pnq <| pnq <| pnq <| pkq (.bool true) ?_
          refine ey_ <| s_ <| then_n <| bl_ 3 <| qr_ [0, 1, 2] <| pkq (uN qB) <| ppq (uN (qB - 1)) (exec_cast (congrArg (Value.int .u64) (wrap_sub qB 1 qp (by omega))) (by kernel_rfl)) <| pkq (uN (qB - 1)) <| eqr_ [0, 1, 2, 3] <| pkq (uN rB) <| pkq (uN y1) <| ppq (uN (rB + y1)) (exec_cast (congrArg (Value.int .u64) (wrapU (rB + y1) (by omega))) (by kernel_rfl)) <| pkq (uN (rB + y1)) <| eqr_ [0, 1] ?_
          refine pkq (uN (rB + y1)) <| ppq (.bool false) (dcf ((((rB + y1 : Nat) : Int)) ≥ ((4294967296) : Int)) (by omega)) <| en_ <| s_ <| blk_n <| then_n ?_
          refine ⟨⟨qB - 1, rB + y1, (uN qB), (.bool true), (.bool true), undef, undef, undef, undef, undef, undef, undef, undef, (.bool true), (uN qB), (uN (qB - 1)), (uN rB), (uN y1), (uN (rB + y1)), (uN (rB + y1)), (.bool false), by kernel_rfl, hdn, by omega, by omega, K6⟩, ?_⟩
          exact lt_meas (x := qB - 1) (y := qB) (by kernel_rfl) (by kernel_rfl) (by omega)
        · obtain ⟨qp, hdn⟩ := dig_step hYs hy0 hy1p hu0 hVY hd (.inl hq)
          have hxB : qB - 1 = (Vr * 4294967296 + u0) / Y := dig_done hYs hy0 hy1p hu0 hVY hdn (.inr hr2)
          refine q_ <| qr_ [0, 1, 2, 3, 4, 5, 6, 7, 8, 9, 10, 11] <| pkq (uN qB) <| ppq (.bool true) (dct ((((qB : Nat) : Int)) ≥ ((4294967296) : Int)) (by omega)) <| pkq (.bool true) <| pnq <| pnq <| pnq <| pnq <| pnq <| pnq <| pnq <| pnq <| pkq (.bool true) ?_
          refine ey_ <| s_ <| then_n <| bl_ 3 <| qr_ [0, 1, 2] <| pkq (uN qB) <| ppq (uN (qB - 1)) (exec_cast (congrArg (Value.int .u64) (wrap_sub qB 1 qp (by omega))) (by kernel_rfl)) <| pkq (uN (qB - 1)) <| eqr_ [0, 1, 2, 3] <| pkq (uN rB) <| pkq (uN y1) <| ppq (uN (rB + y1)) (exec_cast (congrArg (Value.int .u64) (wrapU (rB + y1) (by omega))) (by kernel_rfl)) <| pkq (uN (rB + y1)) <| eqr_ [0, 1] ?_
          refine pkq (uN (rB + y1)) <| ppq (.bool true) (dct ((((rB + y1 : Nat) : Int)) ≥ ((4294967296) : Int)) (by omega)) <| ey_ <| sy_exit 2 (by kernel_rfl) <| blk_p (by decide) <| then_e <| blk_e <| tqr_ [0, 1, 2, 3, 4, 5, 6, 7, 8, 9, 10, 11, 12, 13, 14, 15] <| pkq (uN (qA - 1)) <| ppq (uN ((qA - 1) * 4294967296)) (exec_cast (congrArg (Value.int .u64) (wrapU ((qA - 1) * 4294967296) (by have := dig_lt hYs hy0 hy1p hu1 hUY; rw [← hxA] at this; omega))) (by kernel_rfl)) <| pkq (uN (qB - 1)) <| ppq (uN ((hi * 18446744073709551616 + lo) / y)) (exec_cast (congrArg (Value.int .u64) ((wrapU ((qA - 1) * 4294967296 + (qB - 1)) (by have g1 := dig_lt hYs hy0 hy1p hu1 hUY; have g2 := dig_lt hYs hy0 hy1p hu0 hVY; rw [← hxA] at g1; rw [← hxB] at g2; omega)).trans (congrArg (fun n : Nat => (n : Int)) (div_end hy1 hYe hsum hLs hxA hVr hxB)))) (by kernel_rfl)) <| pkq (uN Vr) <| pkq (.int .u64 (IntKind.u64.wrap (((Vr : Nat) : Int) * 4294967296))) ?_
          refine pkq (uN u0) <| pkq (.int .u64 (IntKind.u64.wrap (IntKind.u64.wrap (((Vr : Nat) : Int) * 4294967296) + ((u0 : Nat) : Int)))) <| pkq (uN (qB - 1)) <| pkq (uN Y) <| pkq (.int .u64 (IntKind.u64.wrap (((qB - 1 : Nat) : Int) * ((Y : Nat) : Int)))) <| ppq (uN ((Vr * 4294967296 + u0) % Y)) (exec_cast (congrArg (Value.int .u64) ((dig_rest hYs hy0 hy1p hu0 hVY hxB).resolve_right (by omega))) (by kernel_rfl)) <| pkq (uN s) <| ppq (uN (((Vr * 4294967296 + u0) % Y) >>> s)) (exec_binop .shr 40 169 (.tmp 132) (.tmp 133) (by kernel_rfl) (uN (((Vr * 4294967296 + u0) % Y))) (uN s) _ (by kernel_rfl) (by kernel_rfl) (by kernel_rfl) (run_shrU _ _ ((Vr * 4294967296 + u0) % Y) s (by omega))) <| pkq (uN ((hi * 18446744073709551616 + lo) / y)) <| pkq (uN (((Vr * 4294967296 + u0) % Y) >>> s)) <| ps_end <| sy_a ⟨#[uN hi, uN lo, uN Y, ud, ud, ud, uN ((hi * 18446744073709551616 + lo) / y), uN (((Vr * 4294967296 + u0) % Y) >>> s), uN s, uN y1, uN y0, uN U, uN L, uN u1, uN u0, uN (qA - 1), uN (rB + y1), uN Vr, uN (qB - 1), uN y, .bool false, ud, uN y, uN hi, .bool false, ud, uN hi, .bool false, ud, ud, ud, ud, ud, ud, uN y, iN s, uN s, uN y, uN s, uN Y, uN Y, uN y1, uN Y, uN y0, uN hi, uN s, uN ((hi <<< s) % Kec.W), uN lo, uN s, uN (64 - s), uN (lo >>> (64 - s)), uN U, uN lo, uN s, uN L, uN L, uN u1, uN L, uN u0, uN U, uN y1, uN (U / y1), uN U, uN (U / y1), uN y1, uN (U / y1 * y1), uN (U - U / y1 * y1), uN qA, .bool false, .bool false, uN qA, uN y0, uN (qA * y0), uN rA, uN (4294967296 * rA), uN u1, uN (4294967296 * rA + u1), .bool true, .bool true, uN qA, uN (qA - 1), uN rA, uN y1, uN (rA + y1), uN (rA + y1), .bool true, uN U, .int .u64 (IntKind.u64.wrap (((U : Nat) : Int) * 4294967296)), uN u1, .int .u64 (IntKind.u64.wrap (IntKind.u64.wrap (((U : Nat) : Int) * 4294967296) + ((u1 : Nat) : Int))), uN (qA - 1), uN Y, .int .u64 (IntKind.u64.wrap (((qA - 1 : Nat) : Int) * ((Y : Nat) : Int))), uN Vr, uN Vr, uN y1, uN (Vr / y1), uN Vr, uN (Vr / y1), uN y1, uN (Vr / y1 * y1), uN (Vr - Vr / y1 * y1), uN qB, .bool true, .bool true, ud, ud, ud, ud, ud, ud, ud, ud, .bool true, uN qB, uN (qB - 1), uN rB, uN y1, uN (rB + y1), uN (rB + y1), .bool true, uN (qA - 1), uN ((qA - 1) * 4294967296), uN (qB - 1), uN ((hi * 18446744073709551616 + lo) / y), uN Vr, .int .u64 (IntKind.u64.wrap (((Vr : Nat) : Int) * 4294967296)), uN u0, .int .u64 (IntKind.u64.wrap (IntKind.u64.wrap (((Vr : Nat) : Int) * 4294967296) + ((u0 : Nat) : Int))), uN (qB - 1), uN Y, .int .u64 (IntKind.u64.wrap (((qB - 1 : Nat) : Int) * ((Y : Nat) : Int))), uN ((Vr * 4294967296 + u0) % Y), uN s, uN (((Vr * 4294967296 + u0) % Y) >>> s)], []⟩ <| then_n <| u_ ?_
          refine so_ (.tuple #[.int .u64 (((hi * 18446744073709551616 + lo) / y : Nat) : Int), .int .u64 ((((Vr * 4294967296 + u0) % Y) >>> s : Nat) : Int)]) ?_
          exact ⟨_, rfl, K6⟩
        · obtain ⟨qp, hdn⟩ := dig_step hYs hy0 hy1p hu0 hVY hd (.inr hc)
          refine q_ <| qr_ [0, 1, 2, 3, 4, 5, 6, 7, 8, 9, 10, 11] <| pkq (uN qB) <| ppq (.bool false) (dcf ((((qB : Nat) : Int)) ≥ ((4294967296) : Int)) (by omega)) <| pkq (.bool false) <| pkq (uN qB) <| pkq (uN y0) <| ppq (uN (qB * y0)) (exec_cast (congrArg (Value.int .u64) (wrapU (qB * y0) (mul_small hq hy0))) (by kernel_rfl)) <| pkq (uN rB) <| ppq (uN (4294967296 * rB)) (exec_cast (congrArg (Value.int .u64) (wrapU (4294967296 * rB) (by omega))) (by kernel_rfl)) <| pkq (uN u0) <| ppq (uN (4294967296 * rB + u0)) (exec_cast (congrArg (Value.int .u64) (wrapU (4294967296 * rB + u0) (by omega))) (by kernel_rfl)) <| ppq (.bool true) (dct ((((qB * y0 : Nat) : Int)) > (((4294967296 * rB + u0 : Nat) : Int))) (by omega)) <| pkq (.bool true) ?_
          refine ey_ <| s_ <| then_n <| bl_ 3 <| qr_ [0, 1, 2] <| pkq (uN qB) <| ppq (uN (qB - 1)) (exec_cast (congrArg (Value.int .u64) (wrap_sub qB 1 qp (by omega))) (by kernel_rfl)) <| pkq (uN (qB - 1)) <| eqr_ [0, 1, 2, 3] <| pkq (uN rB) <| pkq (uN y1) <| ppq (uN (rB + y1)) (exec_cast (congrArg (Value.int .u64) (wrapU (rB + y1) (by omega))) (by kernel_rfl)) <| pkq (uN (rB + y1)) <| eqr_ [0, 1] ?_
          refine pkq (uN (rB + y1)) <| ppq (.bool false) (dcf ((((rB + y1 : Nat) : Int)) ≥ ((4294967296) : Int)) (by omega)) <| en_ <| s_ <| blk_n <| then_n ?_
          refine ⟨⟨qB - 1, rB + y1, (uN qB), (.bool false), (.bool false), (uN qB), (uN y0), (uN (qB * y0)), (uN rB), (uN (4294967296 * rB)), (uN u0), (uN (4294967296 * rB + u0)), (.bool true), (.bool true), (uN qB), (uN (qB - 1)), (uN rB), (uN y1), (uN (rB + y1)), (uN (rB + y1)), (.bool false), by kernel_rfl, hdn, by omega, by omega, K6⟩, ?_⟩
          exact lt_meas (x := qB - 1) (y := qB) (by kernel_rfl) (by kernel_rfl) (by omega)
        · obtain ⟨qp, hdn⟩ := dig_step hYs hy0 hy1p hu0 hVY hd (.inr hc)
          have hxB : qB - 1 = (Vr * 4294967296 + u0) / Y := dig_done hYs hy0 hy1p hu0 hVY hdn (.inr hr2)
          refine q_ <| qr_ [0, 1, 2, 3, 4, 5, 6, 7, 8, 9, 10, 11] <| pkq (uN qB) <| ppq (.bool false) (dcf ((((qB : Nat) : Int)) ≥ ((4294967296) : Int)) (by omega)) <| pkq (.bool false) <| pkq (uN qB) <| pkq (uN y0) <| ppq (uN (qB * y0)) (exec_cast (congrArg (Value.int .u64) (wrapU (qB * y0) (mul_small hq hy0))) (by kernel_rfl)) <| pkq (uN rB) <| ppq (uN (4294967296 * rB)) (exec_cast (congrArg (Value.int .u64) (wrapU (4294967296 * rB) (by omega))) (by kernel_rfl)) <| pkq (uN u0) <| ppq (uN (4294967296 * rB + u0)) (exec_cast (congrArg (Value.int .u64) (wrapU (4294967296 * rB + u0) (by omega))) (by kernel_rfl)) <| ppq (.bool true) (dct ((((qB * y0 : Nat) : Int)) > (((4294967296 * rB + u0 : Nat) : Int))) (by omega)) <| pkq (.bool true) ?_
          refine ey_ <| s_ <| then_n <| bl_ 3 <| qr_ [0, 1, 2] <| pkq (uN qB) <| ppq (uN (qB - 1)) (exec_cast (congrArg (Value.int .u64) (wrap_sub qB 1 qp (by omega))) (by kernel_rfl)) <| pkq (uN (qB - 1)) <| eqr_ [0, 1, 2, 3] <| pkq (uN rB) <| pkq (uN y1) <| ppq (uN (rB + y1)) (exec_cast (congrArg (Value.int .u64) (wrapU (rB + y1) (by omega))) (by kernel_rfl)) <| pkq (uN (rB + y1)) <| eqr_ [0, 1] ?_
          refine pkq (uN (rB + y1)) <| ppq (.bool true) (dct ((((rB + y1 : Nat) : Int)) ≥ ((4294967296) : Int)) (by omega)) <| ey_ <| sy_exit 2 (by kernel_rfl) <| blk_p (by decide) <| then_e <| blk_e <| tqr_ [0, 1, 2, 3, 4, 5, 6, 7, 8, 9, 10, 11, 12, 13, 14, 15] <| pkq (uN (qA - 1)) <| ppq (uN ((qA - 1) * 4294967296)) (exec_cast (congrArg (Value.int .u64) (wrapU ((qA - 1) * 4294967296) (by have := dig_lt hYs hy0 hy1p hu1 hUY; rw [← hxA] at this; omega))) (by kernel_rfl)) <| pkq (uN (qB - 1)) <| ppq (uN ((hi * 18446744073709551616 + lo) / y)) (exec_cast (congrArg (Value.int .u64) ((wrapU ((qA - 1) * 4294967296 + (qB - 1)) (by have g1 := dig_lt hYs hy0 hy1p hu1 hUY; have g2 := dig_lt hYs hy0 hy1p hu0 hVY; rw [← hxA] at g1; rw [← hxB] at g2; omega)).trans (congrArg (fun n : Nat => (n : Int)) (div_end hy1 hYe hsum hLs hxA hVr hxB)))) (by kernel_rfl)) <| pkq (uN Vr) <| pkq (.int .u64 (IntKind.u64.wrap (((Vr : Nat) : Int) * 4294967296))) ?_
          refine pkq (uN u0) <| pkq (.int .u64 (IntKind.u64.wrap (IntKind.u64.wrap (((Vr : Nat) : Int) * 4294967296) + ((u0 : Nat) : Int)))) <| pkq (uN (qB - 1)) <| pkq (uN Y) <| pkq (.int .u64 (IntKind.u64.wrap (((qB - 1 : Nat) : Int) * ((Y : Nat) : Int)))) <| ppq (uN ((Vr * 4294967296 + u0) % Y)) (exec_cast (congrArg (Value.int .u64) ((dig_rest hYs hy0 hy1p hu0 hVY hxB).resolve_right (by omega))) (by kernel_rfl)) <| pkq (uN s) <| ppq (uN (((Vr * 4294967296 + u0) % Y) >>> s)) (exec_binop .shr 40 169 (.tmp 132) (.tmp 133) (by kernel_rfl) (uN (((Vr * 4294967296 + u0) % Y))) (uN s) _ (by kernel_rfl) (by kernel_rfl) (by kernel_rfl) (run_shrU _ _ ((Vr * 4294967296 + u0) % Y) s (by omega))) <| pkq (uN ((hi * 18446744073709551616 + lo) / y)) <| pkq (uN (((Vr * 4294967296 + u0) % Y) >>> s)) <| ps_end <| sy_a ⟨#[uN hi, uN lo, uN Y, ud, ud, ud, uN ((hi * 18446744073709551616 + lo) / y), uN (((Vr * 4294967296 + u0) % Y) >>> s), uN s, uN y1, uN y0, uN U, uN L, uN u1, uN u0, uN (qA - 1), uN (rB + y1), uN Vr, uN (qB - 1), uN y, .bool false, ud, uN y, uN hi, .bool false, ud, uN hi, .bool false, ud, ud, ud, ud, ud, ud, uN y, iN s, uN s, uN y, uN s, uN Y, uN Y, uN y1, uN Y, uN y0, uN hi, uN s, uN ((hi <<< s) % Kec.W), uN lo, uN s, uN (64 - s), uN (lo >>> (64 - s)), uN U, uN lo, uN s, uN L, uN L, uN u1, uN L, uN u0, uN U, uN y1, uN (U / y1), uN U, uN (U / y1), uN y1, uN (U / y1 * y1), uN (U - U / y1 * y1), uN qA, .bool false, .bool false, uN qA, uN y0, uN (qA * y0), uN rA, uN (4294967296 * rA), uN u1, uN (4294967296 * rA + u1), .bool true, .bool true, uN qA, uN (qA - 1), uN rA, uN y1, uN (rA + y1), uN (rA + y1), .bool true, uN U, .int .u64 (IntKind.u64.wrap (((U : Nat) : Int) * 4294967296)), uN u1, .int .u64 (IntKind.u64.wrap (IntKind.u64.wrap (((U : Nat) : Int) * 4294967296) + ((u1 : Nat) : Int))), uN (qA - 1), uN Y, .int .u64 (IntKind.u64.wrap (((qA - 1 : Nat) : Int) * ((Y : Nat) : Int))), uN Vr, uN Vr, uN y1, uN (Vr / y1), uN Vr, uN (Vr / y1), uN y1, uN (Vr / y1 * y1), uN (Vr - Vr / y1 * y1), uN qB, .bool false, .bool false, uN qB, uN y0, uN (qB * y0), uN rB, uN (4294967296 * rB), uN u0, uN (4294967296 * rB + u0), .bool true, .bool true, uN qB, uN (qB - 1), uN rB, uN y1, uN (rB + y1), uN (rB + y1), .bool true, uN (qA - 1), uN ((qA - 1) * 4294967296), uN (qB - 1), uN ((hi * 18446744073709551616 + lo) / y), uN Vr, .int .u64 (IntKind.u64.wrap (((Vr : Nat) : Int) * 4294967296)), uN u0, .int .u64 (IntKind.u64.wrap (IntKind.u64.wrap (((Vr : Nat) : Int) * 4294967296) + ((u0 : Nat) : Int))), uN (qB - 1), uN Y, .int .u64 (IntKind.u64.wrap (((qB - 1 : Nat) : Int) * ((Y : Nat) : Int))), uN ((Vr * 4294967296 + u0) % Y), uN s, uN (((Vr * 4294967296 + u0) % Y) >>> s)], []⟩ <| then_n <| u_ ?_
          refine so_ (.tuple #[.int .u64 (((hi * 18446744073709551616 + lo) / y : Nat) : Int), .int .u64 ((((Vr * 4294967296 + u0) % Y) >>> s : Nat) : Int)]) ?_
          exact ⟨_, rfl, K6⟩
        · have hxB : qB = (Vr * 4294967296 + u0) / Y := dig_done hYs hy0 hy1p hu0 hVY hd (.inl ⟨hq, hc⟩)
          refine q_ <| qr_ [0, 1, 2, 3, 4, 5, 6, 7, 8, 9, 10, 11] <| pkq (uN qB) <| ppq (.bool false) (dcf ((((qB : Nat) : Int)) ≥ ((4294967296) : Int)) (by omega)) <| pkq (.bool false) <| pkq (uN qB) <| pkq (uN y0) <| ppq (uN (qB * y0)) (exec_cast (congrArg (Value.int .u64) (wrapU (qB * y0) (mul_small hq hy0))) (by kernel_rfl)) <| pkq (uN rB) <| ppq (uN (4294967296 * rB)) (exec_cast (congrArg (Value.int .u64) (wrapU (4294967296 * rB) (by omega))) (by kernel_rfl)) <| pkq (uN u0) <| ppq (uN (4294967296 * rB + u0)) (exec_cast (congrArg (Value.int .u64) (wrapU (4294967296 * rB + u0) (by omega))) (by kernel_rfl)) <| ppq (.bool false) (dcf ((((qB * y0 : Nat) : Int)) > (((4294967296 * rB + u0 : Nat) : Int))) (by omega)) <| pkq (.bool false) ?_
          refine en_ <| sy_exit 2 (by kernel_rfl) <| then_e <| then_e <| blk_e <| tqr_ [0, 1, 2, 3, 4, 5, 6, 7, 8, 9, 10, 11, 12, 13, 14, 15] <| pkq (uN (qA - 1)) <| ppq (uN ((qA - 1) * 4294967296)) (exec_cast (congrArg (Value.int .u64) (wrapU ((qA - 1) * 4294967296) (by have := dig_lt hYs hy0 hy1p hu1 hUY; rw [← hxA] at this; omega))) (by kernel_rfl)) <| pkq (uN qB) <| ppq (uN ((hi * 18446744073709551616 + lo) / y)) (exec_cast (congrArg (Value.int .u64) ((wrapU ((qA - 1) * 4294967296 + qB) (by have g1 := dig_lt hYs hy0 hy1p hu1 hUY; have g2 := dig_lt hYs hy0 hy1p hu0 hVY; rw [← hxA] at g1; rw [← hxB] at g2; omega)).trans (congrArg (fun n : Nat => (n : Int)) (div_end hy1 hYe hsum hLs hxA hVr hxB)))) (by kernel_rfl)) <| pkq (uN Vr) <| pkq (.int .u64 (IntKind.u64.wrap (((Vr : Nat) : Int) * 4294967296))) <| pkq (uN u0) <| pkq (.int .u64 (IntKind.u64.wrap (IntKind.u64.wrap (((Vr : Nat) : Int) * 4294967296) + ((u0 : Nat) : Int)))) ?_
          refine pkq (uN qB) <| pkq (uN Y) <| pkq (.int .u64 (IntKind.u64.wrap (((qB : Nat) : Int) * ((Y : Nat) : Int)))) <| ppq (uN ((Vr * 4294967296 + u0) % Y)) (exec_cast (congrArg (Value.int .u64) ((dig_rest hYs hy0 hy1p hu0 hVY hxB).resolve_right (by omega))) (by kernel_rfl)) <| pkq (uN s) <| ppq (uN (((Vr * 4294967296 + u0) % Y) >>> s)) (exec_binop .shr 40 169 (.tmp 132) (.tmp 133) (by kernel_rfl) (uN (((Vr * 4294967296 + u0) % Y))) (uN s) _ (by kernel_rfl) (by kernel_rfl) (by kernel_rfl) (run_shrU _ _ ((Vr * 4294967296 + u0) % Y) s (by omega))) <| pkq (uN ((hi * 18446744073709551616 + lo) / y)) <| pkq (uN (((Vr * 4294967296 + u0) % Y) >>> s)) <| ps_end <| sy_a ⟨#[uN hi, uN lo, uN Y, ud, ud, ud, uN ((hi * 18446744073709551616 + lo) / y), uN (((Vr * 4294967296 + u0) % Y) >>> s), uN s, uN y1, uN y0, uN U, uN L, uN u1, uN u0, uN (qA - 1), uN rB, uN Vr, uN qB, uN y, .bool false, ud, uN y, uN hi, .bool false, ud, uN hi, .bool false, ud, ud, ud, ud, ud, ud, uN y, iN s, uN s, uN y, uN s, uN Y, uN Y, uN y1, uN Y, uN y0, uN hi, uN s, uN ((hi <<< s) % Kec.W), uN lo, uN s, uN (64 - s), uN (lo >>> (64 - s)), uN U, uN lo, uN s, uN L, uN L, uN u1, uN L, uN u0, uN U, uN y1, uN (U / y1), uN U, uN (U / y1), uN y1, uN (U / y1 * y1), uN (U - U / y1 * y1), uN qA, .bool false, .bool false, uN qA, uN y0, uN (qA * y0), uN rA, uN (4294967296 * rA), uN u1, uN (4294967296 * rA + u1), .bool true, .bool true, uN qA, uN (qA - 1), uN rA, uN y1, uN (rA + y1), uN (rA + y1), .bool true, uN U, .int .u64 (IntKind.u64.wrap (((U : Nat) : Int) * 4294967296)), uN u1, .int .u64 (IntKind.u64.wrap (IntKind.u64.wrap (((U : Nat) : Int) * 4294967296) + ((u1 : Nat) : Int))), uN (qA - 1), uN Y, .int .u64 (IntKind.u64.wrap (((qA - 1 : Nat) : Int) * ((Y : Nat) : Int))), uN Vr, uN Vr, uN y1, uN (Vr / y1), uN Vr, uN (Vr / y1), uN y1, uN (Vr / y1 * y1), uN (Vr - Vr / y1 * y1), uN qB, .bool false, .bool false, uN qB, uN y0, uN (qB * y0), uN rB, uN (4294967296 * rB), uN u0, uN (4294967296 * rB + u0), .bool false, .bool false, u114, u115, u116, u117, u118, u119, u120, uN (qA - 1), uN ((qA - 1) * 4294967296), uN qB, uN ((hi * 18446744073709551616 + lo) / y), uN Vr, .int .u64 (IntKind.u64.wrap (((Vr : Nat) : Int) * 4294967296)), uN u0, .int .u64 (IntKind.u64.wrap (IntKind.u64.wrap (((Vr : Nat) : Int) * 4294967296) + ((u0 : Nat) : Int))), uN qB, uN Y, .int .u64 (IntKind.u64.wrap (((qB : Nat) : Int) * ((Y : Nat) : Int))), uN ((Vr * 4294967296 + u0) % Y), uN s, uN (((Vr * 4294967296 + u0) % Y) >>> s)], []⟩ <| then_n <| u_ <| so_ (.tuple #[.int .u64 (((hi * 18446744073709551616 + lo) / y : Nat) : Int), .int .u64 ((((Vr * 4294967296 + u0) % Y) >>> s : Nat) : Int)]) ?_
          exact ⟨_, rfl, K6⟩
    · have hxA : qA = (U * 4294967296 + u1) / Y := dig_done hYs hy0 hy1p hu1 hUY hd (.inl ⟨hq, hc⟩)
      refine q_ <| qr_ [0, 1, 2, 3, 4, 5, 6, 7, 8, 9, 10, 11] <| pkq (uN qA) <| ppq (.bool false) (dcf ((((qA : Nat) : Int)) ≥ ((4294967296) : Int)) (by omega)) <| pkq (.bool false) <| pkq (uN qA) <| pkq (uN y0) <| ppq (uN (qA * y0)) (exec_cast (congrArg (Value.int .u64) (wrapU (qA * y0) (mul_small hq hy0))) (by kernel_rfl)) <| pkq (uN rA) <| ppq (uN (4294967296 * rA)) (exec_cast (congrArg (Value.int .u64) (wrapU (4294967296 * rA) (by omega))) (by kernel_rfl)) <| pkq (uN u1) <| ppq (uN (4294967296 * rA + u1)) (exec_cast (congrArg (Value.int .u64) (wrapU (4294967296 * rA + u1) (by omega))) (by kernel_rfl)) <| ppq (.bool false) (dcf ((((qA * y0 : Nat) : Int)) > (((4294967296 * rA + u1 : Nat) : Int))) (by omega)) <| pkq (.bool false) ?_
      refine en_ <| sy_exit 0 (by kernel_rfl) <| then_e <| then_e <| blk_e <| tqr_ [0, 1, 2, 3, 4, 5, 6, 7, 8] <| pkq (uN U) <| pkq (.int .u64 (IntKind.u64.wrap (((U : Nat) : Int) * 4294967296))) <| pkq (uN u1) <| pkq (.int .u64 (IntKind.u64.wrap (IntKind.u64.wrap (((U : Nat) : Int) * 4294967296) + ((u1 : Nat) : Int)))) <| pkq (uN qA) <| pkq (uN Y) <| pkq (.int .u64 (IntKind.u64.wrap (((qA : Nat) : Int) * ((Y : Nat) : Int)))) <| ppq (uN Vr) (exec_cast (congrArg (Value.int .u64) (((dig_rest hYs hy0 hy1p hu1 hUY hxA).resolve_right (by omega)).trans (congrArg (fun n : Nat => (n : Int)) hVr))) (by kernel_rfl)) ?_
      refine pkq (uN Vr) <| eqr_ [0, 1, 2, 3] <| pkq (uN Vr) <| pkq (uN y1) <| ppq (uN (Vr / y1)) (exec_quoU 40 40 (.tmp 94) (.tmp 95) (by kernel_rfl) Vr y1 (by kernel_rfl) (by kernel_rfl) hy1p (by omega)) <| pkq (uN (Vr / y1)) <| ps_end <| sy_a ⟨#[uN hi, uN lo, uN Y, ud, ud, ud, .int .u64 0, .int .u64 0, uN s, uN y1, uN y0, uN U, uN L, uN u1, uN u0, uN qA, uN rA, uN Vr, uN (Vr / y1), uN y, .bool false, ud, uN y, uN hi, .bool false, ud, uN hi, .bool false, ud, ud, ud, ud, ud, ud, uN y, iN s, uN s, uN y, uN s, uN Y, uN Y, uN y1, uN Y, uN y0, uN hi, uN s, uN ((hi <<< s) % Kec.W), uN lo, uN s, uN (64 - s), uN (lo >>> (64 - s)), uN U, uN lo, uN s, uN L, uN L, uN u1, uN L, uN u0, uN U, uN y1, uN (U / y1), uN U, uN (U / y1), uN y1, uN (U / y1 * y1), uN (U - U / y1 * y1), uN qA, .bool false, .bool false, uN qA, uN y0, uN (qA * y0), uN rA, uN (4294967296 * rA), uN u1, uN (4294967296 * rA + u1), .bool false, .bool false, u79, u80, u81, u82, u83, u84, u85, uN U, .int .u64 (IntKind.u64.wrap (((U : Nat) : Int) * 4294967296)), uN u1, .int .u64 (IntKind.u64.wrap (IntKind.u64.wrap (((U : Nat) : Int) * 4294967296) + ((u1 : Nat) : Int))), uN qA, uN Y, .int .u64 (IntKind.u64.wrap (((qA : Nat) : Int) * ((Y : Nat) : Int))), uN Vr, uN Vr, uN y1, uN (Vr / y1), ud, ud, ud, ud, ud, ud, ud, ud, ud, ud, ud, ud, ud, ud, ud, ud, ud, ud, ud, ud, ud, ud, ud, ud, ud, ud, ud, ud, ud, ud, ud, ud, ud, ud, ud, ud, ud, ud], []⟩ <| tqr_ [0, 1, 2, 3, 4, 5] <| pkq (uN Vr) <| pkq (uN (Vr / y1)) <| pkq (uN y1) <| ppq (uN (Vr / y1 * y1)) (exec_cast (congrArg (Value.int .u64) (wrapU (Vr / y1 * y1) (by have := Nat.div_mul_le_self Vr y1; omega))) (by kernel_rfl)) <| ppq (uN (Vr - Vr / y1 * y1)) (exec_cast (congrArg (Value.int .u64) (wrap_sub Vr (Vr / y1 * y1) (Nat.div_mul_le_self Vr y1) (by omega))) (by kernel_rfl)) ?_
      refine pkq (uN (Vr - Vr / y1 * y1)) <| eq_ <| bl_ 2 ?_
      refine sy_loop (qc53_1 4194296) (fun a V => ∃ (qB : Nat) (rB : Nat) (u102 u103 u104 u105 u106 u107 u108 u109 u110 u111 u112 u113 u114 u115 u116 u117 u118 u119 u120 : Value), (a = ⟨#[uN hi, uN lo, uN Y, ud, ud, ud, .int .u64 0, .int .u64 0, uN s, uN y1, uN y0, uN U, uN L, uN u1, uN u0, uN qA, uN rB, uN Vr, uN qB, uN y, .bool false, ud, uN y, uN hi, .bool false, ud, uN hi, .bool false, ud, ud, ud, ud, ud, ud, uN y, iN s, uN s, uN y, uN s, uN Y, uN Y, uN y1, uN Y, uN y0, uN hi, uN s, uN ((hi <<< s) % Kec.W), uN lo, uN s, uN (64 - s), uN (lo >>> (64 - s)), uN U, uN lo, uN s, uN L, uN L, uN u1, uN L, uN u0, uN U, uN y1, uN (U / y1), uN U, uN (U / y1), uN y1, uN (U / y1 * y1), uN (U - U / y1 * y1), uN qA, .bool false, .bool false, uN qA, uN y0, uN (qA * y0), uN rA, uN (4294967296 * rA), uN u1, uN (4294967296 * rA + u1), .bool false, .bool false, u79, u80, u81, u82, u83, u84, u85, uN U, .int .u64 (IntKind.u64.wrap (((U : Nat) : Int) * 4294967296)), uN u1, .int .u64 (IntKind.u64.wrap (IntKind.u64.wrap (((U : Nat) : Int) * 4294967296) + ((u1 : Nat) : Int))), uN qA, uN Y, .int .u64 (IntKind.u64.wrap (((qA : Nat) : Int) * ((Y : Nat) : Int))), uN Vr, uN Vr, uN y1, uN (Vr / y1), uN Vr, uN (Vr / y1), uN y1, uN (Vr / y1 * y1), uN (Vr - Vr / y1 * y1), u102, u103, u104, u105, u106, u107, u108, u109, u110, u111, u112, u113, u114, u115, u116, u117, u118, u119, u120, ud, ud, ud, ud, ud, ud, ud, ud, ud, ud, ud, ud, ud, ud], []⟩) ∧ (Dig Vr Y y1 u0 qB rB) ∧ (qB < 18446744073709551616) ∧ (rB < 4294967296) ∧ (Keeps Nob w V)) (fun a _ => (intOf (a.tmps.getD 18 undef)).toNat) (by kernel_rfl) ?_ ?_
      · exact ⟨Vr / y1, Vr - Vr / y1 * y1, undef, undef, undef, undef, undef, undef, undef, undef, undef, undef, undef, undef, undef, undef, undef, undef, undef, undef, undef, by kernel_rfl, dig_init hYs hy0 hy1p hu0 hVY, by have := Nat.div_le_self Vr y1; omega, rem_small hy1p hy1l, K2⟩
      · rintro a V7 ⟨qB, rB, u102, u103, u104, u105, u106, u107, u108, u109, u110, u111, u112, u113, u114, u115, u116, u117, u118, u119, u120, rfl, hd, hql, hr, K8⟩
        rcases dig_cases qB rB y0 y1 u0 with ⟨hq, hr2⟩ | ⟨hq, hr2⟩ | ⟨hq, hc, hr2⟩ | ⟨hq, hc, hr2⟩ | ⟨hq, hc⟩
        · obtain ⟨qp, hdn⟩ := dig_step hYs hy0 hy1p hu0 hVY hd (.inl hq)
          refine q_ <| qr_ [0, 1, 2, 3, 4, 5, 6, 7, 8, 9, 10, 11] <| pkq (uN qB) <| ppq (.bool true) (dct ((((qB : Nat) : Int)) ≥ ((4294967296) : Int)) (by omega)) <| pkq (.bool true) <| pnq <| pnq <| pnq <| pnq <| pnq <| pnq <| pnq <| pnq <| pkq (.bool true) ?_
          refine ey_ <| s_ <| then_n <| bl_ 3 <| qr_ [0, 1, 2] <| pkq (uN qB) <| ppq (uN (qB - 1)) (exec_cast (congrArg (Value.int .u64) (wrap_sub qB 1 qp (by omega))) (by kernel_rfl)) <| pkq (uN (qB - 1)) <| eqr_ [0, 1, 2, 3] <| pkq (uN rB) <| pkq (uN y1) <| ppq (uN (rB + y1)) (exec_cast (congrArg (Value.int .u64) (wrapU (rB + y1) (by omega))) (by kernel_rfl)) <| pkq (uN (rB + y1)) <| eqr_ [0, 1] ?_
          refine pkq (uN (rB + y1)) <| ppq (.bool false) (dcf ((((rB + y1 : Nat) : Int)) ≥ ((4294967296) : Int)) (by omega)) <| en_ <| s_ <| blk_n <| then_n ?_
          refine ⟨⟨qB - 1, rB + y1, (uN qB), (.bool true), (.bool true), undef, undef, undef, undef, undef, undef, undef, undef, (.bool true), (uN qB), (uN (qB - 1)), (uN rB), (uN y1), (uN (rB + y1)), (uN (rB + y1)), (.bool false), by kernel_rfl, hdn, by omega, by omega, K8⟩, ?_⟩
          exact lt_meas (x := qB - 1) (y := qB) (by kernel_rfl) (by kernel_rfl) (by omega)
        · obtain ⟨qp, hdn⟩ := dig_step hYs hy0 hy1p hu0 hVY hd (.inl hq)
          have hxB : qB - 1 = (Vr * 4294967296 + u0) / Y := dig_done hYs hy0 hy1p hu0 hVY hdn (.inr hr2)
          refine q_ <| qr_ [0, 1, 2, 3, 4, 5, 6, 7, 8, 9, 10, 11] <| pkq (uN qB) <| ppq (.bool true) (dct ((((qB : Nat) : Int)) ≥ ((4294967296) : Int)) (by omega)) <| pkq (.bool true) <| pnq <| pnq <| pnq <| pnq <| pnq <| pnq <| pnq <| pnq <| pkq (.bool true) ?_
          refine ey_ <| s_ <| then_n <| bl_ 3 <| qr_ [0, 1, 2] <| pkq (uN qB) <| ppq (uN (qB - 1)) (exec_cast (congrArg (Value.int .u64) (wrap_sub qB 1 qp (by omega))) (by kernel_rfl)) <| pkq (uN (qB - 1)) <| eqr_ [0, 1, 2, 3] <| pkq (uN rB) <| pkq (uN y1) <| ppq (uN (rB + y1)) (exec_cast (congrArg (Value.int .u64) (wrapU (rB + y1) (by omega))) (by kernel_rfl)) <| pkq (uN (rB + y1)) <| eqr_ [0, 1] ?_
          refine pkq (uN (rB + y1)) <| ppq (.bool true) (dct ((((rB + y1 : Nat) : Int)) ≥ ((4294967296) : Int)) (by omega)) <| ey_ <| sy_exit 2 (by kernel_rfl) <| blk_p (by decide) <| then_e <| blk_e <| tqr_ [0, 1, 2, 3, 4, 5, 6, 7, 8, 9, 10, 11, 12, 13, 14, 15] <| pkq (uN qA) <| ppq (uN (qA * 4294967296)) (exec_cast (congrArg (Value.int .u64) (wrapU (qA * 4294967296) (by have := dig_lt hYs hy0 hy1p hu1 hUY; rw [← hxA] at this; omega))) (by kernel_rfl)) <| pkq (uN (qB - 1)) <| ppq (uN ((hi * 18446744073709551616 + lo) / y)) (exec_cast (congrArg (Value.int .u64) ((wrapU (qA * 4294967296 + (qB - 1)) (by have g1 := dig_lt hYs hy0 hy1p hu1 hUY; have g2 := dig_lt hYs hy0 hy1p hu0 hVY; rw [← hxA] at g1; rw [← hxB] at g2; omega)).trans (congrArg (fun n : Nat => (n : Int)) (div_end hy1 hYe hsum hLs hxA hVr hxB)))) (by kernel_rfl)) <| pkq (uN Vr) <| pkq (.int .u64 (IntKind.u64.wrap (((Vr : Nat) : Int) * 4294967296))) ?_
          refine pkq (uN u0) <| pkq (.int .u64 (IntKind.u64.wrap (IntKind.u64.wrap (((Vr : Nat) : Int) * 4294967296) + ((u0 : Nat) : Int)))) <| pkq (uN (qB - 1)) <| pkq (uN Y) <| pkq (.int .u64 (IntKind.u64.wrap (((qB - 1 : Nat) : Int) * ((Y : Nat) : Int)))) <| ppq (uN ((Vr * 4294967296 + u0) % Y)) (exec_cast (congrArg (Value.int .u64) ((dig_rest hYs hy0 hy1p hu0 hVY hxB).resolve_right (by omega))) (by kernel_rfl)) <| pkq (uN s) <| ppq (uN (((Vr * 4294967296 + u0) % Y) >>> s)) (exec_binop .shr 40 169 (.tmp 132) (.tmp 133) (by kernel_rfl) (uN (((Vr * 4294967296 + u0) % Y))) (uN s) _ (by kernel_rfl) (by kernel_rfl) (by kernel_rfl) (run_shrU _ _ ((Vr * 4294967296 + u0) % Y) s (by omega))) <| pkq (uN ((hi * 18446744073709551616 + lo) / y)) <| pkq (uN (((Vr * 4294967296 + u0) % Y) >>> s)) <| ps_end <| sy_a ⟨#[uN hi, uN lo, uN Y, ud, ud, ud, uN ((hi * 18446744073709551616 + lo) / y), uN (((Vr * 4294967296 + u0) % Y) >>> s), uN s, uN y1, uN y0, uN U, uN L, uN u1, uN u0, uN qA, uN (rB + y1), uN Vr, uN (qB - 1), uN y, .bool false, ud, uN y, uN hi, .bool false, ud, uN hi, .bool false, ud, ud, ud, ud, ud, ud, uN y, iN s, uN s, uN y, uN s, uN Y, uN Y, uN y1, uN Y, uN y0, uN hi, uN s, uN ((hi <<< s) % Kec.W), uN lo, uN s, uN (64 - s), uN (lo >>> (64 - s)), uN U, uN lo, uN s, uN L, uN L, uN u1, uN L, uN u0, uN U, uN y1, uN (U / y1), uN U, uN (U / y1), uN y1, uN (U / y1 * y1), uN (U - U / y1 * y1), uN qA, .bool false, .bool false, uN qA, uN y0, uN (qA * y0), uN rA, uN (4294967296 * rA), uN u1, uN (4294967296 * rA + u1), .bool false, .bool false, u79, u80, u81, u82, u83, u84, u85, uN U, .int .u64 (IntKind.u64.wrap (((U : Nat) : Int) * 4294967296)), uN u1, .int .u64 (IntKind.u64.wrap (IntKind.u64.wrap (((U : Nat) : Int) * 4294967296) + ((u1 : Nat) : Int))), uN qA, uN Y, .int .u64 (IntKind.u64.wrap (((qA : Nat) : Int) * ((Y : Nat) : Int))), uN Vr, uN Vr, uN y1, uN (Vr / y1), uN Vr, uN (Vr / y1), uN y1, uN (Vr / y1 * y1), uN (Vr - Vr / y1 * y1), uN qB, .bool true, .bool true, ud, ud, ud, ud, ud, ud, ud, ud, .bool true, uN qB, uN (qB - 1), uN rB, uN y1, uN (rB + y1), uN (rB + y1), .bool true, uN qA, uN (qA * 4294967296), uN (qB - 1), uN ((hi * 18446744073709551616 + lo) / y), uN Vr, .int .u64 (IntKind.u64.wrap (((Vr : Nat) : Int) * 4294967296)), uN u0, .int .u64 (IntKind.u64.wrap (IntKind.u64.wrap (((Vr : Nat) : Int) * 4294967296) + ((u0 : Nat) : Int))), uN (qB - 1), uN Y, .int .u64 (IntKind.u64.wrap (((qB - 1 : Nat) : Int) * ((Y : Nat) : Int))), uN ((Vr * 4294967296 + u0) % Y), uN s, uN (((Vr * 4294967296 + u0) % Y) >>> s)], []⟩ <| then_n <| u_ ?_
          refine so_ (.tuple #[.int .u64 (((hi * 18446744073709551616 + lo) / y : Nat) : Int), .int .u64 ((((Vr * 4294967296 + u0) % Y) >>> s : Nat) : Int)]) ?_
          exact ⟨_, rfl, K8⟩
        · obtain ⟨qp, hdn⟩ := dig_step hYs hy0 hy1p hu0 hVY hd (.inr hc)
          refine q_ <| qr_ [0, 1, 2, 3, 4, 5, 6, 7, 8, 9, 10, 11] <| pkq (uN qB) <| ppq (.bool false) (dcf ((((qB : Nat) : Int)) ≥ ((4294967296) : Int)) (by omega)) <| pkq (.bool false) <| pkq (uN qB) <| pkq (uN y0) <| ppq (uN (qB * y0)) (exec_cast (congrArg (Value.int .u64) (wrapU (qB * y0) (mul_small hq hy0))) (by kernel_rfl)) <| pkq (uN rB) <| ppq (uN (4294967296 * rB)) (exec_cast (congrArg (Value.int .u64) (wrapU (4294967296 * rB) (by omega))) (by kernel_rfl)) <| pkq (uN u0) <| ppq (uN (4294967296 * rB + u0)) (exec_cast (congrArg (Value.int .u64) (wrapU (4294967296 * rB + u0) (by omega))) (by kernel_rfl)) <| ppq (.bool true) (dct ((((qB * y0 : Nat) : Int)) > (((4294967296 * rB + u0 : Nat) : Int))) (by omega)) <| pkq (.bool true) ?_
          refine ey_ <| s_ <| then_n <| bl_ 3 <| qr_ [0, 1, 2] <| pkq (uN qB) <| ppq (uN (qB - 1)) (exec_cast (congrArg (Value.int .u64) (wrap_sub qB 1 qp (by omega))) (by kernel_rfl)) <| pkq (uN (qB - 1)) <| eqr_ [0, 1, 2, 3] <| pkq (uN rB) <| pkq (uN y1) <| ppq (uN (rB + y1)) (exec_cast (congrArg (Value.int .u64) (wrapU (rB + y1) (by omega))) (by kernel_rfl)) <| pkq (uN (rB + y1)) <| eqr_ [0, 1] ?_
          refine pkq (uN (rB + y1)) <| ppq (.bool false) (dcf ((((rB + y1 : Nat) : Int)) ≥ ((4294967296) : Int)) (by omega)) <| en_ <| s_ <| blk_n <| then_n ?_
          refine ⟨⟨qB - 1, rB + y1, (uN qB), (.bool false), (.bool false), (uN qB), (uN y0), (uN (qB * y0)), (uN rB), (uN (4294967296 * rB)), (uN u0), (uN (4294967296 * rB + u0)), (.bool true), (.bool true), (uN qB), (uN (qB - 1)), (uN rB), (uN y1), (uN (rB + y1)), (uN (rB + y1)), (.bool false), by kernel_rfl, hdn, by omega, by omega, K8⟩, ?_⟩
          exact lt_meas (x := qB - 1) (y := qB) (by kernel_rfl) (by kernel_rfl) (by omega)
        · obtain ⟨qp, hdn⟩ := dig_step hYs hy0 hy1p hu0 hVY hd (.inr hc)
          have hxB : qB - 1 = (Vr * 4294967296 + u0) / Y := dig_done hYs hy0 hy1p hu0 hVY hdn (.inr hr2)
          refine q_ <| qr_ [0, 1, 2, 3, 4, 5, 6, 7, 8, 9, 10, 11] <| pkq (uN qB) <| ppq (.bool false) (dcf ((((qB : Nat) : Int)) ≥ ((4294967296) : Int)) (by omega)) <| pkq (.bool false) <| pkq (uN qB) <| pkq (uN y0) <| ppq (uN (qB * y0)) (exec_cast (congrArg (Value.int .u64) (wrapU (qB * y0) (mul_small hq hy0))) (by kernel_rfl)) <| pkq (uN rB) <| ppq (uN (4294967296 * rB)) (exec_cast (congrArg (Value.int .u64) (wrapU (4294967296 * rB) (by omega))) (by kernel_rfl)) <| pkq (uN u0) <| ppq (uN (4294967296 * rB + u0)) (exec_cast (congrArg (Value.int .u64) (wrapU (4294967296 * rB + u0) (by omega))) (by kernel_rfl)) <| ppq (.bool true) (dct ((((qB * y0 : Nat) : Int)) > (((4294967296 * rB + u0 : Nat) : Int))) (by omega)) <| pkq (.bool true) ?_
          refine ey_ <| s_ <| then_n <| bl_ 3 <| qr_ [0, 1, 2] <| pkq (uN qB) <| ppq (uN (qB - 1)) (exec_cast (congrArg (Value.int .u64) (wrap_sub qB 1 qp (by omega))) (by kernel_rfl)) <| pkq (uN (qB - 1)) <| eqr_ [0, 1, 2, 3] <| pkq (uN rB) <| pkq (uN y1) <| ppq (uN (rB + y1)) (exec_cast (congrArg (Value.int .u64) (wrapU (rB + y1) (by omega))) (by kernel_rfl)) <| pkq (uN (rB + y1)) <| eqr_ [0, 1] ?_
          refine pkq (uN (rB + y1)) <| ppq (.bool true) (dct ((((rB + y1 : Nat) : Int)) ≥ ((4294967296) : Int)) (by omega)) <| ey_ <| sy_exit 2 (by kernel_rfl) <| blk_p (by decide) <| then_e <| blk_e <| tqr_ [0, 1, 2, 3, 4, 5, 6, 7, 8, 9, 10, 11, 12, 13, 14, 15] <| pkq (uN qA) <| ppq (uN (qA * 4294967296)) (exec_cast (congrArg (Value.int .u64) (wrapU (qA * 4294967296) (by have := dig_lt hYs hy0 hy1p hu1 hUY; rw [← hxA] at this; omega))) (by kernel_rfl)) <| pkq (uN (qB - 1)) <| ppq (uN ((hi * 18446744073709551616 + lo) / y)) (exec_cast (congrArg (Value.int .u64) ((wrapU (qA * 4294967296 + (qB - 1)) (by have g1 := dig_lt hYs hy0 hy1p hu1 hUY; have g2 := dig_lt hYs hy0 hy1p hu0 hVY; rw [← hxA] at g1; rw [← hxB] at g2; omega)).trans (congrArg (fun n : Nat => (n : Int)) (div_end hy1 hYe hsum hLs hxA hVr hxB)))) (by kernel_rfl)) <| pkq (uN Vr) <| pkq (.int .u64 (IntKind.u64.wrap (((Vr : Nat) : Int) * 4294967296))) ?_
          refine pkq (uN u0) <| pkq (.int .u64 (IntKind.u64.wrap (IntKind.u64.wrap (((Vr : Nat) : Int) * 4294967296) + ((u0 : Nat) : Int)))) <| pkq (uN (qB - 1)) <| pkq (uN Y) <| pkq (.int .u64 (IntKind.u64.wrap (((qB - 1 : Nat) : Int) * ((Y : Nat) : Int)))) <| ppq (uN ((Vr * 4294967296 + u0) % Y)) (exec_cast (congrArg (Value.int .u64) ((dig_rest hYs hy0 hy1p hu0 hVY hxB).resolve_right (by omega))) (by kernel_rfl)) <| pkq (uN s) <| ppq (uN (((Vr * 4294967296 + u0) % Y) >>> s)) (exec_binop .shr 40 169 (.tmp 132) (.tmp 133) (by kernel_rfl) (uN (((Vr * 4294967296 + u0) % Y))) (uN s) _ (by kernel_rfl) (by kernel_rfl) (by kernel_rfl) (run_shrU _ _ ((Vr * 4294967296 + u0) % Y) s (by omega))) <| pkq (uN ((hi * 18446744073709551616 + lo) / y)) <| pkq (uN (((Vr * 4294967296 + u0) % Y) >>> s)) <| ps_end <| sy_a ⟨#[uN hi, uN lo, uN Y, ud, ud, ud, uN ((hi * 18446744073709551616 + lo) / y), uN (((Vr * 4294967296 + u0) % Y) >>> s), uN s, uN y1, uN y0, uN U, uN L, uN u1, uN u0, uN qA, uN (rB + y1), uN Vr, uN (qB - 1), uN y, .bool false, ud, uN y, uN hi, .bool false, ud, uN hi, .bool false, ud, ud, ud, ud, ud, ud, uN y, iN s, uN s, uN y, uN s, uN Y, uN Y, uN y1, uN Y, uN y0, uN hi, uN s, uN ((hi <<< s) % Kec.W), uN lo, uN s, uN (64 - s), uN (lo >>> (64 - s)), uN U, uN lo, uN s, uN L, uN L, uN u1, uN L, uN u0, uN U, uN y1, uN (U / y1), uN U, uN (U / y1), uN y1, uN (U / y1 * y1), uN (U - U / y1 * y1), uN qA, .bool false, .bool false, uN qA, uN y0, uN (qA * y0), uN rA, uN (4294967296 * rA), uN u1, uN (4294967296 * rA + u1), .bool false, .bool false, u79, u80, u81, u82, u83, u84, u85, uN U, .int .u64 (IntKind.u64.wrap (((U : Nat) : Int) * 4294967296)), uN u1, .int .u64 (IntKind.u64.wrap (IntKind.u64.wrap (((U : Nat) : Int) * 4294967296) + ((u1 : Nat) : Int))), uN qA, uN Y, .int .u64 (IntKind.u64.wrap (((qA : Nat) : Int) * ((Y : Nat) : Int))), uN Vr, uN Vr, uN y1, uN (Vr / y1), uN Vr, uN (Vr / y1), uN y1, uN (Vr / y1 * y1), uN (Vr - Vr / y1 * y1), uN qB, .bool false, .bool false, uN qB, uN y0, uN (qB * y0), uN rB, uN (4294967296 * rB), uN u0, uN (4294967296 * rB + u0), .bool true, .bool true, uN qB, uN (qB - 1), uN rB, uN y1, uN (rB + y1), uN (rB + y1), .bool true, uN qA, uN (qA * 4294967296), uN (qB - 1), uN ((hi * 18446744073709551616 + lo) / y), uN Vr, .int .u64 (IntKind.u64.wrap (((Vr : Nat) : Int) * 4294967296)), uN u0, .int .u64 (IntKind.u64.wrap (IntKind.u64.wrap (((Vr : Nat) : Int) * 4294967296) + ((u0 : Nat) : Int))), uN (qB - 1), uN Y, .int .u64 (IntKind.u64.wrap (((qB - 1 : Nat) : Int) * ((Y : Nat) : Int))), uN ((Vr * 4294967296 + u0) % Y), uN s, uN (((Vr * 4294967296 + u0) % Y) >>> s)], []⟩ <| then_n <| u_ ?_
          refine so_ (.tuple #[.int .u64 (((hi * 18446744073709551616 + lo) / y : Nat) : Int), .int .u64 ((((Vr * 4294967296 + u0) % Y) >>> s : Nat) : Int)]) ?_
          exact ⟨_, rfl, K8⟩
        · have hxB : qB = (Vr * 4294967296 + u0) / Y := dig_done hYs hy0 hy1p hu0 hVY hd (.inl ⟨hq, hc⟩)
          refine q_ <| qr_ [0, 1, 2, 3, 4, 5, 6, 7, 8, 9, 10, 11] <| pkq (uN qB) <| ppq (.bool false) (dcf ((((qB : Nat) : Int)) ≥ ((4294967296) : Int)) (by omega)) <| pkq (.bool false) <| pkq (uN qB) <| pkq (uN y0) <| ppq (uN (qB * y0)) (exec_cast (congrArg (Value.int .u64) (wrapU (qB * y0) (mul_small hq hy0))) (by kernel_rfl)) <| pkq (uN rB) <| ppq (uN (4294967296 * rB)) (exec_cast (congrArg (Value.int .u64) (wrapU (4294967296 * rB) (by omega))) (by kernel_rfl)) <| pkq (uN u0) <| ppq (uN (4294967296 * rB + u0)) (exec_cast (congrArg (Value.int .u64) (wrapU (4294967296 * rB + u0) (by omega))) (by kernel_rfl)) <| ppq (.bool false) (dcf ((((qB * y0 : Nat) : Int)) > (((4294967296 * rB + u0 : Nat) : Int))) (by omega)) <| pkq (.bool false) ?_
          refine en_ <| sy_exit 2 (by kernel_rfl) <| then_e <| then_e <| blk_e <| tqr_ [0, 1, 2, 3, 4, 5, 6, 7, 8, 9, 10, 11, 12, 13, 14, 15] <| pkq (uN qA) <| ppq (uN (qA * 4294967296)) (exec_cast (congrArg (Value.int .u64) (wrapU (qA * 4294967296) (by have := dig_lt hYs hy0 hy1p hu1 hUY; rw [← hxA] at this; omega))) (by kernel_rfl)) <| pkq (uN qB) <| ppq (uN ((hi * 18446744073709551616 + lo) / y)) (exec_cast (congrArg (Value.int .u64) ((wrapU (qA * 4294967296 + qB) (by have g1 := dig_lt hYs hy0 hy1p hu1 hUY; have g2 := dig_lt hYs hy0 hy1p hu0 hVY; rw [← hxA] at g1; rw [← hxB] at g2; omega)).trans (congrArg (fun n : Nat => (n : Int)) (div_end hy1 hYe hsum hLs hxA hVr hxB)))) (by kernel_rfl)) <| pkq (uN Vr) <| pkq (.int .u64 (IntKind.u64.wrap (((Vr : Nat) : Int) * 4294967296))) <| pkq (uN u0) <| pkq (.int .u64 (IntKind.u64.wrap (IntKind.u64.wrap (((Vr : Nat) : Int) * 4294967296) + ((u0 : Nat) : Int)))) ?_
          refine pkq (uN qB) <| pkq (uN Y) <| pkq (.int .u64 (IntKind.u64.wrap (((qB : Nat) : Int) * ((Y : Nat) : Int)))) <| ppq (uN ((Vr * 4294967296 + u0) % Y)) (exec_cast (congrArg (Value.int .u64) ((dig_rest hYs hy0 hy1p hu0 hVY hxB).resolve_right (by omega))) (by kernel_rfl)) <| pkq (uN s) <| ppq (uN (((Vr * 4294967296 + u0) % Y) >>> s)) (exec_binop .shr 40 169 (.tmp 132) (.tmp 133) (by kernel_rfl) (uN (((Vr * 4294967296 + u0) % Y))) (uN s) _ (by kernel_rfl) (by kernel_rfl) (by kernel_rfl) (run_shrU _ _ ((Vr * 4294967296 + u0) % Y) s (by omega))) <| pkq (uN ((hi * 18446744073709551616 + lo) / y)) <| pkq (uN (((Vr * 4294967296 + u0) % Y) >>> s)) <| ps_end <| sy_a ⟨#[uN hi, uN lo, uN Y, ud, ud, ud, uN ((hi * 18446744073709551616 + lo) / y), uN (((Vr * 4294967296 + u0) % Y) >>> s), uN s, uN y1, uN y0, uN U, uN L, uN u1, uN u0, uN qA, uN rB, uN Vr, uN qB, uN y, .bool false, ud, uN y, uN hi, .bool false, ud, uN hi, .bool false, ud, ud, ud, ud, ud, ud, uN y, iN s, uN s, uN y, uN s, uN Y, uN Y, uN y1, uN Y, uN y0, uN hi, uN s, uN ((hi <<< s) % Kec.W), uN lo, uN s, uN (64 - s), uN (lo >>> (64 - s)), uN U, uN lo, uN s, uN L, uN L, uN u1, uN L, uN u0, uN U, uN y1, uN (U / y1), uN U, uN (U / y1), uN y1, uN (U / y1 * y1), uN (U - U / y1 * y1), uN qA, .bool false, .bool false, uN qA, uN y0, uN (qA * y0), uN rA, uN (4294967296 * rA), uN u1, uN (4294967296 * rA + u1), .bool false, .bool false, u79, u80, u81, u82, u83, u84, u85, uN U, .int .u64 (IntKind.u64.wrap (((U : Nat) : Int) * 4294967296)), uN u1, .int .u64 (IntKind.u64.wrap (IntKind.u64.wrap (((U : Nat) : Int) * 4294967296) + ((u1 : Nat) : Int))), uN qA, uN Y, .int .u64 (IntKind.u64.wrap (((qA : Nat) : Int) * ((Y : Nat) : Int))), uN Vr, uN Vr, uN y1, uN (Vr / y1), uN Vr, uN (Vr / y1), uN y1, uN (Vr / y1 * y1), uN (Vr - Vr / y1 * y1), uN qB, .bool false, .bool false, uN qB, uN y0, uN (qB * y0), uN rB, uN (4294967296 * rB), uN u0, uN (4294967296 * rB + u0), .bool false, .bool false, u114, u115, u116, u117, u118, u119, u120, uN qA, uN (qA * 4294967296), uN qB, uN ((hi * 18446744073709551616 + lo) / y), uN Vr, .int .u64 (IntKind.u64.wrap (((Vr : Nat) : Int) * 4294967296)), uN u0, .int .u64 (IntKind.u64.wrap (IntKind.u64.wrap (((Vr : Nat) : Int) * 4294967296) + ((u0 : Nat) : Int))), uN qB, uN Y, .int .u64 (IntKind.u64.wrap (((qB : Nat) : Int) * ((Y : Nat) : Int))), uN ((Vr * 4294967296 + u0) % Y), uN s, uN (((Vr * 4294967296 + u0) % Y) >>> s)], []⟩ <| then_n <| u_ <| so_ (.tuple #[.int .u64 (((hi * 18446744073709551616 + lo) / y : Nat) : Int), .int .u64 ((((Vr * 4294967296 + u0) % Y) >>> s : Nat) : Int)]) ?_
          exact ⟨_, rfl, K8⟩
/-- Div64: the quotient of two words by one that is above the higher one. -/
theorem bDiv64_ok (hi lo y : Nat) (hh : hi < y) (hy2 : y < 18446744073709551616) (hlo : lo < 18446744073709551616) (w : World) : Calls Tryz.prog 94 #[.int .u64 ((hi : Nat) : Int), .int .u64 ((lo : Nat) : Int), .int .u64 ((y : Nat) : Int)] w (fun e w' => ∃ r : Nat, e = .returned (.tuple #[.int .u64 (((hi * 18446744073709551616 + lo) / y : Nat) : Int), .int .u64 ((r : Nat) : Int)]) ∧ Keeps Nob w w') := by
  by_cases hz : hi = 0
  · exact bDiv64_zero hi lo y hz (by omega) hlo w
  · exact bDiv64_pos hi lo y (by omega) hh hy2 hlo w
end Go.Proofs.YtghohakbepeffaaGreatDoor
namespace Go.Proofs.YtghohakbepeffaaGreatDoor
set_option maxRecDepth 100000
set_option maxHeartbeats 4000000
open Go Go.RowKit Go.Own Go.Shelf
theorem run_sub0 (x y : Nat) (w : World) : (callFunc 95 #[.int .u64 ((x : Nat) : Int), .int .u64 ((y : Nat) : Int), .int .u64 ((0 : Nat) : Int)]).run Tryz.prog w = .ok (.value (.tuple #[.int .u64 (((x + 18446744073709551616 - y - 0) % 18446744073709551616 : Nat) : Int), .int .u64 ((if x < y + 0 then 1 else 0 : Nat) : Int)])) w := by kernel_rfl
theorem run_sub1 (x y : Nat) (w : World) : (callFunc 95 #[.int .u64 ((x : Nat) : Int), .int .u64 ((y : Nat) : Int), .int .u64 ((1 : Nat) : Int)]).run Tryz.prog w = .ok (.value (.tuple #[.int .u64 (((x + 18446744073709551616 - y - 1) % 18446744073709551616 : Nat) : Int), .int .u64 ((if x < y + 1 then 1 else 0 : Nat) : Int)])) w := by kernel_rfl
theorem run_bSub64 (x y b : Nat) (hb : b ≤ 1) (w : World) : (callFunc 95 #[.int .u64 ((x : Nat) : Int), .int .u64 ((y : Nat) : Int), .int .u64 ((b : Nat) : Int)]).run Tryz.prog w = .ok (.value (.tuple #[.int .u64 (((x + 18446744073709551616 - y - b) % 18446744073709551616 : Nat) : Int), .int .u64 ((if x < y + b then 1 else 0 : Nat) : Int)])) w := by
  match b, hb with
  | 0, _ => exact run_sub0 x y w
  | 1, _ => exact run_sub1 x y w
theorem shr32 (x : Nat) : x >>> 32 = x / 4294967296 := Nat.shiftRight_eq_div_pow x 32
theorem and32 (x : Nat) : x &&& 4294967295 = x % 4294967296 := Nat.and_two_pow_sub_one_eq_mod x 32
theorem over_law {hi lo c : Nat} (_ : 0 < c) : (hi * 18446744073709551616 + lo) / c = hi / c * 18446744073709551616 + (hi % c * 18446744073709551616 + lo) / c := by
  have e := Nat.div_add_mod hi c
  have : hi * 18446744073709551616 + lo = (hi % c * 18446744073709551616 + lo) + c * (hi / c * 18446744073709551616) := by
    rw [← Nat.mul_assoc]
    conv => lhs; rw [← e]
    rw [Nat.add_mul]; omega
  rw [this, Nat.add_mul_div_left _ _ (by omega)]
  omega
theorem over_lt {hi lo c : Nat} (hc : 0 < c) (hl : lo < 18446744073709551616) : (hi % c * 18446744073709551616 + lo) / c < 18446744073709551616 := by
  rw [Nat.div_lt_iff_lt_mul hc]
  have := Nat.mod_lt hi hc
  have g := Nat.mul_le_mul_right 18446744073709551616 (Nat.succ_le_of_lt this)
  rw [Nat.mul_comm 18446744073709551616 c]
  rw [Nat.succ_mul] at g
  omega
noncomputable def qc54_4 (n : Nat) : Code := partOf Tryz.f93 n
theorem bMul64_ok (x y : Nat) (hx : x < 18446744073709551616) (hy : y < 18446744073709551616) (w : World) :
    Calls Tryz.prog 93 #[.int .u64 ((x : Nat) : Int), .int .u64 ((y : Nat) : Int)] w (fun e w' => e = .returned (.tuple #[.int .u64 ((x * y / 18446744073709551616 : Nat) : Int), .int .u64 ((x * y % 18446744073709551616 : Nat) : Int)]) ∧ w = w') := by
  obtain ⟨bd, bt, bw, hhi⟩ := Lib.mul64_hi x y hx hy
  have ba : (x / 4294967296) * (y / 4294967296) < 18446744073709551616 := by have := Lib.half_mul_le (a := x / 4294967296) (b := y / 4294967296) (by omega) (by omega); omega
  have bb : (x / 4294967296) * (y % 4294967296) < 18446744073709551616 := by have := Lib.half_mul_le (a := x / 4294967296) (b := y % 4294967296) (by omega) (by omega); omega
  have bc : (x % 4294967296) * (y / 4294967296) < 18446744073709551616 := by have := Lib.half_mul_le (a := x % 4294967296) (b := y / 4294967296) (by omega) (by omega); omega
  have bz : x * y / 18446744073709551616 < 18446744073709551616 := by rw [Nat.div_lt_iff_lt_mul (by decide)]; exact Nat.mul_lt_mul'' hx hy
  have K0 : Keeps Nob w w := Keeps.refl _ _
  refine sy_enter (qc54_4 1) ⟨#[uN x, uN y, ud, ud, ud, ud, ud, ud, ud, ud, ud, ud, ud, ud, ud, ud, ud, ud, ud, ud, ud, ud, ud, ud, ud, ud, ud, ud, ud, ud, ud, ud, ud, ud, ud, ud, ud, ud, ud, ud, ud, ud, ud, ud, ud, ud, ud, ud, ud, ud, ud], []⟩ Tryz.func93 (by kernel_rfl) (by kernel_rfl) <| qr_ [0, 1] <| pkq (.int .u64 0) <| pkq (.int .u64 0) <| eqr_ [0, 1, 2] <| pkq (uN x) <| ppq (uN (x % 4294967296)) (exec_cast ((andU x 4294967295 (show x < Kec.W from hx) (by decide)).trans (congrArg (fun n : Nat => Value.int .u64 (n : Int)) (and32 x))) (by kernel_rfl)) <| pkq (uN (x % 4294967296)) <| eqr_ [0, 1, 2] <| pkq (uN x) <| ppq (uN (x / 4294967296)) (exec_cast (congrArg (fun n : Nat => Value.int .u64 (n : Int)) (shr32 x)) (exec_binop .shr 40 169 (.tmp 16) (.const (.int .u64 32)) (by kernel_rfl) (uN x) (uN 32) _ (by kernel_rfl) (by kernel_rfl) (by kernel_rfl) (run_shrU _ _ x 32 (by omega)))) <| pkq (uN (x / 4294967296)) <| eqr_ [0, 1, 2] <| pkq (uN y) ?_
  refine ppq (uN (y % 4294967296)) (exec_cast ((andU y 4294967295 (show y < Kec.W from hy) (by decide)).trans (congrArg (fun n : Nat => Value.int .u64 (n : Int)) (and32 y))) (by kernel_rfl)) <| pkq (uN (y % 4294967296)) <| eqr_ [0, 1, 2] <| pkq (uN y) <| ppq (uN (y / 4294967296)) (exec_cast (congrArg (fun n : Nat => Value.int .u64 (n : Int)) (shr32 y)) (exec_binop .shr 40 169 (.tmp 20) (.const (.int .u64 32)) (by kernel_rfl) (uN y) (uN 32) _ (by kernel_rfl) (by kernel_rfl) (by kernel_rfl) (run_shrU _ _ y 32 (by omega)))) <| pkq (uN (y / 4294967296)) <| eqr_ [0, 1, 2, 3] <| pkq (uN (x % 4294967296)) <| pkq (uN (y % 4294967296)) <| ppq (uN ((x % 4294967296) * (y % 4294967296))) (exec_cast (congrArg (Value.int .u64) (wrapU ((x % 4294967296) * (y % 4294967296)) (bd))) (by kernel_rfl)) <| pkq (uN ((x % 4294967296) * (y % 4294967296))) <| eqr_ [0, 1, 2, 3, 4, 5, 6] <| pkq (uN (x / 4294967296)) <| pkq (uN (y % 4294967296)) ?_
  refine ppq (uN ((x / 4294967296) * (y % 4294967296))) (exec_cast (congrArg (Value.int .u64) (wrapU ((x / 4294967296) * (y % 4294967296)) (bb))) (by kernel_rfl)) <| pkq (uN ((x % 4294967296) * (y % 4294967296))) <| ppq (uN (((x % 4294967296) * (y % 4294967296)) / 4294967296)) (exec_cast (congrArg (fun n : Nat => Value.int .u64 (n : Int)) (shr32 ((x % 4294967296) * (y % 4294967296)))) (exec_binop .shr 40 169 (.tmp 28) (.const (.int .u64 32)) (by kernel_rfl) (uN ((x % 4294967296) * (y % 4294967296))) (uN 32) _ (by kernel_rfl) (by kernel_rfl) (by kernel_rfl) (run_shrU _ _ ((x % 4294967296) * (y % 4294967296)) 32 (by omega)))) <| ppq (uN ((x / 4294967296) * (y % 4294967296) + ((x % 4294967296) * (y % 4294967296)) / 4294967296)) (exec_cast (congrArg (Value.int .u64) (wrapU ((x / 4294967296) * (y % 4294967296) + ((x % 4294967296) * (y % 4294967296)) / 4294967296) (bt))) (by kernel_rfl)) <| pkq (uN ((x / 4294967296) * (y % 4294967296) + ((x % 4294967296) * (y % 4294967296)) / 4294967296)) <| ps_end <| sy_a ⟨#[uN x, uN y, ud, ud, .int .u64 0, .int .u64 0, uN (x % 4294967296), uN (x / 4294967296), uN (y % 4294967296), uN (y / 4294967296), uN ((x % 4294967296) * (y % 4294967296)), uN ((x / 4294967296) * (y % 4294967296) + ((x % 4294967296) * (y % 4294967296)) / 4294967296), ud, ud, uN x, uN (x % 4294967296), uN x, uN (x / 4294967296), uN y, uN (y % 4294967296), uN y, uN (y / 4294967296), uN (x % 4294967296), uN (y % 4294967296), uN ((x % 4294967296) * (y % 4294967296)), uN (x / 4294967296), uN (y % 4294967296), uN ((x / 4294967296) * (y % 4294967296)), uN ((x % 4294967296) * (y % 4294967296)), uN (((x % 4294967296) * (y % 4294967296)) / 4294967296), uN ((x / 4294967296) * (y % 4294967296) + ((x % 4294967296) * (y % 4294967296)) / 4294967296), ud, ud, ud, ud, ud, ud, ud, ud, ud, ud, ud, ud, ud, ud, ud, ud, ud, ud, ud, ud], []⟩ <| tqr_ [0, 1, 2] <| pkq (uN ((x / 4294967296) * (y % 4294967296) + ((x % 4294967296) * (y % 4294967296)) / 4294967296)) <| ppq (uN (((x / 4294967296) * (y % 4294967296) + ((x % 4294967296) * (y % 4294967296)) / 4294967296) % 4294967296)) (exec_cast ((andU ((x / 4294967296) * (y % 4294967296) + ((x % 4294967296) * (y % 4294967296)) / 4294967296) 4294967295 (show _ < Kec.W from bt) (by decide)).trans (congrArg (fun n : Nat => Value.int .u64 (n : Int)) (and32 ((x / 4294967296) * (y % 4294967296) + ((x % 4294967296) * (y % 4294967296)) / 4294967296)))) (by kernel_rfl)) <| pkq (uN (((x / 4294967296) * (y % 4294967296) + ((x % 4294967296) * (y % 4294967296)) / 4294967296) % 4294967296)) <| eqr_ [0, 1, 2] <| pkq (uN ((x / 4294967296) * (y % 4294967296) + ((x % 4294967296) * (y % 4294967296)) / 4294967296)) <| ppq (uN (((x / 4294967296) * (y % 4294967296) + ((x % 4294967296) * (y % 4294967296)) / 4294967296) / 4294967296)) (exec_cast (congrArg (fun n : Nat => Value.int .u64 (n : Int)) (shr32 ((x / 4294967296) * (y % 4294967296) + ((x % 4294967296) * (y % 4294967296)) / 4294967296))) (exec_binop .shr 40 169 (.tmp 33) (.const (.int .u64 32)) (by kernel_rfl) (uN ((x / 4294967296) * (y % 4294967296) + ((x % 4294967296) * (y % 4294967296)) / 4294967296)) (uN 32) _ (by kernel_rfl) (by kernel_rfl) (by kernel_rfl) (run_shrU _ _ ((x / 4294967296) * (y % 4294967296) + ((x % 4294967296) * (y % 4294967296)) / 4294967296) 32 (by omega)))) ?_
  refine pkq (uN (((x / 4294967296) * (y % 4294967296) + ((x % 4294967296) * (y % 4294967296)) / 4294967296) / 4294967296)) <| eqr_ [0, 1, 2, 3, 4, 5] <| pkq (uN (((x / 4294967296) * (y % 4294967296) + ((x % 4294967296) * (y % 4294967296)) / 4294967296) % 4294967296)) <| pkq (uN (x % 4294967296)) <| pkq (uN (y / 4294967296)) <| ppq (uN ((x % 4294967296) * (y / 4294967296))) (exec_cast (congrArg (Value.int .u64) (wrapU ((x % 4294967296) * (y / 4294967296)) (bc))) (by kernel_rfl)) <| ppq (uN (((x / 4294967296) * (y % 4294967296) + ((x % 4294967296) * (y % 4294967296)) / 4294967296) % 4294967296 + (x % 4294967296) * (y / 4294967296))) (exec_cast (congrArg (Value.int .u64) (wrapU (((x / 4294967296) * (y % 4294967296) + ((x % 4294967296) * (y % 4294967296)) / 4294967296) % 4294967296 + (x % 4294967296) * (y / 4294967296)) (bw))) (by kernel_rfl)) <| pkq (uN (((x / 4294967296) * (y % 4294967296) + ((x % 4294967296) * (y % 4294967296)) / 4294967296) % 4294967296 + (x % 4294967296) * (y / 4294967296))) <| eqr_ [0, 1, 2, 3, 4, 5, 6, 7, 8] <| pkq (uN (x / 4294967296)) <| pkq (uN (y / 4294967296)) <| ppq (uN ((x / 4294967296) * (y / 4294967296))) (exec_cast (congrArg (Value.int .u64) (wrapU ((x / 4294967296) * (y / 4294967296)) (ba))) (by kernel_rfl)) <| pkq (uN (((x / 4294967296) * (y % 4294967296) + ((x % 4294967296) * (y % 4294967296)) / 4294967296) / 4294967296)) <| ppq (uN ((x / 4294967296) * (y / 4294967296) + ((x / 4294967296) * (y % 4294967296) + ((x % 4294967296) * (y % 4294967296)) / 4294967296) / 4294967296)) (exec_cast (congrArg (Value.int .u64) (wrapU ((x / 4294967296) * (y / 4294967296) + ((x / 4294967296) * (y % 4294967296) + ((x % 4294967296) * (y % 4294967296)) / 4294967296) / 4294967296) (by omega))) (by kernel_rfl)) ?_
  refine pkq (uN (((x / 4294967296) * (y % 4294967296) + ((x % 4294967296) * (y % 4294967296)) / 4294967296) % 4294967296 + (x % 4294967296) * (y / 4294967296))) <| ppq (uN ((((x / 4294967296) * (y % 4294967296) + ((x % 4294967296) * (y % 4294967296)) / 4294967296) % 4294967296 + (x % 4294967296) * (y / 4294967296)) / 4294967296)) (exec_cast (congrArg (fun n : Nat => Value.int .u64 (n : Int)) (shr32 (((x / 4294967296) * (y % 4294967296) + ((x % 4294967296) * (y % 4294967296)) / 4294967296) % 4294967296 + (x % 4294967296) * (y / 4294967296)))) (exec_binop .shr 40 169 (.tmp 45) (.const (.int .u64 32)) (by kernel_rfl) (uN (((x / 4294967296) * (y % 4294967296) + ((x % 4294967296) * (y % 4294967296)) / 4294967296) % 4294967296 + (x % 4294967296) * (y / 4294967296))) (uN 32) _ (by kernel_rfl) (by kernel_rfl) (by kernel_rfl) (run_shrU _ _ (((x / 4294967296) * (y % 4294967296) + ((x % 4294967296) * (y % 4294967296)) / 4294967296) % 4294967296 + (x % 4294967296) * (y / 4294967296)) 32 (by omega)))) <| ppq (uN (x * y / 18446744073709551616)) (exec_cast (congrArg (Value.int .u64) ((wrapU ((x / 4294967296) * (y / 4294967296) + ((x / 4294967296) * (y % 4294967296) + ((x % 4294967296) * (y % 4294967296)) / 4294967296) / 4294967296 + (((x / 4294967296) * (y % 4294967296) + ((x % 4294967296) * (y % 4294967296)) / 4294967296) % 4294967296 + (x % 4294967296) * (y / 4294967296)) / 4294967296) (by omega)).trans (congrArg (fun n : Nat => (n : Int)) hhi))) (by kernel_rfl)) <| pkq (uN (x * y / 18446744073709551616)) <| eqr_ [0, 1, 2, 3] <| pkq (uN x) <| pkq (uN y) <| ppq (uN (x * y % 18446744073709551616)) (exec_cast (congrArg (Value.int .u64) (wrapM (x * y))) (by kernel_rfl)) <| pkq (uN (x * y % 18446744073709551616)) <| ps_end <| sy_a ⟨#[uN x, uN y, ud, ud, uN (x * y / 18446744073709551616), uN (x * y % 18446744073709551616), uN (x % 4294967296), uN (x / 4294967296), uN (y % 4294967296), uN (y / 4294967296), uN ((x % 4294967296) * (y % 4294967296)), uN ((x / 4294967296) * (y % 4294967296) + ((x % 4294967296) * (y % 4294967296)) / 4294967296), uN (((x / 4294967296) * (y % 4294967296) + ((x % 4294967296) * (y % 4294967296)) / 4294967296) % 4294967296 + (x % 4294967296) * (y / 4294967296)), uN (((x / 4294967296) * (y % 4294967296) + ((x % 4294967296) * (y % 4294967296)) / 4294967296) / 4294967296), uN x, uN (x % 4294967296), uN x, uN (x / 4294967296), uN y, uN (y % 4294967296), uN y, uN (y / 4294967296), uN (x % 4294967296), uN (y % 4294967296), uN ((x % 4294967296) * (y % 4294967296)), uN (x / 4294967296), uN (y % 4294967296), uN ((x / 4294967296) * (y % 4294967296)), uN ((x % 4294967296) * (y % 4294967296)), uN (((x % 4294967296) * (y % 4294967296)) / 4294967296), uN ((x / 4294967296) * (y % 4294967296) + ((x % 4294967296) * (y % 4294967296)) / 4294967296), uN ((x / 4294967296) * (y % 4294967296) + ((x % 4294967296) * (y % 4294967296)) / 4294967296), uN (((x / 4294967296) * (y % 4294967296) + ((x % 4294967296) * (y % 4294967296)) / 4294967296) % 4294967296), uN ((x / 4294967296) * (y % 4294967296) + ((x % 4294967296) * (y % 4294967296)) / 4294967296), uN (((x / 4294967296) * (y % 4294967296) + ((x % 4294967296) * (y % 4294967296)) / 4294967296) / 4294967296), uN (((x / 4294967296) * (y % 4294967296) + ((x % 4294967296) * (y % 4294967296)) / 4294967296) % 4294967296), uN (x % 4294967296), uN (y / 4294967296), uN ((x % 4294967296) * (y / 4294967296)), uN (((x / 4294967296) * (y % 4294967296) + ((x % 4294967296) * (y % 4294967296)) / 4294967296) % 4294967296 + (x % 4294967296) * (y / 4294967296)), uN (x / 4294967296), uN (y / 4294967296), uN ((x / 4294967296) * (y / 4294967296)), uN (((x / 4294967296) * (y % 4294967296) + ((x % 4294967296) * (y % 4294967296)) / 4294967296) / 4294967296), uN ((x / 4294967296) * (y / 4294967296) + ((x / 4294967296) * (y % 4294967296) + ((x % 4294967296) * (y % 4294967296)) / 4294967296) / 4294967296), uN (((x / 4294967296) * (y % 4294967296) + ((x % 4294967296) * (y % 4294967296)) / 4294967296) % 4294967296 + (x % 4294967296) * (y / 4294967296)), uN ((((x / 4294967296) * (y % 4294967296) + ((x % 4294967296) * (y % 4294967296)) / 4294967296) % 4294967296 + (x % 4294967296) * (y / 4294967296)) / 4294967296), uN (x * y / 18446744073709551616), uN x, uN y, uN (x * y % 18446744073709551616)], []⟩ <| then_n <| u_ <| so_ (.tuple #[.int .u64 ((x * y / 18446744073709551616 : Nat) : Int), .int .u64 ((x * y % 18446744073709551616 : Nat) : Int)]) ?_
  exact ⟨rfl, rfl⟩
noncomputable def qc54_1 (n : Nat) : Code := partOf Tryz.f79 n
theorem fxTimes_ok (x y : Nat) (hx : x < 18446744073709551616) (hy : y < 18446744073709551616) (w : World) :
    Calls Tryz.prog 79 #[.int .u64 ((x : Nat) : Int), .int .u64 ((y : Nat) : Int)] w (fun e w' => e = .returned (.agg #[.int .u64 ((x * y / 18446744073709551616 : Nat) : Int), .int .u64 ((x * y % 18446744073709551616 : Nat) : Int)]) ∧ Keeps Nob w w') := by
  have K0 : Keeps Nob w w := Keeps.refl _ _
  refine sy_enter (qc54_1 1) ⟨#[uN x, uN y, ud, ud, ud, ud, ud, ud, ud, ud, ud, ud, ud, ud, ud, ud], []⟩ Tryz.func79 (by kernel_rfl) (by kernel_rfl) <| qr_ [0] <| pal 123 (#[.int .u64 0, .int .u64 0]) (.agg (#[.int .u64 0, .int .u64 0])) fun V1 gw egw h2 kV1 => ?_
  have n3 : w.heap.size ≤ gw := egw ▸ K0.size
  have K4 := K0.nn kV1
  have z5 := kV1.size
  refine eqr_ [0, 1, 2, 3, 4, 5, 6, 7] <| pkq (uN x) <| pkq (uN y) ?_
  refine pcq 93 #[uN x, uN y] Tryz.func93 ((bMul64_ok x y hx hy _).mono ?_)
  rintro e w1 ⟨rfl, rfl⟩
  refine ⟨_, rfl, ?_⟩
  refine pkq (.tuple #[uN (x * y / 18446744073709551616), uN (x * y % 18446744073709551616)]) <| pkq (uN (x * y / 18446744073709551616)) <| pkq (uN (x * y % 18446744073709551616)) <| pkq (uN (x * y / 18446744073709551616)) <| pkq (uN (x * y % 18446744073709551616)) <| eqr_ [0, 1, 2, 3] <| pkq (uN (x * y / 18446744073709551616)) <| pkq (uN (x * y % 18446744073709551616)) <| pkq (.agg #[uN (x * y / 18446744073709551616), uN (x * y % 18446744073709551616)]) ?_
  obtain ⟨V6, eV6, kV6⟩ := rowset_step V1 gw (#[.int .u64 ((x * y / 18446744073709551616 : Nat) : Int), .int .u64 ((x * y % 18446744073709551616 : Nat) : Int)])
  have h7 : V6.heap[gw]? = some (.cells (#[.int .u64 ((x * y / 18446744073709551616 : Nat) : Int), .int .u64 ((x * y % 18446744073709551616 : Nat) : Int)]) 123 (0, 0)) := eV6 ▸ setRow_heap _ _ _ _ _ _ h2
  refine pzq (w' := V6) (by rw [← eV6]; exact exec_store_row 123 (.tmp 4) (.tmp 15) (by kernel_rfl) gw (#[uN (x * y / 18446744073709551616), uN (x * y % 18446744073709551616)]) (by kernel_rfl) (by kernel_rfl) 123 (#[.int .u64 0, .int .u64 0]) h2 (by kernel_rfl) rfl (by kernel_rfl)) ?_
  clear eV6
  have K8 := K4.nO kV6
  have z9 := kV6.size
  refine eu_ <| sy_out (.agg (#[.int .u64 ((x * y / 18446744073709551616 : Nat) : Int), .int .u64 ((x * y % 18446744073709551616 : Nat) : Int)])) rfl (results_cell_row (p := 4) (ty := 123) (by kernel_rfl) _ _ gw 123 (#[.int .u64 ((x * y / 18446744073709551616 : Nat) : Int), .int .u64 ((x * y % 18446744073709551616 : Nat) : Int)]) (0, 0) _ (by kernel_rfl) h7 Tryz.underlying123 rfl (by kernel_rfl)) ?_
  exact ⟨rfl, K8⟩
noncomputable def qc54_3 (n : Nat) : Code := partOf Tryz.f80 n
theorem fxOver_ok (hi lo c : Nat) (hhi : hi < 18446744073709551616) (hlo : lo < 18446744073709551616) (hc : 0 < c) (hc2 : c < 18446744073709551616) (w : World) :
    Calls Tryz.prog 80 #[.agg #[.int .u64 ((hi : Nat) : Int), .int .u64 ((lo : Nat) : Int)], .int .u64 ((c : Nat) : Int)] w (fun e w' => ∃ r : Nat, e = .returned (.tuple #[.agg #[.int .u64 ((hi / c : Nat) : Int), .int .u64 (((hi % c * 18446744073709551616 + lo) / c : Nat) : Int)], .int .u64 ((r : Nat) : Int)]) ∧ Keeps Nob w w') := by
  have K0 : Keeps Nob w w := Keeps.refl _ _
  refine sy_enter (qc54_3 1) ⟨#[.agg #[uN hi, uN lo], uN c, ud, ud, ud, ud, ud, ud, ud, ud, ud, ud, ud, ud, ud, ud, ud, ud, ud, ud, ud, ud, ud, ud, ud, ud], []⟩ Tryz.func80 (by kernel_rfl) (by kernel_rfl) <| qr_ [0, 1, 2] <| pbx 123 (#[.int .u64 ((hi : Nat) : Int), .int .u64 ((lo : Nat) : Int)]) (.agg #[uN hi, uN lo]) fun V1 gx egx h2 kV1 => ?_
  have n3 : w.heap.size ≤ gx := egx ▸ K0.size
  have K4 := K0.nn kV1
  have z5 := kV1.size
  refine pal 123 (#[.int .u64 0, .int .u64 0]) (.agg (#[.int .u64 0, .int .u64 0])) fun V6 gw egw h7 kV6 => ?_
  have n8 : gx < gw := egw ▸ lt_of_block h2
  have n9 : w.heap.size ≤ gw := egw ▸ K4.size
  have h10 := kV6.bk h2
  have K11 := K4.nn kV6
  have z12 := kV6.size
  refine pkq (.int .u64 0) <| eq_ <| sy_np <| sy_reg <| an_begin 1 13 (opsAt (qc54_3 6)) (fun W => (W.heap[gx]? = some (.cells (#[.int .u64 ((hi : Nat) : Int), .int .u64 ((lo : Nat) : Int)]) 123 (0, 0))) ∧ (W.heap[gw]? = some (.cells (#[.int .u64 0, .int .u64 0]) 123 (0, 0)))) #[false, false, false, false, false, false, false, false, false, false, false, false, false] (by kernel_rfl) (by kernel_rfl) (by kernel_rfl) (by kernel_rfl) ?_
  obtain ⟨V13, eV13, kV13⟩ := drew_step V6
  rw [eV13]
  clear eV13
  have h14 := kV13.bk h10
  have h15 := kV13.bk h7
  have K16 := K11.nn kV13
  have z17 := kV13.size
  refine akq 0 (pT gx 0) ⟨h14, h15⟩ <| avq 1 (uN hi) (fun W hS => ldc 40 gx 0 (rc (hS.1) (by kernel_rfl))) ⟨h14, h15⟩ <| akq 2 (uN c) ⟨h14, h15⟩ <| avq 3 (uN (hi % c)) (fun W hS => exec_remU 40 40 (.tmp 10) (.tmp 11) (by kernel_rfl) hi c (by kernel_rfl) (by kernel_rfl) hc hhi) ⟨h14, h15⟩ <| akq 4 (pT gx 1) ⟨h14, h15⟩ <| avq 5 (uN lo) (fun W hS => ldc 40 gx 1 (rc (hS.1) (by kernel_rfl))) ⟨h14, h15⟩ <| akq 6 (uN c) ⟨h14, h15⟩ <| an_o 7 ?_
  refine ncq 94 #[uN (hi % c), uN lo, uN c] Tryz.func94 ((bDiv64_ok (hi % c) lo c (Nat.mod_lt _ hc) hc2 hlo _).mono ?_)
  rintro e V18 ⟨r, rfl, kV18⟩
  refine ⟨_, rfl, ?_⟩
  have h19 := kV18.bk h14
  have h20 := kV18.bk h15
  have K21 := K16.nn kV18
  have z22 := kV18.size
  refine ⟨⟨h19, h20⟩, ?_⟩
  refine akq 8 (.tuple #[uN ((hi % c * 18446744073709551616 + lo) / c), uN r]) ⟨h19, h20⟩ <| akq 9 (uN ((hi % c * 18446744073709551616 + lo) / c)) ⟨h19, h20⟩ <| akq 10 (uN r) ⟨h19, h20⟩ <| an_o 11 <| nrq (uN ((hi % c * 18446744073709551616 + lo) / c)) (w' := V18) (by kernel_rfl) ?_
  refine ⟨⟨h19, h20⟩, ?_⟩
  refine an_o 12 <| nrq (uN r) (w' := V18) (by kernel_rfl) ?_
  refine ⟨⟨h19, h20⟩, ?_⟩
  refine an_end (by kernel_rfl) <| tqr_ [0, 1, 2, 3, 4, 5, 6, 7, 8] <| pkq (pT gx 0) <| ppq (uN hi) (ldk 40 gx 0 h19) <| pkq (uN c) <| ppq (uN (hi / c)) (exec_quoU 40 40 (.tmp 20) (.tmp 21) (by kernel_rfl) hi c (by kernel_rfl) (by kernel_rfl) hc hhi) <| pkq (uN ((hi % c * 18446744073709551616 + lo) / c)) <| pkq (.agg #[uN (hi / c), uN ((hi % c * 18446744073709551616 + lo) / c)]) <| pkq (uN r) ?_
  obtain ⟨V23, eV23, kV23⟩ := rowset_step V18 gw (#[.int .u64 ((hi / c : Nat) : Int), .int .u64 (((hi % c * 18446744073709551616 + lo) / c : Nat) : Int)])
  have h24 : V23.heap[gw]? = some (.cells (#[.int .u64 ((hi / c : Nat) : Int), .int .u64 (((hi % c * 18446744073709551616 + lo) / c : Nat) : Int)]) 123 (0, 0)) := eV23 ▸ setRow_heap _ _ _ _ _ _ h20
  refine pzq (w' := V23) (by rw [← eV23]; exact exec_store_row 123 (.tmp 4) (.tmp 24) (by kernel_rfl) gw (#[uN (hi / c), uN ((hi % c * 18446744073709551616 + lo) / c)]) (by kernel_rfl) (by kernel_rfl) 123 (#[.int .u64 0, .int .u64 0]) h20 (by kernel_rfl) rfl (by kernel_rfl)) ?_
  clear eV23
  have K26 := K21.nO kV23
  have z27 := kV23.size
  refine pkq (uN r) <| ps_end <| sy_a ⟨#[.agg #[uN hi, uN lo], uN c, pT gx 0, ud, pT gw 0, uN r, uN ((hi % c * 18446744073709551616 + lo) / c), uN r, .tuple #[uN ((hi % c * 18446744073709551616 + lo) / c), uN r], pT gx 0, uN hi, uN c, uN (hi % c), pT gx 1, uN lo, uN c, .tuple #[uN ((hi % c * 18446744073709551616 + lo) / c), uN r], uN ((hi % c * 18446744073709551616 + lo) / c), uN r, pT gx 0, uN hi, uN c, uN (hi / c), uN ((hi % c * 18446744073709551616 + lo) / c), .agg #[uN (hi / c), uN ((hi % c * 18446744073709551616 + lo) / c)], uN r], []⟩ <| then_n <| u_ <| sy_out (.tuple #[.agg (#[.int .u64 ((hi / c : Nat) : Int), .int .u64 (((hi % c * 18446744073709551616 + lo) / c : Nat) : Int)]), .int .u64 ((r : Nat) : Int)]) rfl (results_row_tmp (p := 4) (q := 5) (ty := 123) (by kernel_rfl) _ _ gw 123 (#[.int .u64 ((hi / c : Nat) : Int), .int .u64 (((hi % c * 18446744073709551616 + lo) / c : Nat) : Int)]) (0, 0) _ (.int .u64 ((r : Nat) : Int)) (by kernel_rfl) h24 Tryz.underlying123 rfl (by kernel_rfl) (by kernel_rfl)) ?_
  exact ⟨_, rfl, K26⟩
noncomputable def qc54_2 (n : Nat) : Code := partOf Tryz.f81 n
theorem fxBelow_ok (m hi lo : Nat) (hm : m < 18446744073709551616) (hhi : hi < 18446744073709551616) (hlo : lo < 18446744073709551616) (w : World) :
    Calls Tryz.prog 81 #[.agg #[.int .u64 0, .int .u64 ((m : Nat) : Int)], .agg #[.int .u64 ((hi : Nat) : Int), .int .u64 ((lo : Nat) : Int)]] w (fun e w' => e = .returned (.bool (decide (0 < hi ∨ m < lo))) ∧ Keeps Nob w w') := by
  obtain ⟨bo, hbo⟩ : ∃ z, (if m < lo + 0 then 1 else 0 : Nat) = z := ⟨_, rfl⟩
  have hb1 : bo ≤ 1 := by rw [← hbo]; split <;> omega
  obtain ⟨bp, hbp⟩ : ∃ z, (if 0 < hi + bo then 1 else 0 : Nat) = z := ⟨_, rfl⟩
  have hres : ((((bp : Nat) : Int)) == (1 : Int)) = decide (0 < hi ∨ m < lo) := by rw [← hbp, ← hbo]; by_cases q1 : m < lo <;> by_cases q2 : 0 < hi <;> simp [q1, q2]
  have K0 : Keeps Nob w w := Keeps.refl _ _
  refine sy_enter (qc54_2 1) ⟨#[.agg #[.int .u64 0, uN m], .agg #[uN hi, uN lo], ud, ud, ud, ud, ud, ud, ud, ud, ud, ud, ud, ud, ud, ud, ud, ud, ud, ud, ud, ud, ud, ud, ud, ud], []⟩ Tryz.func81 (by kernel_rfl) (by kernel_rfl) <| qr_ [0, 1, 2] <| pbx 123 (#[.int .u64 0, .int .u64 ((m : Nat) : Int)]) (.agg #[.int .u64 0, uN m]) fun V1 gx egx h2 kV1 => ?_
  have n3 : w.heap.size ≤ gx := egx ▸ K0.size
  have K4 := K0.nn kV1
  have z5 := kV1.size
  refine pbx 123 (#[.int .u64 ((hi : Nat) : Int), .int .u64 ((lo : Nat) : Int)]) (.agg #[uN hi, uN lo]) fun V6 gw egw h7 kV6 => ?_
  have n8 : gx < gw := egw ▸ lt_of_block h2
  have n9 : w.heap.size ≤ gw := egw ▸ K4.size
  have h10 := kV6.bk h2
  have K11 := K4.nn kV6
  have z12 := kV6.size
  refine pkq (.bool false) <| eqr_ [0, 1, 2, 3, 4, 5, 6, 7, 8, 9] <| pkq (pT gx 1) <| ppq (uN m) (ldk 40 gx 1 h10) <| pkq (pT gw 1) <| ppq (uN lo) (ldk 40 gw 1 h7) <| ppq (.tuple #[uN ((m + 18446744073709551616 - lo - 0) % 18446744073709551616), uN (if m < lo + 0 then 1 else 0)]) (exec_ext 95 #[uN m, uN lo, .int .u64 0] _ (by kernel_rfl) (by kernel_rfl) (by kernel_rfl) (run_bSub64 m lo 0 (by decide) _)) <| pkq (.tuple #[uN ((m + 18446744073709551616 - lo - 0) % 18446744073709551616), uN (if m < lo + 0 then 1 else 0)]) <| pkq (uN ((m + 18446744073709551616 - lo - 0) % 18446744073709551616)) <| ppq (uN bo) (exec_cast (congrArg (fun n : Nat => Value.int .u64 (n : Int)) hbo) (by kernel_rfl)) <| pkq (uN ((m + 18446744073709551616 - lo - 0) % 18446744073709551616)) <| pkq (uN bo) <| eqr_ [0, 1, 2, 3, 4, 5, 6, 7, 8, 9] <| pkq (pT gx 0) ?_
  refine ppq (.int .u64 0) (ldk 40 gx 0 h10) <| pkq (pT gw 0) <| ppq (uN hi) (ldk 40 gw 0 h7) <| pkq (uN bo) <| ppq (.tuple #[uN ((0 + 18446744073709551616 - hi - bo) % 18446744073709551616), uN (if 0 < hi + bo then 1 else 0)]) (exec_ext 95 #[.int .u64 0, uN hi, uN bo] _ (by kernel_rfl) (by kernel_rfl) (by kernel_rfl) (run_bSub64 0 hi bo hb1 _)) <| pkq (.tuple #[uN ((0 + 18446744073709551616 - hi - bo) % 18446744073709551616), uN (if 0 < hi + bo then 1 else 0)]) <| pkq (uN ((0 + 18446744073709551616 - hi - bo) % 18446744073709551616)) <| ppq (uN bp) (exec_cast (congrArg (fun n : Nat => Value.int .u64 (n : Int)) hbp) (by kernel_rfl)) <| pkq (uN bp) <| eqr_ [0, 1, 2] <| pkq (uN bp) <| ppq (.bool (decide (0 < hi ∨ m < lo))) (exec_cast (congrArg Value.bool hres) (by kernel_rfl)) <| pkq (.bool (decide (0 < hi ∨ m < lo))) <| ps_end ?_
  refine sy_a ⟨#[.agg #[.int .u64 0, uN m], .agg #[uN hi, uN lo], pT gx 0, pT gw 0, .bool (decide (0 < hi ∨ m < lo)), uN ((m + 18446744073709551616 - lo - 0) % 18446744073709551616), uN bp, .tuple #[uN ((m + 18446744073709551616 - lo - 0) % 18446744073709551616), uN (if m < lo + 0 then 1 else 0)], pT gx 1, uN m, pT gw 1, uN lo, .tuple #[uN ((m + 18446744073709551616 - lo - 0) % 18446744073709551616), uN (if m < lo + 0 then 1 else 0)], uN ((m + 18446744073709551616 - lo - 0) % 18446744073709551616), uN bo, .tuple #[uN ((0 + 18446744073709551616 - hi - bo) % 18446744073709551616), uN (if 0 < hi + bo then 1 else 0)], pT gx 0, .int .u64 0, pT gw 0, uN hi, uN bo, .tuple #[uN ((0 + 18446744073709551616 - hi - bo) % 18446744073709551616), uN (if 0 < hi + bo then 1 else 0)], uN ((0 + 18446744073709551616 - hi - bo) % 18446744073709551616), uN bp, uN bp, .bool (decide (0 < hi ∨ m < lo))], []⟩ <| then_n <| u_ <| so_ (.bool (decide (0 < hi ∨ m < lo))) ?_
  exact ⟨rfl, K11⟩
theorem over_is {qh ql q1 q2 : Nat} {args : Array Value} {w : World} (h1 : q1 = qh) (h2 : q2 = ql) (h : Calls Tryz.prog 80 args w (fun e w' => ∃ r : Nat, e = .returned (.tuple #[.agg #[.int .u64 ((q1 : Nat) : Int), .int .u64 ((q2 : Nat) : Int)], .int .u64 ((r : Nat) : Int)]) ∧ Keeps Nob w w')) : Calls Tryz.prog 80 args w (fun e w' => ∃ r : Nat, e = .returned (.tuple #[.agg #[.int .u64 ((qh : Nat) : Int), .int .u64 ((ql : Nat) : Int)], .int .u64 ((r : Nat) : Int)]) ∧ Keeps Nob w w') := h1 ▸ h2 ▸ h
theorem below_is {x : Bool} (y : Bool) {args : Array Value} {w : World} (h1 : x = y) (h : Calls Tryz.prog 81 args w (fun e w' => e = .returned (.bool x) ∧ Keeps Nob w w')) : Calls Tryz.prog 81 args w (fun e w' => e = .returned (.bool y) ∧ Keeps Nob w w') := h1 ▸ h
theorem cap_big {m t qh ql : Nat} {x : Value} (hqt : t = qh * 18446744073709551616 + ql) (hl : ql < 18446744073709551616) (h : 0 < qh ∨ m < ql) (hm : m < 18446744073709551616) : (Ending.returned (.tuple #[.int .u64 ((m : Nat) : Int), x])) = .returned (.tuple #[.int .u64 ((min m t : Nat) : Int), x]) := by
  rw [show min m t = m by omega]
theorem cap_small {m t qh ql : Nat} {x : Value} (hqt : t = qh * 18446744073709551616 + ql) (h : ¬ (0 < qh ∨ m < ql)) : (Ending.returned (.tuple #[.int .u64 ((ql : Nat) : Int), x])) = .returned (.tuple #[.int .u64 ((min m t : Nat) : Int), x]) := by
  rw [show min m t = ql by omega]
noncomputable def qc54_0 (n : Nat) : Code := partOf Tryz.f57 n
theorem fxCapped_big (m a b c qh ql : Nat) (hm : m < 18446744073709551616) (ha : a < 18446744073709551616) (hb : b < 18446744073709551616) (hc : 0 < c) (hc2 : c < 18446744073709551616) (hqh : a * b / 18446744073709551616 / c = qh) (hql : (a * b / 18446744073709551616 % c * 18446744073709551616 + a * b % 18446744073709551616) / c = ql) (hqt : a * b / c = qh * 18446744073709551616 + ql) (hqh2 : qh < 18446744073709551616) (hql2 : ql < 18446744073709551616) (hbig : 0 < qh ∨ m < ql) (w : World) :
    Calls Tryz.prog 57 #[.int .u64 ((m : Nat) : Int), .int .u64 ((a : Nat) : Int), .int .u64 ((b : Nat) : Int), .int .u64 ((c : Nat) : Int)] w (fun e w' => e = .returned (.tuple #[.int .u64 ((min m (a * b / c) : Nat) : Int), .int .i64 0]) ∧ Keeps Nob w w') := by
  have hab : a * b / 18446744073709551616 < 18446744073709551616 := by rw [Nat.div_lt_iff_lt_mul (by decide)]; exact Nat.mul_lt_mul'' ha hb
  have K0 : Keeps Nob w w := Keeps.refl _ _
  refine sy_enter (qc54_0 1) ⟨#[uN m, uN a, uN b, uN c, ud, ud, ud, ud, ud, ud, ud, ud, ud, ud, ud, ud, ud, ud, ud, ud, ud, ud, ud, ud, ud, ud, ud, ud, ud, ud, ud], []⟩ Tryz.func57 (by kernel_rfl) (by kernel_rfl) <| qr_ [0, 1] <| pkq (.int .u64 0) <| pkq (.int .i64 0) <| eq_ <| qr_ [0, 1] <| pkq (uN c) <| ppq (.bool false) (eqf (((c : Nat) : Int)) ((0) : Int) (by omega)) <| en_ <| s_ <| tqr_ [0, 1, 2, 3, 4, 5, 6, 7, 8, 9, 10] <| pkq (uN a) <| pkq (uN b) ?_
  refine pcq 79 #[uN a, uN b] Tryz.func79 ((fxTimes_ok a b ha hb _).mono ?_)
  rintro e V1 ⟨rfl, kV1⟩
  refine ⟨_, rfl, ?_⟩
  have K2 := K0.nn kV1
  have z3 := kV1.size
  refine pkq (uN c) ?_
  refine pcq 80 #[.agg #[uN (a * b / 18446744073709551616), uN (a * b % 18446744073709551616)], uN c] Tryz.func80 ((over_is hqh hql (fxOver_ok (a * b / 18446744073709551616) (a * b % 18446744073709551616) c hab (Nat.mod_lt _ (by decide)) hc hc2 _)).mono ?_)
  rintro e V4 ⟨r, rfl, kV4⟩
  refine ⟨_, rfl, ?_⟩
  have K5 := K2.nn kV4
  have z6 := kV4.size
  refine pkq (.tuple #[.agg #[uN qh, uN ql], uN r]) <| pkq (.agg #[uN qh, uN ql]) <| pkq (uN r) <| pal 123 (#[.int .u64 0, .int .u64 0]) (.agg (#[.int .u64 0, .int .u64 0])) fun V7 gw egw h8 kV7 => ?_
  have n9 : w.heap.size ≤ gw := egw ▸ K5.size
  have K10 := K5.nn kV7
  have z11 := kV7.size
  obtain ⟨V12, eV12, kV12⟩ := rowset_step V7 gw (#[.int .u64 ((qh : Nat) : Int), .int .u64 ((ql : Nat) : Int)])
  have h13 : V12.heap[gw]? = some (.cells (#[.int .u64 ((qh : Nat) : Int), .int .u64 ((ql : Nat) : Int)]) 123 (0, 0)) := eV12 ▸ setRow_heap _ _ _ _ _ _ h8
  refine pzq (w' := V12) (by rw [← eV12]; exact exec_store_row 123 (.tmp 10) (.tmp 20) (by kernel_rfl) gw (#[uN qh, uN ql]) (by kernel_rfl) (by kernel_rfl) 123 (#[.int .u64 0, .int .u64 0]) h8 (by kernel_rfl) rfl (by kernel_rfl)) ?_
  clear eV12
  have K14 := K10.nO kV12
  have z15 := kV12.size
  refine pkq (uN r) <| eq_ <| qr_ [0, 1, 2, 3] <| pkq (uN m) <| pkq (.agg #[.int .u64 0, uN m]) <| ppq (.agg #[uN qh, uN ql]) (ldr 123 gw (h13) (by kernel_rfl)) ?_
  refine pcq 81 #[.agg #[.int .u64 0, uN m], .agg #[uN qh, uN ql]] Tryz.func81 ((below_is true (decide_eq_true hbig) (fxBelow_ok m qh ql hm hqh2 hql2 _)).mono ?_)
  rintro e V16 ⟨rfl, kV16⟩
  refine ⟨_, rfl, ?_⟩
  have K18 := K14.nn kV16
  have z19 := kV16.size
  refine ey_ <| qr_ [0, 1, 2, 3] <| pkq (uN m) <| pkq (.int .i64 0) <| pkq (uN m) <| pkq (.int .i64 0) <| eu_ <| then_r <| so_ (.tuple #[.int .u64 ((m : Nat) : Int), .int .i64 0]) ?_
  exact ⟨cap_big hqt hql2 hbig hm, K18⟩
theorem fxCapped_small (m a b c qh ql : Nat) (hm : m < 18446744073709551616) (ha : a < 18446744073709551616) (hb : b < 18446744073709551616) (hc : 0 < c) (hc2 : c < 18446744073709551616) (hqh : a * b / 18446744073709551616 / c = qh) (hql : (a * b / 18446744073709551616 % c * 18446744073709551616 + a * b % 18446744073709551616) / c = ql) (hqt : a * b / c = qh * 18446744073709551616 + ql) (hqh2 : qh < 18446744073709551616) (hql2 : ql < 18446744073709551616) (hbig : ¬ (0 < qh ∨ m < ql)) (w : World) :
    Calls Tryz.prog 57 #[.int .u64 ((m : Nat) : Int), .int .u64 ((a : Nat) : Int), .int .u64 ((b : Nat) : Int), .int .u64 ((c : Nat) : Int)] w (fun e w' => e = .returned (.tuple #[.int .u64 ((min m (a * b / c) : Nat) : Int), .int .i64 0]) ∧ Keeps Nob w w') := by
  have hab : a * b / 18446744073709551616 < 18446744073709551616 := by rw [Nat.div_lt_iff_lt_mul (by decide)]; exact Nat.mul_lt_mul'' ha hb
  have K0 : Keeps Nob w w := Keeps.refl _ _
  refine sy_enter (qc54_0 1) ⟨#[uN m, uN a, uN b, uN c, ud, ud, ud, ud, ud, ud, ud, ud, ud, ud, ud, ud, ud, ud, ud, ud, ud, ud, ud, ud, ud, ud, ud, ud, ud, ud, ud], []⟩ Tryz.func57 (by kernel_rfl) (by kernel_rfl) <| qr_ [0, 1] <| pkq (.int .u64 0) <| pkq (.int .i64 0) <| eq_ <| qr_ [0, 1] <| pkq (uN c) <| ppq (.bool false) (eqf (((c : Nat) : Int)) ((0) : Int) (by omega)) <| en_ <| s_ <| tqr_ [0, 1, 2, 3, 4, 5, 6, 7, 8, 9, 10] <| pkq (uN a) <| pkq (uN b) ?_
  refine pcq 79 #[uN a, uN b] Tryz.func79 ((fxTimes_ok a b ha hb _).mono ?_)
  rintro e V1 ⟨rfl, kV1⟩
  refine ⟨_, rfl, ?_⟩
  have K2 := K0.nn kV1
  have z3 := kV1.size
  refine pkq (uN c) ?_
  refine pcq 80 #[.agg #[uN (a * b / 18446744073709551616), uN (a * b % 18446744073709551616)], uN c] Tryz.func80 ((over_is hqh hql (fxOver_ok (a * b / 18446744073709551616) (a * b % 18446744073709551616) c hab (Nat.mod_lt _ (by decide)) hc hc2 _)).mono ?_)
  rintro e V4 ⟨r, rfl, kV4⟩
  refine ⟨_, rfl, ?_⟩
  have K5 := K2.nn kV4
  have z6 := kV4.size
  refine pkq (.tuple #[.agg #[uN qh, uN ql], uN r]) <| pkq (.agg #[uN qh, uN ql]) <| pkq (uN r) <| pal 123 (#[.int .u64 0, .int .u64 0]) (.agg (#[.int .u64 0, .int .u64 0])) fun V7 gw egw h8 kV7 => ?_
  have n9 : w.heap.size ≤ gw := egw ▸ K5.size
  have K10 := K5.nn kV7
  have z11 := kV7.size
  obtain ⟨V12, eV12, kV12⟩ := rowset_step V7 gw (#[.int .u64 ((qh : Nat) : Int), .int .u64 ((ql : Nat) : Int)])
  have h13 : V12.heap[gw]? = some (.cells (#[.int .u64 ((qh : Nat) : Int), .int .u64 ((ql : Nat) : Int)]) 123 (0, 0)) := eV12 ▸ setRow_heap _ _ _ _ _ _ h8
  refine pzq (w' := V12) (by rw [← eV12]; exact exec_store_row 123 (.tmp 10) (.tmp 20) (by kernel_rfl) gw (#[uN qh, uN ql]) (by kernel_rfl) (by kernel_rfl) 123 (#[.int .u64 0, .int .u64 0]) h8 (by kernel_rfl) rfl (by kernel_rfl)) ?_
  clear eV12
  have K14 := K10.nO kV12
  have z15 := kV12.size
  refine pkq (uN r) <| eq_ <| qr_ [0, 1, 2, 3] <| pkq (uN m) <| pkq (.agg #[.int .u64 0, uN m]) <| ppq (.agg #[uN qh, uN ql]) (ldr 123 gw (h13) (by kernel_rfl)) ?_
  refine pcq 81 #[.agg #[.int .u64 0, uN m], .agg #[uN qh, uN ql]] Tryz.func81 ((below_is false (decide_eq_false hbig) (fxBelow_ok m qh ql hm hqh2 hql2 _)).mono ?_)
  rintro e V16 ⟨rfl, kV16⟩
  refine ⟨_, rfl, ?_⟩
  have h17 := kV16.bk h13
  have K18 := K14.nn kV16
  have z19 := kV16.size
  refine en_ <| s_ <| tqr_ [0, 1, 2, 3, 4] <| pkq (pT gw 1) <| ppq (uN ql) (ldk 40 gw 1 h17) <| pkq (.int .i64 0) <| pkq (uN ql) <| pkq (.int .i64 0) <| ps_end <| sy_a ⟨#[uN m, uN a, uN b, uN c, ud, ud, ud, ud, uN ql, .int .i64 0, pT gw 0, uN r, uN c, .bool false, .tuple #[.agg #[uN qh, uN ql], uN r], uN a, uN b, .agg #[uN (a * b / 18446744073709551616), uN (a * b % 18446744073709551616)], uN c, .tuple #[.agg #[uN qh, uN ql], uN r], .agg #[uN qh, uN ql], uN r, uN m, .agg #[.int .u64 0, uN m], .agg #[uN qh, uN ql], .bool false, ud, ud, pT gw 1, uN ql, .int .i64 0], []⟩ <| then_n <| u_ <| so_ (.tuple #[.int .u64 ((ql : Nat) : Int), .int .i64 0]) ?_
  exact ⟨cap_small hqt hbig, K18⟩
/-- Capped: the quotient of a product, at most m. -/
theorem fxCapped_ok (m a b c : Nat) (hm : m < 18446744073709551616) (ha : a < 18446744073709551616) (hb : b < 18446744073709551616) (hc : 0 < c) (hc2 : c < 18446744073709551616) (w : World) : Calls Tryz.prog 57 #[.int .u64 ((m : Nat) : Int), .int .u64 ((a : Nat) : Int), .int .u64 ((b : Nat) : Int), .int .u64 ((c : Nat) : Int)] w (fun e w' => e = .returned (.tuple #[.int .u64 ((min m (a * b / c) : Nat) : Int), .int .i64 0]) ∧ Keeps Nob w w') := by
  have hab : a * b / 18446744073709551616 < 18446744073709551616 := by rw [Nat.div_lt_iff_lt_mul (by decide)]; exact Nat.mul_lt_mul'' ha hb
  have hqt : a * b / c = a * b / 18446744073709551616 / c * 18446744073709551616 + (a * b / 18446744073709551616 % c * 18446744073709551616 + a * b % 18446744073709551616) / c := by
    rw [← over_law hc]; congr 1; have := Nat.div_add_mod (a * b) 18446744073709551616; omega
  have h1 : a * b / 18446744073709551616 / c < 18446744073709551616 := Nat.lt_of_le_of_lt (Nat.div_le_self _ _) hab
  have h2 := over_lt (hi := a * b / 18446744073709551616) (lo := a * b % 18446744073709551616) hc (Nat.mod_lt _ (by decide))
  by_cases hbig : 0 < a * b / 18446744073709551616 / c ∨ m < (a * b / 18446744073709551616 % c * 18446744073709551616 + a * b % 18446744073709551616) / c
  · exact fxCapped_big m a b c _ _ hm ha hb hc hc2 rfl rfl hqt h1 h2 hbig w
  · exact fxCapped_small m a b c _ _ hm ha hb hc hc2 rfl rfl hqt h1 h2 hbig w
end Go.Proofs.YtghohakbepeffaaGreatDoor
namespace Go.Proofs.YtghohakbepeffaaGreatDoor
set_option maxRecDepth 100000
set_option maxHeartbeats 4000000
open Go Go.RowKit Go.Own Go.Shelf
/-- A number's cell. -/
def Gc (n : Nat) : List Value := [.int .u64 ((n : Nat) : Int)]
end Go.Proofs.YtghohakbepeffaaGreatDoor
namespace Go.Proofs.YtghohakbepeffaaGreatDoor
set_option maxRecDepth 100000
set_option maxHeartbeats 4000000
open Go Go.RowKit Go.Own Go.Shelf Go.ChangeShapes
theorem open_words {H : Type} {enc : TypeId × Value → H} {W : World} {sp : Nat → Bool} {held : Bool} {v : Value} {d : DataW H} {ps : List MemPlace} (h : DataW.Trod enc Tryz.prog W 0 sp held 49 v d ps) (hv : ∃ a len cap, v = .slice a len cap) : ∃ l : List Nat, Sl W 1 Gc v l ∧ ∀ x ∈ l, x < 18446744073709551616 := by
  have hC : Tryz.prog.cellsOf 40 = 1 := by kernel_rfl
  obtain ⟨a, len, cap, rfl, hl, hm, hn, hi⟩ := open_elemsN Tryz.underlying49 (by rw [hC]; omega) h hv
  rw [hC] at hi
  obtain ⟨l, hll, hq⟩ := list_of (fun i (x : Nat) => x < 18446744073709551616 ∧ ∃ b o, a = some ⟨b, o, none⟩ ∧ W.cell? ⟨b, o + i, none⟩ = some (.int .u64 ((x : Nat) : Int))) len (fun i hlt => by
    obtain ⟨b, o, cs, n, y, ha, hcl, hcell, ht'⟩ := hi i hlt
    obtain ⟨q, e1, _, e3⟩ := DataW.trod_int Tryz.underlying40 ht'
    obtain ⟨c, hc, rfl⟩ := u64_nat e3
    have h0 := hcell 0 (by omega)
    rw [e1] at h0
    exact ⟨c, by omega, b, o, ha, by simpa using h0⟩)
  subst hll
  refine ⟨l, ⟨⟨a, cap, rfl, hl, hm, hn⟩, fun k x hk => ?_⟩, fun x hx => ?_⟩
  · obtain ⟨_, b, o, rfl, c0⟩ := hq k x hk
    refine ⟨b, o, cap, rfl, World.block_lt_of_cell? W _ c0, fun j u hj => ?_⟩
    cases j with
    | succ j => simp [Gc] at hj
    | zero =>
      simp only [Gc, List.getElem?_cons_zero, Option.some.injEq] at hj
      subst hj
      rw [Nat.mul_one]; exact c0
  · obtain ⟨k, hk⟩ := List.getElem?_of_mem hx
    exact (hq k x hk).1
end Go.Proofs.YtghohakbepeffaaGreatDoor
namespace Go.Proofs.YtghohakbepeffaaGreatDoor
set_option maxRecDepth 100000
set_option maxHeartbeats 4000000
open Go Go.RowKit Go.Own Go.Shelf
def mNote (a n : Nat) : Nt := ⟨((a + n % 30 : Nat) : Int), n / 30 % 4611686018427387905⟩
def mgo : List Nat → Nat → List Nt
  | [], _ => []
  | n :: r, a => mNote a n :: mgo r (a + n % 30)
def mAt : List Nat → Nat → Nat
  | [], a => a
  | n :: r, a => mAt r (a + n % 30)
theorem mgo_snoc (n : Nat) : ∀ (l : List Nat) (a : Nat), mgo (l ++ [n]) a = mgo l a ++ [mNote (mAt l a) n]
  | [], a => rfl
  | m :: r, a => by rw [List.cons_append, mgo, mgo, mgo_snoc n r, mAt]; rfl
theorem mAt_snoc (n : Nat) : ∀ (l : List Nat) (a : Nat), mAt (l ++ [n]) a = mAt l a + n % 30
  | [], a => rfl
  | m :: r, a => by rw [List.cons_append, mAt, mAt_snoc n r, mAt]
theorem mgo_len : ∀ (l : List Nat) (a : Nat), (mgo l a).length = l.length
  | [], _ => rfl
  | m :: r, a => by rw [mgo, List.length_cons, mgo_len r, List.length_cons]
theorem mAt_le : ∀ (l : List Nat) (a : Nat), a ≤ mAt l a ∧ mAt l a ≤ a + 29 * l.length
  | [], a => by simp [mAt]
  | m :: r, a => by
    have := mAt_le r (a + m % 30)
    rw [mAt, List.length_cons]; omega
theorem mlast (l : List Nat) (a : Nat) (y : Nt) (h : (mgo l a).getLast? = some y) : y.h ≤ ((mAt l a : Nat) : Int) := by
  rcases List.eq_nil_or_concat l with rfl | ⟨r, n, rfl⟩
  · cases h
  · rw [List.concat_eq_append] at h ⊢
    rw [mgo_snoc, List.getLast?_append, List.getLast?_singleton] at h
    simp only [Option.some_or, Option.some.injEq] at h
    subst h
    rw [mAt_snoc]; exact Int.le_refl _
theorem mNote_fine (l : List Nat) (n : Nat) (h : l.length ≤ 64) : ¬ (mNote (mAt l 1) n).bad := by
  have := mAt_le l 1
  unfold Nt.bad mNote
  simp only
  omega
theorem mmay (l : List Nat) (n : Nat) (h : l.length ≤ 64) : nmay (mNote (mAt l 1) n) (mgo l 1) = 0 := by
  unfold nmay
  rw [if_neg (mNote_fine l n h)]
  split
  · rename_i y hy
    have := mlast l 1 y hy
    rw [if_neg]
    unfold mNote
    simp only
    omega
  · rfl
theorem nchk_snoc (x : Nt) : ∀ (r a : List Nt), (nchk a r).1 = 0 → nmay x (a ++ r) = 0 → (nchk a (r ++ [x])).1 = 0
  | [], a, _, h => by rw [List.append_nil] at h; rw [List.nil_append, nchk, if_pos h]; rfl
  | y :: r, a, h1, h => by
    rw [nchk] at h1
    by_cases hy : nmay y a = 0
    · rw [if_pos hy] at h1
      rw [List.cons_append, nchk, if_pos hy]
      exact nchk_snoc x r (a ++ [y]) h1 (by rw [List.append_assoc]; exact h)
    · rw [if_neg hy] at h1; exact absurd h1 hy
theorem ncheck_snoc {a : List Nt} {x : Nt} (h : (ncheck a).1 = 0) (hl : a.length < 64) (hx : nmay x a = 0) : (ncheck (a ++ [x])).1 = 0 := by
  unfold ncheck at h ⊢
  rw [if_neg (by omega)] at h
  rw [if_neg (by rw [List.length_append, List.length_singleton]; omega)]
  exact nchk_snoc x a [] h (by rw [List.nil_append]; exact hx)
theorem mcheck (l : List Nat) : l.length ≤ 64 → (ncheck (mgo l 1)).1 = 0 := by
  induction h : l.length generalizing l with
  | zero => intro _; obtain rfl := List.eq_nil_of_length_eq_zero h; rfl
  | succ k ih =>
    intro hk
    rcases List.eq_nil_or_concat l with rfl | ⟨r, n, rfl⟩
    · cases h
    · rw [List.concat_eq_append] at h ⊢
      rw [List.length_append, List.length_singleton] at h
      rw [mgo_snoc]
      exact ncheck_snoc (ih r (by omega) (by omega)) (by rw [mgo_len]; omega) (mmay r n (by omega))
theorem madd {nums : List Nat} {i n : Nat} (h : nums[i]? = some n) (hi : i < 64) : nadd (mgo (nums.take i) 1) (mNote (mAt (nums.take i) 1) n) = (mgo (nums.take (i + 1)) 1, 0) := by
  have hl : (nums.take i).length ≤ 64 := by rw [List.length_take]; omega
  have hlt : i < nums.length := (List.getElem?_eq_some_iff.1 h).1
  rw [nadd_ok (mcheck _ hl) (mmay _ n hl) (by rw [mgo_len, List.length_take]; omega), List.take_add_one, h, Option.toList_some, mgo_snoc]
theorem mat_next {nums : List Nat} {i n : Nat} (h : nums[i]? = some n) : mAt (nums.take (i + 1)) 1 = mAt (nums.take i) 1 + n % 30 := by
  rw [List.take_add_one, h, Option.toList_some, mAt_snoc]
end Go.Proofs.YtghohakbepeffaaGreatDoor
namespace Go.Proofs.YtghohakbepeffaaGreatDoor
set_option maxRecDepth 100000
set_option maxHeartbeats 4000000
open Go Go.RowKit Go.Own Go.Shelf
theorem par_more {p : Par} (h : p.check.1 = 0) : (0 ≤ p.base ∧ p.base ≤ 1000000000) ∧ (0 ≤ p.mult ∧ p.mult ≤ 1000) := by
  have hg : ∀ j, j < 11 → p.good j := by
    intro j hj
    refine Classical.byContradiction fun hn => ?_
    unfold Par.check at h
    cases hf : (List.range 11).find? (fun i => decide (¬ p.good i)) with
    | some i => rw [hf] at h; cases h
    | none =>
      rw [List.find?_eq_none] at hf
      exact hf j (by simpa using hj) (by simpa using hn)
  have g1 := hg 7 (by decide)
  have g2 := hg 8 (by decide)
  exact ⟨g1, g2⟩
theorem noted_par {p : Par} {l : List Nt} {h : Int} (a : (nnoted p l h).2 = 0) : p.check.1 = 0 := by
  unfold nnoted at a
  by_cases c : nref p l h ≠ 0
  · rw [if_pos c] at a; exact absurd a c
  · exact (nref_zero (Classical.byContradiction c)).1
theorem noted_le (p : Par) (l : List Nt) (h : Int) : (nnoted p l h).1 ≤ 4611686018427387904 := by
  unfold nnoted; split
  · exact Nat.zero_le _
  · exact nsum_le _
theorem nnoted_is {x n : Nat} {y r : Int} {args : Array Value} {w : World} (h1 : x = n) (h2 : y = r) (h : Calls Tryz.prog 29 args w (fun e w' => e = .returned (.tuple #[.int .u64 ((x : Nat) : Int), .int .i64 y]) ∧ Keeps Nob w w')) : Calls Tryz.prog 29 args w (fun e w' => e = .returned (.tuple #[.int .u64 ((n : Nat) : Int), .int .i64 r]) ∧ Keeps Nob w w') := h1 ▸ h2 ▸ h
theorem capped_is {x n : Nat} {args : Array Value} {w : World} (h1 : x = n) (h : Calls Tryz.prog 57 args w (fun e w' => e = .returned (.tuple #[.int .u64 ((x : Nat) : Int), .int .i64 0]) ∧ Keeps Nob w w')) : Calls Tryz.prog 57 args w (fun e w' => e = .returned (.tuple #[.int .u64 ((n : Nat) : Int), .int .i64 0]) ∧ Keeps Nob w w') := h1 ▸ h
noncomputable def qc58_0 (n : Nat) : Code := partOf Tryz.f28 n
theorem nFrac_err (p : Par) (hp : p.Ok) (l : List Nt) (v : Value) (h : Int) (hh1 : i64ok h) (s t : Nat) (hs : s < 18446744073709551616) (ht : t < 18446744073709551616) (w : World) (hl : Sl w 2 Nt.cl v l) (rf : Int) (n : Nat) (hn : (nnoted p l h).1 = n) (hrf : (nnoted p l h).2 = rf) (h0 : ¬ rf = 0) (het : ErrTab w) :
    Calls Tryz.prog 28 #[.agg p.cells, v, .int .i64 h, .int .u64 ((s : Nat) : Int), .int .u64 ((t : Nat) : Int)] w (fun e w' => e = .returned (.tuple #[.int .u64 (((nfrac p l h s t).1 : Nat) : Int), .int .i64 (nfrac p l h s t).2]) ∧ Keeps Nob w w') := by
  have K0 : Keeps Nob w w := Keeps.refl _ _
  refine sy_enter (qc58_0 1) ⟨#[.agg p.cells, v, .int .i64 h, uN s, uN t, ud, ud, ud, ud, ud, ud, ud, ud, ud, ud, ud, ud, ud, ud, ud, ud, ud, ud, ud, ud, ud, ud, ud, ud, ud, ud, ud, ud, ud, ud, ud, ud, ud, ud, ud, ud, ud, ud, ud, ud, ud, ud, ud, ud, ud, ud, ud, ud, ud, ud, ud], []⟩ Tryz.func28 (by kernel_rfl) (by kernel_rfl) <| qr_ [0, 1, 2] <| pbx 51 p.cells (.agg p.cells) fun V1 gp egp h2 kV1 => ?_
  have n3 : w.heap.size ≤ gp := egp ▸ K0.size
  have h4 : Sl V1 2 Nt.cl v l := hl.keepsN kV1
  have K5 := K0.nn kV1
  have z6 := kV1.size
  refine pkq (.int .u64 0) <| pkq (.int .i64 0) <| eqr_ [0, 1, 2, 3, 4, 5, 6, 7, 8] <| ppq (.agg (p.cells)) (ldr 51 gp (h2) (by kernel_rfl)) <| pkq (v) <| pkq (.int .i64 h) ?_
  refine pcq 29 #[.agg (p.cells), v, .int .i64 h] Tryz.func29 ((nnoted_is hn hrf (nNoted_all p hp l v h hh1 _ h4 (ErrTab.keeps het K5))).mono ?_)
  rintro e V7 ⟨rfl, kV7⟩
  refine ⟨_, rfl, ?_⟩
  have K10 := K5.nn kV7
  have z11 := kV7.size
  refine pkq (.tuple #[uN n, .int .i64 rf]) <| pkq (uN n) <| pkq (.int .i64 rf) <| pkq (uN n) <| pkq (.int .i64 rf) <| eq_ <| bl_ 0 <| qr_ [0, 1, 2] <| pkq (.int .i64 rf) <| ppq (.bool true) (nqt ((rf) : Int) ((0) : Int) (by omega)) <| pkq (.bool true) <| ey_ <| qr_ [0, 1, 2] <| pkq (.int .i64 rf) ?_
  refine pkq (.int .u64 0) <| pkq (.int .i64 rf) <| eu_ <| blk_r <| then_r <| so_ (.tuple #[.int .u64 0, .int .i64 rf]) ?_
  exact ⟨by unfold nfrac; rw [hrf, if_pos h0]; rfl, K10⟩
theorem nFrac_over1 (p : Par) (hp : p.Ok) (l : List Nt) (v : Value) (h : Int) (hh1 : i64ok h) (s t : Nat) (hs : s < 18446744073709551616) (ht : t < 18446744073709551616) (w : World) (hl : Sl w 2 Nt.cl v l) (n bs m f : Nat) (hn : (nnoted p l h).1 = n) (hrf : (nnoted p l h).2 = 0) (hn2 : n ≤ 4611686018427387904) (hbs : p.base = ((bs : Nat) : Int)) (hm : p.mult = ((m : Nat) : Int)) (hbl : bs ≤ 1000000000) (hml : m ≤ 1000) (hf : min 1000000000 (m * 1000000000 * (min (n + s) 4611686018427387904) / t) = f) (hq : 4611686018427387904 < s) (het : ErrTab w) :
    Calls Tryz.prog 28 #[.agg p.cells, v, .int .i64 h, .int .u64 ((s : Nat) : Int), .int .u64 ((t : Nat) : Int)] w (fun e w' => e = .returned (.tuple #[.int .u64 (((nfrac p l h s t).1 : Nat) : Int), .int .i64 (nfrac p l h s t).2]) ∧ Keeps Nob w w') := by
  have K0 : Keeps Nob w w := Keeps.refl _ _
  refine sy_enter (qc58_0 1) ⟨#[.agg p.cells, v, .int .i64 h, uN s, uN t, ud, ud, ud, ud, ud, ud, ud, ud, ud, ud, ud, ud, ud, ud, ud, ud, ud, ud, ud, ud, ud, ud, ud, ud, ud, ud, ud, ud, ud, ud, ud, ud, ud, ud, ud, ud, ud, ud, ud, ud, ud, ud, ud, ud, ud, ud, ud, ud, ud, ud, ud], []⟩ Tryz.func28 (by kernel_rfl) (by kernel_rfl) <| qr_ [0, 1, 2] <| pbx 51 p.cells (.agg p.cells) fun V1 gp egp h2 kV1 => ?_
  have n3 : w.heap.size ≤ gp := egp ▸ K0.size
  have h4 : Sl V1 2 Nt.cl v l := hl.keepsN kV1
  have K5 := K0.nn kV1
  have z6 := kV1.size
  refine pkq (.int .u64 0) <| pkq (.int .i64 0) <| eqr_ [0, 1, 2, 3, 4, 5, 6, 7, 8] <| ppq (.agg (p.cells)) (ldr 51 gp (h2) (by kernel_rfl)) <| pkq (v) <| pkq (.int .i64 h) ?_
  refine pcq 29 #[.agg (p.cells), v, .int .i64 h] Tryz.func29 ((nnoted_is hn hrf (nNoted_all p hp l v h hh1 _ h4 (ErrTab.keeps het K5))).mono ?_)
  rintro e V7 ⟨rfl, kV7⟩
  refine ⟨_, rfl, ?_⟩
  have K10 := K5.nn kV7
  have z11 := kV7.size
  refine pkq (.tuple #[uN n, .int .i64 0]) <| pkq (uN n) <| pkq (.int .i64 0) <| pkq (uN n) <| pkq (.int .i64 0) <| eq_ <| bl_ 0 <| qr_ [0, 1, 2] <| pkq (.int .i64 0) <| pkq (.bool false) <| pkq (.bool false) <| en_ <| qr_ [0, 1, 2, 3, 4, 5, 6] <| pkq (uN s) ?_
  refine ppq (.bool true) (dct ((((s : Nat) : Int)) > ((4611686018427387904) : Int)) (by omega)) <| pkq (.bool true) <| pnq <| pnq <| pkq (.bool true) <| pkq (.bool true) <| ey_ <| qr_ [0, 1] <| pkq (.int .u64 0) <| pkq (.int .i64 12) <| ps_end <| sy_a ⟨#[.agg p.cells, v, .int .i64 h, uN s, uN t, pT gp 0, ud, ud, ud, ud, .int .u64 0, .int .i64 12, uN n, .int .i64 0, ud, .tuple #[uN n, .int .i64 0], .agg (p.cells), v, .int .i64 h, .tuple #[uN n, .int .i64 0], uN n, .int .i64 0, .bool false, .int .i64 0, .bool false, ud, .bool true, uN s, .bool true, .bool true, ud, ud, .bool true, ud, ud, ud, ud, ud, ud, ud, ud, ud, ud, ud, ud, ud, ud, ud, ud, ud, ud, ud, ud, ud, ud, ud], []⟩ <| then_n <| u_ ?_
  refine blk_r <| then_r <| so_ (.tuple #[.int .u64 0, .int .i64 12]) ?_
  exact ⟨by unfold nfrac; rw [hrf, if_neg (by decide), if_pos (.inl hq)]; rfl, K10⟩
theorem nFrac_over2 (p : Par) (hp : p.Ok) (l : List Nt) (v : Value) (h : Int) (hh1 : i64ok h) (s t : Nat) (hs : s < 18446744073709551616) (ht : t < 18446744073709551616) (w : World) (hl : Sl w 2 Nt.cl v l) (n bs m f : Nat) (hn : (nnoted p l h).1 = n) (hrf : (nnoted p l h).2 = 0) (hn2 : n ≤ 4611686018427387904) (hbs : p.base = ((bs : Nat) : Int)) (hm : p.mult = ((m : Nat) : Int)) (hbl : bs ≤ 1000000000) (hml : m ≤ 1000) (hf : min 1000000000 (m * 1000000000 * (min (n + s) 4611686018427387904) / t) = f) (hq : ¬ 4611686018427387904 < s) (hq2 : 4611686018427387904 < t) (het : ErrTab w) :
    Calls Tryz.prog 28 #[.agg p.cells, v, .int .i64 h, .int .u64 ((s : Nat) : Int), .int .u64 ((t : Nat) : Int)] w (fun e w' => e = .returned (.tuple #[.int .u64 (((nfrac p l h s t).1 : Nat) : Int), .int .i64 (nfrac p l h s t).2]) ∧ Keeps Nob w w') := by
  have K0 : Keeps Nob w w := Keeps.refl _ _
  refine sy_enter (qc58_0 1) ⟨#[.agg p.cells, v, .int .i64 h, uN s, uN t, ud, ud, ud, ud, ud, ud, ud, ud, ud, ud, ud, ud, ud, ud, ud, ud, ud, ud, ud, ud, ud, ud, ud, ud, ud, ud, ud, ud, ud, ud, ud, ud, ud, ud, ud, ud, ud, ud, ud, ud, ud, ud, ud, ud, ud, ud, ud, ud, ud, ud, ud], []⟩ Tryz.func28 (by kernel_rfl) (by kernel_rfl) <| qr_ [0, 1, 2] <| pbx 51 p.cells (.agg p.cells) fun V1 gp egp h2 kV1 => ?_
  have n3 : w.heap.size ≤ gp := egp ▸ K0.size
  have h4 : Sl V1 2 Nt.cl v l := hl.keepsN kV1
  have K5 := K0.nn kV1
  have z6 := kV1.size
  refine pkq (.int .u64 0) <| pkq (.int .i64 0) <| eqr_ [0, 1, 2, 3, 4, 5, 6, 7, 8] <| ppq (.agg (p.cells)) (ldr 51 gp (h2) (by kernel_rfl)) <| pkq (v) <| pkq (.int .i64 h) ?_
  refine pcq 29 #[.agg (p.cells), v, .int .i64 h] Tryz.func29 ((nnoted_is hn hrf (nNoted_all p hp l v h hh1 _ h4 (ErrTab.keeps het K5))).mono ?_)
  rintro e V7 ⟨rfl, kV7⟩
  refine ⟨_, rfl, ?_⟩
  have K10 := K5.nn kV7
  have z11 := kV7.size
  refine pkq (.tuple #[uN n, .int .i64 0]) <| pkq (uN n) <| pkq (.int .i64 0) <| pkq (uN n) <| pkq (.int .i64 0) <| eq_ <| bl_ 0 <| qr_ [0, 1, 2] <| pkq (.int .i64 0) <| pkq (.bool false) <| pkq (.bool false) <| en_ <| qr_ [0, 1, 2, 3, 4, 5, 6] <| pkq (uN s) ?_
  refine ppq (.bool false) (dcf ((((s : Nat) : Int)) > ((4611686018427387904) : Int)) (by omega)) <| pkq (.bool false) <| pkq (uN t) <| ppq (.bool true) (dct ((((t : Nat) : Int)) > ((4611686018427387904) : Int)) (by omega)) <| pkq (.bool true) <| pkq (.bool true) <| ey_ <| qr_ [0, 1] <| pkq (.int .u64 0) <| pkq (.int .i64 12) <| ps_end <| sy_a ⟨#[.agg p.cells, v, .int .i64 h, uN s, uN t, pT gp 0, ud, ud, ud, ud, .int .u64 0, .int .i64 12, uN n, .int .i64 0, ud, .tuple #[uN n, .int .i64 0], .agg (p.cells), v, .int .i64 h, .tuple #[uN n, .int .i64 0], uN n, .int .i64 0, .bool false, .int .i64 0, .bool false, ud, .bool true, uN s, .bool false, .bool false, uN t, .bool true, .bool true, ud, ud, ud, ud, ud, ud, ud, ud, ud, ud, ud, ud, ud, ud, ud, ud, ud, ud, ud, ud, ud, ud, ud], []⟩ <| then_n <| u_ ?_
  refine blk_r <| then_r <| so_ (.tuple #[.int .u64 0, .int .i64 12]) ?_
  exact ⟨by unfold nfrac; rw [hrf, if_neg (by decide), if_pos (.inr hq2)]; rfl, K10⟩
theorem nFrac_zero (p : Par) (hp : p.Ok) (l : List Nt) (v : Value) (h : Int) (hh1 : i64ok h) (s t : Nat) (hs : s < 18446744073709551616) (ht : t < 18446744073709551616) (w : World) (hl : Sl w 2 Nt.cl v l) (n bs m f : Nat) (hn : (nnoted p l h).1 = n) (hrf : (nnoted p l h).2 = 0) (hn2 : n ≤ 4611686018427387904) (hbs : p.base = ((bs : Nat) : Int)) (hm : p.mult = ((m : Nat) : Int)) (hbl : bs ≤ 1000000000) (hml : m ≤ 1000) (hf : min 1000000000 (m * 1000000000 * (min (n + s) 4611686018427387904) / t) = f) (hq : ¬ 4611686018427387904 < s) (hq2 : t = 0) (het : ErrTab w) :
    Calls Tryz.prog 28 #[.agg p.cells, v, .int .i64 h, .int .u64 ((s : Nat) : Int), .int .u64 ((t : Nat) : Int)] w (fun e w' => e = .returned (.tuple #[.int .u64 (((nfrac p l h s t).1 : Nat) : Int), .int .i64 (nfrac p l h s t).2]) ∧ Keeps Nob w w') := by
  have K0 : Keeps Nob w w := Keeps.refl _ _
  refine sy_enter (qc58_0 1) ⟨#[.agg p.cells, v, .int .i64 h, uN s, uN t, ud, ud, ud, ud, ud, ud, ud, ud, ud, ud, ud, ud, ud, ud, ud, ud, ud, ud, ud, ud, ud, ud, ud, ud, ud, ud, ud, ud, ud, ud, ud, ud, ud, ud, ud, ud, ud, ud, ud, ud, ud, ud, ud, ud, ud, ud, ud, ud, ud, ud, ud], []⟩ Tryz.func28 (by kernel_rfl) (by kernel_rfl) <| qr_ [0, 1, 2] <| pbx 51 p.cells (.agg p.cells) fun V1 gp egp h2 kV1 => ?_
  have n3 : w.heap.size ≤ gp := egp ▸ K0.size
  have h4 : Sl V1 2 Nt.cl v l := hl.keepsN kV1
  have K5 := K0.nn kV1
  have z6 := kV1.size
  refine pkq (.int .u64 0) <| pkq (.int .i64 0) <| eqr_ [0, 1, 2, 3, 4, 5, 6, 7, 8] <| ppq (.agg (p.cells)) (ldr 51 gp (h2) (by kernel_rfl)) <| pkq (v) <| pkq (.int .i64 h) ?_
  refine pcq 29 #[.agg (p.cells), v, .int .i64 h] Tryz.func29 ((nnoted_is hn hrf (nNoted_all p hp l v h hh1 _ h4 (ErrTab.keeps het K5))).mono ?_)
  rintro e V7 ⟨rfl, kV7⟩
  refine ⟨_, rfl, ?_⟩
  have h9 := kV7.bk h2
  have K10 := K5.nn kV7
  have z11 := kV7.size
  refine pkq (.tuple #[uN n, .int .i64 0]) <| pkq (uN n) <| pkq (.int .i64 0) <| pkq (uN n) <| pkq (.int .i64 0) <| eq_ <| bl_ 0 <| qr_ [0, 1, 2] <| pkq (.int .i64 0) <| pkq (.bool false) <| pkq (.bool false) <| en_ <| qr_ [0, 1, 2, 3, 4, 5, 6] <| pkq (uN s) ?_
  refine ppq (.bool false) (dcf ((((s : Nat) : Int)) > ((4611686018427387904) : Int)) (by omega)) <| pkq (.bool false) <| pkq (uN t) <| ppq (.bool false) (dcf ((((t : Nat) : Int)) > ((4611686018427387904) : Int)) (by omega)) <| pkq (.bool false) <| pkq (.bool false) <| en_ <| qr_ [0, 1, 2] <| pkq (uN t) <| ppq (.bool true) (eqt (((t : Nat) : Int)) ((0) : Int) (by omega)) <| pkq (.bool true) <| ps_end <| sy_a ⟨#[.agg p.cells, v, .int .i64 h, uN s, uN t, pT gp 0, ud, ud, ud, ud, .int .u64 0, .int .i64 0, uN n, .int .i64 0, ud, .tuple #[uN n, .int .i64 0], .agg (p.cells), v, .int .i64 h, .tuple #[uN n, .int .i64 0], uN n, .int .i64 0, .bool false, .int .i64 0, .bool false, ud, .bool false, uN s, .bool false, .bool false, uN t, .bool false, .bool false, .bool true, uN t, .bool true, ud, ud, ud, ud, ud, ud, ud, ud, ud, ud, ud, ud, ud, ud, ud, ud, ud, ud, ud, ud], []⟩ <| then_n ?_
  refine y_ <| qr_ [0, 1, 2, 3] <| pkq (pT gp 7) <| ppq (uN bs) (exec_cast (congrArg (Value.int .u64) hbs) (ldc 40 gp 7 (rc (h9) (rfl)))) <| pkq (uN bs) <| pkq (.int .i64 0) <| eu_ <| blk_r <| then_r <| so_ (.tuple #[.int .u64 ((bs : Nat) : Int), .int .i64 0]) ?_
  exact ⟨by unfold nfrac; rw [hrf, if_neg (by decide), if_neg (by omega), if_pos hq2, hbs]; rfl, K10⟩
theorem nFrac_ok (p : Par) (hp : p.Ok) (l : List Nt) (v : Value) (h : Int) (hh1 : i64ok h) (s t : Nat) (hs : s < 18446744073709551616) (ht : t < 18446744073709551616) (w : World) (hl : Sl w 2 Nt.cl v l) (n bs m f : Nat) (hn : (nnoted p l h).1 = n) (hrf : (nnoted p l h).2 = 0) (hn2 : n ≤ 4611686018427387904) (hbs : p.base = ((bs : Nat) : Int)) (hm : p.mult = ((m : Nat) : Int)) (hbl : bs ≤ 1000000000) (hml : m ≤ 1000) (hf : min 1000000000 (m * 1000000000 * (min (n + s) 4611686018427387904) / t) = f) (hq : ¬ 4611686018427387904 < s) (hq2 : ¬ 4611686018427387904 < t) (hq3 : ¬ t = 0) (het : ErrTab w) :
    Calls Tryz.prog 28 #[.agg p.cells, v, .int .i64 h, .int .u64 ((s : Nat) : Int), .int .u64 ((t : Nat) : Int)] w (fun e w' => e = .returned (.tuple #[.int .u64 (((nfrac p l h s t).1 : Nat) : Int), .int .i64 (nfrac p l h s t).2]) ∧ Keeps Nob w w') := by
  have hf2 : f ≤ 1000000000 := by rw [← hf]; exact Nat.min_le_left _ _
  have K0 : Keeps Nob w w := Keeps.refl _ _
  refine sy_enter (qc58_0 1) ⟨#[.agg p.cells, v, .int .i64 h, uN s, uN t, ud, ud, ud, ud, ud, ud, ud, ud, ud, ud, ud, ud, ud, ud, ud, ud, ud, ud, ud, ud, ud, ud, ud, ud, ud, ud, ud, ud, ud, ud, ud, ud, ud, ud, ud, ud, ud, ud, ud, ud, ud, ud, ud, ud, ud, ud, ud, ud, ud, ud, ud], []⟩ Tryz.func28 (by kernel_rfl) (by kernel_rfl) <| qr_ [0, 1, 2] <| pbx 51 p.cells (.agg p.cells) fun V1 gp egp h2 kV1 => ?_
  have n3 : w.heap.size ≤ gp := egp ▸ K0.size
  have h4 : Sl V1 2 Nt.cl v l := hl.keepsN kV1
  have K5 := K0.nn kV1
  have z6 := kV1.size
  refine pkq (.int .u64 0) <| pkq (.int .i64 0) <| eqr_ [0, 1, 2, 3, 4, 5, 6, 7, 8] <| ppq (.agg (p.cells)) (ldr 51 gp (h2) (by kernel_rfl)) <| pkq (v) <| pkq (.int .i64 h) ?_
  refine pcq 29 #[.agg (p.cells), v, .int .i64 h] Tryz.func29 ((nnoted_is hn hrf (nNoted_all p hp l v h hh1 _ h4 (ErrTab.keeps het K5))).mono ?_)
  rintro e V7 ⟨rfl, kV7⟩
  refine ⟨_, rfl, ?_⟩
  have h9 := kV7.bk h2
  have K10 := K5.nn kV7
  have z11 := kV7.size
  refine pkq (.tuple #[uN n, .int .i64 0]) <| pkq (uN n) <| pkq (.int .i64 0) <| pkq (uN n) <| pkq (.int .i64 0) <| eq_ <| bl_ 0 <| qr_ [0, 1, 2] <| pkq (.int .i64 0) <| pkq (.bool false) <| pkq (.bool false) <| en_ <| qr_ [0, 1, 2, 3, 4, 5, 6] <| pkq (uN s) ?_
  refine ppq (.bool false) (dcf ((((s : Nat) : Int)) > ((4611686018427387904) : Int)) (by omega)) <| pkq (.bool false) <| pkq (uN t) <| ppq (.bool false) (dcf ((((t : Nat) : Int)) > ((4611686018427387904) : Int)) (by omega)) <| pkq (.bool false) <| pkq (.bool false) <| en_ <| qr_ [0, 1, 2] <| pkq (uN t) <| ppq (.bool false) (eqf (((t : Nat) : Int)) ((0) : Int) (by omega)) <| pkq (.bool false) <| ps_end <| sy_a ⟨#[.agg p.cells, v, .int .i64 h, uN s, uN t, pT gp 0, ud, ud, ud, ud, .int .u64 0, .int .i64 0, uN n, .int .i64 0, ud, .tuple #[uN n, .int .i64 0], .agg (p.cells), v, .int .i64 h, .tuple #[uN n, .int .i64 0], uN n, .int .i64 0, .bool false, .int .i64 0, .bool false, ud, .bool false, uN s, .bool false, .bool false, uN t, .bool false, .bool false, .bool false, uN t, .bool false, ud, ud, ud, ud, ud, ud, ud, ud, ud, ud, ud, ud, ud, ud, ud, ud, ud, ud, ud, ud], []⟩ <| then_n ?_
  refine n_ <| s_ <| blk_n <| tqr_ [0, 1, 2, 3, 4, 5, 6, 7, 8, 9, 10, 11, 12, 13] <| pkq (pT gp 8) <| ppq (uN m) (exec_cast (congrArg (Value.int .u64) hm) (ldc 40 gp 8 (rc (h9) (rfl)))) <| ppq (uN (m * 1000000000)) (exec_cast (congrArg (Value.int .u64) (wrapU (m * 1000000000) (by omega))) (by kernel_rfl)) <| pkq (uN n) <| pkq (uN s) <| ppq (uN (n + s)) (exec_cast (congrArg (Value.int .u64) (wrapU (n + s) (by omega))) (by kernel_rfl)) <| ppq (uN (min (n + s) 4611686018427387904)) (exec_cast (congrArg (Value.int .u64) (nat_min (n + s) 4611686018427387904)) (nexec_min (.tmp 44) (.const (.int .u64 4611686018427387904)) #[40, 40] (by kernel_rfl) .u64 ((n + s : Nat) : Int) 4611686018427387904 (by kernel_rfl) (by kernel_rfl))) <| pkq (uN t) ?_
  refine pcq 57 #[.int .u64 1000000000, uN (m * 1000000000), uN (min (n + s) 4611686018427387904), uN t] Tryz.func57 ((capped_is hf (fxCapped_ok 1000000000 (m * 1000000000) (min (n + s) 4611686018427387904) t (by decide) (by omega) (by omega) (by omega) (by omega) _)).mono ?_)
  rintro e V12 ⟨rfl, kV12⟩
  refine ⟨_, rfl, ?_⟩
  have h14 := kV12.bk h9
  have K15 := K10.nn kV12
  have z16 := kV12.size
  refine pkq (.tuple #[uN f, .int .i64 0]) <| pkq (uN f) <| pkq (.int .i64 0) <| pkq (uN f) <| pkq (.int .i64 0) <| eqr_ [0, 1, 2, 3, 4, 5, 6, 7] <| pkq (uN f) <| pkq (pT gp 7) <| ppq (uN bs) (exec_cast (congrArg (Value.int .u64) hbs) (ldc 40 gp 7 (rc (h14) (rfl)))) <| ppq (uN (f + bs)) (exec_cast (congrArg (Value.int .u64) (wrapU (f + bs) (by omega))) (by kernel_rfl)) <| ppq (uN (min (f + bs) 1000000000)) (exec_cast (congrArg (Value.int .u64) (nat_min (f + bs) 1000000000)) (nexec_min (.tmp 53) (.const (.int .u64 1000000000)) #[40, 40] (by kernel_rfl) .u64 ((f + bs : Nat) : Int) 1000000000 (by kernel_rfl) (by kernel_rfl))) <| pkq (.int .i64 0) <| pkq (uN (min (f + bs) 1000000000)) <| pkq (.int .i64 0) ?_
  refine eu_ <| so_ (.tuple #[.int .u64 ((min (f + bs) 1000000000 : Nat) : Int), .int .i64 0]) ?_
  exact ⟨by unfold nfrac ncap; rw [hrf, if_neg (by decide), if_neg (by omega), if_neg hq3, hbs, hm, hn, Int.toNat_natCast, Int.toNat_natCast, hf], K15⟩
theorem nFrac_all (p : Par) (hp : p.Ok) (l : List Nt) (v : Value) (h : Int) (hh1 : i64ok h) (s t : Nat) (hs : s < 18446744073709551616) (ht : t < 18446744073709551616) (w : World) (hl : Sl w 2 Nt.cl v l) (het : ErrTab w) : Calls Tryz.prog 28 #[.agg p.cells, v, .int .i64 h, .int .u64 ((s : Nat) : Int), .int .u64 ((t : Nat) : Int)] w (fun e w' => e = .returned (.tuple #[.int .u64 (((nfrac p l h s t).1 : Nat) : Int), .int .i64 (nfrac p l h s t).2]) ∧ Keeps Nob w w') := by
  by_cases hrf : (nnoted p l h).2 = 0
  · obtain ⟨⟨b1, b2⟩, m1, m2⟩ := par_more (noted_par hrf)
    have hb : p.base = ((p.base.toNat : Nat) : Int) := by omega
    have hm : p.mult = ((p.mult.toNat : Nat) : Int) := by omega
    by_cases hq : 4611686018427387904 < s
    · exact nFrac_over1 p hp l v h hh1 s t hs ht w hl _ _ _ _ rfl hrf (noted_le p l h) hb hm (by omega) (by omega) rfl hq het
    · by_cases hq2 : 4611686018427387904 < t
      · exact nFrac_over2 p hp l v h hh1 s t hs ht w hl _ _ _ _ rfl hrf (noted_le p l h) hb hm (by omega) (by omega) rfl hq hq2 het
      · by_cases hq3 : t = 0
        · exact nFrac_zero p hp l v h hh1 s t hs ht w hl _ _ _ _ rfl hrf (noted_le p l h) hb hm (by omega) (by omega) rfl hq hq3 het
        · exact nFrac_ok p hp l v h hh1 s t hs ht w hl _ _ _ _ rfl hrf (noted_le p l h) hb hm (by omega) (by omega) rfl hq hq2 hq3 het
  · exact nFrac_err p hp l v h hh1 s t hs ht w hl _ _ rfl rfl hrf het
end Go.Proofs.YtghohakbepeffaaGreatDoor
namespace Go.Proofs.YtghohakbepeffaaGreatDoor
set_option maxRecDepth 100000
set_option maxHeartbeats 4000000
open Go Go.RowKit Go.Own Go.Shelf
theorem nq_int {d : Nat} {f : Field} {fs : List Field} {xs ys : Array Value} {k : IntKind} {a b : Int} (w : World) (hf : f.name ≠ "_") (ht : Tryz.prog.underlying f.type = some (.int k)) (hp : Tryz.prog.plainKey f.type = true) (hx : xs[f.offset]? = some (.int k a)) (hy : ys[f.offset]? = some (.int k b)) :
    (Op.eqFields (d + 1) xs ys (f :: fs)).run Tryz.prog w = if a = b then (Op.eqFields (d + 1) xs ys fs).run Tryz.prog w else .ok false w := by
  conv => lhs; unfold Op.eqFields
  rw [if_pos hf]
  simp only [Sem.run_bind, run_part_plain w hp hx, run_part_plain w hp hy, Result.andThen_ok, run_equalIn_int w d f.type k k a b ht]
  by_cases h : a = b
  · simp [h]
  · simp [h]
theorem note_guard : Tryz.prog.eqGuardType Tryz.prog.depth 46 = false := by kernel_rfl
theorem note_equal (x y : Nt) (w : World) : (Op.equalIn 10000 46 (.agg x.c) (.agg y.c)).run Tryz.prog w = .ok (decide (x = y)) w := by
  rw [run_equalIn_struct w 9999 46 _ _ (by kernel_rfl) (by kernel_rfl)]
  simp only [Program.fieldsOf, Tryz.underlying46]
  rw [nq_int (d := 9998) (k := .i64) (a := x.h) (b := y.h) w (by decide) Tryz.underlying3 (by kernel_rfl) rfl rfl, nq_int (d := 9998) (k := .u64) (a := ((x.s : Nat) : Int)) (b := ((y.s : Nat) : Int)) w (by decide) Tryz.underlying40 (by kernel_rfl) rfl rfl]
  simp only [Op.eqFields, Sem.run_pure]
  obtain ⟨a0, a1⟩ := x
  obtain ⟨b0, b1⟩ := y
  simp only [Nt.mk.injEq]
  by_cases h0 : a0 = b0
  · by_cases h1 : a1 = b1 <;> simp [h0, h1, Int.natCast_inj]
  · simp [h0]
theorem note_eq (x y : Nt) (w : World) : (binOp .eql 46 (.agg x.c) (.agg y.c)).run Tryz.prog w = .ok (.bool (decide (x = y))) w := by rw [run_eql_struct, note_equal]; rfl
theorem nsame_step {l m : List Nt} (hl : l.length = m.length) {k : Nat} {x y : Nt} (hx : l[k]? = some x) (hy : m[k]? = some y) (h : l.take k = m.take k) : (l.take (k + 1) = m.take (k + 1)) ↔ x = y := by
  rw [List.take_add_one, List.take_add_one, hx, hy, h]
  constructor
  · intro h2; have := List.append_cancel_left h2; simpa using this
  · intro h2; rw [h2]
theorem nsame_cases (l m : List Nt) (k : Nat) (bb : Bool) (hlen : l.length = m.length) (hk : k ≤ l.length) (hb : bb = decide (l.take k = m.take k)) :
    (bb = true ∧ k < l.length ∧ ∀ x y, l[k]? = some x → m[k]? = some y → x = y) ∨ (bb = true ∧ k < l.length ∧ ∀ x y, l[k]? = some x → m[k]? = some y → x ≠ y) ∨ (bb = true ∧ k = l.length ∧ l = m) ∨ (bb = false ∧ l ≠ m) := by
  cases bb with
  | false => exact .inr (.inr (.inr ⟨rfl, fun e => by subst e; simp at hb⟩))
  | true =>
    have ht : l.take k = m.take k := of_decide_eq_true hb.symm
    by_cases hlt : k < l.length
    · by_cases h : l[k]? = m[k]?
      · exact .inl ⟨rfl, hlt, fun x y hx hy => by rw [hx, hy] at h; exact Option.some.inj h⟩
      · exact .inr (.inl ⟨rfl, hlt, fun x y hx hy e => h (by rw [hx, hy, e])⟩)
    · have hk2 : k = l.length := by omega
      refine .inr (.inr (.inl ⟨rfl, hk2, ?_⟩))
      rwa [List.take_of_length_le (by omega), List.take_of_length_le (by omega)] at ht
theorem notes_block {w : World} {g n cap : Nat} {xs : List Nt} {T : TypeId} (h : w.heap[g]? = some (.cells (xs.flatMap Nt.cl).toArray T (0, 0))) (hn : xs.length = n) (hc : n ≤ cap) (hm : cap ≤ 1000) : Sl w 2 Nt.cl (.slice (some ⟨g, 0, none⟩) n cap) xs := by
  subst hn
  exact ⟨⟨_, _, rfl, hc, by unfold maxLen; omega, fun h => by cases h⟩, fun k x hx => ⟨g, 0, _, rfl, lt_of_block h, fun j u hj => by
    rw [Nat.zero_add]
    exact rc h (by rw [List.getElem?_toArray]; exact flat_get (s := 2) (fun _ _ => rfl) k x hx j u hj)⟩⟩
noncomputable def qc59_1 (n : Nat) : Code := partOf Tryz.f17 n
noncomputable abbrev qo59_1 (n k : Nat) : Oper := (opsAt (qc59_1 n)).getD k default
theorem kSameNotes_len (va vb : Value) (l m : List Nt) (w : World) (Ha : Sl w 2 Nt.cl va l) (Hb : Sl w 2 Nt.cl vb m) (hne : l.length ≠ m.length) :
    Calls Tryz.prog 17 #[va, vb] w (fun e w' => e = .returned (.bool (false)) ∧ Keeps Nob w w') := by
  have hll := Ha.len_le
  have hml := Hb.len_le
  have K0 : Keeps Nob w w := Keeps.refl _ _
  refine sy_enter (qc59_1 1) ⟨#[va, vb, ud, ud, ud, ud, ud, ud, ud, ud, ud, ud, ud, ud, ud, ud, ud, ud, ud, ud, ud, ud, ud, ud, ud, ud, ud, ud, ud, ud, ud], []⟩ Tryz.func17 (by kernel_rfl) (by kernel_rfl) <| qr_ [0] <| pkq (.bool false) <| eqr_ [0, 1, 2, 3, 4, 5] <| pkq (va) <| ppq (iN l.length) (exec_len_sl (.tmp 7) 22 46 (by kernel_rfl) Tryz.underlying22 (by kernel_rfl) Ha) <| pkq (vb) <| ppq (iN m.length) (exec_len_sl (.tmp 9) 22 46 (by kernel_rfl) Tryz.underlying22 (by kernel_rfl) Hb) <| ppq (.bool false) (eqf (((l.length : Nat) : Int)) (((m.length : Nat) : Int)) (by omega)) <| pkq (.bool false) <| eq_ <| qr_ [0] <| pkq (.int .i64 0) <| et_ ?_
  refine bl_ 0 <| sy_rounds 1 (qc59_1 116) (by kernel_rfl) <| rd_step <| q_ <| qr_ [0, 1, 2, 3, 4, 5, 6] <| pkq (.bool false) <| pkq (.bool false) <| pnq <| pnq <| pnq <| pnq <| pkq (.bool false) <| en_ <| sy_exit 0 (by kernel_rfl) ?_
  refine then_e <| then_e <| blk_e <| tqr_ [0, 1] <| pkq (.bool false) <| pkq (.bool false) <| eu_ <| so_ (.bool false) ?_
  exact ⟨rfl, K0⟩
theorem kSameNotes_eq (va vb : Value) (l m : List Nt) (w : World) (Ha : Sl w 2 Nt.cl va l) (Hb : Sl w 2 Nt.cl vb m) (hlen : l.length = m.length) :
    Calls Tryz.prog 17 #[va, vb] w (fun e w' => e = .returned (.bool (decide (l = m))) ∧ Keeps Nob w w') := by
  have hll := Ha.len_le
  have hml := Hb.len_le
  have K0 : Keeps Nob w w := Keeps.refl _ _
  refine sy_enter (qc59_1 1) ⟨#[va, vb, ud, ud, ud, ud, ud, ud, ud, ud, ud, ud, ud, ud, ud, ud, ud, ud, ud, ud, ud, ud, ud, ud, ud, ud, ud, ud, ud, ud, ud], []⟩ Tryz.func17 (by kernel_rfl) (by kernel_rfl) <| qr_ [0] <| pkq (.bool false) <| eqr_ [0, 1, 2, 3, 4, 5] <| pkq (va) <| ppq (iN l.length) (exec_len_sl (.tmp 7) 22 46 (by kernel_rfl) Tryz.underlying22 (by kernel_rfl) Ha) <| pkq (vb) <| ppq (iN m.length) (exec_len_sl (.tmp 9) 22 46 (by kernel_rfl) Tryz.underlying22 (by kernel_rfl) Hb) <| ppq (.bool true) (eqt (((l.length : Nat) : Int)) (((m.length : Nat) : Int)) (by omega)) <| pkq (.bool true) <| eq_ <| qr_ [0] <| pkq (.int .i64 0) <| et_ ?_
  refine bl_ 0 ?_
  refine sy_loop (qc59_1 116) (fun a V => ∃ (k : Nat) (bb : Bool) (u12 u13 u14 u15 u16 u17 u18 u19 u20 u21 u22 u23 u24 u25 u26 u27 u28 u29 : Value), (a = ⟨#[va, vb, ud, ud, .bool false, .bool bb, iN k, va, iN l.length, vb, iN m.length, .bool true, u12, u13, u14, u15, u16, u17, u18, u19, u20, u21, u22, u23, u24, u25, u26, u27, u28, u29, ud], []⟩) ∧ (k ≤ l.length) ∧ (bb = decide (l.take k = m.take k)) ∧ (Sl V 2 Nt.cl va l) ∧ (Sl V 2 Nt.cl vb m) ∧ (Keeps Nob w V)) (fun a _ => l.length - (intOf (a.tmps.getD 6 undef)).toNat) (by kernel_rfl) ?_ ?_
  · exact ⟨0, true, undef, undef, undef, undef, undef, undef, undef, undef, undef, undef, undef, undef, undef, undef, undef, undef, undef, undef, by kernel_rfl, Nat.zero_le _, rfl, Ha, Hb, K0⟩
  · rintro a V1 ⟨k, bb, u12, u13, u14, u15, u16, u17, u18, u19, u20, u21, u22, u23, u24, u25, u26, u27, u28, u29, rfl, hk, hb, h2, h3, K4⟩
    rcases nsame_cases l m k bb hlen hk hb with ⟨rfl, hlt, hx0⟩ | ⟨rfl, hlt, hx0⟩ | ⟨rfl, heq, ht⟩ | ⟨rfl, hf⟩
    · obtain ⟨x, hx⟩ : ∃ x, l[k]? = some x := ⟨_, List.getElem?_eq_getElem hlt⟩
      obtain ⟨y, hy⟩ : ∃ y, m[k]? = some y := ⟨_, List.getElem?_eq_getElem (by omega)⟩
      obtain ⟨b_a, o_a, c_a, hv_a, hb_a, _⟩ := (h2).at_ k _ hx
      obtain ⟨b_b, o_b, c_b, hv_b, hb_b, _⟩ := (h3).at_ k _ hy
      skip
      have hxy := hx0 x y hx hy
      refine q_ <| qr_ [0, 1, 2, 3, 4, 5, 6] <| pkq (.bool true) <| pkq (.bool true) <| pkq (iN k) <| pkq (va) <| ppq (iN l.length) (exec_len_sl (.tmp 15) 22 46 (by kernel_rfl) Tryz.underlying22 (by kernel_rfl) h2) <| ppq (.bool true) (dct ((((k : Nat) : Int)) < (((l.length : Nat) : Int))) (by omega)) <| pkq (.bool true) <| ey_ <| s_ <| tq_ <| bl_ 1 <| sy_reg ?_
      refine rg_still 5 9 (opsAt (qc59_1 932)) [qo59_1 932 0, qo59_1 932 1, qo59_1 932 2, qo59_1 932 3, qo59_1 932 4, qo59_1 932 5, qo59_1 932 6, qo59_1 932 7, qo59_1 932 8] [qo59_1 932 9] (by kernel_rfl) (by kernel_rfl) (by kernel_rfl) (by kernel_rfl) (by kernel_rfl) ?_
      obtain ⟨V6, eV6, kV6⟩ := drew_step V1
      rw [eV6]
      clear eV6
      have h7 : Sl V6 2 Nt.cl va l := h2.keepsN kV6
      have h8 : Sl V6 2 Nt.cl vb m := h3.keepsN kV6
      have K9 := K4.nn kV6
      refine skq (va) <| skq (iN k) <| spq (pT b_a (o_a + k * 2)) (exec_indexAt_slice 22 (.tmp 21) (.tmp 22) (by kernel_rfl) b_a o_a l.length c_a (Eq.trans (b := va) (by kernel_rfl) hv_a) .i64 k (by kernel_rfl) _ 2 Tryz.underlying22 (by kernel_rfl) (by omega)) <| spq (.agg x.c) (exec_load_mid 46 (.tmp 23) (by kernel_rfl) b_a (o_a + k * 2) (by kernel_rfl) (Nt.cl x) _ (Sl.range h7 hx hv_a) Tryz.underlying46 rfl (by kernel_rfl)) <| skq (vb) <| skq (iN k) <| spq (pT b_b (o_b + k * 2)) (exec_indexAt_slice 22 (.tmp 25) (.tmp 26) (by kernel_rfl) b_b o_b m.length c_b (Eq.trans (b := vb) (by kernel_rfl) hv_b) .i64 k (by kernel_rfl) _ 2 Tryz.underlying22 (by kernel_rfl) (by omega)) <| spq (.agg y.c) (exec_load_mid 46 (.tmp 27) (by kernel_rfl) b_b (o_b + k * 2) (by kernel_rfl) (Nt.cl y) _ (Sl.range h8 hy hv_b) Tryz.underlying46 rfl (by kernel_rfl)) <| spq (.bool true) (exec_cast (congrArg Value.bool (decide_eq_true hxy)) (exec_binop .eql 46 46 (.tmp 24) (.tmp 28) (by kernel_rfl) (.agg x.c) (.agg y.c) _ (by kernel_rfl) (by kernel_rfl) (run_eqGuard_agg _ _ _ _ _ _ _ note_guard) (note_eq _ _ _))) <| st_end <| ls_run (qo59_1 932 9) (.bool true) (w' := V6) (by kernel_rfl) (by kernel_rfl) <| ls_end <| blk_n <| tr_ [0, 1, 2] ?_
      refine pkq (iN k) <| ppq (iN (k + 1)) (exec_cast (congrArg (Value.int .i64) (wrapN (k + 1) (by omega))) (by kernel_rfl)) <| pkq (iN (k + 1)) <| et_ ?_
      refine ⟨⟨k + 1, true, (.bool true), (.bool true), (iN k), va, (iN l.length), (.bool true), (.bool true), (iN k), (iN (k + 1)), va, (iN k), (pT b_a (o_a + k * 2)), (.agg x.c), vb, (iN k), (pT b_b (o_b + k * 2)), (.agg y.c), (.bool true), by kernel_rfl, by omega, (by first | exact (decide_eq_true ((nsame_step hlen hx hy (of_decide_eq_true hb.symm)).2 hxy)).symm | exact (decide_eq_false (fun h => hxy ((nsame_step hlen hx hy (of_decide_eq_true hb.symm)).1 h))).symm), h7, h8, K9⟩, ?_⟩
      exact lt_meas (x := l.length - (k + 1)) (y := l.length - k) (by kernel_rfl) (by kernel_rfl) (by omega)
    · obtain ⟨x, hx⟩ : ∃ x, l[k]? = some x := ⟨_, List.getElem?_eq_getElem hlt⟩
      obtain ⟨y, hy⟩ : ∃ y, m[k]? = some y := ⟨_, List.getElem?_eq_getElem (by omega)⟩
      obtain ⟨b_a, o_a, c_a, hv_a, hb_a, _⟩ := (h2).at_ k _ hx
      obtain ⟨b_b, o_b, c_b, hv_b, hb_b, _⟩ := (h3).at_ k _ hy
      skip
      have hxy := hx0 x y hx hy
      refine q_ <| qr_ [0, 1, 2, 3, 4, 5, 6] <| pkq (.bool true) <| pkq (.bool true) <| pkq (iN k) <| pkq (va) <| ppq (iN l.length) (exec_len_sl (.tmp 15) 22 46 (by kernel_rfl) Tryz.underlying22 (by kernel_rfl) h2) <| ppq (.bool true) (dct ((((k : Nat) : Int)) < (((l.length : Nat) : Int))) (by omega)) <| pkq (.bool true) <| ey_ <| s_ <| tq_ <| bl_ 1 <| sy_reg ?_
      refine rg_still 5 9 (opsAt (qc59_1 932)) [qo59_1 932 0, qo59_1 932 1, qo59_1 932 2, qo59_1 932 3, qo59_1 932 4, qo59_1 932 5, qo59_1 932 6, qo59_1 932 7, qo59_1 932 8] [qo59_1 932 9] (by kernel_rfl) (by kernel_rfl) (by kernel_rfl) (by kernel_rfl) (by kernel_rfl) ?_
      obtain ⟨V11, eV11, kV11⟩ := drew_step V1
      rw [eV11]
      clear eV11
      have h12 : Sl V11 2 Nt.cl va l := h2.keepsN kV11
      have h13 : Sl V11 2 Nt.cl vb m := h3.keepsN kV11
      have K14 := K4.nn kV11
      refine skq (va) <| skq (iN k) <| spq (pT b_a (o_a + k * 2)) (exec_indexAt_slice 22 (.tmp 21) (.tmp 22) (by kernel_rfl) b_a o_a l.length c_a (Eq.trans (b := va) (by kernel_rfl) hv_a) .i64 k (by kernel_rfl) _ 2 Tryz.underlying22 (by kernel_rfl) (by omega)) <| spq (.agg x.c) (exec_load_mid 46 (.tmp 23) (by kernel_rfl) b_a (o_a + k * 2) (by kernel_rfl) (Nt.cl x) _ (Sl.range h12 hx hv_a) Tryz.underlying46 rfl (by kernel_rfl)) <| skq (vb) <| skq (iN k) <| spq (pT b_b (o_b + k * 2)) (exec_indexAt_slice 22 (.tmp 25) (.tmp 26) (by kernel_rfl) b_b o_b m.length c_b (Eq.trans (b := vb) (by kernel_rfl) hv_b) .i64 k (by kernel_rfl) _ 2 Tryz.underlying22 (by kernel_rfl) (by omega)) <| spq (.agg y.c) (exec_load_mid 46 (.tmp 27) (by kernel_rfl) b_b (o_b + k * 2) (by kernel_rfl) (Nt.cl y) _ (Sl.range h13 hy hv_b) Tryz.underlying46 rfl (by kernel_rfl)) <| spq (.bool false) (exec_cast (congrArg Value.bool (decide_eq_false hxy)) (exec_binop .eql 46 46 (.tmp 24) (.tmp 28) (by kernel_rfl) (.agg x.c) (.agg y.c) _ (by kernel_rfl) (by kernel_rfl) (run_eqGuard_agg _ _ _ _ _ _ _ note_guard) (note_eq _ _ _))) <| st_end <| ls_run (qo59_1 932 9) (.bool false) (w' := V11) (by kernel_rfl) (by kernel_rfl) <| ls_end <| blk_n <| tr_ [0, 1, 2] ?_
      refine pkq (iN k) <| ppq (iN (k + 1)) (exec_cast (congrArg (Value.int .i64) (wrapN (k + 1) (by omega))) (by kernel_rfl)) <| pkq (iN (k + 1)) <| et_ ?_
      refine ⟨⟨k + 1, false, (.bool true), (.bool true), (iN k), va, (iN l.length), (.bool true), (.bool true), (iN k), (iN (k + 1)), va, (iN k), (pT b_a (o_a + k * 2)), (.agg x.c), vb, (iN k), (pT b_b (o_b + k * 2)), (.agg y.c), (.bool false), by kernel_rfl, by omega, (by first | exact (decide_eq_true ((nsame_step hlen hx hy (of_decide_eq_true hb.symm)).2 hxy)).symm | exact (decide_eq_false (fun h => hxy ((nsame_step hlen hx hy (of_decide_eq_true hb.symm)).1 h))).symm), h12, h13, K14⟩, ?_⟩
      exact lt_meas (x := l.length - (k + 1)) (y := l.length - k) (by kernel_rfl) (by kernel_rfl) (by omega)
    · skip
      refine q_ <| qr_ [0, 1, 2, 3, 4, 5, 6] <| pkq (.bool true) <| pkq (.bool true) <| pkq (iN k) <| pkq (va) <| ppq (iN l.length) (exec_len_sl (.tmp 15) 22 46 (by kernel_rfl) Tryz.underlying22 (by kernel_rfl) h2) <| ppq (.bool false) (dcf ((((k : Nat) : Int)) < (((l.length : Nat) : Int))) (by omega)) <| pkq (.bool false) <| en_ <| sy_exit 0 (by kernel_rfl) <| then_e <| then_e <| blk_e ?_
      refine tqr_ [0, 1] <| pkq (.bool true) <| pkq (.bool true) <| eu_ <| so_ (.bool true) ?_
      exact ⟨by first | (rw [decide_eq_true (by first | exact ht | exact hf)]) | (rw [decide_eq_false (by first | exact ht | exact hf)]), K4⟩
    · skip
      refine q_ <| qr_ [0, 1, 2, 3, 4, 5, 6] <| pkq (.bool false) <| pkq (.bool false) <| pnq <| pnq <| pnq <| pnq <| pkq (.bool false) <| en_ <| sy_exit 0 (by kernel_rfl) <| then_e <| then_e <| blk_e ?_
      refine tqr_ [0, 1] <| pkq (.bool false) <| pkq (.bool false) <| eu_ <| so_ (.bool false) ?_
      exact ⟨by first | (rw [decide_eq_true (by first | exact ht | exact hf)]) | (rw [decide_eq_false (by first | exact ht | exact hf)]), K4⟩
theorem kSameNotes_ok (va vb : Value) (l m : List Nt) (w : World) (Ha : Sl w 2 Nt.cl va l) (Hb : Sl w 2 Nt.cl vb m) : Calls Tryz.prog 17 #[va, vb] w fun e w' => e = .returned (.bool (decide (l = m))) ∧ Keeps Nob w w' := by
  by_cases h : l.length = m.length
  · exact kSameNotes_eq va vb l m w Ha Hb h
  · rw [decide_eq_false (fun e => h (by rw [e]))]; exact kSameNotes_len va vb l m w Ha Hb h
theorem kSameNotes_is {va vb : Value} {l m : List Nt} (r : Bool) (w : World) (Ha : Sl w 2 Nt.cl va l) (Hb : Sl w 2 Nt.cl vb m) (h : decide (l = m) = r) : Calls Tryz.prog 17 #[va, vb] w fun e w' => e = .returned (.bool r) ∧ Keeps Nob w w' := h ▸ kSameNotes_ok va vb l m w Ha Hb
def ntwo : List Nt := [⟨10, 100⟩, ⟨40, 200⟩]
def parDef : Par := ⟨100, 100, 10, 8, 7, 8, 20, 50000000, 3, 50, 100000000⟩
theorem parDef_Ok : parDef.Ok := by constructor <;> (simp only [parDef, i64ok, u64ok]; omega)
noncomputable def qc59_8 (n : Nat) : Code := partOf Tryz.f21 n
theorem lntwo_ok (w : World) :
    Calls Tryz.prog 21 #[] w (fun e w' => ∃ g, e = .returned (.slice (some ⟨g, 0, none⟩) 2 2) ∧ w'.heap[g]? = some (.cells (ntwo.flatMap Nt.cl).toArray 46 (0, 0)) ∧ w.heap.size ≤ g ∧ Keeps Nob w w') := by
  have K0 : Keeps Nob w w := Keeps.refl _ _
  refine sy_enter (qc59_8 1) ⟨#[ud, ud, ud, ud], []⟩ Tryz.func21 (by kernel_rfl) (by kernel_rfl) <| qr_ [0] <| pkq (.slice none 0 0) <| eqr_ [0, 1, 2, 3] <| pkq (.agg #[.int .i64 10, .int .u64 100]) <| pkq (.agg #[.int .i64 40, .int .u64 200]) ?_
  obtain ⟨V1, eV1, gq, egq, h2, kV1⟩ := alloc_step w #[.int .i64 10, .int .u64 100, .int .i64 40, .int .u64 200] 46
  have n3 : w.heap.size ≤ gq := egq ▸ K0.size
  refine prq (.slice (some ⟨gq, 0, none⟩) 2 2) (w' := V1) (by rw [← eV1, ← egq]; kernel_rfl) ?_
  clear eV1
  have h4 : V1.heap[gq]? = some (.cells ((ntwo.flatMap Nt.cl).toArray) 46 (0, 0)) := h2
  have K5 := K0.nn kV1
  have z6 := kV1.size
  refine pkq (.slice (some ⟨gq, 0, none⟩) 2 2) <| eu_ <| so_ (.slice (some ⟨gq, 0, none⟩) 2 2) ?_
  exact ⟨gq, rfl, h4, by omega, K5⟩
noncomputable def qc59_3 (n : Nat) : Code := partOf Tryz.f53 n
theorem pDefault_ok (w : World) :
    Calls Tryz.prog 53 #[] w (fun e w' => e = .returned (.agg parDef.cells) ∧ Keeps Nob w w') := by
  have K0 : Keeps Nob w w := Keeps.refl _ _
  refine sy_enter (qc59_3 1) ⟨#[ud, ud], []⟩ Tryz.func53 (by kernel_rfl) (by kernel_rfl) <| qr_ [0] <| pal 51 (#[.int .i64 0, .int .i64 0, .int .i64 0, .int .i64 0, .int .i64 0, .int .i64 0, .int .i64 0, .int .u64 0, .int .u64 0, .int .i64 0, .int .u64 0]) (.agg (#[.int .i64 0, .int .i64 0, .int .i64 0, .int .i64 0, .int .i64 0, .int .i64 0, .int .i64 0, .int .u64 0, .int .u64 0, .int .i64 0, .int .u64 0])) fun V1 g eg h2 kV1 => ?_
  have n3 : w.heap.size ≤ g := eg ▸ K0.size
  have K4 := K0.nn kV1
  have z5 := kV1.size
  refine eqr_ [0, 1] <| pkq (.agg parDef.cells) <| pst 51 g parDef.cells h2 (by kernel_rfl) rfl (by kernel_rfl) fun V6 h7 kV6 => ?_
  have K8 := K4.nO kV6
  have z9 := kV6.size
  refine eu_ <| sy_out (.agg parDef.cells) rfl (results_cell_row (p := 0) (ty := 51) (by kernel_rfl) _ _ g 51 parDef.cells (0, 0) _ (by kernel_rfl) h7 Tryz.underlying51 rfl (by kernel_rfl)) ?_
  exact ⟨rfl, K8⟩
theorem two_all {w : World} {g : Nat} (h : w.heap[g]? = some (.cells (ntwo.flatMap Nt.cl).toArray 46 (0, 0))) : Sl w 2 Nt.cl (.slice (some ⟨g, 0, none⟩) 2 2) ntwo := notes_block h rfl (Nat.le_refl _) (by decide)
theorem two_none {w : World} {g : Nat} (h : w.heap[g]? = some (.cells (ntwo.flatMap Nt.cl).toArray 46 (0, 0))) : Sl w 2 Nt.cl (.slice (some ⟨g, 0, none⟩) 0 2) (ntwo.take 0) := (two_all h).take 0 (by decide) _ _ _ rfl
theorem two_last {w : World} {g : Nat} (h : w.heap[g]? = some (.cells (ntwo.flatMap Nt.cl).toArray 46 (0, 0))) : Sl w 2 Nt.cl (.slice (some ⟨g, 2, none⟩) 1 1) (ntwo.drop 1) := (two_all h).drop 1 (by decide) _ _ _ rfl
theorem Sl.to {w w' : World} {v : Value} {l : List Nt} (h : Sl w 2 Nt.cl v l) (k : Keeps Nob w w') : Sl w' 2 Nt.cl v l := h.keepsN k
noncomputable def qc59_6 (n : Nat) : Code := partOf Tryz.f18 n
theorem lnlive_a (w : World) (het : ErrTab w) :
    Calls Tryz.prog 18 #[.int .i64 59, .int .i64 0, .int .i64 2] w (fun e w' => e = .returned (.bool true) ∧ Keeps Nob w w') := by
  have K0 : Keeps Nob w w := Keeps.refl _ _
  refine sy_enter (qc59_6 1) ⟨#[.int .i64 59, .int .i64 0, .int .i64 2, ud, ud, ud, ud, ud, ud, ud, ud, ud, ud, ud, ud, ud, ud, ud, ud, ud, ud, ud, ud, ud, ud, ud], []⟩ Tryz.func18 (by kernel_rfl) (by kernel_rfl) <| qr_ [0] <| pkq (.bool false) <| eqr_ [0, 1, 2, 3, 4, 5, 6, 7, 8] ?_
  refine pcq 53 #[] Tryz.func53 ((pDefault_ok _).mono ?_)
  rintro e V1 ⟨rfl, kV1⟩
  refine ⟨_, rfl, ?_⟩
  have K2 := K0.nn kV1
  have z3 := kV1.size
  refine pcq 21 #[] Tryz.func21 ((lntwo_ok _).mono ?_)
  rintro e V4 ⟨ga, rfl, h5, nga, kV4⟩
  refine ⟨_, rfl, ?_⟩
  have K6 := K2.nn kV4
  have z7 := kV4.size
  refine pkq (.int .i64 59) ?_
  refine pcq 34 #[.agg parDef.cells, .slice (some ⟨ga, 0, none⟩) 2 2, .int .i64 59] Tryz.func34 ((live_is parDef parDef_Ok ntwo _ 59 (by unfold i64ok; omega) 0 ntwo _ (two_all h5) (ErrTab.keeps het K6) (by decide) (by decide)).mono ?_)
  rintro e V8 ⟨X, rfl, hX, hXn, kV8⟩
  have hXs := row_nts hX
  refine ⟨_, rfl, ?_⟩
  have K10 := K6.nn kV8
  have z11 := kV8.size
  refine pkq (.tuple #[X, .int .i64 0]) <| pkq (X) <| pkq (.int .i64 0) <| pkq (X) <| pkq (.int .i64 0) <| eqr_ [0, 1, 2, 3, 4, 5, 6, 7, 8, 9, 10] <| pkq (.int .i64 0) <| pkq (.bool true) <| pkq (.bool true) <| pkq (X) ?_
  refine pcq 21 #[] Tryz.func21 ((lntwo_ok _).mono ?_)
  rintro e V12 ⟨gb, rfl, h13, ngb, kV12⟩
  refine ⟨_, rfl, ?_⟩
  have h15 : Sl V12 2 Nt.cl X ntwo := hXs.keepsN kV12
  have K16 := K10.nn kV12
  have z17 := kV12.size
  refine pkq (.int .i64 0) <| pkq (.int .i64 2) <| pkq (.slice (some ⟨gb, 0, none⟩) 2 2) ?_
  refine pcq 17 #[X, .slice (some ⟨gb, 0, none⟩) 2 2] Tryz.func17 ((kSameNotes_is true _ h15 (two_all h13) (by decide)).mono ?_)
  rintro e V18 ⟨rfl, kV18⟩
  refine ⟨_, rfl, ?_⟩
  have K22 := K16.nn kV18
  have z23 := kV18.size
  refine pkq (.bool true) <| pkq (.bool true) <| eu_ <| so_ (.bool true) ?_
  exact ⟨rfl, K22⟩
theorem lnlive_b (w : World) (het : ErrTab w) :
    Calls Tryz.prog 18 #[.int .i64 60, .int .i64 1, .int .i64 2] w (fun e w' => e = .returned (.bool true) ∧ Keeps Nob w w') := by
  have K0 : Keeps Nob w w := Keeps.refl _ _
  refine sy_enter (qc59_6 1) ⟨#[.int .i64 60, .int .i64 1, .int .i64 2, ud, ud, ud, ud, ud, ud, ud, ud, ud, ud, ud, ud, ud, ud, ud, ud, ud, ud, ud, ud, ud, ud, ud], []⟩ Tryz.func18 (by kernel_rfl) (by kernel_rfl) <| qr_ [0] <| pkq (.bool false) <| eqr_ [0, 1, 2, 3, 4, 5, 6, 7, 8] ?_
  refine pcq 53 #[] Tryz.func53 ((pDefault_ok _).mono ?_)
  rintro e V1 ⟨rfl, kV1⟩
  refine ⟨_, rfl, ?_⟩
  have K2 := K0.nn kV1
  have z3 := kV1.size
  refine pcq 21 #[] Tryz.func21 ((lntwo_ok _).mono ?_)
  rintro e V4 ⟨ga, rfl, h5, nga, kV4⟩
  refine ⟨_, rfl, ?_⟩
  have K6 := K2.nn kV4
  have z7 := kV4.size
  refine pkq (.int .i64 60) ?_
  refine pcq 34 #[.agg parDef.cells, .slice (some ⟨ga, 0, none⟩) 2 2, .int .i64 60] Tryz.func34 ((live_is parDef parDef_Ok ntwo _ 60 (by unfold i64ok; omega) 0 (ntwo.drop 1) _ (two_all h5) (ErrTab.keeps het K6) (by decide) (by decide)).mono ?_)
  rintro e V8 ⟨X, rfl, hX, hXn, kV8⟩
  have hXs := row_nts hX
  refine ⟨_, rfl, ?_⟩
  have K10 := K6.nn kV8
  have z11 := kV8.size
  refine pkq (.tuple #[X, .int .i64 0]) <| pkq (X) <| pkq (.int .i64 0) <| pkq (X) <| pkq (.int .i64 0) <| eqr_ [0, 1, 2, 3, 4, 5, 6, 7, 8, 9, 10] <| pkq (.int .i64 0) <| pkq (.bool true) <| pkq (.bool true) <| pkq (X) ?_
  refine pcq 21 #[] Tryz.func21 ((lntwo_ok _).mono ?_)
  rintro e V12 ⟨gb, rfl, h13, ngb, kV12⟩
  refine ⟨_, rfl, ?_⟩
  have h15 : Sl V12 2 Nt.cl X ((ntwo.drop 1)) := hXs.keepsN kV12
  have K16 := K10.nn kV12
  have z17 := kV12.size
  refine pkq (.int .i64 1) <| pkq (.int .i64 2) <| pkq (.slice (some ⟨gb, 2, none⟩) 1 1) ?_
  refine pcq 17 #[X, .slice (some ⟨gb, 2, none⟩) 1 1] Tryz.func17 ((kSameNotes_is true _ h15 (two_last h13) (by decide)).mono ?_)
  rintro e V18 ⟨rfl, kV18⟩
  refine ⟨_, rfl, ?_⟩
  have K22 := K16.nn kV18
  have z23 := kV18.size
  refine pkq (.bool true) <| pkq (.bool true) <| eu_ <| so_ (.bool true) ?_
  exact ⟨rfl, K22⟩
theorem lnlive_c (w : World) (het : ErrTab w) :
    Calls Tryz.prog 18 #[.int .i64 9, .int .i64 0, .int .i64 0] w (fun e w' => e = .returned (.bool true) ∧ Keeps Nob w w') := by
  have K0 : Keeps Nob w w := Keeps.refl _ _
  refine sy_enter (qc59_6 1) ⟨#[.int .i64 9, .int .i64 0, .int .i64 0, ud, ud, ud, ud, ud, ud, ud, ud, ud, ud, ud, ud, ud, ud, ud, ud, ud, ud, ud, ud, ud, ud, ud], []⟩ Tryz.func18 (by kernel_rfl) (by kernel_rfl) <| qr_ [0] <| pkq (.bool false) <| eqr_ [0, 1, 2, 3, 4, 5, 6, 7, 8] ?_
  refine pcq 53 #[] Tryz.func53 ((pDefault_ok _).mono ?_)
  rintro e V1 ⟨rfl, kV1⟩
  refine ⟨_, rfl, ?_⟩
  have K2 := K0.nn kV1
  have z3 := kV1.size
  refine pcq 21 #[] Tryz.func21 ((lntwo_ok _).mono ?_)
  rintro e V4 ⟨ga, rfl, h5, nga, kV4⟩
  refine ⟨_, rfl, ?_⟩
  have K6 := K2.nn kV4
  have z7 := kV4.size
  refine pkq (.int .i64 9) ?_
  refine pcq 34 #[.agg parDef.cells, .slice (some ⟨ga, 0, none⟩) 2 2, .int .i64 9] Tryz.func34 ((live_is parDef parDef_Ok ntwo _ 9 (by unfold i64ok; omega) 0 (ntwo.take 0) _ (two_all h5) (ErrTab.keeps het K6) (by decide) (by decide)).mono ?_)
  rintro e V8 ⟨X, rfl, hX, hXn, kV8⟩
  have hXs := row_nts hX
  refine ⟨_, rfl, ?_⟩
  have K10 := K6.nn kV8
  have z11 := kV8.size
  refine pkq (.tuple #[X, .int .i64 0]) <| pkq (X) <| pkq (.int .i64 0) <| pkq (X) <| pkq (.int .i64 0) <| eqr_ [0, 1, 2, 3, 4, 5, 6, 7, 8, 9, 10] <| pkq (.int .i64 0) <| pkq (.bool true) <| pkq (.bool true) <| pkq (X) ?_
  refine pcq 21 #[] Tryz.func21 ((lntwo_ok _).mono ?_)
  rintro e V12 ⟨gb, rfl, h13, ngb, kV12⟩
  refine ⟨_, rfl, ?_⟩
  have h15 : Sl V12 2 Nt.cl X ((ntwo.take 0)) := hXs.keepsN kV12
  have K16 := K10.nn kV12
  have z17 := kV12.size
  refine pkq (.int .i64 0) <| pkq (.int .i64 0) <| pkq (.slice (some ⟨gb, 0, none⟩) 0 2) ?_
  refine pcq 17 #[X, .slice (some ⟨gb, 0, none⟩) 0 2] Tryz.func17 ((kSameNotes_is true _ h15 (two_none h13) (by decide)).mono ?_)
  rintro e V18 ⟨rfl, kV18⟩
  refine ⟨_, rfl, ?_⟩
  have K22 := K16.nn kV18
  have z23 := kV18.size
  refine pkq (.bool true) <| pkq (.bool true) <| eu_ <| so_ (.bool true) ?_
  exact ⟨rfl, K22⟩
noncomputable def qc59_5 (n : Nat) : Code := partOf Tryz.f19 n
theorem lnnoted_ok (h : Int) (n : Nat) (hh : i64ok h) (hn : (nnoted parDef ntwo h).1 = n) (hrf : (nnoted parDef ntwo h).2 = 0) (w : World) (het : ErrTab w) :
    Calls Tryz.prog 19 #[.int .i64 h, .int .u64 ((n : Nat) : Int)] w (fun e w' => e = .returned (.bool true) ∧ Keeps Nob w w') := by
  have K0 : Keeps Nob w w := Keeps.refl _ _
  refine sy_enter (qc59_5 1) ⟨#[.int .i64 h, uN n, ud, ud, ud, ud, ud, ud, ud, ud, ud, ud, ud, ud, ud, ud, ud, ud, ud, ud, ud], []⟩ Tryz.func19 (by kernel_rfl) (by kernel_rfl) <| qr_ [0] <| pkq (.bool false) <| eqr_ [0, 1, 2, 3, 4, 5, 6, 7, 8] ?_
  refine pcq 53 #[] Tryz.func53 ((pDefault_ok _).mono ?_)
  rintro e V1 ⟨rfl, kV1⟩
  refine ⟨_, rfl, ?_⟩
  have K2 := K0.nn kV1
  have z3 := kV1.size
  refine pcq 21 #[] Tryz.func21 ((lntwo_ok _).mono ?_)
  rintro e V4 ⟨ga, rfl, h5, nga, kV4⟩
  refine ⟨_, rfl, ?_⟩
  have K6 := K2.nn kV4
  have z7 := kV4.size
  refine pkq (.int .i64 h) ?_
  refine pcq 29 #[.agg parDef.cells, .slice (some ⟨ga, 0, none⟩) 2 2, .int .i64 h] Tryz.func29 ((nnoted_is hn hrf (nNoted_all parDef parDef_Ok ntwo _ h hh _ (two_all h5) (ErrTab.keeps het K6))).mono ?_)
  rintro e V8 ⟨rfl, kV8⟩
  refine ⟨_, rfl, ?_⟩
  have K10 := K6.nn kV8
  have z11 := kV8.size
  refine pkq (.tuple #[uN n, .int .i64 0]) <| pkq (uN n) <| pkq (.int .i64 0) <| pkq (uN n) <| pkq (.int .i64 0) <| eqr_ [0, 1, 2, 3, 4, 5, 6, 7] <| pkq (uN n) <| pkq (uN n) <| ppq (.bool true) (eqt (((n : Nat) : Int)) (((n : Nat) : Int)) (by omega)) <| pkq (.bool true) <| pkq (.int .i64 0) <| pkq (.bool true) <| pkq (.bool true) <| pkq (.bool true) ?_
  refine eu_ <| so_ (.bool true) ?_
  exact ⟨rfl, K10⟩
theorem frac_is {x : Nat × Int} {n : Nat} {y : Int} {args : Array Value} {w : World} (h1 : x = (n, y)) (h : Calls Tryz.prog 28 args w (fun e w' => e = .returned (.tuple #[.int .u64 ((x.1 : Nat) : Int), .int .i64 x.2]) ∧ Keeps Nob w w')) : Calls Tryz.prog 28 args w (fun e w' => e = .returned (.tuple #[.int .u64 ((n : Nat) : Int), .int .i64 y]) ∧ Keeps Nob w w') := by subst h1; exact h
noncomputable def qc59_7 (n : Nat) : Code := partOf Tryz.f20 n
theorem lncut_ok (l : List Nt) (v : Value) (h : Int) (s t n : Nat) (er : Int) (hh : i64ok h) (hs : s < 18446744073709551616) (ht : t < 18446744073709551616) (hn : nfrac parDef l h s t = (n, er)) (w : World) (hl : Sl w 2 Nt.cl v l) (het : ErrTab w) :
    Calls Tryz.prog 20 #[v, .int .i64 h, .int .u64 ((s : Nat) : Int), .int .u64 ((t : Nat) : Int), .int .u64 ((n : Nat) : Int), .int .i64 er] w (fun e w' => e = .returned (.bool true) ∧ Keeps Nob w w') := by
  have K0 : Keeps Nob w w := Keeps.refl _ _
  refine sy_enter (qc59_7 1) ⟨#[v, .int .i64 h, uN s, uN t, uN n, .int .i64 er, ud, ud, ud, ud, ud, ud, ud, ud, ud, ud, ud, ud, ud, ud, ud, ud, ud, ud, ud, ud, ud, ud, ud, ud, ud, ud], []⟩ Tryz.func20 (by kernel_rfl) (by kernel_rfl) <| qr_ [0] <| pkq (.bool false) <| eqr_ [0, 1, 2, 3, 4, 5, 6, 7, 8, 9, 10] ?_
  refine pcq 53 #[] Tryz.func53 ((pDefault_ok _).mono ?_)
  rintro e V1 ⟨rfl, kV1⟩
  refine ⟨_, rfl, ?_⟩
  have h2 : Sl V1 2 Nt.cl v l := hl.keepsN kV1
  have K3 := K0.nn kV1
  have z4 := kV1.size
  refine pkq (v) <| pkq (.int .i64 h) <| pkq (uN s) <| pkq (uN t) ?_
  refine pcq 28 #[.agg parDef.cells, v, .int .i64 h, uN s, uN t] Tryz.func28 ((frac_is hn (nFrac_all parDef parDef_Ok l v h hh s t hs ht _ h2 (ErrTab.keeps het K3))).mono ?_)
  rintro e V5 ⟨rfl, kV5⟩
  refine ⟨_, rfl, ?_⟩
  have K7 := K3.nn kV5
  have z8 := kV5.size
  refine pkq (.tuple #[uN n, .int .i64 er]) <| pkq (uN n) <| pkq (.int .i64 er) <| pkq (uN n) <| pkq (.int .i64 er) <| eqr_ [0, 1, 2, 3, 4, 5, 6, 7, 8] <| pkq (uN n) <| pkq (uN n) <| ppq (.bool true) (eqt (((n : Nat) : Int)) (((n : Nat) : Int)) (by omega)) <| pkq (.bool true) <| pkq (.int .i64 er) <| pkq (.int .i64 er) <| ppq (.bool true) (eqt ((er) : Int) ((er) : Int) (by omega)) <| pkq (.bool true) ?_
  refine pkq (.bool true) <| eu_ <| so_ (.bool true) ?_
  exact ⟨rfl, K7⟩
noncomputable def qc59_4 (n : Nat) : Code := partOf Tryz.f8 n
theorem lnawake_ok (w : World) (het : ErrTab w) :
    Calls Tryz.prog 8 #[] w (fun e w' => e = .returned (.bool true) ∧ Keeps Nob w w') := by
  have K0 : Keeps Nob w w := Keeps.refl _ _
  refine sy_enter (qc59_4 1) ⟨#[ud, ud, ud, ud, ud, ud, ud, ud, ud, ud, ud, ud, ud, ud, ud, ud, ud, ud, ud], []⟩ Tryz.func8 (by kernel_rfl) (by kernel_rfl) <| qr_ [0] <| pkq (.bool false) <| eqr_ [0, 1, 2, 3, 4, 5, 6, 7, 8, 9, 10, 11, 12, 13, 14, 15, 16, 17, 18] ?_
  refine pcq 18 #[.int .i64 59, .int .i64 0, .int .i64 2] Tryz.func18 ((lnlive_a _ (ErrTab.keeps het K0)).mono ?_)
  rintro e V1 ⟨rfl, kV1⟩
  refine ⟨_, rfl, ?_⟩
  have K2 := K0.nn kV1
  have z3 := kV1.size
  refine pkq (.bool true) ?_
  refine pcq 18 #[.int .i64 60, .int .i64 1, .int .i64 2] Tryz.func18 ((lnlive_b _ (ErrTab.keeps het K2)).mono ?_)
  rintro e V4 ⟨rfl, kV4⟩
  refine ⟨_, rfl, ?_⟩
  have K5 := K2.nn kV4
  have z6 := kV4.size
  refine pkq (.bool true) <| pkq (.bool true) ?_
  refine pcq 19 #[.int .i64 59, .int .u64 300] Tryz.func19 ((lnnoted_ok 59 300 (by unfold i64ok; omega) (by decide) (by decide) _ (ErrTab.keeps het K5)).mono ?_)
  rintro e V7 ⟨rfl, kV7⟩
  refine ⟨_, rfl, ?_⟩
  have K8 := K5.nn kV7
  have z9 := kV7.size
  refine pkq (.bool true) <| pkq (.bool true) ?_
  refine pcq 20 #[.slice none 0 0, .int .i64 1, .int .u64 100, .int .u64 1000, .int .u64 350000000, .int .i64 0] Tryz.func20 ((lncut_ok [] _ 1 100 1000 350000000 0 (by unfold i64ok; omega) (by decide) (by decide) (by decide) _ (Sl.nil _ _ _) (ErrTab.keeps het K8)).mono ?_)
  rintro e V10 ⟨rfl, kV10⟩
  refine ⟨_, rfl, ?_⟩
  have K11 := K8.nn kV10
  have z12 := kV10.size
  refine pkq (.bool true) <| pkq (.bool true) ?_
  refine pcq 21 #[] Tryz.func21 ((lntwo_ok _).mono ?_)
  rintro e V13 ⟨ga, rfl, h14, nga, kV13⟩
  refine ⟨_, rfl, ?_⟩
  have K15 := K11.nn kV13
  have z16 := kV13.size
  refine pcq 20 #[.slice (some ⟨ga, 0, none⟩) 2 2, .int .i64 59, .int .u64 100, .int .u64 2000, .int .u64 650000000, .int .i64 0] Tryz.func20 ((lncut_ok ntwo _ 59 100 2000 650000000 0 (by unfold i64ok; omega) (by decide) (by decide) (by decide) _ (two_all h14) (ErrTab.keeps het K15)).mono ?_)
  rintro e V17 ⟨rfl, kV17⟩
  refine ⟨_, rfl, ?_⟩
  have K19 := K15.nn kV17
  have z20 := kV17.size
  refine pkq (.bool true) <| pkq (.bool true) ?_
  refine pcq 21 #[] Tryz.func21 ((lntwo_ok _).mono ?_)
  rintro e V21 ⟨gb, rfl, h22, ngb, kV21⟩
  refine ⟨_, rfl, ?_⟩
  have K24 := K19.nn kV21
  have z25 := kV21.size
  refine pcq 20 #[.slice (some ⟨gb, 0, none⟩) 2 2, .int .i64 59, .int .u64 100, .int .u64 1000, .int .u64 1000000000, .int .i64 0] Tryz.func20 ((lncut_ok ntwo _ 59 100 1000 1000000000 0 (by unfold i64ok; omega) (by decide) (by decide) (by decide) _ (two_all h22) (ErrTab.keeps het K24)).mono ?_)
  rintro e V26 ⟨rfl, kV26⟩
  refine ⟨_, rfl, ?_⟩
  have K29 := K24.nn kV26
  have z30 := kV26.size
  refine pkq (.bool true) <| pkq (.bool true) <| eu_ <| so_ (.bool true) ?_
  exact ⟨rfl, K29⟩
end Go.Proofs.YtghohakbepeffaaGreatDoor
namespace Go.Proofs.YtghohakbepeffaaGreatDoor
set_option maxRecDepth 100000
set_option maxHeartbeats 4000000
open Go Go.RowKit Go.Own Go.Shelf
theorem gconv {x : Nat} (h : x < 9223372036854775808) (w : World) : (convert 40 3 (.int .u64 ((x : Nat) : Int))).run Tryz.prog w = .ok (.int .i64 ((x : Nat) : Int)) w := by
  simp only [convert, Tryz.underlying40, Tryz.underlying3]
  simp [Conv.intToInt, wrapI ((x : Nat) : Int) _ rfl (by omega) (by omega)]
theorem nadd_to {l l2 : List Nt} {x : Nt} {args : Array Value} {w : World} (h1 : nadd l x = (l2, 0)) (h : Calls Tryz.prog 56 args w (fun e w' => ∃ X, e = .returned (.tuple #[X, .int .i64 (nadd l x).2]) ∧ Row w' 46 2 X ((nadd l x).1).length (((nadd l x).1).flatMap Nt.cl) ∧ NewFrom w.heap.size X ∧ Keeps Nob w w')) : Calls Tryz.prog 56 args w (fun e w' => ∃ X, e = .returned (.tuple #[X, .int .i64 0]) ∧ Row w' 46 2 X (l2).length ((l2).flatMap Nt.cl) ∧ NewFrom w.heap.size X ∧ Keeps Nob w w') := by rw [h1] at h; exact h
noncomputable def qc60_2 (n : Nat) : Code := partOf Tryz.f26 n
theorem lnmade_ok (v0 : Value) (ns : List Nat) (hnl : ∀ x ∈ ns, x < 18446744073709551616) (w : World) (hns : Sl w 1 Gc v0 ns) (het : ErrTab w) :
    Calls Tryz.prog 26 #[v0] w (fun e w' => ∃ X, e = .returned (.tuple #[X, .bool true]) ∧ Sl w' 2 Nt.cl X (mgo (ns.take 64) 1) ∧ Keeps Nob w w') := by
  have hln := Sl.len_le hns
  have K0 : Keeps Nob w w := Keeps.refl _ _
  refine sy_enter (qc60_2 1) ⟨#[v0, ud, ud, ud, ud, ud, ud, ud, ud, ud, ud, ud, ud, ud, ud, ud, ud, ud, ud, ud, ud, ud, ud, ud, ud, ud, ud, ud, ud, ud, ud, ud, ud, ud, ud, ud, ud, ud, ud, ud, ud, ud, ud, ud], []⟩ Tryz.func26 (by kernel_rfl) (by kernel_rfl) <| qr_ [0, 1] <| pkq (.slice none 0 0) <| pkq (.bool false) <| eqr_ [0] <| pkq (.slice none 0 0) <| eqr_ [0] <| pkq (.int .i64 1) <| eq_ <| qr_ [0] <| pkq (.int .i64 0) <| et_ <| bl_ 0 ?_
  refine sy_loop (qc60_2 244) (fun a V => ∃ (i : Nat) (at_ : Nat) (l : List Nt) (v : Value) (u2 u3 u7 u8 u9 u10 u11 u12 u13 u14 u15 u16 u17 u18 u19 u20 u21 u22 u23 u24 u25 u26 u27 u28 u29 u30 u31 u32 u33 u34 u35 u36 u37 u38 u39 u40 u41 u42 : Value), (a = ⟨#[v0, ud, u2, u3, v, iN at_, iN i, u7, u8, u9, u10, u11, u12, u13, u14, u15, u16, u17, u18, u19, u20, u21, u22, u23, u24, u25, u26, u27, u28, u29, u30, u31, u32, u33, u34, u35, u36, u37, u38, u39, u40, u41, u42, ud], []⟩) ∧ (i ≤ ns.length) ∧ (i ≤ 64) ∧ (mAt (ns.take i) 1 = at_) ∧ (mgo (ns.take i) 1 = l) ∧ (Sl V 2 Nt.cl v l) ∧ (Keeps Nob w V)) (fun a _ => ns.length - (intOf (a.tmps.getD 6 undef)).toNat) (by kernel_rfl) ?_ ?_
  · exact ⟨0, 1, [], .slice none 0 0, (.slice none 0 0), (.bool false), undef, undef, undef, undef, undef, undef, undef, undef, undef, undef, undef, undef, undef, undef, undef, undef, undef, undef, undef, undef, undef, undef, undef, undef, undef, undef, undef, undef, undef, undef, undef, undef, undef, undef, undef, undef, by kernel_rfl, by omega, by omega, rfl, rfl, (Sl.nil w 2 Nt.cl), K0⟩
  · rintro a V1 ⟨i, at_, l, v, u2, u3, u7, u8, u9, u10, u11, u12, u13, u14, u15, u16, u17, u18, u19, u20, u21, u22, u23, u24, u25, u26, u27, u28, u29, u30, u31, u32, u33, u34, u35, u36, u37, u38, u39, u40, u41, u42, rfl, hi, hi2, hat, hl, h2, K3⟩
    rcases (show (i < ns.length ∧ i < 64) ∨ (i < ns.length ∧ i = 64) ∨ i = ns.length by omega) with ⟨lt_i, h64⟩ | ⟨lt_i, h64⟩ | eq_i
    · obtain ⟨x, hx⟩ : ∃ x, ns[i]? = some x := ⟨_, List.getElem?_eq_getElem lt_i⟩
      obtain ⟨b_, o_, c_, hv_, hb_, _⟩ := hns.at_ i x hx
      have hxl := hnl x (List.mem_of_getElem? hx)
      obtain ⟨d, hd⟩ : ∃ y, x % 30 = y := ⟨_, rfl⟩
      obtain ⟨q1, hq1⟩ : ∃ y, x / 30 = y := ⟨_, rfl⟩
      obtain ⟨s2, hs2⟩ : ∃ y, q1 % 4611686018427387905 = y := ⟨_, rfl⟩
      have hatl := mAt_le (ns.take i) 1
      rw [List.length_take, hat] at hatl
      obtain ⟨at2, hat2⟩ : ∃ y, at_ + d = y := ⟨_, rfl⟩
      obtain ⟨l2, hl2⟩ : ∃ y, mgo (ns.take (i + 1)) 1 = y := ⟨_, rfl⟩
      have hadd : nadd l ⟨((at2 : Nat) : Int), s2⟩ = (l2, 0) := by
        have e := madd hx h64
        unfold mNote at e
        rw [hl, hat, hd, hq1, hs2, hat2, hl2] at e; exact e
      have hatn : mAt (ns.take (i + 1)) 1 = at2 := by rw [mat_next hx, hat, hd, hat2]
      refine q_ <| qr_ [0, 1, 2, 3, 4, 5, 6, 7] <| pkq (iN i) <| pkq (v0) <| ppq (iN ns.length) (exec_len_sl (.tmp 10) 49 40 (by kernel_rfl) Tryz.underlying49 (by kernel_rfl) (hns.keepsN K3)) <| ppq (.bool true) (dct ((((i : Nat) : Int)) < (((ns.length : Nat) : Int))) (by omega)) <| pkq (.bool true) <| pkq (iN i) <| ppq (.bool true) (dct ((((i : Nat) : Int)) < ((64) : Int)) (by omega)) <| pkq (.bool true) <| ey_ <| s_ <| tq_ <| bl_ 1 ?_
      refine qr_ [0, 1, 2, 3, 4, 5, 6, 7, 8] <| pkq (iN at_) <| pkq (v0) <| pkq (iN i) <| ppq (pT b_ (o_ + i * 1)) (exec_indexAt_slice 49 (.tmp 20) (.tmp 21) (by kernel_rfl) b_ o_ ns.length c_ (Eq.trans (b := v0) (by kernel_rfl) hv_) .i64 i (by kernel_rfl) _ 1 Tryz.underlying49 (by kernel_rfl) (by omega)) <| ppq (uN x) (ldc 40 b_ (o_ + i * 1 + 0) (Sl.cell (hns.keepsN K3) hx hv_ rfl)) <| ppq (uN d) (exec_cast (congrArg (fun n : Nat => Value.int .u64 (n : Int)) hd) (exec_remU 40 40 (.tmp 23) (.const (.int .u64 30)) (by kernel_rfl) x 30 (by kernel_rfl) (by kernel_rfl) (by decide) (by omega))) <| prq (iN d) (w' := V1) (exec_convert 40 3 (.tmp 24) (by kernel_rfl) _ (by kernel_rfl) (gconv (by omega) _)) <| ppq (iN at2) (exec_cast (congrArg (Value.int .i64) (wrapI (((at_ : Nat) : Int) + ((d : Nat) : Int)) ((at2 : Nat) : Int) (by omega) (by omega) (by omega))) (by kernel_rfl)) <| pkq (iN at2) <| eqr_ [0, 1, 2, 3, 4, 5, 6, 7, 8, 9, 10, 11, 12, 13, 14] <| pkq (v) <| pkq (iN at2) <| pkq (v0) ?_
      refine pkq (iN i) <| ppq (pT b_ (o_ + i * 1)) (exec_indexAt_slice 49 (.tmp 30) (.tmp 31) (by kernel_rfl) b_ o_ ns.length c_ (Eq.trans (b := v0) (by kernel_rfl) hv_) .i64 i (by kernel_rfl) _ 1 Tryz.underlying49 (by kernel_rfl) (by omega)) <| ppq (uN x) (ldc 40 b_ (o_ + i * 1 + 0) (Sl.cell (hns.keepsN K3) hx hv_ rfl)) <| ppq (uN q1) (exec_cast (congrArg (fun n : Nat => Value.int .u64 (n : Int)) hq1) (exec_quoU 40 40 (.tmp 33) (.const (.int .u64 30)) (by kernel_rfl) x 30 (by kernel_rfl) (by kernel_rfl) (by decide) (by omega))) <| ppq (uN s2) (exec_cast (congrArg (fun n : Nat => Value.int .u64 (n : Int)) hs2) (exec_remU 40 40 (.tmp 34) (.const (.int .u64 4611686018427387905)) (by kernel_rfl) q1 4611686018427387905 (by kernel_rfl) (by kernel_rfl) (by decide) (by omega))) <| pkq (.agg #[iN at2, uN s2]) ?_
      refine pcq 56 #[v, .agg #[iN at2, uN s2]] Tryz.func56 ((nadd_to hadd (nAdd_all l ⟨((at2 : Nat) : Int), s2⟩ _ _ h2 (ErrTab.keeps het K3))).mono ?_)
      rintro e V4 ⟨X, rfl, hX, hXn, kV4⟩
      refine ⟨_, rfl, ?_⟩
      have K5 := K3.nn kV4
      have z6 := kV4.size
      refine pkq (.tuple #[X, .int .i64 0]) <| pkq (X) <| pkq (.int .i64 0) <| pkq (X) <| pkq (.int .i64 0) <| ps_end <| sy_a ⟨#[v0, ud, u2, u3, v, iN at2, iN i, X, .int .i64 0, iN i, v0, iN ns.length, .bool true, .bool true, iN i, .bool true, .bool true, u17, u18, iN at_, v0, iN i, pT b_ (o_ + i * 1), uN x, uN d, iN d, iN at2, .tuple #[X, .int .i64 0], v, iN at2, v0, iN i, pT b_ (o_ + i * 1), uN x, uN q1, uN s2, .agg #[iN at2, uN s2], .tuple #[X, .int .i64 0], X, .int .i64 0, u40, u41, u42, ud], []⟩ <| tq_ <| qr_ [0, 1] <| pkq (.int .i64 0) <| pkq (.bool false) <| en_ <| s_ <| tr_ [0, 1] ?_
      refine pkq (X) <| pkq (X) <| ps_end <| blk_n <| tr_ [0, 1, 2] <| pkq (iN i) <| ppq (iN (i + 1)) (exec_cast (congrArg (Value.int .i64) (wrapN (i + 1) (by omega))) (by kernel_rfl)) <| pkq (iN (i + 1)) <| et_ ?_
      refine ⟨⟨i + 1, at2, l2, X, u2, u3, X, (.int .i64 0), (iN i), v0, (iN ns.length), (.bool true), (.bool true), (iN i), (.bool true), (.bool true), (iN i), (iN (i + 1)), (iN at_), v0, (iN i), (pT b_ (o_ + i * 1)), (uN x), (uN d), (iN d), (iN at2), (.tuple #[X, .int .i64 0]), v, (iN at2), v0, (iN i), (pT b_ (o_ + i * 1)), (uN x), (uN q1), (uN s2), (.agg #[iN at2, uN s2]), (.tuple #[X, .int .i64 0]), X, (.int .i64 0), (.int .i64 0), (.bool false), X, by kernel_rfl, by omega, by omega, hatn, hl2, (row_nts hX), K5⟩, ?_⟩
      exact lt_meas (x := ns.length - (i + 1)) (y := ns.length - i) (by kernel_rfl) (by kernel_rfl) (by omega)
    · have hfin : l = mgo (ns.take 64) 1 := by rw [← hl, h64]
      refine q_ <| qr_ [0, 1, 2, 3, 4, 5, 6, 7] <| pkq (iN i) <| pkq (v0) <| ppq (iN ns.length) (exec_len_sl (.tmp 10) 49 40 (by kernel_rfl) Tryz.underlying49 (by kernel_rfl) (hns.keepsN K3)) <| ppq (.bool true) (dct ((((i : Nat) : Int)) < (((ns.length : Nat) : Int))) (by omega)) <| pkq (.bool true) <| pkq (iN i) <| ppq (.bool false) (dcf ((((i : Nat) : Int)) < ((64) : Int)) (by omega)) <| pkq (.bool false) <| en_ <| sy_exit 0 (by kernel_rfl) <| then_e <| then_e ?_
      refine blk_e <| tqr_ [0, 1, 2] <| pkq (v) <| pkq (v) <| pkq (.bool true) <| eu_ <| so_ (.tuple #[v, .bool true]) ?_
      exact ⟨_, rfl, hfin ▸ h2, K3⟩
    · have hfin : l = mgo (ns.take 64) 1 := by rw [← hl, List.take_of_length_le (show ns.length ≤ i by omega), List.take_of_length_le (show ns.length ≤ 64 by omega)]
      refine q_ <| qr_ [0, 1, 2, 3, 4, 5, 6, 7] <| pkq (iN i) <| pkq (v0) <| ppq (iN ns.length) (exec_len_sl (.tmp 10) 49 40 (by kernel_rfl) Tryz.underlying49 (by kernel_rfl) (hns.keepsN K3)) <| ppq (.bool false) (dcf ((((i : Nat) : Int)) < (((ns.length : Nat) : Int))) (by omega)) <| pkq (.bool false) <| pnq <| pnq <| pkq (.bool false) <| en_ <| sy_exit 0 (by kernel_rfl) <| then_e <| then_e ?_
      refine blk_e <| tqr_ [0, 1, 2] <| pkq (v) <| pkq (v) <| pkq (.bool true) <| eu_ <| so_ (.tuple #[v, .bool true]) ?_
      exact ⟨_, rfl, hfin ▸ h2, K3⟩
end Go.Proofs.YtghohakbepeffaaGreatDoor
