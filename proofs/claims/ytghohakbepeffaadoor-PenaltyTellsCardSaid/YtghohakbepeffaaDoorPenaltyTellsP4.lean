import Derived.Test.YtghohakbepeffaaDoorPenaltyTellsP3
namespace Go.Proofs.YtghohakbepeffaaDoor
set_option maxRecDepth 100000
set_option maxHeartbeats 4000000
open Go Go.RowKit Go.Own Go.Shelf
theorem exec_quoU {P : Program} {o : Oper} {ρ : Operand → Value} {w : World} (t t' : TypeId) (x y : Operand) (ho : o.op = .binOp .quo t x y t') (a b : Nat) (hx : ρ x = .int .u64 (a : Int)) (hy : ρ y = .int .u64 (b : Int)) (hb : 0 < b) (ha : a < 18446744073709551616) :
    (execOp ρ o).run P w = .ok (.value (.int .u64 ((a / b : Nat) : Int))) w := by
  refine exec_binop .quo t t' x y ho _ _ _ hx hy rfl ?_
  have h : ¬ ((b : Int) = 0) := by omega
  rw [binOp_quo]
  simp only [Op.intDiv, if_neg h]
  have e : IntKind.u64.wrap (Int.tdiv (a : Int) (b : Int)) = ((a / b : Nat) : Int) := by
    rw [show Int.tdiv (a : Int) (b : Int) = ((a / b : Nat) : Int) from rfl]
    exact wrapU _ (by have := Nat.div_le_self a b; omega)
  rw [e]; rfl
theorem exec_remU {P : Program} {o : Oper} {ρ : Operand → Value} {w : World} (t t' : TypeId) (x y : Operand) (ho : o.op = .binOp .rem t x y t') (a b : Nat) (hx : ρ x = .int .u64 (a : Int)) (hy : ρ y = .int .u64 (b : Int)) (hb : 0 < b) (ha : a < 18446744073709551616) :
    (execOp ρ o).run P w = .ok (.value (.int .u64 ((a % b : Nat) : Int))) w := by
  refine exec_binop .rem t t' x y ho _ _ _ hx hy rfl ?_
  have h : ¬ ((b : Int) = 0) := by omega
  rw [binOp_rem]
  simp only [Op.intDiv, if_neg h]
  have e : IntKind.u64.wrap (Int.tmod (a : Int) (b : Int)) = ((a % b : Nat) : Int) := by
    rw [show Int.tmod (a : Int) (b : Int) = ((a % b : Nat) : Int) from rfl]
    exact wrapU _ (by have := Nat.mod_le a b; omega)
  first | rfl | (rw [e]; rfl)
theorem wrapM (n : Nat) : IntKind.u64.wrap (n : Int) = ((n % 18446744073709551616 : Nat) : Int) := by rw [IntKind.wrap_u64]; omega
theorem conv_u64_u8 {x : Nat} (h : x < 256) (w : World) : (convert 22 5 (.int .u64 ((x : Nat) : Int))).run Tryd.prog w = .ok (.int .u8 ((x : Nat) : Int)) w := by
  simp only [convert, Tryd.underlying22, Tryd.underlying5]
  have : IntKind.u8.wrap ((x : Nat) : Int) = ((x : Nat) : Int) := by
    unfold IntKind.wrap; simp [IntKind.signed, IntKind.bits]; omega
  simp [Conv.intToInt, this]
theorem conv_u8_int {x : Nat} (h : x < 256) (w : World) : (convert 5 3 (.int .u8 ((x : Nat) : Int))).run Tryd.prog w = .ok (.int .i64 ((x : Nat) : Int)) w := by
  simp only [convert, Tryd.underlying5, Tryd.underlying3]
  have : IntKind.i64.wrap ((x : Nat) : Int) = ((x : Nat) : Int) := by
    unfold IntKind.wrap; simp [IntKind.signed, IntKind.bits]; omega
  simp [Conv.intToInt, this]
theorem conv_int_uint {x : Nat} (h : x ≤ 64) (w : World) : (convert 3 96 (.int .i64 ((x : Nat) : Int))).run Tryd.prog w = .ok (.int .u64 ((x : Nat) : Int)) w := by
  simp only [convert, Tryd.underlying3, Tryd.underlying96]
  simp [Conv.intToInt, wrapU x (by omega)]
/-! The length of a number. -/
def ltab : List UInt8 := Lib.len8tab.toList
theorem ltab_all : ∀ k : Fin 256, ∃ c, ltab[k.val]? = some c ∧ c.toNat ≤ 8 ∧ k.val < 2 ^ c.toNat ∧ (k.val ≠ 0 → 1 ≤ c.toNat ∧ 2 ^ (c.toNat - 1) ≤ k.val) := by
  have h : ∀ k : Fin 256, (match ltab[k.val]? with | some c => decide (c.toNat ≤ 8) && decide (k.val < 2 ^ c.toNat) && (decide (k.val = 0) || (decide (1 ≤ c.toNat) && decide (2 ^ (c.toNat - 1) ≤ k.val))) | none => false) = true := by decide +kernel
  intro k
  have := h k
  cases e : ltab[k.val]? with
  | none => rw [e] at this; cases this
  | some c =>
    rw [e] at this
    simp only [Bool.and_eq_true, Bool.or_eq_true, decide_eq_true_eq] at this
    obtain ⟨⟨q1, q2⟩, q3⟩ := this
    exact ⟨c, rfl, q1, q2, fun h0 => q3.resolve_left h0⟩
def IsLen (y n : Nat) : Prop := n ≤ 64 ∧ 1 ≤ n ∧ y < 2 ^ n ∧ 2 ^ (n - 1) ≤ y
theorem len_fin {y x a K t : Nat} (hK : K = 2 ^ a) (ha : a ≤ 56) (ht0 : t ≤ 8) (h1 : x * K ≤ y) (h2 : y < (x + 1) * K) (ht : x < 2 ^ t) (hn : x ≠ 0) (hl : x ≠ 0 → 1 ≤ t ∧ 2 ^ (t - 1) ≤ x) : IsLen y (a + t) := by
  obtain ⟨l1, l2⟩ := hl hn
  refine ⟨by omega, by omega, ?_, ?_⟩
  · rw [Nat.pow_add, ← hK, Nat.mul_comm]
    exact Nat.lt_of_lt_of_le h2 (Nat.mul_le_mul_right _ ht)
  · rw [show a + t - 1 = a + (t - 1) by omega, Nat.pow_add, ← hK, Nat.mul_comm]
    exact Nat.le_trans (Nat.mul_le_mul_right _ l2) h1
theorem two_pos (s : Nat) : 0 < 2 ^ s := Nat.pow_pos (by decide)
theorem lead_len {y n s : Nat} (h : IsLen y n) (hs : s + n = 64) : s ≤ 63 ∧ 9223372036854775808 ≤ y * 2 ^ s ∧ y * 2 ^ s < 18446744073709551616 := by
  obtain ⟨h0, h1, h2, h3⟩ := h
  refine ⟨by omega, ?_, ?_⟩
  · have := Nat.mul_le_mul_right (2 ^ s) h3
    rw [← Nat.pow_add, show n - 1 + s = 63 by omega] at this
    exact this
  · have := Nat.mul_lt_mul_of_pos_right h2 (two_pos s)
    rw [← Nat.pow_add, show n + s = 64 by omega] at this
    exact this
/-! One digit of a long division, and both. -/
def Dig (U Y y1 u q r : Nat) : Prop := q * y1 + r = U ∧ (U * 4294967296 + u) / Y ≤ q
theorem dig_init {U Y y1 y0 u : Nat} (hY : Y = y1 * 4294967296 + y0) (h0 : y0 < 4294967296) (h1 : 1 ≤ y1) (hu : u < 4294967296) (hU : U < Y) : Dig U Y y1 u (U / y1) (U - U / y1 * y1) := by
  refine ⟨by have := Nat.div_mul_le_self U y1; omega, ?_⟩
  refine Nat.le_trans (Nat.div_le_div_left (c := y1 * 4294967296) (by omega) (by omega)) ?_
  rw [Nat.mul_comm y1, ← Nat.div_div_eq_div_mul]
  exact Nat.div_le_div_right (by omega)
theorem dig_lt {U Y y1 y0 u : Nat} (hY : Y = y1 * 4294967296 + y0) (h0 : y0 < 4294967296) (h1 : 1 ≤ y1) (hu : u < 4294967296) (hU : U < Y) : (U * 4294967296 + u) / Y < 4294967296 := by
  rw [Nat.div_lt_iff_lt_mul (by omega)]; omega
theorem dig_step {U Y y1 y0 u q r : Nat} (hY : Y = y1 * 4294967296 + y0) (h0 : y0 < 4294967296) (h1 : 1 ≤ y1) (hu : u < 4294967296) (hU : U < Y) (h : Dig U Y y1 u q r) (hc : 4294967296 ≤ q ∨ 4294967296 * r + u < q * y0) : 1 ≤ q ∧ Dig U Y y1 u (q - 1) (r + y1) := by
  obtain ⟨a1, a2⟩ := h
  have hl := dig_lt hY h0 h1 hu hU
  have hq : (U * 4294967296 + u) / Y < q := by
    rcases hc with hc | hc
    · omega
    · rw [Nat.div_lt_iff_lt_mul (by omega), hY, Nat.mul_add, ← Nat.mul_assoc]; omega
  have q1 : 1 ≤ q := Nat.lt_of_le_of_lt (Nat.zero_le _) hq
  refine ⟨q1, ?_, Nat.le_sub_one_of_lt hq⟩
  obtain ⟨k, rfl⟩ : ∃ k, q = k + 1 := ⟨q - 1, by omega⟩
  rw [Nat.add_mul, Nat.one_mul] at a1
  rw [Nat.add_sub_cancel]; omega
theorem dig_done {U Y y1 y0 u q r : Nat} (hY : Y = y1 * 4294967296 + y0) (h0 : y0 < 4294967296) (h1 : 1 ≤ y1) (hu : u < 4294967296) (hU : U < Y) (h : Dig U Y y1 u q r) (hc : (q < 4294967296 ∧ q * y0 ≤ 4294967296 * r + u) ∨ 4294967296 ≤ r) : q = (U * 4294967296 + u) / Y := by
  obtain ⟨a1, a2⟩ := h
  refine Nat.le_antisymm ?_ a2
  rw [Nat.le_div_iff_mul_le (by omega), hY, Nat.mul_add, ← Nat.mul_assoc]
  rcases hc with ⟨_, hc⟩ | hc
  · omega
  · have q2 : q < 4294967296 := by
      rcases Nat.lt_or_ge q 4294967296 with g | g
      · exact g
      · have g2 := Nat.mul_le_mul_right y1 g
        clear a2
        exact absurd hU (by rw [← a1, hY]; have : y1 * 4294967296 = 4294967296 * y1 := Nat.mul_comm _ _; generalize q * y1 = z at *; generalize 4294967296 * y1 = z2 at *; omega)
    have g1 := Nat.mul_le_mul (Nat.le_of_lt q2) (Nat.le_of_lt h0)
    have g2 := Nat.mul_le_mul (Nat.le_refl 4294967296) hc
    clear a2 hY h0 h1 hu hU
    generalize q * y0 = z at *
    generalize q * y1 = z2 at *
    omega
theorem dig_rest {U Y y1 y0 u q : Nat} (hY : Y = y1 * 4294967296 + y0) (h0 : y0 < 4294967296) (h1 : 1 ≤ y1) (hu : u < 4294967296) (hU : U < Y) (h : q = (U * 4294967296 + u) / Y) : IntKind.u64.wrap (IntKind.u64.wrap (IntKind.u64.wrap (((U : Nat) : Int) * 4294967296) + ((u : Nat) : Int)) - IntKind.u64.wrap (((q : Nat) : Int) * ((Y : Nat) : Int))) = (((U * 4294967296 + u) % Y : Nat) : Int) ∨ 18446744073709551616 ≤ Y := by
  by_cases hb : Y < 18446744073709551616
  · refine .inl ?_
    have e := Nat.div_add_mod (U * 4294967296 + u) Y
    have l := Nat.mod_lt (U * 4294967296 + u) (show 0 < Y by omega)
    rw [← h, Nat.mul_comm] at e
    obtain ⟨z, hz⟩ : ∃ z : Nat, q * Y = z := ⟨_, rfl⟩
    obtain ⟨m, hm⟩ : ∃ z : Nat, (U * 4294967296 + u) % Y = z := ⟨_, rfl⟩
    rw [hm, hz] at e; rw [hm] at l ⊢
    rw [← Int.natCast_mul, hz]
    simp only [IntKind.wrap_u64]
    omega
  · exact .inr (by omega)
theorem dig_cases (q r y0 y1 u : Nat) : (4294967296 ≤ q ∧ r + y1 < 4294967296) ∨ (4294967296 ≤ q ∧ 4294967296 ≤ r + y1) ∨ (q < 4294967296 ∧ 4294967296 * r + u < q * y0 ∧ r + y1 < 4294967296) ∨ (q < 4294967296 ∧ 4294967296 * r + u < q * y0 ∧ 4294967296 ≤ r + y1) ∨ (q < 4294967296 ∧ q * y0 ≤ 4294967296 * r + u) := by
  generalize q * y0 = z
  omega
theorem mul_small {q y : Nat} (h : q < 4294967296) (h2 : y < 4294967296) : q * y < 18446744073709551616 := by
  have := Nat.mul_le_mul (Nat.le_sub_one_of_lt h) (Nat.le_sub_one_of_lt h2)
  omega
theorem rem_small {U y : Nat} (h : 1 ≤ y) (h2 : y < 4294967296) : U - U / y * y < 4294967296 := by
  have e := Nat.div_add_mod U y
  have l := Nat.mod_lt U h
  rw [Nat.mul_comm] at e
  omega
theorem wrap_sub (x z : Nat) (h : z ≤ x) (hx : x < 18446744073709551616) : IntKind.u64.wrap (((x : Nat) : Int) - ((z : Nat) : Int)) = ((x - z : Nat) : Int) := by
  rw [IntKind.wrap_u64]; omega
theorem wide_shift {hi lo y s : Nat} (hs : s ≤ 63) (hl : lo < 18446744073709551616) (hh : hi < y) (hb : y * 2 ^ s < 18446744073709551616) : ((hi <<< s) % Kec.W ||| lo >>> (64 - s)) * 18446744073709551616 + (lo <<< s) % Kec.W = (hi * 18446744073709551616 + lo) * 2 ^ s ∧ ((hi <<< s) % Kec.W ||| lo >>> (64 - s)) < y * 2 ^ s := by
  have p := two_pos s
  have e64 : 2 ^ (64 - s) * 2 ^ s = 18446744073709551616 := by rw [← Nat.pow_add, show 64 - s + s = 64 by omega]
  have m1 : hi * 2 ^ s + 2 ^ s ≤ y * 2 ^ s := by rw [← Nat.succ_mul]; exact Nat.mul_le_mul_right _ hh
  have hW : Kec.W = 18446744073709551616 := rfl
  have h1 : (hi <<< s) % Kec.W = hi <<< s := Nat.mod_eq_of_lt (by rw [Nat.shiftLeft_eq, hW]; omega)
  have hq : lo / 2 ^ (64 - s) < 2 ^ s := by
    rw [Nat.div_lt_iff_lt_mul (two_pos _), Nat.mul_comm, e64]; exact hl
  have h2 : lo >>> (64 - s) = lo / 2 ^ (64 - s) := Nat.shiftRight_eq_div_pow ..
  have h3 : (hi <<< s) ||| lo / 2 ^ (64 - s) = hi * 2 ^ s + lo / 2 ^ (64 - s) := by
    rw [← Nat.shiftLeft_add_eq_or_of_lt hq, Nat.shiftLeft_eq]
  rw [h1, h2, h3, Nat.shiftLeft_eq, hW, Nat.add_mul]
  have h4 : lo / 2 ^ (64 - s) * 18446744073709551616 + lo * 2 ^ s % 18446744073709551616 = lo * 2 ^ s := by
    have : lo * 2 ^ s / 18446744073709551616 = lo / 2 ^ (64 - s) := by
      rw [← e64]; exact Nat.mul_div_mul_right _ _ p
    rw [← this, Nat.mul_comm]; exact Nat.div_add_mod ..
  refine ⟨?_, by omega⟩
  rw [Nat.add_mul, Nat.mul_right_comm hi]
  omega
theorem long_div {U Y u1 u0 q1 V q0 : Nat} (hY : 0 < Y) (h1 : q1 = (U * 4294967296 + u1) / Y) (hV : V = (U * 4294967296 + u1) % Y) (h0 : q0 = (V * 4294967296 + u0) / Y) : (U * 18446744073709551616 + (u1 * 4294967296 + u0)) / Y = q1 * 4294967296 + q0 := by
  have e := Nat.div_add_mod (U * 4294967296 + u1) Y
  rw [← h1, ← hV] at e
  have : U * 18446744073709551616 + (u1 * 4294967296 + u0) = (V * 4294967296 + u0) + Y * (q1 * 4294967296) := by
    rw [← Nat.mul_assoc]; omega
  rw [this, Nat.add_mul_div_left _ _ hY, ← h0]; omega
theorem div_end {hi lo y s U Y L u1 u0 q1 V q0 : Nat} (hy1 : 1 ≤ y) (hYe : y * 2 ^ s = Y) (hsum : U * 18446744073709551616 + L = (hi * 18446744073709551616 + lo) * 2 ^ s) (hLs : L = u1 * 4294967296 + u0) (h1 : q1 = (U * 4294967296 + u1) / Y) (hV : (U * 4294967296 + u1) % Y = V) (h0 : q0 = (V * 4294967296 + u0) / Y) : q1 * 4294967296 + q0 = (hi * 18446744073709551616 + lo) / y := by
  have p := two_pos s
  have hY : 0 < Y := hYe ▸ Nat.mul_pos hy1 p
  rw [← long_div hY h1 hV.symm h0, ← hLs, hsum, ← hYe, Nat.mul_div_mul_right _ _ p]
noncomputable def qc53_1 (n : Nat) : Code := partOf Tryd.f69 n
theorem bLen64_yyy (y : Nat) (hy1 : 1 ≤ y) (hy2 : y < 18446744073709551616) (g0 : 4294967296 ≤ y) (g1 : 65536 ≤ y / 4294967296) (g2 : 256 ≤ y / 4294967296 / 65536) (w : World) :
    Calls Tryd.prog 69 #[.int .u64 ((y : Nat) : Int)] w (fun e w' => ∃ n : Nat, e = .returned (.int .i64 ((n : Nat) : Int)) ∧ IsLen y n ∧ w = w') := by
  obtain ⟨c, hc, hc8, hct, hcl⟩ := ltab_all ⟨y / 4294967296 / 65536 / 256, by omega⟩
  have K0 : Keeps Nob w w := Keeps.refl _ _
  refine sy_enter (qc53_1 1) ⟨#[uN y, ud, ud, ud, ud, ud, ud, ud, ud, ud, ud, ud, ud, ud, ud, ud, ud, ud, ud, ud, ud, ud, ud, ud, ud], []⟩ Tryd.func69 (by kernel_rfl) (by kernel_rfl) <| qr_ [0] <| pkq (.int .i64 0) <| eq_ <| qr_ [0, 1] <| pkq (uN y) <| ppq (.bool true) (dct ((((y : Nat) : Int)) ≥ ((4294967296) : Int)) (by omega)) <| ey_ <| qr_ [0, 1, 2] <| pkq (uN y) <| ppq (uN (y / 4294967296)) (exec_cast (congrArg (fun n : Nat => Value.int .u64 (n : Int)) (Nat.shiftRight_eq_div_pow y 32)) (exec_binop .shr 22 96 (.tmp 5) (.const (.int .u64 32)) (by kernel_rfl) (uN y) (uN 32) _ (by kernel_rfl) (by kernel_rfl) (by kernel_rfl) (run_shrU _ _ _ 32 (by omega)))) <| pkq (uN (y / 4294967296)) <| er_ [0] <| pkq (.int .i64 32) ?_
  refine eq_ <| qr_ [0, 1] <| pkq (uN (y / 4294967296)) <| ppq (.bool true) (dct ((((y / 4294967296 : Nat) : Int)) ≥ ((65536) : Int)) (by omega)) <| ey_ <| qr_ [0, 1, 2] <| pkq (uN (y / 4294967296)) <| ppq (uN (y / 4294967296 / 65536)) (exec_cast (congrArg (fun n : Nat => Value.int .u64 (n : Int)) (Nat.shiftRight_eq_div_pow (y / 4294967296) 16)) (exec_binop .shr 22 96 (.tmp 9) (.const (.int .u64 16)) (by kernel_rfl) (uN (y / 4294967296)) (uN 16) _ (by kernel_rfl) (by kernel_rfl) (by kernel_rfl) (run_shrU _ _ _ 16 (by omega)))) <| pkq (uN (y / 4294967296 / 65536)) <| er_ [0, 1, 2] <| pkq (.int .i64 32) <| pkq (.int .i64 48) <| pkq (.int .i64 48) <| eq_ ?_
  refine qr_ [0, 1] <| pkq (uN (y / 4294967296 / 65536)) <| ppq (.bool true) (dct ((((y / 4294967296 / 65536 : Nat) : Int)) ≥ ((256) : Int)) (by omega)) <| ey_ <| qr_ [0, 1, 2] <| pkq (uN (y / 4294967296 / 65536)) <| ppq (uN (y / 4294967296 / 65536 / 256)) (exec_cast (congrArg (fun n : Nat => Value.int .u64 (n : Int)) (Nat.shiftRight_eq_div_pow (y / 4294967296 / 65536) 8)) (exec_binop .shr 22 96 (.tmp 15) (.const (.int .u64 8)) (by kernel_rfl) (uN (y / 4294967296 / 65536)) (uN 8) _ (by kernel_rfl) (by kernel_rfl) (by kernel_rfl) (run_shrU _ _ _ 8 (by omega)))) <| pkq (uN (y / 4294967296 / 65536 / 256)) <| er_ [0, 1, 2] <| pkq (.int .i64 48) <| pkq (.int .i64 56) <| pkq (.int .i64 56) <| eqr_ [0, 1, 2, 3, 4, 5, 6] <| pkq (.int .i64 56) ?_
  refine pkq (uN (y / 4294967296 / 65536 / 256)) <| prq (cN (y / 4294967296 / 65536 / 256)) (w' := w) (exec_convert 22 5 (.tmp 20) (by kernel_rfl) _ (by kernel_rfl) (conv_u64_u8 (by omega) _)) <| ppq (cN c.toNat) (exec_index_str 9 (.const (.string ⟨ltab.toArray⟩)) (.tmp 21) (by kernel_rfl) ltab (by kernel_rfl) .u8 (y / 4294967296 / 65536 / 256) (by kernel_rfl) Tryd.underlying9 c hc) <| prq (iN c.toNat) (w' := w) (exec_convert 5 3 (.tmp 22) (by kernel_rfl) _ (by kernel_rfl) (conv_u8_int (by omega) _)) <| ppq (iN (56 + c.toNat)) (exec_cast (congrArg (Value.int .i64) (wrapN (56 + c.toNat) (by omega))) (by kernel_rfl)) <| pkq (iN (56 + c.toNat)) <| ps_end <| sy_a ⟨#[uN (y / 4294967296 / 65536 / 256), ud, iN (56 + c.toNat), uN y, .bool true, uN y, uN (y / 4294967296), uN (y / 4294967296), .bool true, uN (y / 4294967296), uN (y / 4294967296 / 65536), .int .i64 32, .int .i64 48, uN (y / 4294967296 / 65536), .bool true, uN (y / 4294967296 / 65536), uN (y / 4294967296 / 65536 / 256), .int .i64 48, .int .i64 56, .int .i64 56, uN (y / 4294967296 / 65536 / 256), cN (y / 4294967296 / 65536 / 256), cN c.toNat, iN c.toNat, iN (56 + c.toNat)], []⟩ <| then_n <| u_ <| so_ (.int .i64 ((56 + c.toNat : Nat) : Int)) ?_
  exact ⟨56 + c.toNat, rfl, len_fin (x := y / 4294967296 / 65536 / 256) (K := 72057594037927936) (by decide) (by decide) hc8 (by omega) (by omega) hct (by omega) hcl, rfl⟩
theorem bLen64_yyn (y : Nat) (hy1 : 1 ≤ y) (hy2 : y < 18446744073709551616) (g0 : 4294967296 ≤ y) (g1 : 65536 ≤ y / 4294967296) (g2 : y / 4294967296 / 65536 < 256) (w : World) :
    Calls Tryd.prog 69 #[.int .u64 ((y : Nat) : Int)] w (fun e w' => ∃ n : Nat, e = .returned (.int .i64 ((n : Nat) : Int)) ∧ IsLen y n ∧ w = w') := by
  obtain ⟨c, hc, hc8, hct, hcl⟩ := ltab_all ⟨y / 4294967296 / 65536, by omega⟩
  have K0 : Keeps Nob w w := Keeps.refl _ _
  refine sy_enter (qc53_1 1) ⟨#[uN y, ud, ud, ud, ud, ud, ud, ud, ud, ud, ud, ud, ud, ud, ud, ud, ud, ud, ud, ud, ud, ud, ud, ud, ud], []⟩ Tryd.func69 (by kernel_rfl) (by kernel_rfl) <| qr_ [0] <| pkq (.int .i64 0) <| eq_ <| qr_ [0, 1] <| pkq (uN y) <| ppq (.bool true) (dct ((((y : Nat) : Int)) ≥ ((4294967296) : Int)) (by omega)) <| ey_ <| qr_ [0, 1, 2] <| pkq (uN y) <| ppq (uN (y / 4294967296)) (exec_cast (congrArg (fun n : Nat => Value.int .u64 (n : Int)) (Nat.shiftRight_eq_div_pow y 32)) (exec_binop .shr 22 96 (.tmp 5) (.const (.int .u64 32)) (by kernel_rfl) (uN y) (uN 32) _ (by kernel_rfl) (by kernel_rfl) (by kernel_rfl) (run_shrU _ _ _ 32 (by omega)))) <| pkq (uN (y / 4294967296)) <| er_ [0] <| pkq (.int .i64 32) ?_
  refine eq_ <| qr_ [0, 1] <| pkq (uN (y / 4294967296)) <| ppq (.bool true) (dct ((((y / 4294967296 : Nat) : Int)) ≥ ((65536) : Int)) (by omega)) <| ey_ <| qr_ [0, 1, 2] <| pkq (uN (y / 4294967296)) <| ppq (uN (y / 4294967296 / 65536)) (exec_cast (congrArg (fun n : Nat => Value.int .u64 (n : Int)) (Nat.shiftRight_eq_div_pow (y / 4294967296) 16)) (exec_binop .shr 22 96 (.tmp 9) (.const (.int .u64 16)) (by kernel_rfl) (uN (y / 4294967296)) (uN 16) _ (by kernel_rfl) (by kernel_rfl) (by kernel_rfl) (run_shrU _ _ _ 16 (by omega)))) <| pkq (uN (y / 4294967296 / 65536)) <| er_ [0, 1, 2] <| pkq (.int .i64 32) <| pkq (.int .i64 48) <| pkq (.int .i64 48) <| eq_ ?_
  refine qr_ [0, 1] <| pkq (uN (y / 4294967296 / 65536)) <| ppq (.bool false) (dcf ((((y / 4294967296 / 65536 : Nat) : Int)) ≥ ((256) : Int)) (by omega)) <| en_ <| s_ <| tqr_ [0, 1, 2, 3, 4, 5, 6] <| pkq (.int .i64 48) <| pkq (uN (y / 4294967296 / 65536)) <| prq (cN (y / 4294967296 / 65536)) (w' := w) (exec_convert 22 5 (.tmp 20) (by kernel_rfl) _ (by kernel_rfl) (conv_u64_u8 (by omega) _)) <| ppq (cN c.toNat) (exec_index_str 9 (.const (.string ⟨ltab.toArray⟩)) (.tmp 21) (by kernel_rfl) ltab (by kernel_rfl) .u8 (y / 4294967296 / 65536) (by kernel_rfl) Tryd.underlying9 c hc) <| prq (iN c.toNat) (w' := w) (exec_convert 5 3 (.tmp 22) (by kernel_rfl) _ (by kernel_rfl) (conv_u8_int (by omega) _)) <| ppq (iN (48 + c.toNat)) (exec_cast (congrArg (Value.int .i64) (wrapN (48 + c.toNat) (by omega))) (by kernel_rfl)) <| pkq (iN (48 + c.toNat)) <| ps_end ?_
  refine sy_a ⟨#[uN (y / 4294967296 / 65536), ud, iN (48 + c.toNat), uN y, .bool true, uN y, uN (y / 4294967296), uN (y / 4294967296), .bool true, uN (y / 4294967296), uN (y / 4294967296 / 65536), .int .i64 32, .int .i64 48, uN (y / 4294967296 / 65536), .bool false, ud, ud, ud, ud, .int .i64 48, uN (y / 4294967296 / 65536), cN (y / 4294967296 / 65536), cN c.toNat, iN c.toNat, iN (48 + c.toNat)], []⟩ <| then_n <| u_ <| so_ (.int .i64 ((48 + c.toNat : Nat) : Int)) ?_
  exact ⟨48 + c.toNat, rfl, len_fin (x := y / 4294967296 / 65536) (K := 281474976710656) (by decide) (by decide) hc8 (by omega) (by omega) hct (by omega) hcl, rfl⟩
theorem bLen64_yny (y : Nat) (hy1 : 1 ≤ y) (hy2 : y < 18446744073709551616) (g0 : 4294967296 ≤ y) (g1 : y / 4294967296 < 65536) (g2 : 256 ≤ y / 4294967296) (w : World) :
    Calls Tryd.prog 69 #[.int .u64 ((y : Nat) : Int)] w (fun e w' => ∃ n : Nat, e = .returned (.int .i64 ((n : Nat) : Int)) ∧ IsLen y n ∧ w = w') := by
  obtain ⟨c, hc, hc8, hct, hcl⟩ := ltab_all ⟨y / 4294967296 / 256, by omega⟩
  have K0 : Keeps Nob w w := Keeps.refl _ _
  refine sy_enter (qc53_1 1) ⟨#[uN y, ud, ud, ud, ud, ud, ud, ud, ud, ud, ud, ud, ud, ud, ud, ud, ud, ud, ud, ud, ud, ud, ud, ud, ud], []⟩ Tryd.func69 (by kernel_rfl) (by kernel_rfl) <| qr_ [0] <| pkq (.int .i64 0) <| eq_ <| qr_ [0, 1] <| pkq (uN y) <| ppq (.bool true) (dct ((((y : Nat) : Int)) ≥ ((4294967296) : Int)) (by omega)) <| ey_ <| qr_ [0, 1, 2] <| pkq (uN y) <| ppq (uN (y / 4294967296)) (exec_cast (congrArg (fun n : Nat => Value.int .u64 (n : Int)) (Nat.shiftRight_eq_div_pow y 32)) (exec_binop .shr 22 96 (.tmp 5) (.const (.int .u64 32)) (by kernel_rfl) (uN y) (uN 32) _ (by kernel_rfl) (by kernel_rfl) (by kernel_rfl) (run_shrU _ _ _ 32 (by omega)))) <| pkq (uN (y / 4294967296)) <| er_ [0] <| pkq (.int .i64 32) ?_
  refine eq_ <| qr_ [0, 1] <| pkq (uN (y / 4294967296)) <| ppq (.bool false) (dcf ((((y / 4294967296 : Nat) : Int)) ≥ ((65536) : Int)) (by omega)) <| en_ <| s_ <| tq_ <| qr_ [0, 1] <| pkq (uN (y / 4294967296)) <| ppq (.bool true) (dct ((((y / 4294967296 : Nat) : Int)) ≥ ((256) : Int)) (by omega)) <| ey_ <| qr_ [0, 1, 2] <| pkq (uN (y / 4294967296)) <| ppq (uN (y / 4294967296 / 256)) (exec_cast (congrArg (fun n : Nat => Value.int .u64 (n : Int)) (Nat.shiftRight_eq_div_pow (y / 4294967296) 8)) (exec_binop .shr 22 96 (.tmp 15) (.const (.int .u64 8)) (by kernel_rfl) (uN (y / 4294967296)) (uN 8) _ (by kernel_rfl) (by kernel_rfl) (by kernel_rfl) (run_shrU _ _ _ 8 (by omega)))) ?_
  refine pkq (uN (y / 4294967296 / 256)) <| er_ [0, 1, 2] <| pkq (.int .i64 32) <| pkq (.int .i64 40) <| pkq (.int .i64 40) <| eqr_ [0, 1, 2, 3, 4, 5, 6] <| pkq (.int .i64 40) <| pkq (uN (y / 4294967296 / 256)) <| prq (cN (y / 4294967296 / 256)) (w' := w) (exec_convert 22 5 (.tmp 20) (by kernel_rfl) _ (by kernel_rfl) (conv_u64_u8 (by omega) _)) <| ppq (cN c.toNat) (exec_index_str 9 (.const (.string ⟨ltab.toArray⟩)) (.tmp 21) (by kernel_rfl) ltab (by kernel_rfl) .u8 (y / 4294967296 / 256) (by kernel_rfl) Tryd.underlying9 c hc) <| prq (iN c.toNat) (w' := w) (exec_convert 5 3 (.tmp 22) (by kernel_rfl) _ (by kernel_rfl) (conv_u8_int (by omega) _)) <| ppq (iN (40 + c.toNat)) (exec_cast (congrArg (Value.int .i64) (wrapN (40 + c.toNat) (by omega))) (by kernel_rfl)) <| pkq (iN (40 + c.toNat)) <| ps_end ?_
  refine sy_a ⟨#[uN (y / 4294967296 / 256), ud, iN (40 + c.toNat), uN y, .bool true, uN y, uN (y / 4294967296), uN (y / 4294967296), .bool false, ud, ud, ud, ud, uN (y / 4294967296), .bool true, uN (y / 4294967296), uN (y / 4294967296 / 256), .int .i64 32, .int .i64 40, .int .i64 40, uN (y / 4294967296 / 256), cN (y / 4294967296 / 256), cN c.toNat, iN c.toNat, iN (40 + c.toNat)], []⟩ <| then_n <| u_ <| so_ (.int .i64 ((40 + c.toNat : Nat) : Int)) ?_
  exact ⟨40 + c.toNat, rfl, len_fin (x := y / 4294967296 / 256) (K := 1099511627776) (by decide) (by decide) hc8 (by omega) (by omega) hct (by omega) hcl, rfl⟩
theorem bLen64_ynn (y : Nat) (hy1 : 1 ≤ y) (hy2 : y < 18446744073709551616) (g0 : 4294967296 ≤ y) (g1 : y / 4294967296 < 65536) (g2 : y / 4294967296 < 256) (w : World) :
    Calls Tryd.prog 69 #[.int .u64 ((y : Nat) : Int)] w (fun e w' => ∃ n : Nat, e = .returned (.int .i64 ((n : Nat) : Int)) ∧ IsLen y n ∧ w = w') := by
  obtain ⟨c, hc, hc8, hct, hcl⟩ := ltab_all ⟨y / 4294967296, by omega⟩
  have K0 : Keeps Nob w w := Keeps.refl _ _
  refine sy_enter (qc53_1 1) ⟨#[uN y, ud, ud, ud, ud, ud, ud, ud, ud, ud, ud, ud, ud, ud, ud, ud, ud, ud, ud, ud, ud, ud, ud, ud, ud], []⟩ Tryd.func69 (by kernel_rfl) (by kernel_rfl) <| qr_ [0] <| pkq (.int .i64 0) <| eq_ <| qr_ [0, 1] <| pkq (uN y) <| ppq (.bool true) (dct ((((y : Nat) : Int)) ≥ ((4294967296) : Int)) (by omega)) <| ey_ <| qr_ [0, 1, 2] <| pkq (uN y) <| ppq (uN (y / 4294967296)) (exec_cast (congrArg (fun n : Nat => Value.int .u64 (n : Int)) (Nat.shiftRight_eq_div_pow y 32)) (exec_binop .shr 22 96 (.tmp 5) (.const (.int .u64 32)) (by kernel_rfl) (uN y) (uN 32) _ (by kernel_rfl) (by kernel_rfl) (by kernel_rfl) (run_shrU _ _ _ 32 (by omega)))) <| pkq (uN (y / 4294967296)) <| er_ [0] <| pkq (.int .i64 32) ?_
  refine eq_ <| qr_ [0, 1] <| pkq (uN (y / 4294967296)) <| ppq (.bool false) (dcf ((((y / 4294967296 : Nat) : Int)) ≥ ((65536) : Int)) (by omega)) <| en_ <| s_ <| tq_ <| qr_ [0, 1] <| pkq (uN (y / 4294967296)) <| ppq (.bool false) (dcf ((((y / 4294967296 : Nat) : Int)) ≥ ((256) : Int)) (by omega)) <| en_ <| s_ <| tqr_ [0, 1, 2, 3, 4, 5, 6] <| pkq (.int .i64 32) ?_
  refine pkq (uN (y / 4294967296)) <| prq (cN (y / 4294967296)) (w' := w) (exec_convert 22 5 (.tmp 20) (by kernel_rfl) _ (by kernel_rfl) (conv_u64_u8 (by omega) _)) <| ppq (cN c.toNat) (exec_index_str 9 (.const (.string ⟨ltab.toArray⟩)) (.tmp 21) (by kernel_rfl) ltab (by kernel_rfl) .u8 (y / 4294967296) (by kernel_rfl) Tryd.underlying9 c hc) <| prq (iN c.toNat) (w' := w) (exec_convert 5 3 (.tmp 22) (by kernel_rfl) _ (by kernel_rfl) (conv_u8_int (by omega) _)) <| ppq (iN (32 + c.toNat)) (exec_cast (congrArg (Value.int .i64) (wrapN (32 + c.toNat) (by omega))) (by kernel_rfl)) <| pkq (iN (32 + c.toNat)) <| eu_ <| so_ (.int .i64 ((32 + c.toNat : Nat) : Int)) ?_
  exact ⟨32 + c.toNat, rfl, len_fin (x := y / 4294967296) (K := 4294967296) (by decide) (by decide) hc8 (by omega) (by omega) hct (by omega) hcl, rfl⟩
theorem bLen64_nyy (y : Nat) (hy1 : 1 ≤ y) (hy2 : y < 18446744073709551616) (g0 : y < 4294967296) (g1 : 65536 ≤ y) (g2 : 256 ≤ y / 65536) (w : World) :
    Calls Tryd.prog 69 #[.int .u64 ((y : Nat) : Int)] w (fun e w' => ∃ n : Nat, e = .returned (.int .i64 ((n : Nat) : Int)) ∧ IsLen y n ∧ w = w') := by
  obtain ⟨c, hc, hc8, hct, hcl⟩ := ltab_all ⟨y / 65536 / 256, by omega⟩
  have K0 : Keeps Nob w w := Keeps.refl _ _
  refine sy_enter (qc53_1 1) ⟨#[uN y, ud, ud, ud, ud, ud, ud, ud, ud, ud, ud, ud, ud, ud, ud, ud, ud, ud, ud, ud, ud, ud, ud, ud, ud], []⟩ Tryd.func69 (by kernel_rfl) (by kernel_rfl) <| qr_ [0] <| pkq (.int .i64 0) <| eq_ <| qr_ [0, 1] <| pkq (uN y) <| ppq (.bool false) (dcf ((((y : Nat) : Int)) ≥ ((4294967296) : Int)) (by omega)) <| en_ <| s_ <| tq_ <| qr_ [0, 1] <| pkq (uN y) <| ppq (.bool true) (dct ((((y : Nat) : Int)) ≥ ((65536) : Int)) (by omega)) <| ey_ ?_
  refine qr_ [0, 1, 2] <| pkq (uN y) <| ppq (uN (y / 65536)) (exec_cast (congrArg (fun n : Nat => Value.int .u64 (n : Int)) (Nat.shiftRight_eq_div_pow y 16)) (exec_binop .shr 22 96 (.tmp 9) (.const (.int .u64 16)) (by kernel_rfl) (uN y) (uN 16) _ (by kernel_rfl) (by kernel_rfl) (by kernel_rfl) (run_shrU _ _ _ 16 (by omega)))) <| pkq (uN (y / 65536)) <| er_ [0, 1, 2] <| pkq (.int .i64 0) <| pkq (.int .i64 16) <| pkq (.int .i64 16) <| eq_ <| qr_ [0, 1] <| pkq (uN (y / 65536)) <| ppq (.bool true) (dct ((((y / 65536 : Nat) : Int)) ≥ ((256) : Int)) (by omega)) <| ey_ <| qr_ [0, 1, 2] ?_
  refine pkq (uN (y / 65536)) <| ppq (uN (y / 65536 / 256)) (exec_cast (congrArg (fun n : Nat => Value.int .u64 (n : Int)) (Nat.shiftRight_eq_div_pow (y / 65536) 8)) (exec_binop .shr 22 96 (.tmp 15) (.const (.int .u64 8)) (by kernel_rfl) (uN (y / 65536)) (uN 8) _ (by kernel_rfl) (by kernel_rfl) (by kernel_rfl) (run_shrU _ _ _ 8 (by omega)))) <| pkq (uN (y / 65536 / 256)) <| er_ [0, 1, 2] <| pkq (.int .i64 16) <| pkq (.int .i64 24) <| pkq (.int .i64 24) <| eqr_ [0, 1, 2, 3, 4, 5, 6] <| pkq (.int .i64 24) <| pkq (uN (y / 65536 / 256)) <| prq (cN (y / 65536 / 256)) (w' := w) (exec_convert 22 5 (.tmp 20) (by kernel_rfl) _ (by kernel_rfl) (conv_u64_u8 (by omega) _)) <| ppq (cN c.toNat) (exec_index_str 9 (.const (.string ⟨ltab.toArray⟩)) (.tmp 21) (by kernel_rfl) ltab (by kernel_rfl) .u8 (y / 65536 / 256) (by kernel_rfl) Tryd.underlying9 c hc) <| prq (iN c.toNat) (w' := w) (exec_convert 5 3 (.tmp 22) (by kernel_rfl) _ (by kernel_rfl) (conv_u8_int (by omega) _)) <| ppq (iN (24 + c.toNat)) (exec_cast (congrArg (Value.int .i64) (wrapN (24 + c.toNat) (by omega))) (by kernel_rfl)) ?_
  refine pkq (iN (24 + c.toNat)) <| ps_end <| sy_a ⟨#[uN (y / 65536 / 256), ud, iN (24 + c.toNat), uN y, .bool false, ud, ud, uN y, .bool true, uN y, uN (y / 65536), .int .i64 0, .int .i64 16, uN (y / 65536), .bool true, uN (y / 65536), uN (y / 65536 / 256), .int .i64 16, .int .i64 24, .int .i64 24, uN (y / 65536 / 256), cN (y / 65536 / 256), cN c.toNat, iN c.toNat, iN (24 + c.toNat)], []⟩ <| then_n <| u_ <| so_ (.int .i64 ((24 + c.toNat : Nat) : Int)) ?_
  exact ⟨24 + c.toNat, rfl, len_fin (x := y / 65536 / 256) (K := 16777216) (by decide) (by decide) hc8 (by omega) (by omega) hct (by omega) hcl, rfl⟩
theorem bLen64_nyn (y : Nat) (hy1 : 1 ≤ y) (hy2 : y < 18446744073709551616) (g0 : y < 4294967296) (g1 : 65536 ≤ y) (g2 : y / 65536 < 256) (w : World) :
    Calls Tryd.prog 69 #[.int .u64 ((y : Nat) : Int)] w (fun e w' => ∃ n : Nat, e = .returned (.int .i64 ((n : Nat) : Int)) ∧ IsLen y n ∧ w = w') := by
  obtain ⟨c, hc, hc8, hct, hcl⟩ := ltab_all ⟨y / 65536, by omega⟩
  have K0 : Keeps Nob w w := Keeps.refl _ _
  refine sy_enter (qc53_1 1) ⟨#[uN y, ud, ud, ud, ud, ud, ud, ud, ud, ud, ud, ud, ud, ud, ud, ud, ud, ud, ud, ud, ud, ud, ud, ud, ud], []⟩ Tryd.func69 (by kernel_rfl) (by kernel_rfl) <| qr_ [0] <| pkq (.int .i64 0) <| eq_ <| qr_ [0, 1] <| pkq (uN y) <| ppq (.bool false) (dcf ((((y : Nat) : Int)) ≥ ((4294967296) : Int)) (by omega)) <| en_ <| s_ <| tq_ <| qr_ [0, 1] <| pkq (uN y) <| ppq (.bool true) (dct ((((y : Nat) : Int)) ≥ ((65536) : Int)) (by omega)) <| ey_ ?_
  refine qr_ [0, 1, 2] <| pkq (uN y) <| ppq (uN (y / 65536)) (exec_cast (congrArg (fun n : Nat => Value.int .u64 (n : Int)) (Nat.shiftRight_eq_div_pow y 16)) (exec_binop .shr 22 96 (.tmp 9) (.const (.int .u64 16)) (by kernel_rfl) (uN y) (uN 16) _ (by kernel_rfl) (by kernel_rfl) (by kernel_rfl) (run_shrU _ _ _ 16 (by omega)))) <| pkq (uN (y / 65536)) <| er_ [0, 1, 2] <| pkq (.int .i64 0) <| pkq (.int .i64 16) <| pkq (.int .i64 16) <| eq_ <| qr_ [0, 1] <| pkq (uN (y / 65536)) <| ppq (.bool false) (dcf ((((y / 65536 : Nat) : Int)) ≥ ((256) : Int)) (by omega)) <| en_ <| s_ ?_
  refine tqr_ [0, 1, 2, 3, 4, 5, 6] <| pkq (.int .i64 16) <| pkq (uN (y / 65536)) <| prq (cN (y / 65536)) (w' := w) (exec_convert 22 5 (.tmp 20) (by kernel_rfl) _ (by kernel_rfl) (conv_u64_u8 (by omega) _)) <| ppq (cN c.toNat) (exec_index_str 9 (.const (.string ⟨ltab.toArray⟩)) (.tmp 21) (by kernel_rfl) ltab (by kernel_rfl) .u8 (y / 65536) (by kernel_rfl) Tryd.underlying9 c hc) <| prq (iN c.toNat) (w' := w) (exec_convert 5 3 (.tmp 22) (by kernel_rfl) _ (by kernel_rfl) (conv_u8_int (by omega) _)) <| ppq (iN (16 + c.toNat)) (exec_cast (congrArg (Value.int .i64) (wrapN (16 + c.toNat) (by omega))) (by kernel_rfl)) <| pkq (iN (16 + c.toNat)) <| eu_ <| so_ (.int .i64 ((16 + c.toNat : Nat) : Int)) ?_
  exact ⟨16 + c.toNat, rfl, len_fin (x := y / 65536) (K := 65536) (by decide) (by decide) hc8 (by omega) (by omega) hct (by omega) hcl, rfl⟩
theorem bLen64_nny (y : Nat) (hy1 : 1 ≤ y) (hy2 : y < 18446744073709551616) (g0 : y < 4294967296) (g1 : y < 65536) (g2 : 256 ≤ y) (w : World) :
    Calls Tryd.prog 69 #[.int .u64 ((y : Nat) : Int)] w (fun e w' => ∃ n : Nat, e = .returned (.int .i64 ((n : Nat) : Int)) ∧ IsLen y n ∧ w = w') := by
  obtain ⟨c, hc, hc8, hct, hcl⟩ := ltab_all ⟨y / 256, by omega⟩
  have K0 : Keeps Nob w w := Keeps.refl _ _
  refine sy_enter (qc53_1 1) ⟨#[uN y, ud, ud, ud, ud, ud, ud, ud, ud, ud, ud, ud, ud, ud, ud, ud, ud, ud, ud, ud, ud, ud, ud, ud, ud], []⟩ Tryd.func69 (by kernel_rfl) (by kernel_rfl) <| qr_ [0] <| pkq (.int .i64 0) <| eq_ <| qr_ [0, 1] <| pkq (uN y) <| ppq (.bool false) (dcf ((((y : Nat) : Int)) ≥ ((4294967296) : Int)) (by omega)) <| en_ <| s_ <| tq_ <| qr_ [0, 1] <| pkq (uN y) <| ppq (.bool false) (dcf ((((y : Nat) : Int)) ≥ ((65536) : Int)) (by omega)) <| en_ ?_
  refine s_ <| tq_ <| qr_ [0, 1] <| pkq (uN y) <| ppq (.bool true) (dct ((((y : Nat) : Int)) ≥ ((256) : Int)) (by omega)) <| ey_ <| qr_ [0, 1, 2] <| pkq (uN y) <| ppq (uN (y / 256)) (exec_cast (congrArg (fun n : Nat => Value.int .u64 (n : Int)) (Nat.shiftRight_eq_div_pow y 8)) (exec_binop .shr 22 96 (.tmp 15) (.const (.int .u64 8)) (by kernel_rfl) (uN y) (uN 8) _ (by kernel_rfl) (by kernel_rfl) (by kernel_rfl) (run_shrU _ _ _ 8 (by omega)))) <| pkq (uN (y / 256)) <| er_ [0, 1, 2] <| pkq (.int .i64 0) <| pkq (.int .i64 8) <| pkq (.int .i64 8) ?_
  refine eqr_ [0, 1, 2, 3, 4, 5, 6] <| pkq (.int .i64 8) <| pkq (uN (y / 256)) <| prq (cN (y / 256)) (w' := w) (exec_convert 22 5 (.tmp 20) (by kernel_rfl) _ (by kernel_rfl) (conv_u64_u8 (by omega) _)) <| ppq (cN c.toNat) (exec_index_str 9 (.const (.string ⟨ltab.toArray⟩)) (.tmp 21) (by kernel_rfl) ltab (by kernel_rfl) .u8 (y / 256) (by kernel_rfl) Tryd.underlying9 c hc) <| prq (iN c.toNat) (w' := w) (exec_convert 5 3 (.tmp 22) (by kernel_rfl) _ (by kernel_rfl) (conv_u8_int (by omega) _)) <| ppq (iN (8 + c.toNat)) (exec_cast (congrArg (Value.int .i64) (wrapN (8 + c.toNat) (by omega))) (by kernel_rfl)) <| pkq (iN (8 + c.toNat)) <| eu_ <| so_ (.int .i64 ((8 + c.toNat : Nat) : Int)) ?_
  exact ⟨8 + c.toNat, rfl, len_fin (x := y / 256) (K := 256) (by decide) (by decide) hc8 (by omega) (by omega) hct (by omega) hcl, rfl⟩
theorem bLen64_nnn (y : Nat) (hy1 : 1 ≤ y) (hy2 : y < 18446744073709551616) (g0 : y < 4294967296) (g1 : y < 65536) (g2 : y < 256) (w : World) :
    Calls Tryd.prog 69 #[.int .u64 ((y : Nat) : Int)] w (fun e w' => ∃ n : Nat, e = .returned (.int .i64 ((n : Nat) : Int)) ∧ IsLen y n ∧ w = w') := by
  obtain ⟨c, hc, hc8, hct, hcl⟩ := ltab_all ⟨y, by omega⟩
  have K0 : Keeps Nob w w := Keeps.refl _ _
  refine sy_enter (qc53_1 1) ⟨#[uN y, ud, ud, ud, ud, ud, ud, ud, ud, ud, ud, ud, ud, ud, ud, ud, ud, ud, ud, ud, ud, ud, ud, ud, ud], []⟩ Tryd.func69 (by kernel_rfl) (by kernel_rfl) <| qr_ [0] <| pkq (.int .i64 0) <| eq_ <| qr_ [0, 1] <| pkq (uN y) <| ppq (.bool false) (dcf ((((y : Nat) : Int)) ≥ ((4294967296) : Int)) (by omega)) <| en_ <| s_ <| tq_ <| qr_ [0, 1] <| pkq (uN y) <| ppq (.bool false) (dcf ((((y : Nat) : Int)) ≥ ((65536) : Int)) (by omega)) <| en_ ?_
  refine s_ <| tq_ <| qr_ [0, 1] <| pkq (uN y) <| ppq (.bool false) (dcf ((((y : Nat) : Int)) ≥ ((256) : Int)) (by omega)) <| en_ <| s_ <| tqr_ [0, 1, 2, 3, 4, 5, 6] <| pkq (.int .i64 0) <| pkq (uN y) <| prq (cN y) (w' := w) (exec_convert 22 5 (.tmp 20) (by kernel_rfl) _ (by kernel_rfl) (conv_u64_u8 (by omega) _)) <| ppq (cN c.toNat) (exec_index_str 9 (.const (.string ⟨ltab.toArray⟩)) (.tmp 21) (by kernel_rfl) ltab (by kernel_rfl) .u8 (y) (by kernel_rfl) Tryd.underlying9 c hc) <| prq (iN c.toNat) (w' := w) (exec_convert 5 3 (.tmp 22) (by kernel_rfl) _ (by kernel_rfl) (conv_u8_int (by omega) _)) <| ppq (iN (0 + c.toNat)) (exec_cast (congrArg (Value.int .i64) (wrapN (0 + c.toNat) (by omega))) (by kernel_rfl)) ?_
  refine pkq (iN (0 + c.toNat)) <| eu_ <| so_ (.int .i64 ((0 + c.toNat : Nat) : Int)) ?_
  exact ⟨0 + c.toNat, rfl, len_fin (x := y) (K := 1) (by decide) (by decide) hc8 (by omega) (by omega) hct (by omega) hcl, rfl⟩
theorem bLen64_ok (y : Nat) (hy1 : 1 ≤ y) (hy2 : y < 18446744073709551616) (w : World) : Calls Tryd.prog 69 #[.int .u64 ((y : Nat) : Int)] w (fun e w' => ∃ n : Nat, e = .returned (.int .i64 ((n : Nat) : Int)) ∧ IsLen y n ∧ w = w') := by
  by_cases c1 : 4294967296 ≤ y
  · by_cases c2 : 65536 ≤ y / 4294967296
    · by_cases c3 : 256 ≤ y / 4294967296 / 65536
      · exact bLen64_yyy y hy1 hy2 c1 c2 c3 w
      · exact bLen64_yyn y hy1 hy2 c1 c2 (by omega) w
    · by_cases c3 : 256 ≤ y / 4294967296
      · exact bLen64_yny y hy1 hy2 c1 (by omega) c3 w
      · exact bLen64_ynn y hy1 hy2 c1 (by omega) (by omega) w
  · by_cases c2 : 65536 ≤ y
    · by_cases c3 : 256 ≤ y / 65536
      · exact bLen64_nyy y hy1 hy2 (by omega) c2 c3 w
      · exact bLen64_nyn y hy1 hy2 (by omega) c2 (by omega) w
    · by_cases c3 : 256 ≤ y
      · exact bLen64_nny y hy1 hy2 (by omega) (by omega) c3 w
      · exact bLen64_nnn y hy1 hy2 (by omega) (by omega) (by omega) w
noncomputable def qc53_0 (n : Nat) : Code := partOf Tryd.f64 n
theorem bLead64_ok (y : Nat) (hy1 : 1 ≤ y) (hy2 : y < 18446744073709551616) (w : World) :
    Calls Tryd.prog 64 #[.int .u64 ((y : Nat) : Int)] w (fun e w' => ∃ s : Nat, e = .returned (.int .i64 ((s : Nat) : Int)) ∧ s ≤ 63 ∧ 9223372036854775808 ≤ y * 2 ^ s ∧ y * 2 ^ s < 18446744073709551616 ∧ w = w') := by
  have K0 : Keeps Nob w w := Keeps.refl _ _
  refine sy_enter (qc53_0 1) ⟨#[uN y, ud, ud, ud, ud, ud], []⟩ Tryd.func64 (by kernel_rfl) (by kernel_rfl) <| qr_ [0] <| pkq (.int .i64 0) <| eqr_ [0, 1, 2, 3] <| pkq (uN y) ?_
  refine pcq 69 #[uN y] Tryd.func69 ((bLen64_ok y hy1 hy2 _).mono ?_)
  rintro e w1 ⟨n, rfl, hn, rfl⟩
  obtain ⟨s, hs⟩ : ∃ s, s + n = 64 := ⟨64 - n, by have := hn.1; omega⟩
  refine ⟨_, rfl, ?_⟩
  refine ppq (iN s) (exec_cast (congrArg (Value.int .i64) (wrapI (64 - ((n : Nat) : Int)) ((s : Nat) : Int) (by omega) (by omega) (by omega))) (by kernel_rfl)) <| pkq (iN s) <| eu_ <| so_ (.int .i64 ((s : Nat) : Int)) ?_
  exact ⟨s, rfl, (lead_len hn hs).1, (lead_len hn hs).2.1, (lead_len hn hs).2.2, rfl⟩
noncomputable def qc53_2 (n : Nat) : Code := partOf Tryd.f52 n
theorem bDiv64_zero (hi lo y : Nat) (hz : hi = 0) (hy1 : 1 ≤ y) (hlo : lo < 18446744073709551616) (w : World) :
    Calls Tryd.prog 52 #[.int .u64 ((hi : Nat) : Int), .int .u64 ((lo : Nat) : Int), .int .u64 ((y : Nat) : Int)] w (fun e w' => ∃ r : Nat, e = .returned (.tuple #[.int .u64 (((hi * 18446744073709551616 + lo) / y : Nat) : Int), .int .u64 ((r : Nat) : Int)]) ∧ Keeps Nob w w') := by
  have K0 : Keeps Nob w w := Keeps.refl _ _
  refine sy_enter (qc53_2 1) ⟨#[uN hi, uN lo, uN y, ud, ud, ud, ud, ud, ud, ud, ud, ud, ud, ud, ud, ud, ud, ud, ud, ud, ud, ud, ud, ud, ud, ud, ud, ud, ud, ud, ud, ud, ud, ud, ud, ud, ud, ud, ud, ud, ud, ud, ud, ud, ud, ud, ud, ud, ud, ud, ud, ud, ud, ud, ud, ud, ud, ud, ud, ud, ud, ud, ud, ud, ud, ud, ud, ud, ud, ud, ud, ud, ud, ud, ud, ud, ud, ud, ud, ud, ud, ud, ud, ud, ud, ud, ud, ud, ud, ud, ud, ud, ud, ud, ud, ud, ud, ud, ud, ud, ud, ud, ud, ud, ud, ud, ud, ud, ud, ud, ud, ud, ud, ud, ud, ud, ud, ud, ud, ud, ud, ud, ud, ud, ud, ud, ud, ud, ud, ud, ud, ud, ud, ud, ud], []⟩ Tryd.func52 (by kernel_rfl) (by kernel_rfl) <| qr_ [0, 1] <| pkq (.int .u64 0) <| pkq (.int .u64 0) <| eq_ <| qr_ [0, 1] <| pkq (uN y) <| ppq (.bool false) (eqf (((y : Nat) : Int)) ((0) : Int) (by omega)) <| en_ <| s_ <| tq_ <| qr_ [0, 1, 2] <| pkq (uN y) <| pkq (uN hi) ?_
  refine ppq (.bool false) (dcf ((((y : Nat) : Int)) ≤ (((hi : Nat) : Int))) (by omega)) <| en_ <| s_ <| tq_ <| qr_ [0, 1] <| pkq (uN hi) <| ppq (.bool true) (eqt (((hi : Nat) : Int)) ((0) : Int) (by omega)) <| ey_ <| q_ <| sy_np <| sy_reg <| an_begin 6 8 (opsAt (qc53_2 244)) (fun W => True) #[false, false, false, false, false, false, false, false] (by kernel_rfl) (by kernel_rfl) (by kernel_rfl) (by kernel_rfl) ?_
  obtain ⟨V1, eV1, kV1⟩ := drew_step w
  rw [eV1]
  clear eV1
  have K2 := K0.nn kV1
  have z3 := kV1.size
  refine akq 0 (uN lo) trivial <| akq 1 (uN y) trivial <| avq 2 (uN (lo / y)) (fun W hS => exec_quoU 22 22 (.tmp 28) (.tmp 29) (by kernel_rfl) lo y (by kernel_rfl) (by kernel_rfl) hy1 hlo) trivial <| akq 3 (uN lo) trivial <| akq 4 (uN y) trivial <| avq 5 (uN (lo % y)) (fun W hS => exec_remU 22 22 (.tmp 31) (.tmp 32) (by kernel_rfl) lo y (by kernel_rfl) (by kernel_rfl) hy1 hlo) trivial <| an_o 6 <| nrq (uN (lo / y)) (w' := V1) (by kernel_rfl) ?_
  refine ⟨trivial, ?_⟩
  refine an_o 7 <| nrq (uN (lo % y)) (w' := V1) (by kernel_rfl) ?_
  refine ⟨trivial, ?_⟩
  refine an_end (by kernel_rfl) <| then_n <| u_ <| then_r <| so_ (.tuple #[.int .u64 ((lo / y : Nat) : Int), .int .u64 ((lo % y : Nat) : Int)]) ?_
  exact ⟨_, by subst hz; rw [Nat.zero_mul, Nat.zero_add], K2⟩
theorem bDiv64_pos (hi lo y : Nat) (hz : 1 ≤ hi) (hh : hi < y) (hy2 : y < 18446744073709551616) (hlo : lo < 18446744073709551616) (w : World) :
    Calls Tryd.prog 52 #[.int .u64 ((hi : Nat) : Int), .int .u64 ((lo : Nat) : Int), .int .u64 ((y : Nat) : Int)] w (fun e w' => ∃ r : Nat, e = .returned (.tuple #[.int .u64 (((hi * 18446744073709551616 + lo) / y : Nat) : Int), .int .u64 ((r : Nat) : Int)]) ∧ Keeps Nob w w') := by
  have hy1 : 1 ≤ y := by omega
  have K0 : Keeps Nob w w := Keeps.refl _ _
  refine sy_enter (qc53_2 1) ⟨#[uN hi, uN lo, uN y, ud, ud, ud, ud, ud, ud, ud, ud, ud, ud, ud, ud, ud, ud, ud, ud, ud, ud, ud, ud, ud, ud, ud, ud, ud, ud, ud, ud, ud, ud, ud, ud, ud, ud, ud, ud, ud, ud, ud, ud, ud, ud, ud, ud, ud, ud, ud, ud, ud, ud, ud, ud, ud, ud, ud, ud, ud, ud, ud, ud, ud, ud, ud, ud, ud, ud, ud, ud, ud, ud, ud, ud, ud, ud, ud, ud, ud, ud, ud, ud, ud, ud, ud, ud, ud, ud, ud, ud, ud, ud, ud, ud, ud, ud, ud, ud, ud, ud, ud, ud, ud, ud, ud, ud, ud, ud, ud, ud, ud, ud, ud, ud, ud, ud, ud, ud, ud, ud, ud, ud, ud, ud, ud, ud, ud, ud, ud, ud, ud, ud, ud, ud], []⟩ Tryd.func52 (by kernel_rfl) (by kernel_rfl) <| qr_ [0, 1] <| pkq (.int .u64 0) <| pkq (.int .u64 0) <| eq_ <| qr_ [0, 1] <| pkq (uN y) <| ppq (.bool false) (eqf (((y : Nat) : Int)) ((0) : Int) (by omega)) <| en_ <| s_ <| tq_ <| qr_ [0, 1, 2] <| pkq (uN y) <| pkq (uN hi) ?_
  refine ppq (.bool false) (dcf ((((y : Nat) : Int)) ≤ (((hi : Nat) : Int))) (by omega)) <| en_ <| s_ <| tq_ <| qr_ [0, 1] <| pkq (uN hi) <| ppq (.bool false) (eqf (((hi : Nat) : Int)) ((0) : Int) (by omega)) <| en_ <| s_ <| tqr_ [0, 1, 2, 3] <| pkq (uN y) ?_
  refine pcq 64 #[uN y] Tryd.func64 ((bLead64_ok y hy1 hy2 _).mono ?_)
  rintro e w1 ⟨s, rfl, hs63, hYl, hYh, rfl⟩
  obtain ⟨Y, hYe⟩ : ∃ Y, y * 2 ^ s = Y := ⟨_, rfl⟩
  obtain ⟨y1, hy1e⟩ : ∃ z, Y / 4294967296 = z := ⟨_, rfl⟩
  obtain ⟨y0, hy0e⟩ : ∃ z, Y % 4294967296 = z := ⟨_, rfl⟩
  obtain ⟨hsum, hUY⟩ := wide_shift hs63 hlo hh hYh
  rw [hYe] at hYl hYh hUY
  obtain ⟨U, hUe⟩ : ∃ z, ((hi <<< s) % Kec.W ||| lo >>> (64 - s)) = z := ⟨_, rfl⟩
  obtain ⟨L, hLe⟩ : ∃ z, (lo <<< s) % Kec.W = z := ⟨_, rfl⟩
  have hL : L < 18446744073709551616 := hLe ▸ Nat.mod_lt _ Kec.W_pos
  rw [hUe, hLe] at hsum
  rw [hUe] at hUY
  obtain ⟨u1, hu1e⟩ : ∃ z, L / 4294967296 = z := ⟨_, rfl⟩
  obtain ⟨u0, hu0e⟩ : ∃ z, L % 4294967296 = z := ⟨_, rfl⟩
  have hYs : Y = y1 * 4294967296 + y0 := by omega
  have hy0 : y0 < 4294967296 := by omega
  have hy1p : 1 ≤ y1 := by omega
  have hy1l : y1 < 4294967296 := by omega
  have hu1 : u1 < 4294967296 := by omega
  have hu0 : u0 < 4294967296 := by omega
  have hLs : L = u1 * 4294967296 + u0 := by omega
  obtain ⟨Vr, hVr⟩ : ∃ z, (U * 4294967296 + u1) % Y = z := ⟨_, rfl⟩
  have hVY : Vr < Y := hVr ▸ Nat.mod_lt _ (by omega)
  refine ⟨_, rfl, ?_⟩
  refine prq (uN s) (w' := w) (exec_convert 3 96 (.tmp 35) (by kernel_rfl) _ (by kernel_rfl) (conv_int_uint (by omega) _)) <| pkq (uN s) <| eqr_ [0, 1, 2, 3] <| pkq (uN y) <| pkq (uN s) <| ppq (uN Y) (exec_cast (congrArg (fun n : Nat => Value.int .u64 (n : Int)) (show (y <<< s) % Kec.W = Y by rw [Nat.shiftLeft_eq, hYe]; exact Nat.mod_eq_of_lt hYh)) (exec_binop .shl 22 96 (.tmp 37) (.tmp 38) (by kernel_rfl) (uN y) (uN s) _ (by kernel_rfl) (by kernel_rfl) (by kernel_rfl) (run_shlU _ _ y s (by omega)))) <| pkq (uN Y) <| eqr_ [0, 1, 2] <| pkq (uN Y) <| ppq (uN y1) (exec_cast (congrArg (fun n : Nat => Value.int .u64 (n : Int)) (show Y >>> 32 = y1 by rw [Nat.shiftRight_eq_div_pow]; exact hy1e)) (exec_binop .shr 22 96 (.tmp 40) (.const (.int .u64 32)) (by kernel_rfl) (uN Y) (uN 32) _ (by kernel_rfl) (by kernel_rfl) (by kernel_rfl) (run_shrU _ _ Y 32 (by omega)))) <| pkq (uN y1) <| eqr_ [0, 1, 2] <| pkq (uN Y) <| ppq (uN y0) (exec_cast ((andU Y 4294967295 (show Y < Kec.W from hYh) (by decide)).trans (congrArg (fun n : Nat => Value.int .u64 (n : Int)) (show Y &&& 4294967295 = y0 from (Nat.and_two_pow_sub_one_eq_mod Y 32).trans hy0e))) (by kernel_rfl)) ?_
  refine pkq (uN y0) <| eqr_ [0, 1, 2, 3, 4, 5, 6, 7, 8] <| pkq (uN hi) <| pkq (uN s) <| ppq (uN ((hi <<< s) % Kec.W)) (exec_binop .shl 22 96 (.tmp 44) (.tmp 45) (by kernel_rfl) (uN hi) (uN s) _ (by kernel_rfl) (by kernel_rfl) (by kernel_rfl) (run_shlU _ _ hi s (by omega))) <| pkq (uN lo) <| pkq (uN s) <| ppq (uN (64 - s)) (exec_cast (congrArg (Value.int .u64) (show IntKind.u64.wrap (64 - ((s : Nat) : Int)) = ((64 - s : Nat) : Int) by rw [IntKind.wrap_u64]; omega)) (by kernel_rfl)) <| ppq (uN (lo >>> (64 - s))) (exec_binop .shr 22 96 (.tmp 47) (.tmp 49) (by kernel_rfl) (uN lo) (uN ((64 - s))) _ (by kernel_rfl) (by kernel_rfl) (by kernel_rfl) (run_shrU _ _ lo ((64 - s)) (by omega))) <| ppq (uN U) (exec_cast ((orU ((hi <<< s) % Kec.W) (lo >>> (64 - s)) (Nat.mod_lt _ Kec.W_pos) (Kec.shr_lt hlo _)).trans (congrArg (fun n : Nat => Value.int .u64 (n : Int)) hUe)) (by kernel_rfl)) <| pkq (uN U) <| ps_end <| sy_a ⟨#[uN hi, uN lo, uN Y, ud, ud, ud, .int .u64 0, .int .u64 0, uN s, uN y1, uN y0, uN U, ud, ud, ud, ud, ud, ud, ud, uN y, .bool false, ud, uN y, uN hi, .bool false, ud, uN hi, .bool false, ud, ud, ud, ud, ud, ud, uN y, iN s, uN s, uN y, uN s, uN Y, uN Y, uN y1, uN Y, uN y0, uN hi, uN s, uN ((hi <<< s) % Kec.W), uN lo, uN s, uN (64 - s), uN (lo >>> (64 - s)), uN U, ud, ud, ud, ud, ud, ud, ud, ud, ud, ud, ud, ud, ud, ud, ud, ud, ud, ud, ud, ud, ud, ud, ud, ud, ud, ud, ud, ud, ud, ud, ud, ud, ud, ud, ud, ud, ud, ud, ud, ud, ud, ud, ud, ud, ud, ud, ud, ud, ud, ud, ud, ud, ud, ud, ud, ud, ud, ud, ud, ud, ud, ud, ud, ud, ud, ud, ud, ud, ud, ud, ud, ud, ud, ud, ud, ud, ud, ud, ud, ud, ud, ud, ud], []⟩ <| tqr_ [0, 1, 2, 3] ?_
  refine pkq (uN lo) <| pkq (uN s) <| ppq (uN L) (exec_cast (congrArg (fun n : Nat => Value.int .u64 (n : Int)) hLe) (exec_binop .shl 22 96 (.tmp 52) (.tmp 53) (by kernel_rfl) (uN lo) (uN s) _ (by kernel_rfl) (by kernel_rfl) (by kernel_rfl) (run_shlU _ _ lo s (by omega)))) <| pkq (uN L) <| eqr_ [0, 1, 2] <| pkq (uN L) <| ppq (uN u1) (exec_cast (congrArg (fun n : Nat => Value.int .u64 (n : Int)) (show L >>> 32 = u1 by rw [Nat.shiftRight_eq_div_pow]; exact hu1e)) (exec_binop .shr 22 96 (.tmp 55) (.const (.int .u64 32)) (by kernel_rfl) (uN L) (uN 32) _ (by kernel_rfl) (by kernel_rfl) (by kernel_rfl) (run_shrU _ _ L 32 (by omega)))) <| pkq (uN u1) <| eqr_ [0, 1, 2] <| pkq (uN L) <| ppq (uN u0) (exec_cast ((andU L 4294967295 (show L < Kec.W from hL) (by decide)).trans (congrArg (fun n : Nat => Value.int .u64 (n : Int)) (show L &&& 4294967295 = u0 from (Nat.and_two_pow_sub_one_eq_mod L 32).trans hu0e))) (by kernel_rfl)) <| pkq (uN u0) <| eqr_ [0, 1, 2, 3] <| pkq (uN U) ?_
  refine pkq (uN y1) <| ppq (uN (U / y1)) (exec_quoU 22 22 (.tmp 59) (.tmp 60) (by kernel_rfl) U y1 (by kernel_rfl) (by kernel_rfl) hy1p (by omega)) <| pkq (uN (U / y1)) <| eqr_ [0, 1, 2, 3, 4, 5] <| pkq (uN U) <| pkq (uN (U / y1)) <| pkq (uN y1) <| ppq (uN (U / y1 * y1)) (exec_cast (congrArg (Value.int .u64) (wrapU (U / y1 * y1) (by have := Nat.div_mul_le_self U y1; omega))) (by kernel_rfl)) <| ppq (uN (U - U / y1 * y1)) (exec_cast (congrArg (Value.int .u64) (wrap_sub U (U / y1 * y1) (Nat.div_mul_le_self U y1) (by omega))) (by kernel_rfl)) <| pkq (uN (U - U / y1 * y1)) <| eq_ <| bl_ 0 ?_
  refine sy_loop (qc53_2 262136) (fun a V => ∃ (qA : Nat) (rA : Nat) (u67 u68 u69 u70 u71 u72 u73 u74 u75 u76 u77 u78 u79 u80 u81 u82 u83 u84 u85 : Value), (a = ⟨#[uN hi, uN lo, uN Y, ud, ud, ud, .int .u64 0, .int .u64 0, uN s, uN y1, uN y0, uN U, uN L, uN u1, uN u0, uN qA, uN rA, ud, ud, uN y, .bool false, ud, uN y, uN hi, .bool false, ud, uN hi, .bool false, ud, ud, ud, ud, ud, ud, uN y, iN s, uN s, uN y, uN s, uN Y, uN Y, uN y1, uN Y, uN y0, uN hi, uN s, uN ((hi <<< s) % Kec.W), uN lo, uN s, uN (64 - s), uN (lo >>> (64 - s)), uN U, uN lo, uN s, uN L, uN L, uN u1, uN L, uN u0, uN U, uN y1, uN (U / y1), uN U, uN (U / y1), uN y1, uN (U / y1 * y1), uN (U - U / y1 * y1), u67, u68, u69, u70, u71, u72, u73, u74, u75, u76, u77, u78, u79, u80, u81, u82, u83, u84, u85, ud, ud, ud, ud, ud, ud, ud, ud, ud, ud, ud, ud, ud, ud, ud, ud, ud, ud, ud, ud, ud, ud, ud, ud, ud, ud, ud, ud, ud, ud, ud, ud, ud, ud, ud, ud, ud, ud, ud, ud, ud, ud, ud, ud, ud, ud, ud, ud, ud], []⟩) ∧ (Dig U Y y1 u1 qA rA) ∧ (qA < 18446744073709551616) ∧ (rA < 4294967296) ∧ (Keeps Nob w V)) (fun a _ => (intOf (a.tmps.getD 15 undef)).toNat) (by kernel_rfl) ?_ ?_
  · exact ⟨U / y1, U - U / y1 * y1, undef, undef, undef, undef, undef, undef, undef, undef, undef, undef, undef, undef, undef, undef, undef, undef, undef, undef, undef, by kernel_rfl, dig_init hYs hy0 hy1p hu1 hUY, by have := Nat.div_le_self U y1; omega, rem_small hy1p hy1l, K0⟩
  · rintro a V1 ⟨qA, rA, u67, u68, u69, u70, u71, u72, u73, u74, u75, u76, u77, u78, u79, u80, u81, u82, u83, u84, u85, rfl, hd, hql, hr, K2⟩
    rcases dig_cases qA rA y0 y1 u1 with ⟨hq, hr2⟩ | ⟨hq, hr2⟩ | ⟨hq, hc, hr2⟩ | ⟨hq, hc, hr2⟩ | ⟨hq, hc⟩
    · obtain ⟨qp, hdn⟩ := dig_step hYs hy0 hy1p hu1 hUY hd (.inl hq)
      refine q_ <| qr_ [0, 1, 2, 3, 4, 5, 6, 7, 8, 9, 10, 11] <| pkq (uN qA) <| ppq (.bool true) (dct ((((qA : Nat) : Int)) ≥ ((4294967296) : Int)) (by omega)) <| pkq (.bool true) <| pnq <| pnq <| pnq <| pnq <| pnq <| pnq <| pnq <| pnq <| pkq (.bool true) ?_
      refine ey_ <| s_ <| then_n <| bl_ 1 <| qr_ [0, 1, 2] <| pkq (uN qA) <| ppq (uN (qA - 1)) (exec_cast (congrArg (Value.int .u64) (wrap_sub qA 1 qp (by omega))) (by kernel_rfl)) <| pkq (uN (qA - 1)) <| eqr_ [0, 1, 2, 3] <| pkq (uN rA) <| pkq (uN y1) <| ppq (uN (rA + y1)) (exec_cast (congrArg (Value.int .u64) (wrapU (rA + y1) (by omega))) (by kernel_rfl)) <| pkq (uN (rA + y1)) <| eqr_ [0, 1] ?_
      refine pkq (uN (rA + y1)) <| ppq (.bool false) (dcf ((((rA + y1 : Nat) : Int)) ≥ ((4294967296) : Int)) (by omega)) <| en_ <| s_ <| blk_n <| then_n ?_
      refine ⟨⟨qA - 1, rA + y1, (uN qA), (.bool true), (.bool true), undef, undef, undef, undef, undef, undef, undef, undef, (.bool true), (uN qA), (uN (qA - 1)), (uN rA), (uN y1), (uN (rA + y1)), (uN (rA + y1)), (.bool false), by kernel_rfl, hdn, by omega, by omega, K2⟩, ?_⟩
      exact lt_meas (x := qA - 1) (y := qA) (by kernel_rfl) (by kernel_rfl) (by omega)
    · obtain ⟨qp, hdn⟩ := dig_step hYs hy0 hy1p hu1 hUY hd (.inl hq)
      have hxA : qA - 1 = (U * 4294967296 + u1) / Y := dig_done hYs hy0 hy1p hu1 hUY hdn (.inr hr2)
      refine q_ <| qr_ [0, 1, 2, 3, 4, 5, 6, 7, 8, 9, 10, 11] <| pkq (uN qA) <| ppq (.bool true) (dct ((((qA : Nat) : Int)) ≥ ((4294967296) : Int)) (by omega)) <| pkq (.bool true) <| pnq <| pnq <| pnq <| pnq <| pnq <| pnq <| pnq <| pnq <| pkq (.bool true) ?_
      refine ey_ <| s_ <| then_n <| bl_ 1 <| qr_ [0, 1, 2] <| pkq (uN qA) <| ppq (uN (qA - 1)) (exec_cast (congrArg (Value.int .u64) (wrap_sub qA 1 qp (by omega))) (by kernel_rfl)) <| pkq (uN (qA - 1)) <| eqr_ [0, 1, 2, 3] <| pkq (uN rA) <| pkq (uN y1) <| ppq (uN (rA + y1)) (exec_cast (congrArg (Value.int .u64) (wrapU (rA + y1) (by omega))) (by kernel_rfl)) <| pkq (uN (rA + y1)) <| eqr_ [0, 1] ?_
      refine pkq (uN (rA + y1)) <| ppq (.bool true) (dct ((((rA + y1 : Nat) : Int)) ≥ ((4294967296) : Int)) (by omega)) <| ey_ <| sy_exit 0 (by kernel_rfl) <| blk_p (by decide) <| then_e <| blk_e <| tqr_ [0, 1, 2, 3, 4, 5, 6, 7, 8] <| pkq (uN U) <| pkq (.int .u64 (IntKind.u64.wrap (((U : Nat) : Int) * 4294967296))) <| pkq (uN u1) <| pkq (.int .u64 (IntKind.u64.wrap (IntKind.u64.wrap (((U : Nat) : Int) * 4294967296) + ((u1 : Nat) : Int)))) <| pkq (uN (qA - 1)) <| pkq (uN Y) ?_
      refine pkq (.int .u64 (IntKind.u64.wrap (((qA - 1 : Nat) : Int) * ((Y : Nat) : Int)))) <| ppq (uN Vr) (exec_cast (congrArg (Value.int .u64) (((dig_rest hYs hy0 hy1p hu1 hUY hxA).resolve_right (by omega)).trans (congrArg (fun n : Nat => (n : Int)) hVr))) (by kernel_rfl)) <| pkq (uN Vr) <| ps_end <| sy_a ⟨#[uN hi, uN lo, uN Y, ud, ud, ud, .int .u64 0, .int .u64 0, uN s, uN y1, uN y0, uN U, uN L, uN u1, uN u0, uN (qA - 1), uN (rA + y1), uN Vr, ud, uN y, .bool false, ud, uN y, uN hi, .bool false, ud, uN hi, .bool false, ud, ud, ud, ud, ud, ud, uN y, iN s, uN s, uN y, uN s, uN Y, uN Y, uN y1, uN Y, uN y0, uN hi, uN s, uN ((hi <<< s) % Kec.W), uN lo, uN s, uN (64 - s), uN (lo >>> (64 - s)), uN U, uN lo, uN s, uN L, uN L, uN u1, uN L, uN u0, uN U, uN y1, uN (U / y1), uN U, uN (U / y1), uN y1, uN (U / y1 * y1), uN (U - U / y1 * y1), uN qA, .bool true, .bool true, ud, ud, ud, ud, ud, ud, ud, ud, .bool true, uN qA, uN (qA - 1), uN rA, uN y1, uN (rA + y1), uN (rA + y1), .bool true, uN U, .int .u64 (IntKind.u64.wrap (((U : Nat) : Int) * 4294967296)), uN u1, .int .u64 (IntKind.u64.wrap (IntKind.u64.wrap (((U : Nat) : Int) * 4294967296) + ((u1 : Nat) : Int))), uN (qA - 1), uN Y, .int .u64 (IntKind.u64.wrap (((qA - 1 : Nat) : Int) * ((Y : Nat) : Int))), uN Vr, ud, ud, ud, ud, ud, ud, ud, ud, ud, ud, ud, ud, ud, ud, ud, ud, ud, ud, ud, ud, ud, ud, ud, ud, ud, ud, ud, ud, ud, ud, ud, ud, ud, ud, ud, ud, ud, ud, ud, ud, ud], []⟩ <| tqr_ [0, 1, 2, 3] <| pkq (uN Vr) <| pkq (uN y1) <| ppq (uN (Vr / y1)) (exec_quoU 22 22 (.tmp 94) (.tmp 95) (by kernel_rfl) Vr y1 (by kernel_rfl) (by kernel_rfl) hy1p (by omega)) <| pkq (uN (Vr / y1)) <| eqr_ [0, 1, 2, 3, 4, 5] <| pkq (uN Vr) <| pkq (uN (Vr / y1)) <| pkq (uN y1) ?_
      refine ppq (uN (Vr / y1 * y1)) (exec_cast (congrArg (Value.int .u64) (wrapU (Vr / y1 * y1) (by have := Nat.div_mul_le_self Vr y1; omega))) (by kernel_rfl)) <| ppq (uN (Vr - Vr / y1 * y1)) (exec_cast (congrArg (Value.int .u64) (wrap_sub Vr (Vr / y1 * y1) (Nat.div_mul_le_self Vr y1) (by omega))) (by kernel_rfl)) <| pkq (uN (Vr - Vr / y1 * y1)) <| eq_ <| bl_ 2 ?_
      refine sy_loop (qc53_2 4194296) (fun a V => ∃ (qB : Nat) (rB : Nat) (u102 u103 u104 u105 u106 u107 u108 u109 u110 u111 u112 u113 u114 u115 u116 u117 u118 u119 u120 : Value), (a = ⟨#[uN hi, uN lo, uN Y, ud, ud, ud, .int .u64 0, .int .u64 0, uN s, uN y1, uN y0, uN U, uN L, uN u1, uN u0, uN (qA - 1), uN rB, uN Vr, uN qB, uN y, .bool false, ud, uN y, uN hi, .bool false, ud, uN hi, .bool false, ud, ud, ud, ud, ud, ud, uN y, iN s, uN s, uN y, uN s, uN Y, uN Y, uN y1, uN Y, uN y0, uN hi, uN s, uN ((hi <<< s) % Kec.W), uN lo, uN s, uN (64 - s), uN (lo >>> (64 - s)), uN U, uN lo, uN s, uN L, uN L, uN u1, uN L, uN u0, uN U, uN y1, uN (U / y1), uN U, uN (U / y1), uN y1, uN (U / y1 * y1), uN (U - U / y1 * y1), uN qA, .bool true, .bool true, ud, ud, ud, ud, ud, ud, ud, ud, .bool true, uN qA, uN (qA - 1), uN rA, uN y1, uN (rA + y1), uN (rA + y1), .bool true, uN U, .int .u64 (IntKind.u64.wrap (((U : Nat) : Int) * 4294967296)), uN u1, .int .u64 (IntKind.u64.wrap (IntKind.u64.wrap (((U : Nat) : Int) * 4294967296) + ((u1 : Nat) : Int))), uN (qA - 1), uN Y, .int .u64 (IntKind.u64.wrap (((qA - 1 : Nat) : Int) * ((Y : Nat) : Int))), uN Vr, uN Vr, uN y1, uN (Vr / y1), uN Vr, uN (Vr / y1), uN y1, uN (Vr / y1 * y1), uN (Vr - Vr / y1 * y1), u102, u103, u104, u105, u106, u107, u108, u109, u110, u111, u112, u113, u114, u115, u116, u117, u118, u119, u120, ud, ud, ud, ud, ud, ud, ud, ud, ud, ud, ud, ud, ud, ud], []⟩) ∧ (Dig Vr Y y1 u0 qB rB) ∧ (qB < 18446744073709551616) ∧ (rB < 4294967296) ∧ (Keeps Nob w V)) (fun a _ => (intOf (a.tmps.getD 18 undef)).toNat) (by kernel_rfl) ?_ ?_
      · exact ⟨Vr / y1, Vr - Vr / y1 * y1, undef, undef, undef, undef, undef, undef, undef, undef, undef, undef, undef, undef, undef, undef, undef, undef, undef, undef, undef, by kernel_rfl, dig_init hYs hy0 hy1p hu0 hVY, by have := Nat.div_le_self Vr y1; omega, rem_small hy1p hy1l, K2⟩
      · rintro a V3 ⟨qB, rB, u102, u103, u104, u105, u106, u107, u108, u109, u110, u111, u112, u113, u114, u115, u116, u117, u118, u119, u120, rfl, hd, hql, hr, K4⟩
        rcases dig_cases qB rB y0 y1 u0 with ⟨hq, hr2⟩ | ⟨hq, hr2⟩ | ⟨hq, hc, hr2⟩ | ⟨hq, hc, hr2⟩ | ⟨hq, hc⟩
        · obtain ⟨qp, hdn⟩ := dig_step hYs hy0 hy1p hu0 hVY hd (.inl hq)
          refine q_ <| qr_ [0, 1, 2, 3, 4, 5, 6, 7, 8, 9, 10, 11] <| pkq (uN qB) <| ppq (.bool true) (dct ((((qB : Nat) : Int)) ≥ ((4294967296) : Int)) (by omega)) <| pkq (.bool true) <| pnq <| pnq <| pnq <| pnq <| pnq <| pnq <| pnq <| pnq <| pkq (.bool true) ?_
          refine ey_ <| s_ <| then_n <| bl_ 3 <| qr_ [0, 1, 2] <| pkq (uN qB) <| ppq (uN (qB - 1)) (exec_cast (congrArg (Value.int .u64) (wrap_sub qB 1 qp (by omega))) (by kernel_rfl)) <| pkq (uN (qB - 1)) <| eqr_ [0, 1, 2, 3] <| pkq (uN rB) <| pkq (uN y1) <| ppq (uN (rB + y1)) (exec_cast (congrArg (Value.int .u64) (wrapU (rB + y1) (by omega))) (by kernel_rfl)) <| pkq (uN (rB + y1)) <| eqr_ [0, 1] ?_
          refine pkq (uN (rB + y1)) <| ppq (.bool false) (dcf ((((rB + y1 : Nat) : Int)) ≥ ((4294967296) : Int)) (by omega)) <| en_ <| s_ <| blk_n <| then_n ?_
          refine ⟨⟨qB - 1, rB + y1, (uN qB), (.bool true), (.bool true), undef, undef, undef, undef, undef, undef, undef, undef, (.bool true), (uN qB), (uN (qB - 1)), (uN rB), (uN y1), (uN (rB + y1)), (uN (rB + y1)), (.bool false), by kernel_rfl, hdn, by omega, by omega, K4⟩, ?_⟩
          exact lt_meas (x := qB - 1) (y := qB) (by kernel_rfl) (by kernel_rfl) (by omega)
        · obtain ⟨qp, hdn⟩ := dig_step hYs hy0 hy1p hu0 hVY hd (.inl hq)
          have hxB : qB - 1 = (Vr * 4294967296 + u0) / Y := dig_done hYs hy0 hy1p hu0 hVY hdn (.inr hr2)
          refine q_ <| qr_ [0, 1, 2, 3, 4, 5, 6, 7, 8, 9, 10, 11] <| pkq (uN qB) <| ppq (.bool true) (dct ((((qB : Nat) : Int)) ≥ ((4294967296) : Int)) (by omega)) <| pkq (.bool true) <| pnq <| pnq <| pnq <| pnq <| pnq <| pnq <| pnq <| pnq <| pkq (.bool true) ?_
          refine ey_ <| s_ <| then_n <| bl_ 3 <| qr_ [0, 1, 2] <| pkq (uN qB) <| ppq (uN (qB - 1)) (exec_cast (congrArg (Value.int .u64) (wrap_sub qB 1 qp (by omega))) (by kernel_rfl)) <| pkq (uN (qB - 1)) <| eqr_ [0, 1, 2, 3] <| pkq (uN rB) <| pkq (uN y1) <| ppq (uN (rB + y1)) (exec_cast (congrArg (Value.int .u64) (wrapU (rB + y1) (by omega))) (by kernel_rfl)) <| pkq (uN (rB + y1)) <| eqr_ [0, 1] ?_
          refine pkq (uN (rB + y1)) <| ppq (.bool true) (dct ((((rB + y1 : Nat) : Int)) ≥ ((4294967296) : Int)) (by omega)) <| ey_ <| sy_exit 2 (by kernel_rfl) <| blk_p (by decide) <| then_e <| blk_e <| tqr_ [0, 1, 2, 3, 4, 5, 6, 7, 8, 9, 10, 11, 12, 13, 14, 15] <| pkq (uN (qA - 1)) <| ppq (uN ((qA - 1) * 4294967296)) (exec_cast (congrArg (Value.int .u64) (wrapU ((qA - 1) * 4294967296) (by have := dig_lt hYs hy0 hy1p hu1 hUY; rw [← hxA] at this; omega))) (by kernel_rfl)) <| pkq (uN (qB - 1)) <| ppq (uN ((hi * 18446744073709551616 + lo) / y)) (exec_cast (congrArg (Value.int .u64) ((wrapU ((qA - 1) * 4294967296 + (qB - 1)) (by have g1 := dig_lt hYs hy0 hy1p hu1 hUY; have g2 := dig_lt hYs hy0 hy1p hu0 hVY; rw [← hxA] at g1; rw [← hxB] at g2; omega)).trans (congrArg (fun n : Nat => (n : Int)) (div_end hy1 hYe hsum hLs hxA hVr hxB)))) (by kernel_rfl)) <| pkq (uN Vr) <| pkq (.int .u64 (IntKind.u64.wrap (((Vr : Nat) : Int) * 4294967296))) ?_
          refine pkq (uN u0) <| pkq (.int .u64 (IntKind.u64.wrap (IntKind.u64.wrap (((Vr : Nat) : Int) * 4294967296) + ((u0 : Nat) : Int)))) <| pkq (uN (qB - 1)) <| pkq (uN Y) <| pkq (.int .u64 (IntKind.u64.wrap (((qB - 1 : Nat) : Int) * ((Y : Nat) : Int)))) <| ppq (uN ((Vr * 4294967296 + u0) % Y)) (exec_cast (congrArg (Value.int .u64) ((dig_rest hYs hy0 hy1p hu0 hVY hxB).resolve_right (by omega))) (by kernel_rfl)) <| pkq (uN s) <| ppq (uN (((Vr * 4294967296 + u0) % Y) >>> s)) (exec_binop .shr 22 96 (.tmp 132) (.tmp 133) (by kernel_rfl) (uN (((Vr * 4294967296 + u0) % Y))) (uN s) _ (by kernel_rfl) (by kernel_rfl) (by kernel_rfl) (run_shrU _ _ ((Vr * 4294967296 + u0) % Y) s (by omega))) <| pkq (uN ((hi * 18446744073709551616 + lo) / y)) <| pkq (uN (((Vr * 4294967296 + u0) % Y) >>> s)) <| ps_end <| sy_a ⟨#[uN hi, uN lo, uN Y, ud, ud, ud, uN ((hi * 18446744073709551616 + lo) / y), uN (((Vr * 4294967296 + u0) % Y) >>> s), uN s, uN y1, uN y0, uN U, uN L, uN u1, uN u0, uN (qA - 1), uN (rB + y1), uN Vr, uN (qB - 1), uN y, .bool false, ud, uN y, uN hi, .bool false, ud, uN hi, .bool false, ud, ud, ud, ud, ud, ud, uN y, iN s, uN s, uN y, uN s, uN Y, uN Y, uN y1, uN Y, uN y0, uN hi, uN s, uN ((hi <<< s) % Kec.W), uN lo, uN s, uN (64 - s), uN (lo >>> (64 - s)), uN U, uN lo, uN s, uN L, uN L, uN u1, uN L, uN u0, uN U, uN y1, uN (U / y1), uN U, uN (U / y1), uN y1, uN (U / y1 * y1), uN (U - U / y1 * y1), uN qA, .bool true, .bool true, ud, ud, ud, ud, ud, ud, ud, ud, .bool true, uN qA, uN (qA - 1), uN rA, uN y1, uN (rA + y1), uN (rA + y1), .bool true, uN U, .int .u64 (IntKind.u64.wrap (((U : Nat) : Int) * 4294967296)), uN u1, .int .u64 (IntKind.u64.wrap (IntKind.u64.wrap (((U : Nat) : Int) * 4294967296) + ((u1 : Nat) : Int))), uN (qA - 1), uN Y, .int .u64 (IntKind.u64.wrap (((qA - 1 : Nat) : Int) * ((Y : Nat) : Int))), uN Vr, uN Vr, uN y1, uN (Vr / y1), uN Vr, uN (Vr / y1), uN y1, uN (Vr / y1 * y1), uN (Vr - Vr / y1 * y1), uN qB, .bool true, .bool true, ud, ud, ud, ud, ud, ud, ud, ud, .bool true, uN qB, uN (qB - 1), uN rB, uN y1, uN (rB + y1), uN (rB + y1), .bool true, uN (qA - 1), uN ((qA - 1) * 4294967296), uN (qB - 1), uN ((hi * 18446744073709551616 + lo) / y), uN Vr, .int .u64 (IntKind.u64.wrap (((Vr : Nat) : Int) * 4294967296)), uN u0, .int .u64 (IntKind.u64.wrap (IntKind.u64.wrap (((Vr : Nat) : Int) * 4294967296) + ((u0 : Nat) : Int))), uN (qB - 1), uN Y, .int .u64 (IntKind.u64.wrap (((qB - 1 : Nat) : Int) * ((Y : Nat) : Int))), uN ((Vr * 4294967296 + u0) % Y), uN s, uN (((Vr * 4294967296 + u0) % Y) >>> s)], []⟩ <| then_n <| u_ ?_
          refine so_ (.tuple #[.int .u64 (((hi * 18446744073709551616 + lo) / y : Nat) : Int), .int .u64 ((((Vr * 4294967296 + u0) % Y) >>> s : Nat) : Int)]) ?_
          exact ⟨_, rfl, K4⟩
        · obtain ⟨qp, hdn⟩ := dig_step hYs hy0 hy1p hu0 hVY hd (.inr hc)
          refine q_ <| qr_ [0, 1, 2, 3, 4, 5, 6, 7, 8, 9, 10, 11] <| pkq (uN qB) <| ppq (.bool false) (dcf ((((qB : Nat) : Int)) ≥ ((4294967296) : Int)) (by omega)) <| pkq (.bool false) <| pkq (uN qB) <| pkq (uN y0) <| ppq (uN (qB * y0)) (exec_cast (congrArg (Value.int .u64) (wrapU (qB * y0) (mul_small hq hy0))) (by kernel_rfl)) <| pkq (uN rB) <| ppq (uN (4294967296 * rB)) (exec_cast (congrArg (Value.int .u64) (wrapU (4294967296 * rB) (by omega))) (by kernel_rfl)) <| pkq (uN u0) <| ppq (uN (4294967296 * rB + u0)) (exec_cast (congrArg (Value.int .u64) (wrapU (4294967296 * rB + u0) (by omega))) (by kernel_rfl)) <| ppq (.bool true) (dct ((((qB * y0 : Nat) : Int)) > (((4294967296 * rB + u0 : Nat) : Int))) (by omega)) <| pkq (.bool true) ?_
          refine ey_ <| s_ <| then_n <| bl_ 3 <| qr_ [0, 1, 2] <| pkq (uN qB) <| ppq (uN (qB - 1)) (exec_cast (congrArg (Value.int .u64) (wrap_sub qB 1 qp (by omega))) (by kernel_rfl)) <| pkq (uN (qB - 1)) <| eqr_ [0, 1, 2, 3] <| pkq (uN rB) <| pkq (uN y1) <| ppq (uN (rB + y1)) (exec_cast (congrArg (Value.int .u64) (wrapU (rB + y1) (by omega))) (by kernel_rfl)) <| pkq (uN (rB + y1)) <| eqr_ [0, 1] ?_
          refine pkq (uN (rB + y1)) <| ppq (.bool false) (dcf ((((rB + y1 : Nat) : Int)) ≥ ((4294967296) : Int)) (by omega)) <| en_ <| s_ <| blk_n <| then_n ?_
          refine ⟨⟨qB - 1, rB + y1, (uN qB), (.bool false), (.bool false), (uN qB), (uN y0), (uN (qB * y0)), (uN rB), (uN (4294967296 * rB)), (uN u0), (uN (4294967296 * rB + u0)), (.bool true), (.bool true), (uN qB), (uN (qB - 1)), (uN rB), (uN y1), (uN (rB + y1)), (uN (rB + y1)), (.bool false), by kernel_rfl, hdn, by omega, by omega, K4⟩, ?_⟩
          exact lt_meas (x := qB - 1) (y := qB) (by kernel_rfl) (by kernel_rfl) (by omega)
        · obtain ⟨qp, hdn⟩ := dig_step hYs hy0 hy1p hu0 hVY hd (.inr hc)
          have hxB : qB - 1 = (Vr * 4294967296 + u0) / Y := dig_done hYs hy0 hy1p hu0 hVY hdn (.inr hr2)
          refine q_ <| qr_ [0, 1, 2, 3, 4, 5, 6, 7, 8, 9, 10, 11] <| pkq (uN qB) <| ppq (.bool false) (dcf ((((qB : Nat) : Int)) ≥ ((4294967296) : Int)) (by omega)) <| pkq (.bool false) <| pkq (uN qB) <| pkq (uN y0) <| ppq (uN (qB * y0)) (exec_cast (congrArg (Value.int .u64) (wrapU (qB * y0) (mul_small hq hy0))) (by kernel_rfl)) <| pkq (uN rB) <| ppq (uN (4294967296 * rB)) (exec_cast (congrArg (Value.int .u64) (wrapU (4294967296 * rB) (by omega))) (by kernel_rfl)) <| pkq (uN u0) <| ppq (uN (4294967296 * rB + u0)) (exec_cast (congrArg (Value.int .u64) (wrapU (4294967296 * rB + u0) (by omega))) (by kernel_rfl)) <| ppq (.bool true) (dct ((((qB * y0 : Nat) : Int)) > (((4294967296 * rB + u0 : Nat) : Int))) (by omega)) <| pkq (.bool true) ?_
          refine ey_ <| s_ <| then_n <| bl_ 3 <| qr_ [0, 1, 2] <| pkq (uN qB) <| ppq (uN (qB - 1)) (exec_cast (congrArg (Value.int .u64) (wrap_sub qB 1 qp (by omega))) (by kernel_rfl)) <| pkq (uN (qB - 1)) <| eqr_ [0, 1, 2, 3] <| pkq (uN rB) <| pkq (uN y1) <| ppq (uN (rB + y1)) (exec_cast (congrArg (Value.int .u64) (wrapU (rB + y1) (by omega))) (by kernel_rfl)) <| pkq (uN (rB + y1)) <| eqr_ [0, 1] ?_
          refine pkq (uN (rB + y1)) <| ppq (.bool true) (dct ((((rB + y1 : Nat) : Int)) ≥ ((4294967296) : Int)) (by omega)) <| ey_ <| sy_exit 2 (by kernel_rfl) <| blk_p (by decide) <| then_e <| blk_e <| tqr_ [0, 1, 2, 3, 4, 5, 6, 7, 8, 9, 10, 11, 12, 13, 14, 15] <| pkq (uN (qA - 1)) <| ppq (uN ((qA - 1) * 4294967296)) (exec_cast (congrArg (Value.int .u64) (wrapU ((qA - 1) * 4294967296) (by have := dig_lt hYs hy0 hy1p hu1 hUY; rw [← hxA] at this; omega))) (by kernel_rfl)) <| pkq (uN (qB - 1)) <| ppq (uN ((hi * 18446744073709551616 + lo) / y)) (exec_cast (congrArg (Value.int .u64) ((wrapU ((qA - 1) * 4294967296 + (qB - 1)) (by have g1 := dig_lt hYs hy0 hy1p hu1 hUY; have g2 := dig_lt hYs hy0 hy1p hu0 hVY; rw [← hxA] at g1; rw [← hxB] at g2; omega)).trans (congrArg (fun n : Nat => (n : Int)) (div_end hy1 hYe hsum hLs hxA hVr hxB)))) (by kernel_rfl)) <| pkq (uN Vr) <| pkq (.int .u64 (IntKind.u64.wrap (((Vr : Nat) : Int) * 4294967296))) ?_
          refine pkq (uN u0) <| pkq (.int .u64 (IntKind.u64.wrap (IntKind.u64.wrap (((Vr : Nat) : Int) * 4294967296) + ((u0 : Nat) : Int)))) <| pkq (uN (qB - 1)) <| pkq (uN Y) <| pkq (.int .u64 (IntKind.u64.wrap (((qB - 1 : Nat) : Int) * ((Y : Nat) : Int)))) <| ppq (uN ((Vr * 4294967296 + u0) % Y)) (exec_cast (congrArg (Value.int .u64) ((dig_rest hYs hy0 hy1p hu0 hVY hxB).resolve_right (by omega))) (by kernel_rfl)) <| pkq (uN s) <| ppq (uN (((Vr * 4294967296 + u0) % Y) >>> s)) (exec_binop .shr 22 96 (.tmp 132) (.tmp 133) (by kernel_rfl) (uN (((Vr * 4294967296 + u0) % Y))) (uN s) _ (by kernel_rfl) (by kernel_rfl) (by kernel_rfl) (run_shrU _ _ ((Vr * 4294967296 + u0) % Y) s (by omega))) <| pkq (uN ((hi * 18446744073709551616 + lo) / y)) <| pkq (uN (((Vr * 4294967296 + u0) % Y) >>> s)) <| ps_end <| sy_a ⟨#[uN hi, uN lo, uN Y, ud, ud, ud, uN ((hi * 18446744073709551616 + lo) / y), uN (((Vr * 4294967296 + u0) % Y) >>> s), uN s, uN y1, uN y0, uN U, uN L, uN u1, uN u0, uN (qA - 1), uN (rB + y1), uN Vr, uN (qB - 1), uN y, .bool false, ud, uN y, uN hi, .bool false, ud, uN hi, .bool false, ud, ud, ud, ud, ud, ud, uN y, iN s, uN s, uN y, uN s, uN Y, uN Y, uN y1, uN Y, uN y0, uN hi, uN s, uN ((hi <<< s) % Kec.W), uN lo, uN s, uN (64 - s), uN (lo >>> (64 - s)), uN U, uN lo, uN s, uN L, uN L, uN u1, uN L, uN u0, uN U, uN y1, uN (U / y1), uN U, uN (U / y1), uN y1, uN (U / y1 * y1), uN (U - U / y1 * y1), uN qA, .bool true, .bool true, ud, ud, ud, ud, ud, ud, ud, ud, .bool true, uN qA, uN (qA - 1), uN rA, uN y1, uN (rA + y1), uN (rA + y1), .bool true, uN U, .int .u64 (IntKind.u64.wrap (((U : Nat) : Int) * 4294967296)), uN u1, .int .u64 (IntKind.u64.wrap (IntKind.u64.wrap (((U : Nat) : Int) * 4294967296) + ((u1 : Nat) : Int))), uN (qA - 1), uN Y, .int .u64 (IntKind.u64.wrap (((qA - 1 : Nat) : Int) * ((Y : Nat) : Int))), uN Vr, uN Vr, uN y1, uN (Vr / y1), uN Vr, uN (Vr / y1), uN y1, uN (Vr / y1 * y1), uN (Vr - Vr / y1 * y1), uN qB, .bool false, .bool false, uN qB, uN y0, uN (qB * y0), uN rB, uN (4294967296 * rB), uN u0, uN (4294967296 * rB + u0), .bool true, .bool true, uN qB, uN (qB - 1), uN rB, uN y1, uN (rB + y1), uN (rB + y1), .bool true, uN (qA - 1), uN ((qA - 1) * 4294967296), uN (qB - 1), uN ((hi * 18446744073709551616 + lo) / y), uN Vr, .int .u64 (IntKind.u64.wrap (((Vr : Nat) : Int) * 4294967296)), uN u0, .int .u64 (IntKind.u64.wrap (IntKind.u64.wrap (((Vr : Nat) : Int) * 4294967296) + ((u0 : Nat) : Int))), uN (qB - 1), uN Y, .int .u64 (IntKind.u64.wrap (((qB - 1 : Nat) : Int) * ((Y : Nat) : Int))), uN ((Vr * 4294967296 + u0) % Y), uN s, uN (((Vr * 4294967296 + u0) % Y) >>> s)], []⟩ <| then_n <| u_ ?_
          refine so_ (.tuple #[.int .u64 (((hi * 18446744073709551616 + lo) / y : Nat) : Int), .int .u64 ((((Vr * 4294967296 + u0) % Y) >>> s : Nat) : Int)]) ?_
          exact ⟨_, rfl, K4⟩
        · have hxB : qB = (Vr * 4294967296 + u0) / Y := dig_done hYs hy0 hy1p hu0 hVY hd (.inl ⟨hq, hc⟩)
          refine q_ <| qr_ [0, 1, 2, 3, 4, 5, 6, 7, 8, 9, 10, 11] <| pkq (uN qB) <| ppq (.bool false) (dcf ((((qB : Nat) : Int)) ≥ ((4294967296) : Int)) (by omega)) <| pkq (.bool false) <| pkq (uN qB) <| pkq (uN y0) <| ppq (uN (qB * y0)) (exec_cast (congrArg (Value.int .u64) (wrapU (qB * y0) (mul_small hq hy0))) (by kernel_rfl)) <| pkq (uN rB) <| ppq (uN (4294967296 * rB)) (exec_cast (congrArg (Value.int .u64) (wrapU (4294967296 * rB) (by omega))) (by kernel_rfl)) <| pkq (uN u0) <| ppq (uN (4294967296 * rB + u0)) (exec_cast (congrArg (Value.int .u64) (wrapU (4294967296 * rB + u0) (by omega))) (by kernel_rfl)) <| ppq (.bool false) (dcf ((((qB * y0 : Nat) : Int)) > (((4294967296 * rB + u0 : Nat) : Int))) (by omega)) <| pkq (.bool false) ?_
          refine en_ <| sy_exit 2 (by kernel_rfl) <| then_e <| then_e <| blk_e <| tqr_ [0, 1, 2, 3, 4, 5, 6, 7, 8, 9, 10, 11, 12, 13, 14, 15] <| pkq (uN (qA - 1)) <| ppq (uN ((qA - 1) * 4294967296)) (exec_cast (congrArg (Value.int .u64) (wrapU ((qA - 1) * 4294967296) (by have := dig_lt hYs hy0 hy1p hu1 hUY; rw [← hxA] at this; omega))) (by kernel_rfl)) <| pkq (uN qB) <| ppq (uN ((hi * 18446744073709551616 + lo) / y)) (exec_cast (congrArg (Value.int .u64) ((wrapU ((qA - 1) * 4294967296 + qB) (by have g1 := dig_lt hYs hy0 hy1p hu1 hUY; have g2 := dig_lt hYs hy0 hy1p hu0 hVY; rw [← hxA] at g1; rw [← hxB] at g2; omega)).trans (congrArg (fun n : Nat => (n : Int)) (div_end hy1 hYe hsum hLs hxA hVr hxB)))) (by kernel_rfl)) <| pkq (uN Vr) <| pkq (.int .u64 (IntKind.u64.wrap (((Vr : Nat) : Int) * 4294967296))) <| pkq (uN u0) <| pkq (.int .u64 (IntKind.u64.wrap (IntKind.u64.wrap (((Vr : Nat) : Int) * 4294967296) + ((u0 : Nat) : Int)))) ?_
          refine pkq (uN qB) <| pkq (uN Y) <| pkq (.int .u64 (IntKind.u64.wrap (((qB : Nat) : Int) * ((Y : Nat) : Int)))) <| ppq (uN ((Vr * 4294967296 + u0) % Y)) (exec_cast (congrArg (Value.int .u64) ((dig_rest hYs hy0 hy1p hu0 hVY hxB).resolve_right (by omega))) (by kernel_rfl)) <| pkq (uN s) <| ppq (uN (((Vr * 4294967296 + u0) % Y) >>> s)) (exec_binop .shr 22 96 (.tmp 132) (.tmp 133) (by kernel_rfl) (uN (((Vr * 4294967296 + u0) % Y))) (uN s) _ (by kernel_rfl) (by kernel_rfl) (by kernel_rfl) (run_shrU _ _ ((Vr * 4294967296 + u0) % Y) s (by omega))) <| pkq (uN ((hi * 18446744073709551616 + lo) / y)) <| pkq (uN (((Vr * 4294967296 + u0) % Y) >>> s)) <| ps_end <| sy_a ⟨#[uN hi, uN lo, uN Y, ud, ud, ud, uN ((hi * 18446744073709551616 + lo) / y), uN (((Vr * 4294967296 + u0) % Y) >>> s), uN s, uN y1, uN y0, uN U, uN L, uN u1, uN u0, uN (qA - 1), uN rB, uN Vr, uN qB, uN y, .bool false, ud, uN y, uN hi, .bool false, ud, uN hi, .bool false, ud, ud, ud, ud, ud, ud, uN y, iN s, uN s, uN y, uN s, uN Y, uN Y, uN y1, uN Y, uN y0, uN hi, uN s, uN ((hi <<< s) % Kec.W), uN lo, uN s, uN (64 - s), uN (lo >>> (64 - s)), uN U, uN lo, uN s, uN L, uN L, uN u1, uN L, uN u0, uN U, uN y1, uN (U / y1), uN U, uN (U / y1), uN y1, uN (U / y1 * y1), uN (U - U / y1 * y1), uN qA, .bool true, .bool true, ud, ud, ud, ud, ud, ud, ud, ud, .bool true, uN qA, uN (qA - 1), uN rA, uN y1, uN (rA + y1), uN (rA + y1), .bool true, uN U, .int .u64 (IntKind.u64.wrap (((U : Nat) : Int) * 4294967296)), uN u1, .int .u64 (IntKind.u64.wrap (IntKind.u64.wrap (((U : Nat) : Int) * 4294967296) + ((u1 : Nat) : Int))), uN (qA - 1), uN Y, .int .u64 (IntKind.u64.wrap (((qA - 1 : Nat) : Int) * ((Y : Nat) : Int))), uN Vr, uN Vr, uN y1, uN (Vr / y1), uN Vr, uN (Vr / y1), uN y1, uN (Vr / y1 * y1), uN (Vr - Vr / y1 * y1), uN qB, .bool false, .bool false, uN qB, uN y0, uN (qB * y0), uN rB, uN (4294967296 * rB), uN u0, uN (4294967296 * rB + u0), .bool false, .bool false, u114, u115, u116, u117, u118, u119, u120, uN (qA - 1), uN ((qA - 1) * 4294967296), uN qB, uN ((hi * 18446744073709551616 + lo) / y), uN Vr, .int .u64 (IntKind.u64.wrap (((Vr : Nat) : Int) * 4294967296)), uN u0, .int .u64 (IntKind.u64.wrap (IntKind.u64.wrap (((Vr : Nat) : Int) * 4294967296) + ((u0 : Nat) : Int))), uN qB, uN Y, .int .u64 (IntKind.u64.wrap (((qB : Nat) : Int) * ((Y : Nat) : Int))), uN ((Vr * 4294967296 + u0) % Y), uN s, uN (((Vr * 4294967296 + u0) % Y) >>> s)], []⟩ <| then_n <| u_ <| so_ (.tuple #[.int .u64 (((hi * 18446744073709551616 + lo) / y : Nat) : Int), .int .u64 ((((Vr * 4294967296 + u0) % Y) >>> s : Nat) : Int)]) ?_
          exact ⟨_, rfl, K4⟩
    · obtain ⟨qp, hdn⟩ := dig_step hYs hy0 hy1p hu1 hUY hd (.inr hc)
      refine q_ <| qr_ [0, 1, 2, 3, 4, 5, 6, 7, 8, 9, 10, 11] <| pkq (uN qA) <| ppq (.bool false) (dcf ((((qA : Nat) : Int)) ≥ ((4294967296) : Int)) (by omega)) <| pkq (.bool false) <| pkq (uN qA) <| pkq (uN y0) <| ppq (uN (qA * y0)) (exec_cast (congrArg (Value.int .u64) (wrapU (qA * y0) (mul_small hq hy0))) (by kernel_rfl)) <| pkq (uN rA) <| ppq (uN (4294967296 * rA)) (exec_cast (congrArg (Value.int .u64) (wrapU (4294967296 * rA) (by omega))) (by kernel_rfl)) <| pkq (uN u1) <| ppq (uN (4294967296 * rA + u1)) (exec_cast (congrArg (Value.int .u64) (wrapU (4294967296 * rA + u1) (by omega))) (by kernel_rfl)) <| ppq (.bool true) (dct ((((qA * y0 : Nat) : Int)) > (((4294967296 * rA + u1 : Nat) : Int))) (by omega)) <| pkq (.bool true) ?_
      refine ey_ <| s_ <| then_n <| bl_ 1 <| qr_ [0, 1, 2] <| pkq (uN qA) <| ppq (uN (qA - 1)) (exec_cast (congrArg (Value.int .u64) (wrap_sub qA 1 qp (by omega))) (by kernel_rfl)) <| pkq (uN (qA - 1)) <| eqr_ [0, 1, 2, 3] <| pkq (uN rA) <| pkq (uN y1) <| ppq (uN (rA + y1)) (exec_cast (congrArg (Value.int .u64) (wrapU (rA + y1) (by omega))) (by kernel_rfl)) <| pkq (uN (rA + y1)) <| eqr_ [0, 1] ?_
      refine pkq (uN (rA + y1)) <| ppq (.bool false) (dcf ((((rA + y1 : Nat) : Int)) ≥ ((4294967296) : Int)) (by omega)) <| en_ <| s_ <| blk_n <| then_n ?_
      refine ⟨⟨qA - 1, rA + y1, (uN qA), (.bool false), (.bool false), (uN qA), (uN y0), (uN (qA * y0)), (uN rA), (uN (4294967296 * rA)), (uN u1), (uN (4294967296 * rA + u1)), (.bool true), (.bool true), (uN qA), (uN (qA - 1)), (uN rA), (uN y1), (uN (rA + y1)), (uN (rA + y1)), (.bool false), by kernel_rfl, hdn, by omega, by omega, K2⟩, ?_⟩
      exact lt_meas (x := qA - 1) (y := qA) (by kernel_rfl) (by kernel_rfl) (by omega)
    · obtain ⟨qp, hdn⟩ := dig_step hYs hy0 hy1p hu1 hUY hd (.inr hc)
      have hxA : qA - 1 = (U * 4294967296 + u1) / Y := dig_done hYs hy0 hy1p hu1 hUY hdn (.inr hr2)
      refine q_ <| qr_ [0, 1, 2, 3, 4, 5, 6, 7, 8, 9, 10, 11] <| pkq (uN qA) <| ppq (.bool false) (dcf ((((qA : Nat) : Int)) ≥ ((4294967296) : Int)) (by omega)) <| pkq (.bool false) <| pkq (uN qA) <| pkq (uN y0) <| ppq (uN (qA * y0)) (exec_cast (congrArg (Value.int .u64) (wrapU (qA * y0) (mul_small hq hy0))) (by kernel_rfl)) <| pkq (uN rA) <| ppq (uN (4294967296 * rA)) (exec_cast (congrArg (Value.int .u64) (wrapU (4294967296 * rA) (by omega))) (by kernel_rfl)) <| pkq (uN u1) <| ppq (uN (4294967296 * rA + u1)) (exec_cast (congrArg (Value.int .u64) (wrapU (4294967296 * rA + u1) (by omega))) (by kernel_rfl)) <| ppq (.bool true) (dct ((((qA * y0 : Nat) : Int)) > (((4294967296 * rA + u1 : Nat) : Int))) (by omega)) <| pkq (.bool true) ?_
      refine ey_ <| s_ <| then_n <| bl_ 1 <| qr_ [0, 1, 2] <| pkq (uN qA) <| ppq (uN (qA - 1)) (exec_cast (congrArg (Value.int .u64) (wrap_sub qA 1 qp (by omega))) (by kernel_rfl)) <| pkq (uN (qA - 1)) <| eqr_ [0, 1, 2, 3] <| pkq (uN rA) <| pkq (uN y1) <| ppq (uN (rA + y1)) (exec_cast (congrArg (Value.int .u64) (wrapU (rA + y1) (by omega))) (by kernel_rfl)) <| pkq (uN (rA + y1)) <| eqr_ [0, 1] ?_
      refine pkq (uN (rA + y1)) <| ppq (.bool true) (dct ((((rA + y1 : Nat) : Int)) ≥ ((4294967296) : Int)) (by omega)) <| ey_ <| sy_exit 0 (by kernel_rfl) <| blk_p (by decide) <| then_e <| blk_e <| tqr_ [0, 1, 2, 3, 4, 5, 6, 7, 8] <| pkq (uN U) <| pkq (.int .u64 (IntKind.u64.wrap (((U : Nat) : Int) * 4294967296))) <| pkq (uN u1) <| pkq (.int .u64 (IntKind.u64.wrap (IntKind.u64.wrap (((U : Nat) : Int) * 4294967296) + ((u1 : Nat) : Int)))) <| pkq (uN (qA - 1)) <| pkq (uN Y) ?_
      refine pkq (.int .u64 (IntKind.u64.wrap (((qA - 1 : Nat) : Int) * ((Y : Nat) : Int)))) <| ppq (uN Vr) (exec_cast (congrArg (Value.int .u64) (((dig_rest hYs hy0 hy1p hu1 hUY hxA).resolve_right (by omega)).trans (congrArg (fun n : Nat => (n : Int)) hVr))) (by kernel_rfl)) <| pkq (uN Vr) <| ps_end <| sy_a ⟨#[uN hi, uN lo, uN Y, ud, ud, ud, .int .u64 0, .int .u64 0, uN s, uN y1, uN y0, uN U, uN L, uN u1, uN u0, uN (qA - 1), uN (rA + y1), uN Vr, ud, uN y, .bool false, ud, uN y, uN hi, .bool false, ud, uN hi, .bool false, ud, ud, ud, ud, ud, ud, uN y, iN s, uN s, uN y, uN s, uN Y, uN Y, uN y1, uN Y, uN y0, uN hi, uN s, uN ((hi <<< s) % Kec.W), uN lo, uN s, uN (64 - s), uN (lo >>> (64 - s)), uN U, uN lo, uN s, uN L, uN L, uN u1, uN L, uN u0, uN U, uN y1, uN (U / y1), uN U, uN (U / y1), uN y1, uN (U / y1 * y1), uN (U - U / y1 * y1), uN qA, .bool false, .bool false, uN qA, uN y0, uN (qA * y0), uN rA, uN (4294967296 * rA), uN u1, uN (4294967296 * rA + u1), .bool true, .bool true, uN qA, uN (qA - 1), uN rA, uN y1, uN (rA + y1), uN (rA + y1), .bool true, uN U, .int .u64 (IntKind.u64.wrap (((U : Nat) : Int) * 4294967296)), uN u1, .int .u64 (IntKind.u64.wrap (IntKind.u64.wrap (((U : Nat) : Int) * 4294967296) + ((u1 : Nat) : Int))), uN (qA - 1), uN Y, .int .u64 (IntKind.u64.wrap (((qA - 1 : Nat) : Int) * ((Y : Nat) : Int))), uN Vr, ud, ud, ud, ud, ud, ud, ud, ud, ud, ud, ud, ud, ud, ud, ud, ud, ud, ud, ud, ud, ud, ud, ud, ud, ud, ud, ud, ud, ud, ud, ud, ud, ud, ud, ud, ud, ud, ud, ud, ud, ud], []⟩ <| tqr_ [0, 1, 2, 3] <| pkq (uN Vr) <| pkq (uN y1) <| ppq (uN (Vr / y1)) (exec_quoU 22 22 (.tmp 94) (.tmp 95) (by kernel_rfl) Vr y1 (by kernel_rfl) (by kernel_rfl) hy1p (by omega)) <| pkq (uN (Vr / y1)) <| eqr_ [0, 1, 2, 3, 4, 5] <| pkq (uN Vr) <| pkq (uN (Vr / y1)) <| pkq (uN y1) ?_
      refine ppq (uN (Vr / y1 * y1)) (exec_cast (congrArg (Value.int .u64) (wrapU (Vr / y1 * y1) (by have := Nat.div_mul_le_self Vr y1; omega))) (by kernel_rfl)) <| ppq (uN (Vr - Vr / y1 * y1)) (exec_cast (congrArg (Value.int .u64) (wrap_sub Vr (Vr / y1 * y1) (Nat.div_mul_le_self Vr y1) (by omega))) (by kernel_rfl)) <| pkq (uN (Vr - Vr / y1 * y1)) <| eq_ <| bl_ 2 ?_
      refine sy_loop (qc53_2 4194296) (fun a V => ∃ (qB : Nat) (rB : Nat) (u102 u103 u104 u105 u106 u107 u108 u109 u110 u111 u112 u113 u114 u115 u116 u117 u118 u119 u120 : Value), (a = ⟨#[uN hi, uN lo, uN Y, ud, ud, ud, .int .u64 0, .int .u64 0, uN s, uN y1, uN y0, uN U, uN L, uN u1, uN u0, uN (qA - 1), uN rB, uN Vr, uN qB, uN y, .bool false, ud, uN y, uN hi, .bool false, ud, uN hi, .bool false, ud, ud, ud, ud, ud, ud, uN y, iN s, uN s, uN y, uN s, uN Y, uN Y, uN y1, uN Y, uN y0, uN hi, uN s, uN ((hi <<< s) % Kec.W), uN lo, uN s, uN (64 - s), uN (lo >>> (64 - s)), uN U, uN lo, uN s, uN L, uN L, uN u1, uN L, uN u0, uN U, uN y1, uN (U / y1), uN U, uN (U / y1), uN y1, uN (U / y1 * y1), uN (U - U / y1 * y1), uN qA, .bool false, .bool false, uN qA, uN y0, uN (qA * y0), uN rA, uN (4294967296 * rA), uN u1, uN (4294967296 * rA + u1), .bool true, .bool true, uN qA, uN (qA - 1), uN rA, uN y1, uN (rA + y1), uN (rA + y1), .bool true, uN U, .int .u64 (IntKind.u64.wrap (((U : Nat) : Int) * 4294967296)), uN u1, .int .u64 (IntKind.u64.wrap (IntKind.u64.wrap (((U : Nat) : Int) * 4294967296) + ((u1 : Nat) : Int))), uN (qA - 1), uN Y, .int .u64 (IntKind.u64.wrap (((qA - 1 : Nat) : Int) * ((Y : Nat) : Int))), uN Vr, uN Vr, uN y1, uN (Vr / y1), uN Vr, uN (Vr / y1), uN y1, uN (Vr / y1 * y1), uN (Vr - Vr / y1 * y1), u102, u103, u104, u105, u106, u107, u108, u109, u110, u111, u112, u113, u114, u115, u116, u117, u118, u119, u120, ud, ud, ud, ud, ud, ud, ud, ud, ud, ud, ud, ud, ud, ud], []⟩) ∧ (Dig Vr Y y1 u0 qB rB) ∧ (qB < 18446744073709551616) ∧ (rB < 4294967296) ∧ (Keeps Nob w V)) (fun a _ => (intOf (a.tmps.getD 18 undef)).toNat) (by kernel_rfl) ?_ ?_
      · exact ⟨Vr / y1, Vr - Vr / y1 * y1, undef, undef, undef, undef, undef, undef, undef, undef, undef, undef, undef, undef, undef, undef, undef, undef, undef, undef, undef, by kernel_rfl, dig_init hYs hy0 hy1p hu0 hVY, by have := Nat.div_le_self Vr y1; omega, rem_small hy1p hy1l, K2⟩
      · rintro a V5 ⟨qB, rB, u102, u103, u104, u105, u106, u107, u108, u109, u110, u111, u112, u113, u114, u115, u116, u117, u118, u119, u120, rfl, hd, hql, hr, K6⟩
        rcases dig_cases qB rB y0 y1 u0 with ⟨hq, hr2⟩ | ⟨hq, hr2⟩ | ⟨hq, hc, hr2⟩ | ⟨hq, hc, hr2⟩ | ⟨hq, hc⟩
        · obtain ⟨qp, hdn⟩ := dig_step hYs hy0 hy1p hu0 hVY hd (.inl hq)
          refine q_ <| qr_ [0, 1, 2, 3, 4, 5, 6, 7, 8, 9, 10, 11] <| pkq (uN qB) <| ppq (.bool true) (dct ((((qB : Nat) : Int)) ≥ ((4294967296) : Int)) (by omega)) <| pkq (.bool true) <| pnq <| pnq <| pnq <| pnq <| pnq <| pnq <| pnq <| pnq <| pkq (.bool true) ?_
          refine ey_ <| s_ <| then_n <| bl_ 3 <| qr_ [0, 1, 2] <| pkq (uN qB) <| ppq (uN (qB - 1)) (exec_cast (congrArg (Value.int .u64) (wrap_sub qB 1 qp (by omega))) (by kernel_rfl)) <| pkq (uN (qB - 1)) <| eqr_ [0, 1, 2, 3] <| pkq (uN rB) <| pkq (uN y1) <| ppq (uN (rB + y1)) (exec_cast (congrArg (Value.int .u64) (wrapU (rB + y1) (by omega))) (by kernel_rfl)) <| pkq (uN (rB + y1)) <| eqr_ [0, 1] ?_
          refine pkq (uN (rB + y1)) <| ppq (.bool false) (dcf ((((rB + y1 : Nat) : Int)) ≥ ((4294967296) : Int)) (by omega)) <| en_ <| s_ <| blk_n <| then_n ?_
          refine ⟨⟨qB - 1, rB + y1, (uN qB), (.bool true), (.bool true), undef, undef, undef, undef, undef, undef, undef, undef, (.bool true), (uN qB), (uN (qB - 1)), (uN rB), (uN y1), (uN (rB + y1)), (uN (rB + y1)), (.bool false), by kernel_rfl, hdn, by omega, by omega, K6⟩, ?_⟩
          exact lt_meas (x := qB - 1) (y := qB) (by kernel_rfl) (by kernel_rfl) (by omega)
        · obtain ⟨qp, hdn⟩ := dig_step hYs hy0 hy1p hu0 hVY hd (.inl hq)
          have hxB : qB - 1 = (Vr * 4294967296 + u0) / Y := dig_done hYs hy0 hy1p hu0 hVY hdn (.inr hr2)
          refine q_ <| qr_ [0, 1, 2, 3, 4, 5, 6, 7, 8, 9, 10, 11] <| pkq (uN qB) <| ppq (.bool true) (dct ((((qB : Nat) : Int)) ≥ ((4294967296) : Int)) (by omega)) <| pkq (.bool true) <| pnq <| pnq <| pnq <| pnq <| pnq <| pnq <| pnq <| pnq <| pkq (.bool true) ?_
          refine ey_ <| s_ <| then_n <| bl_ 3 <| qr_ [0, 1, 2] <| pkq (uN qB) <| ppq (uN (qB - 1)) (exec_cast (congrArg (Value.int .u64) (wrap_sub qB 1 qp (by omega))) (by kernel_rfl)) <| pkq (uN (qB - 1)) <| eqr_ [0, 1, 2, 3] <| pkq (uN rB) <| pkq (uN y1) <| ppq (uN (rB + y1)) (exec_cast (congrArg (Value.int .u64) (wrapU (rB + y1) (by omega))) (by kernel_rfl)) <| pkq (uN (rB + y1)) <| eqr_ [0, 1] ?_
          refine pkq (uN (rB + y1)) <| ppq (.bool true) (dct ((((rB + y1 : Nat) : Int)) ≥ ((4294967296) : Int)) (by omega)) <| ey_ <| sy_exit 2 (by kernel_rfl) <| blk_p (by decide) <| then_e <| blk_e <| tqr_ [0, 1, 2, 3, 4, 5, 6, 7, 8, 9, 10, 11, 12, 13, 14, 15] <| pkq (uN (qA - 1)) <| ppq (uN ((qA - 1) * 4294967296)) (exec_cast (congrArg (Value.int .u64) (wrapU ((qA - 1) * 4294967296) (by have := dig_lt hYs hy0 hy1p hu1 hUY; rw [← hxA] at this; omega))) (by kernel_rfl)) <| pkq (uN (qB - 1)) <| ppq (uN ((hi * 18446744073709551616 + lo) / y)) (exec_cast (congrArg (Value.int .u64) ((wrapU ((qA - 1) * 4294967296 + (qB - 1)) (by have g1 := dig_lt hYs hy0 hy1p hu1 hUY; have g2 := dig_lt hYs hy0 hy1p hu0 hVY; rw [← hxA] at g1; rw [← hxB] at g2; omega)).trans (congrArg (fun n : Nat => (n : Int)) (div_end hy1 hYe hsum hLs hxA hVr hxB)))) (by kernel_rfl)) <| pkq (uN Vr) <| pkq (.int .u64 (IntKind.u64.wrap (((Vr : Nat) : Int) * 4294967296))) ?_
          refine pkq (uN u0) <| pkq (.int .u64 (IntKind.u64.wrap (IntKind.u64.wrap (((Vr : Nat) : Int) * 4294967296) + ((u0 : Nat) : Int)))) <| pkq (uN (qB - 1)) <| pkq (uN Y) <| pkq (.int .u64 (IntKind.u64.wrap (((qB - 1 : Nat) : Int) * ((Y : Nat) : Int)))) <| ppq (uN ((Vr * 4294967296 + u0) % Y)) (exec_cast (congrArg (Value.int .u64) ((dig_rest hYs hy0 hy1p hu0 hVY hxB).resolve_right (by omega))) (by kernel_rfl)) <| pkq (uN s) <| ppq (uN (((Vr * 4294967296 + u0) % Y) >>> s)) (exec_binop .shr 22 96 (.tmp 132) (.tmp 133) (by kernel_rfl) (uN (((Vr * 4294967296 + u0) % Y))) (uN s) _ (by kernel_rfl) (by kernel_rfl) (by kernel_rfl) (run_shrU _ _ ((Vr * 4294967296 + u0) % Y) s (by omega))) <| pkq (uN ((hi * 18446744073709551616 + lo) / y)) <| pkq (uN (((Vr * 4294967296 + u0) % Y) >>> s)) <| ps_end <| sy_a ⟨#[uN hi, uN lo, uN Y, ud, ud, ud, uN ((hi * 18446744073709551616 + lo) / y), uN (((Vr * 4294967296 + u0) % Y) >>> s), uN s, uN y1, uN y0, uN U, uN L, uN u1, uN u0, uN (qA - 1), uN (rB + y1), uN Vr, uN (qB - 1), uN y, .bool false, ud, uN y, uN hi, .bool false, ud, uN hi, .bool false, ud, ud, ud, ud, ud, ud, uN y, iN s, uN s, uN y, uN s, uN Y, uN Y, uN y1, uN Y, uN y0, uN hi, uN s, uN ((hi <<< s) % Kec.W), uN lo, uN s, uN (64 - s), uN (lo >>> (64 - s)), uN U, uN lo, uN s, uN L, uN L, uN u1, uN L, uN u0, uN U, uN y1, uN (U / y1), uN U, uN (U / y1), uN y1, uN (U / y1 * y1), uN (U - U / y1 * y1), uN qA, .bool false, .bool false, uN qA, uN y0, uN (qA * y0), uN rA, uN (4294967296 * rA), uN u1, uN (4294967296 * rA + u1), .bool true, .bool true, uN qA, uN (qA - 1), uN rA, uN y1, uN (rA + y1), uN (rA + y1), .bool true, uN U, .int .u64 (IntKind.u64.wrap (((U : Nat) : Int) * 4294967296)), uN u1, .int .u64 (IntKind.u64.wrap (IntKind.u64.wrap (((U : Nat) : Int) * 4294967296) + ((u1 : Nat) : Int))), uN (qA - 1), uN Y, .int .u64 (IntKind.u64.wrap (((qA - 1 : Nat) : Int) * ((Y : Nat) : Int))), uN Vr, uN Vr, uN y1, uN (Vr / y1), uN Vr, uN (Vr / y1), uN y1, uN (Vr / y1 * y1), uN (Vr - Vr / y1 * y1), uN qB, .bool true, .bool true, ud, ud, ud, ud, ud, ud, ud, ud, .bool true, uN qB, uN (qB - 1), uN rB, uN y1, uN (rB + y1), uN (rB + y1), .bool true, uN (qA - 1), uN ((qA - 1) * 4294967296), uN (qB - 1), uN ((hi * 18446744073709551616 + lo) / y), uN Vr, .int .u64 (IntKind.u64.wrap (((Vr : Nat) : Int) * 4294967296)), uN u0, .int .u64 (IntKind.u64.wrap (IntKind.u64.wrap (((Vr : Nat) : Int) * 4294967296) + ((u0 : Nat) : Int))), uN (qB - 1), uN Y, .int .u64 (IntKind.u64.wrap (((qB - 1 : Nat) : Int) * ((Y : Nat) : Int))), uN ((Vr * 4294967296 + u0) % Y), uN s, uN (((Vr * 4294967296 + u0) % Y) >>> s)], []⟩ <| then_n <| u_ ?_
          refine so_ (.tuple #[.int .u64 (((hi * 18446744073709551616 + lo) / y : Nat) : Int), .int .u64 ((((Vr * 4294967296 + u0) % Y) >>> s : Nat) : Int)]) ?_
          exact ⟨_, rfl, K6⟩
        · obtain ⟨qp, hdn⟩ := dig_step hYs hy0 hy1p hu0 hVY hd (.inr hc)
          refine q_ <| qr_ [0, 1, 2, 3, 4, 5, 6, 7, 8, 9, 10, 11] <| pkq (uN qB) <| ppq (.bool false) (dcf ((((qB : Nat) : Int)) ≥ ((4294967296) : Int)) (by omega)) <| pkq (.bool false) <| pkq (uN qB) <| pkq (uN y0) <| ppq (uN (qB * y0)) (exec_cast (congrArg (Value.int .u64) (wrapU (qB * y0) (mul_small hq hy0))) (by kernel_rfl)) <| pkq (uN rB) <| ppq (uN (4294967296 * rB)) (exec_cast (congrArg (Value.int .u64) (wrapU (4294967296 * rB) (by omega))) (by kernel_rfl)) <| pkq (uN u0) <| ppq (uN (4294967296 * rB + u0)) (exec_cast (congrArg (Value.int .u64) (wrapU (4294967296 * rB + u0) (by omega))) (by kernel_rfl)) <| ppq (.bool true) (dct ((((qB * y0 : Nat) : Int)) > (((4294967296 * rB + u0 : Nat) : Int))) (by omega)) <| pkq (.bool true) ?_
          refine ey_ <| s_ <| then_n <| bl_ 3 <| qr_ [0, 1, 2] <| pkq (uN qB) <| ppq (uN (qB - 1)) (exec_cast (congrArg (Value.int .u64) (wrap_sub qB 1 qp (by omega))) (by kernel_rfl)) <| pkq (uN (qB - 1)) <| eqr_ [0, 1, 2, 3] <| pkq (uN rB) <| pkq (uN y1) <| ppq (uN (rB + y1)) (exec_cast (congrArg (Value.int .u64) (wrapU (rB + y1) (by omega))) (by kernel_rfl)) <| pkq (uN (rB + y1)) <| eqr_ [0, 1] ?_
          refine pkq (uN (rB + y1)) <| ppq (.bool false) (dcf ((((rB + y1 : Nat) : Int)) ≥ ((4294967296) : Int)) (by omega)) <| en_ <| s_ <| blk_n <| then_n ?_
          refine ⟨⟨qB - 1, rB + y1, (uN qB), (.bool false), (.bool false), (uN qB), (uN y0), (uN (qB * y0)), (uN rB), (uN (4294967296 * rB)), (uN u0), (uN (4294967296 * rB + u0)), (.bool true), (.bool true), (uN qB), (uN (qB - 1)), (uN rB), (uN y1), (uN (rB + y1)), (uN (rB + y1)), (.bool false), by kernel_rfl, hdn, by omega, by omega, K6⟩, ?_⟩
          exact lt_meas (x := qB - 1) (y := qB) (by kernel_rfl) (by kernel_rfl) (by omega)
        · obtain ⟨qp, hdn⟩ := dig_step hYs hy0 hy1p hu0 hVY hd (.inr hc)
          have hxB : qB - 1 = (Vr * 4294967296 + u0) / Y := dig_done hYs hy0 hy1p hu0 hVY hdn (.inr hr2)
          refine q_ <| qr_ [0, 1, 2, 3, 4, 5, 6, 7, 8, 9, 10, 11] <| pkq (uN qB) <| ppq (.bool false) (dcf ((((qB : Nat) : Int)) ≥ ((4294967296) : Int)) (by omega)) <| pkq (.bool false) <| pkq (uN qB) <| pkq (uN y0) <| ppq (uN (qB * y0)) (exec_cast (congrArg (Value.int .u64) (wrapU (qB * y0) (mul_small hq hy0))) (by kernel_rfl)) <| pkq (uN rB) <| ppq (uN (4294967296 * rB)) (exec_cast (congrArg (Value.int .u64) (wrapU (4294967296 * rB) (by omega))) (by kernel_rfl)) <| pkq (uN u0) <| ppq (uN (4294967296 * rB + u0)) (exec_cast (congrArg (Value.int .u64) (wrapU (4294967296 * rB + u0) (by omega))) (by kernel_rfl)) <| ppq (.bool true) (dct ((((qB * y0 : Nat) : Int)) > (((4294967296 * rB + u0 : Nat) : Int))) (by omega)) <| pkq (.bool true) ?_
          refine ey_ <| s_ <| then_n <| bl_ 3 <| qr_ [0, 1, 2] <| pkq (uN qB) <| ppq (uN (qB - 1)) (exec_cast (congrArg (Value.int .u64) (wrap_sub qB 1 qp (by omega))) (by kernel_rfl)) <| pkq (uN (qB - 1)) <| eqr_ [0, 1, 2, 3] <| pkq (uN rB) <| pkq (uN y1) <| ppq (uN (rB + y1)) (exec_cast (congrArg (Value.int .u64) (wrapU (rB + y1) (by omega))) (by kernel_rfl)) <| pkq (uN (rB + y1)) <| eqr_ [0, 1] ?_
          refine pkq (uN (rB + y1)) <| ppq (.bool true) (dct ((((rB + y1 : Nat) : Int)) ≥ ((4294967296) : Int)) (by omega)) <| ey_ <| sy_exit 2 (by kernel_rfl) <| blk_p (by decide) <| then_e <| blk_e <| tqr_ [0, 1, 2, 3, 4, 5, 6, 7, 8, 9, 10, 11, 12, 13, 14, 15] <| pkq (uN (qA - 1)) <| ppq (uN ((qA - 1) * 4294967296)) (exec_cast (congrArg (Value.int .u64) (wrapU ((qA - 1) * 4294967296) (by have := dig_lt hYs hy0 hy1p hu1 hUY; rw [← hxA] at this; omega))) (by kernel_rfl)) <| pkq (uN (qB - 1)) <| ppq (uN ((hi * 18446744073709551616 + lo) / y)) (exec_cast (congrArg (Value.int .u64) ((wrapU ((qA - 1) * 4294967296 + (qB - 1)) (by have g1 := dig_lt hYs hy0 hy1p hu1 hUY; have g2 := dig_lt hYs hy0 hy1p hu0 hVY; rw [← hxA] at g1; rw [← hxB] at g2; omega)).trans (congrArg (fun n : Nat => (n : Int)) (div_end hy1 hYe hsum hLs hxA hVr hxB)))) (by kernel_rfl)) <| pkq (uN Vr) <| pkq (.int .u64 (IntKind.u64.wrap (((Vr : Nat) : Int) * 4294967296))) ?_
          refine pkq (uN u0) <| pkq (.int .u64 (IntKind.u64.wrap (IntKind.u64.wrap (((Vr : Nat) : Int) * 4294967296) + ((u0 : Nat) : Int)))) <| pkq (uN (qB - 1)) <| pkq (uN Y) <| pkq (.int .u64 (IntKind.u64.wrap (((qB - 1 : Nat) : Int) * ((Y : Nat) : Int)))) <| ppq (uN ((Vr * 4294967296 + u0) % Y)) (exec_cast (congrArg (Value.int .u64) ((dig_rest hYs hy0 hy1p hu0 hVY hxB).resolve_right (by omega))) (by kernel_rfl)) <| pkq (uN s) <| ppq (uN (((Vr * 4294967296 + u0) % Y) >>> s)) (exec_binop .shr 22 96 (.tmp 132) (.tmp 133) (by kernel_rfl) (uN (((Vr * 4294967296 + u0) % Y))) (uN s) _ (by kernel_rfl) (by kernel_rfl) (by kernel_rfl) (run_shrU _ _ ((Vr * 4294967296 + u0) % Y) s (by omega))) <| pkq (uN ((hi * 18446744073709551616 + lo) / y)) <| pkq (uN (((Vr * 4294967296 + u0) % Y) >>> s)) <| ps_end <| sy_a ⟨#[uN hi, uN lo, uN Y, ud, ud, ud, uN ((hi * 18446744073709551616 + lo) / y), uN (((Vr * 4294967296 + u0) % Y) >>> s), uN s, uN y1, uN y0, uN U, uN L, uN u1, uN u0, uN (qA - 1), uN (rB + y1), uN Vr, uN (qB - 1), uN y, .bool false, ud, uN y, uN hi, .bool false, ud, uN hi, .bool false, ud, ud, ud, ud, ud, ud, uN y, iN s, uN s, uN y, uN s, uN Y, uN Y, uN y1, uN Y, uN y0, uN hi, uN s, uN ((hi <<< s) % Kec.W), uN lo, uN s, uN (64 - s), uN (lo >>> (64 - s)), uN U, uN lo, uN s, uN L, uN L, uN u1, uN L, uN u0, uN U, uN y1, uN (U / y1), uN U, uN (U / y1), uN y1, uN (U / y1 * y1), uN (U - U / y1 * y1), uN qA, .bool false, .bool false, uN qA, uN y0, uN (qA * y0), uN rA, uN (4294967296 * rA), uN u1, uN (4294967296 * rA + u1), .bool true, .bool true, uN qA, uN (qA - 1), uN rA, uN y1, uN (rA + y1), uN (rA + y1), .bool true, uN U, .int .u64 (IntKind.u64.wrap (((U : Nat) : Int) * 4294967296)), uN u1, .int .u64 (IntKind.u64.wrap (IntKind.u64.wrap (((U : Nat) : Int) * 4294967296) + ((u1 : Nat) : Int))), uN (qA - 1), uN Y, .int .u64 (IntKind.u64.wrap (((qA - 1 : Nat) : Int) * ((Y : Nat) : Int))), uN Vr, uN Vr, uN y1, uN (Vr / y1), uN Vr, uN (Vr / y1), uN y1, uN (Vr / y1 * y1), uN (Vr - Vr / y1 * y1), uN qB, .bool false, .bool false, uN qB, uN y0, uN (qB * y0), uN rB, uN (4294967296 * rB), uN u0, uN (4294967296 * rB + u0), .bool true, .bool true, uN qB, uN (qB - 1), uN rB, uN y1, uN (rB + y1), uN (rB + y1), .bool true, uN (qA - 1), uN ((qA - 1) * 4294967296), uN (qB - 1), uN ((hi * 18446744073709551616 + lo) / y), uN Vr, .int .u64 (IntKind.u64.wrap (((Vr : Nat) : Int) * 4294967296)), uN u0, .int .u64 (IntKind.u64.wrap (IntKind.u64.wrap (((Vr : Nat) : Int) * 4294967296) + ((u0 : Nat) : Int))), uN (qB - 1), uN Y, .int .u64 (IntKind.u64.wrap (((qB - 1 : Nat) : Int) * ((Y : Nat) : Int))), uN ((Vr * 4294967296 + u0) % Y), uN s, uN (((Vr * 4294967296 + u0) % Y) >>> s)], []⟩ <| then_n <| u_ ?_
          refine so_ (.tuple #[.int .u64 (((hi * 18446744073709551616 + lo) / y : Nat) : Int), .int .u64 ((((Vr * 4294967296 + u0) % Y) >>> s : Nat) : Int)]) ?_
          exact ⟨_, rfl, K6⟩
        · have hxB : qB = (Vr * 4294967296 + u0) / Y := dig_done hYs hy0 hy1p hu0 hVY hd (.inl ⟨hq, hc⟩)
          refine q_ <| qr_ [0, 1, 2, 3, 4, 5, 6, 7, 8, 9, 10, 11] <| pkq (uN qB) <| ppq (.bool false) (dcf ((((qB : Nat) : Int)) ≥ ((4294967296) : Int)) (by omega)) <| pkq (.bool false) <| pkq (uN qB) <| pkq (uN y0) <| ppq (uN (qB * y0)) (exec_cast (congrArg (Value.int .u64) (wrapU (qB * y0) (mul_small hq hy0))) (by kernel_rfl)) <| pkq (uN rB) <| ppq (uN (4294967296 * rB)) (exec_cast (congrArg (Value.int .u64) (wrapU (4294967296 * rB) (by omega))) (by kernel_rfl)) <| pkq (uN u0) <| ppq (uN (4294967296 * rB + u0)) (exec_cast (congrArg (Value.int .u64) (wrapU (4294967296 * rB + u0) (by omega))) (by kernel_rfl)) <| ppq (.bool false) (dcf ((((qB * y0 : Nat) : Int)) > (((4294967296 * rB + u0 : Nat) : Int))) (by omega)) <| pkq (.bool false) ?_
          refine en_ <| sy_exit 2 (by kernel_rfl) <| then_e <| then_e <| blk_e <| tqr_ [0, 1, 2, 3, 4, 5, 6, 7, 8, 9, 10, 11, 12, 13, 14, 15] <| pkq (uN (qA - 1)) <| ppq (uN ((qA - 1) * 4294967296)) (exec_cast (congrArg (Value.int .u64) (wrapU ((qA - 1) * 4294967296) (by have := dig_lt hYs hy0 hy1p hu1 hUY; rw [← hxA] at this; omega))) (by kernel_rfl)) <| pkq (uN qB) <| ppq (uN ((hi * 18446744073709551616 + lo) / y)) (exec_cast (congrArg (Value.int .u64) ((wrapU ((qA - 1) * 4294967296 + qB) (by have g1 := dig_lt hYs hy0 hy1p hu1 hUY; have g2 := dig_lt hYs hy0 hy1p hu0 hVY; rw [← hxA] at g1; rw [← hxB] at g2; omega)).trans (congrArg (fun n : Nat => (n : Int)) (div_end hy1 hYe hsum hLs hxA hVr hxB)))) (by kernel_rfl)) <| pkq (uN Vr) <| pkq (.int .u64 (IntKind.u64.wrap (((Vr : Nat) : Int) * 4294967296))) <| pkq (uN u0) <| pkq (.int .u64 (IntKind.u64.wrap (IntKind.u64.wrap (((Vr : Nat) : Int) * 4294967296) + ((u0 : Nat) : Int)))) ?_
          refine pkq (uN qB) <| pkq (uN Y) <| pkq (.int .u64 (IntKind.u64.wrap (((qB : Nat) : Int) * ((Y : Nat) : Int)))) <| ppq (uN ((Vr * 4294967296 + u0) % Y)) (exec_cast (congrArg (Value.int .u64) ((dig_rest hYs hy0 hy1p hu0 hVY hxB).resolve_right (by omega))) (by kernel_rfl)) <| pkq (uN s) <| ppq (uN (((Vr * 4294967296 + u0) % Y) >>> s)) (exec_binop .shr 22 96 (.tmp 132) (.tmp 133) (by kernel_rfl) (uN (((Vr * 4294967296 + u0) % Y))) (uN s) _ (by kernel_rfl) (by kernel_rfl) (by kernel_rfl) (run_shrU _ _ ((Vr * 4294967296 + u0) % Y) s (by omega))) <| pkq (uN ((hi * 18446744073709551616 + lo) / y)) <| pkq (uN (((Vr * 4294967296 + u0) % Y) >>> s)) <| ps_end <| sy_a ⟨#[uN hi, uN lo, uN Y, ud, ud, ud, uN ((hi * 18446744073709551616 + lo) / y), uN (((Vr * 4294967296 + u0) % Y) >>> s), uN s, uN y1, uN y0, uN U, uN L, uN u1, uN u0, uN (qA - 1), uN rB, uN Vr, uN qB, uN y, .bool false, ud, uN y, uN hi, .bool false, ud, uN hi, .bool false, ud, ud, ud, ud, ud, ud, uN y, iN s, uN s, uN y, uN s, uN Y, uN Y, uN y1, uN Y, uN y0, uN hi, uN s, uN ((hi <<< s) % Kec.W), uN lo, uN s, uN (64 - s), uN (lo >>> (64 - s)), uN U, uN lo, uN s, uN L, uN L, uN u1, uN L, uN u0, uN U, uN y1, uN (U / y1), uN U, uN (U / y1), uN y1, uN (U / y1 * y1), uN (U - U / y1 * y1), uN qA, .bool false, .bool false, uN qA, uN y0, uN (qA * y0), uN rA, uN (4294967296 * rA), uN u1, uN (4294967296 * rA + u1), .bool true, .bool true, uN qA, uN (qA - 1), uN rA, uN y1, uN (rA + y1), uN (rA + y1), .bool true, uN U, .int .u64 (IntKind.u64.wrap (((U : Nat) : Int) * 4294967296)), uN u1, .int .u64 (IntKind.u64.wrap (IntKind.u64.wrap (((U : Nat) : Int) * 4294967296) + ((u1 : Nat) : Int))), uN (qA - 1), uN Y, .int .u64 (IntKind.u64.wrap (((qA - 1 : Nat) : Int) * ((Y : Nat) : Int))), uN Vr, uN Vr, uN y1, uN (Vr / y1), uN Vr, uN (Vr / y1), uN y1, uN (Vr / y1 * y1), uN (Vr - Vr / y1 * y1), uN qB, .bool false, .bool false, uN qB, uN y0, uN (qB * y0), uN rB, uN (4294967296 * rB), uN u0, uN (4294967296 * rB + u0), .bool false, .bool false, u114, u115, u116, u117, u118, u119, u120, uN (qA - 1), uN ((qA - 1) * 4294967296), uN qB, uN ((hi * 18446744073709551616 + lo) / y), uN Vr, .int .u64 (IntKind.u64.wrap (((Vr : Nat) : Int) * 4294967296)), uN u0, .int .u64 (IntKind.u64.wrap (IntKind.u64.wrap (((Vr : Nat) : Int) * 4294967296) + ((u0 : Nat) : Int))), uN qB, uN Y, .int .u64 (IntKind.u64.wrap (((qB : Nat) : Int) * ((Y : Nat) : Int))), uN ((Vr * 4294967296 + u0) % Y), uN s, uN (((Vr * 4294967296 + u0) % Y) >>> s)], []⟩ <| then_n <| u_ <| so_ (.tuple #[.int .u64 (((hi * 18446744073709551616 + lo) / y : Nat) : Int), .int .u64 ((((Vr * 4294967296 + u0) % Y) >>> s : Nat) : Int)]) ?_
          exact ⟨_, rfl, K6⟩
    · have hxA : qA = (U * 4294967296 + u1) / Y := dig_done hYs hy0 hy1p hu1 hUY hd (.inl ⟨hq, hc⟩)
      refine q_ <| qr_ [0, 1, 2, 3, 4, 5, 6, 7, 8, 9, 10, 11] <| pkq (uN qA) <| ppq (.bool false) (dcf ((((qA : Nat) : Int)) ≥ ((4294967296) : Int)) (by omega)) <| pkq (.bool false) <| pkq (uN qA) <| pkq (uN y0) <| ppq (uN (qA * y0)) (exec_cast (congrArg (Value.int .u64) (wrapU (qA * y0) (mul_small hq hy0))) (by kernel_rfl)) <| pkq (uN rA) <| ppq (uN (4294967296 * rA)) (exec_cast (congrArg (Value.int .u64) (wrapU (4294967296 * rA) (by omega))) (by kernel_rfl)) <| pkq (uN u1) <| ppq (uN (4294967296 * rA + u1)) (exec_cast (congrArg (Value.int .u64) (wrapU (4294967296 * rA + u1) (by omega))) (by kernel_rfl)) <| ppq (.bool false) (dcf ((((qA * y0 : Nat) : Int)) > (((4294967296 * rA + u1 : Nat) : Int))) (by omega)) <| pkq (.bool false) ?_
      refine en_ <| sy_exit 0 (by kernel_rfl) <| then_e <| then_e <| blk_e <| tqr_ [0, 1, 2, 3, 4, 5, 6, 7, 8] <| pkq (uN U) <| pkq (.int .u64 (IntKind.u64.wrap (((U : Nat) : Int) * 4294967296))) <| pkq (uN u1) <| pkq (.int .u64 (IntKind.u64.wrap (IntKind.u64.wrap (((U : Nat) : Int) * 4294967296) + ((u1 : Nat) : Int)))) <| pkq (uN qA) <| pkq (uN Y) <| pkq (.int .u64 (IntKind.u64.wrap (((qA : Nat) : Int) * ((Y : Nat) : Int)))) <| ppq (uN Vr) (exec_cast (congrArg (Value.int .u64) (((dig_rest hYs hy0 hy1p hu1 hUY hxA).resolve_right (by omega)).trans (congrArg (fun n : Nat => (n : Int)) hVr))) (by kernel_rfl)) ?_
      refine pkq (uN Vr) <| eqr_ [0, 1, 2, 3] <| pkq (uN Vr) <| pkq (uN y1) <| ppq (uN (Vr / y1)) (exec_quoU 22 22 (.tmp 94) (.tmp 95) (by kernel_rfl) Vr y1 (by kernel_rfl) (by kernel_rfl) hy1p (by omega)) <| pkq (uN (Vr / y1)) <| ps_end <| sy_a ⟨#[uN hi, uN lo, uN Y, ud, ud, ud, .int .u64 0, .int .u64 0, uN s, uN y1, uN y0, uN U, uN L, uN u1, uN u0, uN qA, uN rA, uN Vr, uN (Vr / y1), uN y, .bool false, ud, uN y, uN hi, .bool false, ud, uN hi, .bool false, ud, ud, ud, ud, ud, ud, uN y, iN s, uN s, uN y, uN s, uN Y, uN Y, uN y1, uN Y, uN y0, uN hi, uN s, uN ((hi <<< s) % Kec.W), uN lo, uN s, uN (64 - s), uN (lo >>> (64 - s)), uN U, uN lo, uN s, uN L, uN L, uN u1, uN L, uN u0, uN U, uN y1, uN (U / y1), uN U, uN (U / y1), uN y1, uN (U / y1 * y1), uN (U - U / y1 * y1), uN qA, .bool false, .bool false, uN qA, uN y0, uN (qA * y0), uN rA, uN (4294967296 * rA), uN u1, uN (4294967296 * rA + u1), .bool false, .bool false, u79, u80, u81, u82, u83, u84, u85, uN U, .int .u64 (IntKind.u64.wrap (((U : Nat) : Int) * 4294967296)), uN u1, .int .u64 (IntKind.u64.wrap (IntKind.u64.wrap (((U : Nat) : Int) * 4294967296) + ((u1 : Nat) : Int))), uN qA, uN Y, .int .u64 (IntKind.u64.wrap (((qA : Nat) : Int) * ((Y : Nat) : Int))), uN Vr, uN Vr, uN y1, uN (Vr / y1), ud, ud, ud, ud, ud, ud, ud, ud, ud, ud, ud, ud, ud, ud, ud, ud, ud, ud, ud, ud, ud, ud, ud, ud, ud, ud, ud, ud, ud, ud, ud, ud, ud, ud, ud, ud, ud, ud], []⟩ <| tqr_ [0, 1, 2, 3, 4, 5] <| pkq (uN Vr) <| pkq (uN (Vr / y1)) <| pkq (uN y1) <| ppq (uN (Vr / y1 * y1)) (exec_cast (congrArg (Value.int .u64) (wrapU (Vr / y1 * y1) (by have := Nat.div_mul_le_self Vr y1; omega))) (by kernel_rfl)) <| ppq (uN (Vr - Vr / y1 * y1)) (exec_cast (congrArg (Value.int .u64) (wrap_sub Vr (Vr / y1 * y1) (Nat.div_mul_le_self Vr y1) (by omega))) (by kernel_rfl)) ?_
      refine pkq (uN (Vr - Vr / y1 * y1)) <| eq_ <| bl_ 2 ?_
      refine sy_loop (qc53_2 4194296) (fun a V => ∃ (qB : Nat) (rB : Nat) (u102 u103 u104 u105 u106 u107 u108 u109 u110 u111 u112 u113 u114 u115 u116 u117 u118 u119 u120 : Value), (a = ⟨#[uN hi, uN lo, uN Y, ud, ud, ud, .int .u64 0, .int .u64 0, uN s, uN y1, uN y0, uN U, uN L, uN u1, uN u0, uN qA, uN rB, uN Vr, uN qB, uN y, .bool false, ud, uN y, uN hi, .bool false, ud, uN hi, .bool false, ud, ud, ud, ud, ud, ud, uN y, iN s, uN s, uN y, uN s, uN Y, uN Y, uN y1, uN Y, uN y0, uN hi, uN s, uN ((hi <<< s) % Kec.W), uN lo, uN s, uN (64 - s), uN (lo >>> (64 - s)), uN U, uN lo, uN s, uN L, uN L, uN u1, uN L, uN u0, uN U, uN y1, uN (U / y1), uN U, uN (U / y1), uN y1, uN (U / y1 * y1), uN (U - U / y1 * y1), uN qA, .bool false, .bool false, uN qA, uN y0, uN (qA * y0), uN rA, uN (4294967296 * rA), uN u1, uN (4294967296 * rA + u1), .bool false, .bool false, u79, u80, u81, u82, u83, u84, u85, uN U, .int .u64 (IntKind.u64.wrap (((U : Nat) : Int) * 4294967296)), uN u1, .int .u64 (IntKind.u64.wrap (IntKind.u64.wrap (((U : Nat) : Int) * 4294967296) + ((u1 : Nat) : Int))), uN qA, uN Y, .int .u64 (IntKind.u64.wrap (((qA : Nat) : Int) * ((Y : Nat) : Int))), uN Vr, uN Vr, uN y1, uN (Vr / y1), uN Vr, uN (Vr / y1), uN y1, uN (Vr / y1 * y1), uN (Vr - Vr / y1 * y1), u102, u103, u104, u105, u106, u107, u108, u109, u110, u111, u112, u113, u114, u115, u116, u117, u118, u119, u120, ud, ud, ud, ud, ud, ud, ud, ud, ud, ud, ud, ud, ud, ud], []⟩) ∧ (Dig Vr Y y1 u0 qB rB) ∧ (qB < 18446744073709551616) ∧ (rB < 4294967296) ∧ (Keeps Nob w V)) (fun a _ => (intOf (a.tmps.getD 18 undef)).toNat) (by kernel_rfl) ?_ ?_
      · exact ⟨Vr / y1, Vr - Vr / y1 * y1, undef, undef, undef, undef, undef, undef, undef, undef, undef, undef, undef, undef, undef, undef, undef, undef, undef, undef, undef, by kernel_rfl, dig_init hYs hy0 hy1p hu0 hVY, by have := Nat.div_le_self Vr y1; omega, rem_small hy1p hy1l, K2⟩
      · rintro a V7 ⟨qB, rB, u102, u103, u104, u105, u106, u107, u108, u109, u110, u111, u112, u113, u114, u115, u116, u117, u118, u119, u120, rfl, hd, hql, hr, K8⟩
        rcases dig_cases qB rB y0 y1 u0 with ⟨hq, hr2⟩ | ⟨hq, hr2⟩ | ⟨hq, hc, hr2⟩ | ⟨hq, hc, hr2⟩ | ⟨hq, hc⟩
        · obtain ⟨qp, hdn⟩ := dig_step hYs hy0 hy1p hu0 hVY hd (.inl hq)
          refine q_ <| qr_ [0, 1, 2, 3, 4, 5, 6, 7, 8, 9, 10, 11] <| pkq (uN qB) <| ppq (.bool true) (dct ((((qB : Nat) : Int)) ≥ ((4294967296) : Int)) (by omega)) <| pkq (.bool true) <| pnq <| pnq <| pnq <| pnq <| pnq <| pnq <| pnq <| pnq <| pkq (.bool true) ?_
          refine ey_ <| s_ <| then_n <| bl_ 3 <| qr_ [0, 1, 2] <| pkq (uN qB) <| ppq (uN (qB - 1)) (exec_cast (congrArg (Value.int .u64) (wrap_sub qB 1 qp (by omega))) (by kernel_rfl)) <| pkq (uN (qB - 1)) <| eqr_ [0, 1, 2, 3] <| pkq (uN rB) <| pkq (uN y1) <| ppq (uN (rB + y1)) (exec_cast (congrArg (Value.int .u64) (wrapU (rB + y1) (by omega))) (by kernel_rfl)) <| pkq (uN (rB + y1)) <| eqr_ [0, 1] ?_
          refine pkq (uN (rB + y1)) <| ppq (.bool false) (dcf ((((rB + y1 : Nat) : Int)) ≥ ((4294967296) : Int)) (by omega)) <| en_ <| s_ <| blk_n <| then_n ?_
          refine ⟨⟨qB - 1, rB + y1, (uN qB), (.bool true), (.bool true), undef, undef, undef, undef, undef, undef, undef, undef, (.bool true), (uN qB), (uN (qB - 1)), (uN rB), (uN y1), (uN (rB + y1)), (uN (rB + y1)), (.bool false), by kernel_rfl, hdn, by omega, by omega, K8⟩, ?_⟩
          exact lt_meas (x := qB - 1) (y := qB) (by kernel_rfl) (by kernel_rfl) (by omega)
        · obtain ⟨qp, hdn⟩ := dig_step hYs hy0 hy1p hu0 hVY hd (.inl hq)
          have hxB : qB - 1 = (Vr * 4294967296 + u0) / Y := dig_done hYs hy0 hy1p hu0 hVY hdn (.inr hr2)
          refine q_ <| qr_ [0, 1, 2, 3, 4, 5, 6, 7, 8, 9, 10, 11] <| pkq (uN qB) <| ppq (.bool true) (dct ((((qB : Nat) : Int)) ≥ ((4294967296) : Int)) (by omega)) <| pkq (.bool true) <| pnq <| pnq <| pnq <| pnq <| pnq <| pnq <| pnq <| pnq <| pkq (.bool true) ?_
          refine ey_ <| s_ <| then_n <| bl_ 3 <| qr_ [0, 1, 2] <| pkq (uN qB) <| ppq (uN (qB - 1)) (exec_cast (congrArg (Value.int .u64) (wrap_sub qB 1 qp (by omega))) (by kernel_rfl)) <| pkq (uN (qB - 1)) <| eqr_ [0, 1, 2, 3] <| pkq (uN rB) <| pkq (uN y1) <| ppq (uN (rB + y1)) (exec_cast (congrArg (Value.int .u64) (wrapU (rB + y1) (by omega))) (by kernel_rfl)) <| pkq (uN (rB + y1)) <| eqr_ [0, 1] ?_
          refine pkq (uN (rB + y1)) <| ppq (.bool true) (dct ((((rB + y1 : Nat) : Int)) ≥ ((4294967296) : Int)) (by omega)) <| ey_ <| sy_exit 2 (by kernel_rfl) <| blk_p (by decide) <| then_e <| blk_e <| tqr_ [0, 1, 2, 3, 4, 5, 6, 7, 8, 9, 10, 11, 12, 13, 14, 15] <| pkq (uN qA) <| ppq (uN (qA * 4294967296)) (exec_cast (congrArg (Value.int .u64) (wrapU (qA * 4294967296) (by have := dig_lt hYs hy0 hy1p hu1 hUY; rw [← hxA] at this; omega))) (by kernel_rfl)) <| pkq (uN (qB - 1)) <| ppq (uN ((hi * 18446744073709551616 + lo) / y)) (exec_cast (congrArg (Value.int .u64) ((wrapU (qA * 4294967296 + (qB - 1)) (by have g1 := dig_lt hYs hy0 hy1p hu1 hUY; have g2 := dig_lt hYs hy0 hy1p hu0 hVY; rw [← hxA] at g1; rw [← hxB] at g2; omega)).trans (congrArg (fun n : Nat => (n : Int)) (div_end hy1 hYe hsum hLs hxA hVr hxB)))) (by kernel_rfl)) <| pkq (uN Vr) <| pkq (.int .u64 (IntKind.u64.wrap (((Vr : Nat) : Int) * 4294967296))) ?_
          refine pkq (uN u0) <| pkq (.int .u64 (IntKind.u64.wrap (IntKind.u64.wrap (((Vr : Nat) : Int) * 4294967296) + ((u0 : Nat) : Int)))) <| pkq (uN (qB - 1)) <| pkq (uN Y) <| pkq (.int .u64 (IntKind.u64.wrap (((qB - 1 : Nat) : Int) * ((Y : Nat) : Int)))) <| ppq (uN ((Vr * 4294967296 + u0) % Y)) (exec_cast (congrArg (Value.int .u64) ((dig_rest hYs hy0 hy1p hu0 hVY hxB).resolve_right (by omega))) (by kernel_rfl)) <| pkq (uN s) <| ppq (uN (((Vr * 4294967296 + u0) % Y) >>> s)) (exec_binop .shr 22 96 (.tmp 132) (.tmp 133) (by kernel_rfl) (uN (((Vr * 4294967296 + u0) % Y))) (uN s) _ (by kernel_rfl) (by kernel_rfl) (by kernel_rfl) (run_shrU _ _ ((Vr * 4294967296 + u0) % Y) s (by omega))) <| pkq (uN ((hi * 18446744073709551616 + lo) / y)) <| pkq (uN (((Vr * 4294967296 + u0) % Y) >>> s)) <| ps_end <| sy_a ⟨#[uN hi, uN lo, uN Y, ud, ud, ud, uN ((hi * 18446744073709551616 + lo) / y), uN (((Vr * 4294967296 + u0) % Y) >>> s), uN s, uN y1, uN y0, uN U, uN L, uN u1, uN u0, uN qA, uN (rB + y1), uN Vr, uN (qB - 1), uN y, .bool false, ud, uN y, uN hi, .bool false, ud, uN hi, .bool false, ud, ud, ud, ud, ud, ud, uN y, iN s, uN s, uN y, uN s, uN Y, uN Y, uN y1, uN Y, uN y0, uN hi, uN s, uN ((hi <<< s) % Kec.W), uN lo, uN s, uN (64 - s), uN (lo >>> (64 - s)), uN U, uN lo, uN s, uN L, uN L, uN u1, uN L, uN u0, uN U, uN y1, uN (U / y1), uN U, uN (U / y1), uN y1, uN (U / y1 * y1), uN (U - U / y1 * y1), uN qA, .bool false, .bool false, uN qA, uN y0, uN (qA * y0), uN rA, uN (4294967296 * rA), uN u1, uN (4294967296 * rA + u1), .bool false, .bool false, u79, u80, u81, u82, u83, u84, u85, uN U, .int .u64 (IntKind.u64.wrap (((U : Nat) : Int) * 4294967296)), uN u1, .int .u64 (IntKind.u64.wrap (IntKind.u64.wrap (((U : Nat) : Int) * 4294967296) + ((u1 : Nat) : Int))), uN qA, uN Y, .int .u64 (IntKind.u64.wrap (((qA : Nat) : Int) * ((Y : Nat) : Int))), uN Vr, uN Vr, uN y1, uN (Vr / y1), uN Vr, uN (Vr / y1), uN y1, uN (Vr / y1 * y1), uN (Vr - Vr / y1 * y1), uN qB, .bool true, .bool true, ud, ud, ud, ud, ud, ud, ud, ud, .bool true, uN qB, uN (qB - 1), uN rB, uN y1, uN (rB + y1), uN (rB + y1), .bool true, uN qA, uN (qA * 4294967296), uN (qB - 1), uN ((hi * 18446744073709551616 + lo) / y), uN Vr, .int .u64 (IntKind.u64.wrap (((Vr : Nat) : Int) * 4294967296)), uN u0, .int .u64 (IntKind.u64.wrap (IntKind.u64.wrap (((Vr : Nat) : Int) * 4294967296) + ((u0 : Nat) : Int))), uN (qB - 1), uN Y, .int .u64 (IntKind.u64.wrap (((qB - 1 : Nat) : Int) * ((Y : Nat) : Int))), uN ((Vr * 4294967296 + u0) % Y), uN s, uN (((Vr * 4294967296 + u0) % Y) >>> s)], []⟩ <| then_n <| u_ ?_
          refine so_ (.tuple #[.int .u64 (((hi * 18446744073709551616 + lo) / y : Nat) : Int), .int .u64 ((((Vr * 4294967296 + u0) % Y) >>> s : Nat) : Int)]) ?_
          exact ⟨_, rfl, K8⟩
        · obtain ⟨qp, hdn⟩ := dig_step hYs hy0 hy1p hu0 hVY hd (.inr hc)
          refine q_ <| qr_ [0, 1, 2, 3, 4, 5, 6, 7, 8, 9, 10, 11] <| pkq (uN qB) <| ppq (.bool false) (dcf ((((qB : Nat) : Int)) ≥ ((4294967296) : Int)) (by omega)) <| pkq (.bool false) <| pkq (uN qB) <| pkq (uN y0) <| ppq (uN (qB * y0)) (exec_cast (congrArg (Value.int .u64) (wrapU (qB * y0) (mul_small hq hy0))) (by kernel_rfl)) <| pkq (uN rB) <| ppq (uN (4294967296 * rB)) (exec_cast (congrArg (Value.int .u64) (wrapU (4294967296 * rB) (by omega))) (by kernel_rfl)) <| pkq (uN u0) <| ppq (uN (4294967296 * rB + u0)) (exec_cast (congrArg (Value.int .u64) (wrapU (4294967296 * rB + u0) (by omega))) (by kernel_rfl)) <| ppq (.bool true) (dct ((((qB * y0 : Nat) : Int)) > (((4294967296 * rB + u0 : Nat) : Int))) (by omega)) <| pkq (.bool true) ?_
          refine ey_ <| s_ <| then_n <| bl_ 3 <| qr_ [0, 1, 2] <| pkq (uN qB) <| ppq (uN (qB - 1)) (exec_cast (congrArg (Value.int .u64) (wrap_sub qB 1 qp (by omega))) (by kernel_rfl)) <| pkq (uN (qB - 1)) <| eqr_ [0, 1, 2, 3] <| pkq (uN rB) <| pkq (uN y1) <| ppq (uN (rB + y1)) (exec_cast (congrArg (Value.int .u64) (wrapU (rB + y1) (by omega))) (by kernel_rfl)) <| pkq (uN (rB + y1)) <| eqr_ [0, 1] ?_
          refine pkq (uN (rB + y1)) <| ppq (.bool false) (dcf ((((rB + y1 : Nat) : Int)) ≥ ((4294967296) : Int)) (by omega)) <| en_ <| s_ <| blk_n <| then_n ?_
          refine ⟨⟨qB - 1, rB + y1, (uN qB), (.bool false), (.bool false), (uN qB), (uN y0), (uN (qB * y0)), (uN rB), (uN (4294967296 * rB)), (uN u0), (uN (4294967296 * rB + u0)), (.bool true), (.bool true), (uN qB), (uN (qB - 1)), (uN rB), (uN y1), (uN (rB + y1)), (uN (rB + y1)), (.bool false), by kernel_rfl, hdn, by omega, by omega, K8⟩, ?_⟩
          exact lt_meas (x := qB - 1) (y := qB) (by kernel_rfl) (by kernel_rfl) (by omega)
        · obtain ⟨qp, hdn⟩ := dig_step hYs hy0 hy1p hu0 hVY hd (.inr hc)
          have hxB : qB - 1 = (Vr * 4294967296 + u0) / Y := dig_done hYs hy0 hy1p hu0 hVY hdn (.inr hr2)
          refine q_ <| qr_ [0, 1, 2, 3, 4, 5, 6, 7, 8, 9, 10, 11] <| pkq (uN qB) <| ppq (.bool false) (dcf ((((qB : Nat) : Int)) ≥ ((4294967296) : Int)) (by omega)) <| pkq (.bool false) <| pkq (uN qB) <| pkq (uN y0) <| ppq (uN (qB * y0)) (exec_cast (congrArg (Value.int .u64) (wrapU (qB * y0) (mul_small hq hy0))) (by kernel_rfl)) <| pkq (uN rB) <| ppq (uN (4294967296 * rB)) (exec_cast (congrArg (Value.int .u64) (wrapU (4294967296 * rB) (by omega))) (by kernel_rfl)) <| pkq (uN u0) <| ppq (uN (4294967296 * rB + u0)) (exec_cast (congrArg (Value.int .u64) (wrapU (4294967296 * rB + u0) (by omega))) (by kernel_rfl)) <| ppq (.bool true) (dct ((((qB * y0 : Nat) : Int)) > (((4294967296 * rB + u0 : Nat) : Int))) (by omega)) <| pkq (.bool true) ?_
          refine ey_ <| s_ <| then_n <| bl_ 3 <| qr_ [0, 1, 2] <| pkq (uN qB) <| ppq (uN (qB - 1)) (exec_cast (congrArg (Value.int .u64) (wrap_sub qB 1 qp (by omega))) (by kernel_rfl)) <| pkq (uN (qB - 1)) <| eqr_ [0, 1, 2, 3] <| pkq (uN rB) <| pkq (uN y1) <| ppq (uN (rB + y1)) (exec_cast (congrArg (Value.int .u64) (wrapU (rB + y1) (by omega))) (by kernel_rfl)) <| pkq (uN (rB + y1)) <| eqr_ [0, 1] ?_
          refine pkq (uN (rB + y1)) <| ppq (.bool true) (dct ((((rB + y1 : Nat) : Int)) ≥ ((4294967296) : Int)) (by omega)) <| ey_ <| sy_exit 2 (by kernel_rfl) <| blk_p (by decide) <| then_e <| blk_e <| tqr_ [0, 1, 2, 3, 4, 5, 6, 7, 8, 9, 10, 11, 12, 13, 14, 15] <| pkq (uN qA) <| ppq (uN (qA * 4294967296)) (exec_cast (congrArg (Value.int .u64) (wrapU (qA * 4294967296) (by have := dig_lt hYs hy0 hy1p hu1 hUY; rw [← hxA] at this; omega))) (by kernel_rfl)) <| pkq (uN (qB - 1)) <| ppq (uN ((hi * 18446744073709551616 + lo) / y)) (exec_cast (congrArg (Value.int .u64) ((wrapU (qA * 4294967296 + (qB - 1)) (by have g1 := dig_lt hYs hy0 hy1p hu1 hUY; have g2 := dig_lt hYs hy0 hy1p hu0 hVY; rw [← hxA] at g1; rw [← hxB] at g2; omega)).trans (congrArg (fun n : Nat => (n : Int)) (div_end hy1 hYe hsum hLs hxA hVr hxB)))) (by kernel_rfl)) <| pkq (uN Vr) <| pkq (.int .u64 (IntKind.u64.wrap (((Vr : Nat) : Int) * 4294967296))) ?_
          refine pkq (uN u0) <| pkq (.int .u64 (IntKind.u64.wrap (IntKind.u64.wrap (((Vr : Nat) : Int) * 4294967296) + ((u0 : Nat) : Int)))) <| pkq (uN (qB - 1)) <| pkq (uN Y) <| pkq (.int .u64 (IntKind.u64.wrap (((qB - 1 : Nat) : Int) * ((Y : Nat) : Int)))) <| ppq (uN ((Vr * 4294967296 + u0) % Y)) (exec_cast (congrArg (Value.int .u64) ((dig_rest hYs hy0 hy1p hu0 hVY hxB).resolve_right (by omega))) (by kernel_rfl)) <| pkq (uN s) <| ppq (uN (((Vr * 4294967296 + u0) % Y) >>> s)) (exec_binop .shr 22 96 (.tmp 132) (.tmp 133) (by kernel_rfl) (uN (((Vr * 4294967296 + u0) % Y))) (uN s) _ (by kernel_rfl) (by kernel_rfl) (by kernel_rfl) (run_shrU _ _ ((Vr * 4294967296 + u0) % Y) s (by omega))) <| pkq (uN ((hi * 18446744073709551616 + lo) / y)) <| pkq (uN (((Vr * 4294967296 + u0) % Y) >>> s)) <| ps_end <| sy_a ⟨#[uN hi, uN lo, uN Y, ud, ud, ud, uN ((hi * 18446744073709551616 + lo) / y), uN (((Vr * 4294967296 + u0) % Y) >>> s), uN s, uN y1, uN y0, uN U, uN L, uN u1, uN u0, uN qA, uN (rB + y1), uN Vr, uN (qB - 1), uN y, .bool false, ud, uN y, uN hi, .bool false, ud, uN hi, .bool false, ud, ud, ud, ud, ud, ud, uN y, iN s, uN s, uN y, uN s, uN Y, uN Y, uN y1, uN Y, uN y0, uN hi, uN s, uN ((hi <<< s) % Kec.W), uN lo, uN s, uN (64 - s), uN (lo >>> (64 - s)), uN U, uN lo, uN s, uN L, uN L, uN u1, uN L, uN u0, uN U, uN y1, uN (U / y1), uN U, uN (U / y1), uN y1, uN (U / y1 * y1), uN (U - U / y1 * y1), uN qA, .bool false, .bool false, uN qA, uN y0, uN (qA * y0), uN rA, uN (4294967296 * rA), uN u1, uN (4294967296 * rA + u1), .bool false, .bool false, u79, u80, u81, u82, u83, u84, u85, uN U, .int .u64 (IntKind.u64.wrap (((U : Nat) : Int) * 4294967296)), uN u1, .int .u64 (IntKind.u64.wrap (IntKind.u64.wrap (((U : Nat) : Int) * 4294967296) + ((u1 : Nat) : Int))), uN qA, uN Y, .int .u64 (IntKind.u64.wrap (((qA : Nat) : Int) * ((Y : Nat) : Int))), uN Vr, uN Vr, uN y1, uN (Vr / y1), uN Vr, uN (Vr / y1), uN y1, uN (Vr / y1 * y1), uN (Vr - Vr / y1 * y1), uN qB, .bool false, .bool false, uN qB, uN y0, uN (qB * y0), uN rB, uN (4294967296 * rB), uN u0, uN (4294967296 * rB + u0), .bool true, .bool true, uN qB, uN (qB - 1), uN rB, uN y1, uN (rB + y1), uN (rB + y1), .bool true, uN qA, uN (qA * 4294967296), uN (qB - 1), uN ((hi * 18446744073709551616 + lo) / y), uN Vr, .int .u64 (IntKind.u64.wrap (((Vr : Nat) : Int) * 4294967296)), uN u0, .int .u64 (IntKind.u64.wrap (IntKind.u64.wrap (((Vr : Nat) : Int) * 4294967296) + ((u0 : Nat) : Int))), uN (qB - 1), uN Y, .int .u64 (IntKind.u64.wrap (((qB - 1 : Nat) : Int) * ((Y : Nat) : Int))), uN ((Vr * 4294967296 + u0) % Y), uN s, uN (((Vr * 4294967296 + u0) % Y) >>> s)], []⟩ <| then_n <| u_ ?_
          refine so_ (.tuple #[.int .u64 (((hi * 18446744073709551616 + lo) / y : Nat) : Int), .int .u64 ((((Vr * 4294967296 + u0) % Y) >>> s : Nat) : Int)]) ?_
          exact ⟨_, rfl, K8⟩
        · have hxB : qB = (Vr * 4294967296 + u0) / Y := dig_done hYs hy0 hy1p hu0 hVY hd (.inl ⟨hq, hc⟩)
          refine q_ <| qr_ [0, 1, 2, 3, 4, 5, 6, 7, 8, 9, 10, 11] <| pkq (uN qB) <| ppq (.bool false) (dcf ((((qB : Nat) : Int)) ≥ ((4294967296) : Int)) (by omega)) <| pkq (.bool false) <| pkq (uN qB) <| pkq (uN y0) <| ppq (uN (qB * y0)) (exec_cast (congrArg (Value.int .u64) (wrapU (qB * y0) (mul_small hq hy0))) (by kernel_rfl)) <| pkq (uN rB) <| ppq (uN (4294967296 * rB)) (exec_cast (congrArg (Value.int .u64) (wrapU (4294967296 * rB) (by omega))) (by kernel_rfl)) <| pkq (uN u0) <| ppq (uN (4294967296 * rB + u0)) (exec_cast (congrArg (Value.int .u64) (wrapU (4294967296 * rB + u0) (by omega))) (by kernel_rfl)) <| ppq (.bool false) (dcf ((((qB * y0 : Nat) : Int)) > (((4294967296 * rB + u0 : Nat) : Int))) (by omega)) <| pkq (.bool false) ?_
          refine en_ <| sy_exit 2 (by kernel_rfl) <| then_e <| then_e <| blk_e <| tqr_ [0, 1, 2, 3, 4, 5, 6, 7, 8, 9, 10, 11, 12, 13, 14, 15] <| pkq (uN qA) <| ppq (uN (qA * 4294967296)) (exec_cast (congrArg (Value.int .u64) (wrapU (qA * 4294967296) (by have := dig_lt hYs hy0 hy1p hu1 hUY; rw [← hxA] at this; omega))) (by kernel_rfl)) <| pkq (uN qB) <| ppq (uN ((hi * 18446744073709551616 + lo) / y)) (exec_cast (congrArg (Value.int .u64) ((wrapU (qA * 4294967296 + qB) (by have g1 := dig_lt hYs hy0 hy1p hu1 hUY; have g2 := dig_lt hYs hy0 hy1p hu0 hVY; rw [← hxA] at g1; rw [← hxB] at g2; omega)).trans (congrArg (fun n : Nat => (n : Int)) (div_end hy1 hYe hsum hLs hxA hVr hxB)))) (by kernel_rfl)) <| pkq (uN Vr) <| pkq (.int .u64 (IntKind.u64.wrap (((Vr : Nat) : Int) * 4294967296))) <| pkq (uN u0) <| pkq (.int .u64 (IntKind.u64.wrap (IntKind.u64.wrap (((Vr : Nat) : Int) * 4294967296) + ((u0 : Nat) : Int)))) ?_
          refine pkq (uN qB) <| pkq (uN Y) <| pkq (.int .u64 (IntKind.u64.wrap (((qB : Nat) : Int) * ((Y : Nat) : Int)))) <| ppq (uN ((Vr * 4294967296 + u0) % Y)) (exec_cast (congrArg (Value.int .u64) ((dig_rest hYs hy0 hy1p hu0 hVY hxB).resolve_right (by omega))) (by kernel_rfl)) <| pkq (uN s) <| ppq (uN (((Vr * 4294967296 + u0) % Y) >>> s)) (exec_binop .shr 22 96 (.tmp 132) (.tmp 133) (by kernel_rfl) (uN (((Vr * 4294967296 + u0) % Y))) (uN s) _ (by kernel_rfl) (by kernel_rfl) (by kernel_rfl) (run_shrU _ _ ((Vr * 4294967296 + u0) % Y) s (by omega))) <| pkq (uN ((hi * 18446744073709551616 + lo) / y)) <| pkq (uN (((Vr * 4294967296 + u0) % Y) >>> s)) <| ps_end <| sy_a ⟨#[uN hi, uN lo, uN Y, ud, ud, ud, uN ((hi * 18446744073709551616 + lo) / y), uN (((Vr * 4294967296 + u0) % Y) >>> s), uN s, uN y1, uN y0, uN U, uN L, uN u1, uN u0, uN qA, uN rB, uN Vr, uN qB, uN y, .bool false, ud, uN y, uN hi, .bool false, ud, uN hi, .bool false, ud, ud, ud, ud, ud, ud, uN y, iN s, uN s, uN y, uN s, uN Y, uN Y, uN y1, uN Y, uN y0, uN hi, uN s, uN ((hi <<< s) % Kec.W), uN lo, uN s, uN (64 - s), uN (lo >>> (64 - s)), uN U, uN lo, uN s, uN L, uN L, uN u1, uN L, uN u0, uN U, uN y1, uN (U / y1), uN U, uN (U / y1), uN y1, uN (U / y1 * y1), uN (U - U / y1 * y1), uN qA, .bool false, .bool false, uN qA, uN y0, uN (qA * y0), uN rA, uN (4294967296 * rA), uN u1, uN (4294967296 * rA + u1), .bool false, .bool false, u79, u80, u81, u82, u83, u84, u85, uN U, .int .u64 (IntKind.u64.wrap (((U : Nat) : Int) * 4294967296)), uN u1, .int .u64 (IntKind.u64.wrap (IntKind.u64.wrap (((U : Nat) : Int) * 4294967296) + ((u1 : Nat) : Int))), uN qA, uN Y, .int .u64 (IntKind.u64.wrap (((qA : Nat) : Int) * ((Y : Nat) : Int))), uN Vr, uN Vr, uN y1, uN (Vr / y1), uN Vr, uN (Vr / y1), uN y1, uN (Vr / y1 * y1), uN (Vr - Vr / y1 * y1), uN qB, .bool false, .bool false, uN qB, uN y0, uN (qB * y0), uN rB, uN (4294967296 * rB), uN u0, uN (4294967296 * rB + u0), .bool false, .bool false, u114, u115, u116, u117, u118, u119, u120, uN qA, uN (qA * 4294967296), uN qB, uN ((hi * 18446744073709551616 + lo) / y), uN Vr, .int .u64 (IntKind.u64.wrap (((Vr : Nat) : Int) * 4294967296)), uN u0, .int .u64 (IntKind.u64.wrap (IntKind.u64.wrap (((Vr : Nat) : Int) * 4294967296) + ((u0 : Nat) : Int))), uN qB, uN Y, .int .u64 (IntKind.u64.wrap (((qB : Nat) : Int) * ((Y : Nat) : Int))), uN ((Vr * 4294967296 + u0) % Y), uN s, uN (((Vr * 4294967296 + u0) % Y) >>> s)], []⟩ <| then_n <| u_ <| so_ (.tuple #[.int .u64 (((hi * 18446744073709551616 + lo) / y : Nat) : Int), .int .u64 ((((Vr * 4294967296 + u0) % Y) >>> s : Nat) : Int)]) ?_
          exact ⟨_, rfl, K8⟩
/-- Div64: the quotient of two words by one that is above the higher one. -/
theorem bDiv64_ok (hi lo y : Nat) (hh : hi < y) (hy2 : y < 18446744073709551616) (hlo : lo < 18446744073709551616) (w : World) : Calls Tryd.prog 52 #[.int .u64 ((hi : Nat) : Int), .int .u64 ((lo : Nat) : Int), .int .u64 ((y : Nat) : Int)] w (fun e w' => ∃ r : Nat, e = .returned (.tuple #[.int .u64 (((hi * 18446744073709551616 + lo) / y : Nat) : Int), .int .u64 ((r : Nat) : Int)]) ∧ Keeps Nob w w') := by
  by_cases hz : hi = 0
  · exact bDiv64_zero hi lo y hz (by omega) hlo w
  · exact bDiv64_pos hi lo y (by omega) hh hy2 hlo w
end Go.Proofs.YtghohakbepeffaaDoor
namespace Go.Proofs.YtghohakbepeffaaDoor
set_option maxRecDepth 100000
set_option maxHeartbeats 4000000
open Go Go.RowKit Go.Own Go.Shelf
theorem run_sub0 (x y : Nat) (w : World) : (callFunc 53 #[.int .u64 ((x : Nat) : Int), .int .u64 ((y : Nat) : Int), .int .u64 ((0 : Nat) : Int)]).run Tryd.prog w = .ok (.value (.tuple #[.int .u64 (((x + 18446744073709551616 - y - 0) % 18446744073709551616 : Nat) : Int), .int .u64 ((if x < y + 0 then 1 else 0 : Nat) : Int)])) w := by kernel_rfl
theorem run_sub1 (x y : Nat) (w : World) : (callFunc 53 #[.int .u64 ((x : Nat) : Int), .int .u64 ((y : Nat) : Int), .int .u64 ((1 : Nat) : Int)]).run Tryd.prog w = .ok (.value (.tuple #[.int .u64 (((x + 18446744073709551616 - y - 1) % 18446744073709551616 : Nat) : Int), .int .u64 ((if x < y + 1 then 1 else 0 : Nat) : Int)])) w := by kernel_rfl
theorem run_bSub64 (x y b : Nat) (hb : b ≤ 1) (w : World) : (callFunc 53 #[.int .u64 ((x : Nat) : Int), .int .u64 ((y : Nat) : Int), .int .u64 ((b : Nat) : Int)]).run Tryd.prog w = .ok (.value (.tuple #[.int .u64 (((x + 18446744073709551616 - y - b) % 18446744073709551616 : Nat) : Int), .int .u64 ((if x < y + b then 1 else 0 : Nat) : Int)])) w := by
  match b, hb with
  | 0, _ => exact run_sub0 x y w
  | 1, _ => exact run_sub1 x y w
theorem shr32 (x : Nat) : x >>> 32 = x / 4294967296 := Nat.shiftRight_eq_div_pow x 32
theorem and32 (x : Nat) : x &&& 4294967295 = x % 4294967296 := Nat.and_two_pow_sub_one_eq_mod x 32
theorem over_law {hi lo c : Nat} (_ : 0 < c) : (hi * 18446744073709551616 + lo) / c = hi / c * 18446744073709551616 + (hi % c * 18446744073709551616 + lo) / c := by
  have e := Nat.div_add_mod hi c
  have : hi * 18446744073709551616 + lo = (hi % c * 18446744073709551616 + lo) + c * (hi / c * 18446744073709551616) := by
    rw [← Nat.mul_assoc]
    conv => lhs; rw [← e]
    rw [Nat.add_mul]; omega
  rw [this, Nat.add_mul_div_left _ _ (by omega)]
  omega
theorem over_lt {hi lo c : Nat} (hc : 0 < c) (hl : lo < 18446744073709551616) : (hi % c * 18446744073709551616 + lo) / c < 18446744073709551616 := by
  rw [Nat.div_lt_iff_lt_mul hc]
  have := Nat.mod_lt hi hc
  have g := Nat.mul_le_mul_right 18446744073709551616 (Nat.succ_le_of_lt this)
  rw [Nat.mul_comm 18446744073709551616 c]
  rw [Nat.succ_mul] at g
  omega
noncomputable def qc54_4 (n : Nat) : Code := partOf Tryd.f51 n
theorem bMul64_ok (x y : Nat) (hx : x < 18446744073709551616) (hy : y < 18446744073709551616) (w : World) :
    Calls Tryd.prog 51 #[.int .u64 ((x : Nat) : Int), .int .u64 ((y : Nat) : Int)] w (fun e w' => e = .returned (.tuple #[.int .u64 ((x * y / 18446744073709551616 : Nat) : Int), .int .u64 ((x * y % 18446744073709551616 : Nat) : Int)]) ∧ w = w') := by
  obtain ⟨bd, bt, bw, hhi⟩ := Lib.mul64_hi x y hx hy
  have ba : (x / 4294967296) * (y / 4294967296) < 18446744073709551616 := by have := Lib.half_mul_le (a := x / 4294967296) (b := y / 4294967296) (by omega) (by omega); omega
  have bb : (x / 4294967296) * (y % 4294967296) < 18446744073709551616 := by have := Lib.half_mul_le (a := x / 4294967296) (b := y % 4294967296) (by omega) (by omega); omega
  have bc : (x % 4294967296) * (y / 4294967296) < 18446744073709551616 := by have := Lib.half_mul_le (a := x % 4294967296) (b := y / 4294967296) (by omega) (by omega); omega
  have bz : x * y / 18446744073709551616 < 18446744073709551616 := by rw [Nat.div_lt_iff_lt_mul (by decide)]; exact Nat.mul_lt_mul'' hx hy
  have K0 : Keeps Nob w w := Keeps.refl _ _
  refine sy_enter (qc54_4 1) ⟨#[uN x, uN y, ud, ud, ud, ud, ud, ud, ud, ud, ud, ud, ud, ud, ud, ud, ud, ud, ud, ud, ud, ud, ud, ud, ud, ud, ud, ud, ud, ud, ud, ud, ud, ud, ud, ud, ud, ud, ud, ud, ud, ud, ud, ud, ud, ud, ud, ud, ud, ud, ud], []⟩ Tryd.func51 (by kernel_rfl) (by kernel_rfl) <| qr_ [0, 1] <| pkq (.int .u64 0) <| pkq (.int .u64 0) <| eqr_ [0, 1, 2] <| pkq (uN x) <| ppq (uN (x % 4294967296)) (exec_cast ((andU x 4294967295 (show x < Kec.W from hx) (by decide)).trans (congrArg (fun n : Nat => Value.int .u64 (n : Int)) (and32 x))) (by kernel_rfl)) <| pkq (uN (x % 4294967296)) <| eqr_ [0, 1, 2] <| pkq (uN x) <| ppq (uN (x / 4294967296)) (exec_cast (congrArg (fun n : Nat => Value.int .u64 (n : Int)) (shr32 x)) (exec_binop .shr 22 96 (.tmp 16) (.const (.int .u64 32)) (by kernel_rfl) (uN x) (uN 32) _ (by kernel_rfl) (by kernel_rfl) (by kernel_rfl) (run_shrU _ _ x 32 (by omega)))) <| pkq (uN (x / 4294967296)) <| eqr_ [0, 1, 2] <| pkq (uN y) ?_
  refine ppq (uN (y % 4294967296)) (exec_cast ((andU y 4294967295 (show y < Kec.W from hy) (by decide)).trans (congrArg (fun n : Nat => Value.int .u64 (n : Int)) (and32 y))) (by kernel_rfl)) <| pkq (uN (y % 4294967296)) <| eqr_ [0, 1, 2] <| pkq (uN y) <| ppq (uN (y / 4294967296)) (exec_cast (congrArg (fun n : Nat => Value.int .u64 (n : Int)) (shr32 y)) (exec_binop .shr 22 96 (.tmp 20) (.const (.int .u64 32)) (by kernel_rfl) (uN y) (uN 32) _ (by kernel_rfl) (by kernel_rfl) (by kernel_rfl) (run_shrU _ _ y 32 (by omega)))) <| pkq (uN (y / 4294967296)) <| eqr_ [0, 1, 2, 3] <| pkq (uN (x % 4294967296)) <| pkq (uN (y % 4294967296)) <| ppq (uN ((x % 4294967296) * (y % 4294967296))) (exec_cast (congrArg (Value.int .u64) (wrapU ((x % 4294967296) * (y % 4294967296)) (bd))) (by kernel_rfl)) <| pkq (uN ((x % 4294967296) * (y % 4294967296))) <| eqr_ [0, 1, 2, 3, 4, 5, 6] <| pkq (uN (x / 4294967296)) <| pkq (uN (y % 4294967296)) ?_
  refine ppq (uN ((x / 4294967296) * (y % 4294967296))) (exec_cast (congrArg (Value.int .u64) (wrapU ((x / 4294967296) * (y % 4294967296)) (bb))) (by kernel_rfl)) <| pkq (uN ((x % 4294967296) * (y % 4294967296))) <| ppq (uN (((x % 4294967296) * (y % 4294967296)) / 4294967296)) (exec_cast (congrArg (fun n : Nat => Value.int .u64 (n : Int)) (shr32 ((x % 4294967296) * (y % 4294967296)))) (exec_binop .shr 22 96 (.tmp 28) (.const (.int .u64 32)) (by kernel_rfl) (uN ((x % 4294967296) * (y % 4294967296))) (uN 32) _ (by kernel_rfl) (by kernel_rfl) (by kernel_rfl) (run_shrU _ _ ((x % 4294967296) * (y % 4294967296)) 32 (by omega)))) <| ppq (uN ((x / 4294967296) * (y % 4294967296) + ((x % 4294967296) * (y % 4294967296)) / 4294967296)) (exec_cast (congrArg (Value.int .u64) (wrapU ((x / 4294967296) * (y % 4294967296) + ((x % 4294967296) * (y % 4294967296)) / 4294967296) (bt))) (by kernel_rfl)) <| pkq (uN ((x / 4294967296) * (y % 4294967296) + ((x % 4294967296) * (y % 4294967296)) / 4294967296)) <| ps_end <| sy_a ⟨#[uN x, uN y, ud, ud, .int .u64 0, .int .u64 0, uN (x % 4294967296), uN (x / 4294967296), uN (y % 4294967296), uN (y / 4294967296), uN ((x % 4294967296) * (y % 4294967296)), uN ((x / 4294967296) * (y % 4294967296) + ((x % 4294967296) * (y % 4294967296)) / 4294967296), ud, ud, uN x, uN (x % 4294967296), uN x, uN (x / 4294967296), uN y, uN (y % 4294967296), uN y, uN (y / 4294967296), uN (x % 4294967296), uN (y % 4294967296), uN ((x % 4294967296) * (y % 4294967296)), uN (x / 4294967296), uN (y % 4294967296), uN ((x / 4294967296) * (y % 4294967296)), uN ((x % 4294967296) * (y % 4294967296)), uN (((x % 4294967296) * (y % 4294967296)) / 4294967296), uN ((x / 4294967296) * (y % 4294967296) + ((x % 4294967296) * (y % 4294967296)) / 4294967296), ud, ud, ud, ud, ud, ud, ud, ud, ud, ud, ud, ud, ud, ud, ud, ud, ud, ud, ud, ud], []⟩ <| tqr_ [0, 1, 2] <| pkq (uN ((x / 4294967296) * (y % 4294967296) + ((x % 4294967296) * (y % 4294967296)) / 4294967296)) <| ppq (uN (((x / 4294967296) * (y % 4294967296) + ((x % 4294967296) * (y % 4294967296)) / 4294967296) % 4294967296)) (exec_cast ((andU ((x / 4294967296) * (y % 4294967296) + ((x % 4294967296) * (y % 4294967296)) / 4294967296) 4294967295 (show _ < Kec.W from bt) (by decide)).trans (congrArg (fun n : Nat => Value.int .u64 (n : Int)) (and32 ((x / 4294967296) * (y % 4294967296) + ((x % 4294967296) * (y % 4294967296)) / 4294967296)))) (by kernel_rfl)) <| pkq (uN (((x / 4294967296) * (y % 4294967296) + ((x % 4294967296) * (y % 4294967296)) / 4294967296) % 4294967296)) <| eqr_ [0, 1, 2] <| pkq (uN ((x / 4294967296) * (y % 4294967296) + ((x % 4294967296) * (y % 4294967296)) / 4294967296)) <| ppq (uN (((x / 4294967296) * (y % 4294967296) + ((x % 4294967296) * (y % 4294967296)) / 4294967296) / 4294967296)) (exec_cast (congrArg (fun n : Nat => Value.int .u64 (n : Int)) (shr32 ((x / 4294967296) * (y % 4294967296) + ((x % 4294967296) * (y % 4294967296)) / 4294967296))) (exec_binop .shr 22 96 (.tmp 33) (.const (.int .u64 32)) (by kernel_rfl) (uN ((x / 4294967296) * (y % 4294967296) + ((x % 4294967296) * (y % 4294967296)) / 4294967296)) (uN 32) _ (by kernel_rfl) (by kernel_rfl) (by kernel_rfl) (run_shrU _ _ ((x / 4294967296) * (y % 4294967296) + ((x % 4294967296) * (y % 4294967296)) / 4294967296) 32 (by omega)))) ?_
  refine pkq (uN (((x / 4294967296) * (y % 4294967296) + ((x % 4294967296) * (y % 4294967296)) / 4294967296) / 4294967296)) <| eqr_ [0, 1, 2, 3, 4, 5] <| pkq (uN (((x / 4294967296) * (y % 4294967296) + ((x % 4294967296) * (y % 4294967296)) / 4294967296) % 4294967296)) <| pkq (uN (x % 4294967296)) <| pkq (uN (y / 4294967296)) <| ppq (uN ((x % 4294967296) * (y / 4294967296))) (exec_cast (congrArg (Value.int .u64) (wrapU ((x % 4294967296) * (y / 4294967296)) (bc))) (by kernel_rfl)) <| ppq (uN (((x / 4294967296) * (y % 4294967296) + ((x % 4294967296) * (y % 4294967296)) / 4294967296) % 4294967296 + (x % 4294967296) * (y / 4294967296))) (exec_cast (congrArg (Value.int .u64) (wrapU (((x / 4294967296) * (y % 4294967296) + ((x % 4294967296) * (y % 4294967296)) / 4294967296) % 4294967296 + (x % 4294967296) * (y / 4294967296)) (bw))) (by kernel_rfl)) <| pkq (uN (((x / 4294967296) * (y % 4294967296) + ((x % 4294967296) * (y % 4294967296)) / 4294967296) % 4294967296 + (x % 4294967296) * (y / 4294967296))) <| eqr_ [0, 1, 2, 3, 4, 5, 6, 7, 8] <| pkq (uN (x / 4294967296)) <| pkq (uN (y / 4294967296)) <| ppq (uN ((x / 4294967296) * (y / 4294967296))) (exec_cast (congrArg (Value.int .u64) (wrapU ((x / 4294967296) * (y / 4294967296)) (ba))) (by kernel_rfl)) <| pkq (uN (((x / 4294967296) * (y % 4294967296) + ((x % 4294967296) * (y % 4294967296)) / 4294967296) / 4294967296)) <| ppq (uN ((x / 4294967296) * (y / 4294967296) + ((x / 4294967296) * (y % 4294967296) + ((x % 4294967296) * (y % 4294967296)) / 4294967296) / 4294967296)) (exec_cast (congrArg (Value.int .u64) (wrapU ((x / 4294967296) * (y / 4294967296) + ((x / 4294967296) * (y % 4294967296) + ((x % 4294967296) * (y % 4294967296)) / 4294967296) / 4294967296) (by omega))) (by kernel_rfl)) ?_
  refine pkq (uN (((x / 4294967296) * (y % 4294967296) + ((x % 4294967296) * (y % 4294967296)) / 4294967296) % 4294967296 + (x % 4294967296) * (y / 4294967296))) <| ppq (uN ((((x / 4294967296) * (y % 4294967296) + ((x % 4294967296) * (y % 4294967296)) / 4294967296) % 4294967296 + (x % 4294967296) * (y / 4294967296)) / 4294967296)) (exec_cast (congrArg (fun n : Nat => Value.int .u64 (n : Int)) (shr32 (((x / 4294967296) * (y % 4294967296) + ((x % 4294967296) * (y % 4294967296)) / 4294967296) % 4294967296 + (x % 4294967296) * (y / 4294967296)))) (exec_binop .shr 22 96 (.tmp 45) (.const (.int .u64 32)) (by kernel_rfl) (uN (((x / 4294967296) * (y % 4294967296) + ((x % 4294967296) * (y % 4294967296)) / 4294967296) % 4294967296 + (x % 4294967296) * (y / 4294967296))) (uN 32) _ (by kernel_rfl) (by kernel_rfl) (by kernel_rfl) (run_shrU _ _ (((x / 4294967296) * (y % 4294967296) + ((x % 4294967296) * (y % 4294967296)) / 4294967296) % 4294967296 + (x % 4294967296) * (y / 4294967296)) 32 (by omega)))) <| ppq (uN (x * y / 18446744073709551616)) (exec_cast (congrArg (Value.int .u64) ((wrapU ((x / 4294967296) * (y / 4294967296) + ((x / 4294967296) * (y % 4294967296) + ((x % 4294967296) * (y % 4294967296)) / 4294967296) / 4294967296 + (((x / 4294967296) * (y % 4294967296) + ((x % 4294967296) * (y % 4294967296)) / 4294967296) % 4294967296 + (x % 4294967296) * (y / 4294967296)) / 4294967296) (by omega)).trans (congrArg (fun n : Nat => (n : Int)) hhi))) (by kernel_rfl)) <| pkq (uN (x * y / 18446744073709551616)) <| eqr_ [0, 1, 2, 3] <| pkq (uN x) <| pkq (uN y) <| ppq (uN (x * y % 18446744073709551616)) (exec_cast (congrArg (Value.int .u64) (wrapM (x * y))) (by kernel_rfl)) <| pkq (uN (x * y % 18446744073709551616)) <| ps_end <| sy_a ⟨#[uN x, uN y, ud, ud, uN (x * y / 18446744073709551616), uN (x * y % 18446744073709551616), uN (x % 4294967296), uN (x / 4294967296), uN (y % 4294967296), uN (y / 4294967296), uN ((x % 4294967296) * (y % 4294967296)), uN ((x / 4294967296) * (y % 4294967296) + ((x % 4294967296) * (y % 4294967296)) / 4294967296), uN (((x / 4294967296) * (y % 4294967296) + ((x % 4294967296) * (y % 4294967296)) / 4294967296) % 4294967296 + (x % 4294967296) * (y / 4294967296)), uN (((x / 4294967296) * (y % 4294967296) + ((x % 4294967296) * (y % 4294967296)) / 4294967296) / 4294967296), uN x, uN (x % 4294967296), uN x, uN (x / 4294967296), uN y, uN (y % 4294967296), uN y, uN (y / 4294967296), uN (x % 4294967296), uN (y % 4294967296), uN ((x % 4294967296) * (y % 4294967296)), uN (x / 4294967296), uN (y % 4294967296), uN ((x / 4294967296) * (y % 4294967296)), uN ((x % 4294967296) * (y % 4294967296)), uN (((x % 4294967296) * (y % 4294967296)) / 4294967296), uN ((x / 4294967296) * (y % 4294967296) + ((x % 4294967296) * (y % 4294967296)) / 4294967296), uN ((x / 4294967296) * (y % 4294967296) + ((x % 4294967296) * (y % 4294967296)) / 4294967296), uN (((x / 4294967296) * (y % 4294967296) + ((x % 4294967296) * (y % 4294967296)) / 4294967296) % 4294967296), uN ((x / 4294967296) * (y % 4294967296) + ((x % 4294967296) * (y % 4294967296)) / 4294967296), uN (((x / 4294967296) * (y % 4294967296) + ((x % 4294967296) * (y % 4294967296)) / 4294967296) / 4294967296), uN (((x / 4294967296) * (y % 4294967296) + ((x % 4294967296) * (y % 4294967296)) / 4294967296) % 4294967296), uN (x % 4294967296), uN (y / 4294967296), uN ((x % 4294967296) * (y / 4294967296)), uN (((x / 4294967296) * (y % 4294967296) + ((x % 4294967296) * (y % 4294967296)) / 4294967296) % 4294967296 + (x % 4294967296) * (y / 4294967296)), uN (x / 4294967296), uN (y / 4294967296), uN ((x / 4294967296) * (y / 4294967296)), uN (((x / 4294967296) * (y % 4294967296) + ((x % 4294967296) * (y % 4294967296)) / 4294967296) / 4294967296), uN ((x / 4294967296) * (y / 4294967296) + ((x / 4294967296) * (y % 4294967296) + ((x % 4294967296) * (y % 4294967296)) / 4294967296) / 4294967296), uN (((x / 4294967296) * (y % 4294967296) + ((x % 4294967296) * (y % 4294967296)) / 4294967296) % 4294967296 + (x % 4294967296) * (y / 4294967296)), uN ((((x / 4294967296) * (y % 4294967296) + ((x % 4294967296) * (y % 4294967296)) / 4294967296) % 4294967296 + (x % 4294967296) * (y / 4294967296)) / 4294967296), uN (x * y / 18446744073709551616), uN x, uN y, uN (x * y % 18446744073709551616)], []⟩ <| then_n <| u_ <| so_ (.tuple #[.int .u64 ((x * y / 18446744073709551616 : Nat) : Int), .int .u64 ((x * y % 18446744073709551616 : Nat) : Int)]) ?_
  exact ⟨rfl, rfl⟩
noncomputable def qc54_1 (n : Nat) : Code := partOf Tryd.f37 n
theorem fxTimes_ok (x y : Nat) (hx : x < 18446744073709551616) (hy : y < 18446744073709551616) (w : World) :
    Calls Tryd.prog 37 #[.int .u64 ((x : Nat) : Int), .int .u64 ((y : Nat) : Int)] w (fun e w' => e = .returned (.agg #[.int .u64 ((x * y / 18446744073709551616 : Nat) : Int), .int .u64 ((x * y % 18446744073709551616 : Nat) : Int)]) ∧ Keeps Nob w w') := by
  have K0 : Keeps Nob w w := Keeps.refl _ _
  refine sy_enter (qc54_1 1) ⟨#[uN x, uN y, ud, ud, ud, ud, ud, ud, ud, ud, ud, ud, ud, ud, ud, ud], []⟩ Tryd.func37 (by kernel_rfl) (by kernel_rfl) <| qr_ [0] <| pal 67 (#[.int .u64 0, .int .u64 0]) (.agg (#[.int .u64 0, .int .u64 0])) fun V1 gw egw h2 kV1 => ?_
  have n3 : w.heap.size ≤ gw := egw ▸ K0.size
  have K4 := K0.nn kV1
  have z5 := kV1.size
  refine eqr_ [0, 1, 2, 3, 4, 5, 6, 7] <| pkq (uN x) <| pkq (uN y) ?_
  refine pcq 51 #[uN x, uN y] Tryd.func51 ((bMul64_ok x y hx hy _).mono ?_)
  rintro e w1 ⟨rfl, rfl⟩
  refine ⟨_, rfl, ?_⟩
  refine pkq (.tuple #[uN (x * y / 18446744073709551616), uN (x * y % 18446744073709551616)]) <| pkq (uN (x * y / 18446744073709551616)) <| pkq (uN (x * y % 18446744073709551616)) <| pkq (uN (x * y / 18446744073709551616)) <| pkq (uN (x * y % 18446744073709551616)) <| eqr_ [0, 1, 2, 3] <| pkq (uN (x * y / 18446744073709551616)) <| pkq (uN (x * y % 18446744073709551616)) <| pkq (.agg #[uN (x * y / 18446744073709551616), uN (x * y % 18446744073709551616)]) ?_
  obtain ⟨V6, eV6, kV6⟩ := rowset_step V1 gw (#[.int .u64 ((x * y / 18446744073709551616 : Nat) : Int), .int .u64 ((x * y % 18446744073709551616 : Nat) : Int)])
  have h7 : V6.heap[gw]? = some (.cells (#[.int .u64 ((x * y / 18446744073709551616 : Nat) : Int), .int .u64 ((x * y % 18446744073709551616 : Nat) : Int)]) 67 (0, 0)) := eV6 ▸ setRow_heap _ _ _ _ _ _ h2
  refine pzq (w' := V6) (by rw [← eV6]; exact exec_store_row 67 (.tmp 4) (.tmp 15) (by kernel_rfl) gw (#[uN (x * y / 18446744073709551616), uN (x * y % 18446744073709551616)]) (by kernel_rfl) (by kernel_rfl) 67 (#[.int .u64 0, .int .u64 0]) h2 (by kernel_rfl) rfl (by kernel_rfl)) ?_
  clear eV6
  have K8 := K4.nO kV6
  have z9 := kV6.size
  refine eu_ <| sy_out (.agg (#[.int .u64 ((x * y / 18446744073709551616 : Nat) : Int), .int .u64 ((x * y % 18446744073709551616 : Nat) : Int)])) rfl (results_cell_row (p := 4) (ty := 67) (by kernel_rfl) _ _ gw 67 (#[.int .u64 ((x * y / 18446744073709551616 : Nat) : Int), .int .u64 ((x * y % 18446744073709551616 : Nat) : Int)]) (0, 0) _ (by kernel_rfl) h7 Tryd.underlying67 rfl (by kernel_rfl)) ?_
  exact ⟨rfl, K8⟩
noncomputable def qc54_3 (n : Nat) : Code := partOf Tryd.f38 n
theorem fxOver_ok (hi lo c : Nat) (hhi : hi < 18446744073709551616) (hlo : lo < 18446744073709551616) (hc : 0 < c) (hc2 : c < 18446744073709551616) (w : World) :
    Calls Tryd.prog 38 #[.agg #[.int .u64 ((hi : Nat) : Int), .int .u64 ((lo : Nat) : Int)], .int .u64 ((c : Nat) : Int)] w (fun e w' => ∃ r : Nat, e = .returned (.tuple #[.agg #[.int .u64 ((hi / c : Nat) : Int), .int .u64 (((hi % c * 18446744073709551616 + lo) / c : Nat) : Int)], .int .u64 ((r : Nat) : Int)]) ∧ Keeps Nob w w') := by
  have K0 : Keeps Nob w w := Keeps.refl _ _
  refine sy_enter (qc54_3 1) ⟨#[.agg #[uN hi, uN lo], uN c, ud, ud, ud, ud, ud, ud, ud, ud, ud, ud, ud, ud, ud, ud, ud, ud, ud, ud, ud, ud, ud, ud, ud, ud], []⟩ Tryd.func38 (by kernel_rfl) (by kernel_rfl) <| qr_ [0, 1, 2] <| pbx 67 (#[.int .u64 ((hi : Nat) : Int), .int .u64 ((lo : Nat) : Int)]) (.agg #[uN hi, uN lo]) fun V1 gx egx h2 kV1 => ?_
  have n3 : w.heap.size ≤ gx := egx ▸ K0.size
  have K4 := K0.nn kV1
  have z5 := kV1.size
  refine pal 67 (#[.int .u64 0, .int .u64 0]) (.agg (#[.int .u64 0, .int .u64 0])) fun V6 gw egw h7 kV6 => ?_
  have n8 : gx < gw := egw ▸ lt_of_block h2
  have n9 : w.heap.size ≤ gw := egw ▸ K4.size
  have h10 := kV6.bk h2
  have K11 := K4.nn kV6
  have z12 := kV6.size
  refine pkq (.int .u64 0) <| eq_ <| sy_np <| sy_reg <| an_begin 1 13 (opsAt (qc54_3 6)) (fun W => (W.heap[gx]? = some (.cells (#[.int .u64 ((hi : Nat) : Int), .int .u64 ((lo : Nat) : Int)]) 67 (0, 0))) ∧ (W.heap[gw]? = some (.cells (#[.int .u64 0, .int .u64 0]) 67 (0, 0)))) #[false, false, false, false, false, false, false, false, false, false, false, false, false] (by kernel_rfl) (by kernel_rfl) (by kernel_rfl) (by kernel_rfl) ?_
  obtain ⟨V13, eV13, kV13⟩ := drew_step V6
  rw [eV13]
  clear eV13
  have h14 := kV13.bk h10
  have h15 := kV13.bk h7
  have K16 := K11.nn kV13
  have z17 := kV13.size
  refine akq 0 (pT gx 0) ⟨h14, h15⟩ <| avq 1 (uN hi) (fun W hS => ldc 22 gx 0 (rc (hS.1) (by kernel_rfl))) ⟨h14, h15⟩ <| akq 2 (uN c) ⟨h14, h15⟩ <| avq 3 (uN (hi % c)) (fun W hS => exec_remU 22 22 (.tmp 10) (.tmp 11) (by kernel_rfl) hi c (by kernel_rfl) (by kernel_rfl) hc hhi) ⟨h14, h15⟩ <| akq 4 (pT gx 1) ⟨h14, h15⟩ <| avq 5 (uN lo) (fun W hS => ldc 22 gx 1 (rc (hS.1) (by kernel_rfl))) ⟨h14, h15⟩ <| akq 6 (uN c) ⟨h14, h15⟩ <| an_o 7 ?_
  refine ncq 52 #[uN (hi % c), uN lo, uN c] Tryd.func52 ((bDiv64_ok (hi % c) lo c (Nat.mod_lt _ hc) hc2 hlo _).mono ?_)
  rintro e V18 ⟨r, rfl, kV18⟩
  refine ⟨_, rfl, ?_⟩
  have h19 := kV18.bk h14
  have h20 := kV18.bk h15
  have K21 := K16.nn kV18
  have z22 := kV18.size
  refine ⟨⟨h19, h20⟩, ?_⟩
  refine akq 8 (.tuple #[uN ((hi % c * 18446744073709551616 + lo) / c), uN r]) ⟨h19, h20⟩ <| akq 9 (uN ((hi % c * 18446744073709551616 + lo) / c)) ⟨h19, h20⟩ <| akq 10 (uN r) ⟨h19, h20⟩ <| an_o 11 <| nrq (uN ((hi % c * 18446744073709551616 + lo) / c)) (w' := V18) (by kernel_rfl) ?_
  refine ⟨⟨h19, h20⟩, ?_⟩
  refine an_o 12 <| nrq (uN r) (w' := V18) (by kernel_rfl) ?_
  refine ⟨⟨h19, h20⟩, ?_⟩
  refine an_end (by kernel_rfl) <| tqr_ [0, 1, 2, 3, 4, 5, 6, 7, 8] <| pkq (pT gx 0) <| ppq (uN hi) (ldk 22 gx 0 h19) <| pkq (uN c) <| ppq (uN (hi / c)) (exec_quoU 22 22 (.tmp 20) (.tmp 21) (by kernel_rfl) hi c (by kernel_rfl) (by kernel_rfl) hc hhi) <| pkq (uN ((hi % c * 18446744073709551616 + lo) / c)) <| pkq (.agg #[uN (hi / c), uN ((hi % c * 18446744073709551616 + lo) / c)]) <| pkq (uN r) ?_
  obtain ⟨V23, eV23, kV23⟩ := rowset_step V18 gw (#[.int .u64 ((hi / c : Nat) : Int), .int .u64 (((hi % c * 18446744073709551616 + lo) / c : Nat) : Int)])
  have h24 : V23.heap[gw]? = some (.cells (#[.int .u64 ((hi / c : Nat) : Int), .int .u64 (((hi % c * 18446744073709551616 + lo) / c : Nat) : Int)]) 67 (0, 0)) := eV23 ▸ setRow_heap _ _ _ _ _ _ h20
  refine pzq (w' := V23) (by rw [← eV23]; exact exec_store_row 67 (.tmp 4) (.tmp 24) (by kernel_rfl) gw (#[uN (hi / c), uN ((hi % c * 18446744073709551616 + lo) / c)]) (by kernel_rfl) (by kernel_rfl) 67 (#[.int .u64 0, .int .u64 0]) h20 (by kernel_rfl) rfl (by kernel_rfl)) ?_
  clear eV23
  have K26 := K21.nO kV23
  have z27 := kV23.size
  refine pkq (uN r) <| ps_end <| sy_a ⟨#[.agg #[uN hi, uN lo], uN c, pT gx 0, ud, pT gw 0, uN r, uN ((hi % c * 18446744073709551616 + lo) / c), uN r, .tuple #[uN ((hi % c * 18446744073709551616 + lo) / c), uN r], pT gx 0, uN hi, uN c, uN (hi % c), pT gx 1, uN lo, uN c, .tuple #[uN ((hi % c * 18446744073709551616 + lo) / c), uN r], uN ((hi % c * 18446744073709551616 + lo) / c), uN r, pT gx 0, uN hi, uN c, uN (hi / c), uN ((hi % c * 18446744073709551616 + lo) / c), .agg #[uN (hi / c), uN ((hi % c * 18446744073709551616 + lo) / c)], uN r], []⟩ <| then_n <| u_ <| sy_out (.tuple #[.agg (#[.int .u64 ((hi / c : Nat) : Int), .int .u64 (((hi % c * 18446744073709551616 + lo) / c : Nat) : Int)]), .int .u64 ((r : Nat) : Int)]) rfl (results_row_tmp (p := 4) (q := 5) (ty := 67) (by kernel_rfl) _ _ gw 67 (#[.int .u64 ((hi / c : Nat) : Int), .int .u64 (((hi % c * 18446744073709551616 + lo) / c : Nat) : Int)]) (0, 0) _ (.int .u64 ((r : Nat) : Int)) (by kernel_rfl) h24 Tryd.underlying67 rfl (by kernel_rfl) (by kernel_rfl)) ?_
  exact ⟨_, rfl, K26⟩
noncomputable def qc54_2 (n : Nat) : Code := partOf Tryd.f39 n
theorem fxBelow_ok (m hi lo : Nat) (hm : m < 18446744073709551616) (hhi : hi < 18446744073709551616) (hlo : lo < 18446744073709551616) (w : World) :
    Calls Tryd.prog 39 #[.agg #[.int .u64 0, .int .u64 ((m : Nat) : Int)], .agg #[.int .u64 ((hi : Nat) : Int), .int .u64 ((lo : Nat) : Int)]] w (fun e w' => e = .returned (.bool (decide (0 < hi ∨ m < lo))) ∧ Keeps Nob w w') := by
  obtain ⟨bo, hbo⟩ : ∃ z, (if m < lo + 0 then 1 else 0 : Nat) = z := ⟨_, rfl⟩
  have hb1 : bo ≤ 1 := by rw [← hbo]; split <;> omega
  obtain ⟨bp, hbp⟩ : ∃ z, (if 0 < hi + bo then 1 else 0 : Nat) = z := ⟨_, rfl⟩
  have hres : ((((bp : Nat) : Int)) == (1 : Int)) = decide (0 < hi ∨ m < lo) := by rw [← hbp, ← hbo]; by_cases q1 : m < lo <;> by_cases q2 : 0 < hi <;> simp [q1, q2]
  have K0 : Keeps Nob w w := Keeps.refl _ _
  refine sy_enter (qc54_2 1) ⟨#[.agg #[.int .u64 0, uN m], .agg #[uN hi, uN lo], ud, ud, ud, ud, ud, ud, ud, ud, ud, ud, ud, ud, ud, ud, ud, ud, ud, ud, ud, ud, ud, ud, ud, ud], []⟩ Tryd.func39 (by kernel_rfl) (by kernel_rfl) <| qr_ [0, 1, 2] <| pbx 67 (#[.int .u64 0, .int .u64 ((m : Nat) : Int)]) (.agg #[.int .u64 0, uN m]) fun V1 gx egx h2 kV1 => ?_
  have n3 : w.heap.size ≤ gx := egx ▸ K0.size
  have K4 := K0.nn kV1
  have z5 := kV1.size
  refine pbx 67 (#[.int .u64 ((hi : Nat) : Int), .int .u64 ((lo : Nat) : Int)]) (.agg #[uN hi, uN lo]) fun V6 gw egw h7 kV6 => ?_
  have n8 : gx < gw := egw ▸ lt_of_block h2
  have n9 : w.heap.size ≤ gw := egw ▸ K4.size
  have h10 := kV6.bk h2
  have K11 := K4.nn kV6
  have z12 := kV6.size
  refine pkq (.bool false) <| eqr_ [0, 1, 2, 3, 4, 5, 6, 7, 8, 9] <| pkq (pT gx 1) <| ppq (uN m) (ldk 22 gx 1 h10) <| pkq (pT gw 1) <| ppq (uN lo) (ldk 22 gw 1 h7) <| ppq (.tuple #[uN ((m + 18446744073709551616 - lo - 0) % 18446744073709551616), uN (if m < lo + 0 then 1 else 0)]) (exec_ext 53 #[uN m, uN lo, .int .u64 0] _ (by kernel_rfl) (by kernel_rfl) (by kernel_rfl) (run_bSub64 m lo 0 (by decide) _)) <| pkq (.tuple #[uN ((m + 18446744073709551616 - lo - 0) % 18446744073709551616), uN (if m < lo + 0 then 1 else 0)]) <| pkq (uN ((m + 18446744073709551616 - lo - 0) % 18446744073709551616)) <| ppq (uN bo) (exec_cast (congrArg (fun n : Nat => Value.int .u64 (n : Int)) hbo) (by kernel_rfl)) <| pkq (uN ((m + 18446744073709551616 - lo - 0) % 18446744073709551616)) <| pkq (uN bo) <| eqr_ [0, 1, 2, 3, 4, 5, 6, 7, 8, 9] <| pkq (pT gx 0) ?_
  refine ppq (.int .u64 0) (ldk 22 gx 0 h10) <| pkq (pT gw 0) <| ppq (uN hi) (ldk 22 gw 0 h7) <| pkq (uN bo) <| ppq (.tuple #[uN ((0 + 18446744073709551616 - hi - bo) % 18446744073709551616), uN (if 0 < hi + bo then 1 else 0)]) (exec_ext 53 #[.int .u64 0, uN hi, uN bo] _ (by kernel_rfl) (by kernel_rfl) (by kernel_rfl) (run_bSub64 0 hi bo hb1 _)) <| pkq (.tuple #[uN ((0 + 18446744073709551616 - hi - bo) % 18446744073709551616), uN (if 0 < hi + bo then 1 else 0)]) <| pkq (uN ((0 + 18446744073709551616 - hi - bo) % 18446744073709551616)) <| ppq (uN bp) (exec_cast (congrArg (fun n : Nat => Value.int .u64 (n : Int)) hbp) (by kernel_rfl)) <| pkq (uN bp) <| eqr_ [0, 1, 2] <| pkq (uN bp) <| ppq (.bool (decide (0 < hi ∨ m < lo))) (exec_cast (congrArg Value.bool hres) (by kernel_rfl)) <| pkq (.bool (decide (0 < hi ∨ m < lo))) <| ps_end ?_
  refine sy_a ⟨#[.agg #[.int .u64 0, uN m], .agg #[uN hi, uN lo], pT gx 0, pT gw 0, .bool (decide (0 < hi ∨ m < lo)), uN ((m + 18446744073709551616 - lo - 0) % 18446744073709551616), uN bp, .tuple #[uN ((m + 18446744073709551616 - lo - 0) % 18446744073709551616), uN (if m < lo + 0 then 1 else 0)], pT gx 1, uN m, pT gw 1, uN lo, .tuple #[uN ((m + 18446744073709551616 - lo - 0) % 18446744073709551616), uN (if m < lo + 0 then 1 else 0)], uN ((m + 18446744073709551616 - lo - 0) % 18446744073709551616), uN bo, .tuple #[uN ((0 + 18446744073709551616 - hi - bo) % 18446744073709551616), uN (if 0 < hi + bo then 1 else 0)], pT gx 0, .int .u64 0, pT gw 0, uN hi, uN bo, .tuple #[uN ((0 + 18446744073709551616 - hi - bo) % 18446744073709551616), uN (if 0 < hi + bo then 1 else 0)], uN ((0 + 18446744073709551616 - hi - bo) % 18446744073709551616), uN bp, uN bp, .bool (decide (0 < hi ∨ m < lo))], []⟩ <| then_n <| u_ <| so_ (.bool (decide (0 < hi ∨ m < lo))) ?_
  exact ⟨rfl, K11⟩
theorem over_is {qh ql q1 q2 : Nat} {args : Array Value} {w : World} (h1 : q1 = qh) (h2 : q2 = ql) (h : Calls Tryd.prog 38 args w (fun e w' => ∃ r : Nat, e = .returned (.tuple #[.agg #[.int .u64 ((q1 : Nat) : Int), .int .u64 ((q2 : Nat) : Int)], .int .u64 ((r : Nat) : Int)]) ∧ Keeps Nob w w')) : Calls Tryd.prog 38 args w (fun e w' => ∃ r : Nat, e = .returned (.tuple #[.agg #[.int .u64 ((qh : Nat) : Int), .int .u64 ((ql : Nat) : Int)], .int .u64 ((r : Nat) : Int)]) ∧ Keeps Nob w w') := h1 ▸ h2 ▸ h
theorem below_is {x : Bool} (y : Bool) {args : Array Value} {w : World} (h1 : x = y) (h : Calls Tryd.prog 39 args w (fun e w' => e = .returned (.bool x) ∧ Keeps Nob w w')) : Calls Tryd.prog 39 args w (fun e w' => e = .returned (.bool y) ∧ Keeps Nob w w') := h1 ▸ h
theorem cap_big {m t qh ql : Nat} {x : Value} (hqt : t = qh * 18446744073709551616 + ql) (hl : ql < 18446744073709551616) (h : 0 < qh ∨ m < ql) (hm : m < 18446744073709551616) : (Ending.returned (.tuple #[.int .u64 ((m : Nat) : Int), x])) = .returned (.tuple #[.int .u64 ((min m t : Nat) : Int), x]) := by
  rw [show min m t = m by omega]
theorem cap_small {m t qh ql : Nat} {x : Value} (hqt : t = qh * 18446744073709551616 + ql) (h : ¬ (0 < qh ∨ m < ql)) : (Ending.returned (.tuple #[.int .u64 ((ql : Nat) : Int), x])) = .returned (.tuple #[.int .u64 ((min m t : Nat) : Int), x]) := by
  rw [show min m t = ql by omega]
noncomputable def qc54_0 (n : Nat) : Code := partOf Tryd.f25 n
theorem fxCapped_big (m a b c qh ql : Nat) (hm : m < 18446744073709551616) (ha : a < 18446744073709551616) (hb : b < 18446744073709551616) (hc : 0 < c) (hc2 : c < 18446744073709551616) (hqh : a * b / 18446744073709551616 / c = qh) (hql : (a * b / 18446744073709551616 % c * 18446744073709551616 + a * b % 18446744073709551616) / c = ql) (hqt : a * b / c = qh * 18446744073709551616 + ql) (hqh2 : qh < 18446744073709551616) (hql2 : ql < 18446744073709551616) (hbig : 0 < qh ∨ m < ql) (w : World) :
    Calls Tryd.prog 25 #[.int .u64 ((m : Nat) : Int), .int .u64 ((a : Nat) : Int), .int .u64 ((b : Nat) : Int), .int .u64 ((c : Nat) : Int)] w (fun e w' => e = .returned (.tuple #[.int .u64 ((min m (a * b / c) : Nat) : Int), .int .i64 0]) ∧ Keeps Nob w w') := by
  have hab : a * b / 18446744073709551616 < 18446744073709551616 := by rw [Nat.div_lt_iff_lt_mul (by decide)]; exact Nat.mul_lt_mul'' ha hb
  have K0 : Keeps Nob w w := Keeps.refl _ _
  refine sy_enter (qc54_0 1) ⟨#[uN m, uN a, uN b, uN c, ud, ud, ud, ud, ud, ud, ud, ud, ud, ud, ud, ud, ud, ud, ud, ud, ud, ud, ud, ud, ud, ud, ud, ud, ud, ud, ud], []⟩ Tryd.func25 (by kernel_rfl) (by kernel_rfl) <| qr_ [0, 1] <| pkq (.int .u64 0) <| pkq (.int .i64 0) <| eq_ <| qr_ [0, 1] <| pkq (uN c) <| ppq (.bool false) (eqf (((c : Nat) : Int)) ((0) : Int) (by omega)) <| en_ <| s_ <| tqr_ [0, 1, 2, 3, 4, 5, 6, 7, 8, 9, 10] <| pkq (uN a) <| pkq (uN b) ?_
  refine pcq 37 #[uN a, uN b] Tryd.func37 ((fxTimes_ok a b ha hb _).mono ?_)
  rintro e V1 ⟨rfl, kV1⟩
  refine ⟨_, rfl, ?_⟩
  have K2 := K0.nn kV1
  have z3 := kV1.size
  refine pkq (uN c) ?_
  refine pcq 38 #[.agg #[uN (a * b / 18446744073709551616), uN (a * b % 18446744073709551616)], uN c] Tryd.func38 ((over_is hqh hql (fxOver_ok (a * b / 18446744073709551616) (a * b % 18446744073709551616) c hab (Nat.mod_lt _ (by decide)) hc hc2 _)).mono ?_)
  rintro e V4 ⟨r, rfl, kV4⟩
  refine ⟨_, rfl, ?_⟩
  have K5 := K2.nn kV4
  have z6 := kV4.size
  refine pkq (.tuple #[.agg #[uN qh, uN ql], uN r]) <| pkq (.agg #[uN qh, uN ql]) <| pkq (uN r) <| pal 67 (#[.int .u64 0, .int .u64 0]) (.agg (#[.int .u64 0, .int .u64 0])) fun V7 gw egw h8 kV7 => ?_
  have n9 : w.heap.size ≤ gw := egw ▸ K5.size
  have K10 := K5.nn kV7
  have z11 := kV7.size
  obtain ⟨V12, eV12, kV12⟩ := rowset_step V7 gw (#[.int .u64 ((qh : Nat) : Int), .int .u64 ((ql : Nat) : Int)])
  have h13 : V12.heap[gw]? = some (.cells (#[.int .u64 ((qh : Nat) : Int), .int .u64 ((ql : Nat) : Int)]) 67 (0, 0)) := eV12 ▸ setRow_heap _ _ _ _ _ _ h8
  refine pzq (w' := V12) (by rw [← eV12]; exact exec_store_row 67 (.tmp 10) (.tmp 20) (by kernel_rfl) gw (#[uN qh, uN ql]) (by kernel_rfl) (by kernel_rfl) 67 (#[.int .u64 0, .int .u64 0]) h8 (by kernel_rfl) rfl (by kernel_rfl)) ?_
  clear eV12
  have K14 := K10.nO kV12
  have z15 := kV12.size
  refine pkq (uN r) <| eq_ <| qr_ [0, 1, 2, 3] <| pkq (uN m) <| pkq (.agg #[.int .u64 0, uN m]) <| ppq (.agg #[uN qh, uN ql]) (ldr 67 gw (h13) (by kernel_rfl)) ?_
  refine pcq 39 #[.agg #[.int .u64 0, uN m], .agg #[uN qh, uN ql]] Tryd.func39 ((below_is true (decide_eq_true hbig) (fxBelow_ok m qh ql hm hqh2 hql2 _)).mono ?_)
  rintro e V16 ⟨rfl, kV16⟩
  refine ⟨_, rfl, ?_⟩
  have K18 := K14.nn kV16
  have z19 := kV16.size
  refine ey_ <| qr_ [0, 1, 2, 3] <| pkq (uN m) <| pkq (.int .i64 0) <| pkq (uN m) <| pkq (.int .i64 0) <| eu_ <| then_r <| so_ (.tuple #[.int .u64 ((m : Nat) : Int), .int .i64 0]) ?_
  exact ⟨cap_big hqt hql2 hbig hm, K18⟩
theorem fxCapped_small (m a b c qh ql : Nat) (hm : m < 18446744073709551616) (ha : a < 18446744073709551616) (hb : b < 18446744073709551616) (hc : 0 < c) (hc2 : c < 18446744073709551616) (hqh : a * b / 18446744073709551616 / c = qh) (hql : (a * b / 18446744073709551616 % c * 18446744073709551616 + a * b % 18446744073709551616) / c = ql) (hqt : a * b / c = qh * 18446744073709551616 + ql) (hqh2 : qh < 18446744073709551616) (hql2 : ql < 18446744073709551616) (hbig : ¬ (0 < qh ∨ m < ql)) (w : World) :
    Calls Tryd.prog 25 #[.int .u64 ((m : Nat) : Int), .int .u64 ((a : Nat) : Int), .int .u64 ((b : Nat) : Int), .int .u64 ((c : Nat) : Int)] w (fun e w' => e = .returned (.tuple #[.int .u64 ((min m (a * b / c) : Nat) : Int), .int .i64 0]) ∧ Keeps Nob w w') := by
  have hab : a * b / 18446744073709551616 < 18446744073709551616 := by rw [Nat.div_lt_iff_lt_mul (by decide)]; exact Nat.mul_lt_mul'' ha hb
  have K0 : Keeps Nob w w := Keeps.refl _ _
  refine sy_enter (qc54_0 1) ⟨#[uN m, uN a, uN b, uN c, ud, ud, ud, ud, ud, ud, ud, ud, ud, ud, ud, ud, ud, ud, ud, ud, ud, ud, ud, ud, ud, ud, ud, ud, ud, ud, ud], []⟩ Tryd.func25 (by kernel_rfl) (by kernel_rfl) <| qr_ [0, 1] <| pkq (.int .u64 0) <| pkq (.int .i64 0) <| eq_ <| qr_ [0, 1] <| pkq (uN c) <| ppq (.bool false) (eqf (((c : Nat) : Int)) ((0) : Int) (by omega)) <| en_ <| s_ <| tqr_ [0, 1, 2, 3, 4, 5, 6, 7, 8, 9, 10] <| pkq (uN a) <| pkq (uN b) ?_
  refine pcq 37 #[uN a, uN b] Tryd.func37 ((fxTimes_ok a b ha hb _).mono ?_)
  rintro e V1 ⟨rfl, kV1⟩
  refine ⟨_, rfl, ?_⟩
  have K2 := K0.nn kV1
  have z3 := kV1.size
  refine pkq (uN c) ?_
  refine pcq 38 #[.agg #[uN (a * b / 18446744073709551616), uN (a * b % 18446744073709551616)], uN c] Tryd.func38 ((over_is hqh hql (fxOver_ok (a * b / 18446744073709551616) (a * b % 18446744073709551616) c hab (Nat.mod_lt _ (by decide)) hc hc2 _)).mono ?_)
  rintro e V4 ⟨r, rfl, kV4⟩
  refine ⟨_, rfl, ?_⟩
  have K5 := K2.nn kV4
  have z6 := kV4.size
  refine pkq (.tuple #[.agg #[uN qh, uN ql], uN r]) <| pkq (.agg #[uN qh, uN ql]) <| pkq (uN r) <| pal 67 (#[.int .u64 0, .int .u64 0]) (.agg (#[.int .u64 0, .int .u64 0])) fun V7 gw egw h8 kV7 => ?_
  have n9 : w.heap.size ≤ gw := egw ▸ K5.size
  have K10 := K5.nn kV7
  have z11 := kV7.size
  obtain ⟨V12, eV12, kV12⟩ := rowset_step V7 gw (#[.int .u64 ((qh : Nat) : Int), .int .u64 ((ql : Nat) : Int)])
  have h13 : V12.heap[gw]? = some (.cells (#[.int .u64 ((qh : Nat) : Int), .int .u64 ((ql : Nat) : Int)]) 67 (0, 0)) := eV12 ▸ setRow_heap _ _ _ _ _ _ h8
  refine pzq (w' := V12) (by rw [← eV12]; exact exec_store_row 67 (.tmp 10) (.tmp 20) (by kernel_rfl) gw (#[uN qh, uN ql]) (by kernel_rfl) (by kernel_rfl) 67 (#[.int .u64 0, .int .u64 0]) h8 (by kernel_rfl) rfl (by kernel_rfl)) ?_
  clear eV12
  have K14 := K10.nO kV12
  have z15 := kV12.size
  refine pkq (uN r) <| eq_ <| qr_ [0, 1, 2, 3] <| pkq (uN m) <| pkq (.agg #[.int .u64 0, uN m]) <| ppq (.agg #[uN qh, uN ql]) (ldr 67 gw (h13) (by kernel_rfl)) ?_
  refine pcq 39 #[.agg #[.int .u64 0, uN m], .agg #[uN qh, uN ql]] Tryd.func39 ((below_is false (decide_eq_false hbig) (fxBelow_ok m qh ql hm hqh2 hql2 _)).mono ?_)
  rintro e V16 ⟨rfl, kV16⟩
  refine ⟨_, rfl, ?_⟩
  have h17 := kV16.bk h13
  have K18 := K14.nn kV16
  have z19 := kV16.size
  refine en_ <| s_ <| tqr_ [0, 1, 2, 3, 4] <| pkq (pT gw 1) <| ppq (uN ql) (ldk 22 gw 1 h17) <| pkq (.int .i64 0) <| pkq (uN ql) <| pkq (.int .i64 0) <| ps_end <| sy_a ⟨#[uN m, uN a, uN b, uN c, ud, ud, ud, ud, uN ql, .int .i64 0, pT gw 0, uN r, uN c, .bool false, .tuple #[.agg #[uN qh, uN ql], uN r], uN a, uN b, .agg #[uN (a * b / 18446744073709551616), uN (a * b % 18446744073709551616)], uN c, .tuple #[.agg #[uN qh, uN ql], uN r], .agg #[uN qh, uN ql], uN r, uN m, .agg #[.int .u64 0, uN m], .agg #[uN qh, uN ql], .bool false, ud, ud, pT gw 1, uN ql, .int .i64 0], []⟩ <| then_n <| u_ <| so_ (.tuple #[.int .u64 ((ql : Nat) : Int), .int .i64 0]) ?_
  exact ⟨cap_small hqt hbig, K18⟩
/-- Capped: the quotient of a product, at most m. -/
theorem fxCapped_ok (m a b c : Nat) (hm : m < 18446744073709551616) (ha : a < 18446744073709551616) (hb : b < 18446744073709551616) (hc : 0 < c) (hc2 : c < 18446744073709551616) (w : World) : Calls Tryd.prog 25 #[.int .u64 ((m : Nat) : Int), .int .u64 ((a : Nat) : Int), .int .u64 ((b : Nat) : Int), .int .u64 ((c : Nat) : Int)] w (fun e w' => e = .returned (.tuple #[.int .u64 ((min m (a * b / c) : Nat) : Int), .int .i64 0]) ∧ Keeps Nob w w') := by
  have hab : a * b / 18446744073709551616 < 18446744073709551616 := by rw [Nat.div_lt_iff_lt_mul (by decide)]; exact Nat.mul_lt_mul'' ha hb
  have hqt : a * b / c = a * b / 18446744073709551616 / c * 18446744073709551616 + (a * b / 18446744073709551616 % c * 18446744073709551616 + a * b % 18446744073709551616) / c := by
    rw [← over_law hc]; congr 1; have := Nat.div_add_mod (a * b) 18446744073709551616; omega
  have h1 : a * b / 18446744073709551616 / c < 18446744073709551616 := Nat.lt_of_le_of_lt (Nat.div_le_self _ _) hab
  have h2 := over_lt (hi := a * b / 18446744073709551616) (lo := a * b % 18446744073709551616) hc (Nat.mod_lt _ (by decide))
  by_cases hbig : 0 < a * b / 18446744073709551616 / c ∨ m < (a * b / 18446744073709551616 % c * 18446744073709551616 + a * b % 18446744073709551616) / c
  · exact fxCapped_big m a b c _ _ hm ha hb hc hc2 rfl rfl hqt h1 h2 hbig w
  · exact fxCapped_small m a b c _ _ hm ha hb hc hc2 rfl rfl hqt h1 h2 hbig w
end Go.Proofs.YtghohakbepeffaaDoor
namespace Go.Proofs.YtghohakbepeffaaDoor
set_option maxRecDepth 100000
set_option maxHeartbeats 4000000
open Go Go.RowKit Go.Own Go.Shelf
end Go.Proofs.YtghohakbepeffaaDoor
namespace Go.Proofs.YtghohakbepeffaaDoor
set_option maxRecDepth 100000
set_option maxHeartbeats 4000000
open Go Go.RowKit Go.Own Go.Shelf Go.ChangeShapes
theorem open_notes {H : Type} {enc : TypeId × Value → H} {W : World} {sp : Nat → Bool} {held : Bool} {v : Value} {d : DataW H} {ps : List MemPlace} (h : DataW.Trod enc Tryd.prog W 0 sp held 25 v d ps) (hv : ∃ a len cap, v = .slice a len cap) : ∃ l : List Nt, Sl W 2 Nt.cl v l ∧ ∀ x ∈ l, x.Ok := by
  have hC : Tryd.prog.cellsOf 27 = 2 := by kernel_rfl
  have hI : Tryd.prog.cellsOf 3 = 1 := by kernel_rfl
  have hU : Tryd.prog.cellsOf 22 = 1 := by kernel_rfl
  obtain ⟨a, len, cap, rfl, hl, hm, hn, hi⟩ := open_elemsN Tryd.underlying25 (by rw [hC]; omega) h hv
  rw [hC] at hi
  obtain ⟨l, hll, hq⟩ := list_of (fun i (x : Nt) => x.Ok ∧ ∃ b o, a = some ⟨b, o, none⟩ ∧ W.cell? ⟨b, o + i * 2, none⟩ = some (.int .i64 x.h) ∧ W.cell? ⟨b, o + i * 2 + 1, none⟩ = some (.int .u64 ((x.s : Nat) : Int))) len (fun i hlt => by
    obtain ⟨b, o, cs, n, y, ha, hcl, hcell, ht⟩ := hi i hlt
    obtain ⟨xs, n', _, _, _, hxl, hf⟩ := DataW.trod_struct Tryd.underlying27 ht
    obtain ⟨q0, e0, w0⟩ := field_int Tryd.underlying3 hI (hf 0 _ rfl) (List.getElem?_eq_getElem (by rw [hxl]; decide))
    obtain ⟨q1, e1, w1⟩ := field_int Tryd.underlying22 hU (hf 1 _ rfl) (List.getElem?_eq_getElem (by rw [hxl]; decide))
    obtain ⟨c, hc, rfl⟩ := u64_nat w1
    have hb := bounds_i64 w0
    exact ⟨⟨q0, c⟩, ⟨hb.1, hb.2, by simpa using hc⟩, b, o, ha, (hcell 0 (by omega)).trans e0, (hcell 1 (by omega)).trans e1⟩)
  subst hll
  refine ⟨l, ⟨⟨a, cap, rfl, hl, hm, hn⟩, fun k x hk => ?_⟩, fun x hx => ?_⟩
  · obtain ⟨_, b, o, rfl, c0, c1⟩ := hq k x hk
    refine ⟨b, o, cap, rfl, World.block_lt_of_cell? W _ c0, fun j u hj => ?_⟩
    match j, hj with
    | 0, hj => simp only [Nt.cl, List.getElem?_cons_zero, Option.some.injEq] at hj; subst hj; exact c0
    | 1, hj => simp only [Nt.cl, List.getElem?_cons_succ, List.getElem?_cons_zero, Option.some.injEq] at hj; subst hj; exact c1
    | j + 2, hj => simp [Nt.cl] at hj
  · obtain ⟨k, hk⟩ := List.getElem?_of_mem hx
    exact (hq k x hk).1
end Go.Proofs.YtghohakbepeffaaDoor
namespace Go.Proofs.YtghohakbepeffaaDoor
set_option maxRecDepth 100000
set_option maxHeartbeats 4000000
set_option maxRecDepth 100000
open Go Go.RowKit Go.Own Go.ChangeShapes Go.WideShapes Go.ChangeAt Go.WideElems
theorem open_params {H : Type} {enc : TypeId × Value → H} {W : World} {sp : Nat → Bool} {held : Bool} {v : Value} {d : DataW H} {ps : List MemPlace} {R : Reach} {base : Nat} (h : DataW.Trod enc Tryd.prog W 0 sp held 24 v d ps) (hv : Value.okWide Tryd.prog W R base 24 v) :
    ∃ p : Par, v = p.v ∧ p.Ok := by
  obtain ⟨cs, rfl, hsz⟩ := okWide_struct Tryd.underlying24 hv
  have hC : Tryd.prog.cellsOf 24 = 11 := by kernel_rfl
  have hi : Tryd.prog.cellsOf 3 = 1 := by kernel_rfl
  have hu : Tryd.prog.cellsOf 22 = 1 := by kernel_rfl
  rw [hC] at hsz
  obtain ⟨fuel, ht⟩ := h
  have ht : DataW.trod enc Tryd.prog W 0 sp held fuel 24 cs.toList = some (d, ps) := ht
  obtain ⟨xs, n', _, _, _, hxl, hf⟩ := DataW.trod_struct Tryd.underlying24 ht
  obtain ⟨q0, e0, f0⟩ := field_int Tryd.underlying3 hi (hf 0 _ rfl) (List.getElem?_eq_getElem (by rw [hxl]; decide))
  obtain ⟨q1, e1, f1⟩ := field_int Tryd.underlying3 hi (hf 1 _ rfl) (List.getElem?_eq_getElem (by rw [hxl]; decide))
  obtain ⟨q2, e2, f2⟩ := field_int Tryd.underlying3 hi (hf 2 _ rfl) (List.getElem?_eq_getElem (by rw [hxl]; decide))
  obtain ⟨q3, e3, f3⟩ := field_int Tryd.underlying3 hi (hf 3 _ rfl) (List.getElem?_eq_getElem (by rw [hxl]; decide))
  obtain ⟨q4, e4, f4⟩ := field_int Tryd.underlying3 hi (hf 4 _ rfl) (List.getElem?_eq_getElem (by rw [hxl]; decide))
  obtain ⟨q5, e5, f5⟩ := field_int Tryd.underlying3 hi (hf 5 _ rfl) (List.getElem?_eq_getElem (by rw [hxl]; decide))
  obtain ⟨q6, e6, f6⟩ := field_int Tryd.underlying3 hi (hf 6 _ rfl) (List.getElem?_eq_getElem (by rw [hxl]; decide))
  obtain ⟨q7, e7, f7⟩ := field_int Tryd.underlying22 hu (hf 7 _ rfl) (List.getElem?_eq_getElem (by rw [hxl]; decide))
  obtain ⟨q8, e8, f8⟩ := field_int Tryd.underlying22 hu (hf 8 _ rfl) (List.getElem?_eq_getElem (by rw [hxl]; decide))
  obtain ⟨q9, e9, f9⟩ := field_int Tryd.underlying3 hi (hf 9 _ rfl) (List.getElem?_eq_getElem (by rw [hxl]; decide))
  obtain ⟨q10, e10, f10⟩ := field_int Tryd.underlying22 hu (hf 10 _ rfl) (List.getElem?_eq_getElem (by rw [hxl]; decide))
  have ui : ∀ {a : Int}, (Lit.int .i64 a).wf = true → i64ok a := fun h => bounds_i64 h
  have uu : ∀ {a : Int}, (Lit.int .u64 a).wf = true → u64ok a := fun h => by
    obtain ⟨n, h1, rfl⟩ := u64_nat h
    unfold u64ok; omega
  refine ⟨⟨q0, q1, q2, q3, q4, q5, q6, q7, q8, q9, q10⟩, ?_, ⟨ui f0, ui f1, ui f2, ui f3, ui f4, ui f5, ui f6, uu f7, uu f8, ui f9, uu f10⟩⟩
  have : cs = #[.int .i64 q0, .int .i64 q1, .int .i64 q2, .int .i64 q3, .int .i64 q4, .int .i64 q5, .int .i64 q6, .int .u64 q7, .int .u64 q8, .int .i64 q9, .int .u64 q10] := by
    apply Array.ext_getElem?
    intro i
    by_cases hlt : i < 11
    · have h' : i = 0 ∨ i = 1 ∨ i = 2 ∨ i = 3 ∨ i = 4 ∨ i = 5 ∨ i = 6 ∨ i = 7 ∨ i = 8 ∨ i = 9 ∨ i = 10 := by omega
      have tl : ∀ j : Nat, cs[j]? = cs.toList[j]? := fun j => by simp
      rw [tl]
      rcases h' with rfl | rfl | rfl | rfl | rfl | rfl | rfl | rfl | rfl | rfl | rfl <;> assumption
    · rw [Array.getElem?_eq_none (by omega), Array.getElem?_eq_none (by simp; omega)]
  rw [this]; rfl
end Go.Proofs.YtghohakbepeffaaDoor
namespace Go.Proofs.YtghohakbepeffaaDoor
set_option maxRecDepth 100000
set_option maxHeartbeats 4000000
open Go Go.RowKit Go.Own Go.Shelf Go.ChangeShapes Go.WideShapes
theorem open_note {H : Type} {enc : TypeId × Value → H} {W : World} {sp : Nat → Bool} {held : Bool} {v : Value} {d : DataW H} {ps : List MemPlace} {R : Reach} {base : Nat} (h : DataW.Trod enc Tryd.prog W 0 sp held 27 v d ps) (hv : Value.okWide Tryd.prog W R base 27 v) :
    ∃ x : Nt, v = .agg x.c ∧ x.Ok := by
  obtain ⟨cs, rfl, hsz⟩ := okWide_struct Tryd.underlying27 hv
  have hC : Tryd.prog.cellsOf 27 = 2 := by kernel_rfl
  have hi : Tryd.prog.cellsOf 3 = 1 := by kernel_rfl
  have hu : Tryd.prog.cellsOf 22 = 1 := by kernel_rfl
  rw [hC] at hsz
  obtain ⟨fuel, ht⟩ := h
  have ht : DataW.trod enc Tryd.prog W 0 sp held fuel 27 cs.toList = some (d, ps) := ht
  obtain ⟨xs, n', _, _, _, hxl, hf⟩ := DataW.trod_struct Tryd.underlying27 ht
  obtain ⟨q0, e0, f0⟩ := field_int Tryd.underlying3 hi (hf 0 _ rfl) (List.getElem?_eq_getElem (by rw [hxl]; decide))
  obtain ⟨q1, e1, f1⟩ := field_int Tryd.underlying22 hu (hf 1 _ rfl) (List.getElem?_eq_getElem (by rw [hxl]; decide))
  obtain ⟨c, hc, rfl⟩ := u64_nat f1
  have hb := bounds_i64 f0
  refine ⟨⟨q0, c⟩, ?_, ⟨hb.1, hb.2, by simpa using hc⟩⟩
  congr 1
  obtain ⟨l⟩ := cs
  simp only [List.size_toArray] at hsz
  match l, hsz with
  | [a, b], _ =>
    have e0 : some a = some (Value.int .i64 q0) := e0
    have e1 : some b = some (Value.int .u64 ((c : Nat) : Int)) := e1
    cases e0; cases e1; rfl
end Go.Proofs.YtghohakbepeffaaDoor
namespace Go.Own
set_option maxRecDepth 100000
set_option maxHeartbeats 4000000
open Go Go.RowKit
section
variable {w0 w w' w'' : World} {F F' F'' G M : Nat → Prop}
end
end Go.Own
namespace Go.Proofs.YtghohakbepeffaaDoor
set_option maxRecDepth 100000
set_option maxHeartbeats 4000000
open Go Go.RowKit Go.Own
/-- The empty slice that a copy begins with. -/
theorem Row.empty (w : World) (t : TypeId) : Row (w.alloc (.cells #[] t)) t 1 (.slice (some ⟨w.heap.size, 0, none⟩) 0 0) 0 [] :=
  ⟨rfl, .inr ⟨_, _, _, rfl, Nat.zero_le _, heap_alloc_new _ _, Nat.le_refl _, by unfold maxLen; omega, rfl, rfl⟩⟩
end Go.Proofs.YtghohakbepeffaaDoor
namespace Go.Proofs.YtghohakbepeffaaDoor
set_option maxRecDepth 100000
set_option maxHeartbeats 4000000
open Go Go.RowKit Go.Own
end Go.Proofs.YtghohakbepeffaaDoor
namespace Go.Own.Cod
set_option maxRecDepth 100000
set_option maxHeartbeats 4000000
/-- The bytes of a number (at most so many). -/
def encF : Nat → Nat → List UInt8
  | 0, _ => []
  | f + 1, n => if n < 128 then [UInt8.ofNat n] else UInt8.ofNat (n % 128 + 128) :: encF f (n / 128)
def enc (n : Nat) : List UInt8 := encF 10 n
end Go.Own.Cod
namespace Go.Proofs.YtghohakbepeffaaDoor
set_option maxRecDepth 100000
set_option maxHeartbeats 4000000
open Go Go.RowKit Go.Own Go.Shelf
attribute [local go_sem] Oper.semAt_some
end Go.Proofs.YtghohakbepeffaaDoor
namespace Go.Proofs.YtghohakbepeffaaDoor
set_option maxRecDepth 100000
set_option maxHeartbeats 4000000
open Go Go.RowKit Go.Own Go.Shelf
attribute [local go_sem] Oper.semAt_some
end Go.Proofs.YtghohakbepeffaaDoor
namespace Go.Proofs.YtghohakbepeffaaDoor
set_option maxRecDepth 100000
set_option maxHeartbeats 4000000
open Go Go.RowKit Go.Own Go.Shelf
end Go.Proofs.YtghohakbepeffaaDoor
namespace Go.Proofs.YtghohakbepeffaaDoor
set_option maxRecDepth 100000
set_option maxHeartbeats 4000000
open Go Go.RowKit Go.Own Go.Shelf
end Go.Proofs.YtghohakbepeffaaDoor
namespace Go.Proofs.YtghohakbepeffaaDoor
set_option maxRecDepth 100000
set_option maxHeartbeats 4000000
open Go Go.RowKit Go.Own Go.Shelf
end Go.Proofs.YtghohakbepeffaaDoor
namespace Go.Proofs.YtghohakbepeffaaDoor
set_option maxRecDepth 100000
set_option maxHeartbeats 4000000
open Go Go.RowKit Go.Own Go.Shelf
end Go.Proofs.YtghohakbepeffaaDoor
namespace Go.Proofs.YtghohakbepeffaaDoor
set_option maxRecDepth 100000
set_option maxHeartbeats 4000000
open Go Go.RowKit Go.Own Go.Shelf
/-- A writer's state: its limit, its bytes, its error. -/
structure WS where
  lim : Int
  out : List UInt8
  err : Int
def WS.add (s : WS) (bs : List UInt8) : WS := if s.err = 0 then (if s.lim - s.out.length < bs.length then { s with err := 4 } else { s with out := s.out ++ bs }) else s
end Go.Proofs.YtghohakbepeffaaDoor
namespace Go.Proofs.YtghohakbepeffaaDoor
set_option maxRecDepth 100000
set_option maxHeartbeats 4000000
open Go Go.RowKit Go.Own Go.Shelf
end Go.Proofs.YtghohakbepeffaaDoor
namespace Go.Proofs.YtghohakbepeffaaDoor
set_option maxRecDepth 100000
set_option maxHeartbeats 4000000
open Go Go.RowKit Go.Own Go.Shelf
section
variable {w w' : World} {F M : Nat → Prop} {b : Nat} {t t' : WS}
end
end Go.Proofs.YtghohakbepeffaaDoor
namespace Go.Proofs.YtghohakbepeffaaDoor
set_option maxRecDepth 100000
set_option maxHeartbeats 4000000
open Go Go.RowKit Go.Own Go.Shelf
def nb1 (x : Nt) : List UInt8 := Cod.enc x.h.toNat ++ Cod.enc x.s
def nbi (l : List Nt) (i : Nat) : List UInt8 := Cod.enc l.length ++ (l.take i).flatMap nb1
end Go.Proofs.YtghohakbepeffaaDoor
namespace Go.Proofs.YtghohakbepeffaaDoor
set_option maxRecDepth 100000
set_option maxHeartbeats 4000000
open Go Go.RowKit Go.Own Go.Shelf
theorem bad_cases (x : Nt) : (x.bad ∧ x.h < 1) ∨ (x.bad ∧ ¬ x.h < 1 ∧ 4294967296 < x.h) ∨ (x.bad ∧ ¬ x.h < 1 ∧ ¬ 4294967296 < x.h ∧ 4611686018427387904 < x.s) ∨ (¬ x.bad ∧ ¬ x.h < 1 ∧ ¬ 4294967296 < x.h ∧ ¬ 4611686018427387904 < x.s) := by
  unfold Nt.bad; omega
noncomputable def qc70_1 (n : Nat) : Code := partOf Tryd.f24 n
theorem r23may_low (x : Nt) (w : World) (q1 : x.h < 1) :
    Calls Tryd.prog 24 #[.agg x.c] w (fun e w' => e = .returned (.bool false) ∧ Keeps Nob w w') := by
  have K0 : Keeps Nob w w := Keeps.refl _ _
  refine sy_enter (qc70_1 1) ⟨#[.agg x.c, ud, ud, ud, ud, ud, ud, ud, ud, ud, ud, ud, ud, ud, ud, ud], []⟩ Tryd.func24 (by kernel_rfl) (by kernel_rfl) <| qr_ [0, 1] <| pbx 27 x.c (.agg x.c) fun V1 gx egx h2 kV1 => ?_
  have n3 : w.heap.size ≤ gx := egx ▸ K0.size
  have K4 := K0.nn kV1
  have z5 := kV1.size
  refine pkq (.bool false) <| eqr_ [0, 1, 2, 3, 4, 5, 6, 7, 8, 9, 10, 11, 12, 13] <| pkq (pT gx 0) <| ppq (.int .i64 x.h) (ldc 3 gx 0 (rc (h2) (rfl))) <| ppq (.bool false) (dcf (((x.h) : Int) ≥ ((1) : Int)) (by omega)) <| pkq (.bool false) <| pnq <| pnq <| pnq <| pkq (.bool false) <| pkq (.bool false) <| pnq <| pnq <| pnq ?_
  refine pkq (.bool false) <| pkq (.bool false) <| eu_ <| so_ (.bool false) ?_
  exact ⟨rfl, K4⟩
theorem r23may_high (x : Nt) (w : World) (q1 : ¬ x.h < 1) (q2 : 4294967296 < x.h) :
    Calls Tryd.prog 24 #[.agg x.c] w (fun e w' => e = .returned (.bool false) ∧ Keeps Nob w w') := by
  have K0 : Keeps Nob w w := Keeps.refl _ _
  refine sy_enter (qc70_1 1) ⟨#[.agg x.c, ud, ud, ud, ud, ud, ud, ud, ud, ud, ud, ud, ud, ud, ud, ud], []⟩ Tryd.func24 (by kernel_rfl) (by kernel_rfl) <| qr_ [0, 1] <| pbx 27 x.c (.agg x.c) fun V1 gx egx h2 kV1 => ?_
  have n3 : w.heap.size ≤ gx := egx ▸ K0.size
  have K4 := K0.nn kV1
  have z5 := kV1.size
  refine pkq (.bool false) <| eqr_ [0, 1, 2, 3, 4, 5, 6, 7, 8, 9, 10, 11, 12, 13] <| pkq (pT gx 0) <| ppq (.int .i64 x.h) (ldc 3 gx 0 (rc (h2) (rfl))) <| ppq (.bool true) (dct (((x.h) : Int) ≥ ((1) : Int)) (by omega)) <| pkq (.bool true) <| pkq (pT gx 0) <| ppq (.int .i64 x.h) (ldc 3 gx 0 (rc (h2) (rfl))) <| ppq (.bool false) (dcf (((x.h) : Int) ≤ ((4294967296) : Int)) (by omega)) <| pkq (.bool false) <| pkq (.bool false) <| pnq <| pnq <| pnq ?_
  refine pkq (.bool false) <| pkq (.bool false) <| eu_ <| so_ (.bool false) ?_
  exact ⟨rfl, K4⟩
theorem r23may_much (x : Nt) (w : World) (q1 : ¬ x.h < 1) (q2 : ¬ 4294967296 < x.h) (q3 : 4611686018427387904 < x.s) :
    Calls Tryd.prog 24 #[.agg x.c] w (fun e w' => e = .returned (.bool false) ∧ Keeps Nob w w') := by
  have K0 : Keeps Nob w w := Keeps.refl _ _
  refine sy_enter (qc70_1 1) ⟨#[.agg x.c, ud, ud, ud, ud, ud, ud, ud, ud, ud, ud, ud, ud, ud, ud, ud], []⟩ Tryd.func24 (by kernel_rfl) (by kernel_rfl) <| qr_ [0, 1] <| pbx 27 x.c (.agg x.c) fun V1 gx egx h2 kV1 => ?_
  have n3 : w.heap.size ≤ gx := egx ▸ K0.size
  have K4 := K0.nn kV1
  have z5 := kV1.size
  refine pkq (.bool false) <| eqr_ [0, 1, 2, 3, 4, 5, 6, 7, 8, 9, 10, 11, 12, 13] <| pkq (pT gx 0) <| ppq (.int .i64 x.h) (ldc 3 gx 0 (rc (h2) (rfl))) <| ppq (.bool true) (dct (((x.h) : Int) ≥ ((1) : Int)) (by omega)) <| pkq (.bool true) <| pkq (pT gx 0) <| ppq (.int .i64 x.h) (ldc 3 gx 0 (rc (h2) (rfl))) <| ppq (.bool true) (dct (((x.h) : Int) ≤ ((4294967296) : Int)) (by omega)) <| pkq (.bool true) <| pkq (.bool true) <| pkq (pT gx 1) <| ppq (uN x.s) (ldc 22 gx 1 (rc (h2) (rfl))) <| ppq (.bool false) (dcf ((((x.s : Nat) : Int)) ≤ ((4611686018427387904) : Int)) (by omega)) ?_
  refine pkq (.bool false) <| pkq (.bool false) <| eu_ <| so_ (.bool false) ?_
  exact ⟨rfl, K4⟩
theorem r23may_fine (x : Nt) (w : World) (q1 : ¬ x.h < 1) (q2 : ¬ 4294967296 < x.h) (q3 : ¬ 4611686018427387904 < x.s) :
    Calls Tryd.prog 24 #[.agg x.c] w (fun e w' => e = .returned (.bool true) ∧ Keeps Nob w w') := by
  have K0 : Keeps Nob w w := Keeps.refl _ _
  refine sy_enter (qc70_1 1) ⟨#[.agg x.c, ud, ud, ud, ud, ud, ud, ud, ud, ud, ud, ud, ud, ud, ud, ud], []⟩ Tryd.func24 (by kernel_rfl) (by kernel_rfl) <| qr_ [0, 1] <| pbx 27 x.c (.agg x.c) fun V1 gx egx h2 kV1 => ?_
  have n3 : w.heap.size ≤ gx := egx ▸ K0.size
  have K4 := K0.nn kV1
  have z5 := kV1.size
  refine pkq (.bool false) <| eqr_ [0, 1, 2, 3, 4, 5, 6, 7, 8, 9, 10, 11, 12, 13] <| pkq (pT gx 0) <| ppq (.int .i64 x.h) (ldc 3 gx 0 (rc (h2) (rfl))) <| ppq (.bool true) (dct (((x.h) : Int) ≥ ((1) : Int)) (by omega)) <| pkq (.bool true) <| pkq (pT gx 0) <| ppq (.int .i64 x.h) (ldc 3 gx 0 (rc (h2) (rfl))) <| ppq (.bool true) (dct (((x.h) : Int) ≤ ((4294967296) : Int)) (by omega)) <| pkq (.bool true) <| pkq (.bool true) <| pkq (pT gx 1) <| ppq (uN x.s) (ldc 22 gx 1 (rc (h2) (rfl))) <| ppq (.bool true) (dct ((((x.s : Nat) : Int)) ≤ ((4611686018427387904) : Int)) (by omega)) ?_
  refine pkq (.bool true) <| pkq (.bool true) <| eu_ <| so_ (.bool true) ?_
  exact ⟨rfl, K4⟩
theorem r23may_bad (x : Nt) (w : World) (h : x.bad) : Calls Tryd.prog 24 #[.agg x.c] w (fun e w' => e = .returned (.bool false) ∧ Keeps Nob w w') := by
  rcases bad_cases x with ⟨_, q1⟩ | ⟨_, q1, q2⟩ | ⟨_, q1, q2, q3⟩ | ⟨q0, _⟩
  · exact r23may_low x w q1
  · exact r23may_high x w q1 q2
  · exact r23may_much x w q1 q2 q3
  · exact absurd h q0
theorem r23may_good (x : Nt) (w : World) (h : ¬ x.bad) : Calls Tryd.prog 24 #[.agg x.c] w (fun e w' => e = .returned (.bool true) ∧ Keeps Nob w w') := by
  rcases bad_cases x with ⟨q0, _⟩ | ⟨q0, _⟩ | ⟨q0, _⟩ | ⟨_, q1, q2, q3⟩
  · exact absurd q0 h
  · exact absurd q0 h
  · exact absurd q0 h
  · exact r23may_fine x w q1 q2 q3
theorem last_take {l : List Nt} {i : Nat} {y : Nt} (h0 : 0 < i) (hy : l[i - 1]? = some y) : (l.take i).getLast? = some y := by
  have hlt := (List.getElem?_eq_some_iff.1 hy).1
  rw [List.getLast?_eq_getElem?, List.length_take, Nat.min_eq_left (by omega), List.getElem?_take, if_pos (by omega)]; exact hy
/-- Which note this is, for the document's look. -/
theorem rcheck_cases (l : List Nt) (i : Nat) (hi : i ≤ l.length) : (∃ x, i < l.length ∧ l[i]? = some x ∧ x.bad ∧ nmay x (l.take i) = 3) ∨ (∃ x, i < l.length ∧ l[i]? = some x ∧ ¬ x.bad ∧ i = 0 ∧ nmay x (l.take i) = 0) ∨ (∃ x y, i < l.length ∧ l[i]? = some x ∧ ¬ x.bad ∧ 0 < i ∧ l[i - 1]? = some y ∧ ¬ x.h < y.h ∧ nmay x (l.take i) = 0) ∨ (∃ x y, i < l.length ∧ l[i]? = some x ∧ ¬ x.bad ∧ 0 < i ∧ l[i - 1]? = some y ∧ x.h < y.h ∧ nmay x (l.take i) = 9) ∨ i = l.length := by
  by_cases hlt : i < l.length
  · obtain ⟨x, hx⟩ : ∃ x, l[i]? = some x := ⟨_, List.getElem?_eq_getElem hlt⟩
    by_cases hb : x.bad
    · exact .inl ⟨x, hlt, hx, hb, nmay_bad hb⟩
    · by_cases h0 : i = 0
      · exact .inr (.inl ⟨x, hlt, hx, hb, h0, by rw [h0]; exact nmay_nil hb⟩)
      · obtain ⟨y, hy⟩ : ∃ y, l[i - 1]? = some y := ⟨_, List.getElem?_eq_getElem (by omega)⟩
        have hl := last_take (by omega) hy
        have e : nmay x (l.take i) = if x.h < y.h then 9 else 0 := by unfold nmay; rw [if_neg hb, hl]
        by_cases hc : x.h < y.h
        · exact .inr (.inr (.inr (.inl ⟨x, y, hlt, hx, hb, by omega, hy, hc, by rw [e, if_pos hc]⟩)))
        · exact .inr (.inr (.inl ⟨x, y, hlt, hx, hb, by omega, hy, hc, by rw [e, if_neg hc]⟩))
  · exact .inr (.inr (.inr (.inr (by omega))))
noncomputable def qc70_0 (n : Nat) : Code := partOf Tryd.f7 n
noncomputable abbrev qo70_0 (n k : Nat) : Oper := (opsAt (qc70_0 n)).getD k default
theorem r23Check_long (l : List Nt) (v : Value) (w : World) (hl : Sl w 2 Nt.cl v l) (hs : 64 < l.length) :
    Calls Tryd.prog 7 #[v] w (fun e w' => e = .returned (.tuple #[.int .i64 (ncheck l).1, .int .i64 (ncheck l).2]) ∧ Keeps Nob w w') := by
  have hln := Sl.len_le hl
  have K0 : Keeps Nob w w := Keeps.refl _ _
  refine sy_enter (qc70_0 1) ⟨#[v, ud, ud, ud, ud, ud, ud, ud, ud, ud, ud, ud, ud, ud, ud, ud, ud, ud, ud, ud, ud, ud, ud, ud, ud, ud, ud, ud, ud, ud, ud, ud, ud, ud, ud, ud, ud, ud], []⟩ Tryd.func7 (by kernel_rfl) (by kernel_rfl) <| qr_ [0, 1] <| pkq (.int .i64 0) <| pkq (.int .i64 0) <| eq_ <| qr_ [0, 1, 2] <| pkq (v) <| ppq (iN l.length) (exec_len_sl (.tmp 5) 25 27 (by kernel_rfl) Tryd.underlying25 (by kernel_rfl) hl) <| ppq (.bool true) (dct ((((l.length : Nat) : Int)) > ((64) : Int)) (by omega)) <| ey_ <| qr_ [0, 1] <| pkq (.int .i64 4) <| pkq (.int .i64 64) <| eu_ ?_
  refine then_r <| so_ (.tuple #[.int .i64 4, .int .i64 64]) ?_
  exact ⟨by rw [ncheck_long hs], K0⟩
theorem r23Check_go (l : List Nt) (v : Value) (w : World) (hl : Sl w 2 Nt.cl v l) (hs : ¬ 64 < l.length) :
    Calls Tryd.prog 7 #[v] w (fun e w' => e = .returned (.tuple #[.int .i64 (ncheck l).1, .int .i64 (ncheck l).2]) ∧ Keeps Nob w w') := by
  have hln := Sl.len_le hl
  have K0 : Keeps Nob w w := Keeps.refl _ _
  refine sy_enter (qc70_0 1) ⟨#[v, ud, ud, ud, ud, ud, ud, ud, ud, ud, ud, ud, ud, ud, ud, ud, ud, ud, ud, ud, ud, ud, ud, ud, ud, ud, ud, ud, ud, ud, ud, ud, ud, ud, ud, ud, ud, ud], []⟩ Tryd.func7 (by kernel_rfl) (by kernel_rfl) <| qr_ [0, 1] <| pkq (.int .i64 0) <| pkq (.int .i64 0) <| eq_ <| qr_ [0, 1, 2] <| pkq (v) <| ppq (iN l.length) (exec_len_sl (.tmp 5) 25 27 (by kernel_rfl) Tryd.underlying25 (by kernel_rfl) hl) <| ppq (.bool false) (dcf ((((l.length : Nat) : Int)) > ((64) : Int)) (by omega)) <| en_ <| s_ <| tq_ <| qr_ [0] <| pkq (.int .i64 0) ?_
  refine et_ <| bl_ 0 ?_
  refine sy_loop (qc70_0 116) (fun a V => ∃ (i : Nat) (u2 u3 u8 u9 u10 u11 u12 u13 u14 u15 u16 u17 u18 u19 u20 u21 u22 u23 u24 u25 u26 u27 u28 u29 u30 u31 u32 u33 u34 u35 u36 u37 : Value), (a = ⟨#[v, ud, u2, u3, iN i, v, iN l.length, .bool false, u8, u9, u10, u11, u12, u13, u14, u15, u16, u17, u18, u19, u20, u21, u22, u23, u24, u25, u26, u27, u28, u29, u30, u31, u32, u33, u34, u35, u36, u37], []⟩) ∧ (i ≤ l.length) ∧ (nchk (l.take i) (l.drop i) = ncheck l) ∧ (Keeps Nob w V)) (fun a _ => l.length - (intOf (a.tmps.getD 4 undef)).toNat) (by kernel_rfl) ?_ ?_
  · exact ⟨0, (.int .i64 0), (.int .i64 0), undef, undef, undef, undef, undef, undef, undef, undef, undef, undef, undef, undef, undef, undef, undef, undef, undef, undef, undef, undef, undef, undef, undef, undef, undef, undef, undef, undef, undef, undef, by kernel_rfl, by omega, (ncheck_go hs).symm, K0⟩
  · rintro a V1 ⟨i, u2, u3, u8, u9, u10, u11, u12, u13, u14, u15, u16, u17, u18, u19, u20, u21, u22, u23, u24, u25, u26, u27, u28, u29, u30, u31, u32, u33, u34, u35, u36, u37, rfl, hi, hp, K2⟩
    rcases rcheck_cases l i hi with ⟨x, lt_i, hx, hb, he⟩ | ⟨x, lt_i, hx, hb, h0, he⟩ | ⟨x, y, lt_i, hx, hb, h0, hy, ho, he⟩ | ⟨x, y, lt_i, hx, hb, h0, hy, ho, he⟩ | eq_i
    · obtain ⟨b_, o_, c_, hv_, hb_, _⟩ := ((hl.keepsN K2)).at_ i _ hx
      have hres := (nchk_stop hx he (by decide)).symm.trans hp
      refine q_ <| qr_ [0, 1, 2, 3] <| pkq (iN i) <| pkq (v) <| ppq (iN l.length) (exec_len_sl (.tmp 9) 25 27 (by kernel_rfl) Tryd.underlying25 (by kernel_rfl) (hl.keepsN K2)) <| ppq (.bool true) (dct ((((i : Nat) : Int)) < (((l.length : Nat) : Int))) (by omega)) <| ey_ <| s_ <| tq_ <| bl_ 1 <| q_ <| qr_ [0, 1, 2, 3, 4, 5] <| pkq (v) <| pkq (iN i) ?_
      refine ppq (pT b_ (o_ + i * 2)) (exec_indexAt_slice 25 (.tmp 14) (.tmp 15) (by kernel_rfl) b_ o_ l.length c_ (Eq.trans (b := v) (by kernel_rfl) hv_) .i64 i (by kernel_rfl) _ 2 Tryd.underlying25 (by kernel_rfl) (by omega)) <| ppq (.agg x.c) (exec_load_mid 27 (.tmp 16) (by kernel_rfl) b_ (o_ + i * 2) (by kernel_rfl) (Nt.cl x) _ (Sl.range (hl.keepsN K2) hx hv_) Tryd.underlying27 rfl (by kernel_rfl)) ?_
      refine pcq 24 #[.agg x.c] Tryd.func24 ((r23may_bad x _ hb).mono ?_)
      rintro e V3 ⟨rfl, kV3⟩
      refine ⟨_, rfl, ?_⟩
      have K4 := K2.nn kV3
      have z5 := kV3.size
      refine pkq (.bool true) <| ey_ <| qr_ [0, 1, 2] <| pkq (iN i) <| pkq (.int .i64 3) <| pkq (iN i) <| eu_ <| then_r <| blk_r <| then_r <| then_r <| blk_r <| then_r <| so_ (.tuple #[.int .i64 3, .int .i64 ((i : Nat) : Int)]) ?_
      exact ⟨by rw [← hres], K4⟩
    · obtain ⟨b_, o_, c_, hv_, hb_, _⟩ := ((hl.keepsN K2)).at_ i _ hx
      have hpn := (nchk_step hx he).symm.trans hp
      refine q_ <| qr_ [0, 1, 2, 3] <| pkq (iN i) <| pkq (v) <| ppq (iN l.length) (exec_len_sl (.tmp 9) 25 27 (by kernel_rfl) Tryd.underlying25 (by kernel_rfl) (hl.keepsN K2)) <| ppq (.bool true) (dct ((((i : Nat) : Int)) < (((l.length : Nat) : Int))) (by omega)) <| ey_ <| s_ <| tq_ <| bl_ 1 <| q_ <| qr_ [0, 1, 2, 3, 4, 5] <| pkq (v) <| pkq (iN i) ?_
      refine ppq (pT b_ (o_ + i * 2)) (exec_indexAt_slice 25 (.tmp 14) (.tmp 15) (by kernel_rfl) b_ o_ l.length c_ (Eq.trans (b := v) (by kernel_rfl) hv_) .i64 i (by kernel_rfl) _ 2 Tryd.underlying25 (by kernel_rfl) (by omega)) <| ppq (.agg x.c) (exec_load_mid 27 (.tmp 16) (by kernel_rfl) b_ (o_ + i * 2) (by kernel_rfl) (Nt.cl x) _ (Sl.range (hl.keepsN K2) hx hv_) Tryd.underlying27 rfl (by kernel_rfl)) ?_
      refine pcq 24 #[.agg x.c] Tryd.func24 ((r23may_good x _ hb).mono ?_)
      rintro e V6 ⟨rfl, kV6⟩
      refine ⟨_, rfl, ?_⟩
      have K7 := K2.nn kV6
      have z8 := kV6.size
      refine pkq (.bool false) <| en_ <| s_ <| tq_ <| sy_reg <| rg_still 8 15 (opsAt (qc70_0 3730)) [qo70_0 3730 0, qo70_0 3730 1, qo70_0 3730 2, qo70_0 3730 3, qo70_0 3730 4, qo70_0 3730 5, qo70_0 3730 6, qo70_0 3730 7, qo70_0 3730 8, qo70_0 3730 9, qo70_0 3730 10, qo70_0 3730 11, qo70_0 3730 12, qo70_0 3730 13, qo70_0 3730 14] [qo70_0 3730 15] (by kernel_rfl) (by kernel_rfl) (by kernel_rfl) (by kernel_rfl) (by kernel_rfl) ?_
      obtain ⟨V10, eV10, kV10⟩ := drew_step V6
      rw [eV10]
      clear eV10
      have K11 := K7.nn kV10
      have z12 := kV10.size
      refine skq (iN i) <| spq (.bool false) (dcf ((((i : Nat) : Int)) > ((0) : Int)) (by omega)) <| skq (.bool false) <| snq <| snq <| snq <| snq <| snq <| snq <| snq <| snq <| snq <| snq <| snq ?_
      refine snq <| st_end <| ls_run (qo70_0 3730 15) (.bool false) (w' := V10) (by kernel_rfl) (by kernel_rfl) <| ls_end <| sy_a ⟨#[v, ud, u2, u3, iN i, v, iN l.length, .bool false, iN i, v, iN l.length, .bool true, u12, u13, v, iN i, pT b_ (o_ + i * 2), .agg x.c, .bool true, .bool false, u20, iN i, .bool false, .bool false, ud, ud, ud, ud, ud, ud, ud, ud, ud, ud, ud, ud, .bool false, u37], []⟩ <| then_n <| n_ <| s_ <| blk_n <| tr_ [0, 1, 2] <| pkq (iN i) <| ppq (iN (i + 1)) (exec_cast (congrArg (Value.int .i64) (wrapN (i + 1) (by omega))) (by kernel_rfl)) <| pkq (iN (i + 1)) <| et_ ?_
      refine ⟨⟨i + 1, u2, u3, (iN i), v, (iN l.length), (.bool true), (iN i), (iN (i + 1)), v, (iN i), (pT b_ (o_ + i * 2)), (.agg x.c), (.bool true), (.bool false), u20, (iN i), (.bool false), (.bool false), undef, undef, undef, undef, undef, undef, undef, undef, undef, undef, undef, undef, (.bool false), u37, by kernel_rfl, by omega, hpn, K11⟩, ?_⟩
      exact lt_meas (x := l.length - (i + 1)) (y := l.length - i) (by kernel_rfl) (by kernel_rfl) (by omega)
    · obtain ⟨b_, o_, c_, hv_, hb_, _⟩ := ((hl.keepsN K2)).at_ i _ hx
      obtain ⟨b_p, o_p, c_p, hv_p, hb_p, _⟩ := ((hl.keepsN K2)).at_ (i - 1) _ hy
      have hpn := (nchk_step hx he).symm.trans hp
      refine q_ <| qr_ [0, 1, 2, 3] <| pkq (iN i) <| pkq (v) <| ppq (iN l.length) (exec_len_sl (.tmp 9) 25 27 (by kernel_rfl) Tryd.underlying25 (by kernel_rfl) (hl.keepsN K2)) <| ppq (.bool true) (dct ((((i : Nat) : Int)) < (((l.length : Nat) : Int))) (by omega)) <| ey_ <| s_ <| tq_ <| bl_ 1 <| q_ <| qr_ [0, 1, 2, 3, 4, 5] <| pkq (v) <| pkq (iN i) ?_
      refine ppq (pT b_ (o_ + i * 2)) (exec_indexAt_slice 25 (.tmp 14) (.tmp 15) (by kernel_rfl) b_ o_ l.length c_ (Eq.trans (b := v) (by kernel_rfl) hv_) .i64 i (by kernel_rfl) _ 2 Tryd.underlying25 (by kernel_rfl) (by omega)) <| ppq (.agg x.c) (exec_load_mid 27 (.tmp 16) (by kernel_rfl) b_ (o_ + i * 2) (by kernel_rfl) (Nt.cl x) _ (Sl.range (hl.keepsN K2) hx hv_) Tryd.underlying27 rfl (by kernel_rfl)) ?_
      refine pcq 24 #[.agg x.c] Tryd.func24 ((r23may_good x _ hb).mono ?_)
      rintro e V13 ⟨rfl, kV13⟩
      refine ⟨_, rfl, ?_⟩
      have K14 := K2.nn kV13
      have z15 := kV13.size
      refine pkq (.bool false) <| en_ <| s_ <| tq_ <| sy_reg <| rg_still 8 15 (opsAt (qc70_0 3730)) [qo70_0 3730 0, qo70_0 3730 1, qo70_0 3730 2, qo70_0 3730 3, qo70_0 3730 4, qo70_0 3730 5, qo70_0 3730 6, qo70_0 3730 7, qo70_0 3730 8, qo70_0 3730 9, qo70_0 3730 10, qo70_0 3730 11, qo70_0 3730 12, qo70_0 3730 13, qo70_0 3730 14] [qo70_0 3730 15] (by kernel_rfl) (by kernel_rfl) (by kernel_rfl) (by kernel_rfl) (by kernel_rfl) ?_
      obtain ⟨V17, eV17, kV17⟩ := drew_step V13
      rw [eV17]
      clear eV17
      have K18 := K14.nn kV17
      have z19 := kV17.size
      refine skq (iN i) <| spq (.bool true) (dct ((((i : Nat) : Int)) > ((0) : Int)) (by omega)) <| skq (.bool true) <| skq (v) <| skq (iN i) <| spq (pT b_ (o_ + i * 2)) (exec_indexAt_slice 25 (.tmp 24) (.tmp 25) (by kernel_rfl) b_ o_ l.length c_ (Eq.trans (b := v) (by kernel_rfl) hv_) .i64 i (by kernel_rfl) _ 2 Tryd.underlying25 (by kernel_rfl) (by omega)) <| skq (pT b_ (o_ + i * 2 + 0)) <| spq (.int .i64 x.h) (ldc 3 b_ (o_ + i * 2 + 0) (Sl.cell (hl.keepsN K18) hx hv_ rfl)) <| skq (v) <| skq (iN i) <| spq (iN ((i - 1))) (exec_cast (congrArg (Value.int .i64) (wrapI (((i : Nat) : Int) - 1) ((i - 1 : Nat) : Int) (by omega) (by omega) (by omega))) (by kernel_rfl)) <| spq (.pointer (some ⟨b_p, o_p + ((i - 1)) * 2, none⟩)) (exec_indexAt_slice 25 (.tmp 29) (.tmp 31) (by kernel_rfl) b_p o_p l.length c_p (Eq.trans (b := v) (by kernel_rfl) hv_p) .i64 ((i - 1)) (by kernel_rfl) _ 2 Tryd.underlying25 (by kernel_rfl) (by omega)) <| skq (.pointer (some ⟨b_p, o_p + ((i - 1)) * 2 + 0, none⟩)) <| spq (.int .i64 y.h) (exec_ld 3 (.tmp 33) b_p (o_p + ((i - 1)) * 2 + 0) Tryd.underlying3 (Sl.cell (hl.keepsN K18) hy hv_p rfl)) ?_
      refine spq (.bool false) (dcf (((x.h) : Int) < ((y.h) : Int)) (by omega)) <| st_end <| ls_run (qo70_0 3730 15) (.bool false) (w' := V17) (by kernel_rfl) (by kernel_rfl) <| ls_end <| sy_a ⟨#[v, ud, u2, u3, iN i, v, iN l.length, .bool false, iN i, v, iN l.length, .bool true, u12, u13, v, iN i, pT b_ (o_ + i * 2), .agg x.c, .bool true, .bool false, u20, iN i, .bool true, .bool true, v, iN i, pT b_ (o_ + i * 2), pT b_ (o_ + i * 2 + 0), .int .i64 x.h, v, iN i, iN ((i - 1)), .pointer (some ⟨b_p, o_p + ((i - 1)) * 2, none⟩), .pointer (some ⟨b_p, o_p + ((i - 1)) * 2 + 0, none⟩), .int .i64 y.h, .bool false, .bool false, u37], []⟩ <| then_n <| n_ <| s_ <| blk_n <| tr_ [0, 1, 2] <| pkq (iN i) <| ppq (iN (i + 1)) (exec_cast (congrArg (Value.int .i64) (wrapN (i + 1) (by omega))) (by kernel_rfl)) <| pkq (iN (i + 1)) <| et_ ?_
      refine ⟨⟨i + 1, u2, u3, (iN i), v, (iN l.length), (.bool true), (iN i), (iN (i + 1)), v, (iN i), (pT b_ (o_ + i * 2)), (.agg x.c), (.bool true), (.bool false), u20, (iN i), (.bool true), (.bool true), v, (iN i), (pT b_ (o_ + i * 2)), (pT b_ (o_ + i * 2 + 0)), (.int .i64 x.h), v, (iN i), (iN ((i - 1))), (.pointer (some ⟨b_p, o_p + ((i - 1)) * 2, none⟩)), (.pointer (some ⟨b_p, o_p + ((i - 1)) * 2 + 0, none⟩)), (.int .i64 y.h), (.bool false), (.bool false), u37, by kernel_rfl, by omega, hpn, K18⟩, ?_⟩
      exact lt_meas (x := l.length - (i + 1)) (y := l.length - i) (by kernel_rfl) (by kernel_rfl) (by omega)
    · obtain ⟨b_, o_, c_, hv_, hb_, _⟩ := ((hl.keepsN K2)).at_ i _ hx
      obtain ⟨b_p, o_p, c_p, hv_p, hb_p, _⟩ := ((hl.keepsN K2)).at_ (i - 1) _ hy
      have hres := (nchk_stop hx he (by decide)).symm.trans hp
      refine q_ <| qr_ [0, 1, 2, 3] <| pkq (iN i) <| pkq (v) <| ppq (iN l.length) (exec_len_sl (.tmp 9) 25 27 (by kernel_rfl) Tryd.underlying25 (by kernel_rfl) (hl.keepsN K2)) <| ppq (.bool true) (dct ((((i : Nat) : Int)) < (((l.length : Nat) : Int))) (by omega)) <| ey_ <| s_ <| tq_ <| bl_ 1 <| q_ <| qr_ [0, 1, 2, 3, 4, 5] <| pkq (v) <| pkq (iN i) ?_
      refine ppq (pT b_ (o_ + i * 2)) (exec_indexAt_slice 25 (.tmp 14) (.tmp 15) (by kernel_rfl) b_ o_ l.length c_ (Eq.trans (b := v) (by kernel_rfl) hv_) .i64 i (by kernel_rfl) _ 2 Tryd.underlying25 (by kernel_rfl) (by omega)) <| ppq (.agg x.c) (exec_load_mid 27 (.tmp 16) (by kernel_rfl) b_ (o_ + i * 2) (by kernel_rfl) (Nt.cl x) _ (Sl.range (hl.keepsN K2) hx hv_) Tryd.underlying27 rfl (by kernel_rfl)) ?_
      refine pcq 24 #[.agg x.c] Tryd.func24 ((r23may_good x _ hb).mono ?_)
      rintro e V20 ⟨rfl, kV20⟩
      refine ⟨_, rfl, ?_⟩
      have K21 := K2.nn kV20
      have z22 := kV20.size
      refine pkq (.bool false) <| en_ <| s_ <| tq_ <| sy_reg <| rg_still 8 15 (opsAt (qc70_0 3730)) [qo70_0 3730 0, qo70_0 3730 1, qo70_0 3730 2, qo70_0 3730 3, qo70_0 3730 4, qo70_0 3730 5, qo70_0 3730 6, qo70_0 3730 7, qo70_0 3730 8, qo70_0 3730 9, qo70_0 3730 10, qo70_0 3730 11, qo70_0 3730 12, qo70_0 3730 13, qo70_0 3730 14] [qo70_0 3730 15] (by kernel_rfl) (by kernel_rfl) (by kernel_rfl) (by kernel_rfl) (by kernel_rfl) ?_
      obtain ⟨V24, eV24, kV24⟩ := drew_step V20
      rw [eV24]
      clear eV24
      have K25 := K21.nn kV24
      have z26 := kV24.size
      refine skq (iN i) <| spq (.bool true) (dct ((((i : Nat) : Int)) > ((0) : Int)) (by omega)) <| skq (.bool true) <| skq (v) <| skq (iN i) <| spq (pT b_ (o_ + i * 2)) (exec_indexAt_slice 25 (.tmp 24) (.tmp 25) (by kernel_rfl) b_ o_ l.length c_ (Eq.trans (b := v) (by kernel_rfl) hv_) .i64 i (by kernel_rfl) _ 2 Tryd.underlying25 (by kernel_rfl) (by omega)) <| skq (pT b_ (o_ + i * 2 + 0)) <| spq (.int .i64 x.h) (ldc 3 b_ (o_ + i * 2 + 0) (Sl.cell (hl.keepsN K25) hx hv_ rfl)) <| skq (v) <| skq (iN i) <| spq (iN ((i - 1))) (exec_cast (congrArg (Value.int .i64) (wrapI (((i : Nat) : Int) - 1) ((i - 1 : Nat) : Int) (by omega) (by omega) (by omega))) (by kernel_rfl)) <| spq (.pointer (some ⟨b_p, o_p + ((i - 1)) * 2, none⟩)) (exec_indexAt_slice 25 (.tmp 29) (.tmp 31) (by kernel_rfl) b_p o_p l.length c_p (Eq.trans (b := v) (by kernel_rfl) hv_p) .i64 ((i - 1)) (by kernel_rfl) _ 2 Tryd.underlying25 (by kernel_rfl) (by omega)) <| skq (.pointer (some ⟨b_p, o_p + ((i - 1)) * 2 + 0, none⟩)) <| spq (.int .i64 y.h) (exec_ld 3 (.tmp 33) b_p (o_p + ((i - 1)) * 2 + 0) Tryd.underlying3 (Sl.cell (hl.keepsN K25) hy hv_p rfl)) ?_
      refine spq (.bool true) (dct (((x.h) : Int) < ((y.h) : Int)) (by omega)) <| st_end <| ls_run (qo70_0 3730 15) (.bool true) (w' := V24) (by kernel_rfl) (by kernel_rfl) <| ls_end <| sy_a ⟨#[v, ud, u2, u3, iN i, v, iN l.length, .bool false, iN i, v, iN l.length, .bool true, u12, u13, v, iN i, pT b_ (o_ + i * 2), .agg x.c, .bool true, .bool false, u20, iN i, .bool true, .bool true, v, iN i, pT b_ (o_ + i * 2), pT b_ (o_ + i * 2 + 0), .int .i64 x.h, v, iN i, iN ((i - 1)), .pointer (some ⟨b_p, o_p + ((i - 1)) * 2, none⟩), .pointer (some ⟨b_p, o_p + ((i - 1)) * 2 + 0, none⟩), .int .i64 y.h, .bool true, .bool true, u37], []⟩ <| then_n <| y_ <| qr_ [0, 1, 2] <| pkq (iN i) <| pkq (.int .i64 9) <| pkq (iN i) <| eu_ <| blk_r <| then_r ?_
      refine then_r <| blk_r <| then_r <| so_ (.tuple #[.int .i64 9, .int .i64 ((i : Nat) : Int)]) ?_
      exact ⟨by rw [← hres], K25⟩
    · have hres := (nchk_end eq_i).symm.trans hp
      refine q_ <| qr_ [0, 1, 2, 3] <| pkq (iN i) <| pkq (v) <| ppq (iN l.length) (exec_len_sl (.tmp 9) 25 27 (by kernel_rfl) Tryd.underlying25 (by kernel_rfl) (hl.keepsN K2)) <| ppq (.bool false) (dcf ((((i : Nat) : Int)) < (((l.length : Nat) : Int))) (by omega)) <| en_ <| sy_exit 0 (by kernel_rfl) <| then_e <| then_e <| blk_e <| tqr_ [0, 1] <| pkq (.int .i64 0) <| pkq (.int .i64 0) ?_
      refine eu_ <| so_ (.tuple #[.int .i64 0, .int .i64 0]) ?_
      exact ⟨by rw [← hres], K2⟩
theorem r23Check_ok (l : List Nt) (v : Value) (w : World) (hl : Sl w 2 Nt.cl v l) : Calls Tryd.prog 7 #[v] w (fun e w' => e = .returned (.tuple #[.int .i64 (ncheck l).1, .int .i64 (ncheck l).2]) ∧ Keeps Nob w w') := by
  by_cases h : 64 < l.length
  · exact r23Check_long l v w hl h
  · exact r23Check_go l v w hl h
theorem r23Check_is (l : List Nt) (v : Value) (x : Int) (w : World) (hl : Sl w 2 Nt.cl v l) (hx : (ncheck l).1 = x) : Calls Tryd.prog 7 #[v] w (fun e w' => e = .returned (.tuple #[.int .i64 x, .int .i64 (ncheck l).2]) ∧ Keeps Nob w w') := hx ▸ r23Check_ok l v w hl
end Go.Proofs.YtghohakbepeffaaDoor
namespace Go.Proofs.YtghohakbepeffaaDoor
set_option maxRecDepth 100000
set_option maxHeartbeats 4000000
/-- Two words for a number. -/
def W2 (hi lo x : Nat) : Prop := hi * 18446744073709551616 + lo = x ∧ lo < 18446744073709551616
theorem w2_mk {hi lo x y : Nat} (e : x = y) (h : W2 hi lo y) : W2 hi lo x := e ▸ h
theorem dbl0 (hi lo : Nat) : W2 (2 * hi + lo / 9223372036854775808) (2 * lo % 18446744073709551616) (2 * (hi * 18446744073709551616 + lo)) := ⟨by omega, by omega⟩
theorem dbl1 (hi lo b : Nat) (hl : lo < 18446744073709551616) (hb : b < 18446744073709551616) : W2 (2 * hi + lo / 9223372036854775808 + (if 18446744073709551616 ≤ 2 * lo % 18446744073709551616 + b then 1 else 0)) ((2 * lo % 18446744073709551616 + b) % 18446744073709551616) (2 * (hi * 18446744073709551616 + lo) + b) := by
  refine ⟨?_, by omega⟩
  split <;> omega
theorem half_pow (a i : Nat) : a / 2 ^ i = 2 * (a / 2 ^ (i + 1)) + a / 2 ^ i % 2 := by
  rw [Nat.pow_succ, ← Nat.div_div_eq_div_mul]; omega
theorem wide_begin {a b : Nat} (ha : a < 18446744073709551616) : W2 0 0 (a / 2 ^ 64 * b) := by
  have : a / 2 ^ 64 = 0 := Nat.div_eq_of_lt ha
  rw [this]; exact ⟨by simp, by decide⟩
theorem wide_room {a b i hi lo : Nat} (ha : a < 18446744073709551616) (hb : b < 18446744073709551616) (h : W2 hi lo (a / 2 ^ i * b)) : hi < 18446744073709551616 := by
  obtain ⟨h1, h2⟩ := h
  have h3 : a / 2 ^ i * b < 18446744073709551616 * 18446744073709551616 := Nat.mul_lt_mul_of_lt_of_lt (Nat.lt_of_le_of_lt (Nat.div_le_self _ _) ha) hb
  omega
/-- A bit of a, and the words doubled: a bit that is not there. -/
theorem wide_zero {a b i hi lo : Nat} (h : W2 hi lo (a / 2 ^ (i + 1) * b)) (h0 : a / 2 ^ i % 2 = 0) : W2 (2 * hi + lo / 9223372036854775808) (2 * lo % 18446744073709551616) (a / 2 ^ i * b) := by
  obtain ⟨h1, h2⟩ := h
  have e := half_pow a i
  have e2 : a / 2 ^ i * b = 2 * (hi * 18446744073709551616 + lo) := by rw [e, h0, Nat.add_zero, Nat.mul_assoc, ← h1]
  exact w2_mk e2 (dbl0 hi lo)
theorem wide_one {a b i hi lo : Nat} (h : W2 hi lo (a / 2 ^ (i + 1) * b)) (h0 : a / 2 ^ i % 2 = 1) (hb : b < 18446744073709551616) :
    W2 (2 * hi + lo / 9223372036854775808 + (if 18446744073709551616 ≤ 2 * lo % 18446744073709551616 + b then 1 else 0)) ((2 * lo % 18446744073709551616 + b) % 18446744073709551616) (a / 2 ^ i * b) := by
  obtain ⟨h1, h2⟩ := h
  have e := half_pow a i
  have e2 : a / 2 ^ i * b = 2 * (hi * 18446744073709551616 + lo) + b := by rw [e, h0, Nat.add_mul, Nat.one_mul, Nat.mul_assoc, ← h1]
  exact w2_mk e2 (dbl1 hi lo b h2 hb)
/-- A quotient's state: what is left, the number, is it over. -/
structure Dv (X c i left n : Nat) (over : Bool) : Prop where
  l : left = X / 2 ^ i % c
  n : n = X / 2 ^ i / c % 18446744073709551616
  o : over = decide (18446744073709551616 ≤ X / 2 ^ i / c)
theorem Dv.begin {X c : Nat} (hc : 0 < c) (hX : X < 340282366920938463463374607431768211456) : Dv X c 128 0 0 false := by
  have h : X / 2 ^ 128 = 0 := Nat.div_eq_of_lt (by simpa using hX)
  exact ⟨by rw [h, Nat.zero_mod], by rw [h, Nat.zero_div], by rw [h, Nat.zero_div]; rfl⟩
theorem bit_low {hi lo X i : Nat} (h : W2 hi lo X) (hi64 : i < 64) : lo / 2 ^ i % 2 = X / 2 ^ i % 2 := by
  obtain ⟨h1, h2⟩ := h
  have e : (18446744073709551616 : Nat) = 2 ^ i * (2 * 2 ^ (63 - i)) := by
    rw [← Nat.pow_succ', ← Nat.pow_add, show i + (63 - i).succ = 64 by omega]
  rw [← h1, Nat.add_comm, e, Nat.mul_comm hi, Nat.mul_assoc, Nat.add_mul_div_left _ _ (Nat.pow_pos (by decide)), Nat.mul_assoc, Nat.add_mul_mod_self_left]
theorem bit_high {hi lo X i : Nat} (h : W2 hi lo X) (hi64 : 64 ≤ i) : hi / 2 ^ (i - 64) % 2 = X / 2 ^ i % 2 := by
  obtain ⟨h1, h2⟩ := h
  have e : hi = X / 2 ^ 64 := by rw [← h1]; simp only [Nat.reducePow]; omega
  rw [e, Nat.div_div_eq_div_mul, ← Nat.pow_add, show 64 + (i - 64) = i by omega]
/-- One bit more. -/
theorem Dv.step {X c i left n t : Nat} {over : Bool} (h : Dv X c (i + 1) left n over) (hc : 0 < c) (hc2 : c < 18446744073709551616) (ht : t = X / 2 ^ i % 2) :
    left < c ∧ t ≤ 1 ∧ n < 18446744073709551616 ∧ (2 * left + t < c → Dv X c i (2 * left + t) (2 * n % 18446744073709551616) (over || decide (9223372036854775808 ≤ n))) ∧
    (c ≤ 2 * left + t → Dv X c i (2 * left + t - c) (2 * n % 18446744073709551616 + 1) (over || decide (9223372036854775808 ≤ n))) := by
  obtain ⟨h1, h2, h3⟩ := h
  have hl : left < c := by rw [h1]; exact Nat.mod_lt _ hc
  have ht1 : t ≤ 1 := by rw [ht]; omega
  have e := half_pow X i
  rw [← ht] at e
  generalize X / 2 ^ (i + 1) = Y at *
  have q : Y = c * (Y / c) + left := by rw [h1]; exact (Nat.div_add_mod Y c).symm
  generalize hQ : Y / c = Q at *
  have hm : c * (2 * Q) = 2 * (c * Q) := by rw [Nat.mul_left_comm]
  have hm1 : c * (2 * Q + 1) = 2 * (c * Q) + c := by rw [Nat.mul_add, hm, Nat.mul_one]
  refine ⟨hl, ht1, by rw [h2]; exact Nat.mod_lt _ (by decide), fun g => ?_, fun g => ?_⟩
  · have e2 : X / 2 ^ i = c * (2 * Q) + (2 * left + t) := by rw [e, hm]; omega
    have d : X / 2 ^ i / c = 2 * Q := by rw [e2, Nat.mul_add_div hc, Nat.div_eq_of_lt g, Nat.add_zero]
    refine ⟨?_, ?_, ?_⟩
    · rw [e2, Nat.mul_add_mod, Nat.mod_eq_of_lt g]
    · rw [d, h2]; omega
    · rw [d, h3, h2, ← Bool.decide_or]
      exact decide_eq_decide.2 (by omega)
  · have e2 : X / 2 ^ i = c * (2 * Q + 1) + (2 * left + t - c) := by rw [e, hm1]; omega
    have g2 : 2 * left + t - c < c := by omega
    have d : X / 2 ^ i / c = 2 * Q + 1 := by rw [e2, Nat.mul_add_div hc, Nat.div_eq_of_lt g2, Nat.add_zero]
    refine ⟨?_, ?_, ?_⟩
    · rw [e2, Nat.mul_add_mod, Nat.mod_eq_of_lt g2]
    · rw [d, h2]; omega
    · rw [d, h3, h2, ← Bool.decide_or]
      exact decide_eq_decide.2 (by omega)
theorem Dv.fin {X c left n : Nat} {over : Bool} (h : Dv X c 0 left n over) : n = X / c % 18446744073709551616 ∧ over = decide (18446744073709551616 ≤ X / c) := by
  obtain ⟨_, h2, h3⟩ := h
  rw [Nat.pow_zero, Nat.div_one] at h2 h3
  exact ⟨h2, h3⟩
/-- The quotient, cut. -/
theorem cap_over {most X c n : Nat} (hn : n = X / c % 18446744073709551616) (hm : most < 18446744073709551616) (h : 18446744073709551616 ≤ X / c ∨ most < n) : min most (X / c) = most := by
  generalize X / c = Q at *
  omega
theorem cap_in {most X c n : Nat} (hn : n = X / c % 18446744073709551616) (h : ¬ 18446744073709551616 ≤ X / c) (h2 : ¬ most < n) : min most (X / c) = n := by
  generalize X / c = Q at *
  omega
end Go.Proofs.YtghohakbepeffaaDoor
