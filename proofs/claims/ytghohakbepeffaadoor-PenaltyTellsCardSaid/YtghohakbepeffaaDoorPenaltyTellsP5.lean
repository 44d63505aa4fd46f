import Derived.Test.YtghohakbepeffaaDoorPenaltyTellsP4
namespace Go.Proofs.YtghohakbepeffaaDoor
set_option maxRecDepth 100000
set_option maxHeartbeats 4000000
open Go Go.RowKit Go.Own Go.Shelf
theorem wide_one1 {a b i hi lo : Nat} (h : W2 hi lo (a / 2 ^ (i + 1) * b)) (h0 : a / 2 ^ i % 2 = 1) (hb : b < 18446744073709551616) (hc : 18446744073709551616 ≤ 2 * lo % 18446744073709551616 + b) : W2 (2 * hi + lo / 9223372036854775808 + 1) ((2 * lo % 18446744073709551616 + b) % 18446744073709551616) (a / 2 ^ i * b) := by
  have := wide_one h h0 hb; rwa [if_pos hc] at this
theorem wide_one0 {a b i hi lo : Nat} (h : W2 hi lo (a / 2 ^ (i + 1) * b)) (h0 : a / 2 ^ i % 2 = 1) (hb : b < 18446744073709551616) (hc : ¬ 18446744073709551616 ≤ 2 * lo % 18446744073709551616 + b) : W2 (2 * hi + lo / 9223372036854775808) ((2 * lo % 18446744073709551616 + b) % 18446744073709551616) (a / 2 ^ i * b) := by
  have := wide_one h h0 hb; rwa [if_neg hc, Nat.add_zero] at this
theorem shr63 (x : Nat) : x >>> 63 = x / 9223372036854775808 := Nat.shiftRight_eq_div_pow x 63
theorem sub_any {x z r : Nat} (h : x = r + z ∨ x + 18446744073709551616 = r + z) (hr : r < 18446744073709551616) : IntKind.u64.wrap (((x : Nat) : Int) - ((z : Nat) : Int)) = ((r : Nat) : Int) := by rw [IntKind.wrap_u64]; omega
theorem int_down (kk : Int) (h : -1 ≤ kk) : kk = -1 ∨ ∃ j : Nat, kk = (j : Int) := by
  rcases Int.lt_or_le kk 0 with q | q
  · exact .inl (by omega)
  · exact .inr ⟨kk.toNat, by omega⟩
noncomputable def qc72_2 (n : Nat) : Code := partOf Tryd.f54 n
theorem r01Wide_ok (a0 b0 : Nat) (ha : a0 < 18446744073709551616) (hb : b0 < 18446744073709551616) (w : World) :
    Calls Tryd.prog 54 #[.int .u64 ((a0 : Nat) : Int), .int .u64 ((b0 : Nat) : Int)] w (fun e w' => ∃ hi lo : Nat, e = .returned (.tuple #[.int .u64 ((hi : Nat) : Int), .int .u64 ((lo : Nat) : Int)]) ∧ W2 hi lo (a0 * b0) ∧ Keeps Nob w w') := by
  have K0 : Keeps Nob w w := Keeps.refl _ _
  refine sy_enter (qc72_2 1) ⟨#[uN a0, uN b0, ud, ud, ud, ud, ud, ud, ud, ud, ud, ud, ud, ud, ud, ud, ud, ud, ud, ud, ud, ud, ud, ud, ud, ud, ud, ud, ud, ud, ud, ud, ud, ud, ud, ud, ud], []⟩ Tryd.func54 (by kernel_rfl) (by kernel_rfl) <| qr_ [0, 1] <| pkq (.int .u64 0) <| pkq (.int .u64 0) <| eqr_ [0, 1] <| pkq (.int .u64 0) <| pkq (.int .u64 0) <| eq_ <| qr_ [0] <| pkq (.int .i64 63) <| et_ <| bl_ 0 ?_
  refine sy_loop (qc72_2 116) (fun a V => ∃ (kk : Int) (hi : Nat) (lo : Nat) (u9 u10 u11 u12 u13 u14 u15 u16 u17 u18 u19 u20 u21 u22 u23 u24 u25 u26 u27 u28 u29 u30 u31 u32 u33 u34 : Value), (a = ⟨#[uN a0, uN b0, ud, ud, .int .u64 0, .int .u64 0, uN hi, uN lo, .int .i64 kk, u9, u10, u11, u12, u13, u14, u15, u16, u17, u18, u19, u20, u21, u22, u23, u24, u25, u26, u27, u28, u29, u30, u31, u32, u33, u34, ud, ud], []⟩) ∧ (-1 ≤ kk ∧ kk ≤ 63) ∧ (W2 hi lo (a0 / 2 ^ (kk + 1).toNat * b0)) ∧ (Keeps Nob w V)) (fun a _ => (intOf (a.tmps.getD 8 undef) + 1).toNat) (by kernel_rfl) ?_ ?_
  · exact ⟨63, 0, 0, undef, undef, undef, undef, undef, undef, undef, undef, undef, undef, undef, undef, undef, undef, undef, undef, undef, undef, undef, undef, undef, undef, undef, undef, undef, undef, by kernel_rfl, by omega, wide_begin ha, K0⟩
  · rintro a V1 ⟨kk, hi, lo, u9, u10, u11, u12, u13, u14, u15, u16, u17, u18, u19, u20, u21, u22, u23, u24, u25, u26, u27, u28, u29, u30, u31, u32, u33, u34, rfl, hk, hw, K2⟩
    rcases (show kk = -1 ∨ (∃ j : Nat, kk = (j : Int) ∧ a0 / 2 ^ j % 2 = 0) ∨ (∃ j : Nat, kk = (j : Int) ∧ a0 / 2 ^ j % 2 = 1 ∧ ¬ 18446744073709551616 ≤ 2 * lo % 18446744073709551616 + b0) ∨ (∃ j : Nat, kk = (j : Int) ∧ a0 / 2 ^ j % 2 = 1 ∧ 18446744073709551616 ≤ 2 * lo % 18446744073709551616 + b0) by
        rcases int_down kk hk.1 with q | ⟨j, q⟩
        · exact .inl q
        · rcases Nat.mod_two_eq_zero_or_one (a0 / 2 ^ j) with g1 | g1
          · exact .inr (.inl ⟨j, q, g1⟩)
          · by_cases g2 : 18446744073709551616 ≤ 2 * lo % 18446744073709551616 + b0
            · exact .inr (.inr (.inr ⟨j, q, g1, g2⟩))
            · exact .inr (.inr (.inl ⟨j, q, g1, g2⟩))) with hk0 | ⟨j, hkj, hbit⟩ | ⟨j, hkj, hbit, hcar⟩ | ⟨j, hkj, hbit, hcar⟩
    · have hfin : W2 hi lo (a0 * b0) := by rw [show (kk + 1).toNat = 0 by omega, Nat.pow_zero, Nat.div_one] at hw; exact hw
      refine q_ <| qr_ [0, 1] <| pkq (.int .i64 kk) <| ppq (.bool false) (dcf ((0 : Int) ≤ kk) (by omega)) <| en_ <| sy_exit 0 (by kernel_rfl) <| then_e <| then_e <| blk_e <| tqr_ [0, 1, 2, 3] <| pkq (uN hi) <| pkq (uN lo) <| pkq (uN hi) <| pkq (uN lo) ?_
      refine eu_ <| so_ (.tuple #[.int .u64 ((hi : Nat) : Int), .int .u64 ((lo : Nat) : Int)]) ?_
      exact ⟨_, _, rfl, hfin, K2⟩
    · have hwn := wide_zero (by rw [hkj, show (((j : Nat) : Int) + 1).toNat = j + 1 by omega] at hw; exact hw) hbit
      subst hkj
      have hw1 : W2 hi lo (a0 / 2 ^ (j + 1) * b0) := by rw [show (((j : Nat) : Int) + 1).toNat = j + 1 by omega] at hw; exact hw
      obtain ⟨h2, hh2⟩ : ∃ x, 2 * hi = x := ⟨_, rfl⟩
      obtain ⟨t, ht⟩ : ∃ x, lo >>> 63 = x := ⟨_, rfl⟩
      have ht2 : lo / 9223372036854775808 = t := by rw [← ht, shr63]
      obtain ⟨h3, hh3⟩ : ∃ x, h2 + t = x := ⟨_, rfl⟩
      obtain ⟨l2, hl2⟩ : ∃ x, 2 * lo % 18446744073709551616 = x := ⟨_, rfl⟩
      obtain ⟨aj, haj⟩ : ∃ x, a0 >>> j = x := ⟨_, rfl⟩
      have haj2 : a0 / 2 ^ j = aj := by rw [← haj, Nat.shiftRight_eq_div_pow]
      have hajl : aj < 18446744073709551616 := by rw [← haj2]; exact Nat.lt_of_le_of_lt (Nat.div_le_self _ _) ha
      obtain ⟨bt, hbt⟩ : ∃ x, aj % 2 = x := ⟨_, rfl⟩
      rw [haj2, hbt] at hbit
      rw [hh2, ht2, hh3, hl2] at hwn
      have hroom := wide_room ha hb hwn
      have hwn2 : W2 h3 l2 (a0 / 2 ^ ((((j : Nat) : Int) - 1 + 1).toNat) * b0) := by rw [show (((j : Nat) : Int) - 1 + 1).toNat = j by omega]; exact hwn
      refine q_ <| qr_ [0, 1] <| pkq (iN j) <| ppq (.bool true) (dct ((0 : Int) ≤ ((j : Nat) : Int)) (by omega)) <| ey_ <| s_ <| tq_ <| bl_ 1 <| qr_ [0, 1, 2, 3, 4, 5] <| pkq (uN hi) <| ppq (uN h2) (exec_cast (congrArg (Value.int .u64) ((wrapU (2 * hi) (by omega)).trans (congrArg (fun n : Nat => (n : Int)) hh2))) (by kernel_rfl)) <| pkq (uN lo) <| ppq (uN t) (exec_cast (congrArg (fun n : Nat => Value.int .u64 (n : Int)) ht) (exec_binop .shr 22 96 (.tmp 15) (.const (.int .u64 63)) (by kernel_rfl) (uN lo) (uN 63) _ (by kernel_rfl) (by kernel_rfl) (by kernel_rfl) (run_shrU _ _ lo 63 (by omega)))) <| ppq (uN h3) (exec_cast (congrArg (Value.int .u64) ((wrapU (h2 + t) (by omega)).trans (congrArg (fun n : Nat => (n : Int)) hh3))) (by kernel_rfl)) ?_
      refine pkq (uN h3) <| eqr_ [0, 1, 2] <| pkq (uN lo) <| ppq (uN l2) (exec_cast (congrArg (Value.int .u64) ((wrapM (2 * lo)).trans (congrArg (fun n : Nat => (n : Int)) hl2))) (by kernel_rfl)) <| pkq (uN l2) <| eqr_ [0, 1, 2, 3, 4] <| pkq (uN a0) <| pkq (iN j) <| ppq (uN aj) (exec_cast (congrArg (fun n : Nat => Value.int .u64 (n : Int)) haj) (exec_binop .shr 22 3 (.tmp 20) (.tmp 21) (by kernel_rfl) (uN a0) (iN j) _ (by kernel_rfl) (by kernel_rfl) (by kernel_rfl) (run_shrU _ _ a0 j (by omega)))) <| ppq (uN bt) (exec_cast (congrArg (fun n : Nat => Value.int .u64 (n : Int)) hbt) (exec_remU 22 22 (.tmp 22) (.const (.int .u64 2)) (by kernel_rfl) aj 2 (by kernel_rfl) (by kernel_rfl) (by decide) (by omega))) <| ppq (.bool false) (eqf (((bt : Nat) : Int)) ((1) : Int) (by omega)) <| en_ <| s_ <| blk_n ?_
      refine tr_ [0, 1, 2] <| pkq (iN j) <| ppq (.int .i64 (((j : Nat) : Int) - 1)) (exec_cast (congrArg (Value.int .i64) (wrapI (((j : Nat) : Int) - 1) _ rfl (by omega) (by omega))) (by kernel_rfl)) <| pkq (.int .i64 (((j : Nat) : Int) - 1)) <| et_ ?_
      refine ⟨⟨((j : Nat) : Int) - 1, h3, l2, (iN j), (.bool true), (iN j), (.int .i64 (((j : Nat) : Int) - 1)), (uN hi), (uN h2), (uN lo), (uN t), (uN h3), (uN lo), (uN l2), (uN a0), (iN j), (uN aj), (uN bt), (.bool false), u25, u26, u27, u28, u29, u30, u31, u32, u33, u34, by kernel_rfl, by omega, hwn2, K2⟩, ?_⟩
      exact lt_meas (x := (((j : Nat) : Int) - 1 + 1).toNat) (y := (((j : Nat) : Int) + 1).toNat) (by kernel_rfl) (by kernel_rfl) (by omega)
    · have hwn := wide_one0 (by rw [hkj, show (((j : Nat) : Int) + 1).toNat = j + 1 by omega] at hw; exact hw) hbit hb hcar
      subst hkj
      have hw1 : W2 hi lo (a0 / 2 ^ (j + 1) * b0) := by rw [show (((j : Nat) : Int) + 1).toNat = j + 1 by omega] at hw; exact hw
      obtain ⟨h2, hh2⟩ : ∃ x, 2 * hi = x := ⟨_, rfl⟩
      obtain ⟨t, ht⟩ : ∃ x, lo >>> 63 = x := ⟨_, rfl⟩
      have ht2 : lo / 9223372036854775808 = t := by rw [← ht, shr63]
      obtain ⟨h3, hh3⟩ : ∃ x, h2 + t = x := ⟨_, rfl⟩
      obtain ⟨l2, hl2⟩ : ∃ x, 2 * lo % 18446744073709551616 = x := ⟨_, rfl⟩
      obtain ⟨aj, haj⟩ : ∃ x, a0 >>> j = x := ⟨_, rfl⟩
      have haj2 : a0 / 2 ^ j = aj := by rw [← haj, Nat.shiftRight_eq_div_pow]
      have hajl : aj < 18446744073709551616 := by rw [← haj2]; exact Nat.lt_of_le_of_lt (Nat.div_le_self _ _) ha
      obtain ⟨bt, hbt⟩ : ∃ x, aj % 2 = x := ⟨_, rfl⟩
      rw [haj2, hbt] at hbit
      obtain ⟨l3, hl3⟩ : ∃ x, (l2 + b0) % 18446744073709551616 = x := ⟨_, rfl⟩
      rw [hh2, ht2, hh3, hl2, hl3] at hwn
      rw [hl2] at hcar
      have hroom := wide_room ha hb hwn
      have hwn2 : W2 h3 l3 (a0 / 2 ^ ((((j : Nat) : Int) - 1 + 1).toNat) * b0) := by rw [show (((j : Nat) : Int) - 1 + 1).toNat = j by omega]; exact hwn
      refine q_ <| qr_ [0, 1] <| pkq (iN j) <| ppq (.bool true) (dct ((0 : Int) ≤ ((j : Nat) : Int)) (by omega)) <| ey_ <| s_ <| tq_ <| bl_ 1 <| qr_ [0, 1, 2, 3, 4, 5] <| pkq (uN hi) <| ppq (uN h2) (exec_cast (congrArg (Value.int .u64) ((wrapU (2 * hi) (by omega)).trans (congrArg (fun n : Nat => (n : Int)) hh2))) (by kernel_rfl)) <| pkq (uN lo) <| ppq (uN t) (exec_cast (congrArg (fun n : Nat => Value.int .u64 (n : Int)) ht) (exec_binop .shr 22 96 (.tmp 15) (.const (.int .u64 63)) (by kernel_rfl) (uN lo) (uN 63) _ (by kernel_rfl) (by kernel_rfl) (by kernel_rfl) (run_shrU _ _ lo 63 (by omega)))) <| ppq (uN h3) (exec_cast (congrArg (Value.int .u64) ((wrapU (h2 + t) (by omega)).trans (congrArg (fun n : Nat => (n : Int)) hh3))) (by kernel_rfl)) ?_
      refine pkq (uN h3) <| eqr_ [0, 1, 2] <| pkq (uN lo) <| ppq (uN l2) (exec_cast (congrArg (Value.int .u64) ((wrapM (2 * lo)).trans (congrArg (fun n : Nat => (n : Int)) hl2))) (by kernel_rfl)) <| pkq (uN l2) <| eqr_ [0, 1, 2, 3, 4] <| pkq (uN a0) <| pkq (iN j) <| ppq (uN aj) (exec_cast (congrArg (fun n : Nat => Value.int .u64 (n : Int)) haj) (exec_binop .shr 22 3 (.tmp 20) (.tmp 21) (by kernel_rfl) (uN a0) (iN j) _ (by kernel_rfl) (by kernel_rfl) (by kernel_rfl) (run_shrU _ _ a0 j (by omega)))) <| ppq (uN bt) (exec_cast (congrArg (fun n : Nat => Value.int .u64 (n : Int)) hbt) (exec_remU 22 22 (.tmp 22) (.const (.int .u64 2)) (by kernel_rfl) aj 2 (by kernel_rfl) (by kernel_rfl) (by decide) (by omega))) <| ppq (.bool true) (eqt (((bt : Nat) : Int)) ((1) : Int) (by omega)) <| ey_ <| q_ <| qr_ [0, 1, 2, 3, 4] ?_
      refine pkq (uN l2) <| pkq (uN b0) <| ppq (uN l3) (exec_cast (congrArg (Value.int .u64) ((wrapM (l2 + b0)).trans (congrArg (fun n : Nat => (n : Int)) hl3))) (by kernel_rfl)) <| pkq (uN l2) <| ppq (.bool false) (dcf ((((l3 : Nat) : Int)) < (((l2 : Nat) : Int))) (by omega)) <| en_ <| s_ <| tr_ [0, 1, 2, 3] <| pkq (uN l2) <| pkq (uN b0) <| ppq (uN l3) (exec_cast (congrArg (Value.int .u64) ((wrapM (l2 + b0)).trans (congrArg (fun n : Nat => (n : Int)) hl3))) (by kernel_rfl)) <| pkq (uN l3) <| ps_end <| sy_a ⟨#[uN a0, uN b0, ud, ud, .int .u64 0, .int .u64 0, uN h3, uN l3, iN j, iN j, .bool true, u11, u12, uN hi, uN h2, uN lo, uN t, uN h3, uN lo, uN l2, uN a0, iN j, uN aj, uN bt, .bool true, uN l2, uN b0, uN l3, uN l2, .bool false, u30, u31, uN l2, uN b0, uN l3, ud, ud], []⟩ ?_
      refine blk_n <| tr_ [0, 1, 2] <| pkq (iN j) <| ppq (.int .i64 (((j : Nat) : Int) - 1)) (exec_cast (congrArg (Value.int .i64) (wrapI (((j : Nat) : Int) - 1) _ rfl (by omega) (by omega))) (by kernel_rfl)) <| pkq (.int .i64 (((j : Nat) : Int) - 1)) <| et_ ?_
      refine ⟨⟨((j : Nat) : Int) - 1, h3, l3, (iN j), (.bool true), (iN j), (.int .i64 (((j : Nat) : Int) - 1)), (uN hi), (uN h2), (uN lo), (uN t), (uN h3), (uN lo), (uN l2), (uN a0), (iN j), (uN aj), (uN bt), (.bool true), (uN l2), (uN b0), (uN l3), (uN l2), (.bool false), u30, u31, (uN l2), (uN b0), (uN l3), by kernel_rfl, by omega, hwn2, K2⟩, ?_⟩
      exact lt_meas (x := (((j : Nat) : Int) - 1 + 1).toNat) (y := (((j : Nat) : Int) + 1).toNat) (by kernel_rfl) (by kernel_rfl) (by omega)
    · have hwn := wide_one1 (by rw [hkj, show (((j : Nat) : Int) + 1).toNat = j + 1 by omega] at hw; exact hw) hbit hb hcar
      subst hkj
      have hw1 : W2 hi lo (a0 / 2 ^ (j + 1) * b0) := by rw [show (((j : Nat) : Int) + 1).toNat = j + 1 by omega] at hw; exact hw
      obtain ⟨h2, hh2⟩ : ∃ x, 2 * hi = x := ⟨_, rfl⟩
      obtain ⟨t, ht⟩ : ∃ x, lo >>> 63 = x := ⟨_, rfl⟩
      have ht2 : lo / 9223372036854775808 = t := by rw [← ht, shr63]
      obtain ⟨h3, hh3⟩ : ∃ x, h2 + t = x := ⟨_, rfl⟩
      obtain ⟨l2, hl2⟩ : ∃ x, 2 * lo % 18446744073709551616 = x := ⟨_, rfl⟩
      obtain ⟨aj, haj⟩ : ∃ x, a0 >>> j = x := ⟨_, rfl⟩
      have haj2 : a0 / 2 ^ j = aj := by rw [← haj, Nat.shiftRight_eq_div_pow]
      have hajl : aj < 18446744073709551616 := by rw [← haj2]; exact Nat.lt_of_le_of_lt (Nat.div_le_self _ _) ha
      obtain ⟨bt, hbt⟩ : ∃ x, aj % 2 = x := ⟨_, rfl⟩
      rw [haj2, hbt] at hbit
      obtain ⟨l3, hl3⟩ : ∃ x, (l2 + b0) % 18446744073709551616 = x := ⟨_, rfl⟩
      obtain ⟨h4, hh4⟩ : ∃ x, h3 + 1 = x := ⟨_, rfl⟩
      rw [hh2, ht2, hh3, hl2, hl3, hh4] at hwn
      rw [hl2] at hcar
      have hroom := wide_room ha hb hwn
      have hwn2 : W2 h4 l3 (a0 / 2 ^ ((((j : Nat) : Int) - 1 + 1).toNat) * b0) := by rw [show (((j : Nat) : Int) - 1 + 1).toNat = j by omega]; exact hwn
      refine q_ <| qr_ [0, 1] <| pkq (iN j) <| ppq (.bool true) (dct ((0 : Int) ≤ ((j : Nat) : Int)) (by omega)) <| ey_ <| s_ <| tq_ <| bl_ 1 <| qr_ [0, 1, 2, 3, 4, 5] <| pkq (uN hi) <| ppq (uN h2) (exec_cast (congrArg (Value.int .u64) ((wrapU (2 * hi) (by omega)).trans (congrArg (fun n : Nat => (n : Int)) hh2))) (by kernel_rfl)) <| pkq (uN lo) <| ppq (uN t) (exec_cast (congrArg (fun n : Nat => Value.int .u64 (n : Int)) ht) (exec_binop .shr 22 96 (.tmp 15) (.const (.int .u64 63)) (by kernel_rfl) (uN lo) (uN 63) _ (by kernel_rfl) (by kernel_rfl) (by kernel_rfl) (run_shrU _ _ lo 63 (by omega)))) <| ppq (uN h3) (exec_cast (congrArg (Value.int .u64) ((wrapU (h2 + t) (by omega)).trans (congrArg (fun n : Nat => (n : Int)) hh3))) (by kernel_rfl)) ?_
      refine pkq (uN h3) <| eqr_ [0, 1, 2] <| pkq (uN lo) <| ppq (uN l2) (exec_cast (congrArg (Value.int .u64) ((wrapM (2 * lo)).trans (congrArg (fun n : Nat => (n : Int)) hl2))) (by kernel_rfl)) <| pkq (uN l2) <| eqr_ [0, 1, 2, 3, 4] <| pkq (uN a0) <| pkq (iN j) <| ppq (uN aj) (exec_cast (congrArg (fun n : Nat => Value.int .u64 (n : Int)) haj) (exec_binop .shr 22 3 (.tmp 20) (.tmp 21) (by kernel_rfl) (uN a0) (iN j) _ (by kernel_rfl) (by kernel_rfl) (by kernel_rfl) (run_shrU _ _ a0 j (by omega)))) <| ppq (uN bt) (exec_cast (congrArg (fun n : Nat => Value.int .u64 (n : Int)) hbt) (exec_remU 22 22 (.tmp 22) (.const (.int .u64 2)) (by kernel_rfl) aj 2 (by kernel_rfl) (by kernel_rfl) (by decide) (by omega))) <| ppq (.bool true) (eqt (((bt : Nat) : Int)) ((1) : Int) (by omega)) <| ey_ <| q_ <| qr_ [0, 1, 2, 3, 4] ?_
      refine pkq (uN l2) <| pkq (uN b0) <| ppq (uN l3) (exec_cast (congrArg (Value.int .u64) ((wrapM (l2 + b0)).trans (congrArg (fun n : Nat => (n : Int)) hl3))) (by kernel_rfl)) <| pkq (uN l2) <| ppq (.bool true) (dct ((((l3 : Nat) : Int)) < (((l2 : Nat) : Int))) (by omega)) <| ey_ <| r_ [0, 1, 2] <| pkq (uN h3) <| ppq (uN h4) (exec_cast (congrArg (Value.int .u64) ((wrapU (h3 + 1) (by omega)).trans (congrArg (fun n : Nat => (n : Int)) hh4))) (by kernel_rfl)) <| pkq (uN h4) <| ps_end <| sy_a ⟨#[uN a0, uN b0, ud, ud, .int .u64 0, .int .u64 0, uN h4, uN l2, iN j, iN j, .bool true, u11, u12, uN hi, uN h2, uN lo, uN t, uN h3, uN lo, uN l2, uN a0, iN j, uN aj, uN bt, .bool true, uN l2, uN b0, uN l3, uN l2, .bool true, uN h3, uN h4, u32, u33, u34, ud, ud], []⟩ <| tr_ [0, 1, 2, 3] <| pkq (uN l2) ?_
      refine pkq (uN b0) <| ppq (uN l3) (exec_cast (congrArg (Value.int .u64) ((wrapM (l2 + b0)).trans (congrArg (fun n : Nat => (n : Int)) hl3))) (by kernel_rfl)) <| pkq (uN l3) <| ps_end <| blk_n <| tr_ [0, 1, 2] <| pkq (iN j) <| ppq (.int .i64 (((j : Nat) : Int) - 1)) (exec_cast (congrArg (Value.int .i64) (wrapI (((j : Nat) : Int) - 1) _ rfl (by omega) (by omega))) (by kernel_rfl)) <| pkq (.int .i64 (((j : Nat) : Int) - 1)) <| et_ ?_
      refine ⟨⟨((j : Nat) : Int) - 1, h4, l3, (iN j), (.bool true), (iN j), (.int .i64 (((j : Nat) : Int) - 1)), (uN hi), (uN h2), (uN lo), (uN t), (uN h3), (uN lo), (uN l2), (uN a0), (iN j), (uN aj), (uN bt), (.bool true), (uN l2), (uN b0), (uN l3), (uN l2), (.bool true), (uN h3), (uN h4), (uN l2), (uN b0), (uN l3), by kernel_rfl, by omega, hwn2, K2⟩, ?_⟩
      exact lt_meas (x := (((j : Nat) : Int) - 1 + 1).toNat) (y := (((j : Nat) : Int) + 1).toNat) (by kernel_rfl) (by kernel_rfl) (by omega)
noncomputable def qc72_1 (n : Nat) : Code := partOf Tryd.f40 n
theorem r01Divide_ok (a0 b0 c : Nat) (ha : a0 < 18446744073709551616) (hb : b0 < 18446744073709551616) (hc : 0 < c) (hc2 : c < 18446744073709551616) (w : World) :
    Calls Tryd.prog 40 #[.int .u64 ((a0 : Nat) : Int), .int .u64 ((b0 : Nat) : Int), .int .u64 ((c : Nat) : Int)] w (fun e w' => ∃ (n : Nat) (over : Bool) (left : Nat), e = .returned (.tuple #[.int .u64 ((n : Nat) : Int), .bool over, .int .u64 ((left : Nat) : Int)]) ∧ n = a0 * b0 / c % 18446744073709551616 ∧ over = decide (18446744073709551616 ≤ a0 * b0 / c) ∧ Keeps Nob w w') := by
  have K0 : Keeps Nob w w := Keeps.refl _ _
  refine sy_enter (qc72_1 1) ⟨#[uN a0, uN b0, uN c, ud, ud, ud, ud, ud, ud, ud, ud, ud, ud, ud, ud, ud, ud, ud, ud, ud, ud, ud, ud, ud, ud, ud, ud, ud, ud, ud, ud, ud, ud, ud, ud, ud, ud, ud, ud, ud, ud, ud, ud, ud, ud, ud, ud, ud, ud, ud, ud, ud, ud, ud, ud, ud, ud, ud, ud, ud, ud, ud, ud, ud, ud, ud, ud, ud], []⟩ Tryd.func40 (by kernel_rfl) (by kernel_rfl) <| qr_ [0, 1, 2] <| pkq (.int .u64 0) <| pkq (.bool false) <| pkq (.int .u64 0) <| eqr_ [0, 1, 2, 3, 4, 5, 6, 7] <| pkq (uN a0) <| pkq (uN b0) ?_
  refine pcq 54 #[uN a0, uN b0] Tryd.func54 ((r01Wide_ok a0 b0 ha hb _).mono ?_)
  rintro e V1 ⟨hi, lo, rfl, hX, kV1⟩
  obtain ⟨X, hXX⟩ : ∃ x, a0 * b0 = x := ⟨_, rfl⟩
  rw [hXX] at hX
  have hXl : X < 340282366920938463463374607431768211456 := by rw [← hXX]; exact Nat.mul_lt_mul_of_lt_of_lt ha hb
  have hhi : hi < 18446744073709551616 := by have := hX.1; omega
  refine ⟨_, rfl, ?_⟩
  have K2 := K0.nn kV1
  have z3 := kV1.size
  refine pkq (.tuple #[uN hi, uN lo]) <| pkq (uN hi) <| pkq (uN lo) <| pkq (uN hi) <| pkq (uN lo) <| eqr_ [0, 1, 2] <| pkq (.int .u64 0) <| pkq (.bool false) <| pkq (.int .u64 0) <| eq_ <| qr_ [0] <| pkq (.int .i64 127) <| et_ <| bl_ 0 ?_
  refine sy_loop (qc72_1 244) (fun a V => ∃ (kk : Int) (left : Nat) (n : Nat) (over : Bool) (u15 u16 u23 u24 u25 u26 u27 u28 u29 u30 u31 u32 u33 u34 u35 u36 u37 u38 u39 u40 u41 u42 u43 u44 u45 u46 u47 u48 u49 u50 u51 u52 u53 u54 u55 u56 u57 u58 u59 u60 u61 u62 u63 u64 : Value), (a = ⟨#[uN a0, uN b0, uN c, ud, ud, ud, .int .u64 0, .bool false, .int .u64 0, uN hi, uN lo, uN n, .bool over, uN left, .int .i64 kk, u15, u16, .tuple #[uN hi, uN lo], uN a0, uN b0, .tuple #[uN hi, uN lo], uN hi, uN lo, u23, u24, u25, u26, u27, u28, u29, u30, u31, u32, u33, u34, u35, u36, u37, u38, u39, u40, u41, u42, u43, u44, u45, u46, u47, u48, u49, u50, u51, u52, u53, u54, u55, u56, u57, u58, u59, u60, u61, u62, u63, u64, ud, ud, ud], []⟩) ∧ (-1 ≤ kk ∧ kk ≤ 127) ∧ (Dv X c (kk + 1).toNat left n over) ∧ (Keeps Nob w V)) (fun a _ => (intOf (a.tmps.getD 14 undef) + 1).toNat) (by kernel_rfl) ?_ ?_
  · exact ⟨127, 0, 0, false, undef, undef, undef, undef, undef, undef, undef, undef, undef, undef, undef, undef, undef, undef, undef, undef, undef, undef, undef, undef, undef, undef, undef, undef, undef, undef, undef, undef, undef, undef, undef, undef, undef, undef, undef, undef, undef, undef, undef, undef, undef, undef, undef, undef, by kernel_rfl, by omega, Dv.begin hc hXl, K2⟩
  · rintro a V4 ⟨kk, left, n, over, u15, u16, u23, u24, u25, u26, u27, u28, u29, u30, u31, u32, u33, u34, u35, u36, u37, u38, u39, u40, u41, u42, u43, u44, u45, u46, u47, u48, u49, u50, u51, u52, u53, u54, u55, u56, u57, u58, u59, u60, u61, u62, u63, u64, rfl, hk, hdv, K5⟩
    rcases int_down kk hk.1 with hk0 | ⟨j, hkj⟩
    · have hfin : Dv X c 0 left n over := by rw [show (kk + 1).toNat = 0 by omega] at hdv; exact hdv
      refine q_ <| qr_ [0, 1] <| pkq (.int .i64 kk) <| ppq (.bool false) (dcf ((0 : Int) ≤ kk) (by omega)) <| en_ <| sy_exit 0 (by kernel_rfl) <| then_e <| then_e <| blk_e <| tqr_ [0, 1, 2, 3, 4, 5] <| pkq (uN n) <| pkq (.bool over) <| pkq (uN left) <| pkq (uN n) ?_
      refine pkq (.bool over) <| pkq (uN left) <| eu_ <| so_ (.tuple #[.int .u64 ((n : Nat) : Int), .bool over, .int .u64 ((left : Nat) : Int)]) ?_
      exact ⟨_, _, _, rfl, by rw [hXX]; exact hfin.fin.1, by rw [hXX]; exact hfin.fin.2, K5⟩
    · subst hkj
      have hdv1 : Dv X c (j + 1) left n over := by rw [show (((j : Nat) : Int) + 1).toNat = j + 1 by omega] at hdv; exact hdv
      obtain ⟨top, htop⟩ : ∃ x, left >>> 63 = x := ⟨_, rfl⟩
      have htop2 : left / 9223372036854775808 = top := by rw [← htop, shr63]
      obtain ⟨jm, hjm⟩ : ∃ x, j % 64 = x := ⟨_, rfl⟩
      obtain ⟨lj, hlj⟩ : ∃ x, lo >>> jm = x := ⟨_, rfl⟩
      have hljl : lj < 18446744073709551616 := by rw [← hlj, Nat.shiftRight_eq_div_pow]; exact Nat.lt_of_le_of_lt (Nat.div_le_self _ _) hX.2
      obtain ⟨t0, ht0⟩ : ∃ x, lj % 2 = x := ⟨_, rfl⟩
      obtain ⟨n6, hn6⟩ : ∃ x, n >>> 63 = x := ⟨_, rfl⟩
      have hn62 : n / 9223372036854775808 = n6 := by rw [← hn6, shr63]
      obtain ⟨n2, hn2⟩ : ∃ x, 2 * n % 18446744073709551616 = x := ⟨_, rfl⟩
      refine q_ <| qr_ [0, 1] <| pkq (iN j) <| ppq (.bool true) (dct ((0 : Int) ≤ ((j : Nat) : Int)) (by omega)) <| ey_ <| s_ <| tq_ <| bl_ 1 <| qr_ [0, 1, 2] <| pkq (uN left) <| ppq (uN top) (exec_cast (congrArg (fun n : Nat => Value.int .u64 (n : Int)) htop) (exec_binop .shr 22 96 (.tmp 27) (.const (.int .u64 63)) (by kernel_rfl) (uN left) (uN 63) _ (by kernel_rfl) (by kernel_rfl) (by kernel_rfl) (run_shrU _ _ left 63 (by omega)))) <| pkq (uN top) <| eqr_ [0, 1, 2, 3, 4, 5] <| pkq (uN lo) ?_
      refine pkq (iN j) <| ppq (iN jm) (exec_cast (congrArg (fun n : Nat => Value.int .i64 (n : Int)) hjm) (exec_rem 3 3 (.tmp 30) (.const (.int .i64 64)) (by kernel_rfl) j 64 (by kernel_rfl) (by kernel_rfl) (by decide))) <| ppq (uN lj) (exec_cast (congrArg (fun n : Nat => Value.int .u64 (n : Int)) hlj) (exec_binop .shr 22 3 (.tmp 29) (.tmp 31) (by kernel_rfl) (uN lo) (iN jm) _ (by kernel_rfl) (by kernel_rfl) (by kernel_rfl) (run_shrU _ _ lo jm (by omega)))) <| ppq (uN t0) (exec_cast (congrArg (fun n : Nat => Value.int .u64 (n : Int)) ht0) (exec_remU 22 22 (.tmp 32) (.const (.int .u64 2)) (by kernel_rfl) lj 2 (by kernel_rfl) (by kernel_rfl) (by decide) (by omega))) <| pkq (uN t0) <| eq_ <| qr_ [0, 1] <| pkq (iN j) ?_
      by_cases hj63 : 63 < j
      · obtain ⟨hj, hhj⟩ : ∃ x, hi >>> jm = x := ⟨_, rfl⟩
        obtain ⟨t1, ht1⟩ : ∃ x, hj % 2 = x := ⟨_, rfl⟩
        have htb : t1 = X / 2 ^ j % 2 := by rw [← ht1, ← hhj, Nat.shiftRight_eq_div_pow, ← bit_high hX (by omega), show jm = j - 64 by omega]
        have hhjl : hj < 18446744073709551616 := by rw [← hhj, Nat.shiftRight_eq_div_pow]; exact Nat.lt_of_le_of_lt (Nat.div_le_self _ _) hhi
        obtain ⟨hlc, htl, hnl, hno, hyes⟩ := hdv1.step hc hc2 htb
        obtain ⟨l2, hl2⟩ : ∃ x, 2 * left % 18446744073709551616 = x := ⟨_, rfl⟩
        obtain ⟨l3, hl3⟩ : ∃ x, l2 + t1 = x := ⟨_, rfl⟩
        refine ppq (.bool true) (dct ((((j : Nat) : Int)) > ((63) : Int)) (by omega)) <| ey_ <| r_ [0, 1, 2, 3, 4, 5] <| pkq (uN hi) <| pkq (iN j) <| ppq (iN jm) (exec_cast (congrArg (fun n : Nat => Value.int .i64 (n : Int)) hjm) (exec_rem 3 3 (.tmp 37) (.const (.int .i64 64)) (by kernel_rfl) j 64 (by kernel_rfl) (by kernel_rfl) (by decide))) <| ppq (uN hj) (exec_cast (congrArg (fun n : Nat => Value.int .u64 (n : Int)) hhj) (exec_binop .shr 22 3 (.tmp 36) (.tmp 38) (by kernel_rfl) (uN hi) (iN jm) _ (by kernel_rfl) (by kernel_rfl) (by kernel_rfl) (run_shrU _ _ hi jm (by omega)))) <| ppq (uN t1) (exec_cast (congrArg (fun n : Nat => Value.int .u64 (n : Int)) ht1) (exec_remU 22 22 (.tmp 39) (.const (.int .u64 2)) (by kernel_rfl) hj 2 (by kernel_rfl) (by kernel_rfl) (by decide) (by omega))) <| pkq (uN t1) <| eqr_ [0, 1, 2, 3, 4] <| pkq (uN left) <| ppq (uN l2) (exec_cast (congrArg (Value.int .u64) ((wrapM (2 * left)).trans (congrArg (fun n : Nat => (n : Int)) hl2))) (by kernel_rfl)) <| pkq (uN t1) <| ppq (uN l3) (exec_cast (congrArg (Value.int .u64) ((wrapU (l2 + t1) (by omega)).trans (congrArg (fun n : Nat => (n : Int)) hl3))) (by kernel_rfl)) ?_
        refine pkq (uN l3) <| ps_end <| sy_a ⟨#[uN a0, uN b0, uN c, ud, ud, ud, .int .u64 0, .bool false, .int .u64 0, uN hi, uN lo, uN n, .bool over, uN l3, iN j, uN top, uN t1, .tuple #[uN hi, uN lo], uN a0, uN b0, .tuple #[uN hi, uN lo], uN hi, uN lo, iN j, .bool true, u25, u26, uN left, uN top, uN lo, iN j, iN jm, uN lj, uN t0, iN j, .bool true, uN hi, iN j, iN jm, uN hj, uN t1, uN left, uN l2, uN t1, uN l3, u45, u46, u47, u48, u49, u50, u51, u52, u53, u54, u55, u56, u57, u58, u59, u60, u61, u62, u63, u64, ud, ud, ud], []⟩ <| tqr_ [0, 1, 2, 3, 4, 5, 6] ?_
        rcases (show over = true ∨ (over = false ∧ 9223372036854775808 ≤ n) ∨ (over = false ∧ ¬ 9223372036854775808 ≤ n) by cases over <;> simp <;> omega) with hov | ⟨hov, hn63⟩ | ⟨hov, hn63⟩
        · subst hov
          have hoe : (true || decide (9223372036854775808 ≤ n)) = true := rfl
          rw [hoe] at hno hyes
          refine pkq (.bool true) <| pkq (.bool true) <| pnq <| pnq <| pnq <| pkq (.bool true) <| pkq (.bool true) <| eqr_ [0, 1, 2] <| pkq (uN n) <| ppq (uN n2) (exec_cast (congrArg (Value.int .u64) ((wrapM (2 * n)).trans (congrArg (fun n : Nat => (n : Int)) hn2))) (by kernel_rfl)) <| pkq (uN n2) <| eqr_ [0, 1, 2, 3, 4, 5, 6] <| pkq (uN top) ?_
          rcases (show top = 1 ∨ (top = 0 ∧ c ≤ l3) ∨ (top = 0 ∧ l3 < c) by omega) with htp | ⟨htp, hlc3⟩ | ⟨htp, hlc3⟩
          · obtain ⟨l4, hl4⟩ : ∃ x, 2 * left + t1 - c = x := ⟨_, rfl⟩
            obtain ⟨n3, hn3⟩ : ∃ x, n2 + 1 = x := ⟨_, rfl⟩
            have hdn0 := hyes (by omega)
            rw [hl4, hn2, hn3] at hdn0
            have hdn : Dv X c ((((j : Nat) : Int) - 1 + 1).toNat) l4 n3 true := by rw [show (((j : Nat) : Int) - 1 + 1).toNat = j by omega]; exact hdn0
            refine ppq (.bool true) (eqt (((top : Nat) : Int)) ((1) : Int) (by omega)) <| pkq (.bool true) <| pnq <| pnq <| pnq <| pkq (.bool true) <| ey_ <| qr_ [0, 1, 2, 3] <| pkq (uN l3) <| pkq (uN c) <| ppq (uN l4) (exec_cast (congrArg (Value.int .u64) (sub_any (x := l3) (z := c) (r := l4) (by omega) (by omega))) (by kernel_rfl)) <| pkq (uN l4) <| er_ [0, 1, 2] <| pkq (uN n2) ?_
            refine ppq (uN n3) (exec_cast (congrArg (Value.int .u64) ((wrapU (n2 + 1) (by omega)).trans (congrArg (fun n : Nat => (n : Int)) hn3))) (by kernel_rfl)) <| pkq (uN n3) <| ps_end <| sy_a ⟨#[uN a0, uN b0, uN c, ud, ud, ud, .int .u64 0, .bool false, .int .u64 0, uN hi, uN lo, uN n3, .bool true, uN l4, iN j, uN top, uN t1, .tuple #[uN hi, uN lo], uN a0, uN b0, .tuple #[uN hi, uN lo], uN hi, uN lo, iN j, .bool true, u25, u26, uN left, uN top, uN lo, iN j, iN jm, uN lj, uN t0, iN j, .bool true, uN hi, iN j, iN jm, uN hj, uN t1, uN left, uN l2, uN t1, uN l3, .bool true, .bool true, ud, ud, ud, .bool true, uN n, uN n2, uN top, .bool true, .bool true, ud, ud, ud, .bool true, uN l3, uN c, uN l4, uN n2, uN n3, ud, ud, ud], []⟩ <| blk_n <| tr_ [0, 1, 2] <| pkq (iN j) <| ppq (.int .i64 (((j : Nat) : Int) - 1)) (exec_cast (congrArg (Value.int .i64) (wrapI (((j : Nat) : Int) - 1) _ rfl (by omega) (by omega))) (by kernel_rfl)) <| pkq (.int .i64 (((j : Nat) : Int) - 1)) <| et_ ?_
            refine ⟨⟨((j : Nat) : Int) - 1, l4, n3, true, (uN top), (uN t1), (iN j), (.bool true), (iN j), (.int .i64 (((j : Nat) : Int) - 1)), (uN left), (uN top), (uN lo), (iN j), (iN jm), (uN lj), (uN t0), (iN j), (.bool true), (uN hi), (iN j), (iN jm), (uN hj), (uN t1), (uN left), (uN l2), (uN t1), (uN l3), (.bool true), (.bool true), undef, undef, undef, (.bool true), (uN n), (uN n2), (uN top), (.bool true), (.bool true), undef, undef, undef, (.bool true), (uN l3), (uN c), (uN l4), (uN n2), (uN n3), by kernel_rfl, by omega, hdn, K5⟩, ?_⟩
            exact lt_meas (x := (((j : Nat) : Int) - 1 + 1).toNat) (y := (((j : Nat) : Int) + 1).toNat) (by kernel_rfl) (by kernel_rfl) (by omega)
          · obtain ⟨l4, hl4⟩ : ∃ x, 2 * left + t1 - c = x := ⟨_, rfl⟩
            obtain ⟨n3, hn3⟩ : ∃ x, n2 + 1 = x := ⟨_, rfl⟩
            have hdn0 := hyes (by omega)
            rw [hl4, hn2, hn3] at hdn0
            have hdn : Dv X c ((((j : Nat) : Int) - 1 + 1).toNat) l4 n3 true := by rw [show (((j : Nat) : Int) - 1 + 1).toNat = j by omega]; exact hdn0
            refine ppq (.bool false) (eqf (((top : Nat) : Int)) ((1) : Int) (by omega)) <| pkq (.bool false) <| pkq (uN l3) <| pkq (uN c) <| ppq (.bool true) (dct ((((l3 : Nat) : Int)) ≥ (((c : Nat) : Int))) (by omega)) <| pkq (.bool true) <| ey_ <| qr_ [0, 1, 2, 3] <| pkq (uN l3) <| pkq (uN c) <| ppq (uN l4) (exec_cast (congrArg (Value.int .u64) (sub_any (x := l3) (z := c) (r := l4) (by omega) (by omega))) (by kernel_rfl)) <| pkq (uN l4) <| er_ [0, 1, 2] <| pkq (uN n2) ?_
            refine ppq (uN n3) (exec_cast (congrArg (Value.int .u64) ((wrapU (n2 + 1) (by omega)).trans (congrArg (fun n : Nat => (n : Int)) hn3))) (by kernel_rfl)) <| pkq (uN n3) <| ps_end <| sy_a ⟨#[uN a0, uN b0, uN c, ud, ud, ud, .int .u64 0, .bool false, .int .u64 0, uN hi, uN lo, uN n3, .bool true, uN l4, iN j, uN top, uN t1, .tuple #[uN hi, uN lo], uN a0, uN b0, .tuple #[uN hi, uN lo], uN hi, uN lo, iN j, .bool true, u25, u26, uN left, uN top, uN lo, iN j, iN jm, uN lj, uN t0, iN j, .bool true, uN hi, iN j, iN jm, uN hj, uN t1, uN left, uN l2, uN t1, uN l3, .bool true, .bool true, ud, ud, ud, .bool true, uN n, uN n2, uN top, .bool false, .bool false, uN l3, uN c, .bool true, .bool true, uN l3, uN c, uN l4, uN n2, uN n3, ud, ud, ud], []⟩ <| blk_n <| tr_ [0, 1, 2] <| pkq (iN j) <| ppq (.int .i64 (((j : Nat) : Int) - 1)) (exec_cast (congrArg (Value.int .i64) (wrapI (((j : Nat) : Int) - 1) _ rfl (by omega) (by omega))) (by kernel_rfl)) <| pkq (.int .i64 (((j : Nat) : Int) - 1)) <| et_ ?_
            refine ⟨⟨((j : Nat) : Int) - 1, l4, n3, true, (uN top), (uN t1), (iN j), (.bool true), (iN j), (.int .i64 (((j : Nat) : Int) - 1)), (uN left), (uN top), (uN lo), (iN j), (iN jm), (uN lj), (uN t0), (iN j), (.bool true), (uN hi), (iN j), (iN jm), (uN hj), (uN t1), (uN left), (uN l2), (uN t1), (uN l3), (.bool true), (.bool true), undef, undef, undef, (.bool true), (uN n), (uN n2), (uN top), (.bool false), (.bool false), (uN l3), (uN c), (.bool true), (.bool true), (uN l3), (uN c), (uN l4), (uN n2), (uN n3), by kernel_rfl, by omega, hdn, K5⟩, ?_⟩
            exact lt_meas (x := (((j : Nat) : Int) - 1 + 1).toNat) (y := (((j : Nat) : Int) + 1).toNat) (by kernel_rfl) (by kernel_rfl) (by omega)
          · have hdn0 := hno (by omega)
            rw [show 2 * left + t1 = l3 by omega, hn2] at hdn0
            have hdn : Dv X c ((((j : Nat) : Int) - 1 + 1).toNat) l3 n2 true := by rw [show (((j : Nat) : Int) - 1 + 1).toNat = j by omega]; exact hdn0
            refine ppq (.bool false) (eqf (((top : Nat) : Int)) ((1) : Int) (by omega)) <| pkq (.bool false) <| pkq (uN l3) <| pkq (uN c) <| ppq (.bool false) (dcf ((((l3 : Nat) : Int)) ≥ (((c : Nat) : Int))) (by omega)) <| pkq (.bool false) <| en_ <| s_ <| blk_n <| tr_ [0, 1, 2] <| pkq (iN j) <| ppq (.int .i64 (((j : Nat) : Int) - 1)) (exec_cast (congrArg (Value.int .i64) (wrapI (((j : Nat) : Int) - 1) _ rfl (by omega) (by omega))) (by kernel_rfl)) <| pkq (.int .i64 (((j : Nat) : Int) - 1)) <| et_ ?_
            refine ⟨⟨((j : Nat) : Int) - 1, l3, n2, true, (uN top), (uN t1), (iN j), (.bool true), (iN j), (.int .i64 (((j : Nat) : Int) - 1)), (uN left), (uN top), (uN lo), (iN j), (iN jm), (uN lj), (uN t0), (iN j), (.bool true), (uN hi), (iN j), (iN jm), (uN hj), (uN t1), (uN left), (uN l2), (uN t1), (uN l3), (.bool true), (.bool true), undef, undef, undef, (.bool true), (uN n), (uN n2), (uN top), (.bool false), (.bool false), (uN l3), (uN c), (.bool false), (.bool false), u60, u61, u62, u63, u64, by kernel_rfl, by omega, hdn, K5⟩, ?_⟩
            exact lt_meas (x := (((j : Nat) : Int) - 1 + 1).toNat) (y := (((j : Nat) : Int) + 1).toNat) (by kernel_rfl) (by kernel_rfl) (by omega)
        · subst hov
          have hoe : (false || decide (9223372036854775808 ≤ n)) = true := by rw [decide_eq_true hn63]; rfl
          rw [hoe] at hno hyes
          refine pkq (.bool false) <| pkq (.bool false) <| pkq (uN n) <| ppq (uN n6) (exec_cast (congrArg (fun n : Nat => Value.int .u64 (n : Int)) hn6) (exec_binop .shr 22 96 (.tmp 47) (.const (.int .u64 63)) (by kernel_rfl) (uN n) (uN 63) _ (by kernel_rfl) (by kernel_rfl) (by kernel_rfl) (run_shrU _ _ n 63 (by omega)))) <| ppq (.bool true) (eqt (((n6 : Nat) : Int)) ((1) : Int) (by omega)) <| pkq (.bool true) <| pkq (.bool true) <| eqr_ [0, 1, 2] <| pkq (uN n) <| ppq (uN n2) (exec_cast (congrArg (Value.int .u64) ((wrapM (2 * n)).trans (congrArg (fun n : Nat => (n : Int)) hn2))) (by kernel_rfl)) <| pkq (uN n2) <| eqr_ [0, 1, 2, 3, 4, 5, 6] <| pkq (uN top) ?_
          rcases (show top = 1 ∨ (top = 0 ∧ c ≤ l3) ∨ (top = 0 ∧ l3 < c) by omega) with htp | ⟨htp, hlc3⟩ | ⟨htp, hlc3⟩
          · obtain ⟨l4, hl4⟩ : ∃ x, 2 * left + t1 - c = x := ⟨_, rfl⟩
            obtain ⟨n3, hn3⟩ : ∃ x, n2 + 1 = x := ⟨_, rfl⟩
            have hdn0 := hyes (by omega)
            rw [hl4, hn2, hn3] at hdn0
            have hdn : Dv X c ((((j : Nat) : Int) - 1 + 1).toNat) l4 n3 true := by rw [show (((j : Nat) : Int) - 1 + 1).toNat = j by omega]; exact hdn0
            refine ppq (.bool true) (eqt (((top : Nat) : Int)) ((1) : Int) (by omega)) <| pkq (.bool true) <| pnq <| pnq <| pnq <| pkq (.bool true) <| ey_ <| qr_ [0, 1, 2, 3] <| pkq (uN l3) <| pkq (uN c) <| ppq (uN l4) (exec_cast (congrArg (Value.int .u64) (sub_any (x := l3) (z := c) (r := l4) (by omega) (by omega))) (by kernel_rfl)) <| pkq (uN l4) <| er_ [0, 1, 2] <| pkq (uN n2) ?_
            refine ppq (uN n3) (exec_cast (congrArg (Value.int .u64) ((wrapU (n2 + 1) (by omega)).trans (congrArg (fun n : Nat => (n : Int)) hn3))) (by kernel_rfl)) <| pkq (uN n3) <| ps_end <| sy_a ⟨#[uN a0, uN b0, uN c, ud, ud, ud, .int .u64 0, .bool false, .int .u64 0, uN hi, uN lo, uN n3, .bool true, uN l4, iN j, uN top, uN t1, .tuple #[uN hi, uN lo], uN a0, uN b0, .tuple #[uN hi, uN lo], uN hi, uN lo, iN j, .bool true, u25, u26, uN left, uN top, uN lo, iN j, iN jm, uN lj, uN t0, iN j, .bool true, uN hi, iN j, iN jm, uN hj, uN t1, uN left, uN l2, uN t1, uN l3, .bool false, .bool false, uN n, uN n6, .bool true, .bool true, uN n, uN n2, uN top, .bool true, .bool true, ud, ud, ud, .bool true, uN l3, uN c, uN l4, uN n2, uN n3, ud, ud, ud], []⟩ <| blk_n <| tr_ [0, 1, 2] <| pkq (iN j) <| ppq (.int .i64 (((j : Nat) : Int) - 1)) (exec_cast (congrArg (Value.int .i64) (wrapI (((j : Nat) : Int) - 1) _ rfl (by omega) (by omega))) (by kernel_rfl)) <| pkq (.int .i64 (((j : Nat) : Int) - 1)) <| et_ ?_
            refine ⟨⟨((j : Nat) : Int) - 1, l4, n3, true, (uN top), (uN t1), (iN j), (.bool true), (iN j), (.int .i64 (((j : Nat) : Int) - 1)), (uN left), (uN top), (uN lo), (iN j), (iN jm), (uN lj), (uN t0), (iN j), (.bool true), (uN hi), (iN j), (iN jm), (uN hj), (uN t1), (uN left), (uN l2), (uN t1), (uN l3), (.bool false), (.bool false), (uN n), (uN n6), (.bool true), (.bool true), (uN n), (uN n2), (uN top), (.bool true), (.bool true), undef, undef, undef, (.bool true), (uN l3), (uN c), (uN l4), (uN n2), (uN n3), by kernel_rfl, by omega, hdn, K5⟩, ?_⟩
            exact lt_meas (x := (((j : Nat) : Int) - 1 + 1).toNat) (y := (((j : Nat) : Int) + 1).toNat) (by kernel_rfl) (by kernel_rfl) (by omega)
          · obtain ⟨l4, hl4⟩ : ∃ x, 2 * left + t1 - c = x := ⟨_, rfl⟩
            obtain ⟨n3, hn3⟩ : ∃ x, n2 + 1 = x := ⟨_, rfl⟩
            have hdn0 := hyes (by omega)
            rw [hl4, hn2, hn3] at hdn0
            have hdn : Dv X c ((((j : Nat) : Int) - 1 + 1).toNat) l4 n3 true := by rw [show (((j : Nat) : Int) - 1 + 1).toNat = j by omega]; exact hdn0
            refine ppq (.bool false) (eqf (((top : Nat) : Int)) ((1) : Int) (by omega)) <| pkq (.bool false) <| pkq (uN l3) <| pkq (uN c) <| ppq (.bool true) (dct ((((l3 : Nat) : Int)) ≥ (((c : Nat) : Int))) (by omega)) <| pkq (.bool true) <| ey_ <| qr_ [0, 1, 2, 3] <| pkq (uN l3) <| pkq (uN c) <| ppq (uN l4) (exec_cast (congrArg (Value.int .u64) (sub_any (x := l3) (z := c) (r := l4) (by omega) (by omega))) (by kernel_rfl)) <| pkq (uN l4) <| er_ [0, 1, 2] <| pkq (uN n2) ?_
            refine ppq (uN n3) (exec_cast (congrArg (Value.int .u64) ((wrapU (n2 + 1) (by omega)).trans (congrArg (fun n : Nat => (n : Int)) hn3))) (by kernel_rfl)) <| pkq (uN n3) <| ps_end <| sy_a ⟨#[uN a0, uN b0, uN c, ud, ud, ud, .int .u64 0, .bool false, .int .u64 0, uN hi, uN lo, uN n3, .bool true, uN l4, iN j, uN top, uN t1, .tuple #[uN hi, uN lo], uN a0, uN b0, .tuple #[uN hi, uN lo], uN hi, uN lo, iN j, .bool true, u25, u26, uN left, uN top, uN lo, iN j, iN jm, uN lj, uN t0, iN j, .bool true, uN hi, iN j, iN jm, uN hj, uN t1, uN left, uN l2, uN t1, uN l3, .bool false, .bool false, uN n, uN n6, .bool true, .bool true, uN n, uN n2, uN top, .bool false, .bool false, uN l3, uN c, .bool true, .bool true, uN l3, uN c, uN l4, uN n2, uN n3, ud, ud, ud], []⟩ <| blk_n <| tr_ [0, 1, 2] <| pkq (iN j) <| ppq (.int .i64 (((j : Nat) : Int) - 1)) (exec_cast (congrArg (Value.int .i64) (wrapI (((j : Nat) : Int) - 1) _ rfl (by omega) (by omega))) (by kernel_rfl)) <| pkq (.int .i64 (((j : Nat) : Int) - 1)) <| et_ ?_
            refine ⟨⟨((j : Nat) : Int) - 1, l4, n3, true, (uN top), (uN t1), (iN j), (.bool true), (iN j), (.int .i64 (((j : Nat) : Int) - 1)), (uN left), (uN top), (uN lo), (iN j), (iN jm), (uN lj), (uN t0), (iN j), (.bool true), (uN hi), (iN j), (iN jm), (uN hj), (uN t1), (uN left), (uN l2), (uN t1), (uN l3), (.bool false), (.bool false), (uN n), (uN n6), (.bool true), (.bool true), (uN n), (uN n2), (uN top), (.bool false), (.bool false), (uN l3), (uN c), (.bool true), (.bool true), (uN l3), (uN c), (uN l4), (uN n2), (uN n3), by kernel_rfl, by omega, hdn, K5⟩, ?_⟩
            exact lt_meas (x := (((j : Nat) : Int) - 1 + 1).toNat) (y := (((j : Nat) : Int) + 1).toNat) (by kernel_rfl) (by kernel_rfl) (by omega)
          · have hdn0 := hno (by omega)
            rw [show 2 * left + t1 = l3 by omega, hn2] at hdn0
            have hdn : Dv X c ((((j : Nat) : Int) - 1 + 1).toNat) l3 n2 true := by rw [show (((j : Nat) : Int) - 1 + 1).toNat = j by omega]; exact hdn0
            refine ppq (.bool false) (eqf (((top : Nat) : Int)) ((1) : Int) (by omega)) <| pkq (.bool false) <| pkq (uN l3) <| pkq (uN c) <| ppq (.bool false) (dcf ((((l3 : Nat) : Int)) ≥ (((c : Nat) : Int))) (by omega)) <| pkq (.bool false) <| en_ <| s_ <| blk_n <| tr_ [0, 1, 2] <| pkq (iN j) <| ppq (.int .i64 (((j : Nat) : Int) - 1)) (exec_cast (congrArg (Value.int .i64) (wrapI (((j : Nat) : Int) - 1) _ rfl (by omega) (by omega))) (by kernel_rfl)) <| pkq (.int .i64 (((j : Nat) : Int) - 1)) <| et_ ?_
            refine ⟨⟨((j : Nat) : Int) - 1, l3, n2, true, (uN top), (uN t1), (iN j), (.bool true), (iN j), (.int .i64 (((j : Nat) : Int) - 1)), (uN left), (uN top), (uN lo), (iN j), (iN jm), (uN lj), (uN t0), (iN j), (.bool true), (uN hi), (iN j), (iN jm), (uN hj), (uN t1), (uN left), (uN l2), (uN t1), (uN l3), (.bool false), (.bool false), (uN n), (uN n6), (.bool true), (.bool true), (uN n), (uN n2), (uN top), (.bool false), (.bool false), (uN l3), (uN c), (.bool false), (.bool false), u60, u61, u62, u63, u64, by kernel_rfl, by omega, hdn, K5⟩, ?_⟩
            exact lt_meas (x := (((j : Nat) : Int) - 1 + 1).toNat) (y := (((j : Nat) : Int) + 1).toNat) (by kernel_rfl) (by kernel_rfl) (by omega)
        · subst hov
          have hoe : (false || decide (9223372036854775808 ≤ n)) = false := by rw [decide_eq_false hn63]; rfl
          rw [hoe] at hno hyes
          refine pkq (.bool false) <| pkq (.bool false) <| pkq (uN n) <| ppq (uN n6) (exec_cast (congrArg (fun n : Nat => Value.int .u64 (n : Int)) hn6) (exec_binop .shr 22 96 (.tmp 47) (.const (.int .u64 63)) (by kernel_rfl) (uN n) (uN 63) _ (by kernel_rfl) (by kernel_rfl) (by kernel_rfl) (run_shrU _ _ n 63 (by omega)))) <| ppq (.bool false) (eqf (((n6 : Nat) : Int)) ((1) : Int) (by omega)) <| pkq (.bool false) <| pkq (.bool false) <| eqr_ [0, 1, 2] <| pkq (uN n) <| ppq (uN n2) (exec_cast (congrArg (Value.int .u64) ((wrapM (2 * n)).trans (congrArg (fun n : Nat => (n : Int)) hn2))) (by kernel_rfl)) <| pkq (uN n2) <| eqr_ [0, 1, 2, 3, 4, 5, 6] <| pkq (uN top) ?_
          rcases (show top = 1 ∨ (top = 0 ∧ c ≤ l3) ∨ (top = 0 ∧ l3 < c) by omega) with htp | ⟨htp, hlc3⟩ | ⟨htp, hlc3⟩
          · obtain ⟨l4, hl4⟩ : ∃ x, 2 * left + t1 - c = x := ⟨_, rfl⟩
            obtain ⟨n3, hn3⟩ : ∃ x, n2 + 1 = x := ⟨_, rfl⟩
            have hdn0 := hyes (by omega)
            rw [hl4, hn2, hn3] at hdn0
            have hdn : Dv X c ((((j : Nat) : Int) - 1 + 1).toNat) l4 n3 false := by rw [show (((j : Nat) : Int) - 1 + 1).toNat = j by omega]; exact hdn0
            refine ppq (.bool true) (eqt (((top : Nat) : Int)) ((1) : Int) (by omega)) <| pkq (.bool true) <| pnq <| pnq <| pnq <| pkq (.bool true) <| ey_ <| qr_ [0, 1, 2, 3] <| pkq (uN l3) <| pkq (uN c) <| ppq (uN l4) (exec_cast (congrArg (Value.int .u64) (sub_any (x := l3) (z := c) (r := l4) (by omega) (by omega))) (by kernel_rfl)) <| pkq (uN l4) <| er_ [0, 1, 2] <| pkq (uN n2) ?_
            refine ppq (uN n3) (exec_cast (congrArg (Value.int .u64) ((wrapU (n2 + 1) (by omega)).trans (congrArg (fun n : Nat => (n : Int)) hn3))) (by kernel_rfl)) <| pkq (uN n3) <| ps_end <| sy_a ⟨#[uN a0, uN b0, uN c, ud, ud, ud, .int .u64 0, .bool false, .int .u64 0, uN hi, uN lo, uN n3, .bool false, uN l4, iN j, uN top, uN t1, .tuple #[uN hi, uN lo], uN a0, uN b0, .tuple #[uN hi, uN lo], uN hi, uN lo, iN j, .bool true, u25, u26, uN left, uN top, uN lo, iN j, iN jm, uN lj, uN t0, iN j, .bool true, uN hi, iN j, iN jm, uN hj, uN t1, uN left, uN l2, uN t1, uN l3, .bool false, .bool false, uN n, uN n6, .bool false, .bool false, uN n, uN n2, uN top, .bool true, .bool true, ud, ud, ud, .bool true, uN l3, uN c, uN l4, uN n2, uN n3, ud, ud, ud], []⟩ <| blk_n <| tr_ [0, 1, 2] <| pkq (iN j) <| ppq (.int .i64 (((j : Nat) : Int) - 1)) (exec_cast (congrArg (Value.int .i64) (wrapI (((j : Nat) : Int) - 1) _ rfl (by omega) (by omega))) (by kernel_rfl)) <| pkq (.int .i64 (((j : Nat) : Int) - 1)) <| et_ ?_
            refine ⟨⟨((j : Nat) : Int) - 1, l4, n3, false, (uN top), (uN t1), (iN j), (.bool true), (iN j), (.int .i64 (((j : Nat) : Int) - 1)), (uN left), (uN top), (uN lo), (iN j), (iN jm), (uN lj), (uN t0), (iN j), (.bool true), (uN hi), (iN j), (iN jm), (uN hj), (uN t1), (uN left), (uN l2), (uN t1), (uN l3), (.bool false), (.bool false), (uN n), (uN n6), (.bool false), (.bool false), (uN n), (uN n2), (uN top), (.bool true), (.bool true), undef, undef, undef, (.bool true), (uN l3), (uN c), (uN l4), (uN n2), (uN n3), by kernel_rfl, by omega, hdn, K5⟩, ?_⟩
            exact lt_meas (x := (((j : Nat) : Int) - 1 + 1).toNat) (y := (((j : Nat) : Int) + 1).toNat) (by kernel_rfl) (by kernel_rfl) (by omega)
          · obtain ⟨l4, hl4⟩ : ∃ x, 2 * left + t1 - c = x := ⟨_, rfl⟩
            obtain ⟨n3, hn3⟩ : ∃ x, n2 + 1 = x := ⟨_, rfl⟩
            have hdn0 := hyes (by omega)
            rw [hl4, hn2, hn3] at hdn0
            have hdn : Dv X c ((((j : Nat) : Int) - 1 + 1).toNat) l4 n3 false := by rw [show (((j : Nat) : Int) - 1 + 1).toNat = j by omega]; exact hdn0
            refine ppq (.bool false) (eqf (((top : Nat) : Int)) ((1) : Int) (by omega)) <| pkq (.bool false) <| pkq (uN l3) <| pkq (uN c) <| ppq (.bool true) (dct ((((l3 : Nat) : Int)) ≥ (((c : Nat) : Int))) (by omega)) <| pkq (.bool true) <| ey_ <| qr_ [0, 1, 2, 3] <| pkq (uN l3) <| pkq (uN c) <| ppq (uN l4) (exec_cast (congrArg (Value.int .u64) (sub_any (x := l3) (z := c) (r := l4) (by omega) (by omega))) (by kernel_rfl)) <| pkq (uN l4) <| er_ [0, 1, 2] <| pkq (uN n2) ?_
            refine ppq (uN n3) (exec_cast (congrArg (Value.int .u64) ((wrapU (n2 + 1) (by omega)).trans (congrArg (fun n : Nat => (n : Int)) hn3))) (by kernel_rfl)) <| pkq (uN n3) <| ps_end <| sy_a ⟨#[uN a0, uN b0, uN c, ud, ud, ud, .int .u64 0, .bool false, .int .u64 0, uN hi, uN lo, uN n3, .bool false, uN l4, iN j, uN top, uN t1, .tuple #[uN hi, uN lo], uN a0, uN b0, .tuple #[uN hi, uN lo], uN hi, uN lo, iN j, .bool true, u25, u26, uN left, uN top, uN lo, iN j, iN jm, uN lj, uN t0, iN j, .bool true, uN hi, iN j, iN jm, uN hj, uN t1, uN left, uN l2, uN t1, uN l3, .bool false, .bool false, uN n, uN n6, .bool false, .bool false, uN n, uN n2, uN top, .bool false, .bool false, uN l3, uN c, .bool true, .bool true, uN l3, uN c, uN l4, uN n2, uN n3, ud, ud, ud], []⟩ <| blk_n <| tr_ [0, 1, 2] <| pkq (iN j) <| ppq (.int .i64 (((j : Nat) : Int) - 1)) (exec_cast (congrArg (Value.int .i64) (wrapI (((j : Nat) : Int) - 1) _ rfl (by omega) (by omega))) (by kernel_rfl)) <| pkq (.int .i64 (((j : Nat) : Int) - 1)) <| et_ ?_
            refine ⟨⟨((j : Nat) : Int) - 1, l4, n3, false, (uN top), (uN t1), (iN j), (.bool true), (iN j), (.int .i64 (((j : Nat) : Int) - 1)), (uN left), (uN top), (uN lo), (iN j), (iN jm), (uN lj), (uN t0), (iN j), (.bool true), (uN hi), (iN j), (iN jm), (uN hj), (uN t1), (uN left), (uN l2), (uN t1), (uN l3), (.bool false), (.bool false), (uN n), (uN n6), (.bool false), (.bool false), (uN n), (uN n2), (uN top), (.bool false), (.bool false), (uN l3), (uN c), (.bool true), (.bool true), (uN l3), (uN c), (uN l4), (uN n2), (uN n3), by kernel_rfl, by omega, hdn, K5⟩, ?_⟩
            exact lt_meas (x := (((j : Nat) : Int) - 1 + 1).toNat) (y := (((j : Nat) : Int) + 1).toNat) (by kernel_rfl) (by kernel_rfl) (by omega)
          · have hdn0 := hno (by omega)
            rw [show 2 * left + t1 = l3 by omega, hn2] at hdn0
            have hdn : Dv X c ((((j : Nat) : Int) - 1 + 1).toNat) l3 n2 false := by rw [show (((j : Nat) : Int) - 1 + 1).toNat = j by omega]; exact hdn0
            refine ppq (.bool false) (eqf (((top : Nat) : Int)) ((1) : Int) (by omega)) <| pkq (.bool false) <| pkq (uN l3) <| pkq (uN c) <| ppq (.bool false) (dcf ((((l3 : Nat) : Int)) ≥ (((c : Nat) : Int))) (by omega)) <| pkq (.bool false) <| en_ <| s_ <| blk_n <| tr_ [0, 1, 2] <| pkq (iN j) <| ppq (.int .i64 (((j : Nat) : Int) - 1)) (exec_cast (congrArg (Value.int .i64) (wrapI (((j : Nat) : Int) - 1) _ rfl (by omega) (by omega))) (by kernel_rfl)) <| pkq (.int .i64 (((j : Nat) : Int) - 1)) <| et_ ?_
            refine ⟨⟨((j : Nat) : Int) - 1, l3, n2, false, (uN top), (uN t1), (iN j), (.bool true), (iN j), (.int .i64 (((j : Nat) : Int) - 1)), (uN left), (uN top), (uN lo), (iN j), (iN jm), (uN lj), (uN t0), (iN j), (.bool true), (uN hi), (iN j), (iN jm), (uN hj), (uN t1), (uN left), (uN l2), (uN t1), (uN l3), (.bool false), (.bool false), (uN n), (uN n6), (.bool false), (.bool false), (uN n), (uN n2), (uN top), (.bool false), (.bool false), (uN l3), (uN c), (.bool false), (.bool false), u60, u61, u62, u63, u64, by kernel_rfl, by omega, hdn, K5⟩, ?_⟩
            exact lt_meas (x := (((j : Nat) : Int) - 1 + 1).toNat) (y := (((j : Nat) : Int) + 1).toNat) (by kernel_rfl) (by kernel_rfl) (by omega)
      · have htb : t0 = X / 2 ^ j % 2 := by rw [← ht0, ← hlj, Nat.shiftRight_eq_div_pow, ← bit_low hX (by omega), show jm = j by omega]
        obtain ⟨hlc, htl, hnl, hno, hyes⟩ := hdv1.step hc hc2 htb
        obtain ⟨l2, hl2⟩ : ∃ x, 2 * left % 18446744073709551616 = x := ⟨_, rfl⟩
        obtain ⟨l3, hl3⟩ : ∃ x, l2 + t0 = x := ⟨_, rfl⟩
        refine ppq (.bool false) (dcf ((((j : Nat) : Int)) > ((63) : Int)) (by omega)) <| en_ <| s_ <| tqr_ [0, 1, 2, 3, 4] <| pkq (uN left) <| ppq (uN l2) (exec_cast (congrArg (Value.int .u64) ((wrapM (2 * left)).trans (congrArg (fun n : Nat => (n : Int)) hl2))) (by kernel_rfl)) <| pkq (uN t0) <| ppq (uN l3) (exec_cast (congrArg (Value.int .u64) ((wrapU (l2 + t0) (by omega)).trans (congrArg (fun n : Nat => (n : Int)) hl3))) (by kernel_rfl)) <| pkq (uN l3) <| eqr_ [0, 1, 2, 3, 4, 5, 6] ?_
        rcases (show over = true ∨ (over = false ∧ 9223372036854775808 ≤ n) ∨ (over = false ∧ ¬ 9223372036854775808 ≤ n) by cases over <;> simp <;> omega) with hov | ⟨hov, hn63⟩ | ⟨hov, hn63⟩
        · subst hov
          have hoe : (true || decide (9223372036854775808 ≤ n)) = true := rfl
          rw [hoe] at hno hyes
          refine pkq (.bool true) <| pkq (.bool true) <| pnq <| pnq <| pnq <| pkq (.bool true) <| pkq (.bool true) <| ps_end <| sy_a ⟨#[uN a0, uN b0, uN c, ud, ud, ud, .int .u64 0, .bool false, .int .u64 0, uN hi, uN lo, uN n, .bool true, uN l3, iN j, uN top, uN t0, .tuple #[uN hi, uN lo], uN a0, uN b0, .tuple #[uN hi, uN lo], uN hi, uN lo, iN j, .bool true, u25, u26, uN left, uN top, uN lo, iN j, iN jm, uN lj, uN t0, iN j, .bool false, u36, u37, u38, u39, u40, uN left, uN l2, uN t0, uN l3, .bool true, .bool true, ud, ud, ud, .bool true, u51, u52, u53, u54, u55, u56, u57, u58, u59, u60, u61, u62, u63, u64, ud, ud, ud], []⟩ <| tqr_ [0, 1, 2] <| pkq (uN n) <| ppq (uN n2) (exec_cast (congrArg (Value.int .u64) ((wrapM (2 * n)).trans (congrArg (fun n : Nat => (n : Int)) hn2))) (by kernel_rfl)) <| pkq (uN n2) <| eqr_ [0, 1, 2, 3, 4, 5, 6] ?_
          refine pkq (uN top) ?_
          rcases (show top = 1 ∨ (top = 0 ∧ c ≤ l3) ∨ (top = 0 ∧ l3 < c) by omega) with htp | ⟨htp, hlc3⟩ | ⟨htp, hlc3⟩
          · obtain ⟨l4, hl4⟩ : ∃ x, 2 * left + t0 - c = x := ⟨_, rfl⟩
            obtain ⟨n3, hn3⟩ : ∃ x, n2 + 1 = x := ⟨_, rfl⟩
            have hdn0 := hyes (by omega)
            rw [hl4, hn2, hn3] at hdn0
            have hdn : Dv X c ((((j : Nat) : Int) - 1 + 1).toNat) l4 n3 true := by rw [show (((j : Nat) : Int) - 1 + 1).toNat = j by omega]; exact hdn0
            refine ppq (.bool true) (eqt (((top : Nat) : Int)) ((1) : Int) (by omega)) <| pkq (.bool true) <| pnq <| pnq <| pnq <| pkq (.bool true) <| ey_ <| qr_ [0, 1, 2, 3] <| pkq (uN l3) <| pkq (uN c) <| ppq (uN l4) (exec_cast (congrArg (Value.int .u64) (sub_any (x := l3) (z := c) (r := l4) (by omega) (by omega))) (by kernel_rfl)) <| pkq (uN l4) <| er_ [0, 1, 2] <| pkq (uN n2) ?_
            refine ppq (uN n3) (exec_cast (congrArg (Value.int .u64) ((wrapU (n2 + 1) (by omega)).trans (congrArg (fun n : Nat => (n : Int)) hn3))) (by kernel_rfl)) <| pkq (uN n3) <| ps_end <| blk_n <| tr_ [0, 1, 2] <| pkq (iN j) <| ppq (.int .i64 (((j : Nat) : Int) - 1)) (exec_cast (congrArg (Value.int .i64) (wrapI (((j : Nat) : Int) - 1) _ rfl (by omega) (by omega))) (by kernel_rfl)) <| pkq (.int .i64 (((j : Nat) : Int) - 1)) <| et_ ?_
            refine ⟨⟨((j : Nat) : Int) - 1, l4, n3, true, (uN top), (uN t0), (iN j), (.bool true), (iN j), (.int .i64 (((j : Nat) : Int) - 1)), (uN left), (uN top), (uN lo), (iN j), (iN jm), (uN lj), (uN t0), (iN j), (.bool false), u36, u37, u38, u39, u40, (uN left), (uN l2), (uN t0), (uN l3), (.bool true), (.bool true), undef, undef, undef, (.bool true), (uN n), (uN n2), (uN top), (.bool true), (.bool true), undef, undef, undef, (.bool true), (uN l3), (uN c), (uN l4), (uN n2), (uN n3), by kernel_rfl, by omega, hdn, K5⟩, ?_⟩
            exact lt_meas (x := (((j : Nat) : Int) - 1 + 1).toNat) (y := (((j : Nat) : Int) + 1).toNat) (by kernel_rfl) (by kernel_rfl) (by omega)
          · obtain ⟨l4, hl4⟩ : ∃ x, 2 * left + t0 - c = x := ⟨_, rfl⟩
            obtain ⟨n3, hn3⟩ : ∃ x, n2 + 1 = x := ⟨_, rfl⟩
            have hdn0 := hyes (by omega)
            rw [hl4, hn2, hn3] at hdn0
            have hdn : Dv X c ((((j : Nat) : Int) - 1 + 1).toNat) l4 n3 true := by rw [show (((j : Nat) : Int) - 1 + 1).toNat = j by omega]; exact hdn0
            refine ppq (.bool false) (eqf (((top : Nat) : Int)) ((1) : Int) (by omega)) <| pkq (.bool false) <| pkq (uN l3) <| pkq (uN c) <| ppq (.bool true) (dct ((((l3 : Nat) : Int)) ≥ (((c : Nat) : Int))) (by omega)) <| pkq (.bool true) <| ey_ <| qr_ [0, 1, 2, 3] <| pkq (uN l3) <| pkq (uN c) <| ppq (uN l4) (exec_cast (congrArg (Value.int .u64) (sub_any (x := l3) (z := c) (r := l4) (by omega) (by omega))) (by kernel_rfl)) <| pkq (uN l4) <| er_ [0, 1, 2] <| pkq (uN n2) ?_
            refine ppq (uN n3) (exec_cast (congrArg (Value.int .u64) ((wrapU (n2 + 1) (by omega)).trans (congrArg (fun n : Nat => (n : Int)) hn3))) (by kernel_rfl)) <| pkq (uN n3) <| ps_end <| blk_n <| tr_ [0, 1, 2] <| pkq (iN j) <| ppq (.int .i64 (((j : Nat) : Int) - 1)) (exec_cast (congrArg (Value.int .i64) (wrapI (((j : Nat) : Int) - 1) _ rfl (by omega) (by omega))) (by kernel_rfl)) <| pkq (.int .i64 (((j : Nat) : Int) - 1)) <| et_ ?_
            refine ⟨⟨((j : Nat) : Int) - 1, l4, n3, true, (uN top), (uN t0), (iN j), (.bool true), (iN j), (.int .i64 (((j : Nat) : Int) - 1)), (uN left), (uN top), (uN lo), (iN j), (iN jm), (uN lj), (uN t0), (iN j), (.bool false), u36, u37, u38, u39, u40, (uN left), (uN l2), (uN t0), (uN l3), (.bool true), (.bool true), undef, undef, undef, (.bool true), (uN n), (uN n2), (uN top), (.bool false), (.bool false), (uN l3), (uN c), (.bool true), (.bool true), (uN l3), (uN c), (uN l4), (uN n2), (uN n3), by kernel_rfl, by omega, hdn, K5⟩, ?_⟩
            exact lt_meas (x := (((j : Nat) : Int) - 1 + 1).toNat) (y := (((j : Nat) : Int) + 1).toNat) (by kernel_rfl) (by kernel_rfl) (by omega)
          · have hdn0 := hno (by omega)
            rw [show 2 * left + t0 = l3 by omega, hn2] at hdn0
            have hdn : Dv X c ((((j : Nat) : Int) - 1 + 1).toNat) l3 n2 true := by rw [show (((j : Nat) : Int) - 1 + 1).toNat = j by omega]; exact hdn0
            refine ppq (.bool false) (eqf (((top : Nat) : Int)) ((1) : Int) (by omega)) <| pkq (.bool false) <| pkq (uN l3) <| pkq (uN c) <| ppq (.bool false) (dcf ((((l3 : Nat) : Int)) ≥ (((c : Nat) : Int))) (by omega)) <| pkq (.bool false) <| en_ <| s_ <| blk_n <| tr_ [0, 1, 2] <| pkq (iN j) <| ppq (.int .i64 (((j : Nat) : Int) - 1)) (exec_cast (congrArg (Value.int .i64) (wrapI (((j : Nat) : Int) - 1) _ rfl (by omega) (by omega))) (by kernel_rfl)) <| pkq (.int .i64 (((j : Nat) : Int) - 1)) <| et_ ?_
            refine ⟨⟨((j : Nat) : Int) - 1, l3, n2, true, (uN top), (uN t0), (iN j), (.bool true), (iN j), (.int .i64 (((j : Nat) : Int) - 1)), (uN left), (uN top), (uN lo), (iN j), (iN jm), (uN lj), (uN t0), (iN j), (.bool false), u36, u37, u38, u39, u40, (uN left), (uN l2), (uN t0), (uN l3), (.bool true), (.bool true), undef, undef, undef, (.bool true), (uN n), (uN n2), (uN top), (.bool false), (.bool false), (uN l3), (uN c), (.bool false), (.bool false), u60, u61, u62, u63, u64, by kernel_rfl, by omega, hdn, K5⟩, ?_⟩
            exact lt_meas (x := (((j : Nat) : Int) - 1 + 1).toNat) (y := (((j : Nat) : Int) + 1).toNat) (by kernel_rfl) (by kernel_rfl) (by omega)
        · subst hov
          have hoe : (false || decide (9223372036854775808 ≤ n)) = true := by rw [decide_eq_true hn63]; rfl
          rw [hoe] at hno hyes
          refine pkq (.bool false) <| pkq (.bool false) <| pkq (uN n) <| ppq (uN n6) (exec_cast (congrArg (fun n : Nat => Value.int .u64 (n : Int)) hn6) (exec_binop .shr 22 96 (.tmp 47) (.const (.int .u64 63)) (by kernel_rfl) (uN n) (uN 63) _ (by kernel_rfl) (by kernel_rfl) (by kernel_rfl) (run_shrU _ _ n 63 (by omega)))) <| ppq (.bool true) (eqt (((n6 : Nat) : Int)) ((1) : Int) (by omega)) <| pkq (.bool true) <| pkq (.bool true) <| ps_end <| sy_a ⟨#[uN a0, uN b0, uN c, ud, ud, ud, .int .u64 0, .bool false, .int .u64 0, uN hi, uN lo, uN n, .bool true, uN l3, iN j, uN top, uN t0, .tuple #[uN hi, uN lo], uN a0, uN b0, .tuple #[uN hi, uN lo], uN hi, uN lo, iN j, .bool true, u25, u26, uN left, uN top, uN lo, iN j, iN jm, uN lj, uN t0, iN j, .bool false, u36, u37, u38, u39, u40, uN left, uN l2, uN t0, uN l3, .bool false, .bool false, uN n, uN n6, .bool true, .bool true, u51, u52, u53, u54, u55, u56, u57, u58, u59, u60, u61, u62, u63, u64, ud, ud, ud], []⟩ <| tqr_ [0, 1, 2] <| pkq (uN n) <| ppq (uN n2) (exec_cast (congrArg (Value.int .u64) ((wrapM (2 * n)).trans (congrArg (fun n : Nat => (n : Int)) hn2))) (by kernel_rfl)) <| pkq (uN n2) <| eqr_ [0, 1, 2, 3, 4, 5, 6] ?_
          refine pkq (uN top) ?_
          rcases (show top = 1 ∨ (top = 0 ∧ c ≤ l3) ∨ (top = 0 ∧ l3 < c) by omega) with htp | ⟨htp, hlc3⟩ | ⟨htp, hlc3⟩
          · obtain ⟨l4, hl4⟩ : ∃ x, 2 * left + t0 - c = x := ⟨_, rfl⟩
            obtain ⟨n3, hn3⟩ : ∃ x, n2 + 1 = x := ⟨_, rfl⟩
            have hdn0 := hyes (by omega)
            rw [hl4, hn2, hn3] at hdn0
            have hdn : Dv X c ((((j : Nat) : Int) - 1 + 1).toNat) l4 n3 true := by rw [show (((j : Nat) : Int) - 1 + 1).toNat = j by omega]; exact hdn0
            refine ppq (.bool true) (eqt (((top : Nat) : Int)) ((1) : Int) (by omega)) <| pkq (.bool true) <| pnq <| pnq <| pnq <| pkq (.bool true) <| ey_ <| qr_ [0, 1, 2, 3] <| pkq (uN l3) <| pkq (uN c) <| ppq (uN l4) (exec_cast (congrArg (Value.int .u64) (sub_any (x := l3) (z := c) (r := l4) (by omega) (by omega))) (by kernel_rfl)) <| pkq (uN l4) <| er_ [0, 1, 2] <| pkq (uN n2) ?_
            refine ppq (uN n3) (exec_cast (congrArg (Value.int .u64) ((wrapU (n2 + 1) (by omega)).trans (congrArg (fun n : Nat => (n : Int)) hn3))) (by kernel_rfl)) <| pkq (uN n3) <| ps_end <| blk_n <| tr_ [0, 1, 2] <| pkq (iN j) <| ppq (.int .i64 (((j : Nat) : Int) - 1)) (exec_cast (congrArg (Value.int .i64) (wrapI (((j : Nat) : Int) - 1) _ rfl (by omega) (by omega))) (by kernel_rfl)) <| pkq (.int .i64 (((j : Nat) : Int) - 1)) <| et_ ?_
            refine ⟨⟨((j : Nat) : Int) - 1, l4, n3, true, (uN top), (uN t0), (iN j), (.bool true), (iN j), (.int .i64 (((j : Nat) : Int) - 1)), (uN left), (uN top), (uN lo), (iN j), (iN jm), (uN lj), (uN t0), (iN j), (.bool false), u36, u37, u38, u39, u40, (uN left), (uN l2), (uN t0), (uN l3), (.bool false), (.bool false), (uN n), (uN n6), (.bool true), (.bool true), (uN n), (uN n2), (uN top), (.bool true), (.bool true), undef, undef, undef, (.bool true), (uN l3), (uN c), (uN l4), (uN n2), (uN n3), by kernel_rfl, by omega, hdn, K5⟩, ?_⟩
            exact lt_meas (x := (((j : Nat) : Int) - 1 + 1).toNat) (y := (((j : Nat) : Int) + 1).toNat) (by kernel_rfl) (by kernel_rfl) (by omega)
          · obtain ⟨l4, hl4⟩ : ∃ x, 2 * left + t0 - c = x := ⟨_, rfl⟩
            obtain ⟨n3, hn3⟩ : ∃ x, n2 + 1 = x := ⟨_, rfl⟩
            have hdn0 := hyes (by omega)
            rw [hl4, hn2, hn3] at hdn0
            have hdn : Dv X c ((((j : Nat) : Int) - 1 + 1).toNat) l4 n3 true := by rw [show (((j : Nat) : Int) - 1 + 1).toNat = j by omega]; exact hdn0
            refine ppq (.bool false) (eqf (((top : Nat) : Int)) ((1) : Int) (by omega)) <| pkq (.bool false) <| pkq (uN l3) <| pkq (uN c) <| ppq (.bool true) (dct ((((l3 : Nat) : Int)) ≥ (((c : Nat) : Int))) (by omega)) <| pkq (.bool true) <| ey_ <| qr_ [0, 1, 2, 3] <| pkq (uN l3) <| pkq (uN c) <| ppq (uN l4) (exec_cast (congrArg (Value.int .u64) (sub_any (x := l3) (z := c) (r := l4) (by omega) (by omega))) (by kernel_rfl)) <| pkq (uN l4) <| er_ [0, 1, 2] <| pkq (uN n2) ?_
            refine ppq (uN n3) (exec_cast (congrArg (Value.int .u64) ((wrapU (n2 + 1) (by omega)).trans (congrArg (fun n : Nat => (n : Int)) hn3))) (by kernel_rfl)) <| pkq (uN n3) <| ps_end <| blk_n <| tr_ [0, 1, 2] <| pkq (iN j) <| ppq (.int .i64 (((j : Nat) : Int) - 1)) (exec_cast (congrArg (Value.int .i64) (wrapI (((j : Nat) : Int) - 1) _ rfl (by omega) (by omega))) (by kernel_rfl)) <| pkq (.int .i64 (((j : Nat) : Int) - 1)) <| et_ ?_
            refine ⟨⟨((j : Nat) : Int) - 1, l4, n3, true, (uN top), (uN t0), (iN j), (.bool true), (iN j), (.int .i64 (((j : Nat) : Int) - 1)), (uN left), (uN top), (uN lo), (iN j), (iN jm), (uN lj), (uN t0), (iN j), (.bool false), u36, u37, u38, u39, u40, (uN left), (uN l2), (uN t0), (uN l3), (.bool false), (.bool false), (uN n), (uN n6), (.bool true), (.bool true), (uN n), (uN n2), (uN top), (.bool false), (.bool false), (uN l3), (uN c), (.bool true), (.bool true), (uN l3), (uN c), (uN l4), (uN n2), (uN n3), by kernel_rfl, by omega, hdn, K5⟩, ?_⟩
            exact lt_meas (x := (((j : Nat) : Int) - 1 + 1).toNat) (y := (((j : Nat) : Int) + 1).toNat) (by kernel_rfl) (by kernel_rfl) (by omega)
          · have hdn0 := hno (by omega)
            rw [show 2 * left + t0 = l3 by omega, hn2] at hdn0
            have hdn : Dv X c ((((j : Nat) : Int) - 1 + 1).toNat) l3 n2 true := by rw [show (((j : Nat) : Int) - 1 + 1).toNat = j by omega]; exact hdn0
            refine ppq (.bool false) (eqf (((top : Nat) : Int)) ((1) : Int) (by omega)) <| pkq (.bool false) <| pkq (uN l3) <| pkq (uN c) <| ppq (.bool false) (dcf ((((l3 : Nat) : Int)) ≥ (((c : Nat) : Int))) (by omega)) <| pkq (.bool false) <| en_ <| s_ <| blk_n <| tr_ [0, 1, 2] <| pkq (iN j) <| ppq (.int .i64 (((j : Nat) : Int) - 1)) (exec_cast (congrArg (Value.int .i64) (wrapI (((j : Nat) : Int) - 1) _ rfl (by omega) (by omega))) (by kernel_rfl)) <| pkq (.int .i64 (((j : Nat) : Int) - 1)) <| et_ ?_
            refine ⟨⟨((j : Nat) : Int) - 1, l3, n2, true, (uN top), (uN t0), (iN j), (.bool true), (iN j), (.int .i64 (((j : Nat) : Int) - 1)), (uN left), (uN top), (uN lo), (iN j), (iN jm), (uN lj), (uN t0), (iN j), (.bool false), u36, u37, u38, u39, u40, (uN left), (uN l2), (uN t0), (uN l3), (.bool false), (.bool false), (uN n), (uN n6), (.bool true), (.bool true), (uN n), (uN n2), (uN top), (.bool false), (.bool false), (uN l3), (uN c), (.bool false), (.bool false), u60, u61, u62, u63, u64, by kernel_rfl, by omega, hdn, K5⟩, ?_⟩
            exact lt_meas (x := (((j : Nat) : Int) - 1 + 1).toNat) (y := (((j : Nat) : Int) + 1).toNat) (by kernel_rfl) (by kernel_rfl) (by omega)
        · subst hov
          have hoe : (false || decide (9223372036854775808 ≤ n)) = false := by rw [decide_eq_false hn63]; rfl
          rw [hoe] at hno hyes
          refine pkq (.bool false) <| pkq (.bool false) <| pkq (uN n) <| ppq (uN n6) (exec_cast (congrArg (fun n : Nat => Value.int .u64 (n : Int)) hn6) (exec_binop .shr 22 96 (.tmp 47) (.const (.int .u64 63)) (by kernel_rfl) (uN n) (uN 63) _ (by kernel_rfl) (by kernel_rfl) (by kernel_rfl) (run_shrU _ _ n 63 (by omega)))) <| ppq (.bool false) (eqf (((n6 : Nat) : Int)) ((1) : Int) (by omega)) <| pkq (.bool false) <| pkq (.bool false) <| ps_end <| sy_a ⟨#[uN a0, uN b0, uN c, ud, ud, ud, .int .u64 0, .bool false, .int .u64 0, uN hi, uN lo, uN n, .bool false, uN l3, iN j, uN top, uN t0, .tuple #[uN hi, uN lo], uN a0, uN b0, .tuple #[uN hi, uN lo], uN hi, uN lo, iN j, .bool true, u25, u26, uN left, uN top, uN lo, iN j, iN jm, uN lj, uN t0, iN j, .bool false, u36, u37, u38, u39, u40, uN left, uN l2, uN t0, uN l3, .bool false, .bool false, uN n, uN n6, .bool false, .bool false, u51, u52, u53, u54, u55, u56, u57, u58, u59, u60, u61, u62, u63, u64, ud, ud, ud], []⟩ <| tqr_ [0, 1, 2] <| pkq (uN n) <| ppq (uN n2) (exec_cast (congrArg (Value.int .u64) ((wrapM (2 * n)).trans (congrArg (fun n : Nat => (n : Int)) hn2))) (by kernel_rfl)) <| pkq (uN n2) <| eqr_ [0, 1, 2, 3, 4, 5, 6] ?_
          refine pkq (uN top) ?_
          rcases (show top = 1 ∨ (top = 0 ∧ c ≤ l3) ∨ (top = 0 ∧ l3 < c) by omega) with htp | ⟨htp, hlc3⟩ | ⟨htp, hlc3⟩
          · obtain ⟨l4, hl4⟩ : ∃ x, 2 * left + t0 - c = x := ⟨_, rfl⟩
            obtain ⟨n3, hn3⟩ : ∃ x, n2 + 1 = x := ⟨_, rfl⟩
            have hdn0 := hyes (by omega)
            rw [hl4, hn2, hn3] at hdn0
            have hdn : Dv X c ((((j : Nat) : Int) - 1 + 1).toNat) l4 n3 false := by rw [show (((j : Nat) : Int) - 1 + 1).toNat = j by omega]; exact hdn0
            refine ppq (.bool true) (eqt (((top : Nat) : Int)) ((1) : Int) (by omega)) <| pkq (.bool true) <| pnq <| pnq <| pnq <| pkq (.bool true) <| ey_ <| qr_ [0, 1, 2, 3] <| pkq (uN l3) <| pkq (uN c) <| ppq (uN l4) (exec_cast (congrArg (Value.int .u64) (sub_any (x := l3) (z := c) (r := l4) (by omega) (by omega))) (by kernel_rfl)) <| pkq (uN l4) <| er_ [0, 1, 2] <| pkq (uN n2) ?_
            refine ppq (uN n3) (exec_cast (congrArg (Value.int .u64) ((wrapU (n2 + 1) (by omega)).trans (congrArg (fun n : Nat => (n : Int)) hn3))) (by kernel_rfl)) <| pkq (uN n3) <| ps_end <| blk_n <| tr_ [0, 1, 2] <| pkq (iN j) <| ppq (.int .i64 (((j : Nat) : Int) - 1)) (exec_cast (congrArg (Value.int .i64) (wrapI (((j : Nat) : Int) - 1) _ rfl (by omega) (by omega))) (by kernel_rfl)) <| pkq (.int .i64 (((j : Nat) : Int) - 1)) <| et_ ?_
            refine ⟨⟨((j : Nat) : Int) - 1, l4, n3, false, (uN top), (uN t0), (iN j), (.bool true), (iN j), (.int .i64 (((j : Nat) : Int) - 1)), (uN left), (uN top), (uN lo), (iN j), (iN jm), (uN lj), (uN t0), (iN j), (.bool false), u36, u37, u38, u39, u40, (uN left), (uN l2), (uN t0), (uN l3), (.bool false), (.bool false), (uN n), (uN n6), (.bool false), (.bool false), (uN n), (uN n2), (uN top), (.bool true), (.bool true), undef, undef, undef, (.bool true), (uN l3), (uN c), (uN l4), (uN n2), (uN n3), by kernel_rfl, by omega, hdn, K5⟩, ?_⟩
            exact lt_meas (x := (((j : Nat) : Int) - 1 + 1).toNat) (y := (((j : Nat) : Int) + 1).toNat) (by kernel_rfl) (by kernel_rfl) (by omega)
          · obtain ⟨l4, hl4⟩ : ∃ x, 2 * left + t0 - c = x := ⟨_, rfl⟩
            obtain ⟨n3, hn3⟩ : ∃ x, n2 + 1 = x := ⟨_, rfl⟩
            have hdn0 := hyes (by omega)
            rw [hl4, hn2, hn3] at hdn0
            have hdn : Dv X c ((((j : Nat) : Int) - 1 + 1).toNat) l4 n3 false := by rw [show (((j : Nat) : Int) - 1 + 1).toNat = j by omega]; exact hdn0
            refine ppq (.bool false) (eqf (((top : Nat) : Int)) ((1) : Int) (by omega)) <| pkq (.bool false) <| pkq (uN l3) <| pkq (uN c) <| ppq (.bool true) (dct ((((l3 : Nat) : Int)) ≥ (((c : Nat) : Int))) (by omega)) <| pkq (.bool true) <| ey_ <| qr_ [0, 1, 2, 3] <| pkq (uN l3) <| pkq (uN c) <| ppq (uN l4) (exec_cast (congrArg (Value.int .u64) (sub_any (x := l3) (z := c) (r := l4) (by omega) (by omega))) (by kernel_rfl)) <| pkq (uN l4) <| er_ [0, 1, 2] <| pkq (uN n2) ?_
            refine ppq (uN n3) (exec_cast (congrArg (Value.int .u64) ((wrapU (n2 + 1) (by omega)).trans (congrArg (fun n : Nat => (n : Int)) hn3))) (by kernel_rfl)) <| pkq (uN n3) <| ps_end <| blk_n <| tr_ [0, 1, 2] <| pkq (iN j) <| ppq (.int .i64 (((j : Nat) : Int) - 1)) (exec_cast (congrArg (Value.int .i64) (wrapI (((j : Nat) : Int) - 1) _ rfl (by omega) (by omega))) (by kernel_rfl)) <| pkq (.int .i64 (((j : Nat) : Int) - 1)) <| et_ ?_
            refine ⟨⟨((j : Nat) : Int) - 1, l4, n3, false, (uN top), (uN t0), (iN j), (.bool true), (iN j), (.int .i64 (((j : Nat) : Int) - 1)), (uN left), (uN top), (uN lo), (iN j), (iN jm), (uN lj), (uN t0), (iN j), (.bool false), u36, u37, u38, u39, u40, (uN left), (uN l2), (uN t0), (uN l3), (.bool false), (.bool false), (uN n), (uN n6), (.bool false), (.bool false), (uN n), (uN n2), (uN top), (.bool false), (.bool false), (uN l3), (uN c), (.bool true), (.bool true), (uN l3), (uN c), (uN l4), (uN n2), (uN n3), by kernel_rfl, by omega, hdn, K5⟩, ?_⟩
            exact lt_meas (x := (((j : Nat) : Int) - 1 + 1).toNat) (y := (((j : Nat) : Int) + 1).toNat) (by kernel_rfl) (by kernel_rfl) (by omega)
          · have hdn0 := hno (by omega)
            rw [show 2 * left + t0 = l3 by omega, hn2] at hdn0
            have hdn : Dv X c ((((j : Nat) : Int) - 1 + 1).toNat) l3 n2 false := by rw [show (((j : Nat) : Int) - 1 + 1).toNat = j by omega]; exact hdn0
            refine ppq (.bool false) (eqf (((top : Nat) : Int)) ((1) : Int) (by omega)) <| pkq (.bool false) <| pkq (uN l3) <| pkq (uN c) <| ppq (.bool false) (dcf ((((l3 : Nat) : Int)) ≥ (((c : Nat) : Int))) (by omega)) <| pkq (.bool false) <| en_ <| s_ <| blk_n <| tr_ [0, 1, 2] <| pkq (iN j) <| ppq (.int .i64 (((j : Nat) : Int) - 1)) (exec_cast (congrArg (Value.int .i64) (wrapI (((j : Nat) : Int) - 1) _ rfl (by omega) (by omega))) (by kernel_rfl)) <| pkq (.int .i64 (((j : Nat) : Int) - 1)) <| et_ ?_
            refine ⟨⟨((j : Nat) : Int) - 1, l3, n2, false, (uN top), (uN t0), (iN j), (.bool true), (iN j), (.int .i64 (((j : Nat) : Int) - 1)), (uN left), (uN top), (uN lo), (iN j), (iN jm), (uN lj), (uN t0), (iN j), (.bool false), u36, u37, u38, u39, u40, (uN left), (uN l2), (uN t0), (uN l3), (.bool false), (.bool false), (uN n), (uN n6), (.bool false), (.bool false), (uN n), (uN n2), (uN top), (.bool false), (.bool false), (uN l3), (uN c), (.bool false), (.bool false), u60, u61, u62, u63, u64, by kernel_rfl, by omega, hdn, K5⟩, ?_⟩
            exact lt_meas (x := (((j : Nat) : Int) - 1 + 1).toNat) (y := (((j : Nat) : Int) + 1).toNat) (by kernel_rfl) (by kernel_rfl) (by omega)
noncomputable def qc72_0 (n : Nat) : Code := partOf Tryd.f26 n
theorem r01Capped_ok (m a0 b0 c : Nat) (hm : m < 18446744073709551616) (ha : a0 < 18446744073709551616) (hb : b0 < 18446744073709551616) (hc : 0 < c) (hc2 : c < 18446744073709551616) (w : World) :
    Calls Tryd.prog 26 #[.int .u64 ((m : Nat) : Int), .int .u64 ((a0 : Nat) : Int), .int .u64 ((b0 : Nat) : Int), .int .u64 ((c : Nat) : Int)] w (fun e w' => e = .returned (.tuple #[.int .u64 ((min m (a0 * b0 / c) : Nat) : Int), .int .i64 0]) ∧ Keeps Nob w w') := by
  have K0 : Keeps Nob w w := Keeps.refl _ _
  refine sy_enter (qc72_0 1) ⟨#[uN m, uN a0, uN b0, uN c, ud, ud, ud, ud, ud, ud, ud, ud, ud, ud, ud, ud, ud, ud, ud, ud, ud, ud, ud, ud, ud, ud, ud, ud, ud, ud, ud], []⟩ Tryd.func26 (by kernel_rfl) (by kernel_rfl) <| qr_ [0, 1] <| pkq (.int .u64 0) <| pkq (.int .i64 0) <| eq_ <| qr_ [0, 1] <| pkq (uN c) <| ppq (.bool false) (eqf (((c : Nat) : Int)) ((0) : Int) (by omega)) <| en_ <| s_ <| tqr_ [0, 1, 2, 3, 4, 5, 6, 7, 8, 9, 10] <| pkq (uN a0) <| pkq (uN b0) <| pkq (uN c) ?_
  refine pcq 40 #[uN a0, uN b0, uN c] Tryd.func40 ((r01Divide_ok a0 b0 c ha hb hc hc2 _).mono ?_)
  rintro e V1 ⟨n, over, left, rfl, hn, hov, kV1⟩
  refine ⟨_, rfl, ?_⟩
  have K2 := K0.nn kV1
  have z3 := kV1.size
  refine pkq (.tuple #[uN n, .bool over, uN left]) <| pkq (uN n) <| pkq (.bool over) <| pkq (uN left) <| pkq (uN n) <| pkq (.bool over) <| pkq (uN left) <| eq_ <| qr_ [0, 1, 2, 3, 4, 5] ?_
  rcases (show over = true ∨ over = false by cases over <;> simp) with hv | hv
  · subst hv
    have hq := of_decide_eq_true hov.symm
    refine pkq (.bool true) <| pkq (.bool true) <| pnq <| pnq ?_
    by_cases hmn : m < n
    · refine pnq <| pkq (.bool true) <| ey_ <| qr_ [0, 1, 2] <| pkq (uN m) <| pkq (uN m) <| pkq (.int .i64 0) <| ps_end <| sy_a ⟨#[uN m, uN a0, uN b0, uN c, ud, ud, ud, ud, uN m, .int .i64 0, uN n, .bool true, uN left, uN c, .bool false, .tuple #[uN n, .bool true, uN left], uN a0, uN b0, uN c, .tuple #[uN n, .bool true, uN left], uN n, .bool true, uN left, .bool true, .bool true, ud, ud, ud, .bool true, uN m, ud], []⟩ <| then_n <| u_ <| then_r <| so_ (.tuple #[.int .u64 ((m : Nat) : Int), .int .i64 0]) ?_
      exact ⟨by rw [cap_over hn hm (.inl hq)], K2⟩
    · refine pnq <| pkq (.bool true) <| ey_ <| qr_ [0, 1, 2] <| pkq (uN m) <| pkq (uN m) <| pkq (.int .i64 0) <| ps_end <| sy_a ⟨#[uN m, uN a0, uN b0, uN c, ud, ud, ud, ud, uN m, .int .i64 0, uN n, .bool true, uN left, uN c, .bool false, .tuple #[uN n, .bool true, uN left], uN a0, uN b0, uN c, .tuple #[uN n, .bool true, uN left], uN n, .bool true, uN left, .bool true, .bool true, ud, ud, ud, .bool true, uN m, ud], []⟩ <| then_n <| u_ <| then_r <| so_ (.tuple #[.int .u64 ((m : Nat) : Int), .int .i64 0]) ?_
      exact ⟨by rw [cap_over hn hm (.inl hq)], K2⟩
  · subst hv
    have hq := of_decide_eq_false hov.symm
    refine pkq (.bool false) <| pkq (.bool false) <| pkq (uN n) <| pkq (uN m) ?_
    by_cases hmn : m < n
    · refine ppq (.bool true) (dct ((((n : Nat) : Int)) > (((m : Nat) : Int))) (by omega)) <| pkq (.bool true) <| ey_ <| qr_ [0, 1, 2] <| pkq (uN m) <| pkq (uN m) <| pkq (.int .i64 0) <| ps_end <| sy_a ⟨#[uN m, uN a0, uN b0, uN c, ud, ud, ud, ud, uN m, .int .i64 0, uN n, .bool false, uN left, uN c, .bool false, .tuple #[uN n, .bool false, uN left], uN a0, uN b0, uN c, .tuple #[uN n, .bool false, uN left], uN n, .bool false, uN left, .bool false, .bool false, uN n, uN m, .bool true, .bool true, uN m, ud], []⟩ <| then_n <| u_ <| then_r <| so_ (.tuple #[.int .u64 ((m : Nat) : Int), .int .i64 0]) ?_
      exact ⟨by rw [cap_over hn hm (.inr hmn)], K2⟩
    · refine ppq (.bool false) (dcf ((((n : Nat) : Int)) > (((m : Nat) : Int))) (by omega)) <| pkq (.bool false) <| en_ <| s_ <| tqr_ [0, 1, 2] <| pkq (uN n) <| pkq (uN n) <| pkq (.int .i64 0) <| ps_end <| sy_a ⟨#[uN m, uN a0, uN b0, uN c, ud, ud, ud, ud, uN n, .int .i64 0, uN n, .bool false, uN left, uN c, .bool false, .tuple #[uN n, .bool false, uN left], uN a0, uN b0, uN c, .tuple #[uN n, .bool false, uN left], uN n, .bool false, uN left, .bool false, .bool false, uN n, uN m, .bool false, .bool false, ud, uN n], []⟩ <| then_n <| u_ <| so_ (.tuple #[.int .u64 ((n : Nat) : Int), .int .i64 0]) ?_
      exact ⟨by rw [cap_in hn hq hmn], K2⟩
end Go.Proofs.YtghohakbepeffaaDoor
namespace Go.Proofs.YtghohakbepeffaaDoor
set_option maxRecDepth 100000
set_option maxHeartbeats 4000000
open Go Go.RowKit Go.Own Go.Shelf
theorem par_more {p : Par} (h : p.check.1 = 0) : (0 ≤ p.base ∧ p.base ≤ 1000000000) ∧ (0 ≤ p.mult ∧ p.mult ≤ 1000) := by
  have hg : ∀ j, j < 11 → p.good j := by
    intro j hj
    refine Classical.byContradiction fun hn => ?_
    unfold Par.check at h
    cases hf : (List.range 11).find? (fun i => decide (¬ p.good i)) with
    | some i => rw [hf] at h; cases h
    | none =>
      rw [List.find?_eq_none] at hf
      exact hf j (by simpa using hj) (by simpa using hn)
  have g1 := hg 7 (by decide)
  have g2 := hg 8 (by decide)
  exact ⟨g1, g2⟩
theorem noted_par {p : Par} {l : List Nt} {h : Int} (a : (nnoted p l h).2 = 0) : p.check.1 = 0 := by
  unfold nnoted at a
  by_cases c : nref p l h ≠ 0
  · rw [if_pos c] at a; exact absurd a c
  · exact (nref_zero (Classical.byContradiction c)).1
theorem noted_le (p : Par) (l : List Nt) (h : Int) : (nnoted p l h).1 ≤ 4611686018427387904 := by
  unfold nnoted; split
  · exact Nat.zero_le _
  · exact nsum_le _
theorem nnoted_is {x n : Nat} {y r : Int} {args : Array Value} {w : World} (h1 : x = n) (h2 : y = r) (h : Calls Tryd.prog 8 args w (fun e w' => e = .returned (.tuple #[.int .u64 ((x : Nat) : Int), .int .i64 y]) ∧ Keeps Nob w w')) : Calls Tryd.prog 8 args w (fun e w' => e = .returned (.tuple #[.int .u64 ((n : Nat) : Int), .int .i64 r]) ∧ Keeps Nob w w') := h1 ▸ h2 ▸ h
theorem capped_is {x n : Nat} {args : Array Value} {w : World} (h1 : x = n) (h : Calls Tryd.prog 25 args w (fun e w' => e = .returned (.tuple #[.int .u64 ((x : Nat) : Int), .int .i64 0]) ∧ Keeps Nob w w')) : Calls Tryd.prog 25 args w (fun e w' => e = .returned (.tuple #[.int .u64 ((n : Nat) : Int), .int .i64 0]) ∧ Keeps Nob w w') := h1 ▸ h
noncomputable def qc73_0 (n : Nat) : Code := partOf Tryd.f10 n
theorem nFrac_err (p : Par) (hp : p.Ok) (l : List Nt) (v : Value) (h : Int) (hh1 : i64ok h) (s t : Nat) (hs : s < 18446744073709551616) (ht : t < 18446744073709551616) (w : World) (hl : Sl w 2 Nt.cl v l) (rf : Int) (n : Nat) (hn : (nnoted p l h).1 = n) (hrf : (nnoted p l h).2 = rf) (h0 : ¬ rf = 0) (het : ErrTab w) :
    Calls Tryd.prog 10 #[.agg p.cells, v, .int .i64 h, .int .u64 ((s : Nat) : Int), .int .u64 ((t : Nat) : Int)] w (fun e w' => e = .returned (.tuple #[.int .u64 (((nfrac p l h s t).1 : Nat) : Int), .int .i64 (nfrac p l h s t).2]) ∧ Keeps Nob w w') := by
  have K0 : Keeps Nob w w := Keeps.refl _ _
  refine sy_enter (qc73_0 1) ⟨#[.agg p.cells, v, .int .i64 h, uN s, uN t, ud, ud, ud, ud, ud, ud, ud, ud, ud, ud, ud, ud, ud, ud, ud, ud, ud, ud, ud, ud, ud, ud, ud, ud, ud, ud, ud, ud, ud, ud, ud, ud, ud, ud, ud, ud, ud, ud, ud, ud, ud, ud, ud, ud, ud, ud, ud, ud, ud, ud, ud], []⟩ Tryd.func10 (by kernel_rfl) (by kernel_rfl) <| qr_ [0, 1, 2] <| pbx 24 p.cells (.agg p.cells) fun V1 gp egp h2 kV1 => ?_
  have n3 : w.heap.size ≤ gp := egp ▸ K0.size
  have h4 : Sl V1 2 Nt.cl v l := hl.keepsN kV1
  have K5 := K0.nn kV1
  have z6 := kV1.size
  refine pkq (.int .u64 0) <| pkq (.int .i64 0) <| eqr_ [0, 1, 2, 3, 4, 5, 6, 7, 8] <| ppq (.agg (p.cells)) (ldr 24 gp (h2) (by kernel_rfl)) <| pkq (v) <| pkq (.int .i64 h) ?_
  refine pcq 8 #[.agg (p.cells), v, .int .i64 h] Tryd.func8 ((nnoted_is hn hrf (nNoted_all p hp l v h hh1 _ h4 (ErrTab.keeps het K5))).mono ?_)
  rintro e V7 ⟨rfl, kV7⟩
  refine ⟨_, rfl, ?_⟩
  have K10 := K5.nn kV7
  have z11 := kV7.size
  refine pkq (.tuple #[uN n, .int .i64 rf]) <| pkq (uN n) <| pkq (.int .i64 rf) <| pkq (uN n) <| pkq (.int .i64 rf) <| eq_ <| bl_ 0 <| qr_ [0, 1, 2] <| pkq (.int .i64 rf) <| ppq (.bool true) (nqt ((rf) : Int) ((0) : Int) (by omega)) <| pkq (.bool true) <| ey_ <| qr_ [0, 1, 2] <| pkq (.int .i64 rf) ?_
  refine pkq (.int .u64 0) <| pkq (.int .i64 rf) <| eu_ <| blk_r <| then_r <| so_ (.tuple #[.int .u64 0, .int .i64 rf]) ?_
  exact ⟨by unfold nfrac; rw [hrf, if_pos h0]; rfl, K10⟩
theorem nFrac_over1 (p : Par) (hp : p.Ok) (l : List Nt) (v : Value) (h : Int) (hh1 : i64ok h) (s t : Nat) (hs : s < 18446744073709551616) (ht : t < 18446744073709551616) (w : World) (hl : Sl w 2 Nt.cl v l) (n bs m f : Nat) (hn : (nnoted p l h).1 = n) (hrf : (nnoted p l h).2 = 0) (hn2 : n ≤ 4611686018427387904) (hbs : p.base = ((bs : Nat) : Int)) (hm : p.mult = ((m : Nat) : Int)) (hbl : bs ≤ 1000000000) (hml : m ≤ 1000) (hf : min 1000000000 (m * 1000000000 * (min (n + s) 4611686018427387904) / t) = f) (hq : 4611686018427387904 < s) (het : ErrTab w) :
    Calls Tryd.prog 10 #[.agg p.cells, v, .int .i64 h, .int .u64 ((s : Nat) : Int), .int .u64 ((t : Nat) : Int)] w (fun e w' => e = .returned (.tuple #[.int .u64 (((nfrac p l h s t).1 : Nat) : Int), .int .i64 (nfrac p l h s t).2]) ∧ Keeps Nob w w') := by
  have K0 : Keeps Nob w w := Keeps.refl _ _
  refine sy_enter (qc73_0 1) ⟨#[.agg p.cells, v, .int .i64 h, uN s, uN t, ud, ud, ud, ud, ud, ud, ud, ud, ud, ud, ud, ud, ud, ud, ud, ud, ud, ud, ud, ud, ud, ud, ud, ud, ud, ud, ud, ud, ud, ud, ud, ud, ud, ud, ud, ud, ud, ud, ud, ud, ud, ud, ud, ud, ud, ud, ud, ud, ud, ud, ud], []⟩ Tryd.func10 (by kernel_rfl) (by kernel_rfl) <| qr_ [0, 1, 2] <| pbx 24 p.cells (.agg p.cells) fun V1 gp egp h2 kV1 => ?_
  have n3 : w.heap.size ≤ gp := egp ▸ K0.size
  have h4 : Sl V1 2 Nt.cl v l := hl.keepsN kV1
  have K5 := K0.nn kV1
  have z6 := kV1.size
  refine pkq (.int .u64 0) <| pkq (.int .i64 0) <| eqr_ [0, 1, 2, 3, 4, 5, 6, 7, 8] <| ppq (.agg (p.cells)) (ldr 24 gp (h2) (by kernel_rfl)) <| pkq (v) <| pkq (.int .i64 h) ?_
  refine pcq 8 #[.agg (p.cells), v, .int .i64 h] Tryd.func8 ((nnoted_is hn hrf (nNoted_all p hp l v h hh1 _ h4 (ErrTab.keeps het K5))).mono ?_)
  rintro e V7 ⟨rfl, kV7⟩
  refine ⟨_, rfl, ?_⟩
  have K10 := K5.nn kV7
  have z11 := kV7.size
  refine pkq (.tuple #[uN n, .int .i64 0]) <| pkq (uN n) <| pkq (.int .i64 0) <| pkq (uN n) <| pkq (.int .i64 0) <| eq_ <| bl_ 0 <| qr_ [0, 1, 2] <| pkq (.int .i64 0) <| pkq (.bool false) <| pkq (.bool false) <| en_ <| qr_ [0, 1, 2, 3, 4, 5, 6] <| pkq (uN s) ?_
  refine ppq (.bool true) (dct ((((s : Nat) : Int)) > ((4611686018427387904) : Int)) (by omega)) <| pkq (.bool true) <| pnq <| pnq <| pkq (.bool true) <| pkq (.bool true) <| ey_ <| qr_ [0, 1] <| pkq (.int .u64 0) <| pkq (.int .i64 12) <| ps_end <| sy_a ⟨#[.agg p.cells, v, .int .i64 h, uN s, uN t, pT gp 0, ud, ud, ud, ud, .int .u64 0, .int .i64 12, uN n, .int .i64 0, ud, .tuple #[uN n, .int .i64 0], .agg (p.cells), v, .int .i64 h, .tuple #[uN n, .int .i64 0], uN n, .int .i64 0, .bool false, .int .i64 0, .bool false, ud, .bool true, uN s, .bool true, .bool true, ud, ud, .bool true, ud, ud, ud, ud, ud, ud, ud, ud, ud, ud, ud, ud, ud, ud, ud, ud, ud, ud, ud, ud, ud, ud, ud], []⟩ <| then_n <| u_ ?_
  refine blk_r <| then_r <| so_ (.tuple #[.int .u64 0, .int .i64 12]) ?_
  exact ⟨by unfold nfrac; rw [hrf, if_neg (by decide), if_pos (.inl hq)]; rfl, K10⟩
theorem nFrac_over2 (p : Par) (hp : p.Ok) (l : List Nt) (v : Value) (h : Int) (hh1 : i64ok h) (s t : Nat) (hs : s < 18446744073709551616) (ht : t < 18446744073709551616) (w : World) (hl : Sl w 2 Nt.cl v l) (n bs m f : Nat) (hn : (nnoted p l h).1 = n) (hrf : (nnoted p l h).2 = 0) (hn2 : n ≤ 4611686018427387904) (hbs : p.base = ((bs : Nat) : Int)) (hm : p.mult = ((m : Nat) : Int)) (hbl : bs ≤ 1000000000) (hml : m ≤ 1000) (hf : min 1000000000 (m * 1000000000 * (min (n + s) 4611686018427387904) / t) = f) (hq : ¬ 4611686018427387904 < s) (hq2 : 4611686018427387904 < t) (het : ErrTab w) :
    Calls Tryd.prog 10 #[.agg p.cells, v, .int .i64 h, .int .u64 ((s : Nat) : Int), .int .u64 ((t : Nat) : Int)] w (fun e w' => e = .returned (.tuple #[.int .u64 (((nfrac p l h s t).1 : Nat) : Int), .int .i64 (nfrac p l h s t).2]) ∧ Keeps Nob w w') := by
  have K0 : Keeps Nob w w := Keeps.refl _ _
  refine sy_enter (qc73_0 1) ⟨#[.agg p.cells, v, .int .i64 h, uN s, uN t, ud, ud, ud, ud, ud, ud, ud, ud, ud, ud, ud, ud, ud, ud, ud, ud, ud, ud, ud, ud, ud, ud, ud, ud, ud, ud, ud, ud, ud, ud, ud, ud, ud, ud, ud, ud, ud, ud, ud, ud, ud, ud, ud, ud, ud, ud, ud, ud, ud, ud, ud], []⟩ Tryd.func10 (by kernel_rfl) (by kernel_rfl) <| qr_ [0, 1, 2] <| pbx 24 p.cells (.agg p.cells) fun V1 gp egp h2 kV1 => ?_
  have n3 : w.heap.size ≤ gp := egp ▸ K0.size
  have h4 : Sl V1 2 Nt.cl v l := hl.keepsN kV1
  have K5 := K0.nn kV1
  have z6 := kV1.size
  refine pkq (.int .u64 0) <| pkq (.int .i64 0) <| eqr_ [0, 1, 2, 3, 4, 5, 6, 7, 8] <| ppq (.agg (p.cells)) (ldr 24 gp (h2) (by kernel_rfl)) <| pkq (v) <| pkq (.int .i64 h) ?_
  refine pcq 8 #[.agg (p.cells), v, .int .i64 h] Tryd.func8 ((nnoted_is hn hrf (nNoted_all p hp l v h hh1 _ h4 (ErrTab.keeps het K5))).mono ?_)
  rintro e V7 ⟨rfl, kV7⟩
  refine ⟨_, rfl, ?_⟩
  have K10 := K5.nn kV7
  have z11 := kV7.size
  refine pkq (.tuple #[uN n, .int .i64 0]) <| pkq (uN n) <| pkq (.int .i64 0) <| pkq (uN n) <| pkq (.int .i64 0) <| eq_ <| bl_ 0 <| qr_ [0, 1, 2] <| pkq (.int .i64 0) <| pkq (.bool false) <| pkq (.bool false) <| en_ <| qr_ [0, 1, 2, 3, 4, 5, 6] <| pkq (uN s) ?_
  refine ppq (.bool false) (dcf ((((s : Nat) : Int)) > ((4611686018427387904) : Int)) (by omega)) <| pkq (.bool false) <| pkq (uN t) <| ppq (.bool true) (dct ((((t : Nat) : Int)) > ((4611686018427387904) : Int)) (by omega)) <| pkq (.bool true) <| pkq (.bool true) <| ey_ <| qr_ [0, 1] <| pkq (.int .u64 0) <| pkq (.int .i64 12) <| ps_end <| sy_a ⟨#[.agg p.cells, v, .int .i64 h, uN s, uN t, pT gp 0, ud, ud, ud, ud, .int .u64 0, .int .i64 12, uN n, .int .i64 0, ud, .tuple #[uN n, .int .i64 0], .agg (p.cells), v, .int .i64 h, .tuple #[uN n, .int .i64 0], uN n, .int .i64 0, .bool false, .int .i64 0, .bool false, ud, .bool true, uN s, .bool false, .bool false, uN t, .bool true, .bool true, ud, ud, ud, ud, ud, ud, ud, ud, ud, ud, ud, ud, ud, ud, ud, ud, ud, ud, ud, ud, ud, ud, ud], []⟩ <| then_n <| u_ ?_
  refine blk_r <| then_r <| so_ (.tuple #[.int .u64 0, .int .i64 12]) ?_
  exact ⟨by unfold nfrac; rw [hrf, if_neg (by decide), if_pos (.inr hq2)]; rfl, K10⟩
theorem nFrac_zero (p : Par) (hp : p.Ok) (l : List Nt) (v : Value) (h : Int) (hh1 : i64ok h) (s t : Nat) (hs : s < 18446744073709551616) (ht : t < 18446744073709551616) (w : World) (hl : Sl w 2 Nt.cl v l) (n bs m f : Nat) (hn : (nnoted p l h).1 = n) (hrf : (nnoted p l h).2 = 0) (hn2 : n ≤ 4611686018427387904) (hbs : p.base = ((bs : Nat) : Int)) (hm : p.mult = ((m : Nat) : Int)) (hbl : bs ≤ 1000000000) (hml : m ≤ 1000) (hf : min 1000000000 (m * 1000000000 * (min (n + s) 4611686018427387904) / t) = f) (hq : ¬ 4611686018427387904 < s) (hq2 : t = 0) (het : ErrTab w) :
    Calls Tryd.prog 10 #[.agg p.cells, v, .int .i64 h, .int .u64 ((s : Nat) : Int), .int .u64 ((t : Nat) : Int)] w (fun e w' => e = .returned (.tuple #[.int .u64 (((nfrac p l h s t).1 : Nat) : Int), .int .i64 (nfrac p l h s t).2]) ∧ Keeps Nob w w') := by
  have K0 : Keeps Nob w w := Keeps.refl _ _
  refine sy_enter (qc73_0 1) ⟨#[.agg p.cells, v, .int .i64 h, uN s, uN t, ud, ud, ud, ud, ud, ud, ud, ud, ud, ud, ud, ud, ud, ud, ud, ud, ud, ud, ud, ud, ud, ud, ud, ud, ud, ud, ud, ud, ud, ud, ud, ud, ud, ud, ud, ud, ud, ud, ud, ud, ud, ud, ud, ud, ud, ud, ud, ud, ud, ud, ud], []⟩ Tryd.func10 (by kernel_rfl) (by kernel_rfl) <| qr_ [0, 1, 2] <| pbx 24 p.cells (.agg p.cells) fun V1 gp egp h2 kV1 => ?_
  have n3 : w.heap.size ≤ gp := egp ▸ K0.size
  have h4 : Sl V1 2 Nt.cl v l := hl.keepsN kV1
  have K5 := K0.nn kV1
  have z6 := kV1.size
  refine pkq (.int .u64 0) <| pkq (.int .i64 0) <| eqr_ [0, 1, 2, 3, 4, 5, 6, 7, 8] <| ppq (.agg (p.cells)) (ldr 24 gp (h2) (by kernel_rfl)) <| pkq (v) <| pkq (.int .i64 h) ?_
  refine pcq 8 #[.agg (p.cells), v, .int .i64 h] Tryd.func8 ((nnoted_is hn hrf (nNoted_all p hp l v h hh1 _ h4 (ErrTab.keeps het K5))).mono ?_)
  rintro e V7 ⟨rfl, kV7⟩
  refine ⟨_, rfl, ?_⟩
  have h9 := kV7.bk h2
  have K10 := K5.nn kV7
  have z11 := kV7.size
  refine pkq (.tuple #[uN n, .int .i64 0]) <| pkq (uN n) <| pkq (.int .i64 0) <| pkq (uN n) <| pkq (.int .i64 0) <| eq_ <| bl_ 0 <| qr_ [0, 1, 2] <| pkq (.int .i64 0) <| pkq (.bool false) <| pkq (.bool false) <| en_ <| qr_ [0, 1, 2, 3, 4, 5, 6] <| pkq (uN s) ?_
  refine ppq (.bool false) (dcf ((((s : Nat) : Int)) > ((4611686018427387904) : Int)) (by omega)) <| pkq (.bool false) <| pkq (uN t) <| ppq (.bool false) (dcf ((((t : Nat) : Int)) > ((4611686018427387904) : Int)) (by omega)) <| pkq (.bool false) <| pkq (.bool false) <| en_ <| qr_ [0, 1, 2] <| pkq (uN t) <| ppq (.bool true) (eqt (((t : Nat) : Int)) ((0) : Int) (by omega)) <| pkq (.bool true) <| ps_end <| sy_a ⟨#[.agg p.cells, v, .int .i64 h, uN s, uN t, pT gp 0, ud, ud, ud, ud, .int .u64 0, .int .i64 0, uN n, .int .i64 0, ud, .tuple #[uN n, .int .i64 0], .agg (p.cells), v, .int .i64 h, .tuple #[uN n, .int .i64 0], uN n, .int .i64 0, .bool false, .int .i64 0, .bool false, ud, .bool false, uN s, .bool false, .bool false, uN t, .bool false, .bool false, .bool true, uN t, .bool true, ud, ud, ud, ud, ud, ud, ud, ud, ud, ud, ud, ud, ud, ud, ud, ud, ud, ud, ud, ud], []⟩ <| then_n ?_
  refine y_ <| qr_ [0, 1, 2, 3] <| pkq (pT gp 7) <| ppq (uN bs) (exec_cast (congrArg (Value.int .u64) hbs) (ldc 22 gp 7 (rc (h9) (rfl)))) <| pkq (uN bs) <| pkq (.int .i64 0) <| eu_ <| blk_r <| then_r <| so_ (.tuple #[.int .u64 ((bs : Nat) : Int), .int .i64 0]) ?_
  exact ⟨by unfold nfrac; rw [hrf, if_neg (by decide), if_neg (by omega), if_pos hq2, hbs]; rfl, K10⟩
theorem nFrac_ok (p : Par) (hp : p.Ok) (l : List Nt) (v : Value) (h : Int) (hh1 : i64ok h) (s t : Nat) (hs : s < 18446744073709551616) (ht : t < 18446744073709551616) (w : World) (hl : Sl w 2 Nt.cl v l) (n bs m f : Nat) (hn : (nnoted p l h).1 = n) (hrf : (nnoted p l h).2 = 0) (hn2 : n ≤ 4611686018427387904) (hbs : p.base = ((bs : Nat) : Int)) (hm : p.mult = ((m : Nat) : Int)) (hbl : bs ≤ 1000000000) (hml : m ≤ 1000) (hf : min 1000000000 (m * 1000000000 * (min (n + s) 4611686018427387904) / t) = f) (hq : ¬ 4611686018427387904 < s) (hq2 : ¬ 4611686018427387904 < t) (hq3 : ¬ t = 0) (het : ErrTab w) :
    Calls Tryd.prog 10 #[.agg p.cells, v, .int .i64 h, .int .u64 ((s : Nat) : Int), .int .u64 ((t : Nat) : Int)] w (fun e w' => e = .returned (.tuple #[.int .u64 (((nfrac p l h s t).1 : Nat) : Int), .int .i64 (nfrac p l h s t).2]) ∧ Keeps Nob w w') := by
  have hf2 : f ≤ 1000000000 := by rw [← hf]; exact Nat.min_le_left _ _
  have K0 : Keeps Nob w w := Keeps.refl _ _
  refine sy_enter (qc73_0 1) ⟨#[.agg p.cells, v, .int .i64 h, uN s, uN t, ud, ud, ud, ud, ud, ud, ud, ud, ud, ud, ud, ud, ud, ud, ud, ud, ud, ud, ud, ud, ud, ud, ud, ud, ud, ud, ud, ud, ud, ud, ud, ud, ud, ud, ud, ud, ud, ud, ud, ud, ud, ud, ud, ud, ud, ud, ud, ud, ud, ud, ud], []⟩ Tryd.func10 (by kernel_rfl) (by kernel_rfl) <| qr_ [0, 1, 2] <| pbx 24 p.cells (.agg p.cells) fun V1 gp egp h2 kV1 => ?_
  have n3 : w.heap.size ≤ gp := egp ▸ K0.size
  have h4 : Sl V1 2 Nt.cl v l := hl.keepsN kV1
  have K5 := K0.nn kV1
  have z6 := kV1.size
  refine pkq (.int .u64 0) <| pkq (.int .i64 0) <| eqr_ [0, 1, 2, 3, 4, 5, 6, 7, 8] <| ppq (.agg (p.cells)) (ldr 24 gp (h2) (by kernel_rfl)) <| pkq (v) <| pkq (.int .i64 h) ?_
  refine pcq 8 #[.agg (p.cells), v, .int .i64 h] Tryd.func8 ((nnoted_is hn hrf (nNoted_all p hp l v h hh1 _ h4 (ErrTab.keeps het K5))).mono ?_)
  rintro e V7 ⟨rfl, kV7⟩
  refine ⟨_, rfl, ?_⟩
  have h9 := kV7.bk h2
  have K10 := K5.nn kV7
  have z11 := kV7.size
  refine pkq (.tuple #[uN n, .int .i64 0]) <| pkq (uN n) <| pkq (.int .i64 0) <| pkq (uN n) <| pkq (.int .i64 0) <| eq_ <| bl_ 0 <| qr_ [0, 1, 2] <| pkq (.int .i64 0) <| pkq (.bool false) <| pkq (.bool false) <| en_ <| qr_ [0, 1, 2, 3, 4, 5, 6] <| pkq (uN s) ?_
  refine ppq (.bool false) (dcf ((((s : Nat) : Int)) > ((4611686018427387904) : Int)) (by omega)) <| pkq (.bool false) <| pkq (uN t) <| ppq (.bool false) (dcf ((((t : Nat) : Int)) > ((4611686018427387904) : Int)) (by omega)) <| pkq (.bool false) <| pkq (.bool false) <| en_ <| qr_ [0, 1, 2] <| pkq (uN t) <| ppq (.bool false) (eqf (((t : Nat) : Int)) ((0) : Int) (by omega)) <| pkq (.bool false) <| ps_end <| sy_a ⟨#[.agg p.cells, v, .int .i64 h, uN s, uN t, pT gp 0, ud, ud, ud, ud, .int .u64 0, .int .i64 0, uN n, .int .i64 0, ud, .tuple #[uN n, .int .i64 0], .agg (p.cells), v, .int .i64 h, .tuple #[uN n, .int .i64 0], uN n, .int .i64 0, .bool false, .int .i64 0, .bool false, ud, .bool false, uN s, .bool false, .bool false, uN t, .bool false, .bool false, .bool false, uN t, .bool false, ud, ud, ud, ud, ud, ud, ud, ud, ud, ud, ud, ud, ud, ud, ud, ud, ud, ud, ud, ud], []⟩ <| then_n ?_
  refine n_ <| s_ <| blk_n <| tqr_ [0, 1, 2, 3, 4, 5, 6, 7, 8, 9, 10, 11, 12, 13] <| pkq (pT gp 8) <| ppq (uN m) (exec_cast (congrArg (Value.int .u64) hm) (ldc 22 gp 8 (rc (h9) (rfl)))) <| ppq (uN (m * 1000000000)) (exec_cast (congrArg (Value.int .u64) (wrapU (m * 1000000000) (by omega))) (by kernel_rfl)) <| pkq (uN n) <| pkq (uN s) <| ppq (uN (n + s)) (exec_cast (congrArg (Value.int .u64) (wrapU (n + s) (by omega))) (by kernel_rfl)) <| ppq (uN (min (n + s) 4611686018427387904)) (exec_cast (congrArg (Value.int .u64) (nat_min (n + s) 4611686018427387904)) (nexec_min (.tmp 44) (.const (.int .u64 4611686018427387904)) #[22, 22] (by kernel_rfl) .u64 ((n + s : Nat) : Int) 4611686018427387904 (by kernel_rfl) (by kernel_rfl))) <| pkq (uN t) ?_
  refine pcq 25 #[.int .u64 1000000000, uN (m * 1000000000), uN (min (n + s) 4611686018427387904), uN t] Tryd.func25 ((capped_is hf (fxCapped_ok 1000000000 (m * 1000000000) (min (n + s) 4611686018427387904) t (by decide) (by omega) (by omega) (by omega) (by omega) _)).mono ?_)
  rintro e V12 ⟨rfl, kV12⟩
  refine ⟨_, rfl, ?_⟩
  have h14 := kV12.bk h9
  have K15 := K10.nn kV12
  have z16 := kV12.size
  refine pkq (.tuple #[uN f, .int .i64 0]) <| pkq (uN f) <| pkq (.int .i64 0) <| pkq (uN f) <| pkq (.int .i64 0) <| eqr_ [0, 1, 2, 3, 4, 5, 6, 7] <| pkq (uN f) <| pkq (pT gp 7) <| ppq (uN bs) (exec_cast (congrArg (Value.int .u64) hbs) (ldc 22 gp 7 (rc (h14) (rfl)))) <| ppq (uN (f + bs)) (exec_cast (congrArg (Value.int .u64) (wrapU (f + bs) (by omega))) (by kernel_rfl)) <| ppq (uN (min (f + bs) 1000000000)) (exec_cast (congrArg (Value.int .u64) (nat_min (f + bs) 1000000000)) (nexec_min (.tmp 53) (.const (.int .u64 1000000000)) #[22, 22] (by kernel_rfl) .u64 ((f + bs : Nat) : Int) 1000000000 (by kernel_rfl) (by kernel_rfl))) <| pkq (.int .i64 0) <| pkq (uN (min (f + bs) 1000000000)) <| pkq (.int .i64 0) ?_
  refine eu_ <| so_ (.tuple #[.int .u64 ((min (f + bs) 1000000000 : Nat) : Int), .int .i64 0]) ?_
  exact ⟨by unfold nfrac ncap; rw [hrf, if_neg (by decide), if_neg (by omega), if_neg hq3, hbs, hm, hn, Int.toNat_natCast, Int.toNat_natCast, hf], K15⟩
theorem nFrac_all (p : Par) (hp : p.Ok) (l : List Nt) (v : Value) (h : Int) (hh1 : i64ok h) (s t : Nat) (hs : s < 18446744073709551616) (ht : t < 18446744073709551616) (w : World) (hl : Sl w 2 Nt.cl v l) (het : ErrTab w) : Calls Tryd.prog 10 #[.agg p.cells, v, .int .i64 h, .int .u64 ((s : Nat) : Int), .int .u64 ((t : Nat) : Int)] w (fun e w' => e = .returned (.tuple #[.int .u64 (((nfrac p l h s t).1 : Nat) : Int), .int .i64 (nfrac p l h s t).2]) ∧ Keeps Nob w w') := by
  by_cases hrf : (nnoted p l h).2 = 0
  · obtain ⟨⟨b1, b2⟩, m1, m2⟩ := par_more (noted_par hrf)
    have hb : p.base = ((p.base.toNat : Nat) : Int) := by omega
    have hm : p.mult = ((p.mult.toNat : Nat) : Int) := by omega
    by_cases hq : 4611686018427387904 < s
    · exact nFrac_over1 p hp l v h hh1 s t hs ht w hl _ _ _ _ rfl hrf (noted_le p l h) hb hm (by omega) (by omega) rfl hq het
    · by_cases hq2 : 4611686018427387904 < t
      · exact nFrac_over2 p hp l v h hh1 s t hs ht w hl _ _ _ _ rfl hrf (noted_le p l h) hb hm (by omega) (by omega) rfl hq hq2 het
      · by_cases hq3 : t = 0
        · exact nFrac_zero p hp l v h hh1 s t hs ht w hl _ _ _ _ rfl hrf (noted_le p l h) hb hm (by omega) (by omega) rfl hq hq3 het
        · exact nFrac_ok p hp l v h hh1 s t hs ht w hl _ _ _ _ rfl hrf (noted_le p l h) hb hm (by omega) (by omega) rfl hq hq2 hq3 het
  · exact nFrac_err p hp l v h hh1 s t hs ht w hl _ _ rfl rfl hrf het
end Go.Proofs.YtghohakbepeffaaDoor
namespace Go.Proofs.YtghohakbepeffaaDoor
set_option maxRecDepth 100000
set_option maxHeartbeats 4000000
open Go Go.RowKit Go.Own Go.Shelf
theorem nq_int {d : Nat} {f : Field} {fs : List Field} {xs ys : Array Value} {k : IntKind} {a b : Int} (w : World) (hf : f.name ≠ "_") (ht : Tryd.prog.underlying f.type = some (.int k)) (hp : Tryd.prog.plainKey f.type = true) (hx : xs[f.offset]? = some (.int k a)) (hy : ys[f.offset]? = some (.int k b)) :
    (Op.eqFields (d + 1) xs ys (f :: fs)).run Tryd.prog w = if a = b then (Op.eqFields (d + 1) xs ys fs).run Tryd.prog w else .ok false w := by
  conv => lhs; unfold Op.eqFields
  rw [if_pos hf]
  simp only [Sem.run_bind, run_part_plain w hp hx, run_part_plain w hp hy, Result.andThen_ok, run_equalIn_int w d f.type k k a b ht]
  by_cases h : a = b
  · simp [h]
  · simp [h]
theorem note_guard : Tryd.prog.eqGuardType Tryd.prog.depth 27 = false := by kernel_rfl
theorem note_equal (x y : Nt) (w : World) : (Op.equalIn 10000 27 (.agg x.c) (.agg y.c)).run Tryd.prog w = .ok (decide (x = y)) w := by
  rw [run_equalIn_struct w 9999 27 _ _ (by kernel_rfl) (by kernel_rfl)]
  simp only [Program.fieldsOf, Tryd.underlying27]
  rw [nq_int (d := 9998) (k := .i64) (a := x.h) (b := y.h) w (by decide) Tryd.underlying3 (by kernel_rfl) rfl rfl, nq_int (d := 9998) (k := .u64) (a := ((x.s : Nat) : Int)) (b := ((y.s : Nat) : Int)) w (by decide) Tryd.underlying22 (by kernel_rfl) rfl rfl]
  simp only [Op.eqFields, Sem.run_pure]
  obtain ⟨a0, a1⟩ := x
  obtain ⟨b0, b1⟩ := y
  simp only [Nt.mk.injEq]
  by_cases h0 : a0 = b0
  · by_cases h1 : a1 = b1 <;> simp [h0, h1, Int.natCast_inj]
  · simp [h0]
theorem note_eq (x y : Nt) (w : World) : (binOp .eql 27 (.agg x.c) (.agg y.c)).run Tryd.prog w = .ok (.bool (decide (x = y))) w := by rw [run_eql_struct, note_equal]; rfl
theorem nsame_step {l m : List Nt} (hl : l.length = m.length) {k : Nat} {x y : Nt} (hx : l[k]? = some x) (hy : m[k]? = some y) (h : l.take k = m.take k) : (l.take (k + 1) = m.take (k + 1)) ↔ x = y := by
  rw [List.take_add_one, List.take_add_one, hx, hy, h]
  constructor
  · intro h2; have := List.append_cancel_left h2; simpa using this
  · intro h2; rw [h2]
theorem nsame_cases (l m : List Nt) (k : Nat) (bb : Bool) (hlen : l.length = m.length) (hk : k ≤ l.length) (hb : bb = decide (l.take k = m.take k)) :
    (bb = true ∧ k < l.length ∧ ∀ x y, l[k]? = some x → m[k]? = some y → x = y) ∨ (bb = true ∧ k < l.length ∧ ∀ x y, l[k]? = some x → m[k]? = some y → x ≠ y) ∨ (bb = true ∧ k = l.length ∧ l = m) ∨ (bb = false ∧ l ≠ m) := by
  cases bb with
  | false => exact .inr (.inr (.inr ⟨rfl, fun e => by subst e; simp at hb⟩))
  | true =>
    have ht : l.take k = m.take k := of_decide_eq_true hb.symm
    by_cases hlt : k < l.length
    · by_cases h : l[k]? = m[k]?
      · exact .inl ⟨rfl, hlt, fun x y hx hy => by rw [hx, hy] at h; exact Option.some.inj h⟩
      · exact .inr (.inl ⟨rfl, hlt, fun x y hx hy e => h (by rw [hx, hy, e])⟩)
    · have hk2 : k = l.length := by omega
      refine .inr (.inr (.inl ⟨rfl, hk2, ?_⟩))
      rwa [List.take_of_length_le (by omega), List.take_of_length_le (by omega)] at ht
theorem notes_block {w : World} {g n cap : Nat} {xs : List Nt} {T : TypeId} (h : w.heap[g]? = some (.cells (xs.flatMap Nt.cl).toArray T (0, 0))) (hn : xs.length = n) (hc : n ≤ cap) (hm : cap ≤ 1000) : Sl w 2 Nt.cl (.slice (some ⟨g, 0, none⟩) n cap) xs := by
  subst hn
  exact ⟨⟨_, _, rfl, hc, by unfold maxLen; omega, fun h => by cases h⟩, fun k x hx => ⟨g, 0, _, rfl, lt_of_block h, fun j u hj => by
    rw [Nat.zero_add]
    exact rc h (by rw [List.getElem?_toArray]; exact flat_get (s := 2) (fun _ _ => rfl) k x hx j u hj)⟩⟩
def nOver : Nt := ⟨-77, 0⟩
theorem nover_cells {cs : Array Value} {k n : Nat} (hn : n * 2 ≤ cs.size) (hk : k < n) : k * 2 + (Nt.c nOver).size ≤ cs.size := by
  show k * 2 + 2 ≤ cs.size; omega
theorem nseg_size {cs : Array Value} {o : Nat} {vs : List Value} (h : o + vs.length ≤ cs.size) : (seg cs o vs).size = cs.size := by
  simp only [seg, List.size_toArray, List.length_append, List.length_take, List.length_drop, Array.length_toList]; omega
noncomputable def qc74_0 (n : Nat) : Code := partOf Tryd.f17 n
noncomputable abbrev qo74_0 (n k : Nat) : Oper := (opsAt (qc74_0 n)).getD k default
theorem kSameNotes_len (va vb : Value) (l m : List Nt) (w : World) (Ha : Sl w 2 Nt.cl va l) (Hb : Sl w 2 Nt.cl vb m) (hne : l.length ≠ m.length) :
    Calls Tryd.prog 17 #[va, vb] w (fun e w' => e = .returned (.bool (false)) ∧ Keeps Nob w w') := by
  have hll := Ha.len_le
  have hml := Hb.len_le
  have K0 : Keeps Nob w w := Keeps.refl _ _
  refine sy_enter (qc74_0 1) ⟨#[va, vb, ud, ud, ud, ud, ud, ud, ud, ud, ud, ud, ud, ud, ud, ud, ud, ud, ud, ud, ud, ud, ud, ud, ud, ud, ud, ud, ud, ud, ud], []⟩ Tryd.func17 (by kernel_rfl) (by kernel_rfl) <| qr_ [0] <| pkq (.bool false) <| eqr_ [0, 1, 2, 3, 4, 5] <| pkq (va) <| ppq (iN l.length) (exec_len_sl (.tmp 7) 25 27 (by kernel_rfl) Tryd.underlying25 (by kernel_rfl) Ha) <| pkq (vb) <| ppq (iN m.length) (exec_len_sl (.tmp 9) 25 27 (by kernel_rfl) Tryd.underlying25 (by kernel_rfl) Hb) <| ppq (.bool false) (eqf (((l.length : Nat) : Int)) (((m.length : Nat) : Int)) (by omega)) <| pkq (.bool false) <| eq_ <| qr_ [0] <| pkq (.int .i64 0) <| et_ ?_
  refine bl_ 0 <| sy_rounds 1 (qc74_0 116) (by kernel_rfl) <| rd_step <| q_ <| qr_ [0, 1, 2, 3, 4, 5, 6] <| pkq (.bool false) <| pkq (.bool false) <| pnq <| pnq <| pnq <| pnq <| pkq (.bool false) <| en_ <| sy_exit 0 (by kernel_rfl) ?_
  refine then_e <| then_e <| blk_e <| tqr_ [0, 1] <| pkq (.bool false) <| pkq (.bool false) <| eu_ <| so_ (.bool false) ?_
  exact ⟨rfl, K0⟩
theorem kSameNotes_eq (va vb : Value) (l m : List Nt) (w : World) (Ha : Sl w 2 Nt.cl va l) (Hb : Sl w 2 Nt.cl vb m) (hlen : l.length = m.length) :
    Calls Tryd.prog 17 #[va, vb] w (fun e w' => e = .returned (.bool (decide (l = m))) ∧ Keeps Nob w w') := by
  have hll := Ha.len_le
  have hml := Hb.len_le
  have K0 : Keeps Nob w w := Keeps.refl _ _
  refine sy_enter (qc74_0 1) ⟨#[va, vb, ud, ud, ud, ud, ud, ud, ud, ud, ud, ud, ud, ud, ud, ud, ud, ud, ud, ud, ud, ud, ud, ud, ud, ud, ud, ud, ud, ud, ud], []⟩ Tryd.func17 (by kernel_rfl) (by kernel_rfl) <| qr_ [0] <| pkq (.bool false) <| eqr_ [0, 1, 2, 3, 4, 5] <| pkq (va) <| ppq (iN l.length) (exec_len_sl (.tmp 7) 25 27 (by kernel_rfl) Tryd.underlying25 (by kernel_rfl) Ha) <| pkq (vb) <| ppq (iN m.length) (exec_len_sl (.tmp 9) 25 27 (by kernel_rfl) Tryd.underlying25 (by kernel_rfl) Hb) <| ppq (.bool true) (eqt (((l.length : Nat) : Int)) (((m.length : Nat) : Int)) (by omega)) <| pkq (.bool true) <| eq_ <| qr_ [0] <| pkq (.int .i64 0) <| et_ ?_
  refine bl_ 0 ?_
  refine sy_loop (qc74_0 116) (fun a V => ∃ (k : Nat) (bb : Bool) (u12 u13 u14 u15 u16 u17 u18 u19 u20 u21 u22 u23 u24 u25 u26 u27 u28 u29 : Value), (a = ⟨#[va, vb, ud, ud, .bool false, .bool bb, iN k, va, iN l.length, vb, iN m.length, .bool true, u12, u13, u14, u15, u16, u17, u18, u19, u20, u21, u22, u23, u24, u25, u26, u27, u28, u29, ud], []⟩) ∧ (k ≤ l.length) ∧ (bb = decide (l.take k = m.take k)) ∧ (Sl V 2 Nt.cl va l) ∧ (Sl V 2 Nt.cl vb m) ∧ (Keeps Nob w V)) (fun a _ => l.length - (intOf (a.tmps.getD 6 undef)).toNat) (by kernel_rfl) ?_ ?_
  · exact ⟨0, true, undef, undef, undef, undef, undef, undef, undef, undef, undef, undef, undef, undef, undef, undef, undef, undef, undef, undef, by kernel_rfl, Nat.zero_le _, rfl, Ha, Hb, K0⟩
  · rintro a V1 ⟨k, bb, u12, u13, u14, u15, u16, u17, u18, u19, u20, u21, u22, u23, u24, u25, u26, u27, u28, u29, rfl, hk, hb, h2, h3, K4⟩
    rcases nsame_cases l m k bb hlen hk hb with ⟨rfl, hlt, hx0⟩ | ⟨rfl, hlt, hx0⟩ | ⟨rfl, heq, ht⟩ | ⟨rfl, hf⟩
    · obtain ⟨x, hx⟩ : ∃ x, l[k]? = some x := ⟨_, List.getElem?_eq_getElem hlt⟩
      obtain ⟨y, hy⟩ : ∃ y, m[k]? = some y := ⟨_, List.getElem?_eq_getElem (by omega)⟩
      obtain ⟨b_a, o_a, c_a, hv_a, hb_a, _⟩ := (h2).at_ k _ hx
      obtain ⟨b_b, o_b, c_b, hv_b, hb_b, _⟩ := (h3).at_ k _ hy
      skip
      have hxy := hx0 x y hx hy
      refine q_ <| qr_ [0, 1, 2, 3, 4, 5, 6] <| pkq (.bool true) <| pkq (.bool true) <| pkq (iN k) <| pkq (va) <| ppq (iN l.length) (exec_len_sl (.tmp 15) 25 27 (by kernel_rfl) Tryd.underlying25 (by kernel_rfl) h2) <| ppq (.bool true) (dct ((((k : Nat) : Int)) < (((l.length : Nat) : Int))) (by omega)) <| pkq (.bool true) <| ey_ <| s_ <| tq_ <| bl_ 1 <| sy_reg ?_
      refine rg_still 5 9 (opsAt (qc74_0 932)) [qo74_0 932 0, qo74_0 932 1, qo74_0 932 2, qo74_0 932 3, qo74_0 932 4, qo74_0 932 5, qo74_0 932 6, qo74_0 932 7, qo74_0 932 8] [qo74_0 932 9] (by kernel_rfl) (by kernel_rfl) (by kernel_rfl) (by kernel_rfl) (by kernel_rfl) ?_
      obtain ⟨V6, eV6, kV6⟩ := drew_step V1
      rw [eV6]
      clear eV6
      have h7 : Sl V6 2 Nt.cl va l := h2.keepsN kV6
      have h8 : Sl V6 2 Nt.cl vb m := h3.keepsN kV6
      have K9 := K4.nn kV6
      refine skq (va) <| skq (iN k) <| spq (pT b_a (o_a + k * 2)) (exec_indexAt_slice 25 (.tmp 21) (.tmp 22) (by kernel_rfl) b_a o_a l.length c_a (Eq.trans (b := va) (by kernel_rfl) hv_a) .i64 k (by kernel_rfl) _ 2 Tryd.underlying25 (by kernel_rfl) (by omega)) <| spq (.agg x.c) (exec_load_mid 27 (.tmp 23) (by kernel_rfl) b_a (o_a + k * 2) (by kernel_rfl) (Nt.cl x) _ (Sl.range h7 hx hv_a) Tryd.underlying27 rfl (by kernel_rfl)) <| skq (vb) <| skq (iN k) <| spq (pT b_b (o_b + k * 2)) (exec_indexAt_slice 25 (.tmp 25) (.tmp 26) (by kernel_rfl) b_b o_b m.length c_b (Eq.trans (b := vb) (by kernel_rfl) hv_b) .i64 k (by kernel_rfl) _ 2 Tryd.underlying25 (by kernel_rfl) (by omega)) <| spq (.agg y.c) (exec_load_mid 27 (.tmp 27) (by kernel_rfl) b_b (o_b + k * 2) (by kernel_rfl) (Nt.cl y) _ (Sl.range h8 hy hv_b) Tryd.underlying27 rfl (by kernel_rfl)) <| spq (.bool true) (exec_cast (congrArg Value.bool (decide_eq_true hxy)) (exec_binop .eql 27 27 (.tmp 24) (.tmp 28) (by kernel_rfl) (.agg x.c) (.agg y.c) _ (by kernel_rfl) (by kernel_rfl) (run_eqGuard_agg _ _ _ _ _ _ _ note_guard) (note_eq _ _ _))) <| st_end <| ls_run (qo74_0 932 9) (.bool true) (w' := V6) (by kernel_rfl) (by kernel_rfl) <| ls_end <| blk_n <| tr_ [0, 1, 2] ?_
      refine pkq (iN k) <| ppq (iN (k + 1)) (exec_cast (congrArg (Value.int .i64) (wrapN (k + 1) (by omega))) (by kernel_rfl)) <| pkq (iN (k + 1)) <| et_ ?_
      refine ⟨⟨k + 1, true, (.bool true), (.bool true), (iN k), va, (iN l.length), (.bool true), (.bool true), (iN k), (iN (k + 1)), va, (iN k), (pT b_a (o_a + k * 2)), (.agg x.c), vb, (iN k), (pT b_b (o_b + k * 2)), (.agg y.c), (.bool true), by kernel_rfl, by omega, (by first | exact (decide_eq_true ((nsame_step hlen hx hy (of_decide_eq_true hb.symm)).2 hxy)).symm | exact (decide_eq_false (fun h => hxy ((nsame_step hlen hx hy (of_decide_eq_true hb.symm)).1 h))).symm), h7, h8, K9⟩, ?_⟩
      exact lt_meas (x := l.length - (k + 1)) (y := l.length - k) (by kernel_rfl) (by kernel_rfl) (by omega)
    · obtain ⟨x, hx⟩ : ∃ x, l[k]? = some x := ⟨_, List.getElem?_eq_getElem hlt⟩
      obtain ⟨y, hy⟩ : ∃ y, m[k]? = some y := ⟨_, List.getElem?_eq_getElem (by omega)⟩
      obtain ⟨b_a, o_a, c_a, hv_a, hb_a, _⟩ := (h2).at_ k _ hx
      obtain ⟨b_b, o_b, c_b, hv_b, hb_b, _⟩ := (h3).at_ k _ hy
      skip
      have hxy := hx0 x y hx hy
      refine q_ <| qr_ [0, 1, 2, 3, 4, 5, 6] <| pkq (.bool true) <| pkq (.bool true) <| pkq (iN k) <| pkq (va) <| ppq (iN l.length) (exec_len_sl (.tmp 15) 25 27 (by kernel_rfl) Tryd.underlying25 (by kernel_rfl) h2) <| ppq (.bool true) (dct ((((k : Nat) : Int)) < (((l.length : Nat) : Int))) (by omega)) <| pkq (.bool true) <| ey_ <| s_ <| tq_ <| bl_ 1 <| sy_reg ?_
      refine rg_still 5 9 (opsAt (qc74_0 932)) [qo74_0 932 0, qo74_0 932 1, qo74_0 932 2, qo74_0 932 3, qo74_0 932 4, qo74_0 932 5, qo74_0 932 6, qo74_0 932 7, qo74_0 932 8] [qo74_0 932 9] (by kernel_rfl) (by kernel_rfl) (by kernel_rfl) (by kernel_rfl) (by kernel_rfl) ?_
      obtain ⟨V11, eV11, kV11⟩ := drew_step V1
      rw [eV11]
      clear eV11
      have h12 : Sl V11 2 Nt.cl va l := h2.keepsN kV11
      have h13 : Sl V11 2 Nt.cl vb m := h3.keepsN kV11
      have K14 := K4.nn kV11
      refine skq (va) <| skq (iN k) <| spq (pT b_a (o_a + k * 2)) (exec_indexAt_slice 25 (.tmp 21) (.tmp 22) (by kernel_rfl) b_a o_a l.length c_a (Eq.trans (b := va) (by kernel_rfl) hv_a) .i64 k (by kernel_rfl) _ 2 Tryd.underlying25 (by kernel_rfl) (by omega)) <| spq (.agg x.c) (exec_load_mid 27 (.tmp 23) (by kernel_rfl) b_a (o_a + k * 2) (by kernel_rfl) (Nt.cl x) _ (Sl.range h12 hx hv_a) Tryd.underlying27 rfl (by kernel_rfl)) <| skq (vb) <| skq (iN k) <| spq (pT b_b (o_b + k * 2)) (exec_indexAt_slice 25 (.tmp 25) (.tmp 26) (by kernel_rfl) b_b o_b m.length c_b (Eq.trans (b := vb) (by kernel_rfl) hv_b) .i64 k (by kernel_rfl) _ 2 Tryd.underlying25 (by kernel_rfl) (by omega)) <| spq (.agg y.c) (exec_load_mid 27 (.tmp 27) (by kernel_rfl) b_b (o_b + k * 2) (by kernel_rfl) (Nt.cl y) _ (Sl.range h13 hy hv_b) Tryd.underlying27 rfl (by kernel_rfl)) <| spq (.bool false) (exec_cast (congrArg Value.bool (decide_eq_false hxy)) (exec_binop .eql 27 27 (.tmp 24) (.tmp 28) (by kernel_rfl) (.agg x.c) (.agg y.c) _ (by kernel_rfl) (by kernel_rfl) (run_eqGuard_agg _ _ _ _ _ _ _ note_guard) (note_eq _ _ _))) <| st_end <| ls_run (qo74_0 932 9) (.bool false) (w' := V11) (by kernel_rfl) (by kernel_rfl) <| ls_end <| blk_n <| tr_ [0, 1, 2] ?_
      refine pkq (iN k) <| ppq (iN (k + 1)) (exec_cast (congrArg (Value.int .i64) (wrapN (k + 1) (by omega))) (by kernel_rfl)) <| pkq (iN (k + 1)) <| et_ ?_
      refine ⟨⟨k + 1, false, (.bool true), (.bool true), (iN k), va, (iN l.length), (.bool true), (.bool true), (iN k), (iN (k + 1)), va, (iN k), (pT b_a (o_a + k * 2)), (.agg x.c), vb, (iN k), (pT b_b (o_b + k * 2)), (.agg y.c), (.bool false), by kernel_rfl, by omega, (by first | exact (decide_eq_true ((nsame_step hlen hx hy (of_decide_eq_true hb.symm)).2 hxy)).symm | exact (decide_eq_false (fun h => hxy ((nsame_step hlen hx hy (of_decide_eq_true hb.symm)).1 h))).symm), h12, h13, K14⟩, ?_⟩
      exact lt_meas (x := l.length - (k + 1)) (y := l.length - k) (by kernel_rfl) (by kernel_rfl) (by omega)
    · skip
      refine q_ <| qr_ [0, 1, 2, 3, 4, 5, 6] <| pkq (.bool true) <| pkq (.bool true) <| pkq (iN k) <| pkq (va) <| ppq (iN l.length) (exec_len_sl (.tmp 15) 25 27 (by kernel_rfl) Tryd.underlying25 (by kernel_rfl) h2) <| ppq (.bool false) (dcf ((((k : Nat) : Int)) < (((l.length : Nat) : Int))) (by omega)) <| pkq (.bool false) <| en_ <| sy_exit 0 (by kernel_rfl) <| then_e <| then_e <| blk_e ?_
      refine tqr_ [0, 1] <| pkq (.bool true) <| pkq (.bool true) <| eu_ <| so_ (.bool true) ?_
      exact ⟨by first | (rw [decide_eq_true (by first | exact ht | exact hf)]) | (rw [decide_eq_false (by first | exact ht | exact hf)]), K4⟩
    · skip
      refine q_ <| qr_ [0, 1, 2, 3, 4, 5, 6] <| pkq (.bool false) <| pkq (.bool false) <| pnq <| pnq <| pnq <| pnq <| pkq (.bool false) <| en_ <| sy_exit 0 (by kernel_rfl) <| then_e <| then_e <| blk_e ?_
      refine tqr_ [0, 1] <| pkq (.bool false) <| pkq (.bool false) <| eu_ <| so_ (.bool false) ?_
      exact ⟨by first | (rw [decide_eq_true (by first | exact ht | exact hf)]) | (rw [decide_eq_false (by first | exact ht | exact hf)]), K4⟩
theorem kSameNotes_ok (va vb : Value) (l m : List Nt) (w : World) (Ha : Sl w 2 Nt.cl va l) (Hb : Sl w 2 Nt.cl vb m) : Calls Tryd.prog 17 #[va, vb] w fun e w' => e = .returned (.bool (decide (l = m))) ∧ Keeps Nob w w' := by
  by_cases h : l.length = m.length
  · exact kSameNotes_eq va vb l m w Ha Hb h
  · rw [decide_eq_false (fun e => h (by rw [e]))]; exact kSameNotes_len va vb l m w Ha Hb h
theorem kSameNotes_is {va vb : Value} {l m : List Nt} (r : Bool) (w : World) (Ha : Sl w 2 Nt.cl va l) (Hb : Sl w 2 Nt.cl vb m) (h : decide (l = m) = r) : Calls Tryd.prog 17 #[va, vb] w fun e w' => e = .returned (.bool r) ∧ Keeps Nob w w' := h ▸ kSameNotes_ok va vb l m w Ha Hb
noncomputable def qc74_2 (n : Nat) : Code := partOf Tryd.f34 n
theorem kOverNotes_nil (w : World) :
    Calls Tryd.prog 34 #[.slice none 0 0] w (fun e w' => e = .returned (.tuple #[]) ∧ Keeps Nob w w') := by
  have K0 : Keeps Nob w w := Keeps.refl _ _
  refine sy_enter (qc74_2 1) ⟨#[.slice none 0 0, ud, ud, ud, ud, ud, ud, ud, ud, ud, ud, ud, ud], []⟩ Tryd.func34 (by kernel_rfl) (by kernel_rfl) <| qr_ [0] <| pkq (.int .i64 0) <| et_ <| bl_ 0 <| sy_rounds 1 (qc74_2 12) (by kernel_rfl) <| rd_step <| q_ <| qr_ [0, 1, 2, 3] <| pkq (.int .i64 0) <| pkq (.slice none 0 0) <| ppq (.int .i64 0) (exec_len (.tmp 4) 25 _ (by kernel_rfl) Tryd.underlying25 none 0 0 (by kernel_rfl)) <| pkq (.bool false) <| en_ ?_
  refine sy_exit 0 (by kernel_rfl) <| then_e <| then_e <| blk_e <| sy_fall (.tuple #[]) rfl (by kernel_rfl) ?_
  exact ⟨rfl, K0⟩
theorem kOverNotes_row (g n cap : Nat) (cs0 : Array Value) (w : World) (hg : w.heap[g]? = some (.cells cs0 27 (0, 0))) (hn : n * 2 ≤ cs0.size) (hmax : n ≤ 1000000) :
    Calls Tryd.prog 34 #[.slice (some ⟨g, 0, none⟩) n cap] w (fun e w' => e = .returned (.tuple #[]) ∧ Keeps (One g) w w') := by
  have K0 : Keeps (One g) w w := Keeps.refl _ _
  refine sy_enter (qc74_2 1) ⟨#[.slice (some ⟨g, 0, none⟩) n cap, ud, ud, ud, ud, ud, ud, ud, ud, ud, ud, ud, ud], []⟩ Tryd.func34 (by kernel_rfl) (by kernel_rfl) <| qr_ [0] <| pkq (.int .i64 0) <| et_ <| bl_ 0 ?_
  refine sy_loop (qc74_2 12) (fun a V => ∃ (k : Nat) (cs : Array Value) (u3 u4 u5 u6 u7 u8 u9 u10 u11 u12 : Value), (a = ⟨#[.slice (some ⟨g, 0, none⟩) n cap, ud, iN k, u3, u4, u5, u6, u7, u8, u9, u10, u11, u12], []⟩) ∧ (k ≤ n) ∧ (cs.size = cs0.size) ∧ (V.heap[g]? = some (.cells cs 27 (0, 0))) ∧ (Keeps (One g) w V)) (fun a _ => n - (intOf (a.tmps.getD 2 undef)).toNat) (by kernel_rfl) ?_ ?_
  · exact ⟨0, cs0, undef, undef, undef, undef, undef, undef, undef, undef, undef, undef, by kernel_rfl, Nat.zero_le _, rfl, hg, K0⟩
  · rintro a V1 ⟨k, cs, u3, u4, u5, u6, u7, u8, u9, u10, u11, u12, rfl, hk, hcs, h2, K3⟩
    by_cases lt_k : k < n
    · skip
      refine q_ <| qr_ [0, 1, 2, 3] <| pkq (iN k) <| pkq (.slice (some ⟨g, 0, none⟩) n cap) <| ppq (iN n) (exec_len (.tmp 4) 25 _ (by kernel_rfl) Tryd.underlying25 (some ⟨g, 0, none⟩) n cap (by kernel_rfl)) <| ppq (.bool true) (dct ((((k : Nat) : Int)) < (((n : Nat) : Int))) (by omega)) <| ey_ <| s_ <| tq_ <| bl_ 1 <| r_ [0, 1, 2, 3, 4] <| pkq (.slice (some ⟨g, 0, none⟩) n cap) <| pkq (iN k) <| pkq (.agg (Nt.c nOver)) ?_
      refine ppq (pT g (k * 2)) (exec_cast (v := pT g (0 + k * 2)) (by simp) (exec_indexAt_slice 25 (.tmp 9) (.tmp 10) (by kernel_rfl) g 0 n cap (by kernel_rfl) .i64 k (by kernel_rfl) _ 2 Tryd.underlying25 (by kernel_rfl) (by omega))) ?_
      have hfit : k * 2 + (Nt.c nOver).size ≤ cs.size := nover_cells (by omega) lt_k
      obtain ⟨V4, eV4⟩ : ∃ V, V1.setCells g (k * 2) (Nt.c nOver).toList = V := ⟨_, rfl⟩
      have kV4 : Keeps (One g) V1 V4 := eV4 ▸ Keeps.setCells _ _ _ _
      have h5 : V4.heap[g]? = some (.cells (seg cs (k * 2) (Nt.c nOver).toList) 27 (0, 0)) := eV4 ▸ heap_setCells g _ _ (k * 2) _ _ h2 (by simpa using hfit)
      refine pzq (w' := V4) (by rw [← eV4]; exact exec_store_mid 27 (.tmp 12) (.tmp 11) (by kernel_rfl) g (k * 2) (by kernel_rfl) (Nt.c nOver) (by kernel_rfl) _ _ h2 hfit (by kernel_rfl) (by kernel_rfl)) ?_
      clear eV4
      have K6 : Keeps (One g) w V4 := K3.then kV4 (fun i hi hm => by unfold Own.One at hm; subst hm; exact rfl)
      refine ps_end <| blk_n <| tr_ [0, 1, 2] <| pkq (iN k) <| ppq (iN (k + 1)) (exec_cast (congrArg (Value.int .i64) (wrapN (k + 1) (by omega))) (by kernel_rfl)) <| pkq (iN (k + 1)) <| et_ ?_
      refine ⟨⟨k + 1, seg cs (k * 2) (Nt.c nOver).toList, (iN k), (.slice (some ⟨g, 0, none⟩) n cap), (iN n), (.bool true), (iN k), (iN (k + 1)), (.slice (some ⟨g, 0, none⟩) n cap), (iN k), (.agg (Nt.c nOver)), (pT g (k * 2)), by kernel_rfl, by omega, ((nseg_size (by simpa using hfit)).trans hcs), h5, K6⟩, ?_⟩
      exact lt_meas (x := n - (k + 1)) (y := n - k) (by kernel_rfl) (by kernel_rfl) (by omega)
    · skip
      refine q_ <| qr_ [0, 1, 2, 3] <| pkq (iN k) <| pkq (.slice (some ⟨g, 0, none⟩) n cap) <| ppq (iN n) (exec_len (.tmp 4) 25 _ (by kernel_rfl) Tryd.underlying25 (some ⟨g, 0, none⟩) n cap (by kernel_rfl)) <| ppq (.bool false) (dcf ((((k : Nat) : Int)) < (((n : Nat) : Int))) (by omega)) <| en_ <| sy_exit 0 (by kernel_rfl) <| then_e <| then_e <| blk_e <| sy_fall (.tuple #[]) rfl (by kernel_rfl) ?_
      exact ⟨rfl, K3⟩
theorem kOverNotes_ok (v : Value) (n : Nat) (xs : List Value) (w : World) (h : Row w 27 2 v n xs) (hmax : n ≤ 1000000) : Calls Tryd.prog 34 #[v] w fun e w' => e = .returned (.tuple #[]) ∧ Keeps (fun j => v.ownBlock = some j) w w' := by
  rcases h.2 with ⟨rfl, h0⟩ | ⟨g, cap, cur, rfl, _, hg, q1, q2, q3, q4⟩
  · exact (kOverNotes_nil w).mono fun e w' ⟨he, k⟩ => ⟨he, k.mono (fun _ _ x => x.elim)⟩
  · exact (kOverNotes_row g n cap cur w hg (by rw [q3]; exact Nat.mul_le_mul_right _ q1) hmax).mono fun e w' ⟨he, k⟩ => ⟨he, k.mono (fun j _ (e : j = g) => by subst e; rfl)⟩
def ntwo : List Nt := [⟨10, 100⟩, ⟨40, 200⟩]
def parDef : Par := ⟨100, 100, 10, 8, 7, 8, 20, 50000000, 3, 50, 100000000⟩
theorem parDef_Ok : parDef.Ok := by constructor <;> (simp only [parDef, i64ok, u64ok]; omega)
noncomputable def qc74_8 (n : Nat) : Code := partOf Tryd.f21 n
theorem lntwo_ok (w : World) :
    Calls Tryd.prog 21 #[] w (fun e w' => ∃ g, e = .returned (.slice (some ⟨g, 0, none⟩) 2 2) ∧ w'.heap[g]? = some (.cells (ntwo.flatMap Nt.cl).toArray 27 (0, 0)) ∧ w.heap.size ≤ g ∧ Keeps Nob w w') := by
  have K0 : Keeps Nob w w := Keeps.refl _ _
  refine sy_enter (qc74_8 1) ⟨#[ud, ud, ud, ud], []⟩ Tryd.func21 (by kernel_rfl) (by kernel_rfl) <| qr_ [0] <| pkq (.slice none 0 0) <| eqr_ [0, 1, 2, 3] <| pkq (.agg #[.int .i64 10, .int .u64 100]) <| pkq (.agg #[.int .i64 40, .int .u64 200]) ?_
  obtain ⟨V1, eV1, gq, egq, h2, kV1⟩ := alloc_step w #[.int .i64 10, .int .u64 100, .int .i64 40, .int .u64 200] 27
  have n3 : w.heap.size ≤ gq := egq ▸ K0.size
  refine prq (.slice (some ⟨gq, 0, none⟩) 2 2) (w' := V1) (by rw [← eV1, ← egq]; kernel_rfl) ?_
  clear eV1
  have h4 : V1.heap[gq]? = some (.cells ((ntwo.flatMap Nt.cl).toArray) 27 (0, 0)) := h2
  have K5 := K0.nn kV1
  have z6 := kV1.size
  refine pkq (.slice (some ⟨gq, 0, none⟩) 2 2) <| eu_ <| so_ (.slice (some ⟨gq, 0, none⟩) 2 2) ?_
  exact ⟨gq, rfl, h4, by omega, K5⟩
noncomputable def qc74_3 (n : Nat) : Code := partOf Tryd.f35 n
theorem pDefault_ok (w : World) :
    Calls Tryd.prog 35 #[] w (fun e w' => e = .returned (.agg parDef.cells) ∧ Keeps Nob w w') := by
  have K0 : Keeps Nob w w := Keeps.refl _ _
  refine sy_enter (qc74_3 1) ⟨#[ud, ud], []⟩ Tryd.func35 (by kernel_rfl) (by kernel_rfl) <| qr_ [0] <| pal 24 (#[.int .i64 0, .int .i64 0, .int .i64 0, .int .i64 0, .int .i64 0, .int .i64 0, .int .i64 0, .int .u64 0, .int .u64 0, .int .i64 0, .int .u64 0]) (.agg (#[.int .i64 0, .int .i64 0, .int .i64 0, .int .i64 0, .int .i64 0, .int .i64 0, .int .i64 0, .int .u64 0, .int .u64 0, .int .i64 0, .int .u64 0])) fun V1 g eg h2 kV1 => ?_
  have n3 : w.heap.size ≤ g := eg ▸ K0.size
  have K4 := K0.nn kV1
  have z5 := kV1.size
  refine eqr_ [0, 1] <| pkq (.agg parDef.cells) <| pst 24 g parDef.cells h2 (by kernel_rfl) rfl (by kernel_rfl) fun V6 h7 kV6 => ?_
  have K8 := K4.nO kV6
  have z9 := kV6.size
  refine eu_ <| sy_out (.agg parDef.cells) rfl (results_cell_row (p := 0) (ty := 24) (by kernel_rfl) _ _ g 24 parDef.cells (0, 0) _ (by kernel_rfl) h7 Tryd.underlying24 rfl (by kernel_rfl)) ?_
  exact ⟨rfl, K8⟩
noncomputable def qc74_1 (n : Nat) : Code := partOf Tryd.f5 n
noncomputable abbrev qo74_1 (n k : Nat) : Oper := (opsAt (qc74_1 n)).getD k default
theorem kCopyNotes_ok (v : Value) (l : List Nt) (w : World) (hl : Sl w 2 Nt.cl v l) (hlen : l.length ≤ 1000) :
    Calls Tryd.prog 5 #[v] w (fun e w' => ∃ X, e = .returned X ∧ Row w' 27 2 X (l).length ((l).flatMap Nt.cl) ∧ NewFrom w.heap.size X ∧ Keeps Nob w w') := by
  obtain ⟨i2, hi2, hs0, hs1, hs2⟩ := info_parts note_info0
  have K0 : Keeps Nob w w := Keeps.refl _ _
  refine sy_enter (qc74_1 1) ⟨#[v, ud, ud, ud, ud, ud], []⟩ Tryd.func5 (by kernel_rfl) (by kernel_rfl) <| qr_ [0] <| pkq (.slice none 0 0) <| eqr_ [0, 1, 2, 3] ?_
  obtain ⟨V1, eV1, g0, eg0, h2, kV1⟩ := alloc_step w #[] 27
  have n3 : w.heap.size ≤ g0 := eg0 ▸ K0.size
  refine prq (.slice (some ⟨g0, 0, none⟩) 0 0) (w' := V1) (by rw [← eV1, ← eg0]; kernel_rfl) ?_
  have h4 : Sl V1 2 Nt.cl v l := hl.keepsN kV1
  have K5 := K0.nn kV1
  have z6 := kV1.size
  refine pkq (v) ?_
  have h7 : Row V1 27 2 (.slice (some ⟨g0, 0, none⟩) 0 0) 0 [] := nrow_empty h2 rfl (by decide)
  have hw8 : NewFrom w.heap.size (.slice (some ⟨g0, 0, none⟩) 0 0) := NewFrom.ptr (by omega) _ _
  obtain ⟨lv, V9, hr10, h11, hg12, hn13, ha14⟩ := run_append_any (P := Tryd.prog) (w := V1) 25 (Oper.type (qo74_1 6 2)) 27 i2 (.agg #[.int .i64 0, .int .u64 0]) 2 16 Tryd.underlying25 hi2 hs0 hs1 hs2 rfl (by decide) (.slice (some ⟨g0, 0, none⟩) 0 0) 0 [] h7 v l.length (l.flatMap Nt.cl) (Sl.src h4 (fun _ _ => rfl) (by decide) (fun z _ => Nt.cl_one z)) (by unfold maxLen; omega) (by omega)
  have kV9 : Keeps (fun j => (.slice (some ⟨g0, 0, none⟩) 0 0 : Value).ownBlock = some j) V1 V9 := Keeps.rowAdd hg12
  have hw15 : NewFrom w.heap.size lv := hw8.next K5.size ha14
  refine prq lv (w' := V9) (exec_append (.tmp 3) (.tmp 4) 25 (by kernel_rfl) (.slice (some ⟨g0, 0, none⟩) 0 0) v (by kernel_rfl) (by kernel_rfl) hr10) ?_
  have h16 : Row V9 27 2 lv l.length (l.flatMap Nt.cl) := (by rw [Nat.zero_add, List.nil_append] at h11; exact h11)
  have K18 : Keeps Nob w V9 := K5.then kV9 (fun i hi hm => absurd hi (by have := hw8 i hm; omega))
  have z19 := kV9.size
  refine pkq (lv) <| eu_ <| so_ (lv) ?_
  exact ⟨_, rfl, h16, hw15, K18⟩
theorem two_all {w : World} {g : Nat} (h : w.heap[g]? = some (.cells (ntwo.flatMap Nt.cl).toArray 27 (0, 0))) : Sl w 2 Nt.cl (.slice (some ⟨g, 0, none⟩) 2 2) ntwo := notes_block h rfl (Nat.le_refl _) (by decide)
theorem two_last {w : World} {g : Nat} (h : w.heap[g]? = some (.cells (ntwo.flatMap Nt.cl).toArray 27 (0, 0))) : Sl w 2 Nt.cl (.slice (some ⟨g, 2, none⟩) 1 1) (ntwo.drop 1) := (two_all h).drop 1 (by decide) _ _ _ rfl
theorem Sl.to {w w' : World} {v : Value} {l : List Nt} (h : Sl w 2 Nt.cl v l) (k : Keeps Nob w w') : Sl w' 2 Nt.cl v l := h.keepsN k
noncomputable def qc74_6 (n : Nat) : Code := partOf Tryd.f18 n
theorem lnlive_a (w : World) (het : ErrTab w) :
    Calls Tryd.prog 18 #[.int .i64 59, .int .i64 0, .int .i64 2] w (fun e w' => e = .returned (.bool true) ∧ Keeps Nob w w') := by
  have K0 : Keeps Nob w w := Keeps.refl _ _
  refine sy_enter (qc74_6 1) ⟨#[.int .i64 59, .int .i64 0, .int .i64 2, ud, ud, ud, ud, ud, ud, ud, ud, ud, ud, ud, ud, ud, ud, ud, ud, ud, ud, ud, ud, ud, ud, ud], []⟩ Tryd.func18 (by kernel_rfl) (by kernel_rfl) <| qr_ [0] <| pkq (.bool false) <| eqr_ [0, 1, 2, 3, 4, 5, 6, 7, 8] ?_
  refine pcq 35 #[] Tryd.func35 ((pDefault_ok _).mono ?_)
  rintro e V1 ⟨rfl, kV1⟩
  refine ⟨_, rfl, ?_⟩
  have K2 := K0.nn kV1
  have z3 := kV1.size
  refine pcq 21 #[] Tryd.func21 ((lntwo_ok _).mono ?_)
  rintro e V4 ⟨ga, rfl, h5, nga, kV4⟩
  refine ⟨_, rfl, ?_⟩
  have K6 := K2.nn kV4
  have z7 := kV4.size
  refine pkq (.int .i64 59) ?_
  refine pcq 14 #[.agg parDef.cells, .slice (some ⟨ga, 0, none⟩) 2 2, .int .i64 59] Tryd.func14 ((live_is parDef parDef_Ok ntwo _ 59 (by unfold i64ok; omega) 0 ntwo _ (two_all h5) (ErrTab.keeps het K6) (by decide) (by decide)).mono ?_)
  rintro e V8 ⟨X, rfl, hX, hXn, kV8⟩
  have hXs := row_nts hX
  refine ⟨_, rfl, ?_⟩
  have K10 := K6.nn kV8
  have z11 := kV8.size
  refine pkq (.tuple #[X, .int .i64 0]) <| pkq (X) <| pkq (.int .i64 0) <| pkq (X) <| pkq (.int .i64 0) <| eqr_ [0, 1, 2, 3, 4, 5, 6, 7, 8, 9, 10] <| pkq (.int .i64 0) <| pkq (.bool true) <| pkq (.bool true) <| pkq (X) ?_
  refine pcq 21 #[] Tryd.func21 ((lntwo_ok _).mono ?_)
  rintro e V12 ⟨gb, rfl, h13, ngb, kV12⟩
  refine ⟨_, rfl, ?_⟩
  have h15 : Sl V12 2 Nt.cl X ntwo := hXs.keepsN kV12
  have K16 := K10.nn kV12
  have z17 := kV12.size
  refine pkq (.int .i64 0) <| pkq (.int .i64 2) <| pkq (.slice (some ⟨gb, 0, none⟩) 2 2) ?_
  refine pcq 17 #[X, .slice (some ⟨gb, 0, none⟩) 2 2] Tryd.func17 ((kSameNotes_is true _ h15 (two_all h13) (by decide)).mono ?_)
  rintro e V18 ⟨rfl, kV18⟩
  refine ⟨_, rfl, ?_⟩
  have K22 := K16.nn kV18
  have z23 := kV18.size
  refine pkq (.bool true) <| pkq (.bool true) <| eu_ <| so_ (.bool true) ?_
  exact ⟨rfl, K22⟩
theorem lnlive_b (w : World) (het : ErrTab w) :
    Calls Tryd.prog 18 #[.int .i64 60, .int .i64 1, .int .i64 2] w (fun e w' => e = .returned (.bool true) ∧ Keeps Nob w w') := by
  have K0 : Keeps Nob w w := Keeps.refl _ _
  refine sy_enter (qc74_6 1) ⟨#[.int .i64 60, .int .i64 1, .int .i64 2, ud, ud, ud, ud, ud, ud, ud, ud, ud, ud, ud, ud, ud, ud, ud, ud, ud, ud, ud, ud, ud, ud, ud], []⟩ Tryd.func18 (by kernel_rfl) (by kernel_rfl) <| qr_ [0] <| pkq (.bool false) <| eqr_ [0, 1, 2, 3, 4, 5, 6, 7, 8] ?_
  refine pcq 35 #[] Tryd.func35 ((pDefault_ok _).mono ?_)
  rintro e V1 ⟨rfl, kV1⟩
  refine ⟨_, rfl, ?_⟩
  have K2 := K0.nn kV1
  have z3 := kV1.size
  refine pcq 21 #[] Tryd.func21 ((lntwo_ok _).mono ?_)
  rintro e V4 ⟨ga, rfl, h5, nga, kV4⟩
  refine ⟨_, rfl, ?_⟩
  have K6 := K2.nn kV4
  have z7 := kV4.size
  refine pkq (.int .i64 60) ?_
  refine pcq 14 #[.agg parDef.cells, .slice (some ⟨ga, 0, none⟩) 2 2, .int .i64 60] Tryd.func14 ((live_is parDef parDef_Ok ntwo _ 60 (by unfold i64ok; omega) 0 (ntwo.drop 1) _ (two_all h5) (ErrTab.keeps het K6) (by decide) (by decide)).mono ?_)
  rintro e V8 ⟨X, rfl, hX, hXn, kV8⟩
  have hXs := row_nts hX
  refine ⟨_, rfl, ?_⟩
  have K10 := K6.nn kV8
  have z11 := kV8.size
  refine pkq (.tuple #[X, .int .i64 0]) <| pkq (X) <| pkq (.int .i64 0) <| pkq (X) <| pkq (.int .i64 0) <| eqr_ [0, 1, 2, 3, 4, 5, 6, 7, 8, 9, 10] <| pkq (.int .i64 0) <| pkq (.bool true) <| pkq (.bool true) <| pkq (X) ?_
  refine pcq 21 #[] Tryd.func21 ((lntwo_ok _).mono ?_)
  rintro e V12 ⟨gb, rfl, h13, ngb, kV12⟩
  refine ⟨_, rfl, ?_⟩
  have h15 : Sl V12 2 Nt.cl X ((ntwo.drop 1)) := hXs.keepsN kV12
  have K16 := K10.nn kV12
  have z17 := kV12.size
  refine pkq (.int .i64 1) <| pkq (.int .i64 2) <| pkq (.slice (some ⟨gb, 2, none⟩) 1 1) ?_
  refine pcq 17 #[X, .slice (some ⟨gb, 2, none⟩) 1 1] Tryd.func17 ((kSameNotes_is true _ h15 (two_last h13) (by decide)).mono ?_)
  rintro e V18 ⟨rfl, kV18⟩
  refine ⟨_, rfl, ?_⟩
  have K22 := K16.nn kV18
  have z23 := kV18.size
  refine pkq (.bool true) <| pkq (.bool true) <| eu_ <| so_ (.bool true) ?_
  exact ⟨rfl, K22⟩
noncomputable def qc74_5 (n : Nat) : Code := partOf Tryd.f19 n
theorem lnnoted_ok (h : Int) (n : Nat) (hh : i64ok h) (hn : (nnoted parDef ntwo h).1 = n) (hrf : (nnoted parDef ntwo h).2 = 0) (w : World) (het : ErrTab w) :
    Calls Tryd.prog 19 #[.int .i64 h, .int .u64 ((n : Nat) : Int)] w (fun e w' => e = .returned (.bool true) ∧ Keeps Nob w w') := by
  have K0 : Keeps Nob w w := Keeps.refl _ _
  refine sy_enter (qc74_5 1) ⟨#[.int .i64 h, uN n, ud, ud, ud, ud, ud, ud, ud, ud, ud, ud, ud, ud, ud, ud, ud, ud, ud, ud, ud], []⟩ Tryd.func19 (by kernel_rfl) (by kernel_rfl) <| qr_ [0] <| pkq (.bool false) <| eqr_ [0, 1, 2, 3, 4, 5, 6, 7, 8] ?_
  refine pcq 35 #[] Tryd.func35 ((pDefault_ok _).mono ?_)
  rintro e V1 ⟨rfl, kV1⟩
  refine ⟨_, rfl, ?_⟩
  have K2 := K0.nn kV1
  have z3 := kV1.size
  refine pcq 21 #[] Tryd.func21 ((lntwo_ok _).mono ?_)
  rintro e V4 ⟨ga, rfl, h5, nga, kV4⟩
  refine ⟨_, rfl, ?_⟩
  have K6 := K2.nn kV4
  have z7 := kV4.size
  refine pkq (.int .i64 h) ?_
  refine pcq 8 #[.agg parDef.cells, .slice (some ⟨ga, 0, none⟩) 2 2, .int .i64 h] Tryd.func8 ((nnoted_is hn hrf (nNoted_all parDef parDef_Ok ntwo _ h hh _ (two_all h5) (ErrTab.keeps het K6))).mono ?_)
  rintro e V8 ⟨rfl, kV8⟩
  refine ⟨_, rfl, ?_⟩
  have K10 := K6.nn kV8
  have z11 := kV8.size
  refine pkq (.tuple #[uN n, .int .i64 0]) <| pkq (uN n) <| pkq (.int .i64 0) <| pkq (uN n) <| pkq (.int .i64 0) <| eqr_ [0, 1, 2, 3, 4, 5, 6, 7] <| pkq (uN n) <| pkq (uN n) <| ppq (.bool true) (eqt (((n : Nat) : Int)) (((n : Nat) : Int)) (by omega)) <| pkq (.bool true) <| pkq (.int .i64 0) <| pkq (.bool true) <| pkq (.bool true) <| pkq (.bool true) ?_
  refine eu_ <| so_ (.bool true) ?_
  exact ⟨rfl, K10⟩
theorem frac_is {x : Nat × Int} {n : Nat} {y : Int} {args : Array Value} {w : World} (h1 : x = (n, y)) (h : Calls Tryd.prog 10 args w (fun e w' => e = .returned (.tuple #[.int .u64 ((x.1 : Nat) : Int), .int .i64 x.2]) ∧ Keeps Nob w w')) : Calls Tryd.prog 10 args w (fun e w' => e = .returned (.tuple #[.int .u64 ((n : Nat) : Int), .int .i64 y]) ∧ Keeps Nob w w') := by subst h1; exact h
noncomputable def qc74_7 (n : Nat) : Code := partOf Tryd.f20 n
theorem lncut_ok (l : List Nt) (v : Value) (h : Int) (s t n : Nat) (er : Int) (hh : i64ok h) (hs : s < 18446744073709551616) (ht : t < 18446744073709551616) (hn : nfrac parDef l h s t = (n, er)) (w : World) (hl : Sl w 2 Nt.cl v l) (het : ErrTab w) :
    Calls Tryd.prog 20 #[v, .int .i64 h, .int .u64 ((s : Nat) : Int), .int .u64 ((t : Nat) : Int), .int .u64 ((n : Nat) : Int), .int .i64 er] w (fun e w' => e = .returned (.bool true) ∧ Keeps Nob w w') := by
  have K0 : Keeps Nob w w := Keeps.refl _ _
  refine sy_enter (qc74_7 1) ⟨#[v, .int .i64 h, uN s, uN t, uN n, .int .i64 er, ud, ud, ud, ud, ud, ud, ud, ud, ud, ud, ud, ud, ud, ud, ud, ud, ud, ud, ud, ud, ud, ud, ud, ud, ud, ud], []⟩ Tryd.func20 (by kernel_rfl) (by kernel_rfl) <| qr_ [0] <| pkq (.bool false) <| eqr_ [0, 1, 2, 3, 4, 5, 6, 7, 8, 9, 10] ?_
  refine pcq 35 #[] Tryd.func35 ((pDefault_ok _).mono ?_)
  rintro e V1 ⟨rfl, kV1⟩
  refine ⟨_, rfl, ?_⟩
  have h2 : Sl V1 2 Nt.cl v l := hl.keepsN kV1
  have K3 := K0.nn kV1
  have z4 := kV1.size
  refine pkq (v) <| pkq (.int .i64 h) <| pkq (uN s) <| pkq (uN t) ?_
  refine pcq 10 #[.agg parDef.cells, v, .int .i64 h, uN s, uN t] Tryd.func10 ((frac_is hn (nFrac_all parDef parDef_Ok l v h hh s t hs ht _ h2 (ErrTab.keeps het K3))).mono ?_)
  rintro e V5 ⟨rfl, kV5⟩
  refine ⟨_, rfl, ?_⟩
  have K7 := K3.nn kV5
  have z8 := kV5.size
  refine pkq (.tuple #[uN n, .int .i64 er]) <| pkq (uN n) <| pkq (.int .i64 er) <| pkq (uN n) <| pkq (.int .i64 er) <| eqr_ [0, 1, 2, 3, 4, 5, 6, 7, 8] <| pkq (uN n) <| pkq (uN n) <| ppq (.bool true) (eqt (((n : Nat) : Int)) (((n : Nat) : Int)) (by omega)) <| pkq (.bool true) <| pkq (.int .i64 er) <| pkq (.int .i64 er) <| ppq (.bool true) (eqt ((er) : Int) ((er) : Int) (by omega)) <| pkq (.bool true) ?_
  refine pkq (.bool true) <| eu_ <| so_ (.bool true) ?_
  exact ⟨rfl, K7⟩
noncomputable def qc74_4 (n : Nat) : Code := partOf Tryd.f4 n
theorem lnawake_ok (w : World) (het : ErrTab w) :
    Calls Tryd.prog 4 #[] w (fun e w' => e = .returned (.bool true) ∧ Keeps Nob w w') := by
  have K0 : Keeps Nob w w := Keeps.refl _ _
  refine sy_enter (qc74_4 1) ⟨#[ud, ud, ud, ud, ud, ud, ud, ud, ud, ud, ud, ud, ud, ud, ud, ud, ud, ud, ud], []⟩ Tryd.func4 (by kernel_rfl) (by kernel_rfl) <| qr_ [0] <| pkq (.bool false) <| eqr_ [0, 1, 2, 3, 4, 5, 6, 7, 8, 9, 10, 11, 12, 13, 14, 15, 16, 17, 18] ?_
  refine pcq 18 #[.int .i64 59, .int .i64 0, .int .i64 2] Tryd.func18 ((lnlive_a _ (ErrTab.keeps het K0)).mono ?_)
  rintro e V1 ⟨rfl, kV1⟩
  refine ⟨_, rfl, ?_⟩
  have K2 := K0.nn kV1
  have z3 := kV1.size
  refine pkq (.bool true) ?_
  refine pcq 18 #[.int .i64 60, .int .i64 1, .int .i64 2] Tryd.func18 ((lnlive_b _ (ErrTab.keeps het K2)).mono ?_)
  rintro e V4 ⟨rfl, kV4⟩
  refine ⟨_, rfl, ?_⟩
  have K5 := K2.nn kV4
  have z6 := kV4.size
  refine pkq (.bool true) <| pkq (.bool true) ?_
  refine pcq 19 #[.int .i64 59, .int .u64 300] Tryd.func19 ((lnnoted_ok 59 300 (by unfold i64ok; omega) (by decide) (by decide) _ (ErrTab.keeps het K5)).mono ?_)
  rintro e V7 ⟨rfl, kV7⟩
  refine ⟨_, rfl, ?_⟩
  have K8 := K5.nn kV7
  have z9 := kV7.size
  refine pkq (.bool true) <| pkq (.bool true) ?_
  refine pcq 20 #[.slice none 0 0, .int .i64 1, .int .u64 100, .int .u64 1000, .int .u64 350000000, .int .i64 0] Tryd.func20 ((lncut_ok [] _ 1 100 1000 350000000 0 (by unfold i64ok; omega) (by decide) (by decide) (by decide) _ (Sl.nil _ _ _) (ErrTab.keeps het K8)).mono ?_)
  rintro e V10 ⟨rfl, kV10⟩
  refine ⟨_, rfl, ?_⟩
  have K11 := K8.nn kV10
  have z12 := kV10.size
  refine pkq (.bool true) <| pkq (.bool true) ?_
  refine pcq 21 #[] Tryd.func21 ((lntwo_ok _).mono ?_)
  rintro e V13 ⟨ga, rfl, h14, nga, kV13⟩
  refine ⟨_, rfl, ?_⟩
  have K15 := K11.nn kV13
  have z16 := kV13.size
  refine pcq 20 #[.slice (some ⟨ga, 0, none⟩) 2 2, .int .i64 59, .int .u64 100, .int .u64 2000, .int .u64 650000000, .int .i64 0] Tryd.func20 ((lncut_ok ntwo _ 59 100 2000 650000000 0 (by unfold i64ok; omega) (by decide) (by decide) (by decide) _ (two_all h14) (ErrTab.keeps het K15)).mono ?_)
  rintro e V17 ⟨rfl, kV17⟩
  refine ⟨_, rfl, ?_⟩
  have K19 := K15.nn kV17
  have z20 := kV17.size
  refine pkq (.bool true) <| pkq (.bool true) ?_
  refine pcq 21 #[] Tryd.func21 ((lntwo_ok _).mono ?_)
  rintro e V21 ⟨gb, rfl, h22, ngb, kV21⟩
  refine ⟨_, rfl, ?_⟩
  have K24 := K19.nn kV21
  have z25 := kV21.size
  refine pcq 20 #[.slice (some ⟨gb, 0, none⟩) 2 2, .int .i64 59, .int .u64 100, .int .u64 1000, .int .u64 1000000000, .int .i64 0] Tryd.func20 ((lncut_ok ntwo _ 59 100 1000 1000000000 0 (by unfold i64ok; omega) (by decide) (by decide) (by decide) _ (two_all h22) (ErrTab.keeps het K24)).mono ?_)
  rintro e V26 ⟨rfl, kV26⟩
  refine ⟨_, rfl, ?_⟩
  have K29 := K24.nn kV26
  have z30 := kV26.size
  refine pkq (.bool true) <| pkq (.bool true) <| eu_ <| so_ (.bool true) ?_
  exact ⟨rfl, K29⟩
end Go.Proofs.YtghohakbepeffaaDoor
namespace Go.Proofs.YtghohakbepeffaaDoor
set_option maxRecDepth 100000
set_option maxHeartbeats 4000000
open Go Go.RowKit Go.Own Go.Shelf
theorem nr7Check_is (p : Par) (x : Int) (w : World) (hp : p.Ok) (hx : p.check.1 = x) : Calls Tryd.prog 46 #[.agg p.cells] w (fun e w' => e = .returned (.tuple #[.int .i64 x, .int .i64 p.check.2]) ∧ Keeps Nob w w') := hx ▸ r7Check_ok p hp w
noncomputable def qc75_0 (n : Nat) : Code := partOf Tryd.f33 n
theorem r23refused_par (p : Par) (hp : p.Ok) (l : List Nt) (v : Value) (h : Int) (w : World) (hl : Sl w 2 Nt.cl v l) (hc0 : ¬ p.check.1 = 0) :
    Calls Tryd.prog 33 #[.agg p.cells, v, .int .i64 h] w (fun e w' => e = .returned (.int .i64 (nref p l h)) ∧ Keeps Nob w w') := by
  have K0 : Keeps Nob w w := Keeps.refl _ _
  refine sy_enter (qc75_0 1) ⟨#[.agg p.cells, v, .int .i64 h, ud, ud, ud, ud, ud, ud, ud, ud, ud, ud, ud, ud, ud, ud, ud, ud, ud, ud, ud, ud, ud, ud, ud, ud, ud, ud, ud, ud, ud, ud], []⟩ Tryd.func33 (by kernel_rfl) (by kernel_rfl) <| qr_ [0, 1] <| pbx 24 p.cells (.agg p.cells) fun V1 gp egp h2 kV1 => ?_
  have n3 : w.heap.size ≤ gp := egp ▸ K0.size
  have K4 := K0.nn kV1
  have z5 := kV1.size
  refine pkq (.int .i64 0) <| eq_ <| qr_ [0, 1, 2, 3, 4, 5, 6] <| ppq (.agg (p.cells)) (ldr 24 gp (h2) (by kernel_rfl)) ?_
  refine pcq 46 #[.agg (p.cells)] Tryd.func46 ((nr7Check_is p _ _ hp rfl).mono ?_)
  rintro e V6 ⟨rfl, kV6⟩
  refine ⟨_, rfl, ?_⟩
  have K8 := K4.nn kV6
  have z9 := kV6.size
  refine pkq (.tuple #[.int .i64 p.check.1, .int .i64 p.check.2]) <| pkq (.int .i64 p.check.1) <| pkq (.int .i64 p.check.2) <| pkq (.int .i64 p.check.1) <| pkq (.int .i64 p.check.2) <| eqr_ [0, 1] <| pkq (.int .i64 p.check.1) <| ppq (.bool true) (nqt ((p.check.1) : Int) ((0) : Int) (by omega)) <| ey_ <| qr_ [0, 1] <| pkq (.int .i64 p.check.1) <| pkq (.int .i64 p.check.1) <| eu_ <| then_r ?_
  refine so_ (.int .i64 p.check.1) ?_
  exact ⟨by unfold nref; rw [if_pos hc0], K8⟩
theorem r23refused_chk (p : Par) (hp : p.Ok) (l : List Nt) (v : Value) (h : Int) (w : World) (hl : Sl w 2 Nt.cl v l) (hc0 : p.check.1 = 0) (hc1 : ¬ (ncheck l).1 = 0) :
    Calls Tryd.prog 33 #[.agg p.cells, v, .int .i64 h] w (fun e w' => e = .returned (.int .i64 (nref p l h)) ∧ Keeps Nob w w') := by
  have K0 : Keeps Nob w w := Keeps.refl _ _
  refine sy_enter (qc75_0 1) ⟨#[.agg p.cells, v, .int .i64 h, ud, ud, ud, ud, ud, ud, ud, ud, ud, ud, ud, ud, ud, ud, ud, ud, ud, ud, ud, ud, ud, ud, ud, ud, ud, ud, ud, ud, ud, ud], []⟩ Tryd.func33 (by kernel_rfl) (by kernel_rfl) <| qr_ [0, 1] <| pbx 24 p.cells (.agg p.cells) fun V1 gp egp h2 kV1 => ?_
  have n3 : w.heap.size ≤ gp := egp ▸ K0.size
  have K4 := K0.nn kV1
  have z5 := kV1.size
  refine pkq (.int .i64 0) <| eq_ <| qr_ [0, 1, 2, 3, 4, 5, 6] <| ppq (.agg (p.cells)) (ldr 24 gp (h2) (by kernel_rfl)) ?_
  refine pcq 46 #[.agg (p.cells)] Tryd.func46 ((nr7Check_is p _ _ hp hc0).mono ?_)
  rintro e V6 ⟨rfl, kV6⟩
  refine ⟨_, rfl, ?_⟩
  have K8 := K4.nn kV6
  have z9 := kV6.size
  refine pkq (.tuple #[.int .i64 0, .int .i64 p.check.2]) <| pkq (.int .i64 0) <| pkq (.int .i64 p.check.2) <| pkq (.int .i64 0) <| pkq (.int .i64 p.check.2) <| eqr_ [0, 1] <| pkq (.int .i64 0) <| pkq (.bool false) <| en_ <| s_ <| tq_ <| qr_ [0, 1, 2, 3, 4, 5, 6] <| pkq (v) ?_
  refine pcq 7 #[v] Tryd.func7 ((r23Check_is l v _ _ (hl.keepsN K8) rfl).mono ?_)
  rintro e V10 ⟨rfl, kV10⟩
  refine ⟨_, rfl, ?_⟩
  have K12 := K8.nn kV10
  have z13 := kV10.size
  refine pkq (.tuple #[.int .i64 (ncheck l).1, .int .i64 (ncheck l).2]) <| pkq (.int .i64 (ncheck l).1) <| pkq (.int .i64 (ncheck l).2) <| pkq (.int .i64 (ncheck l).1) <| pkq (.int .i64 (ncheck l).2) <| eqr_ [0, 1] <| pkq (.int .i64 (ncheck l).1) <| ppq (.bool true) (nqt (((ncheck l).1) : Int) ((0) : Int) (by omega)) <| ey_ <| qr_ [0, 1] <| pkq (.int .i64 (ncheck l).1) <| pkq (.int .i64 (ncheck l).1) <| eu_ <| then_r ?_
  refine so_ (.int .i64 (ncheck l).1) ?_
  exact ⟨by unfold nref; rw [if_neg (fun e => e hc0), if_pos hc1], K12⟩
theorem r23refused_low (p : Par) (hp : p.Ok) (l : List Nt) (v : Value) (h : Int) (w : World) (hl : Sl w 2 Nt.cl v l) (hc0 : p.check.1 = 0) (hc1 : (ncheck l).1 = 0) (q1 : h < 1) :
    Calls Tryd.prog 33 #[.agg p.cells, v, .int .i64 h] w (fun e w' => e = .returned (.int .i64 (nref p l h)) ∧ Keeps Nob w w') := by
  have K0 : Keeps Nob w w := Keeps.refl _ _
  refine sy_enter (qc75_0 1) ⟨#[.agg p.cells, v, .int .i64 h, ud, ud, ud, ud, ud, ud, ud, ud, ud, ud, ud, ud, ud, ud, ud, ud, ud, ud, ud, ud, ud, ud, ud, ud, ud, ud, ud, ud, ud, ud], []⟩ Tryd.func33 (by kernel_rfl) (by kernel_rfl) <| qr_ [0, 1] <| pbx 24 p.cells (.agg p.cells) fun V1 gp egp h2 kV1 => ?_
  have n3 : w.heap.size ≤ gp := egp ▸ K0.size
  have K4 := K0.nn kV1
  have z5 := kV1.size
  refine pkq (.int .i64 0) <| eq_ <| qr_ [0, 1, 2, 3, 4, 5, 6] <| ppq (.agg (p.cells)) (ldr 24 gp (h2) (by kernel_rfl)) ?_
  refine pcq 46 #[.agg (p.cells)] Tryd.func46 ((nr7Check_is p _ _ hp hc0).mono ?_)
  rintro e V6 ⟨rfl, kV6⟩
  refine ⟨_, rfl, ?_⟩
  have K8 := K4.nn kV6
  have z9 := kV6.size
  refine pkq (.tuple #[.int .i64 0, .int .i64 p.check.2]) <| pkq (.int .i64 0) <| pkq (.int .i64 p.check.2) <| pkq (.int .i64 0) <| pkq (.int .i64 p.check.2) <| eqr_ [0, 1] <| pkq (.int .i64 0) <| pkq (.bool false) <| en_ <| s_ <| tq_ <| qr_ [0, 1, 2, 3, 4, 5, 6] <| pkq (v) ?_
  refine pcq 7 #[v] Tryd.func7 ((r23Check_is l v _ _ (hl.keepsN K8) hc1).mono ?_)
  rintro e V10 ⟨rfl, kV10⟩
  refine ⟨_, rfl, ?_⟩
  have K12 := K8.nn kV10
  have z13 := kV10.size
  refine pkq (.tuple #[.int .i64 0, .int .i64 (ncheck l).2]) <| pkq (.int .i64 0) <| pkq (.int .i64 (ncheck l).2) <| pkq (.int .i64 0) <| pkq (.int .i64 (ncheck l).2) <| eqr_ [0, 1] <| pkq (.int .i64 0) <| pkq (.bool false) <| en_ <| s_ <| tq_ <| qr_ [0, 1, 2, 3, 4, 5] <| pkq (.int .i64 h) <| ppq (.bool true) (dct (((h) : Int) < ((1) : Int)) (by omega)) ?_
  refine pkq (.bool true) <| pnq <| pnq <| pkq (.bool true) <| ps_end <| sy_a ⟨#[.agg p.cells, v, .int .i64 h, pT gp 0, ud, ud, .int .i64 0, .int .i64 0, .int .i64 p.check.2, .int .i64 0, .int .i64 (ncheck l).2, .tuple #[.int .i64 0, .int .i64 p.check.2], .agg (p.cells), .tuple #[.int .i64 0, .int .i64 p.check.2], .int .i64 0, .int .i64 p.check.2, .int .i64 0, .bool false, ud, .tuple #[.int .i64 0, .int .i64 (ncheck l).2], v, .tuple #[.int .i64 0, .int .i64 (ncheck l).2], .int .i64 0, .int .i64 (ncheck l).2, .int .i64 0, .bool false, ud, .int .i64 h, .bool true, .bool true, ud, ud, .bool true], []⟩ <| then_n <| y_ <| qr_ [0] <| pkq (.int .i64 3) <| eu_ <| then_r <| so_ (.int .i64 3) ?_
  exact ⟨by unfold nref; rw [if_neg (fun e => e hc0), if_neg (fun e => e hc1), if_pos (.inl q1)], K12⟩
theorem r23refused_high (p : Par) (hp : p.Ok) (l : List Nt) (v : Value) (h : Int) (w : World) (hl : Sl w 2 Nt.cl v l) (hc0 : p.check.1 = 0) (hc1 : (ncheck l).1 = 0) (q1 : ¬ h < 1) (q2 : 4294967296 < h) :
    Calls Tryd.prog 33 #[.agg p.cells, v, .int .i64 h] w (fun e w' => e = .returned (.int .i64 (nref p l h)) ∧ Keeps Nob w w') := by
  have K0 : Keeps Nob w w := Keeps.refl _ _
  refine sy_enter (qc75_0 1) ⟨#[.agg p.cells, v, .int .i64 h, ud, ud, ud, ud, ud, ud, ud, ud, ud, ud, ud, ud, ud, ud, ud, ud, ud, ud, ud, ud, ud, ud, ud, ud, ud, ud, ud, ud, ud, ud], []⟩ Tryd.func33 (by kernel_rfl) (by kernel_rfl) <| qr_ [0, 1] <| pbx 24 p.cells (.agg p.cells) fun V1 gp egp h2 kV1 => ?_
  have n3 : w.heap.size ≤ gp := egp ▸ K0.size
  have K4 := K0.nn kV1
  have z5 := kV1.size
  refine pkq (.int .i64 0) <| eq_ <| qr_ [0, 1, 2, 3, 4, 5, 6] <| ppq (.agg (p.cells)) (ldr 24 gp (h2) (by kernel_rfl)) ?_
  refine pcq 46 #[.agg (p.cells)] Tryd.func46 ((nr7Check_is p _ _ hp hc0).mono ?_)
  rintro e V6 ⟨rfl, kV6⟩
  refine ⟨_, rfl, ?_⟩
  have K8 := K4.nn kV6
  have z9 := kV6.size
  refine pkq (.tuple #[.int .i64 0, .int .i64 p.check.2]) <| pkq (.int .i64 0) <| pkq (.int .i64 p.check.2) <| pkq (.int .i64 0) <| pkq (.int .i64 p.check.2) <| eqr_ [0, 1] <| pkq (.int .i64 0) <| pkq (.bool false) <| en_ <| s_ <| tq_ <| qr_ [0, 1, 2, 3, 4, 5, 6] <| pkq (v) ?_
  refine pcq 7 #[v] Tryd.func7 ((r23Check_is l v _ _ (hl.keepsN K8) hc1).mono ?_)
  rintro e V10 ⟨rfl, kV10⟩
  refine ⟨_, rfl, ?_⟩
  have K12 := K8.nn kV10
  have z13 := kV10.size
  refine pkq (.tuple #[.int .i64 0, .int .i64 (ncheck l).2]) <| pkq (.int .i64 0) <| pkq (.int .i64 (ncheck l).2) <| pkq (.int .i64 0) <| pkq (.int .i64 (ncheck l).2) <| eqr_ [0, 1] <| pkq (.int .i64 0) <| pkq (.bool false) <| en_ <| s_ <| tq_ <| qr_ [0, 1, 2, 3, 4, 5] <| pkq (.int .i64 h) <| ppq (.bool false) (dcf (((h) : Int) < ((1) : Int)) (by omega)) ?_
  refine pkq (.bool false) <| pkq (.int .i64 h) <| ppq (.bool true) (dct (((h) : Int) > ((4294967296) : Int)) (by omega)) <| pkq (.bool true) <| ps_end <| sy_a ⟨#[.agg p.cells, v, .int .i64 h, pT gp 0, ud, ud, .int .i64 0, .int .i64 0, .int .i64 p.check.2, .int .i64 0, .int .i64 (ncheck l).2, .tuple #[.int .i64 0, .int .i64 p.check.2], .agg (p.cells), .tuple #[.int .i64 0, .int .i64 p.check.2], .int .i64 0, .int .i64 p.check.2, .int .i64 0, .bool false, ud, .tuple #[.int .i64 0, .int .i64 (ncheck l).2], v, .tuple #[.int .i64 0, .int .i64 (ncheck l).2], .int .i64 0, .int .i64 (ncheck l).2, .int .i64 0, .bool false, ud, .int .i64 h, .bool false, .bool false, .int .i64 h, .bool true, .bool true], []⟩ <| then_n <| y_ <| qr_ [0] <| pkq (.int .i64 3) <| eu_ <| then_r <| so_ (.int .i64 3) ?_
  exact ⟨by unfold nref; rw [if_neg (fun e => e hc0), if_neg (fun e => e hc1), if_pos (.inr q2)], K12⟩
theorem r23refused_ok (p : Par) (hp : p.Ok) (l : List Nt) (v : Value) (h : Int) (w : World) (hl : Sl w 2 Nt.cl v l) (hc0 : p.check.1 = 0) (hc1 : (ncheck l).1 = 0) (q1 : ¬ h < 1) (q2 : ¬ 4294967296 < h) :
    Calls Tryd.prog 33 #[.agg p.cells, v, .int .i64 h] w (fun e w' => e = .returned (.int .i64 (nref p l h)) ∧ Keeps Nob w w') := by
  have K0 : Keeps Nob w w := Keeps.refl _ _
  refine sy_enter (qc75_0 1) ⟨#[.agg p.cells, v, .int .i64 h, ud, ud, ud, ud, ud, ud, ud, ud, ud, ud, ud, ud, ud, ud, ud, ud, ud, ud, ud, ud, ud, ud, ud, ud, ud, ud, ud, ud, ud, ud], []⟩ Tryd.func33 (by kernel_rfl) (by kernel_rfl) <| qr_ [0, 1] <| pbx 24 p.cells (.agg p.cells) fun V1 gp egp h2 kV1 => ?_
  have n3 : w.heap.size ≤ gp := egp ▸ K0.size
  have K4 := K0.nn kV1
  have z5 := kV1.size
  refine pkq (.int .i64 0) <| eq_ <| qr_ [0, 1, 2, 3, 4, 5, 6] <| ppq (.agg (p.cells)) (ldr 24 gp (h2) (by kernel_rfl)) ?_
  refine pcq 46 #[.agg (p.cells)] Tryd.func46 ((nr7Check_is p _ _ hp hc0).mono ?_)
  rintro e V6 ⟨rfl, kV6⟩
  refine ⟨_, rfl, ?_⟩
  have K8 := K4.nn kV6
  have z9 := kV6.size
  refine pkq (.tuple #[.int .i64 0, .int .i64 p.check.2]) <| pkq (.int .i64 0) <| pkq (.int .i64 p.check.2) <| pkq (.int .i64 0) <| pkq (.int .i64 p.check.2) <| eqr_ [0, 1] <| pkq (.int .i64 0) <| pkq (.bool false) <| en_ <| s_ <| tq_ <| qr_ [0, 1, 2, 3, 4, 5, 6] <| pkq (v) ?_
  refine pcq 7 #[v] Tryd.func7 ((r23Check_is l v _ _ (hl.keepsN K8) hc1).mono ?_)
  rintro e V10 ⟨rfl, kV10⟩
  refine ⟨_, rfl, ?_⟩
  have K12 := K8.nn kV10
  have z13 := kV10.size
  refine pkq (.tuple #[.int .i64 0, .int .i64 (ncheck l).2]) <| pkq (.int .i64 0) <| pkq (.int .i64 (ncheck l).2) <| pkq (.int .i64 0) <| pkq (.int .i64 (ncheck l).2) <| eqr_ [0, 1] <| pkq (.int .i64 0) <| pkq (.bool false) <| en_ <| s_ <| tq_ <| qr_ [0, 1, 2, 3, 4, 5] <| pkq (.int .i64 h) <| ppq (.bool false) (dcf (((h) : Int) < ((1) : Int)) (by omega)) ?_
  refine pkq (.bool false) <| pkq (.int .i64 h) <| ppq (.bool false) (dcf (((h) : Int) > ((4294967296) : Int)) (by omega)) <| pkq (.bool false) <| ps_end <| sy_a ⟨#[.agg p.cells, v, .int .i64 h, pT gp 0, ud, ud, .int .i64 0, .int .i64 0, .int .i64 p.check.2, .int .i64 0, .int .i64 (ncheck l).2, .tuple #[.int .i64 0, .int .i64 p.check.2], .agg (p.cells), .tuple #[.int .i64 0, .int .i64 p.check.2], .int .i64 0, .int .i64 p.check.2, .int .i64 0, .bool false, ud, .tuple #[.int .i64 0, .int .i64 (ncheck l).2], v, .tuple #[.int .i64 0, .int .i64 (ncheck l).2], .int .i64 0, .int .i64 (ncheck l).2, .int .i64 0, .bool false, ud, .int .i64 h, .bool false, .bool false, .int .i64 h, .bool false, .bool false], []⟩ <| then_n <| n_ <| s_ <| tqr_ [0] <| pkq (.int .i64 0) <| eu_ <| so_ (.int .i64 0) ?_
  exact ⟨by unfold nref; rw [if_neg (fun e => e hc0), if_neg (fun e => e hc1), if_neg (fun e => e.elim q1 q2)], K12⟩
theorem r23refused_is (p : Par) (hp : p.Ok) (l : List Nt) (v : Value) (h rf : Int) (w : World) (hl : Sl w 2 Nt.cl v l) (hrf : nref p l h = rf) : Calls Tryd.prog 33 #[.agg p.cells, v, .int .i64 h] w (fun e w' => e = .returned (.int .i64 rf) ∧ Keeps Nob w w') := by
  subst hrf
  by_cases hc0 : p.check.1 = 0
  · by_cases hc1 : (ncheck l).1 = 0
    · by_cases h1 : h < 1
      · exact r23refused_low p hp l v h w hl hc0 hc1 h1
      · by_cases h2 : 4294967296 < h
        · exact r23refused_high p hp l v h w hl hc0 hc1 h1 h2
        · exact r23refused_ok p hp l v h w hl hc0 hc1 h1 h2
    · exact r23refused_chk p hp l v h w hl hc0 hc1
  · exact r23refused_par p hp l v h w hl hc0
theorem rfilt_yes {c : Nt → Bool} {l : List Nt} {i : Nat} {y : Nt} (hy : l[i]? = some y) (h : c y = true) : (l.take (i + 1)).filter c = (l.take i).filter c ++ [y] := by
  rw [List.take_add_one, hy, Option.toList_some, List.filter_append, List.filter_cons_of_pos h]; rfl
theorem rfilt_no {c : Nt → Bool} {l : List Nt} {i : Nat} {y : Nt} (hy : l[i]? = some y) (h : c y = false) : (l.take (i + 1)).filter c = (l.take i).filter c := by
  rw [List.take_add_one, hy, Option.toList_some, List.filter_append, List.filter_cons_of_neg (by rw [h]; decide)]; simp
theorem rlive_cases (p : Par) (h : Int) (l : List Nt) (i : Nat) (hi : i ≤ l.length) : (∃ y, i < l.length ∧ l[i]? = some y ∧ ¬ y.h ≤ h ∧ ncounts p h y = false) ∨ (∃ y, i < l.length ∧ l[i]? = some y ∧ y.h ≤ h ∧ ¬ h - y.h < p.corr ∧ ncounts p h y = false) ∨ (∃ y, i < l.length ∧ l[i]? = some y ∧ y.h ≤ h ∧ h - y.h < p.corr ∧ ncounts p h y = true) ∨ i = l.length := by
  by_cases hlt : i < l.length
  · obtain ⟨y, hy⟩ : ∃ y, l[i]? = some y := ⟨_, List.getElem?_eq_getElem hlt⟩
    by_cases a : y.h ≤ h
    · by_cases b : h - y.h < p.corr
      · exact .inr (.inr (.inl ⟨y, hlt, hy, a, b, by unfold ncounts; rw [decide_eq_true a, decide_eq_true b]; rfl⟩))
      · exact .inr (.inl ⟨y, hlt, hy, a, b, by unfold ncounts; rw [decide_eq_true a, decide_eq_false b]; rfl⟩)
    · exact .inl ⟨y, hlt, hy, a, by unfold ncounts; rw [decide_eq_false a]; rfl⟩
  · exact .inr (.inr (.inr (by omega)))
theorem rsum_step {ys : List Nt} {i : Nat} {y : Nt} (hy : ys[i]? = some y) : nsum (ys.take (i + 1)) = min (nsum (ys.take i) + y.s) 4611686018427387904 := by
  rw [List.take_add_one, hy, Option.toList_some, nsum_snoc]
noncomputable def qc75_2 (n : Nat) : Code := partOf Tryd.f15 n
noncomputable abbrev qo75_2 (n k : Nat) : Oper := (opsAt (qc75_2 n)).getD k default
theorem r23Live_ref (p : Par) (hp : p.Ok) (l : List Nt) (v : Value) (h : Int) (w : World) (hl : Sl w 2 Nt.cl v l) (rf : Int) (hrf : nref p l h = rf) (h0 : ¬ rf = 0) :
    Calls Tryd.prog 15 #[.agg p.cells, v, .int .i64 h] w (fun e w' => ∃ X, e = .returned (.tuple #[X, .int .i64 (nlive p l h).2]) ∧ Row w' 27 2 X ((nlive p l h).1).length (((nlive p l h).1).flatMap Nt.cl) ∧ NewFrom w.heap.size X ∧ Keeps Nob w w') := by
  have hln := Sl.len_le hl
  have K0 : Keeps Nob w w := Keeps.refl _ _
  refine sy_enter (qc75_2 1) ⟨#[.agg p.cells, v, .int .i64 h, ud, ud, ud, ud, ud, ud, ud, ud, ud, ud, ud, ud, ud, ud, ud, ud, ud, ud, ud, ud, ud, ud, ud, ud, ud, ud, ud, ud, ud, ud, ud, ud, ud, ud, ud, ud, ud, ud, ud, ud, ud, ud, ud, ud, ud, ud, ud, ud], []⟩ Tryd.func15 (by kernel_rfl) (by kernel_rfl) <| qr_ [0, 1, 2] <| pbx 24 p.cells (.agg p.cells) fun V1 gp egp h2 kV1 => ?_
  have n3 : w.heap.size ≤ gp := egp ▸ K0.size
  have K4 := K0.nn kV1
  have z5 := kV1.size
  refine pkq (.slice none 0 0) <| pkq (.int .i64 0) <| eq_ <| qr_ [0, 1, 2, 3, 4] <| ppq (.agg (p.cells)) (ldr 24 gp (h2) (by kernel_rfl)) <| pkq (v) <| pkq (.int .i64 h) ?_
  refine pcq 33 #[.agg (p.cells), v, .int .i64 h] Tryd.func33 ((r23refused_is p hp l v h _ _ (hl.keepsN K4) hrf).mono ?_)
  rintro e V6 ⟨rfl, kV6⟩
  refine ⟨_, rfl, ?_⟩
  have K8 := K4.nn kV6
  have z9 := kV6.size
  refine pkq (.int .i64 rf) <| eqr_ [0, 1] <| pkq (.int .i64 rf) <| ppq (.bool true) (nqt ((rf) : Int) ((0) : Int) (by omega)) <| ey_ <| qr_ [0, 1, 2] <| pkq (.int .i64 rf) <| pkq (.slice none 0 0) <| pkq (.int .i64 rf) <| eu_ <| then_r <| so_ (.tuple #[.slice none 0 0, .int .i64 rf]) ?_
  exact ⟨_, by rw [nlive_ref hrf h0], by rw [nlive_ref hrf h0]; exact World.ownsRow_nil _ _ _ _, NewFrom.nil _, K8⟩
theorem r23Live_ok (p : Par) (hp : p.Ok) (l : List Nt) (v : Value) (h : Int) (w : World) (hl : Sl w 2 Nt.cl v l) (hrf : nref p l h = 0) :
    Calls Tryd.prog 15 #[.agg p.cells, v, .int .i64 h] w (fun e w' => ∃ X, e = .returned (.tuple #[X, .int .i64 (nlive p l h).2]) ∧ Row w' 27 2 X ((nlive p l h).1).length (((nlive p l h).1).flatMap Nt.cl) ∧ NewFrom w.heap.size X ∧ Keeps Nob w w') := by
  have hln := Sl.len_le hl
  obtain ⟨i2, hi2, hs0, hs1, hs2⟩ := info_parts note_info0
  have hrow0 : Row w 27 2 (.slice none 0 0) ([] : List Nt).length (([] : List Nt).flatMap Nt.cl) := World.ownsRow_nil _ _ _ _
  obtain ⟨_, q1, q2, q3⟩ := nref_zero hrf
  obtain ⟨hl64, hfine⟩ := ncheck_fine q1
  have hbnd : ∀ x ∈ l, 1 ≤ x.h ∧ x.h ≤ 4294967296 := fun x hx => by have := hfine x hx; unfold Nt.bad at this; omega
  have K0 : Keeps Nob w w := Keeps.refl _ _
  refine sy_enter (qc75_2 1) ⟨#[.agg p.cells, v, .int .i64 h, ud, ud, ud, ud, ud, ud, ud, ud, ud, ud, ud, ud, ud, ud, ud, ud, ud, ud, ud, ud, ud, ud, ud, ud, ud, ud, ud, ud, ud, ud, ud, ud, ud, ud, ud, ud, ud, ud, ud, ud, ud, ud, ud, ud, ud, ud, ud, ud], []⟩ Tryd.func15 (by kernel_rfl) (by kernel_rfl) <| qr_ [0, 1, 2] <| pbx 24 p.cells (.agg p.cells) fun V1 gp egp h2 kV1 => ?_
  have n3 : w.heap.size ≤ gp := egp ▸ K0.size
  have h4 : Row V1 27 2 (.slice none 0 0) (([] : List Nt).length) (([] : List Nt).flatMap Nt.cl) := hrow0.keeps kV1 (fun _ _ x => x)
  have K5 := K0.nn kV1
  have z6 := kV1.size
  refine pkq (.slice none 0 0) <| pkq (.int .i64 0) <| eq_ <| qr_ [0, 1, 2, 3, 4] <| ppq (.agg (p.cells)) (ldr 24 gp (h2) (by kernel_rfl)) <| pkq (v) <| pkq (.int .i64 h) ?_
  refine pcq 33 #[.agg (p.cells), v, .int .i64 h] Tryd.func33 ((r23refused_is p hp l v h _ _ (hl.keepsN K5) hrf).mono ?_)
  rintro e V7 ⟨rfl, kV7⟩
  refine ⟨_, rfl, ?_⟩
  have h8 : Row V7 27 2 (.slice none 0 0) (([] : List Nt).length) (([] : List Nt).flatMap Nt.cl) := h4.keeps kV7 (fun _ _ x => x)
  have h9 := kV7.bk h2
  have K10 := K5.nn kV7
  have z11 := kV7.size
  refine pkq (.int .i64 0) <| eqr_ [0, 1] <| pkq (.int .i64 0) <| pkq (.bool false) <| en_ <| s_ <| tqr_ [0] <| pkq (.slice none 0 0) <| eq_ <| qr_ [0] <| pkq (.int .i64 0) <| et_ <| bl_ 0 ?_
  refine sy_loop (qc75_2 244) (fun a V => ∃ (i : Nat) (out : List Nt) (u : Value) (u18 u19 u20 u21 u22 u23 u24 u25 u26 u27 u28 u29 u30 u31 u32 u33 u34 u35 u36 u37 u38 u39 u40 u41 u42 u43 u44 u45 u46 u47 u48 u49 : Value), (a = ⟨#[.agg p.cells, v, .int .i64 h, pT gp 0, ud, ud, .slice none 0 0, .int .i64 0, .int .i64 0, u, iN i, .agg (p.cells), v, .int .i64 h, .int .i64 0, .int .i64 0, .bool false, ud, u18, u19, u20, u21, u22, u23, u24, u25, u26, u27, u28, u29, u30, u31, u32, u33, u34, u35, u36, u37, u38, u39, u40, u41, u42, u43, u44, u45, u46, u47, u48, u49, ud], []⟩) ∧ (i ≤ l.length) ∧ ((l.take i).filter (ncounts p h) = out) ∧ (out.length ≤ i) ∧ (Row V 27 2 u out.length (out.flatMap Nt.cl)) ∧ (V.heap[gp]? = some (.cells p.cells 24 (0, 0))) ∧ (Keeps Nob w V) ∧ (NewFrom w.heap.size u)) (fun a _ => l.length - (intOf (a.tmps.getD 10 undef)).toNat) (by kernel_rfl) ?_ ?_
  · exact ⟨0, [], .slice none 0 0, undef, undef, undef, undef, undef, undef, undef, undef, undef, undef, undef, undef, undef, undef, undef, undef, undef, undef, undef, undef, undef, undef, undef, undef, undef, undef, undef, undef, undef, undef, undef, undef, by kernel_rfl, by omega, rfl, Nat.le_refl _, h8, h9, K10, (NewFrom.nil _)⟩
  · rintro a V12 ⟨i, out, u, u18, u19, u20, u21, u22, u23, u24, u25, u26, u27, u28, u29, u30, u31, u32, u33, u34, u35, u36, u37, u38, u39, u40, u41, u42, u43, u44, u45, u46, u47, u48, u49, rfl, hi, hp2, hoi, h13, h14, K15, hnw⟩
    rcases rlive_cases p h l i hi with ⟨x, lt_i, hx, ca, hc⟩ | ⟨x, lt_i, hx, ca, cb, hc⟩ | ⟨x, lt_i, hx, ca, cb, hc⟩ | eq_i
    · have hxb := hbnd x (List.mem_of_getElem? hx)
      obtain ⟨b_, o_, c_, hv_, hb_, _⟩ := ((hl.keepsN K15)).at_ i _ hx
      have hpn : (l.take (i + 1)).filter (ncounts p h) = out := by rw [rfilt_no hx hc]; exact hp2
      have hoN : out.length ≤ i + 1 := by omega
      refine q_ <| qr_ [0, 1, 2, 3] <| pkq (iN i) <| pkq (v) <| ppq (iN l.length) (exec_len_sl (.tmp 19) 25 27 (by kernel_rfl) Tryd.underlying25 (by kernel_rfl) (hl.keepsN K15)) <| ppq (.bool true) (dct ((((i : Nat) : Int)) < (((l.length : Nat) : Int))) (by omega)) <| ey_ <| s_ <| tq_ <| bl_ 1 <| q_ <| sy_reg <| rg_still 8 18 (opsAt (qc75_2 3912)) [qo75_2 3912 0, qo75_2 3912 1, qo75_2 3912 2, qo75_2 3912 3, qo75_2 3912 4, qo75_2 3912 5, qo75_2 3912 6, qo75_2 3912 7, qo75_2 3912 8, qo75_2 3912 9, qo75_2 3912 10, qo75_2 3912 11, qo75_2 3912 12, qo75_2 3912 13, qo75_2 3912 14, qo75_2 3912 15, qo75_2 3912 16, qo75_2 3912 17] [qo75_2 3912 18] (by kernel_rfl) (by kernel_rfl) (by kernel_rfl) (by kernel_rfl) (by kernel_rfl) ?_
      obtain ⟨V17, eV17, kV17⟩ := drew_step V12
      rw [eV17]
      clear eV17
      have h18 : Row V17 27 2 u out.length (out.flatMap Nt.cl) := h13.keeps kV17 (fun _ _ x => x)
      have h19 := kV17.bk h14
      have K20 := K15.nn kV17
      have z21 := kV17.size
      refine skq (v) <| skq (iN i) <| spq (pT b_ (o_ + i * 2)) (exec_indexAt_slice 25 (.tmp 24) (.tmp 25) (by kernel_rfl) b_ o_ l.length c_ (Eq.trans (b := v) (by kernel_rfl) hv_) .i64 i (by kernel_rfl) _ 2 Tryd.underlying25 (by kernel_rfl) (by omega)) <| skq (pT b_ (o_ + i * 2 + 0)) <| spq (.int .i64 x.h) (ldc 3 b_ (o_ + i * 2 + 0) (Sl.cell (hl.keepsN K20) hx hv_ rfl)) <| skq (.int .i64 h) <| spq (.bool false) (dcf (((x.h) : Int) ≤ ((h) : Int)) (by omega)) <| skq (.bool false) <| snq <| snq <| snq <| snq <| snq <| snq ?_
      refine snq <| snq <| snq <| snq <| st_end <| ls_run (qo75_2 3912 18) (.bool false) (w' := V17) (by kernel_rfl) (by kernel_rfl) <| ls_end <| then_n <| n_ <| s_ <| blk_n <| tr_ [0, 1, 2] <| pkq (iN i) <| ppq (iN (i + 1)) (exec_cast (congrArg (Value.int .i64) (wrapN (i + 1) (by omega))) (by kernel_rfl)) ?_
      refine pkq (iN (i + 1)) <| ps_end <| sy_a ⟨#[.agg p.cells, v, .int .i64 h, pT gp 0, ud, ud, .slice none 0 0, .int .i64 0, .int .i64 0, u, iN (i + 1), .agg (p.cells), v, .int .i64 h, .int .i64 0, .int .i64 0, .bool false, ud, iN i, v, iN l.length, .bool true, iN i, iN (i + 1), v, iN i, pT b_ (o_ + i * 2), pT b_ (o_ + i * 2 + 0), .int .i64 x.h, .int .i64 h, .bool false, .bool false, ud, ud, ud, ud, ud, ud, ud, ud, ud, ud, .bool false, u43, u44, u45, u46, u47, u48, u49, ud], []⟩ <| then_n ?_
      refine ⟨⟨i + 1, out, u, (iN i), v, (iN l.length), (.bool true), (iN i), (iN (i + 1)), v, (iN i), (pT b_ (o_ + i * 2)), (pT b_ (o_ + i * 2 + 0)), (.int .i64 x.h), (.int .i64 h), (.bool false), (.bool false), undef, undef, undef, undef, undef, undef, undef, undef, undef, undef, (.bool false), u43, u44, u45, u46, u47, u48, u49, by kernel_rfl, by omega, hpn, hoN, h18, h19, K20, hnw⟩, ?_⟩
      exact lt_meas (x := l.length - (i + 1)) (y := l.length - i) (by kernel_rfl) (by kernel_rfl) (by omega)
    · have hxb := hbnd x (List.mem_of_getElem? hx)
      obtain ⟨b_, o_, c_, hv_, hb_, _⟩ := ((hl.keepsN K15)).at_ i _ hx
      have hpn : (l.take (i + 1)).filter (ncounts p h) = out := by rw [rfilt_no hx hc]; exact hp2
      have hoN : out.length ≤ i + 1 := by omega
      refine q_ <| qr_ [0, 1, 2, 3] <| pkq (iN i) <| pkq (v) <| ppq (iN l.length) (exec_len_sl (.tmp 19) 25 27 (by kernel_rfl) Tryd.underlying25 (by kernel_rfl) (hl.keepsN K15)) <| ppq (.bool true) (dct ((((i : Nat) : Int)) < (((l.length : Nat) : Int))) (by omega)) <| ey_ <| s_ <| tq_ <| bl_ 1 <| q_ <| sy_reg <| rg_still 8 18 (opsAt (qc75_2 3912)) [qo75_2 3912 0, qo75_2 3912 1, qo75_2 3912 2, qo75_2 3912 3, qo75_2 3912 4, qo75_2 3912 5, qo75_2 3912 6, qo75_2 3912 7, qo75_2 3912 8, qo75_2 3912 9, qo75_2 3912 10, qo75_2 3912 11, qo75_2 3912 12, qo75_2 3912 13, qo75_2 3912 14, qo75_2 3912 15, qo75_2 3912 16, qo75_2 3912 17] [qo75_2 3912 18] (by kernel_rfl) (by kernel_rfl) (by kernel_rfl) (by kernel_rfl) (by kernel_rfl) ?_
      obtain ⟨V23, eV23, kV23⟩ := drew_step V12
      rw [eV23]
      clear eV23
      have h24 : Row V23 27 2 u out.length (out.flatMap Nt.cl) := h13.keeps kV23 (fun _ _ x => x)
      have h25 := kV23.bk h14
      have K26 := K15.nn kV23
      have z27 := kV23.size
      refine skq (v) <| skq (iN i) <| spq (pT b_ (o_ + i * 2)) (exec_indexAt_slice 25 (.tmp 24) (.tmp 25) (by kernel_rfl) b_ o_ l.length c_ (Eq.trans (b := v) (by kernel_rfl) hv_) .i64 i (by kernel_rfl) _ 2 Tryd.underlying25 (by kernel_rfl) (by omega)) <| skq (pT b_ (o_ + i * 2 + 0)) <| spq (.int .i64 x.h) (ldc 3 b_ (o_ + i * 2 + 0) (Sl.cell (hl.keepsN K26) hx hv_ rfl)) <| skq (.int .i64 h) <| spq (.bool true) (dct (((x.h) : Int) ≤ ((h) : Int)) (by omega)) <| skq (.bool true) <| skq (.int .i64 h) <| skq (v) <| skq (iN i) <| spq (pT b_ (o_ + i * 2)) (exec_indexAt_slice 25 (.tmp 33) (.tmp 34) (by kernel_rfl) b_ o_ l.length c_ (Eq.trans (b := v) (by kernel_rfl) hv_) .i64 i (by kernel_rfl) _ 2 Tryd.underlying25 (by kernel_rfl) (by omega)) <| skq (pT b_ (o_ + i * 2 + 0)) <| spq (.int .i64 x.h) (ldc 3 b_ (o_ + i * 2 + 0) (Sl.cell (hl.keepsN K26) hx hv_ rfl)) ?_
      refine spq (.int .i64 (h - x.h)) (exec_cast (congrArg (Value.int .i64) (wrapI (h - x.h) (h - x.h) rfl (by omega) (by omega))) (by kernel_rfl)) <| skq (pT gp 9) <| spq (.int .i64 p.corr) (ldc 3 gp 9 (rc (h25) (rfl))) <| spq (.bool false) (dcf (((h - x.h) : Int) < ((p.corr) : Int)) (by omega)) <| st_end <| ls_run (qo75_2 3912 18) (.bool false) (w' := V23) (by kernel_rfl) (by kernel_rfl) <| ls_end <| then_n <| n_ <| s_ <| blk_n <| tr_ [0, 1, 2] <| pkq (iN i) <| ppq (iN (i + 1)) (exec_cast (congrArg (Value.int .i64) (wrapN (i + 1) (by omega))) (by kernel_rfl)) ?_
      refine pkq (iN (i + 1)) <| ps_end <| sy_a ⟨#[.agg p.cells, v, .int .i64 h, pT gp 0, ud, ud, .slice none 0 0, .int .i64 0, .int .i64 0, u, iN (i + 1), .agg (p.cells), v, .int .i64 h, .int .i64 0, .int .i64 0, .bool false, ud, iN i, v, iN l.length, .bool true, iN i, iN (i + 1), v, iN i, pT b_ (o_ + i * 2), pT b_ (o_ + i * 2 + 0), .int .i64 x.h, .int .i64 h, .bool true, .bool true, .int .i64 h, v, iN i, pT b_ (o_ + i * 2), pT b_ (o_ + i * 2 + 0), .int .i64 x.h, .int .i64 (h - x.h), pT gp 9, .int .i64 p.corr, .bool false, .bool false, u43, u44, u45, u46, u47, u48, u49, ud], []⟩ <| then_n ?_
      refine ⟨⟨i + 1, out, u, (iN i), v, (iN l.length), (.bool true), (iN i), (iN (i + 1)), v, (iN i), (pT b_ (o_ + i * 2)), (pT b_ (o_ + i * 2 + 0)), (.int .i64 x.h), (.int .i64 h), (.bool true), (.bool true), (.int .i64 h), v, (iN i), (pT b_ (o_ + i * 2)), (pT b_ (o_ + i * 2 + 0)), (.int .i64 x.h), (.int .i64 (h - x.h)), (pT gp 9), (.int .i64 p.corr), (.bool false), (.bool false), u43, u44, u45, u46, u47, u48, u49, by kernel_rfl, by omega, hpn, hoN, h24, h25, K26, hnw⟩, ?_⟩
      exact lt_meas (x := l.length - (i + 1)) (y := l.length - i) (by kernel_rfl) (by kernel_rfl) (by omega)
    · have hxb := hbnd x (List.mem_of_getElem? hx)
      obtain ⟨b_, o_, c_, hv_, hb_, _⟩ := ((hl.keepsN K15)).at_ i _ hx
      have hpn : (l.take (i + 1)).filter (ncounts p h) = out ++ [x] := by rw [rfilt_yes hx hc, hp2]
      have hoN : (out ++ [x]).length ≤ i + 1 := by rw [List.length_append, List.length_singleton]; omega
      refine q_ <| qr_ [0, 1, 2, 3] <| pkq (iN i) <| pkq (v) <| ppq (iN l.length) (exec_len_sl (.tmp 19) 25 27 (by kernel_rfl) Tryd.underlying25 (by kernel_rfl) (hl.keepsN K15)) <| ppq (.bool true) (dct ((((i : Nat) : Int)) < (((l.length : Nat) : Int))) (by omega)) <| ey_ <| s_ <| tq_ <| bl_ 1 <| q_ <| sy_reg <| rg_still 8 18 (opsAt (qc75_2 3912)) [qo75_2 3912 0, qo75_2 3912 1, qo75_2 3912 2, qo75_2 3912 3, qo75_2 3912 4, qo75_2 3912 5, qo75_2 3912 6, qo75_2 3912 7, qo75_2 3912 8, qo75_2 3912 9, qo75_2 3912 10, qo75_2 3912 11, qo75_2 3912 12, qo75_2 3912 13, qo75_2 3912 14, qo75_2 3912 15, qo75_2 3912 16, qo75_2 3912 17] [qo75_2 3912 18] (by kernel_rfl) (by kernel_rfl) (by kernel_rfl) (by kernel_rfl) (by kernel_rfl) ?_
      obtain ⟨V29, eV29, kV29⟩ := drew_step V12
      rw [eV29]
      clear eV29
      have h30 : Row V29 27 2 u out.length (out.flatMap Nt.cl) := h13.keeps kV29 (fun _ _ x => x)
      have h31 := kV29.bk h14
      have K32 := K15.nn kV29
      have z33 := kV29.size
      refine skq (v) <| skq (iN i) <| spq (pT b_ (o_ + i * 2)) (exec_indexAt_slice 25 (.tmp 24) (.tmp 25) (by kernel_rfl) b_ o_ l.length c_ (Eq.trans (b := v) (by kernel_rfl) hv_) .i64 i (by kernel_rfl) _ 2 Tryd.underlying25 (by kernel_rfl) (by omega)) <| skq (pT b_ (o_ + i * 2 + 0)) <| spq (.int .i64 x.h) (ldc 3 b_ (o_ + i * 2 + 0) (Sl.cell (hl.keepsN K32) hx hv_ rfl)) <| skq (.int .i64 h) <| spq (.bool true) (dct (((x.h) : Int) ≤ ((h) : Int)) (by omega)) <| skq (.bool true) <| skq (.int .i64 h) <| skq (v) <| skq (iN i) <| spq (pT b_ (o_ + i * 2)) (exec_indexAt_slice 25 (.tmp 33) (.tmp 34) (by kernel_rfl) b_ o_ l.length c_ (Eq.trans (b := v) (by kernel_rfl) hv_) .i64 i (by kernel_rfl) _ 2 Tryd.underlying25 (by kernel_rfl) (by omega)) <| skq (pT b_ (o_ + i * 2 + 0)) <| spq (.int .i64 x.h) (ldc 3 b_ (o_ + i * 2 + 0) (Sl.cell (hl.keepsN K32) hx hv_ rfl)) ?_
      refine spq (.int .i64 (h - x.h)) (exec_cast (congrArg (Value.int .i64) (wrapI (h - x.h) (h - x.h) rfl (by omega) (by omega))) (by kernel_rfl)) <| skq (pT gp 9) <| spq (.int .i64 p.corr) (ldc 3 gp 9 (rc (h31) (rfl))) <| spq (.bool true) (dct (((h - x.h) : Int) < ((p.corr) : Int)) (by omega)) <| st_end <| ls_run (qo75_2 3912 18) (.bool true) (w' := V29) (by kernel_rfl) (by kernel_rfl) <| ls_end <| then_n <| y_ <| r_ [0, 1, 2, 3, 4, 5, 6, 7] <| pkq (u) <| pkq (v) <| pkq (iN i) <| ppq (pT b_ (o_ + i * 2)) (exec_indexAt_slice 25 (.tmp 44) (.tmp 45) (by kernel_rfl) b_ o_ l.length c_ (Eq.trans (b := v) (by kernel_rfl) hv_) .i64 i (by kernel_rfl) _ 2 Tryd.underlying25 (by kernel_rfl) (by omega)) ?_
      refine ppq (.agg #[.int .i64 x.h, uN x.s]) (exec_cast (v := .agg x.c) rfl (exec_load_mid 27 (.tmp 46) (by kernel_rfl) b_ (o_ + i * 2) (by kernel_rfl) (Nt.cl x) _ (Sl.range (hl.keepsN K32) hx hv_) Tryd.underlying27 rfl (by kernel_rfl))) ?_
      obtain ⟨V34, eV34, lit, elit, h35, kV34⟩ := alloc_step V29 (#[.int .i64 x.h, .int .u64 ((x.s : Nat) : Int)]) 27
      have n36 : gp < lit := elit ▸ lt_of_block h31
      have n37 : w.heap.size ≤ lit := elit ▸ K32.size
      refine prq (.slice (some ⟨lit, 0, none⟩) 1 1) (w' := V34) (by rw [← eV34, ← elit]; kernel_rfl) ?_
      have h38 : Row V34 27 2 u out.length (out.flatMap Nt.cl) := h30.keeps kV34 (fun _ _ x => x)
      have h39 := kV34.bk h31
      have K40 := K32.nn kV34
      have z41 := kV34.size
      obtain ⟨vn, V42, hr43, h44, hg45, hn46, ha47⟩ := run_append_any (P := Tryd.prog) (w := V34) 25 (Oper.type (qo75_2 7826 6)) 27 i2 (.agg #[.int .i64 0, .int .u64 0]) 2 16 Tryd.underlying25 hi2 hs0 hs1 hs2 rfl (by decide) u out.length (out.flatMap Nt.cl) h38 (.slice (some ⟨lit, 0, none⟩) 1 1) 1 (Nt.cl x) (src_nt h35) (by unfold maxLen; omega) (by omega)
      have kV42 : Keeps (fun j => (u : Value).ownBlock = some j) V34 V42 := Keeps.rowAdd hg45
      have hw48 : NewFrom w.heap.size vn := hnw.next K40.size ha47
      refine prq vn (w' := V42) (exec_append (.tmp 43) (.tmp 48) 25 (by kernel_rfl) u (.slice (some ⟨lit, 0, none⟩) 1 1) (by kernel_rfl) (by kernel_rfl) hr43) ?_
      have h49 : Row V42 27 2 vn ((out ++ [x]).length) ((out ++ [x]).flatMap Nt.cl) := (row_nt rfl h44)
      have hnwn := hw48
      have h50 : V42.heap[gp]? = some (.cells p.cells 24 (0, 0)) := (kV42.block gp (lt_of_block h39) (fun e => Row.ne h38 h39 (by decide) e)).trans h39
      have K51 : Keeps Nob w V42 := K40.then kV42 (fun i hi hm => absurd hi (by have := hnw i hm; omega))
      have z52 := kV42.size
      refine pkq (vn) <| ps_end <| sy_a ⟨#[.agg p.cells, v, .int .i64 h, pT gp 0, ud, ud, .slice none 0 0, .int .i64 0, .int .i64 0, vn, iN i, .agg (p.cells), v, .int .i64 h, .int .i64 0, .int .i64 0, .bool false, ud, iN i, v, iN l.length, .bool true, u22, u23, v, iN i, pT b_ (o_ + i * 2), pT b_ (o_ + i * 2 + 0), .int .i64 x.h, .int .i64 h, .bool true, .bool true, .int .i64 h, v, iN i, pT b_ (o_ + i * 2), pT b_ (o_ + i * 2 + 0), .int .i64 x.h, .int .i64 (h - x.h), pT gp 9, .int .i64 p.corr, .bool true, .bool true, u, v, iN i, pT b_ (o_ + i * 2), .agg #[.int .i64 x.h, uN x.s], .slice (some ⟨lit, 0, none⟩) 1 1, vn, ud], []⟩ <| blk_n <| tr_ [0, 1, 2] <| pkq (iN i) <| ppq (iN (i + 1)) (exec_cast (congrArg (Value.int .i64) (wrapN (i + 1) (by omega))) (by kernel_rfl)) <| pkq (iN (i + 1)) <| et_ ?_
      refine ⟨⟨i + 1, (out ++ [x]), vn, (iN i), v, (iN l.length), (.bool true), (iN i), (iN (i + 1)), v, (iN i), (pT b_ (o_ + i * 2)), (pT b_ (o_ + i * 2 + 0)), (.int .i64 x.h), (.int .i64 h), (.bool true), (.bool true), (.int .i64 h), v, (iN i), (pT b_ (o_ + i * 2)), (pT b_ (o_ + i * 2 + 0)), (.int .i64 x.h), (.int .i64 (h - x.h)), (pT gp 9), (.int .i64 p.corr), (.bool true), (.bool true), u, v, (iN i), (pT b_ (o_ + i * 2)), (.agg #[.int .i64 x.h, uN x.s]), (.slice (some ⟨lit, 0, none⟩) 1 1), vn, by kernel_rfl, by omega, hpn, hoN, h49, h50, K51, hw48⟩, ?_⟩
      exact lt_meas (x := l.length - (i + 1)) (y := l.length - i) (by kernel_rfl) (by kernel_rfl) (by omega)
    · rw [eq_i, List.take_length] at hp2
      refine q_ <| qr_ [0, 1, 2, 3] <| pkq (iN i) <| pkq (v) <| ppq (iN l.length) (exec_len_sl (.tmp 19) 25 27 (by kernel_rfl) Tryd.underlying25 (by kernel_rfl) (hl.keepsN K15)) <| ppq (.bool false) (dcf ((((i : Nat) : Int)) < (((l.length : Nat) : Int))) (by omega)) <| en_ <| sy_exit 0 (by kernel_rfl) <| then_e <| then_e <| blk_e <| tqr_ [0, 1, 2] <| pkq (u) <| pkq (u) ?_
      refine pkq (.int .i64 0) <| eu_ <| so_ (.tuple #[u, .int .i64 0]) ?_
      exact ⟨_, by rw [nlive_go hrf], by rw [nlive_go hrf, hp2]; exact h13, hnw, K15⟩
theorem r23Live_is (p : Par) (hp : p.Ok) (l : List Nt) (v : Value) (h : Int) (ys : List Nt) (rf : Int) (w : World) (hl : Sl w 2 Nt.cl v l) (hys : (nlive p l h).1 = ys) (hrf : (nlive p l h).2 = rf) : Calls Tryd.prog 15 #[.agg p.cells, v, .int .i64 h] w (fun e w' => ∃ X, e = .returned (.tuple #[X, .int .i64 rf]) ∧ Row w' 27 2 X (ys).length ((ys).flatMap Nt.cl) ∧ NewFrom w.heap.size X ∧ Keeps Nob w w') := by
  subst hys; subst hrf
  by_cases h0 : nref p l h = 0
  · exact r23Live_ok p hp l v h w hl h0
  · exact r23Live_ref p hp l v h w hl _ rfl h0
noncomputable def qc75_1 (n : Nat) : Code := partOf Tryd.f9 n
theorem r23Noted_err (p : Par) (hp : p.Ok) (l : List Nt) (v : Value) (h : Int) (w : World) (hl : Sl w 2 Nt.cl v l) (rf : Int) (hrf : (nlive p l h).2 = rf) (h0 : ¬ rf = 0) :
    Calls Tryd.prog 9 #[.agg p.cells, v, .int .i64 h] w (fun e w' => e = .returned (.tuple #[.int .u64 (((nnoted p l h).1 : Nat) : Int), .int .i64 (nnoted p l h).2]) ∧ Keeps Nob w w') := by
  obtain ⟨ys, hys⟩ : ∃ ys, (nlive p l h).1 = ys := ⟨_, rfl⟩
  have K0 : Keeps Nob w w := Keeps.refl _ _
  refine sy_enter (qc75_1 1) ⟨#[.agg p.cells, v, .int .i64 h, ud, ud, ud, ud, ud, ud, ud, ud, ud, ud, ud, ud, ud, ud, ud, ud, ud, ud, ud, ud, ud, ud, ud, ud, ud, ud, ud, ud, ud, ud, ud, ud, ud, ud], []⟩ Tryd.func9 (by kernel_rfl) (by kernel_rfl) <| qr_ [0, 1, 2] <| pbx 24 p.cells (.agg p.cells) fun V1 gp egp h2 kV1 => ?_
  have n3 : w.heap.size ≤ gp := egp ▸ K0.size
  have K4 := K0.nn kV1
  have z5 := kV1.size
  refine pkq (.int .u64 0) <| pkq (.int .i64 0) <| eqr_ [0, 1, 2, 3, 4, 5, 6, 7, 8] <| ppq (.agg (p.cells)) (ldr 24 gp (h2) (by kernel_rfl)) <| pkq (v) <| pkq (.int .i64 h) ?_
  refine pcq 15 #[.agg (p.cells), v, .int .i64 h] Tryd.func15 ((r23Live_is p hp l v h ys rf _ (hl.keepsN K4) hys hrf).mono ?_)
  rintro e V6 ⟨X, rfl, hX, hXn, kV6⟩
  have hXs := row_nts hX
  refine ⟨_, rfl, ?_⟩
  have K8 := K4.nn kV6
  have z9 := kV6.size
  refine pkq (.tuple #[X, .int .i64 rf]) <| pkq (X) <| pkq (.int .i64 rf) <| pkq (X) <| pkq (.int .i64 rf) <| eq_ <| qr_ [0, 1] <| pkq (.int .i64 rf) <| ppq (.bool true) (nqt ((rf) : Int) ((0) : Int) (by omega)) <| ey_ <| qr_ [0, 1, 2] <| pkq (.int .i64 rf) <| pkq (.int .u64 0) <| pkq (.int .i64 rf) ?_
  refine eu_ <| then_r <| so_ (.tuple #[.int .u64 0, .int .i64 rf]) ?_
  exact ⟨by rw [nref_noted hrf h0]; rfl, K8⟩
theorem r23Noted_ok (p : Par) (hp : p.Ok) (l : List Nt) (v : Value) (h : Int) (w : World) (hl : Sl w 2 Nt.cl v l) (hrf : (nlive p l h).2 = 0) :
    Calls Tryd.prog 9 #[.agg p.cells, v, .int .i64 h] w (fun e w' => e = .returned (.tuple #[.int .u64 (((nnoted p l h).1 : Nat) : Int), .int .i64 (nnoted p l h).2]) ∧ Keeps Nob w w') := by
  obtain ⟨ys, hys⟩ : ∃ ys, (nlive p l h).1 = ys := ⟨_, rfl⟩
  obtain ⟨hres, hbnd, hlen⟩ := noted_go hrf
  rw [hys] at hres hbnd hlen
  have K0 : Keeps Nob w w := Keeps.refl _ _
  refine sy_enter (qc75_1 1) ⟨#[.agg p.cells, v, .int .i64 h, ud, ud, ud, ud, ud, ud, ud, ud, ud, ud, ud, ud, ud, ud, ud, ud, ud, ud, ud, ud, ud, ud, ud, ud, ud, ud, ud, ud, ud, ud, ud, ud, ud, ud], []⟩ Tryd.func9 (by kernel_rfl) (by kernel_rfl) <| qr_ [0, 1, 2] <| pbx 24 p.cells (.agg p.cells) fun V1 gp egp h2 kV1 => ?_
  have n3 : w.heap.size ≤ gp := egp ▸ K0.size
  have K4 := K0.nn kV1
  have z5 := kV1.size
  refine pkq (.int .u64 0) <| pkq (.int .i64 0) <| eqr_ [0, 1, 2, 3, 4, 5, 6, 7, 8] <| ppq (.agg (p.cells)) (ldr 24 gp (h2) (by kernel_rfl)) <| pkq (v) <| pkq (.int .i64 h) ?_
  refine pcq 15 #[.agg (p.cells), v, .int .i64 h] Tryd.func15 ((r23Live_is p hp l v h ys 0 _ (hl.keepsN K4) hys hrf).mono ?_)
  rintro e V6 ⟨X, rfl, hX, hXn, kV6⟩
  have hXs := row_nts hX
  refine ⟨_, rfl, ?_⟩
  have h7 := kV6.bk h2
  have K8 := K4.nn kV6
  have z9 := kV6.size
  refine pkq (.tuple #[X, .int .i64 0]) <| pkq (X) <| pkq (.int .i64 0) <| pkq (X) <| pkq (.int .i64 0) <| eq_ <| qr_ [0, 1] <| pkq (.int .i64 0) <| pkq (.bool false) <| en_ <| s_ <| tqr_ [0] <| pkq (.int .u64 0) <| eq_ ?_
  refine qr_ [0] <| pkq (.int .i64 0) <| et_ <| bl_ 0 ?_
  refine sy_loop (qc75_1 500) (fun a V => ∃ (i : Nat) (sm : Nat) (u22 u23 u24 u25 u26 u27 u28 u29 u30 u31 u32 u33 u34 u35 : Value), (a = ⟨#[.agg p.cells, v, .int .i64 h, pT gp 0, ud, ud, .int .u64 0, .int .i64 0, X, .int .i64 0, uN sm, iN i, .tuple #[X, .int .i64 0], .agg (p.cells), v, .int .i64 h, .tuple #[X, .int .i64 0], X, .int .i64 0, .int .i64 0, .bool false, ud, u22, u23, u24, u25, u26, u27, u28, u29, u30, u31, u32, u33, u34, u35, ud], []⟩) ∧ (i ≤ ys.length) ∧ (nsum (ys.take i) = sm) ∧ (V.heap[gp]? = some (.cells p.cells 24 (0, 0))) ∧ (Sl V 2 Nt.cl X ys) ∧ (Keeps Nob w V)) (fun a _ => ys.length - (intOf (a.tmps.getD 11 undef)).toNat) (by kernel_rfl) ?_ ?_
  · exact ⟨0, 0, undef, undef, undef, undef, undef, undef, undef, undef, undef, undef, undef, undef, undef, undef, by kernel_rfl, by omega, rfl, h7, hXs, K8⟩
  · rintro a V10 ⟨i, sm, u22, u23, u24, u25, u26, u27, u28, u29, u30, u31, u32, u33, u34, u35, rfl, hi, hsm, h11, h12, K13⟩
    by_cases lt_i : i < ys.length
    · obtain ⟨y, hy⟩ : ∃ y, ys[i]? = some y := ⟨_, List.getElem?_eq_getElem lt_i⟩
      obtain ⟨b_, o_, c_, hv_, hb_, _⟩ := (h12).at_ i _ hy
      have hsl := nsum_le (ys.take i)
      have hyb := hbnd y (List.mem_of_getElem? hy)
      rw [hsm] at hsl
      obtain ⟨sy, hsy⟩ : ∃ s, sm + y.s = s := ⟨_, rfl⟩
      obtain ⟨sn, hsn⟩ : ∃ s, nsum (ys.take (i + 1)) = s := ⟨_, rfl⟩
      have hmn : min sy 4611686018427387904 = sn := by rw [← hsn, rsum_step hy, hsm, hsy]
      refine q_ <| qr_ [0, 1, 2, 3] <| pkq (iN i) <| pkq (X) <| ppq (iN ys.length) (exec_len_sl (.tmp 23) 25 27 (by kernel_rfl) Tryd.underlying25 (by kernel_rfl) h12) <| ppq (.bool true) (dct ((((i : Nat) : Int)) < (((ys.length : Nat) : Int))) (by omega)) <| ey_ <| s_ <| tq_ <| bl_ 1 <| r_ [0, 1, 2, 3, 4, 5, 6, 7, 8] <| pkq (uN sm) <| pkq (X) <| pkq (iN i) ?_
      refine ppq (pT b_ (o_ + i * 2)) (exec_indexAt_slice 25 (.tmp 29) (.tmp 30) (by kernel_rfl) b_ o_ ys.length c_ (Eq.trans (b := X) (by kernel_rfl) hv_) .i64 i (by kernel_rfl) _ 2 Tryd.underlying25 (by kernel_rfl) (by omega)) <| pkq (pT b_ (o_ + i * 2 + 1)) <| ppq (uN y.s) (ldc 22 b_ (o_ + i * 2 + 1) (Sl.cell h12 hy hv_ rfl)) <| ppq (uN sy) (exec_cast (congrArg (Value.int .u64) ((wrapU (sm + y.s) (by omega)).trans (congrArg (fun n : Nat => (n : Int)) hsy))) (by kernel_rfl)) <| ppq (uN sn) (exec_cast (congrArg (Value.int .u64) ((nat_min sy 4611686018427387904).trans (congrArg (fun n : Nat => (n : Int)) hmn))) (nexec_min (.tmp 34) (.const (.int .u64 4611686018427387904)) #[22, 22] (by kernel_rfl) .u64 ((sy : Nat) : Int) 4611686018427387904 (by kernel_rfl) (by kernel_rfl))) <| pkq (uN sn) <| ps_end <| blk_n <| tr_ [0, 1, 2] <| pkq (iN i) <| ppq (iN (i + 1)) (exec_cast (congrArg (Value.int .i64) (wrapN (i + 1) (by omega))) (by kernel_rfl)) <| pkq (iN (i + 1)) <| et_ ?_
      refine ⟨⟨i + 1, sn, (iN i), X, (iN ys.length), (.bool true), (iN i), (iN (i + 1)), (uN sm), X, (iN i), (pT b_ (o_ + i * 2)), (pT b_ (o_ + i * 2 + 1)), (uN y.s), (uN sy), (uN sn), by kernel_rfl, by omega, hsn, h11, h12, K13⟩, ?_⟩
      exact lt_meas (x := ys.length - (i + 1)) (y := ys.length - i) (by kernel_rfl) (by kernel_rfl) (by omega)
    · have hsm3 : nsum ys = sm := by rw [List.take_of_length_le (by omega)] at hsm; exact hsm
      rw [hsm3] at hres
      refine q_ <| qr_ [0, 1, 2, 3] <| pkq (iN i) <| pkq (X) <| ppq (iN ys.length) (exec_len_sl (.tmp 23) 25 27 (by kernel_rfl) Tryd.underlying25 (by kernel_rfl) h12) <| ppq (.bool false) (dcf ((((i : Nat) : Int)) < (((ys.length : Nat) : Int))) (by omega)) <| en_ <| sy_exit 0 (by kernel_rfl) <| then_e <| then_e <| blk_e <| tqr_ [0, 1, 2] <| pkq (uN sm) <| pkq (uN sm) ?_
      refine pkq (.int .i64 0) <| eu_ <| so_ (.tuple #[.int .u64 ((sm : Nat) : Int), .int .i64 0]) ?_
      exact ⟨by rw [hres], K13⟩
theorem r23Noted_is (p : Par) (hp : p.Ok) (l : List Nt) (v : Value) (h : Int) (n : Nat) (rf : Int) (w : World) (hl : Sl w 2 Nt.cl v l) (hn : (nnoted p l h).1 = n) (hr : (nnoted p l h).2 = rf) : Calls Tryd.prog 9 #[.agg p.cells, v, .int .i64 h] w (fun e w' => e = .returned (.tuple #[.int .u64 ((n : Nat) : Int), .int .i64 rf]) ∧ Keeps Nob w w') := by
  subst hn; subst hr
  by_cases hrf : (nlive p l h).2 = 0
  · exact r23Noted_ok p hp l v h w hl hrf
  · exact r23Noted_err p hp l v h w hl _ rfl hrf
theorem rcapped_is {x n : Nat} {args : Array Value} {w : World} (h1 : x = n) (h : Calls Tryd.prog 26 args w (fun e w' => e = .returned (.tuple #[.int .u64 ((x : Nat) : Int), .int .i64 0]) ∧ Keeps Nob w w')) : Calls Tryd.prog 26 args w (fun e w' => e = .returned (.tuple #[.int .u64 ((n : Nat) : Int), .int .i64 0]) ∧ Keeps Nob w w') := h1 ▸ h
noncomputable def qc75_3 (n : Nat) : Code := partOf Tryd.f11 n
theorem r23Frac_err (p : Par) (hp : p.Ok) (l : List Nt) (v : Value) (h : Int) (s t : Nat) (hs : s < 18446744073709551616) (ht : t < 18446744073709551616) (w : World) (hl : Sl w 2 Nt.cl v l) (rf : Int) (n : Nat) (hn : (nnoted p l h).1 = n) (hrf : (nnoted p l h).2 = rf) (h0 : ¬ rf = 0) :
    Calls Tryd.prog 11 #[.agg p.cells, v, .int .i64 h, .int .u64 ((s : Nat) : Int), .int .u64 ((t : Nat) : Int)] w (fun e w' => e = .returned (.tuple #[.int .u64 (((nfrac p l h s t).1 : Nat) : Int), .int .i64 (nfrac p l h s t).2]) ∧ Keeps Nob w w') := by
  have K0 : Keeps Nob w w := Keeps.refl _ _
  refine sy_enter (qc75_3 1) ⟨#[.agg p.cells, v, .int .i64 h, uN s, uN t, ud, ud, ud, ud, ud, ud, ud, ud, ud, ud, ud, ud, ud, ud, ud, ud, ud, ud, ud, ud, ud, ud, ud, ud, ud, ud, ud, ud, ud, ud, ud, ud, ud, ud, ud, ud, ud, ud, ud, ud, ud, ud, ud, ud, ud, ud, ud, ud, ud, ud], []⟩ Tryd.func11 (by kernel_rfl) (by kernel_rfl) <| qr_ [0, 1, 2] <| pbx 24 p.cells (.agg p.cells) fun V1 gp egp h2 kV1 => ?_
  have n3 : w.heap.size ≤ gp := egp ▸ K0.size
  have K4 := K0.nn kV1
  have z5 := kV1.size
  refine pkq (.int .u64 0) <| pkq (.int .i64 0) <| eqr_ [0, 1, 2, 3, 4, 5, 6, 7, 8] <| ppq (.agg (p.cells)) (ldr 24 gp (h2) (by kernel_rfl)) <| pkq (v) <| pkq (.int .i64 h) ?_
  refine pcq 9 #[.agg (p.cells), v, .int .i64 h] Tryd.func9 ((r23Noted_is p hp l v h n rf _ (hl.keepsN K4) hn hrf).mono ?_)
  rintro e V6 ⟨rfl, kV6⟩
  refine ⟨_, rfl, ?_⟩
  have K8 := K4.nn kV6
  have z9 := kV6.size
  refine pkq (.tuple #[uN n, .int .i64 rf]) <| pkq (uN n) <| pkq (.int .i64 rf) <| pkq (uN n) <| pkq (.int .i64 rf) <| eq_ <| qr_ [0, 1] <| pkq (.int .i64 rf) <| ppq (.bool true) (nqt ((rf) : Int) ((0) : Int) (by omega)) <| ey_ <| qr_ [0, 1, 2] <| pkq (.int .i64 rf) <| pkq (.int .u64 0) <| pkq (.int .i64 rf) ?_
  refine eu_ <| then_r <| so_ (.tuple #[.int .u64 0, .int .i64 rf]) ?_
  exact ⟨by unfold nfrac; rw [hrf, if_pos h0]; rfl, K8⟩
theorem r23Frac_over1 (p : Par) (hp : p.Ok) (l : List Nt) (v : Value) (h : Int) (s t : Nat) (hs : s < 18446744073709551616) (ht : t < 18446744073709551616) (w : World) (hl : Sl w 2 Nt.cl v l) (n bs m f : Nat) (hn : (nnoted p l h).1 = n) (hrf : (nnoted p l h).2 = 0) (hn2 : n ≤ 4611686018427387904) (hbs : p.base = ((bs : Nat) : Int)) (hm : p.mult = ((m : Nat) : Int)) (hbl : bs ≤ 1000000000) (hml : m ≤ 1000) (hf : min 1000000000 (m * 1000000000 * (min (n + s) 4611686018427387904) / t) = f) (hq : 4611686018427387904 < s) :
    Calls Tryd.prog 11 #[.agg p.cells, v, .int .i64 h, .int .u64 ((s : Nat) : Int), .int .u64 ((t : Nat) : Int)] w (fun e w' => e = .returned (.tuple #[.int .u64 (((nfrac p l h s t).1 : Nat) : Int), .int .i64 (nfrac p l h s t).2]) ∧ Keeps Nob w w') := by
  have K0 : Keeps Nob w w := Keeps.refl _ _
  refine sy_enter (qc75_3 1) ⟨#[.agg p.cells, v, .int .i64 h, uN s, uN t, ud, ud, ud, ud, ud, ud, ud, ud, ud, ud, ud, ud, ud, ud, ud, ud, ud, ud, ud, ud, ud, ud, ud, ud, ud, ud, ud, ud, ud, ud, ud, ud, ud, ud, ud, ud, ud, ud, ud, ud, ud, ud, ud, ud, ud, ud, ud, ud, ud, ud], []⟩ Tryd.func11 (by kernel_rfl) (by kernel_rfl) <| qr_ [0, 1, 2] <| pbx 24 p.cells (.agg p.cells) fun V1 gp egp h2 kV1 => ?_
  have n3 : w.heap.size ≤ gp := egp ▸ K0.size
  have K4 := K0.nn kV1
  have z5 := kV1.size
  refine pkq (.int .u64 0) <| pkq (.int .i64 0) <| eqr_ [0, 1, 2, 3, 4, 5, 6, 7, 8] <| ppq (.agg (p.cells)) (ldr 24 gp (h2) (by kernel_rfl)) <| pkq (v) <| pkq (.int .i64 h) ?_
  refine pcq 9 #[.agg (p.cells), v, .int .i64 h] Tryd.func9 ((r23Noted_is p hp l v h n 0 _ (hl.keepsN K4) hn hrf).mono ?_)
  rintro e V6 ⟨rfl, kV6⟩
  refine ⟨_, rfl, ?_⟩
  have K8 := K4.nn kV6
  have z9 := kV6.size
  refine pkq (.tuple #[uN n, .int .i64 0]) <| pkq (uN n) <| pkq (.int .i64 0) <| pkq (uN n) <| pkq (.int .i64 0) <| eq_ <| qr_ [0, 1] <| pkq (.int .i64 0) <| pkq (.bool false) <| en_ <| s_ <| tq_ <| qr_ [0, 1, 2, 3, 4, 5] <| pkq (uN s) ?_
  refine ppq (.bool true) (dct ((((s : Nat) : Int)) > ((4611686018427387904) : Int)) (by omega)) <| pkq (.bool true) <| pnq <| pnq <| pkq (.bool true) <| ey_ <| qr_ [0, 1] <| pkq (.int .u64 0) <| pkq (.int .i64 12) <| eu_ <| then_r <| so_ (.tuple #[.int .u64 0, .int .i64 12]) ?_
  exact ⟨by unfold nfrac; rw [hrf, if_neg (by decide), if_pos (.inl hq)]; rfl, K8⟩
theorem r23Frac_over2 (p : Par) (hp : p.Ok) (l : List Nt) (v : Value) (h : Int) (s t : Nat) (hs : s < 18446744073709551616) (ht : t < 18446744073709551616) (w : World) (hl : Sl w 2 Nt.cl v l) (n bs m f : Nat) (hn : (nnoted p l h).1 = n) (hrf : (nnoted p l h).2 = 0) (hn2 : n ≤ 4611686018427387904) (hbs : p.base = ((bs : Nat) : Int)) (hm : p.mult = ((m : Nat) : Int)) (hbl : bs ≤ 1000000000) (hml : m ≤ 1000) (hf : min 1000000000 (m * 1000000000 * (min (n + s) 4611686018427387904) / t) = f) (hq : ¬ 4611686018427387904 < s) (hq2 : 4611686018427387904 < t) :
    Calls Tryd.prog 11 #[.agg p.cells, v, .int .i64 h, .int .u64 ((s : Nat) : Int), .int .u64 ((t : Nat) : Int)] w (fun e w' => e = .returned (.tuple #[.int .u64 (((nfrac p l h s t).1 : Nat) : Int), .int .i64 (nfrac p l h s t).2]) ∧ Keeps Nob w w') := by
  have K0 : Keeps Nob w w := Keeps.refl _ _
  refine sy_enter (qc75_3 1) ⟨#[.agg p.cells, v, .int .i64 h, uN s, uN t, ud, ud, ud, ud, ud, ud, ud, ud, ud, ud, ud, ud, ud, ud, ud, ud, ud, ud, ud, ud, ud, ud, ud, ud, ud, ud, ud, ud, ud, ud, ud, ud, ud, ud, ud, ud, ud, ud, ud, ud, ud, ud, ud, ud, ud, ud, ud, ud, ud, ud], []⟩ Tryd.func11 (by kernel_rfl) (by kernel_rfl) <| qr_ [0, 1, 2] <| pbx 24 p.cells (.agg p.cells) fun V1 gp egp h2 kV1 => ?_
  have n3 : w.heap.size ≤ gp := egp ▸ K0.size
  have K4 := K0.nn kV1
  have z5 := kV1.size
  refine pkq (.int .u64 0) <| pkq (.int .i64 0) <| eqr_ [0, 1, 2, 3, 4, 5, 6, 7, 8] <| ppq (.agg (p.cells)) (ldr 24 gp (h2) (by kernel_rfl)) <| pkq (v) <| pkq (.int .i64 h) ?_
  refine pcq 9 #[.agg (p.cells), v, .int .i64 h] Tryd.func9 ((r23Noted_is p hp l v h n 0 _ (hl.keepsN K4) hn hrf).mono ?_)
  rintro e V6 ⟨rfl, kV6⟩
  refine ⟨_, rfl, ?_⟩
  have K8 := K4.nn kV6
  have z9 := kV6.size
  refine pkq (.tuple #[uN n, .int .i64 0]) <| pkq (uN n) <| pkq (.int .i64 0) <| pkq (uN n) <| pkq (.int .i64 0) <| eq_ <| qr_ [0, 1] <| pkq (.int .i64 0) <| pkq (.bool false) <| en_ <| s_ <| tq_ <| qr_ [0, 1, 2, 3, 4, 5] <| pkq (uN s) ?_
  refine ppq (.bool false) (dcf ((((s : Nat) : Int)) > ((4611686018427387904) : Int)) (by omega)) <| pkq (.bool false) <| pkq (uN t) <| ppq (.bool true) (dct ((((t : Nat) : Int)) > ((4611686018427387904) : Int)) (by omega)) <| pkq (.bool true) <| ey_ <| qr_ [0, 1] <| pkq (.int .u64 0) <| pkq (.int .i64 12) <| eu_ <| then_r <| so_ (.tuple #[.int .u64 0, .int .i64 12]) ?_
  exact ⟨by unfold nfrac; rw [hrf, if_neg (by decide), if_pos (.inr hq2)]; rfl, K8⟩
theorem r23Frac_zero (p : Par) (hp : p.Ok) (l : List Nt) (v : Value) (h : Int) (s t : Nat) (hs : s < 18446744073709551616) (ht : t < 18446744073709551616) (w : World) (hl : Sl w 2 Nt.cl v l) (n bs m f : Nat) (hn : (nnoted p l h).1 = n) (hrf : (nnoted p l h).2 = 0) (hn2 : n ≤ 4611686018427387904) (hbs : p.base = ((bs : Nat) : Int)) (hm : p.mult = ((m : Nat) : Int)) (hbl : bs ≤ 1000000000) (hml : m ≤ 1000) (hf : min 1000000000 (m * 1000000000 * (min (n + s) 4611686018427387904) / t) = f) (hq : ¬ 4611686018427387904 < s) (hq2 : t = 0) :
    Calls Tryd.prog 11 #[.agg p.cells, v, .int .i64 h, .int .u64 ((s : Nat) : Int), .int .u64 ((t : Nat) : Int)] w (fun e w' => e = .returned (.tuple #[.int .u64 (((nfrac p l h s t).1 : Nat) : Int), .int .i64 (nfrac p l h s t).2]) ∧ Keeps Nob w w') := by
  have K0 : Keeps Nob w w := Keeps.refl _ _
  refine sy_enter (qc75_3 1) ⟨#[.agg p.cells, v, .int .i64 h, uN s, uN t, ud, ud, ud, ud, ud, ud, ud, ud, ud, ud, ud, ud, ud, ud, ud, ud, ud, ud, ud, ud, ud, ud, ud, ud, ud, ud, ud, ud, ud, ud, ud, ud, ud, ud, ud, ud, ud, ud, ud, ud, ud, ud, ud, ud, ud, ud, ud, ud, ud, ud], []⟩ Tryd.func11 (by kernel_rfl) (by kernel_rfl) <| qr_ [0, 1, 2] <| pbx 24 p.cells (.agg p.cells) fun V1 gp egp h2 kV1 => ?_
  have n3 : w.heap.size ≤ gp := egp ▸ K0.size
  have K4 := K0.nn kV1
  have z5 := kV1.size
  refine pkq (.int .u64 0) <| pkq (.int .i64 0) <| eqr_ [0, 1, 2, 3, 4, 5, 6, 7, 8] <| ppq (.agg (p.cells)) (ldr 24 gp (h2) (by kernel_rfl)) <| pkq (v) <| pkq (.int .i64 h) ?_
  refine pcq 9 #[.agg (p.cells), v, .int .i64 h] Tryd.func9 ((r23Noted_is p hp l v h n 0 _ (hl.keepsN K4) hn hrf).mono ?_)
  rintro e V6 ⟨rfl, kV6⟩
  refine ⟨_, rfl, ?_⟩
  have h7 := kV6.bk h2
  have K8 := K4.nn kV6
  have z9 := kV6.size
  refine pkq (.tuple #[uN n, .int .i64 0]) <| pkq (uN n) <| pkq (.int .i64 0) <| pkq (uN n) <| pkq (.int .i64 0) <| eq_ <| qr_ [0, 1] <| pkq (.int .i64 0) <| pkq (.bool false) <| en_ <| s_ <| tq_ <| qr_ [0, 1, 2, 3, 4, 5] <| pkq (uN s) ?_
  refine ppq (.bool false) (dcf ((((s : Nat) : Int)) > ((4611686018427387904) : Int)) (by omega)) <| pkq (.bool false) <| pkq (uN t) <| ppq (.bool false) (dcf ((((t : Nat) : Int)) > ((4611686018427387904) : Int)) (by omega)) <| pkq (.bool false) <| en_ <| s_ <| tq_ <| qr_ [0, 1] <| pkq (uN t) <| ppq (.bool true) (eqt (((t : Nat) : Int)) ((0) : Int) (by omega)) <| ey_ <| qr_ [0, 1, 2, 3] <| pkq (pT gp 7) ?_
  refine ppq (uN bs) (exec_cast (congrArg (Value.int .u64) hbs) (ldc 22 gp 7 (rc (h7) (rfl)))) <| pkq (uN bs) <| pkq (.int .i64 0) <| ps_end <| sy_a ⟨#[.agg p.cells, v, .int .i64 h, uN s, uN t, pT gp 0, ud, ud, ud, ud, uN bs, .int .i64 0, uN n, .int .i64 0, ud, ud, ud, .tuple #[uN n, .int .i64 0], .agg (p.cells), v, .int .i64 h, .tuple #[uN n, .int .i64 0], uN n, .int .i64 0, .int .i64 0, .bool false, ud, uN s, .bool false, .bool false, uN t, .bool false, .bool false, uN t, .bool true, pT gp 7, uN bs, ud, ud, ud, ud, ud, ud, ud, ud, ud, ud, ud, ud, ud, ud, ud, ud, ud, ud], []⟩ <| then_n <| u_ <| then_r <| so_ (.tuple #[.int .u64 ((bs : Nat) : Int), .int .i64 0]) ?_
  exact ⟨by unfold nfrac; rw [hrf, if_neg (by decide), if_neg (by omega), if_pos hq2, hbs]; rfl, K8⟩
theorem r23Frac_ok (p : Par) (hp : p.Ok) (l : List Nt) (v : Value) (h : Int) (s t : Nat) (hs : s < 18446744073709551616) (ht : t < 18446744073709551616) (w : World) (hl : Sl w 2 Nt.cl v l) (n bs m f : Nat) (hn : (nnoted p l h).1 = n) (hrf : (nnoted p l h).2 = 0) (hn2 : n ≤ 4611686018427387904) (hbs : p.base = ((bs : Nat) : Int)) (hm : p.mult = ((m : Nat) : Int)) (hbl : bs ≤ 1000000000) (hml : m ≤ 1000) (hf : min 1000000000 (m * 1000000000 * (min (n + s) 4611686018427387904) / t) = f) (hq : ¬ 4611686018427387904 < s) (hq2 : ¬ 4611686018427387904 < t) (hq3 : ¬ t = 0) :
    Calls Tryd.prog 11 #[.agg p.cells, v, .int .i64 h, .int .u64 ((s : Nat) : Int), .int .u64 ((t : Nat) : Int)] w (fun e w' => e = .returned (.tuple #[.int .u64 (((nfrac p l h s t).1 : Nat) : Int), .int .i64 (nfrac p l h s t).2]) ∧ Keeps Nob w w') := by
  have hf2 : f ≤ 1000000000 := by rw [← hf]; exact Nat.min_le_left _ _
  have K0 : Keeps Nob w w := Keeps.refl _ _
  refine sy_enter (qc75_3 1) ⟨#[.agg p.cells, v, .int .i64 h, uN s, uN t, ud, ud, ud, ud, ud, ud, ud, ud, ud, ud, ud, ud, ud, ud, ud, ud, ud, ud, ud, ud, ud, ud, ud, ud, ud, ud, ud, ud, ud, ud, ud, ud, ud, ud, ud, ud, ud, ud, ud, ud, ud, ud, ud, ud, ud, ud, ud, ud, ud, ud], []⟩ Tryd.func11 (by kernel_rfl) (by kernel_rfl) <| qr_ [0, 1, 2] <| pbx 24 p.cells (.agg p.cells) fun V1 gp egp h2 kV1 => ?_
  have n3 : w.heap.size ≤ gp := egp ▸ K0.size
  have K4 := K0.nn kV1
  have z5 := kV1.size
  refine pkq (.int .u64 0) <| pkq (.int .i64 0) <| eqr_ [0, 1, 2, 3, 4, 5, 6, 7, 8] <| ppq (.agg (p.cells)) (ldr 24 gp (h2) (by kernel_rfl)) <| pkq (v) <| pkq (.int .i64 h) ?_
  refine pcq 9 #[.agg (p.cells), v, .int .i64 h] Tryd.func9 ((r23Noted_is p hp l v h n 0 _ (hl.keepsN K4) hn hrf).mono ?_)
  rintro e V6 ⟨rfl, kV6⟩
  refine ⟨_, rfl, ?_⟩
  have h7 := kV6.bk h2
  have K8 := K4.nn kV6
  have z9 := kV6.size
  refine pkq (.tuple #[uN n, .int .i64 0]) <| pkq (uN n) <| pkq (.int .i64 0) <| pkq (uN n) <| pkq (.int .i64 0) <| eq_ <| qr_ [0, 1] <| pkq (.int .i64 0) <| pkq (.bool false) <| en_ <| s_ <| tq_ <| qr_ [0, 1, 2, 3, 4, 5] <| pkq (uN s) ?_
  refine ppq (.bool false) (dcf ((((s : Nat) : Int)) > ((4611686018427387904) : Int)) (by omega)) <| pkq (.bool false) <| pkq (uN t) <| ppq (.bool false) (dcf ((((t : Nat) : Int)) > ((4611686018427387904) : Int)) (by omega)) <| pkq (.bool false) <| en_ <| s_ <| tq_ <| qr_ [0, 1] <| pkq (uN t) <| ppq (.bool false) (eqf (((t : Nat) : Int)) ((0) : Int) (by omega)) <| en_ <| s_ <| tqr_ [0, 1, 2, 3, 4] ?_
  refine pkq (uN n) <| pkq (uN s) <| ppq (uN (n + s)) (exec_cast (congrArg (Value.int .u64) (wrapU (n + s) (by omega))) (by kernel_rfl)) <| ppq (uN (min (n + s) 4611686018427387904)) (exec_cast (congrArg (Value.int .u64) (nat_min (n + s) 4611686018427387904)) (nexec_min (.tmp 39) (.const (.int .u64 4611686018427387904)) #[22, 22] (by kernel_rfl) .u64 ((n + s : Nat) : Int) 4611686018427387904 (by kernel_rfl) (by kernel_rfl))) <| pkq (uN (min (n + s) 4611686018427387904)) <| ps_end <| sy_a ⟨#[.agg p.cells, v, .int .i64 h, uN s, uN t, pT gp 0, ud, ud, ud, ud, .int .u64 0, .int .i64 0, uN n, .int .i64 0, uN (min (n + s) 4611686018427387904), ud, ud, .tuple #[uN n, .int .i64 0], .agg (p.cells), v, .int .i64 h, .tuple #[uN n, .int .i64 0], uN n, .int .i64 0, .int .i64 0, .bool false, ud, uN s, .bool false, .bool false, uN t, .bool false, .bool false, uN t, .bool false, ud, ud, uN n, uN s, uN (n + s), uN (min (n + s) 4611686018427387904), ud, ud, ud, ud, ud, ud, ud, ud, ud, ud, ud, ud, ud, ud], []⟩ <| tqr_ [0, 1, 2, 3, 4, 5, 6, 7, 8, 9, 10] <| pkq (pT gp 8) <| ppq (uN m) (exec_cast (congrArg (Value.int .u64) hm) (ldc 22 gp 8 (rc (h7) (rfl)))) <| ppq (uN (m * 1000000000)) (exec_cast (congrArg (Value.int .u64) (wrapU (m * 1000000000) (by omega))) (by kernel_rfl)) <| pkq (uN (min (n + s) 4611686018427387904)) <| pkq (uN t) ?_
  refine pcq 26 #[.int .u64 1000000000, uN (m * 1000000000), uN (min (n + s) 4611686018427387904), uN t] Tryd.func26 ((rcapped_is hf (r01Capped_ok 1000000000 (m * 1000000000) (min (n + s) 4611686018427387904) t (by decide) (by omega) (by omega) (by omega) (by omega) _)).mono ?_)
  rintro e V10 ⟨rfl, kV10⟩
  refine ⟨_, rfl, ?_⟩
  have h11 := kV10.bk h7
  have K12 := K8.nn kV10
  have z13 := kV10.size
  refine pkq (.tuple #[uN f, .int .i64 0]) <| pkq (uN f) <| pkq (.int .i64 0) <| pkq (uN f) <| pkq (.int .i64 0) <| eqr_ [0, 1, 2, 3, 4, 5, 6] <| pkq (uN f) <| pkq (pT gp 7) <| ppq (uN bs) (exec_cast (congrArg (Value.int .u64) hbs) (ldc 22 gp 7 (rc (h11) (rfl)))) <| ppq (uN (f + bs)) (exec_cast (congrArg (Value.int .u64) (wrapU (f + bs) (by omega))) (by kernel_rfl)) <| ppq (uN (min (f + bs) 1000000000)) (exec_cast (congrArg (Value.int .u64) (nat_min (f + bs) 1000000000)) (nexec_min (.tmp 53) (.const (.int .u64 1000000000)) #[22, 22] (by kernel_rfl) .u64 ((f + bs : Nat) : Int) 1000000000 (by kernel_rfl) (by kernel_rfl))) <| pkq (uN (min (f + bs) 1000000000)) <| pkq (.int .i64 0) <| eu_ ?_
  refine so_ (.tuple #[.int .u64 ((min (f + bs) 1000000000 : Nat) : Int), .int .i64 0]) ?_
  exact ⟨by unfold nfrac ncap; rw [hrf, if_neg (by decide), if_neg (by omega), if_neg hq3, hbs, hm, hn, Int.toNat_natCast, Int.toNat_natCast, hf], K12⟩
theorem r23Frac_is (p : Par) (hp : p.Ok) (l : List Nt) (v : Value) (h : Int) (s t : Nat) (hs : s < 18446744073709551616) (ht : t < 18446744073709551616) (n : Nat) (er : Int) (w : World) (hl : Sl w 2 Nt.cl v l) (hx : nfrac p l h s t = (n, er)) : Calls Tryd.prog 11 #[.agg p.cells, v, .int .i64 h, .int .u64 ((s : Nat) : Int), .int .u64 ((t : Nat) : Int)] w (fun e w' => e = .returned (.tuple #[.int .u64 ((n : Nat) : Int), .int .i64 er]) ∧ Keeps Nob w w') := by
  have h1 := congrArg Prod.fst hx
  have h2 := congrArg Prod.snd hx
  simp only at h1 h2
  rw [← h1, ← h2]
  by_cases hrf : (nnoted p l h).2 = 0
  · obtain ⟨⟨b1, b2⟩, m1, m2⟩ := par_more (noted_par hrf)
    have hb : p.base = ((p.base.toNat : Nat) : Int) := by omega
    have hm : p.mult = ((p.mult.toNat : Nat) : Int) := by omega
    by_cases hq : 4611686018427387904 < s
    · exact r23Frac_over1 p hp l v h s t hs ht w hl _ _ _ _ rfl hrf (noted_le p l h) hb hm (by omega) (by omega) rfl hq
    · by_cases hq2 : 4611686018427387904 < t
      · exact r23Frac_over2 p hp l v h s t hs ht w hl _ _ _ _ rfl hrf (noted_le p l h) hb hm (by omega) (by omega) rfl hq hq2
      · by_cases hq3 : t = 0
        · exact r23Frac_zero p hp l v h s t hs ht w hl _ _ _ _ rfl hrf (noted_le p l h) hb hm (by omega) (by omega) rfl hq hq3
        · exact r23Frac_ok p hp l v h s t hs ht w hl _ _ _ _ rfl hrf (noted_le p l h) hb hm (by omega) (by omega) rfl hq hq2 hq3
  · exact r23Frac_err p hp l v h s t hs ht w hl _ _ rfl rfl hrf
end Go.Proofs.YtghohakbepeffaaDoor
namespace Go.Proofs.YtghohakbepeffaaDoor
set_option maxRecDepth 100000
set_option maxHeartbeats 4000000
open Go Go.RowKit Go.Own Go.Shelf
noncomputable def qc76_0 (n : Nat) : Code := partOf Tryd.f16 n
theorem lntold_ok (va vb : Value) (l : List Nt) (er : Int) (w : World) (hmax : l.length ≤ 1000000) (hr : Row w 27 2 va l.length (l.flatMap Nt.cl)) (hb : Sl w 2 Nt.cl vb l) :
    Calls Tryd.prog 16 #[va, vb, .int .i64 er, .int .i64 er] w (fun e w' => e = .returned (.bool true) ∧ Keeps (fun j => va.ownBlock = some j) w w') := by
  have K0 : Keeps ((fun j => va.ownBlock = some j)) w w := Keeps.refl _ _
  refine sy_enter (qc76_0 1) ⟨#[va, vb, .int .i64 er, .int .i64 er, ud, ud, ud, ud, ud, ud, ud, ud, ud, ud, ud, ud, ud, ud, ud, ud, ud], []⟩ Tryd.func16 (by kernel_rfl) (by kernel_rfl) <| qr_ [0] <| pkq (.bool false) <| eqr_ [0, 1, 2, 3, 4, 5, 6, 7, 8] <| pkq (va) <| pkq (vb) ?_
  refine pcq 17 #[va, vb] Tryd.func17 ((kSameNotes_is true _ (row_nts hr) hb (decide_eq_true rfl)).mono ?_)
  rintro e V1 ⟨rfl, kV1⟩
  refine ⟨_, rfl, ?_⟩
  have h2 : Row V1 27 2 va l.length (l.flatMap Nt.cl) := hr.keeps kV1 (fun _ _ x => x)
  have K4 := K0.nn kV1
  have z5 := kV1.size
  refine pkq (.bool true) <| pkq (.int .i64 er) <| pkq (.int .i64 er) <| ppq (.bool true) (eqt ((er) : Int) ((er) : Int) (by omega)) <| pkq (.bool true) <| pkq (.bool true) <| eqr_ [0, 1] <| pkq (va) ?_
  refine pcq 34 #[va] Tryd.func34 ((kOverNotes_ok va _ _ _ h2 hmax).mono ?_)
  rintro e V6 ⟨rfl, kV6⟩
  refine ⟨_, rfl, ?_⟩
  have K7 : Keeps ((fun j => va.ownBlock = some j)) w V6 := K4.then kV6 (fun i hi hm => hm)
  have z8 := kV6.size
  refine eqr_ [0, 1] <| pkq (.bool true) <| pkq (.bool true) <| eu_ <| so_ (.bool true) ?_
  exact ⟨rfl, K7⟩
end Go.Proofs.YtghohakbepeffaaDoor
