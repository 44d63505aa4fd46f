/-
  Numbers as bytes, in plain law: what the bytes of a number are, what number bytes begin with, and that the two fit. Conditions: none.
-/
namespace Go.Own.Cod

/-- The bytes of a number (at most so many). -/
def encF : Nat → Nat → List UInt8
  | 0, _ => []
  | f + 1, n => if n < 128 then [UInt8.ofNat n] else UInt8.ofNat (n % 128 + 128) :: encF f (n / 128)
def enc (n : Nat) : List UInt8 := encF 10 n

/-- Which number bytes begin with, its length, an error (0: none): from the byte at place i on, n having come so far. -/
def numF : List UInt8 → Nat → Nat → Nat × Nat × Int
  | [], _, _ => (0, 0, 6)
  | c :: r, i, n => if (i = 9 ∧ 1 < c.toNat) ∨ (0 < i ∧ c.toNat = 0) then (0, 0, 5) else if c.toNat < 128 then (n + c.toNat % 128 * 128 ^ i, i + 1, 0) else numF r (i + 1) (n + c.toNat % 128 * 128 ^ i)
def num (l : List UInt8) : Nat × Nat × Int := numF l 0 0

theorem toNat_ofNat (n : Nat) (h : n < 256) : (UInt8.ofNat n).toNat = n := by simp; omega

theorem encF_more (f n : Nat) (h : 128 ≤ n) : encF (f + 1) n = UInt8.ofNat (n % 128 + 128) :: encF f (n / 128) := by
  rw [encF, if_neg (by omega)]
theorem encF_last (f n : Nat) (h : n < 128) : encF (f + 1) n = [UInt8.ofNat n] := by
  rw [encF, if_pos h]

theorem pow7 (k : Nat) : 2 ^ (7 * (k + 1)) = 2 ^ (7 * k) * 128 := by rw [Nat.mul_add, Nat.pow_add]
theorem small_step (k m : Nat) (hk : k ≤ 9) (h : m < 2 ^ (64 - 7 * k)) (hm : 128 ≤ m) : k < 9 ∧ m / 128 < 2 ^ (64 - 7 * (k + 1)) := by
  have hk9 : k < 9 := by
    rcases Nat.lt_or_ge k 9 with h9 | h9
    · exact h9
    · obtain rfl : k = 9 := by omega
      simp at h; omega
  refine ⟨hk9, ?_⟩
  apply Nat.div_lt_of_lt_mul
  have : 64 - 7 * k = (64 - 7 * (k + 1)) + 7 := by omega
  rw [this, Nat.pow_add] at h
  omega

theorem encF_pos (f n : Nat) : 0 < (encF (f + 1) n).length := by
  rw [encF]; split <;> simp
theorem encF_length (f n : Nat) : (encF f n).length ≤ f := by
  induction f generalizing n with
  | zero => simp [encF]
  | succ f ih =>
    rw [encF]; split
    · simp
    · simp; exact ih _
theorem enc_pos (n : Nat) : 0 < (enc n).length := encF_pos _ _
theorem enc_length (n : Nat) : (enc n).length ≤ 10 := encF_length _ _

/-- Greater numbers never have fewer bytes. -/
theorem encF_mono (f : Nat) : ∀ n m : Nat, n ≤ m → (encF f n).length ≤ (encF f m).length := by
  induction f with
  | zero => intro n m _; simp [encF]
  | succ f ih =>
    intro n m h
    by_cases hm : m < 128
    · rw [encF_last f n (by omega), encF_last f m hm]; simp
    · by_cases hn : n < 128
      · rw [encF_last f n hn]; exact encF_pos f m
      · rw [encF_more f n (by omega), encF_more f m (by omega)]
        simp only [List.length_cons]
        have := ih (n / 128) (m / 128) (Nat.div_le_div_right h)
        omega
theorem enc_mono (n m : Nat) (h : n ≤ m) : (enc n).length ≤ (enc m).length := encF_mono 10 n m h

/-- What a number's bytes are read as. -/
theorem numF_enc (f : Nat) : ∀ (i n m : Nat) (r : List UInt8), f + i = 10 → i ≤ 9 → m < 2 ^ (64 - 7 * i) → (0 < i → 0 < m) → numF (encF f m ++ r) i n = (n + m * 128 ^ i, i + (encF f m).length, 0) := by
  induction f with
  | zero => intro i n m r h hi; omega
  | succ f ih =>
    intro i n m r h hi hm h0
    by_cases hlt : m < 128
    · rw [encF_last f m hlt]
      simp only [List.singleton_append, numF, toNat_ofNat m (by omega), List.length_singleton]
      have h9 : ¬ ((i = 9 ∧ 1 < m) ∨ (0 < i ∧ m = 0)) := by
        rintro (⟨rfl, h1⟩ | ⟨h1, h2⟩)
        · simp at hm; omega
        · have := h0 h1; omega
      rw [if_neg h9, if_pos hlt, Nat.mod_eq_of_lt hlt]
    · obtain ⟨hi9, hs⟩ := small_step i m hi hm (by omega)
      rw [encF_more f m (by omega)]
      have hc := toNat_ofNat (m % 128 + 128) (by omega)
      simp only [List.cons_append, numF, hc, List.length_cons]
      rw [if_neg (by omega), if_neg (by omega), ih (i + 1) _ (m / 128) r (by omega) (by omega) hs (by omega)]
      have e1 : (m % 128 + 128) % 128 = m % 128 := by omega
      rw [e1]
      have e2 : n + m % 128 * 128 ^ i + m / 128 * 128 ^ (i + 1) = n + m * 128 ^ i := by
        rw [Nat.pow_succ, Nat.mul_comm (128 ^ i) 128, ← Nat.mul_assoc]
        rw [Nat.add_assoc, ← Nat.add_mul]
        congr 2; omega
      rw [e2]
      simp only [Prod.mk.injEq, and_true, true_and]
      omega
theorem num_enc (n : Nat) (r : List UInt8) (h : n < 2 ^ 64) : num (enc n ++ r) = (n, (enc n).length, 0) := by
  have := numF_enc 10 0 0 n r (by omega) (by omega) (by simpa using h) (fun h => absurd h (by omega))
  simpa [num, enc] using this

/-- Bytes that are cut off in the midst are too short. -/
theorem numF_cut (f : Nat) : ∀ (i n m k : Nat), f + i = 10 → i ≤ 9 → m < 2 ^ (64 - 7 * i) → (0 < i → 0 < m) → k < (encF f m).length → numF ((encF f m).take k) i n = (0, 0, 6) := by
  induction f with
  | zero => intro i n m k h hi; omega
  | succ f ih =>
    intro i n m k h hi hm h0 hk
    match k with
    | 0 => simp [numF]
    | k + 1 =>
      by_cases hlt : m < 128
      · rw [encF_last f m hlt] at hk; simp at hk
      · obtain ⟨hi9, hs⟩ := small_step i m hi hm (by omega)
        rw [encF_more f m (by omega)] at hk ⊢
        have hc := toNat_ofNat (m % 128 + 128) (by omega)
        simp only [List.take_succ_cons, numF, hc]
        rw [if_neg (by omega), if_neg (by omega)]
        exact ih (i + 1) _ (m / 128) k (by omega) (by omega) hs (by omega) (by simpa using hk)
theorem num_cut (n k : Nat) (h : n < 2 ^ 64) (hk : k < (enc n).length) : num ((enc n).take k) = (0, 0, 6) :=
  numF_cut 10 0 0 n k (by omega) (by omega) (by simpa using h) (fun h => absurd h (by omega)) hk

/-- What is read as a number has just that number's bytes. -/
theorem numF_one (f : Nat) : ∀ (l : List UInt8) (i n x k : Nat), f + i = 10 → i ≤ 9 → numF l i n = (x, k, 0) → ∃ m, m < 2 ^ (64 - 7 * i) ∧ (0 < i → 0 < m) ∧ x = n + m * 128 ^ i ∧ k = i + (encF f m).length ∧ ∃ r, l = encF f m ++ r := by
  induction f with
  | zero => intro l i n x k h hi; omega
  | succ f ih =>
    intro l i n x k h hi hn
    match l with
    | [] => simp [numF] at hn
    | c :: r =>
      have hcl : c.toNat < 256 := c.toNat_lt
      rw [numF] at hn
      split at hn
      · simp at hn
      · rename_i h1
        split at hn
        · rename_i h2
          simp only [Prod.mk.injEq, and_true] at hn
          refine ⟨c.toNat, ?_, fun hp => by omega, ?_, ?_, r, ?_⟩
          · rcases Nat.lt_or_ge i 9 with h9 | h9
            · have : 2 ^ 7 ≤ 2 ^ (64 - 7 * i) := Nat.pow_le_pow_right (by omega) (by omega)
              omega
            · obtain rfl : i = 9 := by omega
              simp; omega
          · rw [Nat.mod_eq_of_lt h2] at hn; exact hn.1.symm
          · rw [encF_last f _ h2]; simp; omega
          · rw [encF_last f _ h2]; simp
        · rename_i h2
          have hi9 : i < 9 := by omega
          obtain ⟨m, hm, hp, hx, hk, r', hr⟩ := ih r (i + 1) _ x k (by omega) (by omega) hn
          have hp := hp (by omega)
          refine ⟨c.toNat % 128 + m * 128, ?_, fun _ => by omega, ?_, ?_, r', ?_⟩
          · have e : 64 - 7 * i = (64 - 7 * (i + 1)) + 7 := by omega
            rw [e, Nat.pow_add]
            have : m + 1 ≤ 2 ^ (64 - 7 * (i + 1)) := hm
            have := Nat.mul_le_mul_right (2 ^ 7) this
            omega
          · rw [hx, Nat.pow_succ, Nat.mul_comm (128 ^ i) 128, ← Nat.mul_assoc, Nat.add_assoc, ← Nat.add_mul]
          · rw [encF_more f _ (by omega), hk, show (c.toNat % 128 + m * 128) / 128 = m by omega]; simp; omega
          · rw [encF_more f _ (by omega), show (c.toNat % 128 + m * 128) / 128 = m by omega, hr]
            simp only [List.cons_append, List.cons.injEq, and_true]
            apply UInt8.toNat_inj.1
            rw [toNat_ofNat _ (by omega)]; omega
theorem num_one (l : List UInt8) (x k : Nat) (h : num l = (x, k, 0)) : x < 2 ^ 64 ∧ k = (enc x).length ∧ ∃ r, l = enc x ++ r := by
  obtain ⟨m, hm, _, hx, hk, r, hr⟩ := numF_one 10 l 0 0 x k (by omega) (by omega) h
  simp only [Nat.pow_zero, Nat.mul_one, Nat.zero_add] at hx hk
  subst hx
  exact ⟨by simpa using hm, hk, r, hr⟩

/-- Only three things are told of a number. -/
theorem numF_err (l : List UInt8) : ∀ i n : Nat, (numF l i n).2.2 = 0 ∨ numF l i n = (0, 0, 5) ∨ numF l i n = (0, 0, 6) := by
  induction l with
  | nil => intro i n; right; right; rfl
  | cons c r ih =>
    intro i n
    rw [numF]
    split
    · right; left; rfl
    · split
      · left; rfl
      · exact ih _ _
theorem num_err (l : List UInt8) : (num l).2.2 = 0 ∨ num l = (0, 0, 5) ∨ num l = (0, 0, 6) := numF_err l 0 0
theorem num_ok (l : List UInt8) (h : (num l).2.2 = 0) : (num l).1 < 2 ^ 64 ∧ 0 < (num l).2.1 ∧ (num l).2.1 ≤ l.length ∧ (num l).2.1 ≤ 10 ∧ l.take (num l).2.1 = enc (num l).1 := by
  obtain ⟨h1, h2, r, h3⟩ := num_one l (num l).1 (num l).2.1 (by rw [← h])
  generalize (num l).1 = x at *
  generalize (num l).2.1 = k at *
  have h4 := enc_pos x
  have h5 := enc_length x
  subst h2
  subst h3
  exact ⟨h1, by omega, by simp, by omega, by simp⟩
end Go.Own.Cod
