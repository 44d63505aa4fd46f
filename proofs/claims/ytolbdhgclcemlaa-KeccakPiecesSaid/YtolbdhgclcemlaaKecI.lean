/-
  A permutation makes unlike states of unlike ones. Conditions: none.
-/
import Derived.Test.YtolbdhgclcemlaaKecA
namespace Go.Kec
theorem rot_bit {w : Nat} (h : w < W) (n z : Nat) (hn : n < 64) (hz : z < 64) : (rot w n).testBit z = w.testBit ((z + (64 - n)) % 64) := by
  unfold rot
  rw [W_eq, Nat.testBit_or, Nat.testBit_mod_two_pow, Nat.testBit_shiftLeft, Nat.testBit_shiftRight]
  by_cases hc : n ≤ z
  · have e1 : (z + (64 - n)) % 64 = z - n := by omega
    have e2 : w.testBit (64 - n + z) = false := Nat.testBit_lt_two_pow (Nat.lt_of_lt_of_le (by rwa [W_eq] at h) (Nat.pow_le_pow_right (by decide) (by omega)))
    rw [e1, e2]
    simp [hz, hc]
  · have e1 : (z + (64 - n)) % 64 = 64 - n + z := by omega
    rw [e1]
    simp [hc]
theorem ext_word {a b : Nat} (ha : a < W) (hb : b < W) (h : ∀ z, z < 64 → a.testBit z = b.testBit z) : a = b := by
  apply Nat.eq_of_testBit_eq
  intro z
  by_cases hz : z < 64
  · exact h z hz
  · rw [W_eq] at ha hb
    rw [Nat.testBit_lt_two_pow (Nat.lt_of_lt_of_le ha (Nat.pow_le_pow_right (by decide) (by omega))), Nat.testBit_lt_two_pow (Nat.lt_of_lt_of_le hb (Nat.pow_le_pow_right (by decide) (by omega)))]
theorem ext_state {s t : List Nat} (hs : s.length = 25) (ht : t.length = 25) (h : ∀ i, i < 25 → g s i = g t i) : s = t := by
  apply List.ext_getElem (by omega)
  intro i h1 h2
  have := h i (by omega)
  unfold g at this
  rw [List.getD_eq_getElem?_getD, List.getD_eq_getElem?_getD, List.getElem?_eq_getElem h1, List.getElem?_eq_getElem h2] at this
  exact this
theorem rot_inj {a b : Nat} (ha : a < W) (hb : b < W) (n : Nat) (hn : n < 64) (h : rot a n = rot b n) : a = b := by
  refine ext_word ha hb fun z hz => ?_
  have e : ((z + n) % 64 + (64 - n)) % 64 = z := by omega
  have h1 := rot_bit ha n ((z + n) % 64) hn (by omega)
  have h2 := rot_bit hb n ((z + n) % 64) hn (by omega)
  rw [e] at h1 h2
  rw [← h1, ← h2, h]
theorem src_onto : ∀ i, i < 25 → ∃ j, j < 25 ∧ src j = i := by decide
theorem R_lt : ∀ i, i < 25 → g R i < 64 := by decide
theorem src_lt : ∀ j, j < 25 → src j < 25 := by decide
theorem moves_inj {s t : List Nat} (hs : s.length = 25) (ht : t.length = 25) (ws : Ws s) (wt : Ws t) (h : moves s = moves t) : s = t := by
  refine ext_state hs ht fun i hi => ?_
  obtain ⟨j, hj, rfl⟩ := src_onto i hi
  have e := congrArg (fun l => g l j) h
  simp only [moves, g_map _ _ hj] at e
  exact rot_inj (ws _) (wt _) _ (R_lt _ (src_lt j hj)) e
theorem iota_inj {s t : List Nat} (hs : s.length = 25) (ht : t.length = 25) (k : Nat) (h : iota k s = iota k t) : s = t := by
  refine ext_state hs ht fun i _ => ?_
  have e := congrArg (fun l => g l i) h
  simp only [iota, g_set _ _ _ _ (by omega : 0 < s.length), g_set _ _ _ _ (by omega : 0 < t.length)] at e
  split at e
  · subst_vars
    have e2 := congrArg (fun n => n ^^^ k) e
    simpa [Nat.xor_assoc] using e2
  · exact e
theorem not_bit {a : Nat} (h : a < W) (z : Nat) (hz : z < 64) : (W - 1 - a).testBit z = !a.testBit z := by
  have := Nat.testBit_two_pow_sub_succ (n := 64) (x := a) (by rwa [W_eq] at h) z
  rw [W_eq, show 2 ^ 64 - 1 - a = 2 ^ 64 - (a + 1) by omega, this]
  simp [hz]
theorem mixes_bit {s : List Nat} (ws : Ws s) (i : Nat) (hi : i < 25) (z : Nat) (hz : z < 64) :
    (g (mixes s) i).testBit z = ((g s i).testBit z ^^ (!(g s (at_ (i % 5 + 1) (i / 5))).testBit z && (g s (at_ (i % 5 + 2) (i / 5))).testBit z)) := by
  unfold mixes
  rw [g_map _ _ hi, Nat.testBit_xor, Nat.testBit_and, not_bit (ws _) z hz]
theorem chi_row (a0 a1 a2 a3 a4 b0 b1 b2 b3 b4 : Bool) (h0 : (a0 ^^ (!a1 && a2)) = (b0 ^^ (!b1 && b2))) (h1 : (a1 ^^ (!a2 && a3)) = (b1 ^^ (!b2 && b3))) (h2 : (a2 ^^ (!a3 && a4)) = (b2 ^^ (!b3 && b4)))
    (h3 : (a3 ^^ (!a4 && a0)) = (b3 ^^ (!b4 && b0))) (h4 : (a4 ^^ (!a0 && a1)) = (b4 ^^ (!b0 && b1))) : a0 = b0 ∧ a1 = b1 ∧ a2 = b2 ∧ a3 = b3 ∧ a4 = b4 := by
  revert h0 h1 h2 h3 h4
  cases a0 <;> cases a1 <;> cases a2 <;> cases a3 <;> cases a4 <;> cases b0 <;> cases b1 <;> cases b2 <;> cases b3 <;> cases b4 <;> decide
theorem mixes_inj {s t : List Nat} (hs : s.length = 25) (ht : t.length = 25) (ws : Ws s) (wt : Ws t) (h : mixes s = mixes t) : s = t := by
  have row : ∀ y, y < 5 → ∀ z, z < 64 → ∀ x, x < 5 → (g s (x + 5 * y)).testBit z = (g t (x + 5 * y)).testBit z := by
    intro y hy z hz
    have e : ∀ x, x < 5 → ((g s (x + 5 * y)).testBit z ^^ (!(g s ((x + 1) % 5 + 5 * y)).testBit z && (g s ((x + 2) % 5 + 5 * y)).testBit z)) = ((g t (x + 5 * y)).testBit z ^^ (!(g t ((x + 1) % 5 + 5 * y)).testBit z && (g t ((x + 2) % 5 + 5 * y)).testBit z)) := by
      intro x hx
      have e1 := mixes_bit ws (x + 5 * y) (by omega) z hz
      have e2 := mixes_bit wt (x + 5 * y) (by omega) z hz
      rw [h, e2] at e1
      have a1 : (x + 5 * y) % 5 = x := by omega
      have a2 : (x + 5 * y) / 5 = y := by omega
      simp only [a1, a2, at_, Nat.mod_eq_of_lt hy] at e1
      exact e1.symm
    have := chi_row _ _ _ _ _ _ _ _ _ _ (e 0 (by omega)) (e 1 (by omega)) (e 2 (by omega)) (e 3 (by omega)) (e 4 (by omega))
    obtain ⟨h0, h1, h2, h3, h4⟩ := this
    intro x hx
    match x, hx with
    | 0, _ => exact h0
    | 1, _ => exact h1
    | 2, _ => exact h2
    | 3, _ => exact h3
    | 4, _ => exact h4
  refine ext_state hs ht fun i hi => ext_word (ws _) (wt _) fun z hz => ?_
  have := row (i / 5) (by omega) z hz (i % 5) (by omega)
  rwa [show i % 5 + 5 * (i / 5) = i by omega] at this

/-! The first part: the parities of columns. -/
theorem double {e : Nat → Nat → Bool} {a b c : Nat} (h : ∀ x z, e x z = (e (x + a) z ^^ e (x + b) (z + c))) : ∀ x z, e x z = (e (x + 2 * a) z ^^ e (x + 2 * b) (z + 2 * c)) := by
  intro x z
  rw [h x z, h (x + a) z, h (x + b) (z + c)]
  rw [show x + a + a = x + 2 * a by omega, show x + b + b = x + 2 * b by omega, show z + c + c = z + 2 * c by omega, show x + b + a = x + a + b by omega]
  cases e (x + 2 * a) z <;> cases e (x + a + b) (z + c) <;> cases e (x + 2 * b) (z + 2 * c) <;> rfl
theorem parity_zero {e : Nat → Nat → Bool} (h5 : ∀ x z, e (x + 5) z = e x z) (h64 : ∀ x z, e x (z + 64) = e x z) (h : ∀ x z, e x z = (e (x + 4) z ^^ e (x + 1) (z + 63))) : ∀ x z, e x z = false := by
  have p5 : ∀ k x z, e (x + 5 * k) z = e x z := by
    intro k; induction k with
    | zero => intro x z; rfl
    | succ k ih => intro x z; rw [show x + 5 * (k + 1) = (x + 5 * k) + 5 by omega, h5, ih]
  have p64 : ∀ k x z, e x (z + 64 * k) = e x z := by
    intro k; induction k with
    | zero => intro x z; rfl
    | succ k ih => intro x z; rw [show z + 64 * (k + 1) = (z + 64 * k) + 64 by omega, h64, ih]
  have hd := double (double (double (double (double (double h)))))
  have h1 : ∀ x z, e x z = (e (x + 1) z ^^ e (x + 4) z) := by
    intro x z
    have := hd x z
    rw [show x + 2 * (2 * (2 * (2 * (2 * (2 * 4))))) = (x + 1) + 5 * 51 by omega, show x + 2 * (2 * (2 * (2 * (2 * (2 * 1))))) = (x + 4) + 5 * 12 by omega, show z + 2 * (2 * (2 * (2 * (2 * (2 * 63))))) = z + 64 * 63 by omega, p5, p5, p64] at this
    exact this
  intro x z
  have e0 := h1 x z
  have e1 := h1 (x + 1) z
  have e2 := h1 (x + 2) z
  have e3 := h1 (x + 3) z
  have e4 := h1 (x + 4) z
  rw [show x + 1 + 1 = x + 2 by omega, show x + 1 + 4 = x + 5 by omega, h5] at e1
  rw [show x + 2 + 1 = x + 3 by omega, show x + 2 + 4 = x + 1 + 5 by omega, h5] at e2
  rw [show x + 3 + 1 = x + 4 by omega, show x + 3 + 4 = x + 2 + 5 by omega, h5] at e3
  rw [show x + 4 + 1 = x + 5 by omega, show x + 4 + 4 = x + 3 + 5 by omega, h5, h5] at e4
  revert e0 e1 e2 e3 e4
  cases e x z <;> cases e (x + 1) z <;> cases e (x + 2) z <;> cases e (x + 3) z <;> cases e (x + 4) z <;> decide

/-- The parity of a column at a bit, at any two numbers. -/
def par (s : List Nat) (x z : Nat) : Bool := (col s (x % 5)).testBit (z % 64)
theorem col_bit (s : List Nat) (x z : Nat) : (col s x).testBit z = (((((g s x).testBit z ^^ (g s (x + 5)).testBit z) ^^ (g s (x + 10)).testBit z) ^^ (g s (x + 15)).testBit z) ^^ (g s (x + 20)).testBit z) := by
  simp [col, Nat.testBit_xor]
theorem dd_bit {s : List Nat} (ws : Ws s) (x z : Nat) (hz : z < 64) : (dd s x).testBit z = (par s (x + 4) z ^^ par s (x + 1) (z + 63)) := by
  unfold dd par
  rw [Nat.testBit_xor, rot_bit (col_lt ws _) 1 z (by decide) hz, Nat.mod_eq_of_lt hz]
theorem columns_bit {s : List Nat} (ws : Ws s) (i z : Nat) (hi : i < 25) (hz : z < 64) : (g (columns s) i).testBit z = ((g s i).testBit z ^^ (par s (i % 5 + 4) z ^^ par s (i % 5 + 1) (z + 63))) := by
  unfold columns
  rw [g_map _ _ hi, Nat.testBit_xor, dd_bit ws _ _ hz]
theorem par_columns {s : List Nat} (ws : Ws s) (x z : Nat) : par (columns s) x z = (par s x z ^^ (par s (x + 4) z ^^ par s (x + 1) (z + 63))) := by
  have hx : x % 5 < 5 := Nat.mod_lt _ (by decide)
  have hz : z % 64 < 64 := Nat.mod_lt _ (by decide)
  have c : ∀ k, k < 5 → (g (columns s) (x % 5 + 5 * k)).testBit (z % 64) = ((g s (x % 5 + 5 * k)).testBit (z % 64) ^^ (par s (x + 4) z ^^ par s (x + 1) (z + 63))) := by
    intro k hk
    rw [columns_bit ws _ _ (by omega) hz]
    have a1 : (x % 5 + 5 * k) % 5 = x % 5 := by omega
    rw [a1]
    unfold par
    rw [show (x % 5 + 4) % 5 = (x + 4) % 5 by omega, show (x % 5 + 1) % 5 = (x + 1) % 5 by omega, show (z % 64 + 63) % 64 = (z + 63) % 64 by omega, Nat.mod_mod]
  unfold par at *
  have c0 := c 0 (by omega)
  have c1 := c 1 (by omega)
  have c2 := c 2 (by omega)
  have c3 := c 3 (by omega)
  have c4 := c 4 (by omega)
  simp only [Nat.mul_zero, Nat.add_zero, Nat.mul_one, show 5 * 2 = 10 from rfl, show 5 * 3 = 15 from rfl, show 5 * 4 = 20 from rfl] at c0 c1 c2 c3 c4
  rw [col_bit, col_bit, c0, c1, c2, c3, c4]
  generalize (col s ((x + 4) % 5)).testBit (z % 64) = u
  generalize (col s ((x + 1) % 5)).testBit ((z + 63) % 64) = v
  cases (g s (x % 5)).testBit (z % 64) <;> cases (g s (x % 5 + 5)).testBit (z % 64) <;> cases (g s (x % 5 + 10)).testBit (z % 64) <;> cases (g s (x % 5 + 15)).testBit (z % 64) <;> cases (g s (x % 5 + 20)).testBit (z % 64) <;> cases u <;> cases v <;> rfl
theorem columns_inj {s t : List Nat} (hs : s.length = 25) (ht : t.length = 25) (ws : Ws s) (wt : Ws t) (h : columns s = columns t) : s = t := by
  have hp : ∀ x z, (par s x z ^^ par t x z) = false := by
    refine parity_zero (e := fun x z => par s x z ^^ par t x z) (fun x z => ?_) (fun x z => ?_) (fun x z => ?_)
    · simp [par]
    · simp [par]
    · have e1 := par_columns ws x z
      have e2 := par_columns wt x z
      rw [h, e2] at e1
      revert e1
      generalize par s x z = a0; generalize par t x z = b0; generalize par s (x + 4) z = a1; generalize par t (x + 4) z = b1; generalize par s (x + 1) (z + 63) = a2; generalize par t (x + 1) (z + 63) = b2
      cases a0 <;> cases b0 <;> cases a1 <;> cases b1 <;> cases a2 <;> cases b2 <;> decide
  have he : ∀ x z, par s x z = par t x z := fun x z => by
    have := hp x z
    revert this
    cases par s x z <;> cases par t x z <;> decide
  refine ext_state hs ht fun i hi => ext_word (ws _) (wt _) fun z hz => ?_
  have e1 := columns_bit ws i z hi hz
  have e2 := columns_bit wt i z hi hz
  rw [h, e2, he, he] at e1
  revert e1
  generalize (par t (i % 5 + 4) z ^^ par t (i % 5 + 1) (z + 63)) = u
  cases (g s i).testBit z <;> cases (g t i).testBit z <;> cases u <;> decide
theorem round_inj {s t : List Nat} (hs : s.length = 25) (ht : t.length = 25) (ws : Ws s) (wt : Ws t) (k : Nat) (h : round s k = round t k) : s = t :=
  columns_inj hs ht ws wt (moves_inj (len_columns _) (len_columns _) (ws_columns ws) (ws_columns wt) (mixes_inj (len_moves _) (len_moves _) (ws_moves (ws_columns ws)) (ws_moves (ws_columns wt)) (iota_inj (len_mixes _) (len_mixes _) k h)))
theorem fold_inj (l : List Nat) (hl : ∀ k ∈ l, k < W) : ∀ {s t : List Nat}, s.length = 25 → t.length = 25 → Ws s → Ws t → l.foldl round s = l.foldl round t → s = t := by
  induction l with
  | nil => intro s t _ _ _ _ h; exact h
  | cons k r ih =>
    intro s t hs ht ws wt h
    exact round_inj hs ht ws wt k (ih (fun x hx => hl x (by simp [hx])) (len_round _ _) (len_round _ _) (ws_round ws (hl k (by simp))) (ws_round wt (hl k (by simp))) h)
theorem perm_inj {s t : List Nat} (hs : s.length = 25) (ht : t.length = 25) (ws : Ws s) (wt : Ws t) (h : perm s = perm t) : s = t := fold_inj K K_lt hs ht ws wt h
end Go.Kec
