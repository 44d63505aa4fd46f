/-
  SHA3-256 in plain words: numbers below 2^64 as Nat, states as lists of 25. Conditions: none.
-/
namespace Go.Kec
def W : Nat := 18446744073709551616
def rot (w n : Nat) : Nat := ((w <<< n) % W) ||| (w >>> (64 - n))
def R : List Nat := [0, 1, 62, 28, 27, 36, 44, 6, 55, 20, 3, 10, 43, 25, 39, 41, 45, 15, 21, 8, 18, 2, 61, 56, 14]
def g (s : List Nat) (i : Nat) : Nat := s.getD i 0
def col (s : List Nat) (x : Nat) : Nat := g s x ^^^ g s (x + 5) ^^^ g s (x + 10) ^^^ g s (x + 15) ^^^ g s (x + 20)
def dd (s : List Nat) (x : Nat) : Nat := col s ((x + 4) % 5) ^^^ rot (col s ((x + 1) % 5)) 1
def columns (s : List Nat) : List Nat := (List.range 25).map fun i => g s i ^^^ dd s (i % 5)
def src (j : Nat) : Nat := (j % 5 + 3 * (j / 5)) % 5 + 5 * (j % 5)
def moves (s : List Nat) : List Nat := (List.range 25).map fun j => rot (g s (src j)) (g R (src j))
def at_ (x y : Nat) : Nat := x % 5 + 5 * (y % 5)
def mixes (s : List Nat) : List Nat := (List.range 25).map fun i => g s i ^^^ ((W - 1 - g s (at_ (i % 5 + 1) (i / 5))) &&& g s (at_ (i % 5 + 2) (i / 5)))
def iota (k : Nat) (s : List Nat) : List Nat := s.set 0 (g s 0 ^^^ k)
def round (s : List Nat) (k : Nat) : List Nat := iota k (mixes (moves (columns s)))
def K : List Nat := [1, 32898, 9223372036854808714, 9223372039002292224, 32907, 2147483649, 9223372039002292353, 9223372036854808585, 138, 136, 2147516425, 2147483658, 2147516555, 9223372036854775947, 9223372036854808713, 9223372036854808579, 9223372036854808578, 9223372036854775936, 32778, 9223372039002259466, 9223372039002292353, 9223372036854808704, 2147483649, 9223372039002292232]
def perm (s : List Nat) : List Nat := K.foldl round s

/-- A list of words: each is one. -/
def Ws (s : List Nat) : Prop := ∀ i, g s i < W
theorem g_lt {s : List Nat} (h : Ws s) (i : Nat) : g s i < W := h i
theorem g_map (f : Nat → Nat) (i : Nat) (h : i < 25) : g ((List.range 25).map f) i = f i := by
  simp [g, List.getD, h]
theorem g_big (s : List Nat) (i : Nat) (h : s.length ≤ i) : g s i = 0 := by
  simp [g, List.getD, List.getElem?_eq_none h]
theorem W_pos : 0 < W := by decide
theorem ws_map (f : Nat → Nat) (h : ∀ i, i < 25 → f i < W) : Ws ((List.range 25).map f) := by
  intro i
  by_cases hi : i < 25
  · rw [g_map f i hi]; exact h i hi
  · rw [g_big _ _ (by simp; omega)]; exact W_pos
theorem W_eq : W = 2 ^ 64 := by decide
theorem xor_lt {a b : Nat} (ha : a < W) (hb : b < W) : a ^^^ b < W := by rw [W_eq] at *; exact Nat.xor_lt_two_pow ha hb
theorem or_lt {a b : Nat} (ha : a < W) (hb : b < W) : a ||| b < W := by rw [W_eq] at *; exact Nat.or_lt_two_pow ha hb
theorem and_lt {a b : Nat} (hb : b < W) : a &&& b < W := by rw [W_eq] at *; exact Nat.and_lt_two_pow a hb
theorem shr_lt {a : Nat} (ha : a < W) (n : Nat) : a >>> n < W := by rw [Nat.shiftRight_eq_div_pow]; exact Nat.lt_of_le_of_lt (Nat.div_le_self _ _) ha
theorem rot_lt {a : Nat} (ha : a < W) (n : Nat) : rot a n < W := or_lt (Nat.mod_lt _ W_pos) (shr_lt ha _)
theorem col_lt {s : List Nat} (h : Ws s) (x : Nat) : col s x < W := xor_lt (xor_lt (xor_lt (xor_lt (h _) (h _)) (h _)) (h _)) (h _)
theorem dd_lt {s : List Nat} (h : Ws s) (x : Nat) : dd s x < W := xor_lt (col_lt h _) (rot_lt (col_lt h _) _)
theorem ws_columns {s : List Nat} (h : Ws s) : Ws (columns s) := ws_map _ fun _ _ => xor_lt (h _) (dd_lt h _)
theorem ws_moves {s : List Nat} (h : Ws s) : Ws (moves s) := ws_map _ fun _ _ => rot_lt (h _) _
theorem ws_mixes {s : List Nat} (h : Ws s) : Ws (mixes s) := ws_map _ fun _ _ => xor_lt (h _) (and_lt (h _))
theorem g_set (s : List Nat) (i j v : Nat) (h : i < s.length) : g (s.set i v) j = if i = j then v else g s j := by
  unfold g
  rw [List.getD_eq_getElem?_getD, List.getD_eq_getElem?_getD, List.getElem?_set]
  split
  · subst_vars; simp
  · rfl
theorem ws_iota {s : List Nat} (h : Ws s) {k : Nat} (hk : k < W) : Ws (iota k s) := by
  intro i
  unfold iota
  by_cases hs : 0 < s.length
  · rw [g_set _ _ _ _ hs]
    split
    · exact xor_lt (h _) hk
    · exact h i
  · have : s = [] := List.eq_nil_of_length_eq_zero (by omega)
    subst this; exact h i
theorem ws_round {s : List Nat} (h : Ws s) {k : Nat} (hk : k < W) : Ws (round s k) := ws_iota (ws_mixes (ws_moves (ws_columns h))) hk
theorem len_round (s : List Nat) (k : Nat) : (round s k).length = 25 := by simp [round, iota, mixes]
theorem len_columns (s : List Nat) : (columns s).length = 25 := by simp [columns]
theorem len_moves (s : List Nat) : (moves s).length = 25 := by simp [moves]
theorem len_mixes (s : List Nat) : (mixes s).length = 25 := by simp [mixes]
theorem K_lt : ∀ k ∈ K, k < W := by decide
theorem ws_fold (l : List Nat) (hl : ∀ k ∈ l, k < W) (s : List Nat) (h : Ws s) : Ws (l.foldl round s) := by
  induction l generalizing s with
  | nil => exact h
  | cons k r ih => exact ih (fun x hx => hl x (by simp [hx])) _ (ws_round h (hl k (by simp)))
theorem len_fold (l : List Nat) (s : List Nat) (h : s.length = 25) : (l.foldl round s).length = 25 := by
  induction l generalizing s with
  | nil => exact h
  | cons k r ih => exact ih _ (len_round _ _)
theorem ws_perm {s : List Nat} (h : Ws s) : Ws (perm s) := ws_fold K K_lt s h
theorem len_perm {s : List Nat} (h : s.length = 25) : (perm s).length = 25 := len_fold K s h

theorem sub_lt (a : Nat) : W - 1 - a < W := by have := W_pos; omega
/-- Where a word goes. -/
def dest (i : Nat) : Nat := at_ (i / 5) (2 * (i % 5) + 3 * (i / 5))
theorem dest_lt (i : Nat) : dest i < 25 := by unfold dest at_; omega
theorem src_dest : ∀ i, i < 25 → src (dest i) = i := by decide
theorem dest_src : ∀ j, j < 25 → dest (src j) = j := by decide
theorem src_lt' : ∀ j, j < 25 → src j < 25 := by decide
theorem R_lt' : ∀ i, i < 25 → g R i < 64 := by decide
theorem at_lt (x y : Nat) : at_ x y < 25 := by unfold at_; omega
/-- Words put one by one at other places. -/
def stpD (d f : Nat → Nat) (k : Nat) (s : List Nat) : List Nat := (List.range k).foldl (fun t i => t.set (d i) (f i)) s
theorem stpD_succ (d f : Nat → Nat) (k : Nat) (s : List Nat) : stpD d f (k + 1) s = (stpD d f k s).set (d k) (f k) := by simp [stpD, List.range_succ]
theorem stpD_len (d f : Nat → Nat) (k : Nat) (s : List Nat) : (stpD d f k s).length = s.length := by
  induction k with
  | zero => rfl
  | succ k ih => rw [stpD_succ, List.length_set, ih]
theorem stpD_moves (f : Nat → Nat) (s : List Nat) (h : s.length = 25) : stpD dest f 25 s = (List.range 25).map fun j => f (src j) := by
  have key : ∀ k, k ≤ 25 → ∀ j, j < 25 → g (stpD dest f k s) j = if src j < k then f (src j) else g s j := by
    intro k
    induction k with
    | zero => intro _ j _; simp [stpD]
    | succ k ih =>
      intro hk j hj
      rw [stpD_succ, g_set _ _ _ _ (by rw [stpD_len, h]; exact dest_lt k), ih (by omega) j hj]
      by_cases e : dest k = j
      · subst e
        rw [if_pos rfl, src_dest k (by omega), if_pos (by omega)]
      · rw [if_neg e]
        have : src j ≠ k := fun e2 => e (by rw [← e2, dest_src j hj])
        by_cases h2 : src j < k
        · rw [if_pos h2, if_pos (by omega)]
        · rw [if_neg h2, if_neg (by omega)]
  apply List.ext_getElem (by simp [stpD_len, h])
  intro j h1 h2
  have hj : j < 25 := by rwa [stpD_len, h] at h1
  have := key 25 (by omega) j hj
  unfold g at this
  rw [List.getD_eq_getElem?_getD, List.getElem?_eq_getElem h1, if_pos (src_lt' j hj)] at this
  simpa using this
/-- The register, its bits, and what they make. -/
def regn : Nat → Nat
  | 0 => 1
  | k + 1 => if 256 ≤ 2 * regn k then ((2 * regn k) &&& 255) ^^^ 113 else 2 * regn k
def bitn (k : Nat) : Nat := regn k &&& 1
def outn : Nat → List Nat
  | 0 => List.replicate 24 0
  | k + 1 => (outn k).set (k / 7) (g (outn k) (k / 7) ||| (bitn k <<< (1 <<< (k % 7) - 1)) % W)
theorem regn_lt (k : Nat) : regn k < 256 := by
  induction k with
  | zero => decide
  | succ k ih =>
    unfold regn
    split
    · have h1 : (2 * regn k) &&& 255 < 2 ^ 8 := Nat.and_lt_two_pow _ (by decide)
      exact Nat.xor_lt_two_pow (n := 8) h1 (by decide)
    · omega
theorem bitn_lt (k : Nat) : bitn k < 2 := Nat.and_lt_two_pow (n := 1) _ (by decide)
theorem outn_K : outn 168 = K := by decide +kernel
theorem outn_len (k : Nat) : (outn k).length = 24 := by
  induction k with
  | zero => rfl
  | succ k ih => simp [outn, ih]
theorem ws_set {s : List Nat} (h : Ws s) (i v : Nat) (hv : v < W) : Ws (s.set i v) := by
  intro j
  by_cases hi : i < s.length
  · rw [g_set _ _ _ _ hi]
    split
    · exact hv
    · exact h j
  · rw [List.set_eq_of_length_le (by omega)]; exact h j
theorem ws_outn (k : Nat) : Ws (outn k) := by
  induction k with
  | zero =>
    intro i
    show g (List.replicate 24 0) i < W
    unfold g
    rw [List.getD_eq_getElem?_getD, List.getElem?_replicate]
    split <;> decide
  | succ k ih => exact ws_set ih _ _ (or_lt (ih _) (Nat.mod_lt _ W_pos))
/-! Bytes. -/
/-- Eight bytes (or fewer) as a word, the lowest first. -/
def word : List UInt8 → Nat
  | [] => 0
  | b :: r => b.toNat + 256 * word r
def wordAt (blk : List UInt8) (i : Nat) : Nat := word ((blk.drop (8 * i)).take 8)
theorem word_lt (l : List UInt8) : word l < 256 ^ l.length := by
  induction l with
  | nil => decide
  | cons b r ih =>
    have := b.toNat_lt
    simp only [word, List.length_cons, Nat.pow_succ]
    omega
theorem wordAt_lt (blk : List UInt8) (i : Nat) : wordAt blk i < W := by
  have h := word_lt ((blk.drop (8 * i)).take 8)
  have h2 : ((blk.drop (8 * i)).take 8).length ≤ 8 := by simp; omega
  have h3 : (256 : Nat) ^ ((blk.drop (8 * i)).take 8).length ≤ 256 ^ 8 := Nat.pow_le_pow_right (by decide) h2
  have h4 : (256 : Nat) ^ 8 = W := by decide
  unfold wordAt
  omega
def mixin (s : List Nat) (blk : List UInt8) : List Nat := (List.range 25).map fun i => if i < 17 then g s i ^^^ wordAt blk i else g s i
def takes (s : List Nat) (blk : List UInt8) : List Nat := perm (mixin s blk)
def zero : List Nat := List.replicate 25 0
theorem ws_zero : Ws zero := by
  intro i
  unfold zero g
  rw [List.getD_eq_getElem?_getD, List.getElem?_replicate]
  split <;> decide
theorem ws_mixin {s : List Nat} (h : Ws s) (blk : List UInt8) : Ws (mixin s blk) := ws_map _ fun i _ => by
  split
  · exact xor_lt (h _) (wordAt_lt _ _)
  · exact h _
theorem len_mixin (s : List Nat) (blk : List UInt8) : (mixin s blk).length = 25 := by simp [mixin]
theorem ws_takes {s : List Nat} (h : Ws s) (blk : List UInt8) : Ws (takes s blk) := ws_perm (ws_mixin h blk)
theorem len_takes (s : List Nat) (blk : List UInt8) : (takes s blk).length = 25 := len_perm (len_mixin s blk)
/-- So many whole blocks of bytes. -/
def absorb : Nat → List Nat → List UInt8 → List Nat
  | 0, s, _ => s
  | n + 1, s, l => absorb n (takes s (l.take 136)) (l.drop 136)
theorem ws_absorb : ∀ (n : Nat) (s : List Nat) (l : List UInt8), Ws s → Ws (absorb n s l)
  | 0, _, _, h => h
  | n + 1, _, _, h => ws_absorb n _ _ (ws_takes h _)
theorem len_absorb : ∀ (n : Nat) (s : List Nat) (l : List UInt8), s.length = 25 → (absorb n s l).length = 25
  | 0, _, _, h => h
  | n + 1, _, _, _ => len_absorb n _ _ (len_takes _ _)
/-- What follows does not matter. -/
theorem absorb_more : ∀ (n : Nat) (s : List Nat) (l m : List UInt8), n * 136 ≤ l.length → absorb n s (l ++ m) = absorb n s l
  | 0, _, _, _, _ => rfl
  | n + 1, s, l, m, h => by
    unfold absorb
    rw [List.take_append_of_le_length (by omega), List.drop_append_of_le_length (by omega)]
    exact absorb_more n _ _ _ (by rw [List.length_drop]; omega)
theorem absorb_add : ∀ (n m : Nat) (s : List Nat) (l : List UInt8), absorb (n + m) s l = absorb m (absorb n s l) (l.drop (n * 136))
  | 0, m, s, l => by simp [absorb]
  | n + 1, m, s, l => by
    rw [show n + 1 + m = (n + m) + 1 by omega]
    show absorb (n + m) (takes s (l.take 136)) (l.drop 136) = absorb m (absorb n (takes s (l.take 136)) (l.drop 136)) (l.drop ((n + 1) * 136))
    rw [absorb_add n m, List.drop_drop]
    congr 2
    omega
theorem absorb_one (s : List Nat) (l : List UInt8) (h : l.length ≤ 136) : absorb 1 s l = takes s l := by
  show takes s (l.take 136) = takes s l
  rw [List.take_of_length_le h]
theorem getD_right (p r : List UInt8) (k : Nat) (d : UInt8) (h : p.length ≤ k) : (p ++ r).getD k d = r.getD (k - p.length) d := by
  rw [List.getD_eq_getElem?_getD, List.getElem?_append_right h, List.getD_eq_getElem?_getD]
/-- A sponge that took bytes: its state, and what is not a block yet. -/
def stateOf (l : List UInt8) : List Nat := absorb (l.length / 136) zero l
def restOf (l : List UInt8) : List UInt8 := l.drop (l.length / 136 * 136)
theorem ws_stateOf (l : List UInt8) : Ws (stateOf l) := ws_absorb _ _ _ ws_zero
theorem len_stateOf (l : List UInt8) : (stateOf l).length = 25 := len_absorb _ _ _ (by simp [zero])
theorem restOf_len (l : List UInt8) : (restOf l).length = l.length % 136 := by unfold restOf; rw [List.length_drop]; omega
theorem stateOf_nil : stateOf [] = zero := rfl
theorem restOf_nil : restOf [] = [] := rfl
/-- Bytes that do not fill the block. -/
theorem sponge_some (l x : List UInt8) (h : (restOf l).length + x.length < 136) : stateOf (l ++ x) = stateOf l ∧ restOf (l ++ x) = restOf l ++ x := by
  rw [restOf_len] at h
  have e : (l ++ x).length / 136 = l.length / 136 := by rw [List.length_append]; omega
  unfold stateOf restOf
  rw [e]
  exact ⟨absorb_more _ _ _ _ (by omega), by rw [List.drop_append_of_le_length (by omega)]⟩
/-- Bytes that fill it. -/
theorem sponge_fill (l x : List UInt8) (h : (restOf l).length + x.length = 136) : stateOf (l ++ x) = takes (stateOf l) (restOf l ++ x) ∧ restOf (l ++ x) = [] := by
  rw [restOf_len] at h
  have e : (l ++ x).length / 136 = l.length / 136 + 1 := by rw [List.length_append]; omega
  unfold stateOf restOf
  rw [e]
  refine ⟨?_, List.drop_of_length_le (by rw [List.length_append]; omega)⟩
  rw [absorb_add, absorb_more _ _ _ _ (by omega), List.drop_append_of_le_length (by omega)]
  exact absorb_one _ _ (by rw [List.length_append, List.length_drop]; omega)
/-- The eight bytes of a word. -/
def eight (w : Nat) : List UInt8 := (List.range 8).map fun i => UInt8.ofNat (w / 256 ^ i)
def squeeze (s : List Nat) : List UInt8 := eight (g s 0) ++ eight (g s 1) ++ eight (g s 2) ++ eight (g s 3)
theorem squeeze_len (s : List Nat) : (squeeze s).length = 32 := by simp [squeeze, eight]
/-- The last block: what is left, a 6 behind it, and 128 into the last byte. -/
def lastBlock (r : List UInt8) : List UInt8 :=
  let b := (r ++ 6 :: List.replicate (135 - r.length) 0)
  b.set 135 (b.getD 135 0 ^^^ 128)
def sum (l : List UInt8) : List UInt8 := squeeze (takes (stateOf l) (lastBlock (restOf l)))
theorem sum_len (l : List UInt8) : (sum l).length = 32 := squeeze_len _
/-- The document's way: all is padded, and taken block by block. -/
def padded (l : List UInt8) : List UInt8 :=
  let b := l ++ 6 :: List.replicate (135 - l.length % 136) 0
  b.set (b.length - 1) (b.getD (b.length - 1) 0 ^^^ 128)
theorem padded_eq (l : List UInt8) : padded l = l.take (l.length / 136 * 136) ++ lastBlock (restOf l) := by
  have hr := restOf_len l
  have hl : l = l.take (l.length / 136 * 136) ++ restOf l := (List.take_append_drop _ _).symm
  obtain ⟨p, hp⟩ : ∃ p, l.take (l.length / 136 * 136) = p := ⟨_, rfl⟩
  obtain ⟨r, hrr⟩ : ∃ r, restOf l = r := ⟨_, rfl⟩
  rw [hp, hrr] at hl
  rw [hrr] at hr
  have hpl : p.length = l.length / 136 * 136 := by rw [← hp, List.length_take]; omega
  have hlt : r.length < 136 := by omega
  rw [hp, hrr]
  unfold padded lastBlock
  rw [← hr]
  have hlen : (l ++ 6 :: List.replicate (135 - r.length) 0).length = p.length + 136 := by
    rw [hl]; simp; omega
  simp only [hlen]
  rw [show p.length + 136 - 1 = p.length + 135 by omega, hl, List.append_assoc]
  rw [List.set_append, if_neg (by omega), getD_right _ _ _ _ (by omega)]
  rw [show p.length + 135 - p.length = 135 by omega]
theorem lastBlock_len (r : List UInt8) (h : r.length < 136) : (lastBlock r).length = 136 := by
  unfold lastBlock; simp; omega
theorem padded_len (l : List UInt8) : (padded l).length = (l.length / 136 + 1) * 136 := by
  rw [padded_eq, List.length_append, lastBlock_len _ (by rw [restOf_len]; omega), List.length_take]; omega
theorem sum_padded (l : List UInt8) : sum l = squeeze (absorb ((padded l).length / 136) zero (padded l)) := by
  rw [padded_len, padded_eq, Nat.mul_div_cancel _ (by decide), absorb_add, absorb_more _ _ _ _ (by rw [List.length_take]; omega)]
  have h1 : (l.take (l.length / 136 * 136)).length = l.length / 136 * 136 := by rw [List.length_take]; omega
  have h2 : (l.take (l.length / 136 * 136)).drop (l.length / 136 * 136) = [] := List.drop_of_length_le (by omega)
  rw [List.drop_append_of_le_length (by omega), h2, List.nil_append, absorb_one _ _ (by rw [lastBlock_len _ (by rw [restOf_len]; omega)]; omega)]
  unfold sum
  congr 2
  unfold stateOf
  have := absorb_more (l.length / 136) zero (l.take (l.length / 136 * 136)) (l.drop (l.length / 136 * 136)) (by omega)
  rw [List.take_append_drop] at this
  exact this
/-- What stands together. -/
def join (k : UInt8) (l : List (List UInt8)) : List UInt8 := sum (k :: l.flatMap fun b => eight b.length ++ b)
end Go.Kec
