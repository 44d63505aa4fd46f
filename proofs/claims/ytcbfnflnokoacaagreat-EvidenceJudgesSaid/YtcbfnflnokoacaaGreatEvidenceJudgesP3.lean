import Derived.Test.YtcbfnflnokoacaaGreatEvidenceJudgesP2
namespace Go.Kec
set_option maxRecDepth 100000
set_option maxHeartbeats 4000000
def W : Nat := 18446744073709551616
def rot (w n : Nat) : Nat := ((w <<< n) % W) ||| (w >>> (64 - n))
def R : List Nat := [0, 1, 62, 28, 27, 36, 44, 6, 55, 20, 3, 10, 43, 25, 39, 41, 45, 15, 21, 8, 18, 2, 61, 56, 14]
def g (s : List Nat) (i : Nat) : Nat := s.getD i 0
def col (s : List Nat) (x : Nat) : Nat := g s x ^^^ g s (x + 5) ^^^ g s (x + 10) ^^^ g s (x + 15) ^^^ g s (x + 20)
def dd (s : List Nat) (x : Nat) : Nat := col s ((x + 4) % 5) ^^^ rot (col s ((x + 1) % 5)) 1
def columns (s : List Nat) : List Nat := (List.range 25).map fun i => g s i ^^^ dd s (i % 5)
def src (j : Nat) : Nat := (j % 5 + 3 * (j / 5)) % 5 + 5 * (j % 5)
def moves (s : List Nat) : List Nat := (List.range 25).map fun j => rot (g s (src j)) (g R (src j))
def at_ (x y : Nat) : Nat := x % 5 + 5 * (y % 5)
def mixes (s : List Nat) : List Nat := (List.range 25).map fun i => g s i ^^^ ((W - 1 - g s (at_ (i % 5 + 1) (i / 5))) &&& g s (at_ (i % 5 + 2) (i / 5)))
def iota (k : Nat) (s : List Nat) : List Nat := s.set 0 (g s 0 ^^^ k)
def round (s : List Nat) (k : Nat) : List Nat := iota k (mixes (moves (columns s)))
def K : List Nat := [1, 32898, 9223372036854808714, 9223372039002292224, 32907, 2147483649, 9223372039002292353, 9223372036854808585, 138, 136, 2147516425, 2147483658, 2147516555, 9223372036854775947, 9223372036854808713, 9223372036854808579, 9223372036854808578, 9223372036854775936, 32778, 9223372039002259466, 9223372039002292353, 9223372036854808704, 2147483649, 9223372039002292232]
def perm (s : List Nat) : List Nat := K.foldl round s
/-- A list of words: each is one. -/
def Ws (s : List Nat) : Prop := ∀ i, g s i < W
theorem g_map (f : Nat → Nat) (i : Nat) (h : i < 25) : g ((List.range 25).map f) i = f i := by
  simp [g, List.getD, h]
theorem g_big (s : List Nat) (i : Nat) (h : s.length ≤ i) : g s i = 0 := by
  simp [g, List.getD, List.getElem?_eq_none h]
theorem W_pos : 0 < W := by decide
theorem ws_map (f : Nat → Nat) (h : ∀ i, i < 25 → f i < W) : Ws ((List.range 25).map f) := by
  intro i
  by_cases hi : i < 25
  · rw [g_map f i hi]; exact h i hi
  · rw [g_big _ _ (by simp; omega)]; exact W_pos
theorem W_eq : W = 2 ^ 64 := by decide
theorem xor_lt {a b : Nat} (ha : a < W) (hb : b < W) : a ^^^ b < W := by rw [W_eq] at *; exact Nat.xor_lt_two_pow ha hb
theorem or_lt {a b : Nat} (ha : a < W) (hb : b < W) : a ||| b < W := by rw [W_eq] at *; exact Nat.or_lt_two_pow ha hb
theorem and_lt {a b : Nat} (hb : b < W) : a &&& b < W := by rw [W_eq] at *; exact Nat.and_lt_two_pow a hb
theorem shr_lt {a : Nat} (ha : a < W) (n : Nat) : a >>> n < W := by rw [Nat.shiftRight_eq_div_pow]; exact Nat.lt_of_le_of_lt (Nat.div_le_self _ _) ha
theorem rot_lt {a : Nat} (ha : a < W) (n : Nat) : rot a n < W := or_lt (Nat.mod_lt _ W_pos) (shr_lt ha _)
theorem col_lt {s : List Nat} (h : Ws s) (x : Nat) : col s x < W := xor_lt (xor_lt (xor_lt (xor_lt (h _) (h _)) (h _)) (h _)) (h _)
theorem dd_lt {s : List Nat} (h : Ws s) (x : Nat) : dd s x < W := xor_lt (col_lt h _) (rot_lt (col_lt h _) _)
theorem ws_columns {s : List Nat} (h : Ws s) : Ws (columns s) := ws_map _ fun _ _ => xor_lt (h _) (dd_lt h _)
theorem ws_moves {s : List Nat} (h : Ws s) : Ws (moves s) := ws_map _ fun _ _ => rot_lt (h _) _
theorem ws_mixes {s : List Nat} (h : Ws s) : Ws (mixes s) := ws_map _ fun _ _ => xor_lt (h _) (and_lt (h _))
theorem g_set (s : List Nat) (i j v : Nat) (h : i < s.length) : g (s.set i v) j = if i = j then v else g s j := by
  unfold g
  rw [List.getD_eq_getElem?_getD, List.getD_eq_getElem?_getD, List.getElem?_set]
  split
  · subst_vars; simp
  · rfl
theorem ws_iota {s : List Nat} (h : Ws s) {k : Nat} (hk : k < W) : Ws (iota k s) := by
  intro i
  unfold iota
  by_cases hs : 0 < s.length
  · rw [g_set _ _ _ _ hs]
    split
    · exact xor_lt (h _) hk
    · exact h i
  · have : s = [] := List.eq_nil_of_length_eq_zero (by omega)
    subst this; exact h i
theorem ws_round {s : List Nat} (h : Ws s) {k : Nat} (hk : k < W) : Ws (round s k) := ws_iota (ws_mixes (ws_moves (ws_columns h))) hk
theorem len_round (s : List Nat) (k : Nat) : (round s k).length = 25 := by simp [round, iota, mixes]
theorem len_columns (s : List Nat) : (columns s).length = 25 := by simp [columns]
theorem len_moves (s : List Nat) : (moves s).length = 25 := by simp [moves]
theorem len_mixes (s : List Nat) : (mixes s).length = 25 := by simp [mixes]
theorem K_lt : ∀ k ∈ K, k < W := by decide
theorem ws_fold (l : List Nat) (hl : ∀ k ∈ l, k < W) (s : List Nat) (h : Ws s) : Ws (l.foldl round s) := by
  induction l generalizing s with
  | nil => exact h
  | cons k r ih => exact ih (fun x hx => hl x (by simp [hx])) _ (ws_round h (hl k (by simp)))
theorem len_fold (l : List Nat) (s : List Nat) (h : s.length = 25) : (l.foldl round s).length = 25 := by
  induction l generalizing s with
  | nil => exact h
  | cons k r ih => exact ih _ (len_round _ _)
theorem ws_perm {s : List Nat} (h : Ws s) : Ws (perm s) := ws_fold K K_lt s h
theorem len_perm {s : List Nat} (h : s.length = 25) : (perm s).length = 25 := len_fold K s h
theorem sub_lt (a : Nat) : W - 1 - a < W := by have := W_pos; omega
/-- Where a word goes. -/
def dest (i : Nat) : Nat := at_ (i / 5) (2 * (i % 5) + 3 * (i / 5))
theorem dest_lt (i : Nat) : dest i < 25 := by unfold dest at_; omega
theorem src_dest : ∀ i, i < 25 → src (dest i) = i := by decide
theorem dest_src : ∀ j, j < 25 → dest (src j) = j := by decide
theorem src_lt' : ∀ j, j < 25 → src j < 25 := by decide
theorem R_lt' : ∀ i, i < 25 → g R i < 64 := by decide
theorem at_lt (x y : Nat) : at_ x y < 25 := by unfold at_; omega
/-- Words put one by one at other places. -/
def stpD (d f : Nat → Nat) (k : Nat) (s : List Nat) : List Nat := (List.range k).foldl (fun t i => t.set (d i) (f i)) s
theorem stpD_succ (d f : Nat → Nat) (k : Nat) (s : List Nat) : stpD d f (k + 1) s = (stpD d f k s).set (d k) (f k) := by simp [stpD, List.range_succ]
theorem stpD_len (d f : Nat → Nat) (k : Nat) (s : List Nat) : (stpD d f k s).length = s.length := by
  induction k with
  | zero => rfl
  | succ k ih => rw [stpD_succ, List.length_set, ih]
theorem stpD_moves (f : Nat → Nat) (s : List Nat) (h : s.length = 25) : stpD dest f 25 s = (List.range 25).map fun j => f (src j) := by
  have key : ∀ k, k ≤ 25 → ∀ j, j < 25 → g (stpD dest f k s) j = if src j < k then f (src j) else g s j := by
    intro k
    induction k with
    | zero => intro _ j _; simp [stpD]
    | succ k ih =>
      intro hk j hj
      rw [stpD_succ, g_set _ _ _ _ (by rw [stpD_len, h]; exact dest_lt k), ih (by omega) j hj]
      by_cases e : dest k = j
      · subst e
        rw [if_pos rfl, src_dest k (by omega), if_pos (by omega)]
      · rw [if_neg e]
        have : src j ≠ k := fun e2 => e (by rw [← e2, dest_src j hj])
        by_cases h2 : src j < k
        · rw [if_pos h2, if_pos (by omega)]
        · rw [if_neg h2, if_neg (by omega)]
  apply List.ext_getElem (by simp [stpD_len, h])
  intro j h1 h2
  have hj : j < 25 := by rwa [stpD_len, h] at h1
  have := key 25 (by omega) j hj
  unfold g at this
  rw [List.getD_eq_getElem?_getD, List.getElem?_eq_getElem h1, if_pos (src_lt' j hj)] at this
  simpa using this
/-- The register, its bits, and what they make. -/
def regn : Nat → Nat
  | 0 => 1
  | k + 1 => if 256 ≤ 2 * regn k then ((2 * regn k) &&& 255) ^^^ 113 else 2 * regn k
def bitn (k : Nat) : Nat := regn k &&& 1
def outn : Nat → List Nat
  | 0 => List.replicate 24 0
  | k + 1 => (outn k).set (k / 7) (g (outn k) (k / 7) ||| (bitn k <<< (1 <<< (k % 7) - 1)) % W)
theorem regn_lt (k : Nat) : regn k < 256 := by
  induction k with
  | zero => decide
  | succ k ih =>
    unfold regn
    split
    · have h1 : (2 * regn k) &&& 255 < 2 ^ 8 := Nat.and_lt_two_pow _ (by decide)
      exact Nat.xor_lt_two_pow (n := 8) h1 (by decide)
    · omega
theorem bitn_lt (k : Nat) : bitn k < 2 := Nat.and_lt_two_pow (n := 1) _ (by decide)
theorem outn_K : outn 168 = K := by decide +kernel
theorem outn_len (k : Nat) : (outn k).length = 24 := by
  induction k with
  | zero => rfl
  | succ k ih => simp [outn, ih]
theorem ws_set {s : List Nat} (h : Ws s) (i v : Nat) (hv : v < W) : Ws (s.set i v) := by
  intro j
  by_cases hi : i < s.length
  · rw [g_set _ _ _ _ hi]
    split
    · exact hv
    · exact h j
  · rw [List.set_eq_of_length_le (by omega)]; exact h j
theorem ws_outn (k : Nat) : Ws (outn k) := by
  induction k with
  | zero =>
    intro i
    show g (List.replicate 24 0) i < W
    unfold g
    rw [List.getD_eq_getElem?_getD, List.getElem?_replicate]
    split <;> decide
  | succ k ih => exact ws_set ih _ _ (or_lt (ih _) (Nat.mod_lt _ W_pos))
/-! Bytes. -/
/-- Eight bytes (or fewer) as a word, the lowest first. -/
def word : List UInt8 → Nat
  | [] => 0
  | b :: r => b.toNat + 256 * word r
def wordAt (blk : List UInt8) (i : Nat) : Nat := word ((blk.drop (8 * i)).take 8)
theorem word_lt (l : List UInt8) : word l < 256 ^ l.length := by
  induction l with
  | nil => decide
  | cons b r ih =>
    have := b.toNat_lt
    simp only [word, List.length_cons, Nat.pow_succ]
    omega
theorem wordAt_lt (blk : List UInt8) (i : Nat) : wordAt blk i < W := by
  have h := word_lt ((blk.drop (8 * i)).take 8)
  have h2 : ((blk.drop (8 * i)).take 8).length ≤ 8 := by simp; omega
  have h3 : (256 : Nat) ^ ((blk.drop (8 * i)).take 8).length ≤ 256 ^ 8 := Nat.pow_le_pow_right (by decide) h2
  have h4 : (256 : Nat) ^ 8 = W := by decide
  unfold wordAt
  omega
def mixin (s : List Nat) (blk : List UInt8) : List Nat := (List.range 25).map fun i => if i < 17 then g s i ^^^ wordAt blk i else g s i
def takes (s : List Nat) (blk : List UInt8) : List Nat := perm (mixin s blk)
def zero : List Nat := List.replicate 25 0
theorem ws_zero : Ws zero := by
  intro i
  unfold zero g
  rw [List.getD_eq_getElem?_getD, List.getElem?_replicate]
  split <;> decide
theorem ws_mixin {s : List Nat} (h : Ws s) (blk : List UInt8) : Ws (mixin s blk) := ws_map _ fun i _ => by
  split
  · exact xor_lt (h _) (wordAt_lt _ _)
  · exact h _
theorem len_mixin (s : List Nat) (blk : List UInt8) : (mixin s blk).length = 25 := by simp [mixin]
theorem ws_takes {s : List Nat} (h : Ws s) (blk : List UInt8) : Ws (takes s blk) := ws_perm (ws_mixin h blk)
theorem len_takes (s : List Nat) (blk : List UInt8) : (takes s blk).length = 25 := len_perm (len_mixin s blk)
/-- So many whole blocks of bytes. -/
def absorb : Nat → List Nat → List UInt8 → List Nat
  | 0, s, _ => s
  | n + 1, s, l => absorb n (takes s (l.take 136)) (l.drop 136)
theorem ws_absorb : ∀ (n : Nat) (s : List Nat) (l : List UInt8), Ws s → Ws (absorb n s l)
  | 0, _, _, h => h
  | n + 1, _, _, h => ws_absorb n _ _ (ws_takes h _)
theorem len_absorb : ∀ (n : Nat) (s : List Nat) (l : List UInt8), s.length = 25 → (absorb n s l).length = 25
  | 0, _, _, h => h
  | n + 1, _, _, _ => len_absorb n _ _ (len_takes _ _)
/-- What follows does not matter. -/
theorem absorb_more : ∀ (n : Nat) (s : List Nat) (l m : List UInt8), n * 136 ≤ l.length → absorb n s (l ++ m) = absorb n s l
  | 0, _, _, _, _ => rfl
  | n + 1, s, l, m, h => by
    unfold absorb
    rw [List.take_append_of_le_length (by omega), List.drop_append_of_le_length (by omega)]
    exact absorb_more n _ _ _ (by rw [List.length_drop]; omega)
theorem absorb_add : ∀ (n m : Nat) (s : List Nat) (l : List UInt8), absorb (n + m) s l = absorb m (absorb n s l) (l.drop (n * 136))
  | 0, m, s, l => by simp [absorb]
  | n + 1, m, s, l => by
    rw [show n + 1 + m = (n + m) + 1 by omega]
    show absorb (n + m) (takes s (l.take 136)) (l.drop 136) = absorb m (absorb n (takes s (l.take 136)) (l.drop 136)) (l.drop ((n + 1) * 136))
    rw [absorb_add n m, List.drop_drop]
    congr 2
    omega
theorem absorb_one (s : List Nat) (l : List UInt8) (h : l.length ≤ 136) : absorb 1 s l = takes s l := by
  show takes s (l.take 136) = takes s l
  rw [List.take_of_length_le h]
theorem getD_right (p r : List UInt8) (k : Nat) (d : UInt8) (h : p.length ≤ k) : (p ++ r).getD k d = r.getD (k - p.length) d := by
  rw [List.getD_eq_getElem?_getD, List.getElem?_append_right h, List.getD_eq_getElem?_getD]
/-- A sponge that took bytes: its state, and what is not a block yet. -/
def stateOf (l : List UInt8) : List Nat := absorb (l.length / 136) zero l
def restOf (l : List UInt8) : List UInt8 := l.drop (l.length / 136 * 136)
theorem ws_stateOf (l : List UInt8) : Ws (stateOf l) := ws_absorb _ _ _ ws_zero
theorem len_stateOf (l : List UInt8) : (stateOf l).length = 25 := len_absorb _ _ _ (by simp [zero])
theorem restOf_len (l : List UInt8) : (restOf l).length = l.length % 136 := by unfold restOf; rw [List.length_drop]; omega
theorem restOf_nil : restOf [] = [] := rfl
/-- Bytes that do not fill the block. -/
theorem sponge_some (l x : List UInt8) (h : (restOf l).length + x.length < 136) : stateOf (l ++ x) = stateOf l ∧ restOf (l ++ x) = restOf l ++ x := by
  rw [restOf_len] at h
  have e : (l ++ x).length / 136 = l.length / 136 := by rw [List.length_append]; omega
  unfold stateOf restOf
  rw [e]
  exact ⟨absorb_more _ _ _ _ (by omega), by rw [List.drop_append_of_le_length (by omega)]⟩
/-- Bytes that fill it. -/
theorem sponge_fill (l x : List UInt8) (h : (restOf l).length + x.length = 136) : stateOf (l ++ x) = takes (stateOf l) (restOf l ++ x) ∧ restOf (l ++ x) = [] := by
  rw [restOf_len] at h
  have e : (l ++ x).length / 136 = l.length / 136 + 1 := by rw [List.length_append]; omega
  unfold stateOf restOf
  rw [e]
  refine ⟨?_, List.drop_of_length_le (by rw [List.length_append]; omega)⟩
  rw [absorb_add, absorb_more _ _ _ _ (by omega), List.drop_append_of_le_length (by omega)]
  exact absorb_one _ _ (by rw [List.length_append, List.length_drop]; omega)
/-- The eight bytes of a word. -/
def eight (w : Nat) : List UInt8 := (List.range 8).map fun i => UInt8.ofNat (w / 256 ^ i)
def squeeze (s : List Nat) : List UInt8 := eight (g s 0) ++ eight (g s 1) ++ eight (g s 2) ++ eight (g s 3)
theorem squeeze_len (s : List Nat) : (squeeze s).length = 32 := by simp [squeeze, eight]
/-- The last block: what is left, a 6 behind it, and 128 into the last byte. -/
def lastBlock (r : List UInt8) : List UInt8 :=
  let b := (r ++ 6 :: List.replicate (135 - r.length) 0)
  b.set 135 (b.getD 135 0 ^^^ 128)
def sum (l : List UInt8) : List UInt8 := squeeze (takes (stateOf l) (lastBlock (restOf l)))
theorem sum_len (l : List UInt8) : (sum l).length = 32 := squeeze_len _
/-- The document's way: all is padded, and taken block by block. -/
def padded (l : List UInt8) : List UInt8 :=
  let b := l ++ 6 :: List.replicate (135 - l.length % 136) 0
  b.set (b.length - 1) (b.getD (b.length - 1) 0 ^^^ 128)
theorem padded_eq (l : List UInt8) : padded l = l.take (l.length / 136 * 136) ++ lastBlock (restOf l) := by
  have hr := restOf_len l
  have hl : l = l.take (l.length / 136 * 136) ++ restOf l := (List.take_append_drop _ _).symm
  obtain ⟨p, hp⟩ : ∃ p, l.take (l.length / 136 * 136) = p := ⟨_, rfl⟩
  obtain ⟨r, hrr⟩ : ∃ r, restOf l = r := ⟨_, rfl⟩
  rw [hp, hrr] at hl
  rw [hrr] at hr
  have hpl : p.length = l.length / 136 * 136 := by rw [← hp, List.length_take]; omega
  have hlt : r.length < 136 := by omega
  rw [hp, hrr]
  unfold padded lastBlock
  rw [← hr]
  have hlen : (l ++ 6 :: List.replicate (135 - r.length) 0).length = p.length + 136 := by
    rw [hl]; simp; omega
  simp only [hlen]
  rw [show p.length + 136 - 1 = p.length + 135 by omega, hl, List.append_assoc]
  rw [List.set_append, if_neg (by omega), getD_right _ _ _ _ (by omega)]
  rw [show p.length + 135 - p.length = 135 by omega]
theorem lastBlock_len (r : List UInt8) (h : r.length < 136) : (lastBlock r).length = 136 := by
  unfold lastBlock; simp; omega
theorem padded_len (l : List UInt8) : (padded l).length = (l.length / 136 + 1) * 136 := by
  rw [padded_eq, List.length_append, lastBlock_len _ (by rw [restOf_len]; omega), List.length_take]; omega
theorem sum_padded (l : List UInt8) : sum l = squeeze (absorb ((padded l).length / 136) zero (padded l)) := by
  rw [padded_len, padded_eq, Nat.mul_div_cancel _ (by decide), absorb_add, absorb_more _ _ _ _ (by rw [List.length_take]; omega)]
  have h1 : (l.take (l.length / 136 * 136)).length = l.length / 136 * 136 := by rw [List.length_take]; omega
  have h2 : (l.take (l.length / 136 * 136)).drop (l.length / 136 * 136) = [] := List.drop_of_length_le (by omega)
  rw [List.drop_append_of_le_length (by omega), h2, List.nil_append, absorb_one _ _ (by rw [lastBlock_len _ (by rw [restOf_len]; omega)]; omega)]
  unfold sum
  congr 2
  unfold stateOf
  have := absorb_more (l.length / 136) zero (l.take (l.length / 136 * 136)) (l.drop (l.length / 136 * 136)) (by omega)
  rw [List.take_append_drop] at this
  exact this
end Go.Kec
namespace Go.Proofs.YtcbfnflnokoacaaGreat
set_option maxRecDepth 100000
set_option maxHeartbeats 4000000
open Go Go.RowKit Go.Own Go.Shelf
/-- Words as cells. -/
def Wz (s : List Nat) : Array Value := (s.map fun (x : Nat) => Value.int .u64 (x : Int)).toArray
theorem Wz_get (s : List Nat) (i : Nat) (h : i < s.length) : (Wz s)[i]? = some (.int .u64 ((Kec.g s i : Nat) : Int)) := by
  simp [Wz, Kec.g, List.getElem?_eq_getElem h]
theorem Wz_get' (s : List Nat) (i v : Nat) (h : i < s.length) (hv : Kec.g s i = v) : (Wz s)[i]? = some (.int .u64 ((v : Nat) : Int)) := hv ▸ Wz_get s i h
theorem Wz_set (s : List Nat) (i v : Nat) : (Wz s).setIfInBounds i (.int .u64 ((v : Nat) : Int)) = Wz (s.set i v) := by
  simp [Wz, List.map_set]
theorem Wz_size (s : List Nat) : (Wz s).size = s.length := by simp [Wz]
theorem Wz_one (s : List Nat) : (Wz s).all (·.oneCell') = true := by
  simp only [Array.all_eq_true_iff_forall_mem]
  intro x hx
  simp only [Wz, List.mem_toArray, List.mem_map] at hx
  obtain ⟨j, _, rfl⟩ := hx
  rfl
theorem xorU (a b : Nat) (ha : a < Kec.W) (hb : b < Kec.W) : Value.int .u64 (bits .xor .u64 (a : Int) (b : Int)) = .int .u64 ((a ^^^ b : Nat) : Int) := congrArg _ (u64_xor_nat a b ha hb)
theorem andU (a b : Nat) (ha : a < Kec.W) (hb : b < Kec.W) : Value.int .u64 (bits .and .u64 (a : Int) (b : Int)) = .int .u64 ((a &&& b : Nat) : Int) := congrArg _ (u64_and_nat a b ha hb)
theorem orU (a b : Nat) (ha : a < Kec.W) (hb : b < Kec.W) : Value.int .u64 (bits .or .u64 (a : Int) (b : Int)) = .int .u64 ((a ||| b : Nat) : Int) := congrArg _ (u64_or_nat a b ha hb)
/-- Elements put one by one. -/
def stp (f : Nat → Nat) (k : Nat) (s : List Nat) : List Nat := (List.range k).foldl (fun t i => t.set i (f i)) s
theorem stp_zero (f : Nat → Nat) (s : List Nat) : stp f 0 s = s := rfl
theorem stp_succ (f : Nat → Nat) (k : Nat) (s : List Nat) : stp f (k + 1) s = (stp f k s).set k (f k) := by simp [stp, List.range_succ]
theorem stp_len (f : Nat → Nat) (k : Nat) (s : List Nat) : (stp f k s).length = s.length := by
  induction k with
  | zero => rfl
  | succ k ih => rw [stp_succ, List.length_set, ih]
theorem stp_get (f : Nat → Nat) (k : Nat) (s : List Nat) (i : Nat) (hi : i < s.length) : Kec.g (stp f k s) i = if i < k then f i else Kec.g s i := by
  induction k with
  | zero => simp [stp_zero]
  | succ k ih =>
    rw [stp_succ]
    by_cases hk : k < s.length
    · rw [Kec.g_set _ _ _ _ (by rw [stp_len]; exact hk), ih]
      by_cases h1 : k = i
      · subst h1; simp
      · rw [if_neg h1]
        by_cases h2 : i < k
        · rw [if_pos h2, if_pos (by omega)]
        · rw [if_neg h2, if_neg (by omega)]
    · rw [List.set_eq_of_length_le (by rw [stp_len]; omega), ih, if_pos (by omega), if_pos (by omega)]
theorem stp_all (f : Nat → Nat) (s : List Nat) (n : Nat) (h : s.length = n) : stp f n s = (List.range n).map f := by
  apply List.ext_getElem (by simp [stp_len, h])
  intro i h1 h2
  have hi : i < s.length := by rwa [stp_len] at h1
  have := stp_get f n s i hi
  unfold Kec.g at this
  rw [List.getD_eq_getElem?_getD, List.getElem?_eq_getElem h1, if_pos (by omega)] at this
  simpa using this
theorem run_shlU {P : Program} {w : World} (t : TypeId) (yk : IntKind) (x n : Nat) (hn : n ≤ 64) : (binOp .shl t (.int .u64 (x : Int)) (.int yk (n : Int))).run P w = .ok (.int .u64 (((x <<< n) % Kec.W : Nat) : Int)) w := by
  rw [binOp_shl, shift_shl .u64 yk (x : Int) (n : Int) (by omega) (by show (n : Int) ≤ 64; omega)]
  have e : IntKind.u64.wrap ((x : Int) * 2 ^ (n : Int).toNat) = (((x <<< n) % Kec.W : Nat) : Int) := by
    show ((x : Int) * 2 ^ n % (2 ^ 64 : Int)) = _
    rw [Nat.shiftLeft_eq, Int.natCast_emod, Int.natCast_mul, Int.natCast_pow]
    rfl
  rw [e]; rfl
theorem run_shrU {P : Program} {w : World} (t : TypeId) (yk : IntKind) (x n : Nat) (hn : n ≤ 64) : (binOp .shr t (.int .u64 (x : Int)) (.int yk (n : Int))).run P w = .ok (.int .u64 ((x >>> n : Nat) : Int)) w := by
  rw [binOp_shr, shift_shr .u64 yk (x : Int) (n : Int) (by omega) (by show (n : Int) ≤ 64; omega)]
  have e : (x : Int) / 2 ^ (n : Int).toNat = ((x >>> n : Nat) : Int) := by
    rw [Nat.shiftRight_eq_div_pow, Int.natCast_ediv, Int.natCast_pow]; rfl
  rw [e]; rfl
theorem notN (x : Nat) (h : x < Kec.W) : (Kec.W - 1) ^^^ x = Kec.W - 1 - x := by
  apply Nat.eq_of_testBit_eq
  intro z
  rw [Kec.W_eq] at *
  have h1 := Nat.testBit_two_pow_sub_succ (n := 64) (x := 0) (by decide) z
  have h2 := Nat.testBit_two_pow_sub_succ (n := 64) (x := x) h z
  rw [Nat.testBit_xor, show 2 ^ 64 - 1 - x = 2 ^ 64 - (x + 1) by omega, h2, show 2 ^ 64 - 1 = 2 ^ 64 - (0 + 1) by omega, h1]
  by_cases hz : z < 64
  · simp [hz]
  · have := Nat.testBit_lt_two_pow (Nat.lt_of_lt_of_le h (Nat.pow_le_pow_right (show 0 < 2 by decide) (show 64 ≤ z by omega)))
    simp [hz, this]
theorem notU (x : Nat) (h : x < Kec.W) : Value.int .u64 (bits .xor .u64 18446744073709551615 (x : Int)) = .int .u64 ((Kec.W - 1 - x : Nat) : Int) := by
  rw [← notN x h]
  exact xorU (Kec.W - 1) x (by decide) h
/-- How far each word is turned, as cells. -/
def Rz : Array Value := (Kec.R.map fun (x : Nat) => Value.int .i64 (x : Int)).toArray
theorem Rz_get (k : Nat) (h : k < 25) : Rz[k]? = some (.int .i64 ((Kec.g Kec.R k : Nat) : Int)) := by
  have : Kec.R.length = 25 := rfl
  simp [Rz, Kec.g, List.getElem?_eq_getElem (show k < Kec.R.length by omega)]
theorem rotl_and (n : Nat) (h : n < 64) : bits .and .u64 (n : Int) 63 = (n : Int) := by
  have := u64_and_nat n 63 (by omega) (by decide)
  rw [show ((63 : Nat) : Int) = 63 from rfl] at this
  rw [this, Nat.and_two_pow_sub_one_eq_mod n 6, Nat.mod_eq_of_lt (by omega)]
noncomputable def part_kat (n : Nat) : Code := partOf Tryz.f168 n
theorem kat_ok (x y : Nat) (w : World) (hx : x ≤ 1000) (hy : y ≤ 1000) :
    Calls Tryz.prog 168 #[.int .i64 ((x : Nat) : Int), .int .i64 ((y : Nat) : Int)] w (fun e w' => e = .returned (.int .i64 ((Kec.at_ x y : Nat) : Int)) ∧ w = w') := by
  have K0 : Keeps Nob w w := Keeps.refl _ _
  refine sy_enter (part_kat 1) ⟨#[iN x, iN y, ud, ud, ud, ud, ud, ud, ud, ud, ud], []⟩ Tryz.func168 (by kernel_rfl) (by kernel_rfl) <| qr_ [0] <| pkq (.int .i64 0) <| eqr_ [0, 1, 2, 3, 4, 5, 6] <| pkq (iN x) <| pkq (iN (x % 5)) <| pkq (iN y) <| pkq (iN (y % 5)) <| ppq (iN (5 * (y % 5))) (exec_cast (congrArg (Value.int .i64) (wrapN (5 * (y % 5)) (by omega))) (by kernel_rfl)) <| ppq (iN ((x % 5) + (5 * (y % 5)))) (exec_cast (congrArg (Value.int .i64) (wrapN ((x % 5) + (5 * (y % 5))) (by omega))) (by kernel_rfl)) <| pkq (iN ((x % 5) + (5 * (y % 5)))) <| eu_ <| so_ (.int .i64 (((x % 5) + (5 * (y % 5)) : Nat) : Int)) ?_
  exact ⟨rfl, rfl⟩
theorem kat_as (x y r : Nat) (w : World) (hx : x ≤ 1000) (hy : y ≤ 1000) (h : Kec.at_ x y = r) : Calls Tryz.prog 168 #[.int .i64 ((x : Nat) : Int), .int .i64 ((y : Nat) : Int)] w fun e w' => e = .returned (.int .i64 ((r : Nat) : Int)) ∧ w = w' := h ▸ kat_ok x y w hx hy
noncomputable def qc43_4 (n : Nat) : Code := partOf Tryz.f169 n
theorem rotl_ok (x n : Nat) (w : World) (hx : x < Kec.W) (hn : n < 64) :
    Calls Tryz.prog 169 #[.int .u64 ((x : Nat) : Int), .int .i64 ((n : Nat) : Int)] w (fun e w' => e = .returned (.int .u64 ((Kec.rot x n : Nat) : Int)) ∧ w = w') := by
  have K0 : Keeps Nob w w := Keeps.refl _ _
  refine sy_enter (qc43_4 1) ⟨#[uN x, iN n, ud, ud, ud, ud, ud, ud, ud, ud, ud, ud, ud, ud, ud, ud, ud], []⟩ Tryz.func169 (by kernel_rfl) (by kernel_rfl) <| qr_ [0] <| pkq (.int .u64 0) <| eqr_ [0, 1, 2, 3] <| pkq (iN n) <| ppq (uN n) (exec_cast (congrArg (Value.int .u64) (wrapU n (by omega))) (by kernel_rfl)) <| ppq (uN n) (exec_cast (congrArg (Value.int .u64) (rotl_and n hn)) (by kernel_rfl)) <| pkq (uN n) <| eqr_ [0, 1, 2, 3, 4, 5, 6, 7, 8] <| pkq (uN x) <| pkq (uN n) <| ppq (uN ((x <<< n) % Kec.W)) (exec_binop .shl 24 186 (.tmp 9) (.tmp 10) (by kernel_rfl) (uN x) (uN n) _ (by kernel_rfl) (by kernel_rfl) (by kernel_rfl) (run_shlU _ _ x n (by omega))) <| pkq (uN x) <| pkq (uN n) ?_
  refine ppq (uN (64 - n)) (exec_cast (v := .int .u64 (IntKind.u64.wrap ((64 : Int) - ((n : Nat) : Int)))) (congrArg (Value.int .u64) (by rw [show (64 : Int) - ((n : Nat) : Int) = ((64 - n : Nat) : Int) by omega]; exact wrapU _ (by omega))) (by kernel_rfl)) <| ppq (uN (x >>> (64 - n))) (exec_binop .shr 24 186 (.tmp 12) (.tmp 14) (by kernel_rfl) (uN x) (uN (64 - n)) _ (by kernel_rfl) (by kernel_rfl) (by kernel_rfl) (run_shrU _ _ x (64 - n) (by omega))) <| ppq (uN (((x <<< n) % Kec.W) ||| (x >>> (64 - n)))) (exec_cast (orU ((x <<< n) % Kec.W) (x >>> (64 - n)) (Nat.mod_lt _ Kec.W_pos) (Kec.shr_lt hx _)) (by kernel_rfl)) <| pkq (uN (((x <<< n) % Kec.W) ||| (x >>> (64 - n)))) <| eu_ <| so_ (.int .u64 ((((x <<< n) % Kec.W) ||| (x >>> (64 - n)) : Nat) : Int)) ?_
  exact ⟨rfl, rfl⟩
theorem g_map5 (f : Nat → Nat) (i : Nat) (h : i < 5) : Kec.g ((List.range 5).map f) i = f i := by simp [Kec.g, h]
noncomputable def qc43_0 (n : Nat) : Code := partOf Tryz.f162 n
noncomputable abbrev qo43_0 (n k : Nat) : Oper := (opsAt (qc43_0 n)).getD k default
theorem kcolumns_ok (b : Nat) (s : List Nat) (w : World) (hs : s.length = 25) (ws : Kec.Ws s) (hb : w.heap[b]? = some (.cells (Wz s) 161 (0, 0))) :
    Calls Tryz.prog 162 #[.pointer (some ⟨b, 0, none⟩)] w (fun e w' => e = .returned (.tuple #[]) ∧ w'.heap[b]? = some (.cells (Wz (Kec.columns s)) 161 (0, 0)) ∧ Keeps (One b) w w') := by
  have K0 : Keeps (One b) w w := Keeps.refl _ _
  refine sy_enter (qc43_0 1) ⟨#[pT b 0, ud, ud, ud, ud, ud, ud, ud, ud, ud, ud, ud, ud, ud, ud, ud, ud, ud, ud, ud, ud, ud, ud, ud, ud, ud, ud, ud, ud, ud, ud, ud, ud, ud, ud, ud, ud, ud, ud, ud, ud, ud, ud, ud, ud, ud, ud, ud, ud, ud, ud, ud, ud, ud, ud, ud, ud, ud, ud, ud, ud, ud, ud, ud, ud, ud, ud, ud, ud, ud, ud, ud], []⟩ Tryz.func162 (by kernel_rfl) (by kernel_rfl) <| qr_ [0] <| pal 187 (zr_u64_5) (.agg (zr_u64_5)) fun V1 gc egc h2 kV1 => ?_
  have n3 : b < gc := egc ▸ lt_of_block hb
  have n4 : w.heap.size ≤ gc := egc ▸ K0.size
  have h5 := kV1.bk hb
  have K6 := K0.nn kV1
  refine eq_ <| qr_ [0] <| pkq (.int .i64 0) <| et_ <| b_ 0 ?_
  refine sy_loop (qc43_0 52) (fun a V => ∃ (k : Nat) (u3 u7 u8 u9 u10 u11 u12 u13 u14 u15 u16 u17 u18 u19 u20 u21 u22 u23 u24 u25 u26 u27 u28 u29 u30 u31 u32 u33 u34 u35 u36 u37 u38 u39 u40 u41 u42 u43 u44 u45 : Value), (a = ⟨#[pT b 0, ud, pT gc 0, u3, ud, ud, iN k, u7, u8, u9, u10, u11, u12, u13, u14, u15, u16, u17, u18, u19, u20, u21, u22, u23, u24, u25, u26, u27, u28, u29, u30, u31, u32, u33, u34, u35, u36, u37, u38, u39, u40, u41, u42, u43, u44, u45, ud, ud, ud, ud, ud, ud, ud, ud, ud, ud, ud, ud, ud, ud, ud, ud, ud, ud, ud, ud, ud, ud, ud, ud, ud, ud], []⟩) ∧ (k ≤ 5) ∧ (V.heap[b]? = some (.cells (Wz s) 161 (0, 0))) ∧ (V.heap[gc]? = some (.cells (Wz (stp (Kec.col s) k [0, 0, 0, 0, 0])) 187 (0, 0))) ∧ (Keeps (One b) w V)) (fun a _ => 5 - (intOf (a.tmps.getD 6 undef)).toNat) (by kernel_rfl) ?_ ?_
  · exact ⟨0, undef, undef, undef, undef, undef, undef, undef, undef, undef, undef, undef, undef, undef, undef, undef, undef, undef, undef, undef, undef, undef, undef, undef, undef, undef, undef, undef, undef, undef, undef, undef, undef, undef, undef, undef, undef, undef, undef, undef, undef, by kernel_rfl, by omega, h5, h2.trans (by kernel_rfl), K6⟩
  · rintro a V7 ⟨k, u3, u7, u8, u9, u10, u11, u12, u13, u14, u15, u16, u17, u18, u19, u20, u21, u22, u23, u24, u25, u26, u27, u28, u29, u30, u31, u32, u33, u34, u35, u36, u37, u38, u39, u40, u41, u42, u43, u44, u45, rfl, hk, h8, h9, K10⟩
    by_cases lt_k : k < 5
    · show _
      refine qr_ [0] <| ppq (.bool true) (dct ((((k : Nat) : Int)) < ((5) : Int)) (by omega)) <| eq_ <| y_ <| s_ <| tq_ <| b_ 1 <| qr_ [0, 1] <| pkq (iN k) <| pkq (iN k) <| et_ <| sy_reg <| rg_still 4 36 (opsAt (qc43_0 1689)) [qo43_0 1689 0, qo43_0 1689 1, qo43_0 1689 2, qo43_0 1689 3, qo43_0 1689 4, qo43_0 1689 5, qo43_0 1689 6, qo43_0 1689 7, qo43_0 1689 8, qo43_0 1689 9, qo43_0 1689 10, qo43_0 1689 11, qo43_0 1689 12, qo43_0 1689 13, qo43_0 1689 14, qo43_0 1689 15, qo43_0 1689 16, qo43_0 1689 17, qo43_0 1689 18, qo43_0 1689 19, qo43_0 1689 20, qo43_0 1689 21, qo43_0 1689 22, qo43_0 1689 23, qo43_0 1689 24, qo43_0 1689 25, qo43_0 1689 26, qo43_0 1689 27, qo43_0 1689 28, qo43_0 1689 29, qo43_0 1689 30, qo43_0 1689 31, qo43_0 1689 32, qo43_0 1689 33, qo43_0 1689 34, qo43_0 1689 35] [qo43_0 1689 36] (by kernel_rfl) (by kernel_rfl) (by kernel_rfl) (by kernel_rfl) (by kernel_rfl) ?_
      obtain ⟨V12, eV12, kV12⟩ := drew_step V7
      rw [eV12]
      clear eV12
      have h13 := kV12.bk h8
      have h14 := kV12.bk h9
      have K15 := K10.nn kV12
      refine skq (iN k) <| skq (pT b 0) <| skq (iN k) <| scq 168 #[iN k, .int .i64 0] (iN k) Tryz.func168 (kat_as k 0 k _ (by omega) (by omega) (by unfold Kec.at_; omega)) <| skq (pT b 0) <| spq (pT b k) (exec_cast (v := pT b (0 + k * 1)) (by simp) (exec_indexAt_arr 161 (.tmp 13) (.tmp 12) (by kernel_rfl) b 0 (by kernel_rfl) .i64 k (by kernel_rfl) _ _ 1 Tryz.underlying161 (by kernel_rfl) (by omega))) <| spq (uN (Kec.g s k)) (ldc 24 b k (rc (h13) (Wz_get _ k (by rw [hs]; omega)))) <| skq (pT b 0) <| skq (iN k) <| scq 168 #[iN k, .int .i64 1] (iN (k + 5)) Tryz.func168 (kat_as k 1 (k + 5) _ (by omega) (by omega) (by unfold Kec.at_; omega)) <| skq (pT b 0) <| spq (pT b (k + 5)) (exec_cast (v := .pointer (some ⟨b, 0 + (k + 5) * 1, none⟩)) (by simp) (exec_indexAt_arr 161 (.tmp 19) (.tmp 18) (by kernel_rfl) b 0 (by kernel_rfl) .i64 (k + 5) (by kernel_rfl) _ _ 1 Tryz.underlying161 (by kernel_rfl) (by omega))) <| spq (uN (Kec.g s (k + 5))) (ldc 24 b (k + 5) (rc (h13) (Wz_get _ (k + 5) (by rw [hs]; omega)))) <| spq (uN ((Kec.g s k) ^^^ (Kec.g s (k + 5)))) (exec_cast (xorU (Kec.g s k) (Kec.g s (k + 5)) (ws _) (ws _)) (by kernel_rfl)) ?_
      refine skq (pT b 0) <| skq (iN k) <| scq 168 #[iN k, .int .i64 2] (iN (k + 10)) Tryz.func168 (kat_as k 2 (k + 10) _ (by omega) (by omega) (by unfold Kec.at_; omega)) <| skq (pT b 0) <| spq (pT b (k + 10)) (exec_cast (v := .pointer (some ⟨b, 0 + (k + 10) * 1, none⟩)) (by simp) (exec_indexAt_arr 161 (.tmp 26) (.tmp 25) (by kernel_rfl) b 0 (by kernel_rfl) .i64 (k + 10) (by kernel_rfl) _ _ 1 Tryz.underlying161 (by kernel_rfl) (by omega))) <| spq (uN (Kec.g s (k + 10))) (ldc 24 b (k + 10) (rc (h13) (Wz_get _ (k + 10) (by rw [hs]; omega)))) <| spq (uN (((Kec.g s k) ^^^ (Kec.g s (k + 5))) ^^^ (Kec.g s (k + 10)))) (exec_cast (xorU ((Kec.g s k) ^^^ (Kec.g s (k + 5))) (Kec.g s (k + 10)) (Kec.xor_lt (ws _) (ws _)) (ws _)) (by kernel_rfl)) <| skq (pT b 0) <| skq (iN k) <| scq 168 #[iN k, .int .i64 3] (iN (k + 15)) Tryz.func168 (kat_as k 3 (k + 15) _ (by omega) (by omega) (by unfold Kec.at_; omega)) <| skq (pT b 0) <| spq (pT b (k + 15)) (exec_cast (v := .pointer (some ⟨b, 0 + (k + 15) * 1, none⟩)) (by simp) (exec_indexAt_arr 161 (.tmp 33) (.tmp 32) (by kernel_rfl) b 0 (by kernel_rfl) .i64 (k + 15) (by kernel_rfl) _ _ 1 Tryz.underlying161 (by kernel_rfl) (by omega))) <| spq (uN (Kec.g s (k + 15))) (ldc 24 b (k + 15) (rc (h13) (Wz_get _ (k + 15) (by rw [hs]; omega)))) <| spq (uN ((((Kec.g s k) ^^^ (Kec.g s (k + 5))) ^^^ (Kec.g s (k + 10))) ^^^ (Kec.g s (k + 15)))) (exec_cast (xorU (((Kec.g s k) ^^^ (Kec.g s (k + 5))) ^^^ (Kec.g s (k + 10))) (Kec.g s (k + 15)) (Kec.xor_lt (Kec.xor_lt (ws _) (ws _)) (ws _)) (ws _)) (by kernel_rfl)) ?_
      refine skq (pT b 0) <| skq (iN k) <| scq 168 #[iN k, .int .i64 4] (iN (k + 20)) Tryz.func168 (kat_as k 4 (k + 20) _ (by omega) (by omega) (by unfold Kec.at_; omega)) <| skq (pT b 0) <| spq (pT b (k + 20)) (exec_cast (v := .pointer (some ⟨b, 0 + (k + 20) * 1, none⟩)) (by simp) (exec_indexAt_arr 161 (.tmp 40) (.tmp 39) (by kernel_rfl) b 0 (by kernel_rfl) .i64 (k + 20) (by kernel_rfl) _ _ 1 Tryz.underlying161 (by kernel_rfl) (by omega))) <| spq (uN (Kec.g s (k + 20))) (ldc 24 b (k + 20) (rc (h13) (Wz_get _ (k + 20) (by rw [hs]; omega)))) <| spq (uN (((((Kec.g s k) ^^^ (Kec.g s (k + 5))) ^^^ (Kec.g s (k + 10))) ^^^ (Kec.g s (k + 15))) ^^^ (Kec.g s (k + 20)))) (exec_cast (xorU ((((Kec.g s k) ^^^ (Kec.g s (k + 5))) ^^^ (Kec.g s (k + 10))) ^^^ (Kec.g s (k + 15))) (Kec.g s (k + 20)) (Kec.xor_lt (Kec.xor_lt (Kec.xor_lt (ws _) (ws _)) (ws _)) (ws _)) (ws _)) (by kernel_rfl)) <| spq (pT gc k) (exec_cast (v := pT gc (0 + k * 1)) (by simp) (exec_indexAt_arr 187 (.tmp 2) (.tmp 9) (by kernel_rfl) gc 0 (by kernel_rfl) .i64 k (by kernel_rfl) _ _ 1 Tryz.underlying187 (by kernel_rfl) (by omega))) <| st_end ?_
      obtain ⟨V16, eV16, kV16⟩ := cell_step V12 gc k (.int .u64 ((((((Kec.g s k) ^^^ (Kec.g s (k + 5))) ^^^ (Kec.g s (k + 10))) ^^^ (Kec.g s (k + 15))) ^^^ (Kec.g s (k + 20)) : Nat) : Int))
      have h17 : V16.heap[gc]? = some (.cells (Wz (stp (Kec.col s) (k + 1) [0, 0, 0, 0, 0])) 187 (0, 0)) := eV16 ▸ ((heap_setCell_same _ gc k _ _ (.int .u64 ((((((Kec.g s k) ^^^ (Kec.g s (k + 5))) ^^^ (Kec.g s (k + 10))) ^^^ (Kec.g s (k + 15))) ^^^ (Kec.g s (k + 20)) : Nat) : Int)) h14).trans (congrArg (fun c => some (Obj.cells c 187 (0, 0))) (show (Wz (stp (Kec.col s) k [0, 0, 0, 0, 0]) : Array Value).setIfInBounds k (.int .u64 ((((((Kec.g s k) ^^^ (Kec.g s (k + 5))) ^^^ (Kec.g s (k + 10))) ^^^ (Kec.g s (k + 15))) ^^^ (Kec.g s (k + 20)) : Nat) : Int)) = Wz (stp (Kec.col s) (k + 1) [0, 0, 0, 0, 0]) from by rw [Wz_set]; exact congrArg Wz (by rw [stp_succ] <;> rfl))))
      refine ls_skip (qo43_0 1689 36) (w' := V16) (by kernel_rfl) (by rw [← eV16]; exact exec_store_cell 24 (.tmp 44) (.tmp 43) (by kernel_rfl) gc k (by kernel_rfl) (.int .u64 ((((((Kec.g s k) ^^^ (Kec.g s (k + 5))) ^^^ (Kec.g s (k + 10))) ^^^ (Kec.g s (k + 15))) ^^^ (Kec.g s (k + 20)) : Nat) : Int)) (by kernel_rfl) (by kernel_rfl) (by kernel_rfl) (.int .u64 ((Kec.g (stp (Kec.col s) k [0, 0, 0, 0, 0]) k : Nat) : Int)) (rc (h14) (Wz_get _ k (by rw [stp_len, show ([0, 0, 0, 0, 0] : List Nat).length = 5 from rfl]; omega))) (frozen_of_row _ _ _ _ _ h14) (by kernel_rfl)) ?_
      clear eV16
      have h18 := kV16.bO h13
      have K19 := K15.nO kV16
      refine ls_end <| sy_a ⟨#[pT b 0, ud, pT gc 0, iN k, ud, ud, iN k, .bool true, iN k, iN k, pT b 0, iN k, iN k, pT b 0, pT b k, uN (Kec.g s k), pT b 0, iN k, iN (k + 5), pT b 0, pT b (k + 5), uN (Kec.g s (k + 5)), uN ((Kec.g s k) ^^^ (Kec.g s (k + 5))), pT b 0, iN k, iN (k + 10), pT b 0, pT b (k + 10), uN (Kec.g s (k + 10)), uN (((Kec.g s k) ^^^ (Kec.g s (k + 5))) ^^^ (Kec.g s (k + 10))), pT b 0, iN k, iN (k + 15), pT b 0, pT b (k + 15), uN (Kec.g s (k + 15)), uN ((((Kec.g s k) ^^^ (Kec.g s (k + 5))) ^^^ (Kec.g s (k + 10))) ^^^ (Kec.g s (k + 15))), pT b 0, iN k, iN (k + 20), pT b 0, pT b (k + 20), uN (Kec.g s (k + 20)), uN (((((Kec.g s k) ^^^ (Kec.g s (k + 5))) ^^^ (Kec.g s (k + 10))) ^^^ (Kec.g s (k + 15))) ^^^ (Kec.g s (k + 20))), pT gc k, u45, ud, ud, ud, ud, ud, ud, ud, ud, ud, ud, ud, ud, ud, ud, ud, ud, ud, ud, ud, ud, ud, ud, ud, ud, ud, ud], []⟩ <| blk_n <| tr_ [0, 1] <| ppq (iN (k + 1)) (exec_cast (congrArg (Value.int .i64) (wrapN (k + 1) (by omega))) (by kernel_rfl)) <| pkq (iN (k + 1)) <| et_ ?_
      refine ⟨⟨k + 1, (iN k), (.bool true), (iN k), (iN k), (pT b 0), (iN k), (iN k), (pT b 0), (pT b k), (uN (Kec.g s k)), (pT b 0), (iN k), (iN (k + 5)), (pT b 0), (pT b (k + 5)), (uN (Kec.g s (k + 5))), (uN ((Kec.g s k) ^^^ (Kec.g s (k + 5)))), (pT b 0), (iN k), (iN (k + 10)), (pT b 0), (pT b (k + 10)), (uN (Kec.g s (k + 10))), (uN (((Kec.g s k) ^^^ (Kec.g s (k + 5))) ^^^ (Kec.g s (k + 10)))), (pT b 0), (iN k), (iN (k + 15)), (pT b 0), (pT b (k + 15)), (uN (Kec.g s (k + 15))), (uN ((((Kec.g s k) ^^^ (Kec.g s (k + 5))) ^^^ (Kec.g s (k + 10))) ^^^ (Kec.g s (k + 15)))), (pT b 0), (iN k), (iN (k + 20)), (pT b 0), (pT b (k + 20)), (uN (Kec.g s (k + 20))), (uN (((((Kec.g s k) ^^^ (Kec.g s (k + 5))) ^^^ (Kec.g s (k + 10))) ^^^ (Kec.g s (k + 15))) ^^^ (Kec.g s (k + 20)))), (pT gc k), (iN (k + 1)), by kernel_rfl, by omega, h18, h17, K19⟩, ?_⟩
      exact lt_meas (x := 5 - (k + 1)) (y := 5 - k) (by kernel_rfl) (by kernel_rfl) (by omega)
    · have eq_k : k = 5 := by omega
      have h20 : V7.heap[gc]? = some (.cells (Wz ((List.range 5).map (Kec.col s))) 187 (0, 0)) := h9.trans (by rw [eq_k, stp_all _ _ 5 rfl])
      refine qr_ [0] <| ppq (.bool false) (dcf ((((k : Nat) : Int)) < ((5) : Int)) (by omega)) <| eq_ <| n_ <| sy_exit 0 (by kernel_rfl) <| then_e <| then_e <| blk_e <| tqr_ [0] <| pkq (.int .i64 0) <| et_ <| b_ 2 ?_
      refine sy_loop (qc43_0 60) (fun a V => ∃ (j : Nat) (u4 u5 u47 u48 u49 u50 u51 u52 u53 u54 u55 u56 u57 u58 u59 u60 u61 u62 u63 u64 u65 u66 u67 u68 u69 u70 u71 : Value), (a = ⟨#[pT b 0, ud, pT gc 0, u3, u4, u5, iN k, .bool false, u8, u9, u10, u11, u12, u13, u14, u15, u16, u17, u18, u19, u20, u21, u22, u23, u24, u25, u26, u27, u28, u29, u30, u31, u32, u33, u34, u35, u36, u37, u38, u39, u40, u41, u42, u43, u44, u45, iN j, u47, u48, u49, u50, u51, u52, u53, u54, u55, u56, u57, u58, u59, u60, u61, u62, u63, u64, u65, u66, u67, u68, u69, u70, u71], []⟩) ∧ (j ≤ 25) ∧ (V.heap[b]? = some (.cells (Wz (stp (fun i => Kec.g s i ^^^ Kec.dd s (i % 5)) j s)) 161 (0, 0))) ∧ (V.heap[gc]? = some (.cells (Wz ((List.range 5).map (Kec.col s))) 187 (0, 0))) ∧ (Keeps (One b) w V)) (fun a _ => 25 - (intOf (a.tmps.getD 46 undef)).toNat) (by kernel_rfl) ?_ ?_
      · exact ⟨0, undef, undef, undef, undef, undef, undef, undef, undef, undef, undef, undef, undef, undef, undef, undef, undef, undef, undef, undef, undef, undef, undef, undef, undef, undef, undef, undef, by kernel_rfl, by omega, h8, h20, K10⟩
      · rintro a V21 ⟨j, u4, u5, u47, u48, u49, u50, u51, u52, u53, u54, u55, u56, u57, u58, u59, u60, u61, u62, u63, u64, u65, u66, u67, u68, u69, u70, u71, rfl, hj, h22, h23, K24⟩
        by_cases lt_j : j < 25
        · show _
          refine qr_ [0] <| ppq (.bool true) (dct ((((j : Nat) : Int)) < ((25) : Int)) (by omega)) <| eq_ <| y_ <| s_ <| tq_ <| b_ 3 <| qr_ [0, 1] <| pkq (iN j) <| pkq (iN j) <| eqr_ [0, 1, 2] <| pkq (iN j) <| pkq (iN (j % 5)) <| pkq (iN (j % 5)) ?_
          refine et_ <| sy_reg <| rg_still 10 20 (opsAt (qc43_0 3891)) [qo43_0 3891 0, qo43_0 3891 1, qo43_0 3891 2, qo43_0 3891 3, qo43_0 3891 4, qo43_0 3891 5, qo43_0 3891 6, qo43_0 3891 7, qo43_0 3891 8, qo43_0 3891 9, qo43_0 3891 10, qo43_0 3891 11, qo43_0 3891 12, qo43_0 3891 13, qo43_0 3891 14, qo43_0 3891 15, qo43_0 3891 16, qo43_0 3891 17, qo43_0 3891 18, qo43_0 3891 19] [qo43_0 3891 20] (by kernel_rfl) (by kernel_rfl) (by kernel_rfl) (by kernel_rfl) (by kernel_rfl) ?_
          obtain ⟨V26, eV26, kV26⟩ := drew_step V21
          rw [eV26]
          clear eV26
          have h27 := kV26.bk h22
          have h28 := kV26.bk h23
          have K29 := K24.nn kV26
          refine skq (pT b 0) <| skq (iN j) <| skq (pT b 0) <| spq (pT b j) (exec_cast (v := pT b (0 + j * 1)) (by simp) (exec_indexAt_arr 161 (.tmp 53) (.tmp 52) (by kernel_rfl) b 0 (by kernel_rfl) .i64 j (by kernel_rfl) _ _ 1 Tryz.underlying161 (by kernel_rfl) (by omega))) <| spq (uN (Kec.g s j)) (ldc 24 b j (rc (h27) (Wz_get' _ j _ (by rw [stp_len, hs]; omega) (by rw [stp_get _ _ _ _ (by omega), if_neg (by omega)])))) <| skq (iN (j % 5)) <| spq (iN ((j % 5) + 4)) (exec_cast (congrArg (Value.int .i64) (wrapN ((j % 5) + 4) (by omega))) (by kernel_rfl)) <| skq (iN (((j % 5) + 4) % 5)) <| spq (.pointer (some ⟨gc, ((j % 5) + 4) % 5, none⟩)) (exec_cast (v := .pointer (some ⟨gc, 0 + (((j % 5) + 4) % 5) * 1, none⟩)) (by simp) (exec_indexAt_arr 187 (.tmp 2) (.tmp 58) (by kernel_rfl) gc 0 (by kernel_rfl) .i64 (((j % 5) + 4) % 5) (by kernel_rfl) _ _ 1 Tryz.underlying187 (by kernel_rfl) (by omega))) <| spq (uN (Kec.col s (((j % 5) + 4) % 5))) (exec_ld 24 (.tmp 59) gc (((j % 5) + 4) % 5) Tryz.underlying24 (rc (h28) (Wz_get' _ (((j % 5) + 4) % 5) _ (by rw [List.length_map, List.length_range]; omega) (g_map5 _ _ (by omega))))) <| skq (iN (j % 5)) <| spq (iN ((j % 5) + 1)) (exec_cast (congrArg (Value.int .i64) (wrapN ((j % 5) + 1) (by omega))) (by kernel_rfl)) <| skq (iN (((j % 5) + 1) % 5)) <| spq (.pointer (some ⟨gc, ((j % 5) + 1) % 5, none⟩)) (exec_cast (v := .pointer (some ⟨gc, 0 + (((j % 5) + 1) % 5) * 1, none⟩)) (by simp) (exec_indexAt_arr 187 (.tmp 2) (.tmp 63) (by kernel_rfl) gc 0 (by kernel_rfl) .i64 (((j % 5) + 1) % 5) (by kernel_rfl) _ _ 1 Tryz.underlying187 (by kernel_rfl) (by omega))) ?_
          refine spq (uN (Kec.col s (((j % 5) + 1) % 5))) (exec_ld 24 (.tmp 64) gc (((j % 5) + 1) % 5) Tryz.underlying24 (rc (h28) (Wz_get' _ (((j % 5) + 1) % 5) _ (by rw [List.length_map, List.length_range]; omega) (g_map5 _ _ (by omega))))) <| scq 169 #[uN (Kec.col s (((j % 5) + 1) % 5)), .int .i64 1] (uN (Kec.rot (Kec.col s (((j % 5) + 1) % 5)) 1)) Tryz.func169 (rotl_ok (Kec.col s (((j % 5) + 1) % 5)) 1 _ (Kec.col_lt ws _) (by omega)) <| spq (uN ((Kec.col s (((j % 5) + 4) % 5)) ^^^ (Kec.rot (Kec.col s (((j % 5) + 1) % 5)) 1))) (exec_cast (xorU (Kec.col s (((j % 5) + 4) % 5)) (Kec.rot (Kec.col s (((j % 5) + 1) % 5)) 1) (Kec.col_lt ws _) (Kec.rot_lt (Kec.col_lt ws _) _)) (by kernel_rfl)) <| spq (uN ((Kec.g s j) ^^^ ((Kec.col s (((j % 5) + 4) % 5)) ^^^ (Kec.rot (Kec.col s (((j % 5) + 1) % 5)) 1)))) (exec_cast (xorU (Kec.g s j) ((Kec.col s (((j % 5) + 4) % 5)) ^^^ (Kec.rot (Kec.col s (((j % 5) + 1) % 5)) 1)) (ws _) (Kec.xor_lt (Kec.col_lt ws _) (Kec.rot_lt (Kec.col_lt ws _) _))) (by kernel_rfl)) <| skq (pT b 0) <| spq (pT b j) (exec_cast (v := pT b (0 + j * 1)) (by simp) (exec_indexAt_arr 161 (.tmp 69) (.tmp 52) (by kernel_rfl) b 0 (by kernel_rfl) .i64 j (by kernel_rfl) _ _ 1 Tryz.underlying161 (by kernel_rfl) (by omega))) <| st_end ?_
          obtain ⟨V30, eV30, kV30⟩ := cell_step V26 b j (.int .u64 (((Kec.g s j) ^^^ ((Kec.col s (((j % 5) + 4) % 5)) ^^^ (Kec.rot (Kec.col s (((j % 5) + 1) % 5)) 1)) : Nat) : Int))
          have h31 : V30.heap[b]? = some (.cells (Wz (stp (fun i => Kec.g s i ^^^ Kec.dd s (i % 5)) (j + 1) s)) 161 (0, 0)) := eV30 ▸ ((heap_setCell_same _ b j _ _ (.int .u64 (((Kec.g s j) ^^^ ((Kec.col s (((j % 5) + 4) % 5)) ^^^ (Kec.rot (Kec.col s (((j % 5) + 1) % 5)) 1)) : Nat) : Int)) h27).trans (congrArg (fun c => some (Obj.cells c 161 (0, 0))) (show (Wz (stp (fun i => Kec.g s i ^^^ Kec.dd s (i % 5)) j s) : Array Value).setIfInBounds j (.int .u64 (((Kec.g s j) ^^^ ((Kec.col s (((j % 5) + 4) % 5)) ^^^ (Kec.rot (Kec.col s (((j % 5) + 1) % 5)) 1)) : Nat) : Int)) = Wz (stp (fun i => Kec.g s i ^^^ Kec.dd s (i % 5)) (j + 1) s) from by rw [Wz_set]; exact congrArg Wz (by rw [stp_succ] <;> rfl))))
          refine ls_skip (qo43_0 3891 20) (w' := V30) (by kernel_rfl) (by rw [← eV30]; exact exec_store_cell 24 (.tmp 70) (.tmp 68) (by kernel_rfl) b j (by kernel_rfl) (.int .u64 (((Kec.g s j) ^^^ ((Kec.col s (((j % 5) + 4) % 5)) ^^^ (Kec.rot (Kec.col s (((j % 5) + 1) % 5)) 1)) : Nat) : Int)) (by kernel_rfl) (by kernel_rfl) (by kernel_rfl) (.int .u64 ((Kec.g s j : Nat) : Int)) (rc (h27) (Wz_get' _ j _ (by rw [stp_len, hs]; omega) (by rw [stp_get _ _ _ _ (by omega), if_neg (by omega)]))) (frozen_of_row _ _ _ _ _ h27) (by kernel_rfl)) ?_
          clear eV30
          have h32 := kV30.bO h28
          have K33 : Keeps (One b) w V30 := K29.then kV30 (fun i hi hm => by unfold Own.One at hm; subst hm; exact rfl)
          refine ls_end <| sy_a ⟨#[pT b 0, ud, pT gc 0, u3, iN j, iN (j % 5), iN k, .bool false, u8, u9, u10, u11, u12, u13, u14, u15, u16, u17, u18, u19, u20, u21, u22, u23, u24, u25, u26, u27, u28, u29, u30, u31, u32, u33, u34, u35, u36, u37, u38, u39, u40, u41, u42, u43, u44, u45, iN j, .bool true, iN j, iN j, iN (j % 5), pT b 0, iN j, pT b 0, pT b j, uN (Kec.g s j), iN (j % 5), iN ((j % 5) + 4), iN (((j % 5) + 4) % 5), .pointer (some ⟨gc, ((j % 5) + 4) % 5, none⟩), uN (Kec.col s (((j % 5) + 4) % 5)), iN (j % 5), iN ((j % 5) + 1), iN (((j % 5) + 1) % 5), .pointer (some ⟨gc, ((j % 5) + 1) % 5, none⟩), uN (Kec.col s (((j % 5) + 1) % 5)), uN (Kec.rot (Kec.col s (((j % 5) + 1) % 5)) 1), uN ((Kec.col s (((j % 5) + 4) % 5)) ^^^ (Kec.rot (Kec.col s (((j % 5) + 1) % 5)) 1)), uN ((Kec.g s j) ^^^ ((Kec.col s (((j % 5) + 4) % 5)) ^^^ (Kec.rot (Kec.col s (((j % 5) + 1) % 5)) 1))), pT b 0, pT b j, u71], []⟩ <| blk_n <| tr_ [0, 1] <| ppq (iN (j + 1)) (exec_cast (congrArg (Value.int .i64) (wrapN (j + 1) (by omega))) (by kernel_rfl)) <| pkq (iN (j + 1)) <| et_ ?_
          refine ⟨⟨j + 1, (iN j), (iN (j % 5)), (.bool true), (iN j), (iN j), (iN (j % 5)), (pT b 0), (iN j), (pT b 0), (pT b j), (uN (Kec.g s j)), (iN (j % 5)), (iN ((j % 5) + 4)), (iN (((j % 5) + 4) % 5)), (.pointer (some ⟨gc, ((j % 5) + 4) % 5, none⟩)), (uN (Kec.col s (((j % 5) + 4) % 5))), (iN (j % 5)), (iN ((j % 5) + 1)), (iN (((j % 5) + 1) % 5)), (.pointer (some ⟨gc, ((j % 5) + 1) % 5, none⟩)), (uN (Kec.col s (((j % 5) + 1) % 5))), (uN (Kec.rot (Kec.col s (((j % 5) + 1) % 5)) 1)), (uN ((Kec.col s (((j % 5) + 4) % 5)) ^^^ (Kec.rot (Kec.col s (((j % 5) + 1) % 5)) 1))), (uN ((Kec.g s j) ^^^ ((Kec.col s (((j % 5) + 4) % 5)) ^^^ (Kec.rot (Kec.col s (((j % 5) + 1) % 5)) 1)))), (pT b 0), (pT b j), (iN (j + 1)), by kernel_rfl, by omega, h31, h32, K33⟩, ?_⟩
          exact lt_meas (x := 25 - (j + 1)) (y := 25 - j) (by kernel_rfl) (by kernel_rfl) (by omega)
        · have eq_j : j = 25 := by omega
          refine qr_ [0] <| ppq (.bool false) (dcf ((((j : Nat) : Int)) < ((25) : Int)) (by omega)) <| eq_ <| n_ <| sy_exit 2 (by kernel_rfl) <| then_e <| then_e <| blk_e <| sy_fall (.tuple #[]) rfl (by kernel_rfl) ?_
          exact ⟨rfl, h22.trans (by rw [eq_j, stp_all _ _ 25 hs]; rfl), K24⟩
noncomputable def qc43_1 (n : Nat) : Code := partOf Tryz.f170 n
theorem kturns_ok (w : World) :
    Calls Tryz.prog 170 #[] w (fun e w' => e = .returned (.agg Rz) ∧ Keeps Nob w w') := by
  have K0 : Keeps Nob w w := Keeps.refl _ _
  refine sy_enter (qc43_1 1) ⟨#[ud, ud], []⟩ Tryz.func170 (by kernel_rfl) (by kernel_rfl) <| qr_ [0] <| pal 189 (zr_i64_25) (.agg (zr_i64_25)) fun V1 g eg h2 kV1 => ?_
  have n3 : w.heap.size ≤ g := eg ▸ K0.size
  have K4 := K0.nn kV1
  refine eqr_ [0, 1] <| pkq (.agg #[.int .i64 0, .int .i64 1, .int .i64 62, .int .i64 28, .int .i64 27, .int .i64 36, .int .i64 44, .int .i64 6, .int .i64 55, .int .i64 20, .int .i64 3, .int .i64 10, .int .i64 43, .int .i64 25, .int .i64 39, .int .i64 41, .int .i64 45, .int .i64 15, .int .i64 21, .int .i64 8, .int .i64 18, .int .i64 2, .int .i64 61, .int .i64 56, .int .i64 14]) <| psk 189 g (#[.int .i64 0, .int .i64 1, .int .i64 62, .int .i64 28, .int .i64 27, .int .i64 36, .int .i64 44, .int .i64 6, .int .i64 55, .int .i64 20, .int .i64 3, .int .i64 10, .int .i64 43, .int .i64 25, .int .i64 39, .int .i64 41, .int .i64 45, .int .i64 15, .int .i64 21, .int .i64 8, .int .i64 18, .int .i64 2, .int .i64 61, .int .i64 56, .int .i64 14]) h2 fun V5 h6 kV5 => ?_
  have K7 := K4.nO kV5
  refine eu_ <| sy_out (.agg (#[.int .i64 0, .int .i64 1, .int .i64 62, .int .i64 28, .int .i64 27, .int .i64 36, .int .i64 44, .int .i64 6, .int .i64 55, .int .i64 20, .int .i64 3, .int .i64 10, .int .i64 43, .int .i64 25, .int .i64 39, .int .i64 41, .int .i64 45, .int .i64 15, .int .i64 21, .int .i64 8, .int .i64 18, .int .i64 2, .int .i64 61, .int .i64 56, .int .i64 14])) rfl (results_cell_row (p := 0) (ty := 189) (by kernel_rfl) _ _ g 189 (#[.int .i64 0, .int .i64 1, .int .i64 62, .int .i64 28, .int .i64 27, .int .i64 36, .int .i64 44, .int .i64 6, .int .i64 55, .int .i64 20, .int .i64 3, .int .i64 10, .int .i64 43, .int .i64 25, .int .i64 39, .int .i64 41, .int .i64 45, .int .i64 15, .int .i64 21, .int .i64 8, .int .i64 18, .int .i64 2, .int .i64 61, .int .i64 56, .int .i64 14]) (0, 0) _ (by kernel_rfl) h6 Tryz.underlying189 rfl (by kernel_rfl)) ?_
  exact ⟨congrArg Ending.returned (show _ = Value.agg Rz by kernel_rfl), K7⟩
noncomputable def qc43_3 (n : Nat) : Code := partOf Tryz.f163 n
noncomputable abbrev qo43_3 (n k : Nat) : Oper := (opsAt (qc43_3 n)).getD k default
theorem kmoves_ok (b : Nat) (s : List Nat) (w : World) (hs : s.length = 25) (ws : Kec.Ws s) (hb : w.heap[b]? = some (.cells (Wz s) 161 (0, 0))) :
    Calls Tryz.prog 163 #[.pointer (some ⟨b, 0, none⟩)] w (fun e w' => e = .returned (.tuple #[]) ∧ w'.heap[b]? = some (.cells (Wz (Kec.moves s)) 161 (0, 0)) ∧ Keeps (One b) w w') := by
  have K0 : Keeps (One b) w w := Keeps.refl _ _
  refine sy_enter (qc43_3 1) ⟨#[pT b 0, ud, ud, ud, ud, ud, ud, ud, ud, ud, ud, ud, ud, ud, ud, ud, ud, ud, ud, ud, ud, ud, ud, ud, ud, ud, ud, ud, ud, ud, ud, ud, ud, ud, ud], []⟩ Tryz.func163 (by kernel_rfl) (by kernel_rfl) <| qr_ [0, 1, 2, 3, 4] <| pkq (pT b 0) <| pkq (pT b 0) <| ppq (.agg (Wz s)) (ldr 161 b (hb) (by rw [Wz_size, hs]; kernel_rfl)) <| pal 161 (zr_u64_25) (.agg (zr_u64_25)) fun V1 gw egw h2 kV1 => ?_
  have n3 : b < gw := egw ▸ lt_of_block hb
  have n4 : w.heap.size ≤ gw := egw ▸ K0.size
  have h5 := kV1.bk hb
  have K6 := K0.nn kV1
  refine pst 161 gw ((Wz s)) h2 (by rw [Wz_size, hs]; kernel_rfl) (by rw [Wz_size, hs]; rfl) (Wz_one _) fun V7 h8 kV7 => ?_
  have h9 := kV7.bO h5
  have K10 := K6.nO kV7
  refine eqr_ [0, 1] ?_
  refine pcq 170 #[] Tryz.func170 ((kturns_ok _).mono ?_)
  rintro e V11 ⟨rfl, kV11⟩
  refine ⟨_, rfl, ?_⟩
  have h12 := kV11.bk h9
  have h13 := kV11.bk h8
  have K14 := K10.nn kV11
  refine pkq (.int .i64 0) <| et_ <| b_ 0 ?_
  refine sy_loop (qc43_3 28) (fun a V => ∃ (k : Nat) (u3 u4 u5 u6 u12 u13 u14 u15 u16 u17 u18 u19 u20 u21 u22 u23 u24 u25 u26 u27 u28 u29 u30 u31 u32 u33 u34 : Value), (a = ⟨#[pT b 0, ud, pT gw 0, u3, u4, u5, u6, pT b 0, pT b 0, .agg (Wz s), .agg Rz, iN k, u12, u13, u14, u15, u16, u17, u18, u19, u20, u21, u22, u23, u24, u25, u26, u27, u28, u29, u30, u31, u32, u33, u34], []⟩) ∧ (k ≤ 25) ∧ (V.heap[b]? = some (.cells (Wz (Kec.stpD Kec.dest (fun i => Kec.rot (Kec.g s i) (Kec.g Kec.R i)) k s)) 161 (0, 0))) ∧ (V.heap[gw]? = some (.cells (Wz s) 161 (0, 0))) ∧ (Keeps (One b) w V)) (fun a _ => 25 - (intOf (a.tmps.getD 11 undef)).toNat) (by kernel_rfl) ?_ ?_
  · exact ⟨0, undef, undef, undef, undef, undef, undef, undef, undef, undef, undef, undef, undef, undef, undef, undef, undef, undef, undef, undef, undef, undef, undef, undef, undef, undef, undef, undef, by kernel_rfl, by omega, h12, h13, K14⟩
  · rintro a V15 ⟨k, u3, u4, u5, u6, u12, u13, u14, u15, u16, u17, u18, u19, u20, u21, u22, u23, u24, u25, u26, u27, u28, u29, u30, u31, u32, u33, u34, rfl, hk, h16, h17, K18⟩
    by_cases lt_k : k < 25
    · have hdk := Kec.dest_lt k
      refine qr_ [0] <| ppq (.bool true) (dct ((((k : Nat) : Int)) < ((25) : Int)) (by omega)) <| eq_ <| y_ <| s_ <| tq_ <| b_ 1 <| qr_ [0, 1, 2, 3] <| pkq (iN k) <| ppq (iN (Kec.g Kec.R k)) (exec_index_arr 189 (.tmp 10) (.tmp 11) (by kernel_rfl) Rz (by kernel_rfl) .i64 k (by kernel_rfl) 25 3 Tryz.underlying189 (by kernel_rfl) (by kernel_rfl) (by omega) _ (Rz_get k (by omega))) <| pkq (iN k) <| pkq (iN (Kec.g Kec.R k)) <| eqr_ [0, 1, 2, 3, 4, 5] <| pkq (iN k) ?_
      refine pkq (iN (k % 5)) <| pkq (iN k) <| ppq (iN (k / 5)) (exec_cast (congrArg (Value.int .i64) (wrapN (k / 5) (by omega))) (by kernel_rfl)) <| pkq (iN (k % 5)) <| pkq (iN (k / 5)) <| et_ <| sy_reg <| rg_still 5 15 (opsAt (qc43_3 1843)) [qo43_3 1843 0, qo43_3 1843 1, qo43_3 1843 2, qo43_3 1843 3, qo43_3 1843 4, qo43_3 1843 5, qo43_3 1843 6, qo43_3 1843 7, qo43_3 1843 8, qo43_3 1843 9, qo43_3 1843 10, qo43_3 1843 11, qo43_3 1843 12, qo43_3 1843 13, qo43_3 1843 14] [qo43_3 1843 15] (by kernel_rfl) (by kernel_rfl) (by kernel_rfl) (by kernel_rfl) (by kernel_rfl) ?_
      obtain ⟨V20, eV20, kV20⟩ := drew_step V15
      rw [eV20]
      clear eV20
      have h21 := kV20.bk h16
      have h22 := kV20.bk h17
      have K23 := K18.nn kV20
      refine skq (pT b 0) <| skq (iN (k / 5)) <| skq (iN (k % 5)) <| spq (iN (2 * (k % 5))) (exec_cast (congrArg (Value.int .i64) (wrapN (2 * (k % 5)) (by omega))) (by kernel_rfl)) <| skq (iN (k / 5)) <| spq (iN (3 * (k / 5))) (exec_cast (congrArg (Value.int .i64) (wrapN (3 * (k / 5)) (by omega))) (by kernel_rfl)) <| spq (iN ((2 * (k % 5)) + (3 * (k / 5)))) (exec_cast (congrArg (Value.int .i64) (wrapN ((2 * (k % 5)) + (3 * (k / 5))) (by omega))) (by kernel_rfl)) <| scq 168 #[iN (k / 5), iN ((2 * (k % 5)) + (3 * (k / 5)))] (iN (Kec.dest k)) Tryz.func168 (kat_as (k / 5) ((2 * (k % 5)) + (3 * (k / 5))) (Kec.dest k) _ (by omega) (by omega) (rfl)) <| skq (iN k) <| spq (pT gw k) (exec_cast (v := pT gw (0 + k * 1)) (by simp) (exec_indexAt_arr 161 (.tmp 2) (.tmp 27) (by kernel_rfl) gw 0 (by kernel_rfl) .i64 k (by kernel_rfl) _ _ 1 Tryz.underlying161 (by kernel_rfl) (by omega))) <| spq (uN (Kec.g s k)) (ldc 24 gw k (rc (h22) (Wz_get _ k (by rw [hs]; omega)))) <| skq (iN (Kec.g Kec.R k)) <| scq 169 #[uN (Kec.g s k), iN (Kec.g Kec.R k)] (uN (Kec.rot (Kec.g s k) (Kec.g Kec.R k))) Tryz.func169 (rotl_ok (Kec.g s k) (Kec.g Kec.R k) _ (ws _) (Kec.R_lt' _ (by omega))) <| skq (pT b 0) ?_
      refine spq (.pointer (some ⟨b, Kec.dest k, none⟩)) (exec_cast (v := .pointer (some ⟨b, 0 + (Kec.dest k) * 1, none⟩)) (by simp) (exec_indexAt_arr 161 (.tmp 32) (.tmp 26) (by kernel_rfl) b 0 (by kernel_rfl) .i64 (Kec.dest k) (by kernel_rfl) _ _ 1 Tryz.underlying161 (by kernel_rfl) (by omega))) <| st_end ?_
      obtain ⟨V24, eV24, kV24⟩ := cell_step V20 b (Kec.dest k) (.int .u64 ((Kec.rot (Kec.g s k) (Kec.g Kec.R k) : Nat) : Int))
      have h25 : V24.heap[b]? = some (.cells (Wz (Kec.stpD Kec.dest (fun i => Kec.rot (Kec.g s i) (Kec.g Kec.R i)) (k + 1) s)) 161 (0, 0)) := eV24 ▸ ((heap_setCell_same _ b (Kec.dest k) _ _ (.int .u64 ((Kec.rot (Kec.g s k) (Kec.g Kec.R k) : Nat) : Int)) h21).trans (congrArg (fun c => some (Obj.cells c 161 (0, 0))) (show (Wz (Kec.stpD Kec.dest (fun i => Kec.rot (Kec.g s i) (Kec.g Kec.R i)) k s) : Array Value).setIfInBounds (Kec.dest k) (.int .u64 ((Kec.rot (Kec.g s k) (Kec.g Kec.R k) : Nat) : Int)) = Wz (Kec.stpD Kec.dest (fun i => Kec.rot (Kec.g s i) (Kec.g Kec.R i)) (k + 1) s) from by rw [Wz_set]; exact congrArg Wz (by rw [Kec.stpD_succ]))))
      refine ls_skip (qo43_3 1843 15) (w' := V24) (by kernel_rfl) (by rw [← eV24]; exact exec_store_cell 24 (.tmp 33) (.tmp 31) (by kernel_rfl) b (Kec.dest k) (by kernel_rfl) (.int .u64 ((Kec.rot (Kec.g s k) (Kec.g Kec.R k) : Nat) : Int)) (by kernel_rfl) (by kernel_rfl) (by kernel_rfl) (.int .u64 ((Kec.g (Kec.stpD Kec.dest (fun i => Kec.rot (Kec.g s i) (Kec.g Kec.R i)) k s) (Kec.dest k) : Nat) : Int)) (rc (h21) (Wz_get _ (Kec.dest k) (by rw [Kec.stpD_len, hs]; omega))) (frozen_of_row _ _ _ _ _ h21) (by kernel_rfl)) ?_
      clear eV24
      have h26 := kV24.bO h22
      have K27 : Keeps (One b) w V24 := K23.then kV24 (fun i hi hm => by unfold Own.One at hm; subst hm; exact rfl)
      refine ls_end <| sy_a ⟨#[pT b 0, ud, pT gw 0, iN k, iN (Kec.g Kec.R k), iN (k % 5), iN (k / 5), pT b 0, pT b 0, .agg (Wz s), .agg Rz, iN k, .bool true, iN k, iN (Kec.g Kec.R k), iN k, iN (k % 5), iN k, iN (k / 5), pT b 0, iN (k / 5), iN (k % 5), iN (2 * (k % 5)), iN (k / 5), iN (3 * (k / 5)), iN ((2 * (k % 5)) + (3 * (k / 5))), iN (Kec.dest k), iN k, pT gw k, uN (Kec.g s k), iN (Kec.g Kec.R k), uN (Kec.rot (Kec.g s k) (Kec.g Kec.R k)), pT b 0, .pointer (some ⟨b, Kec.dest k, none⟩), u34], []⟩ <| blk_n <| tr_ [0, 1] <| ppq (iN (k + 1)) (exec_cast (congrArg (Value.int .i64) (wrapN (k + 1) (by omega))) (by kernel_rfl)) <| pkq (iN (k + 1)) <| et_ ?_
      refine ⟨⟨k + 1, (iN k), (iN (Kec.g Kec.R k)), (iN (k % 5)), (iN (k / 5)), (.bool true), (iN k), (iN (Kec.g Kec.R k)), (iN k), (iN (k % 5)), (iN k), (iN (k / 5)), (pT b 0), (iN (k / 5)), (iN (k % 5)), (iN (2 * (k % 5))), (iN (k / 5)), (iN (3 * (k / 5))), (iN ((2 * (k % 5)) + (3 * (k / 5)))), (iN (Kec.dest k)), (iN k), (pT gw k), (uN (Kec.g s k)), (iN (Kec.g Kec.R k)), (uN (Kec.rot (Kec.g s k) (Kec.g Kec.R k))), (pT b 0), (.pointer (some ⟨b, Kec.dest k, none⟩)), (iN (k + 1)), by kernel_rfl, by omega, h25, h26, K27⟩, ?_⟩
      exact lt_meas (x := 25 - (k + 1)) (y := 25 - k) (by kernel_rfl) (by kernel_rfl) (by omega)
    · have eq_k : k = 25 := by omega
      refine qr_ [0] <| ppq (.bool false) (dcf ((((k : Nat) : Int)) < ((25) : Int)) (by omega)) <| eq_ <| n_ <| sy_exit 0 (by kernel_rfl) <| then_e <| then_e <| blk_e <| sy_fall (.tuple #[]) rfl (by kernel_rfl) ?_
      exact ⟨rfl, h16.trans (by rw [eq_k, Kec.stpD_moves _ _ hs]; rfl), K18⟩
noncomputable def qc43_2 (n : Nat) : Code := partOf Tryz.f164 n
noncomputable abbrev qo43_2 (n k : Nat) : Oper := (opsAt (qc43_2 n)).getD k default
theorem kmixes_ok (b : Nat) (s : List Nat) (w : World) (hs : s.length = 25) (ws : Kec.Ws s) (hb : w.heap[b]? = some (.cells (Wz s) 161 (0, 0))) :
    Calls Tryz.prog 164 #[.pointer (some ⟨b, 0, none⟩)] w (fun e w' => e = .returned (.tuple #[]) ∧ w'.heap[b]? = some (.cells (Wz (Kec.mixes s)) 161 (0, 0)) ∧ Keeps (One b) w w') := by
  have K0 : Keeps (One b) w w := Keeps.refl _ _
  refine sy_enter (qc43_2 1) ⟨#[pT b 0, ud, ud, ud, ud, ud, ud, ud, ud, ud, ud, ud, ud, ud, ud, ud, ud, ud, ud, ud, ud, ud, ud, ud, ud, ud, ud, ud, ud, ud, ud, ud, ud, ud, ud, ud, ud, ud, ud], []⟩ Tryz.func164 (by kernel_rfl) (by kernel_rfl) <| qr_ [0, 1, 2, 3, 4] <| pkq (pT b 0) <| pkq (pT b 0) <| ppq (.agg (Wz s)) (ldr 161 b (hb) (by rw [Wz_size, hs]; kernel_rfl)) <| pal 161 (zr_u64_25) (.agg (zr_u64_25)) fun V1 gw egw h2 kV1 => ?_
  have n3 : b < gw := egw ▸ lt_of_block hb
  have n4 : w.heap.size ≤ gw := egw ▸ K0.size
  have h5 := kV1.bk hb
  have K6 := K0.nn kV1
  refine pst 161 gw ((Wz s)) h2 (by rw [Wz_size, hs]; kernel_rfl) (by rw [Wz_size, hs]; rfl) (Wz_one _) fun V7 h8 kV7 => ?_
  have h9 := kV7.bO h5
  have K10 := K6.nO kV7
  refine eqr_ [0] <| pkq (.int .i64 0) <| et_ <| b_ 0 ?_
  refine sy_loop (qc43_2 28) (fun a V => ∃ (k : Nat) (u3 u4 u5 u10 u11 u12 u13 u14 u15 u16 u17 u18 u19 u20 u21 u22 u23 u24 u25 u26 u27 u28 u29 u30 u31 u32 u33 u34 u35 u36 u37 u38 : Value), (a = ⟨#[pT b 0, ud, pT gw 0, u3, u4, u5, pT b 0, pT b 0, .agg (Wz s), iN k, u10, u11, u12, u13, u14, u15, u16, u17, u18, u19, u20, u21, u22, u23, u24, u25, u26, u27, u28, u29, u30, u31, u32, u33, u34, u35, u36, u37, u38], []⟩) ∧ (k ≤ 25) ∧ (V.heap[b]? = some (.cells (Wz (stp (fun i => Kec.g s i ^^^ ((Kec.W - 1 - Kec.g s (Kec.at_ (i % 5 + 1) (i / 5))) &&& Kec.g s (Kec.at_ (i % 5 + 2) (i / 5)))) k s)) 161 (0, 0))) ∧ (V.heap[gw]? = some (.cells (Wz s) 161 (0, 0))) ∧ (Keeps (One b) w V)) (fun a _ => 25 - (intOf (a.tmps.getD 9 undef)).toNat) (by kernel_rfl) ?_ ?_
  · exact ⟨0, undef, undef, undef, undef, undef, undef, undef, undef, undef, undef, undef, undef, undef, undef, undef, undef, undef, undef, undef, undef, undef, undef, undef, undef, undef, undef, undef, undef, undef, undef, undef, undef, by kernel_rfl, by omega, h9, h8, K10⟩
  · rintro a V11 ⟨k, u3, u4, u5, u10, u11, u12, u13, u14, u15, u16, u17, u18, u19, u20, u21, u22, u23, u24, u25, u26, u27, u28, u29, u30, u31, u32, u33, u34, u35, u36, u37, u38, rfl, hk, h12, h13, K14⟩
    by_cases lt_k : k < 25
    · have ha1 := Kec.at_lt (k % 5 + 1) (k / 5)
      have ha2 := Kec.at_lt (k % 5 + 2) (k / 5)
      refine qr_ [0] <| ppq (.bool true) (dct ((((k : Nat) : Int)) < ((25) : Int)) (by omega)) <| eq_ <| y_ <| s_ <| tq_ <| b_ 1 <| qr_ [0, 1] <| pkq (iN k) <| pkq (iN k) <| eqr_ [0, 1, 2, 3, 4, 5] <| pkq (iN k) <| pkq (iN (k % 5)) <| pkq (iN k) ?_
      refine ppq (iN (k / 5)) (exec_cast (congrArg (Value.int .i64) (wrapN (k / 5) (by omega))) (by kernel_rfl)) <| pkq (iN (k % 5)) <| pkq (iN (k / 5)) <| et_ <| sy_reg <| rg_still 5 22 (opsAt (qc43_2 1843)) [qo43_2 1843 0, qo43_2 1843 1, qo43_2 1843 2, qo43_2 1843 3, qo43_2 1843 4, qo43_2 1843 5, qo43_2 1843 6, qo43_2 1843 7, qo43_2 1843 8, qo43_2 1843 9, qo43_2 1843 10, qo43_2 1843 11, qo43_2 1843 12, qo43_2 1843 13, qo43_2 1843 14, qo43_2 1843 15, qo43_2 1843 16, qo43_2 1843 17, qo43_2 1843 18, qo43_2 1843 19, qo43_2 1843 20, qo43_2 1843 21] [qo43_2 1843 22] (by kernel_rfl) (by kernel_rfl) (by kernel_rfl) (by kernel_rfl) (by kernel_rfl) ?_
      obtain ⟨V16, eV16, kV16⟩ := drew_step V11
      rw [eV16]
      clear eV16
      have h17 := kV16.bk h12
      have h18 := kV16.bk h13
      have K19 := K14.nn kV16
      refine skq (pT b 0) <| skq (iN k) <| skq (pT b 0) <| spq (pT b k) (exec_cast (v := pT b (0 + k * 1)) (by simp) (exec_indexAt_arr 161 (.tmp 18) (.tmp 17) (by kernel_rfl) b 0 (by kernel_rfl) .i64 k (by kernel_rfl) _ _ 1 Tryz.underlying161 (by kernel_rfl) (by omega))) <| spq (uN (Kec.g s k)) (ldc 24 b k (rc (h17) (Wz_get' _ k _ (by rw [stp_len, hs]; omega) (by rw [stp_get _ _ _ _ (by omega), if_neg (by omega)])))) <| skq (iN (k % 5)) <| spq (iN ((k % 5) + 1)) (exec_cast (congrArg (Value.int .i64) (wrapN ((k % 5) + 1) (by omega))) (by kernel_rfl)) <| skq (iN (k / 5)) <| scq 168 #[iN ((k % 5) + 1), iN (k / 5)] (iN (Kec.at_ ((k % 5) + 1) (k / 5))) Tryz.func168 (kat_as ((k % 5) + 1) (k / 5) (Kec.at_ ((k % 5) + 1) (k / 5)) _ (by omega) (by omega) (rfl)) <| spq (.pointer (some ⟨gw, Kec.at_ ((k % 5) + 1) (k / 5), none⟩)) (exec_cast (v := .pointer (some ⟨gw, 0 + (Kec.at_ ((k % 5) + 1) (k / 5)) * 1, none⟩)) (by simp) (exec_indexAt_arr 161 (.tmp 2) (.tmp 24) (by kernel_rfl) gw 0 (by kernel_rfl) .i64 (Kec.at_ ((k % 5) + 1) (k / 5)) (by kernel_rfl) _ _ 1 Tryz.underlying161 (by kernel_rfl) (by omega))) <| spq (uN (Kec.g s (Kec.at_ ((k % 5) + 1) (k / 5)))) (exec_ld 24 (.tmp 25) gw (Kec.at_ ((k % 5) + 1) (k / 5)) Tryz.underlying24 (rc (h18) (Wz_get _ (Kec.at_ ((k % 5) + 1) (k / 5)) (by rw [hs]; omega)))) <| spq (uN (Kec.W - 1 - (Kec.g s (Kec.at_ ((k % 5) + 1) (k / 5))))) (exec_cast (notU (Kec.g s (Kec.at_ ((k % 5) + 1) (k / 5))) (ws _)) (by kernel_rfl)) <| skq (iN (k % 5)) <| spq (iN ((k % 5) + 2)) (exec_cast (congrArg (Value.int .i64) (wrapN ((k % 5) + 2) (by omega))) (by kernel_rfl)) ?_
      refine skq (iN (k / 5)) <| scq 168 #[iN ((k % 5) + 2), iN (k / 5)] (iN (Kec.at_ ((k % 5) + 2) (k / 5))) Tryz.func168 (kat_as ((k % 5) + 2) (k / 5) (Kec.at_ ((k % 5) + 2) (k / 5)) _ (by omega) (by omega) (rfl)) <| spq (.pointer (some ⟨gw, Kec.at_ ((k % 5) + 2) (k / 5), none⟩)) (exec_cast (v := .pointer (some ⟨gw, 0 + (Kec.at_ ((k % 5) + 2) (k / 5)) * 1, none⟩)) (by simp) (exec_indexAt_arr 161 (.tmp 2) (.tmp 31) (by kernel_rfl) gw 0 (by kernel_rfl) .i64 (Kec.at_ ((k % 5) + 2) (k / 5)) (by kernel_rfl) _ _ 1 Tryz.underlying161 (by kernel_rfl) (by omega))) <| spq (uN (Kec.g s (Kec.at_ ((k % 5) + 2) (k / 5)))) (exec_ld 24 (.tmp 32) gw (Kec.at_ ((k % 5) + 2) (k / 5)) Tryz.underlying24 (rc (h18) (Wz_get _ (Kec.at_ ((k % 5) + 2) (k / 5)) (by rw [hs]; omega)))) <| spq (uN ((Kec.W - 1 - (Kec.g s (Kec.at_ ((k % 5) + 1) (k / 5)))) &&& (Kec.g s (Kec.at_ ((k % 5) + 2) (k / 5))))) (exec_cast (andU (Kec.W - 1 - (Kec.g s (Kec.at_ ((k % 5) + 1) (k / 5)))) (Kec.g s (Kec.at_ ((k % 5) + 2) (k / 5))) (Kec.sub_lt _) (ws _)) (by kernel_rfl)) <| spq (uN ((Kec.g s k) ^^^ ((Kec.W - 1 - (Kec.g s (Kec.at_ ((k % 5) + 1) (k / 5)))) &&& (Kec.g s (Kec.at_ ((k % 5) + 2) (k / 5)))))) (exec_cast (xorU (Kec.g s k) ((Kec.W - 1 - (Kec.g s (Kec.at_ ((k % 5) + 1) (k / 5)))) &&& (Kec.g s (Kec.at_ ((k % 5) + 2) (k / 5)))) (ws _) (Kec.and_lt (ws _))) (by kernel_rfl)) <| skq (pT b 0) <| spq (pT b k) (exec_cast (v := pT b (0 + k * 1)) (by simp) (exec_indexAt_arr 161 (.tmp 36) (.tmp 17) (by kernel_rfl) b 0 (by kernel_rfl) .i64 k (by kernel_rfl) _ _ 1 Tryz.underlying161 (by kernel_rfl) (by omega))) <| st_end ?_
      obtain ⟨V20, eV20, kV20⟩ := cell_step V16 b k (.int .u64 (((Kec.g s k) ^^^ ((Kec.W - 1 - (Kec.g s (Kec.at_ ((k % 5) + 1) (k / 5)))) &&& (Kec.g s (Kec.at_ ((k % 5) + 2) (k / 5)))) : Nat) : Int))
      have h21 : V20.heap[b]? = some (.cells (Wz (stp (fun i => Kec.g s i ^^^ ((Kec.W - 1 - Kec.g s (Kec.at_ (i % 5 + 1) (i / 5))) &&& Kec.g s (Kec.at_ (i % 5 + 2) (i / 5)))) (k + 1) s)) 161 (0, 0)) := eV20 ▸ ((heap_setCell_same _ b k _ _ (.int .u64 (((Kec.g s k) ^^^ ((Kec.W - 1 - (Kec.g s (Kec.at_ ((k % 5) + 1) (k / 5)))) &&& (Kec.g s (Kec.at_ ((k % 5) + 2) (k / 5)))) : Nat) : Int)) h17).trans (congrArg (fun c => some (Obj.cells c 161 (0, 0))) (show (Wz (stp (fun i => Kec.g s i ^^^ ((Kec.W - 1 - Kec.g s (Kec.at_ (i % 5 + 1) (i / 5))) &&& Kec.g s (Kec.at_ (i % 5 + 2) (i / 5)))) k s) : Array Value).setIfInBounds k (.int .u64 (((Kec.g s k) ^^^ ((Kec.W - 1 - (Kec.g s (Kec.at_ ((k % 5) + 1) (k / 5)))) &&& (Kec.g s (Kec.at_ ((k % 5) + 2) (k / 5)))) : Nat) : Int)) = Wz (stp (fun i => Kec.g s i ^^^ ((Kec.W - 1 - Kec.g s (Kec.at_ (i % 5 + 1) (i / 5))) &&& Kec.g s (Kec.at_ (i % 5 + 2) (i / 5)))) (k + 1) s) from by rw [Wz_set]; exact congrArg Wz (by rw [stp_succ] <;> rfl))))
      refine ls_skip (qo43_2 1843 22) (w' := V20) (by kernel_rfl) (by rw [← eV20]; exact exec_store_cell 24 (.tmp 37) (.tmp 35) (by kernel_rfl) b k (by kernel_rfl) (.int .u64 (((Kec.g s k) ^^^ ((Kec.W - 1 - (Kec.g s (Kec.at_ ((k % 5) + 1) (k / 5)))) &&& (Kec.g s (Kec.at_ ((k % 5) + 2) (k / 5)))) : Nat) : Int)) (by kernel_rfl) (by kernel_rfl) (by kernel_rfl) (.int .u64 ((Kec.g s k : Nat) : Int)) (rc (h17) (Wz_get' _ k _ (by rw [stp_len, hs]; omega) (by rw [stp_get _ _ _ _ (by omega), if_neg (by omega)]))) (frozen_of_row _ _ _ _ _ h17) (by kernel_rfl)) ?_
      clear eV20
      have h22 := kV20.bO h18
      have K23 : Keeps (One b) w V20 := K19.then kV20 (fun i hi hm => by unfold Own.One at hm; subst hm; exact rfl)
      refine ls_end <| sy_a ⟨#[pT b 0, ud, pT gw 0, iN k, iN (k % 5), iN (k / 5), pT b 0, pT b 0, .agg (Wz s), iN k, .bool true, iN k, iN k, iN (k % 5), iN k, iN (k / 5), pT b 0, iN k, pT b 0, pT b k, uN (Kec.g s k), iN (k % 5), iN ((k % 5) + 1), iN (k / 5), iN (Kec.at_ ((k % 5) + 1) (k / 5)), .pointer (some ⟨gw, Kec.at_ ((k % 5) + 1) (k / 5), none⟩), uN (Kec.g s (Kec.at_ ((k % 5) + 1) (k / 5))), uN (Kec.W - 1 - (Kec.g s (Kec.at_ ((k % 5) + 1) (k / 5)))), iN (k % 5), iN ((k % 5) + 2), iN (k / 5), iN (Kec.at_ ((k % 5) + 2) (k / 5)), .pointer (some ⟨gw, Kec.at_ ((k % 5) + 2) (k / 5), none⟩), uN (Kec.g s (Kec.at_ ((k % 5) + 2) (k / 5))), uN ((Kec.W - 1 - (Kec.g s (Kec.at_ ((k % 5) + 1) (k / 5)))) &&& (Kec.g s (Kec.at_ ((k % 5) + 2) (k / 5)))), uN ((Kec.g s k) ^^^ ((Kec.W - 1 - (Kec.g s (Kec.at_ ((k % 5) + 1) (k / 5)))) &&& (Kec.g s (Kec.at_ ((k % 5) + 2) (k / 5))))), pT b 0, pT b k, u38], []⟩ <| blk_n <| tr_ [0, 1] <| ppq (iN (k + 1)) (exec_cast (congrArg (Value.int .i64) (wrapN (k + 1) (by omega))) (by kernel_rfl)) <| pkq (iN (k + 1)) <| et_ ?_
      refine ⟨⟨k + 1, (iN k), (iN (k % 5)), (iN (k / 5)), (.bool true), (iN k), (iN k), (iN (k % 5)), (iN k), (iN (k / 5)), (pT b 0), (iN k), (pT b 0), (pT b k), (uN (Kec.g s k)), (iN (k % 5)), (iN ((k % 5) + 1)), (iN (k / 5)), (iN (Kec.at_ ((k % 5) + 1) (k / 5))), (.pointer (some ⟨gw, Kec.at_ ((k % 5) + 1) (k / 5), none⟩)), (uN (Kec.g s (Kec.at_ ((k % 5) + 1) (k / 5)))), (uN (Kec.W - 1 - (Kec.g s (Kec.at_ ((k % 5) + 1) (k / 5))))), (iN (k % 5)), (iN ((k % 5) + 2)), (iN (k / 5)), (iN (Kec.at_ ((k % 5) + 2) (k / 5))), (.pointer (some ⟨gw, Kec.at_ ((k % 5) + 2) (k / 5), none⟩)), (uN (Kec.g s (Kec.at_ ((k % 5) + 2) (k / 5)))), (uN ((Kec.W - 1 - (Kec.g s (Kec.at_ ((k % 5) + 1) (k / 5)))) &&& (Kec.g s (Kec.at_ ((k % 5) + 2) (k / 5))))), (uN ((Kec.g s k) ^^^ ((Kec.W - 1 - (Kec.g s (Kec.at_ ((k % 5) + 1) (k / 5)))) &&& (Kec.g s (Kec.at_ ((k % 5) + 2) (k / 5)))))), (pT b 0), (pT b k), (iN (k + 1)), by kernel_rfl, by omega, h21, h22, K23⟩, ?_⟩
      exact lt_meas (x := 25 - (k + 1)) (y := 25 - k) (by kernel_rfl) (by kernel_rfl) (by omega)
    · have eq_k : k = 25 := by omega
      refine qr_ [0] <| ppq (.bool false) (dcf ((((k : Nat) : Int)) < ((25) : Int)) (by omega)) <| eq_ <| n_ <| sy_exit 0 (by kernel_rfl) <| then_e <| then_e <| blk_e <| sy_fall (.tuple #[]) rfl (by kernel_rfl) ?_
      exact ⟨rfl, h12.trans (by rw [eq_k, stp_all _ _ 25 hs]; rfl), K14⟩
end Go.Proofs.YtcbfnflnokoacaaGreat
namespace Go.Own
set_option maxRecDepth 100000
set_option maxHeartbeats 4000000
open Go Go.RowKit Go.Shelf
section
variable {P : Program} {ops : Array Oper} {Q : Exit → Act → World → Prop} {md : Region.Mode} {l n : Nat}
theorem wpIn_of_wpOper {o : Oper} {a : Act} {w : World} {K K' : Act → World → Prop} (hd : ∀ c, o.op ≠ .defer c) (hL : ¬ LetsOut Q) (h : ∀ a w, K a w → K' a w) (hh : o.wp P a w K Q) : o.wpIn (Fence.wide.inRound l) n P a w K' Q := by
  unfold Oper.wp at hh
  unfold Oper.wpIn
  refine ⟨fun _ _ => trivial, ?_⟩
  rw [Oper.semAt_eq _ _ _ hd]
  generalize (execOp a.eval o).run P w = r at *
  cases r with
  | ok x w' =>
    cases x <;> simp only [Oper.upon] at hh <;> simp only [Oper.uponIn]
    case value u => exact h _ _ hh
    case skip => exact h _ _ hh
    case defer d => exact h _ _ hh
    case enter f args =>
      refine ⟨fun hx => by simp [Fence.wide, Fence.inRound] at hx, (CallsIn.inRound l (callsIn_wide.2 hh)).mono fun e w'' he => ?_⟩
      cases e with
      | returned v => exact h _ _ he
      | panicked c => exact he
      | outgrown => exact absurd he hL
    case row row args =>
      refine ⟨fun hx => by simp [Fence.wide, Fence.inRound] at hx, ?_⟩
      have h2 : RowsIn Fence.wide (n - 1) P row args w' fun v w'' => K' (a.put o.dst v) w'' := fun c cs _ => let ⟨v, w2, r, s⟩ := hh c cs; ⟨v, w2, h _ _ r, stepsIn_wide.2 s⟩
      exact h2
  | halt x w' =>
    cases x <;> simp only [Oper.upon] at hh <;> simp only [Oper.uponIn]
    exact hh
theorem wpOpIn_of_wpOp {i : Nat} {a : Act} {w : World} {K K' : Act → World → Prop} (hd : noDefer ops = true) (hL : ¬ LetsOut Q) (h : ∀ a w, K a w → K' a w) (hh : wpOp P ops Q i K a w) : wpOpIn (Fence.wide.inRound l) n P ops Q i K' a w := by
  unfold wpOp at hh
  unfold wpOpIn
  split
  · rename_i ho; simp only [ho] at hh; exact h _ _ hh
  · rename_i o ho
    simp only [ho] at hh
    split
    · rename_i hw; simp only [hw, if_true] at hh
      rcases hh with hh | hh
      · refine wpIn_of_wpOper (fun c hc => ?_) hL h hh
        have := Array.all_eq_true.1 hd i (Array.getElem?_eq_some_iff.1 ho).1
        rw [(Array.getElem?_eq_some_iff.1 ho).2, hc] at this
        cases this
      · exact absurd hh.2 hL
    · rename_i hw; simp only [hw] at hh; exact ⟨fun _ _ => trivial, h _ _ hh⟩
theorem wpOpsIn_of_wpOps (hd : noDefer ops = true) (hL : ¬ LetsOut Q) : ∀ (is : List Nat) (a : Act) (w : World), wpOps P ops Q is a w → wpOpsIn (Fence.wide.inRound l) n P ops Q is a w
  | [], _, _, h => h
  | i :: r, a, w, h => by
    rw [wpOpsIn_cons]
    rw [wpOps_cons] at h
    exact wpOpIn_of_wpOp hd hL (fun a w => wpOpsIn_of_wpOps hd hL r a w) h
theorem wpAnyIn_of_wpAny (hd : noDefer ops = true) (hL : ¬ LetsOut Q) : ∀ (fuel : Nat) (listed : Array Bool) (a : Act) (w : World), wpAny P md ops Q fuel listed a w → wpAnyIn (Fence.wide.inRound l) n P md ops Q fuel listed a w
  | 0, _, _, _, h => h
  | fuel + 1, _, _, _, h => ⟨h.1, fun i hi => wpOpIn_of_wpOp hd hL (fun a w => wpAnyIn_of_wpAny hd hL fuel _ a w) (h.2 i hi)⟩
variable {a : Act} {w : World} {c : Code}
theorem syI_reg (hd : noDefer (opsAt c) = true) (hL : ¬ LetsOut Q) (h : RegW P c Q a w) : c.wpIn (Fence.wide.inRound l) n P Q a w := by
  rcases h with ⟨id, ops, rfl, h⟩ | ⟨id, ops, rfl, hm, h⟩
  · exact wpIn_region (wpOpsIn_of_wpOps hd hL _ _ _ h)
  · exact wpIn_region_any hm (wpAnyIn_of_wpAny hd hL _ _ _ _ h)
variable {F : Fence}
theorem syI_seq (x y : Code) (hc : c = .seq x y) (h : x.wpIn F n P (Exit.then (y.wpIn F n P Q) Q) a w) : c.wpIn F n P Q a w := hc ▸ wpIn_seq h
theorem syI_block (id : Nat) (x : Code) (hc : c = .block id x) (h : x.wpIn F n P (Exit.inBlock id Q) a w) : c.wpIn F n P Q a w := hc ▸ wpIn_block h
theorem syI_yes (o : Operand) (x y : Code) (hc : c = .cond o x y) (ho : a.eval o = .bool true) (h : x.wpIn F n P Q a w) : c.wpIn F n P Q a w := hc ▸ wpIn_cond_true ho h
theorem syI_no (o : Operand) (x y : Code) (hc : c = .cond o x y) (ho : a.eval o = .bool false) (h : y.wpIn F n P Q a w) : c.wpIn F n P Q a w := hc ▸ wpIn_cond_false ho h
theorem syI_skip (hc : c = .skip) (h : Q .normal a w) : c.wpIn F n P Q a w := hc ▸ wpIn_skip h
theorem syI_exit (id : Nat) (hc : c = .exit id) (h : Q (.exit id) a w) : c.wpIn F n P Q a w := hc ▸ wpIn_exit h
theorem syI_frame (b : Act) (h : a = b) (hq : c.wpIn F n P Q b w) : c.wpIn F n P Q a w := h ▸ hq
end
end Go.Own
namespace Go.Proofs.YtcbfnflnokoacaaGreat
set_option maxRecDepth 100000
set_option maxHeartbeats 4000000
open Go Go.RowKit Go.Own Go.Shelf
attribute [local go_sem] Oper.semAt_some
theorem kregister_ok (w : World) : Calls Tryz.prog 171 #[] w fun e w' => e = .returned (.func (.func 172) #[] #[]) ∧ w = w' := by
  go_enter Tryz.func171, Tryz.ntmps171
  go_wp2
  go_ret
  exact ⟨rfl, rfl⟩
theorem reg_and1 (k : Nat) : bits .and .u64 ((Kec.regn k : Nat) : Int) 1 = ((Kec.bitn k : Nat) : Int) := u64_and_nat (Kec.regn k) 1 (by have := Kec.regn_lt k; omega) (by decide)
theorem reg_and255 (m : Nat) (h : m < 512) : bits .and .u64 ((m : Nat) : Int) 255 = ((m &&& 255 : Nat) : Int) := u64_and_nat m 255 (by omega) (by decide)
theorem reg_xor113 (m : Nat) (h : m < 256) : bits .xor .u64 ((m : Nat) : Int) 113 = ((m ^^^ 113 : Nat) : Int) := u64_xor_nat m 113 (by omega) (by decide)
/-- The bits of the register, of which the caller takes n. -/
theorem kregister_seq (n : Nat) (hn : 1 ≤ n) (m : Nat) :
    SeqOwnG True Fence.wide n Tryz.prog 172 #[] (fun x : Nat => #[.int .u64 (x : Int)]) ((List.range m).map Kec.bitn) Nob (fun _ _ => True) := by
  intro l J Jx W0 hJ hJx hY hE h0 _
  have HY := Lib.hid hY; clear hY
  have HE := Lib.hid (hE trivial); clear hE
  refine callsIn_of_wp Tryz.func172 rfl trivial ?_ rfl
  simp only [Tryz.ntmps172, List.size_toArray, List.length_cons, List.length_nil, Nat.reduceAdd, Nat.reduceSub, Array.replicate_succ, Array.replicate_zero, List.push_toArray, List.append_toArray, List.nil_append, List.cons_append]
  gi_wp2_with fail
  gi_loopg [2] m (fun g e wr => ∃ k : Nat, k ≤ m ∧ g = m - k ∧ e = .int .u64 ((Kec.regn k : Nat) : Int) ∧ J k wr)
  case atStart => exact ⟨0, by omega, by omega, rfl, h0⟩
  case round =>
    obtain ⟨k, hk, hg, rfl, hj⟩ := hrel
    by_cases hlt : k < m
    · have hget : ((List.range m).map Kec.bitn)[k]? = some (Kec.bitn k) := by simp [hlt]
      obtain ⟨fn, tmps, assign, body, hy, hR⟩ := HY.out k _ wr hget hj trivial
      have hb := reg_and1 k
      have hr := Kec.regn_lt k
      have hn2 : Kec.regn (k + 1) = if 256 ≤ 2 * Kec.regn k then ((2 * Kec.regn k) &&& 255) ^^^ 113 else 2 * Kec.regn k := rfl
      have HN := Lib.hid hn2
      clear hn2 hget
      generalize Kec.regn k = r at *
      generalize Kec.bitn k = bt at *
      gi_wp2_with fail
      refine hR.mono ?_
      rintro e W3 (⟨rfl, hj3, _⟩ | ⟨rfl, hx3⟩)
      · by_cases h256 : 256 ≤ 2 * r
        · have d1 : decide ((256 : Int) ≤ (r : Int) * 2) = true := by simp; omega
          have e1 := reg_and255 (2 * r) (by omega)
          have e2 : (2 * r) &&& 255 < 2 ^ 8 := Nat.and_lt_two_pow _ (by decide)
          have e3 := reg_xor113 ((2 * r) &&& 255) e2
          rw [show ((2 * r : Nat) : Int) = (r : Int) * 2 by omega] at e1
          have w1 : IntKind.u64.wrap ((r : Int) * 2) = (r : Int) * 2 := by rw [show (r : Int) * 2 = ((2 * r : Nat) : Int) by omega]; exact wrapU _ (by omega)
          clear e2
          gi_wp2_with fail
          gi_roundg (m - (k + 1))
          case measure => omega
          case rel => exact ⟨k + 1, by omega, rfl, by rw [HN.out, if_pos h256], hj3⟩
        · have d1 : decide ((256 : Int) ≤ (r : Int) * 2) = false := by simp; omega
          have w1 : IntKind.u64.wrap ((r : Int) * 2) = (r : Int) * 2 := by rw [show (r : Int) * 2 = ((2 * r : Nat) : Int) by omega]; exact wrapU _ (by omega)
          gi_wp2_with fail
          gi_roundg (m - (k + 1))
          case measure => omega
          case rel => exact ⟨k + 1, by omega, rfl, by rw [HN.out, if_neg h256]; congr 1; omega, hj3⟩
      · gi_wp2
        go_end0
        exact ⟨⟨_, rfl⟩, .inr hx3⟩
    · exfalso
      have : k = m := by omega
      subst this
      exact HE.out wr (by simpa using hj)
theorem shl1 (j : Nat) (h : j < 7) : (1 <<< j) % Kec.W = 1 <<< j ∧ 1 <<< j ≤ 64 ∧ 1 ≤ 1 <<< j := by
  have : ∀ j : Fin 7, (1 <<< j.val) % Kec.W = 1 <<< j.val ∧ 1 <<< j.val ≤ 64 ∧ 1 ≤ 1 <<< j.val := by decide
  exact this ⟨j, h⟩
noncomputable def qc45_0 (n : Nat) : Code := partOf Tryz.f165 n
noncomputable abbrev qo45_0 (n k : Nat) : Oper := (opsAt (qc45_0 n)).getD k default
theorem kconst_more {l N : Nat} {u0 u4 u6 u7 u8 u9 u10 u11 u12 u13 u14 u15 u16 u17 u18 u19 u20 u21 u22 : Value} (k x go gs : Nat) (hx : x < Kec.W) (hxk : x = Kec.bitn k) (hlt : k < 168) (h168 : k + 1 ≠ 168) (hne : go ≠ gs) (w : World) (Q : Exit → Act → World → Prop) (hL : ¬ LetsOut Q) (hgo : w.heap[go]? = some (.cells (Wz (Kec.outn k)) 169 (0, 0))) (hgs : w.heap[gs]? = some (.cells #[.int .i64 ((k : Nat) : Int)] 3 (0, 0))) (hQ : ∀ a W, W.heap[go]? = some (.cells (Wz (Kec.outn (k + 1))) 169 (0, 0)) → W.heap[gs]? = some (.cells #[.int .i64 ((k + 1 : Nat) : Int)] 3 (0, 0)) → Keeps (fun j => j = go ∨ j = gs) w W → Q .normal a W) :
    (qc45_0 245).wpIn (Fence.wide.inRound l) N Tryz.prog Q ⟨#[u0, .pointer (some ⟨go, 0, none⟩), .pointer (some ⟨gs, 0, none⟩), .int .u64 ((x : Nat) : Int), u4, .int .u64 ((x : Nat) : Int), u6, u7, u8, u9, u10, u11, u12, u13, u14, u15, u16, u17, u18, u19, u20, u21, u22], []⟩ w := by
  have s1 := shl1 (k % 7) (by omega)
  obtain ⟨_, s2, s3⟩ := s1
  have K0 : Keeps ((fun j => j = go ∨ j = gs)) w w := Keeps.refl _ _
  refine syI_block 1 (qc45_0 490) (by kernel_rfl) <| syI_seq (qc45_0 980) (qc45_0 981) (by kernel_rfl) <| syI_reg (by kernel_rfl) (fun ⟨a, w, h⟩ => hL ⟨a, w, h⟩) <| rg_still 5 12 (opsAt (qc45_0 980)) [qo45_0 980 0, qo45_0 980 1, qo45_0 980 2, qo45_0 980 3, qo45_0 980 4, qo45_0 980 5, qo45_0 980 6, qo45_0 980 7, qo45_0 980 8, qo45_0 980 9, qo45_0 980 10, qo45_0 980 11] [qo45_0 980 12] (by kernel_rfl) (by kernel_rfl) (by kernel_rfl) (by kernel_rfl) (by kernel_rfl) ?_
  obtain ⟨V2, eV2, kV2⟩ := drew_step w
  rw [eV2]
  clear eV2
  have h3 := kV2.bk hgo
  have h4 := kV2.bk hgs
  have K5 := K0.nn kV2
  refine spq (iN k) (ldk 3 gs 0 h4) <| spq (iN (k / 7)) (exec_cast (congrArg (Value.int .i64) (wrapN (k / 7) (by omega))) (by kernel_rfl)) <| spq (.pointer (some ⟨go, k / 7, none⟩)) (exec_cast (v := .pointer (some ⟨go, 0 + (k / 7) * 1, none⟩)) (by simp) (exec_indexAt_arr 169 (.tmp 1) (.tmp 7) (by kernel_rfl) go 0 (by kernel_rfl) .i64 (k / 7) (by kernel_rfl) _ _ 1 Tryz.underlying169 (by kernel_rfl) (by omega))) <| spq (uN (Kec.g (Kec.outn k) (k / 7))) (ldc 24 go (k / 7) (rc (h3) (Wz_get _ (k / 7) (by rw [Kec.outn_len]; omega)))) <| skq (uN x) <| spq (iN k) (ldk 3 gs 0 h4) <| skq (iN (k % 7)) <| spq (uN (1 <<< (k % 7))) (exec_cast (congrArg (fun n : Nat => Value.int .u64 (n : Int)) (shl1 (k % 7) (by omega)).1) (exec_binop .shl 186 3 (.const (.int .u64 1)) (.tmp 12) (by kernel_rfl) (uN 1) (iN (k % 7)) _ (by kernel_rfl) (by kernel_rfl) (by kernel_rfl) (run_shlU _ _ 1 (k % 7) (by omega)))) <| spq (uN (1 <<< (k % 7) - 1)) (exec_cast (v := .int .u64 (IntKind.u64.wrap (((1 <<< (k % 7) : Nat) : Int) - 1))) (congrArg (Value.int .u64) (by rw [show ((1 <<< (k % 7) : Nat) : Int) - (1 : Int) = ((1 <<< (k % 7) - 1 : Nat) : Int) by omega]; exact wrapU _ (by omega))) (by kernel_rfl)) <| spq (uN ((x <<< (1 <<< (k % 7) - 1)) % Kec.W)) (exec_binop .shl 24 186 (.tmp 10) (.tmp 14) (by kernel_rfl) (uN x) (uN (1 <<< (k % 7) - 1)) _ (by kernel_rfl) (by kernel_rfl) (by kernel_rfl) (run_shlU _ _ x _ (by omega))) <| spq (uN ((Kec.g (Kec.outn k) (k / 7)) ||| ((x <<< (1 <<< (k % 7) - 1)) % Kec.W))) (exec_cast (orU (Kec.g (Kec.outn k) (k / 7)) ((x <<< (1 <<< (k % 7) - 1)) % Kec.W) (Kec.ws_outn _ _) (Nat.mod_lt _ Kec.W_pos)) (by kernel_rfl)) <| spq (.pointer (some ⟨go, k / 7, none⟩)) (exec_cast (v := .pointer (some ⟨go, 0 + (k / 7) * 1, none⟩)) (by simp) (exec_indexAt_arr 169 (.tmp 1) (.tmp 7) (by kernel_rfl) go 0 (by kernel_rfl) .i64 (k / 7) (by kernel_rfl) _ _ 1 Tryz.underlying169 (by kernel_rfl) (by omega))) <| st_end ?_
  obtain ⟨V6, eV6, kV6⟩ := cell_step V2 go (k / 7) (.int .u64 (((Kec.g (Kec.outn k) (k / 7)) ||| ((x <<< (1 <<< (k % 7) - 1)) % Kec.W) : Nat) : Int))
  have h7 : V6.heap[go]? = some (.cells (Wz (Kec.outn (k + 1))) 169 (0, 0)) := eV6 ▸ ((heap_setCell_same _ go (k / 7) _ _ (.int .u64 (((Kec.g (Kec.outn k) (k / 7)) ||| ((x <<< (1 <<< (k % 7) - 1)) % Kec.W) : Nat) : Int)) h3).trans (congrArg (fun c => some (Obj.cells c 169 (0, 0))) (show (Wz (Kec.outn k) : Array Value).setIfInBounds (k / 7) (.int .u64 (((Kec.g (Kec.outn k) (k / 7)) ||| ((x <<< (1 <<< (k % 7) - 1)) % Kec.W) : Nat) : Int)) = Wz (Kec.outn (k + 1)) from by rw [Wz_set]; exact congrArg Wz (by subst hxk; rfl))))
  refine ls_skip (qo45_0 980 12) (w' := V6) (by kernel_rfl) (by rw [← eV6]; exact exec_store_cell 24 (.tmp 17) (.tmp 16) (by kernel_rfl) go (k / 7) (by kernel_rfl) (.int .u64 (((Kec.g (Kec.outn k) (k / 7)) ||| ((x <<< (1 <<< (k % 7) - 1)) % Kec.W) : Nat) : Int)) (by kernel_rfl) (by kernel_rfl) (by kernel_rfl) (.int .u64 ((Kec.g (Kec.outn k) (k / 7) : Nat) : Int)) (rc (h3) (Wz_get _ (k / 7) (by rw [Kec.outn_len]; omega))) (frozen_of_row _ _ _ _ _ h3) (by kernel_rfl)) ?_
  clear eV6
  have h8 := kV6.bO h4
  have K9 : Keeps ((fun j => j = go ∨ j = gs)) w V6 := K5.then kV6 (fun i hi hm => by unfold Own.One at hm; subst hm; exact .inl rfl)
  refine ls_end <| sy_a ⟨#[u0, pT go 0, pT gs 0, uN x, u4, uN x, iN k, iN (k / 7), .pointer (some ⟨go, k / 7, none⟩), uN (Kec.g (Kec.outn k) (k / 7)), uN x, iN k, iN (k % 7), uN (1 <<< (k % 7)), uN (1 <<< (k % 7) - 1), uN ((x <<< (1 <<< (k % 7) - 1)) % Kec.W), uN ((Kec.g (Kec.outn k) (k / 7)) ||| ((x <<< (1 <<< (k % 7) - 1)) % Kec.W)), .pointer (some ⟨go, k / 7, none⟩), u18, u19, u20, u21, u22], []⟩ <| then_n <| syI_seq (qc45_0 1962) (qc45_0 1963) (by kernel_rfl) <| syI_reg (by kernel_rfl) (fun ⟨a, w, h⟩ => hL ⟨a, w, h⟩) <| rg_plain 6 (opsAt (qc45_0 1962)) [0, 1, 2] (by kernel_rfl) (by kernel_rfl) <| ppq (iN k) (ldk 3 gs 0 h8) <| ppq (iN (k + 1)) (exec_cast (congrArg (Value.int .i64) (wrapN (k + 1) (by omega))) (by kernel_rfl)) <| pce 3 gs 0 (iN (k + 1)) (#[.int .i64 ((k + 1 : Nat) : Int)]) h8 (rc (h8) (by kernel_rfl)) (by kernel_rfl) (u := iN k) fun V10 h11 kV10 => ?_
  have h12 := kV10.bO h7
  have K13 : Keeps ((fun j => j = go ∨ j = gs)) w V10 := K9.then kV10 (fun i hi hm => by unfold Own.One at hm; subst hm; exact .inr rfl)
  refine ps_end <| sy_a ⟨#[u0, pT go 0, pT gs 0, uN x, u4, uN x, iN k, iN (k / 7), .pointer (some ⟨go, k / 7, none⟩), uN (Kec.g (Kec.outn k) (k / 7)), uN x, iN k, iN (k % 7), uN (1 <<< (k % 7)), uN (1 <<< (k % 7) - 1), uN ((x <<< (1 <<< (k % 7) - 1)) % Kec.W), uN ((Kec.g (Kec.outn k) (k / 7)) ||| ((x <<< (1 <<< (k % 7) - 1)) % Kec.W)), .pointer (some ⟨go, k / 7, none⟩), iN k, iN (k + 1), u20, u21, u22], []⟩ <| then_n <| syI_seq (qc45_0 3926) (qc45_0 3927) (by kernel_rfl) <| syI_reg (by kernel_rfl) (fun ⟨a, w, h⟩ => hL ⟨a, w, h⟩) <| rg_plain 7 (opsAt (qc45_0 3926)) [0, 1] (by kernel_rfl) (by kernel_rfl) <| ppq (iN (k + 1)) (ldk 3 gs 0 h11) <| ppq (.bool false) (eqf (((k + 1 : Nat) : Int)) ((168) : Int) (by omega)) <| ps_end <| sy_a ⟨#[u0, pT go 0, pT gs 0, uN x, u4, uN x, iN k, iN (k / 7), .pointer (some ⟨go, k / 7, none⟩), uN (Kec.g (Kec.outn k) (k / 7)), uN x, iN k, iN (k % 7), uN (1 <<< (k % 7)), uN (1 <<< (k % 7) - 1), uN ((x <<< (1 <<< (k % 7) - 1)) % Kec.W), uN ((Kec.g (Kec.outn k) (k / 7)) ||| ((x <<< (1 <<< (k % 7) - 1)) % Kec.W)), .pointer (some ⟨go, k / 7, none⟩), iN k, iN (k + 1), iN (k + 1), .bool false, u22], []⟩ <| then_n <| syI_no (.tmp 21) (qc45_0 7854) (qc45_0 7855) (by kernel_rfl) (by kernel_rfl) <| syI_skip (by kernel_rfl) <| blk_n ?_
  exact hQ _ _ h12 h11 K13
theorem kconst_last {l N : Nat} {u0 u4 u6 u7 u8 u9 u10 u11 u12 u13 u14 u15 u16 u17 u18 u19 u20 u21 u22 : Value} (k x go gs : Nat) (hx : x < Kec.W) (hxk : x = Kec.bitn k) (hlt : k < 168) (h168 : k + 1 = 168) (hne : go ≠ gs) (w : World) (Q : Exit → Act → World → Prop) (hL : ¬ LetsOut Q) (hgo : w.heap[go]? = some (.cells (Wz (Kec.outn k)) 169 (0, 0))) (hgs : w.heap[gs]? = some (.cells #[.int .i64 ((k : Nat) : Int)] 3 (0, 0))) (hQ : ∀ a W, W.heap[go]? = some (.cells (Wz (Kec.outn (k + 1))) 169 (0, 0)) → W.heap[gs]? = some (.cells #[.int .i64 ((k + 1 : Nat) : Int)] 3 (0, 0)) → Keeps (fun j => j = go ∨ j = gs) w W → Q (.exit 0) a W) :
    (qc45_0 245).wpIn (Fence.wide.inRound l) N Tryz.prog Q ⟨#[u0, .pointer (some ⟨go, 0, none⟩), .pointer (some ⟨gs, 0, none⟩), .int .u64 ((x : Nat) : Int), u4, .int .u64 ((x : Nat) : Int), u6, u7, u8, u9, u10, u11, u12, u13, u14, u15, u16, u17, u18, u19, u20, u21, u22], []⟩ w := by
  have s1 := shl1 (k % 7) (by omega)
  obtain ⟨_, s2, s3⟩ := s1
  have K0 : Keeps ((fun j => j = go ∨ j = gs)) w w := Keeps.refl _ _
  refine syI_block 1 (qc45_0 490) (by kernel_rfl) <| syI_seq (qc45_0 980) (qc45_0 981) (by kernel_rfl) <| syI_reg (by kernel_rfl) (fun ⟨a, w, h⟩ => hL ⟨a, w, h⟩) <| rg_still 5 12 (opsAt (qc45_0 980)) [qo45_0 980 0, qo45_0 980 1, qo45_0 980 2, qo45_0 980 3, qo45_0 980 4, qo45_0 980 5, qo45_0 980 6, qo45_0 980 7, qo45_0 980 8, qo45_0 980 9, qo45_0 980 10, qo45_0 980 11] [qo45_0 980 12] (by kernel_rfl) (by kernel_rfl) (by kernel_rfl) (by kernel_rfl) (by kernel_rfl) ?_
  obtain ⟨V15, eV15, kV15⟩ := drew_step w
  rw [eV15]
  clear eV15
  have h16 := kV15.bk hgo
  have h17 := kV15.bk hgs
  have K18 := K0.nn kV15
  refine spq (iN k) (ldk 3 gs 0 h17) <| spq (iN (k / 7)) (exec_cast (congrArg (Value.int .i64) (wrapN (k / 7) (by omega))) (by kernel_rfl)) <| spq (.pointer (some ⟨go, k / 7, none⟩)) (exec_cast (v := .pointer (some ⟨go, 0 + (k / 7) * 1, none⟩)) (by simp) (exec_indexAt_arr 169 (.tmp 1) (.tmp 7) (by kernel_rfl) go 0 (by kernel_rfl) .i64 (k / 7) (by kernel_rfl) _ _ 1 Tryz.underlying169 (by kernel_rfl) (by omega))) <| spq (uN (Kec.g (Kec.outn k) (k / 7))) (ldc 24 go (k / 7) (rc (h16) (Wz_get _ (k / 7) (by rw [Kec.outn_len]; omega)))) <| skq (uN x) <| spq (iN k) (ldk 3 gs 0 h17) <| skq (iN (k % 7)) <| spq (uN (1 <<< (k % 7))) (exec_cast (congrArg (fun n : Nat => Value.int .u64 (n : Int)) (shl1 (k % 7) (by omega)).1) (exec_binop .shl 186 3 (.const (.int .u64 1)) (.tmp 12) (by kernel_rfl) (uN 1) (iN (k % 7)) _ (by kernel_rfl) (by kernel_rfl) (by kernel_rfl) (run_shlU _ _ 1 (k % 7) (by omega)))) <| spq (uN (1 <<< (k % 7) - 1)) (exec_cast (v := .int .u64 (IntKind.u64.wrap (((1 <<< (k % 7) : Nat) : Int) - 1))) (congrArg (Value.int .u64) (by rw [show ((1 <<< (k % 7) : Nat) : Int) - (1 : Int) = ((1 <<< (k % 7) - 1 : Nat) : Int) by omega]; exact wrapU _ (by omega))) (by kernel_rfl)) <| spq (uN ((x <<< (1 <<< (k % 7) - 1)) % Kec.W)) (exec_binop .shl 24 186 (.tmp 10) (.tmp 14) (by kernel_rfl) (uN x) (uN (1 <<< (k % 7) - 1)) _ (by kernel_rfl) (by kernel_rfl) (by kernel_rfl) (run_shlU _ _ x _ (by omega))) <| spq (uN ((Kec.g (Kec.outn k) (k / 7)) ||| ((x <<< (1 <<< (k % 7) - 1)) % Kec.W))) (exec_cast (orU (Kec.g (Kec.outn k) (k / 7)) ((x <<< (1 <<< (k % 7) - 1)) % Kec.W) (Kec.ws_outn _ _) (Nat.mod_lt _ Kec.W_pos)) (by kernel_rfl)) <| spq (.pointer (some ⟨go, k / 7, none⟩)) (exec_cast (v := .pointer (some ⟨go, 0 + (k / 7) * 1, none⟩)) (by simp) (exec_indexAt_arr 169 (.tmp 1) (.tmp 7) (by kernel_rfl) go 0 (by kernel_rfl) .i64 (k / 7) (by kernel_rfl) _ _ 1 Tryz.underlying169 (by kernel_rfl) (by omega))) <| st_end ?_
  obtain ⟨V19, eV19, kV19⟩ := cell_step V15 go (k / 7) (.int .u64 (((Kec.g (Kec.outn k) (k / 7)) ||| ((x <<< (1 <<< (k % 7) - 1)) % Kec.W) : Nat) : Int))
  have h20 : V19.heap[go]? = some (.cells (Wz (Kec.outn (k + 1))) 169 (0, 0)) := eV19 ▸ ((heap_setCell_same _ go (k / 7) _ _ (.int .u64 (((Kec.g (Kec.outn k) (k / 7)) ||| ((x <<< (1 <<< (k % 7) - 1)) % Kec.W) : Nat) : Int)) h16).trans (congrArg (fun c => some (Obj.cells c 169 (0, 0))) (show (Wz (Kec.outn k) : Array Value).setIfInBounds (k / 7) (.int .u64 (((Kec.g (Kec.outn k) (k / 7)) ||| ((x <<< (1 <<< (k % 7) - 1)) % Kec.W) : Nat) : Int)) = Wz (Kec.outn (k + 1)) from by rw [Wz_set]; exact congrArg Wz (by subst hxk; rfl))))
  refine ls_skip (qo45_0 980 12) (w' := V19) (by kernel_rfl) (by rw [← eV19]; exact exec_store_cell 24 (.tmp 17) (.tmp 16) (by kernel_rfl) go (k / 7) (by kernel_rfl) (.int .u64 (((Kec.g (Kec.outn k) (k / 7)) ||| ((x <<< (1 <<< (k % 7) - 1)) % Kec.W) : Nat) : Int)) (by kernel_rfl) (by kernel_rfl) (by kernel_rfl) (.int .u64 ((Kec.g (Kec.outn k) (k / 7) : Nat) : Int)) (rc (h16) (Wz_get _ (k / 7) (by rw [Kec.outn_len]; omega))) (frozen_of_row _ _ _ _ _ h16) (by kernel_rfl)) ?_
  clear eV19
  have h21 := kV19.bO h17
  have K22 : Keeps ((fun j => j = go ∨ j = gs)) w V19 := K18.then kV19 (fun i hi hm => by unfold Own.One at hm; subst hm; exact .inl rfl)
  refine ls_end <| sy_a ⟨#[u0, pT go 0, pT gs 0, uN x, u4, uN x, iN k, iN (k / 7), .pointer (some ⟨go, k / 7, none⟩), uN (Kec.g (Kec.outn k) (k / 7)), uN x, iN k, iN (k % 7), uN (1 <<< (k % 7)), uN (1 <<< (k % 7) - 1), uN ((x <<< (1 <<< (k % 7) - 1)) % Kec.W), uN ((Kec.g (Kec.outn k) (k / 7)) ||| ((x <<< (1 <<< (k % 7) - 1)) % Kec.W)), .pointer (some ⟨go, k / 7, none⟩), u18, u19, u20, u21, u22], []⟩ <| then_n <| syI_seq (qc45_0 1962) (qc45_0 1963) (by kernel_rfl) <| syI_reg (by kernel_rfl) (fun ⟨a, w, h⟩ => hL ⟨a, w, h⟩) <| rg_plain 6 (opsAt (qc45_0 1962)) [0, 1, 2] (by kernel_rfl) (by kernel_rfl) <| ppq (iN k) (ldk 3 gs 0 h21) <| ppq (iN (k + 1)) (exec_cast (congrArg (Value.int .i64) (wrapN (k + 1) (by omega))) (by kernel_rfl)) <| pce 3 gs 0 (iN (k + 1)) (#[.int .i64 ((k + 1 : Nat) : Int)]) h21 (rc (h21) (by kernel_rfl)) (by kernel_rfl) (u := iN k) fun V23 h24 kV23 => ?_
  have h25 := kV23.bO h20
  have K26 : Keeps ((fun j => j = go ∨ j = gs)) w V23 := K22.then kV23 (fun i hi hm => by unfold Own.One at hm; subst hm; exact .inr rfl)
  refine ps_end <| sy_a ⟨#[u0, pT go 0, pT gs 0, uN x, u4, uN x, iN k, iN (k / 7), .pointer (some ⟨go, k / 7, none⟩), uN (Kec.g (Kec.outn k) (k / 7)), uN x, iN k, iN (k % 7), uN (1 <<< (k % 7)), uN (1 <<< (k % 7) - 1), uN ((x <<< (1 <<< (k % 7) - 1)) % Kec.W), uN ((Kec.g (Kec.outn k) (k / 7)) ||| ((x <<< (1 <<< (k % 7) - 1)) % Kec.W)), .pointer (some ⟨go, k / 7, none⟩), iN k, iN (k + 1), u20, u21, u22], []⟩ <| then_n <| syI_seq (qc45_0 3926) (qc45_0 3927) (by kernel_rfl) <| syI_reg (by kernel_rfl) (fun ⟨a, w, h⟩ => hL ⟨a, w, h⟩) <| rg_plain 7 (opsAt (qc45_0 3926)) [0, 1] (by kernel_rfl) (by kernel_rfl) <| ppq (iN (k + 1)) (ldk 3 gs 0 h24) <| ppq (.bool true) (eqt (((k + 1 : Nat) : Int)) ((168) : Int) (by omega)) <| ps_end <| sy_a ⟨#[u0, pT go 0, pT gs 0, uN x, u4, uN x, iN k, iN (k / 7), .pointer (some ⟨go, k / 7, none⟩), uN (Kec.g (Kec.outn k) (k / 7)), uN x, iN k, iN (k % 7), uN (1 <<< (k % 7)), uN (1 <<< (k % 7) - 1), uN ((x <<< (1 <<< (k % 7) - 1)) % Kec.W), uN ((Kec.g (Kec.outn k) (k / 7)) ||| ((x <<< (1 <<< (k % 7) - 1)) % Kec.W)), .pointer (some ⟨go, k / 7, none⟩), iN k, iN (k + 1), iN (k + 1), .bool true, u22], []⟩ <| then_n <| syI_yes (.tmp 21) (qc45_0 7854) (qc45_0 7855) (by kernel_rfl) (by kernel_rfl) <| syI_exit 0 (by kernel_rfl) <| blk_p (by decide) ?_
  exact hQ _ _ h25 h24 K26
theorem kconst_assign {l N : Nat} {u0 u1 u2 u3 u4 u6 u7 u8 u9 u10 u11 u12 u13 u14 u15 u16 u17 u18 u19 u20 u21 u22 : Value} (x : Nat) (w : World) (Q : Exit → Act → World → Prop) (hL : ¬ LetsOut Q) (hQ : Q .normal ⟨#[u0, u1, u2, .int .u64 ((x : Nat) : Int), u4, .int .u64 ((x : Nat) : Int), u6, u7, u8, u9, u10, u11, u12, u13, u14, u15, u16, u17, u18, u19, u20, u21, u22], []⟩ w) :
    (qc45_0 244).wpIn (Fence.wide.inRound l) N Tryz.prog Q ⟨#[u0, u1, u2, u3, u4, .int .u64 ((x : Nat) : Int), u6, u7, u8, u9, u10, u11, u12, u13, u14, u15, u16, u17, u18, u19, u20, u21, u22], []⟩ w := by
  have K0 : Keeps Nob w w := Keeps.refl _ _
  refine syI_reg (by kernel_rfl) (fun ⟨a, w, h⟩ => hL ⟨a, w, h⟩) <| rg_plain 4 (opsAt (qc45_0 244)) [0] (by kernel_rfl) (by kernel_rfl) <| pkq (uN x) <| ps_end <| sy_a ⟨#[u0, u1, u2, uN x, u4, uN x, u6, u7, u8, u9, u10, u11, u12, u13, u14, u15, u16, u17, u18, u19, u20, u21, u22], []⟩ ?_
  exact hQ
theorem kconstants_ok (w : World) :
    Calls Tryz.prog 165 #[] w (fun e w' => e = .returned (.agg (Wz Kec.K)) ∧ Keeps Nob w w') := by
  have K0 : Keeps Nob w w := Keeps.refl _ _
  refine calls_marks 3 (c := (qc45_0 1)) Tryz.func165 (by kernel_rfl) <| sy_frame ⟨#[ud, ud, ud, ud, ud, ud, ud, ud, ud, ud, ud, ud, ud, ud, ud, ud, ud, ud, ud, ud, ud, ud, ud], []⟩ (by kernel_rfl) <| qr_ [0] <| pal 169 (zr_u64_24) (.agg (zr_u64_24)) fun V27 gr egr h28 kV27 => ?_
  have n29 : w.heap.size ≤ gr := egr ▸ K0.size
  have K30 := K0.nn kV27
  refine ps_end <| sy_a ⟨#[pT gr 0, ud, ud, ud, ud, ud, ud, ud, ud, ud, ud, ud, ud, ud, ud, ud, ud, ud, ud, ud, ud, ud, ud], []⟩ <| tqr_ [0] <| pal 169 (zr_u64_24) (.agg (zr_u64_24)) fun V31 go ego h32 kV31 => ?_
  have n33 : gr < go := ego ▸ lt_of_block h28
  have n34 : w.heap.size ≤ go := ego ▸ K30.size
  have h35 := kV31.bk h28
  have K36 := K30.nn kV31
  refine ps_end <| sy_a ⟨#[pT gr 0, pT go 0, ud, ud, ud, ud, ud, ud, ud, ud, ud, ud, ud, ud, ud, ud, ud, ud, ud, ud, ud, ud, ud], []⟩ <| tqr_ [0, 1] <| pal 3 (#[.int .i64 0]) (.int .i64 0) fun V37 gs egs h38 kV37 => ?_
  have n39 : gr < gs := egs ▸ lt_of_block h35
  have n40 : go < gs := egs ▸ lt_of_block h32
  have n41 : w.heap.size ≤ gs := egs ▸ K36.size
  have h42 := kV37.bk h35
  have h43 := kV37.bk h32
  have K44 := K36.nn kV37
  refine pce 3 gs 0 (.int .i64 0) (#[.int .i64 0]) h38 (rc (h38) (by kernel_rfl)) (by kernel_rfl) (u := .int .i64 0) fun V45 h46 kV45 => ?_
  have h47 := kV45.bO h42
  have h48 := kV45.bO h43
  have K49 := K44.nO kV45
  refine ps_end <| sy_a ⟨#[pT gr 0, pT go 0, pT gs 0, ud, ud, ud, ud, ud, ud, ud, ud, ud, ud, ud, ud, ud, ud, ud, ud, ud, ud, ud, ud], []⟩ <| tq_ <| qr_ [0] ?_
  refine pcq 171 #[] Tryz.func171 ((kregister_ok _).mono ?_)
  rintro e w1 ⟨rfl, rfl⟩
  refine ⟨_, rfl, ?_⟩
  refine ps_end <| sy_a ⟨#[pT gr 0, pT go 0, pT gs 0, ud, .func (.func 172) #[] #[], ud, ud, ud, ud, ud, ud, ud, ud, ud, ud, ud, ud, ud, ud, ud, ud, ud, ud], []⟩ <| then_n <| b_ 0 ?_
  have szW : w.heap.size ≤ V45.heap.size := K49.size
  have ltr := lt_of_block h47
  have lto := lt_of_block h48
  have lts := lt_of_block h46
  refine sy_part (.rangeFunc (.tmp 4) #[5] (qc45_0 244) (qc45_0 245)) (by kernel_rfl) ?_
  refine wp_range1G True 3 (gf := 172) (lb := #[]) (by kernel_rfl) (enters_of Tryz.func172 (by kernel_rfl) rfl) (encs := fun x : Nat => #[.int .u64 (x : Int)]) (fun _ => rfl) (xs := (List.range 168).map Kec.bitn) (Mi := Nob) (S := fun _ _ => True) (fun _ h => h.elim) (kregister_seq 5 (by omega) 168) (fun _ _ _ _ _ => trivial) trivial
    (fun k V => k < 168 ∧ V.heap[gr]? = some (.cells zr_u64_24 169 (0, 0)) ∧ V.heap[go]? = some (.cells (Wz (Kec.outn k)) 169 (0, 0)) ∧ V.heap[gs]? = some (.cells #[.int .i64 ((k : Nat) : Int)] 3 (0, 0)) ∧ Keeps Nob w V) (fun c V => c = .exit 0 ∧ V.heap[gr]? = some (.cells zr_u64_24 169 (0, 0)) ∧ V.heap[go]? = some (.cells (Wz (Kec.outn 168)) 169 (0, 0)) ∧ V.heap[gs]? = some (.cells #[.int .i64 ((168 : Nat) : Int)] 3 (0, 0)) ∧ Keeps Nob w V) ?hI ?hIx ?h0 ?hE (fun x => ⟨#[.pointer (some ⟨gr, 0, none⟩), .pointer (some ⟨go, 0, none⟩), .pointer (some ⟨gs, 0, none⟩), .int .u64 ((x : Nat) : Int), .func (.func 172) #[] #[], .int .u64 ((x : Nat) : Int), ud, ud, ud, ud, ud, ud, ud, ud, ud, ud, ud, ud, ud, ud, ud, ud, ud], []⟩) ?assign ?body ?done ?stop
  case h0 => exact ⟨by omega, h47, h48.trans (by kernel_rfl), h46.trans (by kernel_rfl), K49⟩
  case hE => rintro _ V ⟨h, _⟩; simp at h
  case hI =>
    rintro k A V ⟨h1, h2, h3, h4, h5⟩ t
    exact ⟨h1, t.same _ _ h2 (fun x => x) (.inr rfl), t.same _ _ h3 (fun x => x) (.inr rfl), t.same _ _ h4 (fun x => x) (.inr rfl), t.keepsN h5 szW⟩
  case hIx =>
    rintro k A V ⟨h1, h2, h3, h4, h5⟩ t
    exact ⟨h1, t.same _ _ h2 (fun x => x) (.inr rfl), t.same _ _ h3 (fun x => x) (.inr rfl), t.same _ _ h4 (fun x => x) (.inr rfl), t.keepsN h5 szW⟩
  case assign =>
    intro l k x V K hx hi hs hK
    refine syI_frame ⟨#[.pointer (some ⟨gr, 0, none⟩), .pointer (some ⟨go, 0, none⟩), .pointer (some ⟨gs, 0, none⟩), ud, .func (.func 172) #[] #[], .int .u64 ((x : Nat) : Int), ud, ud, ud, ud, ud, ud, ud, ud, ud, ud, ud, ud, ud, ud, ud, ud, ud], []⟩ (by kernel_rfl) ?_
    refine kconst_assign x V _ ?_ ?_
    · exact fun h => h.elim fun _ h => h.elim fun _ h => h
    · exact hK
  case body =>
    rintro l k x V hl hr hx ⟨h1, h2, h3, h4, h5⟩ _
    have hxk : x = Kec.bitn k := by rw [List.getElem?_map, List.getElem?_range h1] at hx; simpa using hx.symm
    have hxl : x < Kec.W := by have := Kec.bitn_lt k; have := Kec.W_eq; rw [hxk]; omega
    by_cases h168 : k + 1 = 168
    · refine kconst_last k x go gs hxl hxk h1 h168 (by omega) V _ (fun h => h.elim fun _ h => h.elim fun _ h => h) h3 h4 (fun a W g1 g2 g3 => ?_)
      have e1 := (g3.block gr (lt_of_block h2) (by intro e; omega)).trans h2
      refine ⟨g3.from (fun j hj => by rcases hj with rfl | rfl <;> omega), rfl, e1, ?_, ?_, h5.then g3 (fun i hi hm => by omega)⟩
      · rw [h168] at g1; exact g1
      · rw [h168] at g2; exact g2
    · refine kconst_more k x go gs hxl hxk h1 h168 (by omega) V _ (fun h => h.elim fun _ h => h.elim fun _ h => h) h3 h4 (fun a W g1 g2 g3 => ?_)
      have e1 := (g3.block gr (lt_of_block h2) (by intro e; omega)).trans h2
      exact ⟨g3.from (fun j hj => by rcases hj with rfl | rfl <;> omega), ⟨by omega, e1, g1, g2, h5.then g3 (fun i hi hm => by omega)⟩, trivial⟩
  case done =>
    rintro D V hD ⟨h, _⟩ hK
    simp at h
  case stop =>
    rintro D c Vz hD ⟨rfl, h2, h3, h4, h5⟩ hK
    have hDs : V45.heap.size ≤ D := hD
    refine sy_exit 0 rfl <| blk_e <| tqr_ [0, 1] <| ppq (.agg (Wz (Kec.outn 168))) (ldr 169 go (h3) (by rw [Wz_size, Kec.outn_len]; kernel_rfl)) <| pst 169 gr ((Wz (Kec.outn 168))) h2 (by rw [Wz_size, Kec.outn_len]; kernel_rfl) (by rw [Wz_size, Kec.outn_len]; rfl) (Wz_one _) fun V50 h51 kV50 => ?_
    have h54 : V50.heap[D]? = some (.deferred (some [])) := (kV50.block D (Array.getElem?_eq_some_iff.1 hK).1 (by intro e; first | exact e.elim | (unfold Own.One at e; omega) | omega)).trans hK
    have K55 := h5.nO kV50
    refine ps_end <| sy_a ⟨#[pT gr 0, pT go 0, pT gs 0, undef, .func (.func 172) #[] #[], undef, undef, undef, undef, undef, undef, undef, undef, undef, undef, undef, undef, undef, undef, undef, undef, undef, .agg (Wz (Kec.outn 168))], [{ target := .collected D, args := #[] }]⟩ <| then_n <| u_ ?_
    obtain ⟨V56, eV56⟩ : ∃ V, V50.putObj D (.deferred none) = V := ⟨_, rfl⟩
    have tV56 : Turn V45.heap.size Nob V50 V56 := eV56 ▸ Turn.put _ _ _ _ hDs h54 rfl
    have h59 : V56.heap[gr]? = some (.cells (Wz (Kec.outn 168)) 169 (0, 0)) := tV56.same _ _ h51 (fun x => x) (.inr rfl)
    have K60 : Keeps Nob w V56 := tV56.keepsN K55 (by omega)
    refine marks_ret h54 (v := .agg (Wz (Kec.outn 168))) (by rw [eV56]; exact results_cell_row (p := 0) (ty := 169) (by kernel_rfl) _ _ gr 169 (Wz (Kec.outn 168)) (0, 0) _ (by kernel_rfl) h59 Tryz.underlying169 rfl (by rw [Wz_size, Kec.outn_len]; kernel_rfl)) ?_
    rw [eV56]
    exact ⟨by rw [Kec.outn_K], K60⟩
theorem K_len : Kec.K.length = 24 := rfl
theorem ws_K : Kec.Ws Kec.K := by
  intro i
  by_cases h : i < 24
  · have : ∀ j : Fin 24, Kec.g Kec.K j.val < Kec.W := by decide
    exact this ⟨i, h⟩
  · rw [Kec.g_big _ _ (by rw [K_len]; omega)]; exact Kec.W_pos
/-- So many rounds. -/
def permn (s : List Nat) (r : Nat) : List Nat := (Kec.K.take r).foldl Kec.round s
theorem permn_succ (s : List Nat) (r : Nat) (h : r < 24) : permn s (r + 1) = Kec.round (permn s r) (Kec.g Kec.K r) := by
  unfold permn Kec.g
  rw [List.take_succ_eq_append_getElem (by rw [K_len]; exact h), List.foldl_append]
  simp [List.getElem?_eq_getElem (show r < Kec.K.length by rw [K_len]; exact h)]
theorem permn_len (s : List Nat) (hs : s.length = 25) (r : Nat) : (permn s r).length = 25 := Kec.len_fold _ _ hs
theorem permn_ws (s : List Nat) (ws : Kec.Ws s) (r : Nat) : Kec.Ws (permn s r) := Kec.ws_fold _ (fun k hk => Kec.K_lt k (List.mem_of_mem_take hk)) s ws
theorem permn_all (s : List Nat) : permn s 24 = Kec.perm s := by
  unfold permn Kec.perm
  rw [List.take_of_length_le (by rw [K_len]; omega)]
noncomputable def qc45_1 (n : Nat) : Code := partOf Tryz.f159 n
noncomputable abbrev qo45_1 (n k : Nat) : Oper := (opsAt (qc45_1 n)).getD k default
theorem kpermuted_ok (s : List Nat) (w : World) (hs : s.length = 25) (ws : Kec.Ws s) :
    Calls Tryz.prog 159 #[.agg (Wz s)] w (fun e w' => e = .returned (.agg (Wz (Kec.perm s))) ∧ Keeps Nob w w') := by
  have K0 : Keeps Nob w w := Keeps.refl _ _
  refine sy_enter (qc45_1 1) ⟨#[.agg (Wz s), ud, ud, ud, ud, ud, ud, ud, ud, ud, ud, ud, ud, ud, ud, ud, ud, ud, ud, ud, ud, ud, ud, ud, ud, ud, ud, ud, ud, ud], []⟩ Tryz.func159 (by kernel_rfl) (by kernel_rfl) <| qr_ [0, 1] <| pbx 161 ((Wz s)) (.agg (Wz s)) fun V1 gb egb h2 kV1 => ?_
  have n3 : w.heap.size ≤ gb := egb ▸ K0.size
  have K4 := K0.nn kV1
  refine pal 161 (zr_u64_25) (.agg (zr_u64_25)) fun V5 gr egr h6 kV5 => ?_
  have n7 : gb < gr := egr ▸ lt_of_block h2
  have n8 : w.heap.size ≤ gr := egr ▸ K4.size
  have h9 := kV5.bk h2
  have K10 := K4.nn kV5
  refine eqr_ [0, 1, 2, 3, 4, 5] <| pkq (.func (.func 162) #[pT gb 0] #[]) <| pkq (.func (.func 163) #[pT gb 0] #[]) <| pkq (.func (.func 164) #[pT gb 0] #[]) <| pkq (.agg #[.func (.func 162) #[pT gb 0] #[], .func (.func 163) #[pT gb 0] #[], .func (.func 164) #[pT gb 0] #[]]) <| pal 200 (#[.nilFunc, .nilFunc, .nilFunc]) (.agg (#[.nilFunc, .nilFunc, .nilFunc])) fun V11 gt egt h12 kV11 => ?_
  have n13 : gb < gt := egt ▸ lt_of_block h9
  have n14 : gr < gt := egt ▸ lt_of_block h6
  have n15 : w.heap.size ≤ gt := egt ▸ K10.size
  have h16 := kV11.bk h9
  have h17 := kV11.bk h6
  have K18 := K10.nn kV11
  obtain ⟨V19, eV19, kV19⟩ := rowset_step V11 gt (#[.func (.func 162) #[.pointer (some ⟨gb, 0, none⟩)] #[], .func (.func 163) #[.pointer (some ⟨gb, 0, none⟩)] #[], .func (.func 164) #[.pointer (some ⟨gb, 0, none⟩)] #[]])
  have h20 : V19.heap[gt]? = some (.cells (#[.func (.func 162) #[.pointer (some ⟨gb, 0, none⟩)] #[], .func (.func 163) #[.pointer (some ⟨gb, 0, none⟩)] #[], .func (.func 164) #[.pointer (some ⟨gb, 0, none⟩)] #[]]) 200 (0, 0)) := eV19 ▸ setRow_heap _ _ _ _ _ _ h12
  refine pzq (w' := V19) (by rw [← eV19]; exact exec_store_row 200 (.tmp 3) (.tmp 11) (by kernel_rfl) gt (#[.func (.func 162) #[pT gb 0] #[], .func (.func 163) #[pT gb 0] #[], .func (.func 164) #[pT gb 0] #[]]) (by kernel_rfl) (by kernel_rfl) 200 (#[.nilFunc, .nilFunc, .nilFunc]) h12 (by kernel_rfl) (by kernel_rfl) (by kernel_rfl)) ?_
  clear eV19
  have h21 := kV19.bO h16
  have h22 := kV19.bO h17
  have K23 := K18.nO kV19
  refine eq_ <| qr_ [0, 1] ?_
  refine pcq 165 #[] Tryz.func165 ((kconstants_ok _).mono ?_)
  rintro e V24 ⟨rfl, kV24⟩
  refine ⟨_, rfl, ?_⟩
  have h25 := kV24.bk h21
  have h26 := kV24.bk h22
  have h27 := kV24.bk h20
  have K28 := K23.nn kV24
  refine pkq (.int .i64 0) <| et_ <| b_ 0 ?_
  refine sy_loop (qc45_1 116) (fun a V => ∃ (r : Nat) (u5 u7 u14 u15 u16 u17 u18 u19 u20 u21 u22 u23 u24 u25 u26 u27 u28 : Value), (a = ⟨#[.agg (Wz s), pT gb 0, pT gr 0, pT gt 0, ud, u5, ud, u7, .func (.func 162) #[pT gb 0] #[], .func (.func 163) #[pT gb 0] #[], .func (.func 164) #[pT gb 0] #[], .agg #[.func (.func 162) #[pT gb 0] #[], .func (.func 163) #[pT gb 0] #[], .func (.func 164) #[pT gb 0] #[]], .agg (Wz Kec.K), iN r, u14, u15, u16, u17, u18, u19, u20, u21, u22, u23, u24, u25, u26, u27, u28, ud], []⟩) ∧ (r ≤ 24) ∧ (V.heap[gb]? = some (.cells (Wz (permn s r)) 161 (0, 0))) ∧ (V.heap[gr]? = some (.cells (zr_u64_25) 161 (0, 0))) ∧ (V.heap[gt]? = some (.cells (#[.func (.func 162) #[pT gb 0] #[], .func (.func 163) #[pT gb 0] #[], .func (.func 164) #[pT gb 0] #[]]) 200 (0, 0))) ∧ (Keeps Nob w V)) (fun a _ => 24 - (intOf (a.tmps.getD 13 undef)).toNat) (by kernel_rfl) ?_ ?_
  · exact ⟨0, undef, undef, undef, undef, undef, undef, undef, undef, undef, undef, undef, undef, undef, undef, undef, undef, undef, by kernel_rfl, by omega, h25, h26, h27, K28⟩
  · rintro a V29 ⟨r, u5, u7, u14, u15, u16, u17, u18, u19, u20, u21, u22, u23, u24, u25, u26, u27, u28, rfl, hr, h30, h31, h32, K33⟩
    by_cases lt_r : r < 24
    · show _
      refine qr_ [0] <| ppq (.bool true) (dct ((((r : Nat) : Int)) < ((24) : Int)) (by omega)) <| eq_ <| y_ <| s_ <| tq_ <| b_ 1 <| qr_ [0, 1] <| ppq (uN (Kec.g Kec.K r)) (exec_index_arr 169 (.tmp 12) (.tmp 13) (by kernel_rfl) (Wz Kec.K) (by kernel_rfl) .i64 r (by kernel_rfl) 24 24 Tryz.underlying169 (by kernel_rfl) (by kernel_rfl) (by omega) _ (Wz_get Kec.K r (by rw [K_len]; omega))) <| pkq (uN (Kec.g Kec.K r)) <| eq_ <| qr_ [0, 1] <| ppq (.agg #[.func (.func 162) #[pT gb 0] #[], .func (.func 163) #[pT gb 0] #[], .func (.func 164) #[pT gb 0] #[]]) (ldr 200 gt (h32) (by kernel_rfl)) <| pkq (.int .i64 0) ?_
      refine et_ <| b_ 2 <| sy_rounds 4 (qc45_1 59796) (by kernel_rfl) <| rd_step <| qr_ [0] <| pkq (.bool true) <| eq_ <| y_ <| s_ <| tq_ <| b_ 3 <| qr_ [0, 1] <| pkq (.func (.func 162) #[pT gb 0] #[]) <| pkq (.func (.func 162) #[pT gb 0] #[]) ?_
      refine er_ [0, 1] <| pkq (.func (.func 162) #[pT gb 0] #[]) ?_
      refine ps_callV (qo45_1 1913497 1) (.tmp 20) 162 #[pT gb 0] #[] #[pT gb 0] (by kernel_rfl) (by kernel_rfl) (by kernel_rfl) (by kernel_rfl) (by kernel_rfl) (enters_of Tryz.func162 (by kernel_rfl) rfl) ((kcolumns_ok gb (permn s r) _ (by rw [permn_len s hs]) (permn_ws s ws r) h30).mono ?_)
      rintro e V34 ⟨rfl, h35, kV34⟩
      refine ⟨_, rfl, ?_⟩
      have h36 := kV34.bO h31
      have h37 := kV34.bO h32
      have K38 := K33.nO kV34
      refine ps_end <| blk_n <| tr_ [0, 1] <| pkq (.int .i64 1) <| pkq (.int .i64 1) <| et_ <| rd_step <| qr_ [0] <| pkq (.bool true) <| eq_ <| y_ <| s_ <| tq_ <| b_ 3 ?_
      refine qr_ [0, 1] <| pkq (.func (.func 163) #[pT gb 0] #[]) <| pkq (.func (.func 163) #[pT gb 0] #[]) <| er_ [0, 1] <| pkq (.func (.func 163) #[pT gb 0] #[]) ?_
      refine ps_callV (qo45_1 1913497 1) (.tmp 20) 163 #[pT gb 0] #[] #[pT gb 0] (by kernel_rfl) (by kernel_rfl) (by kernel_rfl) (by kernel_rfl) (by kernel_rfl) (enters_of Tryz.func163 (by kernel_rfl) rfl) ((kmoves_ok gb (Kec.columns (permn s r)) _ (by rw [show (Kec.columns (permn s r)).length = 25 from Kec.len_columns _]) (Kec.ws_columns (permn_ws s ws r)) h35).mono ?_)
      rintro e V39 ⟨rfl, h40, kV39⟩
      refine ⟨_, rfl, ?_⟩
      have h41 := kV39.bO h36
      have h42 := kV39.bO h37
      have K43 := K38.nO kV39
      refine ps_end <| blk_n <| tr_ [0, 1] <| pkq (.int .i64 2) <| pkq (.int .i64 2) <| et_ <| rd_step <| qr_ [0] <| pkq (.bool true) <| eq_ <| y_ <| s_ <| tq_ <| b_ 3 ?_
      refine qr_ [0, 1] <| pkq (.func (.func 164) #[pT gb 0] #[]) <| pkq (.func (.func 164) #[pT gb 0] #[]) <| er_ [0, 1] <| pkq (.func (.func 164) #[pT gb 0] #[]) ?_
      refine ps_callV (qo45_1 1913497 1) (.tmp 20) 164 #[pT gb 0] #[] #[pT gb 0] (by kernel_rfl) (by kernel_rfl) (by kernel_rfl) (by kernel_rfl) (by kernel_rfl) (enters_of Tryz.func164 (by kernel_rfl) rfl) ((kmixes_ok gb (Kec.moves (Kec.columns (permn s r))) _ (by rw [show (Kec.moves (Kec.columns (permn s r))).length = 25 from Kec.len_moves _]) (Kec.ws_moves (Kec.ws_columns (permn_ws s ws r))) h40).mono ?_)
      rintro e V44 ⟨rfl, h45, kV44⟩
      refine ⟨_, rfl, ?_⟩
      have h46 := kV44.bO h41
      have h47 := kV44.bO h42
      have K48 := K43.nO kV44
      refine ps_end <| sy_a ⟨#[.agg (Wz s), pT gb 0, pT gr 0, pT gt 0, ud, uN (Kec.g Kec.K r), ud, .func (.func 164) #[pT gb 0] #[], .func (.func 162) #[pT gb 0] #[], .func (.func 163) #[pT gb 0] #[], .func (.func 164) #[pT gb 0] #[], .agg #[.func (.func 162) #[pT gb 0] #[], .func (.func 163) #[pT gb 0] #[], .func (.func 164) #[pT gb 0] #[]], .agg (Wz Kec.K), iN r, .bool true, uN (Kec.g Kec.K r), .agg #[.func (.func 162) #[pT gb 0] #[], .func (.func 163) #[pT gb 0] #[], .func (.func 164) #[pT gb 0] #[]], .int .i64 2, .bool true, .func (.func 164) #[pT gb 0] #[], .func (.func 164) #[pT gb 0] #[], .tuple #[], .int .i64 2, u23, u24, u25, u26, u27, u28, ud], []⟩ <| blk_n <| tr_ [0, 1] <| pkq (.int .i64 3) <| pkq (.int .i64 3) <| et_ <| rd_step <| qr_ [0] <| pkq (.bool false) <| eq_ <| n_ <| sy_exit 2 (by kernel_rfl) <| then_e ?_
      refine then_e <| blk_e <| tr_ [0, 1, 2, 3, 4, 5] <| ppq (pT gb 0) (exec_cast (v := pT gb (0 + 0 * 1)) (by simp) (exec_indexAt_arr 161 (.tmp 1) (.const (.int .i64 0)) (by kernel_rfl) gb 0 (by kernel_rfl) .i64 0 (by kernel_rfl) _ _ 1 Tryz.underlying161 (by kernel_rfl) (by omega))) <| ppq (uN (Kec.g (Kec.mixes (Kec.moves (Kec.columns (permn s r)))) 0)) (ldc 24 gb 0 (rc (h45) (Wz_get _ 0 (by rw [show (Kec.mixes (Kec.moves (Kec.columns (permn s r)))).length = 25 from Kec.len_mixes _]; omega)))) <| pkq (uN (Kec.g Kec.K r)) <| ppq (uN ((Kec.g (Kec.mixes (Kec.moves (Kec.columns (permn s r)))) 0) ^^^ (Kec.g Kec.K r))) (exec_cast (xorU (Kec.g (Kec.mixes (Kec.moves (Kec.columns (permn s r)))) 0) (Kec.g Kec.K r) (Kec.ws_mixes (Kec.ws_moves (Kec.ws_columns (permn_ws s ws r))) _) (ws_K r)) (by kernel_rfl)) <| ppq (pT gb 0) (exec_cast (v := pT gb (0 + 0 * 1)) (by simp) (exec_indexAt_arr 161 (.tmp 1) (.const (.int .i64 0)) (by kernel_rfl) gb 0 (by kernel_rfl) .i64 0 (by kernel_rfl) _ _ 1 Tryz.underlying161 (by kernel_rfl) (by omega))) <| pce 24 gb 0 (uN ((Kec.g (Kec.mixes (Kec.moves (Kec.columns (permn s r)))) 0) ^^^ (Kec.g Kec.K r))) (Wz ((Kec.mixes (Kec.moves (Kec.columns (permn s r)))).set 0 ((Kec.g (Kec.mixes (Kec.moves (Kec.columns (permn s r)))) 0) ^^^ (Kec.g Kec.K r)))) h45 (rc (h45) (Wz_get _ 0 (by rw [show (Kec.mixes (Kec.moves (Kec.columns (permn s r)))).length = 25 from Kec.len_mixes _]; omega))) (by rw [Wz_set]) fun V49 h50 kV49 => ?_
      have h51 := kV49.bO h46
      have h52 := kV49.bO h47
      have K53 := K48.nO kV49
      refine ps_end <| blk_n <| tr_ [0, 1] <| ppq (iN (r + 1)) (exec_cast (congrArg (Value.int .i64) (wrapN (r + 1) (by omega))) (by kernel_rfl)) <| pkq (iN (r + 1)) <| et_ ?_
      refine ⟨⟨r + 1, (uN (Kec.g Kec.K r)), (.func (.func 164) #[pT gb 0] #[]), (.bool true), (uN (Kec.g Kec.K r)), (.agg #[.func (.func 162) #[pT gb 0] #[], .func (.func 163) #[pT gb 0] #[], .func (.func 164) #[pT gb 0] #[]]), (.int .i64 3), (.bool false), (.func (.func 164) #[pT gb 0] #[]), (.func (.func 164) #[pT gb 0] #[]), (.tuple #[]), (.int .i64 3), (pT gb 0), (uN (Kec.g (Kec.mixes (Kec.moves (Kec.columns (permn s r)))) 0)), (uN (Kec.g Kec.K r)), (uN ((Kec.g (Kec.mixes (Kec.moves (Kec.columns (permn s r)))) 0) ^^^ (Kec.g Kec.K r))), (pT gb 0), (iN (r + 1)), by kernel_rfl, by omega, h50.trans (by rw [permn_succ s r lt_r]; rfl), h51, h52, K53⟩, ?_⟩
      exact lt_meas (x := 24 - (r + 1)) (y := 24 - r) (by kernel_rfl) (by kernel_rfl) (by omega)
    · have eq_r : r = 24 := by omega
      have h54 : V29.heap[gb]? = some (.cells (Wz (Kec.perm s)) 161 (0, 0)) := h30.trans (by rw [eq_r, permn_all])
      refine qr_ [0] <| ppq (.bool false) (dcf ((((r : Nat) : Int)) < ((24) : Int)) (by omega)) <| eq_ <| n_ <| sy_exit 0 (by kernel_rfl) <| then_e <| then_e <| blk_e <| tqr_ [0, 1] <| ppq (.agg (Wz (Kec.perm s))) (ldr 161 gb (h54) (by rw [Wz_size, Kec.len_perm hs]; kernel_rfl)) <| pst 161 gr ((Wz (Kec.perm s))) h31 (by rw [Wz_size, Kec.len_perm hs]; kernel_rfl) (by rw [Wz_size, Kec.len_perm hs]; rfl) (Wz_one _) fun V55 h56 kV55 => ?_
      have K59 := K33.nO kV55
      refine eu_ <| sy_out (.agg (Wz (Kec.perm s))) rfl (results_cell_row (p := 2) (ty := 161) (by kernel_rfl) _ _ gr 161 (Wz (Kec.perm s)) (0, 0) _ (by kernel_rfl) h56 Tryz.underlying161 rfl (by rw [Wz_size, Kec.len_perm hs]; kernel_rfl)) ?_
      exact ⟨rfl, K59⟩
end Go.Proofs.YtcbfnflnokoacaaGreat
namespace Go.Proofs.YtcbfnflnokoacaaGreat
set_option maxRecDepth 100000
set_option maxHeartbeats 4000000
open Go Go.RowKit Go.Own Go.Shelf
theorem word_snoc (l : List UInt8) (k : Nat) (hk : k < l.length) : Kec.word (l.take (k + 1)) = Kec.word (l.take k) + 256 ^ k * (l.getD k 0).toNat := by
  induction l generalizing k with
  | nil => simp at hk
  | cons x r ih =>
    cases k with
    | zero => simp [Kec.word]
    | succ k =>
      have := ih k (by simpa using hk)
      simp only [List.take_succ_cons, Kec.word, List.getD_cons_succ]
      rw [this, Nat.pow_succ, Nat.mul_add]
      have e : 256 ^ k * 256 * (r.getD k 0).toNat = 256 * (256 ^ k * (r.getD k 0).toNat) := by rw [Nat.mul_comm (256 ^ k) 256, Nat.mul_assoc]
      omega
theorem word_step (l : List UInt8) (k : Nat) (hk : k < l.length) (h8 : k < 8) : Kec.word (l.take k) ||| (((l.getD k 0).toNat <<< (8 * k)) % Kec.W) = Kec.word (l.take (k + 1)) := by
  have h1 := Kec.word_lt (l.take k)
  have h2 : (l.take k).length = k := by rw [List.length_take]; omega
  rw [h2] at h1
  have h3 := (l.getD k 0).toNat_lt
  have e1 : (256 : Nat) ^ k = 2 ^ (8 * k) := by rw [Nat.pow_mul]
  have h4 : (l.getD k 0).toNat <<< (8 * k) < Kec.W := by
    rw [Nat.shiftLeft_eq, Kec.W_eq]
    calc (l.getD k 0).toNat * 2 ^ (8 * k) < 256 * 2 ^ (8 * k) := Nat.mul_lt_mul_of_pos_right h3 (Nat.two_pow_pos _)
      _ = 2 ^ (8 * k + 8) := by rw [Nat.pow_add, Nat.mul_comm]
      _ ≤ 2 ^ 64 := Nat.pow_le_pow_right (by decide) (by omega)
  rw [Nat.mod_eq_of_lt h4, Nat.or_comm, ← Nat.shiftLeft_add_eq_or_of_lt (by rw [← e1]; exact h1), word_snoc l k hk, Nat.shiftLeft_eq, ← e1, Nat.mul_comm, Nat.add_comm]
theorem word_take_lt (l : List UInt8) (k : Nat) (h8 : k ≤ 8) : Kec.word (l.take k) < Kec.W := by
  have h1 := Kec.word_lt (l.take k)
  have h2 : (l.take k).length ≤ 8 := by rw [List.length_take]; omega
  have h3 : (256 : Nat) ^ (l.take k).length ≤ 256 ^ 8 := Nat.pow_le_pow_right (by decide) h2
  have h4 : (256 : Nat) ^ 8 = Kec.W := by decide
  omega
/-- The cells of a sponge: its words, its block, how many bytes of it are taken, how many came. -/
def Sp (s : List Nat) (blk : List UInt8) (n m : Nat) : Array Value := Wz s ++ (B blk).toArray ++ #[.int .i64 (n : Int), .int .i64 (m : Int)]
theorem Sp_size (s : List Nat) (blk : List UInt8) (n m : Nat) (hs : s.length = 25) (hb : blk.length = 136) : (Sp s blk n m).size = 163 := by simp [Sp, Wz_size, B_length, hs, hb]
theorem Sp_word (s : List Nat) (blk : List UInt8) (n m : Nat) (hs : s.length = 25) (i : Nat) (hi : i < 25) : (Sp s blk n m)[i]? = some (.int .u64 ((Kec.g s i : Nat) : Int)) := by
  unfold Sp
  rw [Array.append_assoc, Array.getElem?_append_left (by rw [Wz_size]; omega)]
  exact Wz_get s i (by omega)
theorem Sp_byte (s : List Nat) (blk : List UInt8) (n m : Nat) (hs : s.length = 25) (i : Nat) (x : UInt8) (hi : blk[i]? = some x) : (Sp s blk n m)[25 + i]? = some (.int .u8 ((x.toNat : Nat) : Int)) := by
  have hlt : i < blk.length := (List.getElem?_eq_some_iff.1 hi).1
  unfold Sp
  rw [Array.append_assoc, Array.getElem?_append_right (by rw [Wz_size]; omega), Wz_size, hs, Nat.add_sub_cancel_left, Array.getElem?_append_left (by simp [B_length]; omega)]
  simpa using B_get blk i x hi
theorem Sp_n (s : List Nat) (blk : List UInt8) (n m : Nat) (hs : s.length = 25) (hb : blk.length = 136) : (Sp s blk n m)[161]? = some (.int .i64 (n : Int)) := by
  unfold Sp
  rw [Array.getElem?_append_right (by simp [Wz_size, B_length, hs, hb])]
  simp [Wz_size, B_length, hs, hb]
theorem Sp_m (s : List Nat) (blk : List UInt8) (n m : Nat) (hs : s.length = 25) (hb : blk.length = 136) : (Sp s blk n m)[162]? = some (.int .i64 (m : Int)) := by
  unfold Sp
  rw [Array.getElem?_append_right (by simp [Wz_size, B_length, hs, hb])]
  simp [Wz_size, B_length, hs, hb]
theorem Sp_set_word (s : List Nat) (blk : List UInt8) (n m : Nat) (hs : s.length = 25) (i v : Nat) (hi : i < 25) : (Sp s blk n m).setIfInBounds i (.int .u64 ((v : Nat) : Int)) = Sp (s.set i v) blk n m := by
  unfold Sp
  rw [Array.append_assoc, Array.append_assoc, ← Wz_set]
  apply Array.toList_inj.1
  simp [List.set_append, Wz_size, hs, hi, Wz]
theorem Sp_set_n (s : List Nat) (blk : List UInt8) (n m k : Nat) (hs : s.length = 25) (hb : blk.length = 136) : (Sp s blk n m).setIfInBounds 161 (.int .i64 ((k : Nat) : Int)) = Sp s blk k m := by
  unfold Sp
  apply Array.toList_inj.1
  simp [List.set_append, Wz_size, B_length, hs, hb, Wz]
theorem Sp_set_m (s : List Nat) (blk : List UInt8) (n m k : Nat) (hs : s.length = 25) (hb : blk.length = 136) : (Sp s blk n m).setIfInBounds 162 (.int .i64 ((k : Nat) : Int)) = Sp s blk n k := by
  unfold Sp
  apply Array.toList_inj.1
  simp [List.set_append, Wz_size, B_length, hs, hb, Wz]
theorem Sp_set_byte (s : List Nat) (blk : List UInt8) (n m : Nat) (hs : s.length = 25) (i : Nat) (x : UInt8) (hi : i < blk.length) : (Sp s blk n m).setIfInBounds (25 + i) (.int .u8 ((x.toNat : Nat) : Int)) = Sp s (blk.set i x) n m := by
  unfold Sp
  apply Array.toList_inj.1
  have hl : (s.map fun (x : Nat) => Value.int .u64 (x : Int)).length = 25 := by simp [hs]
  simp only [Array.toList_setIfInBounds, Array.toList_append, Wz]
  rw [List.append_assoc, List.set_append, if_neg (by omega), hl, Nat.add_sub_cancel_left, List.set_append, if_pos (by simpa [B_length] using hi)]
  simp [B, List.map_set]
theorem Sp_seg_words (s s' : List Nat) (blk : List UInt8) (n m : Nat) (hs : s.length = 25) (hs' : s'.length = 25) : seg (Sp s blk n m) 0 (Wz s').toList = Sp s' blk n m := by
  apply Array.toList_inj.1
  have hl : (s.map fun (x : Nat) => Value.int .u64 (x : Int)).length = 25 := by simp [hs]
  have hl' : (s'.map fun (x : Nat) => Value.int .u64 (x : Int)).length = 25 := by simp [hs']
  simp only [seg, Sp, Wz, Array.toList_append, List.take_zero, List.nil_append, hl', Nat.zero_add]
  rw [List.append_assoc, List.drop_append_of_le_length (by omega), List.drop_of_length_le (by omega), List.nil_append, List.append_assoc]
theorem seg_lists (A B C L : List Value) (k : Nat) (hA : A.length = 25) (hk : k + L.length ≤ B.length) : (A ++ B ++ C).take (25 + k) ++ L ++ (A ++ B ++ C).drop (25 + k + L.length) = A ++ (B.take k ++ L ++ B.drop (k + L.length)) ++ C := by
  rw [List.append_assoc A B C, List.take_append, List.take_of_length_le (by omega), hA, Nat.add_sub_cancel_left, List.take_append_of_le_length (by omega)]
  rw [List.drop_append, List.drop_of_length_le (by omega), hA, List.nil_append, show 25 + k + L.length - 25 = k + L.length by omega, List.drop_append_of_le_length (by omega)]
  simp
theorem Sp_seg_bytes (s : List Nat) (blk l : List UInt8) (n m k : Nat) (hs : s.length = 25) (hk : k + l.length ≤ blk.length) : seg (Sp s blk n m) (25 + k) (B l) = Sp s (blk.take k ++ l ++ blk.drop (k + l.length)) n m := by
  apply Array.toList_inj.1
  have := seg_lists (s.map fun (x : Nat) => Value.int .u64 (x : Int)) (B blk) [.int .i64 (n : Int), .int .i64 (m : Int)] (B l) k (by simp [hs]) (by rw [B_length, B_length]; exact hk)
  simp only [seg, Sp, Wz, Array.toList_append, B_append, ← B_take, ← B_drop]
  rw [B_length] at this
  simpa [B_length] using this
theorem Sp_load (s : List Nat) (blk : List UInt8) (n m : Nat) (hs : s.length = 25) : ∀ j v, (Wz s).toList[j]? = some v → (Sp s blk n m)[0 + j]? = some v := by
  intro j v hj
  have hlt : j < 25 := by have := (List.getElem?_eq_some_iff.1 hj).1; simp [Wz] at this; omega
  rw [Nat.zero_add]
  unfold Sp
  rw [Array.append_assoc, Array.getElem?_append_left (by rw [Wz_size]; omega)]
  simpa using hj
/-- The block of a sponge as bytes. -/
theorem Sp_bytes {w : World} {g : Nat} {T : TypeId} {s : List Nat} {blk : List UInt8} {n m : Nat} (h : w.heap[g]? = some (.cells (Sp s blk n m) T (0, 0))) (hs : s.length = 25) (hb : blk.length = 136) (k : Nat) (hk : k < 136) :
    BytesAt w (.slice (some ⟨g, 25 + k, none⟩) (136 - k) (136 - k)) (blk.drop k) := by
  refine ⟨⟨_, _, by rw [List.length_drop, hb], by rw [List.length_drop]; omega, by unfold maxLen; omega, fun h => by cases h⟩, fun i x hi => ?_⟩
  rw [List.getElem?_drop] at hi
  refine ⟨g, 25 + k, _, by rw [List.length_drop, hb], lt_of_block h, ?_⟩
  rw [Nat.add_assoc]
  exact (cell_of_row _ _ _ _ _ _ h).trans (Sp_byte s blk n m hs (k + i) x hi)
end Go.Proofs.YtcbfnflnokoacaaGreat
namespace Go.Proofs.YtcbfnflnokoacaaGreat
set_option maxRecDepth 100000
set_option maxHeartbeats 4000000
open Go Go.RowKit Go.Own Go.Shelf
noncomputable def qc47_3 (n : Nat) : Code := partOf Tryz.f158 n
theorem kword_ok (g o n cap : Nat) (l : List UInt8) (w : World) (hn : l.length = n) (h8 : 8 ≤ n) (hc : n ≤ cap) (hv : BytesAt w (.slice (some ⟨g, o, none⟩) n cap) l) :
    Calls Tryz.prog 158 #[.slice (some ⟨g, o, none⟩) n cap] w (fun e w' => e = .returned (.int .u64 ((Kec.word (l.take 8) : Nat) : Int)) ∧ w = w') := by
  have K0 : Keeps Nob w w := Keeps.refl _ _
  refine sy_enter (qc47_3 1) ⟨#[.slice (some ⟨g, o, none⟩) n cap, ud, ud, ud, ud, ud, ud, ud, ud, ud, ud, ud, ud, ud, ud, ud, ud, ud, ud, ud, ud, ud, ud], []⟩ Tryz.func158 (by kernel_rfl) (by kernel_rfl) <| qr_ [0] <| pkq (.int .u64 0) <| eqr_ [0] <| pkq (.int .u64 0) <| eq_ <| qr_ [0, 1, 2, 3] <| pkq (.slice (some ⟨g, o, none⟩) n cap) <| ppq (.slice (some ⟨g, o, none⟩) 8 cap) (exec_slice_to 114 (.tmp 6) (.const (.int .i64 8)) (by kernel_rfl) (some ⟨g, o, none⟩) n cap (by kernel_rfl) .i64 8 (by kernel_rfl) 5 Tryz.underlying114 (by kernel_rfl) (by omega)) <| ppq (.int .i64 8) (exec_len (.tmp 7) 114 _ (by kernel_rfl) Tryz.underlying114 (some ⟨g, o, none⟩) 8 cap (by kernel_rfl)) <| pkq (.int .i64 0) <| et_ <| b_ 0 ?_
  refine sy_loop (qc47_3 116) (fun a V => ∃ (k : Nat) (u4 u5 u10 u11 u12 u13 u14 u15 u16 u17 u18 u19 u20 u21 : Value), (a = ⟨#[.slice (some ⟨g, o, none⟩) n cap, ud, .int .u64 0, uN (Kec.word (l.take k)), u4, u5, .slice (some ⟨g, o, none⟩) n cap, .slice (some ⟨g, o, none⟩) 8 cap, .int .i64 8, iN k, u10, u11, u12, u13, u14, u15, u16, u17, u18, u19, u20, u21, ud], []⟩) ∧ (k ≤ 8) ∧ (w = V)) (fun a _ => 8 - (intOf (a.tmps.getD 9 undef)).toNat) (by kernel_rfl) ?_ ?_
  · exact ⟨0, undef, undef, undef, undef, undef, undef, undef, undef, undef, undef, undef, undef, undef, undef, by kernel_rfl, by omega, rfl⟩
  · rintro a V1 ⟨k, u4, u5, u10, u11, u12, u13, u14, u15, u16, u17, u18, u19, u20, u21, rfl, hk, rfl⟩
    by_cases lt_k : k < 8
    · show _
      refine qr_ [0] <| ppq (.bool true) (dct ((((k : Nat) : Int)) < ((8) : Int)) (by omega)) <| eq_ <| y_ <| s_ <| tq_ <| b_ 1 <| qr_ [0, 1, 2, 3, 4] <| pkq (iN k) <| ppq (pT g (o + k)) (exec_cast (v := pT g (o + k * 1)) (by simp) (exec_indexAt_slice 114 (.tmp 7) (.tmp 9) (by kernel_rfl) g o 8 cap (by kernel_rfl) .i64 k (by kernel_rfl) _ 1 Tryz.underlying114 (by kernel_rfl) (by omega))) <| ppq (cN ((l.getD k 0).toNat)) (ldc 5 g (o + k) (bytes_cell hv k (by rw [hn]; omega))) <| pkq (iN k) <| pkq (cN ((l.getD k 0).toNat)) <| er_ [0, 1, 2, 3, 4, 5, 6, 7] ?_
      refine pkq (uN (Kec.word (l.take k))) <| pkq (cN ((l.getD k 0).toNat)) <| ppq (uN ((l.getD k 0).toNat)) (exec_cast (congrArg (Value.int .u64) (wrapU (l.getD k 0).toNat (by have := (l.getD k 0).toNat_lt; omega))) (by kernel_rfl)) <| pkq (iN k) <| ppq (iN (8 * k)) (exec_cast (congrArg (Value.int .i64) (wrapN (8 * k) (by omega))) (by kernel_rfl)) <| ppq (uN (((l.getD k 0).toNat <<< (8 * k)) % Kec.W)) (exec_binop .shl 24 3 (.tmp 16) (.tmp 18) (by kernel_rfl) (uN ((l.getD k 0).toNat)) (iN (8 * k)) _ (by kernel_rfl) (by kernel_rfl) (by kernel_rfl) (run_shlU _ _ _ (8 * k) (by omega))) <| ppq (uN (Kec.word (l.take (k + 1)))) (exec_cast ((orU _ _ (word_take_lt l k (by omega)) (Nat.mod_lt _ Kec.W_pos)).trans (congrArg (fun n : Nat => Value.int .u64 (n : Int)) (word_step l k (by rw [hn]; omega) (by omega)))) (by kernel_rfl)) <| pkq (uN (Kec.word (l.take (k + 1)))) <| ps_end <| blk_n <| tr_ [0, 1] <| ppq (iN (k + 1)) (exec_cast (congrArg (Value.int .i64) (wrapN (k + 1) (by omega))) (by kernel_rfl)) <| pkq (iN (k + 1)) <| et_ ?_
      refine ⟨⟨k + 1, (iN k), (cN ((l.getD k 0).toNat)), (.bool true), (iN k), (pT g (o + k)), (cN ((l.getD k 0).toNat)), (uN (Kec.word (l.take k))), (cN ((l.getD k 0).toNat)), (uN ((l.getD k 0).toNat)), (iN k), (iN (8 * k)), (uN (((l.getD k 0).toNat <<< (8 * k)) % Kec.W)), (uN (Kec.word (l.take (k + 1)))), (iN (k + 1)), by kernel_rfl, by omega, rfl⟩, ?_⟩
      exact lt_meas (x := 8 - (k + 1)) (y := 8 - k) (by kernel_rfl) (by kernel_rfl) (by omega)
    · have eq_k : k = 8 := by omega
      refine qr_ [0] <| ppq (.bool false) (dcf ((((k : Nat) : Int)) < ((8) : Int)) (by omega)) <| eq_ <| n_ <| sy_exit 0 (by kernel_rfl) <| then_e <| then_e <| blk_e <| tqr_ [0, 1] <| pkq (uN (Kec.word (l.take k))) <| pkq (uN (Kec.word (l.take k))) <| eu_ <| so_ (.int .u64 ((Kec.word (l.take k) : Nat) : Int)) ?_
      subst eq_k; exact ⟨rfl, rfl⟩
theorem eight_len {wd : Nat} : (Kec.eight wd).length = 8 := by simp [Kec.eight]
noncomputable def qc47_1 (n : Nat) : Code := partOf Tryz.f151 n
theorem keight_ok (wd : Nat) (w : World) (hw : wd < Kec.W) :
    Calls Tryz.prog 151 #[.int .u64 ((wd : Nat) : Int)] w (fun e w' => e = .returned (.agg (B (Kec.eight wd)).toArray) ∧ Keeps Nob w w') := by
  have K0 : Keeps Nob w w := Keeps.refl _ _
  refine sy_enter (qc47_1 1) ⟨#[uN wd, ud, ud, ud, ud, ud, ud, ud, ud, ud, ud, ud, ud, ud, ud, ud, ud], []⟩ Tryz.func151 (by kernel_rfl) (by kernel_rfl) <| qr_ [0] <| pal 183 (zr_u8_8) (.agg (zr_u8_8)) fun V1 gr egr h2 kV1 => ?_
  have n3 : w.heap.size ≤ gr := egr ▸ K0.size
  have K4 := K0.nn kV1
  refine eqr_ [0] <| pal 183 (zr_u8_8) (.agg (zr_u8_8)) fun V5 go ego h6 kV5 => ?_
  have n7 : gr < go := ego ▸ lt_of_block h2
  have n8 : w.heap.size ≤ go := ego ▸ K4.size
  have h9 := kV5.bk h2
  have K10 := K4.nn kV5
  refine eq_ <| qr_ [0] <| pkq (.int .i64 0) <| et_ <| b_ 0 ?_
  refine sy_loop (qc47_1 116) (fun a V => ∃ (k : Nat) (u4 u6 u7 u8 u9 u10 u11 u12 u13 u14 u15 : Value), (a = ⟨#[uN wd, ud, pT gr 0, pT go 0, u4, iN k, u6, u7, u8, u9, u10, u11, u12, u13, u14, u15, ud], []⟩) ∧ (k ≤ 8) ∧ (V.heap[gr]? = some (.cells (zr_u8_8) 183 (0, 0))) ∧ (V.heap[go]? = some (.cells ((B (stpB (fun i => UInt8.ofNat (wd / 256 ^ i)) k (List.replicate 8 0))).toArray) 183 (0, 0))) ∧ (Keeps Nob w V)) (fun a _ => 8 - (intOf (a.tmps.getD 5 undef)).toNat) (by kernel_rfl) ?_ ?_
  · exact ⟨0, undef, undef, undef, undef, undef, undef, undef, undef, undef, undef, undef, by kernel_rfl, by omega, h9, h6.trans (by kernel_rfl), K10⟩
  · rintro a V11 ⟨k, u4, u6, u7, u8, u9, u10, u11, u12, u13, u14, u15, rfl, hk, h12, h13, K14⟩
    by_cases lt_k : k < 8
    · show _
      refine qr_ [0] <| ppq (.bool true) (dct ((((k : Nat) : Int)) < ((8) : Int)) (by omega)) <| eq_ <| y_ <| s_ <| tq_ <| b_ 1 <| qr_ [0, 1] <| pkq (iN k) <| pkq (iN k) <| er_ [0, 1, 2, 3, 4, 5, 6, 7] <| pkq (iN k) <| pkq (uN wd) <| pkq (iN k) ?_
      refine ppq (iN (8 * k)) (exec_cast (congrArg (Value.int .i64) (wrapN (8 * k) (by omega))) (by kernel_rfl)) <| ppq (uN (wd >>> (8 * k))) (exec_binop .shr 24 3 (.tmp 9) (.tmp 11) (by kernel_rfl) (uN wd) (iN (8 * k)) _ (by kernel_rfl) (by kernel_rfl) (by kernel_rfl) (run_shrU _ _ wd (8 * k) (by omega))) <| ppq (cN ((UInt8.ofNat (wd / 256 ^ k)).toNat)) (exec_cast (congrArg (Value.int .u8) ((wrap8 (wd >>> (8 * k))).trans (by rw [Nat.shiftRight_eq_div_pow, Nat.pow_mul]))) (by kernel_rfl)) <| ppq (pT go k) (exec_cast (v := pT go (0 + k * 1)) (by simp) (exec_indexAt_arr 183 (.tmp 3) (.tmp 8) (by kernel_rfl) go 0 (by kernel_rfl) .i64 k (by kernel_rfl) _ _ 1 Tryz.underlying183 (by kernel_rfl) (by omega))) ?_
      refine pce 5 go k (cN ((UInt8.ofNat (wd / 256 ^ k)).toNat)) ((B (stpB (fun i => UInt8.ofNat (wd / 256 ^ i)) (k + 1) (List.replicate 8 0))).toArray) h13 (rc (h13) (Bz_get _ k (by rw [stpB_len, List.length_replicate]; omega))) (by rw [Bz_set]; exact congrArg (fun l => (B l).toArray) (by rw [stpB_succ])) fun V15 h16 kV15 => ?_
      have h17 := kV15.bO h12
      have K18 := K14.nO kV15
      refine ps_end <| blk_n <| tr_ [0, 1] <| ppq (iN (k + 1)) (exec_cast (congrArg (Value.int .i64) (wrapN (k + 1) (by omega))) (by kernel_rfl)) <| pkq (iN (k + 1)) <| et_ ?_
      refine ⟨⟨k + 1, (iN k), (.bool true), (iN k), (iN k), (uN wd), (iN k), (iN (8 * k)), (uN (wd >>> (8 * k))), (cN ((UInt8.ofNat (wd / 256 ^ k)).toNat)), (pT go k), (iN (k + 1)), by kernel_rfl, by omega, h17, h16, K18⟩, ?_⟩
      exact lt_meas (x := 8 - (k + 1)) (y := 8 - k) (by kernel_rfl) (by kernel_rfl) (by omega)
    · have eq_k : k = 8 := by omega
      have h19 : V11.heap[go]? = some (.cells ((B (Kec.eight wd)).toArray) 183 (0, 0)) := h13.trans (by rw [eq_k, stpB_all _ _ 8 rfl]; rfl)
      refine qr_ [0] <| ppq (.bool false) (dcf ((((k : Nat) : Int)) < ((8) : Int)) (by omega)) <| eq_ <| n_ <| sy_exit 0 (by kernel_rfl) <| then_e <| then_e <| blk_e <| tqr_ [0, 1] <| ppq (.agg ((B (Kec.eight wd)).toArray)) (ldr 183 go (h19) (by rw [Bz_size, eight_len]; kernel_rfl)) <| pst 183 gr (((B (Kec.eight wd)).toArray)) h12 (by rw [Bz_size, eight_len]; kernel_rfl) (by rw [Bz_size, eight_len]; rfl) (by rw [List.all_toArray]; exact List.all_eq_true.2 (B_one _)) fun V20 h21 kV20 => ?_
      have K23 := K14.nO kV20
      refine eu_ <| sy_out (.agg ((B (Kec.eight wd)).toArray)) rfl (results_cell_row (p := 2) (ty := 183) (by kernel_rfl) _ _ gr 183 ((B (Kec.eight wd)).toArray) (0, 0) _ (by kernel_rfl) h21 Tryz.underlying183 rfl (by rw [Bz_size, eight_len]; kernel_rfl)) ?_
      exact ⟨rfl, K23⟩
theorem getD_some (l : List UInt8) (k : Nat) (h : k < l.length) : l[k]? = some (l.getD k 0) := by rw [List.getD_eq_getElem?_getD, List.getElem?_eq_getElem h]; rfl
def zero136 : List UInt8 := List.replicate 136 0
theorem zero136_len : zero136.length = 136 := by simp [zero136]
theorem Sp_seg_zero (s : List Nat) (blk : List UInt8) (n m : Nat) (hs : s.length = 25) (hb : blk.length = 136) : seg (Sp s blk n m) 25 (B zero136).toArray.toList = Sp s zero136 n m := by
  have := Sp_seg_bytes s blk zero136 n m 0 hs (by rw [zero136_len, hb]; omega)
  have e : blk.drop (0 + zero136.length) = [] := List.drop_of_length_le (by rw [zero136_len, hb]; omega)
  rw [e, List.append_nil, List.take_zero, List.nil_append] at this
  exact this
theorem g_get (s : List Nat) (i : Nat) (h : i < s.length) : Kec.g s i = s[i] := by
  unfold Kec.g
  rw [List.getD_eq_getElem?_getD, List.getElem?_eq_getElem h]; rfl
theorem stp_mixin (s : List Nat) (blk : List UInt8) (hs : s.length = 25) : stp (fun i => Kec.g s i ^^^ Kec.wordAt blk i) 17 s = Kec.mixin s blk := by
  refine List.ext_getElem (by rw [stp_len, Kec.len_mixin, hs]) fun i h1 h2 => ?_
  have hi : i < 25 := by rwa [stp_len, hs] at h1
  have e1 := stp_get (fun i => Kec.g s i ^^^ Kec.wordAt blk i) 17 s i (by omega)
  have e2 := Kec.g_map (fun i => if i < 17 then Kec.g s i ^^^ Kec.wordAt blk i else Kec.g s i) i hi
  have e3 : Kec.g (stp (fun i => Kec.g s i ^^^ Kec.wordAt blk i) 17 s) i = Kec.g (Kec.mixin s blk) i := by
    rw [e1]; exact e2.symm
  rw [g_get _ _ h1, g_get _ _ h2] at e3
  exact e3
noncomputable def qc47_2 (n : Nat) : Code := partOf Tryz.f150 n
noncomputable abbrev qo47_2 (n k : Nat) : Oper := (opsAt (qc47_2 n)).getD k default
theorem ktakes_ok (p : Nat) (s : List Nat) (blk : List UInt8) (n m : Nat) (hs : s.length = 25) (ws : Kec.Ws s) (hb : blk.length = 136) (w : World) (hp : w.heap[p]? = some (.cells (Sp s blk n m) 164 (0, 0))) :
    Calls Tryz.prog 150 #[.pointer (some ⟨p, 0, none⟩)] w (fun e w' => e = .returned (.tuple #[]) ∧ w'.heap[p]? = some (.cells (Sp (Kec.takes s blk) zero136 0 m) 164 (0, 0)) ∧ Keeps (One p) w w') := by
  have K0 : Keeps (One p) w w := Keeps.refl _ _
  refine sy_enter (qc47_2 1) ⟨#[pT p 0, ud, ud, ud, ud, ud, ud, ud, ud, ud, ud, ud, ud, ud, ud, ud, ud, ud, ud, ud, ud, ud, ud, ud, ud, ud, ud, ud, ud, ud, ud, ud, ud, ud, ud, ud, ud, ud, ud], []⟩ Tryz.func150 (by kernel_rfl) (by kernel_rfl) <| q_ <| qr_ [0] <| pkq (.int .i64 0) <| et_ <| b_ 0 ?_
  refine sy_loop (qc47_2 20) (fun a V => ∃ (i : Nat) (u3 u4 u5 u6 u7 u8 u9 u10 u11 u12 u13 u14 u15 u16 u17 u18 u19 u20 u21 u22 u23 : Value), (a = ⟨#[pT p 0, ud, iN i, u3, u4, u5, u6, u7, u8, u9, u10, u11, u12, u13, u14, u15, u16, u17, u18, u19, u20, u21, u22, u23, ud, ud, ud, ud, ud, ud, ud, ud, ud, ud, ud, ud, ud, ud, ud], []⟩) ∧ (i ≤ 17) ∧ (V.heap[p]? = some (.cells (Sp (stp (fun i => Kec.g s i ^^^ Kec.wordAt blk i) i s) blk n m) 164 (0, 0))) ∧ (Keeps (One p) w V)) (fun a _ => 17 - (intOf (a.tmps.getD 2 undef)).toNat) (by kernel_rfl) ?_ ?_
  · exact ⟨0, undef, undef, undef, undef, undef, undef, undef, undef, undef, undef, undef, undef, undef, undef, undef, undef, undef, undef, undef, undef, undef, by kernel_rfl, by omega, hp, K0⟩
  · rintro a V1 ⟨i, u3, u4, u5, u6, u7, u8, u9, u10, u11, u12, u13, u14, u15, u16, u17, u18, u19, u20, u21, u22, u23, rfl, hi, h2, K3⟩
    by_cases lt_i : i < 17
    · show _
      refine q_ <| qr_ [0, 1] <| pkq (iN i) <| ppq (.bool true) (dct ((((i : Nat) : Int)) < ((17) : Int)) (by omega)) <| ey_ <| s_ <| tq_ <| b_ 1 <| sy_reg <| rg_still 3 17 (opsAt (qc47_2 164)) [qo47_2 164 0, qo47_2 164 1, qo47_2 164 2, qo47_2 164 3, qo47_2 164 4, qo47_2 164 5, qo47_2 164 6, qo47_2 164 7, qo47_2 164 8, qo47_2 164 9, qo47_2 164 10, qo47_2 164 11, qo47_2 164 12, qo47_2 164 13, qo47_2 164 14, qo47_2 164 15, qo47_2 164 16] [qo47_2 164 17] (by kernel_rfl) (by kernel_rfl) (by kernel_rfl) (by kernel_rfl) (by kernel_rfl) ?_
      obtain ⟨V5, eV5, kV5⟩ := drew_step V1
      rw [eV5]
      clear eV5
      have h6 := kV5.bk h2
      have K7 := K3.nn kV5
      refine skq (pT p 0) <| skq (iN i) <| skq (pT p 0) <| skq (pT p 0) <| spq (pT p i) (exec_cast (v := pT p (0 + i * 1)) (by simp) (exec_indexAt_arr 161 (.tmp 10) (.tmp 8) (by kernel_rfl) p 0 (by kernel_rfl) .i64 i (by kernel_rfl) _ _ 1 Tryz.underlying161 (by kernel_rfl) (by omega))) <| spq (uN (Kec.g s i)) (ldc 24 p i (rc (h6) ((Sp_word _ _ _ _ ((stp_len _ _ _).trans hs) i (by omega)).trans (congrArg (fun n : Nat => some (Value.int .u64 (n : Int))) (by rw [stp_get _ _ _ _ (by omega), if_neg (by omega)]))))) <| skq (pT p 0) <| skq (pT p 0) <| skq (pT p 25) <| skq (iN i) <| spq (iN (8 * i)) (exec_cast (congrArg (Value.int .i64) (wrapN (8 * i) (by omega))) (by kernel_rfl)) <| spq (.slice (some ⟨p, 25 + 8 * i, none⟩) (136 - 8 * i) (136 - 8 * i)) (exec_slice_arr 162 (.tmp 15) (.tmp 17) (by kernel_rfl) p 25 (by kernel_rfl) .i64 (8 * i) (by kernel_rfl) 136 5 Tryz.underlying162 (by kernel_rfl) (by omega)) <| scq 158 #[.slice (some ⟨p, 25 + 8 * i, none⟩) (136 - 8 * i) (136 - 8 * i)] (uN (Kec.wordAt blk i)) Tryz.func158 (kword_ok p (25 + 8 * i) (136 - 8 * i) (136 - 8 * i) (blk.drop (8 * i)) _ (by rw [List.length_drop, hb]) (by omega) (Nat.le_refl _) (Sp_bytes h6 ((stp_len _ _ _).trans hs) hb (8 * i) (by omega))) <| spq (uN ((Kec.g s i) ^^^ (Kec.wordAt blk i))) (exec_cast (xorU (Kec.g s i) (Kec.wordAt blk i) (ws _) (Kec.wordAt_lt _ _)) (by kernel_rfl)) ?_
      refine skq (pT p 0) <| skq (pT p 0) <| spq (pT p i) (exec_cast (v := pT p (0 + i * 1)) (by simp) (exec_indexAt_arr 161 (.tmp 22) (.tmp 8) (by kernel_rfl) p 0 (by kernel_rfl) .i64 i (by kernel_rfl) _ _ 1 Tryz.underlying161 (by kernel_rfl) (by omega))) <| st_end ?_
      obtain ⟨V8, eV8, kV8⟩ := cell_step V5 p i (.int .u64 (((Kec.g s i) ^^^ (Kec.wordAt blk i) : Nat) : Int))
      have h9 : V8.heap[p]? = some (.cells (Sp (stp (fun i => Kec.g s i ^^^ Kec.wordAt blk i) (i + 1) s) blk n m) 164 (0, 0)) := eV8 ▸ ((heap_setCell_same _ p i _ _ (.int .u64 (((Kec.g s i) ^^^ (Kec.wordAt blk i) : Nat) : Int)) h6).trans (congrArg (fun c => some (Obj.cells c 164 (0, 0))) (show (Sp (stp (fun i => Kec.g s i ^^^ Kec.wordAt blk i) i s) blk n m : Array Value).setIfInBounds i (.int .u64 (((Kec.g s i) ^^^ (Kec.wordAt blk i) : Nat) : Int)) = Sp (stp (fun i => Kec.g s i ^^^ Kec.wordAt blk i) (i + 1) s) blk n m from (Sp_set_word _ _ _ _ ((stp_len _ _ _).trans hs) i _ (by omega)).trans (congrArg (fun s => Sp s blk n m) (by rw [stp_succ])))))
      refine ls_skip (qo47_2 164 17) (w' := V8) (by kernel_rfl) (by rw [← eV8]; exact exec_store_cell 24 (.tmp 23) (.tmp 20) (by kernel_rfl) p i (by kernel_rfl) (.int .u64 (((Kec.g s i) ^^^ (Kec.wordAt blk i) : Nat) : Int)) (by kernel_rfl) (by kernel_rfl) (by kernel_rfl) (.int .u64 ((Kec.g s i : Nat) : Int)) (rc (h6) ((Sp_word _ _ _ _ ((stp_len _ _ _).trans hs) i (by omega)).trans (congrArg (fun n : Nat => some (Value.int .u64 (n : Int))) (by rw [stp_get _ _ _ _ (by omega), if_neg (by omega)])))) (frozen_of_row _ _ _ _ _ h6) (by kernel_rfl)) ?_
      clear eV8
      have K10 : Keeps (One p) w V8 := K7.then kV8 (fun i hi hm => by unfold Own.One at hm; subst hm; exact rfl)
      refine ls_end <| blk_n <| tr_ [0, 1, 2] <| pkq (iN i) <| ppq (iN (i + 1)) (exec_cast (congrArg (Value.int .i64) (wrapN (i + 1) (by omega))) (by kernel_rfl)) <| pkq (iN (i + 1)) <| et_ ?_
      refine ⟨⟨i + 1, (iN i), (.bool true), (iN i), (iN (i + 1)), (pT p 0), (iN i), (pT p 0), (pT p 0), (pT p i), (uN (Kec.g s i)), (pT p 0), (pT p 0), (pT p 25), (iN i), (iN (8 * i)), (.slice (some ⟨p, 25 + 8 * i, none⟩) (136 - 8 * i) (136 - 8 * i)), (uN (Kec.wordAt blk i)), (uN ((Kec.g s i) ^^^ (Kec.wordAt blk i))), (pT p 0), (pT p 0), (pT p i), by kernel_rfl, by omega, h9, K10⟩, ?_⟩
      exact lt_meas (x := 17 - (i + 1)) (y := 17 - i) (by kernel_rfl) (by kernel_rfl) (by omega)
    · have eq_i : i = 17 := by omega
      have h11 : V1.heap[p]? = some (.cells (Sp (Kec.mixin s blk) blk n m) 164 (0, 0)) := h2.trans (by rw [eq_i, stp_mixin s blk hs])
      refine q_ <| qr_ [0, 1] <| pkq (iN i) <| ppq (.bool false) (dcf ((((i : Nat) : Int)) < ((17) : Int)) (by omega)) <| en_ <| sy_exit 0 (by kernel_rfl) <| then_e <| then_e <| blk_e <| tqr_ [0, 1, 2, 3, 4, 5, 6, 7, 8] <| pkq (pT p 0) <| pkq (pT p 0) <| pkq (pT p 0) <| pkq (pT p 0) ?_
      refine ppq (.agg (Wz (Kec.mixin s blk))) (exec_load_seg 161 (.tmp 27) (by kernel_rfl) p 0 (by kernel_rfl) (Wz (Kec.mixin s blk)).toList _ _ _ h11 (Sp_load _ _ _ _ (Kec.len_mixin s blk)) Tryz.underlying161 rfl (by rw [show (Wz (Kec.mixin s blk)).toList.length = 25 by simp [Wz, Kec.len_mixin]]; kernel_rfl)) ?_
      refine pcq 159 #[.agg (Wz (Kec.mixin s blk))] Tryz.func159 ((kpermuted_ok (Kec.mixin s blk) _ (Kec.len_mixin s blk) (Kec.ws_mixin ws blk)).mono ?_)
      rintro e V12 ⟨rfl, kV12⟩
      refine ⟨_, rfl, ?_⟩
      have h13 := kV12.bk h11
      have K14 := K3.nn kV12
      refine pkq (pT p 0) <| pkq (pT p 0) ?_
      obtain ⟨V15, eV15⟩ : ∃ V, V12.setCells p 0 (Wz (Kec.takes s blk)).toList = V := ⟨_, rfl⟩
      have kV15 : Keeps (One p) V12 V15 := eV15 ▸ Keeps.setCells _ _ _ _
      have h16 : V15.heap[p]? = some (.cells (Sp (Kec.takes s blk) blk n m) 164 (0, 0)) := eV15 ▸ (heap_setCells p _ _ 0 _ _ h13 (by rw [Sp_size _ _ _ _ (Kec.len_mixin s blk) hb]; simp [Wz, Kec.len_takes])).trans (congrArg (fun c => some (Obj.cells c 164 (0, 0))) (Sp_seg_words _ _ _ _ _ (Kec.len_mixin s blk) (Kec.len_takes s blk)))
      refine pzq (w' := V15) (by rw [← eV15]; exact exec_store_mid 161 (.tmp 31) (.tmp 29) (by kernel_rfl) p 0 (by kernel_rfl) (Wz (Kec.takes s blk)) (by kernel_rfl) _ _ h13 (by rw [Sp_size _ _ _ _ (Kec.len_mixin s blk) hb]; simp [Wz, Kec.len_takes]) (by rw [Wz_size, Kec.len_takes]; kernel_rfl) (Wz_one _)) ?_
      clear eV15
      have K17 : Keeps (One p) w V15 := K14.then kV15 (fun i hi hm => by unfold Own.One at hm; subst hm; exact rfl)
      refine er_ [0, 1, 2, 3, 4, 5, 6, 7, 8] <| pkq (pT p 0) <| pkq (pT p 0) <| pkq (.agg (B zero136).toArray) <| pkq (pT p 0) <| pkq (pT p 25) ?_
      obtain ⟨V18, eV18⟩ : ∃ V, V15.setCells p 25 ((B zero136).toArray).toList = V := ⟨_, rfl⟩
      have kV18 : Keeps (One p) V15 V18 := eV18 ▸ Keeps.setCells _ _ _ _
      have h19 : V18.heap[p]? = some (.cells (Sp (Kec.takes s blk) zero136 n m) 164 (0, 0)) := eV18 ▸ (heap_setCells p _ _ 25 _ _ h16 (by rw [Sp_size _ _ _ _ (Kec.len_takes s blk) hb]; simp [B_length, zero136])).trans (congrArg (fun c => some (Obj.cells c 164 (0, 0))) (Sp_seg_zero _ _ _ _ (Kec.len_takes s blk) hb))
      refine pzq (w' := V18) (by rw [← eV18]; exact exec_store_mid 162 (.tmp 36) (.tmp 34) (by kernel_rfl) p 25 (by kernel_rfl) ((B zero136).toArray) (by kernel_rfl) _ _ h16 (by rw [Sp_size _ _ _ _ (Kec.len_takes s blk) hb]; simp [B_length, zero136]) (by kernel_rfl) (by rw [List.all_toArray]; exact List.all_eq_true.2 (B_one _))) ?_
      clear eV18
      have K20 : Keeps (One p) w V18 := K17.then kV18 (fun i hi hm => by unfold Own.One at hm; subst hm; exact rfl)
      refine pkq (pT p 0) <| pkq (pT p 161) <| pce 3 p 161 (.int .i64 0) (Sp (Kec.takes s blk) zero136 0 m) h19 (rc (h19) (Sp_n _ _ _ _ (Kec.len_takes s blk) zero136_len)) (Sp_set_n _ _ _ _ _ (Kec.len_takes s blk) zero136_len) fun V21 h22 kV21 => ?_
      have K23 : Keeps (One p) w V21 := K20.then kV21 (fun i hi hm => by unfold Own.One at hm; subst hm; exact rfl)
      refine ps_end <| sy_fall (.tuple #[]) rfl (by kernel_rfl) ?_
      exact ⟨rfl, h22, K23⟩
/-- The block of a sponge that took bytes. -/
def blkOf (l : List UInt8) : List UInt8 := Kec.restOf l ++ List.replicate (136 - l.length % 136) 0
theorem blkOf_len (l : List UInt8) : (blkOf l).length = 136 := by unfold blkOf; rw [List.length_append, Kec.restOf_len, List.length_replicate]; omega
theorem blkOf_cut (l y : List UInt8) (h : l.length % 136 + y.length ≤ 136) : (blkOf l).take (l.length % 136) ++ y ++ (blkOf l).drop (l.length % 136 + y.length) = Kec.restOf l ++ y ++ List.replicate (136 - l.length % 136 - y.length) 0 := by
  have hr := Kec.restOf_len l
  unfold blkOf
  rw [List.take_left' hr, List.drop_append, List.drop_of_length_le (by omega), List.nil_append, hr, Nat.add_sub_cancel_left, List.drop_replicate]
theorem write_some (l y : List UInt8) (h : l.length % 136 + y.length < 136) : (blkOf l).take (l.length % 136) ++ y ++ (blkOf l).drop (l.length % 136 + y.length) = blkOf (l ++ y) ∧ Kec.stateOf l = Kec.stateOf (l ++ y) ∧ l.length % 136 + y.length = (l ++ y).length % 136 := by
  have hr := Kec.restOf_len l
  have hs := Kec.sponge_some l y (by omega)
  have hl : l.length % 136 + y.length = (l ++ y).length % 136 := by rw [List.length_append]; omega
  refine ⟨?_, hs.1.symm, hl⟩
  rw [blkOf_cut l y (by omega)]
  unfold blkOf
  rw [hs.2, ← hl, Nat.sub_sub]
theorem write_full (l y : List UInt8) (h : l.length % 136 + y.length = 136) : Kec.takes (Kec.stateOf l) ((blkOf l).take (l.length % 136) ++ y ++ (blkOf l).drop (l.length % 136 + y.length)) = Kec.stateOf (l ++ y) ∧ zero136 = blkOf (l ++ y) ∧ 0 = (l ++ y).length % 136 := by
  have hr := Kec.restOf_len l
  have hs := Kec.sponge_fill l y (by omega)
  have hl : 0 = (l ++ y).length % 136 := by rw [List.length_append]; omega
  refine ⟨?_, ?_, hl⟩
  · rw [blkOf_cut l y (by omega), hs.1, show 136 - l.length % 136 - y.length = 0 by omega]; simp
  · unfold blkOf zero136
    rw [hs.2, ← hl]; simp
theorem wcase (n r : Nat) (hr : r < 136) : (∃ c, 0 < n ∧ c = n ∧ c = Nat.min n (136 - r) ∧ r + c < 136) ∨ (∃ c, 0 < n ∧ c ≤ n ∧ c = Nat.min n (136 - r) ∧ r + c = 136) ∨ n = 0 := by
  have h : Nat.min n (136 - r) = if n ≤ 136 - r then n else 136 - r := Nat.min_def
  by_cases h0 : n = 0
  · exact .inr (.inr h0)
  · by_cases h1 : r + n < 136
    · exact .inl ⟨n, by omega, rfl, by rw [h, if_pos (by omega)], h1⟩
    · refine .inr (.inl ⟨136 - r, by omega, by omega, ?_, by omega⟩)
      rw [h]; split <;> omega
def sliceLen : Value → Nat | .slice _ n _ => n | _ => 0
/-- A sponge at p that took the bytes l. -/
def SpAt (w : World) (p : Nat) (l : List UInt8) : Prop := w.heap[p]? = some (.cells (Sp (Kec.stateOf l) (blkOf l) (l.length % 136) l.length) 164 (0, 0))
theorem take_step (x : List UInt8) (k c : Nat) : x.take (k + c) = x.take k ++ (x.drop k).take c := by rw [List.take_add]
theorem sp_next (l x y : List UInt8) (k c m : Nat) (hy : y = (x.drop k).take c) (cs : Array Value) (h : cs = Sp (Kec.stateOf (l ++ x.take k ++ y)) (blkOf (l ++ x.take k ++ y)) ((l ++ x.take k ++ y).length % 136) m) : cs = Sp (Kec.stateOf (l ++ x.take (k + c))) (blkOf (l ++ x.take (k + c))) ((l ++ x.take (k + c)).length % 136) m := by
  rw [h, hy, take_step, List.append_assoc]
theorem cut_block (A : Option Addr) (n cap c j : Nat) (h : (Value.slice (if cap = c then A else A.map (·.add c)) (n - c) (cap - c)).ownBlock = some j) : (Value.slice A n cap).ownBlock = some j := by
  cases A with
  | none => split at h <;> simp [Value.ownBlock] at h
  | some a =>
    have hb : (a.add c).block = a.block := by unfold Addr.add; split <;> rfl
    split at h
    · exact h
    · simp only [Value.ownBlock, Option.map_some, hb] at h ⊢; exact h
noncomputable def qc47_0 (n : Nat) : Code := partOf Tryz.f128 n
noncomputable abbrev qo47_0 (n k : Nat) : Oper := (opsAt (qc47_0 n)).getD k default
theorem kwrite_ok (p : Nat) (l x : List UInt8) (A0 : Option Addr) (cap0 : Nat) (w : World) (hp : SpAt w p l) (hx : BytesAt w (.slice A0 x.length cap0) x) (hA0 : 0 < x.length → ∀ j, (Value.slice A0 x.length cap0).ownBlock = some j → j ≠ p) (hl : l.length + x.length ≤ 9000000000000000000) :
    Calls Tryz.prog 128 #[.pointer (some ⟨p, 0, none⟩), .slice A0 x.length cap0] w (fun e w' => e = .returned (.tuple #[]) ∧ SpAt w' p (l ++ x) ∧ Keeps (One p) w w') := by
  have K0 : Keeps (One p) w w := Keeps.refl _ _
  refine sy_enter (qc47_0 1) ⟨#[pT p 0, .slice A0 x.length cap0, ud, ud, ud, ud, ud, ud, ud, ud, ud, ud, ud, ud, ud, ud, ud, ud, ud, ud, ud, ud, ud, ud, ud, ud, ud, ud, ud, ud, ud, ud, ud, ud, ud, ud, ud, ud, ud, ud, ud, ud, ud, ud, ud], []⟩ Tryz.func128 (by kernel_rfl) (by kernel_rfl) <| qr_ [0, 1, 2, 3, 4, 5, 6, 7, 8, 9] <| pkq (pT p 0) <| pkq (pT p 0) <| pkq (pT p 162) <| ppq (iN l.length) (ldc 3 p 162 (rc (hp) (Sp_m _ _ _ _ (Kec.len_stateOf _) (blkOf_len _)))) <| pkq (.slice A0 x.length cap0) <| ppq (iN x.length) (exec_len (.tmp 9) 114 _ (by kernel_rfl) Tryz.underlying114 A0 x.length cap0 (by kernel_rfl)) <| ppq (iN (l.length + x.length)) (exec_cast (congrArg (Value.int .i64) (wrapN (l.length + x.length) (by omega))) (by kernel_rfl)) <| pkq (pT p 0) <| pkq (pT p 162) <| pce 3 p 162 (iN (l.length + x.length)) (Sp (Kec.stateOf l) (blkOf l) (l.length % 136) (l.length + x.length)) hp (rc (hp) (Sp_m _ _ _ _ (Kec.len_stateOf _) (blkOf_len _))) (Sp_set_m _ _ _ _ _ (Kec.len_stateOf _) (blkOf_len _)) fun V1 h2 kV1 => ?_
  have h3 : BytesAt V1 (.slice A0 x.length cap0) x := hx.keeps0 kV1 (fun hn j hj e => hA0 hn j hj e)
  have K4 : Keeps (One p) w V1 := K0.then kV1 (fun i hi hm => by unfold Own.One at hm; subst hm; exact rfl)
  refine et_ <| b_ 0 ?_
  refine sy_loop (qc47_0 12) (fun a V => ∃ (k : Nat) (n : Nat) (cap : Nat) (A : Option Addr) (u4 u14 u15 u16 u17 u18 u19 u20 u21 u22 u23 u24 u25 u26 u27 u28 u29 u30 u31 u32 u33 u34 u35 u36 u37 u38 u39 u40 u41 u42 u43 u44 : Value), (a = ⟨#[pT p 0, .slice A n cap, ud, ud, u4, pT p 0, pT p 0, pT p 162, iN l.length, .slice A0 x.length cap0, iN x.length, iN (l.length + x.length), pT p 0, pT p 162, u14, u15, u16, u17, u18, u19, u20, u21, u22, u23, u24, u25, u26, u27, u28, u29, u30, u31, u32, u33, u34, u35, u36, u37, u38, u39, u40, u41, u42, u43, u44], []⟩) ∧ (n + k = x.length) ∧ (0 < n → ∀ j, (Value.slice A n cap).ownBlock = some j → j ≠ p) ∧ (BytesAt V (.slice A n cap) (x.drop k)) ∧ (V.heap[p]? = some (.cells (Sp (Kec.stateOf (l ++ x.take k)) (blkOf (l ++ x.take k)) ((l ++ x.take k).length % 136) (l.length + x.length)) 164 (0, 0))) ∧ (Keeps (One p) w V)) (fun a _ => sliceLen (a.tmps.getD 1 undef)) (by kernel_rfl) ?_ ?_
  · exact ⟨0, x.length, cap0, A0, undef, undef, undef, undef, undef, undef, undef, undef, undef, undef, undef, undef, undef, undef, undef, undef, undef, undef, undef, undef, undef, undef, undef, undef, undef, undef, undef, undef, undef, undef, undef, undef, by kernel_rfl, rfl, hA0, h3, h2.trans (by rw [List.take_zero, List.append_nil]), K4⟩
  · rintro a V5 ⟨k, n, cap, A, u4, u14, u15, u16, u17, u18, u19, u20, u21, u22, u23, u24, u25, u26, u27, u28, u29, u30, u31, u32, u33, u34, u35, u36, u37, u38, u39, u40, u41, u42, u43, u44, rfl, hkn, hA, h6, h7, K8⟩
    rcases wcase n ((l ++ x.take k).length % 136) (Nat.mod_lt _ (by decide)) with ⟨c, h0, hcn, hcm, hcr⟩ | ⟨c, h0, hcn, hcm, hcr⟩ | h0
    · show _
      refine q_ <| qr_ [0, 1, 2] <| pkq (.slice A n cap) <| ppq (iN n) (exec_len (.tmp 14) 114 _ (by kernel_rfl) Tryz.underlying114 A n cap (by kernel_rfl)) <| ppq (.bool true) (dct ((((n : Nat) : Int)) > ((0) : Int)) (by omega)) <| ey_ <| s_ <| then_n <| b_ 1 <| q_ <| sy_reg <| rg_still 2 9 (opsAt (qc47_0 100)) [qo47_0 100 0, qo47_0 100 1, qo47_0 100 2, qo47_0 100 3, qo47_0 100 4, qo47_0 100 5, qo47_0 100 6, qo47_0 100 7, qo47_0 100 8] [qo47_0 100 9, qo47_0 100 10] (by kernel_rfl) (by kernel_rfl) (by kernel_rfl) (by kernel_rfl) (by kernel_rfl) ?_
      obtain ⟨V10, eV10, kV10⟩ := drew_step V5
      rw [eV10]
      clear eV10
      have h11 : BytesAt V10 (.slice A n cap) (x.drop k) := h6.keepsN kV10
      have h12 := kV10.bk h7
      have K13 := K8.nn kV10
      refine skq (pT p 0) <| skq (pT p 0) <| skq (pT p 25) <| skq (pT p 0) <| skq (pT p 0) <| skq (pT p 161) <| spq (iN ((l ++ x.take k).length % 136)) (ldc 3 p 161 (rc (h12) (Sp_n _ _ _ _ (Kec.len_stateOf _) (blkOf_len _)))) <| spq (.slice (some ⟨p, 25 + ((l ++ x.take k).length % 136), none⟩) (136 - ((l ++ x.take k).length % 136)) (136 - ((l ++ x.take k).length % 136))) (exec_slice_arr 162 (.tmp 19) (.tmp 23) (by kernel_rfl) p 25 (by kernel_rfl) .i64 ((l ++ x.take k).length % 136) (by kernel_rfl) 136 5 Tryz.underlying162 (by kernel_rfl) (Nat.mod_lt _ (by decide))) <| skq (.slice A n cap) <| st_end ?_
      have hyl : ((x.drop k).take c).length = c := by rw [List.length_take, List.length_drop]; omega
      have hrk : (l ++ x.take k).length % 136 < 136 := Nat.mod_lt _ (by decide)
      obtain ⟨V14, eV14⟩ : ∃ V, V10.setRow p (seg (Sp (Kec.stateOf (l ++ x.take k)) (blkOf (l ++ x.take k)) ((l ++ x.take k).length % 136) (l.length + x.length)) (25 + ((l ++ x.take k).length % 136)) (B ((x.drop k).take c))) = V := ⟨_, rfl⟩
      have kV14 : Keeps (One p) V10 V14 := eV14 ▸ (Keeps.refl (One p) _).setRow (fun _ => (rfl : Own.One p p)) _
      have h15 : V14.heap[p]? = some (.cells (Sp (Kec.stateOf (l ++ x.take k)) ((blkOf (l ++ x.take k)).take ((l ++ x.take k).length % 136) ++ ((x.drop k).take c) ++ (blkOf (l ++ x.take k)).drop ((l ++ x.take k).length % 136 + ((x.drop k).take c).length)) ((l ++ x.take k).length % 136) (l.length + x.length)) 164 (0, 0)) := eV14 ▸ (setRow_heap _ _ _ _ _ _ h12).trans (congrArg (fun c => some (Obj.cells c 164 (0, 0))) (Sp_seg_bytes _ _ _ _ _ _ (Kec.len_stateOf _) (by rw [blkOf_len, hyl]; omega)))
      refine ls_run (qo47_0 100 9) (w' := V14) (iN c) (by kernel_rfl) (by rw [← eV14]; exact exec_copy (.tmp 24) (.tmp 25) 114 (by kernel_rfl) 5 Tryz.underlying114 (by kernel_rfl) p (25 + ((l ++ x.take k).length % 136)) (136 - ((l ++ x.take k).length % 136)) (136 - ((l ++ x.take k).length % 136)) (by kernel_rfl) (.slice A n cap) (x.drop k) (by kernel_rfl) h11 _ _ h12 c (by rw [List.length_drop, show x.length - k = n by omega]; exact hcm) (by rw [Sp_size _ _ _ _ (Kec.len_stateOf _) (blkOf_len _)]; omega) (by rw [List.length_drop]; omega)) ?_
      clear eV14
      have h16 : BytesAt V14 (.slice A n cap) (x.drop k) := h11.keeps0 kV14 (fun hn j hj e => hA (by rw [List.length_drop] at hn; omega) j hj e)
      have K17 : Keeps (One p) w V14 := K13.then kV14 (fun i hi hm => by unfold Own.One at hm; subst hm; exact rfl)
      refine ls_run (qo47_0 100 10) (iN c) (w' := V14) (by kernel_rfl) (by kernel_rfl) <| ls_end <| tqr_ [0, 1, 2, 3, 4, 5, 6, 7, 8] <| pkq (pT p 0) <| pkq (pT p 0) <| pkq (pT p 161) <| ppq (iN ((l ++ x.take k).length % 136)) (ldc 3 p 161 (rc (h15) (Sp_n _ _ _ _ (Kec.len_stateOf _) ((by rw [List.length_append, List.length_append, List.length_take, List.length_drop, blkOf_len, hyl]; omega : ((blkOf (l ++ x.take k)).take ((l ++ x.take k).length % 136) ++ ((x.drop k).take c) ++ (blkOf (l ++ x.take k)).drop ((l ++ x.take k).length % 136 + ((x.drop k).take c).length)).length = 136))))) <| pkq (iN c) <| ppq (iN (((l ++ x.take k).length % 136) + c)) (exec_cast (congrArg (Value.int .i64) (wrapN (((l ++ x.take k).length % 136) + c) (by omega))) (by kernel_rfl)) <| pkq (pT p 0) <| pkq (pT p 161) <| pce 3 p 161 (iN (((l ++ x.take k).length % 136) + c)) (Sp (Kec.stateOf (l ++ x.take k)) ((blkOf (l ++ x.take k)).take ((l ++ x.take k).length % 136) ++ ((x.drop k).take c) ++ (blkOf (l ++ x.take k)).drop ((l ++ x.take k).length % 136 + ((x.drop k).take c).length)) (((l ++ x.take k).length % 136) + c) (l.length + x.length)) h15 (rc (h15) (Sp_n _ _ _ _ (Kec.len_stateOf _) ((by rw [List.length_append, List.length_append, List.length_take, List.length_drop, blkOf_len, hyl]; omega : ((blkOf (l ++ x.take k)).take ((l ++ x.take k).length % 136) ++ ((x.drop k).take c) ++ (blkOf (l ++ x.take k)).drop ((l ++ x.take k).length % 136 + ((x.drop k).take c).length)).length = 136)))) (Sp_set_n _ _ _ _ _ (Kec.len_stateOf _) ((by rw [List.length_append, List.length_append, List.length_take, List.length_drop, blkOf_len, hyl]; omega : ((blkOf (l ++ x.take k)).take ((l ++ x.take k).length % 136) ++ ((x.drop k).take c) ++ (blkOf (l ++ x.take k)).drop ((l ++ x.take k).length % 136 + ((x.drop k).take c).length)).length = 136))) fun V18 h19 kV18 => ?_
      have h20 : BytesAt V18 (.slice A n cap) (x.drop k) := h16.keeps0 kV18 (fun hn j hj e => hA (by rw [List.length_drop] at hn; omega) j hj e)
      have K21 : Keeps (One p) w V18 := K17.then kV18 (fun i hi hm => by unfold Own.One at hm; subst hm; exact rfl)
      refine eqr_ [0, 1, 2, 3] <| pkq (.slice A n cap) <| pkq (iN c) <| ppq (.slice (if cap = c then A else A.map (·.add c)) (n - c) (cap - c)) (exec_slice_from 114 (.tmp 35) (.tmp 36) (by kernel_rfl) A n cap (by kernel_rfl) .i64 c (by kernel_rfl) 5 Tryz.underlying114 (by kernel_rfl) (by omega)) <| pkq (.slice (if cap = c then A else A.map (·.add c)) (n - c) (cap - c)) <| ps_end <| sy_a ⟨#[pT p 0, .slice (if cap = c then A else A.map (·.add c)) (n - c) (cap - c), ud, ud, iN c, pT p 0, pT p 0, pT p 162, iN l.length, .slice A0 x.length cap0, iN x.length, iN (l.length + x.length), pT p 0, pT p 162, .slice A n cap, iN n, .bool true, pT p 0, pT p 0, pT p 25, pT p 0, pT p 0, pT p 161, iN ((l ++ x.take k).length % 136), .slice (some ⟨p, 25 + ((l ++ x.take k).length % 136), none⟩) (136 - ((l ++ x.take k).length % 136)) (136 - ((l ++ x.take k).length % 136)), .slice A n cap, iN c, pT p 0, pT p 0, pT p 161, iN ((l ++ x.take k).length % 136), iN c, iN (((l ++ x.take k).length % 136) + c), pT p 0, pT p 161, .slice A n cap, iN c, .slice (if cap = c then A else A.map (·.add c)) (n - c) (cap - c), u38, u39, u40, u41, u42, u43, u44], []⟩ <| tqr_ [0, 1, 2, 3, 4] <| pkq (pT p 0) <| pkq (pT p 0) <| pkq (pT p 161) <| ppq (iN (((l ++ x.take k).length % 136) + c)) (ldc 3 p 161 (rc (h19) (Sp_n _ _ _ _ (Kec.len_stateOf _) ((by rw [List.length_append, List.length_append, List.length_take, List.length_drop, blkOf_len, hyl]; omega : ((blkOf (l ++ x.take k)).take ((l ++ x.take k).length % 136) ++ ((x.drop k).take c) ++ (blkOf (l ++ x.take k)).drop ((l ++ x.take k).length % 136 + ((x.drop k).take c).length)).length = 136))))) <| ppq (.bool false) (exec_cast (congrArg Value.bool (show (((((((l ++ x.take k).length % 136) + c : Nat) : Int)) == ((136) : Int))) = false from by simp only [beq_eq_false_iff_ne, ne_eq]; omega)) (by kernel_rfl)) <| en_ ?_
      refine s_ <| blk_n <| then_n ?_
      refine ⟨⟨k + c, n - c, cap - c, (if cap = c then A else A.map (·.add c)), (iN c), (.slice A n cap), (iN n), (.bool true), (pT p 0), (pT p 0), (pT p 25), (pT p 0), (pT p 0), (pT p 161), (iN ((l ++ x.take k).length % 136)), (.slice (some ⟨p, 25 + ((l ++ x.take k).length % 136), none⟩) (136 - ((l ++ x.take k).length % 136)) (136 - ((l ++ x.take k).length % 136))), (.slice A n cap), (iN c), (pT p 0), (pT p 0), (pT p 161), (iN ((l ++ x.take k).length % 136)), (iN c), (iN (((l ++ x.take k).length % 136) + c)), (pT p 0), (pT p 161), (.slice A n cap), (iN c), (.slice (if cap = c then A else A.map (·.add c)) (n - c) (cap - c)), (pT p 0), (pT p 0), (pT p 161), (iN (((l ++ x.take k).length % 136) + c)), (.bool false), u43, u44, by kernel_rfl, by omega, fun hn j hj => hA (by omega) j (cut_block A n cap c j hj), (show BytesAt _ (.slice (if cap = c then A else A.map (·.add c)) (n - c) (cap - c)) (x.drop (k + c)) from by have := BytesAt.drop h20 c (by rw [List.length_drop]; omega) _ _ _ rfl; rwa [List.drop_drop] at this), h19.trans (congrArg (fun c => some (Obj.cells c 164 (0, 0))) (sp_next l x _ k c _ rfl _ (by obtain ⟨e1, e2, e3⟩ := write_some (l ++ x.take k) ((x.drop k).take c) (by rw [hyl]; omega); rw [← e1, ← e2, ← e3, hyl]))), K21⟩, ?_⟩
      exact lt_meas (x := n - c) (y := n) (by kernel_rfl) (by kernel_rfl) (by omega)
    · show _
      refine q_ <| qr_ [0, 1, 2] <| pkq (.slice A n cap) <| ppq (iN n) (exec_len (.tmp 14) 114 _ (by kernel_rfl) Tryz.underlying114 A n cap (by kernel_rfl)) <| ppq (.bool true) (dct ((((n : Nat) : Int)) > ((0) : Int)) (by omega)) <| ey_ <| s_ <| then_n <| b_ 1 <| q_ <| sy_reg <| rg_still 2 9 (opsAt (qc47_0 100)) [qo47_0 100 0, qo47_0 100 1, qo47_0 100 2, qo47_0 100 3, qo47_0 100 4, qo47_0 100 5, qo47_0 100 6, qo47_0 100 7, qo47_0 100 8] [qo47_0 100 9, qo47_0 100 10] (by kernel_rfl) (by kernel_rfl) (by kernel_rfl) (by kernel_rfl) (by kernel_rfl) ?_
      obtain ⟨V23, eV23, kV23⟩ := drew_step V5
      rw [eV23]
      clear eV23
      have h24 : BytesAt V23 (.slice A n cap) (x.drop k) := h6.keepsN kV23
      have h25 := kV23.bk h7
      have K26 := K8.nn kV23
      refine skq (pT p 0) <| skq (pT p 0) <| skq (pT p 25) <| skq (pT p 0) <| skq (pT p 0) <| skq (pT p 161) <| spq (iN ((l ++ x.take k).length % 136)) (ldc 3 p 161 (rc (h25) (Sp_n _ _ _ _ (Kec.len_stateOf _) (blkOf_len _)))) <| spq (.slice (some ⟨p, 25 + ((l ++ x.take k).length % 136), none⟩) (136 - ((l ++ x.take k).length % 136)) (136 - ((l ++ x.take k).length % 136))) (exec_slice_arr 162 (.tmp 19) (.tmp 23) (by kernel_rfl) p 25 (by kernel_rfl) .i64 ((l ++ x.take k).length % 136) (by kernel_rfl) 136 5 Tryz.underlying162 (by kernel_rfl) (Nat.mod_lt _ (by decide))) <| skq (.slice A n cap) <| st_end ?_
      have hyl : ((x.drop k).take c).length = c := by rw [List.length_take, List.length_drop]; omega
      have hrk : (l ++ x.take k).length % 136 < 136 := Nat.mod_lt _ (by decide)
      obtain ⟨V27, eV27⟩ : ∃ V, V23.setRow p (seg (Sp (Kec.stateOf (l ++ x.take k)) (blkOf (l ++ x.take k)) ((l ++ x.take k).length % 136) (l.length + x.length)) (25 + ((l ++ x.take k).length % 136)) (B ((x.drop k).take c))) = V := ⟨_, rfl⟩
      have kV27 : Keeps (One p) V23 V27 := eV27 ▸ (Keeps.refl (One p) _).setRow (fun _ => (rfl : Own.One p p)) _
      have h28 : V27.heap[p]? = some (.cells (Sp (Kec.stateOf (l ++ x.take k)) ((blkOf (l ++ x.take k)).take ((l ++ x.take k).length % 136) ++ ((x.drop k).take c) ++ (blkOf (l ++ x.take k)).drop ((l ++ x.take k).length % 136 + ((x.drop k).take c).length)) ((l ++ x.take k).length % 136) (l.length + x.length)) 164 (0, 0)) := eV27 ▸ (setRow_heap _ _ _ _ _ _ h25).trans (congrArg (fun c => some (Obj.cells c 164 (0, 0))) (Sp_seg_bytes _ _ _ _ _ _ (Kec.len_stateOf _) (by rw [blkOf_len, hyl]; omega)))
      refine ls_run (qo47_0 100 9) (w' := V27) (iN c) (by kernel_rfl) (by rw [← eV27]; exact exec_copy (.tmp 24) (.tmp 25) 114 (by kernel_rfl) 5 Tryz.underlying114 (by kernel_rfl) p (25 + ((l ++ x.take k).length % 136)) (136 - ((l ++ x.take k).length % 136)) (136 - ((l ++ x.take k).length % 136)) (by kernel_rfl) (.slice A n cap) (x.drop k) (by kernel_rfl) h24 _ _ h25 c (by rw [List.length_drop, show x.length - k = n by omega]; exact hcm) (by rw [Sp_size _ _ _ _ (Kec.len_stateOf _) (blkOf_len _)]; omega) (by rw [List.length_drop]; omega)) ?_
      clear eV27
      have h29 : BytesAt V27 (.slice A n cap) (x.drop k) := h24.keeps0 kV27 (fun hn j hj e => hA (by rw [List.length_drop] at hn; omega) j hj e)
      have K30 : Keeps (One p) w V27 := K26.then kV27 (fun i hi hm => by unfold Own.One at hm; subst hm; exact rfl)
      refine ls_run (qo47_0 100 10) (iN c) (w' := V27) (by kernel_rfl) (by kernel_rfl) <| ls_end <| tqr_ [0, 1, 2, 3, 4, 5, 6, 7, 8] <| pkq (pT p 0) <| pkq (pT p 0) <| pkq (pT p 161) <| ppq (iN ((l ++ x.take k).length % 136)) (ldc 3 p 161 (rc (h28) (Sp_n _ _ _ _ (Kec.len_stateOf _) ((by rw [List.length_append, List.length_append, List.length_take, List.length_drop, blkOf_len, hyl]; omega : ((blkOf (l ++ x.take k)).take ((l ++ x.take k).length % 136) ++ ((x.drop k).take c) ++ (blkOf (l ++ x.take k)).drop ((l ++ x.take k).length % 136 + ((x.drop k).take c).length)).length = 136))))) <| pkq (iN c) <| ppq (iN (((l ++ x.take k).length % 136) + c)) (exec_cast (congrArg (Value.int .i64) (wrapN (((l ++ x.take k).length % 136) + c) (by omega))) (by kernel_rfl)) <| pkq (pT p 0) <| pkq (pT p 161) <| pce 3 p 161 (iN (((l ++ x.take k).length % 136) + c)) (Sp (Kec.stateOf (l ++ x.take k)) ((blkOf (l ++ x.take k)).take ((l ++ x.take k).length % 136) ++ ((x.drop k).take c) ++ (blkOf (l ++ x.take k)).drop ((l ++ x.take k).length % 136 + ((x.drop k).take c).length)) (((l ++ x.take k).length % 136) + c) (l.length + x.length)) h28 (rc (h28) (Sp_n _ _ _ _ (Kec.len_stateOf _) ((by rw [List.length_append, List.length_append, List.length_take, List.length_drop, blkOf_len, hyl]; omega : ((blkOf (l ++ x.take k)).take ((l ++ x.take k).length % 136) ++ ((x.drop k).take c) ++ (blkOf (l ++ x.take k)).drop ((l ++ x.take k).length % 136 + ((x.drop k).take c).length)).length = 136)))) (Sp_set_n _ _ _ _ _ (Kec.len_stateOf _) ((by rw [List.length_append, List.length_append, List.length_take, List.length_drop, blkOf_len, hyl]; omega : ((blkOf (l ++ x.take k)).take ((l ++ x.take k).length % 136) ++ ((x.drop k).take c) ++ (blkOf (l ++ x.take k)).drop ((l ++ x.take k).length % 136 + ((x.drop k).take c).length)).length = 136))) fun V31 h32 kV31 => ?_
      have h33 : BytesAt V31 (.slice A n cap) (x.drop k) := h29.keeps0 kV31 (fun hn j hj e => hA (by rw [List.length_drop] at hn; omega) j hj e)
      have K34 : Keeps (One p) w V31 := K30.then kV31 (fun i hi hm => by unfold Own.One at hm; subst hm; exact rfl)
      refine eqr_ [0, 1, 2, 3] <| pkq (.slice A n cap) <| pkq (iN c) <| ppq (.slice (if cap = c then A else A.map (·.add c)) (n - c) (cap - c)) (exec_slice_from 114 (.tmp 35) (.tmp 36) (by kernel_rfl) A n cap (by kernel_rfl) .i64 c (by kernel_rfl) 5 Tryz.underlying114 (by kernel_rfl) (by omega)) <| pkq (.slice (if cap = c then A else A.map (·.add c)) (n - c) (cap - c)) <| ps_end <| sy_a ⟨#[pT p 0, .slice (if cap = c then A else A.map (·.add c)) (n - c) (cap - c), ud, ud, iN c, pT p 0, pT p 0, pT p 162, iN l.length, .slice A0 x.length cap0, iN x.length, iN (l.length + x.length), pT p 0, pT p 162, .slice A n cap, iN n, .bool true, pT p 0, pT p 0, pT p 25, pT p 0, pT p 0, pT p 161, iN ((l ++ x.take k).length % 136), .slice (some ⟨p, 25 + ((l ++ x.take k).length % 136), none⟩) (136 - ((l ++ x.take k).length % 136)) (136 - ((l ++ x.take k).length % 136)), .slice A n cap, iN c, pT p 0, pT p 0, pT p 161, iN ((l ++ x.take k).length % 136), iN c, iN (((l ++ x.take k).length % 136) + c), pT p 0, pT p 161, .slice A n cap, iN c, .slice (if cap = c then A else A.map (·.add c)) (n - c) (cap - c), u38, u39, u40, u41, u42, u43, u44], []⟩ <| tqr_ [0, 1, 2, 3, 4] <| pkq (pT p 0) <| pkq (pT p 0) <| pkq (pT p 161) <| ppq (iN (((l ++ x.take k).length % 136) + c)) (ldc 3 p 161 (rc (h32) (Sp_n _ _ _ _ (Kec.len_stateOf _) ((by rw [List.length_append, List.length_append, List.length_take, List.length_drop, blkOf_len, hyl]; omega : ((blkOf (l ++ x.take k)).take ((l ++ x.take k).length % 136) ++ ((x.drop k).take c) ++ (blkOf (l ++ x.take k)).drop ((l ++ x.take k).length % 136 + ((x.drop k).take c).length)).length = 136))))) <| ppq (.bool true) (exec_cast (congrArg Value.bool (show (((((((l ++ x.take k).length % 136) + c : Nat) : Int)) == ((136) : Int))) = true from by simp only [beq_iff_eq]; omega)) (by kernel_rfl)) <| ey_ ?_
      refine r_ [0, 1] <| pkq (pT p 0) ?_
      refine pcq 150 #[pT p 0] Tryz.func150 ((ktakes_ok p _ _ _ _ (Kec.len_stateOf _) (Kec.ws_stateOf _) ((by rw [List.length_append, List.length_append, List.length_take, List.length_drop, blkOf_len, hyl]; omega : ((blkOf (l ++ x.take k)).take ((l ++ x.take k).length % 136) ++ ((x.drop k).take c) ++ (blkOf (l ++ x.take k)).drop ((l ++ x.take k).length % 136 + ((x.drop k).take c).length)).length = 136)) _ h32).mono ?_)
      rintro e V35 ⟨rfl, h36, kV35⟩
      refine ⟨_, rfl, ?_⟩
      have h37 : BytesAt V35 (.slice A n cap) (x.drop k) := h33.keeps0 kV35 (fun hn j hj e => hA (by rw [List.length_drop] at hn; omega) j hj e)
      have K38 : Keeps (One p) w V35 := K34.then kV35 (fun i hi hm => by unfold Own.One at hm; subst hm; exact rfl)
      refine ps_end <| blk_n <| then_n ?_
      refine ⟨⟨k + c, n - c, cap - c, (if cap = c then A else A.map (·.add c)), (iN c), (.slice A n cap), (iN n), (.bool true), (pT p 0), (pT p 0), (pT p 25), (pT p 0), (pT p 0), (pT p 161), (iN ((l ++ x.take k).length % 136)), (.slice (some ⟨p, 25 + ((l ++ x.take k).length % 136), none⟩) (136 - ((l ++ x.take k).length % 136)) (136 - ((l ++ x.take k).length % 136))), (.slice A n cap), (iN c), (pT p 0), (pT p 0), (pT p 161), (iN ((l ++ x.take k).length % 136)), (iN c), (iN (((l ++ x.take k).length % 136) + c)), (pT p 0), (pT p 161), (.slice A n cap), (iN c), (.slice (if cap = c then A else A.map (·.add c)) (n - c) (cap - c)), (pT p 0), (pT p 0), (pT p 161), (iN (((l ++ x.take k).length % 136) + c)), (.bool true), (pT p 0), (.tuple #[]), by kernel_rfl, by omega, fun hn j hj => hA (by omega) j (cut_block A n cap c j hj), (show BytesAt _ (.slice (if cap = c then A else A.map (·.add c)) (n - c) (cap - c)) (x.drop (k + c)) from by have := BytesAt.drop h37 c (by rw [List.length_drop]; omega) _ _ _ rfl; rwa [List.drop_drop] at this), h36.trans (congrArg (fun c => some (Obj.cells c 164 (0, 0))) (sp_next l x _ k c _ rfl _ (by obtain ⟨e1, e2, e3⟩ := write_full (l ++ x.take k) ((x.drop k).take c) (by rw [hyl]; omega); rw [← e1, ← e2, ← e3]))), K38⟩, ?_⟩
      exact lt_meas (x := n - c) (y := n) (by kernel_rfl) (by kernel_rfl) (by omega)
    · have hkx : x.take k = x := List.take_of_length_le (by omega)
      refine q_ <| qr_ [0, 1, 2] <| pkq (.slice A n cap) <| ppq (iN n) (exec_len (.tmp 14) 114 _ (by kernel_rfl) Tryz.underlying114 A n cap (by kernel_rfl)) <| ppq (.bool false) (dcf ((((n : Nat) : Int)) > ((0) : Int)) (by omega)) <| en_ <| sy_exit 0 (by kernel_rfl) <| then_e <| then_e <| blk_e <| sy_fall (.tuple #[]) rfl (by kernel_rfl) ?_
      exact ⟨rfl, (by unfold SpAt; rw [List.length_append]; have h := h7; rw [hkx, List.length_append] at h; exact h), K8⟩
theorem xor8_fin : ∀ c : Fin 256, bits .xor .u8 ((c.val : Nat) : Int) 6 = ((c.val ^^^ 6 : Nat) : Int) ∧ bits .xor .u8 ((c.val : Nat) : Int) 128 = ((c.val ^^^ 128 : Nat) : Int) := by decide +kernel
theorem xor8_6 (c : UInt8) : Value.int .u8 (bits .xor .u8 ((c.toNat : Nat) : Int) 6) = .int .u8 (((c ^^^ 6).toNat : Nat) : Int) := congrArg _ (xor8_fin ⟨c.toNat, c.toNat_lt⟩).1
theorem xor8_128 (c : UInt8) : Value.int .u8 (bits .xor .u8 ((c.toNat : Nat) : Int) 128) = .int .u8 (((c ^^^ 128).toNat : Nat) : Int) := congrArg _ (xor8_fin ⟨c.toNat, c.toNat_lt⟩).2
theorem last_eq (l : List UInt8) : ((blkOf l).set (l.length % 136) ((blkOf l).getD (l.length % 136) 0 ^^^ 6)).set 135 (((blkOf l).set (l.length % 136) ((blkOf l).getD (l.length % 136) 0 ^^^ 6)).getD 135 0 ^^^ 128) = Kec.lastBlock (Kec.restOf l) := by
  have hr := Kec.restOf_len l
  have e1 : (blkOf l).getD (l.length % 136) 0 = 0 := by
    unfold blkOf
    rw [Kec.getD_right _ _ _ _ (by omega), hr, Nat.sub_self, List.getD_eq_getElem?_getD, List.getElem?_replicate]
    split <;> rfl
  have e2 : (blkOf l).set (l.length % 136) ((blkOf l).getD (l.length % 136) 0 ^^^ 6) = Kec.restOf l ++ 6 :: List.replicate (135 - l.length % 136) 0 := by
    rw [e1]
    unfold blkOf
    rw [List.set_append, if_neg (by omega), hr, Nat.sub_self, show 136 - l.length % 136 = (135 - l.length % 136) + 1 by omega, List.replicate_succ]
    rfl
  rw [e2]
  unfold Kec.lastBlock
  rw [hr]
theorem squeeze_step (S : List Nat) (k : Nat) (hk : k < 4) : (Kec.squeeze S).take (8 * k + 8) = (Kec.squeeze S).take (8 * k) ++ Kec.eight (Kec.g S k) := by
  have e (n : Nat) : (Kec.eight n).length = 8 := eight_len
  unfold Kec.squeeze
  match k, hk with
  | 0, _ => rw [List.append_assoc, List.append_assoc, List.take_append_of_le_length (by rw [e]; omega), List.take_of_length_le (by rw [e]; omega)]; simp
  | 1, _ =>
    rw [List.append_assoc, List.take_append_of_le_length (by simp [e]), List.take_of_length_le (by simp [e]), List.append_assoc, List.take_append_of_le_length (by rw [e]; omega), List.take_of_length_le (by rw [e]; omega)]
  | 2, _ =>
    rw [List.take_append_of_le_length (by simp [e]), List.take_of_length_le (by simp [e]), List.append_assoc (Kec.eight _ ++ Kec.eight _), List.take_append_of_le_length (by simp [e]), List.take_of_length_le (by simp [e])]
  | 3, _ =>
    rw [List.take_of_length_le (by simp [e]), List.take_append_of_le_length (by simp [e]), List.take_of_length_le (by simp [e])]
def sqk (S : List Nat) (k : Nat) : List UInt8 := (Kec.squeeze S).take (8 * k) ++ List.replicate (32 - 8 * k) 0
theorem sqk_len (S : List Nat) (k : Nat) (hk : k ≤ 4) : (sqk S k).length = 32 := by unfold sqk; rw [List.length_append, List.length_take, Kec.squeeze_len, List.length_replicate]; omega
theorem seg_bytes (l y : List UInt8) (o : Nat) : seg (B l).toArray o (B y) = (B (l.take o ++ y ++ l.drop (o + y.length))).toArray := by
  apply Array.toList_inj.1
  simp [seg, B_append, ← B_take, ← B_drop, B_length]
theorem sqk_step (S : List Nat) (k : Nat) (hk : k < 4) : (sqk S k).take (8 * k) ++ Kec.eight (Kec.g S k) ++ (sqk S k).drop (8 * k + (Kec.eight (Kec.g S k)).length) = sqk S (k + 1) := by
  have hl : ((Kec.squeeze S).take (8 * k)).length = 8 * k := by rw [List.length_take, Kec.squeeze_len]; omega
  unfold sqk
  rw [List.take_left' hl, List.drop_append, List.drop_of_length_le (by omega), List.nil_append, hl, eight_len, Nat.add_sub_cancel_left, List.drop_replicate, show 8 * (k + 1) = 8 * k + 8 by omega, squeeze_step S k hk, Nat.sub_sub]
theorem sqk_all (S : List Nat) : sqk S 4 = Kec.squeeze S := by
  unfold sqk
  rw [List.take_of_length_le (by rw [Kec.squeeze_len]; omega)]; simp
theorem blk_bytes {w : World} {g n : Nat} {l : List UInt8} {T : TypeId} (h : w.heap[g]? = some (.cells (B l).toArray T (0, 0))) (hn : l.length = n) (hm : n ≤ maxLen) : BytesAt w (.slice (some ⟨g, 0, none⟩) n n) l := by
  subst hn
  refine ⟨⟨_, _, rfl, Nat.le_refl _, hm, fun h => by cases h⟩, fun k x hk => ⟨g, 0, _, rfl, lt_of_block h, ?_⟩⟩
  rw [Nat.zero_add]
  refine (cell_of_row _ _ _ _ _ _ h).trans ?_
  rw [List.getElem?_toArray]; exact B_get l k x hk
noncomputable def qc47_4 (n : Nat) : Code := partOf Tryz.f129 n
noncomputable abbrev qo47_4 (n k : Nat) : Oper := (opsAt (qc47_4 n)).getD k default
theorem ksum_ok (l : List UInt8) (w : World) :
    Calls Tryz.prog 129 #[.agg (Sp (Kec.stateOf l) (blkOf l) (l.length % 136) l.length)] w (fun e w' => e = .returned (.agg (B (Kec.sum l)).toArray) ∧ Keeps Nob w w') := by
  obtain ⟨S, hS⟩ : ∃ S, Kec.takes (Kec.stateOf l) (Kec.lastBlock (Kec.restOf l)) = S := ⟨_, rfl⟩
  have hSl : S.length = 25 := hS ▸ Kec.len_takes _ _
  have hSw : Kec.Ws S := hS ▸ Kec.ws_takes (Kec.ws_stateOf l) _
  have hmod : l.length % 136 < 136 := Nat.mod_lt _ (by decide)
  have K0 : Keeps Nob w w := Keeps.refl _ _
  refine sy_enter (qc47_4 1) ⟨#[.agg (Sp (Kec.stateOf l) (blkOf l) (l.length % 136) l.length), ud, ud, ud, ud, ud, ud, ud, ud, ud, ud, ud, ud, ud, ud, ud, ud, ud, ud, ud, ud, ud, ud, ud, ud, ud, ud, ud, ud, ud, ud, ud, ud, ud, ud, ud], []⟩ Tryz.func129 (by kernel_rfl) (by kernel_rfl) <| qr_ [0, 1] <| pbx 164 ((Sp (Kec.stateOf l) (blkOf l) (l.length % 136) l.length)) (.agg (Sp (Kec.stateOf l) (blkOf l) (l.length % 136) l.length)) fun V1 p ep h2 kV1 => ?_
  have n3 : w.heap.size ≤ p := ep ▸ K0.size
  have K4 := K0.nn kV1
  refine pal 23 (zr_u8_32) (.agg (zr_u8_32)) fun V5 gr egr h6 kV5 => ?_
  have n7 : p < gr := egr ▸ lt_of_block h2
  have n8 : w.heap.size ≤ gr := egr ▸ K4.size
  have h9 := kV5.bk h2
  have K10 := K4.nn kV5
  refine eqr_ [0, 1, 2, 3, 4, 5, 6, 7, 8] <| pkq (pT p 161) <| ppq (iN (l.length % 136)) (ldc 3 p 161 (rc (h9) (Sp_n _ _ _ _ (Kec.len_stateOf _) (blkOf_len _)))) <| pkq (pT p 25) <| ppq (.pointer (some ⟨p, 25 + (l.length % 136), none⟩)) (exec_cast (v := .pointer (some ⟨p, 25 + (l.length % 136) * 1, none⟩)) (by simp) (exec_indexAt_arr 162 (.tmp 8) (.tmp 7) (by kernel_rfl) p 25 (by kernel_rfl) .i64 (l.length % 136) (by kernel_rfl) _ _ 1 Tryz.underlying162 (by kernel_rfl) (by omega))) <| ppq (cN (((blkOf l).getD ((l.length % 136)) 0).toNat)) (exec_ld 5 (.tmp 9) p (25 + (l.length % 136)) Tryz.underlying5 (rc (h9) (Sp_byte _ _ _ _ (Kec.len_stateOf _) ((l.length % 136)) ((blkOf l).getD ((l.length % 136)) 0) (getD_some _ _ (by rw [(blkOf_len _)]; omega))))) <| ppq (cN (((blkOf l).getD (l.length % 136) 0 ^^^ 6).toNat)) (exec_cast (xor8_6 ((blkOf l).getD (l.length % 136) 0)) (by kernel_rfl)) <| pkq (pT p 25) <| ppq (.pointer (some ⟨p, 25 + (l.length % 136), none⟩)) (exec_cast (v := .pointer (some ⟨p, 25 + (l.length % 136) * 1, none⟩)) (by simp) (exec_indexAt_arr 162 (.tmp 12) (.tmp 7) (by kernel_rfl) p 25 (by kernel_rfl) .i64 (l.length % 136) (by kernel_rfl) _ _ 1 Tryz.underlying162 (by kernel_rfl) (by omega))) <| pce 5 p (25 + (l.length % 136)) (cN (((blkOf l).getD (l.length % 136) 0 ^^^ 6).toNat)) (Sp (Kec.stateOf l) ((blkOf l).set ((l.length % 136)) (((blkOf l).getD (l.length % 136) 0 ^^^ 6))) (l.length % 136) l.length) h9 (rc (h9) (Sp_byte _ _ _ _ (Kec.len_stateOf _) ((l.length % 136)) ((blkOf l).getD ((l.length % 136)) 0) (getD_some _ _ (by rw [(blkOf_len _)]; omega)))) (Sp_set_byte _ _ _ _ (Kec.len_stateOf _) ((l.length % 136)) (((blkOf l).getD (l.length % 136) 0 ^^^ 6)) (by rw [(blkOf_len _)]; omega)) fun V11 h12 kV11 => ?_
  have h13 := kV11.bO h6
  have K14 := K10.nO kV11
  refine eqr_ [0, 1, 2, 3, 4, 5, 6] <| pkq (pT p 25) <| ppq (pT p 160) (exec_cast (v := pT p (25 + 135 * 1)) (by simp) (exec_indexAt_arr 162 (.tmp 14) (.const (.int .i64 135)) (by kernel_rfl) p 25 (by kernel_rfl) .i64 135 (by kernel_rfl) _ _ 1 Tryz.underlying162 (by kernel_rfl) (by omega))) <| ppq (cN ((((blkOf l).set ((l.length % 136)) (((blkOf l).getD (l.length % 136) 0 ^^^ 6))).getD 135 0).toNat)) (ldc 5 p 160 (rc (h12) (Sp_byte _ _ _ _ (Kec.len_stateOf _) 135 (((blkOf l).set ((l.length % 136)) (((blkOf l).getD (l.length % 136) 0 ^^^ 6))).getD 135 0) (getD_some _ _ (by rw [((List.length_set ..).trans (blkOf_len _))]; omega))))) <| ppq (cN ((((blkOf l).set (l.length % 136) ((blkOf l).getD (l.length % 136) 0 ^^^ 6)).getD 135 0 ^^^ 128).toNat)) (exec_cast (xor8_128 (((blkOf l).set (l.length % 136) ((blkOf l).getD (l.length % 136) 0 ^^^ 6)).getD 135 0)) (by kernel_rfl)) <| pkq (pT p 25) <| ppq (pT p 160) (exec_cast (v := pT p (25 + 135 * 1)) (by simp) (exec_indexAt_arr 162 (.tmp 18) (.const (.int .i64 135)) (by kernel_rfl) p 25 (by kernel_rfl) .i64 135 (by kernel_rfl) _ _ 1 Tryz.underlying162 (by kernel_rfl) (by omega))) <| pce 5 p 160 (cN ((((blkOf l).set (l.length % 136) ((blkOf l).getD (l.length % 136) 0 ^^^ 6)).getD 135 0 ^^^ 128).toNat)) (Sp (Kec.stateOf l) (((blkOf l).set ((l.length % 136)) (((blkOf l).getD (l.length % 136) 0 ^^^ 6))).set 135 ((((blkOf l).set (l.length % 136) ((blkOf l).getD (l.length % 136) 0 ^^^ 6)).getD 135 0 ^^^ 128))) (l.length % 136) l.length) h12 (rc (h12) (Sp_byte _ _ _ _ (Kec.len_stateOf _) 135 (((blkOf l).set ((l.length % 136)) (((blkOf l).getD (l.length % 136) 0 ^^^ 6))).getD 135 0) (getD_some _ _ (by rw [((List.length_set ..).trans (blkOf_len _))]; omega)))) (Sp_set_byte _ _ _ _ (Kec.len_stateOf _) 135 ((((blkOf l).set (l.length % 136) ((blkOf l).getD (l.length % 136) 0 ^^^ 6)).getD 135 0 ^^^ 128)) (by rw [((List.length_set ..).trans (blkOf_len _))]; omega)) fun V15 h16 kV15 => ?_
  have h17 := kV15.bO h13
  have K18 := K14.nO kV15
  refine eqr_ [0] ?_
  refine pcq 150 #[pT p 0] Tryz.func150 ((ktakes_ok p _ _ _ _ (Kec.len_stateOf _) (Kec.ws_stateOf _) ((List.length_set ..).trans ((List.length_set ..).trans (blkOf_len _))) _ h16).mono ?_)
  rintro e V19 ⟨rfl, h20, kV19⟩
  rw [last_eq, hS] at h20
  refine ⟨_, rfl, ?_⟩
  have h21 := kV19.bO h17
  have K22 := K18.nO kV19
  refine eqr_ [0] <| pal 23 (zr_u8_32) (.agg (zr_u8_32)) fun V23 go ego h24 kV23 => ?_
  have n25 : gr < go := ego ▸ lt_of_block h21
  have n26 : p < go := ego ▸ lt_of_block h20
  have n27 : w.heap.size ≤ go := ego ▸ K22.size
  have h28 := kV23.bk h21
  have h29 := kV23.bk h20
  have K30 := K22.nn kV23
  refine eq_ <| qr_ [0] <| pkq (.int .i64 0) <| et_ <| b_ 0 ?_
  refine sy_loop (qc47_4 1012) (fun a V => ∃ (k : Nat) (u4 u5 u22 u23 u24 u25 u26 u27 u28 u29 u30 u31 u32 u33 u34 : Value), (a = ⟨#[.agg (Sp (Kec.stateOf l) (blkOf l) (l.length % 136) l.length), pT p 0, pT gr 0, pT go 0, u4, u5, pT p 161, iN (l.length % 136), pT p 25, .pointer (some ⟨p, 25 + (l.length % 136), none⟩), cN (((blkOf l).getD ((l.length % 136)) 0).toNat), cN (((blkOf l).getD (l.length % 136) 0 ^^^ 6).toNat), pT p 25, .pointer (some ⟨p, 25 + (l.length % 136), none⟩), pT p 25, pT p 160, cN ((((blkOf l).set ((l.length % 136)) (((blkOf l).getD (l.length % 136) 0 ^^^ 6))).getD 135 0).toNat), cN ((((blkOf l).set (l.length % 136) ((blkOf l).getD (l.length % 136) 0 ^^^ 6)).getD 135 0 ^^^ 128).toNat), pT p 25, pT p 160, .tuple #[], iN k, u22, u23, u24, u25, u26, u27, u28, u29, u30, u31, u32, u33, u34, ud], []⟩) ∧ (k ≤ 4) ∧ (V.heap[gr]? = some (.cells (zr_u8_32) 23 (0, 0))) ∧ (V.heap[p]? = some (.cells (Sp S zero136 0 l.length) 164 (0, 0))) ∧ (V.heap[go]? = some (.cells ((B (sqk S k)).toArray) 23 (0, 0))) ∧ (Keeps Nob w V)) (fun a _ => 4 - (intOf (a.tmps.getD 21 undef)).toNat) (by kernel_rfl) ?_ ?_
  · exact ⟨0, undef, undef, undef, undef, undef, undef, undef, undef, undef, undef, undef, undef, undef, undef, undef, by kernel_rfl, by omega, h28, h29, h24.trans (by kernel_rfl), K30⟩
  · rintro a V31 ⟨k, u4, u5, u22, u23, u24, u25, u26, u27, u28, u29, u30, u31, u32, u33, u34, rfl, hk, h32, h33, h34, K35⟩
    by_cases lt_k : k < 4
    · show _
      refine qr_ [0] <| ppq (.bool true) (dct ((((k : Nat) : Int)) < ((4) : Int)) (by omega)) <| eq_ <| y_ <| s_ <| tq_ <| b_ 1 <| qr_ [0, 1] <| pkq (iN k) <| pkq (iN k) <| eqr_ [0, 1, 2, 3, 4, 5, 6] <| pkq (iN k) <| pkq (pT p 0) <| ppq (pT p k) (exec_cast (v := pT p (0 + k * 1)) (by simp) (exec_indexAt_arr 161 (.tmp 25) (.tmp 24) (by kernel_rfl) p 0 (by kernel_rfl) .i64 k (by kernel_rfl) _ _ 1 Tryz.underlying161 (by kernel_rfl) (by omega))) ?_
      refine ppq (uN (Kec.g S k)) (ldc 24 p k (rc (h33) (Sp_word _ _ _ _ hSl k (by omega)))) ?_
      refine pcq 151 #[uN (Kec.g S k)] Tryz.func151 ((keight_ok (Kec.g S k) _ (hSw _)).mono ?_)
      rintro e V36 ⟨rfl, kV36⟩
      refine ⟨_, rfl, ?_⟩
      have h37 := kV36.bk h32
      have h38 := kV36.bk h33
      have h39 := kV36.bk h34
      have K40 := K35.nn kV36
      refine pal 183 (zr_u8_8) (.agg (zr_u8_8)) fun V41 gt egt h42 kV41 => ?_
      have n43 : gr < gt := egt ▸ lt_of_block h37
      have n44 : p < gt := egt ▸ lt_of_block h38
      have n45 : go < gt := egt ▸ lt_of_block h39
      have n46 : w.heap.size ≤ gt := egt ▸ K40.size
      have h47 := kV41.bk h37
      have h48 := kV41.bk h38
      have h49 := kV41.bk h39
      have K50 := K40.nn kV41
      refine pst 183 gt ((B (Kec.eight (Kec.g S k))).toArray) h42 (by rw [Bz_size, eight_len]; kernel_rfl) (by rw [Bz_size, eight_len]; rfl) (by rw [List.all_toArray]; exact List.all_eq_true.2 (B_one _)) fun V51 h52 kV51 => ?_
      have h53 := kV51.bO h47
      have h54 := kV51.bO h48
      have h55 := kV51.bO h49
      have K56 := K50.nO kV51
      refine et_ <| sy_reg <| rg_still 9 4 (opsAt (qc47_4 64819)) [qo47_4 64819 0, qo47_4 64819 1, qo47_4 64819 2, qo47_4 64819 3] [qo47_4 64819 4] (by kernel_rfl) (by kernel_rfl) (by kernel_rfl) (by kernel_rfl) (by kernel_rfl) ?_
      obtain ⟨V58, eV58, kV58⟩ := drew_step V51
      rw [eV58]
      clear eV58
      have h59 := kV58.bk h53
      have h60 := kV58.bk h54
      have h61 := kV58.bk h55
      have h62 := kV58.bk h52
      have K63 := K56.nn kV58
      refine skq (iN k) <| spq (iN (8 * k)) (exec_cast (congrArg (Value.int .i64) (wrapN (8 * k) (by omega))) (by kernel_rfl)) <| spq (.slice (some ⟨go, 0 + 8 * k, none⟩) (32 - 8 * k) (32 - 8 * k)) (exec_slice_arr 23 (.tmp 3) (.tmp 30) (by kernel_rfl) go 0 (by kernel_rfl) .i64 (8 * k) (by kernel_rfl) 32 5 Tryz.underlying23 (by kernel_rfl) (by omega)) <| spq (.slice (some ⟨gt, 0, none⟩) 8 8) (exec_slice_all 183 (.tmp 5) (by kernel_rfl) gt 0 (by kernel_rfl) 8 5 Tryz.underlying183 (by kernel_rfl)) <| st_end ?_
      obtain ⟨V64, eV64⟩ : ∃ V, V58.setRow go (seg (B (sqk S k)).toArray (0 + 8 * k) (B ((Kec.eight (Kec.g S k)).take 8))) = V := ⟨_, rfl⟩
      have kV64 : Keeps (One go) V58 V64 := eV64 ▸ (Keeps.refl (One go) _).setRow (fun _ => (rfl : Own.One go go)) _
      have h65 : V64.heap[go]? = some (.cells ((B (sqk S (k + 1))).toArray) 23 (0, 0)) := eV64 ▸ (setRow_heap _ _ _ _ _ _ h61).trans (congrArg (fun c => some (Obj.cells c 23 (0, 0))) (by rw [List.take_of_length_le (by rw [eight_len]; omega), Nat.zero_add, seg_bytes, sqk_step S k lt_k]))
      refine ls_run (qo47_4 64819 4) (w' := V64) (.int .i64 8) (by kernel_rfl) (by rw [← eV64]; exact exec_copy (.tmp 31) (.tmp 32) 114 (by kernel_rfl) 5 Tryz.underlying114 (by kernel_rfl) go (0 + 8 * k) (32 - 8 * k) (32 - 8 * k) (by kernel_rfl) (.slice (some ⟨gt, 0, none⟩) 8 8) (Kec.eight (Kec.g S k)) (by kernel_rfl) (blk_bytes h62 eight_len (by decide)) _ _ h61 8 (by rw [eight_len]; exact (Nat.min_eq_left (by omega)).symm) (by rw [Bz_size, sqk_len S _ (by omega)]; omega) (by rw [eight_len]; omega)) ?_
      clear eV64
      have h66 := kV64.bO h59
      have h67 := kV64.bO h60
      have K69 := K63.nO kV64
      refine ls_end <| blk_n <| tr_ [0, 1] <| ppq (iN (k + 1)) (exec_cast (congrArg (Value.int .i64) (wrapN (k + 1) (by omega))) (by kernel_rfl)) <| pkq (iN (k + 1)) <| et_ ?_
      refine ⟨⟨k + 1, (iN k), (pT gt 0), (.bool true), (iN k), (iN k), (pT p 0), (pT p k), (uN (Kec.g S k)), (.agg (B (Kec.eight (Kec.g S k))).toArray), (iN k), (iN (8 * k)), (.slice (some ⟨go, 0 + 8 * k, none⟩) (32 - 8 * k) (32 - 8 * k)), (.slice (some ⟨gt, 0, none⟩) 8 8), (.int .i64 8), (iN (k + 1)), by kernel_rfl, by omega, h66, h67, h65, K69⟩, ?_⟩
      exact lt_meas (x := 4 - (k + 1)) (y := 4 - k) (by kernel_rfl) (by kernel_rfl) (by omega)
    · have eq_k : k = 4 := by omega
      have h70 : V31.heap[go]? = some (.cells ((B (Kec.sum l)).toArray) 23 (0, 0)) := h34.trans (by rw [eq_k, sqk_all, ← hS]; rfl)
      refine qr_ [0] <| ppq (.bool false) (dcf ((((k : Nat) : Int)) < ((4) : Int)) (by omega)) <| eq_ <| n_ <| sy_exit 0 (by kernel_rfl) <| then_e <| then_e <| blk_e <| tqr_ [0, 1] <| ppq (.agg ((B (Kec.sum l)).toArray)) (ldr 23 go (h70) (by rw [Bz_size, Kec.sum_len]; kernel_rfl)) <| pst 23 gr (((B (Kec.sum l)).toArray)) h32 (by rw [Bz_size, Kec.sum_len]; kernel_rfl) (by rw [Bz_size, Kec.sum_len]; rfl) (by rw [List.all_toArray]; exact List.all_eq_true.2 (B_one _)) fun V71 h72 kV71 => ?_
      have K75 := K35.nO kV71
      refine eu_ <| sy_out (.agg ((B (Kec.sum l)).toArray)) rfl (results_cell_row (p := 2) (ty := 23) (by kernel_rfl) _ _ gr 23 ((B (Kec.sum l)).toArray) (0, 0) _ (by kernel_rfl) h72 Tryz.underlying23 rfl (by rw [Bz_size, Kec.sum_len]; kernel_rfl)) ?_
      exact ⟨rfl, K75⟩
end Go.Proofs.YtcbfnflnokoacaaGreat
namespace Go.Proofs.YtcbfnflnokoacaaGreat
set_option maxRecDepth 100000
set_option maxHeartbeats 4000000
open Go Go.RowKit Go.Own Go.Shelf
theorem SpAt.lt {w : World} {p : Nat} {l : List UInt8} (h : SpAt w p l) : p < w.heap.size := lt_of_block h
theorem SpAt.keeps {w w' : World} {M : Nat → Prop} {p : Nat} {l : List UInt8} (h : SpAt w p l) (k : Keeps M w w') (hm : ¬ M p) : SpAt w' p l := (k.block p (lt_of_block h) hm).trans h
theorem sp_nil : (Sp Kec.zero zero136 0 0) = Sp (Kec.stateOf []) (blkOf []) (([] : List UInt8).length % 136) ([] : List UInt8).length := by
  unfold Sp
  have : blkOf [] = zero136 := by simp [blkOf, zero136, Kec.restOf_nil]
  rw [this]; rfl
noncomputable def qc48_0 (n : Nat) : Code := partOf Tryz.f96 n
theorem kSum_ok (x : List UInt8) (A : Option Addr) (cap : Nat) (w : World) (hx : BytesAt w (.slice A x.length cap) x) (hl : x.length ≤ 9000000000000000000) :
    Calls Tryz.prog 96 #[.slice A x.length cap] w (fun e w' => e = .returned (.agg (B (Kec.sum x)).toArray) ∧ Keeps Nob w w') := by
  have K0 : Keeps Nob w w := Keeps.refl _ _
  refine sy_enter (qc48_0 1) ⟨#[.slice A x.length cap, ud, ud, ud, ud, ud, ud, ud], []⟩ Tryz.func96 (by kernel_rfl) (by kernel_rfl) <| qr_ [0] <| pal 23 (zr_u8_32) (.agg (zr_u8_32)) fun V1 gr egr h2 kV1 => ?_
  have n3 : w.heap.size ≤ gr := egr ▸ K0.size
  have h4 : BytesAt V1 (.slice A x.length cap) x := hx.keepsN kV1
  have K5 := K0.nn kV1
  refine eqr_ [0] <| pal 164 (Sp Kec.zero zero136 0 0) (.agg (Sp Kec.zero zero136 0 0)) fun V6 p ep h7 kV6 => ?_
  have n8 : gr < p := ep ▸ lt_of_block h2
  have n9 : w.heap.size ≤ p := ep ▸ K5.size
  have h10 : BytesAt V6 (.slice A x.length cap) x := h4.keepsN kV6
  have h11 := kV6.bk h2
  have K12 := K5.nn kV6
  refine eqr_ [0, 1] <| pkq (.slice A x.length cap) ?_
  have h15 : SpAt V6 p [] := h7.trans (congrArg (fun c => some (Obj.cells c 164 (0, 0))) sp_nil)
  have hA2 : 0 < x.length → ∀ j, (Value.slice A x.length cap).ownBlock = some j → j ≠ p := fun hn j hj => by have := hx.blockLt hn j hj; omega
  refine pcq 128 #[pT p 0, .slice A x.length cap] Tryz.func128 ((kwrite_ok p [] x A cap _ h15 h10 hA2 (by simpa using hl)).mono ?_)
  rintro e V13 ⟨rfl, h14, kV13⟩
  refine ⟨_, rfl, ?_⟩
  have h17 := kV13.bO h11
  have K18 := K12.nO kV13
  refine eqr_ [0, 1, 2] <| ppq (.agg (Sp (Kec.stateOf x) (blkOf x) (x.length % 136) x.length)) (ldr 164 p (h14) (by rw [Sp_size _ _ _ _ (Kec.len_stateOf _) (blkOf_len _)]; kernel_rfl)) ?_
  refine pcq 129 #[.agg (Sp (Kec.stateOf x) (blkOf x) (x.length % 136) x.length)] Tryz.func129 ((ksum_ok x _).mono ?_)
  rintro e V19 ⟨rfl, kV19⟩
  refine ⟨_, rfl, ?_⟩
  have h21 := kV19.bk h17
  have K23 := K18.nn kV19
  refine pst 23 gr ((B (Kec.sum x)).toArray) h21 (by rw [Bz_size, Kec.sum_len]; kernel_rfl) (by rw [Bz_size, Kec.sum_len]; rfl) (by rw [List.all_toArray]; exact List.all_eq_true.2 (B_one _)) fun V24 h25 kV24 => ?_
  have K28 := K23.nO kV24
  refine eu_ <| sy_out (.agg ((B (Kec.sum x)).toArray)) rfl (results_cell_row (p := 2) (ty := 23) (by kernel_rfl) _ _ gr 23 ((B (Kec.sum x)).toArray) (0, 0) _ (by kernel_rfl) h25 Tryz.underlying23 rfl (by rw [Bz_size, Kec.sum_len]; kernel_rfl)) ?_
  exact ⟨rfl, K28⟩
end Go.Proofs.YtcbfnflnokoacaaGreat
namespace Go.Proofs.YtcbfnflnokoacaaGreat
set_option maxRecDepth 100000
set_option maxHeartbeats 4000000
open Go Go.RowKit Go.Own Go.Shelf
def Att.dig (a : Att) : List UInt8 := Kec.sum a.bare
def Pro.dig (a : Pro) : List UInt8 := Kec.sum a.bare
theorem Att.dig_len (a : Att) : a.dig.length = 32 := Kec.sum_len _
theorem Pro.dig_len (a : Pro) : a.dig.length = 32 := Kec.sum_len _
theorem ksum_any (v : Value) (x : List UInt8) (w : World) (hx : BytesAt w v x) (hl : x.length ≤ 9000000000000000000) : Calls Tryz.prog 96 #[v] w fun e w' => e = .returned (.agg (B (Kec.sum x)).toArray) ∧ Keeps Nob w w' := by
  obtain ⟨A, cap, rfl⟩ := hx.len; exact kSum_ok x A cap w hx hl
noncomputable def qc49_2 (n : Nat) : Code := partOf Tryz.f72 n
theorem vhash_bad (x : Int) (v : Value) (w : World) (hx : x ≠ 0) :
    Calls Tryz.prog 72 #[.int .i64 x, v] w (fun e w' => e = .returned (.tuple #[.agg (B zhash).toArray, .int .i64 x]) ∧ Keeps Nob w w') := by
  have K0 : Keeps Nob w w := Keeps.refl _ _
  refine sy_enter (qc49_2 1) ⟨#[.int .i64 x, v, ud, ud, ud, ud, ud, ud, ud, ud, ud, ud, ud, ud, ud, ud, ud, ud, ud], []⟩ Tryz.func72 (by kernel_rfl) (by kernel_rfl) <| qr_ [0, 1] <| pal 23 (zr_u8_32) (.agg (zr_u8_32)) fun V1 gr egr h2 kV1 => ?_
  have n3 : w.heap.size ≤ gr := egr ▸ K0.size
  have K4 := K0.nn kV1
  have z5 := kV1.size
  refine pkq (.int .i64 0) <| eqr_ [0, 1, 2, 3, 4, 5, 6, 7] <| pkq (.int .i64 x) <| pkq (v) ?_
  refine pcq 95 #[.int .i64 x, v] Tryz.func95 ((vwritten_bad x v _ hx).mono ?_)
  rintro e w1 ⟨rfl, rfl⟩
  refine ⟨_, rfl, ?_⟩
  refine pkq (.tuple #[.slice none 0 0, .int .i64 x]) <| pkq (.slice none 0 0) <| pkq (.int .i64 x) <| pkq (.slice none 0 0) <| pkq (.int .i64 x) <| eq_ <| qr_ [0, 1] <| pkq (.int .i64 x) <| ppq (.bool true) (nqt ((x) : Int) ((0) : Int) (by omega)) <| ey_ <| qr_ [0, 1, 2, 3] <| pkq (.agg (B zhash).toArray) <| pkq (.int .i64 x) <| pst 23 gr ((B zhash).toArray) h2 (by rw [Bz_size, zhash_len]; kernel_rfl) (by rw [Bz_size, zhash_len]; rfl) (by rw [List.all_toArray]; exact List.all_eq_true.2 (B_one _)) fun V6 h7 kV6 => ?_
  have K8 := K4.nO kV6
  have z9 := kV6.size
  refine pkq (.int .i64 x) <| eu_ <| then_r <| sy_out (.tuple #[.agg ((B zhash).toArray), .int .i64 x]) rfl (results_row_tmp (p := 4) (q := 5) (ty := 23) (by kernel_rfl) _ _ gr 23 ((B zhash).toArray) (0, 0) _ (.int .i64 x) (by kernel_rfl) h7 Tryz.underlying23 rfl (by rw [Bz_size, zhash_len]; kernel_rfl) (by kernel_rfl)) ?_
  exact ⟨rfl, K8⟩
theorem vhash_ok (v : Value) (ts : List Thg) (vs : List Value) (w : World) (h0 : Row w 143 1 v ts.length vs) (h1 : ThsAt w vs ts) (hpos : 0 < ts.length) (hok : ∀ (k : Nat) (t : Thg), ts[k]? = some t → t.Ok) (hl : (allb ts).length ≤ 4096) (hmax : ts.length ≤ 1000) :
    Calls Tryz.prog 72 #[.int .i64 0, v] w (fun e w' => e = .returned (.tuple #[.agg (B (Kec.sum (allb ts))).toArray, .int .i64 0]) ∧ Keeps Nob w w') := by
  have K0 : Keeps Nob w w := Keeps.refl _ _
  refine sy_enter (qc49_2 1) ⟨#[.int .i64 0, v, ud, ud, ud, ud, ud, ud, ud, ud, ud, ud, ud, ud, ud, ud, ud, ud, ud], []⟩ Tryz.func72 (by kernel_rfl) (by kernel_rfl) <| qr_ [0, 1] <| pal 23 (zr_u8_32) (.agg (zr_u8_32)) fun V1 gr egr h2 kV1 => ?_
  have n3 : w.heap.size ≤ gr := egr ▸ K0.size
  have h4 : Row V1 143 1 v ts.length vs := h0.keeps kV1 (fun _ _ x => x)
  have h5 : ThsAt V1 vs ts := h1.keepsN kV1
  have K6 := K0.nn kV1
  have z7 := kV1.size
  refine pkq (.int .i64 0) <| eqr_ [0, 1, 2, 3, 4, 5, 6, 7] <| pkq (.int .i64 0) <| pkq (v) ?_
  refine pcq 95 #[.int .i64 0, v] Tryz.func95 ((vwritten_ok v ts vs _ h4 h5 hpos hok hl hmax).mono ?_)
  rintro e V8 ⟨X, rfl, hX, hnX, kV8⟩
  refine ⟨_, rfl, ?_⟩
  have h9 := kV8.bk h2
  have K10 := K6.nn kV8
  have z11 := kV8.size
  refine pkq (.tuple #[X, .int .i64 0]) <| pkq (X) <| pkq (.int .i64 0) <| pkq (X) <| pkq (.int .i64 0) <| eq_ <| qr_ [0, 1] <| pkq (.int .i64 0) <| pkq (.bool false) <| en_ <| s_ <| tqr_ [0, 1, 2, 3] <| pkq (X) ?_
  refine pcq 96 #[X] Tryz.func96 ((ksum_any X (allb ts) _ (Row.bytes hX) (by omega)).mono ?_)
  rintro e V12 ⟨rfl, kV12⟩
  refine ⟨_, rfl, ?_⟩
  have h13 := kV12.bk h9
  have K14 := K10.nn kV12
  have z15 := kV12.size
  refine pst 23 gr ((B (Kec.sum (allb ts))).toArray) h13 (by rw [Bz_size, Kec.sum_len]; kernel_rfl) (by rw [Bz_size, Kec.sum_len]; rfl) (by rw [List.all_toArray]; exact List.all_eq_true.2 (B_one _)) fun V16 h17 kV16 => ?_
  have K18 := K14.nO kV16
  have z19 := kV16.size
  refine pkq (.int .i64 0) <| eu_ <| sy_out (.tuple #[.agg ((B (Kec.sum (allb ts))).toArray), .int .i64 0]) rfl (results_row_tmp (p := 4) (q := 5) (ty := 23) (by kernel_rfl) _ _ gr 23 ((B (Kec.sum (allb ts))).toArray) (0, 0) _ (.int .i64 0) (by kernel_rfl) h17 Tryz.underlying23 rfl (by rw [Bz_size, (Kec.sum_len _)]; kernel_rfl) (by kernel_rfl)) ?_
  exact ⟨rfl, K18⟩
noncomputable def qc49_1 (n : Nat) : Code := partOf Tryz.f39 n
theorem vDigest_bad (a : Att) (w : World) (ha : a.Ok) (hf : ¬ a.fine) :
    Calls Tryz.prog 39 #[.agg (Att.c a)] w (fun e w' => e = .returned (.tuple #[.agg (B zhash).toArray, .int .i64 3]) ∧ Keeps Nob w w') := by
  have hr := ha.r
  have hlen := att_len hr
  obtain ⟨i0, hi0, hz0, hz1, hz2⟩ := info_parts thing_info
  have K0 : Keeps Nob w w := Keeps.refl _ _
  refine sy_enter (qc49_1 1) ⟨#[.agg (Att.c a), ud, ud, ud, ud, ud, ud, ud, ud, ud, ud], []⟩ Tryz.func39 (by kernel_rfl) (by kernel_rfl) <| qr_ [0, 1, 2] <| pbx 26 ((Att.c a)) (.agg (Att.c a)) fun V1 ga ega h2 kV1 => ?_
  have n3 : w.heap.size ≤ ga := ega ▸ K0.size
  have K4 := K0.nn kV1
  have z5 := kV1.size
  refine pal 23 (zr_u8_32) (.agg (zr_u8_32)) fun V6 gr egr h7 kV6 => ?_
  have n8 : ga < gr := egr ▸ lt_of_block h2
  have n9 : w.heap.size ≤ gr := egr ▸ K4.size
  have h10 := kV6.bk h2
  have K11 := K4.nn kV6
  have z12 := kV6.size
  refine pkq (.int .i64 0) <| eq_ <| sy_np <| sy_reg <| an_begin 1 9 (opsAt (qc49_1 6)) (fun W => (W.heap[ga]? = some (.cells (Att.c a) 26 (0, 0)))) #[false, false, false, false, false, false, false, false, false] (by kernel_rfl) (by kernel_rfl) (by kernel_rfl) (by kernel_rfl) ?_
  obtain ⟨V13, eV13, kV13⟩ := drew_step V6
  rw [eV13]
  clear eV13
  have h14 := kV13.bk h10
  have h15 := kV13.bk h7
  have K16 := K11.nn kV13
  have z17 := kV13.size
  refine avq 0 (.agg (Att.c a)) (fun W hS => ldr 26 ga (hS) (by rw [Att.c_size _ hr]; kernel_rfl)) h14 <| avq 2 (.agg (Att.c a)) (fun W hS => ldr 26 ga (hS) (by rw [Att.c_size _ hr]; kernel_rfl)) h14 <| an_o 1 ?_
  refine ncq 66 #[.agg (Att.c a)] Tryz.func66 ((vCheck_is a _ hr (Att.err_no hf)).mono ?_)
  rintro e V18 ⟨rfl, kV18⟩
  refine ⟨_, rfl, ?_⟩
  have h19 := kV18.bk h14
  have h20 := kV18.bk h15
  have K21 := K16.nn kV18
  have z22 := kV18.size
  refine ⟨h19, ?_⟩
  refine an_o 3 ?_
  refine ncq 75 #[.agg (Att.c a)] Tryz.func75 ((vthings_ok a _ hr).mono ?_)
  rintro e V23 ⟨gl, vs, rfl, hrow, hths, hnl, kV23⟩
  have hnl2 : NewFrom w.heap.size (.slice (some ⟨gl, 0, none⟩) 5 5) := fun j hj => by have := hnl j hj; have := K21.size; omega
  refine ⟨_, rfl, ?_⟩
  have h24 := kV23.bk h19
  have h25 := kV23.bk h20
  have K26 := K21.nn kV23
  have z27 := kV23.size
  refine ⟨h24, ?_⟩
  refine an_o 4 ?_
  refine ncq 72 #[.int .i64 3, .slice (some ⟨gl, 0, none⟩) 5 5] Tryz.func72 ((vhash_bad 3 _ _ (by decide)).mono ?_)
  rintro e V28 ⟨rfl, kV28⟩
  refine ⟨_, rfl, ?_⟩
  have h29 := kV28.bk h24
  have h30 := kV28.bk h25
  have K31 := K26.nn kV28
  have z32 := kV28.size
  refine ⟨h29, ?_⟩
  refine akq 5 (.agg (B zhash).toArray) h29 <| akq 6 (.int .i64 3) h29 <| an_o 7 <| nst 23 gr ((B zhash).toArray) h30 (by rw [Bz_size, show (zhash).length = 32 from zhash_len]; kernel_rfl) (by rw [Bz_size, show (zhash).length = 32 from zhash_len]; rfl) (by rw [List.all_toArray]; exact List.all_eq_true.2 (B_one _)) fun V33 h34 kV33 => ?_
  have h35 := kV33.bO h29
  have K36 := K31.nO kV33
  have z37 := kV33.size
  refine ⟨h35, ?_⟩
  refine an_o 8 <| nrq (.int .i64 3) (w' := V33) (by kernel_rfl) ?_
  refine ⟨h35, ?_⟩
  refine an_end (by kernel_rfl) <| then_n <| u_ <| sy_out (.tuple #[.agg ((B zhash).toArray), .int .i64 3]) rfl (results_row_tmp (p := 2) (q := 3) (ty := 23) (by kernel_rfl) _ _ gr 23 ((B zhash).toArray) (0, 0) _ (.int .i64 3) (by kernel_rfl) h34 Tryz.underlying23 rfl (by rw [Bz_size, zhash_len]; kernel_rfl) (by kernel_rfl)) ?_
  exact ⟨rfl, K36⟩
theorem vDigest_ok (a : Att) (w : World) (ha : a.Ok) (hf : a.fine) :
    Calls Tryz.prog 39 #[.agg (Att.c a)] w (fun e w' => e = .returned (.tuple #[.agg (B a.dig).toArray, .int .i64 0]) ∧ Keeps Nob w w') := by
  have hr := ha.r
  have hlen := att_len hr
  obtain ⟨i0, hi0, hz0, hz1, hz2⟩ := info_parts thing_info
  have K0 : Keeps Nob w w := Keeps.refl _ _
  refine sy_enter (qc49_1 1) ⟨#[.agg (Att.c a), ud, ud, ud, ud, ud, ud, ud, ud, ud, ud], []⟩ Tryz.func39 (by kernel_rfl) (by kernel_rfl) <| qr_ [0, 1, 2] <| pbx 26 ((Att.c a)) (.agg (Att.c a)) fun V1 ga ega h2 kV1 => ?_
  have n3 : w.heap.size ≤ ga := ega ▸ K0.size
  have K4 := K0.nn kV1
  have z5 := kV1.size
  refine pal 23 (zr_u8_32) (.agg (zr_u8_32)) fun V6 gr egr h7 kV6 => ?_
  have n8 : ga < gr := egr ▸ lt_of_block h2
  have n9 : w.heap.size ≤ gr := egr ▸ K4.size
  have h10 := kV6.bk h2
  have K11 := K4.nn kV6
  have z12 := kV6.size
  refine pkq (.int .i64 0) <| eq_ <| sy_np <| sy_reg <| an_begin 1 9 (opsAt (qc49_1 6)) (fun W => (W.heap[ga]? = some (.cells (Att.c a) 26 (0, 0)))) #[false, false, false, false, false, false, false, false, false] (by kernel_rfl) (by kernel_rfl) (by kernel_rfl) (by kernel_rfl) ?_
  obtain ⟨V13, eV13, kV13⟩ := drew_step V6
  rw [eV13]
  clear eV13
  have h14 := kV13.bk h10
  have h15 := kV13.bk h7
  have K16 := K11.nn kV13
  have z17 := kV13.size
  refine avq 0 (.agg (Att.c a)) (fun W hS => ldr 26 ga (hS) (by rw [Att.c_size _ hr]; kernel_rfl)) h14 <| avq 2 (.agg (Att.c a)) (fun W hS => ldr 26 ga (hS) (by rw [Att.c_size _ hr]; kernel_rfl)) h14 <| an_o 1 ?_
  refine ncq 66 #[.agg (Att.c a)] Tryz.func66 ((vCheck_is a _ hr (Att.err_ok hf)).mono ?_)
  rintro e V18 ⟨rfl, kV18⟩
  refine ⟨_, rfl, ?_⟩
  have h19 := kV18.bk h14
  have h20 := kV18.bk h15
  have K21 := K16.nn kV18
  have z22 := kV18.size
  refine ⟨h19, ?_⟩
  refine an_o 3 ?_
  refine ncq 75 #[.agg (Att.c a)] Tryz.func75 ((vthings_ok a _ hr).mono ?_)
  rintro e V23 ⟨gl, vs, rfl, hrow, hths, hnl, kV23⟩
  have hnl2 : NewFrom w.heap.size (.slice (some ⟨gl, 0, none⟩) 5 5) := fun j hj => by have := hnl j hj; have := K21.size; omega
  refine ⟨_, rfl, ?_⟩
  have h24 := kV23.bk h19
  have h25 := kV23.bk h20
  have K26 := K21.nn kV23
  have z27 := kV23.size
  refine ⟨h24, ?_⟩
  refine an_o 4 ?_
  refine ncq 72 #[.int .i64 0, .slice (some ⟨gl, 0, none⟩) 5 5] Tryz.func72 ((vhash_ok _ (attT a) _ _ hrow hths (by simp [attT]) (okT_pre (att_okT ha hf)) (by have h := hlen.2; unfold Att.bare at h; omega) (by simp [attT])).mono ?_)
  rintro e V28 ⟨rfl, kV28⟩
  refine ⟨_, rfl, ?_⟩
  have h29 := kV28.bk h24
  have h30 := kV28.bk h25
  have K31 := K26.nn kV28
  have z32 := kV28.size
  refine ⟨h29, ?_⟩
  refine akq 5 (.agg (B a.dig).toArray) h29 <| akq 6 (.int .i64 0) h29 <| an_o 7 <| nst 23 gr ((B a.dig).toArray) h30 (by rw [Bz_size, show (a.dig).length = 32 from (Att.dig_len a)]; kernel_rfl) (by rw [Bz_size, show (a.dig).length = 32 from (Att.dig_len a)]; rfl) (by rw [List.all_toArray]; exact List.all_eq_true.2 (B_one _)) fun V33 h34 kV33 => ?_
  have h35 := kV33.bO h29
  have K36 := K31.nO kV33
  have z37 := kV33.size
  refine ⟨h35, ?_⟩
  refine an_o 8 <| nrq (.int .i64 0) (w' := V33) (by kernel_rfl) ?_
  refine ⟨h35, ?_⟩
  refine an_end (by kernel_rfl) <| then_n <| u_ <| sy_out (.tuple #[.agg ((B a.dig).toArray), .int .i64 0]) rfl (results_row_tmp (p := 2) (q := 3) (ty := 23) (by kernel_rfl) _ _ gr 23 ((B a.dig).toArray) (0, 0) _ (.int .i64 0) (by kernel_rfl) h34 Tryz.underlying23 rfl (by rw [Bz_size, (Att.dig_len a)]; kernel_rfl) (by kernel_rfl)) ?_
  exact ⟨rfl, K36⟩
noncomputable def qc49_0 (n : Nat) : Code := partOf Tryz.f37 n
theorem vDigestBlock_bad (a : Pro) (w : World) (ha : a.Ok) (hf : ¬ a.fine) :
    Calls Tryz.prog 37 #[.agg (Pro.c a)] w (fun e w' => e = .returned (.tuple #[.agg (B zhash).toArray, .int .i64 3]) ∧ Keeps Nob w w') := by
  have hr := ha.r
  have hlen := pro_len hr
  obtain ⟨i0, hi0, hz0, hz1, hz2⟩ := info_parts thing_info
  have K0 : Keeps Nob w w := Keeps.refl _ _
  refine sy_enter (qc49_0 1) ⟨#[.agg (Pro.c a), ud, ud, ud, ud, ud, ud, ud, ud, ud, ud], []⟩ Tryz.func37 (by kernel_rfl) (by kernel_rfl) <| qr_ [0, 1, 2] <| pbx 28 ((Pro.c a)) (.agg (Pro.c a)) fun V1 ga ega h2 kV1 => ?_
  have n3 : w.heap.size ≤ ga := ega ▸ K0.size
  have K4 := K0.nn kV1
  have z5 := kV1.size
  refine pal 23 (zr_u8_32) (.agg (zr_u8_32)) fun V6 gr egr h7 kV6 => ?_
  have n8 : ga < gr := egr ▸ lt_of_block h2
  have n9 : w.heap.size ≤ gr := egr ▸ K4.size
  have h10 := kV6.bk h2
  have K11 := K4.nn kV6
  have z12 := kV6.size
  refine pkq (.int .i64 0) <| eq_ <| sy_np <| sy_reg <| an_begin 1 9 (opsAt (qc49_0 6)) (fun W => (W.heap[ga]? = some (.cells (Pro.c a) 28 (0, 0)))) #[false, false, false, false, false, false, false, false, false] (by kernel_rfl) (by kernel_rfl) (by kernel_rfl) (by kernel_rfl) ?_
  obtain ⟨V13, eV13, kV13⟩ := drew_step V6
  rw [eV13]
  clear eV13
  have h14 := kV13.bk h10
  have h15 := kV13.bk h7
  have K16 := K11.nn kV13
  have z17 := kV13.size
  refine avq 0 (.agg (Pro.c a)) (fun W hS => ldr 28 ga (hS) (by rw [Pro.c_size _ hr]; kernel_rfl)) h14 <| avq 2 (.agg (Pro.c a)) (fun W hS => ldr 28 ga (hS) (by rw [Pro.c_size _ hr]; kernel_rfl)) h14 <| an_o 1 ?_
  refine ncq 73 #[.agg (Pro.c a)] Tryz.func73 ((vCheckBlock_is a _ hr (Pro.err_no hf)).mono ?_)
  rintro e V18 ⟨rfl, kV18⟩
  refine ⟨_, rfl, ?_⟩
  have h19 := kV18.bk h14
  have h20 := kV18.bk h15
  have K21 := K16.nn kV18
  have z22 := kV18.size
  refine ⟨h19, ?_⟩
  refine an_o 3 ?_
  refine ncq 74 #[.agg (Pro.c a)] Tryz.func74 ((vthingsBlock_ok a _ hr).mono ?_)
  rintro e V23 ⟨gl, vs, rfl, hrow, hths, hnl, kV23⟩
  have hnl2 : NewFrom w.heap.size (.slice (some ⟨gl, 0, none⟩) 4 4) := fun j hj => by have := hnl j hj; have := K21.size; omega
  refine ⟨_, rfl, ?_⟩
  have h24 := kV23.bk h19
  have h25 := kV23.bk h20
  have K26 := K21.nn kV23
  have z27 := kV23.size
  refine ⟨h24, ?_⟩
  refine an_o 4 ?_
  refine ncq 72 #[.int .i64 3, .slice (some ⟨gl, 0, none⟩) 4 4] Tryz.func72 ((vhash_bad 3 _ _ (by decide)).mono ?_)
  rintro e V28 ⟨rfl, kV28⟩
  refine ⟨_, rfl, ?_⟩
  have h29 := kV28.bk h24
  have h30 := kV28.bk h25
  have K31 := K26.nn kV28
  have z32 := kV28.size
  refine ⟨h29, ?_⟩
  refine akq 5 (.agg (B zhash).toArray) h29 <| akq 6 (.int .i64 3) h29 <| an_o 7 <| nst 23 gr ((B zhash).toArray) h30 (by rw [Bz_size, show (zhash).length = 32 from zhash_len]; kernel_rfl) (by rw [Bz_size, show (zhash).length = 32 from zhash_len]; rfl) (by rw [List.all_toArray]; exact List.all_eq_true.2 (B_one _)) fun V33 h34 kV33 => ?_
  have h35 := kV33.bO h29
  have K36 := K31.nO kV33
  have z37 := kV33.size
  refine ⟨h35, ?_⟩
  refine an_o 8 <| nrq (.int .i64 3) (w' := V33) (by kernel_rfl) ?_
  refine ⟨h35, ?_⟩
  refine an_end (by kernel_rfl) <| then_n <| u_ <| sy_out (.tuple #[.agg ((B zhash).toArray), .int .i64 3]) rfl (results_row_tmp (p := 2) (q := 3) (ty := 23) (by kernel_rfl) _ _ gr 23 ((B zhash).toArray) (0, 0) _ (.int .i64 3) (by kernel_rfl) h34 Tryz.underlying23 rfl (by rw [Bz_size, zhash_len]; kernel_rfl) (by kernel_rfl)) ?_
  exact ⟨rfl, K36⟩
theorem vDigestBlock_ok (a : Pro) (w : World) (ha : a.Ok) (hf : a.fine) :
    Calls Tryz.prog 37 #[.agg (Pro.c a)] w (fun e w' => e = .returned (.tuple #[.agg (B a.dig).toArray, .int .i64 0]) ∧ Keeps Nob w w') := by
  have hr := ha.r
  have hlen := pro_len hr
  obtain ⟨i0, hi0, hz0, hz1, hz2⟩ := info_parts thing_info
  have K0 : Keeps Nob w w := Keeps.refl _ _
  refine sy_enter (qc49_0 1) ⟨#[.agg (Pro.c a), ud, ud, ud, ud, ud, ud, ud, ud, ud, ud], []⟩ Tryz.func37 (by kernel_rfl) (by kernel_rfl) <| qr_ [0, 1, 2] <| pbx 28 ((Pro.c a)) (.agg (Pro.c a)) fun V1 ga ega h2 kV1 => ?_
  have n3 : w.heap.size ≤ ga := ega ▸ K0.size
  have K4 := K0.nn kV1
  have z5 := kV1.size
  refine pal 23 (zr_u8_32) (.agg (zr_u8_32)) fun V6 gr egr h7 kV6 => ?_
  have n8 : ga < gr := egr ▸ lt_of_block h2
  have n9 : w.heap.size ≤ gr := egr ▸ K4.size
  have h10 := kV6.bk h2
  have K11 := K4.nn kV6
  have z12 := kV6.size
  refine pkq (.int .i64 0) <| eq_ <| sy_np <| sy_reg <| an_begin 1 9 (opsAt (qc49_0 6)) (fun W => (W.heap[ga]? = some (.cells (Pro.c a) 28 (0, 0)))) #[false, false, false, false, false, false, false, false, false] (by kernel_rfl) (by kernel_rfl) (by kernel_rfl) (by kernel_rfl) ?_
  obtain ⟨V13, eV13, kV13⟩ := drew_step V6
  rw [eV13]
  clear eV13
  have h14 := kV13.bk h10
  have h15 := kV13.bk h7
  have K16 := K11.nn kV13
  have z17 := kV13.size
  refine avq 0 (.agg (Pro.c a)) (fun W hS => ldr 28 ga (hS) (by rw [Pro.c_size _ hr]; kernel_rfl)) h14 <| avq 2 (.agg (Pro.c a)) (fun W hS => ldr 28 ga (hS) (by rw [Pro.c_size _ hr]; kernel_rfl)) h14 <| an_o 1 ?_
  refine ncq 73 #[.agg (Pro.c a)] Tryz.func73 ((vCheckBlock_is a _ hr (Pro.err_ok hf)).mono ?_)
  rintro e V18 ⟨rfl, kV18⟩
  refine ⟨_, rfl, ?_⟩
  have h19 := kV18.bk h14
  have h20 := kV18.bk h15
  have K21 := K16.nn kV18
  have z22 := kV18.size
  refine ⟨h19, ?_⟩
  refine an_o 3 ?_
  refine ncq 74 #[.agg (Pro.c a)] Tryz.func74 ((vthingsBlock_ok a _ hr).mono ?_)
  rintro e V23 ⟨gl, vs, rfl, hrow, hths, hnl, kV23⟩
  have hnl2 : NewFrom w.heap.size (.slice (some ⟨gl, 0, none⟩) 4 4) := fun j hj => by have := hnl j hj; have := K21.size; omega
  refine ⟨_, rfl, ?_⟩
  have h24 := kV23.bk h19
  have h25 := kV23.bk h20
  have K26 := K21.nn kV23
  have z27 := kV23.size
  refine ⟨h24, ?_⟩
  refine an_o 4 ?_
  refine ncq 72 #[.int .i64 0, .slice (some ⟨gl, 0, none⟩) 4 4] Tryz.func72 ((vhash_ok _ (proT a) _ _ hrow hths (by simp [proT]) (okT_pre (pro_okT ha hf)) (by have h := hlen.2; unfold Pro.bare at h; omega) (by simp [proT])).mono ?_)
  rintro e V28 ⟨rfl, kV28⟩
  refine ⟨_, rfl, ?_⟩
  have h29 := kV28.bk h24
  have h30 := kV28.bk h25
  have K31 := K26.nn kV28
  have z32 := kV28.size
  refine ⟨h29, ?_⟩
  refine akq 5 (.agg (B a.dig).toArray) h29 <| akq 6 (.int .i64 0) h29 <| an_o 7 <| nst 23 gr ((B a.dig).toArray) h30 (by rw [Bz_size, show (a.dig).length = 32 from (Pro.dig_len a)]; kernel_rfl) (by rw [Bz_size, show (a.dig).length = 32 from (Pro.dig_len a)]; rfl) (by rw [List.all_toArray]; exact List.all_eq_true.2 (B_one _)) fun V33 h34 kV33 => ?_
  have h35 := kV33.bO h29
  have K36 := K31.nO kV33
  have z37 := kV33.size
  refine ⟨h35, ?_⟩
  refine an_o 8 <| nrq (.int .i64 0) (w' := V33) (by kernel_rfl) ?_
  refine ⟨h35, ?_⟩
  refine an_end (by kernel_rfl) <| then_n <| u_ <| sy_out (.tuple #[.agg ((B a.dig).toArray), .int .i64 0]) rfl (results_row_tmp (p := 2) (q := 3) (ty := 23) (by kernel_rfl) _ _ gr 23 ((B a.dig).toArray) (0, 0) _ (.int .i64 0) (by kernel_rfl) h34 Tryz.underlying23 rfl (by rw [Bz_size, (Pro.dig_len a)]; kernel_rfl) (by kernel_rfl)) ?_
  exact ⟨rfl, K36⟩
end Go.Proofs.YtcbfnflnokoacaaGreat
