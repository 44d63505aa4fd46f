/-
  Keccak: a sponge in memory; laws on parts of blocks. Conditions: none.
-/
import Derived.Test.YtenaakldccjnbaaKecB
namespace Go.Proofs.Ytenaakldccjnbaa
open Go Go.RowKit Go.Own Go.Shelf
theorem word_snoc (l : List UInt8) (k : Nat) (hk : k < l.length) : Kec.word (l.take (k + 1)) = Kec.word (l.take k) + 256 ^ k * (l.getD k 0).toNat := by
  induction l generalizing k with
  | nil => simp at hk
  | cons x r ih =>
    cases k with
    | zero => simp [Kec.word]
    | succ k =>
      have := ih k (by simpa using hk)
      simp only [List.take_succ_cons, Kec.word, List.getD_cons_succ]
      rw [this, Nat.pow_succ, Nat.mul_add]
      have e : 256 ^ k * 256 * (r.getD k 0).toNat = 256 * (256 ^ k * (r.getD k 0).toNat) := by rw [Nat.mul_comm (256 ^ k) 256, Nat.mul_assoc]
      omega
theorem word_step (l : List UInt8) (k : Nat) (hk : k < l.length) (h8 : k < 8) : Kec.word (l.take k) ||| (((l.getD k 0).toNat <<< (8 * k)) % Kec.W) = Kec.word (l.take (k + 1)) := by
  have h1 := Kec.word_lt (l.take k)
  have h2 : (l.take k).length = k := by rw [List.length_take]; omega
  rw [h2] at h1
  have h3 := (l.getD k 0).toNat_lt
  have e1 : (256 : Nat) ^ k = 2 ^ (8 * k) := by rw [Nat.pow_mul]
  have h4 : (l.getD k 0).toNat <<< (8 * k) < Kec.W := by
    rw [Nat.shiftLeft_eq, Kec.W_eq]
    calc (l.getD k 0).toNat * 2 ^ (8 * k) < 256 * 2 ^ (8 * k) := Nat.mul_lt_mul_of_pos_right h3 (Nat.two_pow_pos _)
      _ = 2 ^ (8 * k + 8) := by rw [Nat.pow_add, Nat.mul_comm]
      _ ≤ 2 ^ 64 := Nat.pow_le_pow_right (by decide) (by omega)
  rw [Nat.mod_eq_of_lt h4, Nat.or_comm, ← Nat.shiftLeft_add_eq_or_of_lt (by rw [← e1]; exact h1), word_snoc l k hk, Nat.shiftLeft_eq, ← e1, Nat.mul_comm, Nat.add_comm]
theorem word_take_lt (l : List UInt8) (k : Nat) (h8 : k ≤ 8) : Kec.word (l.take k) < Kec.W := by
  have h1 := Kec.word_lt (l.take k)
  have h2 : (l.take k).length ≤ 8 := by rw [List.length_take]; omega
  have h3 : (256 : Nat) ^ (l.take k).length ≤ 256 ^ 8 := Nat.pow_le_pow_right (by decide) h2
  have h4 : (256 : Nat) ^ 8 = Kec.W := by decide
  omega
/-- The cells of a sponge: its words, its block, how many bytes of it are taken, how many came. -/
def Sp (s : List Nat) (blk : List UInt8) (n m : Nat) : Array Value := Wz s ++ (B blk).toArray ++ #[.int .i64 (n : Int), .int .i64 (m : Int)]
theorem Sp_size (s : List Nat) (blk : List UInt8) (n m : Nat) (hs : s.length = 25) (hb : blk.length = 136) : (Sp s blk n m).size = 163 := by simp [Sp, Wz_size, B_length, hs, hb]
theorem Sp_word (s : List Nat) (blk : List UInt8) (n m : Nat) (hs : s.length = 25) (i : Nat) (hi : i < 25) : (Sp s blk n m)[i]? = some (.int .u64 ((Kec.g s i : Nat) : Int)) := by
  unfold Sp
  rw [Array.append_assoc, Array.getElem?_append_left (by rw [Wz_size]; omega)]
  exact Wz_get s i (by omega)
theorem Sp_byte (s : List Nat) (blk : List UInt8) (n m : Nat) (hs : s.length = 25) (i : Nat) (x : UInt8) (hi : blk[i]? = some x) : (Sp s blk n m)[25 + i]? = some (.int .u8 ((x.toNat : Nat) : Int)) := by
  have hlt : i < blk.length := (List.getElem?_eq_some_iff.1 hi).1
  unfold Sp
  rw [Array.append_assoc, Array.getElem?_append_right (by rw [Wz_size]; omega), Wz_size, hs, Nat.add_sub_cancel_left, Array.getElem?_append_left (by simp [B_length]; omega)]
  simpa using B_get blk i x hi
theorem Sp_n (s : List Nat) (blk : List UInt8) (n m : Nat) (hs : s.length = 25) (hb : blk.length = 136) : (Sp s blk n m)[161]? = some (.int .i64 (n : Int)) := by
  unfold Sp
  rw [Array.getElem?_append_right (by simp [Wz_size, B_length, hs, hb])]
  simp [Wz_size, B_length, hs, hb]
theorem Sp_m (s : List Nat) (blk : List UInt8) (n m : Nat) (hs : s.length = 25) (hb : blk.length = 136) : (Sp s blk n m)[162]? = some (.int .i64 (m : Int)) := by
  unfold Sp
  rw [Array.getElem?_append_right (by simp [Wz_size, B_length, hs, hb])]
  simp [Wz_size, B_length, hs, hb]
theorem Sp_set_word (s : List Nat) (blk : List UInt8) (n m : Nat) (hs : s.length = 25) (i v : Nat) (hi : i < 25) : (Sp s blk n m).setIfInBounds i (.int .u64 ((v : Nat) : Int)) = Sp (s.set i v) blk n m := by
  unfold Sp
  rw [Array.append_assoc, Array.append_assoc, ← Wz_set]
  apply Array.toList_inj.1
  simp [List.set_append, Wz_size, hs, hi, Wz]
theorem Sp_set_n (s : List Nat) (blk : List UInt8) (n m k : Nat) (hs : s.length = 25) (hb : blk.length = 136) : (Sp s blk n m).setIfInBounds 161 (.int .i64 ((k : Nat) : Int)) = Sp s blk k m := by
  unfold Sp
  apply Array.toList_inj.1
  simp [List.set_append, Wz_size, B_length, hs, hb, Wz]
theorem Sp_set_m (s : List Nat) (blk : List UInt8) (n m k : Nat) (hs : s.length = 25) (hb : blk.length = 136) : (Sp s blk n m).setIfInBounds 162 (.int .i64 ((k : Nat) : Int)) = Sp s blk n k := by
  unfold Sp
  apply Array.toList_inj.1
  simp [List.set_append, Wz_size, B_length, hs, hb, Wz]
theorem Sp_set_byte (s : List Nat) (blk : List UInt8) (n m : Nat) (hs : s.length = 25) (i : Nat) (x : UInt8) (hi : i < blk.length) : (Sp s blk n m).setIfInBounds (25 + i) (.int .u8 ((x.toNat : Nat) : Int)) = Sp s (blk.set i x) n m := by
  unfold Sp
  apply Array.toList_inj.1
  have hl : (s.map fun (x : Nat) => Value.int .u64 (x : Int)).length = 25 := by simp [hs]
  simp only [Array.toList_setIfInBounds, Array.toList_append, Wz]
  rw [List.append_assoc, List.set_append, if_neg (by omega), hl, Nat.add_sub_cancel_left, List.set_append, if_pos (by simpa [B_length] using hi)]
  simp [B, List.map_set]
theorem Sp_seg_words (s s' : List Nat) (blk : List UInt8) (n m : Nat) (hs : s.length = 25) (hs' : s'.length = 25) : seg (Sp s blk n m) 0 (Wz s').toList = Sp s' blk n m := by
  apply Array.toList_inj.1
  have hl : (s.map fun (x : Nat) => Value.int .u64 (x : Int)).length = 25 := by simp [hs]
  have hl' : (s'.map fun (x : Nat) => Value.int .u64 (x : Int)).length = 25 := by simp [hs']
  simp only [seg, Sp, Wz, Array.toList_append, List.take_zero, List.nil_append, hl', Nat.zero_add]
  rw [List.append_assoc, List.drop_append_of_le_length (by omega), List.drop_of_length_le (by omega), List.nil_append, List.append_assoc]
theorem seg_lists (A B C L : List Value) (k : Nat) (hA : A.length = 25) (hk : k + L.length ≤ B.length) : (A ++ B ++ C).take (25 + k) ++ L ++ (A ++ B ++ C).drop (25 + k + L.length) = A ++ (B.take k ++ L ++ B.drop (k + L.length)) ++ C := by
  rw [List.append_assoc A B C, List.take_append, List.take_of_length_le (by omega), hA, Nat.add_sub_cancel_left, List.take_append_of_le_length (by omega)]
  rw [List.drop_append, List.drop_of_length_le (by omega), hA, List.nil_append, show 25 + k + L.length - 25 = k + L.length by omega, List.drop_append_of_le_length (by omega)]
  simp
theorem Sp_seg_bytes (s : List Nat) (blk l : List UInt8) (n m k : Nat) (hs : s.length = 25) (hk : k + l.length ≤ blk.length) : seg (Sp s blk n m) (25 + k) (B l) = Sp s (blk.take k ++ l ++ blk.drop (k + l.length)) n m := by
  apply Array.toList_inj.1
  have := seg_lists (s.map fun (x : Nat) => Value.int .u64 (x : Int)) (B blk) [.int .i64 (n : Int), .int .i64 (m : Int)] (B l) k (by simp [hs]) (by rw [B_length, B_length]; exact hk)
  simp only [seg, Sp, Wz, Array.toList_append, B_append, ← B_take, ← B_drop]
  rw [B_length] at this
  simpa [B_length] using this
theorem Sp_load (s : List Nat) (blk : List UInt8) (n m : Nat) (hs : s.length = 25) : ∀ j v, (Wz s).toList[j]? = some v → (Sp s blk n m)[0 + j]? = some v := by
  intro j v hj
  have hlt : j < 25 := by have := (List.getElem?_eq_some_iff.1 hj).1; simp [Wz] at this; omega
  rw [Nat.zero_add]
  unfold Sp
  rw [Array.append_assoc, Array.getElem?_append_left (by rw [Wz_size]; omega)]
  simpa using hj
theorem Wz_list_one (s : List Nat) : ∀ v ∈ (Wz s).toList, v.oneCell' = true := by
  intro v hv
  simp only [Wz, List.mem_map] at hv
  obtain ⟨j, _, rfl⟩ := hv
  rfl
/-- The block of a sponge as bytes. -/
theorem Sp_bytes {w : World} {g : Nat} {T : TypeId} {s : List Nat} {blk : List UInt8} {n m : Nat} (h : w.heap[g]? = some (.cells (Sp s blk n m) T (0, 0))) (hs : s.length = 25) (hb : blk.length = 136) (k : Nat) (hk : k < 136) :
    BytesAt w (.slice (some ⟨g, 25 + k, none⟩) (136 - k) (136 - k)) (blk.drop k) := by
  refine ⟨⟨_, _, by rw [List.length_drop, hb], by rw [List.length_drop]; omega, by unfold maxLen; omega, fun h => by cases h⟩, fun i x hi => ?_⟩
  rw [List.getElem?_drop] at hi
  refine ⟨g, 25 + k, _, by rw [List.length_drop, hb], lt_of_block h, ?_⟩
  rw [Nat.add_assoc]
  exact (cell_of_row _ _ _ _ _ _ h).trans (Sp_byte s blk n m hs (k + i) x hi)
end Go.Proofs.Ytenaakldccjnbaa
