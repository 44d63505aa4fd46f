/-
  Records: the document's record moves on (printed by rec7.py). Conditions: none.
-/
import Derived.Test.YtgipooedgbbliaaRecL
namespace Go.Proofs.Ytgipooedgbbliaa
open Go Go.RowKit Go.Own Go.Shelf
def geA (l : Int) (b : Att) : Bool := decide (l ≤ b.t)
def geB (l : Int) (b : Pro) : Bool := decide (l ≤ b.h)
theorem fil_yes {α : Type} {p : α → Bool} {xs : List α} {i : Nat} {x : α} (hx : xs[i]? = some x) (hp : p x = true) : (xs.take (i + 1)).filter p = (xs.take i).filter p ++ [x] := by
  rw [List.take_add_one, hx, List.filter_append]; simp [hp]
theorem fil_no {α : Type} {p : α → Bool} {xs : List α} {i : Nat} {x : α} (hx : xs[i]? = some x) (hp : p x = false) : (xs.take (i + 1)).filter p = (xs.take i).filter p := by
  rw [List.take_add_one, hx, List.filter_append]; simp [hp]
theorem fil_len {α : Type} (p : α → Bool) (xs : List α) (i : Nat) : ((xs.take i).filter p).length ≤ xs.length := Nat.le_trans (List.length_filter_le _ _) (by simp; omega)
theorem fil_cases {α : Type} (l : List α) (p : α → Bool) (i : Nat) (hi : i ≤ l.length) : (∃ x, i < l.length ∧ l[i]? = some x ∧ p x = true) ∨ (∃ x, i < l.length ∧ l[i]? = some x ∧ p x = false) ∨ i = l.length := by
  by_cases h : i < l.length
  · cases e : p l[i] with
    | true => exact .inl ⟨_, h, List.getElem?_eq_getElem h, e⟩
    | false => exact .inr (.inl ⟨_, h, List.getElem?_eq_getElem h, e⟩)
  · exact .inr (.inr (by omega))

noncomputable def part_qrMove (n : Nat) : Code := partOf Try.f49 n
noncomputable abbrev o_qrMove (n k : Nat) : Oper := (opsAt (part_qrMove n)).getD k default
set_option maxRecDepth 100000 in
set_option maxHeartbeats 4000000 in
theorem qrMove_bad0 (q base : Nat) (d : DRec) (l f : Int) (w : World) (H : RefAt w q base d) (g0 : l < 0) :
    Calls Try.prog 49 #[.pointer (some ⟨q, 0, none⟩), .int .i64 l, .int .i64 f] w (fun e w' => e = .returned (.int .i64 3) ∧ Keeps Nob w w') := by
  have K0 : Keeps Nob w w := Keeps.refl _ _
  refine sy_enter (part_qrMove 1) ⟨#[pT q 0, .int .i64 l, .int .i64 f, undef, undef, undef, undef, undef, undef, undef, undef, undef, undef, undef, undef, undef, undef, undef, undef, undef, undef, undef, undef, undef, undef, undef, undef, undef, undef, undef, undef, undef, undef, undef, undef, undef, undef, undef, undef, undef, undef, undef, undef, undef, undef, undef, undef, undef, undef, undef, undef, undef, undef, undef, undef, undef, undef, undef, undef, undef, undef, undef, undef, undef, undef, undef, undef, undef, undef, undef, undef, undef, undef, undef, undef, undef, undef, undef, undef, undef, undef, undef, undef, undef, undef, undef, undef, undef, undef, undef, undef, undef, undef, undef, undef, undef, undef, undef, undef, undef, undef, undef, undef, undef, undef, undef, undef, undef, undef, undef, undef, undef, undef, undef, undef], []⟩ Try.func49 (by kernel_rfl) (by kernel_rfl) ?_
  refine sy_sq (part_qrMove 2) (part_qrMove 3) ?_
  refine sy_reg ?_
  refine rg_plain 0 (opsAt (part_qrMove 2)) [0] (by kernel_rfl) (by kernel_rfl) ?_
  refine ps_k (o_qrMove 2 0) (.int .i64 0) ?_
  refine ps_end ?_
  refine then_n ?_
  refine sy_sq (part_qrMove 6) (part_qrMove 7) ?_
  refine sy_bk 0 (part_qrMove 12) ?_
  refine sy_sq (part_qrMove 24) (part_qrMove 25) ?_
  refine sy_reg ?_
  refine rg_plain 1 (opsAt (part_qrMove 24)) [0, 1, 2, 3, 4, 5, 6, 7, 8, 9, 10, 11, 12, 13, 14] (by kernel_rfl) (by kernel_rfl) ?_
  refine ps_k (o_qrMove 24 0) (.int .i64 l) ?_
  refine ps_p (o_qrMove 24 1) (.bool true) (dct (((l) : Int) < ((0) : Int)) (by omega)) ?_
  refine ps_k (o_qrMove 24 2) (.bool true) ?_
  refine ps_n (o_qrMove 24 3) ?_
  refine ps_n (o_qrMove 24 4) ?_
  refine ps_k (o_qrMove 24 5) (.bool true) ?_
  refine ps_k (o_qrMove 24 6) (.bool true) ?_
  refine ps_n (o_qrMove 24 7) ?_
  refine ps_n (o_qrMove 24 8) ?_
  refine ps_k (o_qrMove 24 9) (.bool true) ?_
  refine ps_k (o_qrMove 24 10) (.bool true) ?_
  refine ps_n (o_qrMove 24 11) ?_
  refine ps_n (o_qrMove 24 12) ?_
  refine ps_k (o_qrMove 24 13) (.bool true) ?_
  refine ps_k (o_qrMove 24 14) (.bool true) ?_
  refine ps_end ?_
  refine then_n ?_
  refine sy_ys (.tmp 11) (part_qrMove 50) (part_qrMove 51) ?_
  refine sy_sq (part_qrMove 100) (part_qrMove 101) ?_
  refine sy_reg ?_
  refine rg_plain 2 (opsAt (part_qrMove 100)) [0] (by kernel_rfl) (by kernel_rfl) ?_
  refine ps_k (o_qrMove 100 0) (.int .i64 3) ?_
  refine ps_end ?_
  refine then_n ?_
  refine sy_ret (by kernel_rfl) ?_
  refine blk_r ?_
  refine then_r ?_
  refine sy_out (.int .i64 3) rfl (by kernel_rfl) ?_
  exact ⟨rfl, K0⟩
set_option maxRecDepth 100000 in
set_option maxHeartbeats 4000000 in
theorem qrMove_bad1 (q base : Nat) (d : DRec) (l f : Int) (w : World) (H : RefAt w q base d) (g0 : ¬ l < 0) (g1 : l > 4294967296) :
    Calls Try.prog 49 #[.pointer (some ⟨q, 0, none⟩), .int .i64 l, .int .i64 f] w (fun e w' => e = .returned (.int .i64 3) ∧ Keeps Nob w w') := by
  have K0 : Keeps Nob w w := Keeps.refl _ _
  refine sy_enter (part_qrMove 1) ⟨#[pT q 0, .int .i64 l, .int .i64 f, undef, undef, undef, undef, undef, undef, undef, undef, undef, undef, undef, undef, undef, undef, undef, undef, undef, undef, undef, undef, undef, undef, undef, undef, undef, undef, undef, undef, undef, undef, undef, undef, undef, undef, undef, undef, undef, undef, undef, undef, undef, undef, undef, undef, undef, undef, undef, undef, undef, undef, undef, undef, undef, undef, undef, undef, undef, undef, undef, undef, undef, undef, undef, undef, undef, undef, undef, undef, undef, undef, undef, undef, undef, undef, undef, undef, undef, undef, undef, undef, undef, undef, undef, undef, undef, undef, undef, undef, undef, undef, undef, undef, undef, undef, undef, undef, undef, undef, undef, undef, undef, undef, undef, undef, undef, undef, undef, undef, undef, undef, undef, undef], []⟩ Try.func49 (by kernel_rfl) (by kernel_rfl) ?_
  refine sy_sq (part_qrMove 2) (part_qrMove 3) ?_
  refine sy_reg ?_
  refine rg_plain 0 (opsAt (part_qrMove 2)) [0] (by kernel_rfl) (by kernel_rfl) ?_
  refine ps_k (o_qrMove 2 0) (.int .i64 0) ?_
  refine ps_end ?_
  refine then_n ?_
  refine sy_sq (part_qrMove 6) (part_qrMove 7) ?_
  refine sy_bk 0 (part_qrMove 12) ?_
  refine sy_sq (part_qrMove 24) (part_qrMove 25) ?_
  refine sy_reg ?_
  refine rg_plain 1 (opsAt (part_qrMove 24)) [0, 1, 2, 3, 4, 5, 6, 7, 8, 9, 10, 11, 12, 13, 14] (by kernel_rfl) (by kernel_rfl) ?_
  refine ps_k (o_qrMove 24 0) (.int .i64 l) ?_
  refine ps_p (o_qrMove 24 1) (.bool false) (dcf (((l) : Int) < ((0) : Int)) (by omega)) ?_
  refine ps_k (o_qrMove 24 2) (.bool false) ?_
  refine ps_k (o_qrMove 24 3) (.int .i64 l) ?_
  refine ps_p (o_qrMove 24 4) (.bool true) (dct (((l) : Int) > ((4294967296) : Int)) (by omega)) ?_
  refine ps_k (o_qrMove 24 5) (.bool true) ?_
  refine ps_k (o_qrMove 24 6) (.bool true) ?_
  refine ps_n (o_qrMove 24 7) ?_
  refine ps_n (o_qrMove 24 8) ?_
  refine ps_k (o_qrMove 24 9) (.bool true) ?_
  refine ps_k (o_qrMove 24 10) (.bool true) ?_
  refine ps_n (o_qrMove 24 11) ?_
  refine ps_n (o_qrMove 24 12) ?_
  refine ps_k (o_qrMove 24 13) (.bool true) ?_
  refine ps_k (o_qrMove 24 14) (.bool true) ?_
  refine ps_end ?_
  refine then_n ?_
  refine sy_ys (.tmp 11) (part_qrMove 50) (part_qrMove 51) ?_
  refine sy_sq (part_qrMove 100) (part_qrMove 101) ?_
  refine sy_reg ?_
  refine rg_plain 2 (opsAt (part_qrMove 100)) [0] (by kernel_rfl) (by kernel_rfl) ?_
  refine ps_k (o_qrMove 100 0) (.int .i64 3) ?_
  refine ps_end ?_
  refine then_n ?_
  refine sy_ret (by kernel_rfl) ?_
  refine blk_r ?_
  refine then_r ?_
  refine sy_out (.int .i64 3) rfl (by kernel_rfl) ?_
  exact ⟨rfl, K0⟩
set_option maxRecDepth 100000 in
set_option maxHeartbeats 4000000 in
theorem qrMove_bad2 (q base : Nat) (d : DRec) (l f : Int) (w : World) (H : RefAt w q base d) (g0 : ¬ l < 0) (g1 : ¬ l > 4294967296) (g2 : f < 1) :
    Calls Try.prog 49 #[.pointer (some ⟨q, 0, none⟩), .int .i64 l, .int .i64 f] w (fun e w' => e = .returned (.int .i64 3) ∧ Keeps Nob w w') := by
  have K0 : Keeps Nob w w := Keeps.refl _ _
  refine sy_enter (part_qrMove 1) ⟨#[pT q 0, .int .i64 l, .int .i64 f, undef, undef, undef, undef, undef, undef, undef, undef, undef, undef, undef, undef, undef, undef, undef, undef, undef, undef, undef, undef, undef, undef, undef, undef, undef, undef, undef, undef, undef, undef, undef, undef, undef, undef, undef, undef, undef, undef, undef, undef, undef, undef, undef, undef, undef, undef, undef, undef, undef, undef, undef, undef, undef, undef, undef, undef, undef, undef, undef, undef, undef, undef, undef, undef, undef, undef, undef, undef, undef, undef, undef, undef, undef, undef, undef, undef, undef, undef, undef, undef, undef, undef, undef, undef, undef, undef, undef, undef, undef, undef, undef, undef, undef, undef, undef, undef, undef, undef, undef, undef, undef, undef, undef, undef, undef, undef, undef, undef, undef, undef, undef, undef], []⟩ Try.func49 (by kernel_rfl) (by kernel_rfl) ?_
  refine sy_sq (part_qrMove 2) (part_qrMove 3) ?_
  refine sy_reg ?_
  refine rg_plain 0 (opsAt (part_qrMove 2)) [0] (by kernel_rfl) (by kernel_rfl) ?_
  refine ps_k (o_qrMove 2 0) (.int .i64 0) ?_
  refine ps_end ?_
  refine then_n ?_
  refine sy_sq (part_qrMove 6) (part_qrMove 7) ?_
  refine sy_bk 0 (part_qrMove 12) ?_
  refine sy_sq (part_qrMove 24) (part_qrMove 25) ?_
  refine sy_reg ?_
  refine rg_plain 1 (opsAt (part_qrMove 24)) [0, 1, 2, 3, 4, 5, 6, 7, 8, 9, 10, 11, 12, 13, 14] (by kernel_rfl) (by kernel_rfl) ?_
  refine ps_k (o_qrMove 24 0) (.int .i64 l) ?_
  refine ps_p (o_qrMove 24 1) (.bool false) (dcf (((l) : Int) < ((0) : Int)) (by omega)) ?_
  refine ps_k (o_qrMove 24 2) (.bool false) ?_
  refine ps_k (o_qrMove 24 3) (.int .i64 l) ?_
  refine ps_p (o_qrMove 24 4) (.bool false) (dcf (((l) : Int) > ((4294967296) : Int)) (by omega)) ?_
  refine ps_k (o_qrMove 24 5) (.bool false) ?_
  refine ps_k (o_qrMove 24 6) (.bool false) ?_
  refine ps_k (o_qrMove 24 7) (.int .i64 f) ?_
  refine ps_p (o_qrMove 24 8) (.bool true) (dct (((f) : Int) < ((1) : Int)) (by omega)) ?_
  refine ps_k (o_qrMove 24 9) (.bool true) ?_
  refine ps_k (o_qrMove 24 10) (.bool true) ?_
  refine ps_n (o_qrMove 24 11) ?_
  refine ps_n (o_qrMove 24 12) ?_
  refine ps_k (o_qrMove 24 13) (.bool true) ?_
  refine ps_k (o_qrMove 24 14) (.bool true) ?_
  refine ps_end ?_
  refine then_n ?_
  refine sy_ys (.tmp 11) (part_qrMove 50) (part_qrMove 51) ?_
  refine sy_sq (part_qrMove 100) (part_qrMove 101) ?_
  refine sy_reg ?_
  refine rg_plain 2 (opsAt (part_qrMove 100)) [0] (by kernel_rfl) (by kernel_rfl) ?_
  refine ps_k (o_qrMove 100 0) (.int .i64 3) ?_
  refine ps_end ?_
  refine then_n ?_
  refine sy_ret (by kernel_rfl) ?_
  refine blk_r ?_
  refine then_r ?_
  refine sy_out (.int .i64 3) rfl (by kernel_rfl) ?_
  exact ⟨rfl, K0⟩
set_option maxRecDepth 100000 in
set_option maxHeartbeats 4000000 in
theorem qrMove_bad3 (q base : Nat) (d : DRec) (l f : Int) (w : World) (H : RefAt w q base d) (g0 : ¬ l < 0) (g1 : ¬ l > 4294967296) (g2 : ¬ f < 1) (g3 : f > 4294967296) :
    Calls Try.prog 49 #[.pointer (some ⟨q, 0, none⟩), .int .i64 l, .int .i64 f] w (fun e w' => e = .returned (.int .i64 3) ∧ Keeps Nob w w') := by
  have K0 : Keeps Nob w w := Keeps.refl _ _
  refine sy_enter (part_qrMove 1) ⟨#[pT q 0, .int .i64 l, .int .i64 f, undef, undef, undef, undef, undef, undef, undef, undef, undef, undef, undef, undef, undef, undef, undef, undef, undef, undef, undef, undef, undef, undef, undef, undef, undef, undef, undef, undef, undef, undef, undef, undef, undef, undef, undef, undef, undef, undef, undef, undef, undef, undef, undef, undef, undef, undef, undef, undef, undef, undef, undef, undef, undef, undef, undef, undef, undef, undef, undef, undef, undef, undef, undef, undef, undef, undef, undef, undef, undef, undef, undef, undef, undef, undef, undef, undef, undef, undef, undef, undef, undef, undef, undef, undef, undef, undef, undef, undef, undef, undef, undef, undef, undef, undef, undef, undef, undef, undef, undef, undef, undef, undef, undef, undef, undef, undef, undef, undef, undef, undef, undef, undef], []⟩ Try.func49 (by kernel_rfl) (by kernel_rfl) ?_
  refine sy_sq (part_qrMove 2) (part_qrMove 3) ?_
  refine sy_reg ?_
  refine rg_plain 0 (opsAt (part_qrMove 2)) [0] (by kernel_rfl) (by kernel_rfl) ?_
  refine ps_k (o_qrMove 2 0) (.int .i64 0) ?_
  refine ps_end ?_
  refine then_n ?_
  refine sy_sq (part_qrMove 6) (part_qrMove 7) ?_
  refine sy_bk 0 (part_qrMove 12) ?_
  refine sy_sq (part_qrMove 24) (part_qrMove 25) ?_
  refine sy_reg ?_
  refine rg_plain 1 (opsAt (part_qrMove 24)) [0, 1, 2, 3, 4, 5, 6, 7, 8, 9, 10, 11, 12, 13, 14] (by kernel_rfl) (by kernel_rfl) ?_
  refine ps_k (o_qrMove 24 0) (.int .i64 l) ?_
  refine ps_p (o_qrMove 24 1) (.bool false) (dcf (((l) : Int) < ((0) : Int)) (by omega)) ?_
  refine ps_k (o_qrMove 24 2) (.bool false) ?_
  refine ps_k (o_qrMove 24 3) (.int .i64 l) ?_
  refine ps_p (o_qrMove 24 4) (.bool false) (dcf (((l) : Int) > ((4294967296) : Int)) (by omega)) ?_
  refine ps_k (o_qrMove 24 5) (.bool false) ?_
  refine ps_k (o_qrMove 24 6) (.bool false) ?_
  refine ps_k (o_qrMove 24 7) (.int .i64 f) ?_
  refine ps_p (o_qrMove 24 8) (.bool false) (dcf (((f) : Int) < ((1) : Int)) (by omega)) ?_
  refine ps_k (o_qrMove 24 9) (.bool false) ?_
  refine ps_k (o_qrMove 24 10) (.bool false) ?_
  refine ps_k (o_qrMove 24 11) (.int .i64 f) ?_
  refine ps_p (o_qrMove 24 12) (.bool true) (dct (((f) : Int) > ((4294967296) : Int)) (by omega)) ?_
  refine ps_k (o_qrMove 24 13) (.bool true) ?_
  refine ps_k (o_qrMove 24 14) (.bool true) ?_
  refine ps_end ?_
  refine then_n ?_
  refine sy_ys (.tmp 11) (part_qrMove 50) (part_qrMove 51) ?_
  refine sy_sq (part_qrMove 100) (part_qrMove 101) ?_
  refine sy_reg ?_
  refine rg_plain 2 (opsAt (part_qrMove 100)) [0] (by kernel_rfl) (by kernel_rfl) ?_
  refine ps_k (o_qrMove 100 0) (.int .i64 3) ?_
  refine ps_end ?_
  refine then_n ?_
  refine sy_ret (by kernel_rfl) ?_
  refine blk_r ?_
  refine then_r ?_
  refine sy_out (.int .i64 3) rfl (by kernel_rfl) ?_
  exact ⟨rfl, K0⟩
set_option maxRecDepth 100000 in
set_option maxHeartbeats 4000000 in
theorem qrMove_ord1 (q base : Nat) (d : DRec) (l f : Int) (w : World) (H : RefAt w q base d) (g0 : ¬ l < 0) (g1 : ¬ l > 4294967296) (g2 : ¬ f < 1) (g3 : ¬ f > 4294967296) (g4 : l < d.l) :
    Calls Try.prog 49 #[.pointer (some ⟨q, 0, none⟩), .int .i64 l, .int .i64 f] w (fun e w' => e = .returned (.int .i64 9) ∧ Keeps Nob w w') := by
  have H0 := H
  obtain ⟨⟨va, vb, hq, hra, hna, hrb, hnb⟩, hoa, hob⟩ := H
  have hsa : AttsAt w va d.a := Row.sl hra rfl (fun x hx => Att.cl_len (hoa x hx))
  have hsb : ProsAt w vb d.b := Row.sl hrb rfl (fun x hx => Pro.cl_len (hob x hx))
  have hal := hsa.len_le
  have hbl := hsb.len_le
  have ltq := lt_of_block hq
  have K0 : Keeps Nob w w := Keeps.refl _ _
  refine sy_enter (part_qrMove 1) ⟨#[pT q 0, .int .i64 l, .int .i64 f, undef, undef, undef, undef, undef, undef, undef, undef, undef, undef, undef, undef, undef, undef, undef, undef, undef, undef, undef, undef, undef, undef, undef, undef, undef, undef, undef, undef, undef, undef, undef, undef, undef, undef, undef, undef, undef, undef, undef, undef, undef, undef, undef, undef, undef, undef, undef, undef, undef, undef, undef, undef, undef, undef, undef, undef, undef, undef, undef, undef, undef, undef, undef, undef, undef, undef, undef, undef, undef, undef, undef, undef, undef, undef, undef, undef, undef, undef, undef, undef, undef, undef, undef, undef, undef, undef, undef, undef, undef, undef, undef, undef, undef, undef, undef, undef, undef, undef, undef, undef, undef, undef, undef, undef, undef, undef, undef, undef, undef, undef, undef, undef], []⟩ Try.func49 (by kernel_rfl) (by kernel_rfl) ?_
  refine sy_sq (part_qrMove 2) (part_qrMove 3) ?_
  refine sy_reg ?_
  refine rg_plain 0 (opsAt (part_qrMove 2)) [0] (by kernel_rfl) (by kernel_rfl) ?_
  refine ps_k (o_qrMove 2 0) (.int .i64 0) ?_
  refine ps_end ?_
  refine then_n ?_
  refine sy_sq (part_qrMove 6) (part_qrMove 7) ?_
  refine sy_bk 0 (part_qrMove 12) ?_
  refine sy_sq (part_qrMove 24) (part_qrMove 25) ?_
  refine sy_reg ?_
  refine rg_plain 1 (opsAt (part_qrMove 24)) [0, 1, 2, 3, 4, 5, 6, 7, 8, 9, 10, 11, 12, 13, 14] (by kernel_rfl) (by kernel_rfl) ?_
  refine ps_k (o_qrMove 24 0) (.int .i64 l) ?_
  refine ps_p (o_qrMove 24 1) (.bool false) (dcf (((l) : Int) < ((0) : Int)) (by omega)) ?_
  refine ps_k (o_qrMove 24 2) (.bool false) ?_
  refine ps_k (o_qrMove 24 3) (.int .i64 l) ?_
  refine ps_p (o_qrMove 24 4) (.bool false) (dcf (((l) : Int) > ((4294967296) : Int)) (by omega)) ?_
  refine ps_k (o_qrMove 24 5) (.bool false) ?_
  refine ps_k (o_qrMove 24 6) (.bool false) ?_
  refine ps_k (o_qrMove 24 7) (.int .i64 f) ?_
  refine ps_p (o_qrMove 24 8) (.bool false) (dcf (((f) : Int) < ((1) : Int)) (by omega)) ?_
  refine ps_k (o_qrMove 24 9) (.bool false) ?_
  refine ps_k (o_qrMove 24 10) (.bool false) ?_
  refine ps_k (o_qrMove 24 11) (.int .i64 f) ?_
  refine ps_p (o_qrMove 24 12) (.bool false) (dcf (((f) : Int) > ((4294967296) : Int)) (by omega)) ?_
  refine ps_k (o_qrMove 24 13) (.bool false) ?_
  refine ps_k (o_qrMove 24 14) (.bool false) ?_
  refine ps_end ?_
  refine then_n ?_
  refine sy_n (.tmp 11) (part_qrMove 50) (part_qrMove 51) ?_
  refine sy_sq (part_qrMove 102) (part_qrMove 103) ?_
  refine sy_reg ?_
  refine rg_plain 3 (opsAt (part_qrMove 102)) [0, 1, 2, 3, 4, 5, 6, 7, 8, 9, 10, 11, 12, 13, 14] (by kernel_rfl) (by kernel_rfl) ?_
  refine ps_k (o_qrMove 102 0) (.int .i64 l) ?_
  refine ps_k (o_qrMove 102 1) (pT q 0) ?_
  refine ps_k (o_qrMove 102 2) (pT q 0) ?_
  refine ps_k (o_qrMove 102 3) (pT q 3) ?_
  refine ps_p (o_qrMove 102 4) (.int .i64 d.l) (exec_ld 3 (.tmp 30) q 3 Try.underlying3 (rc (hq) (by kernel_rfl))) ?_
  refine ps_p (o_qrMove 102 5) (.bool true) (dct (((l) : Int) < ((d.l) : Int)) (by omega)) ?_
  refine ps_k (o_qrMove 102 6) (.bool true) ?_
  refine ps_n (o_qrMove 102 7) ?_
  refine ps_n (o_qrMove 102 8) ?_
  refine ps_n (o_qrMove 102 9) ?_
  refine ps_n (o_qrMove 102 10) ?_
  refine ps_n (o_qrMove 102 11) ?_
  refine ps_n (o_qrMove 102 12) ?_
  refine ps_k (o_qrMove 102 13) (.bool true) ?_
  refine ps_k (o_qrMove 102 14) (.bool true) ?_
  refine ps_end ?_
  refine sy_a ⟨#[pT q 0, .int .i64 l, .int .i64 f, undef, undef, undef, .int .i64 0, undef, undef, undef, undef, .bool false, .int .i64 l, .bool false, .bool false, .int .i64 l, .bool false, .bool false, .bool false, .int .i64 f, .bool false, .bool false, .bool false, .int .i64 f, .bool false, .bool false, .bool true, .int .i64 l, pT q 0, pT q 0, pT q 3, .int .i64 d.l, .bool true, .bool true, undef, undef, undef, undef, undef, undef, .bool true, undef, undef, undef, undef, undef, undef, undef, undef, undef, undef, undef, undef, undef, undef, undef, undef, undef, undef, undef, undef, undef, undef, undef, undef, undef, undef, undef, undef, undef, undef, undef, undef, undef, undef, undef, undef, undef, undef, undef, undef, undef, undef, undef, undef, undef, undef, undef, undef, undef, undef, undef, undef, undef, undef, undef, undef, undef, undef, undef, undef, undef, undef, undef, undef, undef, undef, undef, undef, undef, undef, undef, undef, undef, undef], []⟩ ?_
  refine then_n ?_
  refine sy_ys (.tmp 26) (part_qrMove 206) (part_qrMove 207) ?_
  refine sy_sq (part_qrMove 412) (part_qrMove 413) ?_
  refine sy_reg ?_
  refine rg_plain 4 (opsAt (part_qrMove 412)) [0] (by kernel_rfl) (by kernel_rfl) ?_
  refine ps_k (o_qrMove 412 0) (.int .i64 9) ?_
  refine ps_end ?_
  refine then_n ?_
  refine sy_ret (by kernel_rfl) ?_
  refine blk_r ?_
  refine then_r ?_
  refine sy_out (.int .i64 9) rfl (by kernel_rfl) ?_
  exact ⟨rfl, K0⟩
set_option maxRecDepth 100000 in
set_option maxHeartbeats 4000000 in
theorem qrMove_ord2 (q base : Nat) (d : DRec) (l f : Int) (w : World) (H : RefAt w q base d) (g0 : ¬ l < 0) (g1 : ¬ l > 4294967296) (g2 : ¬ f < 1) (g3 : ¬ f > 4294967296) (g4 : ¬ l < d.l) (g5 : f < d.f) :
    Calls Try.prog 49 #[.pointer (some ⟨q, 0, none⟩), .int .i64 l, .int .i64 f] w (fun e w' => e = .returned (.int .i64 9) ∧ Keeps Nob w w') := by
  have H0 := H
  obtain ⟨⟨va, vb, hq, hra, hna, hrb, hnb⟩, hoa, hob⟩ := H
  have hsa : AttsAt w va d.a := Row.sl hra rfl (fun x hx => Att.cl_len (hoa x hx))
  have hsb : ProsAt w vb d.b := Row.sl hrb rfl (fun x hx => Pro.cl_len (hob x hx))
  have hal := hsa.len_le
  have hbl := hsb.len_le
  have ltq := lt_of_block hq
  have K0 : Keeps Nob w w := Keeps.refl _ _
  refine sy_enter (part_qrMove 1) ⟨#[pT q 0, .int .i64 l, .int .i64 f, undef, undef, undef, undef, undef, undef, undef, undef, undef, undef, undef, undef, undef, undef, undef, undef, undef, undef, undef, undef, undef, undef, undef, undef, undef, undef, undef, undef, undef, undef, undef, undef, undef, undef, undef, undef, undef, undef, undef, undef, undef, undef, undef, undef, undef, undef, undef, undef, undef, undef, undef, undef, undef, undef, undef, undef, undef, undef, undef, undef, undef, undef, undef, undef, undef, undef, undef, undef, undef, undef, undef, undef, undef, undef, undef, undef, undef, undef, undef, undef, undef, undef, undef, undef, undef, undef, undef, undef, undef, undef, undef, undef, undef, undef, undef, undef, undef, undef, undef, undef, undef, undef, undef, undef, undef, undef, undef, undef, undef, undef, undef, undef], []⟩ Try.func49 (by kernel_rfl) (by kernel_rfl) ?_
  refine sy_sq (part_qrMove 2) (part_qrMove 3) ?_
  refine sy_reg ?_
  refine rg_plain 0 (opsAt (part_qrMove 2)) [0] (by kernel_rfl) (by kernel_rfl) ?_
  refine ps_k (o_qrMove 2 0) (.int .i64 0) ?_
  refine ps_end ?_
  refine then_n ?_
  refine sy_sq (part_qrMove 6) (part_qrMove 7) ?_
  refine sy_bk 0 (part_qrMove 12) ?_
  refine sy_sq (part_qrMove 24) (part_qrMove 25) ?_
  refine sy_reg ?_
  refine rg_plain 1 (opsAt (part_qrMove 24)) [0, 1, 2, 3, 4, 5, 6, 7, 8, 9, 10, 11, 12, 13, 14] (by kernel_rfl) (by kernel_rfl) ?_
  refine ps_k (o_qrMove 24 0) (.int .i64 l) ?_
  refine ps_p (o_qrMove 24 1) (.bool false) (dcf (((l) : Int) < ((0) : Int)) (by omega)) ?_
  refine ps_k (o_qrMove 24 2) (.bool false) ?_
  refine ps_k (o_qrMove 24 3) (.int .i64 l) ?_
  refine ps_p (o_qrMove 24 4) (.bool false) (dcf (((l) : Int) > ((4294967296) : Int)) (by omega)) ?_
  refine ps_k (o_qrMove 24 5) (.bool false) ?_
  refine ps_k (o_qrMove 24 6) (.bool false) ?_
  refine ps_k (o_qrMove 24 7) (.int .i64 f) ?_
  refine ps_p (o_qrMove 24 8) (.bool false) (dcf (((f) : Int) < ((1) : Int)) (by omega)) ?_
  refine ps_k (o_qrMove 24 9) (.bool false) ?_
  refine ps_k (o_qrMove 24 10) (.bool false) ?_
  refine ps_k (o_qrMove 24 11) (.int .i64 f) ?_
  refine ps_p (o_qrMove 24 12) (.bool false) (dcf (((f) : Int) > ((4294967296) : Int)) (by omega)) ?_
  refine ps_k (o_qrMove 24 13) (.bool false) ?_
  refine ps_k (o_qrMove 24 14) (.bool false) ?_
  refine ps_end ?_
  refine then_n ?_
  refine sy_n (.tmp 11) (part_qrMove 50) (part_qrMove 51) ?_
  refine sy_sq (part_qrMove 102) (part_qrMove 103) ?_
  refine sy_reg ?_
  refine rg_plain 3 (opsAt (part_qrMove 102)) [0, 1, 2, 3, 4, 5, 6, 7, 8, 9, 10, 11, 12, 13, 14] (by kernel_rfl) (by kernel_rfl) ?_
  refine ps_k (o_qrMove 102 0) (.int .i64 l) ?_
  refine ps_k (o_qrMove 102 1) (pT q 0) ?_
  refine ps_k (o_qrMove 102 2) (pT q 0) ?_
  refine ps_k (o_qrMove 102 3) (pT q 3) ?_
  refine ps_p (o_qrMove 102 4) (.int .i64 d.l) (exec_ld 3 (.tmp 30) q 3 Try.underlying3 (rc (hq) (by kernel_rfl))) ?_
  refine ps_p (o_qrMove 102 5) (.bool false) (dcf (((l) : Int) < ((d.l) : Int)) (by omega)) ?_
  refine ps_k (o_qrMove 102 6) (.bool false) ?_
  refine ps_k (o_qrMove 102 7) (.int .i64 f) ?_
  refine ps_k (o_qrMove 102 8) (pT q 0) ?_
  refine ps_k (o_qrMove 102 9) (pT q 0) ?_
  refine ps_k (o_qrMove 102 10) (pT q 4) ?_
  refine ps_p (o_qrMove 102 11) (.int .i64 d.f) (exec_ld 3 (.tmp 37) q 4 Try.underlying3 (rc (hq) (by kernel_rfl))) ?_
  refine ps_p (o_qrMove 102 12) (.bool true) (dct (((f) : Int) < ((d.f) : Int)) (by omega)) ?_
  refine ps_k (o_qrMove 102 13) (.bool true) ?_
  refine ps_k (o_qrMove 102 14) (.bool true) ?_
  refine ps_end ?_
  refine sy_a ⟨#[pT q 0, .int .i64 l, .int .i64 f, undef, undef, undef, .int .i64 0, undef, undef, undef, undef, .bool false, .int .i64 l, .bool false, .bool false, .int .i64 l, .bool false, .bool false, .bool false, .int .i64 f, .bool false, .bool false, .bool false, .int .i64 f, .bool false, .bool false, .bool true, .int .i64 l, pT q 0, pT q 0, pT q 3, .int .i64 d.l, .bool false, .bool false, .int .i64 f, pT q 0, pT q 0, pT q 4, .int .i64 d.f, .bool true, .bool true, undef, undef, undef, undef, undef, undef, undef, undef, undef, undef, undef, undef, undef, undef, undef, undef, undef, undef, undef, undef, undef, undef, undef, undef, undef, undef, undef, undef, undef, undef, undef, undef, undef, undef, undef, undef, undef, undef, undef, undef, undef, undef, undef, undef, undef, undef, undef, undef, undef, undef, undef, undef, undef, undef, undef, undef, undef, undef, undef, undef, undef, undef, undef, undef, undef, undef, undef, undef, undef, undef, undef, undef, undef, undef], []⟩ ?_
  refine then_n ?_
  refine sy_ys (.tmp 26) (part_qrMove 206) (part_qrMove 207) ?_
  refine sy_sq (part_qrMove 412) (part_qrMove 413) ?_
  refine sy_reg ?_
  refine rg_plain 4 (opsAt (part_qrMove 412)) [0] (by kernel_rfl) (by kernel_rfl) ?_
  refine ps_k (o_qrMove 412 0) (.int .i64 9) ?_
  refine ps_end ?_
  refine then_n ?_
  refine sy_ret (by kernel_rfl) ?_
  refine blk_r ?_
  refine then_r ?_
  refine sy_out (.int .i64 9) rfl (by kernel_rfl) ?_
  exact ⟨rfl, K0⟩
set_option maxRecDepth 100000 in
set_option maxHeartbeats 4000000 in
theorem qrMove_fine (q base : Nat) (d : DRec) (l f : Int) (w : World) (H : RefAt w q base d) (g0 : ¬ l < 0) (g1 : ¬ l > 4294967296) (g2 : ¬ f < 1) (g3 : ¬ f > 4294967296) (g4 : ¬ l < d.l) (g5 : ¬ f < d.f) (hbase : base ≤ w.heap.size) (hma : d.a.length ≤ 300000) (hmb : d.b.length ≤ 300000) :
    Calls Try.prog 49 #[.pointer (some ⟨q, 0, none⟩), .int .i64 l, .int .i64 f] w (fun e w' => e = .returned (.int .i64 0) ∧ RefAt w' q base { d with l := l, f := f, a := d.a.filter (geA l), b := d.b.filter (geB f) } ∧ Keeps (One q) w w') := by
  have H0 := H
  obtain ⟨⟨va, vb, hq, hra, hna, hrb, hnb⟩, hoa, hob⟩ := H
  have hsa : AttsAt w va d.a := Row.sl hra rfl (fun x hx => Att.cl_len (hoa x hx))
  have hsb : ProsAt w vb d.b := Row.sl hrb rfl (fun x hx => Pro.cl_len (hob x hx))
  have hal := hsa.len_le
  have hbl := hsb.len_le
  have ltq := lt_of_block hq
  obtain ⟨ia, hia0, hia1, hia2, hia3⟩ := info_parts att_info0
  obtain ⟨ib, hib0, hib1, hib2, hib3⟩ := info_parts pro_info0
  have K0 : Keeps ((One q)) w w := Keeps.refl _ _
  refine sy_enter (part_qrMove 1) ⟨#[pT q 0, .int .i64 l, .int .i64 f, undef, undef, undef, undef, undef, undef, undef, undef, undef, undef, undef, undef, undef, undef, undef, undef, undef, undef, undef, undef, undef, undef, undef, undef, undef, undef, undef, undef, undef, undef, undef, undef, undef, undef, undef, undef, undef, undef, undef, undef, undef, undef, undef, undef, undef, undef, undef, undef, undef, undef, undef, undef, undef, undef, undef, undef, undef, undef, undef, undef, undef, undef, undef, undef, undef, undef, undef, undef, undef, undef, undef, undef, undef, undef, undef, undef, undef, undef, undef, undef, undef, undef, undef, undef, undef, undef, undef, undef, undef, undef, undef, undef, undef, undef, undef, undef, undef, undef, undef, undef, undef, undef, undef, undef, undef, undef, undef, undef, undef, undef, undef, undef], []⟩ Try.func49 (by kernel_rfl) (by kernel_rfl) ?_
  refine sy_sq (part_qrMove 2) (part_qrMove 3) ?_
  refine sy_reg ?_
  refine rg_plain 0 (opsAt (part_qrMove 2)) [0] (by kernel_rfl) (by kernel_rfl) ?_
  refine ps_k (o_qrMove 2 0) (.int .i64 0) ?_
  refine ps_end ?_
  refine then_n ?_
  refine sy_sq (part_qrMove 6) (part_qrMove 7) ?_
  refine sy_bk 0 (part_qrMove 12) ?_
  refine sy_sq (part_qrMove 24) (part_qrMove 25) ?_
  refine sy_reg ?_
  refine rg_plain 1 (opsAt (part_qrMove 24)) [0, 1, 2, 3, 4, 5, 6, 7, 8, 9, 10, 11, 12, 13, 14] (by kernel_rfl) (by kernel_rfl) ?_
  refine ps_k (o_qrMove 24 0) (.int .i64 l) ?_
  refine ps_p (o_qrMove 24 1) (.bool false) (dcf (((l) : Int) < ((0) : Int)) (by omega)) ?_
  refine ps_k (o_qrMove 24 2) (.bool false) ?_
  refine ps_k (o_qrMove 24 3) (.int .i64 l) ?_
  refine ps_p (o_qrMove 24 4) (.bool false) (dcf (((l) : Int) > ((4294967296) : Int)) (by omega)) ?_
  refine ps_k (o_qrMove 24 5) (.bool false) ?_
  refine ps_k (o_qrMove 24 6) (.bool false) ?_
  refine ps_k (o_qrMove 24 7) (.int .i64 f) ?_
  refine ps_p (o_qrMove 24 8) (.bool false) (dcf (((f) : Int) < ((1) : Int)) (by omega)) ?_
  refine ps_k (o_qrMove 24 9) (.bool false) ?_
  refine ps_k (o_qrMove 24 10) (.bool false) ?_
  refine ps_k (o_qrMove 24 11) (.int .i64 f) ?_
  refine ps_p (o_qrMove 24 12) (.bool false) (dcf (((f) : Int) > ((4294967296) : Int)) (by omega)) ?_
  refine ps_k (o_qrMove 24 13) (.bool false) ?_
  refine ps_k (o_qrMove 24 14) (.bool false) ?_
  refine ps_end ?_
  refine then_n ?_
  refine sy_n (.tmp 11) (part_qrMove 50) (part_qrMove 51) ?_
  refine sy_sq (part_qrMove 102) (part_qrMove 103) ?_
  refine sy_reg ?_
  refine rg_plain 3 (opsAt (part_qrMove 102)) [0, 1, 2, 3, 4, 5, 6, 7, 8, 9, 10, 11, 12, 13, 14] (by kernel_rfl) (by kernel_rfl) ?_
  refine ps_k (o_qrMove 102 0) (.int .i64 l) ?_
  refine ps_k (o_qrMove 102 1) (pT q 0) ?_
  refine ps_k (o_qrMove 102 2) (pT q 0) ?_
  refine ps_k (o_qrMove 102 3) (pT q 3) ?_
  refine ps_p (o_qrMove 102 4) (.int .i64 d.l) (exec_ld 3 (.tmp 30) q 3 Try.underlying3 (rc (hq) (by kernel_rfl))) ?_
  refine ps_p (o_qrMove 102 5) (.bool false) (dcf (((l) : Int) < ((d.l) : Int)) (by omega)) ?_
  refine ps_k (o_qrMove 102 6) (.bool false) ?_
  refine ps_k (o_qrMove 102 7) (.int .i64 f) ?_
  refine ps_k (o_qrMove 102 8) (pT q 0) ?_
  refine ps_k (o_qrMove 102 9) (pT q 0) ?_
  refine ps_k (o_qrMove 102 10) (pT q 4) ?_
  refine ps_p (o_qrMove 102 11) (.int .i64 d.f) (exec_ld 3 (.tmp 37) q 4 Try.underlying3 (rc (hq) (by kernel_rfl))) ?_
  refine ps_p (o_qrMove 102 12) (.bool false) (dcf (((f) : Int) < ((d.f) : Int)) (by omega)) ?_
  refine ps_k (o_qrMove 102 13) (.bool false) ?_
  refine ps_k (o_qrMove 102 14) (.bool false) ?_
  refine ps_end ?_
  refine sy_a ⟨#[pT q 0, .int .i64 l, .int .i64 f, undef, undef, undef, .int .i64 0, undef, undef, undef, undef, .bool false, .int .i64 l, .bool false, .bool false, .int .i64 l, .bool false, .bool false, .bool false, .int .i64 f, .bool false, .bool false, .bool false, .int .i64 f, .bool false, .bool false, .bool false, .int .i64 l, pT q 0, pT q 0, pT q 3, .int .i64 d.l, .bool false, .bool false, .int .i64 f, pT q 0, pT q 0, pT q 4, .int .i64 d.f, .bool false, .bool false, undef, undef, undef, undef, undef, undef, undef, undef, undef, undef, undef, undef, undef, undef, undef, undef, undef, undef, undef, undef, undef, undef, undef, undef, undef, undef, undef, undef, undef, undef, undef, undef, undef, undef, undef, undef, undef, undef, undef, undef, undef, undef, undef, undef, undef, undef, undef, undef, undef, undef, undef, undef, undef, undef, undef, undef, undef, undef, undef, undef, undef, undef, undef, undef, undef, undef, undef, undef, undef, undef, undef, undef, undef, undef], []⟩ ?_
  refine then_n ?_
  refine sy_n (.tmp 26) (part_qrMove 206) (part_qrMove 207) ?_
  refine sy_sk ?_
  refine blk_n ?_
  refine then_n ?_
  refine sy_sq (part_qrMove 14) (part_qrMove 15) ?_
  refine sy_reg ?_
  refine rg_plain 5 (opsAt (part_qrMove 14)) [0] (by kernel_rfl) (by kernel_rfl) ?_
  refine ps_k (o_qrMove 14 0) (.slice none 0 0) ?_
  refine ps_end ?_
  refine then_n ?_
  refine sy_sq (part_qrMove 30) (part_qrMove 31) ?_
  refine sy_sq (part_qrMove 60) (part_qrMove 61) ?_
  refine sy_reg ?_
  refine rg_plain 6 (opsAt (part_qrMove 60)) [0] (by kernel_rfl) (by kernel_rfl) ?_
  refine ps_k (o_qrMove 60 0) (.int .i64 0) ?_
  refine ps_end ?_
  refine then_n ?_
  refine sy_bk 1 (part_qrMove 122) ?_
  refine sy_loop (part_qrMove 244) (fun a V => ∃ (i : Nat) (va1 : Value) (u41 u42 u43 u44 u45 u46 u47 u48 u49 u50 u51 u52 u53 u54 u55 u56 u57 u58 u59 u60 u61 u62 u63 u64 u65 u66 u67 u68 u69 : Value), (a = ⟨#[pT q 0, .int .i64 l, .int .i64 f, undef, undef, undef, .int .i64 0, va1, iN i, undef, undef, .bool false, .int .i64 l, .bool false, .bool false, .int .i64 l, .bool false, .bool false, .bool false, .int .i64 f, .bool false, .bool false, .bool false, .int .i64 f, .bool false, .bool false, .bool false, .int .i64 l, pT q 0, pT q 0, pT q 3, .int .i64 d.l, .bool false, .bool false, .int .i64 f, pT q 0, pT q 0, pT q 4, .int .i64 d.f, .bool false, .bool false, u41, u42, u43, u44, u45, u46, u47, u48, u49, u50, u51, u52, u53, u54, u55, u56, u57, u58, u59, u60, u61, u62, u63, u64, u65, u66, u67, u68, u69, undef, undef, undef, undef, undef, undef, undef, undef, undef, undef, undef, undef, undef, undef, undef, undef, undef, undef, undef, undef, undef, undef, undef, undef, undef, undef, undef, undef, undef, undef, undef, undef, undef, undef, undef, undef, undef, undef, undef, undef, undef, undef, undef, undef, undef], []⟩) ∧ (i ≤ d.a.length) ∧ (V.heap[q]? = some (.cells (#[.int .i64 d.v, .int .i64 d.win, .int .i64 d.span, .int .i64 d.l, .int .i64 d.f, va, vb]) 90 (0, 0))) ∧ (Row V 28 36 va1 (((d.a.take i).filter (geA l)).length) (((d.a.take i).filter (geA l)).flatMap Att.cl)) ∧ (Row V 35 35 (.slice none 0 0) (((d.b.take 0).filter (geB f)).length) (((d.b.take 0).filter (geB f)).flatMap Pro.cl)) ∧ (Keeps ((One q)) w V) ∧ (NewFrom w.heap.size va1)) (fun a _ => d.a.length - (intOf (a.tmps.getD 8 undef)).toNat) (by kernel_rfl) ?_ ?_
  · exact ⟨0, .slice none 0 0, undef, undef, undef, undef, undef, undef, undef, undef, undef, undef, undef, undef, undef, undef, undef, undef, undef, undef, undef, undef, undef, undef, undef, undef, undef, undef, undef, undef, undef, by kernel_rfl, Nat.zero_le _, hq, (World.ownsRow_nil _ _ _ _), (World.ownsRow_nil _ _ _ _), K0, NewFrom.nil _⟩
  · rintro a V1 ⟨i, va1, u41, u42, u43, u44, u45, u46, u47, u48, u49, u50, u51, u52, u53, u54, u55, u56, u57, u58, u59, u60, u61, u62, u63, u64, u65, u66, u67, u68, u69, rfl, hi, h2, h3, h4, K5, hnwa⟩
    rcases fil_cases d.a (geA l) i hi with ⟨x, hlt, hx, hp⟩ | ⟨x, hlt, hx, hp⟩ | hlt
    · have hxo := hoa x (List.mem_of_getElem? hx)
      obtain ⟨b_xa, o_xa, c_xa, hv_xa, hb_xa, _⟩ := ((hsa.keeps K5 (fun j hj _ e => Row.ne hra hq (by decide) ((show j = q from e) ▸ hj)))).at_ i _ hx
      have hp2 : l ≤ x.t := of_decide_eq_true hp
      have hfl := fil_len (geA l) d.a i
      refine sy_sq (part_qrMove 488) (part_qrMove 489) ?_
      refine sy_sq (part_qrMove 976) (part_qrMove 977) ?_
      refine sy_reg ?_
      refine rg_plain 7 (opsAt (part_qrMove 976)) [0, 1, 2, 3, 4, 5, 6] (by kernel_rfl) (by kernel_rfl) ?_
      refine ps_k (o_qrMove 976 0) (iN i) ?_
      refine ps_k (o_qrMove 976 1) (pT q 0) ?_
      refine ps_k (o_qrMove 976 2) (pT q 0) ?_
      refine ps_k (o_qrMove 976 3) (pT q 5) ?_
      refine ps_p (o_qrMove 976 4) (va) (exec_ld 59 (.tmp 44) q 5 Try.underlying59 (rc (h2) (by kernel_rfl))) ?_
      refine ps_p (o_qrMove 976 5) (iN d.a.length) (exec_len_sl (.tmp 45) 59 28 (by kernel_rfl) Try.underlying59 (by kernel_rfl) (hsa.keeps K5 (fun j hj _ e => Row.ne hra hq (by decide) ((show j = q from e) ▸ hj)))) ?_
      refine ps_p (o_qrMove 976 6) (.bool true) (dct ((((i : Nat) : Int)) < (((d.a.length : Nat) : Int))) (by omega)) ?_
      refine ps_end ?_
      refine then_n ?_
      refine sy_ys (.tmp 47) (part_qrMove 1954) (part_qrMove 1955) ?_
      refine sy_sk ?_
      refine then_n ?_
      refine sy_sq (part_qrMove 978) (part_qrMove 979) ?_
      refine sy_bk 2 (part_qrMove 1956) ?_
      refine sy_sq (part_qrMove 3912) (part_qrMove 3913) ?_
      refine sy_reg ?_
      refine rg_plain 9 (opsAt (part_qrMove 3912)) [0, 1, 2, 3, 4, 5, 6, 7, 8, 9] (by kernel_rfl) (by kernel_rfl) ?_
      refine ps_k (o_qrMove 3912 0) (pT q 0) ?_
      refine ps_k (o_qrMove 3912 1) (pT q 0) ?_
      refine ps_k (o_qrMove 3912 2) (pT q 5) ?_
      refine ps_p (o_qrMove 3912 3) (va) (exec_ld 59 (.tmp 52) q 5 Try.underlying59 (rc (h2) (by kernel_rfl))) ?_
      refine ps_k (o_qrMove 3912 4) (iN i) ?_
      refine ps_p (o_qrMove 3912 5) (pT b_xa (o_xa + i * 36)) (exec_indexAt_slice 59 (.tmp 53) (.tmp 54) (by kernel_rfl) b_xa o_xa d.a.length c_xa (Eq.trans (b := va) (by kernel_rfl) hv_xa) .i64 i (by kernel_rfl) _ 36 Try.underlying59 (by kernel_rfl) (by omega)) ?_
      refine ps_k (o_qrMove 3912 6) (pT b_xa (o_xa + i * 36 + 2)) ?_
      refine ps_p (o_qrMove 3912 7) (.int .i64 x.t) (exec_ld 3 (.tmp 56) b_xa (o_xa + i * 36 + 2) Try.underlying3 (Sl.cell (hsa.keeps K5 (fun j hj _ e => Row.ne hra hq (by decide) ((show j = q from e) ▸ hj))) hx hv_xa Att.cl_2)) ?_
      refine ps_k (o_qrMove 3912 8) (.int .i64 l) ?_
      refine ps_p (o_qrMove 3912 9) (.bool true) (dct (((x.t) : Int) ≥ ((l) : Int)) (by omega)) ?_
      refine ps_end ?_
      refine then_n ?_
      refine sy_ys (.tmp 59) (part_qrMove 7826) (part_qrMove 7827) ?_
      refine sy_reg ?_
      refine rg_plain 10 (opsAt (part_qrMove 7826)) [0, 1, 2, 3, 4, 5, 6, 7, 8, 9, 10] (by kernel_rfl) (by kernel_rfl) ?_
      refine ps_k (o_qrMove 7826 0) (va1) ?_
      refine ps_k (o_qrMove 7826 1) (pT q 0) ?_
      refine ps_k (o_qrMove 7826 2) (pT q 0) ?_
      refine ps_k (o_qrMove 7826 3) (pT q 5) ?_
      refine ps_p (o_qrMove 7826 4) (va) (exec_ld 59 (.tmp 63) q 5 Try.underlying59 (rc (h2) (by kernel_rfl))) ?_
      refine ps_k (o_qrMove 7826 5) (iN i) ?_
      refine ps_p (o_qrMove 7826 6) (pT b_xa (o_xa + i * 36)) (exec_indexAt_slice 59 (.tmp 64) (.tmp 65) (by kernel_rfl) b_xa o_xa d.a.length c_xa (Eq.trans (b := va) (by kernel_rfl) hv_xa) .i64 i (by kernel_rfl) _ 36 Try.underlying59 (by kernel_rfl) (by omega)) ?_
      refine ps_p (o_qrMove 7826 7) (.agg (Att.c x)) (exec_load_mid 28 (.tmp 66) (by kernel_rfl) b_xa (o_xa + i * 36) (by kernel_rfl) (Att.cl x) _ (Sl.range (hsa.keeps K5 (fun j hj _ e => Row.ne hra hq (by decide) ((show j = q from e) ▸ hj))) hx hv_xa) Try.underlying28 rfl (by rw [Att.cl_len hxo]; kernel_rfl)) ?_
      obtain ⟨V6, eV6, lit, elit, h7, kV6⟩ := alloc_step V1 (Att.c x) 28
      refine ps_r (o_qrMove 7826 8) (.slice (some ⟨lit, 0, none⟩) 1 1) (w' := V6) (by rw [← eV6, ← elit]; exact exec_build1 59 28 (.tmp 67) (by kernel_rfl) (.agg (Att.c x)) (by kernel_rfl) ia _ Try.underlying59 hia0 hia1 36 hia2 (by decide) (by decide) (Att.c_size x hxo.r)) ?_
      clear eV6
      have h8 := kV6.bk h2
      have h9 : Row V6 28 36 va1 (((d.a.take i).filter (geA l)).length) (((d.a.take i).filter (geA l)).flatMap Att.cl) := h3.keeps kV6 (fun _ _ x => x)
      have h10 : Row V6 35 35 (.slice none 0 0) (((d.b.take 0).filter (geB f)).length) (((d.b.take 0).filter (geB f)).flatMap Pro.cl) := h4.keeps kV6 (fun _ _ x => x)
      have K11 := K5.nn kV6
      have z12 := kV6.size
      obtain ⟨v13, V14, hr15, h16, hg17, hn18, ha19⟩ := run_append_any (P := Try.prog) (w := V6) 59 (Oper.type (o_qrMove 7826 9)) 28 ia (.agg zAtt.c) 36 64 Try.underlying59 hia0 hia1 hia2 hia3 rfl (by decide) va1 (((d.a.take i).filter (geA l)).length) (((d.a.take i).filter (geA l)).flatMap Att.cl) h9 (.slice (some ⟨lit, 0, none⟩) 1 1) 1 (Att.cl x) (src_att hxo h7) (by unfold maxLen; omega) (by omega)
      have kV14 : Keeps (fun j => va1.ownBlock = some j) V6 V14 := Keeps.rowAdd hg17
      have hw20 : NewFrom w.heap.size v13 := hnwa.next K11.size ha19
      refine ps_r (o_qrMove 7826 9) v13 (w' := V14) (exec_append (.tmp 60) (.tmp 68) 59 (by kernel_rfl) va1 (.slice (some ⟨lit, 0, none⟩) 1 1) (by kernel_rfl) (by kernel_rfl) hr15) ?_
      have h21 : Row V14 28 36 v13 (((d.a.take (i + 1)).filter (geA l)).length) (((d.a.take (i + 1)).filter (geA l)).flatMap Att.cl) := (by rw [fil_yes hx hp, List.flatMap_append, List.length_append]; simpa using h16)
      have h22 : V14.heap[q]? = some (.cells (#[.int .i64 d.v, .int .i64 d.win, .int .i64 d.span, .int .i64 d.l, .int .i64 d.f, va, vb]) 90 (0, 0)) := (kV14.block q (lt_of_block h8) (fun e => by have := hnwa _ e; omega)).trans h8
      have h23 : Row V14 35 35 (.slice none 0 0) (((d.b.take 0).filter (geB f)).length) (((d.b.take 0).filter (geB f)).flatMap Pro.cl) := h10.keeps kV14 (Row.apart h10 h9 (by decide))
      have K24 : Keeps ((One q)) w V14 := K11.then kV14 (fun i hi hm => absurd hi (by have := hnwa i hm; omega))
      have z25 := kV14.size
      refine ps_k (o_qrMove 7826 10) (v13) ?_
      refine ps_end ?_
      refine sy_a ⟨#[pT q 0, .int .i64 l, .int .i64 f, undef, undef, undef, .int .i64 0, v13, iN i, undef, undef, .bool false, .int .i64 l, .bool false, .bool false, .int .i64 l, .bool false, .bool false, .bool false, .int .i64 f, .bool false, .bool false, .bool false, .int .i64 f, .bool false, .bool false, .bool false, .int .i64 l, pT q 0, pT q 0, pT q 3, .int .i64 d.l, .bool false, .bool false, .int .i64 f, pT q 0, pT q 0, pT q 4, .int .i64 d.f, .bool false, .bool false, iN i, pT q 0, pT q 0, pT q 5, va, iN d.a.length, .bool true, u48, u49, pT q 0, pT q 0, pT q 5, va, iN i, pT b_xa (o_xa + i * 36), pT b_xa (o_xa + i * 36 + 2), .int .i64 x.t, .int .i64 l, .bool true, va1, pT q 0, pT q 0, pT q 5, va, iN i, pT b_xa (o_xa + i * 36), .agg (Att.c x), .slice (some ⟨lit, 0, none⟩) 1 1, v13, undef, undef, undef, undef, undef, undef, undef, undef, undef, undef, undef, undef, undef, undef, undef, undef, undef, undef, undef, undef, undef, undef, undef, undef, undef, undef, undef, undef, undef, undef, undef, undef, undef, undef, undef, undef, undef, undef, undef, undef, undef, undef, undef, undef, undef], []⟩ ?_
      refine blk_n ?_
      refine then_n ?_
      refine sy_reg ?_
      refine rg_plain 8 (opsAt (part_qrMove 979)) [0, 1, 2] (by kernel_rfl) (by kernel_rfl) ?_
      refine ps_k (o_qrMove 979 0) (iN i) ?_
      refine ps_p (o_qrMove 979 1) (iN (i + 1)) (exec_cast (congrArg (Value.int .i64) (wrapN (i + 1) (by omega))) (by kernel_rfl)) ?_
      refine ps_k (o_qrMove 979 2) (iN (i + 1)) ?_
      refine ps_end ?_
      refine then_n ?_
      refine ⟨⟨i + 1, v13, (iN i), (pT q 0), (pT q 0), (pT q 5), va, (iN d.a.length), (.bool true), (iN i), (iN (i + 1)), (pT q 0), (pT q 0), (pT q 5), va, (iN i), (pT b_xa (o_xa + i * 36)), (pT b_xa (o_xa + i * 36 + 2)), (.int .i64 x.t), (.int .i64 l), (.bool true), va1, (pT q 0), (pT q 0), (pT q 5), va, (iN i), (pT b_xa (o_xa + i * 36)), (.agg (Att.c x)), (.slice (some ⟨lit, 0, none⟩) 1 1), v13, by kernel_rfl, by omega, h22, h21, h23, K24, hw20⟩, ?_⟩
      exact lt_meas (x := d.a.length - (i + 1)) (y := d.a.length - i) (by kernel_rfl) (by kernel_rfl) (by omega)
    · have hxo := hoa x (List.mem_of_getElem? hx)
      obtain ⟨b_xa, o_xa, c_xa, hv_xa, hb_xa, _⟩ := ((hsa.keeps K5 (fun j hj _ e => Row.ne hra hq (by decide) ((show j = q from e) ▸ hj)))).at_ i _ hx
      have hp2 : ¬ l ≤ x.t := of_decide_eq_false hp
      refine sy_sq (part_qrMove 488) (part_qrMove 489) ?_
      refine sy_sq (part_qrMove 976) (part_qrMove 977) ?_
      refine sy_reg ?_
      refine rg_plain 7 (opsAt (part_qrMove 976)) [0, 1, 2, 3, 4, 5, 6] (by kernel_rfl) (by kernel_rfl) ?_
      refine ps_k (o_qrMove 976 0) (iN i) ?_
      refine ps_k (o_qrMove 976 1) (pT q 0) ?_
      refine ps_k (o_qrMove 976 2) (pT q 0) ?_
      refine ps_k (o_qrMove 976 3) (pT q 5) ?_
      refine ps_p (o_qrMove 976 4) (va) (exec_ld 59 (.tmp 44) q 5 Try.underlying59 (rc (h2) (by kernel_rfl))) ?_
      refine ps_p (o_qrMove 976 5) (iN d.a.length) (exec_len_sl (.tmp 45) 59 28 (by kernel_rfl) Try.underlying59 (by kernel_rfl) (hsa.keeps K5 (fun j hj _ e => Row.ne hra hq (by decide) ((show j = q from e) ▸ hj)))) ?_
      refine ps_p (o_qrMove 976 6) (.bool true) (dct ((((i : Nat) : Int)) < (((d.a.length : Nat) : Int))) (by omega)) ?_
      refine ps_end ?_
      refine then_n ?_
      refine sy_ys (.tmp 47) (part_qrMove 1954) (part_qrMove 1955) ?_
      refine sy_sk ?_
      refine then_n ?_
      refine sy_sq (part_qrMove 978) (part_qrMove 979) ?_
      refine sy_bk 2 (part_qrMove 1956) ?_
      refine sy_sq (part_qrMove 3912) (part_qrMove 3913) ?_
      refine sy_reg ?_
      refine rg_plain 9 (opsAt (part_qrMove 3912)) [0, 1, 2, 3, 4, 5, 6, 7, 8, 9] (by kernel_rfl) (by kernel_rfl) ?_
      refine ps_k (o_qrMove 3912 0) (pT q 0) ?_
      refine ps_k (o_qrMove 3912 1) (pT q 0) ?_
      refine ps_k (o_qrMove 3912 2) (pT q 5) ?_
      refine ps_p (o_qrMove 3912 3) (va) (exec_ld 59 (.tmp 52) q 5 Try.underlying59 (rc (h2) (by kernel_rfl))) ?_
      refine ps_k (o_qrMove 3912 4) (iN i) ?_
      refine ps_p (o_qrMove 3912 5) (pT b_xa (o_xa + i * 36)) (exec_indexAt_slice 59 (.tmp 53) (.tmp 54) (by kernel_rfl) b_xa o_xa d.a.length c_xa (Eq.trans (b := va) (by kernel_rfl) hv_xa) .i64 i (by kernel_rfl) _ 36 Try.underlying59 (by kernel_rfl) (by omega)) ?_
      refine ps_k (o_qrMove 3912 6) (pT b_xa (o_xa + i * 36 + 2)) ?_
      refine ps_p (o_qrMove 3912 7) (.int .i64 x.t) (exec_ld 3 (.tmp 56) b_xa (o_xa + i * 36 + 2) Try.underlying3 (Sl.cell (hsa.keeps K5 (fun j hj _ e => Row.ne hra hq (by decide) ((show j = q from e) ▸ hj))) hx hv_xa Att.cl_2)) ?_
      refine ps_k (o_qrMove 3912 8) (.int .i64 l) ?_
      refine ps_p (o_qrMove 3912 9) (.bool false) (dcf (((x.t) : Int) ≥ ((l) : Int)) (by omega)) ?_
      refine ps_end ?_
      refine then_n ?_
      refine sy_n (.tmp 59) (part_qrMove 7826) (part_qrMove 7827) ?_
      refine sy_sk ?_
      refine blk_n ?_
      refine then_n ?_
      refine sy_reg ?_
      refine rg_plain 8 (opsAt (part_qrMove 979)) [0, 1, 2] (by kernel_rfl) (by kernel_rfl) ?_
      refine ps_k (o_qrMove 979 0) (iN i) ?_
      refine ps_p (o_qrMove 979 1) (iN (i + 1)) (exec_cast (congrArg (Value.int .i64) (wrapN (i + 1) (by omega))) (by kernel_rfl)) ?_
      refine ps_k (o_qrMove 979 2) (iN (i + 1)) ?_
      refine ps_end ?_
      refine then_n ?_
      refine ⟨⟨i + 1, va1, (iN i), (pT q 0), (pT q 0), (pT q 5), va, (iN d.a.length), (.bool true), (iN i), (iN (i + 1)), (pT q 0), (pT q 0), (pT q 5), va, (iN i), (pT b_xa (o_xa + i * 36)), (pT b_xa (o_xa + i * 36 + 2)), (.int .i64 x.t), (.int .i64 l), (.bool false), u60, u61, u62, u63, u64, u65, u66, u67, u68, u69, by kernel_rfl, by omega, h2, (by rw [fil_no hx hp]; exact h3), h4, K5, hnwa⟩, ?_⟩
      exact lt_meas (x := d.a.length - (i + 1)) (y := d.a.length - i) (by kernel_rfl) (by kernel_rfl) (by omega)
    · have ei : i = d.a.length := hlt
      refine sy_sq (part_qrMove 488) (part_qrMove 489) ?_
      refine sy_sq (part_qrMove 976) (part_qrMove 977) ?_
      refine sy_reg ?_
      refine rg_plain 7 (opsAt (part_qrMove 976)) [0, 1, 2, 3, 4, 5, 6] (by kernel_rfl) (by kernel_rfl) ?_
      refine ps_k (o_qrMove 976 0) (iN i) ?_
      refine ps_k (o_qrMove 976 1) (pT q 0) ?_
      refine ps_k (o_qrMove 976 2) (pT q 0) ?_
      refine ps_k (o_qrMove 976 3) (pT q 5) ?_
      refine ps_p (o_qrMove 976 4) (va) (exec_ld 59 (.tmp 44) q 5 Try.underlying59 (rc (h2) (by kernel_rfl))) ?_
      refine ps_p (o_qrMove 976 5) (iN d.a.length) (exec_len_sl (.tmp 45) 59 28 (by kernel_rfl) Try.underlying59 (by kernel_rfl) (hsa.keeps K5 (fun j hj _ e => Row.ne hra hq (by decide) ((show j = q from e) ▸ hj)))) ?_
      refine ps_p (o_qrMove 976 6) (.bool false) (dcf ((((i : Nat) : Int)) < (((d.a.length : Nat) : Int))) (by omega)) ?_
      refine ps_end ?_
      refine then_n ?_
      refine sy_n (.tmp 47) (part_qrMove 1954) (part_qrMove 1955) ?_
      refine sy_exit 1 (by kernel_rfl) ?_
      refine then_e ?_
      refine then_e ?_
      refine blk_e ?_
      refine then_n ?_
      refine sy_sq (part_qrMove 62) (part_qrMove 63) ?_
      refine sy_reg ?_
      refine rg_plain 11 (opsAt (part_qrMove 62)) [0] (by kernel_rfl) (by kernel_rfl) ?_
      refine ps_k (o_qrMove 62 0) (.slice none 0 0) ?_
      refine ps_end ?_
      refine then_n ?_
      refine sy_sq (part_qrMove 126) (part_qrMove 127) ?_
      refine sy_sq (part_qrMove 252) (part_qrMove 253) ?_
      refine sy_reg ?_
      refine rg_plain 12 (opsAt (part_qrMove 252)) [0] (by kernel_rfl) (by kernel_rfl) ?_
      refine ps_k (o_qrMove 252 0) (.int .i64 0) ?_
      refine ps_end ?_
      refine then_n ?_
      refine sy_bk 3 (part_qrMove 506) ?_
      refine sy_loop (part_qrMove 1012) (fun a V => ∃ (k : Nat) (vb1 : Value) (u70 u71 u72 u73 u74 u75 u76 u77 u78 u79 u80 u81 u82 u83 u84 u85 u86 u87 u88 u89 u90 u91 u92 u93 u94 u95 u96 u97 u98 : Value), (a = ⟨#[pT q 0, .int .i64 l, .int .i64 f, undef, undef, undef, .int .i64 0, va1, iN i, vb1, iN k, .bool false, .int .i64 l, .bool false, .bool false, .int .i64 l, .bool false, .bool false, .bool false, .int .i64 f, .bool false, .bool false, .bool false, .int .i64 f, .bool false, .bool false, .bool false, .int .i64 l, pT q 0, pT q 0, pT q 3, .int .i64 d.l, .bool false, .bool false, .int .i64 f, pT q 0, pT q 0, pT q 4, .int .i64 d.f, .bool false, .bool false, iN i, pT q 0, pT q 0, pT q 5, va, iN d.a.length, .bool false, u48, u49, u50, u51, u52, u53, u54, u55, u56, u57, u58, u59, u60, u61, u62, u63, u64, u65, u66, u67, u68, u69, u70, u71, u72, u73, u74, u75, u76, u77, u78, u79, u80, u81, u82, u83, u84, u85, u86, u87, u88, u89, u90, u91, u92, u93, u94, u95, u96, u97, u98, undef, undef, undef, undef, undef, undef, undef, undef, undef, undef, undef, undef, undef, undef, undef, undef], []⟩) ∧ (k ≤ d.b.length) ∧ (V.heap[q]? = some (.cells (#[.int .i64 d.v, .int .i64 d.win, .int .i64 d.span, .int .i64 d.l, .int .i64 d.f, va, vb]) 90 (0, 0))) ∧ (Row V 28 36 va1 (((d.a.take i).filter (geA l)).length) (((d.a.take i).filter (geA l)).flatMap Att.cl)) ∧ (Row V 35 35 vb1 (((d.b.take k).filter (geB f)).length) (((d.b.take k).filter (geB f)).flatMap Pro.cl)) ∧ (Keeps ((One q)) w V) ∧ (NewFrom w.heap.size vb1)) (fun a _ => d.b.length - (intOf (a.tmps.getD 10 undef)).toNat) (by kernel_rfl) ?_ ?_
      · exact ⟨0, .slice none 0 0, undef, undef, undef, undef, undef, undef, undef, undef, undef, undef, undef, undef, undef, undef, undef, undef, undef, undef, undef, undef, undef, undef, undef, undef, undef, undef, undef, undef, undef, by kernel_rfl, Nat.zero_le _, h2, h3, h4, K5, NewFrom.nil _⟩
      · rintro a V26 ⟨k, vb1, u70, u71, u72, u73, u74, u75, u76, u77, u78, u79, u80, u81, u82, u83, u84, u85, u86, u87, u88, u89, u90, u91, u92, u93, u94, u95, u96, u97, u98, rfl, hk, h27, h28, h29, K30, hnwb⟩
        rcases fil_cases d.b (geB f) k hk with ⟨x, hlt, hx, hp⟩ | ⟨x, hlt, hx, hp⟩ | hlt
        · have hxo := hob x (List.mem_of_getElem? hx)
          obtain ⟨b_xb, o_xb, c_xb, hv_xb, hb_xb, _⟩ := ((hsb.keeps K30 (fun j hj _ e => Row.ne hrb hq (by decide) ((show j = q from e) ▸ hj)))).at_ k _ hx
          have hp2 : f ≤ x.h := of_decide_eq_true hp
          have hfl := fil_len (geB f) d.b k
          refine sy_sq (part_qrMove 2024) (part_qrMove 2025) ?_
          refine sy_sq (part_qrMove 4048) (part_qrMove 4049) ?_
          refine sy_reg ?_
          refine rg_plain 13 (opsAt (part_qrMove 4048)) [0, 1, 2, 3, 4, 5, 6] (by kernel_rfl) (by kernel_rfl) ?_
          refine ps_k (o_qrMove 4048 0) (iN k) ?_
          refine ps_k (o_qrMove 4048 1) (pT q 0) ?_
          refine ps_k (o_qrMove 4048 2) (pT q 0) ?_
          refine ps_k (o_qrMove 4048 3) (pT q 6) ?_
          refine ps_p (o_qrMove 4048 4) (vb) (exec_ld 61 (.tmp 73) q 6 Try.underlying61 (rc (h27) (by kernel_rfl))) ?_
          refine ps_p (o_qrMove 4048 5) (iN d.b.length) (exec_len_sl (.tmp 74) 61 35 (by kernel_rfl) Try.underlying61 (by kernel_rfl) (hsb.keeps K30 (fun j hj _ e => Row.ne hrb hq (by decide) ((show j = q from e) ▸ hj)))) ?_
          refine ps_p (o_qrMove 4048 6) (.bool true) (dct ((((k : Nat) : Int)) < (((d.b.length : Nat) : Int))) (by omega)) ?_
          refine ps_end ?_
          refine then_n ?_
          refine sy_ys (.tmp 76) (part_qrMove 8098) (part_qrMove 8099) ?_
          refine sy_sk ?_
          refine then_n ?_
          refine sy_sq (part_qrMove 4050) (part_qrMove 4051) ?_
          refine sy_bk 4 (part_qrMove 8100) ?_
          refine sy_sq (part_qrMove 16200) (part_qrMove 16201) ?_
          refine sy_reg ?_
          refine rg_plain 15 (opsAt (part_qrMove 16200)) [0, 1, 2, 3, 4, 5, 6, 7, 8, 9] (by kernel_rfl) (by kernel_rfl) ?_
          refine ps_k (o_qrMove 16200 0) (pT q 0) ?_
          refine ps_k (o_qrMove 16200 1) (pT q 0) ?_
          refine ps_k (o_qrMove 16200 2) (pT q 6) ?_
          refine ps_p (o_qrMove 16200 3) (vb) (exec_ld 61 (.tmp 81) q 6 Try.underlying61 (rc (h27) (by kernel_rfl))) ?_
          refine ps_k (o_qrMove 16200 4) (iN k) ?_
          refine ps_p (o_qrMove 16200 5) (pT b_xb (o_xb + k * 35)) (exec_indexAt_slice 61 (.tmp 82) (.tmp 83) (by kernel_rfl) b_xb o_xb d.b.length c_xb (Eq.trans (b := vb) (by kernel_rfl) hv_xb) .i64 k (by kernel_rfl) _ 35 Try.underlying61 (by kernel_rfl) (by omega)) ?_
          refine ps_k (o_qrMove 16200 6) (pT b_xb (o_xb + k * 35 + 1)) ?_
          refine ps_p (o_qrMove 16200 7) (.int .i64 x.h) (exec_ld 3 (.tmp 85) b_xb (o_xb + k * 35 + 1) Try.underlying3 (Sl.cell (hsb.keeps K30 (fun j hj _ e => Row.ne hrb hq (by decide) ((show j = q from e) ▸ hj))) hx hv_xb Pro.cl_1)) ?_
          refine ps_k (o_qrMove 16200 8) (.int .i64 f) ?_
          refine ps_p (o_qrMove 16200 9) (.bool true) (dct (((x.h) : Int) ≥ ((f) : Int)) (by omega)) ?_
          refine ps_end ?_
          refine then_n ?_
          refine sy_ys (.tmp 88) (part_qrMove 32402) (part_qrMove 32403) ?_
          refine sy_reg ?_
          refine rg_plain 16 (opsAt (part_qrMove 32402)) [0, 1, 2, 3, 4, 5, 6, 7, 8, 9, 10] (by kernel_rfl) (by kernel_rfl) ?_
          refine ps_k (o_qrMove 32402 0) (vb1) ?_
          refine ps_k (o_qrMove 32402 1) (pT q 0) ?_
          refine ps_k (o_qrMove 32402 2) (pT q 0) ?_
          refine ps_k (o_qrMove 32402 3) (pT q 6) ?_
          refine ps_p (o_qrMove 32402 4) (vb) (exec_ld 61 (.tmp 92) q 6 Try.underlying61 (rc (h27) (by kernel_rfl))) ?_
          refine ps_k (o_qrMove 32402 5) (iN k) ?_
          refine ps_p (o_qrMove 32402 6) (pT b_xb (o_xb + k * 35)) (exec_indexAt_slice 61 (.tmp 93) (.tmp 94) (by kernel_rfl) b_xb o_xb d.b.length c_xb (Eq.trans (b := vb) (by kernel_rfl) hv_xb) .i64 k (by kernel_rfl) _ 35 Try.underlying61 (by kernel_rfl) (by omega)) ?_
          refine ps_p (o_qrMove 32402 7) (.agg (Pro.c x)) (exec_load_mid 35 (.tmp 95) (by kernel_rfl) b_xb (o_xb + k * 35) (by kernel_rfl) (Pro.cl x) _ (Sl.range (hsb.keeps K30 (fun j hj _ e => Row.ne hrb hq (by decide) ((show j = q from e) ▸ hj))) hx hv_xb) Try.underlying35 rfl (by rw [Pro.cl_len hxo]; kernel_rfl)) ?_
          obtain ⟨V31, eV31, lit, elit, h32, kV31⟩ := alloc_step V26 (Pro.c x) 35
          refine ps_r (o_qrMove 32402 8) (.slice (some ⟨lit, 0, none⟩) 1 1) (w' := V31) (by rw [← eV31, ← elit]; exact exec_build1 61 35 (.tmp 96) (by kernel_rfl) (.agg (Pro.c x)) (by kernel_rfl) ib _ Try.underlying61 hib0 hib1 35 hib2 (by decide) (by decide) (Pro.c_size x hxo.r)) ?_
          clear eV31
          have h33 := kV31.bk h27
          have h34 : Row V31 28 36 va1 (((d.a.take i).filter (geA l)).length) (((d.a.take i).filter (geA l)).flatMap Att.cl) := h28.keeps kV31 (fun _ _ x => x)
          have h35 : Row V31 35 35 vb1 (((d.b.take k).filter (geB f)).length) (((d.b.take k).filter (geB f)).flatMap Pro.cl) := h29.keeps kV31 (fun _ _ x => x)
          have K36 := K30.nn kV31
          have z37 := kV31.size
          obtain ⟨v38, V39, hr40, h41, hg42, hn43, ha44⟩ := run_append_any (P := Try.prog) (w := V31) 61 (Oper.type (o_qrMove 32402 9)) 35 ib (.agg zPro.c) 35 56 Try.underlying61 hib0 hib1 hib2 hib3 rfl (by decide) vb1 (((d.b.take k).filter (geB f)).length) (((d.b.take k).filter (geB f)).flatMap Pro.cl) h35 (.slice (some ⟨lit, 0, none⟩) 1 1) 1 (Pro.cl x) (src_pro hxo h32) (by unfold maxLen; omega) (by omega)
          have kV39 : Keeps (fun j => vb1.ownBlock = some j) V31 V39 := Keeps.rowAdd hg42
          have hw45 : NewFrom w.heap.size v38 := hnwb.next K36.size ha44
          refine ps_r (o_qrMove 32402 9) v38 (w' := V39) (exec_append (.tmp 89) (.tmp 97) 61 (by kernel_rfl) vb1 (.slice (some ⟨lit, 0, none⟩) 1 1) (by kernel_rfl) (by kernel_rfl) hr40) ?_
          have h46 : Row V39 35 35 v38 (((d.b.take (k + 1)).filter (geB f)).length) (((d.b.take (k + 1)).filter (geB f)).flatMap Pro.cl) := (by rw [fil_yes hx hp, List.flatMap_append, List.length_append]; simpa using h41)
          have h47 : V39.heap[q]? = some (.cells (#[.int .i64 d.v, .int .i64 d.win, .int .i64 d.span, .int .i64 d.l, .int .i64 d.f, va, vb]) 90 (0, 0)) := (kV39.block q (lt_of_block h33) (fun e => by have := hnwb _ e; omega)).trans h33
          have h48 : Row V39 28 36 va1 (((d.a.take i).filter (geA l)).length) (((d.a.take i).filter (geA l)).flatMap Att.cl) := h34.keeps kV39 (Row.apart h34 h35 (by decide))
          have K49 : Keeps ((One q)) w V39 := K36.then kV39 (fun i hi hm => absurd hi (by have := hnwb i hm; omega))
          have z50 := kV39.size
          refine ps_k (o_qrMove 32402 10) (v38) ?_
          refine ps_end ?_
          refine sy_a ⟨#[pT q 0, .int .i64 l, .int .i64 f, undef, undef, undef, .int .i64 0, va1, iN i, v38, iN k, .bool false, .int .i64 l, .bool false, .bool false, .int .i64 l, .bool false, .bool false, .bool false, .int .i64 f, .bool false, .bool false, .bool false, .int .i64 f, .bool false, .bool false, .bool false, .int .i64 l, pT q 0, pT q 0, pT q 3, .int .i64 d.l, .bool false, .bool false, .int .i64 f, pT q 0, pT q 0, pT q 4, .int .i64 d.f, .bool false, .bool false, iN i, pT q 0, pT q 0, pT q 5, va, iN d.a.length, .bool false, u48, u49, u50, u51, u52, u53, u54, u55, u56, u57, u58, u59, u60, u61, u62, u63, u64, u65, u66, u67, u68, u69, iN k, pT q 0, pT q 0, pT q 6, vb, iN d.b.length, .bool true, u77, u78, pT q 0, pT q 0, pT q 6, vb, iN k, pT b_xb (o_xb + k * 35), pT b_xb (o_xb + k * 35 + 1), .int .i64 x.h, .int .i64 f, .bool true, vb1, pT q 0, pT q 0, pT q 6, vb, iN k, pT b_xb (o_xb + k * 35), .agg (Pro.c x), .slice (some ⟨lit, 0, none⟩) 1 1, v38, undef, undef, undef, undef, undef, undef, undef, undef, undef, undef, undef, undef, undef, undef, undef, undef], []⟩ ?_
          refine blk_n ?_
          refine then_n ?_
          refine sy_reg ?_
          refine rg_plain 14 (opsAt (part_qrMove 4051)) [0, 1, 2] (by kernel_rfl) (by kernel_rfl) ?_
          refine ps_k (o_qrMove 4051 0) (iN k) ?_
          refine ps_p (o_qrMove 4051 1) (iN (k + 1)) (exec_cast (congrArg (Value.int .i64) (wrapN (k + 1) (by omega))) (by kernel_rfl)) ?_
          refine ps_k (o_qrMove 4051 2) (iN (k + 1)) ?_
          refine ps_end ?_
          refine then_n ?_
          refine ⟨⟨k + 1, v38, (iN k), (pT q 0), (pT q 0), (pT q 6), vb, (iN d.b.length), (.bool true), (iN k), (iN (k + 1)), (pT q 0), (pT q 0), (pT q 6), vb, (iN k), (pT b_xb (o_xb + k * 35)), (pT b_xb (o_xb + k * 35 + 1)), (.int .i64 x.h), (.int .i64 f), (.bool true), vb1, (pT q 0), (pT q 0), (pT q 6), vb, (iN k), (pT b_xb (o_xb + k * 35)), (.agg (Pro.c x)), (.slice (some ⟨lit, 0, none⟩) 1 1), v38, by kernel_rfl, by omega, h47, h48, h46, K49, hw45⟩, ?_⟩
          exact lt_meas (x := d.b.length - (k + 1)) (y := d.b.length - k) (by kernel_rfl) (by kernel_rfl) (by omega)
        · have hxo := hob x (List.mem_of_getElem? hx)
          obtain ⟨b_xb, o_xb, c_xb, hv_xb, hb_xb, _⟩ := ((hsb.keeps K30 (fun j hj _ e => Row.ne hrb hq (by decide) ((show j = q from e) ▸ hj)))).at_ k _ hx
          have hp2 : ¬ f ≤ x.h := of_decide_eq_false hp
          refine sy_sq (part_qrMove 2024) (part_qrMove 2025) ?_
          refine sy_sq (part_qrMove 4048) (part_qrMove 4049) ?_
          refine sy_reg ?_
          refine rg_plain 13 (opsAt (part_qrMove 4048)) [0, 1, 2, 3, 4, 5, 6] (by kernel_rfl) (by kernel_rfl) ?_
          refine ps_k (o_qrMove 4048 0) (iN k) ?_
          refine ps_k (o_qrMove 4048 1) (pT q 0) ?_
          refine ps_k (o_qrMove 4048 2) (pT q 0) ?_
          refine ps_k (o_qrMove 4048 3) (pT q 6) ?_
          refine ps_p (o_qrMove 4048 4) (vb) (exec_ld 61 (.tmp 73) q 6 Try.underlying61 (rc (h27) (by kernel_rfl))) ?_
          refine ps_p (o_qrMove 4048 5) (iN d.b.length) (exec_len_sl (.tmp 74) 61 35 (by kernel_rfl) Try.underlying61 (by kernel_rfl) (hsb.keeps K30 (fun j hj _ e => Row.ne hrb hq (by decide) ((show j = q from e) ▸ hj)))) ?_
          refine ps_p (o_qrMove 4048 6) (.bool true) (dct ((((k : Nat) : Int)) < (((d.b.length : Nat) : Int))) (by omega)) ?_
          refine ps_end ?_
          refine then_n ?_
          refine sy_ys (.tmp 76) (part_qrMove 8098) (part_qrMove 8099) ?_
          refine sy_sk ?_
          refine then_n ?_
          refine sy_sq (part_qrMove 4050) (part_qrMove 4051) ?_
          refine sy_bk 4 (part_qrMove 8100) ?_
          refine sy_sq (part_qrMove 16200) (part_qrMove 16201) ?_
          refine sy_reg ?_
          refine rg_plain 15 (opsAt (part_qrMove 16200)) [0, 1, 2, 3, 4, 5, 6, 7, 8, 9] (by kernel_rfl) (by kernel_rfl) ?_
          refine ps_k (o_qrMove 16200 0) (pT q 0) ?_
          refine ps_k (o_qrMove 16200 1) (pT q 0) ?_
          refine ps_k (o_qrMove 16200 2) (pT q 6) ?_
          refine ps_p (o_qrMove 16200 3) (vb) (exec_ld 61 (.tmp 81) q 6 Try.underlying61 (rc (h27) (by kernel_rfl))) ?_
          refine ps_k (o_qrMove 16200 4) (iN k) ?_
          refine ps_p (o_qrMove 16200 5) (pT b_xb (o_xb + k * 35)) (exec_indexAt_slice 61 (.tmp 82) (.tmp 83) (by kernel_rfl) b_xb o_xb d.b.length c_xb (Eq.trans (b := vb) (by kernel_rfl) hv_xb) .i64 k (by kernel_rfl) _ 35 Try.underlying61 (by kernel_rfl) (by omega)) ?_
          refine ps_k (o_qrMove 16200 6) (pT b_xb (o_xb + k * 35 + 1)) ?_
          refine ps_p (o_qrMove 16200 7) (.int .i64 x.h) (exec_ld 3 (.tmp 85) b_xb (o_xb + k * 35 + 1) Try.underlying3 (Sl.cell (hsb.keeps K30 (fun j hj _ e => Row.ne hrb hq (by decide) ((show j = q from e) ▸ hj))) hx hv_xb Pro.cl_1)) ?_
          refine ps_k (o_qrMove 16200 8) (.int .i64 f) ?_
          refine ps_p (o_qrMove 16200 9) (.bool false) (dcf (((x.h) : Int) ≥ ((f) : Int)) (by omega)) ?_
          refine ps_end ?_
          refine then_n ?_
          refine sy_n (.tmp 88) (part_qrMove 32402) (part_qrMove 32403) ?_
          refine sy_sk ?_
          refine blk_n ?_
          refine then_n ?_
          refine sy_reg ?_
          refine rg_plain 14 (opsAt (part_qrMove 4051)) [0, 1, 2] (by kernel_rfl) (by kernel_rfl) ?_
          refine ps_k (o_qrMove 4051 0) (iN k) ?_
          refine ps_p (o_qrMove 4051 1) (iN (k + 1)) (exec_cast (congrArg (Value.int .i64) (wrapN (k + 1) (by omega))) (by kernel_rfl)) ?_
          refine ps_k (o_qrMove 4051 2) (iN (k + 1)) ?_
          refine ps_end ?_
          refine then_n ?_
          refine ⟨⟨k + 1, vb1, (iN k), (pT q 0), (pT q 0), (pT q 6), vb, (iN d.b.length), (.bool true), (iN k), (iN (k + 1)), (pT q 0), (pT q 0), (pT q 6), vb, (iN k), (pT b_xb (o_xb + k * 35)), (pT b_xb (o_xb + k * 35 + 1)), (.int .i64 x.h), (.int .i64 f), (.bool false), u89, u90, u91, u92, u93, u94, u95, u96, u97, u98, by kernel_rfl, by omega, h27, h28, (by rw [fil_no hx hp]; exact h29), K30, hnwb⟩, ?_⟩
          exact lt_meas (x := d.b.length - (k + 1)) (y := d.b.length - k) (by kernel_rfl) (by kernel_rfl) (by omega)
        · have ek : k = d.b.length := hlt
          refine sy_sq (part_qrMove 2024) (part_qrMove 2025) ?_
          refine sy_sq (part_qrMove 4048) (part_qrMove 4049) ?_
          refine sy_reg ?_
          refine rg_plain 13 (opsAt (part_qrMove 4048)) [0, 1, 2, 3, 4, 5, 6] (by kernel_rfl) (by kernel_rfl) ?_
          refine ps_k (o_qrMove 4048 0) (iN k) ?_
          refine ps_k (o_qrMove 4048 1) (pT q 0) ?_
          refine ps_k (o_qrMove 4048 2) (pT q 0) ?_
          refine ps_k (o_qrMove 4048 3) (pT q 6) ?_
          refine ps_p (o_qrMove 4048 4) (vb) (exec_ld 61 (.tmp 73) q 6 Try.underlying61 (rc (h27) (by kernel_rfl))) ?_
          refine ps_p (o_qrMove 4048 5) (iN d.b.length) (exec_len_sl (.tmp 74) 61 35 (by kernel_rfl) Try.underlying61 (by kernel_rfl) (hsb.keeps K30 (fun j hj _ e => Row.ne hrb hq (by decide) ((show j = q from e) ▸ hj)))) ?_
          refine ps_p (o_qrMove 4048 6) (.bool false) (dcf ((((k : Nat) : Int)) < (((d.b.length : Nat) : Int))) (by omega)) ?_
          refine ps_end ?_
          refine then_n ?_
          refine sy_n (.tmp 76) (part_qrMove 8098) (part_qrMove 8099) ?_
          refine sy_exit 3 (by kernel_rfl) ?_
          refine then_e ?_
          refine then_e ?_
          refine blk_e ?_
          refine then_n ?_
          refine sy_sq (part_qrMove 254) (part_qrMove 255) ?_
          refine sy_reg ?_
          refine rg_plain 17 (opsAt (part_qrMove 254)) [0, 1, 2, 3, 4, 5, 6, 7, 8, 9, 10, 11, 12, 13, 14, 15, 16, 17, 18, 19] (by kernel_rfl) (by kernel_rfl) ?_
          refine ps_k (o_qrMove 254 0) (pT q 0) ?_
          refine ps_k (o_qrMove 254 1) (pT q 0) ?_
          refine ps_k (o_qrMove 254 2) (pT q 0) ?_
          refine ps_k (o_qrMove 254 3) (pT q 0) ?_
          refine ps_k (o_qrMove 254 4) (va1) ?_
          refine ps_k (o_qrMove 254 5) (vb1) ?_
          refine ps_k (o_qrMove 254 6) (.int .i64 l) ?_
          refine ps_k (o_qrMove 254 7) (.int .i64 f) ?_
          refine ps_k (o_qrMove 254 8) (pT q 0) ?_
          refine ps_k (o_qrMove 254 9) (pT q 5) ?_
          obtain ⟨V51, eV51, kV51⟩ := cell_step V26 q 5 va1
          have h52 : V51.heap[q]? = some (.cells (#[.int .i64 d.v, .int .i64 d.win, .int .i64 d.span, .int .i64 d.l, .int .i64 d.f, va1, vb]) 90 (0, 0)) := eV51 ▸ ((heap_setCell_same _ q 5 _ _ va1 h27).trans (congrArg (fun c => some (Obj.cells c 90 (0, 0))) (show (#[.int .i64 d.v, .int .i64 d.win, .int .i64 d.span, .int .i64 d.l, .int .i64 d.f, va, vb] : Array Value).setIfInBounds 5 va1 = #[.int .i64 d.v, .int .i64 d.win, .int .i64 d.span, .int .i64 d.l, .int .i64 d.f, va1, vb] from by kernel_rfl)))
          refine ps_s (o_qrMove 254 10) (w' := V51) (by rw [← eV51]; exact exec_store_cell 59 (.tmp 108) (.tmp 103) (by kernel_rfl) q 5 (by kernel_rfl) va1 (by kernel_rfl) (by kernel_rfl) (Row.cells1 h28) va (rc (h27) (by kernel_rfl)) (frozen_of_row _ _ _ _ _ h27) (Row.one h28)) ?_
          clear eV51
          have h53 : Row V51 28 36 va1 (((d.a.take i).filter (geA l)).length) (((d.a.take i).filter (geA l)).flatMap Att.cl) := h28.keeps kV51 (fun j hj e => Row.ne h28 h27 (by decide) ((show j = q from e) ▸ hj))
          have h54 : Row V51 35 35 vb1 (((d.b.take k).filter (geB f)).length) (((d.b.take k).filter (geB f)).flatMap Pro.cl) := h29.keeps kV51 (fun j hj e => Row.ne h29 h27 (by decide) ((show j = q from e) ▸ hj))
          have K55 : Keeps ((One q)) w V51 := K30.then kV51 (fun i hi hm => by unfold Own.One at hm; subst hm; exact rfl)
          have z56 := kV51.size
          refine ps_k (o_qrMove 254 11) (pT q 0) ?_
          refine ps_k (o_qrMove 254 12) (pT q 6) ?_
          obtain ⟨V57, eV57, kV57⟩ := cell_step V51 q 6 vb1
          have h58 : V57.heap[q]? = some (.cells (#[.int .i64 d.v, .int .i64 d.win, .int .i64 d.span, .int .i64 d.l, .int .i64 d.f, va1, vb1]) 90 (0, 0)) := eV57 ▸ ((heap_setCell_same _ q 6 _ _ vb1 h52).trans (congrArg (fun c => some (Obj.cells c 90 (0, 0))) (show (#[.int .i64 d.v, .int .i64 d.win, .int .i64 d.span, .int .i64 d.l, .int .i64 d.f, va1, vb] : Array Value).setIfInBounds 6 vb1 = #[.int .i64 d.v, .int .i64 d.win, .int .i64 d.span, .int .i64 d.l, .int .i64 d.f, va1, vb1] from by kernel_rfl)))
          refine ps_s (o_qrMove 254 13) (w' := V57) (by rw [← eV57]; exact exec_store_cell 61 (.tmp 110) (.tmp 104) (by kernel_rfl) q 6 (by kernel_rfl) vb1 (by kernel_rfl) (by kernel_rfl) (Row.cells1 h54) vb (rc (h52) (by kernel_rfl)) (frozen_of_row _ _ _ _ _ h52) (Row.one h54)) ?_
          clear eV57
          have h59 : Row V57 28 36 va1 (((d.a.take i).filter (geA l)).length) (((d.a.take i).filter (geA l)).flatMap Att.cl) := h53.keeps kV57 (fun j hj e => Row.ne h53 h52 (by decide) ((show j = q from e) ▸ hj))
          have h60 : Row V57 35 35 vb1 (((d.b.take k).filter (geB f)).length) (((d.b.take k).filter (geB f)).flatMap Pro.cl) := h54.keeps kV57 (fun j hj e => Row.ne h54 h52 (by decide) ((show j = q from e) ▸ hj))
          have K61 : Keeps ((One q)) w V57 := K55.then kV57 (fun i hi hm => by unfold Own.One at hm; subst hm; exact rfl)
          have z62 := kV57.size
          refine ps_k (o_qrMove 254 14) (pT q 0) ?_
          refine ps_k (o_qrMove 254 15) (pT q 3) ?_
          obtain ⟨V63, eV63, kV63⟩ := cell_step V57 q 3 (.int .i64 l)
          have h64 : V63.heap[q]? = some (.cells (#[.int .i64 d.v, .int .i64 d.win, .int .i64 d.span, .int .i64 l, .int .i64 d.f, va1, vb1]) 90 (0, 0)) := eV63 ▸ ((heap_setCell_same _ q 3 _ _ (.int .i64 l) h58).trans (congrArg (fun c => some (Obj.cells c 90 (0, 0))) (show (#[.int .i64 d.v, .int .i64 d.win, .int .i64 d.span, .int .i64 d.l, .int .i64 d.f, va1, vb1] : Array Value).setIfInBounds 3 (.int .i64 l) = #[.int .i64 d.v, .int .i64 d.win, .int .i64 d.span, .int .i64 l, .int .i64 d.f, va1, vb1] from by kernel_rfl)))
          refine ps_s (o_qrMove 254 16) (w' := V63) (by rw [← eV63]; exact exec_store_cell 3 (.tmp 112) (.tmp 105) (by kernel_rfl) q 3 (by kernel_rfl) (.int .i64 l) (by kernel_rfl) (by kernel_rfl) (by kernel_rfl) (.int .i64 d.l) (rc (h58) (by kernel_rfl)) (frozen_of_row _ _ _ _ _ h58) (by kernel_rfl)) ?_
          clear eV63
          have h65 : Row V63 28 36 va1 (((d.a.take i).filter (geA l)).length) (((d.a.take i).filter (geA l)).flatMap Att.cl) := h59.keeps kV63 (fun j hj e => Row.ne h59 h58 (by decide) ((show j = q from e) ▸ hj))
          have h66 : Row V63 35 35 vb1 (((d.b.take k).filter (geB f)).length) (((d.b.take k).filter (geB f)).flatMap Pro.cl) := h60.keeps kV63 (fun j hj e => Row.ne h60 h58 (by decide) ((show j = q from e) ▸ hj))
          have K67 : Keeps ((One q)) w V63 := K61.then kV63 (fun i hi hm => by unfold Own.One at hm; subst hm; exact rfl)
          have z68 := kV63.size
          refine ps_k (o_qrMove 254 17) (pT q 0) ?_
          refine ps_k (o_qrMove 254 18) (pT q 4) ?_
          obtain ⟨V69, eV69, kV69⟩ := cell_step V63 q 4 (.int .i64 f)
          have h70 : V69.heap[q]? = some (.cells (#[.int .i64 d.v, .int .i64 d.win, .int .i64 d.span, .int .i64 l, .int .i64 f, va1, vb1]) 90 (0, 0)) := eV69 ▸ ((heap_setCell_same _ q 4 _ _ (.int .i64 f) h64).trans (congrArg (fun c => some (Obj.cells c 90 (0, 0))) (show (#[.int .i64 d.v, .int .i64 d.win, .int .i64 d.span, .int .i64 l, .int .i64 d.f, va1, vb1] : Array Value).setIfInBounds 4 (.int .i64 f) = #[.int .i64 d.v, .int .i64 d.win, .int .i64 d.span, .int .i64 l, .int .i64 f, va1, vb1] from by kernel_rfl)))
          refine ps_s (o_qrMove 254 19) (w' := V69) (by rw [← eV69]; exact exec_store_cell 3 (.tmp 114) (.tmp 106) (by kernel_rfl) q 4 (by kernel_rfl) (.int .i64 f) (by kernel_rfl) (by kernel_rfl) (by kernel_rfl) (.int .i64 d.f) (rc (h64) (by kernel_rfl)) (frozen_of_row _ _ _ _ _ h64) (by kernel_rfl)) ?_
          clear eV69
          have h71 : Row V69 28 36 va1 (((d.a.take i).filter (geA l)).length) (((d.a.take i).filter (geA l)).flatMap Att.cl) := h65.keeps kV69 (fun j hj e => Row.ne h65 h64 (by decide) ((show j = q from e) ▸ hj))
          have h72 : Row V69 35 35 vb1 (((d.b.take k).filter (geB f)).length) (((d.b.take k).filter (geB f)).flatMap Pro.cl) := h66.keeps kV69 (fun j hj e => Row.ne h66 h64 (by decide) ((show j = q from e) ▸ hj))
          have K73 : Keeps ((One q)) w V69 := K67.then kV69 (fun i hi hm => by unfold Own.One at hm; subst hm; exact rfl)
          have z74 := kV69.size
          refine ps_end ?_
          refine sy_a ⟨#[pT q 0, .int .i64 l, .int .i64 f, undef, undef, undef, .int .i64 0, va1, iN i, vb1, iN k, .bool false, .int .i64 l, .bool false, .bool false, .int .i64 l, .bool false, .bool false, .bool false, .int .i64 f, .bool false, .bool false, .bool false, .int .i64 f, .bool false, .bool false, .bool false, .int .i64 l, pT q 0, pT q 0, pT q 3, .int .i64 d.l, .bool false, .bool false, .int .i64 f, pT q 0, pT q 0, pT q 4, .int .i64 d.f, .bool false, .bool false, iN i, pT q 0, pT q 0, pT q 5, va, iN d.a.length, .bool false, u48, u49, u50, u51, u52, u53, u54, u55, u56, u57, u58, u59, u60, u61, u62, u63, u64, u65, u66, u67, u68, u69, iN k, pT q 0, pT q 0, pT q 6, vb, iN d.b.length, .bool false, u77, u78, u79, u80, u81, u82, u83, u84, u85, u86, u87, u88, u89, u90, u91, u92, u93, u94, u95, u96, u97, u98, pT q 0, pT q 0, pT q 0, pT q 0, va1, vb1, .int .i64 l, .int .i64 f, pT q 0, pT q 5, pT q 0, pT q 6, pT q 0, pT q 3, pT q 0, pT q 4], []⟩ ?_
          refine then_n ?_
          refine sy_sq (part_qrMove 510) (part_qrMove 511) ?_
          refine sy_reg ?_
          refine rg_plain 18 (opsAt (part_qrMove 510)) [0] (by kernel_rfl) (by kernel_rfl) ?_
          refine ps_k (o_qrMove 510 0) (.int .i64 0) ?_
          refine ps_end ?_
          refine then_n ?_
          refine sy_ret (by kernel_rfl) ?_
          refine sy_out (.int .i64 0) rfl (by kernel_rfl) ?_
          exact ⟨rfl, ⟨⟨va1, vb1, h70, (by have hh := h71; rw [ei, List.take_of_length_le (Nat.le_refl _)] at hh; exact hh), (fun j hj => Nat.le_trans hbase (hnwa j hj)), (by have hh := h72; rw [ek, List.take_of_length_le (Nat.le_refl _)] at hh; exact hh), (fun j hj => Nat.le_trans hbase (hnwb j hj))⟩, (fun x hx => hoa x (List.mem_filter.1 hx).1), (fun x hx => hob x (List.mem_filter.1 hx).1)⟩, K73⟩
def qrMoveErr (d : DRec) (l f : Int) : Int := if l < 0 ∨ l > 4294967296 ∨ f < 1 ∨ f > 4294967296 then 3 else if l < d.l ∨ f < d.f then 9 else 0
theorem qrMove_ok (q base : Nat) (d : DRec) (l f : Int) (w : World) (H : RefAt w q base d) (hbase : base ≤ w.heap.size) (hma : d.a.length ≤ 300000) (hmb : d.b.length ≤ 300000) : Calls Try.prog 49 #[.pointer (some ⟨q, 0, none⟩), .int .i64 l, .int .i64 f] w fun e w' => e = .returned (.int .i64 (qrMoveErr d l f)) ∧ RefAt w' q base (if qrMoveErr d l f = 0 then { d with l := l, f := f, a := d.a.filter (geA l), b := d.b.filter (geB f) } else d) ∧ Keeps (One q) w w' := by
  have bad : ∀ (x : Int), qrMoveErr d l f = x → x ≠ 0 → Calls Try.prog 49 #[.pointer (some ⟨q, 0, none⟩), .int .i64 l, .int .i64 f] w (fun e w' => e = .returned (.int .i64 x) ∧ Keeps Nob w w') → Calls Try.prog 49 #[.pointer (some ⟨q, 0, none⟩), .int .i64 l, .int .i64 f] w (fun e w' => e = .returned (.int .i64 (qrMoveErr d l f)) ∧ RefAt w' q base (if qrMoveErr d l f = 0 then { d with l := l, f := f, a := d.a.filter (geA l), b := d.b.filter (geB f) } else d) ∧ Keeps (One q) w w') := fun x hx h0 hc =>
    hc.mono fun e w' ⟨he, k⟩ => ⟨hx ▸ he, by rw [if_neg (by rw [hx]; exact h0)]; exact H.keepsN k, k.mono (fun _ _ x => x.elim)⟩
  by_cases g0 : l < 0
  · exact bad 3 (by unfold qrMoveErr; rw [if_pos (by omega)]) (by decide) (qrMove_bad0 q base d l f w H g0)
  by_cases g1 : l > 4294967296
  · exact bad 3 (by unfold qrMoveErr; rw [if_pos (by omega)]) (by decide) (qrMove_bad1 q base d l f w H g0 g1)
  by_cases g2 : f < 1
  · exact bad 3 (by unfold qrMoveErr; rw [if_pos (by omega)]) (by decide) (qrMove_bad2 q base d l f w H g0 g1 g2)
  by_cases g3 : f > 4294967296
  · exact bad 3 (by unfold qrMoveErr; rw [if_pos (by omega)]) (by decide) (qrMove_bad3 q base d l f w H g0 g1 g2 g3)
  by_cases g4 : l < d.l
  · exact bad 9 (by unfold qrMoveErr; rw [if_neg (by omega), if_pos (by omega)]) (by decide) (qrMove_ord1 q base d l f w H g0 g1 g2 g3 g4)
  by_cases g5 : f < d.f
  · exact bad 9 (by unfold qrMoveErr; rw [if_neg (by omega), if_pos (by omega)]) (by decide) (qrMove_ord2 q base d l f w H g0 g1 g2 g3 g4 g5)
  have h0 : qrMoveErr d l f = 0 := by unfold qrMoveErr; rw [if_neg (by omega), if_neg (by omega)]
  rw [h0, if_pos rfl]
  exact qrMove_fine q base d l f w H g0 g1 g2 g3 g4 g5 hbase hma hmb
end Go.Proofs.Ytgipooedgbbliaa
