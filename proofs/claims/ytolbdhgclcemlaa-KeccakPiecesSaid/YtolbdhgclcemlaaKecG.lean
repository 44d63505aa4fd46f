/-
  Keccak: texts read, the laws' examples (printed by kec6.py). Conditions: none.
-/
import Derived.Test.YtolbdhgclcemlaaKecF
namespace Go.Proofs.Ytolbdhgclcemlaa
open Go Go.RowKit Go.Own Go.Shelf
/-- A digit's value; -1: it is none. -/
def dv (c : UInt8) : Int := match (List.range 16).find? (fun k => dig k == c) with | some k => (k : Int) | none => -1
theorem dv_some (c : UInt8) (k : Nat) (hk : k < 16) (h : dig k = c) (hno : ∀ j, j < k → dig j ≠ c) : dv c = ((k : Nat) : Int) := by
  unfold dv
  have : (List.range 16).find? (fun k => dig k == c) = some k := by
    rw [List.find?_range_eq_some]
    exact ⟨by simpa using h, by simpa using hk, fun j hj => by simpa using hno j hj⟩
  rw [this]
theorem dv_none (c : UInt8) (hno : ∀ j, j < 16 → dig j ≠ c) : dv c = -1 := by
  unfold dv
  have : (List.range 16).find? (fun k => dig k == c) = none := by
    rw [List.find?_eq_none]
    intro x hx
    simpa using hno x (by simpa using hx)
  rw [this]
theorem dv_ge (c : UInt8) : -1 ≤ dv c ∧ dv c < 16 := by
  by_cases h : ∃ k, k < 16 ∧ dig k = c
  · obtain ⟨k, hk, hd⟩ := h
    have key : ∀ n, n ≤ k → (∃ j, j ≤ k ∧ dig j = c ∧ ∀ i, i < j → dig i ≠ c) ∨ ∀ i, i < n → dig i ≠ c := by
      intro n
      induction n with
      | zero => intro _; exact .inr (fun i hi => absurd hi (Nat.not_lt_zero i))
      | succ n ih =>
        intro hn
        rcases ih (by omega) with h | h
        · exact .inl h
        · by_cases e : dig n = c
          · exact .inl ⟨n, by omega, e, h⟩
          · refine .inr (fun i hi => ?_)
            by_cases e2 : i = n
            · subst e2; exact e
            · exact h i (by omega)
    rcases key k (Nat.le_refl _) with ⟨j, hj, h1, h2⟩ | h2
    · rw [dv_some c j (by omega) h1 h2]; omega
    · rw [dv_some c k hk hd h2]; omega
  · rw [dv_none c (fun j hj e => h ⟨j, hj, e⟩)]; omega
theorem eqU8 (a b : UInt8) : (((a.toNat : Nat) : Int) == ((b.toNat : Nat) : Int)) = decide (a = b) := by
  by_cases h : a = b
  · subst h; simp
  · have : ¬ a.toNat = b.toNat := fun e => h (UInt8.toNat_inj.1 e)
    simp [h]; omega

noncomputable def part_kdigit (n : Nat) : Code := partOf Try.f39 n
noncomputable abbrev o_kdigit (n k : Nat) : Oper := (opsAt (part_kdigit n)).getD k default
set_option maxRecDepth 100000 in
set_option maxHeartbeats 4000000 in
theorem kdigit_ok (c : UInt8) (w : World) :
    Calls Try.prog 39 #[.int .u8 ((c.toNat : Nat) : Int)] w (fun e w' => e = .returned (.int .i64 (dv c)) ∧ w = w') := by
  have K0 : Keeps Nob w w := Keeps.refl _ _
  refine sy_enter (part_kdigit 1) ⟨#[cN c.toNat, undef, undef, undef, undef, undef, undef, undef, undef, undef, undef, undef, undef], []⟩ Try.func39 (by kernel_rfl) (by kernel_rfl) ?_
  refine sy_sq (part_kdigit 2) (part_kdigit 3) ?_
  refine sy_reg ?_
  refine rg_plain 0 (opsAt (part_kdigit 2)) [0] (by kernel_rfl) (by kernel_rfl) ?_
  refine ps_k (o_kdigit 2 0) (.int .i64 0) ?_
  refine ps_end ?_
  refine sy_a ⟨#[cN c.toNat, undef, .int .i64 0, undef, undef, undef, undef, undef, undef, undef, undef, undef, undef], []⟩ ?_
  refine then_n ?_
  refine sy_sq (part_kdigit 6) (part_kdigit 7) ?_
  refine sy_sq (part_kdigit 12) (part_kdigit 13) ?_
  refine sy_reg ?_
  refine rg_plain 1 (opsAt (part_kdigit 12)) [0] (by kernel_rfl) (by kernel_rfl) ?_
  refine ps_k (o_kdigit 12 0) (.int .i64 0) ?_
  refine ps_end ?_
  refine sy_a ⟨#[cN c.toNat, undef, .int .i64 0, undef, .int .i64 0, undef, undef, undef, undef, undef, undef, undef, undef], []⟩ ?_
  refine then_n ?_
  refine sy_bk 0 (part_kdigit 26) ?_
  refine sy_loop (part_kdigit 52) (fun a V => ∃ (k : Nat) (u2 u3 u5 u6 u7 u8 u9 u10 u11 u12 : Value), (a = ⟨#[cN c.toNat, undef, u2, u3, iN k, u5, u6, u7, u8, u9, u10, u11, u12], []⟩) ∧ (k ≤ 16) ∧ (∀ j, j < k → dig j ≠ c) ∧ (w = V)) (fun a _ => 16 - (intOf (a.tmps.getD 4 undef)).toNat) (by kernel_rfl) ?_ ?_
  · exact ⟨0, (.int .i64 0), undef, undef, undef, undef, undef, undef, undef, undef, undef, by kernel_rfl, by omega, fun j hj => absurd hj (Nat.not_lt_zero j), rfl⟩
  · rintro a V1 ⟨k, u2, u3, u5, u6, u7, u8, u9, u10, u11, u12, rfl, hk, hno, rfl⟩
    rcases (show (k < 16 ∧ dig k = c) ∨ (k < 16 ∧ dig k ≠ c) ∨ k = 16 by by_cases e : dig k = c <;> by_cases h : k < 16 <;> simp [e, h] <;> omega) with ⟨h16, heq⟩ | ⟨h16, hne⟩ | h16
    · show _
      refine sy_sq (part_kdigit 104) (part_kdigit 105) ?_
      refine sy_reg ?_
      refine rg_plain 2 (opsAt (part_kdigit 104)) [0] (by kernel_rfl) (by kernel_rfl) ?_
      refine ps_p (o_kdigit 104 0) (.bool true) (exec_cast (congrArg Value.bool (show (decide ((((k : Nat) : Int)) < ((16) : Int))) = true from by simp only [decide_eq_true_eq]; omega)) (by kernel_rfl)) ?_
      refine ps_end ?_
      refine sy_a ⟨#[cN c.toNat, undef, u2, u3, iN k, .bool true, u6, u7, u8, u9, u10, u11, u12], []⟩ ?_
      refine then_n ?_
      refine sy_sq (part_kdigit 210) (part_kdigit 211) ?_
      refine sy_ys (.tmp 5) (part_kdigit 420) (part_kdigit 421) ?_
      refine sy_sk ?_
      refine then_n ?_
      refine sy_sq (part_kdigit 422) (part_kdigit 423) ?_
      refine sy_bk 1 (part_kdigit 844) ?_
      refine sy_sq (part_kdigit 1688) (part_kdigit 1689) ?_
      refine sy_reg ?_
      refine rg_plain 3 (opsAt (part_kdigit 1688)) [0, 1] (by kernel_rfl) (by kernel_rfl) ?_
      refine ps_k (o_kdigit 1688 0) (iN k) ?_
      refine ps_k (o_kdigit 1688 1) (iN k) ?_
      refine ps_end ?_
      refine sy_a ⟨#[cN c.toNat, undef, u2, iN k, iN k, .bool true, iN k, u7, u8, u9, u10, u11, u12], []⟩ ?_
      refine then_n ?_
      refine sy_sq (part_kdigit 3378) (part_kdigit 3379) ?_
      refine sy_reg ?_
      refine rg_plain 4 (opsAt (part_kdigit 3378)) [0, 1, 2, 3] (by kernel_rfl) (by kernel_rfl) ?_
      refine ps_k (o_kdigit 3378 0) (iN k) ?_
      refine ps_p (o_kdigit 3378 1) (cN ((dig k).toNat)) (exec_index_str 9 (.const (.string ⟨digs.toArray⟩)) (.tmp 7) (by kernel_rfl) digs (by kernel_rfl) .i64 k (by kernel_rfl) Try.underlying9 _ (dig_at _ (by omega))) ?_
      refine ps_k (o_kdigit 3378 2) (cN c.toNat) ?_
      refine ps_p (o_kdigit 3378 3) (.bool true) (exec_cast (congrArg Value.bool (show ((((((dig k).toNat : Nat) : Int)) == (((c.toNat : Nat) : Int)))) = true from by rw [eqU8]; simpa using heq)) (by kernel_rfl)) ?_
      refine ps_end ?_
      refine sy_a ⟨#[cN c.toNat, undef, u2, iN k, iN k, .bool true, iN k, iN k, cN ((dig k).toNat), cN c.toNat, .bool true, u11, u12], []⟩ ?_
      refine then_n ?_
      refine sy_ys (.tmp 10) (part_kdigit 6758) (part_kdigit 6759) ?_
      refine sy_sq (part_kdigit 13516) (part_kdigit 13517) ?_
      refine sy_reg ?_
      refine rg_plain 5 (opsAt (part_kdigit 13516)) [0, 1] (by kernel_rfl) (by kernel_rfl) ?_
      refine ps_k (o_kdigit 13516 0) (iN k) ?_
      refine ps_k (o_kdigit 13516 1) (iN k) ?_
      refine ps_end ?_
      refine sy_a ⟨#[cN c.toNat, undef, iN k, iN k, iN k, .bool true, iN k, iN k, cN ((dig k).toNat), cN c.toNat, .bool true, iN k, u12], []⟩ ?_
      refine then_n ?_
      refine sy_ret (by kernel_rfl) ?_
      refine blk_r ?_
      refine then_r ?_
      refine then_r ?_
      refine blk_r ?_
      refine then_r ?_
      refine sy_out (.int .i64 ((k : Nat) : Int)) rfl (by kernel_rfl) ?_
      first | exact ⟨by rw [dv_some c k h16 heq hno], rfl⟩ | exact ⟨by rw [dv_none c (fun j hj => hno j (by omega))], rfl⟩
    · show _
      refine sy_sq (part_kdigit 104) (part_kdigit 105) ?_
      refine sy_reg ?_
      refine rg_plain 2 (opsAt (part_kdigit 104)) [0] (by kernel_rfl) (by kernel_rfl) ?_
      refine ps_p (o_kdigit 104 0) (.bool true) (exec_cast (congrArg Value.bool (show (decide ((((k : Nat) : Int)) < ((16) : Int))) = true from by simp only [decide_eq_true_eq]; omega)) (by kernel_rfl)) ?_
      refine ps_end ?_
      refine sy_a ⟨#[cN c.toNat, undef, u2, u3, iN k, .bool true, u6, u7, u8, u9, u10, u11, u12], []⟩ ?_
      refine then_n ?_
      refine sy_sq (part_kdigit 210) (part_kdigit 211) ?_
      refine sy_ys (.tmp 5) (part_kdigit 420) (part_kdigit 421) ?_
      refine sy_sk ?_
      refine then_n ?_
      refine sy_sq (part_kdigit 422) (part_kdigit 423) ?_
      refine sy_bk 1 (part_kdigit 844) ?_
      refine sy_sq (part_kdigit 1688) (part_kdigit 1689) ?_
      refine sy_reg ?_
      refine rg_plain 3 (opsAt (part_kdigit 1688)) [0, 1] (by kernel_rfl) (by kernel_rfl) ?_
      refine ps_k (o_kdigit 1688 0) (iN k) ?_
      refine ps_k (o_kdigit 1688 1) (iN k) ?_
      refine ps_end ?_
      refine sy_a ⟨#[cN c.toNat, undef, u2, iN k, iN k, .bool true, iN k, u7, u8, u9, u10, u11, u12], []⟩ ?_
      refine then_n ?_
      refine sy_sq (part_kdigit 3378) (part_kdigit 3379) ?_
      refine sy_reg ?_
      refine rg_plain 4 (opsAt (part_kdigit 3378)) [0, 1, 2, 3] (by kernel_rfl) (by kernel_rfl) ?_
      refine ps_k (o_kdigit 3378 0) (iN k) ?_
      refine ps_p (o_kdigit 3378 1) (cN ((dig k).toNat)) (exec_index_str 9 (.const (.string ⟨digs.toArray⟩)) (.tmp 7) (by kernel_rfl) digs (by kernel_rfl) .i64 k (by kernel_rfl) Try.underlying9 _ (dig_at _ (by omega))) ?_
      refine ps_k (o_kdigit 3378 2) (cN c.toNat) ?_
      refine ps_p (o_kdigit 3378 3) (.bool false) (exec_cast (congrArg Value.bool (show ((((((dig k).toNat : Nat) : Int)) == (((c.toNat : Nat) : Int)))) = false from by rw [eqU8]; simpa using hne)) (by kernel_rfl)) ?_
      refine ps_end ?_
      refine sy_a ⟨#[cN c.toNat, undef, u2, iN k, iN k, .bool true, iN k, iN k, cN ((dig k).toNat), cN c.toNat, .bool false, u11, u12], []⟩ ?_
      refine then_n ?_
      refine sy_n (.tmp 10) (part_kdigit 6758) (part_kdigit 6759) ?_
      refine sy_sk ?_
      refine blk_n ?_
      refine then_n ?_
      refine sy_reg ?_
      refine rg_plain 6 (opsAt (part_kdigit 423)) [0, 1] (by kernel_rfl) (by kernel_rfl) ?_
      refine ps_p (o_kdigit 423 0) (iN (k + 1)) (exec_cast (congrArg (Value.int .i64) (wrapN (k + 1) (by omega))) (by kernel_rfl)) ?_
      refine ps_k (o_kdigit 423 1) (iN (k + 1)) ?_
      refine ps_end ?_
      refine sy_a ⟨#[cN c.toNat, undef, u2, iN k, iN (k + 1), .bool true, iN k, iN k, cN ((dig k).toNat), cN c.toNat, .bool false, u11, iN (k + 1)], []⟩ ?_
      refine then_n ?_
      refine ⟨⟨k + 1, u2, (iN k), (.bool true), (iN k), (iN k), (cN ((dig k).toNat)), (cN c.toNat), (.bool false), u11, (iN (k + 1)), by kernel_rfl, by omega, fun j hj => if e : j = k then (by subst e; exact hne) else hno j (by omega), rfl⟩, ?_⟩
      exact lt_meas (x := 16 - (k + 1)) (y := 16 - k) (by kernel_rfl) (by kernel_rfl) (by omega)
    · show _
      refine sy_sq (part_kdigit 104) (part_kdigit 105) ?_
      refine sy_reg ?_
      refine rg_plain 2 (opsAt (part_kdigit 104)) [0] (by kernel_rfl) (by kernel_rfl) ?_
      refine ps_p (o_kdigit 104 0) (.bool false) (exec_cast (congrArg Value.bool (show (decide ((((k : Nat) : Int)) < ((16) : Int))) = false from by simp only [decide_eq_false_iff_not]; omega)) (by kernel_rfl)) ?_
      refine ps_end ?_
      refine sy_a ⟨#[cN c.toNat, undef, u2, u3, iN k, .bool false, u6, u7, u8, u9, u10, u11, u12], []⟩ ?_
      refine then_n ?_
      refine sy_sq (part_kdigit 210) (part_kdigit 211) ?_
      refine sy_n (.tmp 5) (part_kdigit 420) (part_kdigit 421) ?_
      refine sy_exit 0 (by kernel_rfl) ?_
      refine then_e ?_
      refine then_e ?_
      refine blk_e ?_
      refine then_n ?_
      refine sy_sq (part_kdigit 14) (part_kdigit 15) ?_
      refine sy_reg ?_
      refine rg_plain 7 (opsAt (part_kdigit 14)) [0] (by kernel_rfl) (by kernel_rfl) ?_
      refine ps_k (o_kdigit 14 0) (.int .i64 (-1)) ?_
      refine ps_end ?_
      refine sy_a ⟨#[cN c.toNat, undef, .int .i64 (-1), u3, iN k, .bool false, u6, u7, u8, u9, u10, u11, u12], []⟩ ?_
      refine then_n ?_
      refine sy_ret (by kernel_rfl) ?_
      refine sy_out (.int .i64 (-1)) rfl (by kernel_rfl) ?_
      first | exact ⟨by rw [dv_some c k h16 heq hno], rfl⟩ | exact ⟨by rw [dv_none c (fun j hj => hno j (by omega))], rfl⟩

/-- What a text is read as. -/
def hv (l : List UInt8) (i : Nat) : UInt8 := UInt8.ofNat (16 * (dv (l.getD (2 * i) 0)).toNat + (dv (l.getD (2 * i + 1) 0)).toNat)
def isHex (l : List UInt8) : Prop := l.length = 64 ∧ ∀ i, i < 32 → 0 ≤ dv (l.getD (2 * i) 0) ∧ 0 ≤ dv (l.getD (2 * i + 1) 0)
def zero32 : List UInt8 := List.replicate 32 0
/-- What Read tells: the bytes, the error. -/
def ReadsAs (l v : List UInt8) (e : Int) : Prop := (isHex l ∧ v = (List.range 32).map (hv l) ∧ e = 0) ∨ (¬ isHex l ∧ v = zero32 ∧ e = 5)
theorem zero32_len : zero32.length = 32 := by simp [zero32]

noncomputable def part_kRead (n : Nat) : Code := partOf Try.f22 n
noncomputable abbrev o_kRead (n k : Nat) : Oper := (opsAt (part_kRead n)).getD k default
set_option maxRecDepth 100000 in
set_option maxHeartbeats 4000000 in
theorem kRead_no (l : List UInt8) (w : World) (hl : l.length ≠ 64) :
    Calls Try.prog 22 #[.string ⟨l.toArray⟩] w (fun e w' => ∃ v er, e = .returned (.tuple #[.agg (B v).toArray, .int .i64 er]) ∧ ReadsAs l v er ∧ Keeps Nob w w') := by
  have hnx : ¬ isHex l := fun h => hl h.1
  have K0 : Keeps Nob w w := Keeps.refl _ _
  refine sy_enter (part_kRead 1) ⟨#[.string ⟨l.toArray⟩, undef, undef, undef, undef, undef, undef, undef, undef, undef, undef, undef, undef, undef, undef, undef, undef, undef, undef, undef, undef, undef, undef, undef, undef, undef, undef, undef, undef, undef, undef, undef, undef, undef, undef, undef, undef, undef, undef, undef, undef, undef], []⟩ Try.func22 (by kernel_rfl) (by kernel_rfl) ?_
  refine sy_sq (part_kRead 2) (part_kRead 3) ?_
  refine sy_reg ?_
  refine rg_plain 0 (opsAt (part_kRead 2)) [0, 1] (by kernel_rfl) (by kernel_rfl) ?_
  obtain ⟨V1, eV1⟩ : ∃ V, w.alloc (.cells (zr_u8_32) 29) = V := ⟨_, rfl⟩
  obtain ⟨gr, egr⟩ : ∃ g, w.heap.size = g := ⟨_, rfl⟩
  have n3 : w.heap.size ≤ gr := egr ▸ K0.size
  have h2 : V1.heap[gr]? = some (.cells (zr_u8_32) 29 (0, 0)) := by rw [← eV1, ← egr]; exact heap_alloc_new _ _
  have kV1 : Keeps Nob w V1 := eV1 ▸ (Keeps.refl _ _).alloc _
  refine ps_run (o_kRead 2 0) (pT gr 0) (w' := V1) (by kernel_rfl) (by kernel_rfl) (by rw [← eV1, ← egr]; exact exec_alloc0 29 (by kernel_rfl) (.agg (zr_u8_32)) (by kernel_rfl)) ?_
  clear eV1
  have K4 : Keeps Nob w V1 := K0.then kV1 (fun _ _ x => x.elim)
  refine ps_k (o_kRead 2 1) (.int .i64 0) ?_
  refine ps_end ?_
  refine sy_a ⟨#[.string ⟨l.toArray⟩, undef, pT gr 0, .int .i64 0, undef, undef, undef, undef, undef, undef, undef, undef, undef, undef, undef, undef, undef, undef, undef, undef, undef, undef, undef, undef, undef, undef, undef, undef, undef, undef, undef, undef, undef, undef, undef, undef, undef, undef, undef, undef, undef, undef], []⟩ ?_
  refine then_n ?_
  refine sy_sq (part_kRead 6) (part_kRead 7) ?_
  refine sy_reg ?_
  refine rg_plain 1 (opsAt (part_kRead 6)) [0] (by kernel_rfl) (by kernel_rfl) ?_
  obtain ⟨V5, eV5⟩ : ∃ V, V1.alloc (.cells (zr_u8_32) 29) = V := ⟨_, rfl⟩
  obtain ⟨gh, egh⟩ : ∃ g, V1.heap.size = g := ⟨_, rfl⟩
  have n7 : gr < gh := egh ▸ lt_of_block h2
  have n8 : w.heap.size ≤ gh := egh ▸ K4.size
  have h6 : V5.heap[gh]? = some (.cells (zr_u8_32) 29 (0, 0)) := by rw [← eV5, ← egh]; exact heap_alloc_new _ _
  have kV5 : Keeps Nob V1 V5 := eV5 ▸ (Keeps.refl _ _).alloc _
  refine ps_run (o_kRead 6 0) (pT gh 0) (w' := V5) (by kernel_rfl) (by kernel_rfl) (by rw [← eV5, ← egh]; exact exec_alloc0 29 (by kernel_rfl) (.agg (zr_u8_32)) (by kernel_rfl)) ?_
  clear eV5
  have h9 : V5.heap[gr]? = some (.cells (zr_u8_32) 29 (0, 0)) := (kV5.block gr (lt_of_block h2) (fun x => x)).trans h2
  have K10 : Keeps Nob w V5 := K4.then kV5 (fun _ _ x => x.elim)
  refine ps_end ?_
  refine sy_a ⟨#[.string ⟨l.toArray⟩, undef, pT gr 0, .int .i64 0, pT gh 0, undef, undef, undef, undef, undef, undef, undef, undef, undef, undef, undef, undef, undef, undef, undef, undef, undef, undef, undef, undef, undef, undef, undef, undef, undef, undef, undef, undef, undef, undef, undef, undef, undef, undef, undef, undef, undef], []⟩ ?_
  refine then_n ?_
  refine sy_sq (part_kRead 14) (part_kRead 15) ?_
  refine sy_sq (part_kRead 28) (part_kRead 29) ?_
  refine sy_reg ?_
  refine rg_plain 2 (opsAt (part_kRead 28)) [0, 1, 2] (by kernel_rfl) (by kernel_rfl) ?_
  refine ps_k (o_kRead 28 0) (.string ⟨l.toArray⟩) ?_
  refine ps_p (o_kRead 28 1) (iN l.length) (exec_cast (congrArg (Value.int .i64) (by simp [ByteArray.size])) (exec_len_str (.tmp 8) 9 (by kernel_rfl) Try.underlying9 ⟨l.toArray⟩ (by kernel_rfl))) ?_
  refine ps_p (o_kRead 28 2) (.bool true) (exec_cast (congrArg Value.bool (show (((((l.length : Nat) : Int)) != ((64) : Int))) = true from by simp only [bne_iff_ne, ne_eq]; omega)) (by kernel_rfl)) ?_
  refine ps_end ?_
  refine sy_a ⟨#[.string ⟨l.toArray⟩, undef, pT gr 0, .int .i64 0, pT gh 0, undef, undef, undef, .string ⟨l.toArray⟩, iN l.length, .bool true, undef, undef, undef, undef, undef, undef, undef, undef, undef, undef, undef, undef, undef, undef, undef, undef, undef, undef, undef, undef, undef, undef, undef, undef, undef, undef, undef, undef, undef, undef, undef], []⟩ ?_
  refine then_n ?_
  refine sy_ys (.tmp 10) (part_kRead 58) (part_kRead 59) ?_
  refine sy_sq (part_kRead 116) (part_kRead 117) ?_
  refine sy_reg ?_
  refine rg_plain 3 (opsAt (part_kRead 116)) [0, 1, 2] (by kernel_rfl) (by kernel_rfl) ?_
  refine ps_p (o_kRead 116 0) (.agg zr_u8_32) (exec_load_row 29 (.tmp 4) (by kernel_rfl) gh (by kernel_rfl) _ _ (0, 0) _ (h6) Try.underlying29 rfl (by kernel_rfl)) ?_
  obtain ⟨V11, eV11⟩ : ∃ V, V5.setRow gr (zr_u8_32) = V := ⟨_, rfl⟩
  have kV11 : Keeps (One gr) V5 V11 := eV11 ▸ (Keeps.refl (One gr) _).setRow (fun _ => (rfl : Own.One gr gr)) _
  have h12 : V11.heap[gr]? = some (.cells (zr_u8_32) 29 (0, 0)) := eV11 ▸ setRow_heap _ _ _ _ _ _ h9
  refine ps_skip (o_kRead 116 1) (w' := V11) (by kernel_rfl) (by kernel_rfl) (by rw [← eV11]; exact exec_store_row 29 (.tmp 2) (.tmp 11) (by kernel_rfl) gr (zr_u8_32) (by kernel_rfl) (by kernel_rfl) 29 (zr_u8_32) h9 (by kernel_rfl) (by kernel_rfl) (by kernel_rfl)) ?_
  clear eV11
  have h13 : V11.heap[gh]? = some (.cells (zr_u8_32) 29 (0, 0)) := (kV11.block gh (lt_of_block h6) (fun e => by unfold Own.One at e; omega)).trans h6
  have K14 : Keeps Nob w V11 := K10.then kV11 (fun i hi hm => absurd hi (by unfold Own.One at hm; omega))
  refine ps_k (o_kRead 116 2) (.int .i64 5) ?_
  refine ps_end ?_
  refine sy_a ⟨#[.string ⟨l.toArray⟩, undef, pT gr 0, .int .i64 5, pT gh 0, undef, undef, undef, .string ⟨l.toArray⟩, iN l.length, .bool true, .agg zr_u8_32, undef, undef, undef, undef, undef, undef, undef, undef, undef, undef, undef, undef, undef, undef, undef, undef, undef, undef, undef, undef, undef, undef, undef, undef, undef, undef, undef, undef, undef, undef], []⟩ ?_
  refine then_n ?_
  refine sy_ret (by kernel_rfl) ?_
  refine then_r ?_
  refine sy_out (.tuple #[.agg (zr_u8_32), .int .i64 5]) rfl (results_row_tmp (p := 2) (q := 3) (ty := 29) (by kernel_rfl) _ _ gr 29 (zr_u8_32) (0, 0) _ (.int .i64 5) (by kernel_rfl) h12 Try.underlying29 rfl (by kernel_rfl) (by kernel_rfl)) ?_
  exact ⟨zero32, 5, congrArg Ending.returned (by kernel_rfl), .inr ⟨hnx, rfl, rfl⟩, K14⟩
set_option maxRecDepth 100000 in
set_option maxHeartbeats 4000000 in
theorem kRead_yes (l : List UInt8) (w : World) (hl : l.length = 64) :
    Calls Try.prog 22 #[.string ⟨l.toArray⟩] w (fun e w' => ∃ v er, e = .returned (.tuple #[.agg (B v).toArray, .int .i64 er]) ∧ ReadsAs l v er ∧ Keeps Nob w w') := by
  have K0 : Keeps Nob w w := Keeps.refl _ _
  refine sy_enter (part_kRead 1) ⟨#[.string ⟨l.toArray⟩, undef, undef, undef, undef, undef, undef, undef, undef, undef, undef, undef, undef, undef, undef, undef, undef, undef, undef, undef, undef, undef, undef, undef, undef, undef, undef, undef, undef, undef, undef, undef, undef, undef, undef, undef, undef, undef, undef, undef, undef, undef], []⟩ Try.func22 (by kernel_rfl) (by kernel_rfl) ?_
  refine sy_sq (part_kRead 2) (part_kRead 3) ?_
  refine sy_reg ?_
  refine rg_plain 0 (opsAt (part_kRead 2)) [0, 1] (by kernel_rfl) (by kernel_rfl) ?_
  obtain ⟨V1, eV1⟩ : ∃ V, w.alloc (.cells (zr_u8_32) 29) = V := ⟨_, rfl⟩
  obtain ⟨gr, egr⟩ : ∃ g, w.heap.size = g := ⟨_, rfl⟩
  have n3 : w.heap.size ≤ gr := egr ▸ K0.size
  have h2 : V1.heap[gr]? = some (.cells (zr_u8_32) 29 (0, 0)) := by rw [← eV1, ← egr]; exact heap_alloc_new _ _
  have kV1 : Keeps Nob w V1 := eV1 ▸ (Keeps.refl _ _).alloc _
  refine ps_run (o_kRead 2 0) (pT gr 0) (w' := V1) (by kernel_rfl) (by kernel_rfl) (by rw [← eV1, ← egr]; exact exec_alloc0 29 (by kernel_rfl) (.agg (zr_u8_32)) (by kernel_rfl)) ?_
  clear eV1
  have K4 : Keeps Nob w V1 := K0.then kV1 (fun _ _ x => x.elim)
  refine ps_k (o_kRead 2 1) (.int .i64 0) ?_
  refine ps_end ?_
  refine sy_a ⟨#[.string ⟨l.toArray⟩, undef, pT gr 0, .int .i64 0, undef, undef, undef, undef, undef, undef, undef, undef, undef, undef, undef, undef, undef, undef, undef, undef, undef, undef, undef, undef, undef, undef, undef, undef, undef, undef, undef, undef, undef, undef, undef, undef, undef, undef, undef, undef, undef, undef], []⟩ ?_
  refine then_n ?_
  refine sy_sq (part_kRead 6) (part_kRead 7) ?_
  refine sy_reg ?_
  refine rg_plain 1 (opsAt (part_kRead 6)) [0] (by kernel_rfl) (by kernel_rfl) ?_
  obtain ⟨V5, eV5⟩ : ∃ V, V1.alloc (.cells (zr_u8_32) 29) = V := ⟨_, rfl⟩
  obtain ⟨gh, egh⟩ : ∃ g, V1.heap.size = g := ⟨_, rfl⟩
  have n7 : gr < gh := egh ▸ lt_of_block h2
  have n8 : w.heap.size ≤ gh := egh ▸ K4.size
  have h6 : V5.heap[gh]? = some (.cells (zr_u8_32) 29 (0, 0)) := by rw [← eV5, ← egh]; exact heap_alloc_new _ _
  have kV5 : Keeps Nob V1 V5 := eV5 ▸ (Keeps.refl _ _).alloc _
  refine ps_run (o_kRead 6 0) (pT gh 0) (w' := V5) (by kernel_rfl) (by kernel_rfl) (by rw [← eV5, ← egh]; exact exec_alloc0 29 (by kernel_rfl) (.agg (zr_u8_32)) (by kernel_rfl)) ?_
  clear eV5
  have h9 : V5.heap[gr]? = some (.cells (zr_u8_32) 29 (0, 0)) := (kV5.block gr (lt_of_block h2) (fun x => x)).trans h2
  have K10 : Keeps Nob w V5 := K4.then kV5 (fun _ _ x => x.elim)
  refine ps_end ?_
  refine sy_a ⟨#[.string ⟨l.toArray⟩, undef, pT gr 0, .int .i64 0, pT gh 0, undef, undef, undef, undef, undef, undef, undef, undef, undef, undef, undef, undef, undef, undef, undef, undef, undef, undef, undef, undef, undef, undef, undef, undef, undef, undef, undef, undef, undef, undef, undef, undef, undef, undef, undef, undef, undef], []⟩ ?_
  refine then_n ?_
  refine sy_sq (part_kRead 14) (part_kRead 15) ?_
  refine sy_sq (part_kRead 28) (part_kRead 29) ?_
  refine sy_reg ?_
  refine rg_plain 2 (opsAt (part_kRead 28)) [0, 1, 2] (by kernel_rfl) (by kernel_rfl) ?_
  refine ps_k (o_kRead 28 0) (.string ⟨l.toArray⟩) ?_
  refine ps_p (o_kRead 28 1) (iN l.length) (exec_cast (congrArg (Value.int .i64) (by simp [ByteArray.size])) (exec_len_str (.tmp 8) 9 (by kernel_rfl) Try.underlying9 ⟨l.toArray⟩ (by kernel_rfl))) ?_
  refine ps_p (o_kRead 28 2) (.bool false) (exec_cast (congrArg Value.bool (show (((((l.length : Nat) : Int)) != ((64) : Int))) = false from by simp only [bne_eq_false_iff_eq]; omega)) (by kernel_rfl)) ?_
  refine ps_end ?_
  refine sy_a ⟨#[.string ⟨l.toArray⟩, undef, pT gr 0, .int .i64 0, pT gh 0, undef, undef, undef, .string ⟨l.toArray⟩, iN l.length, .bool false, undef, undef, undef, undef, undef, undef, undef, undef, undef, undef, undef, undef, undef, undef, undef, undef, undef, undef, undef, undef, undef, undef, undef, undef, undef, undef, undef, undef, undef, undef, undef], []⟩ ?_
  refine then_n ?_
  refine sy_n (.tmp 10) (part_kRead 58) (part_kRead 59) ?_
  refine sy_sk ?_
  refine then_n ?_
  refine sy_sq (part_kRead 30) (part_kRead 31) ?_
  refine sy_sq (part_kRead 60) (part_kRead 61) ?_
  refine sy_reg ?_
  refine rg_plain 4 (opsAt (part_kRead 60)) [0] (by kernel_rfl) (by kernel_rfl) ?_
  refine ps_k (o_kRead 60 0) (.int .i64 0) ?_
  refine ps_end ?_
  refine sy_a ⟨#[.string ⟨l.toArray⟩, undef, pT gr 0, .int .i64 0, pT gh 0, undef, undef, undef, .string ⟨l.toArray⟩, iN l.length, .bool false, undef, .int .i64 0, undef, undef, undef, undef, undef, undef, undef, undef, undef, undef, undef, undef, undef, undef, undef, undef, undef, undef, undef, undef, undef, undef, undef, undef, undef, undef, undef, undef, undef], []⟩ ?_
  refine then_n ?_
  refine sy_bk 0 (part_kRead 122) ?_
  refine sy_loop (part_kRead 244) (fun a V => ∃ (k : Nat) (u3 u5 u6 u7 u13 u14 u15 u16 u17 u18 u19 u20 u21 u22 u23 u24 u25 u26 u27 u28 u29 u30 u31 u32 u33 u34 u35 u36 u37 u38 u39 u40 : Value), (a = ⟨#[.string ⟨l.toArray⟩, undef, pT gr 0, u3, pT gh 0, u5, u6, u7, .string ⟨l.toArray⟩, iN l.length, .bool false, undef, iN k, u13, u14, u15, u16, u17, u18, u19, u20, u21, u22, u23, u24, u25, u26, u27, u28, u29, u30, u31, u32, u33, u34, u35, u36, u37, u38, u39, u40, undef], []⟩) ∧ (k ≤ 32) ∧ (∀ j, j < k → 0 ≤ dv (l.getD (2 * j) 0) ∧ 0 ≤ dv (l.getD (2 * j + 1) 0)) ∧ (V.heap[gr]? = some (.cells (zr_u8_32) 29 (0, 0))) ∧ (V.heap[gh]? = some (.cells ((B (stpB (hv l) k zero32)).toArray) 29 (0, 0))) ∧ (Keeps Nob w V)) (fun a _ => 32 - (intOf (a.tmps.getD 12 undef)).toNat) (by kernel_rfl) ?_ ?_
  · exact ⟨0, (.int .i64 0), undef, undef, undef, undef, undef, undef, undef, undef, undef, undef, undef, undef, undef, undef, undef, undef, undef, undef, undef, undef, undef, undef, undef, undef, undef, undef, undef, undef, undef, undef, undef, by kernel_rfl, by omega, fun j hj => absurd hj (Nat.not_lt_zero j), h9, h6.trans (by kernel_rfl), K10⟩
  · rintro a V11 ⟨k, u3, u5, u6, u7, u13, u14, u15, u16, u17, u18, u19, u20, u21, u22, u23, u24, u25, u26, u27, u28, u29, u30, u31, u32, u33, u34, u35, u36, u37, u38, u39, u40, rfl, hk, hok, h12, h13, K14⟩
    rcases (show (k < 32 ∧ dv (l.getD (2 * k) 0) < 0) ∨ (k < 32 ∧ 0 ≤ dv (l.getD (2 * k) 0) ∧ dv (l.getD (2 * k + 1) 0) < 0) ∨ (k < 32 ∧ 0 ≤ dv (l.getD (2 * k) 0) ∧ 0 ≤ dv (l.getD (2 * k + 1) 0)) ∨ k = 32 by omega) with ⟨h32, hA⟩ | ⟨h32, hA, hB⟩ | ⟨h32, hA, hB⟩ | h32
    · have hnx : ¬ isHex l := fun h => by have := (h.2 k h32).1; omega
      refine sy_sq (part_kRead 488) (part_kRead 489) ?_
      refine sy_reg ?_
      refine rg_plain 5 (opsAt (part_kRead 488)) [0] (by kernel_rfl) (by kernel_rfl) ?_
      refine ps_p (o_kRead 488 0) (.bool true) (exec_cast (congrArg Value.bool (show (decide ((((k : Nat) : Int)) < ((32) : Int))) = true from by simp only [decide_eq_true_eq]; omega)) (by kernel_rfl)) ?_
      refine ps_end ?_
      refine sy_a ⟨#[.string ⟨l.toArray⟩, undef, pT gr 0, u3, pT gh 0, u5, u6, u7, .string ⟨l.toArray⟩, iN l.length, .bool false, undef, iN k, .bool true, u14, u15, u16, u17, u18, u19, u20, u21, u22, u23, u24, u25, u26, u27, u28, u29, u30, u31, u32, u33, u34, u35, u36, u37, u38, u39, u40, undef], []⟩ ?_
      refine then_n ?_
      refine sy_sq (part_kRead 978) (part_kRead 979) ?_
      refine sy_ys (.tmp 13) (part_kRead 1956) (part_kRead 1957) ?_
      refine sy_sk ?_
      refine then_n ?_
      refine sy_sq (part_kRead 1958) (part_kRead 1959) ?_
      refine sy_bk 1 (part_kRead 3916) ?_
      refine sy_sq (part_kRead 7832) (part_kRead 7833) ?_
      refine sy_reg ?_
      refine rg_plain 6 (opsAt (part_kRead 7832)) [0, 1] (by kernel_rfl) (by kernel_rfl) ?_
      refine ps_k (o_kRead 7832 0) (iN k) ?_
      refine ps_k (o_kRead 7832 1) (iN k) ?_
      refine ps_end ?_
      refine sy_a ⟨#[.string ⟨l.toArray⟩, undef, pT gr 0, u3, pT gh 0, iN k, u6, u7, .string ⟨l.toArray⟩, iN l.length, .bool false, undef, iN k, .bool true, iN k, u15, u16, u17, u18, u19, u20, u21, u22, u23, u24, u25, u26, u27, u28, u29, u30, u31, u32, u33, u34, u35, u36, u37, u38, u39, u40, undef], []⟩ ?_
      refine then_n ?_
      refine sy_sq (part_kRead 15666) (part_kRead 15667) ?_
      refine sy_np ?_
      refine sy_reg ?_
      refine an_begin 7 13 (opsAt (part_kRead 15666)) (fun W => True) #[false, false, false, false, false, false, false, false, false, false, false, false, false] (by kernel_rfl) (by kernel_rfl) (by kernel_rfl) (by kernel_rfl) ?_
      obtain ⟨V15, eV15⟩ : ∃ V, V11.drew = V := ⟨_, rfl⟩
      have kV15 : Keeps Nob V11 V15 := eV15 ▸ (Keeps.refl _ _).drew
      rw [eV15]
      clear eV15
      have h16 : V15.heap[gr]? = some (.cells (zr_u8_32) 29 (0, 0)) := (kV15.block gr (lt_of_block h12) (fun x => x)).trans h12
      have h17 : V15.heap[gh]? = some (.cells ((B (stpB (hv l) k zero32)).toArray) 29 (0, 0)) := (kV15.block gh (lt_of_block h13) (fun x => x)).trans h13
      have K18 : Keeps Nob w V15 := K14.then kV15 (fun _ _ x => x.elim)
      refine an_val 0 (o_kRead 15666 0) (.string ⟨l.toArray⟩) (by kernel_rfl) (by kernel_rfl) (by kernel_rfl) (by kernel_rfl) (by kernel_rfl) (fun W hS => by kernel_rfl) trivial ?_
      refine an_val 1 (o_kRead 15666 1) (iN k) (by kernel_rfl) (by kernel_rfl) (by kernel_rfl) (by kernel_rfl) (by kernel_rfl) (fun W hS => by kernel_rfl) trivial ?_
      refine an_val 2 (o_kRead 15666 2) (iN (2 * k)) (by kernel_rfl) (by kernel_rfl) (by kernel_rfl) (by kernel_rfl) (by kernel_rfl) (fun W hS => exec_cast (congrArg (Value.int .i64) (wrapN (2 * k) (by omega))) (by kernel_rfl)) trivial ?_
      refine an_val 3 (o_kRead 15666 3) (cN ((l.getD (2 * k) 0).toNat)) (by kernel_rfl) (by kernel_rfl) (by kernel_rfl) (by kernel_rfl) (by kernel_rfl) (fun W hS => exec_index_str 9 (.tmp 15) (.tmp 17) (by kernel_rfl) l (by kernel_rfl) .i64 (2 * k) (by kernel_rfl) Try.underlying9 _ (getD_some l _ (by omega))) trivial ?_
      refine an_val 5 (o_kRead 15666 5) (.string ⟨l.toArray⟩) (by kernel_rfl) (by kernel_rfl) (by kernel_rfl) (by kernel_rfl) (by kernel_rfl) (fun W hS => by kernel_rfl) trivial ?_
      refine an_val 6 (o_kRead 15666 6) (iN k) (by kernel_rfl) (by kernel_rfl) (by kernel_rfl) (by kernel_rfl) (by kernel_rfl) (fun W hS => by kernel_rfl) trivial ?_
      refine an_val 7 (o_kRead 15666 7) (iN (2 * k)) (by kernel_rfl) (by kernel_rfl) (by kernel_rfl) (by kernel_rfl) (by kernel_rfl) (fun W hS => exec_cast (congrArg (Value.int .i64) (wrapN (2 * k) (by omega))) (by kernel_rfl)) trivial ?_
      refine an_val 8 (o_kRead 15666 8) (iN ((2 * k) + 1)) (by kernel_rfl) (by kernel_rfl) (by kernel_rfl) (by kernel_rfl) (by kernel_rfl) (fun W hS => exec_cast (congrArg (Value.int .i64) (wrapN ((2 * k) + 1) (by omega))) (by kernel_rfl)) trivial ?_
      refine an_val 9 (o_kRead 15666 9) (cN ((l.getD (2 * k + 1) 0).toNat)) (by kernel_rfl) (by kernel_rfl) (by kernel_rfl) (by kernel_rfl) (by kernel_rfl) (fun W hS => exec_index_str 9 (.tmp 20) (.tmp 23) (by kernel_rfl) l (by kernel_rfl) .i64 (2 * k + 1) (by kernel_rfl) Try.underlying9 _ (getD_some l _ (by omega))) trivial ?_
      refine an_one 4 (by kernel_rfl) ?_
      refine on_call (o_kRead 15666 4) 39 #[cN ((l.getD (2 * k) 0).toNat)] (by kernel_rfl) (by kernel_rfl) (by kernel_rfl) (by kernel_rfl) (enters_of Try.func39 (by kernel_rfl) rfl) ((kdigit_ok (l.getD (2 * k) 0) _).mono ?_)
      rintro e w1 ⟨rfl, rfl⟩
      refine ⟨_, rfl, ?_⟩
      refine ⟨trivial, ?_⟩
      refine an_one 10 (by kernel_rfl) ?_
      refine on_call (o_kRead 15666 10) 39 #[cN ((l.getD (2 * k + 1) 0).toNat)] (by kernel_rfl) (by kernel_rfl) (by kernel_rfl) (by kernel_rfl) (enters_of Try.func39 (by kernel_rfl) rfl) ((kdigit_ok (l.getD (2 * k + 1) 0) _).mono ?_)
      rintro e w1 ⟨rfl, rfl⟩
      refine ⟨_, rfl, ?_⟩
      refine ⟨trivial, ?_⟩
      refine an_one 11 (by kernel_rfl) ?_
      refine on_run (o_kRead 15666 11) (.int .i64 (dv (l.getD (2 * k) 0))) (w' := V15) (by kernel_rfl) (by kernel_rfl) (by kernel_rfl) ?_
      refine ⟨trivial, ?_⟩
      refine an_one 12 (by kernel_rfl) ?_
      refine on_run (o_kRead 15666 12) (.int .i64 (dv (l.getD (2 * k + 1) 0))) (w' := V15) (by kernel_rfl) (by kernel_rfl) (by kernel_rfl) ?_
      refine ⟨trivial, ?_⟩
      refine an_end (by kernel_rfl) ?_
      refine sy_a ⟨#[.string ⟨l.toArray⟩, undef, pT gr 0, u3, pT gh 0, iN k, .int .i64 (dv (l.getD (2 * k) 0)), .int .i64 (dv (l.getD (2 * k + 1) 0)), .string ⟨l.toArray⟩, iN l.length, .bool false, undef, iN k, .bool true, iN k, .string ⟨l.toArray⟩, iN k, iN (2 * k), cN ((l.getD (2 * k) 0).toNat), .int .i64 (dv (l.getD (2 * k) 0)), .string ⟨l.toArray⟩, iN k, iN (2 * k), iN ((2 * k) + 1), cN ((l.getD (2 * k + 1) 0).toNat), .int .i64 (dv (l.getD (2 * k + 1) 0)), u26, u27, u28, u29, u30, u31, u32, u33, u34, u35, u36, u37, u38, u39, u40, undef], []⟩ ?_
      refine then_n ?_
      refine sy_sq (part_kRead 31334) (part_kRead 31335) ?_
      refine sy_sq (part_kRead 62668) (part_kRead 62669) ?_
      refine sy_reg ?_
      refine rg_plain 8 (opsAt (part_kRead 62668)) [0, 1, 2, 3, 4, 5] (by kernel_rfl) (by kernel_rfl) ?_
      refine ps_k (o_kRead 62668 0) (.int .i64 (dv (l.getD (2 * k) 0))) ?_
      refine ps_p (o_kRead 62668 1) (.bool true) (exec_cast (congrArg Value.bool (show (decide (((dv (l.getD (2 * k) 0)) : Int) < ((0) : Int))) = true from by simp only [decide_eq_true_eq]; omega)) (by kernel_rfl)) ?_
      refine ps_k (o_kRead 62668 2) (.bool true) ?_
      refine ps_no (o_kRead 62668 3) (by kernel_rfl) (by kernel_rfl) ?_
      refine ps_no (o_kRead 62668 4) (by kernel_rfl) (by kernel_rfl) ?_
      refine ps_k (o_kRead 62668 5) (.bool true) ?_
      refine ps_end ?_
      refine sy_a ⟨#[.string ⟨l.toArray⟩, undef, pT gr 0, u3, pT gh 0, iN k, .int .i64 (dv (l.getD (2 * k) 0)), .int .i64 (dv (l.getD (2 * k + 1) 0)), .string ⟨l.toArray⟩, iN l.length, .bool false, undef, iN k, .bool true, iN k, .string ⟨l.toArray⟩, iN k, iN (2 * k), cN ((l.getD (2 * k) 0).toNat), .int .i64 (dv (l.getD (2 * k) 0)), .string ⟨l.toArray⟩, iN k, iN (2 * k), iN ((2 * k) + 1), cN ((l.getD (2 * k + 1) 0).toNat), .int .i64 (dv (l.getD (2 * k + 1) 0)), .int .i64 (dv (l.getD (2 * k) 0)), .bool true, .bool true, undef, undef, .bool true, u32, u33, u34, u35, u36, u37, u38, u39, u40, undef], []⟩ ?_
      refine then_n ?_
      refine sy_ys (.tmp 31) (part_kRead 125338) (part_kRead 125339) ?_
      refine sy_sq (part_kRead 250676) (part_kRead 250677) ?_
      refine sy_reg ?_
      refine rg_plain 9 (opsAt (part_kRead 250676)) [0, 1, 2] (by kernel_rfl) (by kernel_rfl) ?_
      refine ps_k (o_kRead 250676 0) (.agg zr_u8_32) ?_
      obtain ⟨V19, eV19⟩ : ∃ V, V15.setRow gr (zr_u8_32) = V := ⟨_, rfl⟩
      have kV19 : Keeps (One gr) V15 V19 := eV19 ▸ (Keeps.refl (One gr) _).setRow (fun _ => (rfl : Own.One gr gr)) _
      have h20 : V19.heap[gr]? = some (.cells (zr_u8_32) 29 (0, 0)) := eV19 ▸ setRow_heap _ _ _ _ _ _ h16
      refine ps_skip (o_kRead 250676 1) (w' := V19) (by kernel_rfl) (by kernel_rfl) (by rw [← eV19]; exact exec_store_row 29 (.tmp 2) (.tmp 32) (by kernel_rfl) gr (zr_u8_32) (by kernel_rfl) (by kernel_rfl) 29 (zr_u8_32) h16 (by kernel_rfl) (by kernel_rfl) (by kernel_rfl)) ?_
      clear eV19
      have h21 : V19.heap[gh]? = some (.cells ((B (stpB (hv l) k zero32)).toArray) 29 (0, 0)) := (kV19.block gh (lt_of_block h17) (fun e => by unfold Own.One at e; omega)).trans h17
      have K22 : Keeps Nob w V19 := K18.then kV19 (fun i hi hm => absurd hi (by unfold Own.One at hm; omega))
      refine ps_k (o_kRead 250676 2) (.int .i64 5) ?_
      refine ps_end ?_
      refine sy_a ⟨#[.string ⟨l.toArray⟩, undef, pT gr 0, .int .i64 5, pT gh 0, iN k, .int .i64 (dv (l.getD (2 * k) 0)), .int .i64 (dv (l.getD (2 * k + 1) 0)), .string ⟨l.toArray⟩, iN l.length, .bool false, undef, iN k, .bool true, iN k, .string ⟨l.toArray⟩, iN k, iN (2 * k), cN ((l.getD (2 * k) 0).toNat), .int .i64 (dv (l.getD (2 * k) 0)), .string ⟨l.toArray⟩, iN k, iN (2 * k), iN ((2 * k) + 1), cN ((l.getD (2 * k + 1) 0).toNat), .int .i64 (dv (l.getD (2 * k + 1) 0)), .int .i64 (dv (l.getD (2 * k) 0)), .bool true, .bool true, undef, undef, .bool true, .agg zr_u8_32, u33, u34, u35, u36, u37, u38, u39, u40, undef], []⟩ ?_
      refine then_n ?_
      refine sy_ret (by kernel_rfl) ?_
      refine then_r ?_
      refine blk_r ?_
      refine then_r ?_
      refine then_r ?_
      refine blk_r ?_
      refine then_r ?_
      refine sy_out (.tuple #[.agg (zr_u8_32), .int .i64 5]) rfl (results_row_tmp (p := 2) (q := 3) (ty := 29) (by kernel_rfl) _ _ gr 29 (zr_u8_32) (0, 0) _ (.int .i64 5) (by kernel_rfl) h20 Try.underlying29 rfl (by kernel_rfl) (by kernel_rfl)) ?_
      exact ⟨zero32, 5, congrArg Ending.returned (by kernel_rfl), .inr ⟨hnx, rfl, rfl⟩, K22⟩
    · have hnx : ¬ isHex l := fun h => by have := (h.2 k h32).2; omega
      refine sy_sq (part_kRead 488) (part_kRead 489) ?_
      refine sy_reg ?_
      refine rg_plain 5 (opsAt (part_kRead 488)) [0] (by kernel_rfl) (by kernel_rfl) ?_
      refine ps_p (o_kRead 488 0) (.bool true) (exec_cast (congrArg Value.bool (show (decide ((((k : Nat) : Int)) < ((32) : Int))) = true from by simp only [decide_eq_true_eq]; omega)) (by kernel_rfl)) ?_
      refine ps_end ?_
      refine sy_a ⟨#[.string ⟨l.toArray⟩, undef, pT gr 0, u3, pT gh 0, u5, u6, u7, .string ⟨l.toArray⟩, iN l.length, .bool false, undef, iN k, .bool true, u14, u15, u16, u17, u18, u19, u20, u21, u22, u23, u24, u25, u26, u27, u28, u29, u30, u31, u32, u33, u34, u35, u36, u37, u38, u39, u40, undef], []⟩ ?_
      refine then_n ?_
      refine sy_sq (part_kRead 978) (part_kRead 979) ?_
      refine sy_ys (.tmp 13) (part_kRead 1956) (part_kRead 1957) ?_
      refine sy_sk ?_
      refine then_n ?_
      refine sy_sq (part_kRead 1958) (part_kRead 1959) ?_
      refine sy_bk 1 (part_kRead 3916) ?_
      refine sy_sq (part_kRead 7832) (part_kRead 7833) ?_
      refine sy_reg ?_
      refine rg_plain 6 (opsAt (part_kRead 7832)) [0, 1] (by kernel_rfl) (by kernel_rfl) ?_
      refine ps_k (o_kRead 7832 0) (iN k) ?_
      refine ps_k (o_kRead 7832 1) (iN k) ?_
      refine ps_end ?_
      refine sy_a ⟨#[.string ⟨l.toArray⟩, undef, pT gr 0, u3, pT gh 0, iN k, u6, u7, .string ⟨l.toArray⟩, iN l.length, .bool false, undef, iN k, .bool true, iN k, u15, u16, u17, u18, u19, u20, u21, u22, u23, u24, u25, u26, u27, u28, u29, u30, u31, u32, u33, u34, u35, u36, u37, u38, u39, u40, undef], []⟩ ?_
      refine then_n ?_
      refine sy_sq (part_kRead 15666) (part_kRead 15667) ?_
      refine sy_np ?_
      refine sy_reg ?_
      refine an_begin 7 13 (opsAt (part_kRead 15666)) (fun W => True) #[false, false, false, false, false, false, false, false, false, false, false, false, false] (by kernel_rfl) (by kernel_rfl) (by kernel_rfl) (by kernel_rfl) ?_
      obtain ⟨V23, eV23⟩ : ∃ V, V11.drew = V := ⟨_, rfl⟩
      have kV23 : Keeps Nob V11 V23 := eV23 ▸ (Keeps.refl _ _).drew
      rw [eV23]
      clear eV23
      have h24 : V23.heap[gr]? = some (.cells (zr_u8_32) 29 (0, 0)) := (kV23.block gr (lt_of_block h12) (fun x => x)).trans h12
      have h25 : V23.heap[gh]? = some (.cells ((B (stpB (hv l) k zero32)).toArray) 29 (0, 0)) := (kV23.block gh (lt_of_block h13) (fun x => x)).trans h13
      have K26 : Keeps Nob w V23 := K14.then kV23 (fun _ _ x => x.elim)
      refine an_val 0 (o_kRead 15666 0) (.string ⟨l.toArray⟩) (by kernel_rfl) (by kernel_rfl) (by kernel_rfl) (by kernel_rfl) (by kernel_rfl) (fun W hS => by kernel_rfl) trivial ?_
      refine an_val 1 (o_kRead 15666 1) (iN k) (by kernel_rfl) (by kernel_rfl) (by kernel_rfl) (by kernel_rfl) (by kernel_rfl) (fun W hS => by kernel_rfl) trivial ?_
      refine an_val 2 (o_kRead 15666 2) (iN (2 * k)) (by kernel_rfl) (by kernel_rfl) (by kernel_rfl) (by kernel_rfl) (by kernel_rfl) (fun W hS => exec_cast (congrArg (Value.int .i64) (wrapN (2 * k) (by omega))) (by kernel_rfl)) trivial ?_
      refine an_val 3 (o_kRead 15666 3) (cN ((l.getD (2 * k) 0).toNat)) (by kernel_rfl) (by kernel_rfl) (by kernel_rfl) (by kernel_rfl) (by kernel_rfl) (fun W hS => exec_index_str 9 (.tmp 15) (.tmp 17) (by kernel_rfl) l (by kernel_rfl) .i64 (2 * k) (by kernel_rfl) Try.underlying9 _ (getD_some l _ (by omega))) trivial ?_
      refine an_val 5 (o_kRead 15666 5) (.string ⟨l.toArray⟩) (by kernel_rfl) (by kernel_rfl) (by kernel_rfl) (by kernel_rfl) (by kernel_rfl) (fun W hS => by kernel_rfl) trivial ?_
      refine an_val 6 (o_kRead 15666 6) (iN k) (by kernel_rfl) (by kernel_rfl) (by kernel_rfl) (by kernel_rfl) (by kernel_rfl) (fun W hS => by kernel_rfl) trivial ?_
      refine an_val 7 (o_kRead 15666 7) (iN (2 * k)) (by kernel_rfl) (by kernel_rfl) (by kernel_rfl) (by kernel_rfl) (by kernel_rfl) (fun W hS => exec_cast (congrArg (Value.int .i64) (wrapN (2 * k) (by omega))) (by kernel_rfl)) trivial ?_
      refine an_val 8 (o_kRead 15666 8) (iN ((2 * k) + 1)) (by kernel_rfl) (by kernel_rfl) (by kernel_rfl) (by kernel_rfl) (by kernel_rfl) (fun W hS => exec_cast (congrArg (Value.int .i64) (wrapN ((2 * k) + 1) (by omega))) (by kernel_rfl)) trivial ?_
      refine an_val 9 (o_kRead 15666 9) (cN ((l.getD (2 * k + 1) 0).toNat)) (by kernel_rfl) (by kernel_rfl) (by kernel_rfl) (by kernel_rfl) (by kernel_rfl) (fun W hS => exec_index_str 9 (.tmp 20) (.tmp 23) (by kernel_rfl) l (by kernel_rfl) .i64 (2 * k + 1) (by kernel_rfl) Try.underlying9 _ (getD_some l _ (by omega))) trivial ?_
      refine an_one 4 (by kernel_rfl) ?_
      refine on_call (o_kRead 15666 4) 39 #[cN ((l.getD (2 * k) 0).toNat)] (by kernel_rfl) (by kernel_rfl) (by kernel_rfl) (by kernel_rfl) (enters_of Try.func39 (by kernel_rfl) rfl) ((kdigit_ok (l.getD (2 * k) 0) _).mono ?_)
      rintro e w1 ⟨rfl, rfl⟩
      refine ⟨_, rfl, ?_⟩
      refine ⟨trivial, ?_⟩
      refine an_one 10 (by kernel_rfl) ?_
      refine on_call (o_kRead 15666 10) 39 #[cN ((l.getD (2 * k + 1) 0).toNat)] (by kernel_rfl) (by kernel_rfl) (by kernel_rfl) (by kernel_rfl) (enters_of Try.func39 (by kernel_rfl) rfl) ((kdigit_ok (l.getD (2 * k + 1) 0) _).mono ?_)
      rintro e w1 ⟨rfl, rfl⟩
      refine ⟨_, rfl, ?_⟩
      refine ⟨trivial, ?_⟩
      refine an_one 11 (by kernel_rfl) ?_
      refine on_run (o_kRead 15666 11) (.int .i64 (dv (l.getD (2 * k) 0))) (w' := V23) (by kernel_rfl) (by kernel_rfl) (by kernel_rfl) ?_
      refine ⟨trivial, ?_⟩
      refine an_one 12 (by kernel_rfl) ?_
      refine on_run (o_kRead 15666 12) (.int .i64 (dv (l.getD (2 * k + 1) 0))) (w' := V23) (by kernel_rfl) (by kernel_rfl) (by kernel_rfl) ?_
      refine ⟨trivial, ?_⟩
      refine an_end (by kernel_rfl) ?_
      refine sy_a ⟨#[.string ⟨l.toArray⟩, undef, pT gr 0, u3, pT gh 0, iN k, .int .i64 (dv (l.getD (2 * k) 0)), .int .i64 (dv (l.getD (2 * k + 1) 0)), .string ⟨l.toArray⟩, iN l.length, .bool false, undef, iN k, .bool true, iN k, .string ⟨l.toArray⟩, iN k, iN (2 * k), cN ((l.getD (2 * k) 0).toNat), .int .i64 (dv (l.getD (2 * k) 0)), .string ⟨l.toArray⟩, iN k, iN (2 * k), iN ((2 * k) + 1), cN ((l.getD (2 * k + 1) 0).toNat), .int .i64 (dv (l.getD (2 * k + 1) 0)), u26, u27, u28, u29, u30, u31, u32, u33, u34, u35, u36, u37, u38, u39, u40, undef], []⟩ ?_
      refine then_n ?_
      refine sy_sq (part_kRead 31334) (part_kRead 31335) ?_
      refine sy_sq (part_kRead 62668) (part_kRead 62669) ?_
      refine sy_reg ?_
      refine rg_plain 8 (opsAt (part_kRead 62668)) [0, 1, 2, 3, 4, 5] (by kernel_rfl) (by kernel_rfl) ?_
      refine ps_k (o_kRead 62668 0) (.int .i64 (dv (l.getD (2 * k) 0))) ?_
      refine ps_p (o_kRead 62668 1) (.bool false) (exec_cast (congrArg Value.bool (show (decide (((dv (l.getD (2 * k) 0)) : Int) < ((0) : Int))) = false from by simp only [decide_eq_false_iff_not]; omega)) (by kernel_rfl)) ?_
      refine ps_k (o_kRead 62668 2) (.bool false) ?_
      refine ps_k (o_kRead 62668 3) (.int .i64 (dv (l.getD (2 * k + 1) 0))) ?_
      refine ps_p (o_kRead 62668 4) (.bool true) (exec_cast (congrArg Value.bool (show (decide (((dv (l.getD (2 * k + 1) 0)) : Int) < ((0) : Int))) = true from by simp only [decide_eq_true_eq]; omega)) (by kernel_rfl)) ?_
      refine ps_k (o_kRead 62668 5) (.bool true) ?_
      refine ps_end ?_
      refine sy_a ⟨#[.string ⟨l.toArray⟩, undef, pT gr 0, u3, pT gh 0, iN k, .int .i64 (dv (l.getD (2 * k) 0)), .int .i64 (dv (l.getD (2 * k + 1) 0)), .string ⟨l.toArray⟩, iN l.length, .bool false, undef, iN k, .bool true, iN k, .string ⟨l.toArray⟩, iN k, iN (2 * k), cN ((l.getD (2 * k) 0).toNat), .int .i64 (dv (l.getD (2 * k) 0)), .string ⟨l.toArray⟩, iN k, iN (2 * k), iN ((2 * k) + 1), cN ((l.getD (2 * k + 1) 0).toNat), .int .i64 (dv (l.getD (2 * k + 1) 0)), .int .i64 (dv (l.getD (2 * k) 0)), .bool false, .bool false, .int .i64 (dv (l.getD (2 * k + 1) 0)), .bool true, .bool true, u32, u33, u34, u35, u36, u37, u38, u39, u40, undef], []⟩ ?_
      refine then_n ?_
      refine sy_ys (.tmp 31) (part_kRead 125338) (part_kRead 125339) ?_
      refine sy_sq (part_kRead 250676) (part_kRead 250677) ?_
      refine sy_reg ?_
      refine rg_plain 9 (opsAt (part_kRead 250676)) [0, 1, 2] (by kernel_rfl) (by kernel_rfl) ?_
      refine ps_k (o_kRead 250676 0) (.agg zr_u8_32) ?_
      obtain ⟨V27, eV27⟩ : ∃ V, V23.setRow gr (zr_u8_32) = V := ⟨_, rfl⟩
      have kV27 : Keeps (One gr) V23 V27 := eV27 ▸ (Keeps.refl (One gr) _).setRow (fun _ => (rfl : Own.One gr gr)) _
      have h28 : V27.heap[gr]? = some (.cells (zr_u8_32) 29 (0, 0)) := eV27 ▸ setRow_heap _ _ _ _ _ _ h24
      refine ps_skip (o_kRead 250676 1) (w' := V27) (by kernel_rfl) (by kernel_rfl) (by rw [← eV27]; exact exec_store_row 29 (.tmp 2) (.tmp 32) (by kernel_rfl) gr (zr_u8_32) (by kernel_rfl) (by kernel_rfl) 29 (zr_u8_32) h24 (by kernel_rfl) (by kernel_rfl) (by kernel_rfl)) ?_
      clear eV27
      have h29 : V27.heap[gh]? = some (.cells ((B (stpB (hv l) k zero32)).toArray) 29 (0, 0)) := (kV27.block gh (lt_of_block h25) (fun e => by unfold Own.One at e; omega)).trans h25
      have K30 : Keeps Nob w V27 := K26.then kV27 (fun i hi hm => absurd hi (by unfold Own.One at hm; omega))
      refine ps_k (o_kRead 250676 2) (.int .i64 5) ?_
      refine ps_end ?_
      refine sy_a ⟨#[.string ⟨l.toArray⟩, undef, pT gr 0, .int .i64 5, pT gh 0, iN k, .int .i64 (dv (l.getD (2 * k) 0)), .int .i64 (dv (l.getD (2 * k + 1) 0)), .string ⟨l.toArray⟩, iN l.length, .bool false, undef, iN k, .bool true, iN k, .string ⟨l.toArray⟩, iN k, iN (2 * k), cN ((l.getD (2 * k) 0).toNat), .int .i64 (dv (l.getD (2 * k) 0)), .string ⟨l.toArray⟩, iN k, iN (2 * k), iN ((2 * k) + 1), cN ((l.getD (2 * k + 1) 0).toNat), .int .i64 (dv (l.getD (2 * k + 1) 0)), .int .i64 (dv (l.getD (2 * k) 0)), .bool false, .bool false, .int .i64 (dv (l.getD (2 * k + 1) 0)), .bool true, .bool true, .agg zr_u8_32, u33, u34, u35, u36, u37, u38, u39, u40, undef], []⟩ ?_
      refine then_n ?_
      refine sy_ret (by kernel_rfl) ?_
      refine then_r ?_
      refine blk_r ?_
      refine then_r ?_
      refine then_r ?_
      refine blk_r ?_
      refine then_r ?_
      refine sy_out (.tuple #[.agg (zr_u8_32), .int .i64 5]) rfl (results_row_tmp (p := 2) (q := 3) (ty := 29) (by kernel_rfl) _ _ gr 29 (zr_u8_32) (0, 0) _ (.int .i64 5) (by kernel_rfl) h28 Try.underlying29 rfl (by kernel_rfl) (by kernel_rfl)) ?_
      exact ⟨zero32, 5, congrArg Ending.returned (by kernel_rfl), .inr ⟨hnx, rfl, rfl⟩, K30⟩
    · have ga := dv_ge (l.getD (2 * k) 0)
      have gb := dv_ge (l.getD (2 * k + 1) 0)
      refine sy_sq (part_kRead 488) (part_kRead 489) ?_
      refine sy_reg ?_
      refine rg_plain 5 (opsAt (part_kRead 488)) [0] (by kernel_rfl) (by kernel_rfl) ?_
      refine ps_p (o_kRead 488 0) (.bool true) (exec_cast (congrArg Value.bool (show (decide ((((k : Nat) : Int)) < ((32) : Int))) = true from by simp only [decide_eq_true_eq]; omega)) (by kernel_rfl)) ?_
      refine ps_end ?_
      refine sy_a ⟨#[.string ⟨l.toArray⟩, undef, pT gr 0, u3, pT gh 0, u5, u6, u7, .string ⟨l.toArray⟩, iN l.length, .bool false, undef, iN k, .bool true, u14, u15, u16, u17, u18, u19, u20, u21, u22, u23, u24, u25, u26, u27, u28, u29, u30, u31, u32, u33, u34, u35, u36, u37, u38, u39, u40, undef], []⟩ ?_
      refine then_n ?_
      refine sy_sq (part_kRead 978) (part_kRead 979) ?_
      refine sy_ys (.tmp 13) (part_kRead 1956) (part_kRead 1957) ?_
      refine sy_sk ?_
      refine then_n ?_
      refine sy_sq (part_kRead 1958) (part_kRead 1959) ?_
      refine sy_bk 1 (part_kRead 3916) ?_
      refine sy_sq (part_kRead 7832) (part_kRead 7833) ?_
      refine sy_reg ?_
      refine rg_plain 6 (opsAt (part_kRead 7832)) [0, 1] (by kernel_rfl) (by kernel_rfl) ?_
      refine ps_k (o_kRead 7832 0) (iN k) ?_
      refine ps_k (o_kRead 7832 1) (iN k) ?_
      refine ps_end ?_
      refine sy_a ⟨#[.string ⟨l.toArray⟩, undef, pT gr 0, u3, pT gh 0, iN k, u6, u7, .string ⟨l.toArray⟩, iN l.length, .bool false, undef, iN k, .bool true, iN k, u15, u16, u17, u18, u19, u20, u21, u22, u23, u24, u25, u26, u27, u28, u29, u30, u31, u32, u33, u34, u35, u36, u37, u38, u39, u40, undef], []⟩ ?_
      refine then_n ?_
      refine sy_sq (part_kRead 15666) (part_kRead 15667) ?_
      refine sy_np ?_
      refine sy_reg ?_
      refine an_begin 7 13 (opsAt (part_kRead 15666)) (fun W => True) #[false, false, false, false, false, false, false, false, false, false, false, false, false] (by kernel_rfl) (by kernel_rfl) (by kernel_rfl) (by kernel_rfl) ?_
      obtain ⟨V31, eV31⟩ : ∃ V, V11.drew = V := ⟨_, rfl⟩
      have kV31 : Keeps Nob V11 V31 := eV31 ▸ (Keeps.refl _ _).drew
      rw [eV31]
      clear eV31
      have h32 : V31.heap[gr]? = some (.cells (zr_u8_32) 29 (0, 0)) := (kV31.block gr (lt_of_block h12) (fun x => x)).trans h12
      have h33 : V31.heap[gh]? = some (.cells ((B (stpB (hv l) k zero32)).toArray) 29 (0, 0)) := (kV31.block gh (lt_of_block h13) (fun x => x)).trans h13
      have K34 : Keeps Nob w V31 := K14.then kV31 (fun _ _ x => x.elim)
      refine an_val 0 (o_kRead 15666 0) (.string ⟨l.toArray⟩) (by kernel_rfl) (by kernel_rfl) (by kernel_rfl) (by kernel_rfl) (by kernel_rfl) (fun W hS => by kernel_rfl) trivial ?_
      refine an_val 1 (o_kRead 15666 1) (iN k) (by kernel_rfl) (by kernel_rfl) (by kernel_rfl) (by kernel_rfl) (by kernel_rfl) (fun W hS => by kernel_rfl) trivial ?_
      refine an_val 2 (o_kRead 15666 2) (iN (2 * k)) (by kernel_rfl) (by kernel_rfl) (by kernel_rfl) (by kernel_rfl) (by kernel_rfl) (fun W hS => exec_cast (congrArg (Value.int .i64) (wrapN (2 * k) (by omega))) (by kernel_rfl)) trivial ?_
      refine an_val 3 (o_kRead 15666 3) (cN ((l.getD (2 * k) 0).toNat)) (by kernel_rfl) (by kernel_rfl) (by kernel_rfl) (by kernel_rfl) (by kernel_rfl) (fun W hS => exec_index_str 9 (.tmp 15) (.tmp 17) (by kernel_rfl) l (by kernel_rfl) .i64 (2 * k) (by kernel_rfl) Try.underlying9 _ (getD_some l _ (by omega))) trivial ?_
      refine an_val 5 (o_kRead 15666 5) (.string ⟨l.toArray⟩) (by kernel_rfl) (by kernel_rfl) (by kernel_rfl) (by kernel_rfl) (by kernel_rfl) (fun W hS => by kernel_rfl) trivial ?_
      refine an_val 6 (o_kRead 15666 6) (iN k) (by kernel_rfl) (by kernel_rfl) (by kernel_rfl) (by kernel_rfl) (by kernel_rfl) (fun W hS => by kernel_rfl) trivial ?_
      refine an_val 7 (o_kRead 15666 7) (iN (2 * k)) (by kernel_rfl) (by kernel_rfl) (by kernel_rfl) (by kernel_rfl) (by kernel_rfl) (fun W hS => exec_cast (congrArg (Value.int .i64) (wrapN (2 * k) (by omega))) (by kernel_rfl)) trivial ?_
      refine an_val 8 (o_kRead 15666 8) (iN ((2 * k) + 1)) (by kernel_rfl) (by kernel_rfl) (by kernel_rfl) (by kernel_rfl) (by kernel_rfl) (fun W hS => exec_cast (congrArg (Value.int .i64) (wrapN ((2 * k) + 1) (by omega))) (by kernel_rfl)) trivial ?_
      refine an_val 9 (o_kRead 15666 9) (cN ((l.getD (2 * k + 1) 0).toNat)) (by kernel_rfl) (by kernel_rfl) (by kernel_rfl) (by kernel_rfl) (by kernel_rfl) (fun W hS => exec_index_str 9 (.tmp 20) (.tmp 23) (by kernel_rfl) l (by kernel_rfl) .i64 (2 * k + 1) (by kernel_rfl) Try.underlying9 _ (getD_some l _ (by omega))) trivial ?_
      refine an_one 4 (by kernel_rfl) ?_
      refine on_call (o_kRead 15666 4) 39 #[cN ((l.getD (2 * k) 0).toNat)] (by kernel_rfl) (by kernel_rfl) (by kernel_rfl) (by kernel_rfl) (enters_of Try.func39 (by kernel_rfl) rfl) ((kdigit_ok (l.getD (2 * k) 0) _).mono ?_)
      rintro e w1 ⟨rfl, rfl⟩
      refine ⟨_, rfl, ?_⟩
      refine ⟨trivial, ?_⟩
      refine an_one 10 (by kernel_rfl) ?_
      refine on_call (o_kRead 15666 10) 39 #[cN ((l.getD (2 * k + 1) 0).toNat)] (by kernel_rfl) (by kernel_rfl) (by kernel_rfl) (by kernel_rfl) (enters_of Try.func39 (by kernel_rfl) rfl) ((kdigit_ok (l.getD (2 * k + 1) 0) _).mono ?_)
      rintro e w1 ⟨rfl, rfl⟩
      refine ⟨_, rfl, ?_⟩
      refine ⟨trivial, ?_⟩
      refine an_one 11 (by kernel_rfl) ?_
      refine on_run (o_kRead 15666 11) (.int .i64 (dv (l.getD (2 * k) 0))) (w' := V31) (by kernel_rfl) (by kernel_rfl) (by kernel_rfl) ?_
      refine ⟨trivial, ?_⟩
      refine an_one 12 (by kernel_rfl) ?_
      refine on_run (o_kRead 15666 12) (.int .i64 (dv (l.getD (2 * k + 1) 0))) (w' := V31) (by kernel_rfl) (by kernel_rfl) (by kernel_rfl) ?_
      refine ⟨trivial, ?_⟩
      refine an_end (by kernel_rfl) ?_
      refine sy_a ⟨#[.string ⟨l.toArray⟩, undef, pT gr 0, u3, pT gh 0, iN k, .int .i64 (dv (l.getD (2 * k) 0)), .int .i64 (dv (l.getD (2 * k + 1) 0)), .string ⟨l.toArray⟩, iN l.length, .bool false, undef, iN k, .bool true, iN k, .string ⟨l.toArray⟩, iN k, iN (2 * k), cN ((l.getD (2 * k) 0).toNat), .int .i64 (dv (l.getD (2 * k) 0)), .string ⟨l.toArray⟩, iN k, iN (2 * k), iN ((2 * k) + 1), cN ((l.getD (2 * k + 1) 0).toNat), .int .i64 (dv (l.getD (2 * k + 1) 0)), u26, u27, u28, u29, u30, u31, u32, u33, u34, u35, u36, u37, u38, u39, u40, undef], []⟩ ?_
      refine then_n ?_
      refine sy_sq (part_kRead 31334) (part_kRead 31335) ?_
      refine sy_sq (part_kRead 62668) (part_kRead 62669) ?_
      refine sy_reg ?_
      refine rg_plain 8 (opsAt (part_kRead 62668)) [0, 1, 2, 3, 4, 5] (by kernel_rfl) (by kernel_rfl) ?_
      refine ps_k (o_kRead 62668 0) (.int .i64 (dv (l.getD (2 * k) 0))) ?_
      refine ps_p (o_kRead 62668 1) (.bool false) (exec_cast (congrArg Value.bool (show (decide (((dv (l.getD (2 * k) 0)) : Int) < ((0) : Int))) = false from by simp only [decide_eq_false_iff_not]; omega)) (by kernel_rfl)) ?_
      refine ps_k (o_kRead 62668 2) (.bool false) ?_
      refine ps_k (o_kRead 62668 3) (.int .i64 (dv (l.getD (2 * k + 1) 0))) ?_
      refine ps_p (o_kRead 62668 4) (.bool false) (exec_cast (congrArg Value.bool (show (decide (((dv (l.getD (2 * k + 1) 0)) : Int) < ((0) : Int))) = false from by simp only [decide_eq_false_iff_not]; omega)) (by kernel_rfl)) ?_
      refine ps_k (o_kRead 62668 5) (.bool false) ?_
      refine ps_end ?_
      refine sy_a ⟨#[.string ⟨l.toArray⟩, undef, pT gr 0, u3, pT gh 0, iN k, .int .i64 (dv (l.getD (2 * k) 0)), .int .i64 (dv (l.getD (2 * k + 1) 0)), .string ⟨l.toArray⟩, iN l.length, .bool false, undef, iN k, .bool true, iN k, .string ⟨l.toArray⟩, iN k, iN (2 * k), cN ((l.getD (2 * k) 0).toNat), .int .i64 (dv (l.getD (2 * k) 0)), .string ⟨l.toArray⟩, iN k, iN (2 * k), iN ((2 * k) + 1), cN ((l.getD (2 * k + 1) 0).toNat), .int .i64 (dv (l.getD (2 * k + 1) 0)), .int .i64 (dv (l.getD (2 * k) 0)), .bool false, .bool false, .int .i64 (dv (l.getD (2 * k + 1) 0)), .bool false, .bool false, u32, u33, u34, u35, u36, u37, u38, u39, u40, undef], []⟩ ?_
      refine then_n ?_
      refine sy_n (.tmp 31) (part_kRead 125338) (part_kRead 125339) ?_
      refine sy_sk ?_
      refine then_n ?_
      refine sy_reg ?_
      refine rg_plain 10 (opsAt (part_kRead 31335)) [0, 1, 2, 3, 4, 5, 6, 7] (by kernel_rfl) (by kernel_rfl) ?_
      refine ps_k (o_kRead 31335 0) (iN k) ?_
      refine ps_k (o_kRead 31335 1) (.int .i64 (dv (l.getD (2 * k) 0))) ?_
      refine ps_p (o_kRead 31335 2) (.int .i64 (16 * dv (l.getD (2 * k) 0))) (exec_cast (congrArg (Value.int .i64) (wrapI ((16 : Int) * dv (l.getD (2 * k) 0)) _ rfl (by omega) (by omega))) (by kernel_rfl)) ?_
      refine ps_k (o_kRead 31335 3) (.int .i64 (dv (l.getD (2 * k + 1) 0))) ?_
      refine ps_p (o_kRead 31335 4) (.int .i64 ((16 * dv (l.getD (2 * k) 0)) + (dv (l.getD (2 * k + 1) 0)))) (exec_cast (congrArg (Value.int .i64) (wrapI ((16 * dv (l.getD (2 * k) 0)) + (dv (l.getD (2 * k + 1) 0))) ((16 * dv (l.getD (2 * k) 0)) + (dv (l.getD (2 * k + 1) 0))) rfl (by omega) (by omega))) (by kernel_rfl)) ?_
      refine ps_p (o_kRead 31335 5) (cN ((hv l k).toNat)) (exec_cast (v := .int .u8 (IntKind.u8.wrap (16 * dv (l.getD (2 * k) 0) + dv (l.getD (2 * k + 1) 0)))) (congrArg (Value.int .u8) (by rw [show (16 * dv (l.getD (2 * k) 0) + dv (l.getD (2 * k + 1) 0) : Int) = ((16 * (dv (l.getD (2 * k) 0)).toNat + (dv (l.getD (2 * k + 1) 0)).toNat : Nat) : Int) by omega]; exact wrap8 _)) (by kernel_rfl)) ?_
      refine ps_p (o_kRead 31335 6) (pT gh k) (exec_cast (v := pT gh (0 + k * 1)) (by simp) (exec_indexAt_arr 29 (.tmp 4) (.tmp 33) (by kernel_rfl) gh 0 (by kernel_rfl) .i64 k (by kernel_rfl) _ _ 1 Try.underlying29 (by kernel_rfl) (by omega))) ?_
      obtain ⟨V35, eV35⟩ : ∃ V, V31.setCell ⟨gh, k, none⟩ (.int .u8 (((hv l k).toNat : Nat) : Int)) = V := ⟨_, rfl⟩
      have kV35 : Keeps (One gh) V31 V35 := eV35 ▸ (Keeps.refl _ _).setOne _
      have h36 : V35.heap[gh]? = some (.cells ((B (stpB (hv l) (k + 1) zero32)).toArray) 29 (0, 0)) := eV35 ▸ ((heap_setCell_same _ gh k _ _ (.int .u8 (((hv l k).toNat : Nat) : Int)) h33).trans (congrArg (fun c => some (Obj.cells c 29 (0, 0))) (show ((B (stpB (hv l) k zero32)).toArray : Array Value).setIfInBounds k (.int .u8 (((hv l k).toNat : Nat) : Int)) = (B (stpB (hv l) (k + 1) zero32)).toArray from by rw [Bz_set]; exact congrArg (fun l => (B l).toArray) (by rw [stpB_succ]))))
      refine ps_skip (o_kRead 31335 7) (w' := V35) (by kernel_rfl) (by kernel_rfl) (by rw [← eV35]; exact exec_store_cell 5 (.tmp 39) (.tmp 38) (by kernel_rfl) gh k (by kernel_rfl) (cN ((hv l k).toNat)) (by kernel_rfl) (by kernel_rfl) (by kernel_rfl) (cN (((stpB (hv l) k zero32).getD k 0).toNat)) ((cell_of_row _ _ _ _ _ _ (h33)).trans (Bz_get _ k (by rw [stpB_len, zero32_len]; omega))) (frozen_of_row _ _ _ _ _ h33) (by kernel_rfl)) ?_
      clear eV35
      have h37 : V35.heap[gr]? = some (.cells (zr_u8_32) 29 (0, 0)) := (kV35.block gr (lt_of_block h32) (fun e => by unfold Own.One at e; omega)).trans h32
      have K38 : Keeps Nob w V35 := K34.then kV35 (fun i hi hm => absurd hi (by unfold Own.One at hm; omega))
      refine ps_end ?_
      refine sy_a ⟨#[.string ⟨l.toArray⟩, undef, pT gr 0, u3, pT gh 0, iN k, .int .i64 (dv (l.getD (2 * k) 0)), .int .i64 (dv (l.getD (2 * k + 1) 0)), .string ⟨l.toArray⟩, iN l.length, .bool false, undef, iN k, .bool true, iN k, .string ⟨l.toArray⟩, iN k, iN (2 * k), cN ((l.getD (2 * k) 0).toNat), .int .i64 (dv (l.getD (2 * k) 0)), .string ⟨l.toArray⟩, iN k, iN (2 * k), iN ((2 * k) + 1), cN ((l.getD (2 * k + 1) 0).toNat), .int .i64 (dv (l.getD (2 * k + 1) 0)), .int .i64 (dv (l.getD (2 * k) 0)), .bool false, .bool false, .int .i64 (dv (l.getD (2 * k + 1) 0)), .bool false, .bool false, u32, iN k, .int .i64 (dv (l.getD (2 * k) 0)), .int .i64 (16 * dv (l.getD (2 * k) 0)), .int .i64 (dv (l.getD (2 * k + 1) 0)), .int .i64 ((16 * dv (l.getD (2 * k) 0)) + (dv (l.getD (2 * k + 1) 0))), cN ((hv l k).toNat), pT gh k, u40, undef], []⟩ ?_
      refine blk_n ?_
      refine then_n ?_
      refine sy_reg ?_
      refine rg_plain 11 (opsAt (part_kRead 1959)) [0, 1] (by kernel_rfl) (by kernel_rfl) ?_
      refine ps_p (o_kRead 1959 0) (iN (k + 1)) (exec_cast (congrArg (Value.int .i64) (wrapN (k + 1) (by omega))) (by kernel_rfl)) ?_
      refine ps_k (o_kRead 1959 1) (iN (k + 1)) ?_
      refine ps_end ?_
      refine sy_a ⟨#[.string ⟨l.toArray⟩, undef, pT gr 0, u3, pT gh 0, iN k, .int .i64 (dv (l.getD (2 * k) 0)), .int .i64 (dv (l.getD (2 * k + 1) 0)), .string ⟨l.toArray⟩, iN l.length, .bool false, undef, iN (k + 1), .bool true, iN k, .string ⟨l.toArray⟩, iN k, iN (2 * k), cN ((l.getD (2 * k) 0).toNat), .int .i64 (dv (l.getD (2 * k) 0)), .string ⟨l.toArray⟩, iN k, iN (2 * k), iN ((2 * k) + 1), cN ((l.getD (2 * k + 1) 0).toNat), .int .i64 (dv (l.getD (2 * k + 1) 0)), .int .i64 (dv (l.getD (2 * k) 0)), .bool false, .bool false, .int .i64 (dv (l.getD (2 * k + 1) 0)), .bool false, .bool false, u32, iN k, .int .i64 (dv (l.getD (2 * k) 0)), .int .i64 (16 * dv (l.getD (2 * k) 0)), .int .i64 (dv (l.getD (2 * k + 1) 0)), .int .i64 ((16 * dv (l.getD (2 * k) 0)) + (dv (l.getD (2 * k + 1) 0))), cN ((hv l k).toNat), pT gh k, iN (k + 1), undef], []⟩ ?_
      refine then_n ?_
      refine ⟨⟨k + 1, u3, (iN k), (.int .i64 (dv (l.getD (2 * k) 0))), (.int .i64 (dv (l.getD (2 * k + 1) 0))), (.bool true), (iN k), (.string ⟨l.toArray⟩), (iN k), (iN (2 * k)), (cN ((l.getD (2 * k) 0).toNat)), (.int .i64 (dv (l.getD (2 * k) 0))), (.string ⟨l.toArray⟩), (iN k), (iN (2 * k)), (iN ((2 * k) + 1)), (cN ((l.getD (2 * k + 1) 0).toNat)), (.int .i64 (dv (l.getD (2 * k + 1) 0))), (.int .i64 (dv (l.getD (2 * k) 0))), (.bool false), (.bool false), (.int .i64 (dv (l.getD (2 * k + 1) 0))), (.bool false), (.bool false), u32, (iN k), (.int .i64 (dv (l.getD (2 * k) 0))), (.int .i64 (16 * dv (l.getD (2 * k) 0))), (.int .i64 (dv (l.getD (2 * k + 1) 0))), (.int .i64 ((16 * dv (l.getD (2 * k) 0)) + (dv (l.getD (2 * k + 1) 0)))), (cN ((hv l k).toNat)), (pT gh k), (iN (k + 1)), by kernel_rfl, by omega, fun j hj => if e : j = k then (by subst e; exact ⟨hA, hB⟩) else hok j (by omega), h37, h36, K38⟩, ?_⟩
      exact lt_meas (x := 32 - (k + 1)) (y := 32 - k) (by kernel_rfl) (by kernel_rfl) (by omega)
    · have h39 : V11.heap[gh]? = some (.cells ((B ((List.range 32).map (hv l))).toArray) 29 (0, 0)) := h13.trans (by rw [h32, stpB_all _ _ 32 zero32_len])
      refine sy_sq (part_kRead 488) (part_kRead 489) ?_
      refine sy_reg ?_
      refine rg_plain 5 (opsAt (part_kRead 488)) [0] (by kernel_rfl) (by kernel_rfl) ?_
      refine ps_p (o_kRead 488 0) (.bool false) (exec_cast (congrArg Value.bool (show (decide ((((k : Nat) : Int)) < ((32) : Int))) = false from by simp only [decide_eq_false_iff_not]; omega)) (by kernel_rfl)) ?_
      refine ps_end ?_
      refine sy_a ⟨#[.string ⟨l.toArray⟩, undef, pT gr 0, u3, pT gh 0, u5, u6, u7, .string ⟨l.toArray⟩, iN l.length, .bool false, undef, iN k, .bool false, u14, u15, u16, u17, u18, u19, u20, u21, u22, u23, u24, u25, u26, u27, u28, u29, u30, u31, u32, u33, u34, u35, u36, u37, u38, u39, u40, undef], []⟩ ?_
      refine then_n ?_
      refine sy_sq (part_kRead 978) (part_kRead 979) ?_
      refine sy_n (.tmp 13) (part_kRead 1956) (part_kRead 1957) ?_
      refine sy_exit 0 (by kernel_rfl) ?_
      refine then_e ?_
      refine then_e ?_
      refine blk_e ?_
      refine then_n ?_
      refine sy_sq (part_kRead 62) (part_kRead 63) ?_
      refine sy_reg ?_
      refine rg_plain 12 (opsAt (part_kRead 62)) [0, 1, 2] (by kernel_rfl) (by kernel_rfl) ?_
      refine ps_p (o_kRead 62 0) (.agg ((B ((List.range 32).map (hv l))).toArray)) (exec_load_row 29 (.tmp 4) (by kernel_rfl) gh (by kernel_rfl) _ _ (0, 0) _ (h39) Try.underlying29 rfl (by rw [Bz_size, List.length_map, List.length_range]; kernel_rfl)) ?_
      obtain ⟨V40, eV40⟩ : ∃ V, V11.setRow gr (((B ((List.range 32).map (hv l))).toArray)) = V := ⟨_, rfl⟩
      have kV40 : Keeps (One gr) V11 V40 := eV40 ▸ (Keeps.refl (One gr) _).setRow (fun _ => (rfl : Own.One gr gr)) _
      have h41 : V40.heap[gr]? = some (.cells ((B ((List.range 32).map (hv l))).toArray) 29 (0, 0)) := eV40 ▸ setRow_heap _ _ _ _ _ _ h12
      refine ps_skip (o_kRead 62 1) (w' := V40) (by kernel_rfl) (by kernel_rfl) (by rw [← eV40]; exact exec_store_row 29 (.tmp 2) (.tmp 41) (by kernel_rfl) gr (((B ((List.range 32).map (hv l))).toArray)) (by kernel_rfl) (by kernel_rfl) 29 (zr_u8_32) h12 (by rw [Bz_size, List.length_map, List.length_range]; kernel_rfl) (by rw [Bz_size, List.length_map, List.length_range]; rfl) (by rw [List.all_toArray]; exact List.all_eq_true.2 (B_one _))) ?_
      clear eV40
      have h42 : V40.heap[gh]? = some (.cells ((B ((List.range 32).map (hv l))).toArray) 29 (0, 0)) := (kV40.block gh (lt_of_block h39) (fun e => by unfold Own.One at e; omega)).trans h39
      have K43 : Keeps Nob w V40 := K14.then kV40 (fun i hi hm => absurd hi (by unfold Own.One at hm; omega))
      refine ps_k (o_kRead 62 2) (.int .i64 0) ?_
      refine ps_end ?_
      refine sy_a ⟨#[.string ⟨l.toArray⟩, undef, pT gr 0, .int .i64 0, pT gh 0, u5, u6, u7, .string ⟨l.toArray⟩, iN l.length, .bool false, undef, iN k, .bool false, u14, u15, u16, u17, u18, u19, u20, u21, u22, u23, u24, u25, u26, u27, u28, u29, u30, u31, u32, u33, u34, u35, u36, u37, u38, u39, u40, .agg ((B ((List.range 32).map (hv l))).toArray)], []⟩ ?_
      refine then_n ?_
      refine sy_ret (by kernel_rfl) ?_
      refine sy_out (.tuple #[.agg ((B ((List.range 32).map (hv l))).toArray), .int .i64 0]) rfl (results_row_tmp (p := 2) (q := 3) (ty := 29) (by kernel_rfl) _ _ gr 29 ((B ((List.range 32).map (hv l))).toArray) (0, 0) _ (.int .i64 0) (by kernel_rfl) h41 Try.underlying29 rfl (by rw [Bz_size, List.length_map, List.length_range]; kernel_rfl) (by kernel_rfl)) ?_
      exact ⟨_, 0, rfl, .inl ⟨⟨hl, fun i hi => hok i (by omega)⟩, rfl, rfl⟩, K43⟩
theorem kRead_ok (l : List UInt8) (w : World) : Calls Try.prog 22 #[.string ⟨l.toArray⟩] w fun e w' => ∃ v er, e = .returned (.tuple #[.agg (B v).toArray, .int .i64 er]) ∧ ReadsAs l v er ∧ Keeps Nob w w' := by
  by_cases hl : l.length = 64
  · exact kRead_yes l w hl
  · exact kRead_no l w hl
end Go.Proofs.Ytolbdhgclcemlaa
