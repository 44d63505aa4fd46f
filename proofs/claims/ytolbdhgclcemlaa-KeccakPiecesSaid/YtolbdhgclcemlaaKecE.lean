/-
  Keccak: hashes in pieces, Sum, Join (printed by kec4.py). Conditions: none.
-/
import Derived.Test.YtolbdhgclcemlaaKecD
namespace Go.Proofs.Ytolbdhgclcemlaa
open Go Go.RowKit Go.Own Go.Shelf
theorem SpAt.lt {w : World} {p : Nat} {l : List UInt8} (h : SpAt w p l) : p < w.heap.size := lt_of_block h
theorem SpAt.keeps {w w' : World} {M : Nat → Prop} {p : Nat} {l : List UInt8} (h : SpAt w p l) (k : Keeps M w w') (hm : ¬ M p) : SpAt w' p l := (k.block p (lt_of_block h) hm).trans h
/-- A hash in pieces that took the bytes l: at b, its sponge at p. -/
structure HashAt (w : World) (b p : Nat) (l : List UInt8) : Prop where
  cell : w.heap[b]? = some (.cells #[.pointer (some ⟨p, 0, none⟩)] 26 (0, 0))
  sp : SpAt w p l
  ne : b ≠ p
theorem HashAt.keeps {w w' : World} {M : Nat → Prop} {b p : Nat} {l : List UInt8} (h : HashAt w b p l) (k : Keeps M w w') (hb : ¬ M b) (hp : ¬ M p) : HashAt w' b p l :=
  ⟨(k.block b (lt_of_block h.cell) hb).trans h.cell, h.sp.keeps k hp, h.ne⟩
theorem HashAt.keepsN {w w' : World} {b p : Nat} {l : List UInt8} (h : HashAt w b p l) (k : Keeps Nob w w') : HashAt w' b p l := h.keeps k (fun x => x) (fun x => x)
theorem sp_nil : (Sp Kec.zero zero136 0 0) = Sp (Kec.stateOf []) (blkOf []) (([] : List UInt8).length % 136) ([] : List UInt8).length := by
  unfold Sp
  have : blkOf [] = zero136 := by simp [blkOf, zero136, Kec.restOf_nil]
  rw [this]; rfl

noncomputable def part_kNew (n : Nat) : Code := partOf Try.f17 n
noncomputable abbrev o_kNew (n k : Nat) : Oper := (opsAt (part_kNew n)).getD k default
set_option maxRecDepth 100000 in
set_option maxHeartbeats 4000000 in
theorem kNew_ok (w : World) :
    Calls Try.prog 17 #[] w (fun e w' => ∃ b p, e = .returned (.pointer (some ⟨b, 0, none⟩)) ∧ HashAt w' b p [] ∧ w.heap.size ≤ b ∧ w.heap.size ≤ p ∧ Keeps Nob w w') := by
  have K0 : Keeps Nob w w := Keeps.refl _ _
  refine sy_enter (part_kNew 1) ⟨#[undef, undef, undef, undef, undef], []⟩ Try.func17 (by kernel_rfl) (by kernel_rfl) ?_
  refine sy_sq (part_kNew 2) (part_kNew 3) ?_
  refine sy_reg ?_
  refine rg_plain 0 (opsAt (part_kNew 2)) [0] (by kernel_rfl) (by kernel_rfl) ?_
  refine ps_k (o_kNew 2 0) (.pointer none) ?_
  refine ps_end ?_
  refine sy_a ⟨#[.pointer none, undef, undef, undef, undef], []⟩ ?_
  refine then_n ?_
  refine sy_sq (part_kNew 6) (part_kNew 7) ?_
  refine sy_reg ?_
  refine rg_plain 1 (opsAt (part_kNew 6)) [0, 1, 2, 3, 4] (by kernel_rfl) (by kernel_rfl) ?_
  refine ps_k (o_kNew 6 0) (.agg (Sp Kec.zero zero136 0 0)) ?_
  obtain ⟨V1, eV1⟩ : ∃ V, w.alloc (.cells ((Sp Kec.zero zero136 0 0)) 64) = V := ⟨_, rfl⟩
  obtain ⟨p, ep⟩ : ∃ g, w.heap.size = g := ⟨_, rfl⟩
  have n3 : w.heap.size ≤ p := ep ▸ K0.size
  have h2 : V1.heap[p]? = some (.cells ((Sp Kec.zero zero136 0 0)) 64 (0, 0)) := by rw [← eV1, ← ep]; exact heap_alloc_new _ _
  have kV1 : Keeps Nob w V1 := eV1 ▸ (Keeps.refl _ _).alloc _
  refine ps_run (o_kNew 6 1) (pT p 0) (w' := V1) (by kernel_rfl) (by kernel_rfl) (by rw [← eV1, ← ep]; exact exec_box 64 (.tmp 1) (by kernel_rfl) (.agg (Sp Kec.zero zero136 0 0)) (by kernel_rfl)) ?_
  clear eV1
  have K4 : Keeps Nob w V1 := K0.then kV1 (fun _ _ x => x.elim)
  refine ps_k (o_kNew 6 2) (.agg #[pT p 0]) ?_
  obtain ⟨V5, eV5⟩ : ∃ V, V1.alloc (.cells (#[.pointer (some ⟨p, 0, none⟩)]) 26) = V := ⟨_, rfl⟩
  obtain ⟨b, eb⟩ : ∃ g, V1.heap.size = g := ⟨_, rfl⟩
  have n7 : p < b := eb ▸ lt_of_block h2
  have n8 : w.heap.size ≤ b := eb ▸ K4.size
  have h6 : V5.heap[b]? = some (.cells (#[.pointer (some ⟨p, 0, none⟩)]) 26 (0, 0)) := by rw [← eV5, ← eb]; exact heap_alloc_new _ _
  have kV5 : Keeps Nob V1 V5 := eV5 ▸ (Keeps.refl _ _).alloc _
  refine ps_run (o_kNew 6 3) (pT b 0) (w' := V5) (by kernel_rfl) (by kernel_rfl) (by rw [← eV5, ← eb]; exact exec_box 26 (.tmp 3) (by kernel_rfl) (.agg #[pT p 0]) (by kernel_rfl)) ?_
  clear eV5
  have h9 : V5.heap[p]? = some (.cells (Sp Kec.zero zero136 0 0) 64 (0, 0)) := (kV5.block p (lt_of_block h2) (fun x => x)).trans h2
  have K10 : Keeps Nob w V5 := K4.then kV5 (fun _ _ x => x.elim)
  refine ps_k (o_kNew 6 4) (pT b 0) ?_
  refine ps_end ?_
  refine sy_a ⟨#[pT b 0, .agg (Sp Kec.zero zero136 0 0), pT p 0, .agg #[pT p 0], pT b 0], []⟩ ?_
  refine then_n ?_
  refine sy_ret (by kernel_rfl) ?_
  refine sy_out (.pointer (some ⟨b, 0, none⟩)) rfl (by kernel_rfl) ?_
  exact ⟨b, p, rfl, ⟨h6, by unfold SpAt; rw [← sp_nil]; exact h9, by omega⟩, by omega, by omega, K10⟩
noncomputable def part_knone (n : Nat) : Code := partOf Try.f34 n
noncomputable abbrev o_knone (n k : Nat) : Oper := (opsAt (part_knone n)).getD k default
set_option maxRecDepth 100000 in
set_option maxHeartbeats 4000000 in
theorem knone_nil (b p : Nat) (w : World) :
    Calls Try.prog 34 #[.pointer none] w (fun e w' => e = .returned (.bool true) ∧ w = w') := by
  have K0 : Keeps Nob w w := Keeps.refl _ _
  refine sy_enter (part_knone 1) ⟨#[.pointer none, undef, undef, undef, undef, undef, undef, undef, undef, undef, undef, undef], []⟩ Try.func34 (by kernel_rfl) (by kernel_rfl) ?_
  refine sy_sq (part_knone 2) (part_knone 3) ?_
  refine sy_reg ?_
  refine rg_plain 0 (opsAt (part_knone 2)) [0] (by kernel_rfl) (by kernel_rfl) ?_
  refine ps_k (o_knone 2 0) (.bool false) ?_
  refine ps_end ?_
  refine sy_a ⟨#[.pointer none, undef, .bool false, undef, undef, undef, undef, undef, undef, undef, undef, undef], []⟩ ?_
  refine then_n ?_
  refine sy_sq (part_knone 6) (part_knone 7) ?_
  refine sy_reg ?_
  refine rg_plain 1 (opsAt (part_knone 6)) [0, 1, 2, 3, 4, 5, 6, 7, 8, 9] (by kernel_rfl) (by kernel_rfl) ?_
  refine ps_k (o_knone 6 0) (.pointer none) ?_
  refine ps_k (o_knone 6 1) (.bool true) ?_
  refine ps_k (o_knone 6 2) (.bool true) ?_
  refine ps_no (o_knone 6 3) (by kernel_rfl) (by kernel_rfl) ?_
  refine ps_no (o_knone 6 4) (by kernel_rfl) (by kernel_rfl) ?_
  refine ps_no (o_knone 6 5) (by kernel_rfl) (by kernel_rfl) ?_
  refine ps_no (o_knone 6 6) (by kernel_rfl) (by kernel_rfl) ?_
  refine ps_no (o_knone 6 7) (by kernel_rfl) (by kernel_rfl) ?_
  refine ps_k (o_knone 6 8) (.bool true) ?_
  refine ps_k (o_knone 6 9) (.bool true) ?_
  refine ps_end ?_
  refine sy_a ⟨#[.pointer none, undef, .bool true, .pointer none, .bool true, .bool true, undef, undef, undef, undef, undef, .bool true], []⟩ ?_
  refine then_n ?_
  refine sy_ret (by kernel_rfl) ?_
  refine sy_out (.bool true) rfl (by kernel_rfl) ?_
  exact ⟨rfl, rfl⟩
set_option maxRecDepth 100000 in
set_option maxHeartbeats 4000000 in
theorem knone_zero (b p : Nat) (w : World) (hb : w.heap[b]? = some (.cells #[.pointer none] 26 (0, 0))) :
    Calls Try.prog 34 #[.pointer (some ⟨b, 0, none⟩)] w (fun e w' => e = .returned (.bool true) ∧ w = w') := by
  have K0 : Keeps Nob w w := Keeps.refl _ _
  refine sy_enter (part_knone 1) ⟨#[pT b 0, undef, undef, undef, undef, undef, undef, undef, undef, undef, undef, undef], []⟩ Try.func34 (by kernel_rfl) (by kernel_rfl) ?_
  refine sy_sq (part_knone 2) (part_knone 3) ?_
  refine sy_reg ?_
  refine rg_plain 0 (opsAt (part_knone 2)) [0] (by kernel_rfl) (by kernel_rfl) ?_
  refine ps_k (o_knone 2 0) (.bool false) ?_
  refine ps_end ?_
  refine sy_a ⟨#[pT b 0, undef, .bool false, undef, undef, undef, undef, undef, undef, undef, undef, undef], []⟩ ?_
  refine then_n ?_
  refine sy_sq (part_knone 6) (part_knone 7) ?_
  refine sy_reg ?_
  refine rg_plain 1 (opsAt (part_knone 6)) [0, 1, 2, 3, 4, 5, 6, 7, 8, 9] (by kernel_rfl) (by kernel_rfl) ?_
  refine ps_k (o_knone 6 0) (pT b 0) ?_
  refine ps_k (o_knone 6 1) (.bool false) ?_
  refine ps_k (o_knone 6 2) (.bool false) ?_
  refine ps_k (o_knone 6 3) (pT b 0) ?_
  refine ps_k (o_knone 6 4) (pT b 0) ?_
  refine ps_k (o_knone 6 5) (pT b 0) ?_
  refine ps_p (o_knone 6 6) (.pointer none) (exec_load_cell 24 (.tmp 8) (by kernel_rfl) ⟨b, 0, none⟩ (by kernel_rfl) _ _ Try.underlying24 rfl ((cell_of_row _ _ _ _ _ _ (hb)).trans (by kernel_rfl))) ?_
  refine ps_k (o_knone 6 7) (.bool true) ?_
  refine ps_k (o_knone 6 8) (.bool true) ?_
  refine ps_k (o_knone 6 9) (.bool true) ?_
  refine ps_end ?_
  refine sy_a ⟨#[pT b 0, undef, .bool true, pT b 0, .bool false, .bool false, pT b 0, pT b 0, pT b 0, .pointer none, .bool true, .bool true], []⟩ ?_
  refine then_n ?_
  refine sy_ret (by kernel_rfl) ?_
  refine sy_out (.bool true) rfl (by kernel_rfl) ?_
  exact ⟨rfl, rfl⟩
set_option maxRecDepth 100000 in
set_option maxHeartbeats 4000000 in
theorem knone_ok (b p : Nat) (w : World) (hb : w.heap[b]? = some (.cells #[.pointer (some ⟨p, 0, none⟩)] 26 (0, 0))) :
    Calls Try.prog 34 #[.pointer (some ⟨b, 0, none⟩)] w (fun e w' => e = .returned (.bool false) ∧ w = w') := by
  have K0 : Keeps Nob w w := Keeps.refl _ _
  refine sy_enter (part_knone 1) ⟨#[pT b 0, undef, undef, undef, undef, undef, undef, undef, undef, undef, undef, undef], []⟩ Try.func34 (by kernel_rfl) (by kernel_rfl) ?_
  refine sy_sq (part_knone 2) (part_knone 3) ?_
  refine sy_reg ?_
  refine rg_plain 0 (opsAt (part_knone 2)) [0] (by kernel_rfl) (by kernel_rfl) ?_
  refine ps_k (o_knone 2 0) (.bool false) ?_
  refine ps_end ?_
  refine sy_a ⟨#[pT b 0, undef, .bool false, undef, undef, undef, undef, undef, undef, undef, undef, undef], []⟩ ?_
  refine then_n ?_
  refine sy_sq (part_knone 6) (part_knone 7) ?_
  refine sy_reg ?_
  refine rg_plain 1 (opsAt (part_knone 6)) [0, 1, 2, 3, 4, 5, 6, 7, 8, 9] (by kernel_rfl) (by kernel_rfl) ?_
  refine ps_k (o_knone 6 0) (pT b 0) ?_
  refine ps_k (o_knone 6 1) (.bool false) ?_
  refine ps_k (o_knone 6 2) (.bool false) ?_
  refine ps_k (o_knone 6 3) (pT b 0) ?_
  refine ps_k (o_knone 6 4) (pT b 0) ?_
  refine ps_k (o_knone 6 5) (pT b 0) ?_
  refine ps_p (o_knone 6 6) (pT p 0) (exec_load_cell 24 (.tmp 8) (by kernel_rfl) ⟨b, 0, none⟩ (by kernel_rfl) _ _ Try.underlying24 rfl ((cell_of_row _ _ _ _ _ _ (hb)).trans (by kernel_rfl))) ?_
  refine ps_k (o_knone 6 7) (.bool false) ?_
  refine ps_k (o_knone 6 8) (.bool false) ?_
  refine ps_k (o_knone 6 9) (.bool false) ?_
  refine ps_end ?_
  refine sy_a ⟨#[pT b 0, undef, .bool false, pT b 0, .bool false, .bool false, pT b 0, pT b 0, pT b 0, pT p 0, .bool false, .bool false], []⟩ ?_
  refine then_n ?_
  refine sy_ret (by kernel_rfl) ?_
  refine sy_out (.bool false) rfl (by kernel_rfl) ?_
  exact ⟨rfl, rfl⟩
noncomputable def part_kHWrite (n : Nat) : Code := partOf Try.f11 n
noncomputable abbrev o_kHWrite (n k : Nat) : Oper := (opsAt (part_kHWrite n)).getD k default
set_option maxRecDepth 100000 in
set_option maxHeartbeats 4000000 in
theorem kHWrite_nil (b : Nat) (v : Value) (w : World) :
    Calls Try.prog 11 #[.pointer none, v] w (fun e w' => e = .returned (.int .i64 1) ∧ w = w') := by
  have K0 : Keeps Nob w w := Keeps.refl _ _
  refine sy_enter (part_kHWrite 1) ⟨#[.pointer none, v, undef, undef, undef, undef, undef, undef, undef, undef, undef, undef, undef], []⟩ Try.func11 (by kernel_rfl) (by kernel_rfl) ?_
  refine sy_sq (part_kHWrite 2) (part_kHWrite 3) ?_
  refine sy_reg ?_
  refine rg_plain 0 (opsAt (part_kHWrite 2)) [0] (by kernel_rfl) (by kernel_rfl) ?_
  refine ps_k (o_kHWrite 2 0) (.int .i64 0) ?_
  refine ps_end ?_
  refine sy_a ⟨#[.pointer none, v, undef, undef, .int .i64 0, undef, undef, undef, undef, undef, undef, undef, undef], []⟩ ?_
  refine then_n ?_
  refine sy_sq (part_kHWrite 6) (part_kHWrite 7) ?_
  refine sy_sq (part_kHWrite 12) (part_kHWrite 13) ?_
  refine sy_reg ?_
  refine rg_plain 1 (opsAt (part_kHWrite 12)) [0, 1] (by kernel_rfl) (by kernel_rfl) ?_
  refine ps_k (o_kHWrite 12 0) (.pointer none) ?_
  refine ps_call (o_kHWrite 12 1) 34 #[.pointer none] (by kernel_rfl) (by kernel_rfl) (by kernel_rfl) (by kernel_rfl) (enters_of Try.func34 (by kernel_rfl) rfl) ((knone_nil 0 0 _).mono ?_)
  rintro e w1 ⟨rfl, rfl⟩
  refine ⟨_, rfl, ?_⟩
  refine ps_end ?_
  refine sy_a ⟨#[.pointer none, v, undef, undef, .int .i64 0, .pointer none, .bool true, undef, undef, undef, undef, undef, undef], []⟩ ?_
  refine then_n ?_
  refine sy_ys (.tmp 6) (part_kHWrite 26) (part_kHWrite 27) ?_
  refine sy_sq (part_kHWrite 52) (part_kHWrite 53) ?_
  refine sy_reg ?_
  refine rg_plain 2 (opsAt (part_kHWrite 52)) [0] (by kernel_rfl) (by kernel_rfl) ?_
  refine ps_k (o_kHWrite 52 0) (.int .i64 1) ?_
  refine ps_end ?_
  refine sy_a ⟨#[.pointer none, v, undef, undef, .int .i64 1, .pointer none, .bool true, undef, undef, undef, undef, undef, undef], []⟩ ?_
  refine then_n ?_
  refine sy_ret (by kernel_rfl) ?_
  refine then_r ?_
  refine sy_out (.int .i64 1) rfl (by kernel_rfl) ?_
  exact ⟨rfl, rfl⟩
noncomputable def part_kHLen (n : Nat) : Code := partOf Try.f12 n
noncomputable abbrev o_kHLen (n k : Nat) : Oper := (opsAt (part_kHLen n)).getD k default
set_option maxRecDepth 100000 in
set_option maxHeartbeats 4000000 in
theorem kHLen_nil (b : Nat) (w : World) :
    Calls Try.prog 12 #[.pointer none] w (fun e w' => e = .returned (.int .i64 0) ∧ w = w') := by
  have K0 : Keeps Nob w w := Keeps.refl _ _
  refine sy_enter (part_kHLen 1) ⟨#[.pointer none, undef, undef, undef, undef, undef, undef, undef, undef, undef, undef, undef], []⟩ Try.func12 (by kernel_rfl) (by kernel_rfl) ?_
  refine sy_sq (part_kHLen 2) (part_kHLen 3) ?_
  refine sy_reg ?_
  refine rg_plain 0 (opsAt (part_kHLen 2)) [0] (by kernel_rfl) (by kernel_rfl) ?_
  refine ps_k (o_kHLen 2 0) (.int .i64 0) ?_
  refine ps_end ?_
  refine sy_a ⟨#[.pointer none, undef, .int .i64 0, undef, undef, undef, undef, undef, undef, undef, undef, undef], []⟩ ?_
  refine then_n ?_
  refine sy_sq (part_kHLen 6) (part_kHLen 7) ?_
  refine sy_sq (part_kHLen 12) (part_kHLen 13) ?_
  refine sy_reg ?_
  refine rg_plain 1 (opsAt (part_kHLen 12)) [0, 1] (by kernel_rfl) (by kernel_rfl) ?_
  refine ps_k (o_kHLen 12 0) (.pointer none) ?_
  refine ps_call (o_kHLen 12 1) 34 #[.pointer none] (by kernel_rfl) (by kernel_rfl) (by kernel_rfl) (by kernel_rfl) (enters_of Try.func34 (by kernel_rfl) rfl) ((knone_nil 0 0 _).mono ?_)
  rintro e w1 ⟨rfl, rfl⟩
  refine ⟨_, rfl, ?_⟩
  refine ps_end ?_
  refine sy_a ⟨#[.pointer none, undef, .int .i64 0, .pointer none, .bool true, undef, undef, undef, undef, undef, undef, undef], []⟩ ?_
  refine then_n ?_
  refine sy_ys (.tmp 4) (part_kHLen 26) (part_kHLen 27) ?_
  refine sy_sq (part_kHLen 52) (part_kHLen 53) ?_
  refine sy_reg ?_
  refine rg_plain 2 (opsAt (part_kHLen 52)) [0] (by kernel_rfl) (by kernel_rfl) ?_
  refine ps_k (o_kHLen 52 0) (.int .i64 0) ?_
  refine ps_end ?_
  refine sy_a ⟨#[.pointer none, undef, .int .i64 0, .pointer none, .bool true, undef, undef, undef, undef, undef, undef, undef], []⟩ ?_
  refine then_n ?_
  refine sy_ret (by kernel_rfl) ?_
  refine then_r ?_
  refine sy_out (.int .i64 0) rfl (by kernel_rfl) ?_
  exact ⟨rfl, rfl⟩
noncomputable def part_kHSum (n : Nat) : Code := partOf Try.f10 n
noncomputable abbrev o_kHSum (n k : Nat) : Oper := (opsAt (part_kHSum n)).getD k default
set_option maxRecDepth 100000 in
set_option maxHeartbeats 4000000 in
theorem kHSum_nil (b : Nat) (w : World) :
    Calls Try.prog 10 #[.pointer none] w (fun e w' => e = .returned (.tuple #[.agg (B (List.replicate 32 0)).toArray, .int .i64 1]) ∧ Keeps Nob w w') := by
  have K0 : Keeps Nob w w := Keeps.refl _ _
  refine sy_enter (part_kHSum 1) ⟨#[.pointer none, undef, undef, undef, undef, undef, undef, undef, undef, undef, undef, undef, undef, undef], []⟩ Try.func10 (by kernel_rfl) (by kernel_rfl) ?_
  refine sy_sq (part_kHSum 2) (part_kHSum 3) ?_
  refine sy_reg ?_
  refine rg_plain 0 (opsAt (part_kHSum 2)) [0, 1] (by kernel_rfl) (by kernel_rfl) ?_
  obtain ⟨V1, eV1⟩ : ∃ V, w.alloc (.cells (zr_u8_32) 29) = V := ⟨_, rfl⟩
  obtain ⟨gr, egr⟩ : ∃ g, w.heap.size = g := ⟨_, rfl⟩
  have n3 : w.heap.size ≤ gr := egr ▸ K0.size
  have h2 : V1.heap[gr]? = some (.cells (zr_u8_32) 29 (0, 0)) := by rw [← eV1, ← egr]; exact heap_alloc_new _ _
  have kV1 : Keeps Nob w V1 := eV1 ▸ (Keeps.refl _ _).alloc _
  refine ps_run (o_kHSum 2 0) (pT gr 0) (w' := V1) (by kernel_rfl) (by kernel_rfl) (by rw [← eV1, ← egr]; exact exec_alloc0 29 (by kernel_rfl) (.agg (zr_u8_32)) (by kernel_rfl)) ?_
  clear eV1
  have K4 : Keeps Nob w V1 := K0.then kV1 (fun _ _ x => x.elim)
  refine ps_k (o_kHSum 2 1) (.int .i64 0) ?_
  refine ps_end ?_
  refine sy_a ⟨#[.pointer none, undef, pT gr 0, .int .i64 0, undef, undef, undef, undef, undef, undef, undef, undef, undef, undef], []⟩ ?_
  refine then_n ?_
  refine sy_sq (part_kHSum 6) (part_kHSum 7) ?_
  refine sy_sq (part_kHSum 12) (part_kHSum 13) ?_
  refine sy_reg ?_
  refine rg_plain 1 (opsAt (part_kHSum 12)) [0, 1] (by kernel_rfl) (by kernel_rfl) ?_
  refine ps_k (o_kHSum 12 0) (.pointer none) ?_
  refine ps_call (o_kHSum 12 1) 34 #[.pointer none] (by kernel_rfl) (by kernel_rfl) (by kernel_rfl) (by kernel_rfl) (enters_of Try.func34 (by kernel_rfl) rfl) ((knone_nil 0 0 _).mono ?_)
  rintro e w1 ⟨rfl, rfl⟩
  refine ⟨_, rfl, ?_⟩
  refine ps_end ?_
  refine sy_a ⟨#[.pointer none, undef, pT gr 0, .int .i64 0, .pointer none, .bool true, undef, undef, undef, undef, undef, undef, undef, undef], []⟩ ?_
  refine then_n ?_
  refine sy_ys (.tmp 5) (part_kHSum 26) (part_kHSum 27) ?_
  refine sy_sq (part_kHSum 52) (part_kHSum 53) ?_
  refine sy_reg ?_
  refine rg_plain 2 (opsAt (part_kHSum 52)) [0, 1, 2] (by kernel_rfl) (by kernel_rfl) ?_
  refine ps_k (o_kHSum 52 0) (.agg zr_u8_32) ?_
  obtain ⟨V5, eV5⟩ : ∃ V, V1.setRow gr (zr_u8_32) = V := ⟨_, rfl⟩
  have kV5 : Keeps (One gr) V1 V5 := eV5 ▸ (Keeps.refl (One gr) _).setRow (fun _ => (rfl : Own.One gr gr)) _
  have h6 : V5.heap[gr]? = some (.cells (zr_u8_32) 29 (0, 0)) := eV5 ▸ setRow_heap _ _ _ _ _ _ h2
  refine ps_skip (o_kHSum 52 1) (w' := V5) (by kernel_rfl) (by kernel_rfl) (by rw [← eV5]; exact exec_store_row 29 (.tmp 2) (.tmp 6) (by kernel_rfl) gr (zr_u8_32) (by kernel_rfl) (by kernel_rfl) 29 (zr_u8_32) h2 (by kernel_rfl) (by kernel_rfl) (by kernel_rfl)) ?_
  clear eV5
  have K7 : Keeps Nob w V5 := K4.then kV5 (fun i hi hm => absurd hi (by unfold Own.One at hm; omega))
  refine ps_k (o_kHSum 52 2) (.int .i64 1) ?_
  refine ps_end ?_
  refine sy_a ⟨#[.pointer none, undef, pT gr 0, .int .i64 1, .pointer none, .bool true, .agg zr_u8_32, undef, undef, undef, undef, undef, undef, undef], []⟩ ?_
  refine then_n ?_
  refine sy_ret (by kernel_rfl) ?_
  refine then_r ?_
  refine sy_out (.tuple #[.agg (zr_u8_32), .int .i64 1]) rfl (results_row_tmp (p := 2) (q := 3) (ty := 29) (by kernel_rfl) _ _ gr 29 (zr_u8_32) (0, 0) _ (.int .i64 1) (by kernel_rfl) h6 Try.underlying29 rfl (by kernel_rfl) (by kernel_rfl)) ?_
  exact ⟨rfl, K7⟩
noncomputable def part_kHCopy (n : Nat) : Code := partOf Try.f13 n
noncomputable abbrev o_kHCopy (n k : Nat) : Oper := (opsAt (part_kHCopy n)).getD k default
set_option maxRecDepth 100000 in
set_option maxHeartbeats 4000000 in
theorem kHCopy_nil (b : Nat) (w : World) :
    Calls Try.prog 13 #[.pointer none] w (fun e w' => ∃ b2, e = .returned (.pointer (some ⟨b2, 0, none⟩)) ∧ w'.heap[b2]? = some (.cells #[.pointer none] 26 (0, 0)) ∧ w.heap.size ≤ b2 ∧ Keeps Nob w w') := by
  have K0 : Keeps Nob w w := Keeps.refl _ _
  refine sy_enter (part_kHCopy 1) ⟨#[.pointer none, undef, undef, undef, undef, undef, undef, undef, undef, undef, undef, undef, undef, undef, undef, undef], []⟩ Try.func13 (by kernel_rfl) (by kernel_rfl) ?_
  refine sy_sq (part_kHCopy 2) (part_kHCopy 3) ?_
  refine sy_reg ?_
  refine rg_plain 0 (opsAt (part_kHCopy 2)) [0] (by kernel_rfl) (by kernel_rfl) ?_
  refine ps_k (o_kHCopy 2 0) (.pointer none) ?_
  refine ps_end ?_
  refine sy_a ⟨#[.pointer none, undef, .pointer none, undef, undef, undef, undef, undef, undef, undef, undef, undef, undef, undef, undef, undef], []⟩ ?_
  refine then_n ?_
  refine sy_sq (part_kHCopy 6) (part_kHCopy 7) ?_
  refine sy_sq (part_kHCopy 12) (part_kHCopy 13) ?_
  refine sy_reg ?_
  refine rg_plain 1 (opsAt (part_kHCopy 12)) [0, 1] (by kernel_rfl) (by kernel_rfl) ?_
  refine ps_k (o_kHCopy 12 0) (.pointer none) ?_
  refine ps_call (o_kHCopy 12 1) 34 #[.pointer none] (by kernel_rfl) (by kernel_rfl) (by kernel_rfl) (by kernel_rfl) (enters_of Try.func34 (by kernel_rfl) rfl) ((knone_nil 0 0 _).mono ?_)
  rintro e w1 ⟨rfl, rfl⟩
  refine ⟨_, rfl, ?_⟩
  refine ps_end ?_
  refine sy_a ⟨#[.pointer none, undef, .pointer none, undef, .pointer none, .bool true, undef, undef, undef, undef, undef, undef, undef, undef, undef, undef], []⟩ ?_
  refine then_n ?_
  refine sy_ys (.tmp 5) (part_kHCopy 26) (part_kHCopy 27) ?_
  refine sy_sq (part_kHCopy 52) (part_kHCopy 53) ?_
  refine sy_reg ?_
  refine rg_plain 2 (opsAt (part_kHCopy 52)) [0, 1, 2] (by kernel_rfl) (by kernel_rfl) ?_
  refine ps_k (o_kHCopy 52 0) (.agg #[.pointer none]) ?_
  obtain ⟨V1, eV1⟩ : ∃ V, w.alloc (.cells (#[.pointer none]) 26) = V := ⟨_, rfl⟩
  obtain ⟨b2, eb2⟩ : ∃ g, w.heap.size = g := ⟨_, rfl⟩
  have n3 : w.heap.size ≤ b2 := eb2 ▸ K0.size
  have h2 : V1.heap[b2]? = some (.cells (#[.pointer none]) 26 (0, 0)) := by rw [← eV1, ← eb2]; exact heap_alloc_new _ _
  have kV1 : Keeps Nob w V1 := eV1 ▸ (Keeps.refl _ _).alloc _
  refine ps_run (o_kHCopy 52 1) (pT b2 0) (w' := V1) (by kernel_rfl) (by kernel_rfl) (by rw [← eV1, ← eb2]; exact exec_box 26 (.tmp 6) (by kernel_rfl) (.agg #[.pointer none]) (by kernel_rfl)) ?_
  clear eV1
  have K4 : Keeps Nob w V1 := K0.then kV1 (fun _ _ x => x.elim)
  refine ps_k (o_kHCopy 52 2) (pT b2 0) ?_
  refine ps_end ?_
  refine sy_a ⟨#[.pointer none, undef, pT b2 0, undef, .pointer none, .bool true, .agg #[.pointer none], pT b2 0, undef, undef, undef, undef, undef, undef, undef, undef], []⟩ ?_
  refine then_n ?_
  refine sy_ret (by kernel_rfl) ?_
  refine then_r ?_
  refine sy_out (.pointer (some ⟨b2, 0, none⟩)) rfl (by kernel_rfl) ?_
  exact ⟨b2, rfl, h2, by omega, K4⟩
set_option maxRecDepth 100000 in
set_option maxHeartbeats 4000000 in
theorem kHWrite_zero (b : Nat) (v : Value) (w : World) (hb : w.heap[b]? = some (.cells #[.pointer none] 26 (0, 0))) :
    Calls Try.prog 11 #[.pointer (some ⟨b, 0, none⟩), v] w (fun e w' => e = .returned (.int .i64 1) ∧ w = w') := by
  have K0 : Keeps Nob w w := Keeps.refl _ _
  refine sy_enter (part_kHWrite 1) ⟨#[pT b 0, v, undef, undef, undef, undef, undef, undef, undef, undef, undef, undef, undef], []⟩ Try.func11 (by kernel_rfl) (by kernel_rfl) ?_
  refine sy_sq (part_kHWrite 2) (part_kHWrite 3) ?_
  refine sy_reg ?_
  refine rg_plain 0 (opsAt (part_kHWrite 2)) [0] (by kernel_rfl) (by kernel_rfl) ?_
  refine ps_k (o_kHWrite 2 0) (.int .i64 0) ?_
  refine ps_end ?_
  refine sy_a ⟨#[pT b 0, v, undef, undef, .int .i64 0, undef, undef, undef, undef, undef, undef, undef, undef], []⟩ ?_
  refine then_n ?_
  refine sy_sq (part_kHWrite 6) (part_kHWrite 7) ?_
  refine sy_sq (part_kHWrite 12) (part_kHWrite 13) ?_
  refine sy_reg ?_
  refine rg_plain 1 (opsAt (part_kHWrite 12)) [0, 1] (by kernel_rfl) (by kernel_rfl) ?_
  refine ps_k (o_kHWrite 12 0) (pT b 0) ?_
  refine ps_call (o_kHWrite 12 1) 34 #[pT b 0] (by kernel_rfl) (by kernel_rfl) (by kernel_rfl) (by kernel_rfl) (enters_of Try.func34 (by kernel_rfl) rfl) ((knone_zero b 0 _ hb).mono ?_)
  rintro e w1 ⟨rfl, rfl⟩
  refine ⟨_, rfl, ?_⟩
  refine ps_end ?_
  refine sy_a ⟨#[pT b 0, v, undef, undef, .int .i64 0, pT b 0, .bool true, undef, undef, undef, undef, undef, undef], []⟩ ?_
  refine then_n ?_
  refine sy_ys (.tmp 6) (part_kHWrite 26) (part_kHWrite 27) ?_
  refine sy_sq (part_kHWrite 52) (part_kHWrite 53) ?_
  refine sy_reg ?_
  refine rg_plain 2 (opsAt (part_kHWrite 52)) [0] (by kernel_rfl) (by kernel_rfl) ?_
  refine ps_k (o_kHWrite 52 0) (.int .i64 1) ?_
  refine ps_end ?_
  refine sy_a ⟨#[pT b 0, v, undef, undef, .int .i64 1, pT b 0, .bool true, undef, undef, undef, undef, undef, undef], []⟩ ?_
  refine then_n ?_
  refine sy_ret (by kernel_rfl) ?_
  refine then_r ?_
  refine sy_out (.int .i64 1) rfl (by kernel_rfl) ?_
  exact ⟨rfl, rfl⟩
set_option maxRecDepth 100000 in
set_option maxHeartbeats 4000000 in
theorem kHLen_zero (b : Nat) (w : World) (hb : w.heap[b]? = some (.cells #[.pointer none] 26 (0, 0))) :
    Calls Try.prog 12 #[.pointer (some ⟨b, 0, none⟩)] w (fun e w' => e = .returned (.int .i64 0) ∧ w = w') := by
  have K0 : Keeps Nob w w := Keeps.refl _ _
  refine sy_enter (part_kHLen 1) ⟨#[pT b 0, undef, undef, undef, undef, undef, undef, undef, undef, undef, undef, undef], []⟩ Try.func12 (by kernel_rfl) (by kernel_rfl) ?_
  refine sy_sq (part_kHLen 2) (part_kHLen 3) ?_
  refine sy_reg ?_
  refine rg_plain 0 (opsAt (part_kHLen 2)) [0] (by kernel_rfl) (by kernel_rfl) ?_
  refine ps_k (o_kHLen 2 0) (.int .i64 0) ?_
  refine ps_end ?_
  refine sy_a ⟨#[pT b 0, undef, .int .i64 0, undef, undef, undef, undef, undef, undef, undef, undef, undef], []⟩ ?_
  refine then_n ?_
  refine sy_sq (part_kHLen 6) (part_kHLen 7) ?_
  refine sy_sq (part_kHLen 12) (part_kHLen 13) ?_
  refine sy_reg ?_
  refine rg_plain 1 (opsAt (part_kHLen 12)) [0, 1] (by kernel_rfl) (by kernel_rfl) ?_
  refine ps_k (o_kHLen 12 0) (pT b 0) ?_
  refine ps_call (o_kHLen 12 1) 34 #[pT b 0] (by kernel_rfl) (by kernel_rfl) (by kernel_rfl) (by kernel_rfl) (enters_of Try.func34 (by kernel_rfl) rfl) ((knone_zero b 0 _ hb).mono ?_)
  rintro e w1 ⟨rfl, rfl⟩
  refine ⟨_, rfl, ?_⟩
  refine ps_end ?_
  refine sy_a ⟨#[pT b 0, undef, .int .i64 0, pT b 0, .bool true, undef, undef, undef, undef, undef, undef, undef], []⟩ ?_
  refine then_n ?_
  refine sy_ys (.tmp 4) (part_kHLen 26) (part_kHLen 27) ?_
  refine sy_sq (part_kHLen 52) (part_kHLen 53) ?_
  refine sy_reg ?_
  refine rg_plain 2 (opsAt (part_kHLen 52)) [0] (by kernel_rfl) (by kernel_rfl) ?_
  refine ps_k (o_kHLen 52 0) (.int .i64 0) ?_
  refine ps_end ?_
  refine sy_a ⟨#[pT b 0, undef, .int .i64 0, pT b 0, .bool true, undef, undef, undef, undef, undef, undef, undef], []⟩ ?_
  refine then_n ?_
  refine sy_ret (by kernel_rfl) ?_
  refine then_r ?_
  refine sy_out (.int .i64 0) rfl (by kernel_rfl) ?_
  exact ⟨rfl, rfl⟩
set_option maxRecDepth 100000 in
set_option maxHeartbeats 4000000 in
theorem kHSum_zero (b : Nat) (w : World) (hb : w.heap[b]? = some (.cells #[.pointer none] 26 (0, 0))) :
    Calls Try.prog 10 #[.pointer (some ⟨b, 0, none⟩)] w (fun e w' => e = .returned (.tuple #[.agg (B (List.replicate 32 0)).toArray, .int .i64 1]) ∧ Keeps Nob w w') := by
  have K0 : Keeps Nob w w := Keeps.refl _ _
  refine sy_enter (part_kHSum 1) ⟨#[pT b 0, undef, undef, undef, undef, undef, undef, undef, undef, undef, undef, undef, undef, undef], []⟩ Try.func10 (by kernel_rfl) (by kernel_rfl) ?_
  refine sy_sq (part_kHSum 2) (part_kHSum 3) ?_
  refine sy_reg ?_
  refine rg_plain 0 (opsAt (part_kHSum 2)) [0, 1] (by kernel_rfl) (by kernel_rfl) ?_
  obtain ⟨V1, eV1⟩ : ∃ V, w.alloc (.cells (zr_u8_32) 29) = V := ⟨_, rfl⟩
  obtain ⟨gr, egr⟩ : ∃ g, w.heap.size = g := ⟨_, rfl⟩
  have n3 : b < gr := egr ▸ lt_of_block hb
  have n4 : w.heap.size ≤ gr := egr ▸ K0.size
  have h2 : V1.heap[gr]? = some (.cells (zr_u8_32) 29 (0, 0)) := by rw [← eV1, ← egr]; exact heap_alloc_new _ _
  have kV1 : Keeps Nob w V1 := eV1 ▸ (Keeps.refl _ _).alloc _
  refine ps_run (o_kHSum 2 0) (pT gr 0) (w' := V1) (by kernel_rfl) (by kernel_rfl) (by rw [← eV1, ← egr]; exact exec_alloc0 29 (by kernel_rfl) (.agg (zr_u8_32)) (by kernel_rfl)) ?_
  clear eV1
  have h5 : V1.heap[b]? = some (.cells (#[.pointer none]) 26 (0, 0)) := (kV1.block b (lt_of_block hb) (fun x => x)).trans hb
  have K6 : Keeps Nob w V1 := K0.then kV1 (fun _ _ x => x.elim)
  refine ps_k (o_kHSum 2 1) (.int .i64 0) ?_
  refine ps_end ?_
  refine sy_a ⟨#[pT b 0, undef, pT gr 0, .int .i64 0, undef, undef, undef, undef, undef, undef, undef, undef, undef, undef], []⟩ ?_
  refine then_n ?_
  refine sy_sq (part_kHSum 6) (part_kHSum 7) ?_
  refine sy_sq (part_kHSum 12) (part_kHSum 13) ?_
  refine sy_reg ?_
  refine rg_plain 1 (opsAt (part_kHSum 12)) [0, 1] (by kernel_rfl) (by kernel_rfl) ?_
  refine ps_k (o_kHSum 12 0) (pT b 0) ?_
  refine ps_call (o_kHSum 12 1) 34 #[pT b 0] (by kernel_rfl) (by kernel_rfl) (by kernel_rfl) (by kernel_rfl) (enters_of Try.func34 (by kernel_rfl) rfl) ((knone_zero b 0 _ h5).mono ?_)
  rintro e w1 ⟨rfl, rfl⟩
  refine ⟨_, rfl, ?_⟩
  refine ps_end ?_
  refine sy_a ⟨#[pT b 0, undef, pT gr 0, .int .i64 0, pT b 0, .bool true, undef, undef, undef, undef, undef, undef, undef, undef], []⟩ ?_
  refine then_n ?_
  refine sy_ys (.tmp 5) (part_kHSum 26) (part_kHSum 27) ?_
  refine sy_sq (part_kHSum 52) (part_kHSum 53) ?_
  refine sy_reg ?_
  refine rg_plain 2 (opsAt (part_kHSum 52)) [0, 1, 2] (by kernel_rfl) (by kernel_rfl) ?_
  refine ps_k (o_kHSum 52 0) (.agg zr_u8_32) ?_
  obtain ⟨V7, eV7⟩ : ∃ V, V1.setRow gr (zr_u8_32) = V := ⟨_, rfl⟩
  have kV7 : Keeps (One gr) V1 V7 := eV7 ▸ (Keeps.refl (One gr) _).setRow (fun _ => (rfl : Own.One gr gr)) _
  have h8 : V7.heap[gr]? = some (.cells (zr_u8_32) 29 (0, 0)) := eV7 ▸ setRow_heap _ _ _ _ _ _ h2
  refine ps_skip (o_kHSum 52 1) (w' := V7) (by kernel_rfl) (by kernel_rfl) (by rw [← eV7]; exact exec_store_row 29 (.tmp 2) (.tmp 6) (by kernel_rfl) gr (zr_u8_32) (by kernel_rfl) (by kernel_rfl) 29 (zr_u8_32) h2 (by kernel_rfl) (by kernel_rfl) (by kernel_rfl)) ?_
  clear eV7
  have h9 : V7.heap[b]? = some (.cells (#[.pointer none]) 26 (0, 0)) := (kV7.block b (lt_of_block h5) (fun e => by unfold Own.One at e; omega)).trans h5
  have K10 : Keeps Nob w V7 := K6.then kV7 (fun i hi hm => absurd hi (by unfold Own.One at hm; omega))
  refine ps_k (o_kHSum 52 2) (.int .i64 1) ?_
  refine ps_end ?_
  refine sy_a ⟨#[pT b 0, undef, pT gr 0, .int .i64 1, pT b 0, .bool true, .agg zr_u8_32, undef, undef, undef, undef, undef, undef, undef], []⟩ ?_
  refine then_n ?_
  refine sy_ret (by kernel_rfl) ?_
  refine then_r ?_
  refine sy_out (.tuple #[.agg (zr_u8_32), .int .i64 1]) rfl (results_row_tmp (p := 2) (q := 3) (ty := 29) (by kernel_rfl) _ _ gr 29 (zr_u8_32) (0, 0) _ (.int .i64 1) (by kernel_rfl) h8 Try.underlying29 rfl (by kernel_rfl) (by kernel_rfl)) ?_
  exact ⟨rfl, K10⟩
set_option maxRecDepth 100000 in
set_option maxHeartbeats 4000000 in
theorem kHCopy_zero (b : Nat) (w : World) (hb : w.heap[b]? = some (.cells #[.pointer none] 26 (0, 0))) :
    Calls Try.prog 13 #[.pointer (some ⟨b, 0, none⟩)] w (fun e w' => ∃ b2, e = .returned (.pointer (some ⟨b2, 0, none⟩)) ∧ w'.heap[b2]? = some (.cells #[.pointer none] 26 (0, 0)) ∧ w.heap.size ≤ b2 ∧ Keeps Nob w w') := by
  have K0 : Keeps Nob w w := Keeps.refl _ _
  refine sy_enter (part_kHCopy 1) ⟨#[pT b 0, undef, undef, undef, undef, undef, undef, undef, undef, undef, undef, undef, undef, undef, undef, undef], []⟩ Try.func13 (by kernel_rfl) (by kernel_rfl) ?_
  refine sy_sq (part_kHCopy 2) (part_kHCopy 3) ?_
  refine sy_reg ?_
  refine rg_plain 0 (opsAt (part_kHCopy 2)) [0] (by kernel_rfl) (by kernel_rfl) ?_
  refine ps_k (o_kHCopy 2 0) (.pointer none) ?_
  refine ps_end ?_
  refine sy_a ⟨#[pT b 0, undef, .pointer none, undef, undef, undef, undef, undef, undef, undef, undef, undef, undef, undef, undef, undef], []⟩ ?_
  refine then_n ?_
  refine sy_sq (part_kHCopy 6) (part_kHCopy 7) ?_
  refine sy_sq (part_kHCopy 12) (part_kHCopy 13) ?_
  refine sy_reg ?_
  refine rg_plain 1 (opsAt (part_kHCopy 12)) [0, 1] (by kernel_rfl) (by kernel_rfl) ?_
  refine ps_k (o_kHCopy 12 0) (pT b 0) ?_
  refine ps_call (o_kHCopy 12 1) 34 #[pT b 0] (by kernel_rfl) (by kernel_rfl) (by kernel_rfl) (by kernel_rfl) (enters_of Try.func34 (by kernel_rfl) rfl) ((knone_zero b 0 _ hb).mono ?_)
  rintro e w1 ⟨rfl, rfl⟩
  refine ⟨_, rfl, ?_⟩
  refine ps_end ?_
  refine sy_a ⟨#[pT b 0, undef, .pointer none, undef, pT b 0, .bool true, undef, undef, undef, undef, undef, undef, undef, undef, undef, undef], []⟩ ?_
  refine then_n ?_
  refine sy_ys (.tmp 5) (part_kHCopy 26) (part_kHCopy 27) ?_
  refine sy_sq (part_kHCopy 52) (part_kHCopy 53) ?_
  refine sy_reg ?_
  refine rg_plain 2 (opsAt (part_kHCopy 52)) [0, 1, 2] (by kernel_rfl) (by kernel_rfl) ?_
  refine ps_k (o_kHCopy 52 0) (.agg #[.pointer none]) ?_
  obtain ⟨V1, eV1⟩ : ∃ V, w.alloc (.cells (#[.pointer none]) 26) = V := ⟨_, rfl⟩
  obtain ⟨b2, eb2⟩ : ∃ g, w.heap.size = g := ⟨_, rfl⟩
  have n3 : b < b2 := eb2 ▸ lt_of_block hb
  have n4 : w.heap.size ≤ b2 := eb2 ▸ K0.size
  have h2 : V1.heap[b2]? = some (.cells (#[.pointer none]) 26 (0, 0)) := by rw [← eV1, ← eb2]; exact heap_alloc_new _ _
  have kV1 : Keeps Nob w V1 := eV1 ▸ (Keeps.refl _ _).alloc _
  refine ps_run (o_kHCopy 52 1) (pT b2 0) (w' := V1) (by kernel_rfl) (by kernel_rfl) (by rw [← eV1, ← eb2]; exact exec_box 26 (.tmp 6) (by kernel_rfl) (.agg #[.pointer none]) (by kernel_rfl)) ?_
  clear eV1
  have h5 : V1.heap[b]? = some (.cells (#[.pointer none]) 26 (0, 0)) := (kV1.block b (lt_of_block hb) (fun x => x)).trans hb
  have K6 : Keeps Nob w V1 := K0.then kV1 (fun _ _ x => x.elim)
  refine ps_k (o_kHCopy 52 2) (pT b2 0) ?_
  refine ps_end ?_
  refine sy_a ⟨#[pT b 0, undef, pT b2 0, undef, pT b 0, .bool true, .agg #[.pointer none], pT b2 0, undef, undef, undef, undef, undef, undef, undef, undef], []⟩ ?_
  refine then_n ?_
  refine sy_ret (by kernel_rfl) ?_
  refine then_r ?_
  refine sy_out (.pointer (some ⟨b2, 0, none⟩)) rfl (by kernel_rfl) ?_
  exact ⟨b2, rfl, h2, by omega, K6⟩
set_option maxRecDepth 100000 in
set_option maxHeartbeats 4000000 in
theorem kHWrite_ok (b p : Nat) (l x : List UInt8) (A : Option Addr) (cap : Nat) (w : World) (h : HashAt w b p l) (hx : BytesAt w (.slice A x.length cap) x) (hA : 0 < x.length → ∀ j, (Value.slice A x.length cap).ownBlock = some j → j ≠ p) (hl : l.length + x.length ≤ 9000000000000000000) :
    Calls Try.prog 11 #[.pointer (some ⟨b, 0, none⟩), .slice A x.length cap] w (fun e w' => e = .returned (.int .i64 0) ∧ HashAt w' b p (l ++ x) ∧ Keeps (One p) w w') := by
  have hb := h.cell
  have hp := h.sp
  have hne := h.ne
  unfold SpAt at hp
  have K0 : Keeps (One p) w w := Keeps.refl _ _
  refine sy_enter (part_kHWrite 1) ⟨#[pT b 0, .slice A x.length cap, undef, undef, undef, undef, undef, undef, undef, undef, undef, undef, undef], []⟩ Try.func11 (by kernel_rfl) (by kernel_rfl) ?_
  refine sy_sq (part_kHWrite 2) (part_kHWrite 3) ?_
  refine sy_reg ?_
  refine rg_plain 0 (opsAt (part_kHWrite 2)) [0] (by kernel_rfl) (by kernel_rfl) ?_
  refine ps_k (o_kHWrite 2 0) (.int .i64 0) ?_
  refine ps_end ?_
  refine sy_a ⟨#[pT b 0, .slice A x.length cap, undef, undef, .int .i64 0, undef, undef, undef, undef, undef, undef, undef, undef], []⟩ ?_
  refine then_n ?_
  refine sy_sq (part_kHWrite 6) (part_kHWrite 7) ?_
  refine sy_sq (part_kHWrite 12) (part_kHWrite 13) ?_
  refine sy_reg ?_
  refine rg_plain 1 (opsAt (part_kHWrite 12)) [0, 1] (by kernel_rfl) (by kernel_rfl) ?_
  refine ps_k (o_kHWrite 12 0) (pT b 0) ?_
  refine ps_call (o_kHWrite 12 1) 34 #[pT b 0] (by kernel_rfl) (by kernel_rfl) (by kernel_rfl) (by kernel_rfl) (enters_of Try.func34 (by kernel_rfl) rfl) ((knone_ok b p _ hb).mono ?_)
  rintro e w1 ⟨rfl, rfl⟩
  refine ⟨_, rfl, ?_⟩
  refine ps_end ?_
  refine sy_a ⟨#[pT b 0, .slice A x.length cap, undef, undef, .int .i64 0, pT b 0, .bool false, undef, undef, undef, undef, undef, undef], []⟩ ?_
  refine then_n ?_
  refine sy_n (.tmp 6) (part_kHWrite 26) (part_kHWrite 27) ?_
  refine sy_sk ?_
  refine then_n ?_
  refine sy_sq (part_kHWrite 14) (part_kHWrite 15) ?_
  refine sy_reg ?_
  refine rg_plain 3 (opsAt (part_kHWrite 14)) [0, 1, 2, 3, 4, 5] (by kernel_rfl) (by kernel_rfl) ?_
  refine ps_k (o_kHWrite 14 0) (pT b 0) ?_
  refine ps_k (o_kHWrite 14 1) (pT b 0) ?_
  refine ps_k (o_kHWrite 14 2) (pT b 0) ?_
  refine ps_p (o_kHWrite 14 3) (pT p 0) (exec_load_cell 24 (.tmp 9) (by kernel_rfl) ⟨b, 0, none⟩ (by kernel_rfl) _ _ Try.underlying24 rfl ((cell_of_row _ _ _ _ _ _ (hb)).trans (by kernel_rfl))) ?_
  refine ps_k (o_kHWrite 14 4) (.slice A x.length cap) ?_
  refine ps_call (o_kHWrite 14 5) 36 #[pT p 0, .slice A x.length cap] (by kernel_rfl) (by kernel_rfl) (by kernel_rfl) (by kernel_rfl) (enters_of Try.func36 (by kernel_rfl) rfl) ((kwrite_ok p l x A cap _ hp hx hA hl).mono ?_)
  rintro e V1 ⟨rfl, h2, kV1⟩
  refine ⟨_, rfl, ?_⟩
  have h3 : V1.heap[b]? = some (.cells (#[.pointer (some ⟨p, 0, none⟩)]) 26 (0, 0)) := (kV1.block b (lt_of_block hb) (fun e => by unfold Own.One at e; omega)).trans hb
  have h4 : BytesAt V1 (.slice A x.length cap) x := hx.keeps0 kV1 (fun hn j hj e => hA hn j hj e)
  have K5 : Keeps (One p) w V1 := K0.then kV1 (fun i hi hm => by unfold Own.One at hm; subst hm; exact rfl)
  refine ps_end ?_
  refine sy_a ⟨#[pT b 0, .slice A x.length cap, undef, undef, .int .i64 0, pT b 0, .bool false, pT b 0, pT b 0, pT b 0, pT p 0, .slice A x.length cap, .tuple #[]], []⟩ ?_
  refine then_n ?_
  refine sy_sq (part_kHWrite 30) (part_kHWrite 31) ?_
  refine sy_reg ?_
  refine rg_plain 4 (opsAt (part_kHWrite 30)) [0] (by kernel_rfl) (by kernel_rfl) ?_
  refine ps_k (o_kHWrite 30 0) (.int .i64 0) ?_
  refine ps_end ?_
  refine sy_a ⟨#[pT b 0, .slice A x.length cap, undef, undef, .int .i64 0, pT b 0, .bool false, pT b 0, pT b 0, pT b 0, pT p 0, .slice A x.length cap, .tuple #[]], []⟩ ?_
  refine then_n ?_
  refine sy_ret (by kernel_rfl) ?_
  refine sy_out (.int .i64 0) rfl (by kernel_rfl) ?_
  exact ⟨rfl, ⟨h3, h2, hne⟩, K5⟩
set_option maxRecDepth 100000 in
set_option maxHeartbeats 4000000 in
theorem kHLen_ok (b p : Nat) (l : List UInt8) (w : World) (h : HashAt w b p l) :
    Calls Try.prog 12 #[.pointer (some ⟨b, 0, none⟩)] w (fun e w' => e = .returned (.int .i64 ((l.length : Nat) : Int)) ∧ w = w') := by
  have hb := h.cell
  have hp := h.sp
  have hne := h.ne
  unfold SpAt at hp
  have K0 : Keeps Nob w w := Keeps.refl _ _
  refine sy_enter (part_kHLen 1) ⟨#[pT b 0, undef, undef, undef, undef, undef, undef, undef, undef, undef, undef, undef], []⟩ Try.func12 (by kernel_rfl) (by kernel_rfl) ?_
  refine sy_sq (part_kHLen 2) (part_kHLen 3) ?_
  refine sy_reg ?_
  refine rg_plain 0 (opsAt (part_kHLen 2)) [0] (by kernel_rfl) (by kernel_rfl) ?_
  refine ps_k (o_kHLen 2 0) (.int .i64 0) ?_
  refine ps_end ?_
  refine sy_a ⟨#[pT b 0, undef, .int .i64 0, undef, undef, undef, undef, undef, undef, undef, undef, undef], []⟩ ?_
  refine then_n ?_
  refine sy_sq (part_kHLen 6) (part_kHLen 7) ?_
  refine sy_sq (part_kHLen 12) (part_kHLen 13) ?_
  refine sy_reg ?_
  refine rg_plain 1 (opsAt (part_kHLen 12)) [0, 1] (by kernel_rfl) (by kernel_rfl) ?_
  refine ps_k (o_kHLen 12 0) (pT b 0) ?_
  refine ps_call (o_kHLen 12 1) 34 #[pT b 0] (by kernel_rfl) (by kernel_rfl) (by kernel_rfl) (by kernel_rfl) (enters_of Try.func34 (by kernel_rfl) rfl) ((knone_ok b p _ hb).mono ?_)
  rintro e w1 ⟨rfl, rfl⟩
  refine ⟨_, rfl, ?_⟩
  refine ps_end ?_
  refine sy_a ⟨#[pT b 0, undef, .int .i64 0, pT b 0, .bool false, undef, undef, undef, undef, undef, undef, undef], []⟩ ?_
  refine then_n ?_
  refine sy_n (.tmp 4) (part_kHLen 26) (part_kHLen 27) ?_
  refine sy_sk ?_
  refine then_n ?_
  refine sy_sq (part_kHLen 14) (part_kHLen 15) ?_
  refine sy_reg ?_
  refine rg_plain 3 (opsAt (part_kHLen 14)) [0, 1, 2, 3, 4, 5, 6, 7] (by kernel_rfl) (by kernel_rfl) ?_
  refine ps_k (o_kHLen 14 0) (pT b 0) ?_
  refine ps_k (o_kHLen 14 1) (pT b 0) ?_
  refine ps_k (o_kHLen 14 2) (pT b 0) ?_
  refine ps_p (o_kHLen 14 3) (pT p 0) (exec_load_cell 24 (.tmp 7) (by kernel_rfl) ⟨b, 0, none⟩ (by kernel_rfl) _ _ Try.underlying24 rfl ((cell_of_row _ _ _ _ _ _ (hb)).trans (by kernel_rfl))) ?_
  refine ps_k (o_kHLen 14 4) (pT p 0) ?_
  refine ps_k (o_kHLen 14 5) (pT p 162) ?_
  refine ps_p (o_kHLen 14 6) (iN l.length) (exec_load_cell 3 (.tmp 10) (by kernel_rfl) ⟨p, 162, none⟩ (by kernel_rfl) _ _ Try.underlying3 rfl ((cell_of_row _ _ _ _ _ _ (hp)).trans (Sp_m _ _ _ _ (Kec.len_stateOf _) (blkOf_len _)))) ?_
  refine ps_k (o_kHLen 14 7) (iN l.length) ?_
  refine ps_end ?_
  refine sy_a ⟨#[pT b 0, undef, iN l.length, pT b 0, .bool false, pT b 0, pT b 0, pT b 0, pT p 0, pT p 0, pT p 162, iN l.length], []⟩ ?_
  refine then_n ?_
  refine sy_ret (by kernel_rfl) ?_
  refine sy_out (.int .i64 ((l.length : Nat) : Int)) rfl (by kernel_rfl) ?_
  exact ⟨rfl, rfl⟩
set_option maxRecDepth 100000 in
set_option maxHeartbeats 4000000 in
theorem kHSum_ok (b p : Nat) (l : List UInt8) (w : World) (h : HashAt w b p l) :
    Calls Try.prog 10 #[.pointer (some ⟨b, 0, none⟩)] w (fun e w' => e = .returned (.tuple #[.agg (B (Kec.sum l)).toArray, .int .i64 0]) ∧ Keeps Nob w w') := by
  have hb := h.cell
  have hp := h.sp
  have hne := h.ne
  unfold SpAt at hp
  have K0 : Keeps Nob w w := Keeps.refl _ _
  refine sy_enter (part_kHSum 1) ⟨#[pT b 0, undef, undef, undef, undef, undef, undef, undef, undef, undef, undef, undef, undef, undef], []⟩ Try.func10 (by kernel_rfl) (by kernel_rfl) ?_
  refine sy_sq (part_kHSum 2) (part_kHSum 3) ?_
  refine sy_reg ?_
  refine rg_plain 0 (opsAt (part_kHSum 2)) [0, 1] (by kernel_rfl) (by kernel_rfl) ?_
  obtain ⟨V1, eV1⟩ : ∃ V, w.alloc (.cells (zr_u8_32) 29) = V := ⟨_, rfl⟩
  obtain ⟨gr, egr⟩ : ∃ g, w.heap.size = g := ⟨_, rfl⟩
  have n3 : b < gr := egr ▸ lt_of_block hb
  have n4 : p < gr := egr ▸ lt_of_block hp
  have n5 : w.heap.size ≤ gr := egr ▸ K0.size
  have h2 : V1.heap[gr]? = some (.cells (zr_u8_32) 29 (0, 0)) := by rw [← eV1, ← egr]; exact heap_alloc_new _ _
  have kV1 : Keeps Nob w V1 := eV1 ▸ (Keeps.refl _ _).alloc _
  refine ps_run (o_kHSum 2 0) (pT gr 0) (w' := V1) (by kernel_rfl) (by kernel_rfl) (by rw [← eV1, ← egr]; exact exec_alloc0 29 (by kernel_rfl) (.agg (zr_u8_32)) (by kernel_rfl)) ?_
  clear eV1
  have h6 : V1.heap[b]? = some (.cells (#[.pointer (some ⟨p, 0, none⟩)]) 26 (0, 0)) := (kV1.block b (lt_of_block hb) (fun x => x)).trans hb
  have h7 : V1.heap[p]? = some (.cells (Sp (Kec.stateOf l) (blkOf l) (l.length % 136) l.length) 64 (0, 0)) := (kV1.block p (lt_of_block hp) (fun x => x)).trans hp
  have K8 : Keeps Nob w V1 := K0.then kV1 (fun _ _ x => x.elim)
  refine ps_k (o_kHSum 2 1) (.int .i64 0) ?_
  refine ps_end ?_
  refine sy_a ⟨#[pT b 0, undef, pT gr 0, .int .i64 0, undef, undef, undef, undef, undef, undef, undef, undef, undef, undef], []⟩ ?_
  refine then_n ?_
  refine sy_sq (part_kHSum 6) (part_kHSum 7) ?_
  refine sy_sq (part_kHSum 12) (part_kHSum 13) ?_
  refine sy_reg ?_
  refine rg_plain 1 (opsAt (part_kHSum 12)) [0, 1] (by kernel_rfl) (by kernel_rfl) ?_
  refine ps_k (o_kHSum 12 0) (pT b 0) ?_
  refine ps_call (o_kHSum 12 1) 34 #[pT b 0] (by kernel_rfl) (by kernel_rfl) (by kernel_rfl) (by kernel_rfl) (enters_of Try.func34 (by kernel_rfl) rfl) ((knone_ok b p _ h6).mono ?_)
  rintro e w1 ⟨rfl, rfl⟩
  refine ⟨_, rfl, ?_⟩
  refine ps_end ?_
  refine sy_a ⟨#[pT b 0, undef, pT gr 0, .int .i64 0, pT b 0, .bool false, undef, undef, undef, undef, undef, undef, undef, undef], []⟩ ?_
  refine then_n ?_
  refine sy_n (.tmp 5) (part_kHSum 26) (part_kHSum 27) ?_
  refine sy_sk ?_
  refine then_n ?_
  refine sy_sq (part_kHSum 14) (part_kHSum 15) ?_
  refine sy_reg ?_
  refine rg_plain 3 (opsAt (part_kHSum 14)) [0, 1, 2, 3, 4, 5, 6, 7, 8] (by kernel_rfl) (by kernel_rfl) ?_
  refine ps_k (o_kHSum 14 0) (pT b 0) ?_
  refine ps_k (o_kHSum 14 1) (pT b 0) ?_
  refine ps_k (o_kHSum 14 2) (pT b 0) ?_
  refine ps_p (o_kHSum 14 3) (pT p 0) (exec_load_cell 24 (.tmp 9) (by kernel_rfl) ⟨b, 0, none⟩ (by kernel_rfl) _ _ Try.underlying24 rfl ((cell_of_row _ _ _ _ _ _ (h6)).trans (by kernel_rfl))) ?_
  refine ps_k (o_kHSum 14 4) (pT p 0) ?_
  refine ps_p (o_kHSum 14 5) (.agg (Sp (Kec.stateOf l) (blkOf l) (l.length % 136) l.length)) (exec_load_row 64 (.tmp 11) (by kernel_rfl) p (by kernel_rfl) _ _ (0, 0) _ (h7) Try.underlying64 rfl (by rw [Sp_size _ _ _ _ (Kec.len_stateOf _) (blkOf_len _)]; kernel_rfl)) ?_
  refine ps_call (o_kHSum 14 6) 35 #[.agg (Sp (Kec.stateOf l) (blkOf l) (l.length % 136) l.length)] (by kernel_rfl) (by kernel_rfl) (by kernel_rfl) (by kernel_rfl) (enters_of Try.func35 (by kernel_rfl) rfl) ((ksum_ok l _).mono ?_)
  rintro e V9 ⟨rfl, kV9⟩
  refine ⟨_, rfl, ?_⟩
  have h10 : V9.heap[b]? = some (.cells (#[.pointer (some ⟨p, 0, none⟩)]) 26 (0, 0)) := (kV9.block b (lt_of_block h6) (fun x => x)).trans h6
  have h11 : V9.heap[p]? = some (.cells (Sp (Kec.stateOf l) (blkOf l) (l.length % 136) l.length) 64 (0, 0)) := (kV9.block p (lt_of_block h7) (fun x => x)).trans h7
  have h12 : V9.heap[gr]? = some (.cells (zr_u8_32) 29 (0, 0)) := (kV9.block gr (lt_of_block h2) (fun x => x)).trans h2
  have K13 : Keeps Nob w V9 := K8.then kV9 (fun _ _ x => x.elim)
  obtain ⟨V14, eV14⟩ : ∃ V, V9.setRow gr ((B (Kec.sum l)).toArray) = V := ⟨_, rfl⟩
  have kV14 : Keeps (One gr) V9 V14 := eV14 ▸ (Keeps.refl (One gr) _).setRow (fun _ => (rfl : Own.One gr gr)) _
  have h15 : V14.heap[gr]? = some (.cells ((B (Kec.sum l)).toArray) 29 (0, 0)) := eV14 ▸ setRow_heap _ _ _ _ _ _ h12
  refine ps_skip (o_kHSum 14 7) (w' := V14) (by kernel_rfl) (by kernel_rfl) (by rw [← eV14]; exact exec_store_row 29 (.tmp 2) (.tmp 13) (by kernel_rfl) gr ((B (Kec.sum l)).toArray) (by kernel_rfl) (by kernel_rfl) 29 (zr_u8_32) h12 (by rw [Bz_size, Kec.sum_len]; kernel_rfl) (by rw [Bz_size, Kec.sum_len]; rfl) (by rw [List.all_toArray]; exact List.all_eq_true.2 (B_one _))) ?_
  clear eV14
  have h16 : V14.heap[b]? = some (.cells (#[.pointer (some ⟨p, 0, none⟩)]) 26 (0, 0)) := (kV14.block b (lt_of_block h10) (fun e => by unfold Own.One at e; omega)).trans h10
  have h17 : V14.heap[p]? = some (.cells (Sp (Kec.stateOf l) (blkOf l) (l.length % 136) l.length) 64 (0, 0)) := (kV14.block p (lt_of_block h11) (fun e => by unfold Own.One at e; omega)).trans h11
  have K18 : Keeps Nob w V14 := K13.then kV14 (fun i hi hm => absurd hi (by unfold Own.One at hm; omega))
  refine ps_k (o_kHSum 14 8) (.int .i64 0) ?_
  refine ps_end ?_
  refine sy_a ⟨#[pT b 0, undef, pT gr 0, .int .i64 0, pT b 0, .bool false, undef, pT b 0, pT b 0, pT b 0, pT p 0, pT p 0, .agg (Sp (Kec.stateOf l) (blkOf l) (l.length % 136) l.length), .agg (B (Kec.sum l)).toArray], []⟩ ?_
  refine then_n ?_
  refine sy_ret (by kernel_rfl) ?_
  refine sy_out (.tuple #[.agg ((B (Kec.sum l)).toArray), .int .i64 0]) rfl (results_row_tmp (p := 2) (q := 3) (ty := 29) (by kernel_rfl) _ _ gr 29 ((B (Kec.sum l)).toArray) (0, 0) _ (.int .i64 0) (by kernel_rfl) h15 Try.underlying29 rfl (by rw [Bz_size, Kec.sum_len]; kernel_rfl) (by kernel_rfl)) ?_
  exact ⟨rfl, K18⟩
theorem Sp_one (s : List Nat) (blk : List UInt8) (n m : Nat) : (Sp s blk n m).all (·.oneCell') = true := by
  simp only [Array.all_eq_true_iff_forall_mem]
  intro x hx
  simp only [Sp, Array.mem_append, Wz, List.mem_toArray, List.mem_map, B] at hx
  rcases hx with (⟨j, _, rfl⟩ | ⟨j, _, rfl⟩) | hx
  · rfl
  · rfl
  · simp at hx; rcases hx with rfl | rfl <;> rfl
set_option maxRecDepth 100000 in
set_option maxHeartbeats 4000000 in
theorem kHCopy_ok (b p : Nat) (l : List UInt8) (w : World) (h : HashAt w b p l) :
    Calls Try.prog 13 #[.pointer (some ⟨b, 0, none⟩)] w (fun e w' => ∃ b2 p2, e = .returned (.pointer (some ⟨b2, 0, none⟩)) ∧ HashAt w' b2 p2 l ∧ w.heap.size ≤ b2 ∧ w.heap.size ≤ p2 ∧ Keeps Nob w w') := by
  have hb := h.cell
  have hp := h.sp
  have hne := h.ne
  unfold SpAt at hp
  have K0 : Keeps Nob w w := Keeps.refl _ _
  refine sy_enter (part_kHCopy 1) ⟨#[pT b 0, undef, undef, undef, undef, undef, undef, undef, undef, undef, undef, undef, undef, undef, undef, undef], []⟩ Try.func13 (by kernel_rfl) (by kernel_rfl) ?_
  refine sy_sq (part_kHCopy 2) (part_kHCopy 3) ?_
  refine sy_reg ?_
  refine rg_plain 0 (opsAt (part_kHCopy 2)) [0] (by kernel_rfl) (by kernel_rfl) ?_
  refine ps_k (o_kHCopy 2 0) (.pointer none) ?_
  refine ps_end ?_
  refine sy_a ⟨#[pT b 0, undef, .pointer none, undef, undef, undef, undef, undef, undef, undef, undef, undef, undef, undef, undef, undef], []⟩ ?_
  refine then_n ?_
  refine sy_sq (part_kHCopy 6) (part_kHCopy 7) ?_
  refine sy_sq (part_kHCopy 12) (part_kHCopy 13) ?_
  refine sy_reg ?_
  refine rg_plain 1 (opsAt (part_kHCopy 12)) [0, 1] (by kernel_rfl) (by kernel_rfl) ?_
  refine ps_k (o_kHCopy 12 0) (pT b 0) ?_
  refine ps_call (o_kHCopy 12 1) 34 #[pT b 0] (by kernel_rfl) (by kernel_rfl) (by kernel_rfl) (by kernel_rfl) (enters_of Try.func34 (by kernel_rfl) rfl) ((knone_ok b p _ hb).mono ?_)
  rintro e w1 ⟨rfl, rfl⟩
  refine ⟨_, rfl, ?_⟩
  refine ps_end ?_
  refine sy_a ⟨#[pT b 0, undef, .pointer none, undef, pT b 0, .bool false, undef, undef, undef, undef, undef, undef, undef, undef, undef, undef], []⟩ ?_
  refine then_n ?_
  refine sy_n (.tmp 5) (part_kHCopy 26) (part_kHCopy 27) ?_
  refine sy_sk ?_
  refine then_n ?_
  refine sy_sq (part_kHCopy 14) (part_kHCopy 15) ?_
  refine sy_reg ?_
  refine rg_plain 3 (opsAt (part_kHCopy 14)) [0, 1, 2, 3, 4, 5, 6, 7] (by kernel_rfl) (by kernel_rfl) ?_
  refine ps_k (o_kHCopy 14 0) (pT b 0) ?_
  refine ps_k (o_kHCopy 14 1) (pT b 0) ?_
  refine ps_k (o_kHCopy 14 2) (pT b 0) ?_
  refine ps_p (o_kHCopy 14 3) (pT p 0) (exec_load_cell 24 (.tmp 10) (by kernel_rfl) ⟨b, 0, none⟩ (by kernel_rfl) _ _ Try.underlying24 rfl ((cell_of_row _ _ _ _ _ _ (hb)).trans (by kernel_rfl))) ?_
  refine ps_k (o_kHCopy 14 4) (pT p 0) ?_
  refine ps_p (o_kHCopy 14 5) (.agg (Sp (Kec.stateOf l) (blkOf l) (l.length % 136) l.length)) (exec_load_row 64 (.tmp 12) (by kernel_rfl) p (by kernel_rfl) _ _ (0, 0) _ (hp) Try.underlying64 rfl (by rw [Sp_size _ _ _ _ (Kec.len_stateOf _) (blkOf_len _)]; kernel_rfl)) ?_
  obtain ⟨V1, eV1⟩ : ∃ V, w.alloc (.cells (Sp Kec.zero zero136 0 0) 64) = V := ⟨_, rfl⟩
  obtain ⟨p2, ep2⟩ : ∃ g, w.heap.size = g := ⟨_, rfl⟩
  have n3 : b < p2 := ep2 ▸ lt_of_block hb
  have n4 : p < p2 := ep2 ▸ lt_of_block hp
  have n5 : w.heap.size ≤ p2 := ep2 ▸ K0.size
  have h2 : V1.heap[p2]? = some (.cells (Sp Kec.zero zero136 0 0) 64 (0, 0)) := by rw [← eV1, ← ep2]; exact heap_alloc_new _ _
  have kV1 : Keeps Nob w V1 := eV1 ▸ (Keeps.refl _ _).alloc _
  refine ps_run (o_kHCopy 14 6) (pT p2 0) (w' := V1) (by kernel_rfl) (by kernel_rfl) (by rw [← eV1, ← ep2]; exact exec_alloc0 64 (by kernel_rfl) (.agg (Sp Kec.zero zero136 0 0)) (by kernel_rfl)) ?_
  clear eV1
  have h6 : V1.heap[b]? = some (.cells (#[.pointer (some ⟨p, 0, none⟩)]) 26 (0, 0)) := (kV1.block b (lt_of_block hb) (fun x => x)).trans hb
  have h7 : V1.heap[p]? = some (.cells (Sp (Kec.stateOf l) (blkOf l) (l.length % 136) l.length) 64 (0, 0)) := (kV1.block p (lt_of_block hp) (fun x => x)).trans hp
  have K8 : Keeps Nob w V1 := K0.then kV1 (fun _ _ x => x.elim)
  obtain ⟨V9, eV9⟩ : ∃ V, V1.setRow p2 ((Sp (Kec.stateOf l) (blkOf l) (l.length % 136) l.length)) = V := ⟨_, rfl⟩
  have kV9 : Keeps (One p2) V1 V9 := eV9 ▸ (Keeps.refl (One p2) _).setRow (fun _ => (rfl : Own.One p2 p2)) _
  have h10 : V9.heap[p2]? = some (.cells (Sp (Kec.stateOf l) (blkOf l) (l.length % 136) l.length) 64 (0, 0)) := eV9 ▸ setRow_heap _ _ _ _ _ _ h2
  refine ps_skip (o_kHCopy 14 7) (w' := V9) (by kernel_rfl) (by kernel_rfl) (by rw [← eV9]; exact exec_store_row 64 (.tmp 3) (.tmp 13) (by kernel_rfl) p2 ((Sp (Kec.stateOf l) (blkOf l) (l.length % 136) l.length)) (by kernel_rfl) (by kernel_rfl) 64 (Sp Kec.zero zero136 0 0) h2 (by rw [Sp_size _ _ _ _ (Kec.len_stateOf _) (blkOf_len _)]; kernel_rfl) (by rw [Sp_size _ _ _ _ (Kec.len_stateOf _) (blkOf_len _)]; rfl) (Sp_one _ _ _ _)) ?_
  clear eV9
  have h11 : V9.heap[b]? = some (.cells (#[.pointer (some ⟨p, 0, none⟩)]) 26 (0, 0)) := (kV9.block b (lt_of_block h6) (fun e => by unfold Own.One at e; omega)).trans h6
  have h12 : V9.heap[p]? = some (.cells (Sp (Kec.stateOf l) (blkOf l) (l.length % 136) l.length) 64 (0, 0)) := (kV9.block p (lt_of_block h7) (fun e => by unfold Own.One at e; omega)).trans h7
  have K13 : Keeps Nob w V9 := K8.then kV9 (fun i hi hm => absurd hi (by unfold Own.One at hm; omega))
  refine ps_end ?_
  refine sy_a ⟨#[pT b 0, undef, .pointer none, pT p2 0, pT b 0, .bool false, undef, undef, pT b 0, pT b 0, pT b 0, pT p 0, pT p 0, .agg (Sp (Kec.stateOf l) (blkOf l) (l.length % 136) l.length), undef, undef], []⟩ ?_
  refine then_n ?_
  refine sy_sq (part_kHCopy 30) (part_kHCopy 31) ?_
  refine sy_reg ?_
  refine rg_plain 4 (opsAt (part_kHCopy 30)) [0, 1, 2] (by kernel_rfl) (by kernel_rfl) ?_
  refine ps_k (o_kHCopy 30 0) (.agg #[pT p2 0]) ?_
  obtain ⟨V14, eV14⟩ : ∃ V, V9.alloc (.cells (#[.pointer (some ⟨p2, 0, none⟩)]) 26) = V := ⟨_, rfl⟩
  obtain ⟨b2, eb2⟩ : ∃ g, V9.heap.size = g := ⟨_, rfl⟩
  have n16 : b < b2 := eb2 ▸ lt_of_block h11
  have n17 : p < b2 := eb2 ▸ lt_of_block h12
  have n18 : p2 < b2 := eb2 ▸ lt_of_block h10
  have n19 : w.heap.size ≤ b2 := eb2 ▸ K13.size
  have h15 : V14.heap[b2]? = some (.cells (#[.pointer (some ⟨p2, 0, none⟩)]) 26 (0, 0)) := by rw [← eV14, ← eb2]; exact heap_alloc_new _ _
  have kV14 : Keeps Nob V9 V14 := eV14 ▸ (Keeps.refl _ _).alloc _
  refine ps_run (o_kHCopy 30 1) (pT b2 0) (w' := V14) (by kernel_rfl) (by kernel_rfl) (by rw [← eV14, ← eb2]; exact exec_box 26 (.tmp 14) (by kernel_rfl) (.agg #[pT p2 0]) (by kernel_rfl)) ?_
  clear eV14
  have h20 : V14.heap[b]? = some (.cells (#[.pointer (some ⟨p, 0, none⟩)]) 26 (0, 0)) := (kV14.block b (lt_of_block h11) (fun x => x)).trans h11
  have h21 : V14.heap[p]? = some (.cells (Sp (Kec.stateOf l) (blkOf l) (l.length % 136) l.length) 64 (0, 0)) := (kV14.block p (lt_of_block h12) (fun x => x)).trans h12
  have h22 : V14.heap[p2]? = some (.cells (Sp (Kec.stateOf l) (blkOf l) (l.length % 136) l.length) 64 (0, 0)) := (kV14.block p2 (lt_of_block h10) (fun x => x)).trans h10
  have K23 : Keeps Nob w V14 := K13.then kV14 (fun _ _ x => x.elim)
  refine ps_k (o_kHCopy 30 2) (pT b2 0) ?_
  refine ps_end ?_
  refine sy_a ⟨#[pT b 0, undef, pT b2 0, pT p2 0, pT b 0, .bool false, undef, undef, pT b 0, pT b 0, pT b 0, pT p 0, pT p 0, .agg (Sp (Kec.stateOf l) (blkOf l) (l.length % 136) l.length), .agg #[pT p2 0], pT b2 0], []⟩ ?_
  refine then_n ?_
  refine sy_ret (by kernel_rfl) ?_
  refine sy_out (.pointer (some ⟨b2, 0, none⟩)) rfl (by kernel_rfl) ?_
  exact ⟨b2, p2, rfl, ⟨h15, h22, by omega⟩, by omega, by omega, K23⟩
noncomputable def part_kSum (n : Nat) : Code := partOf Try.f24 n
noncomputable abbrev o_kSum (n k : Nat) : Oper := (opsAt (part_kSum n)).getD k default
set_option maxRecDepth 100000 in
set_option maxHeartbeats 4000000 in
theorem kSum_ok (x : List UInt8) (A : Option Addr) (cap : Nat) (w : World) (hx : BytesAt w (.slice A x.length cap) x) (hl : x.length ≤ 9000000000000000000) :
    Calls Try.prog 24 #[.slice A x.length cap] w (fun e w' => e = .returned (.agg (B (Kec.sum x)).toArray) ∧ Keeps Nob w w') := by
  have K0 : Keeps Nob w w := Keeps.refl _ _
  refine sy_enter (part_kSum 1) ⟨#[.slice A x.length cap, undef, undef, undef, undef, undef, undef, undef], []⟩ Try.func24 (by kernel_rfl) (by kernel_rfl) ?_
  refine sy_sq (part_kSum 2) (part_kSum 3) ?_
  refine sy_reg ?_
  refine rg_plain 0 (opsAt (part_kSum 2)) [0] (by kernel_rfl) (by kernel_rfl) ?_
  obtain ⟨V1, eV1⟩ : ∃ V, w.alloc (.cells (zr_u8_32) 29) = V := ⟨_, rfl⟩
  obtain ⟨gr, egr⟩ : ∃ g, w.heap.size = g := ⟨_, rfl⟩
  have n3 : w.heap.size ≤ gr := egr ▸ K0.size
  have h2 : V1.heap[gr]? = some (.cells (zr_u8_32) 29 (0, 0)) := by rw [← eV1, ← egr]; exact heap_alloc_new _ _
  have kV1 : Keeps Nob w V1 := eV1 ▸ (Keeps.refl _ _).alloc _
  refine ps_run (o_kSum 2 0) (pT gr 0) (w' := V1) (by kernel_rfl) (by kernel_rfl) (by rw [← eV1, ← egr]; exact exec_alloc0 29 (by kernel_rfl) (.agg (zr_u8_32)) (by kernel_rfl)) ?_
  clear eV1
  have h4 : BytesAt V1 (.slice A x.length cap) x := hx.keepsN kV1
  have K5 : Keeps Nob w V1 := K0.then kV1 (fun _ _ x => x.elim)
  refine ps_end ?_
  refine sy_a ⟨#[.slice A x.length cap, undef, pT gr 0, undef, undef, undef, undef, undef], []⟩ ?_
  refine then_n ?_
  refine sy_sq (part_kSum 6) (part_kSum 7) ?_
  refine sy_reg ?_
  refine rg_plain 1 (opsAt (part_kSum 6)) [0] (by kernel_rfl) (by kernel_rfl) ?_
  obtain ⟨V6, eV6⟩ : ∃ V, V1.alloc (.cells (Sp Kec.zero zero136 0 0) 64) = V := ⟨_, rfl⟩
  obtain ⟨p, ep⟩ : ∃ g, V1.heap.size = g := ⟨_, rfl⟩
  have n8 : gr < p := ep ▸ lt_of_block h2
  have n9 : w.heap.size ≤ p := ep ▸ K5.size
  have h7 : V6.heap[p]? = some (.cells (Sp Kec.zero zero136 0 0) 64 (0, 0)) := by rw [← eV6, ← ep]; exact heap_alloc_new _ _
  have kV6 : Keeps Nob V1 V6 := eV6 ▸ (Keeps.refl _ _).alloc _
  refine ps_run (o_kSum 6 0) (pT p 0) (w' := V6) (by kernel_rfl) (by kernel_rfl) (by rw [← eV6, ← ep]; exact exec_alloc0 64 (by kernel_rfl) (.agg (Sp Kec.zero zero136 0 0)) (by kernel_rfl)) ?_
  clear eV6
  have h10 : BytesAt V6 (.slice A x.length cap) x := h4.keepsN kV6
  have h11 : V6.heap[gr]? = some (.cells (zr_u8_32) 29 (0, 0)) := (kV6.block gr (lt_of_block h2) (fun x => x)).trans h2
  have K12 : Keeps Nob w V6 := K5.then kV6 (fun _ _ x => x.elim)
  refine ps_end ?_
  refine sy_a ⟨#[.slice A x.length cap, undef, pT gr 0, pT p 0, undef, undef, undef, undef], []⟩ ?_
  refine then_n ?_
  refine sy_sq (part_kSum 14) (part_kSum 15) ?_
  refine sy_reg ?_
  refine rg_plain 2 (opsAt (part_kSum 14)) [0, 1] (by kernel_rfl) (by kernel_rfl) ?_
  refine ps_k (o_kSum 14 0) (.slice A x.length cap) ?_
  have h15 : SpAt V6 p [] := h7.trans (congrArg (fun c => some (Obj.cells c 64 (0, 0))) sp_nil)
  have hA2 : 0 < x.length → ∀ j, (Value.slice A x.length cap).ownBlock = some j → j ≠ p := fun hn j hj => by have := hx.blockLt hn j hj; omega
  refine ps_call (o_kSum 14 1) 36 #[pT p 0, .slice A x.length cap] (by kernel_rfl) (by kernel_rfl) (by kernel_rfl) (by kernel_rfl) (enters_of Try.func36 (by kernel_rfl) rfl) ((kwrite_ok p [] x A cap _ h15 h10 hA2 (by simpa using hl)).mono ?_)
  rintro e V13 ⟨rfl, h14, kV13⟩
  refine ⟨_, rfl, ?_⟩
  have h16 : BytesAt V13 (.slice A x.length cap) x := h10.keeps0 kV13 (fun hn j hj e => by have := hx.blockLt hn j hj; unfold Own.One at e; omega)
  have h17 : V13.heap[gr]? = some (.cells (zr_u8_32) 29 (0, 0)) := (kV13.block gr (lt_of_block h11) (fun e => by unfold Own.One at e; omega)).trans h11
  have K18 : Keeps Nob w V13 := K12.then kV13 (fun i hi hm => absurd hi (by unfold Own.One at hm; omega))
  refine ps_end ?_
  refine sy_a ⟨#[.slice A x.length cap, undef, pT gr 0, pT p 0, .slice A x.length cap, .tuple #[], undef, undef], []⟩ ?_
  refine then_n ?_
  refine sy_sq (part_kSum 30) (part_kSum 31) ?_
  refine sy_reg ?_
  refine rg_plain 3 (opsAt (part_kSum 30)) [0, 1, 2] (by kernel_rfl) (by kernel_rfl) ?_
  refine ps_p (o_kSum 30 0) (.agg (Sp (Kec.stateOf x) (blkOf x) (x.length % 136) x.length)) (exec_load_row 64 (.tmp 3) (by kernel_rfl) p (by kernel_rfl) _ _ (0, 0) _ (h14) Try.underlying64 rfl (by rw [Sp_size _ _ _ _ (Kec.len_stateOf _) (blkOf_len _)]; kernel_rfl)) ?_
  refine ps_call (o_kSum 30 1) 35 #[.agg (Sp (Kec.stateOf x) (blkOf x) (x.length % 136) x.length)] (by kernel_rfl) (by kernel_rfl) (by kernel_rfl) (by kernel_rfl) (enters_of Try.func35 (by kernel_rfl) rfl) ((ksum_ok x _).mono ?_)
  rintro e V19 ⟨rfl, kV19⟩
  refine ⟨_, rfl, ?_⟩
  have h20 : BytesAt V19 (.slice A x.length cap) x := h16.keepsN kV19
  have h21 : V19.heap[gr]? = some (.cells (zr_u8_32) 29 (0, 0)) := (kV19.block gr (lt_of_block h17) (fun x => x)).trans h17
  have h22 : V19.heap[p]? = some (.cells (Sp (Kec.stateOf x) (blkOf x) (x.length % 136) x.length) 64 (0, 0)) := (kV19.block p (lt_of_block h14) (fun x => x)).trans h14
  have K23 : Keeps Nob w V19 := K18.then kV19 (fun _ _ x => x.elim)
  obtain ⟨V24, eV24⟩ : ∃ V, V19.setRow gr ((B (Kec.sum x)).toArray) = V := ⟨_, rfl⟩
  have kV24 : Keeps (One gr) V19 V24 := eV24 ▸ (Keeps.refl (One gr) _).setRow (fun _ => (rfl : Own.One gr gr)) _
  have h25 : V24.heap[gr]? = some (.cells ((B (Kec.sum x)).toArray) 29 (0, 0)) := eV24 ▸ setRow_heap _ _ _ _ _ _ h21
  refine ps_skip (o_kSum 30 2) (w' := V24) (by kernel_rfl) (by kernel_rfl) (by rw [← eV24]; exact exec_store_row 29 (.tmp 2) (.tmp 7) (by kernel_rfl) gr ((B (Kec.sum x)).toArray) (by kernel_rfl) (by kernel_rfl) 29 (zr_u8_32) h21 (by rw [Bz_size, Kec.sum_len]; kernel_rfl) (by rw [Bz_size, Kec.sum_len]; rfl) (by rw [List.all_toArray]; exact List.all_eq_true.2 (B_one _))) ?_
  clear eV24
  have h26 : BytesAt V24 (.slice A x.length cap) x := h20.keeps0 kV24 (fun hn j hj e => by have := hx.blockLt hn j hj; unfold Own.One at e; omega)
  have h27 : V24.heap[p]? = some (.cells (Sp (Kec.stateOf x) (blkOf x) (x.length % 136) x.length) 64 (0, 0)) := (kV24.block p (lt_of_block h22) (fun e => by unfold Own.One at e; omega)).trans h22
  have K28 : Keeps Nob w V24 := K23.then kV24 (fun i hi hm => absurd hi (by unfold Own.One at hm; omega))
  refine ps_end ?_
  refine sy_a ⟨#[.slice A x.length cap, undef, pT gr 0, pT p 0, .slice A x.length cap, .tuple #[], .agg (Sp (Kec.stateOf x) (blkOf x) (x.length % 136) x.length), .agg (B (Kec.sum x)).toArray], []⟩ ?_
  refine then_n ?_
  refine sy_ret (by kernel_rfl) ?_
  refine sy_out (.agg ((B (Kec.sum x)).toArray)) rfl (results_cell_row (p := 2) (ty := 29) (by kernel_rfl) _ _ gr 29 ((B (Kec.sum x)).toArray) (0, 0) _ (by kernel_rfl) h25 Try.underlying29 rfl (by rw [Bz_size, Kec.sum_len]; kernel_rfl)) ?_
  exact ⟨rfl, K28⟩
end Go.Proofs.Ytolbdhgclcemlaa
