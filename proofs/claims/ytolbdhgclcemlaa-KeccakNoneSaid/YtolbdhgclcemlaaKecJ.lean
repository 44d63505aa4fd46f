/-
  Keccak: hashes of none (printed by kec8.py). Conditions: none.
-/
import Derived.Test.YtolbdhgclcemlaaKecH
namespace Go.Proofs.Ytolbdhgclcemlaa
open Go Go.RowKit Go.Own Go.Shelf

noncomputable def part_KeccakNone (n : Nat) : Code := partOf Try.f3 n
set_option maxRecDepth 100000 in
set_option maxHeartbeats 4000000 in
theorem none_ok (v : Value) (l : List UInt8) (w : World) (hv : BytesAt w v l) :
    Calls Try.prog 3 #[v] w (fun e w' => e = .returned (.bool true) ∧ Keeps Nob w w') := by
  have K0 : Keeps Nob w w := Keeps.refl _ _
  refine sy_enter (part_KeccakNone 1) ⟨#[v, undef, undef, undef, undef, undef, undef, undef, undef, undef, undef, undef, undef, undef, undef, undef, undef, undef, undef, undef, undef, undef, undef, undef, undef, undef, undef, undef, undef, undef, undef, undef, undef, undef, undef, undef, undef, undef, undef, undef, undef, undef, undef, undef, undef, undef, undef, undef, undef, undef, undef, undef, undef, undef, undef, undef, undef], []⟩ Try.func3 (by kernel_rfl) (by kernel_rfl) ?_
  refine sy_seq (part_KeccakNone 2) (part_KeccakNone 3) (by kernel_rfl) ?_
  refine sy_reg ?_
  refine rg_plain 0 (opsAt (part_KeccakNone 2)) [0] (by kernel_rfl) (by kernel_rfl) ?_
  refine ps_run ((opsAt (part_KeccakNone 2)).getD 0 default) (.bool false) (w' := w) (by kernel_rfl) (by kernel_rfl) (by kernel_rfl) ?_
  refine ps_end ?_
  refine sy_act ⟨#[v, undef, .bool false, undef, undef, undef, undef, undef, undef, undef, undef, undef, undef, undef, undef, undef, undef, undef, undef, undef, undef, undef, undef, undef, undef, undef, undef, undef, undef, undef, undef, undef, undef, undef, undef, undef, undef, undef, undef, undef, undef, undef, undef, undef, undef, undef, undef, undef, undef, undef, undef, undef, undef, undef, undef, undef, undef], []⟩ (by kernel_rfl) ?_
  refine then_n ?_
  refine sy_seq (part_KeccakNone 6) (part_KeccakNone 7) (by kernel_rfl) ?_
  refine sy_reg ?_
  refine rg_plain 1 (opsAt (part_KeccakNone 6)) [0, 1, 2, 3] (by kernel_rfl) (by kernel_rfl) ?_
  refine ps_run ((opsAt (part_KeccakNone 6)).getD 0 default) (.agg #[.pointer none]) (w' := w) (by kernel_rfl) (by kernel_rfl) (by kernel_rfl) ?_
  obtain ⟨V1, eV1⟩ : ∃ V, w.alloc (.cells (#[.pointer none]) 26) = V := ⟨_, rfl⟩
  obtain ⟨gh, egh⟩ : ∃ g, w.heap.size = g := ⟨_, rfl⟩
  have n3 : w.heap.size ≤ gh := egh ▸ K0.size
  have h2 : V1.heap[gh]? = some (.cells (#[.pointer none]) 26 (0, 0)) := by rw [← eV1, ← egh]; exact heap_alloc_new _ _
  have kV1 : Keeps Nob w V1 := eV1 ▸ (Keeps.refl _ _).alloc _
  refine ps_run ((opsAt (part_KeccakNone 6)).getD 1 default) (.pointer (some ⟨gh, 0, none⟩)) (w' := V1) (by kernel_rfl) (by kernel_rfl) (by rw [← eV1, ← egh]; exact exec_box 26 (.tmp 7) (by kernel_rfl) (.agg #[.pointer none]) (by kernel_rfl)) ?_
  clear eV1
  have K4 : Keeps Nob w V1 := K0.then kV1 (fun _ _ x => x.elim)
  have z5 := kV1.size
  obtain ⟨V6, eV6⟩ : ∃ V, V1.alloc (.cells (#[.pointer none, .pointer (some ⟨gh, 0, none⟩)]) 23) = V := ⟨_, rfl⟩
  obtain ⟨gl, egl⟩ : ∃ g, V1.heap.size = g := ⟨_, rfl⟩
  have n8 : gh < gl := egl ▸ lt_of_block h2
  have n9 : w.heap.size ≤ gl := egl ▸ K4.size
  have h7 : V6.heap[gl]? = some (.cells (#[.pointer none, .pointer (some ⟨gh, 0, none⟩)]) 23 (0, 0)) := by rw [← eV6, ← egl]; exact heap_alloc_new _ _
  have kV6 : Keeps Nob V1 V6 := eV6 ▸ (Keeps.refl _ _).alloc _
  refine ps_run ((opsAt (part_KeccakNone 6)).getD 2 default) (.slice (some ⟨gl, 0, none⟩) 2 2) (w' := V6) (by kernel_rfl) (by kernel_rfl) (by rw [← eV6, ← egl]; kernel_rfl) ?_
  have h10 : V6.heap[gh]? = some (.cells (#[.pointer none]) 26 (0, 0)) := (kV6.block gh (lt_of_block h2) (fun x => x)).trans h2
  have K11 : Keeps Nob w V6 := K4.then kV6 (fun _ _ x => x.elim)
  have z12 := kV6.size
  refine ps_run ((opsAt (part_KeccakNone 6)).getD 3 default) (.slice (some ⟨gl, 0, none⟩) 2 2) (w' := V6) (by kernel_rfl) (by kernel_rfl) (by kernel_rfl) ?_
  refine ps_end ?_
  refine sy_act ⟨#[v, undef, .bool false, .slice (some ⟨gl, 0, none⟩) 2 2, undef, undef, undef, .agg #[.pointer none], .pointer (some ⟨gh, 0, none⟩), .slice (some ⟨gl, 0, none⟩) 2 2, undef, undef, undef, undef, undef, undef, undef, undef, undef, undef, undef, undef, undef, undef, undef, undef, undef, undef, undef, undef, undef, undef, undef, undef, undef, undef, undef, undef, undef, undef, undef, undef, undef, undef, undef, undef, undef, undef, undef, undef, undef, undef, undef, undef, undef, undef, undef], []⟩ (by kernel_rfl) ?_
  refine then_n ?_
  refine sy_seq (part_KeccakNone 14) (part_KeccakNone 15) (by kernel_rfl) ?_
  refine sy_seq (part_KeccakNone 28) (part_KeccakNone 29) (by kernel_rfl) ?_
  refine sy_reg ?_
  refine rg_plain 2 (opsAt (part_KeccakNone 28)) [0] (by kernel_rfl) (by kernel_rfl) ?_
  refine ps_run ((opsAt (part_KeccakNone 28)).getD 0 default) (.int .i64 0) (w' := V6) (by kernel_rfl) (by kernel_rfl) (by kernel_rfl) ?_
  refine ps_end ?_
  refine sy_act ⟨#[v, undef, .bool false, .slice (some ⟨gl, 0, none⟩) 2 2, .int .i64 0, undef, undef, .agg #[.pointer none], .pointer (some ⟨gh, 0, none⟩), .slice (some ⟨gl, 0, none⟩) 2 2, undef, undef, undef, undef, undef, undef, undef, undef, undef, undef, undef, undef, undef, undef, undef, undef, undef, undef, undef, undef, undef, undef, undef, undef, undef, undef, undef, undef, undef, undef, undef, undef, undef, undef, undef, undef, undef, undef, undef, undef, undef, undef, undef, undef, undef, undef, undef], []⟩ (by kernel_rfl) ?_
  refine then_n ?_
  refine sy_block 0 (part_KeccakNone 58) (by kernel_rfl) ?_
  refine sy_rounds 3 (part_KeccakNone 116) (by kernel_rfl) ?_
  refine rd_step ?_
  refine sy_seq (part_KeccakNone 232) (part_KeccakNone 233) (by kernel_rfl) ?_
  refine sy_seq (part_KeccakNone 464) (part_KeccakNone 465) (by kernel_rfl) ?_
  refine sy_reg ?_
  refine rg_plain 3 (opsAt (part_KeccakNone 464)) [0, 1] (by kernel_rfl) (by kernel_rfl) ?_
  refine ps_run ((opsAt (part_KeccakNone 464)).getD 0 default) (.int .i64 0) (w' := V6) (by kernel_rfl) (by kernel_rfl) (by kernel_rfl) ?_
  refine ps_run ((opsAt (part_KeccakNone 464)).getD 1 default) (.bool true) (w' := V6) (by kernel_rfl) (by kernel_rfl) (by kernel_rfl) ?_
  refine ps_end ?_
  refine sy_act ⟨#[v, undef, .bool false, .slice (some ⟨gl, 0, none⟩) 2 2, .int .i64 0, undef, undef, .agg #[.pointer none], .pointer (some ⟨gh, 0, none⟩), .slice (some ⟨gl, 0, none⟩) 2 2, .int .i64 0, .bool true, undef, undef, undef, undef, undef, undef, undef, undef, undef, undef, undef, undef, undef, undef, undef, undef, undef, undef, undef, undef, undef, undef, undef, undef, undef, undef, undef, undef, undef, undef, undef, undef, undef, undef, undef, undef, undef, undef, undef, undef, undef, undef, undef, undef, undef], []⟩ (by kernel_rfl) ?_
  refine then_n ?_
  refine sy_yes (.tmp 11) (part_KeccakNone 930) (part_KeccakNone 931) (by kernel_rfl) (by kernel_rfl) ?_
  refine sy_skip (by kernel_rfl) ?_
  refine then_n ?_
  refine sy_seq (part_KeccakNone 466) (part_KeccakNone 467) (by kernel_rfl) ?_
  refine sy_block 1 (part_KeccakNone 932) (by kernel_rfl) ?_
  refine sy_seq (part_KeccakNone 1864) (part_KeccakNone 1865) (by kernel_rfl) ?_
  refine sy_reg ?_
  refine rg_plain 5 (opsAt (part_KeccakNone 1864)) [0, 1, 2, 3, 4, 5, 6, 7, 8, 9, 10] (by kernel_rfl) (by kernel_rfl) ?_
  refine ps_run ((opsAt (part_KeccakNone 1864)).getD 0 default) (.slice (some ⟨gl, 0, none⟩) 2 2) (w' := V6) (by kernel_rfl) (by kernel_rfl) (by kernel_rfl) ?_
  refine ps_run ((opsAt (part_KeccakNone 1864)).getD 1 default) (.int .i64 0) (w' := V6) (by kernel_rfl) (by kernel_rfl) (by kernel_rfl) ?_
  refine ps_run ((opsAt (part_KeccakNone 1864)).getD 2 default) (.pointer (some ⟨gl, 0, none⟩)) (w' := V6) (by kernel_rfl) (by kernel_rfl) (exec_cast (v := .pointer (some ⟨gl, 0 + 0 * 1, none⟩)) (by simp) (exec_indexAt_slice 27 (.tmp 15) (.tmp 16) (by kernel_rfl) gl 0 2 2 (by kernel_rfl) .i64 0 (by kernel_rfl) _ 1 Try.underlying27 (by kernel_rfl) (by omega))) ?_
  refine ps_run ((opsAt (part_KeccakNone 1864)).getD 3 default) (.pointer none) (w' := V6) (by kernel_rfl) (by kernel_rfl) (exec_load_cell 23 (.tmp 17) (by kernel_rfl) ⟨gl, 0, none⟩ (by kernel_rfl) _ _ Try.underlying23 rfl ((cell_of_row _ _ _ _ _ _ (h7)).trans (by kernel_rfl))) ?_
  refine ps_call ((opsAt (part_KeccakNone 1864)).getD 4 default) 10 #[.pointer none] (by kernel_rfl) (by kernel_rfl) (by kernel_rfl) (by kernel_rfl) (enters_of Try.func10 (by kernel_rfl) rfl) ((kHSum_nil 0 _).mono ?_)
  rintro e V13 ⟨rfl, kV13⟩
  refine ⟨_, rfl, ?_⟩
  have h14 : V13.heap[gh]? = some (.cells (#[.pointer none]) 26 (0, 0)) := (kV13.block gh (lt_of_block h10) (fun x => x)).trans h10
  have h15 : V13.heap[gl]? = some (.cells (#[.pointer none, .pointer (some ⟨gh, 0, none⟩)]) 23 (0, 0)) := (kV13.block gl (lt_of_block h7) (fun x => x)).trans h7
  have K16 : Keeps Nob w V13 := K11.then kV13 (fun _ _ x => x.elim)
  have z17 := kV13.size
  refine ps_run ((opsAt (part_KeccakNone 1864)).getD 5 default) (.tuple #[.agg (B (List.replicate 32 0)).toArray, .int .i64 1]) (w' := V13) (by kernel_rfl) (by kernel_rfl) (by kernel_rfl) ?_
  refine ps_run ((opsAt (part_KeccakNone 1864)).getD 6 default) (.agg (B (List.replicate 32 0)).toArray) (w' := V13) (by kernel_rfl) (by kernel_rfl) (by kernel_rfl) ?_
  refine ps_run ((opsAt (part_KeccakNone 1864)).getD 7 default) (.int .i64 1) (w' := V13) (by kernel_rfl) (by kernel_rfl) (by kernel_rfl) ?_
  obtain ⟨V18, eV18⟩ : ∃ V, V13.alloc (.cells (#[.int .u8 0, .int .u8 0, .int .u8 0, .int .u8 0, .int .u8 0, .int .u8 0, .int .u8 0, .int .u8 0, .int .u8 0, .int .u8 0, .int .u8 0, .int .u8 0, .int .u8 0, .int .u8 0, .int .u8 0, .int .u8 0, .int .u8 0, .int .u8 0, .int .u8 0, .int .u8 0, .int .u8 0, .int .u8 0, .int .u8 0, .int .u8 0, .int .u8 0, .int .u8 0, .int .u8 0, .int .u8 0, .int .u8 0, .int .u8 0, .int .u8 0, .int .u8 0]) 29) = V := ⟨_, rfl⟩
  obtain ⟨gr1, egr1⟩ : ∃ g, V13.heap.size = g := ⟨_, rfl⟩
  have n20 : gh < gr1 := egr1 ▸ lt_of_block h14
  have n21 : gl < gr1 := egr1 ▸ lt_of_block h15
  have n22 : w.heap.size ≤ gr1 := egr1 ▸ K16.size
  have h19 : V18.heap[gr1]? = some (.cells (#[.int .u8 0, .int .u8 0, .int .u8 0, .int .u8 0, .int .u8 0, .int .u8 0, .int .u8 0, .int .u8 0, .int .u8 0, .int .u8 0, .int .u8 0, .int .u8 0, .int .u8 0, .int .u8 0, .int .u8 0, .int .u8 0, .int .u8 0, .int .u8 0, .int .u8 0, .int .u8 0, .int .u8 0, .int .u8 0, .int .u8 0, .int .u8 0, .int .u8 0, .int .u8 0, .int .u8 0, .int .u8 0, .int .u8 0, .int .u8 0, .int .u8 0, .int .u8 0]) 29 (0, 0)) := by rw [← eV18, ← egr1]; exact heap_alloc_new _ _
  have kV18 : Keeps Nob V13 V18 := eV18 ▸ (Keeps.refl _ _).alloc _
  refine ps_run ((opsAt (part_KeccakNone 1864)).getD 8 default) (.pointer (some ⟨gr1, 0, none⟩)) (w' := V18) (by kernel_rfl) (by kernel_rfl) (by rw [← eV18, ← egr1]; exact exec_alloc0 29 (by kernel_rfl) (.agg (#[.int .u8 0, .int .u8 0, .int .u8 0, .int .u8 0, .int .u8 0, .int .u8 0, .int .u8 0, .int .u8 0, .int .u8 0, .int .u8 0, .int .u8 0, .int .u8 0, .int .u8 0, .int .u8 0, .int .u8 0, .int .u8 0, .int .u8 0, .int .u8 0, .int .u8 0, .int .u8 0, .int .u8 0, .int .u8 0, .int .u8 0, .int .u8 0, .int .u8 0, .int .u8 0, .int .u8 0, .int .u8 0, .int .u8 0, .int .u8 0, .int .u8 0, .int .u8 0])) (by kernel_rfl)) ?_
  clear eV18
  have h23 : V18.heap[gh]? = some (.cells (#[.pointer none]) 26 (0, 0)) := (kV18.block gh (lt_of_block h14) (fun x => x)).trans h14
  have h24 : V18.heap[gl]? = some (.cells (#[.pointer none, .pointer (some ⟨gh, 0, none⟩)]) 23 (0, 0)) := (kV18.block gl (lt_of_block h15) (fun x => x)).trans h15
  have K25 : Keeps Nob w V18 := K16.then kV18 (fun _ _ x => x.elim)
  have z26 := kV18.size
  obtain ⟨V27, eV27⟩ : ∃ V, V18.setRow gr1 ((B (List.replicate 32 0)).toArray) = V := ⟨_, rfl⟩
  have kV27 : Keeps (One gr1) V18 V27 := eV27 ▸ (Keeps.refl (One gr1) _).setRow (fun _ => (rfl : Own.One gr1 gr1)) _
  have h28 : V27.heap[gr1]? = some (.cells ((B (List.replicate 32 0)).toArray) 29 (0, 0)) := eV27 ▸ setRow_heap _ _ _ _ _ _ h19
  refine ps_skip ((opsAt (part_KeccakNone 1864)).getD 9 default) (w' := V27) (by kernel_rfl) (by kernel_rfl) (by rw [← eV27]; exact exec_store_row 29 (.tmp 5) (.tmp 20) (by kernel_rfl) gr1 ((B (List.replicate 32 0)).toArray) (by kernel_rfl) (by kernel_rfl) 29 (#[.int .u8 0, .int .u8 0, .int .u8 0, .int .u8 0, .int .u8 0, .int .u8 0, .int .u8 0, .int .u8 0, .int .u8 0, .int .u8 0, .int .u8 0, .int .u8 0, .int .u8 0, .int .u8 0, .int .u8 0, .int .u8 0, .int .u8 0, .int .u8 0, .int .u8 0, .int .u8 0, .int .u8 0, .int .u8 0, .int .u8 0, .int .u8 0, .int .u8 0, .int .u8 0, .int .u8 0, .int .u8 0, .int .u8 0, .int .u8 0, .int .u8 0, .int .u8 0]) h19 (by kernel_rfl) (by kernel_rfl) (by kernel_rfl)) ?_
  clear eV27
  have h29 : V27.heap[gh]? = some (.cells (#[.pointer none]) 26 (0, 0)) := (kV27.block gh (lt_of_block h23) (fun e => by unfold Own.One at e; omega)).trans h23
  have h30 : V27.heap[gl]? = some (.cells (#[.pointer none, .pointer (some ⟨gh, 0, none⟩)]) 23 (0, 0)) := (kV27.block gl (lt_of_block h24) (fun e => by unfold Own.One at e; omega)).trans h24
  have K31 : Keeps Nob w V27 := K25.then kV27 (fun i hi hm => absurd hi (by unfold Own.One at hm; omega))
  have z32 := kV27.size
  refine ps_run ((opsAt (part_KeccakNone 1864)).getD 10 default) (.int .i64 1) (w' := V27) (by kernel_rfl) (by kernel_rfl) (by kernel_rfl) ?_
  refine ps_end ?_
  refine sy_act ⟨#[v, undef, .bool false, .slice (some ⟨gl, 0, none⟩) 2 2, .int .i64 0, .pointer (some ⟨gr1, 0, none⟩), .int .i64 1, .agg #[.pointer none], .pointer (some ⟨gh, 0, none⟩), .slice (some ⟨gl, 0, none⟩) 2 2, .int .i64 0, .bool true, undef, undef, .tuple #[.agg (B (List.replicate 32 0)).toArray, .int .i64 1], .slice (some ⟨gl, 0, none⟩) 2 2, .int .i64 0, .pointer (some ⟨gl, 0, none⟩), .pointer none, .tuple #[.agg (B (List.replicate 32 0)).toArray, .int .i64 1], .agg (B (List.replicate 32 0)).toArray, .int .i64 1, undef, undef, undef, undef, undef, undef, undef, undef, undef, undef, undef, undef, undef, undef, undef, undef, undef, undef, undef, undef, undef, undef, undef, undef, undef, undef, undef, undef, undef, undef, undef, undef, undef, undef, undef], []⟩ (by kernel_rfl) ?_
  refine then_n ?_
  refine sy_seq (part_KeccakNone 3730) (part_KeccakNone 3731) (by kernel_rfl) ?_
  refine sy_reg ?_
  refine rg_plain 6 (opsAt (part_KeccakNone 3730)) [0, 1, 2, 3, 4, 5, 6, 7, 8, 9, 10, 11, 12, 13, 14, 15, 16, 17, 18, 19, 20, 21, 22, 23, 24, 25, 26, 27, 28, 29, 30, 31, 32, 33] (by kernel_rfl) (by kernel_rfl) ?_
  refine ps_run ((opsAt (part_KeccakNone 3730)).getD 0 default) (.slice (some ⟨gl, 0, none⟩) 2 2) (w' := V27) (by kernel_rfl) (by kernel_rfl) (by kernel_rfl) ?_
  refine ps_run ((opsAt (part_KeccakNone 3730)).getD 1 default) (.int .i64 0) (w' := V27) (by kernel_rfl) (by kernel_rfl) (by kernel_rfl) ?_
  refine ps_run ((opsAt (part_KeccakNone 3730)).getD 2 default) (.pointer (some ⟨gl, 0, none⟩)) (w' := V27) (by kernel_rfl) (by kernel_rfl) (exec_cast (v := .pointer (some ⟨gl, 0 + 0 * 1, none⟩)) (by simp) (exec_indexAt_slice 27 (.tmp 22) (.tmp 23) (by kernel_rfl) gl 0 2 2 (by kernel_rfl) .i64 0 (by kernel_rfl) _ 1 Try.underlying27 (by kernel_rfl) (by omega))) ?_
  refine ps_run ((opsAt (part_KeccakNone 3730)).getD 3 default) (.pointer none) (w' := V27) (by kernel_rfl) (by kernel_rfl) (exec_load_cell 23 (.tmp 24) (by kernel_rfl) ⟨gl, 0, none⟩ (by kernel_rfl) _ _ Try.underlying23 rfl ((cell_of_row _ _ _ _ _ _ (h30)).trans (by kernel_rfl))) ?_
  refine ps_run ((opsAt (part_KeccakNone 3730)).getD 4 default) (v) (w' := V27) (by kernel_rfl) (by kernel_rfl) (by kernel_rfl) ?_
  refine ps_call ((opsAt (part_KeccakNone 3730)).getD 5 default) 11 #[.pointer none, v] (by kernel_rfl) (by kernel_rfl) (by kernel_rfl) (by kernel_rfl) (enters_of Try.func11 (by kernel_rfl) rfl) ((kHWrite_nil 0 v _).mono ?_)
  rintro e w1 ⟨rfl, rfl⟩
  refine ⟨_, rfl, ?_⟩
  refine ps_run ((opsAt (part_KeccakNone 3730)).getD 6 default) (.bool false) (w' := V27) (by kernel_rfl) (by kernel_rfl) (by kernel_rfl) ?_
  refine ps_run ((opsAt (part_KeccakNone 3730)).getD 7 default) (.bool false) (w' := V27) (by kernel_rfl) (by kernel_rfl) (by kernel_rfl) ?_
  refine ps_run ((opsAt (part_KeccakNone 3730)).getD 8 default) (.agg ((B (List.replicate 32 0)).toArray)) (w' := V27) (by kernel_rfl) (by kernel_rfl) (exec_load_row 29 (.tmp 5) (by kernel_rfl) gr1 (by kernel_rfl) _ _ (0, 0) _ (h28) Try.underlying29 rfl (by rw [Bz_size, (List.length_replicate ..)]; kernel_rfl)) ?_
  refine ps_run ((opsAt (part_KeccakNone 3730)).getD 9 default) (.agg #[.int .u8 0, .int .u8 0, .int .u8 0, .int .u8 0, .int .u8 0, .int .u8 0, .int .u8 0, .int .u8 0, .int .u8 0, .int .u8 0, .int .u8 0, .int .u8 0, .int .u8 0, .int .u8 0, .int .u8 0, .int .u8 0, .int .u8 0, .int .u8 0, .int .u8 0, .int .u8 0, .int .u8 0, .int .u8 0, .int .u8 0, .int .u8 0, .int .u8 0, .int .u8 0, .int .u8 0, .int .u8 0, .int .u8 0, .int .u8 0, .int .u8 0, .int .u8 0]) (w' := V27) (by kernel_rfl) (by kernel_rfl) (by kernel_rfl) ?_
  refine ps_run ((opsAt (part_KeccakNone 3730)).getD 10 default) (.bool false) (w' := V27) (by kernel_rfl) (by kernel_rfl) (by kernel_rfl) ?_
  refine ps_run ((opsAt (part_KeccakNone 3730)).getD 11 default) (.bool false) (w' := V27) (by kernel_rfl) (by kernel_rfl) (by kernel_rfl) ?_
  refine ps_run ((opsAt (part_KeccakNone 3730)).getD 12 default) (.bool false) (w' := V27) (by kernel_rfl) (by kernel_rfl) (by kernel_rfl) ?_
  refine ps_run ((opsAt (part_KeccakNone 3730)).getD 13 default) (.int .i64 1) (w' := V27) (by kernel_rfl) (by kernel_rfl) (by kernel_rfl) ?_
  refine ps_run ((opsAt (part_KeccakNone 3730)).getD 14 default) (.bool false) (w' := V27) (by kernel_rfl) (by kernel_rfl) (by kernel_rfl) ?_
  refine ps_run ((opsAt (part_KeccakNone 3730)).getD 15 default) (.bool false) (w' := V27) (by kernel_rfl) (by kernel_rfl) (by kernel_rfl) ?_
  refine ps_run ((opsAt (part_KeccakNone 3730)).getD 16 default) (.bool false) (w' := V27) (by kernel_rfl) (by kernel_rfl) (by kernel_rfl) ?_
  refine ps_run ((opsAt (part_KeccakNone 3730)).getD 17 default) (.slice (some ⟨gl, 0, none⟩) 2 2) (w' := V27) (by kernel_rfl) (by kernel_rfl) (by kernel_rfl) ?_
  refine ps_run ((opsAt (part_KeccakNone 3730)).getD 18 default) (.int .i64 0) (w' := V27) (by kernel_rfl) (by kernel_rfl) (by kernel_rfl) ?_
  refine ps_run ((opsAt (part_KeccakNone 3730)).getD 19 default) (.pointer (some ⟨gl, 0, none⟩)) (w' := V27) (by kernel_rfl) (by kernel_rfl) (exec_cast (v := .pointer (some ⟨gl, 0 + 0 * 1, none⟩)) (by simp) (exec_indexAt_slice 27 (.tmp 39) (.tmp 40) (by kernel_rfl) gl 0 2 2 (by kernel_rfl) .i64 0 (by kernel_rfl) _ 1 Try.underlying27 (by kernel_rfl) (by omega))) ?_
  refine ps_run ((opsAt (part_KeccakNone 3730)).getD 20 default) (.pointer none) (w' := V27) (by kernel_rfl) (by kernel_rfl) (exec_load_cell 23 (.tmp 41) (by kernel_rfl) ⟨gl, 0, none⟩ (by kernel_rfl) _ _ Try.underlying23 rfl ((cell_of_row _ _ _ _ _ _ (h30)).trans (by kernel_rfl))) ?_
  refine ps_call ((opsAt (part_KeccakNone 3730)).getD 21 default) 12 #[.pointer none] (by kernel_rfl) (by kernel_rfl) (by kernel_rfl) (by kernel_rfl) (enters_of Try.func12 (by kernel_rfl) rfl) ((kHLen_nil 0 _).mono ?_)
  rintro e w1 ⟨rfl, rfl⟩
  refine ⟨_, rfl, ?_⟩
  refine ps_run ((opsAt (part_KeccakNone 3730)).getD 22 default) (.bool false) (w' := V27) (by kernel_rfl) (by kernel_rfl) (by kernel_rfl) ?_
  refine ps_run ((opsAt (part_KeccakNone 3730)).getD 23 default) (.bool false) (w' := V27) (by kernel_rfl) (by kernel_rfl) (by kernel_rfl) ?_
  refine ps_run ((opsAt (part_KeccakNone 3730)).getD 24 default) (.bool false) (w' := V27) (by kernel_rfl) (by kernel_rfl) (by kernel_rfl) ?_
  refine ps_run ((opsAt (part_KeccakNone 3730)).getD 25 default) (.slice (some ⟨gl, 0, none⟩) 2 2) (w' := V27) (by kernel_rfl) (by kernel_rfl) (by kernel_rfl) ?_
  refine ps_run ((opsAt (part_KeccakNone 3730)).getD 26 default) (.int .i64 0) (w' := V27) (by kernel_rfl) (by kernel_rfl) (by kernel_rfl) ?_
  refine ps_run ((opsAt (part_KeccakNone 3730)).getD 27 default) (.pointer (some ⟨gl, 0, none⟩)) (w' := V27) (by kernel_rfl) (by kernel_rfl) (exec_cast (v := .pointer (some ⟨gl, 0 + 0 * 1, none⟩)) (by simp) (exec_indexAt_slice 27 (.tmp 47) (.tmp 48) (by kernel_rfl) gl 0 2 2 (by kernel_rfl) .i64 0 (by kernel_rfl) _ 1 Try.underlying27 (by kernel_rfl) (by omega))) ?_
  refine ps_run ((opsAt (part_KeccakNone 3730)).getD 28 default) (.pointer none) (w' := V27) (by kernel_rfl) (by kernel_rfl) (exec_load_cell 23 (.tmp 49) (by kernel_rfl) ⟨gl, 0, none⟩ (by kernel_rfl) _ _ Try.underlying23 rfl ((cell_of_row _ _ _ _ _ _ (h30)).trans (by kernel_rfl))) ?_
  refine ps_call ((opsAt (part_KeccakNone 3730)).getD 29 default) 13 #[.pointer none] (by kernel_rfl) (by kernel_rfl) (by kernel_rfl) (by kernel_rfl) (enters_of Try.func13 (by kernel_rfl) rfl) ((kHCopy_nil 0 _).mono ?_)
  rintro e V33 ⟨gb34, rfl, h35, n36, kV33⟩
  refine ⟨_, rfl, ?_⟩
  have h37 : V33.heap[gh]? = some (.cells (#[.pointer none]) 26 (0, 0)) := (kV33.block gh (lt_of_block h29) (fun x => x)).trans h29
  have h38 : V33.heap[gl]? = some (.cells (#[.pointer none, .pointer (some ⟨gh, 0, none⟩)]) 23 (0, 0)) := (kV33.block gl (lt_of_block h30) (fun x => x)).trans h30
  have h39 : V33.heap[gr1]? = some (.cells ((B (List.replicate 32 0)).toArray) 29 (0, 0)) := (kV33.block gr1 (lt_of_block h28) (fun x => x)).trans h28
  have K40 : Keeps Nob w V33 := K31.then kV33 (fun _ _ x => x.elim)
  have z41 := kV33.size
  refine ps_run ((opsAt (part_KeccakNone 3730)).getD 30 default) (v) (w' := V33) (by kernel_rfl) (by kernel_rfl) (by kernel_rfl) ?_
  refine ps_call ((opsAt (part_KeccakNone 3730)).getD 31 default) 11 #[.pointer (some ⟨gb34, 0, none⟩), v] (by kernel_rfl) (by kernel_rfl) (by kernel_rfl) (by kernel_rfl) (enters_of Try.func11 (by kernel_rfl) rfl) ((kHWrite_zero gb34 v _ h35).mono ?_)
  rintro e w1 ⟨rfl, rfl⟩
  refine ⟨_, rfl, ?_⟩
  refine ps_run ((opsAt (part_KeccakNone 3730)).getD 32 default) (.bool false) (w' := V33) (by kernel_rfl) (by kernel_rfl) (by kernel_rfl) ?_
  refine ps_run ((opsAt (part_KeccakNone 3730)).getD 33 default) (.bool false) (w' := V33) (by kernel_rfl) (by kernel_rfl) (by kernel_rfl) ?_
  refine ps_end ?_
  refine sy_act ⟨#[v, undef, .bool false, .slice (some ⟨gl, 0, none⟩) 2 2, .int .i64 0, .pointer (some ⟨gr1, 0, none⟩), .int .i64 1, .agg #[.pointer none], .pointer (some ⟨gh, 0, none⟩), .slice (some ⟨gl, 0, none⟩) 2 2, .int .i64 0, .bool true, undef, undef, .tuple #[.agg (B (List.replicate 32 0)).toArray, .int .i64 1], .slice (some ⟨gl, 0, none⟩) 2 2, .int .i64 0, .pointer (some ⟨gl, 0, none⟩), .pointer none, .tuple #[.agg (B (List.replicate 32 0)).toArray, .int .i64 1], .agg (B (List.replicate 32 0)).toArray, .int .i64 1, .slice (some ⟨gl, 0, none⟩) 2 2, .int .i64 0, .pointer (some ⟨gl, 0, none⟩), .pointer none, v, .int .i64 1, .bool false, .bool false, .agg ((B (List.replicate 32 0)).toArray), .agg #[.int .u8 0, .int .u8 0, .int .u8 0, .int .u8 0, .int .u8 0, .int .u8 0, .int .u8 0, .int .u8 0, .int .u8 0, .int .u8 0, .int .u8 0, .int .u8 0, .int .u8 0, .int .u8 0, .int .u8 0, .int .u8 0, .int .u8 0, .int .u8 0, .int .u8 0, .int .u8 0, .int .u8 0, .int .u8 0, .int .u8 0, .int .u8 0, .int .u8 0, .int .u8 0, .int .u8 0, .int .u8 0, .int .u8 0, .int .u8 0, .int .u8 0, .int .u8 0], .bool false, .bool false, .bool false, .int .i64 1, .bool false, .bool false, .bool false, .slice (some ⟨gl, 0, none⟩) 2 2, .int .i64 0, .pointer (some ⟨gl, 0, none⟩), .pointer none, .int .i64 0, .bool false, .bool false, .bool false, .slice (some ⟨gl, 0, none⟩) 2 2, .int .i64 0, .pointer (some ⟨gl, 0, none⟩), .pointer none, .pointer (some ⟨gb34, 0, none⟩), v, .int .i64 1, .bool false, .bool false, undef], []⟩ (by kernel_rfl) ?_
  refine then_n ?_
  refine sy_no (.tmp 55) (part_KeccakNone 7462) (part_KeccakNone 7463) (by kernel_rfl) (by kernel_rfl) ?_
  refine sy_skip (by kernel_rfl) ?_
  refine blk_n ?_
  refine then_n ?_
  refine sy_reg ?_
  refine rg_plain 4 (opsAt (part_KeccakNone 467)) [0, 1, 2] (by kernel_rfl) (by kernel_rfl) ?_
  refine ps_run ((opsAt (part_KeccakNone 467)).getD 0 default) (.int .i64 0) (w' := V33) (by kernel_rfl) (by kernel_rfl) (by kernel_rfl) ?_
  refine ps_run ((opsAt (part_KeccakNone 467)).getD 1 default) (.int .i64 1) (w' := V33) (by kernel_rfl) (by kernel_rfl) (by kernel_rfl) ?_
  refine ps_run ((opsAt (part_KeccakNone 467)).getD 2 default) (.int .i64 1) (w' := V33) (by kernel_rfl) (by kernel_rfl) (by kernel_rfl) ?_
  refine ps_end ?_
  refine sy_act ⟨#[v, undef, .bool false, .slice (some ⟨gl, 0, none⟩) 2 2, .int .i64 1, .pointer (some ⟨gr1, 0, none⟩), .int .i64 1, .agg #[.pointer none], .pointer (some ⟨gh, 0, none⟩), .slice (some ⟨gl, 0, none⟩) 2 2, .int .i64 0, .bool true, .int .i64 0, .int .i64 1, .tuple #[.agg (B (List.replicate 32 0)).toArray, .int .i64 1], .slice (some ⟨gl, 0, none⟩) 2 2, .int .i64 0, .pointer (some ⟨gl, 0, none⟩), .pointer none, .tuple #[.agg (B (List.replicate 32 0)).toArray, .int .i64 1], .agg (B (List.replicate 32 0)).toArray, .int .i64 1, .slice (some ⟨gl, 0, none⟩) 2 2, .int .i64 0, .pointer (some ⟨gl, 0, none⟩), .pointer none, v, .int .i64 1, .bool false, .bool false, .agg ((B (List.replicate 32 0)).toArray), .agg #[.int .u8 0, .int .u8 0, .int .u8 0, .int .u8 0, .int .u8 0, .int .u8 0, .int .u8 0, .int .u8 0, .int .u8 0, .int .u8 0, .int .u8 0, .int .u8 0, .int .u8 0, .int .u8 0, .int .u8 0, .int .u8 0, .int .u8 0, .int .u8 0, .int .u8 0, .int .u8 0, .int .u8 0, .int .u8 0, .int .u8 0, .int .u8 0, .int .u8 0, .int .u8 0, .int .u8 0, .int .u8 0, .int .u8 0, .int .u8 0, .int .u8 0, .int .u8 0], .bool false, .bool false, .bool false, .int .i64 1, .bool false, .bool false, .bool false, .slice (some ⟨gl, 0, none⟩) 2 2, .int .i64 0, .pointer (some ⟨gl, 0, none⟩), .pointer none, .int .i64 0, .bool false, .bool false, .bool false, .slice (some ⟨gl, 0, none⟩) 2 2, .int .i64 0, .pointer (some ⟨gl, 0, none⟩), .pointer none, .pointer (some ⟨gb34, 0, none⟩), v, .int .i64 1, .bool false, .bool false, undef], []⟩ (by kernel_rfl) ?_
  refine then_n ?_
  refine rd_step ?_
  refine sy_seq (part_KeccakNone 232) (part_KeccakNone 233) (by kernel_rfl) ?_
  refine sy_seq (part_KeccakNone 464) (part_KeccakNone 465) (by kernel_rfl) ?_
  refine sy_reg ?_
  refine rg_plain 3 (opsAt (part_KeccakNone 464)) [0, 1] (by kernel_rfl) (by kernel_rfl) ?_
  refine ps_run ((opsAt (part_KeccakNone 464)).getD 0 default) (.int .i64 1) (w' := V33) (by kernel_rfl) (by kernel_rfl) (by kernel_rfl) ?_
  refine ps_run ((opsAt (part_KeccakNone 464)).getD 1 default) (.bool true) (w' := V33) (by kernel_rfl) (by kernel_rfl) (by kernel_rfl) ?_
  refine ps_end ?_
  refine sy_act ⟨#[v, undef, .bool false, .slice (some ⟨gl, 0, none⟩) 2 2, .int .i64 1, .pointer (some ⟨gr1, 0, none⟩), .int .i64 1, .agg #[.pointer none], .pointer (some ⟨gh, 0, none⟩), .slice (some ⟨gl, 0, none⟩) 2 2, .int .i64 1, .bool true, .int .i64 0, .int .i64 1, .tuple #[.agg (B (List.replicate 32 0)).toArray, .int .i64 1], .slice (some ⟨gl, 0, none⟩) 2 2, .int .i64 0, .pointer (some ⟨gl, 0, none⟩), .pointer none, .tuple #[.agg (B (List.replicate 32 0)).toArray, .int .i64 1], .agg (B (List.replicate 32 0)).toArray, .int .i64 1, .slice (some ⟨gl, 0, none⟩) 2 2, .int .i64 0, .pointer (some ⟨gl, 0, none⟩), .pointer none, v, .int .i64 1, .bool false, .bool false, .agg ((B (List.replicate 32 0)).toArray), .agg #[.int .u8 0, .int .u8 0, .int .u8 0, .int .u8 0, .int .u8 0, .int .u8 0, .int .u8 0, .int .u8 0, .int .u8 0, .int .u8 0, .int .u8 0, .int .u8 0, .int .u8 0, .int .u8 0, .int .u8 0, .int .u8 0, .int .u8 0, .int .u8 0, .int .u8 0, .int .u8 0, .int .u8 0, .int .u8 0, .int .u8 0, .int .u8 0, .int .u8 0, .int .u8 0, .int .u8 0, .int .u8 0, .int .u8 0, .int .u8 0, .int .u8 0, .int .u8 0], .bool false, .bool false, .bool false, .int .i64 1, .bool false, .bool false, .bool false, .slice (some ⟨gl, 0, none⟩) 2 2, .int .i64 0, .pointer (some ⟨gl, 0, none⟩), .pointer none, .int .i64 0, .bool false, .bool false, .bool false, .slice (some ⟨gl, 0, none⟩) 2 2, .int .i64 0, .pointer (some ⟨gl, 0, none⟩), .pointer none, .pointer (some ⟨gb34, 0, none⟩), v, .int .i64 1, .bool false, .bool false, undef], []⟩ (by kernel_rfl) ?_
  refine then_n ?_
  refine sy_yes (.tmp 11) (part_KeccakNone 930) (part_KeccakNone 931) (by kernel_rfl) (by kernel_rfl) ?_
  refine sy_skip (by kernel_rfl) ?_
  refine then_n ?_
  refine sy_seq (part_KeccakNone 466) (part_KeccakNone 467) (by kernel_rfl) ?_
  refine sy_block 1 (part_KeccakNone 932) (by kernel_rfl) ?_
  refine sy_seq (part_KeccakNone 1864) (part_KeccakNone 1865) (by kernel_rfl) ?_
  refine sy_reg ?_
  refine rg_plain 5 (opsAt (part_KeccakNone 1864)) [0, 1, 2, 3, 4, 5, 6, 7, 8, 9, 10] (by kernel_rfl) (by kernel_rfl) ?_
  refine ps_run ((opsAt (part_KeccakNone 1864)).getD 0 default) (.slice (some ⟨gl, 0, none⟩) 2 2) (w' := V33) (by kernel_rfl) (by kernel_rfl) (by kernel_rfl) ?_
  refine ps_run ((opsAt (part_KeccakNone 1864)).getD 1 default) (.int .i64 1) (w' := V33) (by kernel_rfl) (by kernel_rfl) (by kernel_rfl) ?_
  refine ps_run ((opsAt (part_KeccakNone 1864)).getD 2 default) (.pointer (some ⟨gl, 1, none⟩)) (w' := V33) (by kernel_rfl) (by kernel_rfl) (exec_cast (v := .pointer (some ⟨gl, 0 + 1 * 1, none⟩)) (by simp) (exec_indexAt_slice 27 (.tmp 15) (.tmp 16) (by kernel_rfl) gl 0 2 2 (by kernel_rfl) .i64 1 (by kernel_rfl) _ 1 Try.underlying27 (by kernel_rfl) (by omega))) ?_
  refine ps_run ((opsAt (part_KeccakNone 1864)).getD 3 default) (.pointer (some ⟨gh, 0, none⟩)) (w' := V33) (by kernel_rfl) (by kernel_rfl) (exec_load_cell 23 (.tmp 17) (by kernel_rfl) ⟨gl, 1, none⟩ (by kernel_rfl) _ _ Try.underlying23 rfl ((cell_of_row _ _ _ _ _ _ (h38)).trans (by kernel_rfl))) ?_
  refine ps_call ((opsAt (part_KeccakNone 1864)).getD 4 default) 10 #[.pointer (some ⟨gh, 0, none⟩)] (by kernel_rfl) (by kernel_rfl) (by kernel_rfl) (by kernel_rfl) (enters_of Try.func10 (by kernel_rfl) rfl) ((kHSum_zero gh _ h37).mono ?_)
  rintro e V42 ⟨rfl, kV42⟩
  refine ⟨_, rfl, ?_⟩
  have h43 : V42.heap[gh]? = some (.cells (#[.pointer none]) 26 (0, 0)) := (kV42.block gh (lt_of_block h37) (fun x => x)).trans h37
  have h44 : V42.heap[gl]? = some (.cells (#[.pointer none, .pointer (some ⟨gh, 0, none⟩)]) 23 (0, 0)) := (kV42.block gl (lt_of_block h38) (fun x => x)).trans h38
  have h45 : V42.heap[gr1]? = some (.cells ((B (List.replicate 32 0)).toArray) 29 (0, 0)) := (kV42.block gr1 (lt_of_block h39) (fun x => x)).trans h39
  have h46 : V42.heap[gb34]? = some (.cells (#[.pointer none]) 26 (0, 0)) := (kV42.block gb34 (lt_of_block h35) (fun x => x)).trans h35
  have K47 : Keeps Nob w V42 := K40.then kV42 (fun _ _ x => x.elim)
  have z48 := kV42.size
  refine ps_run ((opsAt (part_KeccakNone 1864)).getD 5 default) (.tuple #[.agg (B (List.replicate 32 0)).toArray, .int .i64 1]) (w' := V42) (by kernel_rfl) (by kernel_rfl) (by kernel_rfl) ?_
  refine ps_run ((opsAt (part_KeccakNone 1864)).getD 6 default) (.agg (B (List.replicate 32 0)).toArray) (w' := V42) (by kernel_rfl) (by kernel_rfl) (by kernel_rfl) ?_
  refine ps_run ((opsAt (part_KeccakNone 1864)).getD 7 default) (.int .i64 1) (w' := V42) (by kernel_rfl) (by kernel_rfl) (by kernel_rfl) ?_
  obtain ⟨V49, eV49⟩ : ∃ V, V42.alloc (.cells (#[.int .u8 0, .int .u8 0, .int .u8 0, .int .u8 0, .int .u8 0, .int .u8 0, .int .u8 0, .int .u8 0, .int .u8 0, .int .u8 0, .int .u8 0, .int .u8 0, .int .u8 0, .int .u8 0, .int .u8 0, .int .u8 0, .int .u8 0, .int .u8 0, .int .u8 0, .int .u8 0, .int .u8 0, .int .u8 0, .int .u8 0, .int .u8 0, .int .u8 0, .int .u8 0, .int .u8 0, .int .u8 0, .int .u8 0, .int .u8 0, .int .u8 0, .int .u8 0]) 29) = V := ⟨_, rfl⟩
  obtain ⟨gr2, egr2⟩ : ∃ g, V42.heap.size = g := ⟨_, rfl⟩
  have n51 : gh < gr2 := egr2 ▸ lt_of_block h43
  have n52 : gl < gr2 := egr2 ▸ lt_of_block h44
  have n53 : gr1 < gr2 := egr2 ▸ lt_of_block h45
  have n54 : gb34 < gr2 := egr2 ▸ lt_of_block h46
  have n55 : w.heap.size ≤ gr2 := egr2 ▸ K47.size
  have h50 : V49.heap[gr2]? = some (.cells (#[.int .u8 0, .int .u8 0, .int .u8 0, .int .u8 0, .int .u8 0, .int .u8 0, .int .u8 0, .int .u8 0, .int .u8 0, .int .u8 0, .int .u8 0, .int .u8 0, .int .u8 0, .int .u8 0, .int .u8 0, .int .u8 0, .int .u8 0, .int .u8 0, .int .u8 0, .int .u8 0, .int .u8 0, .int .u8 0, .int .u8 0, .int .u8 0, .int .u8 0, .int .u8 0, .int .u8 0, .int .u8 0, .int .u8 0, .int .u8 0, .int .u8 0, .int .u8 0]) 29 (0, 0)) := by rw [← eV49, ← egr2]; exact heap_alloc_new _ _
  have kV49 : Keeps Nob V42 V49 := eV49 ▸ (Keeps.refl _ _).alloc _
  refine ps_run ((opsAt (part_KeccakNone 1864)).getD 8 default) (.pointer (some ⟨gr2, 0, none⟩)) (w' := V49) (by kernel_rfl) (by kernel_rfl) (by rw [← eV49, ← egr2]; exact exec_alloc0 29 (by kernel_rfl) (.agg (#[.int .u8 0, .int .u8 0, .int .u8 0, .int .u8 0, .int .u8 0, .int .u8 0, .int .u8 0, .int .u8 0, .int .u8 0, .int .u8 0, .int .u8 0, .int .u8 0, .int .u8 0, .int .u8 0, .int .u8 0, .int .u8 0, .int .u8 0, .int .u8 0, .int .u8 0, .int .u8 0, .int .u8 0, .int .u8 0, .int .u8 0, .int .u8 0, .int .u8 0, .int .u8 0, .int .u8 0, .int .u8 0, .int .u8 0, .int .u8 0, .int .u8 0, .int .u8 0])) (by kernel_rfl)) ?_
  clear eV49
  have h56 : V49.heap[gh]? = some (.cells (#[.pointer none]) 26 (0, 0)) := (kV49.block gh (lt_of_block h43) (fun x => x)).trans h43
  have h57 : V49.heap[gl]? = some (.cells (#[.pointer none, .pointer (some ⟨gh, 0, none⟩)]) 23 (0, 0)) := (kV49.block gl (lt_of_block h44) (fun x => x)).trans h44
  have h58 : V49.heap[gr1]? = some (.cells ((B (List.replicate 32 0)).toArray) 29 (0, 0)) := (kV49.block gr1 (lt_of_block h45) (fun x => x)).trans h45
  have h59 : V49.heap[gb34]? = some (.cells (#[.pointer none]) 26 (0, 0)) := (kV49.block gb34 (lt_of_block h46) (fun x => x)).trans h46
  have K60 : Keeps Nob w V49 := K47.then kV49 (fun _ _ x => x.elim)
  have z61 := kV49.size
  obtain ⟨V62, eV62⟩ : ∃ V, V49.setRow gr2 ((B (List.replicate 32 0)).toArray) = V := ⟨_, rfl⟩
  have kV62 : Keeps (One gr2) V49 V62 := eV62 ▸ (Keeps.refl (One gr2) _).setRow (fun _ => (rfl : Own.One gr2 gr2)) _
  have h63 : V62.heap[gr2]? = some (.cells ((B (List.replicate 32 0)).toArray) 29 (0, 0)) := eV62 ▸ setRow_heap _ _ _ _ _ _ h50
  refine ps_skip ((opsAt (part_KeccakNone 1864)).getD 9 default) (w' := V62) (by kernel_rfl) (by kernel_rfl) (by rw [← eV62]; exact exec_store_row 29 (.tmp 5) (.tmp 20) (by kernel_rfl) gr2 ((B (List.replicate 32 0)).toArray) (by kernel_rfl) (by kernel_rfl) 29 (#[.int .u8 0, .int .u8 0, .int .u8 0, .int .u8 0, .int .u8 0, .int .u8 0, .int .u8 0, .int .u8 0, .int .u8 0, .int .u8 0, .int .u8 0, .int .u8 0, .int .u8 0, .int .u8 0, .int .u8 0, .int .u8 0, .int .u8 0, .int .u8 0, .int .u8 0, .int .u8 0, .int .u8 0, .int .u8 0, .int .u8 0, .int .u8 0, .int .u8 0, .int .u8 0, .int .u8 0, .int .u8 0, .int .u8 0, .int .u8 0, .int .u8 0, .int .u8 0]) h50 (by kernel_rfl) (by kernel_rfl) (by kernel_rfl)) ?_
  clear eV62
  have h64 : V62.heap[gh]? = some (.cells (#[.pointer none]) 26 (0, 0)) := (kV62.block gh (lt_of_block h56) (fun e => by unfold Own.One at e; omega)).trans h56
  have h65 : V62.heap[gl]? = some (.cells (#[.pointer none, .pointer (some ⟨gh, 0, none⟩)]) 23 (0, 0)) := (kV62.block gl (lt_of_block h57) (fun e => by unfold Own.One at e; omega)).trans h57
  have h66 : V62.heap[gr1]? = some (.cells ((B (List.replicate 32 0)).toArray) 29 (0, 0)) := (kV62.block gr1 (lt_of_block h58) (fun e => by unfold Own.One at e; omega)).trans h58
  have h67 : V62.heap[gb34]? = some (.cells (#[.pointer none]) 26 (0, 0)) := (kV62.block gb34 (lt_of_block h59) (fun e => by unfold Own.One at e; omega)).trans h59
  have K68 : Keeps Nob w V62 := K60.then kV62 (fun i hi hm => absurd hi (by unfold Own.One at hm; omega))
  have z69 := kV62.size
  refine ps_run ((opsAt (part_KeccakNone 1864)).getD 10 default) (.int .i64 1) (w' := V62) (by kernel_rfl) (by kernel_rfl) (by kernel_rfl) ?_
  refine ps_end ?_
  refine sy_act ⟨#[v, undef, .bool false, .slice (some ⟨gl, 0, none⟩) 2 2, .int .i64 1, .pointer (some ⟨gr2, 0, none⟩), .int .i64 1, .agg #[.pointer none], .pointer (some ⟨gh, 0, none⟩), .slice (some ⟨gl, 0, none⟩) 2 2, .int .i64 1, .bool true, .int .i64 0, .int .i64 1, .tuple #[.agg (B (List.replicate 32 0)).toArray, .int .i64 1], .slice (some ⟨gl, 0, none⟩) 2 2, .int .i64 1, .pointer (some ⟨gl, 1, none⟩), .pointer (some ⟨gh, 0, none⟩), .tuple #[.agg (B (List.replicate 32 0)).toArray, .int .i64 1], .agg (B (List.replicate 32 0)).toArray, .int .i64 1, .slice (some ⟨gl, 0, none⟩) 2 2, .int .i64 0, .pointer (some ⟨gl, 0, none⟩), .pointer none, v, .int .i64 1, .bool false, .bool false, .agg ((B (List.replicate 32 0)).toArray), .agg #[.int .u8 0, .int .u8 0, .int .u8 0, .int .u8 0, .int .u8 0, .int .u8 0, .int .u8 0, .int .u8 0, .int .u8 0, .int .u8 0, .int .u8 0, .int .u8 0, .int .u8 0, .int .u8 0, .int .u8 0, .int .u8 0, .int .u8 0, .int .u8 0, .int .u8 0, .int .u8 0, .int .u8 0, .int .u8 0, .int .u8 0, .int .u8 0, .int .u8 0, .int .u8 0, .int .u8 0, .int .u8 0, .int .u8 0, .int .u8 0, .int .u8 0, .int .u8 0], .bool false, .bool false, .bool false, .int .i64 1, .bool false, .bool false, .bool false, .slice (some ⟨gl, 0, none⟩) 2 2, .int .i64 0, .pointer (some ⟨gl, 0, none⟩), .pointer none, .int .i64 0, .bool false, .bool false, .bool false, .slice (some ⟨gl, 0, none⟩) 2 2, .int .i64 0, .pointer (some ⟨gl, 0, none⟩), .pointer none, .pointer (some ⟨gb34, 0, none⟩), v, .int .i64 1, .bool false, .bool false, undef], []⟩ (by kernel_rfl) ?_
  refine then_n ?_
  refine sy_seq (part_KeccakNone 3730) (part_KeccakNone 3731) (by kernel_rfl) ?_
  refine sy_reg ?_
  refine rg_plain 6 (opsAt (part_KeccakNone 3730)) [0, 1, 2, 3, 4, 5, 6, 7, 8, 9, 10, 11, 12, 13, 14, 15, 16, 17, 18, 19, 20, 21, 22, 23, 24, 25, 26, 27, 28, 29, 30, 31, 32, 33] (by kernel_rfl) (by kernel_rfl) ?_
  refine ps_run ((opsAt (part_KeccakNone 3730)).getD 0 default) (.slice (some ⟨gl, 0, none⟩) 2 2) (w' := V62) (by kernel_rfl) (by kernel_rfl) (by kernel_rfl) ?_
  refine ps_run ((opsAt (part_KeccakNone 3730)).getD 1 default) (.int .i64 1) (w' := V62) (by kernel_rfl) (by kernel_rfl) (by kernel_rfl) ?_
  refine ps_run ((opsAt (part_KeccakNone 3730)).getD 2 default) (.pointer (some ⟨gl, 1, none⟩)) (w' := V62) (by kernel_rfl) (by kernel_rfl) (exec_cast (v := .pointer (some ⟨gl, 0 + 1 * 1, none⟩)) (by simp) (exec_indexAt_slice 27 (.tmp 22) (.tmp 23) (by kernel_rfl) gl 0 2 2 (by kernel_rfl) .i64 1 (by kernel_rfl) _ 1 Try.underlying27 (by kernel_rfl) (by omega))) ?_
  refine ps_run ((opsAt (part_KeccakNone 3730)).getD 3 default) (.pointer (some ⟨gh, 0, none⟩)) (w' := V62) (by kernel_rfl) (by kernel_rfl) (exec_load_cell 23 (.tmp 24) (by kernel_rfl) ⟨gl, 1, none⟩ (by kernel_rfl) _ _ Try.underlying23 rfl ((cell_of_row _ _ _ _ _ _ (h65)).trans (by kernel_rfl))) ?_
  refine ps_run ((opsAt (part_KeccakNone 3730)).getD 4 default) (v) (w' := V62) (by kernel_rfl) (by kernel_rfl) (by kernel_rfl) ?_
  refine ps_call ((opsAt (part_KeccakNone 3730)).getD 5 default) 11 #[.pointer (some ⟨gh, 0, none⟩), v] (by kernel_rfl) (by kernel_rfl) (by kernel_rfl) (by kernel_rfl) (enters_of Try.func11 (by kernel_rfl) rfl) ((kHWrite_zero gh v _ h64).mono ?_)
  rintro e w1 ⟨rfl, rfl⟩
  refine ⟨_, rfl, ?_⟩
  refine ps_run ((opsAt (part_KeccakNone 3730)).getD 6 default) (.bool false) (w' := V62) (by kernel_rfl) (by kernel_rfl) (by kernel_rfl) ?_
  refine ps_run ((opsAt (part_KeccakNone 3730)).getD 7 default) (.bool false) (w' := V62) (by kernel_rfl) (by kernel_rfl) (by kernel_rfl) ?_
  refine ps_run ((opsAt (part_KeccakNone 3730)).getD 8 default) (.agg ((B (List.replicate 32 0)).toArray)) (w' := V62) (by kernel_rfl) (by kernel_rfl) (exec_load_row 29 (.tmp 5) (by kernel_rfl) gr2 (by kernel_rfl) _ _ (0, 0) _ (h63) Try.underlying29 rfl (by rw [Bz_size, (List.length_replicate ..)]; kernel_rfl)) ?_
  refine ps_run ((opsAt (part_KeccakNone 3730)).getD 9 default) (.agg #[.int .u8 0, .int .u8 0, .int .u8 0, .int .u8 0, .int .u8 0, .int .u8 0, .int .u8 0, .int .u8 0, .int .u8 0, .int .u8 0, .int .u8 0, .int .u8 0, .int .u8 0, .int .u8 0, .int .u8 0, .int .u8 0, .int .u8 0, .int .u8 0, .int .u8 0, .int .u8 0, .int .u8 0, .int .u8 0, .int .u8 0, .int .u8 0, .int .u8 0, .int .u8 0, .int .u8 0, .int .u8 0, .int .u8 0, .int .u8 0, .int .u8 0, .int .u8 0]) (w' := V62) (by kernel_rfl) (by kernel_rfl) (by kernel_rfl) ?_
  refine ps_run ((opsAt (part_KeccakNone 3730)).getD 10 default) (.bool false) (w' := V62) (by kernel_rfl) (by kernel_rfl) (by kernel_rfl) ?_
  refine ps_run ((opsAt (part_KeccakNone 3730)).getD 11 default) (.bool false) (w' := V62) (by kernel_rfl) (by kernel_rfl) (by kernel_rfl) ?_
  refine ps_run ((opsAt (part_KeccakNone 3730)).getD 12 default) (.bool false) (w' := V62) (by kernel_rfl) (by kernel_rfl) (by kernel_rfl) ?_
  refine ps_run ((opsAt (part_KeccakNone 3730)).getD 13 default) (.int .i64 1) (w' := V62) (by kernel_rfl) (by kernel_rfl) (by kernel_rfl) ?_
  refine ps_run ((opsAt (part_KeccakNone 3730)).getD 14 default) (.bool false) (w' := V62) (by kernel_rfl) (by kernel_rfl) (by kernel_rfl) ?_
  refine ps_run ((opsAt (part_KeccakNone 3730)).getD 15 default) (.bool false) (w' := V62) (by kernel_rfl) (by kernel_rfl) (by kernel_rfl) ?_
  refine ps_run ((opsAt (part_KeccakNone 3730)).getD 16 default) (.bool false) (w' := V62) (by kernel_rfl) (by kernel_rfl) (by kernel_rfl) ?_
  refine ps_run ((opsAt (part_KeccakNone 3730)).getD 17 default) (.slice (some ⟨gl, 0, none⟩) 2 2) (w' := V62) (by kernel_rfl) (by kernel_rfl) (by kernel_rfl) ?_
  refine ps_run ((opsAt (part_KeccakNone 3730)).getD 18 default) (.int .i64 1) (w' := V62) (by kernel_rfl) (by kernel_rfl) (by kernel_rfl) ?_
  refine ps_run ((opsAt (part_KeccakNone 3730)).getD 19 default) (.pointer (some ⟨gl, 1, none⟩)) (w' := V62) (by kernel_rfl) (by kernel_rfl) (exec_cast (v := .pointer (some ⟨gl, 0 + 1 * 1, none⟩)) (by simp) (exec_indexAt_slice 27 (.tmp 39) (.tmp 40) (by kernel_rfl) gl 0 2 2 (by kernel_rfl) .i64 1 (by kernel_rfl) _ 1 Try.underlying27 (by kernel_rfl) (by omega))) ?_
  refine ps_run ((opsAt (part_KeccakNone 3730)).getD 20 default) (.pointer (some ⟨gh, 0, none⟩)) (w' := V62) (by kernel_rfl) (by kernel_rfl) (exec_load_cell 23 (.tmp 41) (by kernel_rfl) ⟨gl, 1, none⟩ (by kernel_rfl) _ _ Try.underlying23 rfl ((cell_of_row _ _ _ _ _ _ (h65)).trans (by kernel_rfl))) ?_
  refine ps_call ((opsAt (part_KeccakNone 3730)).getD 21 default) 12 #[.pointer (some ⟨gh, 0, none⟩)] (by kernel_rfl) (by kernel_rfl) (by kernel_rfl) (by kernel_rfl) (enters_of Try.func12 (by kernel_rfl) rfl) ((kHLen_zero gh _ h64).mono ?_)
  rintro e w1 ⟨rfl, rfl⟩
  refine ⟨_, rfl, ?_⟩
  refine ps_run ((opsAt (part_KeccakNone 3730)).getD 22 default) (.bool false) (w' := V62) (by kernel_rfl) (by kernel_rfl) (by kernel_rfl) ?_
  refine ps_run ((opsAt (part_KeccakNone 3730)).getD 23 default) (.bool false) (w' := V62) (by kernel_rfl) (by kernel_rfl) (by kernel_rfl) ?_
  refine ps_run ((opsAt (part_KeccakNone 3730)).getD 24 default) (.bool false) (w' := V62) (by kernel_rfl) (by kernel_rfl) (by kernel_rfl) ?_
  refine ps_run ((opsAt (part_KeccakNone 3730)).getD 25 default) (.slice (some ⟨gl, 0, none⟩) 2 2) (w' := V62) (by kernel_rfl) (by kernel_rfl) (by kernel_rfl) ?_
  refine ps_run ((opsAt (part_KeccakNone 3730)).getD 26 default) (.int .i64 1) (w' := V62) (by kernel_rfl) (by kernel_rfl) (by kernel_rfl) ?_
  refine ps_run ((opsAt (part_KeccakNone 3730)).getD 27 default) (.pointer (some ⟨gl, 1, none⟩)) (w' := V62) (by kernel_rfl) (by kernel_rfl) (exec_cast (v := .pointer (some ⟨gl, 0 + 1 * 1, none⟩)) (by simp) (exec_indexAt_slice 27 (.tmp 47) (.tmp 48) (by kernel_rfl) gl 0 2 2 (by kernel_rfl) .i64 1 (by kernel_rfl) _ 1 Try.underlying27 (by kernel_rfl) (by omega))) ?_
  refine ps_run ((opsAt (part_KeccakNone 3730)).getD 28 default) (.pointer (some ⟨gh, 0, none⟩)) (w' := V62) (by kernel_rfl) (by kernel_rfl) (exec_load_cell 23 (.tmp 49) (by kernel_rfl) ⟨gl, 1, none⟩ (by kernel_rfl) _ _ Try.underlying23 rfl ((cell_of_row _ _ _ _ _ _ (h65)).trans (by kernel_rfl))) ?_
  refine ps_call ((opsAt (part_KeccakNone 3730)).getD 29 default) 13 #[.pointer (some ⟨gh, 0, none⟩)] (by kernel_rfl) (by kernel_rfl) (by kernel_rfl) (by kernel_rfl) (enters_of Try.func13 (by kernel_rfl) rfl) ((kHCopy_zero gh _ h64).mono ?_)
  rintro e V70 ⟨gb71, rfl, h72, n73, kV70⟩
  refine ⟨_, rfl, ?_⟩
  have h74 : V70.heap[gh]? = some (.cells (#[.pointer none]) 26 (0, 0)) := (kV70.block gh (lt_of_block h64) (fun x => x)).trans h64
  have h75 : V70.heap[gl]? = some (.cells (#[.pointer none, .pointer (some ⟨gh, 0, none⟩)]) 23 (0, 0)) := (kV70.block gl (lt_of_block h65) (fun x => x)).trans h65
  have h76 : V70.heap[gr1]? = some (.cells ((B (List.replicate 32 0)).toArray) 29 (0, 0)) := (kV70.block gr1 (lt_of_block h66) (fun x => x)).trans h66
  have h77 : V70.heap[gb34]? = some (.cells (#[.pointer none]) 26 (0, 0)) := (kV70.block gb34 (lt_of_block h67) (fun x => x)).trans h67
  have h78 : V70.heap[gr2]? = some (.cells ((B (List.replicate 32 0)).toArray) 29 (0, 0)) := (kV70.block gr2 (lt_of_block h63) (fun x => x)).trans h63
  have K79 : Keeps Nob w V70 := K68.then kV70 (fun _ _ x => x.elim)
  have z80 := kV70.size
  refine ps_run ((opsAt (part_KeccakNone 3730)).getD 30 default) (v) (w' := V70) (by kernel_rfl) (by kernel_rfl) (by kernel_rfl) ?_
  refine ps_call ((opsAt (part_KeccakNone 3730)).getD 31 default) 11 #[.pointer (some ⟨gb71, 0, none⟩), v] (by kernel_rfl) (by kernel_rfl) (by kernel_rfl) (by kernel_rfl) (enters_of Try.func11 (by kernel_rfl) rfl) ((kHWrite_zero gb71 v _ h72).mono ?_)
  rintro e w1 ⟨rfl, rfl⟩
  refine ⟨_, rfl, ?_⟩
  refine ps_run ((opsAt (part_KeccakNone 3730)).getD 32 default) (.bool false) (w' := V70) (by kernel_rfl) (by kernel_rfl) (by kernel_rfl) ?_
  refine ps_run ((opsAt (part_KeccakNone 3730)).getD 33 default) (.bool false) (w' := V70) (by kernel_rfl) (by kernel_rfl) (by kernel_rfl) ?_
  refine ps_end ?_
  refine sy_act ⟨#[v, undef, .bool false, .slice (some ⟨gl, 0, none⟩) 2 2, .int .i64 1, .pointer (some ⟨gr2, 0, none⟩), .int .i64 1, .agg #[.pointer none], .pointer (some ⟨gh, 0, none⟩), .slice (some ⟨gl, 0, none⟩) 2 2, .int .i64 1, .bool true, .int .i64 0, .int .i64 1, .tuple #[.agg (B (List.replicate 32 0)).toArray, .int .i64 1], .slice (some ⟨gl, 0, none⟩) 2 2, .int .i64 1, .pointer (some ⟨gl, 1, none⟩), .pointer (some ⟨gh, 0, none⟩), .tuple #[.agg (B (List.replicate 32 0)).toArray, .int .i64 1], .agg (B (List.replicate 32 0)).toArray, .int .i64 1, .slice (some ⟨gl, 0, none⟩) 2 2, .int .i64 1, .pointer (some ⟨gl, 1, none⟩), .pointer (some ⟨gh, 0, none⟩), v, .int .i64 1, .bool false, .bool false, .agg ((B (List.replicate 32 0)).toArray), .agg #[.int .u8 0, .int .u8 0, .int .u8 0, .int .u8 0, .int .u8 0, .int .u8 0, .int .u8 0, .int .u8 0, .int .u8 0, .int .u8 0, .int .u8 0, .int .u8 0, .int .u8 0, .int .u8 0, .int .u8 0, .int .u8 0, .int .u8 0, .int .u8 0, .int .u8 0, .int .u8 0, .int .u8 0, .int .u8 0, .int .u8 0, .int .u8 0, .int .u8 0, .int .u8 0, .int .u8 0, .int .u8 0, .int .u8 0, .int .u8 0, .int .u8 0, .int .u8 0], .bool false, .bool false, .bool false, .int .i64 1, .bool false, .bool false, .bool false, .slice (some ⟨gl, 0, none⟩) 2 2, .int .i64 1, .pointer (some ⟨gl, 1, none⟩), .pointer (some ⟨gh, 0, none⟩), .int .i64 0, .bool false, .bool false, .bool false, .slice (some ⟨gl, 0, none⟩) 2 2, .int .i64 1, .pointer (some ⟨gl, 1, none⟩), .pointer (some ⟨gh, 0, none⟩), .pointer (some ⟨gb71, 0, none⟩), v, .int .i64 1, .bool false, .bool false, undef], []⟩ (by kernel_rfl) ?_
  refine then_n ?_
  refine sy_no (.tmp 55) (part_KeccakNone 7462) (part_KeccakNone 7463) (by kernel_rfl) (by kernel_rfl) ?_
  refine sy_skip (by kernel_rfl) ?_
  refine blk_n ?_
  refine then_n ?_
  refine sy_reg ?_
  refine rg_plain 4 (opsAt (part_KeccakNone 467)) [0, 1, 2] (by kernel_rfl) (by kernel_rfl) ?_
  refine ps_run ((opsAt (part_KeccakNone 467)).getD 0 default) (.int .i64 1) (w' := V70) (by kernel_rfl) (by kernel_rfl) (by kernel_rfl) ?_
  refine ps_run ((opsAt (part_KeccakNone 467)).getD 1 default) (.int .i64 2) (w' := V70) (by kernel_rfl) (by kernel_rfl) (by kernel_rfl) ?_
  refine ps_run ((opsAt (part_KeccakNone 467)).getD 2 default) (.int .i64 2) (w' := V70) (by kernel_rfl) (by kernel_rfl) (by kernel_rfl) ?_
  refine ps_end ?_
  refine sy_act ⟨#[v, undef, .bool false, .slice (some ⟨gl, 0, none⟩) 2 2, .int .i64 2, .pointer (some ⟨gr2, 0, none⟩), .int .i64 1, .agg #[.pointer none], .pointer (some ⟨gh, 0, none⟩), .slice (some ⟨gl, 0, none⟩) 2 2, .int .i64 1, .bool true, .int .i64 1, .int .i64 2, .tuple #[.agg (B (List.replicate 32 0)).toArray, .int .i64 1], .slice (some ⟨gl, 0, none⟩) 2 2, .int .i64 1, .pointer (some ⟨gl, 1, none⟩), .pointer (some ⟨gh, 0, none⟩), .tuple #[.agg (B (List.replicate 32 0)).toArray, .int .i64 1], .agg (B (List.replicate 32 0)).toArray, .int .i64 1, .slice (some ⟨gl, 0, none⟩) 2 2, .int .i64 1, .pointer (some ⟨gl, 1, none⟩), .pointer (some ⟨gh, 0, none⟩), v, .int .i64 1, .bool false, .bool false, .agg ((B (List.replicate 32 0)).toArray), .agg #[.int .u8 0, .int .u8 0, .int .u8 0, .int .u8 0, .int .u8 0, .int .u8 0, .int .u8 0, .int .u8 0, .int .u8 0, .int .u8 0, .int .u8 0, .int .u8 0, .int .u8 0, .int .u8 0, .int .u8 0, .int .u8 0, .int .u8 0, .int .u8 0, .int .u8 0, .int .u8 0, .int .u8 0, .int .u8 0, .int .u8 0, .int .u8 0, .int .u8 0, .int .u8 0, .int .u8 0, .int .u8 0, .int .u8 0, .int .u8 0, .int .u8 0, .int .u8 0], .bool false, .bool false, .bool false, .int .i64 1, .bool false, .bool false, .bool false, .slice (some ⟨gl, 0, none⟩) 2 2, .int .i64 1, .pointer (some ⟨gl, 1, none⟩), .pointer (some ⟨gh, 0, none⟩), .int .i64 0, .bool false, .bool false, .bool false, .slice (some ⟨gl, 0, none⟩) 2 2, .int .i64 1, .pointer (some ⟨gl, 1, none⟩), .pointer (some ⟨gh, 0, none⟩), .pointer (some ⟨gb71, 0, none⟩), v, .int .i64 1, .bool false, .bool false, undef], []⟩ (by kernel_rfl) ?_
  refine then_n ?_
  refine rd_step ?_
  refine sy_seq (part_KeccakNone 232) (part_KeccakNone 233) (by kernel_rfl) ?_
  refine sy_seq (part_KeccakNone 464) (part_KeccakNone 465) (by kernel_rfl) ?_
  refine sy_reg ?_
  refine rg_plain 3 (opsAt (part_KeccakNone 464)) [0, 1] (by kernel_rfl) (by kernel_rfl) ?_
  refine ps_run ((opsAt (part_KeccakNone 464)).getD 0 default) (.int .i64 2) (w' := V70) (by kernel_rfl) (by kernel_rfl) (by kernel_rfl) ?_
  refine ps_run ((opsAt (part_KeccakNone 464)).getD 1 default) (.bool false) (w' := V70) (by kernel_rfl) (by kernel_rfl) (by kernel_rfl) ?_
  refine ps_end ?_
  refine sy_act ⟨#[v, undef, .bool false, .slice (some ⟨gl, 0, none⟩) 2 2, .int .i64 2, .pointer (some ⟨gr2, 0, none⟩), .int .i64 1, .agg #[.pointer none], .pointer (some ⟨gh, 0, none⟩), .slice (some ⟨gl, 0, none⟩) 2 2, .int .i64 2, .bool false, .int .i64 1, .int .i64 2, .tuple #[.agg (B (List.replicate 32 0)).toArray, .int .i64 1], .slice (some ⟨gl, 0, none⟩) 2 2, .int .i64 1, .pointer (some ⟨gl, 1, none⟩), .pointer (some ⟨gh, 0, none⟩), .tuple #[.agg (B (List.replicate 32 0)).toArray, .int .i64 1], .agg (B (List.replicate 32 0)).toArray, .int .i64 1, .slice (some ⟨gl, 0, none⟩) 2 2, .int .i64 1, .pointer (some ⟨gl, 1, none⟩), .pointer (some ⟨gh, 0, none⟩), v, .int .i64 1, .bool false, .bool false, .agg ((B (List.replicate 32 0)).toArray), .agg #[.int .u8 0, .int .u8 0, .int .u8 0, .int .u8 0, .int .u8 0, .int .u8 0, .int .u8 0, .int .u8 0, .int .u8 0, .int .u8 0, .int .u8 0, .int .u8 0, .int .u8 0, .int .u8 0, .int .u8 0, .int .u8 0, .int .u8 0, .int .u8 0, .int .u8 0, .int .u8 0, .int .u8 0, .int .u8 0, .int .u8 0, .int .u8 0, .int .u8 0, .int .u8 0, .int .u8 0, .int .u8 0, .int .u8 0, .int .u8 0, .int .u8 0, .int .u8 0], .bool false, .bool false, .bool false, .int .i64 1, .bool false, .bool false, .bool false, .slice (some ⟨gl, 0, none⟩) 2 2, .int .i64 1, .pointer (some ⟨gl, 1, none⟩), .pointer (some ⟨gh, 0, none⟩), .int .i64 0, .bool false, .bool false, .bool false, .slice (some ⟨gl, 0, none⟩) 2 2, .int .i64 1, .pointer (some ⟨gl, 1, none⟩), .pointer (some ⟨gh, 0, none⟩), .pointer (some ⟨gb71, 0, none⟩), v, .int .i64 1, .bool false, .bool false, undef], []⟩ (by kernel_rfl) ?_
  refine then_n ?_
  refine sy_no (.tmp 11) (part_KeccakNone 930) (part_KeccakNone 931) (by kernel_rfl) (by kernel_rfl) ?_
  refine sy_exit 0 (by kernel_rfl) ?_
  refine then_e ?_
  refine then_e ?_
  refine blk_e ?_
  refine then_n ?_
  refine sy_seq (part_KeccakNone 30) (part_KeccakNone 31) (by kernel_rfl) ?_
  refine sy_reg ?_
  refine rg_plain 8 (opsAt (part_KeccakNone 30)) [0, 1] (by kernel_rfl) (by kernel_rfl) ?_
  refine ps_call ((opsAt (part_KeccakNone 30)).getD 0 default) 14 #[] (by kernel_rfl) (by kernel_rfl) (by kernel_rfl) (by kernel_rfl) (enters_of Try.func14 (by kernel_rfl) rfl) ((lawake_ok _).mono ?_)
  rintro e V81 ⟨rfl, kV81⟩
  refine ⟨_, rfl, ?_⟩
  have h82 : V81.heap[gh]? = some (.cells (#[.pointer none]) 26 (0, 0)) := (kV81.block gh (lt_of_block h74) (fun x => x)).trans h74
  have h83 : V81.heap[gl]? = some (.cells (#[.pointer none, .pointer (some ⟨gh, 0, none⟩)]) 23 (0, 0)) := (kV81.block gl (lt_of_block h75) (fun x => x)).trans h75
  have h84 : V81.heap[gr1]? = some (.cells ((B (List.replicate 32 0)).toArray) 29 (0, 0)) := (kV81.block gr1 (lt_of_block h76) (fun x => x)).trans h76
  have h85 : V81.heap[gb34]? = some (.cells (#[.pointer none]) 26 (0, 0)) := (kV81.block gb34 (lt_of_block h77) (fun x => x)).trans h77
  have h86 : V81.heap[gr2]? = some (.cells ((B (List.replicate 32 0)).toArray) 29 (0, 0)) := (kV81.block gr2 (lt_of_block h78) (fun x => x)).trans h78
  have h87 : V81.heap[gb71]? = some (.cells (#[.pointer none]) 26 (0, 0)) := (kV81.block gb71 (lt_of_block h72) (fun x => x)).trans h72
  have K88 : Keeps Nob w V81 := K79.then kV81 (fun _ _ x => x.elim)
  have z89 := kV81.size
  refine ps_run ((opsAt (part_KeccakNone 30)).getD 1 default) (.bool true) (w' := V81) (by kernel_rfl) (by kernel_rfl) (by kernel_rfl) ?_
  refine ps_end ?_
  refine sy_act ⟨#[v, undef, .bool true, .slice (some ⟨gl, 0, none⟩) 2 2, .int .i64 2, .pointer (some ⟨gr2, 0, none⟩), .int .i64 1, .agg #[.pointer none], .pointer (some ⟨gh, 0, none⟩), .slice (some ⟨gl, 0, none⟩) 2 2, .int .i64 2, .bool false, .int .i64 1, .int .i64 2, .tuple #[.agg (B (List.replicate 32 0)).toArray, .int .i64 1], .slice (some ⟨gl, 0, none⟩) 2 2, .int .i64 1, .pointer (some ⟨gl, 1, none⟩), .pointer (some ⟨gh, 0, none⟩), .tuple #[.agg (B (List.replicate 32 0)).toArray, .int .i64 1], .agg (B (List.replicate 32 0)).toArray, .int .i64 1, .slice (some ⟨gl, 0, none⟩) 2 2, .int .i64 1, .pointer (some ⟨gl, 1, none⟩), .pointer (some ⟨gh, 0, none⟩), v, .int .i64 1, .bool false, .bool false, .agg ((B (List.replicate 32 0)).toArray), .agg #[.int .u8 0, .int .u8 0, .int .u8 0, .int .u8 0, .int .u8 0, .int .u8 0, .int .u8 0, .int .u8 0, .int .u8 0, .int .u8 0, .int .u8 0, .int .u8 0, .int .u8 0, .int .u8 0, .int .u8 0, .int .u8 0, .int .u8 0, .int .u8 0, .int .u8 0, .int .u8 0, .int .u8 0, .int .u8 0, .int .u8 0, .int .u8 0, .int .u8 0, .int .u8 0, .int .u8 0, .int .u8 0, .int .u8 0, .int .u8 0, .int .u8 0, .int .u8 0], .bool false, .bool false, .bool false, .int .i64 1, .bool false, .bool false, .bool false, .slice (some ⟨gl, 0, none⟩) 2 2, .int .i64 1, .pointer (some ⟨gl, 1, none⟩), .pointer (some ⟨gh, 0, none⟩), .int .i64 0, .bool false, .bool false, .bool false, .slice (some ⟨gl, 0, none⟩) 2 2, .int .i64 1, .pointer (some ⟨gl, 1, none⟩), .pointer (some ⟨gh, 0, none⟩), .pointer (some ⟨gb71, 0, none⟩), v, .int .i64 1, .bool false, .bool false, .bool true], []⟩ (by kernel_rfl) ?_
  refine then_n ?_
  refine sy_ret (by kernel_rfl) ?_
  refine sy_out (.bool true) rfl (by kernel_rfl) ?_
  exact ⟨rfl, K88⟩
end Go.Proofs.Ytolbdhgclcemlaa
