/-
  Votes: the laws' own votes, some of the chapter's examples (printed by vote6.py). Conditions: none.
-/
import Derived.Test.YtenaakldccjnbaaVoteD
import Derived.Test.YtenaakldccjnbaaVoteF
import Derived.Lib.AppendZerosOnto
namespace Go.Proofs.Ytenaakldccjnbaa
open Go Go.RowKit Go.Own Go.Shelf
def attOne : Att := ⟨1, 2, 3, List.replicate 32 0, 5⟩
def proOne : Pro := ⟨1, 300, List.replicate 32 0, 128⟩
def attWide : Att := ⟨1, 1, 4, List.replicate 32 0, 0⟩
theorem attOne_ok : attOne.Ok := ⟨by decide, by decide, by decide, by decide, by decide⟩
theorem proOne_ok : proOne.Ok := ⟨by decide, by decide, by decide, by decide⟩
theorem attWide_ok : attWide.Ok := ⟨by decide, by decide, by decide, by decide, by decide⟩
theorem attOne_fine : attOne.fine := by decide
theorem proOne_fine : proOne.fine := by decide
theorem attOne_bytes : attOne.bytes = [1, 1, 2, 3] ++ List.replicate 32 0 ++ [5] := by kernel_rfl
theorem proOne_bytes : proOne.bytes = [2, 1, 172, 2] ++ List.replicate 32 0 ++ [128, 1] := by kernel_rfl
theorem surr_1 : surr attWide attOne = true := by decide
theorem surr_2 : surr attOne attWide = false := by decide
theorem sameBytes_same {w : World} {a b : Value} {l m : List UInt8} (ha : BytesAt w a l) (hb : BytesAt w b m) (he : l = m) : Calls Try.prog 20 #[a, b] w fun e w' => e = .returned (.bool true) ∧ w = w' := by
  have := sameBytes_ok a b l m w ha hb
  rwa [show (l == m) = true by simpa using he] at this
theorem append_zeros {w : World} {g n : Nat} {x : List UInt8} (h : w.heap[g]? = some (.cells (B x).toArray 5 (0, 0))) (hx : x.length = n) (hn : n ≤ 1000) (ty : TypeId) :
    ∃ v W1, (Builtin.append_ #[22, 3] ty #[.slice (some ⟨g, 0, none⟩) n n, .int .i64 32]).run Try.prog w = .ok v W1 ∧ Row W1 5 1 v (n + 32) (B (x ++ List.replicate 32 0)) ∧ NewFrom w.heap.size v ∧ Keeps Nob w W1 := by
  obtain ⟨i0, hi, hz0, hz1, hz2⟩ := info_parts u8_info0
  have hold : (Builtin.firstCells i0.size n (.slice (some ⟨g, 0, none⟩) n n)).run Try.prog w.drew = .ok (B x).toArray w.drew := by
    refine run_firstCells_some w.drew i0.size n ⟨g, 0, none⟩ n n (B x) (by rw [B_length, hx, hz1, Nat.mul_one]) (fun j v hj => ?_)
    rw [Addr.add_lit, Nat.zero_add]
    exact (cell_of_row _ _ _ _ _ _ (show w.drew.heap[g]? = _ from h)).trans (by rw [List.getElem?_toArray]; exact hj)
  have h2 := Lib.run_append_grow_zeros (P := Try.prog) w 22 3 ty 5 i0 (.int .u8 0) .i64 .i64 Try.underlying22 Try.underlying3 hi hz0 (some ⟨g, 0, none⟩) n n (B x) hold 32 (by omega) (by omega) (by omega) (by omega) (by rw [hz2]; omega)
    (growslice_fits (need := n + 32) (old := n) (bytes := i0.bytes) (by omega) (by rw [hz2]; omega))
  have hge := grownCap_ge w (n + 32) n 5
  have hle := grownCap_le_maxLen w (n + 32) n 5 (by unfold maxLen; omega)
  refine ⟨_, _, h2, ⟨by simp [B_length, hx], .inr ⟨_, _, _, rfl, Nat.zero_le _, heap_alloc_new _ _, hge, hle, ?_, ?_⟩⟩, NewFrom.ptr (Nat.le_refl _) _ _, ((Keeps.refl _ _).drew).alloc _⟩
  · simp [Builtin.zeroCells, Value.cells, B_length, hx]; omega
  · have e1 : (Builtin.zeroCells (Value.int .u8 0).cells 32).toList = B (List.replicate 32 0) := by kernel_rfl
    simp only [Array.toList_append, e1]
    rw [← B_append, Nat.mul_one, List.take_left' (by rw [B_length, List.length_append, hx]; rfl)]

noncomputable def part_lone (n : Nat) : Code := partOf Try.f36 n
noncomputable abbrev o_lone (n k : Nat) : Oper := (opsAt (part_lone n)).getD k default
set_option maxRecDepth 100000 in
set_option maxHeartbeats 4000000 in
theorem lone_ok (w : World) :
    Calls Try.prog 36 #[] w (fun e w' => e = .returned (.agg (Att.c attOne)) ∧ Keeps Nob w w') := by
  have K0 : Keeps Nob w w := Keeps.refl _ _
  refine sy_enter (part_lone 1) ⟨#[undef, undef], []⟩ Try.func36 (by kernel_rfl) (by kernel_rfl) ?_
  refine sy_sq (part_lone 2) (part_lone 3) ?_
  refine sy_reg ?_
  refine rg_plain 0 (opsAt (part_lone 2)) [0] (by kernel_rfl) (by kernel_rfl) ?_
  obtain ⟨V1, eV1, gr, egr, h2, kV1⟩ := alloc_step w (#[.int .i64 0, .int .i64 0, .int .i64 0, .int .u8 0, .int .u8 0, .int .u8 0, .int .u8 0, .int .u8 0, .int .u8 0, .int .u8 0, .int .u8 0, .int .u8 0, .int .u8 0, .int .u8 0, .int .u8 0, .int .u8 0, .int .u8 0, .int .u8 0, .int .u8 0, .int .u8 0, .int .u8 0, .int .u8 0, .int .u8 0, .int .u8 0, .int .u8 0, .int .u8 0, .int .u8 0, .int .u8 0, .int .u8 0, .int .u8 0, .int .u8 0, .int .u8 0, .int .u8 0, .int .u8 0, .int .u8 0, .int .u64 0]) 29
  have n3 : w.heap.size ≤ gr := egr ▸ K0.size
  refine ps_r (o_lone 2 0) (pT gr 0) (w' := V1) (by rw [← eV1, ← egr]; exact exec_alloc0 29 (by kernel_rfl) (.agg (#[.int .i64 0, .int .i64 0, .int .i64 0, .int .u8 0, .int .u8 0, .int .u8 0, .int .u8 0, .int .u8 0, .int .u8 0, .int .u8 0, .int .u8 0, .int .u8 0, .int .u8 0, .int .u8 0, .int .u8 0, .int .u8 0, .int .u8 0, .int .u8 0, .int .u8 0, .int .u8 0, .int .u8 0, .int .u8 0, .int .u8 0, .int .u8 0, .int .u8 0, .int .u8 0, .int .u8 0, .int .u8 0, .int .u8 0, .int .u8 0, .int .u8 0, .int .u8 0, .int .u8 0, .int .u8 0, .int .u8 0, .int .u64 0])) (by kernel_rfl)) ?_
  clear eV1
  have K4 := K0.nn kV1
  have z5 := kV1.size
  refine ps_end ?_
  refine then_n ?_
  refine sy_sq (part_lone 6) (part_lone 7) ?_
  refine sy_reg ?_
  refine rg_plain 1 (opsAt (part_lone 6)) [0, 1] (by kernel_rfl) (by kernel_rfl) ?_
  refine ps_k (o_lone 6 0) (.agg #[.int .i64 1, .int .i64 2, .int .i64 3, .int .u8 0, .int .u8 0, .int .u8 0, .int .u8 0, .int .u8 0, .int .u8 0, .int .u8 0, .int .u8 0, .int .u8 0, .int .u8 0, .int .u8 0, .int .u8 0, .int .u8 0, .int .u8 0, .int .u8 0, .int .u8 0, .int .u8 0, .int .u8 0, .int .u8 0, .int .u8 0, .int .u8 0, .int .u8 0, .int .u8 0, .int .u8 0, .int .u8 0, .int .u8 0, .int .u8 0, .int .u8 0, .int .u8 0, .int .u8 0, .int .u8 0, .int .u8 0, .int .u64 5]) ?_
  obtain ⟨V6, eV6, kV6⟩ := rowset_step V1 gr (#[.int .i64 1, .int .i64 2, .int .i64 3, .int .u8 0, .int .u8 0, .int .u8 0, .int .u8 0, .int .u8 0, .int .u8 0, .int .u8 0, .int .u8 0, .int .u8 0, .int .u8 0, .int .u8 0, .int .u8 0, .int .u8 0, .int .u8 0, .int .u8 0, .int .u8 0, .int .u8 0, .int .u8 0, .int .u8 0, .int .u8 0, .int .u8 0, .int .u8 0, .int .u8 0, .int .u8 0, .int .u8 0, .int .u8 0, .int .u8 0, .int .u8 0, .int .u8 0, .int .u8 0, .int .u8 0, .int .u8 0, .int .u64 5])
  have h7 : V6.heap[gr]? = some (.cells (#[.int .i64 1, .int .i64 2, .int .i64 3, .int .u8 0, .int .u8 0, .int .u8 0, .int .u8 0, .int .u8 0, .int .u8 0, .int .u8 0, .int .u8 0, .int .u8 0, .int .u8 0, .int .u8 0, .int .u8 0, .int .u8 0, .int .u8 0, .int .u8 0, .int .u8 0, .int .u8 0, .int .u8 0, .int .u8 0, .int .u8 0, .int .u8 0, .int .u8 0, .int .u8 0, .int .u8 0, .int .u8 0, .int .u8 0, .int .u8 0, .int .u8 0, .int .u8 0, .int .u8 0, .int .u8 0, .int .u8 0, .int .u64 5]) 29 (0, 0)) := eV6 ▸ setRow_heap _ _ _ _ _ _ h2
  refine ps_s (o_lone 6 1) (w' := V6) (by rw [← eV6]; exact exec_store_row 29 (.tmp 0) (.tmp 1) (by kernel_rfl) gr (#[.int .i64 1, .int .i64 2, .int .i64 3, .int .u8 0, .int .u8 0, .int .u8 0, .int .u8 0, .int .u8 0, .int .u8 0, .int .u8 0, .int .u8 0, .int .u8 0, .int .u8 0, .int .u8 0, .int .u8 0, .int .u8 0, .int .u8 0, .int .u8 0, .int .u8 0, .int .u8 0, .int .u8 0, .int .u8 0, .int .u8 0, .int .u8 0, .int .u8 0, .int .u8 0, .int .u8 0, .int .u8 0, .int .u8 0, .int .u8 0, .int .u8 0, .int .u8 0, .int .u8 0, .int .u8 0, .int .u8 0, .int .u64 5]) (by kernel_rfl) (by kernel_rfl) 29 (#[.int .i64 0, .int .i64 0, .int .i64 0, .int .u8 0, .int .u8 0, .int .u8 0, .int .u8 0, .int .u8 0, .int .u8 0, .int .u8 0, .int .u8 0, .int .u8 0, .int .u8 0, .int .u8 0, .int .u8 0, .int .u8 0, .int .u8 0, .int .u8 0, .int .u8 0, .int .u8 0, .int .u8 0, .int .u8 0, .int .u8 0, .int .u8 0, .int .u8 0, .int .u8 0, .int .u8 0, .int .u8 0, .int .u8 0, .int .u8 0, .int .u8 0, .int .u8 0, .int .u8 0, .int .u8 0, .int .u8 0, .int .u64 0]) h2 (by kernel_rfl) (by kernel_rfl) (by kernel_rfl)) ?_
  clear eV6
  have K8 := K4.no kV6 (by omega)
  have z9 := kV6.size
  refine ps_end ?_
  refine then_n ?_
  refine sy_ret (by kernel_rfl) ?_
  refine sy_out (.agg (#[.int .i64 1, .int .i64 2, .int .i64 3, .int .u8 0, .int .u8 0, .int .u8 0, .int .u8 0, .int .u8 0, .int .u8 0, .int .u8 0, .int .u8 0, .int .u8 0, .int .u8 0, .int .u8 0, .int .u8 0, .int .u8 0, .int .u8 0, .int .u8 0, .int .u8 0, .int .u8 0, .int .u8 0, .int .u8 0, .int .u8 0, .int .u8 0, .int .u8 0, .int .u8 0, .int .u8 0, .int .u8 0, .int .u8 0, .int .u8 0, .int .u8 0, .int .u8 0, .int .u8 0, .int .u8 0, .int .u8 0, .int .u64 5])) rfl (results_cell_row (p := 0) (ty := 29) (by kernel_rfl) _ _ gr 29 (#[.int .i64 1, .int .i64 2, .int .i64 3, .int .u8 0, .int .u8 0, .int .u8 0, .int .u8 0, .int .u8 0, .int .u8 0, .int .u8 0, .int .u8 0, .int .u8 0, .int .u8 0, .int .u8 0, .int .u8 0, .int .u8 0, .int .u8 0, .int .u8 0, .int .u8 0, .int .u8 0, .int .u8 0, .int .u8 0, .int .u8 0, .int .u8 0, .int .u8 0, .int .u8 0, .int .u8 0, .int .u8 0, .int .u8 0, .int .u8 0, .int .u8 0, .int .u8 0, .int .u8 0, .int .u8 0, .int .u8 0, .int .u64 5]) (0, 0) _ (by kernel_rfl) h7 Try.underlying29 rfl (by kernel_rfl)) ?_
  exact ⟨congrArg Ending.returned (congrArg Value.agg (show _ = Att.c attOne by kernel_rfl)), K8⟩
noncomputable def part_lblock (n : Nat) : Code := partOf Try.f37 n
noncomputable abbrev o_lblock (n k : Nat) : Oper := (opsAt (part_lblock n)).getD k default
set_option maxRecDepth 100000 in
set_option maxHeartbeats 4000000 in
theorem lblock_ok (w : World) :
    Calls Try.prog 37 #[] w (fun e w' => e = .returned (.agg (Pro.c proOne)) ∧ Keeps Nob w w') := by
  have K0 : Keeps Nob w w := Keeps.refl _ _
  refine sy_enter (part_lblock 1) ⟨#[undef, undef], []⟩ Try.func37 (by kernel_rfl) (by kernel_rfl) ?_
  refine sy_sq (part_lblock 2) (part_lblock 3) ?_
  refine sy_reg ?_
  refine rg_plain 0 (opsAt (part_lblock 2)) [0] (by kernel_rfl) (by kernel_rfl) ?_
  obtain ⟨V1, eV1, gr, egr, h2, kV1⟩ := alloc_step w (#[.int .i64 0, .int .i64 0, .int .u8 0, .int .u8 0, .int .u8 0, .int .u8 0, .int .u8 0, .int .u8 0, .int .u8 0, .int .u8 0, .int .u8 0, .int .u8 0, .int .u8 0, .int .u8 0, .int .u8 0, .int .u8 0, .int .u8 0, .int .u8 0, .int .u8 0, .int .u8 0, .int .u8 0, .int .u8 0, .int .u8 0, .int .u8 0, .int .u8 0, .int .u8 0, .int .u8 0, .int .u8 0, .int .u8 0, .int .u8 0, .int .u8 0, .int .u8 0, .int .u8 0, .int .u8 0, .int .u64 0]) 36
  have n3 : w.heap.size ≤ gr := egr ▸ K0.size
  refine ps_r (o_lblock 2 0) (pT gr 0) (w' := V1) (by rw [← eV1, ← egr]; exact exec_alloc0 36 (by kernel_rfl) (.agg (#[.int .i64 0, .int .i64 0, .int .u8 0, .int .u8 0, .int .u8 0, .int .u8 0, .int .u8 0, .int .u8 0, .int .u8 0, .int .u8 0, .int .u8 0, .int .u8 0, .int .u8 0, .int .u8 0, .int .u8 0, .int .u8 0, .int .u8 0, .int .u8 0, .int .u8 0, .int .u8 0, .int .u8 0, .int .u8 0, .int .u8 0, .int .u8 0, .int .u8 0, .int .u8 0, .int .u8 0, .int .u8 0, .int .u8 0, .int .u8 0, .int .u8 0, .int .u8 0, .int .u8 0, .int .u8 0, .int .u64 0])) (by kernel_rfl)) ?_
  clear eV1
  have K4 := K0.nn kV1
  have z5 := kV1.size
  refine ps_end ?_
  refine then_n ?_
  refine sy_sq (part_lblock 6) (part_lblock 7) ?_
  refine sy_reg ?_
  refine rg_plain 1 (opsAt (part_lblock 6)) [0, 1] (by kernel_rfl) (by kernel_rfl) ?_
  refine ps_k (o_lblock 6 0) (.agg #[.int .i64 1, .int .i64 300, .int .u8 0, .int .u8 0, .int .u8 0, .int .u8 0, .int .u8 0, .int .u8 0, .int .u8 0, .int .u8 0, .int .u8 0, .int .u8 0, .int .u8 0, .int .u8 0, .int .u8 0, .int .u8 0, .int .u8 0, .int .u8 0, .int .u8 0, .int .u8 0, .int .u8 0, .int .u8 0, .int .u8 0, .int .u8 0, .int .u8 0, .int .u8 0, .int .u8 0, .int .u8 0, .int .u8 0, .int .u8 0, .int .u8 0, .int .u8 0, .int .u8 0, .int .u8 0, .int .u64 128]) ?_
  obtain ⟨V6, eV6, kV6⟩ := rowset_step V1 gr (#[.int .i64 1, .int .i64 300, .int .u8 0, .int .u8 0, .int .u8 0, .int .u8 0, .int .u8 0, .int .u8 0, .int .u8 0, .int .u8 0, .int .u8 0, .int .u8 0, .int .u8 0, .int .u8 0, .int .u8 0, .int .u8 0, .int .u8 0, .int .u8 0, .int .u8 0, .int .u8 0, .int .u8 0, .int .u8 0, .int .u8 0, .int .u8 0, .int .u8 0, .int .u8 0, .int .u8 0, .int .u8 0, .int .u8 0, .int .u8 0, .int .u8 0, .int .u8 0, .int .u8 0, .int .u8 0, .int .u64 128])
  have h7 : V6.heap[gr]? = some (.cells (#[.int .i64 1, .int .i64 300, .int .u8 0, .int .u8 0, .int .u8 0, .int .u8 0, .int .u8 0, .int .u8 0, .int .u8 0, .int .u8 0, .int .u8 0, .int .u8 0, .int .u8 0, .int .u8 0, .int .u8 0, .int .u8 0, .int .u8 0, .int .u8 0, .int .u8 0, .int .u8 0, .int .u8 0, .int .u8 0, .int .u8 0, .int .u8 0, .int .u8 0, .int .u8 0, .int .u8 0, .int .u8 0, .int .u8 0, .int .u8 0, .int .u8 0, .int .u8 0, .int .u8 0, .int .u8 0, .int .u64 128]) 36 (0, 0)) := eV6 ▸ setRow_heap _ _ _ _ _ _ h2
  refine ps_s (o_lblock 6 1) (w' := V6) (by rw [← eV6]; exact exec_store_row 36 (.tmp 0) (.tmp 1) (by kernel_rfl) gr (#[.int .i64 1, .int .i64 300, .int .u8 0, .int .u8 0, .int .u8 0, .int .u8 0, .int .u8 0, .int .u8 0, .int .u8 0, .int .u8 0, .int .u8 0, .int .u8 0, .int .u8 0, .int .u8 0, .int .u8 0, .int .u8 0, .int .u8 0, .int .u8 0, .int .u8 0, .int .u8 0, .int .u8 0, .int .u8 0, .int .u8 0, .int .u8 0, .int .u8 0, .int .u8 0, .int .u8 0, .int .u8 0, .int .u8 0, .int .u8 0, .int .u8 0, .int .u8 0, .int .u8 0, .int .u8 0, .int .u64 128]) (by kernel_rfl) (by kernel_rfl) 36 (#[.int .i64 0, .int .i64 0, .int .u8 0, .int .u8 0, .int .u8 0, .int .u8 0, .int .u8 0, .int .u8 0, .int .u8 0, .int .u8 0, .int .u8 0, .int .u8 0, .int .u8 0, .int .u8 0, .int .u8 0, .int .u8 0, .int .u8 0, .int .u8 0, .int .u8 0, .int .u8 0, .int .u8 0, .int .u8 0, .int .u8 0, .int .u8 0, .int .u8 0, .int .u8 0, .int .u8 0, .int .u8 0, .int .u8 0, .int .u8 0, .int .u8 0, .int .u8 0, .int .u8 0, .int .u8 0, .int .u64 0]) h2 (by kernel_rfl) (by kernel_rfl) (by kernel_rfl)) ?_
  clear eV6
  have K8 := K4.no kV6 (by omega)
  have z9 := kV6.size
  refine ps_end ?_
  refine then_n ?_
  refine sy_ret (by kernel_rfl) ?_
  refine sy_out (.agg (#[.int .i64 1, .int .i64 300, .int .u8 0, .int .u8 0, .int .u8 0, .int .u8 0, .int .u8 0, .int .u8 0, .int .u8 0, .int .u8 0, .int .u8 0, .int .u8 0, .int .u8 0, .int .u8 0, .int .u8 0, .int .u8 0, .int .u8 0, .int .u8 0, .int .u8 0, .int .u8 0, .int .u8 0, .int .u8 0, .int .u8 0, .int .u8 0, .int .u8 0, .int .u8 0, .int .u8 0, .int .u8 0, .int .u8 0, .int .u8 0, .int .u8 0, .int .u8 0, .int .u8 0, .int .u8 0, .int .u64 128])) rfl (results_cell_row (p := 0) (ty := 36) (by kernel_rfl) _ _ gr 36 (#[.int .i64 1, .int .i64 300, .int .u8 0, .int .u8 0, .int .u8 0, .int .u8 0, .int .u8 0, .int .u8 0, .int .u8 0, .int .u8 0, .int .u8 0, .int .u8 0, .int .u8 0, .int .u8 0, .int .u8 0, .int .u8 0, .int .u8 0, .int .u8 0, .int .u8 0, .int .u8 0, .int .u8 0, .int .u8 0, .int .u8 0, .int .u8 0, .int .u8 0, .int .u8 0, .int .u8 0, .int .u8 0, .int .u8 0, .int .u8 0, .int .u8 0, .int .u8 0, .int .u8 0, .int .u8 0, .int .u64 128]) (0, 0) _ (by kernel_rfl) h7 Try.underlying36 rfl (by kernel_rfl)) ?_
  exact ⟨congrArg Ending.returned (congrArg Value.agg (show _ = Pro.c proOne by kernel_rfl)), K8⟩
theorem exec_app2 {P : Program} {o : Oper} {ρ : Operand → Value} {w : World} (s x : Operand) (t tn : TypeId) (ho : o.op = .call { callee := .builtin .append, args := #[s, x], argTypes := #[t, tn] }) (vs vx : Value) (hs : ρ s = vs) (hx : ρ x = vx) {v' : Value} {w' : World}
    (hr : (Builtin.append_ #[t, tn] o.type #[vs, vx]).run P w = .ok v' w') : (execOp ρ o).run P w = .ok (.value v') w' := by
  unfold execOp
  simp only [ho, resolve, invoke, builtin, Sem.run_bind, Sem.run_pure, Result.andThen_ok, List.map_toArray, List.map_cons, List.map_nil, hs, hx, hr]
noncomputable def part_ltold (n : Nat) : Code := partOf Try.f41 n
noncomputable abbrev o_ltold (n k : Nat) : Oper := (opsAt (part_ltold n)).getD k default
set_option maxRecDepth 100000 in
set_option maxHeartbeats 4000000 in
theorem ltold_ok (g k n m : Nat) (x y : List UInt8) (w : World) (h0 : w.heap[g]? = some (.cells (B x).toArray 5 (0, 0))) (h1 : w.heap[k]? = some (.cells (B y).toArray 5 (0, 0))) (hx : x.length = n) (hy : y.length = m) (hxn : n ≤ 1000) (hyn : m ≤ 1000) :
    Calls Try.prog 41 #[.slice (some ⟨g, 0, none⟩) n n, .slice (some ⟨k, 0, none⟩) m m] w (fun e w' => ∃ T, e = .returned T ∧ Row w' 5 1 T (x ++ List.replicate 32 0 ++ y).length (B (x ++ List.replicate 32 0 ++ y)) ∧ NewFrom w.heap.size T ∧ Keeps Nob w w') := by
  obtain ⟨i0, hi0, hz0, hz1, hz2⟩ := info_parts u8_info0
  have hym : m ≤ maxLen := by unfold maxLen; omega
  have K0 : Keeps Nob w w := Keeps.refl _ _
  refine sy_enter (part_ltold 1) ⟨#[.slice (some ⟨g, 0, none⟩) n n, .slice (some ⟨k, 0, none⟩) m m, undef, undef, undef, undef, undef, undef, undef], []⟩ Try.func41 (by kernel_rfl) (by kernel_rfl) ?_
  refine sy_sq (part_ltold 2) (part_ltold 3) ?_
  refine sy_reg ?_
  refine rg_plain 0 (opsAt (part_ltold 2)) [0] (by kernel_rfl) (by kernel_rfl) ?_
  refine ps_k (o_ltold 2 0) (.slice none 0 0) ?_
  refine ps_end ?_
  refine then_n ?_
  refine sy_sq (part_ltold 6) (part_ltold 7) ?_
  refine sy_reg ?_
  refine rg_plain 1 (opsAt (part_ltold 6)) [0, 1, 2, 3, 4] (by kernel_rfl) (by kernel_rfl) ?_
  refine ps_k (o_ltold 6 0) (.slice (some ⟨g, 0, none⟩) n n) ?_
  obtain ⟨v1, V2, hr3, h4, hw5, hk6⟩ := append_zeros (w := w) h0 hx hxn (Oper.type (o_ltold 6 1))
  refine ps_r (o_ltold 6 1) v1 (w' := V2) (exec_app2 (.tmp 5) (.const (.int .i64 32)) 22 3 (by kernel_rfl) _ _ (by kernel_rfl) (by kernel_rfl) hr3) ?_
  have K7 := K0.nn hk6
  have z8 := hk6.size
  refine ps_k (o_ltold 6 2) (.slice (some ⟨k, 0, none⟩) m m) ?_
  obtain ⟨v9, V10, hr11, h12, hg13, hn14, ha15⟩ := run_append_any (P := Try.prog) (w := V2) 22 (Oper.type (o_ltold 6 3)) 5 i0 (.int .u8 0) 1 1 Try.underlying22 hi0 hz0 hz1 hz2 rfl (by decide) v1 (n + 32) (B (x ++ List.replicate 32 0)) h4 (.slice (some ⟨k, 0, none⟩) m m) m (B y) ((by have h := (Own.bytes_of_block ((K7.block k (lt_of_block h1) (fun x => x)).trans h1) rfl hy hym).src; rwa [hy] at h)) (by unfold maxLen; omega) (by omega)
  have kV10 : Keeps (fun j => v1.ownBlock = some j) V2 V10 := Keeps.rowAdd hg13
  have hw16 : NewFrom w.heap.size v9 := hw5.next K7.size ha15
  refine ps_r (o_ltold 6 3) v9 (w' := V10) (exec_append (.tmp 6) (.tmp 7) 22 (by kernel_rfl) v1 (.slice (some ⟨k, 0, none⟩) m m) (by kernel_rfl) (by kernel_rfl) hr11) ?_
  have h17 : Row V10 5 1 v9 ((x ++ List.replicate 32 0 ++ y).length) (B (x ++ List.replicate 32 0 ++ y)) := row_cast h12 rfl (by simp only [List.length_append, List.length_replicate, hx, hy])
  have K18 : Keeps Nob w V10 := K7.then kV10 (fun i hi hm => absurd hi (by have := hw5 i hm; omega))
  have z19 := kV10.size
  refine ps_k (o_ltold 6 4) (v9) ?_
  refine ps_end ?_
  refine then_n ?_
  refine sy_ret (by kernel_rfl) ?_
  refine sy_out (v9) rfl (by kernel_rfl) ?_
  exact ⟨_, rfl, h17, hw16, K18⟩
theorem surr_is (a b : Att) {r : Bool} (w : World) (ha : a.Ok) (hb : b.Ok) (h : surr a b = r) : Calls Try.prog 32 #[.agg (Att.c a), .agg (Att.c b)] w fun e w' => e = .returned (.bool r) ∧ Keeps Nob w w' := by
  subst h; exact vSurrounds_ok a b w ha hb
noncomputable def part_lvawake (n : Nat) : Code := partOf Try.f9 n
noncomputable abbrev o_lvawake (n k : Nat) : Oper := (opsAt (part_lvawake n)).getD k default
set_option maxRecDepth 100000 in
set_option maxHeartbeats 4000000 in
theorem lvawake_ok (w : World) :
    Calls Try.prog 9 #[] w (fun e w' => e = .returned (.bool true) ∧ Keeps Nob w w') := by
  have K0 : Keeps Nob w w := Keeps.refl _ _
  refine sy_enter (part_lvawake 1) ⟨#[undef, undef, undef, undef, undef, undef, undef, undef, undef, undef, undef, undef, undef, undef, undef, undef, undef, undef, undef, undef, undef, undef, undef, undef, undef, undef, undef, undef, undef, undef, undef, undef, undef, undef, undef, undef, undef, undef, undef, undef, undef, undef, undef, undef, undef, undef, undef, undef], []⟩ Try.func9 (by kernel_rfl) (by kernel_rfl) ?_
  refine sy_sq (part_lvawake 2) (part_lvawake 3) ?_
  refine sy_reg ?_
  refine rg_plain 0 (opsAt (part_lvawake 2)) [0] (by kernel_rfl) (by kernel_rfl) ?_
  refine ps_k (o_lvawake 2 0) (.bool false) ?_
  refine ps_end ?_
  refine then_n ?_
  refine sy_sq (part_lvawake 6) (part_lvawake 7) ?_
  refine sy_reg ?_
  refine rg_plain 1 (opsAt (part_lvawake 6)) [0, 1, 2, 3, 4, 5, 6] (by kernel_rfl) (by kernel_rfl) ?_
  refine ps_c (o_lvawake 6 0) 36 #[] Try.func36 ((lone_ok _).mono ?_)
  rintro e V1 ⟨rfl, kV1⟩
  refine ⟨_, rfl, ?_⟩
  have K2 := K0.nn kV1
  have z3 := kV1.size
  refine ps_c (o_lvawake 6 1) 16 #[.agg (Att.c attOne)] Try.func16 ((vBytes_ok attOne _ attOne_ok attOne_fine).mono ?_)
  rintro e V4 ⟨X1, rfl, hX1, hn1, kV4⟩
  have hl1 : ∀ j, X1.ownBlock = some j → j < V4.heap.size := fun j hj => hX1.lt hj
  refine ⟨_, rfl, ?_⟩
  have K5 := K2.nn kV4
  have z6 := kV4.size
  refine ps_k (o_lvawake 6 2) (.tuple #[X1, .int .i64 0]) ?_
  refine ps_k (o_lvawake 6 3) (X1) ?_
  refine ps_k (o_lvawake 6 4) (.int .i64 0) ?_
  refine ps_k (o_lvawake 6 5) (X1) ?_
  refine ps_k (o_lvawake 6 6) (.int .i64 0) ?_
  refine ps_end ?_
  refine then_n ?_
  refine sy_sq (part_lvawake 14) (part_lvawake 15) ?_
  refine sy_reg ?_
  refine rg_plain 2 (opsAt (part_lvawake 14)) [0, 1, 2, 3, 4, 5, 6] (by kernel_rfl) (by kernel_rfl) ?_
  refine ps_c (o_lvawake 14 0) 37 #[] Try.func37 ((lblock_ok _).mono ?_)
  rintro e V7 ⟨rfl, kV7⟩
  refine ⟨_, rfl, ?_⟩
  have h8 : Row V7 5 1 X1 (attOne.bytes).length (B (attOne.bytes)) := hX1.keeps kV7 (fun _ _ x => x)
  have K9 := K5.nn kV7
  have z10 := kV7.size
  refine ps_c (o_lvawake 14 1) 18 #[.agg (Pro.c proOne)] Try.func18 ((vBytesBlock_ok proOne _ proOne_ok proOne_fine).mono ?_)
  rintro e V11 ⟨X2, rfl, hX2, hn2, kV11⟩
  have hl2 : ∀ j, X2.ownBlock = some j → j < V11.heap.size := fun j hj => hX2.lt hj
  refine ⟨_, rfl, ?_⟩
  have h12 : Row V11 5 1 X1 (attOne.bytes).length (B (attOne.bytes)) := h8.keeps kV11 (fun _ _ x => x)
  have K13 := K9.nn kV11
  have z14 := kV11.size
  refine ps_k (o_lvawake 14 2) (.tuple #[X2, .int .i64 0]) ?_
  refine ps_k (o_lvawake 14 3) (X2) ?_
  refine ps_k (o_lvawake 14 4) (.int .i64 0) ?_
  refine ps_k (o_lvawake 14 5) (X2) ?_
  refine ps_k (o_lvawake 14 6) (.int .i64 0) ?_
  refine ps_end ?_
  refine then_n ?_
  refine sy_sq (part_lvawake 30) (part_lvawake 31) ?_
  refine sy_reg ?_
  refine rg_plain 3 (opsAt (part_lvawake 30)) [0, 1, 2] (by kernel_rfl) (by kernel_rfl) ?_
  refine ps_k (o_lvawake 30 0) (.agg (Att.c attWide)) ?_
  obtain ⟨V15, eV15, gw, egw, h16, kV15⟩ := alloc_step V11 (#[.int .i64 0, .int .i64 0, .int .i64 0, .int .u8 0, .int .u8 0, .int .u8 0, .int .u8 0, .int .u8 0, .int .u8 0, .int .u8 0, .int .u8 0, .int .u8 0, .int .u8 0, .int .u8 0, .int .u8 0, .int .u8 0, .int .u8 0, .int .u8 0, .int .u8 0, .int .u8 0, .int .u8 0, .int .u8 0, .int .u8 0, .int .u8 0, .int .u8 0, .int .u8 0, .int .u8 0, .int .u8 0, .int .u8 0, .int .u8 0, .int .u8 0, .int .u8 0, .int .u8 0, .int .u8 0, .int .u8 0, .int .u64 0]) 29
  have n17 : w.heap.size ≤ gw := egw ▸ K13.size
  refine ps_r (o_lvawake 30 1) (pT gw 0) (w' := V15) (by rw [← eV15, ← egw]; exact exec_alloc0 29 (by kernel_rfl) (.agg (#[.int .i64 0, .int .i64 0, .int .i64 0, .int .u8 0, .int .u8 0, .int .u8 0, .int .u8 0, .int .u8 0, .int .u8 0, .int .u8 0, .int .u8 0, .int .u8 0, .int .u8 0, .int .u8 0, .int .u8 0, .int .u8 0, .int .u8 0, .int .u8 0, .int .u8 0, .int .u8 0, .int .u8 0, .int .u8 0, .int .u8 0, .int .u8 0, .int .u8 0, .int .u8 0, .int .u8 0, .int .u8 0, .int .u8 0, .int .u8 0, .int .u8 0, .int .u8 0, .int .u8 0, .int .u8 0, .int .u8 0, .int .u64 0])) (by kernel_rfl)) ?_
  clear eV15
  have h18 : Row V15 5 1 X1 (attOne.bytes).length (B (attOne.bytes)) := h12.keeps kV15 (fun _ _ x => x)
  have h19 : Row V15 5 1 X2 (proOne.bytes).length (B (proOne.bytes)) := hX2.keeps kV15 (fun _ _ x => x)
  have K20 := K13.nn kV15
  have z21 := kV15.size
  obtain ⟨V22, eV22, kV22⟩ := rowset_step V15 gw ((Att.c attWide))
  have h23 : V22.heap[gw]? = some (.cells (Att.c attWide) 29 (0, 0)) := eV22 ▸ setRow_heap _ _ _ _ _ _ h16
  refine ps_s (o_lvawake 30 2) (w' := V22) (by rw [← eV22]; exact exec_store_row 29 (.tmp 5) (.tmp 16) (by kernel_rfl) gw ((Att.c attWide)) (by kernel_rfl) (by kernel_rfl) 29 (#[.int .i64 0, .int .i64 0, .int .i64 0, .int .u8 0, .int .u8 0, .int .u8 0, .int .u8 0, .int .u8 0, .int .u8 0, .int .u8 0, .int .u8 0, .int .u8 0, .int .u8 0, .int .u8 0, .int .u8 0, .int .u8 0, .int .u8 0, .int .u8 0, .int .u8 0, .int .u8 0, .int .u8 0, .int .u8 0, .int .u8 0, .int .u8 0, .int .u8 0, .int .u8 0, .int .u8 0, .int .u8 0, .int .u8 0, .int .u8 0, .int .u8 0, .int .u8 0, .int .u8 0, .int .u8 0, .int .u8 0, .int .u64 0]) h16 (by kernel_rfl) (by kernel_rfl) (by kernel_rfl)) ?_
  clear eV22
  have h24 : Row V22 5 1 X1 (attOne.bytes).length (B (attOne.bytes)) := h18.keeps kV22 (fun j hj e => by have := hl1 j hj; unfold Own.One at e; omega)
  have h25 : Row V22 5 1 X2 (proOne.bytes).length (B (proOne.bytes)) := h19.keeps kV22 (fun j hj e => by have := hl2 j hj; unfold Own.One at e; omega)
  have K26 := K20.no kV22 (by omega)
  have z27 := kV22.size
  refine ps_end ?_
  refine then_n ?_
  refine sy_sq (part_lvawake 62) (part_lvawake 63) ?_
  refine sy_np ?_
  refine sy_reg ?_
  refine an_begin 4 32 (opsAt (part_lvawake 62)) (fun W => (W.heap[gw]? = some (.cells (Att.c attWide) 29 (0, 0)))) #[false, false, false, false, false, false, false, false, false, false, false, false, false, false, false, false, false, false, false, false, false, false, false, false, false, false, false, false, false, false, false, false] (by kernel_rfl) (by kernel_rfl) (by kernel_rfl) (by kernel_rfl) ?_
  obtain ⟨V28, eV28, kV28⟩ := drew_step V22
  rw [eV28]
  clear eV28
  have h29 : Row V28 5 1 X1 (attOne.bytes).length (B (attOne.bytes)) := h24.keeps kV28 (fun _ _ x => x)
  have h30 : Row V28 5 1 X2 (proOne.bytes).length (B (proOne.bytes)) := h25.keeps kV28 (fun _ _ x => x)
  have h31 := kV28.bk h23
  have K32 := K26.nn kV28
  have z33 := kV28.size
  refine an_k 0 (o_lvawake 62 0) (.int .i64 0) h31 ?_
  refine an_k 1 (o_lvawake 62 1) (.bool true) h31 ?_
  refine an_k 2 (o_lvawake 62 2) (.bool true) h31 ?_
  refine an_k 3 (o_lvawake 62 3) (.int .i64 0) h31 ?_
  refine an_k 4 (o_lvawake 62 4) (.bool true) h31 ?_
  refine an_k 5 (o_lvawake 62 5) (.bool true) h31 ?_
  refine an_k 6 (o_lvawake 62 6) (.bool true) h31 ?_
  refine an_k 7 (o_lvawake 62 7) (X1) h31 ?_
  refine an_two 8 9 (by kernel_rfl) ?_ ?_
  · obtain ⟨V34, eV34, p1, ep1, h35, kV34⟩ := alloc_step V28 (#[.int .u8 1, .int .u8 1, .int .u8 2, .int .u8 3]) 5
    have n36 : gw < p1 := ep1 ▸ lt_of_block h31
    have n37 : w.heap.size ≤ p1 := ep1 ▸ K32.size
    refine on_r (o_lvawake 62 8) (.slice (some ⟨p1, 0, none⟩) 4 4) (w' := V34) (by rw [← eV34, ← ep1]; kernel_rfl) ?_
    have h38 : Row V34 5 1 X1 (attOne.bytes).length (B (attOne.bytes)) := h29.keeps kV34 (fun _ _ x => x)
    have h39 : Row V34 5 1 X2 (proOne.bytes).length (B (proOne.bytes)) := h30.keeps kV34 (fun _ _ x => x)
    have h40 := kV34.bk h31
    have K41 := K32.nn kV34
    have z42 := kV34.size
    refine ⟨h40, ?_⟩
    refine an_o 9 ?_
    obtain ⟨V43, eV43, q1, eq1, h44, kV43⟩ := alloc_step V34 (#[.int .u8 5]) 5
    have n45 : gw < q1 := eq1 ▸ lt_of_block h40
    have n46 : p1 < q1 := eq1 ▸ lt_of_block h35
    have n47 : w.heap.size ≤ q1 := eq1 ▸ K41.size
    refine on_r (o_lvawake 62 9) (.slice (some ⟨q1, 0, none⟩) 1 1) (w' := V43) (by rw [← eV43, ← eq1]; kernel_rfl) ?_
    have h48 : Row V43 5 1 X1 (attOne.bytes).length (B (attOne.bytes)) := h38.keeps kV43 (fun _ _ x => x)
    have h49 : Row V43 5 1 X2 (proOne.bytes).length (B (proOne.bytes)) := h39.keeps kV43 (fun _ _ x => x)
    have h50 := kV43.bk h40
    have h51 := kV43.bk h35
    have K52 := K41.nn kV43
    have z53 := kV43.size
    refine ⟨h50, ?_⟩
    refine an_o 10 ?_
    refine on_c (o_lvawake 62 10) 41 #[.slice (some ⟨p1, 0, none⟩) 4 4, .slice (some ⟨q1, 0, none⟩) 1 1] Try.func41 ((ltold_ok p1 q1 4 1 [1, 1, 2, 3] [5] _ h51 h44 rfl rfl (by decide) (by decide)).mono ?_)
    rintro e V54 ⟨T1, rfl, hT1, hnT1, kV54⟩
    refine ⟨_, rfl, ?_⟩
    have h55 : Row V54 5 1 X1 (attOne.bytes).length (B (attOne.bytes)) := h48.keeps kV54 (fun _ _ x => x)
    have h56 : Row V54 5 1 X2 (proOne.bytes).length (B (proOne.bytes)) := h49.keeps kV54 (fun _ _ x => x)
    have h57 := kV54.bk h50
    have h58 := kV54.bk h51
    have h59 := kV54.bk h44
    have K60 := K52.nn kV54
    have z61 := kV54.size
    refine ⟨h57, ?_⟩
    refine an_o 11 ?_
    refine on_c (o_lvawake 62 11) 20 #[X1, T1] Try.func20 ((sameBytes_same (Row.bytes h55) (Row.bytes hT1) attOne_bytes).mono ?_)
    rintro e w1 ⟨rfl, rfl⟩
    refine ⟨_, rfl, ?_⟩
    refine ⟨h57, ?_⟩
    refine an_k 12 (o_lvawake 62 12) (.bool true) h57 ?_
    refine an_k 13 (o_lvawake 62 13) (.bool true) h57 ?_
    refine an_k 14 (o_lvawake 62 14) (X2) h57 ?_
    refine an_two 15 16 (by kernel_rfl) ?_ ?_
    · obtain ⟨V62, eV62, p2, ep2, h63, kV62⟩ := alloc_step V54 (#[.int .u8 2, .int .u8 1, .int .u8 172, .int .u8 2]) 5
      have n64 : gw < p2 := ep2 ▸ lt_of_block h57
      have n65 : p1 < p2 := ep2 ▸ lt_of_block h58
      have n66 : q1 < p2 := ep2 ▸ lt_of_block h59
      have n67 : w.heap.size ≤ p2 := ep2 ▸ K60.size
      refine on_r (o_lvawake 62 15) (.slice (some ⟨p2, 0, none⟩) 4 4) (w' := V62) (by rw [← eV62, ← ep2]; kernel_rfl) ?_
      have h68 : Row V62 5 1 X1 (attOne.bytes).length (B (attOne.bytes)) := h55.keeps kV62 (fun _ _ x => x)
      have h69 : Row V62 5 1 X2 (proOne.bytes).length (B (proOne.bytes)) := h56.keeps kV62 (fun _ _ x => x)
      have h70 := kV62.bk h57
      have h71 := kV62.bk h58
      have h72 := kV62.bk h59
      have h73 : Row V62 5 1 T1 ([1, 1, 2, 3] ++ List.replicate 32 0 ++ [5]).length (B ([1, 1, 2, 3] ++ List.replicate 32 0 ++ [5])) := hT1.keeps kV62 (fun _ _ x => x)
      have K74 := K60.nn kV62
      have z75 := kV62.size
      refine ⟨h70, ?_⟩
      refine an_o 16 ?_
      obtain ⟨V76, eV76, q2, eq2, h77, kV76⟩ := alloc_step V62 (#[.int .u8 128, .int .u8 1]) 5
      have n78 : gw < q2 := eq2 ▸ lt_of_block h70
      have n79 : p1 < q2 := eq2 ▸ lt_of_block h71
      have n80 : q1 < q2 := eq2 ▸ lt_of_block h72
      have n81 : p2 < q2 := eq2 ▸ lt_of_block h63
      have n82 : w.heap.size ≤ q2 := eq2 ▸ K74.size
      refine on_r (o_lvawake 62 16) (.slice (some ⟨q2, 0, none⟩) 2 2) (w' := V76) (by rw [← eV76, ← eq2]; kernel_rfl) ?_
      have h83 : Row V76 5 1 X1 (attOne.bytes).length (B (attOne.bytes)) := h68.keeps kV76 (fun _ _ x => x)
      have h84 : Row V76 5 1 X2 (proOne.bytes).length (B (proOne.bytes)) := h69.keeps kV76 (fun _ _ x => x)
      have h85 := kV76.bk h70
      have h86 := kV76.bk h71
      have h87 := kV76.bk h72
      have h88 : Row V76 5 1 T1 ([1, 1, 2, 3] ++ List.replicate 32 0 ++ [5]).length (B ([1, 1, 2, 3] ++ List.replicate 32 0 ++ [5])) := h73.keeps kV76 (fun _ _ x => x)
      have h89 := kV76.bk h63
      have K90 := K74.nn kV76
      have z91 := kV76.size
      refine ⟨h85, ?_⟩
      refine an_o 17 ?_
      refine on_c (o_lvawake 62 17) 41 #[.slice (some ⟨p2, 0, none⟩) 4 4, .slice (some ⟨q2, 0, none⟩) 2 2] Try.func41 ((ltold_ok p2 q2 4 2 [2, 1, 172, 2] [128, 1] _ h89 h77 rfl rfl (by decide) (by decide)).mono ?_)
      rintro e V92 ⟨T2, rfl, hT2, hnT2, kV92⟩
      refine ⟨_, rfl, ?_⟩
      have h93 : Row V92 5 1 X1 (attOne.bytes).length (B (attOne.bytes)) := h83.keeps kV92 (fun _ _ x => x)
      have h94 : Row V92 5 1 X2 (proOne.bytes).length (B (proOne.bytes)) := h84.keeps kV92 (fun _ _ x => x)
      have h95 := kV92.bk h85
      have h96 := kV92.bk h86
      have h97 := kV92.bk h87
      have h98 : Row V92 5 1 T1 ([1, 1, 2, 3] ++ List.replicate 32 0 ++ [5]).length (B ([1, 1, 2, 3] ++ List.replicate 32 0 ++ [5])) := h88.keeps kV92 (fun _ _ x => x)
      have h99 := kV92.bk h89
      have h100 := kV92.bk h77
      have K101 := K90.nn kV92
      have z102 := kV92.size
      refine ⟨h95, ?_⟩
      refine an_o 18 ?_
      refine on_c (o_lvawake 62 18) 20 #[X2, T2] Try.func20 ((sameBytes_same (Row.bytes h94) (Row.bytes hT2) proOne_bytes).mono ?_)
      rintro e w1 ⟨rfl, rfl⟩
      refine ⟨_, rfl, ?_⟩
      refine ⟨h95, ?_⟩
      refine an_k 19 (o_lvawake 62 19) (.bool true) h95 ?_
      refine an_k 20 (o_lvawake 62 20) (.bool true) h95 ?_
      refine an_v 21 (o_lvawake 62 21) (.agg (Att.c attWide)) (fun W hS => exec_load_row 29 (.tmp 5) (by kernel_rfl) gw (by kernel_rfl) _ _ (0, 0) _ (hS) Try.underlying29 rfl (by rw [Att.c_size _ attWide_ok.r]; kernel_rfl)) h95 ?_
      refine an_o 22 ?_
      refine on_c (o_lvawake 62 22) 36 #[] Try.func36 ((lone_ok _).mono ?_)
      rintro e V103 ⟨rfl, kV103⟩
      refine ⟨_, rfl, ?_⟩
      have h104 : Row V103 5 1 X1 (attOne.bytes).length (B (attOne.bytes)) := h93.keeps kV103 (fun _ _ x => x)
      have h105 : Row V103 5 1 X2 (proOne.bytes).length (B (proOne.bytes)) := h94.keeps kV103 (fun _ _ x => x)
      have h106 := kV103.bk h95
      have h107 := kV103.bk h96
      have h108 := kV103.bk h97
      have h109 : Row V103 5 1 T1 ([1, 1, 2, 3] ++ List.replicate 32 0 ++ [5]).length (B ([1, 1, 2, 3] ++ List.replicate 32 0 ++ [5])) := h98.keeps kV103 (fun _ _ x => x)
      have h110 := kV103.bk h99
      have h111 := kV103.bk h100
      have h112 : Row V103 5 1 T2 ([2, 1, 172, 2] ++ List.replicate 32 0 ++ [128, 1]).length (B ([2, 1, 172, 2] ++ List.replicate 32 0 ++ [128, 1])) := hT2.keeps kV103 (fun _ _ x => x)
      have K113 := K101.nn kV103
      have z114 := kV103.size
      refine ⟨h106, ?_⟩
      refine an_o 23 ?_
      refine on_c (o_lvawake 62 23) 32 #[.agg (Att.c attWide), .agg (Att.c attOne)] Try.func32 ((surr_is attWide attOne _ attWide_ok attOne_ok surr_1).mono ?_)
      rintro e V115 ⟨rfl, kV115⟩
      refine ⟨_, rfl, ?_⟩
      have h116 : Row V115 5 1 X1 (attOne.bytes).length (B (attOne.bytes)) := h104.keeps kV115 (fun _ _ x => x)
      have h117 : Row V115 5 1 X2 (proOne.bytes).length (B (proOne.bytes)) := h105.keeps kV115 (fun _ _ x => x)
      have h118 := kV115.bk h106
      have h119 := kV115.bk h107
      have h120 := kV115.bk h108
      have h121 : Row V115 5 1 T1 ([1, 1, 2, 3] ++ List.replicate 32 0 ++ [5]).length (B ([1, 1, 2, 3] ++ List.replicate 32 0 ++ [5])) := h109.keeps kV115 (fun _ _ x => x)
      have h122 := kV115.bk h110
      have h123 := kV115.bk h111
      have h124 : Row V115 5 1 T2 ([2, 1, 172, 2] ++ List.replicate 32 0 ++ [128, 1]).length (B ([2, 1, 172, 2] ++ List.replicate 32 0 ++ [128, 1])) := h112.keeps kV115 (fun _ _ x => x)
      have K125 := K113.nn kV115
      have z126 := kV115.size
      refine ⟨h118, ?_⟩
      refine an_k 24 (o_lvawake 62 24) (.bool true) h118 ?_
      refine an_k 25 (o_lvawake 62 25) (.bool true) h118 ?_
      refine an_v 27 (o_lvawake 62 27) (.agg (Att.c attWide)) (fun W hS => exec_load_row 29 (.tmp 5) (by kernel_rfl) gw (by kernel_rfl) _ _ (0, 0) _ (hS) Try.underlying29 rfl (by rw [Att.c_size _ attWide_ok.r]; kernel_rfl)) h118 ?_
      refine an_o 26 ?_
      refine on_c (o_lvawake 62 26) 36 #[] Try.func36 ((lone_ok _).mono ?_)
      rintro e V127 ⟨rfl, kV127⟩
      refine ⟨_, rfl, ?_⟩
      have h128 : Row V127 5 1 X1 (attOne.bytes).length (B (attOne.bytes)) := h116.keeps kV127 (fun _ _ x => x)
      have h129 : Row V127 5 1 X2 (proOne.bytes).length (B (proOne.bytes)) := h117.keeps kV127 (fun _ _ x => x)
      have h130 := kV127.bk h118
      have h131 := kV127.bk h119
      have h132 := kV127.bk h120
      have h133 : Row V127 5 1 T1 ([1, 1, 2, 3] ++ List.replicate 32 0 ++ [5]).length (B ([1, 1, 2, 3] ++ List.replicate 32 0 ++ [5])) := h121.keeps kV127 (fun _ _ x => x)
      have h134 := kV127.bk h122
      have h135 := kV127.bk h123
      have h136 : Row V127 5 1 T2 ([2, 1, 172, 2] ++ List.replicate 32 0 ++ [128, 1]).length (B ([2, 1, 172, 2] ++ List.replicate 32 0 ++ [128, 1])) := h124.keeps kV127 (fun _ _ x => x)
      have K137 := K125.nn kV127
      have z138 := kV127.size
      refine ⟨h130, ?_⟩
      refine an_o 28 ?_
      refine on_c (o_lvawake 62 28) 32 #[.agg (Att.c attOne), .agg (Att.c attWide)] Try.func32 ((surr_is attOne attWide _ attOne_ok attWide_ok surr_2).mono ?_)
      rintro e V139 ⟨rfl, kV139⟩
      refine ⟨_, rfl, ?_⟩
      have h140 : Row V139 5 1 X1 (attOne.bytes).length (B (attOne.bytes)) := h128.keeps kV139 (fun _ _ x => x)
      have h141 : Row V139 5 1 X2 (proOne.bytes).length (B (proOne.bytes)) := h129.keeps kV139 (fun _ _ x => x)
      have h142 := kV139.bk h130
      have h143 := kV139.bk h131
      have h144 := kV139.bk h132
      have h145 : Row V139 5 1 T1 ([1, 1, 2, 3] ++ List.replicate 32 0 ++ [5]).length (B ([1, 1, 2, 3] ++ List.replicate 32 0 ++ [5])) := h133.keeps kV139 (fun _ _ x => x)
      have h146 := kV139.bk h134
      have h147 := kV139.bk h135
      have h148 : Row V139 5 1 T2 ([2, 1, 172, 2] ++ List.replicate 32 0 ++ [128, 1]).length (B ([2, 1, 172, 2] ++ List.replicate 32 0 ++ [128, 1])) := h136.keeps kV139 (fun _ _ x => x)
      have K149 := K137.nn kV139
      have z150 := kV139.size
      refine ⟨h142, ?_⟩
      refine an_k 29 (o_lvawake 62 29) (.bool true) h142 ?_
      refine an_k 30 (o_lvawake 62 30) (.bool true) h142 ?_
      refine an_o 31 ?_
      refine on_r (o_lvawake 62 31) (.bool true) (w' := V139) (by kernel_rfl) ?_
      refine ⟨h142, ?_⟩
      refine an_end (by kernel_rfl) ?_
      refine sy_a ⟨#[.bool true, X1, .int .i64 0, X2, .int .i64 0, pT gw 0, .tuple #[X1, .int .i64 0], .agg (Att.c attOne), .tuple #[X1, .int .i64 0], X1, .int .i64 0, .tuple #[X2, .int .i64 0], .agg (Pro.c proOne), .tuple #[X2, .int .i64 0], X2, .int .i64 0, .agg (Att.c attWide), .int .i64 0, .bool true, .bool true, .int .i64 0, .bool true, .bool true, .bool true, X1, .slice (some ⟨p1, 0, none⟩) 4 4, .slice (some ⟨q1, 0, none⟩) 1 1, T1, .bool true, .bool true, .bool true, X2, .slice (some ⟨p2, 0, none⟩) 4 4, .slice (some ⟨q2, 0, none⟩) 2 2, T2, .bool true, .bool true, .bool true, .agg (Att.c attWide), .agg (Att.c attOne), .bool true, .bool true, .bool true, .agg (Att.c attOne), .agg (Att.c attWide), .bool false, .bool true, .bool true], []⟩ ?_
      refine then_n ?_
      refine sy_ret (by kernel_rfl) ?_
      refine sy_out (.bool true) rfl (by kernel_rfl) ?_
      exact ⟨rfl, K149⟩
    · obtain ⟨V151, eV151, q2, eq2, h152, kV151⟩ := alloc_step V54 (#[.int .u8 128, .int .u8 1]) 5
      have n153 : gw < q2 := eq2 ▸ lt_of_block h57
      have n154 : p1 < q2 := eq2 ▸ lt_of_block h58
      have n155 : q1 < q2 := eq2 ▸ lt_of_block h59
      have n156 : w.heap.size ≤ q2 := eq2 ▸ K60.size
      refine on_r (o_lvawake 62 16) (.slice (some ⟨q2, 0, none⟩) 2 2) (w' := V151) (by rw [← eV151, ← eq2]; kernel_rfl) ?_
      have h157 : Row V151 5 1 X1 (attOne.bytes).length (B (attOne.bytes)) := h55.keeps kV151 (fun _ _ x => x)
      have h158 : Row V151 5 1 X2 (proOne.bytes).length (B (proOne.bytes)) := h56.keeps kV151 (fun _ _ x => x)
      have h159 := kV151.bk h57
      have h160 := kV151.bk h58
      have h161 := kV151.bk h59
      have h162 : Row V151 5 1 T1 ([1, 1, 2, 3] ++ List.replicate 32 0 ++ [5]).length (B ([1, 1, 2, 3] ++ List.replicate 32 0 ++ [5])) := hT1.keeps kV151 (fun _ _ x => x)
      have K163 := K60.nn kV151
      have z164 := kV151.size
      refine ⟨h159, ?_⟩
      refine an_o 15 ?_
      obtain ⟨V165, eV165, p2, ep2, h166, kV165⟩ := alloc_step V151 (#[.int .u8 2, .int .u8 1, .int .u8 172, .int .u8 2]) 5
      have n167 : gw < p2 := ep2 ▸ lt_of_block h159
      have n168 : p1 < p2 := ep2 ▸ lt_of_block h160
      have n169 : q1 < p2 := ep2 ▸ lt_of_block h161
      have n170 : q2 < p2 := ep2 ▸ lt_of_block h152
      have n171 : w.heap.size ≤ p2 := ep2 ▸ K163.size
      refine on_r (o_lvawake 62 15) (.slice (some ⟨p2, 0, none⟩) 4 4) (w' := V165) (by rw [← eV165, ← ep2]; kernel_rfl) ?_
      have h172 : Row V165 5 1 X1 (attOne.bytes).length (B (attOne.bytes)) := h157.keeps kV165 (fun _ _ x => x)
      have h173 : Row V165 5 1 X2 (proOne.bytes).length (B (proOne.bytes)) := h158.keeps kV165 (fun _ _ x => x)
      have h174 := kV165.bk h159
      have h175 := kV165.bk h160
      have h176 := kV165.bk h161
      have h177 : Row V165 5 1 T1 ([1, 1, 2, 3] ++ List.replicate 32 0 ++ [5]).length (B ([1, 1, 2, 3] ++ List.replicate 32 0 ++ [5])) := h162.keeps kV165 (fun _ _ x => x)
      have h178 := kV165.bk h152
      have K179 := K163.nn kV165
      have z180 := kV165.size
      refine ⟨h174, ?_⟩
      refine an_o 17 ?_
      refine on_c (o_lvawake 62 17) 41 #[.slice (some ⟨p2, 0, none⟩) 4 4, .slice (some ⟨q2, 0, none⟩) 2 2] Try.func41 ((ltold_ok p2 q2 4 2 [2, 1, 172, 2] [128, 1] _ h166 h178 rfl rfl (by decide) (by decide)).mono ?_)
      rintro e V181 ⟨T2, rfl, hT2, hnT2, kV181⟩
      refine ⟨_, rfl, ?_⟩
      have h182 : Row V181 5 1 X1 (attOne.bytes).length (B (attOne.bytes)) := h172.keeps kV181 (fun _ _ x => x)
      have h183 : Row V181 5 1 X2 (proOne.bytes).length (B (proOne.bytes)) := h173.keeps kV181 (fun _ _ x => x)
      have h184 := kV181.bk h174
      have h185 := kV181.bk h175
      have h186 := kV181.bk h176
      have h187 : Row V181 5 1 T1 ([1, 1, 2, 3] ++ List.replicate 32 0 ++ [5]).length (B ([1, 1, 2, 3] ++ List.replicate 32 0 ++ [5])) := h177.keeps kV181 (fun _ _ x => x)
      have h188 := kV181.bk h178
      have h189 := kV181.bk h166
      have K190 := K179.nn kV181
      have z191 := kV181.size
      refine ⟨h184, ?_⟩
      refine an_o 18 ?_
      refine on_c (o_lvawake 62 18) 20 #[X2, T2] Try.func20 ((sameBytes_same (Row.bytes h183) (Row.bytes hT2) proOne_bytes).mono ?_)
      rintro e w1 ⟨rfl, rfl⟩
      refine ⟨_, rfl, ?_⟩
      refine ⟨h184, ?_⟩
      refine an_k 19 (o_lvawake 62 19) (.bool true) h184 ?_
      refine an_k 20 (o_lvawake 62 20) (.bool true) h184 ?_
      refine an_v 21 (o_lvawake 62 21) (.agg (Att.c attWide)) (fun W hS => exec_load_row 29 (.tmp 5) (by kernel_rfl) gw (by kernel_rfl) _ _ (0, 0) _ (hS) Try.underlying29 rfl (by rw [Att.c_size _ attWide_ok.r]; kernel_rfl)) h184 ?_
      refine an_o 22 ?_
      refine on_c (o_lvawake 62 22) 36 #[] Try.func36 ((lone_ok _).mono ?_)
      rintro e V192 ⟨rfl, kV192⟩
      refine ⟨_, rfl, ?_⟩
      have h193 : Row V192 5 1 X1 (attOne.bytes).length (B (attOne.bytes)) := h182.keeps kV192 (fun _ _ x => x)
      have h194 : Row V192 5 1 X2 (proOne.bytes).length (B (proOne.bytes)) := h183.keeps kV192 (fun _ _ x => x)
      have h195 := kV192.bk h184
      have h196 := kV192.bk h185
      have h197 := kV192.bk h186
      have h198 : Row V192 5 1 T1 ([1, 1, 2, 3] ++ List.replicate 32 0 ++ [5]).length (B ([1, 1, 2, 3] ++ List.replicate 32 0 ++ [5])) := h187.keeps kV192 (fun _ _ x => x)
      have h199 := kV192.bk h188
      have h200 := kV192.bk h189
      have h201 : Row V192 5 1 T2 ([2, 1, 172, 2] ++ List.replicate 32 0 ++ [128, 1]).length (B ([2, 1, 172, 2] ++ List.replicate 32 0 ++ [128, 1])) := hT2.keeps kV192 (fun _ _ x => x)
      have K202 := K190.nn kV192
      have z203 := kV192.size
      refine ⟨h195, ?_⟩
      refine an_o 23 ?_
      refine on_c (o_lvawake 62 23) 32 #[.agg (Att.c attWide), .agg (Att.c attOne)] Try.func32 ((surr_is attWide attOne _ attWide_ok attOne_ok surr_1).mono ?_)
      rintro e V204 ⟨rfl, kV204⟩
      refine ⟨_, rfl, ?_⟩
      have h205 : Row V204 5 1 X1 (attOne.bytes).length (B (attOne.bytes)) := h193.keeps kV204 (fun _ _ x => x)
      have h206 : Row V204 5 1 X2 (proOne.bytes).length (B (proOne.bytes)) := h194.keeps kV204 (fun _ _ x => x)
      have h207 := kV204.bk h195
      have h208 := kV204.bk h196
      have h209 := kV204.bk h197
      have h210 : Row V204 5 1 T1 ([1, 1, 2, 3] ++ List.replicate 32 0 ++ [5]).length (B ([1, 1, 2, 3] ++ List.replicate 32 0 ++ [5])) := h198.keeps kV204 (fun _ _ x => x)
      have h211 := kV204.bk h199
      have h212 := kV204.bk h200
      have h213 : Row V204 5 1 T2 ([2, 1, 172, 2] ++ List.replicate 32 0 ++ [128, 1]).length (B ([2, 1, 172, 2] ++ List.replicate 32 0 ++ [128, 1])) := h201.keeps kV204 (fun _ _ x => x)
      have K214 := K202.nn kV204
      have z215 := kV204.size
      refine ⟨h207, ?_⟩
      refine an_k 24 (o_lvawake 62 24) (.bool true) h207 ?_
      refine an_k 25 (o_lvawake 62 25) (.bool true) h207 ?_
      refine an_v 27 (o_lvawake 62 27) (.agg (Att.c attWide)) (fun W hS => exec_load_row 29 (.tmp 5) (by kernel_rfl) gw (by kernel_rfl) _ _ (0, 0) _ (hS) Try.underlying29 rfl (by rw [Att.c_size _ attWide_ok.r]; kernel_rfl)) h207 ?_
      refine an_o 26 ?_
      refine on_c (o_lvawake 62 26) 36 #[] Try.func36 ((lone_ok _).mono ?_)
      rintro e V216 ⟨rfl, kV216⟩
      refine ⟨_, rfl, ?_⟩
      have h217 : Row V216 5 1 X1 (attOne.bytes).length (B (attOne.bytes)) := h205.keeps kV216 (fun _ _ x => x)
      have h218 : Row V216 5 1 X2 (proOne.bytes).length (B (proOne.bytes)) := h206.keeps kV216 (fun _ _ x => x)
      have h219 := kV216.bk h207
      have h220 := kV216.bk h208
      have h221 := kV216.bk h209
      have h222 : Row V216 5 1 T1 ([1, 1, 2, 3] ++ List.replicate 32 0 ++ [5]).length (B ([1, 1, 2, 3] ++ List.replicate 32 0 ++ [5])) := h210.keeps kV216 (fun _ _ x => x)
      have h223 := kV216.bk h211
      have h224 := kV216.bk h212
      have h225 : Row V216 5 1 T2 ([2, 1, 172, 2] ++ List.replicate 32 0 ++ [128, 1]).length (B ([2, 1, 172, 2] ++ List.replicate 32 0 ++ [128, 1])) := h213.keeps kV216 (fun _ _ x => x)
      have K226 := K214.nn kV216
      have z227 := kV216.size
      refine ⟨h219, ?_⟩
      refine an_o 28 ?_
      refine on_c (o_lvawake 62 28) 32 #[.agg (Att.c attOne), .agg (Att.c attWide)] Try.func32 ((surr_is attOne attWide _ attOne_ok attWide_ok surr_2).mono ?_)
      rintro e V228 ⟨rfl, kV228⟩
      refine ⟨_, rfl, ?_⟩
      have h229 : Row V228 5 1 X1 (attOne.bytes).length (B (attOne.bytes)) := h217.keeps kV228 (fun _ _ x => x)
      have h230 : Row V228 5 1 X2 (proOne.bytes).length (B (proOne.bytes)) := h218.keeps kV228 (fun _ _ x => x)
      have h231 := kV228.bk h219
      have h232 := kV228.bk h220
      have h233 := kV228.bk h221
      have h234 : Row V228 5 1 T1 ([1, 1, 2, 3] ++ List.replicate 32 0 ++ [5]).length (B ([1, 1, 2, 3] ++ List.replicate 32 0 ++ [5])) := h222.keeps kV228 (fun _ _ x => x)
      have h235 := kV228.bk h223
      have h236 := kV228.bk h224
      have h237 : Row V228 5 1 T2 ([2, 1, 172, 2] ++ List.replicate 32 0 ++ [128, 1]).length (B ([2, 1, 172, 2] ++ List.replicate 32 0 ++ [128, 1])) := h225.keeps kV228 (fun _ _ x => x)
      have K238 := K226.nn kV228
      have z239 := kV228.size
      refine ⟨h231, ?_⟩
      refine an_k 29 (o_lvawake 62 29) (.bool true) h231 ?_
      refine an_k 30 (o_lvawake 62 30) (.bool true) h231 ?_
      refine an_o 31 ?_
      refine on_r (o_lvawake 62 31) (.bool true) (w' := V228) (by kernel_rfl) ?_
      refine ⟨h231, ?_⟩
      refine an_end (by kernel_rfl) ?_
      refine sy_a ⟨#[.bool true, X1, .int .i64 0, X2, .int .i64 0, pT gw 0, .tuple #[X1, .int .i64 0], .agg (Att.c attOne), .tuple #[X1, .int .i64 0], X1, .int .i64 0, .tuple #[X2, .int .i64 0], .agg (Pro.c proOne), .tuple #[X2, .int .i64 0], X2, .int .i64 0, .agg (Att.c attWide), .int .i64 0, .bool true, .bool true, .int .i64 0, .bool true, .bool true, .bool true, X1, .slice (some ⟨p1, 0, none⟩) 4 4, .slice (some ⟨q1, 0, none⟩) 1 1, T1, .bool true, .bool true, .bool true, X2, .slice (some ⟨p2, 0, none⟩) 4 4, .slice (some ⟨q2, 0, none⟩) 2 2, T2, .bool true, .bool true, .bool true, .agg (Att.c attWide), .agg (Att.c attOne), .bool true, .bool true, .bool true, .agg (Att.c attOne), .agg (Att.c attWide), .bool false, .bool true, .bool true], []⟩ ?_
      refine then_n ?_
      refine sy_ret (by kernel_rfl) ?_
      refine sy_out (.bool true) rfl (by kernel_rfl) ?_
      exact ⟨rfl, K238⟩
  · obtain ⟨V240, eV240, q1, eq1, h241, kV240⟩ := alloc_step V28 (#[.int .u8 5]) 5
    have n242 : gw < q1 := eq1 ▸ lt_of_block h31
    have n243 : w.heap.size ≤ q1 := eq1 ▸ K32.size
    refine on_r (o_lvawake 62 9) (.slice (some ⟨q1, 0, none⟩) 1 1) (w' := V240) (by rw [← eV240, ← eq1]; kernel_rfl) ?_
    have h244 : Row V240 5 1 X1 (attOne.bytes).length (B (attOne.bytes)) := h29.keeps kV240 (fun _ _ x => x)
    have h245 : Row V240 5 1 X2 (proOne.bytes).length (B (proOne.bytes)) := h30.keeps kV240 (fun _ _ x => x)
    have h246 := kV240.bk h31
    have K247 := K32.nn kV240
    have z248 := kV240.size
    refine ⟨h246, ?_⟩
    refine an_o 8 ?_
    obtain ⟨V249, eV249, p1, ep1, h250, kV249⟩ := alloc_step V240 (#[.int .u8 1, .int .u8 1, .int .u8 2, .int .u8 3]) 5
    have n251 : gw < p1 := ep1 ▸ lt_of_block h246
    have n252 : q1 < p1 := ep1 ▸ lt_of_block h241
    have n253 : w.heap.size ≤ p1 := ep1 ▸ K247.size
    refine on_r (o_lvawake 62 8) (.slice (some ⟨p1, 0, none⟩) 4 4) (w' := V249) (by rw [← eV249, ← ep1]; kernel_rfl) ?_
    have h254 : Row V249 5 1 X1 (attOne.bytes).length (B (attOne.bytes)) := h244.keeps kV249 (fun _ _ x => x)
    have h255 : Row V249 5 1 X2 (proOne.bytes).length (B (proOne.bytes)) := h245.keeps kV249 (fun _ _ x => x)
    have h256 := kV249.bk h246
    have h257 := kV249.bk h241
    have K258 := K247.nn kV249
    have z259 := kV249.size
    refine ⟨h256, ?_⟩
    refine an_o 10 ?_
    refine on_c (o_lvawake 62 10) 41 #[.slice (some ⟨p1, 0, none⟩) 4 4, .slice (some ⟨q1, 0, none⟩) 1 1] Try.func41 ((ltold_ok p1 q1 4 1 [1, 1, 2, 3] [5] _ h250 h257 rfl rfl (by decide) (by decide)).mono ?_)
    rintro e V260 ⟨T1, rfl, hT1, hnT1, kV260⟩
    refine ⟨_, rfl, ?_⟩
    have h261 : Row V260 5 1 X1 (attOne.bytes).length (B (attOne.bytes)) := h254.keeps kV260 (fun _ _ x => x)
    have h262 : Row V260 5 1 X2 (proOne.bytes).length (B (proOne.bytes)) := h255.keeps kV260 (fun _ _ x => x)
    have h263 := kV260.bk h256
    have h264 := kV260.bk h257
    have h265 := kV260.bk h250
    have K266 := K258.nn kV260
    have z267 := kV260.size
    refine ⟨h263, ?_⟩
    refine an_o 11 ?_
    refine on_c (o_lvawake 62 11) 20 #[X1, T1] Try.func20 ((sameBytes_same (Row.bytes h261) (Row.bytes hT1) attOne_bytes).mono ?_)
    rintro e w1 ⟨rfl, rfl⟩
    refine ⟨_, rfl, ?_⟩
    refine ⟨h263, ?_⟩
    refine an_k 12 (o_lvawake 62 12) (.bool true) h263 ?_
    refine an_k 13 (o_lvawake 62 13) (.bool true) h263 ?_
    refine an_k 14 (o_lvawake 62 14) (X2) h263 ?_
    refine an_two 15 16 (by kernel_rfl) ?_ ?_
    · obtain ⟨V268, eV268, p2, ep2, h269, kV268⟩ := alloc_step V260 (#[.int .u8 2, .int .u8 1, .int .u8 172, .int .u8 2]) 5
      have n270 : gw < p2 := ep2 ▸ lt_of_block h263
      have n271 : q1 < p2 := ep2 ▸ lt_of_block h264
      have n272 : p1 < p2 := ep2 ▸ lt_of_block h265
      have n273 : w.heap.size ≤ p2 := ep2 ▸ K266.size
      refine on_r (o_lvawake 62 15) (.slice (some ⟨p2, 0, none⟩) 4 4) (w' := V268) (by rw [← eV268, ← ep2]; kernel_rfl) ?_
      have h274 : Row V268 5 1 X1 (attOne.bytes).length (B (attOne.bytes)) := h261.keeps kV268 (fun _ _ x => x)
      have h275 : Row V268 5 1 X2 (proOne.bytes).length (B (proOne.bytes)) := h262.keeps kV268 (fun _ _ x => x)
      have h276 := kV268.bk h263
      have h277 := kV268.bk h264
      have h278 := kV268.bk h265
      have h279 : Row V268 5 1 T1 ([1, 1, 2, 3] ++ List.replicate 32 0 ++ [5]).length (B ([1, 1, 2, 3] ++ List.replicate 32 0 ++ [5])) := hT1.keeps kV268 (fun _ _ x => x)
      have K280 := K266.nn kV268
      have z281 := kV268.size
      refine ⟨h276, ?_⟩
      refine an_o 16 ?_
      obtain ⟨V282, eV282, q2, eq2, h283, kV282⟩ := alloc_step V268 (#[.int .u8 128, .int .u8 1]) 5
      have n284 : gw < q2 := eq2 ▸ lt_of_block h276
      have n285 : q1 < q2 := eq2 ▸ lt_of_block h277
      have n286 : p1 < q2 := eq2 ▸ lt_of_block h278
      have n287 : p2 < q2 := eq2 ▸ lt_of_block h269
      have n288 : w.heap.size ≤ q2 := eq2 ▸ K280.size
      refine on_r (o_lvawake 62 16) (.slice (some ⟨q2, 0, none⟩) 2 2) (w' := V282) (by rw [← eV282, ← eq2]; kernel_rfl) ?_
      have h289 : Row V282 5 1 X1 (attOne.bytes).length (B (attOne.bytes)) := h274.keeps kV282 (fun _ _ x => x)
      have h290 : Row V282 5 1 X2 (proOne.bytes).length (B (proOne.bytes)) := h275.keeps kV282 (fun _ _ x => x)
      have h291 := kV282.bk h276
      have h292 := kV282.bk h277
      have h293 := kV282.bk h278
      have h294 : Row V282 5 1 T1 ([1, 1, 2, 3] ++ List.replicate 32 0 ++ [5]).length (B ([1, 1, 2, 3] ++ List.replicate 32 0 ++ [5])) := h279.keeps kV282 (fun _ _ x => x)
      have h295 := kV282.bk h269
      have K296 := K280.nn kV282
      have z297 := kV282.size
      refine ⟨h291, ?_⟩
      refine an_o 17 ?_
      refine on_c (o_lvawake 62 17) 41 #[.slice (some ⟨p2, 0, none⟩) 4 4, .slice (some ⟨q2, 0, none⟩) 2 2] Try.func41 ((ltold_ok p2 q2 4 2 [2, 1, 172, 2] [128, 1] _ h295 h283 rfl rfl (by decide) (by decide)).mono ?_)
      rintro e V298 ⟨T2, rfl, hT2, hnT2, kV298⟩
      refine ⟨_, rfl, ?_⟩
      have h299 : Row V298 5 1 X1 (attOne.bytes).length (B (attOne.bytes)) := h289.keeps kV298 (fun _ _ x => x)
      have h300 : Row V298 5 1 X2 (proOne.bytes).length (B (proOne.bytes)) := h290.keeps kV298 (fun _ _ x => x)
      have h301 := kV298.bk h291
      have h302 := kV298.bk h292
      have h303 := kV298.bk h293
      have h304 : Row V298 5 1 T1 ([1, 1, 2, 3] ++ List.replicate 32 0 ++ [5]).length (B ([1, 1, 2, 3] ++ List.replicate 32 0 ++ [5])) := h294.keeps kV298 (fun _ _ x => x)
      have h305 := kV298.bk h295
      have h306 := kV298.bk h283
      have K307 := K296.nn kV298
      have z308 := kV298.size
      refine ⟨h301, ?_⟩
      refine an_o 18 ?_
      refine on_c (o_lvawake 62 18) 20 #[X2, T2] Try.func20 ((sameBytes_same (Row.bytes h300) (Row.bytes hT2) proOne_bytes).mono ?_)
      rintro e w1 ⟨rfl, rfl⟩
      refine ⟨_, rfl, ?_⟩
      refine ⟨h301, ?_⟩
      refine an_k 19 (o_lvawake 62 19) (.bool true) h301 ?_
      refine an_k 20 (o_lvawake 62 20) (.bool true) h301 ?_
      refine an_v 21 (o_lvawake 62 21) (.agg (Att.c attWide)) (fun W hS => exec_load_row 29 (.tmp 5) (by kernel_rfl) gw (by kernel_rfl) _ _ (0, 0) _ (hS) Try.underlying29 rfl (by rw [Att.c_size _ attWide_ok.r]; kernel_rfl)) h301 ?_
      refine an_o 22 ?_
      refine on_c (o_lvawake 62 22) 36 #[] Try.func36 ((lone_ok _).mono ?_)
      rintro e V309 ⟨rfl, kV309⟩
      refine ⟨_, rfl, ?_⟩
      have h310 : Row V309 5 1 X1 (attOne.bytes).length (B (attOne.bytes)) := h299.keeps kV309 (fun _ _ x => x)
      have h311 : Row V309 5 1 X2 (proOne.bytes).length (B (proOne.bytes)) := h300.keeps kV309 (fun _ _ x => x)
      have h312 := kV309.bk h301
      have h313 := kV309.bk h302
      have h314 := kV309.bk h303
      have h315 : Row V309 5 1 T1 ([1, 1, 2, 3] ++ List.replicate 32 0 ++ [5]).length (B ([1, 1, 2, 3] ++ List.replicate 32 0 ++ [5])) := h304.keeps kV309 (fun _ _ x => x)
      have h316 := kV309.bk h305
      have h317 := kV309.bk h306
      have h318 : Row V309 5 1 T2 ([2, 1, 172, 2] ++ List.replicate 32 0 ++ [128, 1]).length (B ([2, 1, 172, 2] ++ List.replicate 32 0 ++ [128, 1])) := hT2.keeps kV309 (fun _ _ x => x)
      have K319 := K307.nn kV309
      have z320 := kV309.size
      refine ⟨h312, ?_⟩
      refine an_o 23 ?_
      refine on_c (o_lvawake 62 23) 32 #[.agg (Att.c attWide), .agg (Att.c attOne)] Try.func32 ((surr_is attWide attOne _ attWide_ok attOne_ok surr_1).mono ?_)
      rintro e V321 ⟨rfl, kV321⟩
      refine ⟨_, rfl, ?_⟩
      have h322 : Row V321 5 1 X1 (attOne.bytes).length (B (attOne.bytes)) := h310.keeps kV321 (fun _ _ x => x)
      have h323 : Row V321 5 1 X2 (proOne.bytes).length (B (proOne.bytes)) := h311.keeps kV321 (fun _ _ x => x)
      have h324 := kV321.bk h312
      have h325 := kV321.bk h313
      have h326 := kV321.bk h314
      have h327 : Row V321 5 1 T1 ([1, 1, 2, 3] ++ List.replicate 32 0 ++ [5]).length (B ([1, 1, 2, 3] ++ List.replicate 32 0 ++ [5])) := h315.keeps kV321 (fun _ _ x => x)
      have h328 := kV321.bk h316
      have h329 := kV321.bk h317
      have h330 : Row V321 5 1 T2 ([2, 1, 172, 2] ++ List.replicate 32 0 ++ [128, 1]).length (B ([2, 1, 172, 2] ++ List.replicate 32 0 ++ [128, 1])) := h318.keeps kV321 (fun _ _ x => x)
      have K331 := K319.nn kV321
      have z332 := kV321.size
      refine ⟨h324, ?_⟩
      refine an_k 24 (o_lvawake 62 24) (.bool true) h324 ?_
      refine an_k 25 (o_lvawake 62 25) (.bool true) h324 ?_
      refine an_v 27 (o_lvawake 62 27) (.agg (Att.c attWide)) (fun W hS => exec_load_row 29 (.tmp 5) (by kernel_rfl) gw (by kernel_rfl) _ _ (0, 0) _ (hS) Try.underlying29 rfl (by rw [Att.c_size _ attWide_ok.r]; kernel_rfl)) h324 ?_
      refine an_o 26 ?_
      refine on_c (o_lvawake 62 26) 36 #[] Try.func36 ((lone_ok _).mono ?_)
      rintro e V333 ⟨rfl, kV333⟩
      refine ⟨_, rfl, ?_⟩
      have h334 : Row V333 5 1 X1 (attOne.bytes).length (B (attOne.bytes)) := h322.keeps kV333 (fun _ _ x => x)
      have h335 : Row V333 5 1 X2 (proOne.bytes).length (B (proOne.bytes)) := h323.keeps kV333 (fun _ _ x => x)
      have h336 := kV333.bk h324
      have h337 := kV333.bk h325
      have h338 := kV333.bk h326
      have h339 : Row V333 5 1 T1 ([1, 1, 2, 3] ++ List.replicate 32 0 ++ [5]).length (B ([1, 1, 2, 3] ++ List.replicate 32 0 ++ [5])) := h327.keeps kV333 (fun _ _ x => x)
      have h340 := kV333.bk h328
      have h341 := kV333.bk h329
      have h342 : Row V333 5 1 T2 ([2, 1, 172, 2] ++ List.replicate 32 0 ++ [128, 1]).length (B ([2, 1, 172, 2] ++ List.replicate 32 0 ++ [128, 1])) := h330.keeps kV333 (fun _ _ x => x)
      have K343 := K331.nn kV333
      have z344 := kV333.size
      refine ⟨h336, ?_⟩
      refine an_o 28 ?_
      refine on_c (o_lvawake 62 28) 32 #[.agg (Att.c attOne), .agg (Att.c attWide)] Try.func32 ((surr_is attOne attWide _ attOne_ok attWide_ok surr_2).mono ?_)
      rintro e V345 ⟨rfl, kV345⟩
      refine ⟨_, rfl, ?_⟩
      have h346 : Row V345 5 1 X1 (attOne.bytes).length (B (attOne.bytes)) := h334.keeps kV345 (fun _ _ x => x)
      have h347 : Row V345 5 1 X2 (proOne.bytes).length (B (proOne.bytes)) := h335.keeps kV345 (fun _ _ x => x)
      have h348 := kV345.bk h336
      have h349 := kV345.bk h337
      have h350 := kV345.bk h338
      have h351 : Row V345 5 1 T1 ([1, 1, 2, 3] ++ List.replicate 32 0 ++ [5]).length (B ([1, 1, 2, 3] ++ List.replicate 32 0 ++ [5])) := h339.keeps kV345 (fun _ _ x => x)
      have h352 := kV345.bk h340
      have h353 := kV345.bk h341
      have h354 : Row V345 5 1 T2 ([2, 1, 172, 2] ++ List.replicate 32 0 ++ [128, 1]).length (B ([2, 1, 172, 2] ++ List.replicate 32 0 ++ [128, 1])) := h342.keeps kV345 (fun _ _ x => x)
      have K355 := K343.nn kV345
      have z356 := kV345.size
      refine ⟨h348, ?_⟩
      refine an_k 29 (o_lvawake 62 29) (.bool true) h348 ?_
      refine an_k 30 (o_lvawake 62 30) (.bool true) h348 ?_
      refine an_o 31 ?_
      refine on_r (o_lvawake 62 31) (.bool true) (w' := V345) (by kernel_rfl) ?_
      refine ⟨h348, ?_⟩
      refine an_end (by kernel_rfl) ?_
      refine sy_a ⟨#[.bool true, X1, .int .i64 0, X2, .int .i64 0, pT gw 0, .tuple #[X1, .int .i64 0], .agg (Att.c attOne), .tuple #[X1, .int .i64 0], X1, .int .i64 0, .tuple #[X2, .int .i64 0], .agg (Pro.c proOne), .tuple #[X2, .int .i64 0], X2, .int .i64 0, .agg (Att.c attWide), .int .i64 0, .bool true, .bool true, .int .i64 0, .bool true, .bool true, .bool true, X1, .slice (some ⟨p1, 0, none⟩) 4 4, .slice (some ⟨q1, 0, none⟩) 1 1, T1, .bool true, .bool true, .bool true, X2, .slice (some ⟨p2, 0, none⟩) 4 4, .slice (some ⟨q2, 0, none⟩) 2 2, T2, .bool true, .bool true, .bool true, .agg (Att.c attWide), .agg (Att.c attOne), .bool true, .bool true, .bool true, .agg (Att.c attOne), .agg (Att.c attWide), .bool false, .bool true, .bool true], []⟩ ?_
      refine then_n ?_
      refine sy_ret (by kernel_rfl) ?_
      refine sy_out (.bool true) rfl (by kernel_rfl) ?_
      exact ⟨rfl, K355⟩
    · obtain ⟨V357, eV357, q2, eq2, h358, kV357⟩ := alloc_step V260 (#[.int .u8 128, .int .u8 1]) 5
      have n359 : gw < q2 := eq2 ▸ lt_of_block h263
      have n360 : q1 < q2 := eq2 ▸ lt_of_block h264
      have n361 : p1 < q2 := eq2 ▸ lt_of_block h265
      have n362 : w.heap.size ≤ q2 := eq2 ▸ K266.size
      refine on_r (o_lvawake 62 16) (.slice (some ⟨q2, 0, none⟩) 2 2) (w' := V357) (by rw [← eV357, ← eq2]; kernel_rfl) ?_
      have h363 : Row V357 5 1 X1 (attOne.bytes).length (B (attOne.bytes)) := h261.keeps kV357 (fun _ _ x => x)
      have h364 : Row V357 5 1 X2 (proOne.bytes).length (B (proOne.bytes)) := h262.keeps kV357 (fun _ _ x => x)
      have h365 := kV357.bk h263
      have h366 := kV357.bk h264
      have h367 := kV357.bk h265
      have h368 : Row V357 5 1 T1 ([1, 1, 2, 3] ++ List.replicate 32 0 ++ [5]).length (B ([1, 1, 2, 3] ++ List.replicate 32 0 ++ [5])) := hT1.keeps kV357 (fun _ _ x => x)
      have K369 := K266.nn kV357
      have z370 := kV357.size
      refine ⟨h365, ?_⟩
      refine an_o 15 ?_
      obtain ⟨V371, eV371, p2, ep2, h372, kV371⟩ := alloc_step V357 (#[.int .u8 2, .int .u8 1, .int .u8 172, .int .u8 2]) 5
      have n373 : gw < p2 := ep2 ▸ lt_of_block h365
      have n374 : q1 < p2 := ep2 ▸ lt_of_block h366
      have n375 : p1 < p2 := ep2 ▸ lt_of_block h367
      have n376 : q2 < p2 := ep2 ▸ lt_of_block h358
      have n377 : w.heap.size ≤ p2 := ep2 ▸ K369.size
      refine on_r (o_lvawake 62 15) (.slice (some ⟨p2, 0, none⟩) 4 4) (w' := V371) (by rw [← eV371, ← ep2]; kernel_rfl) ?_
      have h378 : Row V371 5 1 X1 (attOne.bytes).length (B (attOne.bytes)) := h363.keeps kV371 (fun _ _ x => x)
      have h379 : Row V371 5 1 X2 (proOne.bytes).length (B (proOne.bytes)) := h364.keeps kV371 (fun _ _ x => x)
      have h380 := kV371.bk h365
      have h381 := kV371.bk h366
      have h382 := kV371.bk h367
      have h383 : Row V371 5 1 T1 ([1, 1, 2, 3] ++ List.replicate 32 0 ++ [5]).length (B ([1, 1, 2, 3] ++ List.replicate 32 0 ++ [5])) := h368.keeps kV371 (fun _ _ x => x)
      have h384 := kV371.bk h358
      have K385 := K369.nn kV371
      have z386 := kV371.size
      refine ⟨h380, ?_⟩
      refine an_o 17 ?_
      refine on_c (o_lvawake 62 17) 41 #[.slice (some ⟨p2, 0, none⟩) 4 4, .slice (some ⟨q2, 0, none⟩) 2 2] Try.func41 ((ltold_ok p2 q2 4 2 [2, 1, 172, 2] [128, 1] _ h372 h384 rfl rfl (by decide) (by decide)).mono ?_)
      rintro e V387 ⟨T2, rfl, hT2, hnT2, kV387⟩
      refine ⟨_, rfl, ?_⟩
      have h388 : Row V387 5 1 X1 (attOne.bytes).length (B (attOne.bytes)) := h378.keeps kV387 (fun _ _ x => x)
      have h389 : Row V387 5 1 X2 (proOne.bytes).length (B (proOne.bytes)) := h379.keeps kV387 (fun _ _ x => x)
      have h390 := kV387.bk h380
      have h391 := kV387.bk h381
      have h392 := kV387.bk h382
      have h393 : Row V387 5 1 T1 ([1, 1, 2, 3] ++ List.replicate 32 0 ++ [5]).length (B ([1, 1, 2, 3] ++ List.replicate 32 0 ++ [5])) := h383.keeps kV387 (fun _ _ x => x)
      have h394 := kV387.bk h384
      have h395 := kV387.bk h372
      have K396 := K385.nn kV387
      have z397 := kV387.size
      refine ⟨h390, ?_⟩
      refine an_o 18 ?_
      refine on_c (o_lvawake 62 18) 20 #[X2, T2] Try.func20 ((sameBytes_same (Row.bytes h389) (Row.bytes hT2) proOne_bytes).mono ?_)
      rintro e w1 ⟨rfl, rfl⟩
      refine ⟨_, rfl, ?_⟩
      refine ⟨h390, ?_⟩
      refine an_k 19 (o_lvawake 62 19) (.bool true) h390 ?_
      refine an_k 20 (o_lvawake 62 20) (.bool true) h390 ?_
      refine an_v 21 (o_lvawake 62 21) (.agg (Att.c attWide)) (fun W hS => exec_load_row 29 (.tmp 5) (by kernel_rfl) gw (by kernel_rfl) _ _ (0, 0) _ (hS) Try.underlying29 rfl (by rw [Att.c_size _ attWide_ok.r]; kernel_rfl)) h390 ?_
      refine an_o 22 ?_
      refine on_c (o_lvawake 62 22) 36 #[] Try.func36 ((lone_ok _).mono ?_)
      rintro e V398 ⟨rfl, kV398⟩
      refine ⟨_, rfl, ?_⟩
      have h399 : Row V398 5 1 X1 (attOne.bytes).length (B (attOne.bytes)) := h388.keeps kV398 (fun _ _ x => x)
      have h400 : Row V398 5 1 X2 (proOne.bytes).length (B (proOne.bytes)) := h389.keeps kV398 (fun _ _ x => x)
      have h401 := kV398.bk h390
      have h402 := kV398.bk h391
      have h403 := kV398.bk h392
      have h404 : Row V398 5 1 T1 ([1, 1, 2, 3] ++ List.replicate 32 0 ++ [5]).length (B ([1, 1, 2, 3] ++ List.replicate 32 0 ++ [5])) := h393.keeps kV398 (fun _ _ x => x)
      have h405 := kV398.bk h394
      have h406 := kV398.bk h395
      have h407 : Row V398 5 1 T2 ([2, 1, 172, 2] ++ List.replicate 32 0 ++ [128, 1]).length (B ([2, 1, 172, 2] ++ List.replicate 32 0 ++ [128, 1])) := hT2.keeps kV398 (fun _ _ x => x)
      have K408 := K396.nn kV398
      have z409 := kV398.size
      refine ⟨h401, ?_⟩
      refine an_o 23 ?_
      refine on_c (o_lvawake 62 23) 32 #[.agg (Att.c attWide), .agg (Att.c attOne)] Try.func32 ((surr_is attWide attOne _ attWide_ok attOne_ok surr_1).mono ?_)
      rintro e V410 ⟨rfl, kV410⟩
      refine ⟨_, rfl, ?_⟩
      have h411 : Row V410 5 1 X1 (attOne.bytes).length (B (attOne.bytes)) := h399.keeps kV410 (fun _ _ x => x)
      have h412 : Row V410 5 1 X2 (proOne.bytes).length (B (proOne.bytes)) := h400.keeps kV410 (fun _ _ x => x)
      have h413 := kV410.bk h401
      have h414 := kV410.bk h402
      have h415 := kV410.bk h403
      have h416 : Row V410 5 1 T1 ([1, 1, 2, 3] ++ List.replicate 32 0 ++ [5]).length (B ([1, 1, 2, 3] ++ List.replicate 32 0 ++ [5])) := h404.keeps kV410 (fun _ _ x => x)
      have h417 := kV410.bk h405
      have h418 := kV410.bk h406
      have h419 : Row V410 5 1 T2 ([2, 1, 172, 2] ++ List.replicate 32 0 ++ [128, 1]).length (B ([2, 1, 172, 2] ++ List.replicate 32 0 ++ [128, 1])) := h407.keeps kV410 (fun _ _ x => x)
      have K420 := K408.nn kV410
      have z421 := kV410.size
      refine ⟨h413, ?_⟩
      refine an_k 24 (o_lvawake 62 24) (.bool true) h413 ?_
      refine an_k 25 (o_lvawake 62 25) (.bool true) h413 ?_
      refine an_v 27 (o_lvawake 62 27) (.agg (Att.c attWide)) (fun W hS => exec_load_row 29 (.tmp 5) (by kernel_rfl) gw (by kernel_rfl) _ _ (0, 0) _ (hS) Try.underlying29 rfl (by rw [Att.c_size _ attWide_ok.r]; kernel_rfl)) h413 ?_
      refine an_o 26 ?_
      refine on_c (o_lvawake 62 26) 36 #[] Try.func36 ((lone_ok _).mono ?_)
      rintro e V422 ⟨rfl, kV422⟩
      refine ⟨_, rfl, ?_⟩
      have h423 : Row V422 5 1 X1 (attOne.bytes).length (B (attOne.bytes)) := h411.keeps kV422 (fun _ _ x => x)
      have h424 : Row V422 5 1 X2 (proOne.bytes).length (B (proOne.bytes)) := h412.keeps kV422 (fun _ _ x => x)
      have h425 := kV422.bk h413
      have h426 := kV422.bk h414
      have h427 := kV422.bk h415
      have h428 : Row V422 5 1 T1 ([1, 1, 2, 3] ++ List.replicate 32 0 ++ [5]).length (B ([1, 1, 2, 3] ++ List.replicate 32 0 ++ [5])) := h416.keeps kV422 (fun _ _ x => x)
      have h429 := kV422.bk h417
      have h430 := kV422.bk h418
      have h431 : Row V422 5 1 T2 ([2, 1, 172, 2] ++ List.replicate 32 0 ++ [128, 1]).length (B ([2, 1, 172, 2] ++ List.replicate 32 0 ++ [128, 1])) := h419.keeps kV422 (fun _ _ x => x)
      have K432 := K420.nn kV422
      have z433 := kV422.size
      refine ⟨h425, ?_⟩
      refine an_o 28 ?_
      refine on_c (o_lvawake 62 28) 32 #[.agg (Att.c attOne), .agg (Att.c attWide)] Try.func32 ((surr_is attOne attWide _ attOne_ok attWide_ok surr_2).mono ?_)
      rintro e V434 ⟨rfl, kV434⟩
      refine ⟨_, rfl, ?_⟩
      have h435 : Row V434 5 1 X1 (attOne.bytes).length (B (attOne.bytes)) := h423.keeps kV434 (fun _ _ x => x)
      have h436 : Row V434 5 1 X2 (proOne.bytes).length (B (proOne.bytes)) := h424.keeps kV434 (fun _ _ x => x)
      have h437 := kV434.bk h425
      have h438 := kV434.bk h426
      have h439 := kV434.bk h427
      have h440 : Row V434 5 1 T1 ([1, 1, 2, 3] ++ List.replicate 32 0 ++ [5]).length (B ([1, 1, 2, 3] ++ List.replicate 32 0 ++ [5])) := h428.keeps kV434 (fun _ _ x => x)
      have h441 := kV434.bk h429
      have h442 := kV434.bk h430
      have h443 : Row V434 5 1 T2 ([2, 1, 172, 2] ++ List.replicate 32 0 ++ [128, 1]).length (B ([2, 1, 172, 2] ++ List.replicate 32 0 ++ [128, 1])) := h431.keeps kV434 (fun _ _ x => x)
      have K444 := K432.nn kV434
      have z445 := kV434.size
      refine ⟨h437, ?_⟩
      refine an_k 29 (o_lvawake 62 29) (.bool true) h437 ?_
      refine an_k 30 (o_lvawake 62 30) (.bool true) h437 ?_
      refine an_o 31 ?_
      refine on_r (o_lvawake 62 31) (.bool true) (w' := V434) (by kernel_rfl) ?_
      refine ⟨h437, ?_⟩
      refine an_end (by kernel_rfl) ?_
      refine sy_a ⟨#[.bool true, X1, .int .i64 0, X2, .int .i64 0, pT gw 0, .tuple #[X1, .int .i64 0], .agg (Att.c attOne), .tuple #[X1, .int .i64 0], X1, .int .i64 0, .tuple #[X2, .int .i64 0], .agg (Pro.c proOne), .tuple #[X2, .int .i64 0], X2, .int .i64 0, .agg (Att.c attWide), .int .i64 0, .bool true, .bool true, .int .i64 0, .bool true, .bool true, .bool true, X1, .slice (some ⟨p1, 0, none⟩) 4 4, .slice (some ⟨q1, 0, none⟩) 1 1, T1, .bool true, .bool true, .bool true, X2, .slice (some ⟨p2, 0, none⟩) 4 4, .slice (some ⟨q2, 0, none⟩) 2 2, T2, .bool true, .bool true, .bool true, .agg (Att.c attWide), .agg (Att.c attOne), .bool true, .bool true, .bool true, .agg (Att.c attOne), .agg (Att.c attWide), .bool false, .bool true, .bool true], []⟩ ?_
      refine then_n ?_
      refine sy_ret (by kernel_rfl) ?_
      refine sy_out (.bool true) rfl (by kernel_rfl) ?_
      exact ⟨rfl, K444⟩
end Go.Proofs.Ytenaakldccjnbaa
