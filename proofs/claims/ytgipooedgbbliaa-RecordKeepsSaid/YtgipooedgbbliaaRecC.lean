/-
  Records: the ring of proposals (printed by rec1.py). Conditions: none.
-/
import Derived.Test.YtgipooedgbbliaaRecA
import Derived.Test.YtgipooedgbbliaaRecB
namespace Go.Proofs.Ytgipooedgbbliaa
open Go Go.RowKit Go.Own Go.Shelf
abbrev RingB : World → RD Pro → Prop := Ring 42 83 74 35 Pro.c (·.h) Pro.Ok
theorem b_ptr_info : (Try.prog.info? 74).map (fun i => (i.zero, i.size, i.bytes)) = some (some (.pointer none), 1, 8) := by kernel_rfl

noncomputable def part_qidxB (n : Nat) : Code := partOf Try.f42 n
noncomputable abbrev o_qidxB (n k : Nat) : Oper := (opsAt (part_qidxB n)).getD k default
set_option maxRecDepth 100000 in
set_option maxHeartbeats 4000000 in
theorem qidxB_ok (a : Pro) (w : World) (hr : a.r.length = 32) :
    Calls Try.prog 42 #[.agg (Pro.c a)] w (fun e w' => e = .returned (.int .i64 a.h) ∧ Keeps Nob w w') := by
  have K0 : Keeps Nob w w := Keeps.refl _ _
  refine sy_enter (part_qidxB 1) ⟨#[.agg (Pro.c a), undef, undef, undef, undef], []⟩ Try.func42 (by kernel_rfl) (by kernel_rfl) ?_
  refine sy_sq (part_qidxB 2) (part_qidxB 3) ?_
  refine sy_reg ?_
  refine rg_plain 0 (opsAt (part_qidxB 2)) [0, 1] (by kernel_rfl) (by kernel_rfl) ?_
  obtain ⟨V1, eV1, p, ep, h2, kV1⟩ := alloc_step w ((Pro.c a)) 35
  have n3 : w.heap.size ≤ p := ep ▸ K0.size
  refine ps_r (o_qidxB 2 0) (pT p 0) (w' := V1) (by rw [← eV1, ← ep]; exact exec_box 35 (.tmp 0) (by kernel_rfl) (.agg (Pro.c a)) (by kernel_rfl)) ?_
  clear eV1
  have K4 := K0.nn kV1
  have z5 := kV1.size
  refine ps_k (o_qidxB 2 1) (.int .i64 0) ?_
  refine ps_end ?_
  refine then_n ?_
  refine sy_sq (part_qidxB 6) (part_qidxB 7) ?_
  refine sy_reg ?_
  refine rg_plain 1 (opsAt (part_qidxB 6)) [0, 1, 2] (by kernel_rfl) (by kernel_rfl) ?_
  refine ps_k (o_qidxB 6 0) (pT p 1) ?_
  refine ps_p (o_qidxB 6 1) (.int .i64 a.h) (exec_ld 3 (.tmp 3) p 1 Try.underlying3 (rc (h2) (Pro.c_1 _))) ?_
  refine ps_k (o_qidxB 6 2) (.int .i64 a.h) ?_
  refine ps_end ?_
  refine then_n ?_
  refine sy_ret (by kernel_rfl) ?_
  refine sy_out (.int .i64 a.h) rfl (by kernel_rfl) ?_
  exact ⟨rfl, K4⟩
theorem qidxB_as (a : Pro) (t : Nat) (w : World) (hr : a.r.length = 32) (ht : a.h = ((t : Nat) : Int)) : Calls Try.prog 42 #[.agg (Pro.c a)] w fun e w' => e = .returned (.int .i64 ((t : Nat) : Int)) ∧ Keeps Nob w w' := ht ▸ qidxB_ok a w hr
noncomputable def part_gatB (n : Nat) : Code := partOf Try.f35 n
noncomputable abbrev o_gatB (n k : Nat) : Oper := (opsAt (part_gatB n)).getD k default
set_option maxRecDepth 100000 in
set_option maxHeartbeats 4000000 in
theorem gatB_low (d : RD Pro) (i : Int) (w : World) (H : RingB w d) (hi : i < (d.low : Int)) :
    Calls Try.prog 35 #[.pointer (some ⟨d.g, 0, none⟩), .int .i64 i] w (fun e w' => e = .returned (.pointer none) ∧ Keeps Nob w w') := by
  have hn0 := H.n1
  have hn2 := H.n2
  have hl2 := H.l2
  have K0 : Keeps Nob w w := Keeps.refl _ _
  refine sy_enter (part_gatB 1) ⟨#[.pointer (some ⟨d.g, 0, none⟩), .int .i64 i, undef, undef, undef, undef, undef, undef, undef, undef, undef, undef, undef, undef, undef, undef, undef, undef, undef, undef, undef, undef, undef, undef, undef, undef, undef, undef, undef, undef, undef, undef, undef, undef, undef, undef, undef, undef], []⟩ Try.func35 (by kernel_rfl) (by kernel_rfl) ?_
  refine sy_sq (part_gatB 2) (part_gatB 3) ?_
  refine sy_reg ?_
  refine rg_plain 0 (opsAt (part_gatB 2)) [0] (by kernel_rfl) (by kernel_rfl) ?_
  refine ps_k (o_gatB 2 0) (.pointer none) ?_
  refine ps_end ?_
  refine then_n ?_
  refine sy_sq (part_gatB 6) (part_gatB 7) ?_
  refine sy_sq (part_gatB 12) (part_gatB 13) ?_
  refine sy_np ?_
  refine sy_reg ?_
  refine an_begin 1 20 (opsAt (part_gatB 12)) (fun W => (W.heap[d.g]? = some (.cells (#[.func (.func 42) #[] #[], .slice (some ⟨d.s, 0, none⟩) d.n d.cap, .int .i64 ((d.low : Nat) : Int)]) 83 (0, 0)))) #[false, false, false, false, false, false, false, false, false, false, false, false, false, false, false, false, false, false, false, false] (by kernel_rfl) (by kernel_rfl) (by kernel_rfl) (by kernel_rfl) ?_
  obtain ⟨V1, eV1, kV1⟩ := drew_step w
  rw [eV1]
  clear eV1
  have h2 := kV1.bk H.ring
  have h3 := kV1.bk H.slots
  have K4 := K0.nn kV1
  have z5 := kV1.size
  refine an_k 0 (o_gatB 12 0) (.int .i64 i) h2 ?_
  refine an_k 1 (o_gatB 12 1) (.pointer (some ⟨d.g, 0, none⟩)) h2 ?_
  refine an_k 2 (o_gatB 12 2) (.pointer (some ⟨d.g, 0, none⟩)) h2 ?_
  refine an_k 3 (o_gatB 12 3) (.pointer (some ⟨d.g, 2, none⟩)) h2 ?_
  refine an_v 4 (o_gatB 12 4) (iN d.low) (fun W hS => exec_load_cell 3 (.tmp 8) (by kernel_rfl) ⟨d.g, 2, none⟩ (by kernel_rfl) _ _ Try.underlying3 rfl (rc (hS) (by kernel_rfl))) h2 ?_
  refine an_v 5 (o_gatB 12 5) (.bool true) (fun W hS => dct (((i) : Int) < (((d.low : Nat) : Int))) (by omega)) h2 ?_
  refine an_k 6 (o_gatB 12 6) (.bool true) h2 ?_
  refine an_n 7 (o_gatB 12 7) h2 ?_
  refine an_n 8 (o_gatB 12 8) h2 ?_
  refine an_n 9 (o_gatB 12 9) h2 ?_
  refine an_n 10 (o_gatB 12 10) h2 ?_
  refine an_n 11 (o_gatB 12 11) h2 ?_
  refine an_n 12 (o_gatB 12 12) h2 ?_
  refine an_n 13 (o_gatB 12 13) h2 ?_
  refine an_n 14 (o_gatB 12 14) h2 ?_
  refine an_n 15 (o_gatB 12 15) h2 ?_
  refine an_n 16 (o_gatB 12 16) h2 ?_
  refine an_n 17 (o_gatB 12 17) h2 ?_
  refine an_n 18 (o_gatB 12 18) h2 ?_
  refine an_k 19 (o_gatB 12 19) (.bool true) h2 ?_
  refine an_end (by kernel_rfl) ?_
  refine then_n ?_
  refine sy_ys (.tmp 24) (part_gatB 26) (part_gatB 27) ?_
  refine sy_sq (part_gatB 52) (part_gatB 53) ?_
  refine sy_reg ?_
  refine rg_plain 2 (opsAt (part_gatB 52)) [0] (by kernel_rfl) (by kernel_rfl) ?_
  refine ps_k (o_gatB 52 0) (.pointer none) ?_
  refine ps_end ?_
  refine then_n ?_
  refine sy_ret (by kernel_rfl) ?_
  refine then_r ?_
  refine sy_out (.pointer none) rfl (by kernel_rfl) ?_
  exact ⟨rfl, K4⟩
set_option maxRecDepth 100000 in
set_option maxHeartbeats 4000000 in
theorem gatB_high (d : RD Pro) (i : Int) (w : World) (H : RingB w d) (hi : (d.low : Int) + d.n ≤ i) :
    Calls Try.prog 35 #[.pointer (some ⟨d.g, 0, none⟩), .int .i64 i] w (fun e w' => e = .returned (.pointer none) ∧ Keeps Nob w w') := by
  have hn0 := H.n1
  have hn2 := H.n2
  have hl2 := H.l2
  have K0 : Keeps Nob w w := Keeps.refl _ _
  refine sy_enter (part_gatB 1) ⟨#[.pointer (some ⟨d.g, 0, none⟩), .int .i64 i, undef, undef, undef, undef, undef, undef, undef, undef, undef, undef, undef, undef, undef, undef, undef, undef, undef, undef, undef, undef, undef, undef, undef, undef, undef, undef, undef, undef, undef, undef, undef, undef, undef, undef, undef, undef], []⟩ Try.func35 (by kernel_rfl) (by kernel_rfl) ?_
  refine sy_sq (part_gatB 2) (part_gatB 3) ?_
  refine sy_reg ?_
  refine rg_plain 0 (opsAt (part_gatB 2)) [0] (by kernel_rfl) (by kernel_rfl) ?_
  refine ps_k (o_gatB 2 0) (.pointer none) ?_
  refine ps_end ?_
  refine then_n ?_
  refine sy_sq (part_gatB 6) (part_gatB 7) ?_
  refine sy_sq (part_gatB 12) (part_gatB 13) ?_
  refine sy_np ?_
  refine sy_reg ?_
  refine an_begin 1 20 (opsAt (part_gatB 12)) (fun W => (W.heap[d.g]? = some (.cells (#[.func (.func 42) #[] #[], .slice (some ⟨d.s, 0, none⟩) d.n d.cap, .int .i64 ((d.low : Nat) : Int)]) 83 (0, 0)))) #[false, false, false, false, false, false, false, false, false, false, false, false, false, false, false, false, false, false, false, false] (by kernel_rfl) (by kernel_rfl) (by kernel_rfl) (by kernel_rfl) ?_
  obtain ⟨V6, eV6, kV6⟩ := drew_step w
  rw [eV6]
  clear eV6
  have h7 := kV6.bk H.ring
  have h8 := kV6.bk H.slots
  have K9 := K0.nn kV6
  have z10 := kV6.size
  refine an_k 0 (o_gatB 12 0) (.int .i64 i) h7 ?_
  refine an_k 1 (o_gatB 12 1) (.pointer (some ⟨d.g, 0, none⟩)) h7 ?_
  refine an_k 2 (o_gatB 12 2) (.pointer (some ⟨d.g, 0, none⟩)) h7 ?_
  refine an_k 3 (o_gatB 12 3) (.pointer (some ⟨d.g, 2, none⟩)) h7 ?_
  refine an_v 4 (o_gatB 12 4) (iN d.low) (fun W hS => exec_load_cell 3 (.tmp 8) (by kernel_rfl) ⟨d.g, 2, none⟩ (by kernel_rfl) _ _ Try.underlying3 rfl (rc (hS) (by kernel_rfl))) h7 ?_
  refine an_v 5 (o_gatB 12 5) (.bool false) (fun W hS => dcf (((i) : Int) < (((d.low : Nat) : Int))) (by omega)) h7 ?_
  refine an_k 6 (o_gatB 12 6) (.bool false) h7 ?_
  refine an_k 7 (o_gatB 12 7) (.int .i64 i) h7 ?_
  refine an_k 8 (o_gatB 12 8) (.pointer (some ⟨d.g, 0, none⟩)) h7 ?_
  refine an_k 9 (o_gatB 12 9) (.pointer (some ⟨d.g, 0, none⟩)) h7 ?_
  refine an_k 10 (o_gatB 12 10) (.pointer (some ⟨d.g, 2, none⟩)) h7 ?_
  refine an_v 11 (o_gatB 12 11) (iN d.low) (fun W hS => exec_load_cell 3 (.tmp 15) (by kernel_rfl) ⟨d.g, 2, none⟩ (by kernel_rfl) _ _ Try.underlying3 rfl (rc (hS) (by kernel_rfl))) h7 ?_
  refine an_k 12 (o_gatB 12 12) (.pointer (some ⟨d.g, 0, none⟩)) h7 ?_
  refine an_k 13 (o_gatB 12 13) (.pointer (some ⟨d.g, 0, none⟩)) h7 ?_
  refine an_k 14 (o_gatB 12 14) (.pointer (some ⟨d.g, 1, none⟩)) h7 ?_
  refine an_v 15 (o_gatB 12 15) (.slice (some ⟨d.s, 0, none⟩) d.n d.cap) (fun W hS => exec_load_cell 81 (.tmp 19) (by kernel_rfl) ⟨d.g, 1, none⟩ (by kernel_rfl) _ _ Try.underlying81 rfl (rc (hS) (by kernel_rfl))) h7 ?_
  refine an_v 16 (o_gatB 12 16) (iN d.n) (fun W hS => exec_len (.tmp 20) 81 _ (by kernel_rfl) Try.underlying81 (some ⟨d.s, 0, none⟩) d.n d.cap (by kernel_rfl)) h7 ?_
  refine an_v 17 (o_gatB 12 17) (iN (d.low + d.n)) (fun W hS => exec_cast (congrArg (Value.int .i64) (wrapN (d.low + d.n) (by omega))) (by kernel_rfl)) h7 ?_
  refine an_v 18 (o_gatB 12 18) (.bool true) (fun W hS => dct (((i) : Int) ≥ (((d.low + d.n : Nat) : Int))) (by omega)) h7 ?_
  refine an_k 19 (o_gatB 12 19) (.bool true) h7 ?_
  refine an_end (by kernel_rfl) ?_
  refine then_n ?_
  refine sy_ys (.tmp 24) (part_gatB 26) (part_gatB 27) ?_
  refine sy_sq (part_gatB 52) (part_gatB 53) ?_
  refine sy_reg ?_
  refine rg_plain 2 (opsAt (part_gatB 52)) [0] (by kernel_rfl) (by kernel_rfl) ?_
  refine ps_k (o_gatB 52 0) (.pointer none) ?_
  refine ps_end ?_
  refine then_n ?_
  refine sy_ret (by kernel_rfl) ?_
  refine then_r ?_
  refine sy_out (.pointer none) rfl (by kernel_rfl) ?_
  exact ⟨rfl, K9⟩
set_option maxRecDepth 100000 in
set_option maxHeartbeats 4000000 in
theorem gatB_in (d : RD Pro) (t : Nat) (w : World) (H : RingB w d) (h1 : d.low ≤ t) (h2 : t < d.low + d.n) :
    Calls Try.prog 35 #[.pointer (some ⟨d.g, 0, none⟩), .int .i64 ((t : Nat) : Int)] w (fun e w' => e = .returned (ptrV (d.S (t % d.n))) ∧ Keeps Nob w w') := by
  have hn0 := H.n1
  have hn2 := H.n2
  have hl2 := H.l2
  have hm := Nat.mod_lt t hn0
  have K0 : Keeps Nob w w := Keeps.refl _ _
  refine sy_enter (part_gatB 1) ⟨#[.pointer (some ⟨d.g, 0, none⟩), iN t, undef, undef, undef, undef, undef, undef, undef, undef, undef, undef, undef, undef, undef, undef, undef, undef, undef, undef, undef, undef, undef, undef, undef, undef, undef, undef, undef, undef, undef, undef, undef, undef, undef, undef, undef, undef], []⟩ Try.func35 (by kernel_rfl) (by kernel_rfl) ?_
  refine sy_sq (part_gatB 2) (part_gatB 3) ?_
  refine sy_reg ?_
  refine rg_plain 0 (opsAt (part_gatB 2)) [0] (by kernel_rfl) (by kernel_rfl) ?_
  refine ps_k (o_gatB 2 0) (.pointer none) ?_
  refine ps_end ?_
  refine then_n ?_
  refine sy_sq (part_gatB 6) (part_gatB 7) ?_
  refine sy_sq (part_gatB 12) (part_gatB 13) ?_
  refine sy_np ?_
  refine sy_reg ?_
  refine an_begin 1 20 (opsAt (part_gatB 12)) (fun W => (W.heap[d.g]? = some (.cells (#[.func (.func 42) #[] #[], .slice (some ⟨d.s, 0, none⟩) d.n d.cap, .int .i64 ((d.low : Nat) : Int)]) 83 (0, 0)))) #[false, false, false, false, false, false, false, false, false, false, false, false, false, false, false, false, false, false, false, false] (by kernel_rfl) (by kernel_rfl) (by kernel_rfl) (by kernel_rfl) ?_
  obtain ⟨V11, eV11, kV11⟩ := drew_step w
  rw [eV11]
  clear eV11
  have h12 := kV11.bk H.ring
  have h13 := kV11.bk H.slots
  have K14 := K0.nn kV11
  have z15 := kV11.size
  refine an_k 0 (o_gatB 12 0) (iN t) h12 ?_
  refine an_k 1 (o_gatB 12 1) (.pointer (some ⟨d.g, 0, none⟩)) h12 ?_
  refine an_k 2 (o_gatB 12 2) (.pointer (some ⟨d.g, 0, none⟩)) h12 ?_
  refine an_k 3 (o_gatB 12 3) (.pointer (some ⟨d.g, 2, none⟩)) h12 ?_
  refine an_v 4 (o_gatB 12 4) (iN d.low) (fun W hS => exec_load_cell 3 (.tmp 8) (by kernel_rfl) ⟨d.g, 2, none⟩ (by kernel_rfl) _ _ Try.underlying3 rfl (rc (hS) (by kernel_rfl))) h12 ?_
  refine an_v 5 (o_gatB 12 5) (.bool false) (fun W hS => dcf ((((t : Nat) : Int)) < (((d.low : Nat) : Int))) (by omega)) h12 ?_
  refine an_k 6 (o_gatB 12 6) (.bool false) h12 ?_
  refine an_k 7 (o_gatB 12 7) (iN t) h12 ?_
  refine an_k 8 (o_gatB 12 8) (.pointer (some ⟨d.g, 0, none⟩)) h12 ?_
  refine an_k 9 (o_gatB 12 9) (.pointer (some ⟨d.g, 0, none⟩)) h12 ?_
  refine an_k 10 (o_gatB 12 10) (.pointer (some ⟨d.g, 2, none⟩)) h12 ?_
  refine an_v 11 (o_gatB 12 11) (iN d.low) (fun W hS => exec_load_cell 3 (.tmp 15) (by kernel_rfl) ⟨d.g, 2, none⟩ (by kernel_rfl) _ _ Try.underlying3 rfl (rc (hS) (by kernel_rfl))) h12 ?_
  refine an_k 12 (o_gatB 12 12) (.pointer (some ⟨d.g, 0, none⟩)) h12 ?_
  refine an_k 13 (o_gatB 12 13) (.pointer (some ⟨d.g, 0, none⟩)) h12 ?_
  refine an_k 14 (o_gatB 12 14) (.pointer (some ⟨d.g, 1, none⟩)) h12 ?_
  refine an_v 15 (o_gatB 12 15) (.slice (some ⟨d.s, 0, none⟩) d.n d.cap) (fun W hS => exec_load_cell 81 (.tmp 19) (by kernel_rfl) ⟨d.g, 1, none⟩ (by kernel_rfl) _ _ Try.underlying81 rfl (rc (hS) (by kernel_rfl))) h12 ?_
  refine an_v 16 (o_gatB 12 16) (iN d.n) (fun W hS => exec_len (.tmp 20) 81 _ (by kernel_rfl) Try.underlying81 (some ⟨d.s, 0, none⟩) d.n d.cap (by kernel_rfl)) h12 ?_
  refine an_v 17 (o_gatB 12 17) (iN (d.low + d.n)) (fun W hS => exec_cast (congrArg (Value.int .i64) (wrapN (d.low + d.n) (by omega))) (by kernel_rfl)) h12 ?_
  refine an_v 18 (o_gatB 12 18) (.bool false) (fun W hS => dcf ((((t : Nat) : Int)) ≥ (((d.low + d.n : Nat) : Int))) (by omega)) h12 ?_
  refine an_k 19 (o_gatB 12 19) (.bool false) h12 ?_
  refine an_end (by kernel_rfl) ?_
  refine then_n ?_
  refine sy_n (.tmp 24) (part_gatB 26) (part_gatB 27) ?_
  refine sy_sk ?_
  refine then_n ?_
  refine sy_sq (part_gatB 14) (part_gatB 15) ?_
  refine sy_reg ?_
  refine rg_still 3 13 (opsAt (part_gatB 14)) [o_gatB 14 0, o_gatB 14 1, o_gatB 14 2, o_gatB 14 3, o_gatB 14 4, o_gatB 14 5, o_gatB 14 6, o_gatB 14 7, o_gatB 14 8, o_gatB 14 9, o_gatB 14 10, o_gatB 14 11, o_gatB 14 12] [o_gatB 14 13] (by kernel_rfl) (by kernel_rfl) (by kernel_rfl) (by kernel_rfl) (by kernel_rfl) ?_
  obtain ⟨V17, eV17, kV17⟩ := drew_step V11
  rw [eV17]
  clear eV17
  have h18 := kV17.bk h12
  have h19 := kV17.bk h13
  have K20 := K14.nn kV17
  have z21 := kV17.size
  refine st_k (o_gatB 14 0) (.pointer (some ⟨d.g, 0, none⟩)) ?_
  refine st_k (o_gatB 14 1) (.pointer (some ⟨d.g, 0, none⟩)) ?_
  refine st_k (o_gatB 14 2) (.pointer (some ⟨d.g, 1, none⟩)) ?_
  refine st_p (o_gatB 14 3) (.slice (some ⟨d.s, 0, none⟩) d.n d.cap) (exec_load_cell 81 (.tmp 27) (by kernel_rfl) ⟨d.g, 1, none⟩ (by kernel_rfl) _ _ Try.underlying81 rfl (rc (h18) (by kernel_rfl))) ?_
  refine st_k (o_gatB 14 4) (iN t) ?_
  refine st_k (o_gatB 14 5) (.pointer (some ⟨d.g, 0, none⟩)) ?_
  refine st_k (o_gatB 14 6) (.pointer (some ⟨d.g, 0, none⟩)) ?_
  refine st_k (o_gatB 14 7) (.pointer (some ⟨d.g, 1, none⟩)) ?_
  refine st_p (o_gatB 14 8) (.slice (some ⟨d.s, 0, none⟩) d.n d.cap) (exec_load_cell 81 (.tmp 32) (by kernel_rfl) ⟨d.g, 1, none⟩ (by kernel_rfl) _ _ Try.underlying81 rfl (rc (h18) (by kernel_rfl))) ?_
  refine st_p (o_gatB 14 9) (iN d.n) (exec_len (.tmp 33) 81 _ (by kernel_rfl) Try.underlying81 (some ⟨d.s, 0, none⟩) d.n d.cap (by kernel_rfl)) ?_
  refine st_p (o_gatB 14 10) (iN (t % d.n)) (exec_rem 3 3 (.tmp 29) (.tmp 34) (by kernel_rfl) t d.n (by kernel_rfl) (by kernel_rfl) hn0) ?_
  refine st_p (o_gatB 14 11) (.pointer (some ⟨d.s, t % d.n, none⟩)) (exec_cast (v := .pointer (some ⟨d.s, 0 + (t % d.n) * 1, none⟩)) (by simp) (exec_indexAt_slice 81 (.tmp 28) (.tmp 35) (by kernel_rfl) d.s 0 d.n d.cap (by kernel_rfl) .i64 (t % d.n) (by kernel_rfl) _ 1 Try.underlying81 (by kernel_rfl) (by omega))) ?_
  refine st_p (o_gatB 14 12) (ptrV (d.S (t % d.n))) (exec_load_cell 74 (.tmp 36) (by kernel_rfl) ⟨d.s, t % d.n, none⟩ (by kernel_rfl) _ _ Try.underlying74 rfl (rc (h19) ((Slots.get (Nat.mod_lt _ hn0)).trans (congrArg some (rfl))))) ?_
  refine st_end ?_
  refine ls_run (o_gatB 14 13) (ptrV (d.S (t % d.n))) (w' := V17) (by kernel_rfl) (by kernel_rfl) ?_
  refine ls_end ?_
  refine sy_a ⟨#[.pointer (some ⟨d.g, 0, none⟩), iN t, undef, undef, ptrV (d.S (t % d.n)), iN t, .pointer (some ⟨d.g, 0, none⟩), .pointer (some ⟨d.g, 0, none⟩), .pointer (some ⟨d.g, 2, none⟩), iN d.low, .bool false, .bool false, iN t, .pointer (some ⟨d.g, 0, none⟩), .pointer (some ⟨d.g, 0, none⟩), .pointer (some ⟨d.g, 2, none⟩), iN d.low, .pointer (some ⟨d.g, 0, none⟩), .pointer (some ⟨d.g, 0, none⟩), .pointer (some ⟨d.g, 1, none⟩), .slice (some ⟨d.s, 0, none⟩) d.n d.cap, iN d.n, iN (d.low + d.n), .bool false, .bool false, .pointer (some ⟨d.g, 0, none⟩), .pointer (some ⟨d.g, 0, none⟩), .pointer (some ⟨d.g, 1, none⟩), .slice (some ⟨d.s, 0, none⟩) d.n d.cap, iN t, .pointer (some ⟨d.g, 0, none⟩), .pointer (some ⟨d.g, 0, none⟩), .pointer (some ⟨d.g, 1, none⟩), .slice (some ⟨d.s, 0, none⟩) d.n d.cap, iN d.n, iN (t % d.n), .pointer (some ⟨d.s, t % d.n, none⟩), ptrV (d.S (t % d.n))], []⟩ ?_
  refine then_n ?_
  refine sy_ret (by kernel_rfl) ?_
  refine sy_out (ptrV (d.S (t % d.n))) rfl (by kernel_rfl) ?_
  exact ⟨rfl, K20⟩
theorem gatB_ok (d : RD Pro) (i : Int) (w : World) (H : RingB w d) : Calls Try.prog 35 #[.pointer (some ⟨d.g, 0, none⟩), .int .i64 i] w fun e w' => e = .returned (ptrV (slotOf d i)) ∧ Keeps Nob w w' := by
  by_cases h1 : i < (d.low : Int)
  · rw [slotOf_low i h1]; exact gatB_low d i w H h1
  · by_cases h2 : (d.low : Int) + d.n ≤ i
    · rw [slotOf_high i h2]; exact gatB_high d i w H h2
    · obtain ⟨t, rfl⟩ : ∃ t : Nat, i = (t : Int) := ⟨i.toNat, by omega⟩
      rw [slotOf_in t (by omega) (by omega)]; exact gatB_in d t w H (by omega) (by omega)
theorem gatB_none {d : RD Pro} (i : Int) (w : World) (H : RingB w d) (h : slotOf d i = none) : Calls Try.prog 35 #[.pointer (some ⟨d.g, 0, none⟩), .int .i64 i] w fun e w' => e = .returned (.pointer none) ∧ Keeps Nob w w' := by
  have := gatB_ok d i w H; rwa [h] at this
theorem gatB_some {d : RD Pro} (i : Int) (p : Nat) (w : World) (H : RingB w d) (h : slotOf d i = some p) : Calls Try.prog 35 #[.pointer (some ⟨d.g, 0, none⟩), .int .i64 i] w fun e w' => e = .returned (.pointer (some ⟨p, 0, none⟩)) ∧ Keeps Nob w w' := by
  have := gatB_ok d i w H; rwa [h] at this
noncomputable def part_gputB (n : Nat) : Code := partOf Try.f37 n
noncomputable abbrev o_gputB (n k : Nat) : Oper := (opsAt (part_gputB n)).getD k default
set_option maxRecDepth 100000 in
set_option maxHeartbeats 4000000 in
theorem gputB_low (d : RD Pro) (a : Pro) (w : World) (H : RingB w d) (ha : a.Ok) (hi : a.h < (d.low : Int)) :
    Calls Try.prog 37 #[.pointer (some ⟨d.g, 0, none⟩), .agg (Pro.c a)] w (fun e w' => e = .returned (.int .i64 16) ∧ Keeps Nob w w') := by
  have hn0 := H.n1
  have hn2 := H.n2
  have hl2 := H.l2
  have K0 : Keeps Nob w w := Keeps.refl _ _
  refine sy_enter (part_gputB 1) ⟨#[.pointer (some ⟨d.g, 0, none⟩), .agg (Pro.c a), undef, undef, undef, undef, undef, undef, undef, undef, undef, undef, undef, undef, undef, undef, undef, undef, undef, undef, undef, undef, undef, undef, undef, undef, undef, undef, undef, undef, undef, undef, undef, undef, undef, undef, undef, undef, undef, undef, undef, undef, undef, undef, undef, undef, undef, undef, undef], []⟩ Try.func37 (by kernel_rfl) (by kernel_rfl) ?_
  refine sy_sq (part_gputB 2) (part_gputB 3) ?_
  refine sy_reg ?_
  refine rg_plain 0 (opsAt (part_gputB 2)) [0, 1] (by kernel_rfl) (by kernel_rfl) ?_
  obtain ⟨V1, eV1, p, ep, h2, kV1⟩ := alloc_step w ((Pro.c a)) 35
  have n3 : d.g < p := ep ▸ lt_of_block H.ring
  have n4 : w.heap.size ≤ p := ep ▸ K0.size
  refine ps_r (o_gputB 2 0) (pT p 0) (w' := V1) (by rw [← eV1, ← ep]; exact exec_box 35 (.tmp 1) (by kernel_rfl) (.agg (Pro.c a)) (by kernel_rfl)) ?_
  clear eV1
  have h5 := kV1.bk H.ring
  have K6 := K0.nn kV1
  have z7 := kV1.size
  refine ps_k (o_gputB 2 1) (.int .i64 0) ?_
  refine ps_end ?_
  refine then_n ?_
  refine sy_sq (part_gputB 6) (part_gputB 7) ?_
  refine sy_np ?_
  refine sy_reg ?_
  refine an_begin 1 7 (opsAt (part_gputB 6)) (fun W => (W.heap[d.g]? = some (.cells (#[.func (.func 42) #[] #[], .slice (some ⟨d.s, 0, none⟩) d.n d.cap, .int .i64 ((d.low : Nat) : Int)]) 83 (0, 0))) ∧ (W.heap[p]? = some (.cells (Pro.c a) 35 (0, 0)))) #[false, false, false, false, false, false, false] (by kernel_rfl) (by kernel_rfl) (by kernel_rfl) (by kernel_rfl) ?_
  obtain ⟨V8, eV8, kV8⟩ := drew_step V1
  rw [eV8]
  clear eV8
  have h9 := kV8.bk h5
  have h10 := kV8.bk h2
  have K11 := K6.nn kV8
  have z12 := kV8.size
  refine an_k 0 (o_gputB 6 0) (.pointer (some ⟨d.g, 0, none⟩)) ⟨h9, h10⟩ ?_
  refine an_k 1 (o_gputB 6 1) (.pointer (some ⟨d.g, 0, none⟩)) ⟨h9, h10⟩ ?_
  refine an_k 2 (o_gputB 6 2) (.pointer (some ⟨d.g, 0, none⟩)) ⟨h9, h10⟩ ?_
  refine an_v 3 (o_gputB 6 3) (.func (.func 42) #[] #[]) (fun W hS => exec_load_cell 80 (.tmp 8) (by kernel_rfl) ⟨d.g, 0, none⟩ (by kernel_rfl) _ _ Try.underlying80 rfl (rc (hS.1) (by kernel_rfl))) ⟨h9, h10⟩ ?_
  refine an_v 4 (o_gputB 6 4) (.agg (Pro.c a)) (fun W hS => exec_load_row 35 (.tmp 3) (by kernel_rfl) p (by kernel_rfl) _ _ (0, 0) _ (hS.2) Try.underlying35 rfl (by rw [Pro.c_size _ ha.r]; kernel_rfl)) ⟨h9, h10⟩ ?_
  refine an_o 5 ?_
  refine on_callV (o_gputB 6 5) (.tmp 9) 42 #[] #[] #[.agg (Pro.c a)] (by kernel_rfl) (by kernel_rfl) (by kernel_rfl) (by kernel_rfl) (by kernel_rfl) (enters_of Try.func42 (by kernel_rfl) rfl) ((qidxB_ok a _ ha.r).mono ?_)
  rintro e V13 ⟨rfl, kV13⟩
  refine ⟨_, rfl, ?_⟩
  have h14 := kV13.bk h9
  have h15 := kV13.bk h10
  have K16 := K11.nn kV13
  have z17 := kV13.size
  refine ⟨⟨h14, h15⟩, ?_⟩
  refine an_o 6 ?_
  refine on_r (o_gputB 6 6) (.int .i64 a.h) (w' := V13) (by kernel_rfl) ?_
  refine ⟨⟨h14, h15⟩, ?_⟩
  refine an_end (by kernel_rfl) ?_
  refine then_n ?_
  refine sy_sq (part_gputB 14) (part_gputB 15) ?_
  refine sy_bk 0 (part_gputB 28) ?_
  refine sy_sq (part_gputB 56) (part_gputB 57) ?_
  refine sy_reg ?_
  refine rg_plain 2 (opsAt (part_gputB 56)) [0, 1, 2, 3, 4, 5, 6] (by kernel_rfl) (by kernel_rfl) ?_
  refine ps_k (o_gputB 56 0) (.int .i64 a.h) ?_
  refine ps_k (o_gputB 56 1) (.pointer (some ⟨d.g, 0, none⟩)) ?_
  refine ps_k (o_gputB 56 2) (.pointer (some ⟨d.g, 0, none⟩)) ?_
  refine ps_k (o_gputB 56 3) (.pointer (some ⟨d.g, 2, none⟩)) ?_
  refine ps_p (o_gputB 56 4) (iN d.low) (exec_load_cell 3 (.tmp 16) (by kernel_rfl) ⟨d.g, 2, none⟩ (by kernel_rfl) _ _ Try.underlying3 rfl (rc (h14) (by kernel_rfl))) ?_
  refine ps_p (o_gputB 56 5) (.bool true) (dct (((a.h) : Int) < (((d.low : Nat) : Int))) (by omega)) ?_
  refine ps_k (o_gputB 56 6) (.bool true) ?_
  refine ps_end ?_
  refine then_n ?_
  refine sy_ys (.tmp 12) (part_gputB 114) (part_gputB 115) ?_
  refine sy_sq (part_gputB 228) (part_gputB 229) ?_
  refine sy_reg ?_
  refine rg_plain 3 (opsAt (part_gputB 228)) [0] (by kernel_rfl) (by kernel_rfl) ?_
  refine ps_k (o_gputB 228 0) (.int .i64 16) ?_
  refine ps_end ?_
  refine then_n ?_
  refine sy_ret (by kernel_rfl) ?_
  refine blk_r ?_
  refine then_r ?_
  refine sy_out (.int .i64 16) rfl (by kernel_rfl) ?_
  exact ⟨rfl, K16⟩
set_option maxRecDepth 100000 in
set_option maxHeartbeats 4000000 in
theorem gputB_high (d : RD Pro) (a : Pro) (w : World) (H : RingB w d) (ha : a.Ok) (hi : (d.low : Int) + d.n ≤ a.h) :
    Calls Try.prog 37 #[.pointer (some ⟨d.g, 0, none⟩), .agg (Pro.c a)] w (fun e w' => e = .returned (.int .i64 17) ∧ Keeps Nob w w') := by
  have hn0 := H.n1
  have hn2 := H.n2
  have hl2 := H.l2
  have K0 : Keeps Nob w w := Keeps.refl _ _
  refine sy_enter (part_gputB 1) ⟨#[.pointer (some ⟨d.g, 0, none⟩), .agg (Pro.c a), undef, undef, undef, undef, undef, undef, undef, undef, undef, undef, undef, undef, undef, undef, undef, undef, undef, undef, undef, undef, undef, undef, undef, undef, undef, undef, undef, undef, undef, undef, undef, undef, undef, undef, undef, undef, undef, undef, undef, undef, undef, undef, undef, undef, undef, undef, undef], []⟩ Try.func37 (by kernel_rfl) (by kernel_rfl) ?_
  refine sy_sq (part_gputB 2) (part_gputB 3) ?_
  refine sy_reg ?_
  refine rg_plain 0 (opsAt (part_gputB 2)) [0, 1] (by kernel_rfl) (by kernel_rfl) ?_
  obtain ⟨V18, eV18, p, ep, h19, kV18⟩ := alloc_step w ((Pro.c a)) 35
  have n20 : d.g < p := ep ▸ lt_of_block H.ring
  have n21 : w.heap.size ≤ p := ep ▸ K0.size
  refine ps_r (o_gputB 2 0) (pT p 0) (w' := V18) (by rw [← eV18, ← ep]; exact exec_box 35 (.tmp 1) (by kernel_rfl) (.agg (Pro.c a)) (by kernel_rfl)) ?_
  clear eV18
  have h22 := kV18.bk H.ring
  have K23 := K0.nn kV18
  have z24 := kV18.size
  refine ps_k (o_gputB 2 1) (.int .i64 0) ?_
  refine ps_end ?_
  refine then_n ?_
  refine sy_sq (part_gputB 6) (part_gputB 7) ?_
  refine sy_np ?_
  refine sy_reg ?_
  refine an_begin 1 7 (opsAt (part_gputB 6)) (fun W => (W.heap[d.g]? = some (.cells (#[.func (.func 42) #[] #[], .slice (some ⟨d.s, 0, none⟩) d.n d.cap, .int .i64 ((d.low : Nat) : Int)]) 83 (0, 0))) ∧ (W.heap[p]? = some (.cells (Pro.c a) 35 (0, 0)))) #[false, false, false, false, false, false, false] (by kernel_rfl) (by kernel_rfl) (by kernel_rfl) (by kernel_rfl) ?_
  obtain ⟨V25, eV25, kV25⟩ := drew_step V18
  rw [eV25]
  clear eV25
  have h26 := kV25.bk h22
  have h27 := kV25.bk h19
  have K28 := K23.nn kV25
  have z29 := kV25.size
  refine an_k 0 (o_gputB 6 0) (.pointer (some ⟨d.g, 0, none⟩)) ⟨h26, h27⟩ ?_
  refine an_k 1 (o_gputB 6 1) (.pointer (some ⟨d.g, 0, none⟩)) ⟨h26, h27⟩ ?_
  refine an_k 2 (o_gputB 6 2) (.pointer (some ⟨d.g, 0, none⟩)) ⟨h26, h27⟩ ?_
  refine an_v 3 (o_gputB 6 3) (.func (.func 42) #[] #[]) (fun W hS => exec_load_cell 80 (.tmp 8) (by kernel_rfl) ⟨d.g, 0, none⟩ (by kernel_rfl) _ _ Try.underlying80 rfl (rc (hS.1) (by kernel_rfl))) ⟨h26, h27⟩ ?_
  refine an_v 4 (o_gputB 6 4) (.agg (Pro.c a)) (fun W hS => exec_load_row 35 (.tmp 3) (by kernel_rfl) p (by kernel_rfl) _ _ (0, 0) _ (hS.2) Try.underlying35 rfl (by rw [Pro.c_size _ ha.r]; kernel_rfl)) ⟨h26, h27⟩ ?_
  refine an_o 5 ?_
  refine on_callV (o_gputB 6 5) (.tmp 9) 42 #[] #[] #[.agg (Pro.c a)] (by kernel_rfl) (by kernel_rfl) (by kernel_rfl) (by kernel_rfl) (by kernel_rfl) (enters_of Try.func42 (by kernel_rfl) rfl) ((qidxB_ok a _ ha.r).mono ?_)
  rintro e V30 ⟨rfl, kV30⟩
  refine ⟨_, rfl, ?_⟩
  have h31 := kV30.bk h26
  have h32 := kV30.bk h27
  have K33 := K28.nn kV30
  have z34 := kV30.size
  refine ⟨⟨h31, h32⟩, ?_⟩
  refine an_o 6 ?_
  refine on_r (o_gputB 6 6) (.int .i64 a.h) (w' := V30) (by kernel_rfl) ?_
  refine ⟨⟨h31, h32⟩, ?_⟩
  refine an_end (by kernel_rfl) ?_
  refine then_n ?_
  refine sy_sq (part_gputB 14) (part_gputB 15) ?_
  refine sy_bk 0 (part_gputB 28) ?_
  refine sy_sq (part_gputB 56) (part_gputB 57) ?_
  refine sy_reg ?_
  refine rg_plain 2 (opsAt (part_gputB 56)) [0, 1, 2, 3, 4, 5, 6] (by kernel_rfl) (by kernel_rfl) ?_
  refine ps_k (o_gputB 56 0) (.int .i64 a.h) ?_
  refine ps_k (o_gputB 56 1) (.pointer (some ⟨d.g, 0, none⟩)) ?_
  refine ps_k (o_gputB 56 2) (.pointer (some ⟨d.g, 0, none⟩)) ?_
  refine ps_k (o_gputB 56 3) (.pointer (some ⟨d.g, 2, none⟩)) ?_
  refine ps_p (o_gputB 56 4) (iN d.low) (exec_load_cell 3 (.tmp 16) (by kernel_rfl) ⟨d.g, 2, none⟩ (by kernel_rfl) _ _ Try.underlying3 rfl (rc (h31) (by kernel_rfl))) ?_
  refine ps_p (o_gputB 56 5) (.bool false) (dcf (((a.h) : Int) < (((d.low : Nat) : Int))) (by omega)) ?_
  refine ps_k (o_gputB 56 6) (.bool false) ?_
  refine ps_end ?_
  refine then_n ?_
  refine sy_n (.tmp 12) (part_gputB 114) (part_gputB 115) ?_
  refine sy_sq (part_gputB 230) (part_gputB 231) ?_
  refine sy_np ?_
  refine sy_reg ?_
  refine an_begin 4 13 (opsAt (part_gputB 230)) (fun W => (W.heap[d.g]? = some (.cells (#[.func (.func 42) #[] #[], .slice (some ⟨d.s, 0, none⟩) d.n d.cap, .int .i64 ((d.low : Nat) : Int)]) 83 (0, 0)))) #[false, false, false, false, false, false, false, false, false, false, false, false, false] (by kernel_rfl) (by kernel_rfl) (by kernel_rfl) (by kernel_rfl) ?_
  obtain ⟨V35, eV35, kV35⟩ := drew_step V30
  rw [eV35]
  clear eV35
  have h36 := kV35.bk h31
  have h37 := kV35.bk h32
  have K38 := K33.nn kV35
  have z39 := kV35.size
  refine an_k 0 (o_gputB 230 0) (.int .i64 a.h) h36 ?_
  refine an_k 1 (o_gputB 230 1) (.pointer (some ⟨d.g, 0, none⟩)) h36 ?_
  refine an_k 2 (o_gputB 230 2) (.pointer (some ⟨d.g, 0, none⟩)) h36 ?_
  refine an_k 3 (o_gputB 230 3) (.pointer (some ⟨d.g, 2, none⟩)) h36 ?_
  refine an_v 4 (o_gputB 230 4) (iN d.low) (fun W hS => exec_load_cell 3 (.tmp 23) (by kernel_rfl) ⟨d.g, 2, none⟩ (by kernel_rfl) _ _ Try.underlying3 rfl (rc (hS) (by kernel_rfl))) h36 ?_
  refine an_k 5 (o_gputB 230 5) (.pointer (some ⟨d.g, 0, none⟩)) h36 ?_
  refine an_k 6 (o_gputB 230 6) (.pointer (some ⟨d.g, 0, none⟩)) h36 ?_
  refine an_k 7 (o_gputB 230 7) (.pointer (some ⟨d.g, 1, none⟩)) h36 ?_
  refine an_v 8 (o_gputB 230 8) (.slice (some ⟨d.s, 0, none⟩) d.n d.cap) (fun W hS => exec_load_cell 81 (.tmp 27) (by kernel_rfl) ⟨d.g, 1, none⟩ (by kernel_rfl) _ _ Try.underlying81 rfl (rc (hS) (by kernel_rfl))) h36 ?_
  refine an_v 9 (o_gputB 230 9) (iN d.n) (fun W hS => exec_len (.tmp 28) 81 _ (by kernel_rfl) Try.underlying81 (some ⟨d.s, 0, none⟩) d.n d.cap (by kernel_rfl)) h36 ?_
  refine an_v 10 (o_gputB 230 10) (iN (d.low + d.n)) (fun W hS => exec_cast (congrArg (Value.int .i64) (wrapN (d.low + d.n) (by omega))) (by kernel_rfl)) h36 ?_
  refine an_v 11 (o_gputB 230 11) (.bool true) (fun W hS => dct (((a.h) : Int) ≥ (((d.low + d.n : Nat) : Int))) (by omega)) h36 ?_
  refine an_o 12 ?_
  refine on_r (o_gputB 230 12) (.bool true) (w' := V35) (by kernel_rfl) ?_
  refine ⟨h36, ?_⟩
  refine an_end (by kernel_rfl) ?_
  refine sy_a ⟨#[.pointer (some ⟨d.g, 0, none⟩), .agg (Pro.c a), undef, pT p 0, .int .i64 0, .int .i64 a.h, .pointer (some ⟨d.g, 0, none⟩), .pointer (some ⟨d.g, 0, none⟩), .pointer (some ⟨d.g, 0, none⟩), .func (.func 42) #[] #[], .agg (Pro.c a), .int .i64 a.h, .bool false, .int .i64 a.h, .pointer (some ⟨d.g, 0, none⟩), .pointer (some ⟨d.g, 0, none⟩), .pointer (some ⟨d.g, 2, none⟩), iN d.low, .bool false, .bool true, .int .i64 a.h, .pointer (some ⟨d.g, 0, none⟩), .pointer (some ⟨d.g, 0, none⟩), .pointer (some ⟨d.g, 2, none⟩), iN d.low, .pointer (some ⟨d.g, 0, none⟩), .pointer (some ⟨d.g, 0, none⟩), .pointer (some ⟨d.g, 1, none⟩), .slice (some ⟨d.s, 0, none⟩) d.n d.cap, iN d.n, iN (d.low + d.n), .bool true, undef, undef, undef, undef, undef, undef, undef, undef, undef, undef, undef, undef, undef, undef, undef, undef, undef], []⟩ ?_
  refine then_n ?_
  refine sy_ys (.tmp 19) (part_gputB 462) (part_gputB 463) ?_
  refine sy_sq (part_gputB 924) (part_gputB 925) ?_
  refine sy_reg ?_
  refine rg_plain 5 (opsAt (part_gputB 924)) [0] (by kernel_rfl) (by kernel_rfl) ?_
  refine ps_k (o_gputB 924 0) (.int .i64 17) ?_
  refine ps_end ?_
  refine then_n ?_
  refine sy_ret (by kernel_rfl) ?_
  refine blk_r ?_
  refine then_r ?_
  refine sy_out (.int .i64 17) rfl (by kernel_rfl) ?_
  exact ⟨rfl, K38⟩
set_option maxRecDepth 100000 in
set_option maxHeartbeats 4000000 in
theorem gputB_double (d : RD Pro) (a : Pro) (t q : Nat) (w : World) (H : RingB w d) (ha : a.Ok) (ht : a.h = ((t : Nat) : Int)) (h1 : d.low ≤ t) (h2 : t < d.low + d.n) (hs : slotOf d ((t : Nat) : Int) = some q) :
    Calls Try.prog 37 #[.pointer (some ⟨d.g, 0, none⟩), .agg (Pro.c a)] w (fun e w' => e = .returned (.int .i64 8) ∧ Keeps Nob w w') := by
  have hn0 := H.n1
  have hn2 := H.n2
  have hl2 := H.l2
  have K0 : Keeps Nob w w := Keeps.refl _ _
  refine sy_enter (part_gputB 1) ⟨#[.pointer (some ⟨d.g, 0, none⟩), .agg (Pro.c a), undef, undef, undef, undef, undef, undef, undef, undef, undef, undef, undef, undef, undef, undef, undef, undef, undef, undef, undef, undef, undef, undef, undef, undef, undef, undef, undef, undef, undef, undef, undef, undef, undef, undef, undef, undef, undef, undef, undef, undef, undef, undef, undef, undef, undef, undef, undef], []⟩ Try.func37 (by kernel_rfl) (by kernel_rfl) ?_
  refine sy_sq (part_gputB 2) (part_gputB 3) ?_
  refine sy_reg ?_
  refine rg_plain 0 (opsAt (part_gputB 2)) [0, 1] (by kernel_rfl) (by kernel_rfl) ?_
  obtain ⟨V40, eV40, p, ep, h41, kV40⟩ := alloc_step w ((Pro.c a)) 35
  have n42 : d.g < p := ep ▸ lt_of_block H.ring
  have n43 : w.heap.size ≤ p := ep ▸ K0.size
  refine ps_r (o_gputB 2 0) (pT p 0) (w' := V40) (by rw [← eV40, ← ep]; exact exec_box 35 (.tmp 1) (by kernel_rfl) (.agg (Pro.c a)) (by kernel_rfl)) ?_
  clear eV40
  have h44 := kV40.bk H.ring
  have h45 : RingB V40 d := H.keepsN kV40
  have K46 := K0.nn kV40
  have z47 := kV40.size
  refine ps_k (o_gputB 2 1) (.int .i64 0) ?_
  refine ps_end ?_
  refine then_n ?_
  refine sy_sq (part_gputB 6) (part_gputB 7) ?_
  refine sy_np ?_
  refine sy_reg ?_
  refine an_begin 1 7 (opsAt (part_gputB 6)) (fun W => (W.heap[d.g]? = some (.cells (#[.func (.func 42) #[] #[], .slice (some ⟨d.s, 0, none⟩) d.n d.cap, .int .i64 ((d.low : Nat) : Int)]) 83 (0, 0))) ∧ (W.heap[p]? = some (.cells (Pro.c a) 35 (0, 0)))) #[false, false, false, false, false, false, false] (by kernel_rfl) (by kernel_rfl) (by kernel_rfl) (by kernel_rfl) ?_
  obtain ⟨V48, eV48, kV48⟩ := drew_step V40
  rw [eV48]
  clear eV48
  have h49 := kV48.bk h44
  have h50 : RingB V48 d := h45.keepsN kV48
  have h51 := kV48.bk h41
  have K52 := K46.nn kV48
  have z53 := kV48.size
  refine an_k 0 (o_gputB 6 0) (.pointer (some ⟨d.g, 0, none⟩)) ⟨h49, h51⟩ ?_
  refine an_k 1 (o_gputB 6 1) (.pointer (some ⟨d.g, 0, none⟩)) ⟨h49, h51⟩ ?_
  refine an_k 2 (o_gputB 6 2) (.pointer (some ⟨d.g, 0, none⟩)) ⟨h49, h51⟩ ?_
  refine an_v 3 (o_gputB 6 3) (.func (.func 42) #[] #[]) (fun W hS => exec_load_cell 80 (.tmp 8) (by kernel_rfl) ⟨d.g, 0, none⟩ (by kernel_rfl) _ _ Try.underlying80 rfl (rc (hS.1) (by kernel_rfl))) ⟨h49, h51⟩ ?_
  refine an_v 4 (o_gputB 6 4) (.agg (Pro.c a)) (fun W hS => exec_load_row 35 (.tmp 3) (by kernel_rfl) p (by kernel_rfl) _ _ (0, 0) _ (hS.2) Try.underlying35 rfl (by rw [Pro.c_size _ ha.r]; kernel_rfl)) ⟨h49, h51⟩ ?_
  refine an_o 5 ?_
  refine on_callV (o_gputB 6 5) (.tmp 9) 42 #[] #[] #[.agg (Pro.c a)] (by kernel_rfl) (by kernel_rfl) (by kernel_rfl) (by kernel_rfl) (by kernel_rfl) (enters_of Try.func42 (by kernel_rfl) rfl) ((qidxB_as a t _ ha.r ht).mono ?_)
  rintro e V54 ⟨rfl, kV54⟩
  refine ⟨_, rfl, ?_⟩
  have h55 := kV54.bk h49
  have h56 : RingB V54 d := h50.keepsN kV54
  have h57 := kV54.bk h51
  have K58 := K52.nn kV54
  have z59 := kV54.size
  refine ⟨⟨h55, h57⟩, ?_⟩
  refine an_o 6 ?_
  refine on_r (o_gputB 6 6) (iN t) (w' := V54) (by kernel_rfl) ?_
  refine ⟨⟨h55, h57⟩, ?_⟩
  refine an_end (by kernel_rfl) ?_
  refine then_n ?_
  refine sy_sq (part_gputB 14) (part_gputB 15) ?_
  refine sy_bk 0 (part_gputB 28) ?_
  refine sy_sq (part_gputB 56) (part_gputB 57) ?_
  refine sy_reg ?_
  refine rg_plain 2 (opsAt (part_gputB 56)) [0, 1, 2, 3, 4, 5, 6] (by kernel_rfl) (by kernel_rfl) ?_
  refine ps_k (o_gputB 56 0) (iN t) ?_
  refine ps_k (o_gputB 56 1) (.pointer (some ⟨d.g, 0, none⟩)) ?_
  refine ps_k (o_gputB 56 2) (.pointer (some ⟨d.g, 0, none⟩)) ?_
  refine ps_k (o_gputB 56 3) (.pointer (some ⟨d.g, 2, none⟩)) ?_
  refine ps_p (o_gputB 56 4) (iN d.low) (exec_load_cell 3 (.tmp 16) (by kernel_rfl) ⟨d.g, 2, none⟩ (by kernel_rfl) _ _ Try.underlying3 rfl (rc (h55) (by kernel_rfl))) ?_
  refine ps_p (o_gputB 56 5) (.bool false) (dcf ((((t : Nat) : Int)) < (((d.low : Nat) : Int))) (by omega)) ?_
  refine ps_k (o_gputB 56 6) (.bool false) ?_
  refine ps_end ?_
  refine then_n ?_
  refine sy_n (.tmp 12) (part_gputB 114) (part_gputB 115) ?_
  refine sy_sq (part_gputB 230) (part_gputB 231) ?_
  refine sy_np ?_
  refine sy_reg ?_
  refine an_begin 4 13 (opsAt (part_gputB 230)) (fun W => (W.heap[d.g]? = some (.cells (#[.func (.func 42) #[] #[], .slice (some ⟨d.s, 0, none⟩) d.n d.cap, .int .i64 ((d.low : Nat) : Int)]) 83 (0, 0)))) #[false, false, false, false, false, false, false, false, false, false, false, false, false] (by kernel_rfl) (by kernel_rfl) (by kernel_rfl) (by kernel_rfl) ?_
  obtain ⟨V60, eV60, kV60⟩ := drew_step V54
  rw [eV60]
  clear eV60
  have h61 := kV60.bk h55
  have h62 : RingB V60 d := h56.keepsN kV60
  have h63 := kV60.bk h57
  have K64 := K58.nn kV60
  have z65 := kV60.size
  refine an_k 0 (o_gputB 230 0) (iN t) h61 ?_
  refine an_k 1 (o_gputB 230 1) (.pointer (some ⟨d.g, 0, none⟩)) h61 ?_
  refine an_k 2 (o_gputB 230 2) (.pointer (some ⟨d.g, 0, none⟩)) h61 ?_
  refine an_k 3 (o_gputB 230 3) (.pointer (some ⟨d.g, 2, none⟩)) h61 ?_
  refine an_v 4 (o_gputB 230 4) (iN d.low) (fun W hS => exec_load_cell 3 (.tmp 23) (by kernel_rfl) ⟨d.g, 2, none⟩ (by kernel_rfl) _ _ Try.underlying3 rfl (rc (hS) (by kernel_rfl))) h61 ?_
  refine an_k 5 (o_gputB 230 5) (.pointer (some ⟨d.g, 0, none⟩)) h61 ?_
  refine an_k 6 (o_gputB 230 6) (.pointer (some ⟨d.g, 0, none⟩)) h61 ?_
  refine an_k 7 (o_gputB 230 7) (.pointer (some ⟨d.g, 1, none⟩)) h61 ?_
  refine an_v 8 (o_gputB 230 8) (.slice (some ⟨d.s, 0, none⟩) d.n d.cap) (fun W hS => exec_load_cell 81 (.tmp 27) (by kernel_rfl) ⟨d.g, 1, none⟩ (by kernel_rfl) _ _ Try.underlying81 rfl (rc (hS) (by kernel_rfl))) h61 ?_
  refine an_v 9 (o_gputB 230 9) (iN d.n) (fun W hS => exec_len (.tmp 28) 81 _ (by kernel_rfl) Try.underlying81 (some ⟨d.s, 0, none⟩) d.n d.cap (by kernel_rfl)) h61 ?_
  refine an_v 10 (o_gputB 230 10) (iN (d.low + d.n)) (fun W hS => exec_cast (congrArg (Value.int .i64) (wrapN (d.low + d.n) (by omega))) (by kernel_rfl)) h61 ?_
  refine an_v 11 (o_gputB 230 11) (.bool false) (fun W hS => dcf ((((t : Nat) : Int)) ≥ (((d.low + d.n : Nat) : Int))) (by omega)) h61 ?_
  refine an_o 12 ?_
  refine on_r (o_gputB 230 12) (.bool false) (w' := V60) (by kernel_rfl) ?_
  refine ⟨h61, ?_⟩
  refine an_end (by kernel_rfl) ?_
  refine sy_a ⟨#[.pointer (some ⟨d.g, 0, none⟩), .agg (Pro.c a), undef, pT p 0, .int .i64 0, iN t, .pointer (some ⟨d.g, 0, none⟩), .pointer (some ⟨d.g, 0, none⟩), .pointer (some ⟨d.g, 0, none⟩), .func (.func 42) #[] #[], .agg (Pro.c a), iN t, .bool false, iN t, .pointer (some ⟨d.g, 0, none⟩), .pointer (some ⟨d.g, 0, none⟩), .pointer (some ⟨d.g, 2, none⟩), iN d.low, .bool false, .bool false, iN t, .pointer (some ⟨d.g, 0, none⟩), .pointer (some ⟨d.g, 0, none⟩), .pointer (some ⟨d.g, 2, none⟩), iN d.low, .pointer (some ⟨d.g, 0, none⟩), .pointer (some ⟨d.g, 0, none⟩), .pointer (some ⟨d.g, 1, none⟩), .slice (some ⟨d.s, 0, none⟩) d.n d.cap, iN d.n, iN (d.low + d.n), .bool false, undef, undef, undef, undef, undef, undef, undef, undef, undef, undef, undef, undef, undef, undef, undef, undef, undef], []⟩ ?_
  refine then_n ?_
  refine sy_n (.tmp 19) (part_gputB 462) (part_gputB 463) ?_
  refine sy_sq (part_gputB 926) (part_gputB 927) ?_
  refine sy_reg ?_
  refine rg_plain 6 (opsAt (part_gputB 926)) [0, 1, 2, 3, 4] (by kernel_rfl) (by kernel_rfl) ?_
  refine ps_k (o_gputB 926 0) (.pointer (some ⟨d.g, 0, none⟩)) ?_
  refine ps_k (o_gputB 926 1) (iN t) ?_
  refine ps_c (o_gputB 926 2) 35 #[.pointer (some ⟨d.g, 0, none⟩), iN t] Try.func35 ((gatB_some _ q _ h62 hs).mono ?_)
  rintro e V66 ⟨rfl, kV66⟩
  refine ⟨_, rfl, ?_⟩
  have h67 := kV66.bk h61
  have h68 : RingB V66 d := h62.keepsN kV66
  have h69 := kV66.bk h63
  have K70 := K64.nn kV66
  have z71 := kV66.size
  skip
  refine ps_k (o_gputB 926 3) (.bool true) ?_
  refine ps_k (o_gputB 926 4) (.bool true) ?_
  refine ps_end ?_
  refine then_n ?_
  refine sy_ys (.tmp 32) (part_gputB 1854) (part_gputB 1855) ?_
  refine sy_sq (part_gputB 3708) (part_gputB 3709) ?_
  refine sy_reg ?_
  refine rg_plain 7 (opsAt (part_gputB 3708)) [0] (by kernel_rfl) (by kernel_rfl) ?_
  refine ps_k (o_gputB 3708 0) (.int .i64 8) ?_
  refine ps_end ?_
  refine then_n ?_
  refine sy_ret (by kernel_rfl) ?_
  refine blk_r ?_
  refine then_r ?_
  refine sy_out (.int .i64 8) rfl (by kernel_rfl) ?_
  exact ⟨rfl, K70⟩
set_option maxRecDepth 100000 in
set_option maxHeartbeats 4000000 in
theorem gputB_new (d : RD Pro) (a : Pro) (t : Nat) (w : World) (H : RingB w d) (ha : a.Ok) (ht : a.h = ((t : Nat) : Int)) (h1 : d.low ≤ t) (h2 : t < d.low + d.n) (hs : slotOf d ((t : Nat) : Int) = none) :
    Calls Try.prog 37 #[.pointer (some ⟨d.g, 0, none⟩), .agg (Pro.c a)] w (fun e w' => e = .returned (.int .i64 0) ∧ ∃ p, RingB w' { d with V := upV d.V ((t : Nat) : Int) a, S := upS d.S (t % d.n) (some p) } ∧ Keeps (One d.s) w w') := by
  have hn0 := H.n1
  have hn2 := H.n2
  have hl2 := H.l2
  have hm := Nat.mod_lt t hn0
  have hgs : d.g ≠ d.s := fun e => by have h1 := H.ring; rw [e, H.slots] at h1; simp only [Option.some.injEq, Obj.cells.injEq] at h1; exact absurd h1.2.1 (by decide)
  have K0 : Keeps (One d.s) w w := Keeps.refl _ _
  refine sy_enter (part_gputB 1) ⟨#[.pointer (some ⟨d.g, 0, none⟩), .agg (Pro.c a), undef, undef, undef, undef, undef, undef, undef, undef, undef, undef, undef, undef, undef, undef, undef, undef, undef, undef, undef, undef, undef, undef, undef, undef, undef, undef, undef, undef, undef, undef, undef, undef, undef, undef, undef, undef, undef, undef, undef, undef, undef, undef, undef, undef, undef, undef, undef], []⟩ Try.func37 (by kernel_rfl) (by kernel_rfl) ?_
  refine sy_sq (part_gputB 2) (part_gputB 3) ?_
  refine sy_reg ?_
  refine rg_plain 0 (opsAt (part_gputB 2)) [0, 1] (by kernel_rfl) (by kernel_rfl) ?_
  obtain ⟨V72, eV72, p, ep, h73, kV72⟩ := alloc_step w ((Pro.c a)) 35
  have n74 : d.g < p := ep ▸ lt_of_block H.ring
  have n75 : d.s < p := ep ▸ lt_of_block H.slots
  have n76 : w.heap.size ≤ p := ep ▸ K0.size
  refine ps_r (o_gputB 2 0) (pT p 0) (w' := V72) (by rw [← eV72, ← ep]; exact exec_box 35 (.tmp 1) (by kernel_rfl) (.agg (Pro.c a)) (by kernel_rfl)) ?_
  clear eV72
  have h77 := kV72.bk H.ring
  have h78 := kV72.bk H.slots
  have h79 : RingB V72 d := H.keepsN kV72
  have h80 : ∀ (j : Nat) (cs : Array Value), w.heap[j]? = some (.cells cs 35 (0, 0)) → V72.heap[j]? = some (.cells cs 35 (0, 0)) := fun j cs e => kV72.odd (Odd.nob _) ((fun _ _ e => e) j cs e)
  have K81 := K0.nn kV72
  have z82 := kV72.size
  refine ps_k (o_gputB 2 1) (.int .i64 0) ?_
  refine ps_end ?_
  refine then_n ?_
  refine sy_sq (part_gputB 6) (part_gputB 7) ?_
  refine sy_np ?_
  refine sy_reg ?_
  refine an_begin 1 7 (opsAt (part_gputB 6)) (fun W => (W.heap[d.g]? = some (.cells (#[.func (.func 42) #[] #[], .slice (some ⟨d.s, 0, none⟩) d.n d.cap, .int .i64 ((d.low : Nat) : Int)]) 83 (0, 0))) ∧ (W.heap[p]? = some (.cells (Pro.c a) 35 (0, 0)))) #[false, false, false, false, false, false, false] (by kernel_rfl) (by kernel_rfl) (by kernel_rfl) (by kernel_rfl) ?_
  obtain ⟨V83, eV83, kV83⟩ := drew_step V72
  rw [eV83]
  clear eV83
  have h84 := kV83.bk h77
  have h85 := kV83.bk h78
  have h86 : RingB V83 d := h79.keepsN kV83
  have h87 : ∀ (j : Nat) (cs : Array Value), w.heap[j]? = some (.cells cs 35 (0, 0)) → V83.heap[j]? = some (.cells cs 35 (0, 0)) := fun j cs e => kV83.odd (Odd.nob _) (h80 j cs e)
  have h88 := kV83.bk h73
  have K89 := K81.nn kV83
  have z90 := kV83.size
  refine an_k 0 (o_gputB 6 0) (.pointer (some ⟨d.g, 0, none⟩)) ⟨h84, h88⟩ ?_
  refine an_k 1 (o_gputB 6 1) (.pointer (some ⟨d.g, 0, none⟩)) ⟨h84, h88⟩ ?_
  refine an_k 2 (o_gputB 6 2) (.pointer (some ⟨d.g, 0, none⟩)) ⟨h84, h88⟩ ?_
  refine an_v 3 (o_gputB 6 3) (.func (.func 42) #[] #[]) (fun W hS => exec_load_cell 80 (.tmp 8) (by kernel_rfl) ⟨d.g, 0, none⟩ (by kernel_rfl) _ _ Try.underlying80 rfl (rc (hS.1) (by kernel_rfl))) ⟨h84, h88⟩ ?_
  refine an_v 4 (o_gputB 6 4) (.agg (Pro.c a)) (fun W hS => exec_load_row 35 (.tmp 3) (by kernel_rfl) p (by kernel_rfl) _ _ (0, 0) _ (hS.2) Try.underlying35 rfl (by rw [Pro.c_size _ ha.r]; kernel_rfl)) ⟨h84, h88⟩ ?_
  refine an_o 5 ?_
  refine on_callV (o_gputB 6 5) (.tmp 9) 42 #[] #[] #[.agg (Pro.c a)] (by kernel_rfl) (by kernel_rfl) (by kernel_rfl) (by kernel_rfl) (by kernel_rfl) (enters_of Try.func42 (by kernel_rfl) rfl) ((qidxB_as a t _ ha.r ht).mono ?_)
  rintro e V91 ⟨rfl, kV91⟩
  refine ⟨_, rfl, ?_⟩
  have h92 := kV91.bk h84
  have h93 := kV91.bk h85
  have h94 : RingB V91 d := h86.keepsN kV91
  have h95 : ∀ (j : Nat) (cs : Array Value), w.heap[j]? = some (.cells cs 35 (0, 0)) → V91.heap[j]? = some (.cells cs 35 (0, 0)) := fun j cs e => kV91.odd (Odd.nob _) (h87 j cs e)
  have h96 := kV91.bk h88
  have K97 := K89.nn kV91
  have z98 := kV91.size
  refine ⟨⟨h92, h96⟩, ?_⟩
  refine an_o 6 ?_
  refine on_r (o_gputB 6 6) (iN t) (w' := V91) (by kernel_rfl) ?_
  refine ⟨⟨h92, h96⟩, ?_⟩
  refine an_end (by kernel_rfl) ?_
  refine then_n ?_
  refine sy_sq (part_gputB 14) (part_gputB 15) ?_
  refine sy_bk 0 (part_gputB 28) ?_
  refine sy_sq (part_gputB 56) (part_gputB 57) ?_
  refine sy_reg ?_
  refine rg_plain 2 (opsAt (part_gputB 56)) [0, 1, 2, 3, 4, 5, 6] (by kernel_rfl) (by kernel_rfl) ?_
  refine ps_k (o_gputB 56 0) (iN t) ?_
  refine ps_k (o_gputB 56 1) (.pointer (some ⟨d.g, 0, none⟩)) ?_
  refine ps_k (o_gputB 56 2) (.pointer (some ⟨d.g, 0, none⟩)) ?_
  refine ps_k (o_gputB 56 3) (.pointer (some ⟨d.g, 2, none⟩)) ?_
  refine ps_p (o_gputB 56 4) (iN d.low) (exec_load_cell 3 (.tmp 16) (by kernel_rfl) ⟨d.g, 2, none⟩ (by kernel_rfl) _ _ Try.underlying3 rfl (rc (h92) (by kernel_rfl))) ?_
  refine ps_p (o_gputB 56 5) (.bool false) (dcf ((((t : Nat) : Int)) < (((d.low : Nat) : Int))) (by omega)) ?_
  refine ps_k (o_gputB 56 6) (.bool false) ?_
  refine ps_end ?_
  refine then_n ?_
  refine sy_n (.tmp 12) (part_gputB 114) (part_gputB 115) ?_
  refine sy_sq (part_gputB 230) (part_gputB 231) ?_
  refine sy_np ?_
  refine sy_reg ?_
  refine an_begin 4 13 (opsAt (part_gputB 230)) (fun W => (W.heap[d.g]? = some (.cells (#[.func (.func 42) #[] #[], .slice (some ⟨d.s, 0, none⟩) d.n d.cap, .int .i64 ((d.low : Nat) : Int)]) 83 (0, 0)))) #[false, false, false, false, false, false, false, false, false, false, false, false, false] (by kernel_rfl) (by kernel_rfl) (by kernel_rfl) (by kernel_rfl) ?_
  obtain ⟨V99, eV99, kV99⟩ := drew_step V91
  rw [eV99]
  clear eV99
  have h100 := kV99.bk h92
  have h101 := kV99.bk h93
  have h102 : RingB V99 d := h94.keepsN kV99
  have h103 : ∀ (j : Nat) (cs : Array Value), w.heap[j]? = some (.cells cs 35 (0, 0)) → V99.heap[j]? = some (.cells cs 35 (0, 0)) := fun j cs e => kV99.odd (Odd.nob _) (h95 j cs e)
  have h104 := kV99.bk h96
  have K105 := K97.nn kV99
  have z106 := kV99.size
  refine an_k 0 (o_gputB 230 0) (iN t) h100 ?_
  refine an_k 1 (o_gputB 230 1) (.pointer (some ⟨d.g, 0, none⟩)) h100 ?_
  refine an_k 2 (o_gputB 230 2) (.pointer (some ⟨d.g, 0, none⟩)) h100 ?_
  refine an_k 3 (o_gputB 230 3) (.pointer (some ⟨d.g, 2, none⟩)) h100 ?_
  refine an_v 4 (o_gputB 230 4) (iN d.low) (fun W hS => exec_load_cell 3 (.tmp 23) (by kernel_rfl) ⟨d.g, 2, none⟩ (by kernel_rfl) _ _ Try.underlying3 rfl (rc (hS) (by kernel_rfl))) h100 ?_
  refine an_k 5 (o_gputB 230 5) (.pointer (some ⟨d.g, 0, none⟩)) h100 ?_
  refine an_k 6 (o_gputB 230 6) (.pointer (some ⟨d.g, 0, none⟩)) h100 ?_
  refine an_k 7 (o_gputB 230 7) (.pointer (some ⟨d.g, 1, none⟩)) h100 ?_
  refine an_v 8 (o_gputB 230 8) (.slice (some ⟨d.s, 0, none⟩) d.n d.cap) (fun W hS => exec_load_cell 81 (.tmp 27) (by kernel_rfl) ⟨d.g, 1, none⟩ (by kernel_rfl) _ _ Try.underlying81 rfl (rc (hS) (by kernel_rfl))) h100 ?_
  refine an_v 9 (o_gputB 230 9) (iN d.n) (fun W hS => exec_len (.tmp 28) 81 _ (by kernel_rfl) Try.underlying81 (some ⟨d.s, 0, none⟩) d.n d.cap (by kernel_rfl)) h100 ?_
  refine an_v 10 (o_gputB 230 10) (iN (d.low + d.n)) (fun W hS => exec_cast (congrArg (Value.int .i64) (wrapN (d.low + d.n) (by omega))) (by kernel_rfl)) h100 ?_
  refine an_v 11 (o_gputB 230 11) (.bool false) (fun W hS => dcf ((((t : Nat) : Int)) ≥ (((d.low + d.n : Nat) : Int))) (by omega)) h100 ?_
  refine an_o 12 ?_
  refine on_r (o_gputB 230 12) (.bool false) (w' := V99) (by kernel_rfl) ?_
  refine ⟨h100, ?_⟩
  refine an_end (by kernel_rfl) ?_
  refine sy_a ⟨#[.pointer (some ⟨d.g, 0, none⟩), .agg (Pro.c a), undef, pT p 0, .int .i64 0, iN t, .pointer (some ⟨d.g, 0, none⟩), .pointer (some ⟨d.g, 0, none⟩), .pointer (some ⟨d.g, 0, none⟩), .func (.func 42) #[] #[], .agg (Pro.c a), iN t, .bool false, iN t, .pointer (some ⟨d.g, 0, none⟩), .pointer (some ⟨d.g, 0, none⟩), .pointer (some ⟨d.g, 2, none⟩), iN d.low, .bool false, .bool false, iN t, .pointer (some ⟨d.g, 0, none⟩), .pointer (some ⟨d.g, 0, none⟩), .pointer (some ⟨d.g, 2, none⟩), iN d.low, .pointer (some ⟨d.g, 0, none⟩), .pointer (some ⟨d.g, 0, none⟩), .pointer (some ⟨d.g, 1, none⟩), .slice (some ⟨d.s, 0, none⟩) d.n d.cap, iN d.n, iN (d.low + d.n), .bool false, undef, undef, undef, undef, undef, undef, undef, undef, undef, undef, undef, undef, undef, undef, undef, undef, undef], []⟩ ?_
  refine then_n ?_
  refine sy_n (.tmp 19) (part_gputB 462) (part_gputB 463) ?_
  refine sy_sq (part_gputB 926) (part_gputB 927) ?_
  refine sy_reg ?_
  refine rg_plain 6 (opsAt (part_gputB 926)) [0, 1, 2, 3, 4] (by kernel_rfl) (by kernel_rfl) ?_
  refine ps_k (o_gputB 926 0) (.pointer (some ⟨d.g, 0, none⟩)) ?_
  refine ps_k (o_gputB 926 1) (iN t) ?_
  refine ps_c (o_gputB 926 2) 35 #[.pointer (some ⟨d.g, 0, none⟩), iN t] Try.func35 ((gatB_none _ _ h102 hs).mono ?_)
  rintro e V107 ⟨rfl, kV107⟩
  refine ⟨_, rfl, ?_⟩
  have h108 := kV107.bk h100
  have h109 := kV107.bk h101
  have h110 : RingB V107 d := h102.keepsN kV107
  have h111 : ∀ (j : Nat) (cs : Array Value), w.heap[j]? = some (.cells cs 35 (0, 0)) → V107.heap[j]? = some (.cells cs 35 (0, 0)) := fun j cs e => kV107.odd (Odd.nob _) (h103 j cs e)
  have h112 := kV107.bk h104
  have K113 := K105.nn kV107
  have z114 := kV107.size
  skip
  refine ps_k (o_gputB 926 3) (.bool false) ?_
  refine ps_k (o_gputB 926 4) (.bool false) ?_
  refine ps_end ?_
  refine then_n ?_
  refine sy_n (.tmp 32) (part_gputB 1854) (part_gputB 1855) ?_
  refine sy_sk ?_
  refine blk_n ?_
  refine then_n ?_
  refine sy_sq (part_gputB 30) (part_gputB 31) ?_
  refine sy_reg ?_
  refine rg_still 8 12 (opsAt (part_gputB 30)) [o_gputB 30 0, o_gputB 30 1, o_gputB 30 2, o_gputB 30 3, o_gputB 30 4, o_gputB 30 5, o_gputB 30 6, o_gputB 30 7, o_gputB 30 8, o_gputB 30 9, o_gputB 30 10, o_gputB 30 11] [o_gputB 30 12] (by kernel_rfl) (by kernel_rfl) (by kernel_rfl) (by kernel_rfl) (by kernel_rfl) ?_
  obtain ⟨V116, eV116, kV116⟩ := drew_step V107
  rw [eV116]
  clear eV116
  have h117 := kV116.bk h108
  have h118 := kV116.bk h109
  have h119 : RingB V116 d := h110.keepsN kV116
  have h120 : ∀ (j : Nat) (cs : Array Value), w.heap[j]? = some (.cells cs 35 (0, 0)) → V116.heap[j]? = some (.cells cs 35 (0, 0)) := fun j cs e => kV116.odd (Odd.nob _) (h111 j cs e)
  have h121 := kV116.bk h112
  have K122 := K113.nn kV116
  have z123 := kV116.size
  refine st_k (o_gputB 30 0) (.pointer (some ⟨d.g, 0, none⟩)) ?_
  refine st_k (o_gputB 30 1) (.pointer (some ⟨d.g, 0, none⟩)) ?_
  refine st_k (o_gputB 30 2) (.pointer (some ⟨d.g, 1, none⟩)) ?_
  refine st_p (o_gputB 30 3) (.slice (some ⟨d.s, 0, none⟩) d.n d.cap) (exec_load_cell 81 (.tmp 39) (by kernel_rfl) ⟨d.g, 1, none⟩ (by kernel_rfl) _ _ Try.underlying81 rfl (rc (h117) (by kernel_rfl))) ?_
  refine st_k (o_gputB 30 4) (iN t) ?_
  refine st_k (o_gputB 30 5) (.pointer (some ⟨d.g, 0, none⟩)) ?_
  refine st_k (o_gputB 30 6) (.pointer (some ⟨d.g, 0, none⟩)) ?_
  refine st_k (o_gputB 30 7) (.pointer (some ⟨d.g, 1, none⟩)) ?_
  refine st_p (o_gputB 30 8) (.slice (some ⟨d.s, 0, none⟩) d.n d.cap) (exec_load_cell 81 (.tmp 44) (by kernel_rfl) ⟨d.g, 1, none⟩ (by kernel_rfl) _ _ Try.underlying81 rfl (rc (h117) (by kernel_rfl))) ?_
  refine st_p (o_gputB 30 9) (iN d.n) (exec_len (.tmp 45) 81 _ (by kernel_rfl) Try.underlying81 (some ⟨d.s, 0, none⟩) d.n d.cap (by kernel_rfl)) ?_
  refine st_p (o_gputB 30 10) (iN (t % d.n)) (exec_rem 3 3 (.tmp 41) (.tmp 46) (by kernel_rfl) t d.n (by kernel_rfl) (by kernel_rfl) hn0) ?_
  refine st_p (o_gputB 30 11) (.pointer (some ⟨d.s, t % d.n, none⟩)) (exec_cast (v := .pointer (some ⟨d.s, 0 + (t % d.n) * 1, none⟩)) (by simp) (exec_indexAt_slice 81 (.tmp 40) (.tmp 47) (by kernel_rfl) d.s 0 d.n d.cap (by kernel_rfl) .i64 (t % d.n) (by kernel_rfl) _ 1 Try.underlying81 (by kernel_rfl) (by omega))) ?_
  refine st_end ?_
  obtain ⟨V124, eV124, kV124⟩ := cell_step V116 d.s (t % d.n) (.pointer (some ⟨p, 0, none⟩))
  have h125 : V124.heap[d.s]? = some (.cells (Slots d.n (upS d.S (t % d.n) (some p)) d.rest) 74 (0, 0)) := eV124 ▸ ((heap_setCell_same _ d.s (t % d.n) _ _ (.pointer (some ⟨p, 0, none⟩)) h118).trans (congrArg (fun c => some (Obj.cells c 74 (0, 0))) (show (Slots d.n d.S d.rest : Array Value).setIfInBounds (t % d.n) (.pointer (some ⟨p, 0, none⟩)) = Slots d.n (upS d.S (t % d.n) (some p)) d.rest from Slots.set' (Nat.mod_lt _ hn0) (some p) rfl)))
  refine ls_skip (o_gputB 30 12) (w' := V124) (by kernel_rfl) (by rw [← eV124]; exact exec_store_cell 74 (.tmp 48) (.tmp 3) (by kernel_rfl) d.s (t % d.n) (by kernel_rfl) (.pointer (some ⟨p, 0, none⟩)) (by kernel_rfl) (by kernel_rfl) (by kernel_rfl) (ptrV (d.S (t % d.n))) (rc (h118) ((Slots.get (Nat.mod_lt _ hn0)).trans (congrArg some (rfl)))) (frozen_of_row _ _ _ _ _ h118) (by kernel_rfl)) ?_
  clear eV124
  have h126 := kV124.bo h117 (by omega)
  have h127 : ∀ (j : Nat) (cs : Array Value), w.heap[j]? = some (.cells cs 35 (0, 0)) → V124.heap[j]? = some (.cells cs 35 (0, 0)) := fun j cs e => kV124.odd (Odd.one h118 (by decide)) (h120 j cs e)
  have h128 := kV124.bo h121 (by omega)
  have K129 : Keeps (One d.s) w V124 := K122.then kV124 (fun i hi hm => by unfold Own.One at hm; subst hm; exact rfl)
  have z130 := kV124.size
  refine ls_end ?_
  refine then_n ?_
  refine sy_sq (part_gputB 62) (part_gputB 63) ?_
  refine sy_reg ?_
  refine rg_plain 9 (opsAt (part_gputB 62)) [0] (by kernel_rfl) (by kernel_rfl) ?_
  refine ps_k (o_gputB 62 0) (.int .i64 0) ?_
  refine ps_end ?_
  refine then_n ?_
  refine sy_ret (by kernel_rfl) ?_
  refine sy_out (.int .i64 0) rfl (by kernel_rfl) ?_
  exact ⟨rfl, _, Ring.put H t a h1 h2 ht ha p h128 h126 h127 h125, K129⟩
/-- Which error a put has. -/
def gputBErr (d : RD Pro) (i : Int) : Int := if i < (d.low : Int) then 16 else if (d.low : Int) + d.n ≤ i then 17 else if (d.V i).isSome then 8 else 0
theorem gputB_ok (d : RD Pro) (a : Pro) (w : World) (H : RingB w d) (ha : a.Ok) : Calls Try.prog 37 #[.pointer (some ⟨d.g, 0, none⟩), .agg (Pro.c a)] w fun e w' => e = .returned (.int .i64 (gputBErr d a.h)) ∧
    (gputBErr d a.h ≠ 0 → RingB w' d) ∧ (gputBErr d a.h = 0 → ∃ S', RingB w' { d with V := upV d.V a.h a, S := S' }) ∧ Keeps (One d.s) w w' := by
  have nob : ∀ {w' : World}, Keeps Nob w w' → Keeps (One d.s) w w' := fun k => k.mono (fun _ _ x => x.elim)
  unfold gputBErr
  by_cases h1 : a.h < (d.low : Int)
  · rw [if_pos h1]; exact (gputB_low d a w H ha h1).mono fun e w' ⟨he, k⟩ => ⟨he, fun _ => H.keepsN k, fun h => by omega, nob k⟩
  · rw [if_neg h1]
    by_cases h2 : (d.low : Int) + d.n ≤ a.h
    · rw [if_pos h2]; exact (gputB_high d a w H ha h2).mono fun e w' ⟨he, k⟩ => ⟨he, fun _ => H.keepsN k, fun h => by omega, nob k⟩
    · rw [if_neg h2]
      obtain ⟨t, ht⟩ : ∃ t : Nat, a.h = (t : Int) := ⟨(a.h).toNat, by omega⟩
      rw [ht]
      rcases H.none_or ((t : Nat) : Int) with ⟨hv, hs⟩ | ⟨b, q, hv, hs, _⟩
      · rw [hv]; exact (gputB_new d a t w H ha ht (by omega) (by omega) hs).mono fun e w' ⟨he, p, hr, k⟩ => ⟨he, fun h => absurd rfl h, fun _ => ⟨_, hr⟩, k⟩
      · rw [hv]; exact (gputB_double d a t q w H ha ht (by omega) (by omega) hs).mono fun e w' ⟨he, k⟩ => ⟨he, fun _ => H.keepsN k, fun h => (by cases h), nob k⟩
noncomputable def part_gmoveB (n : Nat) : Code := partOf Try.f39 n
noncomputable abbrev o_gmoveB (n k : Nat) : Oper := (opsAt (part_gmoveB n)).getD k default
set_option maxRecDepth 100000 in
set_option maxHeartbeats 4000000 in
theorem gmoveB_far (d : RD Pro) (l : Nat) (w : World) (H : RingB w d) (hl : d.low + d.n ≤ l) (hl3 : l ≤ 4294967296) :
    Calls Try.prog 39 #[.pointer (some ⟨d.g, 0, none⟩), .int .i64 ((l : Nat) : Int)] w (fun e w' => e = .returned (.tuple #[]) ∧ RingB w' { d with low := l, V := mvV d.V ((l : Nat) : Int), S := fun _ => none } ∧ Keeps (fun j => j = d.g ∨ j = d.s) w w') := by
  have hn0 := H.n1
  have hn2 := H.n2
  have hl2 := H.l2
  have hgs : d.g ≠ d.s := fun e => by have h1 := H.ring; rw [e, H.slots] at h1; simp only [Option.some.injEq, Obj.cells.injEq] at h1; exact absurd h1.2.1 (by decide)
  have K0 : Keeps ((fun j => j = d.g ∨ j = d.s)) w w := Keeps.refl _ _
  refine sy_enter (part_gmoveB 1) ⟨#[.pointer (some ⟨d.g, 0, none⟩), iN l, undef, undef, undef, undef, undef, undef, undef, undef, undef, undef, undef, undef, undef, undef, undef, undef, undef, undef, undef, undef, undef, undef, undef, undef, undef, undef, undef, undef, undef, undef, undef, undef, undef, undef, undef, undef, undef, undef, undef, undef, undef, undef, undef, undef, undef, undef, undef, undef, undef, undef, undef, undef, undef, undef, undef, undef, undef, undef, undef, undef, undef, undef, undef, undef], []⟩ Try.func39 (by kernel_rfl) (by kernel_rfl) ?_
  refine sy_sq (part_gmoveB 2) (part_gmoveB 3) ?_
  refine sy_sq (part_gmoveB 4) (part_gmoveB 5) ?_
  refine sy_np ?_
  refine sy_reg ?_
  refine an_begin 0 12 (opsAt (part_gmoveB 4)) (fun W => (W.heap[d.g]? = some (.cells (#[.func (.func 42) #[] #[], .slice (some ⟨d.s, 0, none⟩) d.n d.cap, .int .i64 ((d.low : Nat) : Int)]) 83 (0, 0)))) #[false, false, false, false, false, false, false, false, false, false, false, false] (by kernel_rfl) (by kernel_rfl) (by kernel_rfl) (by kernel_rfl) ?_
  obtain ⟨V1, eV1, kV1⟩ := drew_step w
  rw [eV1]
  clear eV1
  have h2 := kV1.bk H.ring
  have h3 := kV1.bk H.slots
  have K4 := K0.nn kV1
  have z5 := kV1.size
  refine an_k 0 (o_gmoveB 4 0) (iN l) h2 ?_
  refine an_k 1 (o_gmoveB 4 1) (.pointer (some ⟨d.g, 0, none⟩)) h2 ?_
  refine an_k 2 (o_gmoveB 4 2) (.pointer (some ⟨d.g, 0, none⟩)) h2 ?_
  refine an_k 3 (o_gmoveB 4 3) (.pointer (some ⟨d.g, 2, none⟩)) h2 ?_
  refine an_v 4 (o_gmoveB 4 4) (iN d.low) (fun W hS => exec_load_cell 3 (.tmp 7) (by kernel_rfl) ⟨d.g, 2, none⟩ (by kernel_rfl) _ _ Try.underlying3 rfl (rc (hS) (by kernel_rfl))) h2 ?_
  refine an_v 5 (o_gmoveB 4 5) (iN (l - d.low)) (fun W hS => exec_cast (congrArg (Value.int .i64) (wrapI (((l : Nat) : Int) - ((d.low : Nat) : Int)) _ (by omega) (by omega) (by omega))) (by kernel_rfl)) h2 ?_
  refine an_k 6 (o_gmoveB 4 6) (.pointer (some ⟨d.g, 0, none⟩)) h2 ?_
  refine an_k 7 (o_gmoveB 4 7) (.pointer (some ⟨d.g, 0, none⟩)) h2 ?_
  refine an_k 8 (o_gmoveB 4 8) (.pointer (some ⟨d.g, 1, none⟩)) h2 ?_
  refine an_v 9 (o_gmoveB 4 9) (.slice (some ⟨d.s, 0, none⟩) d.n d.cap) (fun W hS => exec_load_cell 81 (.tmp 12) (by kernel_rfl) ⟨d.g, 1, none⟩ (by kernel_rfl) _ _ Try.underlying81 rfl (rc (hS) (by kernel_rfl))) h2 ?_
  refine an_v 10 (o_gmoveB 4 10) (iN d.n) (fun W hS => exec_len (.tmp 13) 81 _ (by kernel_rfl) Try.underlying81 (some ⟨d.s, 0, none⟩) d.n d.cap (by kernel_rfl)) h2 ?_
  refine an_v 11 (o_gmoveB 4 11) (.bool true) (fun W hS => dct ((((l - d.low : Nat) : Int)) ≥ (((d.n : Nat) : Int))) (by omega)) h2 ?_
  refine an_end (by kernel_rfl) ?_
  refine then_n ?_
  refine sy_ys (.tmp 15) (part_gmoveB 10) (part_gmoveB 11) ?_
  refine sy_reg ?_
  refine rg_plain 1 (opsAt (part_gmoveB 10)) [0, 1, 2, 3, 4] (by kernel_rfl) (by kernel_rfl) ?_
  refine ps_k (o_gmoveB 10 0) (.pointer (some ⟨d.g, 0, none⟩)) ?_
  refine ps_k (o_gmoveB 10 1) (.pointer (some ⟨d.g, 0, none⟩)) ?_
  refine ps_k (o_gmoveB 10 2) (.pointer (some ⟨d.g, 1, none⟩)) ?_
  refine ps_p (o_gmoveB 10 3) (.slice (some ⟨d.s, 0, none⟩) d.n d.cap) (exec_load_cell 81 (.tmp 18) (by kernel_rfl) ⟨d.g, 1, none⟩ (by kernel_rfl) _ _ Try.underlying81 rfl (rc (h2) (by kernel_rfl))) ?_
  obtain ⟨V6, eV6⟩ : ∃ V, V1.setCells d.s 0 (List.replicate d.n (.pointer none)) = V := ⟨_, rfl⟩
  have kV6 : Keeps (One d.s) V1 V6 := eV6 ▸ Keeps.setCells _ _ _ _
  have h7 : V6.heap[d.s]? = some (.cells (Slots d.n (fun _ => none) d.rest) 74 (0, 0)) := eV6 ▸ (heap_setCells d.s _ _ 0 _ _ h3 (by rw [Slots.size, List.length_replicate]; omega)).trans (congrArg (fun c => some (Obj.cells c 74 (0, 0))) Slots.clear)
  refine ps_r (o_gmoveB 10 4) (.tuple #[]) (w' := V6) (by rw [← eV6]; exact exec_clear (.tmp 19) 81 74 (by kernel_rfl) (.pointer none) Try.underlying81 (fun _ => by kernel_rfl) rfl rfl d.s d.n d.cap (by kernel_rfl) hn0 _ _ h3 (by rw [Slots.size]; omega)) ?_
  clear eV6
  have h8 := kV6.bo h2 (by omega)
  have K9 : Keeps ((fun j => j = d.g ∨ j = d.s)) w V6 := K4.then kV6 (fun i hi hm => by unfold Own.One at hm; subst hm; exact .inr rfl)
  have z10 := kV6.size
  refine ps_end ?_
  refine then_n ?_
  refine sy_sq (part_gmoveB 6) (part_gmoveB 7) ?_
  refine sy_bk 0 (part_gmoveB 12) ?_
  refine sy_rounds 1 (part_gmoveB 24) (by kernel_rfl) ?_
  refine rd_step ?_
  refine sy_sq (part_gmoveB 48) (part_gmoveB 49) ?_
  refine sy_sq (part_gmoveB 96) (part_gmoveB 97) ?_
  refine sy_np ?_
  refine sy_reg ?_
  refine an_begin 2 20 (opsAt (part_gmoveB 96)) (fun W => (W.heap[d.g]? = some (.cells (#[.func (.func 42) #[] #[], .slice (some ⟨d.s, 0, none⟩) d.n d.cap, .int .i64 ((d.low : Nat) : Int)]) 83 (0, 0)))) #[false, false, false, false, false, false, false, false, false, false, false, false, false, false, false, false, false, false, false, false] (by kernel_rfl) (by kernel_rfl) (by kernel_rfl) (by kernel_rfl) ?_
  obtain ⟨V11, eV11, kV11⟩ := drew_step V6
  rw [eV11]
  clear eV11
  have h12 := kV11.bk h8
  have h13 := kV11.bk h7
  have K14 := K9.nn kV11
  have z15 := kV11.size
  refine an_k 0 (o_gmoveB 96 0) (.pointer (some ⟨d.g, 0, none⟩)) h12 ?_
  refine an_k 1 (o_gmoveB 96 1) (.pointer (some ⟨d.g, 0, none⟩)) h12 ?_
  refine an_k 2 (o_gmoveB 96 2) (.pointer (some ⟨d.g, 2, none⟩)) h12 ?_
  refine an_v 3 (o_gmoveB 96 3) (iN d.low) (fun W hS => exec_load_cell 3 (.tmp 22) (by kernel_rfl) ⟨d.g, 2, none⟩ (by kernel_rfl) _ _ Try.underlying3 rfl (rc (hS) (by kernel_rfl))) h12 ?_
  refine an_k 4 (o_gmoveB 96 4) (iN l) h12 ?_
  refine an_v 5 (o_gmoveB 96 5) (.bool true) (fun W hS => dct ((((d.low : Nat) : Int)) < (((l : Nat) : Int))) (by omega)) h12 ?_
  refine an_k 6 (o_gmoveB 96 6) (.bool true) h12 ?_
  refine an_k 7 (o_gmoveB 96 7) (iN l) h12 ?_
  refine an_k 8 (o_gmoveB 96 8) (.pointer (some ⟨d.g, 0, none⟩)) h12 ?_
  refine an_k 9 (o_gmoveB 96 9) (.pointer (some ⟨d.g, 0, none⟩)) h12 ?_
  refine an_k 10 (o_gmoveB 96 10) (.pointer (some ⟨d.g, 2, none⟩)) h12 ?_
  refine an_v 11 (o_gmoveB 96 11) (iN d.low) (fun W hS => exec_load_cell 3 (.tmp 30) (by kernel_rfl) ⟨d.g, 2, none⟩ (by kernel_rfl) _ _ Try.underlying3 rfl (rc (hS) (by kernel_rfl))) h12 ?_
  refine an_v 12 (o_gmoveB 96 12) (iN (l - d.low)) (fun W hS => exec_cast (congrArg (Value.int .i64) (wrapI (((l : Nat) : Int) - ((d.low : Nat) : Int)) _ (by omega) (by omega) (by omega))) (by kernel_rfl)) h12 ?_
  refine an_k 13 (o_gmoveB 96 13) (.pointer (some ⟨d.g, 0, none⟩)) h12 ?_
  refine an_k 14 (o_gmoveB 96 14) (.pointer (some ⟨d.g, 0, none⟩)) h12 ?_
  refine an_k 15 (o_gmoveB 96 15) (.pointer (some ⟨d.g, 1, none⟩)) h12 ?_
  refine an_v 16 (o_gmoveB 96 16) (.slice (some ⟨d.s, 0, none⟩) d.n d.cap) (fun W hS => exec_load_cell 81 (.tmp 35) (by kernel_rfl) ⟨d.g, 1, none⟩ (by kernel_rfl) _ _ Try.underlying81 rfl (rc (hS) (by kernel_rfl))) h12 ?_
  refine an_v 17 (o_gmoveB 96 17) (iN d.n) (fun W hS => exec_len (.tmp 36) 81 _ (by kernel_rfl) Try.underlying81 (some ⟨d.s, 0, none⟩) d.n d.cap (by kernel_rfl)) h12 ?_
  refine an_v 18 (o_gmoveB 96 18) (.bool false) (fun W hS => dcf ((((l - d.low : Nat) : Int)) < (((d.n : Nat) : Int))) (by omega)) h12 ?_
  refine an_k 19 (o_gmoveB 96 19) (.bool false) h12 ?_
  refine an_end (by kernel_rfl) ?_
  refine sy_a ⟨#[.pointer (some ⟨d.g, 0, none⟩), iN l, undef, undef, iN l, .pointer (some ⟨d.g, 0, none⟩), .pointer (some ⟨d.g, 0, none⟩), .pointer (some ⟨d.g, 2, none⟩), iN d.low, iN (l - d.low), .pointer (some ⟨d.g, 0, none⟩), .pointer (some ⟨d.g, 0, none⟩), .pointer (some ⟨d.g, 1, none⟩), .slice (some ⟨d.s, 0, none⟩) d.n d.cap, iN d.n, .bool true, .pointer (some ⟨d.g, 0, none⟩), .pointer (some ⟨d.g, 0, none⟩), .pointer (some ⟨d.g, 1, none⟩), .slice (some ⟨d.s, 0, none⟩) d.n d.cap, .pointer (some ⟨d.g, 0, none⟩), .pointer (some ⟨d.g, 0, none⟩), .pointer (some ⟨d.g, 2, none⟩), iN d.low, iN l, .bool true, .bool true, iN l, .pointer (some ⟨d.g, 0, none⟩), .pointer (some ⟨d.g, 0, none⟩), .pointer (some ⟨d.g, 2, none⟩), iN d.low, iN (l - d.low), .pointer (some ⟨d.g, 0, none⟩), .pointer (some ⟨d.g, 0, none⟩), .pointer (some ⟨d.g, 1, none⟩), .slice (some ⟨d.s, 0, none⟩) d.n d.cap, iN d.n, .bool false, .bool false, undef, undef, undef, undef, undef, undef, undef, undef, undef, undef, undef, undef, undef, undef, undef, undef, undef, undef, undef, undef, undef, undef, undef, undef, undef, undef], []⟩ ?_
  refine then_n ?_
  refine sy_n (.tmp 39) (part_gmoveB 194) (part_gmoveB 195) ?_
  refine sy_exit 0 (by kernel_rfl) ?_
  refine then_e ?_
  refine then_e ?_
  refine blk_e ?_
  refine then_n ?_
  refine sy_reg ?_
  refine rg_plain 5 (opsAt (part_gmoveB 7)) [0, 1, 2, 3, 4] (by kernel_rfl) (by kernel_rfl) ?_
  refine ps_k (o_gmoveB 7 0) (.pointer (some ⟨d.g, 0, none⟩)) ?_
  refine ps_k (o_gmoveB 7 1) (iN l) ?_
  refine ps_k (o_gmoveB 7 2) (.pointer (some ⟨d.g, 0, none⟩)) ?_
  refine ps_k (o_gmoveB 7 3) (.pointer (some ⟨d.g, 2, none⟩)) ?_
  obtain ⟨V16, eV16, kV16⟩ := cell_step V11 d.g 2 (.int .i64 ((l : Nat) : Int))
  have h17 : V16.heap[d.g]? = some (.cells (#[.func (.func 42) #[] #[], .slice (some ⟨d.s, 0, none⟩) d.n d.cap, .int .i64 ((l : Nat) : Int)]) 83 (0, 0)) := eV16 ▸ ((heap_setCell_same _ d.g 2 _ _ (.int .i64 ((l : Nat) : Int)) h12).trans (congrArg (fun c => some (Obj.cells c 83 (0, 0))) (show (#[.func (.func 42) #[] #[], .slice (some ⟨d.s, 0, none⟩) d.n d.cap, .int .i64 ((d.low : Nat) : Int)] : Array Value).setIfInBounds 2 (.int .i64 ((l : Nat) : Int)) = #[.func (.func 42) #[] #[], .slice (some ⟨d.s, 0, none⟩) d.n d.cap, .int .i64 ((l : Nat) : Int)] from by kernel_rfl)))
  refine ps_s (o_gmoveB 7 4) (w' := V16) (by rw [← eV16]; exact exec_store_cell 3 (.tmp 65) (.tmp 63) (by kernel_rfl) d.g 2 (by kernel_rfl) (iN l) (by kernel_rfl) (by kernel_rfl) (by kernel_rfl) (iN d.low) (rc (h12) (by kernel_rfl)) (frozen_of_row _ _ _ _ _ h12) (by kernel_rfl)) ?_
  clear eV16
  have h18 := kV16.bo h13 (by omega)
  have K19 : Keeps ((fun j => j = d.g ∨ j = d.s)) w V16 := K14.then kV16 (fun i hi hm => by unfold Own.One at hm; subst hm; exact .inl rfl)
  have z20 := kV16.size
  refine ps_end ?_
  refine sy_fall (.tuple #[]) rfl (by kernel_rfl) ?_
  exact ⟨rfl, Ring.cleared H l hl hl3 h17 h18, K19⟩
set_option maxRecDepth 100000 in
set_option maxHeartbeats 4000000 in
theorem gmoveB_near (d : RD Pro) (l : Nat) (w : World) (H : RingB w d) (hl0 : d.low ≤ l) (hl : l < d.low + d.n) (hl3 : l ≤ 4294967296) :
    Calls Try.prog 39 #[.pointer (some ⟨d.g, 0, none⟩), .int .i64 ((l : Nat) : Int)] w (fun e w' => e = .returned (.tuple #[]) ∧ ∃ S', RingB w' { d with low := l, V := mvV d.V ((l : Nat) : Int), S := S' } ∧ Keeps (fun j => j = d.g ∨ j = d.s) w w') := by
  have hn0 := H.n1
  have hn2 := H.n2
  have hl2 := H.l2
  have hgs : d.g ≠ d.s := fun e => by have h1 := H.ring; rw [e, H.slots] at h1; simp only [Option.some.injEq, Obj.cells.injEq] at h1; exact absurd h1.2.1 (by decide)
  have K0 : Keeps ((fun j => j = d.g ∨ j = d.s)) w w := Keeps.refl _ _
  refine sy_enter (part_gmoveB 1) ⟨#[.pointer (some ⟨d.g, 0, none⟩), iN l, undef, undef, undef, undef, undef, undef, undef, undef, undef, undef, undef, undef, undef, undef, undef, undef, undef, undef, undef, undef, undef, undef, undef, undef, undef, undef, undef, undef, undef, undef, undef, undef, undef, undef, undef, undef, undef, undef, undef, undef, undef, undef, undef, undef, undef, undef, undef, undef, undef, undef, undef, undef, undef, undef, undef, undef, undef, undef, undef, undef, undef, undef, undef, undef], []⟩ Try.func39 (by kernel_rfl) (by kernel_rfl) ?_
  refine sy_sq (part_gmoveB 2) (part_gmoveB 3) ?_
  refine sy_sq (part_gmoveB 4) (part_gmoveB 5) ?_
  refine sy_np ?_
  refine sy_reg ?_
  refine an_begin 0 12 (opsAt (part_gmoveB 4)) (fun W => (W.heap[d.g]? = some (.cells (#[.func (.func 42) #[] #[], .slice (some ⟨d.s, 0, none⟩) d.n d.cap, .int .i64 ((d.low : Nat) : Int)]) 83 (0, 0)))) #[false, false, false, false, false, false, false, false, false, false, false, false] (by kernel_rfl) (by kernel_rfl) (by kernel_rfl) (by kernel_rfl) ?_
  obtain ⟨V21, eV21, kV21⟩ := drew_step w
  rw [eV21]
  clear eV21
  have h22 := kV21.bk H.ring
  have h23 := kV21.bk H.slots
  have h24 : RingB V21 d := H.keepsN kV21
  have K25 := K0.nn kV21
  have z26 := kV21.size
  refine an_k 0 (o_gmoveB 4 0) (iN l) h22 ?_
  refine an_k 1 (o_gmoveB 4 1) (.pointer (some ⟨d.g, 0, none⟩)) h22 ?_
  refine an_k 2 (o_gmoveB 4 2) (.pointer (some ⟨d.g, 0, none⟩)) h22 ?_
  refine an_k 3 (o_gmoveB 4 3) (.pointer (some ⟨d.g, 2, none⟩)) h22 ?_
  refine an_v 4 (o_gmoveB 4 4) (iN d.low) (fun W hS => exec_load_cell 3 (.tmp 7) (by kernel_rfl) ⟨d.g, 2, none⟩ (by kernel_rfl) _ _ Try.underlying3 rfl (rc (hS) (by kernel_rfl))) h22 ?_
  refine an_v 5 (o_gmoveB 4 5) (iN (l - d.low)) (fun W hS => exec_cast (congrArg (Value.int .i64) (wrapI (((l : Nat) : Int) - ((d.low : Nat) : Int)) _ (by omega) (by omega) (by omega))) (by kernel_rfl)) h22 ?_
  refine an_k 6 (o_gmoveB 4 6) (.pointer (some ⟨d.g, 0, none⟩)) h22 ?_
  refine an_k 7 (o_gmoveB 4 7) (.pointer (some ⟨d.g, 0, none⟩)) h22 ?_
  refine an_k 8 (o_gmoveB 4 8) (.pointer (some ⟨d.g, 1, none⟩)) h22 ?_
  refine an_v 9 (o_gmoveB 4 9) (.slice (some ⟨d.s, 0, none⟩) d.n d.cap) (fun W hS => exec_load_cell 81 (.tmp 12) (by kernel_rfl) ⟨d.g, 1, none⟩ (by kernel_rfl) _ _ Try.underlying81 rfl (rc (hS) (by kernel_rfl))) h22 ?_
  refine an_v 10 (o_gmoveB 4 10) (iN d.n) (fun W hS => exec_len (.tmp 13) 81 _ (by kernel_rfl) Try.underlying81 (some ⟨d.s, 0, none⟩) d.n d.cap (by kernel_rfl)) h22 ?_
  refine an_v 11 (o_gmoveB 4 11) (.bool false) (fun W hS => dcf ((((l - d.low : Nat) : Int)) ≥ (((d.n : Nat) : Int))) (by omega)) h22 ?_
  refine an_end (by kernel_rfl) ?_
  refine then_n ?_
  refine sy_n (.tmp 15) (part_gmoveB 10) (part_gmoveB 11) ?_
  refine sy_sk ?_
  refine then_n ?_
  refine sy_sq (part_gmoveB 6) (part_gmoveB 7) ?_
  refine sy_bk 0 (part_gmoveB 12) ?_
  refine sy_loop (part_gmoveB 24) (fun a V => ∃ (k : Nat) (S' : Nat → Option Nat) (u20 u21 u22 u23 u24 u25 u26 u27 u28 u29 u30 u31 u32 u33 u34 u35 u36 u37 u38 u39 u40 u41 u42 u43 u44 u45 u46 u47 u48 u49 u50 u51 u52 u53 u54 u55 u56 u57 u58 u59 u60 u61 : Value), (a = ⟨#[.pointer (some ⟨d.g, 0, none⟩), iN l, undef, undef, iN l, .pointer (some ⟨d.g, 0, none⟩), .pointer (some ⟨d.g, 0, none⟩), .pointer (some ⟨d.g, 2, none⟩), iN d.low, iN (l - d.low), .pointer (some ⟨d.g, 0, none⟩), .pointer (some ⟨d.g, 0, none⟩), .pointer (some ⟨d.g, 1, none⟩), .slice (some ⟨d.s, 0, none⟩) d.n d.cap, iN d.n, .bool false, undef, undef, undef, undef, u20, u21, u22, u23, u24, u25, u26, u27, u28, u29, u30, u31, u32, u33, u34, u35, u36, u37, u38, u39, u40, u41, u42, u43, u44, u45, u46, u47, u48, u49, u50, u51, u52, u53, u54, u55, u56, u57, u58, u59, u60, u61, undef, undef, undef, undef], []⟩) ∧ (d.low ≤ k) ∧ (k ≤ l) ∧ (Keeps ((fun j => j = d.g ∨ j = d.s)) w V) ∧ (RingB V { d with low := k, V := mvV d.V ((k : Nat) : Int), S := S' })) (fun a V => l - lowAt V d.g) (by kernel_rfl) ?_ ?_
  · exact ⟨d.low, d.S, undef, undef, undef, undef, undef, undef, undef, undef, undef, undef, undef, undef, undef, undef, undef, undef, undef, undef, undef, undef, undef, undef, undef, undef, undef, undef, undef, undef, undef, undef, undef, undef, undef, undef, undef, undef, undef, undef, undef, undef, undef, undef, by kernel_rfl, Nat.le_refl _, by omega, K25, (by rw [H.mvV_self d.low (Nat.le_refl _)]; exact h24)⟩
  · rintro a V27 ⟨k, S', u20, u21, u22, u23, u24, u25, u26, u27, u28, u29, u30, u31, u32, u33, u34, u35, u36, u37, u38, u39, u40, u41, u42, u43, u44, u45, u46, u47, u48, u49, u50, u51, u52, u53, u54, u55, u56, u57, u58, u59, u60, u61, rfl, hk1, hk, K28, hR⟩
    have hg0 : V27.heap[d.g]? = some (.cells (#[.func (.func 42) #[] #[], .slice (some ⟨d.s, 0, none⟩) d.n d.cap, .int .i64 ((k : Nat) : Int)]) 83 (0, 0)) := hR.ring
    have hs0 : V27.heap[d.s]? = some (.cells (Slots d.n S' d.rest) 74 (0, 0)) := hR.slots
    have hm := Nat.mod_lt k hn0
    by_cases lt_k : k < l
    · skip
      refine sy_sq (part_gmoveB 48) (part_gmoveB 49) ?_
      refine sy_sq (part_gmoveB 96) (part_gmoveB 97) ?_
      refine sy_np ?_
      refine sy_reg ?_
      refine an_begin 2 20 (opsAt (part_gmoveB 96)) (fun W => (W.heap[d.g]? = some (.cells (#[.func (.func 42) #[] #[], .slice (some ⟨d.s, 0, none⟩) d.n d.cap, .int .i64 ((k : Nat) : Int)]) 83 (0, 0)))) #[false, false, false, false, false, false, false, false, false, false, false, false, false, false, false, false, false, false, false, false] (by kernel_rfl) (by kernel_rfl) (by kernel_rfl) (by kernel_rfl) ?_
      obtain ⟨V29, eV29, kV29⟩ := drew_step V27
      rw [eV29]
      clear eV29
      have h30 := kV29.bk hg0
      have h31 := kV29.bk hs0
      have h32 : ∀ (j : Nat) (cs : Array Value), V27.heap[j]? = some (.cells cs 35 (0, 0)) → V29.heap[j]? = some (.cells cs 35 (0, 0)) := fun j cs e => kV29.odd (Odd.nob _) ((fun _ _ e => e) j cs e)
      have K33 := K28.nn kV29
      have z34 := kV29.size
      refine an_k 0 (o_gmoveB 96 0) (.pointer (some ⟨d.g, 0, none⟩)) h30 ?_
      refine an_k 1 (o_gmoveB 96 1) (.pointer (some ⟨d.g, 0, none⟩)) h30 ?_
      refine an_k 2 (o_gmoveB 96 2) (.pointer (some ⟨d.g, 2, none⟩)) h30 ?_
      refine an_v 3 (o_gmoveB 96 3) (iN k) (fun W hS => exec_load_cell 3 (.tmp 22) (by kernel_rfl) ⟨d.g, 2, none⟩ (by kernel_rfl) _ _ Try.underlying3 rfl (rc (hS) (by kernel_rfl))) h30 ?_
      refine an_k 4 (o_gmoveB 96 4) (iN l) h30 ?_
      refine an_v 5 (o_gmoveB 96 5) (.bool true) (fun W hS => dct ((((k : Nat) : Int)) < (((l : Nat) : Int))) (by omega)) h30 ?_
      refine an_k 6 (o_gmoveB 96 6) (.bool true) h30 ?_
      refine an_k 7 (o_gmoveB 96 7) (iN l) h30 ?_
      refine an_k 8 (o_gmoveB 96 8) (.pointer (some ⟨d.g, 0, none⟩)) h30 ?_
      refine an_k 9 (o_gmoveB 96 9) (.pointer (some ⟨d.g, 0, none⟩)) h30 ?_
      refine an_k 10 (o_gmoveB 96 10) (.pointer (some ⟨d.g, 2, none⟩)) h30 ?_
      refine an_v 11 (o_gmoveB 96 11) (iN k) (fun W hS => exec_load_cell 3 (.tmp 30) (by kernel_rfl) ⟨d.g, 2, none⟩ (by kernel_rfl) _ _ Try.underlying3 rfl (rc (hS) (by kernel_rfl))) h30 ?_
      refine an_v 12 (o_gmoveB 96 12) (iN (l - k)) (fun W hS => exec_cast (congrArg (Value.int .i64) (wrapI (((l : Nat) : Int) - ((k : Nat) : Int)) _ (by omega) (by omega) (by omega))) (by kernel_rfl)) h30 ?_
      refine an_k 13 (o_gmoveB 96 13) (.pointer (some ⟨d.g, 0, none⟩)) h30 ?_
      refine an_k 14 (o_gmoveB 96 14) (.pointer (some ⟨d.g, 0, none⟩)) h30 ?_
      refine an_k 15 (o_gmoveB 96 15) (.pointer (some ⟨d.g, 1, none⟩)) h30 ?_
      refine an_v 16 (o_gmoveB 96 16) (.slice (some ⟨d.s, 0, none⟩) d.n d.cap) (fun W hS => exec_load_cell 81 (.tmp 35) (by kernel_rfl) ⟨d.g, 1, none⟩ (by kernel_rfl) _ _ Try.underlying81 rfl (rc (hS) (by kernel_rfl))) h30 ?_
      refine an_v 17 (o_gmoveB 96 17) (iN d.n) (fun W hS => exec_len (.tmp 36) 81 _ (by kernel_rfl) Try.underlying81 (some ⟨d.s, 0, none⟩) d.n d.cap (by kernel_rfl)) h30 ?_
      refine an_v 18 (o_gmoveB 96 18) (.bool true) (fun W hS => dct ((((l - k : Nat) : Int)) < (((d.n : Nat) : Int))) (by omega)) h30 ?_
      refine an_k 19 (o_gmoveB 96 19) (.bool true) h30 ?_
      refine an_end (by kernel_rfl) ?_
      refine then_n ?_
      refine sy_ys (.tmp 39) (part_gmoveB 194) (part_gmoveB 195) ?_
      refine sy_sk ?_
      refine then_n ?_
      refine sy_sq (part_gmoveB 98) (part_gmoveB 99) ?_
      refine sy_bk 1 (part_gmoveB 196) ?_
      refine sy_reg ?_
      refine rg_still 4 15 (opsAt (part_gmoveB 196)) [o_gmoveB 196 0, o_gmoveB 196 1, o_gmoveB 196 2, o_gmoveB 196 3, o_gmoveB 196 4, o_gmoveB 196 5, o_gmoveB 196 6, o_gmoveB 196 7, o_gmoveB 196 8, o_gmoveB 196 9, o_gmoveB 196 10, o_gmoveB 196 11, o_gmoveB 196 12, o_gmoveB 196 13, o_gmoveB 196 14] [o_gmoveB 196 15] (by kernel_rfl) (by kernel_rfl) (by kernel_rfl) (by kernel_rfl) (by kernel_rfl) ?_
      obtain ⟨V36, eV36, kV36⟩ := drew_step V29
      rw [eV36]
      clear eV36
      have h37 := kV36.bk h30
      have h38 := kV36.bk h31
      have h39 : ∀ (j : Nat) (cs : Array Value), V27.heap[j]? = some (.cells cs 35 (0, 0)) → V36.heap[j]? = some (.cells cs 35 (0, 0)) := fun j cs e => kV36.odd (Odd.nob _) (h32 j cs e)
      have K40 := K33.nn kV36
      have z41 := kV36.size
      refine st_k (o_gmoveB 196 0) (.pointer (some ⟨d.g, 0, none⟩)) ?_
      refine st_k (o_gmoveB 196 1) (.pointer (some ⟨d.g, 0, none⟩)) ?_
      refine st_k (o_gmoveB 196 2) (.pointer (some ⟨d.g, 1, none⟩)) ?_
      refine st_p (o_gmoveB 196 3) (.slice (some ⟨d.s, 0, none⟩) d.n d.cap) (exec_load_cell 81 (.tmp 49) (by kernel_rfl) ⟨d.g, 1, none⟩ (by kernel_rfl) _ _ Try.underlying81 rfl (rc (h37) (by kernel_rfl))) ?_
      refine st_k (o_gmoveB 196 4) (.pointer (some ⟨d.g, 0, none⟩)) ?_
      refine st_k (o_gmoveB 196 5) (.pointer (some ⟨d.g, 0, none⟩)) ?_
      refine st_k (o_gmoveB 196 6) (.pointer (some ⟨d.g, 2, none⟩)) ?_
      refine st_p (o_gmoveB 196 7) (iN k) (exec_load_cell 3 (.tmp 53) (by kernel_rfl) ⟨d.g, 2, none⟩ (by kernel_rfl) _ _ Try.underlying3 rfl (rc (h37) (by kernel_rfl))) ?_
      refine st_k (o_gmoveB 196 8) (.pointer (some ⟨d.g, 0, none⟩)) ?_
      refine st_k (o_gmoveB 196 9) (.pointer (some ⟨d.g, 0, none⟩)) ?_
      refine st_k (o_gmoveB 196 10) (.pointer (some ⟨d.g, 1, none⟩)) ?_
      refine st_p (o_gmoveB 196 11) (.slice (some ⟨d.s, 0, none⟩) d.n d.cap) (exec_load_cell 81 (.tmp 57) (by kernel_rfl) ⟨d.g, 1, none⟩ (by kernel_rfl) _ _ Try.underlying81 rfl (rc (h37) (by kernel_rfl))) ?_
      refine st_p (o_gmoveB 196 12) (iN d.n) (exec_len (.tmp 58) 81 _ (by kernel_rfl) Try.underlying81 (some ⟨d.s, 0, none⟩) d.n d.cap (by kernel_rfl)) ?_
      refine st_p (o_gmoveB 196 13) (iN (k % d.n)) (exec_rem 3 3 (.tmp 54) (.tmp 59) (by kernel_rfl) k d.n (by kernel_rfl) (by kernel_rfl) hn0) ?_
      refine st_p (o_gmoveB 196 14) (.pointer (some ⟨d.s, k % d.n, none⟩)) (exec_cast (v := .pointer (some ⟨d.s, 0 + (k % d.n) * 1, none⟩)) (by simp) (exec_indexAt_slice 81 (.tmp 50) (.tmp 60) (by kernel_rfl) d.s 0 d.n d.cap (by kernel_rfl) .i64 (k % d.n) (by kernel_rfl) _ 1 Try.underlying81 (by kernel_rfl) (by omega))) ?_
      refine st_end ?_
      obtain ⟨V42, eV42, kV42⟩ := cell_step V36 d.s (k % d.n) (.pointer none)
      have h43 : V42.heap[d.s]? = some (.cells (Slots d.n (upS S' (k % d.n) none) d.rest) 74 (0, 0)) := eV42 ▸ ((heap_setCell_same _ d.s (k % d.n) _ _ (.pointer none) h38).trans (congrArg (fun c => some (Obj.cells c 74 (0, 0))) (show (Slots d.n S' d.rest : Array Value).setIfInBounds (k % d.n) (.pointer none) = Slots d.n (upS S' (k % d.n) none) d.rest from Slots.set' (Nat.mod_lt _ hn0) none rfl)))
      refine ls_skip (o_gmoveB 196 15) (w' := V42) (by kernel_rfl) (by rw [← eV42]; exact exec_store_cell 74 (.tmp 61) (.const (.pointer none)) (by kernel_rfl) d.s (k % d.n) (by kernel_rfl) (.pointer none) (by kernel_rfl) (by kernel_rfl) (by kernel_rfl) (ptrV (S' (k % d.n))) (rc (h38) ((Slots.get (Nat.mod_lt _ hn0)).trans (congrArg some (rfl)))) (frozen_of_row _ _ _ _ _ h38) (by kernel_rfl)) ?_
      clear eV42
      have h44 := kV42.bo h37 (by omega)
      have h45 : ∀ (j : Nat) (cs : Array Value), V27.heap[j]? = some (.cells cs 35 (0, 0)) → V42.heap[j]? = some (.cells cs 35 (0, 0)) := fun j cs e => kV42.odd (Odd.one h38 (by decide)) (h39 j cs e)
      have K46 : Keeps ((fun j => j = d.g ∨ j = d.s)) w V42 := K40.then kV42 (fun i hi hm => by unfold Own.One at hm; subst hm; exact .inr rfl)
      have z47 := kV42.size
      refine ls_end ?_
      refine sy_a ⟨#[.pointer (some ⟨d.g, 0, none⟩), iN l, undef, undef, iN l, .pointer (some ⟨d.g, 0, none⟩), .pointer (some ⟨d.g, 0, none⟩), .pointer (some ⟨d.g, 2, none⟩), iN d.low, iN (l - d.low), .pointer (some ⟨d.g, 0, none⟩), .pointer (some ⟨d.g, 0, none⟩), .pointer (some ⟨d.g, 1, none⟩), .slice (some ⟨d.s, 0, none⟩) d.n d.cap, iN d.n, .bool false, undef, undef, undef, undef, .pointer (some ⟨d.g, 0, none⟩), .pointer (some ⟨d.g, 0, none⟩), .pointer (some ⟨d.g, 2, none⟩), iN k, iN l, .bool true, .bool true, iN l, .pointer (some ⟨d.g, 0, none⟩), .pointer (some ⟨d.g, 0, none⟩), .pointer (some ⟨d.g, 2, none⟩), iN k, iN (l - k), .pointer (some ⟨d.g, 0, none⟩), .pointer (some ⟨d.g, 0, none⟩), .pointer (some ⟨d.g, 1, none⟩), .slice (some ⟨d.s, 0, none⟩) d.n d.cap, iN d.n, .bool true, .bool true, u40, u41, u42, u43, u44, u45, u46, .pointer (some ⟨d.g, 0, none⟩), .pointer (some ⟨d.g, 0, none⟩), .pointer (some ⟨d.g, 1, none⟩), .slice (some ⟨d.s, 0, none⟩) d.n d.cap, .pointer (some ⟨d.g, 0, none⟩), .pointer (some ⟨d.g, 0, none⟩), .pointer (some ⟨d.g, 2, none⟩), iN k, .pointer (some ⟨d.g, 0, none⟩), .pointer (some ⟨d.g, 0, none⟩), .pointer (some ⟨d.g, 1, none⟩), .slice (some ⟨d.s, 0, none⟩) d.n d.cap, iN d.n, iN (k % d.n), .pointer (some ⟨d.s, k % d.n, none⟩), undef, undef, undef, undef], []⟩ ?_
      refine blk_n ?_
      refine then_n ?_
      refine sy_reg ?_
      refine rg_plain 3 (opsAt (part_gmoveB 99)) [0, 1, 2, 3, 4, 5, 6, 7] (by kernel_rfl) (by kernel_rfl) ?_
      refine ps_k (o_gmoveB 99 0) (.pointer (some ⟨d.g, 0, none⟩)) ?_
      refine ps_k (o_gmoveB 99 1) (.pointer (some ⟨d.g, 0, none⟩)) ?_
      refine ps_k (o_gmoveB 99 2) (.pointer (some ⟨d.g, 2, none⟩)) ?_
      refine ps_p (o_gmoveB 99 3) (iN k) (exec_load_cell 3 (.tmp 42) (by kernel_rfl) ⟨d.g, 2, none⟩ (by kernel_rfl) _ _ Try.underlying3 rfl (rc (h44) (by kernel_rfl))) ?_
      refine ps_p (o_gmoveB 99 4) (iN (k + 1)) (exec_cast (congrArg (Value.int .i64) (wrapN (k + 1) (by omega))) (by kernel_rfl)) ?_
      refine ps_k (o_gmoveB 99 5) (.pointer (some ⟨d.g, 0, none⟩)) ?_
      refine ps_k (o_gmoveB 99 6) (.pointer (some ⟨d.g, 2, none⟩)) ?_
      obtain ⟨V48, eV48, kV48⟩ := cell_step V42 d.g 2 (.int .i64 ((k + 1 : Nat) : Int))
      have h49 : V48.heap[d.g]? = some (.cells (#[.func (.func 42) #[] #[], .slice (some ⟨d.s, 0, none⟩) d.n d.cap, .int .i64 ((k + 1 : Nat) : Int)]) 83 (0, 0)) := eV48 ▸ ((heap_setCell_same _ d.g 2 _ _ (.int .i64 ((k + 1 : Nat) : Int)) h44).trans (congrArg (fun c => some (Obj.cells c 83 (0, 0))) (show (#[.func (.func 42) #[] #[], .slice (some ⟨d.s, 0, none⟩) d.n d.cap, .int .i64 ((k : Nat) : Int)] : Array Value).setIfInBounds 2 (.int .i64 ((k + 1 : Nat) : Int)) = #[.func (.func 42) #[] #[], .slice (some ⟨d.s, 0, none⟩) d.n d.cap, .int .i64 ((k + 1 : Nat) : Int)] from by kernel_rfl)))
      refine ps_s (o_gmoveB 99 7) (w' := V48) (by rw [← eV48]; exact exec_store_cell 3 (.tmp 46) (.tmp 44) (by kernel_rfl) d.g 2 (by kernel_rfl) (iN (k + 1)) (by kernel_rfl) (by kernel_rfl) (by kernel_rfl) (iN k) (rc (h44) (by kernel_rfl)) (frozen_of_row _ _ _ _ _ h44) (by kernel_rfl)) ?_
      clear eV48
      have h50 : ∀ (j : Nat) (cs : Array Value), V27.heap[j]? = some (.cells cs 35 (0, 0)) → V48.heap[j]? = some (.cells cs 35 (0, 0)) := fun j cs e => kV48.odd (Odd.one h44 (by decide)) (h45 j cs e)
      have h51 := kV48.bo h43 (by omega)
      have K52 : Keeps ((fun j => j = d.g ∨ j = d.s)) w V48 := K46.then kV48 (fun i hi hm => by unfold Own.One at hm; subst hm; exact .inl rfl)
      have z53 := kV48.size
      refine ps_end ?_
      refine then_n ?_
      refine ⟨⟨k + 1, upS S' (k % d.n) none, (.pointer (some ⟨d.g, 0, none⟩)), (.pointer (some ⟨d.g, 0, none⟩)), (.pointer (some ⟨d.g, 2, none⟩)), (iN k), (iN l), (.bool true), (.bool true), (iN l), (.pointer (some ⟨d.g, 0, none⟩)), (.pointer (some ⟨d.g, 0, none⟩)), (.pointer (some ⟨d.g, 2, none⟩)), (iN k), (iN (l - k)), (.pointer (some ⟨d.g, 0, none⟩)), (.pointer (some ⟨d.g, 0, none⟩)), (.pointer (some ⟨d.g, 1, none⟩)), (.slice (some ⟨d.s, 0, none⟩) d.n d.cap), (iN d.n), (.bool true), (.bool true), (.pointer (some ⟨d.g, 0, none⟩)), (.pointer (some ⟨d.g, 0, none⟩)), (.pointer (some ⟨d.g, 2, none⟩)), (iN k), (iN (k + 1)), (.pointer (some ⟨d.g, 0, none⟩)), (.pointer (some ⟨d.g, 2, none⟩)), (.pointer (some ⟨d.g, 0, none⟩)), (.pointer (some ⟨d.g, 0, none⟩)), (.pointer (some ⟨d.g, 1, none⟩)), (.slice (some ⟨d.s, 0, none⟩) d.n d.cap), (.pointer (some ⟨d.g, 0, none⟩)), (.pointer (some ⟨d.g, 0, none⟩)), (.pointer (some ⟨d.g, 2, none⟩)), (iN k), (.pointer (some ⟨d.g, 0, none⟩)), (.pointer (some ⟨d.g, 0, none⟩)), (.pointer (some ⟨d.g, 1, none⟩)), (.slice (some ⟨d.s, 0, none⟩) d.n d.cap), (iN d.n), (iN (k % d.n)), (.pointer (some ⟨d.s, k % d.n, none⟩)), by kernel_rfl, by omega, by omega, K52, (by have hx := Ring.step hR h50 (by show k < 4294967296; omega) h49 h51; dsimp only at hx; rw [mvV_mvV (show ((k : Nat) : Int) ≤ ((k + 1 : Nat) : Int) by omega)] at hx; exact hx)⟩, ?_⟩
      show l - lowAt V48 d.g < l - lowAt V27 d.g; rw [lowAt_of h49, lowAt_of hg0]; omega
    · have eq_k : k = l := by omega
      have hRl : RingB V27 { d with low := l, V := mvV d.V ((l : Nat) : Int), S := S' } := eq_k ▸ hR
      have hg1 : V27.heap[d.g]? = some (.cells (#[.func (.func 42) #[] #[], .slice (some ⟨d.s, 0, none⟩) d.n d.cap, .int .i64 ((l : Nat) : Int)]) 83 (0, 0)) := hRl.ring
      refine sy_sq (part_gmoveB 48) (part_gmoveB 49) ?_
      refine sy_sq (part_gmoveB 96) (part_gmoveB 97) ?_
      refine sy_np ?_
      refine sy_reg ?_
      refine an_begin 2 20 (opsAt (part_gmoveB 96)) (fun W => (W.heap[d.g]? = some (.cells (#[.func (.func 42) #[] #[], .slice (some ⟨d.s, 0, none⟩) d.n d.cap, .int .i64 ((l : Nat) : Int)]) 83 (0, 0)))) #[false, false, false, false, false, false, false, false, false, false, false, false, false, false, false, false, false, false, false, false] (by kernel_rfl) (by kernel_rfl) (by kernel_rfl) (by kernel_rfl) ?_
      obtain ⟨V54, eV54, kV54⟩ := drew_step V27
      rw [eV54]
      clear eV54
      have h55 := kV54.bk hg1
      have h56 := kV54.bk hs0
      have h57 : ∀ (j : Nat) (cs : Array Value), V27.heap[j]? = some (.cells cs 35 (0, 0)) → V54.heap[j]? = some (.cells cs 35 (0, 0)) := fun j cs e => kV54.odd (Odd.nob _) ((fun _ _ e => e) j cs e)
      have K58 := K28.nn kV54
      have z59 := kV54.size
      refine an_k 0 (o_gmoveB 96 0) (.pointer (some ⟨d.g, 0, none⟩)) h55 ?_
      refine an_k 1 (o_gmoveB 96 1) (.pointer (some ⟨d.g, 0, none⟩)) h55 ?_
      refine an_k 2 (o_gmoveB 96 2) (.pointer (some ⟨d.g, 2, none⟩)) h55 ?_
      refine an_v 3 (o_gmoveB 96 3) (iN l) (fun W hS => exec_load_cell 3 (.tmp 22) (by kernel_rfl) ⟨d.g, 2, none⟩ (by kernel_rfl) _ _ Try.underlying3 rfl (rc (hS) (by kernel_rfl))) h55 ?_
      refine an_k 4 (o_gmoveB 96 4) (iN l) h55 ?_
      refine an_v 5 (o_gmoveB 96 5) (.bool false) (fun W hS => dcf ((((l : Nat) : Int)) < (((l : Nat) : Int))) (by omega)) h55 ?_
      refine an_k 6 (o_gmoveB 96 6) (.bool false) h55 ?_
      refine an_n 7 (o_gmoveB 96 7) h55 ?_
      refine an_n 8 (o_gmoveB 96 8) h55 ?_
      refine an_n 9 (o_gmoveB 96 9) h55 ?_
      refine an_n 10 (o_gmoveB 96 10) h55 ?_
      refine an_n 11 (o_gmoveB 96 11) h55 ?_
      refine an_n 12 (o_gmoveB 96 12) h55 ?_
      refine an_n 13 (o_gmoveB 96 13) h55 ?_
      refine an_n 14 (o_gmoveB 96 14) h55 ?_
      refine an_n 15 (o_gmoveB 96 15) h55 ?_
      refine an_n 16 (o_gmoveB 96 16) h55 ?_
      refine an_n 17 (o_gmoveB 96 17) h55 ?_
      refine an_n 18 (o_gmoveB 96 18) h55 ?_
      refine an_k 19 (o_gmoveB 96 19) (.bool false) h55 ?_
      refine an_end (by kernel_rfl) ?_
      refine then_n ?_
      refine sy_n (.tmp 39) (part_gmoveB 194) (part_gmoveB 195) ?_
      refine sy_exit 0 (by kernel_rfl) ?_
      refine then_e ?_
      refine then_e ?_
      refine blk_e ?_
      refine then_n ?_
      refine sy_reg ?_
      refine rg_plain 5 (opsAt (part_gmoveB 7)) [0, 1, 2, 3, 4] (by kernel_rfl) (by kernel_rfl) ?_
      refine ps_k (o_gmoveB 7 0) (.pointer (some ⟨d.g, 0, none⟩)) ?_
      refine ps_k (o_gmoveB 7 1) (iN l) ?_
      refine ps_k (o_gmoveB 7 2) (.pointer (some ⟨d.g, 0, none⟩)) ?_
      refine ps_k (o_gmoveB 7 3) (.pointer (some ⟨d.g, 2, none⟩)) ?_
      obtain ⟨V60, eV60, kV60⟩ := cell_step V54 d.g 2 (.int .i64 ((l : Nat) : Int))
      have h61 : V60.heap[d.g]? = some (.cells (#[.func (.func 42) #[] #[], .slice (some ⟨d.s, 0, none⟩) d.n d.cap, .int .i64 ((l : Nat) : Int)]) 83 (0, 0)) := eV60 ▸ ((heap_setCell_same _ d.g 2 _ _ (.int .i64 ((l : Nat) : Int)) h55).trans (congrArg (fun c => some (Obj.cells c 83 (0, 0))) (show (#[.func (.func 42) #[] #[], .slice (some ⟨d.s, 0, none⟩) d.n d.cap, .int .i64 ((l : Nat) : Int)] : Array Value).setIfInBounds 2 (.int .i64 ((l : Nat) : Int)) = #[.func (.func 42) #[] #[], .slice (some ⟨d.s, 0, none⟩) d.n d.cap, .int .i64 ((l : Nat) : Int)] from by kernel_rfl)))
      refine ps_s (o_gmoveB 7 4) (w' := V60) (by rw [← eV60]; exact exec_store_cell 3 (.tmp 65) (.tmp 63) (by kernel_rfl) d.g 2 (by kernel_rfl) (iN l) (by kernel_rfl) (by kernel_rfl) (by kernel_rfl) (iN l) (rc (h55) (by kernel_rfl)) (frozen_of_row _ _ _ _ _ h55) (by kernel_rfl)) ?_
      clear eV60
      have h62 := kV60.bo h56 (by omega)
      have h63 : ∀ (j : Nat) (cs : Array Value), V27.heap[j]? = some (.cells cs 35 (0, 0)) → V60.heap[j]? = some (.cells cs 35 (0, 0)) := fun j cs e => kV60.odd (Odd.one h55 (by decide)) (h57 j cs e)
      have K64 : Keeps ((fun j => j = d.g ∨ j = d.s)) w V60 := K58.then kV60 (fun i hi hm => by unfold Own.One at hm; subst hm; exact .inl rfl)
      have z65 := kV60.size
      refine ps_end ?_
      refine sy_a ⟨#[.pointer (some ⟨d.g, 0, none⟩), iN l, undef, undef, iN l, .pointer (some ⟨d.g, 0, none⟩), .pointer (some ⟨d.g, 0, none⟩), .pointer (some ⟨d.g, 2, none⟩), iN d.low, iN (l - d.low), .pointer (some ⟨d.g, 0, none⟩), .pointer (some ⟨d.g, 0, none⟩), .pointer (some ⟨d.g, 1, none⟩), .slice (some ⟨d.s, 0, none⟩) d.n d.cap, iN d.n, .bool false, undef, undef, undef, undef, .pointer (some ⟨d.g, 0, none⟩), .pointer (some ⟨d.g, 0, none⟩), .pointer (some ⟨d.g, 2, none⟩), iN l, iN l, .bool false, .bool false, undef, undef, undef, undef, undef, undef, undef, undef, undef, undef, undef, undef, .bool false, u40, u41, u42, u43, u44, u45, u46, u47, u48, u49, u50, u51, u52, u53, u54, u55, u56, u57, u58, u59, u60, u61, .pointer (some ⟨d.g, 0, none⟩), iN l, .pointer (some ⟨d.g, 0, none⟩), .pointer (some ⟨d.g, 2, none⟩)], []⟩ ?_
      refine sy_fall (.tuple #[]) rfl (by kernel_rfl) ?_
      exact ⟨rfl, _, Ring.same hRl h61 h62 h63, K64⟩
theorem gmoveB_ok (d : RD Pro) (l : Nat) (w : World) (H : RingB w d) (hl0 : d.low ≤ l) (hl3 : l ≤ 4294967296) : Calls Try.prog 39 #[.pointer (some ⟨d.g, 0, none⟩), .int .i64 ((l : Nat) : Int)] w fun e w' => e = .returned (.tuple #[]) ∧ ∃ S', RingB w' { d with low := l, V := mvV d.V ((l : Nat) : Int), S := S' } ∧ Keeps (fun j => j = d.g ∨ j = d.s) w w' := by
  by_cases h : d.low + d.n ≤ l
  · exact (gmoveB_far d l w H h hl3).mono fun e w' ⟨he, hr, k⟩ => ⟨he, _, hr, k⟩
  · exact gmoveB_near d l w H hl0 (by omega) hl3
end Go.Proofs.Ytgipooedgbbliaa
