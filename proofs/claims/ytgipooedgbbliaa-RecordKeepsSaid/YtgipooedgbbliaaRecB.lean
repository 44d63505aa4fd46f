/-
  Records: the ring of attestations (printed by rec1.py). Conditions: none.
-/
import Derived.Test.YtgipooedgbbliaaRecA

namespace Go.Proofs.Ytgipooedgbbliaa
open Go Go.RowKit Go.Own Go.Shelf
abbrev RingA : World → RD Att → Prop := Ring 41 79 71 28 Att.c (·.t) Att.Ok
theorem a_ptr_info : (Try.prog.info? 71).map (fun i => (i.zero, i.size, i.bytes)) = some (some (.pointer none), 1, 8) := by kernel_rfl

noncomputable def part_qidx (n : Nat) : Code := partOf Try.f41 n
noncomputable abbrev o_qidx (n k : Nat) : Oper := (opsAt (part_qidx n)).getD k default
set_option maxRecDepth 100000 in
set_option maxHeartbeats 4000000 in
theorem qidx_ok (a : Att) (w : World) (hr : a.r.length = 32) :
    Calls Try.prog 41 #[.agg (Att.c a)] w (fun e w' => e = .returned (.int .i64 a.t) ∧ Keeps Nob w w') := by
  have K0 : Keeps Nob w w := Keeps.refl _ _
  refine sy_enter (part_qidx 1) ⟨#[.agg (Att.c a), undef, undef, undef, undef], []⟩ Try.func41 (by kernel_rfl) (by kernel_rfl) ?_
  refine sy_sq (part_qidx 2) (part_qidx 3) ?_
  refine sy_reg ?_
  refine rg_plain 0 (opsAt (part_qidx 2)) [0, 1] (by kernel_rfl) (by kernel_rfl) ?_
  obtain ⟨V1, eV1, p, ep, h2, kV1⟩ := alloc_step w ((Att.c a)) 28
  have n3 : w.heap.size ≤ p := ep ▸ K0.size
  refine ps_r (o_qidx 2 0) (pT p 0) (w' := V1) (by rw [← eV1, ← ep]; exact exec_box 28 (.tmp 0) (by kernel_rfl) (.agg (Att.c a)) (by kernel_rfl)) ?_
  clear eV1
  have K4 := K0.nn kV1
  have z5 := kV1.size
  refine ps_k (o_qidx 2 1) (.int .i64 0) ?_
  refine ps_end ?_
  refine then_n ?_
  refine sy_sq (part_qidx 6) (part_qidx 7) ?_
  refine sy_reg ?_
  refine rg_plain 1 (opsAt (part_qidx 6)) [0, 1, 2] (by kernel_rfl) (by kernel_rfl) ?_
  refine ps_k (o_qidx 6 0) (pT p 2) ?_
  refine ps_p (o_qidx 6 1) (.int .i64 a.t) (exec_ld 3 (.tmp 3) p 2 Try.underlying3 (rc (h2) (Att.c_2 _))) ?_
  refine ps_k (o_qidx 6 2) (.int .i64 a.t) ?_
  refine ps_end ?_
  refine then_n ?_
  refine sy_ret (by kernel_rfl) ?_
  refine sy_out (.int .i64 a.t) rfl (by kernel_rfl) ?_
  exact ⟨rfl, K4⟩
theorem qidx_as (a : Att) (t : Nat) (w : World) (hr : a.r.length = 32) (ht : a.t = ((t : Nat) : Int)) : Calls Try.prog 41 #[.agg (Att.c a)] w fun e w' => e = .returned (.int .i64 ((t : Nat) : Int)) ∧ Keeps Nob w w' := ht ▸ qidx_ok a w hr
noncomputable def part_gat (n : Nat) : Code := partOf Try.f31 n
noncomputable abbrev o_gat (n k : Nat) : Oper := (opsAt (part_gat n)).getD k default
set_option maxRecDepth 100000 in
set_option maxHeartbeats 4000000 in
theorem gat_low (d : RD Att) (i : Int) (w : World) (H : RingA w d) (hi : i < (d.low : Int)) :
    Calls Try.prog 31 #[.pointer (some ⟨d.g, 0, none⟩), .int .i64 i] w (fun e w' => e = .returned (.pointer none) ∧ Keeps Nob w w') := by
  have hn0 := H.n1
  have hn2 := H.n2
  have hl2 := H.l2
  have K0 : Keeps Nob w w := Keeps.refl _ _
  refine sy_enter (part_gat 1) ⟨#[.pointer (some ⟨d.g, 0, none⟩), .int .i64 i, undef, undef, undef, undef, undef, undef, undef, undef, undef, undef, undef, undef, undef, undef, undef, undef, undef, undef, undef, undef, undef, undef, undef, undef, undef, undef, undef, undef, undef, undef, undef, undef, undef, undef, undef, undef], []⟩ Try.func31 (by kernel_rfl) (by kernel_rfl) ?_
  refine sy_sq (part_gat 2) (part_gat 3) ?_
  refine sy_reg ?_
  refine rg_plain 0 (opsAt (part_gat 2)) [0] (by kernel_rfl) (by kernel_rfl) ?_
  refine ps_k (o_gat 2 0) (.pointer none) ?_
  refine ps_end ?_
  refine then_n ?_
  refine sy_sq (part_gat 6) (part_gat 7) ?_
  refine sy_sq (part_gat 12) (part_gat 13) ?_
  refine sy_np ?_
  refine sy_reg ?_
  refine an_begin 1 20 (opsAt (part_gat 12)) (fun W => (W.heap[d.g]? = some (.cells (#[.func (.func 41) #[] #[], .slice (some ⟨d.s, 0, none⟩) d.n d.cap, .int .i64 ((d.low : Nat) : Int)]) 79 (0, 0)))) #[false, false, false, false, false, false, false, false, false, false, false, false, false, false, false, false, false, false, false, false] (by kernel_rfl) (by kernel_rfl) (by kernel_rfl) (by kernel_rfl) ?_
  obtain ⟨V1, eV1, kV1⟩ := drew_step w
  rw [eV1]
  clear eV1
  have h2 := kV1.bk H.ring
  have h3 := kV1.bk H.slots
  have K4 := K0.nn kV1
  have z5 := kV1.size
  refine an_k 0 (o_gat 12 0) (.int .i64 i) h2 ?_
  refine an_k 1 (o_gat 12 1) (.pointer (some ⟨d.g, 0, none⟩)) h2 ?_
  refine an_k 2 (o_gat 12 2) (.pointer (some ⟨d.g, 0, none⟩)) h2 ?_
  refine an_k 3 (o_gat 12 3) (.pointer (some ⟨d.g, 2, none⟩)) h2 ?_
  refine an_v 4 (o_gat 12 4) (iN d.low) (fun W hS => exec_load_cell 3 (.tmp 8) (by kernel_rfl) ⟨d.g, 2, none⟩ (by kernel_rfl) _ _ Try.underlying3 rfl (rc (hS) (by kernel_rfl))) h2 ?_
  refine an_v 5 (o_gat 12 5) (.bool true) (fun W hS => dct (((i) : Int) < (((d.low : Nat) : Int))) (by omega)) h2 ?_
  refine an_k 6 (o_gat 12 6) (.bool true) h2 ?_
  refine an_n 7 (o_gat 12 7) h2 ?_
  refine an_n 8 (o_gat 12 8) h2 ?_
  refine an_n 9 (o_gat 12 9) h2 ?_
  refine an_n 10 (o_gat 12 10) h2 ?_
  refine an_n 11 (o_gat 12 11) h2 ?_
  refine an_n 12 (o_gat 12 12) h2 ?_
  refine an_n 13 (o_gat 12 13) h2 ?_
  refine an_n 14 (o_gat 12 14) h2 ?_
  refine an_n 15 (o_gat 12 15) h2 ?_
  refine an_n 16 (o_gat 12 16) h2 ?_
  refine an_n 17 (o_gat 12 17) h2 ?_
  refine an_n 18 (o_gat 12 18) h2 ?_
  refine an_k 19 (o_gat 12 19) (.bool true) h2 ?_
  refine an_end (by kernel_rfl) ?_
  refine then_n ?_
  refine sy_ys (.tmp 24) (part_gat 26) (part_gat 27) ?_
  refine sy_sq (part_gat 52) (part_gat 53) ?_
  refine sy_reg ?_
  refine rg_plain 2 (opsAt (part_gat 52)) [0] (by kernel_rfl) (by kernel_rfl) ?_
  refine ps_k (o_gat 52 0) (.pointer none) ?_
  refine ps_end ?_
  refine then_n ?_
  refine sy_ret (by kernel_rfl) ?_
  refine then_r ?_
  refine sy_out (.pointer none) rfl (by kernel_rfl) ?_
  exact ⟨rfl, K4⟩
set_option maxRecDepth 100000 in
set_option maxHeartbeats 4000000 in
theorem gat_high (d : RD Att) (i : Int) (w : World) (H : RingA w d) (hi : (d.low : Int) + d.n ≤ i) :
    Calls Try.prog 31 #[.pointer (some ⟨d.g, 0, none⟩), .int .i64 i] w (fun e w' => e = .returned (.pointer none) ∧ Keeps Nob w w') := by
  have hn0 := H.n1
  have hn2 := H.n2
  have hl2 := H.l2
  have K0 : Keeps Nob w w := Keeps.refl _ _
  refine sy_enter (part_gat 1) ⟨#[.pointer (some ⟨d.g, 0, none⟩), .int .i64 i, undef, undef, undef, undef, undef, undef, undef, undef, undef, undef, undef, undef, undef, undef, undef, undef, undef, undef, undef, undef, undef, undef, undef, undef, undef, undef, undef, undef, undef, undef, undef, undef, undef, undef, undef, undef], []⟩ Try.func31 (by kernel_rfl) (by kernel_rfl) ?_
  refine sy_sq (part_gat 2) (part_gat 3) ?_
  refine sy_reg ?_
  refine rg_plain 0 (opsAt (part_gat 2)) [0] (by kernel_rfl) (by kernel_rfl) ?_
  refine ps_k (o_gat 2 0) (.pointer none) ?_
  refine ps_end ?_
  refine then_n ?_
  refine sy_sq (part_gat 6) (part_gat 7) ?_
  refine sy_sq (part_gat 12) (part_gat 13) ?_
  refine sy_np ?_
  refine sy_reg ?_
  refine an_begin 1 20 (opsAt (part_gat 12)) (fun W => (W.heap[d.g]? = some (.cells (#[.func (.func 41) #[] #[], .slice (some ⟨d.s, 0, none⟩) d.n d.cap, .int .i64 ((d.low : Nat) : Int)]) 79 (0, 0)))) #[false, false, false, false, false, false, false, false, false, false, false, false, false, false, false, false, false, false, false, false] (by kernel_rfl) (by kernel_rfl) (by kernel_rfl) (by kernel_rfl) ?_
  obtain ⟨V6, eV6, kV6⟩ := drew_step w
  rw [eV6]
  clear eV6
  have h7 := kV6.bk H.ring
  have h8 := kV6.bk H.slots
  have K9 := K0.nn kV6
  have z10 := kV6.size
  refine an_k 0 (o_gat 12 0) (.int .i64 i) h7 ?_
  refine an_k 1 (o_gat 12 1) (.pointer (some ⟨d.g, 0, none⟩)) h7 ?_
  refine an_k 2 (o_gat 12 2) (.pointer (some ⟨d.g, 0, none⟩)) h7 ?_
  refine an_k 3 (o_gat 12 3) (.pointer (some ⟨d.g, 2, none⟩)) h7 ?_
  refine an_v 4 (o_gat 12 4) (iN d.low) (fun W hS => exec_load_cell 3 (.tmp 8) (by kernel_rfl) ⟨d.g, 2, none⟩ (by kernel_rfl) _ _ Try.underlying3 rfl (rc (hS) (by kernel_rfl))) h7 ?_
  refine an_v 5 (o_gat 12 5) (.bool false) (fun W hS => dcf (((i) : Int) < (((d.low : Nat) : Int))) (by omega)) h7 ?_
  refine an_k 6 (o_gat 12 6) (.bool false) h7 ?_
  refine an_k 7 (o_gat 12 7) (.int .i64 i) h7 ?_
  refine an_k 8 (o_gat 12 8) (.pointer (some ⟨d.g, 0, none⟩)) h7 ?_
  refine an_k 9 (o_gat 12 9) (.pointer (some ⟨d.g, 0, none⟩)) h7 ?_
  refine an_k 10 (o_gat 12 10) (.pointer (some ⟨d.g, 2, none⟩)) h7 ?_
  refine an_v 11 (o_gat 12 11) (iN d.low) (fun W hS => exec_load_cell 3 (.tmp 15) (by kernel_rfl) ⟨d.g, 2, none⟩ (by kernel_rfl) _ _ Try.underlying3 rfl (rc (hS) (by kernel_rfl))) h7 ?_
  refine an_k 12 (o_gat 12 12) (.pointer (some ⟨d.g, 0, none⟩)) h7 ?_
  refine an_k 13 (o_gat 12 13) (.pointer (some ⟨d.g, 0, none⟩)) h7 ?_
  refine an_k 14 (o_gat 12 14) (.pointer (some ⟨d.g, 1, none⟩)) h7 ?_
  refine an_v 15 (o_gat 12 15) (.slice (some ⟨d.s, 0, none⟩) d.n d.cap) (fun W hS => exec_load_cell 77 (.tmp 19) (by kernel_rfl) ⟨d.g, 1, none⟩ (by kernel_rfl) _ _ Try.underlying77 rfl (rc (hS) (by kernel_rfl))) h7 ?_
  refine an_v 16 (o_gat 12 16) (iN d.n) (fun W hS => exec_len (.tmp 20) 77 _ (by kernel_rfl) Try.underlying77 (some ⟨d.s, 0, none⟩) d.n d.cap (by kernel_rfl)) h7 ?_
  refine an_v 17 (o_gat 12 17) (iN (d.low + d.n)) (fun W hS => exec_cast (congrArg (Value.int .i64) (wrapN (d.low + d.n) (by omega))) (by kernel_rfl)) h7 ?_
  refine an_v 18 (o_gat 12 18) (.bool true) (fun W hS => dct (((i) : Int) ≥ (((d.low + d.n : Nat) : Int))) (by omega)) h7 ?_
  refine an_k 19 (o_gat 12 19) (.bool true) h7 ?_
  refine an_end (by kernel_rfl) ?_
  refine then_n ?_
  refine sy_ys (.tmp 24) (part_gat 26) (part_gat 27) ?_
  refine sy_sq (part_gat 52) (part_gat 53) ?_
  refine sy_reg ?_
  refine rg_plain 2 (opsAt (part_gat 52)) [0] (by kernel_rfl) (by kernel_rfl) ?_
  refine ps_k (o_gat 52 0) (.pointer none) ?_
  refine ps_end ?_
  refine then_n ?_
  refine sy_ret (by kernel_rfl) ?_
  refine then_r ?_
  refine sy_out (.pointer none) rfl (by kernel_rfl) ?_
  exact ⟨rfl, K9⟩
set_option maxRecDepth 100000 in
set_option maxHeartbeats 4000000 in
theorem gat_in (d : RD Att) (t : Nat) (w : World) (H : RingA w d) (h1 : d.low ≤ t) (h2 : t < d.low + d.n) :
    Calls Try.prog 31 #[.pointer (some ⟨d.g, 0, none⟩), .int .i64 ((t : Nat) : Int)] w (fun e w' => e = .returned (ptrV (d.S (t % d.n))) ∧ Keeps Nob w w') := by
  have hn0 := H.n1
  have hn2 := H.n2
  have hl2 := H.l2
  have hm := Nat.mod_lt t hn0
  have K0 : Keeps Nob w w := Keeps.refl _ _
  refine sy_enter (part_gat 1) ⟨#[.pointer (some ⟨d.g, 0, none⟩), iN t, undef, undef, undef, undef, undef, undef, undef, undef, undef, undef, undef, undef, undef, undef, undef, undef, undef, undef, undef, undef, undef, undef, undef, undef, undef, undef, undef, undef, undef, undef, undef, undef, undef, undef, undef, undef], []⟩ Try.func31 (by kernel_rfl) (by kernel_rfl) ?_
  refine sy_sq (part_gat 2) (part_gat 3) ?_
  refine sy_reg ?_
  refine rg_plain 0 (opsAt (part_gat 2)) [0] (by kernel_rfl) (by kernel_rfl) ?_
  refine ps_k (o_gat 2 0) (.pointer none) ?_
  refine ps_end ?_
  refine then_n ?_
  refine sy_sq (part_gat 6) (part_gat 7) ?_
  refine sy_sq (part_gat 12) (part_gat 13) ?_
  refine sy_np ?_
  refine sy_reg ?_
  refine an_begin 1 20 (opsAt (part_gat 12)) (fun W => (W.heap[d.g]? = some (.cells (#[.func (.func 41) #[] #[], .slice (some ⟨d.s, 0, none⟩) d.n d.cap, .int .i64 ((d.low : Nat) : Int)]) 79 (0, 0)))) #[false, false, false, false, false, false, false, false, false, false, false, false, false, false, false, false, false, false, false, false] (by kernel_rfl) (by kernel_rfl) (by kernel_rfl) (by kernel_rfl) ?_
  obtain ⟨V11, eV11, kV11⟩ := drew_step w
  rw [eV11]
  clear eV11
  have h12 := kV11.bk H.ring
  have h13 := kV11.bk H.slots
  have K14 := K0.nn kV11
  have z15 := kV11.size
  refine an_k 0 (o_gat 12 0) (iN t) h12 ?_
  refine an_k 1 (o_gat 12 1) (.pointer (some ⟨d.g, 0, none⟩)) h12 ?_
  refine an_k 2 (o_gat 12 2) (.pointer (some ⟨d.g, 0, none⟩)) h12 ?_
  refine an_k 3 (o_gat 12 3) (.pointer (some ⟨d.g, 2, none⟩)) h12 ?_
  refine an_v 4 (o_gat 12 4) (iN d.low) (fun W hS => exec_load_cell 3 (.tmp 8) (by kernel_rfl) ⟨d.g, 2, none⟩ (by kernel_rfl) _ _ Try.underlying3 rfl (rc (hS) (by kernel_rfl))) h12 ?_
  refine an_v 5 (o_gat 12 5) (.bool false) (fun W hS => dcf ((((t : Nat) : Int)) < (((d.low : Nat) : Int))) (by omega)) h12 ?_
  refine an_k 6 (o_gat 12 6) (.bool false) h12 ?_
  refine an_k 7 (o_gat 12 7) (iN t) h12 ?_
  refine an_k 8 (o_gat 12 8) (.pointer (some ⟨d.g, 0, none⟩)) h12 ?_
  refine an_k 9 (o_gat 12 9) (.pointer (some ⟨d.g, 0, none⟩)) h12 ?_
  refine an_k 10 (o_gat 12 10) (.pointer (some ⟨d.g, 2, none⟩)) h12 ?_
  refine an_v 11 (o_gat 12 11) (iN d.low) (fun W hS => exec_load_cell 3 (.tmp 15) (by kernel_rfl) ⟨d.g, 2, none⟩ (by kernel_rfl) _ _ Try.underlying3 rfl (rc (hS) (by kernel_rfl))) h12 ?_
  refine an_k 12 (o_gat 12 12) (.pointer (some ⟨d.g, 0, none⟩)) h12 ?_
  refine an_k 13 (o_gat 12 13) (.pointer (some ⟨d.g, 0, none⟩)) h12 ?_
  refine an_k 14 (o_gat 12 14) (.pointer (some ⟨d.g, 1, none⟩)) h12 ?_
  refine an_v 15 (o_gat 12 15) (.slice (some ⟨d.s, 0, none⟩) d.n d.cap) (fun W hS => exec_load_cell 77 (.tmp 19) (by kernel_rfl) ⟨d.g, 1, none⟩ (by kernel_rfl) _ _ Try.underlying77 rfl (rc (hS) (by kernel_rfl))) h12 ?_
  refine an_v 16 (o_gat 12 16) (iN d.n) (fun W hS => exec_len (.tmp 20) 77 _ (by kernel_rfl) Try.underlying77 (some ⟨d.s, 0, none⟩) d.n d.cap (by kernel_rfl)) h12 ?_
  refine an_v 17 (o_gat 12 17) (iN (d.low + d.n)) (fun W hS => exec_cast (congrArg (Value.int .i64) (wrapN (d.low + d.n) (by omega))) (by kernel_rfl)) h12 ?_
  refine an_v 18 (o_gat 12 18) (.bool false) (fun W hS => dcf ((((t : Nat) : Int)) ≥ (((d.low + d.n : Nat) : Int))) (by omega)) h12 ?_
  refine an_k 19 (o_gat 12 19) (.bool false) h12 ?_
  refine an_end (by kernel_rfl) ?_
  refine then_n ?_
  refine sy_n (.tmp 24) (part_gat 26) (part_gat 27) ?_
  refine sy_sk ?_
  refine then_n ?_
  refine sy_sq (part_gat 14) (part_gat 15) ?_
  refine sy_reg ?_
  refine rg_still 3 13 (opsAt (part_gat 14)) [o_gat 14 0, o_gat 14 1, o_gat 14 2, o_gat 14 3, o_gat 14 4, o_gat 14 5, o_gat 14 6, o_gat 14 7, o_gat 14 8, o_gat 14 9, o_gat 14 10, o_gat 14 11, o_gat 14 12] [o_gat 14 13] (by kernel_rfl) (by kernel_rfl) (by kernel_rfl) (by kernel_rfl) (by kernel_rfl) ?_
  obtain ⟨V17, eV17, kV17⟩ := drew_step V11
  rw [eV17]
  clear eV17
  have h18 := kV17.bk h12
  have h19 := kV17.bk h13
  have K20 := K14.nn kV17
  have z21 := kV17.size
  refine st_k (o_gat 14 0) (.pointer (some ⟨d.g, 0, none⟩)) ?_
  refine st_k (o_gat 14 1) (.pointer (some ⟨d.g, 0, none⟩)) ?_
  refine st_k (o_gat 14 2) (.pointer (some ⟨d.g, 1, none⟩)) ?_
  refine st_p (o_gat 14 3) (.slice (some ⟨d.s, 0, none⟩) d.n d.cap) (exec_load_cell 77 (.tmp 27) (by kernel_rfl) ⟨d.g, 1, none⟩ (by kernel_rfl) _ _ Try.underlying77 rfl (rc (h18) (by kernel_rfl))) ?_
  refine st_k (o_gat 14 4) (iN t) ?_
  refine st_k (o_gat 14 5) (.pointer (some ⟨d.g, 0, none⟩)) ?_
  refine st_k (o_gat 14 6) (.pointer (some ⟨d.g, 0, none⟩)) ?_
  refine st_k (o_gat 14 7) (.pointer (some ⟨d.g, 1, none⟩)) ?_
  refine st_p (o_gat 14 8) (.slice (some ⟨d.s, 0, none⟩) d.n d.cap) (exec_load_cell 77 (.tmp 32) (by kernel_rfl) ⟨d.g, 1, none⟩ (by kernel_rfl) _ _ Try.underlying77 rfl (rc (h18) (by kernel_rfl))) ?_
  refine st_p (o_gat 14 9) (iN d.n) (exec_len (.tmp 33) 77 _ (by kernel_rfl) Try.underlying77 (some ⟨d.s, 0, none⟩) d.n d.cap (by kernel_rfl)) ?_
  refine st_p (o_gat 14 10) (iN (t % d.n)) (exec_rem 3 3 (.tmp 29) (.tmp 34) (by kernel_rfl) t d.n (by kernel_rfl) (by kernel_rfl) hn0) ?_
  refine st_p (o_gat 14 11) (.pointer (some ⟨d.s, t % d.n, none⟩)) (exec_cast (v := .pointer (some ⟨d.s, 0 + (t % d.n) * 1, none⟩)) (by simp) (exec_indexAt_slice 77 (.tmp 28) (.tmp 35) (by kernel_rfl) d.s 0 d.n d.cap (by kernel_rfl) .i64 (t % d.n) (by kernel_rfl) _ 1 Try.underlying77 (by kernel_rfl) (by omega))) ?_
  refine st_p (o_gat 14 12) (ptrV (d.S (t % d.n))) (exec_load_cell 71 (.tmp 36) (by kernel_rfl) ⟨d.s, t % d.n, none⟩ (by kernel_rfl) _ _ Try.underlying71 rfl (rc (h19) ((Slots.get (Nat.mod_lt _ hn0)).trans (congrArg some (rfl))))) ?_
  refine st_end ?_
  refine ls_run (o_gat 14 13) (ptrV (d.S (t % d.n))) (w' := V17) (by kernel_rfl) (by kernel_rfl) ?_
  refine ls_end ?_
  refine sy_a ⟨#[.pointer (some ⟨d.g, 0, none⟩), iN t, undef, undef, ptrV (d.S (t % d.n)), iN t, .pointer (some ⟨d.g, 0, none⟩), .pointer (some ⟨d.g, 0, none⟩), .pointer (some ⟨d.g, 2, none⟩), iN d.low, .bool false, .bool false, iN t, .pointer (some ⟨d.g, 0, none⟩), .pointer (some ⟨d.g, 0, none⟩), .pointer (some ⟨d.g, 2, none⟩), iN d.low, .pointer (some ⟨d.g, 0, none⟩), .pointer (some ⟨d.g, 0, none⟩), .pointer (some ⟨d.g, 1, none⟩), .slice (some ⟨d.s, 0, none⟩) d.n d.cap, iN d.n, iN (d.low + d.n), .bool false, .bool false, .pointer (some ⟨d.g, 0, none⟩), .pointer (some ⟨d.g, 0, none⟩), .pointer (some ⟨d.g, 1, none⟩), .slice (some ⟨d.s, 0, none⟩) d.n d.cap, iN t, .pointer (some ⟨d.g, 0, none⟩), .pointer (some ⟨d.g, 0, none⟩), .pointer (some ⟨d.g, 1, none⟩), .slice (some ⟨d.s, 0, none⟩) d.n d.cap, iN d.n, iN (t % d.n), .pointer (some ⟨d.s, t % d.n, none⟩), ptrV (d.S (t % d.n))], []⟩ ?_
  refine then_n ?_
  refine sy_ret (by kernel_rfl) ?_
  refine sy_out (ptrV (d.S (t % d.n))) rfl (by kernel_rfl) ?_
  exact ⟨rfl, K20⟩
theorem gat_ok (d : RD Att) (i : Int) (w : World) (H : RingA w d) : Calls Try.prog 31 #[.pointer (some ⟨d.g, 0, none⟩), .int .i64 i] w fun e w' => e = .returned (ptrV (slotOf d i)) ∧ Keeps Nob w w' := by
  by_cases h1 : i < (d.low : Int)
  · rw [slotOf_low i h1]; exact gat_low d i w H h1
  · by_cases h2 : (d.low : Int) + d.n ≤ i
    · rw [slotOf_high i h2]; exact gat_high d i w H h2
    · obtain ⟨t, rfl⟩ : ∃ t : Nat, i = (t : Int) := ⟨i.toNat, by omega⟩
      rw [slotOf_in t (by omega) (by omega)]; exact gat_in d t w H (by omega) (by omega)
theorem gat_none {d : RD Att} (i : Int) (w : World) (H : RingA w d) (h : slotOf d i = none) : Calls Try.prog 31 #[.pointer (some ⟨d.g, 0, none⟩), .int .i64 i] w fun e w' => e = .returned (.pointer none) ∧ Keeps Nob w w' := by
  have := gat_ok d i w H; rwa [h] at this
theorem gat_some {d : RD Att} (i : Int) (p : Nat) (w : World) (H : RingA w d) (h : slotOf d i = some p) : Calls Try.prog 31 #[.pointer (some ⟨d.g, 0, none⟩), .int .i64 i] w fun e w' => e = .returned (.pointer (some ⟨p, 0, none⟩)) ∧ Keeps Nob w w' := by
  have := gat_ok d i w H; rwa [h] at this
noncomputable def part_gput (n : Nat) : Code := partOf Try.f34 n
noncomputable abbrev o_gput (n k : Nat) : Oper := (opsAt (part_gput n)).getD k default
set_option maxRecDepth 100000 in
set_option maxHeartbeats 4000000 in
theorem gput_low (d : RD Att) (a : Att) (w : World) (H : RingA w d) (ha : a.Ok) (hi : a.t < (d.low : Int)) :
    Calls Try.prog 34 #[.pointer (some ⟨d.g, 0, none⟩), .agg (Att.c a)] w (fun e w' => e = .returned (.int .i64 16) ∧ Keeps Nob w w') := by
  have hn0 := H.n1
  have hn2 := H.n2
  have hl2 := H.l2
  have K0 : Keeps Nob w w := Keeps.refl _ _
  refine sy_enter (part_gput 1) ⟨#[.pointer (some ⟨d.g, 0, none⟩), .agg (Att.c a), undef, undef, undef, undef, undef, undef, undef, undef, undef, undef, undef, undef, undef, undef, undef, undef, undef, undef, undef, undef, undef, undef, undef, undef, undef, undef, undef, undef, undef, undef, undef, undef, undef, undef, undef, undef, undef, undef, undef, undef, undef, undef, undef, undef, undef, undef, undef], []⟩ Try.func34 (by kernel_rfl) (by kernel_rfl) ?_
  refine sy_sq (part_gput 2) (part_gput 3) ?_
  refine sy_reg ?_
  refine rg_plain 0 (opsAt (part_gput 2)) [0, 1] (by kernel_rfl) (by kernel_rfl) ?_
  obtain ⟨V1, eV1, p, ep, h2, kV1⟩ := alloc_step w ((Att.c a)) 28
  have n3 : d.g < p := ep ▸ lt_of_block H.ring
  have n4 : w.heap.size ≤ p := ep ▸ K0.size
  refine ps_r (o_gput 2 0) (pT p 0) (w' := V1) (by rw [← eV1, ← ep]; exact exec_box 28 (.tmp 1) (by kernel_rfl) (.agg (Att.c a)) (by kernel_rfl)) ?_
  clear eV1
  have h5 := kV1.bk H.ring
  have K6 := K0.nn kV1
  have z7 := kV1.size
  refine ps_k (o_gput 2 1) (.int .i64 0) ?_
  refine ps_end ?_
  refine then_n ?_
  refine sy_sq (part_gput 6) (part_gput 7) ?_
  refine sy_np ?_
  refine sy_reg ?_
  refine an_begin 1 7 (opsAt (part_gput 6)) (fun W => (W.heap[d.g]? = some (.cells (#[.func (.func 41) #[] #[], .slice (some ⟨d.s, 0, none⟩) d.n d.cap, .int .i64 ((d.low : Nat) : Int)]) 79 (0, 0))) ∧ (W.heap[p]? = some (.cells (Att.c a) 28 (0, 0)))) #[false, false, false, false, false, false, false] (by kernel_rfl) (by kernel_rfl) (by kernel_rfl) (by kernel_rfl) ?_
  obtain ⟨V8, eV8, kV8⟩ := drew_step V1
  rw [eV8]
  clear eV8
  have h9 := kV8.bk h5
  have h10 := kV8.bk h2
  have K11 := K6.nn kV8
  have z12 := kV8.size
  refine an_k 0 (o_gput 6 0) (.pointer (some ⟨d.g, 0, none⟩)) ⟨h9, h10⟩ ?_
  refine an_k 1 (o_gput 6 1) (.pointer (some ⟨d.g, 0, none⟩)) ⟨h9, h10⟩ ?_
  refine an_k 2 (o_gput 6 2) (.pointer (some ⟨d.g, 0, none⟩)) ⟨h9, h10⟩ ?_
  refine an_v 3 (o_gput 6 3) (.func (.func 41) #[] #[]) (fun W hS => exec_load_cell 76 (.tmp 8) (by kernel_rfl) ⟨d.g, 0, none⟩ (by kernel_rfl) _ _ Try.underlying76 rfl (rc (hS.1) (by kernel_rfl))) ⟨h9, h10⟩ ?_
  refine an_v 4 (o_gput 6 4) (.agg (Att.c a)) (fun W hS => exec_load_row 28 (.tmp 3) (by kernel_rfl) p (by kernel_rfl) _ _ (0, 0) _ (hS.2) Try.underlying28 rfl (by rw [Att.c_size _ ha.r]; kernel_rfl)) ⟨h9, h10⟩ ?_
  refine an_o 5 ?_
  refine on_callV (o_gput 6 5) (.tmp 9) 41 #[] #[] #[.agg (Att.c a)] (by kernel_rfl) (by kernel_rfl) (by kernel_rfl) (by kernel_rfl) (by kernel_rfl) (enters_of Try.func41 (by kernel_rfl) rfl) ((qidx_ok a _ ha.r).mono ?_)
  rintro e V13 ⟨rfl, kV13⟩
  refine ⟨_, rfl, ?_⟩
  have h14 := kV13.bk h9
  have h15 := kV13.bk h10
  have K16 := K11.nn kV13
  have z17 := kV13.size
  refine ⟨⟨h14, h15⟩, ?_⟩
  refine an_o 6 ?_
  refine on_r (o_gput 6 6) (.int .i64 a.t) (w' := V13) (by kernel_rfl) ?_
  refine ⟨⟨h14, h15⟩, ?_⟩
  refine an_end (by kernel_rfl) ?_
  refine then_n ?_
  refine sy_sq (part_gput 14) (part_gput 15) ?_
  refine sy_bk 0 (part_gput 28) ?_
  refine sy_sq (part_gput 56) (part_gput 57) ?_
  refine sy_reg ?_
  refine rg_plain 2 (opsAt (part_gput 56)) [0, 1, 2, 3, 4, 5, 6] (by kernel_rfl) (by kernel_rfl) ?_
  refine ps_k (o_gput 56 0) (.int .i64 a.t) ?_
  refine ps_k (o_gput 56 1) (.pointer (some ⟨d.g, 0, none⟩)) ?_
  refine ps_k (o_gput 56 2) (.pointer (some ⟨d.g, 0, none⟩)) ?_
  refine ps_k (o_gput 56 3) (.pointer (some ⟨d.g, 2, none⟩)) ?_
  refine ps_p (o_gput 56 4) (iN d.low) (exec_load_cell 3 (.tmp 16) (by kernel_rfl) ⟨d.g, 2, none⟩ (by kernel_rfl) _ _ Try.underlying3 rfl (rc (h14) (by kernel_rfl))) ?_
  refine ps_p (o_gput 56 5) (.bool true) (dct (((a.t) : Int) < (((d.low : Nat) : Int))) (by omega)) ?_
  refine ps_k (o_gput 56 6) (.bool true) ?_
  refine ps_end ?_
  refine then_n ?_
  refine sy_ys (.tmp 12) (part_gput 114) (part_gput 115) ?_
  refine sy_sq (part_gput 228) (part_gput 229) ?_
  refine sy_reg ?_
  refine rg_plain 3 (opsAt (part_gput 228)) [0] (by kernel_rfl) (by kernel_rfl) ?_
  refine ps_k (o_gput 228 0) (.int .i64 16) ?_
  refine ps_end ?_
  refine then_n ?_
  refine sy_ret (by kernel_rfl) ?_
  refine blk_r ?_
  refine then_r ?_
  refine sy_out (.int .i64 16) rfl (by kernel_rfl) ?_
  exact ⟨rfl, K16⟩
set_option maxRecDepth 100000 in
set_option maxHeartbeats 4000000 in
theorem gput_high (d : RD Att) (a : Att) (w : World) (H : RingA w d) (ha : a.Ok) (hi : (d.low : Int) + d.n ≤ a.t) :
    Calls Try.prog 34 #[.pointer (some ⟨d.g, 0, none⟩), .agg (Att.c a)] w (fun e w' => e = .returned (.int .i64 17) ∧ Keeps Nob w w') := by
  have hn0 := H.n1
  have hn2 := H.n2
  have hl2 := H.l2
  have K0 : Keeps Nob w w := Keeps.refl _ _
  refine sy_enter (part_gput 1) ⟨#[.pointer (some ⟨d.g, 0, none⟩), .agg (Att.c a), undef, undef, undef, undef, undef, undef, undef, undef, undef, undef, undef, undef, undef, undef, undef, undef, undef, undef, undef, undef, undef, undef, undef, undef, undef, undef, undef, undef, undef, undef, undef, undef, undef, undef, undef, undef, undef, undef, undef, undef, undef, undef, undef, undef, undef, undef, undef], []⟩ Try.func34 (by kernel_rfl) (by kernel_rfl) ?_
  refine sy_sq (part_gput 2) (part_gput 3) ?_
  refine sy_reg ?_
  refine rg_plain 0 (opsAt (part_gput 2)) [0, 1] (by kernel_rfl) (by kernel_rfl) ?_
  obtain ⟨V18, eV18, p, ep, h19, kV18⟩ := alloc_step w ((Att.c a)) 28
  have n20 : d.g < p := ep ▸ lt_of_block H.ring
  have n21 : w.heap.size ≤ p := ep ▸ K0.size
  refine ps_r (o_gput 2 0) (pT p 0) (w' := V18) (by rw [← eV18, ← ep]; exact exec_box 28 (.tmp 1) (by kernel_rfl) (.agg (Att.c a)) (by kernel_rfl)) ?_
  clear eV18
  have h22 := kV18.bk H.ring
  have K23 := K0.nn kV18
  have z24 := kV18.size
  refine ps_k (o_gput 2 1) (.int .i64 0) ?_
  refine ps_end ?_
  refine then_n ?_
  refine sy_sq (part_gput 6) (part_gput 7) ?_
  refine sy_np ?_
  refine sy_reg ?_
  refine an_begin 1 7 (opsAt (part_gput 6)) (fun W => (W.heap[d.g]? = some (.cells (#[.func (.func 41) #[] #[], .slice (some ⟨d.s, 0, none⟩) d.n d.cap, .int .i64 ((d.low : Nat) : Int)]) 79 (0, 0))) ∧ (W.heap[p]? = some (.cells (Att.c a) 28 (0, 0)))) #[false, false, false, false, false, false, false] (by kernel_rfl) (by kernel_rfl) (by kernel_rfl) (by kernel_rfl) ?_
  obtain ⟨V25, eV25, kV25⟩ := drew_step V18
  rw [eV25]
  clear eV25
  have h26 := kV25.bk h22
  have h27 := kV25.bk h19
  have K28 := K23.nn kV25
  have z29 := kV25.size
  refine an_k 0 (o_gput 6 0) (.pointer (some ⟨d.g, 0, none⟩)) ⟨h26, h27⟩ ?_
  refine an_k 1 (o_gput 6 1) (.pointer (some ⟨d.g, 0, none⟩)) ⟨h26, h27⟩ ?_
  refine an_k 2 (o_gput 6 2) (.pointer (some ⟨d.g, 0, none⟩)) ⟨h26, h27⟩ ?_
  refine an_v 3 (o_gput 6 3) (.func (.func 41) #[] #[]) (fun W hS => exec_load_cell 76 (.tmp 8) (by kernel_rfl) ⟨d.g, 0, none⟩ (by kernel_rfl) _ _ Try.underlying76 rfl (rc (hS.1) (by kernel_rfl))) ⟨h26, h27⟩ ?_
  refine an_v 4 (o_gput 6 4) (.agg (Att.c a)) (fun W hS => exec_load_row 28 (.tmp 3) (by kernel_rfl) p (by kernel_rfl) _ _ (0, 0) _ (hS.2) Try.underlying28 rfl (by rw [Att.c_size _ ha.r]; kernel_rfl)) ⟨h26, h27⟩ ?_
  refine an_o 5 ?_
  refine on_callV (o_gput 6 5) (.tmp 9) 41 #[] #[] #[.agg (Att.c a)] (by kernel_rfl) (by kernel_rfl) (by kernel_rfl) (by kernel_rfl) (by kernel_rfl) (enters_of Try.func41 (by kernel_rfl) rfl) ((qidx_ok a _ ha.r).mono ?_)
  rintro e V30 ⟨rfl, kV30⟩
  refine ⟨_, rfl, ?_⟩
  have h31 := kV30.bk h26
  have h32 := kV30.bk h27
  have K33 := K28.nn kV30
  have z34 := kV30.size
  refine ⟨⟨h31, h32⟩, ?_⟩
  refine an_o 6 ?_
  refine on_r (o_gput 6 6) (.int .i64 a.t) (w' := V30) (by kernel_rfl) ?_
  refine ⟨⟨h31, h32⟩, ?_⟩
  refine an_end (by kernel_rfl) ?_
  refine then_n ?_
  refine sy_sq (part_gput 14) (part_gput 15) ?_
  refine sy_bk 0 (part_gput 28) ?_
  refine sy_sq (part_gput 56) (part_gput 57) ?_
  refine sy_reg ?_
  refine rg_plain 2 (opsAt (part_gput 56)) [0, 1, 2, 3, 4, 5, 6] (by kernel_rfl) (by kernel_rfl) ?_
  refine ps_k (o_gput 56 0) (.int .i64 a.t) ?_
  refine ps_k (o_gput 56 1) (.pointer (some ⟨d.g, 0, none⟩)) ?_
  refine ps_k (o_gput 56 2) (.pointer (some ⟨d.g, 0, none⟩)) ?_
  refine ps_k (o_gput 56 3) (.pointer (some ⟨d.g, 2, none⟩)) ?_
  refine ps_p (o_gput 56 4) (iN d.low) (exec_load_cell 3 (.tmp 16) (by kernel_rfl) ⟨d.g, 2, none⟩ (by kernel_rfl) _ _ Try.underlying3 rfl (rc (h31) (by kernel_rfl))) ?_
  refine ps_p (o_gput 56 5) (.bool false) (dcf (((a.t) : Int) < (((d.low : Nat) : Int))) (by omega)) ?_
  refine ps_k (o_gput 56 6) (.bool false) ?_
  refine ps_end ?_
  refine then_n ?_
  refine sy_n (.tmp 12) (part_gput 114) (part_gput 115) ?_
  refine sy_sq (part_gput 230) (part_gput 231) ?_
  refine sy_np ?_
  refine sy_reg ?_
  refine an_begin 4 13 (opsAt (part_gput 230)) (fun W => (W.heap[d.g]? = some (.cells (#[.func (.func 41) #[] #[], .slice (some ⟨d.s, 0, none⟩) d.n d.cap, .int .i64 ((d.low : Nat) : Int)]) 79 (0, 0)))) #[false, false, false, false, false, false, false, false, false, false, false, false, false] (by kernel_rfl) (by kernel_rfl) (by kernel_rfl) (by kernel_rfl) ?_
  obtain ⟨V35, eV35, kV35⟩ := drew_step V30
  rw [eV35]
  clear eV35
  have h36 := kV35.bk h31
  have h37 := kV35.bk h32
  have K38 := K33.nn kV35
  have z39 := kV35.size
  refine an_k 0 (o_gput 230 0) (.int .i64 a.t) h36 ?_
  refine an_k 1 (o_gput 230 1) (.pointer (some ⟨d.g, 0, none⟩)) h36 ?_
  refine an_k 2 (o_gput 230 2) (.pointer (some ⟨d.g, 0, none⟩)) h36 ?_
  refine an_k 3 (o_gput 230 3) (.pointer (some ⟨d.g, 2, none⟩)) h36 ?_
  refine an_v 4 (o_gput 230 4) (iN d.low) (fun W hS => exec_load_cell 3 (.tmp 23) (by kernel_rfl) ⟨d.g, 2, none⟩ (by kernel_rfl) _ _ Try.underlying3 rfl (rc (hS) (by kernel_rfl))) h36 ?_
  refine an_k 5 (o_gput 230 5) (.pointer (some ⟨d.g, 0, none⟩)) h36 ?_
  refine an_k 6 (o_gput 230 6) (.pointer (some ⟨d.g, 0, none⟩)) h36 ?_
  refine an_k 7 (o_gput 230 7) (.pointer (some ⟨d.g, 1, none⟩)) h36 ?_
  refine an_v 8 (o_gput 230 8) (.slice (some ⟨d.s, 0, none⟩) d.n d.cap) (fun W hS => exec_load_cell 77 (.tmp 27) (by kernel_rfl) ⟨d.g, 1, none⟩ (by kernel_rfl) _ _ Try.underlying77 rfl (rc (hS) (by kernel_rfl))) h36 ?_
  refine an_v 9 (o_gput 230 9) (iN d.n) (fun W hS => exec_len (.tmp 28) 77 _ (by kernel_rfl) Try.underlying77 (some ⟨d.s, 0, none⟩) d.n d.cap (by kernel_rfl)) h36 ?_
  refine an_v 10 (o_gput 230 10) (iN (d.low + d.n)) (fun W hS => exec_cast (congrArg (Value.int .i64) (wrapN (d.low + d.n) (by omega))) (by kernel_rfl)) h36 ?_
  refine an_v 11 (o_gput 230 11) (.bool true) (fun W hS => dct (((a.t) : Int) ≥ (((d.low + d.n : Nat) : Int))) (by omega)) h36 ?_
  refine an_o 12 ?_
  refine on_r (o_gput 230 12) (.bool true) (w' := V35) (by kernel_rfl) ?_
  refine ⟨h36, ?_⟩
  refine an_end (by kernel_rfl) ?_
  refine sy_a ⟨#[.pointer (some ⟨d.g, 0, none⟩), .agg (Att.c a), undef, pT p 0, .int .i64 0, .int .i64 a.t, .pointer (some ⟨d.g, 0, none⟩), .pointer (some ⟨d.g, 0, none⟩), .pointer (some ⟨d.g, 0, none⟩), .func (.func 41) #[] #[], .agg (Att.c a), .int .i64 a.t, .bool false, .int .i64 a.t, .pointer (some ⟨d.g, 0, none⟩), .pointer (some ⟨d.g, 0, none⟩), .pointer (some ⟨d.g, 2, none⟩), iN d.low, .bool false, .bool true, .int .i64 a.t, .pointer (some ⟨d.g, 0, none⟩), .pointer (some ⟨d.g, 0, none⟩), .pointer (some ⟨d.g, 2, none⟩), iN d.low, .pointer (some ⟨d.g, 0, none⟩), .pointer (some ⟨d.g, 0, none⟩), .pointer (some ⟨d.g, 1, none⟩), .slice (some ⟨d.s, 0, none⟩) d.n d.cap, iN d.n, iN (d.low + d.n), .bool true, undef, undef, undef, undef, undef, undef, undef, undef, undef, undef, undef, undef, undef, undef, undef, undef, undef], []⟩ ?_
  refine then_n ?_
  refine sy_ys (.tmp 19) (part_gput 462) (part_gput 463) ?_
  refine sy_sq (part_gput 924) (part_gput 925) ?_
  refine sy_reg ?_
  refine rg_plain 5 (opsAt (part_gput 924)) [0] (by kernel_rfl) (by kernel_rfl) ?_
  refine ps_k (o_gput 924 0) (.int .i64 17) ?_
  refine ps_end ?_
  refine then_n ?_
  refine sy_ret (by kernel_rfl) ?_
  refine blk_r ?_
  refine then_r ?_
  refine sy_out (.int .i64 17) rfl (by kernel_rfl) ?_
  exact ⟨rfl, K38⟩
set_option maxRecDepth 100000 in
set_option maxHeartbeats 4000000 in
theorem gput_double (d : RD Att) (a : Att) (t q : Nat) (w : World) (H : RingA w d) (ha : a.Ok) (ht : a.t = ((t : Nat) : Int)) (h1 : d.low ≤ t) (h2 : t < d.low + d.n) (hs : slotOf d ((t : Nat) : Int) = some q) :
    Calls Try.prog 34 #[.pointer (some ⟨d.g, 0, none⟩), .agg (Att.c a)] w (fun e w' => e = .returned (.int .i64 8) ∧ Keeps Nob w w') := by
  have hn0 := H.n1
  have hn2 := H.n2
  have hl2 := H.l2
  have K0 : Keeps Nob w w := Keeps.refl _ _
  refine sy_enter (part_gput 1) ⟨#[.pointer (some ⟨d.g, 0, none⟩), .agg (Att.c a), undef, undef, undef, undef, undef, undef, undef, undef, undef, undef, undef, undef, undef, undef, undef, undef, undef, undef, undef, undef, undef, undef, undef, undef, undef, undef, undef, undef, undef, undef, undef, undef, undef, undef, undef, undef, undef, undef, undef, undef, undef, undef, undef, undef, undef, undef, undef], []⟩ Try.func34 (by kernel_rfl) (by kernel_rfl) ?_
  refine sy_sq (part_gput 2) (part_gput 3) ?_
  refine sy_reg ?_
  refine rg_plain 0 (opsAt (part_gput 2)) [0, 1] (by kernel_rfl) (by kernel_rfl) ?_
  obtain ⟨V40, eV40, p, ep, h41, kV40⟩ := alloc_step w ((Att.c a)) 28
  have n42 : d.g < p := ep ▸ lt_of_block H.ring
  have n43 : w.heap.size ≤ p := ep ▸ K0.size
  refine ps_r (o_gput 2 0) (pT p 0) (w' := V40) (by rw [← eV40, ← ep]; exact exec_box 28 (.tmp 1) (by kernel_rfl) (.agg (Att.c a)) (by kernel_rfl)) ?_
  clear eV40
  have h44 := kV40.bk H.ring
  have h45 : RingA V40 d := H.keepsN kV40
  have K46 := K0.nn kV40
  have z47 := kV40.size
  refine ps_k (o_gput 2 1) (.int .i64 0) ?_
  refine ps_end ?_
  refine then_n ?_
  refine sy_sq (part_gput 6) (part_gput 7) ?_
  refine sy_np ?_
  refine sy_reg ?_
  refine an_begin 1 7 (opsAt (part_gput 6)) (fun W => (W.heap[d.g]? = some (.cells (#[.func (.func 41) #[] #[], .slice (some ⟨d.s, 0, none⟩) d.n d.cap, .int .i64 ((d.low : Nat) : Int)]) 79 (0, 0))) ∧ (W.heap[p]? = some (.cells (Att.c a) 28 (0, 0)))) #[false, false, false, false, false, false, false] (by kernel_rfl) (by kernel_rfl) (by kernel_rfl) (by kernel_rfl) ?_
  obtain ⟨V48, eV48, kV48⟩ := drew_step V40
  rw [eV48]
  clear eV48
  have h49 := kV48.bk h44
  have h50 : RingA V48 d := h45.keepsN kV48
  have h51 := kV48.bk h41
  have K52 := K46.nn kV48
  have z53 := kV48.size
  refine an_k 0 (o_gput 6 0) (.pointer (some ⟨d.g, 0, none⟩)) ⟨h49, h51⟩ ?_
  refine an_k 1 (o_gput 6 1) (.pointer (some ⟨d.g, 0, none⟩)) ⟨h49, h51⟩ ?_
  refine an_k 2 (o_gput 6 2) (.pointer (some ⟨d.g, 0, none⟩)) ⟨h49, h51⟩ ?_
  refine an_v 3 (o_gput 6 3) (.func (.func 41) #[] #[]) (fun W hS => exec_load_cell 76 (.tmp 8) (by kernel_rfl) ⟨d.g, 0, none⟩ (by kernel_rfl) _ _ Try.underlying76 rfl (rc (hS.1) (by kernel_rfl))) ⟨h49, h51⟩ ?_
  refine an_v 4 (o_gput 6 4) (.agg (Att.c a)) (fun W hS => exec_load_row 28 (.tmp 3) (by kernel_rfl) p (by kernel_rfl) _ _ (0, 0) _ (hS.2) Try.underlying28 rfl (by rw [Att.c_size _ ha.r]; kernel_rfl)) ⟨h49, h51⟩ ?_
  refine an_o 5 ?_
  refine on_callV (o_gput 6 5) (.tmp 9) 41 #[] #[] #[.agg (Att.c a)] (by kernel_rfl) (by kernel_rfl) (by kernel_rfl) (by kernel_rfl) (by kernel_rfl) (enters_of Try.func41 (by kernel_rfl) rfl) ((qidx_as a t _ ha.r ht).mono ?_)
  rintro e V54 ⟨rfl, kV54⟩
  refine ⟨_, rfl, ?_⟩
  have h55 := kV54.bk h49
  have h56 : RingA V54 d := h50.keepsN kV54
  have h57 := kV54.bk h51
  have K58 := K52.nn kV54
  have z59 := kV54.size
  refine ⟨⟨h55, h57⟩, ?_⟩
  refine an_o 6 ?_
  refine on_r (o_gput 6 6) (iN t) (w' := V54) (by kernel_rfl) ?_
  refine ⟨⟨h55, h57⟩, ?_⟩
  refine an_end (by kernel_rfl) ?_
  refine then_n ?_
  refine sy_sq (part_gput 14) (part_gput 15) ?_
  refine sy_bk 0 (part_gput 28) ?_
  refine sy_sq (part_gput 56) (part_gput 57) ?_
  refine sy_reg ?_
  refine rg_plain 2 (opsAt (part_gput 56)) [0, 1, 2, 3, 4, 5, 6] (by kernel_rfl) (by kernel_rfl) ?_
  refine ps_k (o_gput 56 0) (iN t) ?_
  refine ps_k (o_gput 56 1) (.pointer (some ⟨d.g, 0, none⟩)) ?_
  refine ps_k (o_gput 56 2) (.pointer (some ⟨d.g, 0, none⟩)) ?_
  refine ps_k (o_gput 56 3) (.pointer (some ⟨d.g, 2, none⟩)) ?_
  refine ps_p (o_gput 56 4) (iN d.low) (exec_load_cell 3 (.tmp 16) (by kernel_rfl) ⟨d.g, 2, none⟩ (by kernel_rfl) _ _ Try.underlying3 rfl (rc (h55) (by kernel_rfl))) ?_
  refine ps_p (o_gput 56 5) (.bool false) (dcf ((((t : Nat) : Int)) < (((d.low : Nat) : Int))) (by omega)) ?_
  refine ps_k (o_gput 56 6) (.bool false) ?_
  refine ps_end ?_
  refine then_n ?_
  refine sy_n (.tmp 12) (part_gput 114) (part_gput 115) ?_
  refine sy_sq (part_gput 230) (part_gput 231) ?_
  refine sy_np ?_
  refine sy_reg ?_
  refine an_begin 4 13 (opsAt (part_gput 230)) (fun W => (W.heap[d.g]? = some (.cells (#[.func (.func 41) #[] #[], .slice (some ⟨d.s, 0, none⟩) d.n d.cap, .int .i64 ((d.low : Nat) : Int)]) 79 (0, 0)))) #[false, false, false, false, false, false, false, false, false, false, false, false, false] (by kernel_rfl) (by kernel_rfl) (by kernel_rfl) (by kernel_rfl) ?_
  obtain ⟨V60, eV60, kV60⟩ := drew_step V54
  rw [eV60]
  clear eV60
  have h61 := kV60.bk h55
  have h62 : RingA V60 d := h56.keepsN kV60
  have h63 := kV60.bk h57
  have K64 := K58.nn kV60
  have z65 := kV60.size
  refine an_k 0 (o_gput 230 0) (iN t) h61 ?_
  refine an_k 1 (o_gput 230 1) (.pointer (some ⟨d.g, 0, none⟩)) h61 ?_
  refine an_k 2 (o_gput 230 2) (.pointer (some ⟨d.g, 0, none⟩)) h61 ?_
  refine an_k 3 (o_gput 230 3) (.pointer (some ⟨d.g, 2, none⟩)) h61 ?_
  refine an_v 4 (o_gput 230 4) (iN d.low) (fun W hS => exec_load_cell 3 (.tmp 23) (by kernel_rfl) ⟨d.g, 2, none⟩ (by kernel_rfl) _ _ Try.underlying3 rfl (rc (hS) (by kernel_rfl))) h61 ?_
  refine an_k 5 (o_gput 230 5) (.pointer (some ⟨d.g, 0, none⟩)) h61 ?_
  refine an_k 6 (o_gput 230 6) (.pointer (some ⟨d.g, 0, none⟩)) h61 ?_
  refine an_k 7 (o_gput 230 7) (.pointer (some ⟨d.g, 1, none⟩)) h61 ?_
  refine an_v 8 (o_gput 230 8) (.slice (some ⟨d.s, 0, none⟩) d.n d.cap) (fun W hS => exec_load_cell 77 (.tmp 27) (by kernel_rfl) ⟨d.g, 1, none⟩ (by kernel_rfl) _ _ Try.underlying77 rfl (rc (hS) (by kernel_rfl))) h61 ?_
  refine an_v 9 (o_gput 230 9) (iN d.n) (fun W hS => exec_len (.tmp 28) 77 _ (by kernel_rfl) Try.underlying77 (some ⟨d.s, 0, none⟩) d.n d.cap (by kernel_rfl)) h61 ?_
  refine an_v 10 (o_gput 230 10) (iN (d.low + d.n)) (fun W hS => exec_cast (congrArg (Value.int .i64) (wrapN (d.low + d.n) (by omega))) (by kernel_rfl)) h61 ?_
  refine an_v 11 (o_gput 230 11) (.bool false) (fun W hS => dcf ((((t : Nat) : Int)) ≥ (((d.low + d.n : Nat) : Int))) (by omega)) h61 ?_
  refine an_o 12 ?_
  refine on_r (o_gput 230 12) (.bool false) (w' := V60) (by kernel_rfl) ?_
  refine ⟨h61, ?_⟩
  refine an_end (by kernel_rfl) ?_
  refine sy_a ⟨#[.pointer (some ⟨d.g, 0, none⟩), .agg (Att.c a), undef, pT p 0, .int .i64 0, iN t, .pointer (some ⟨d.g, 0, none⟩), .pointer (some ⟨d.g, 0, none⟩), .pointer (some ⟨d.g, 0, none⟩), .func (.func 41) #[] #[], .agg (Att.c a), iN t, .bool false, iN t, .pointer (some ⟨d.g, 0, none⟩), .pointer (some ⟨d.g, 0, none⟩), .pointer (some ⟨d.g, 2, none⟩), iN d.low, .bool false, .bool false, iN t, .pointer (some ⟨d.g, 0, none⟩), .pointer (some ⟨d.g, 0, none⟩), .pointer (some ⟨d.g, 2, none⟩), iN d.low, .pointer (some ⟨d.g, 0, none⟩), .pointer (some ⟨d.g, 0, none⟩), .pointer (some ⟨d.g, 1, none⟩), .slice (some ⟨d.s, 0, none⟩) d.n d.cap, iN d.n, iN (d.low + d.n), .bool false, undef, undef, undef, undef, undef, undef, undef, undef, undef, undef, undef, undef, undef, undef, undef, undef, undef], []⟩ ?_
  refine then_n ?_
  refine sy_n (.tmp 19) (part_gput 462) (part_gput 463) ?_
  refine sy_sq (part_gput 926) (part_gput 927) ?_
  refine sy_reg ?_
  refine rg_plain 6 (opsAt (part_gput 926)) [0, 1, 2, 3, 4] (by kernel_rfl) (by kernel_rfl) ?_
  refine ps_k (o_gput 926 0) (.pointer (some ⟨d.g, 0, none⟩)) ?_
  refine ps_k (o_gput 926 1) (iN t) ?_
  refine ps_c (o_gput 926 2) 31 #[.pointer (some ⟨d.g, 0, none⟩), iN t] Try.func31 ((gat_some _ q _ h62 hs).mono ?_)
  rintro e V66 ⟨rfl, kV66⟩
  refine ⟨_, rfl, ?_⟩
  have h67 := kV66.bk h61
  have h68 : RingA V66 d := h62.keepsN kV66
  have h69 := kV66.bk h63
  have K70 := K64.nn kV66
  have z71 := kV66.size
  skip
  refine ps_k (o_gput 926 3) (.bool true) ?_
  refine ps_k (o_gput 926 4) (.bool true) ?_
  refine ps_end ?_
  refine then_n ?_
  refine sy_ys (.tmp 32) (part_gput 1854) (part_gput 1855) ?_
  refine sy_sq (part_gput 3708) (part_gput 3709) ?_
  refine sy_reg ?_
  refine rg_plain 7 (opsAt (part_gput 3708)) [0] (by kernel_rfl) (by kernel_rfl) ?_
  refine ps_k (o_gput 3708 0) (.int .i64 8) ?_
  refine ps_end ?_
  refine then_n ?_
  refine sy_ret (by kernel_rfl) ?_
  refine blk_r ?_
  refine then_r ?_
  refine sy_out (.int .i64 8) rfl (by kernel_rfl) ?_
  exact ⟨rfl, K70⟩
set_option maxRecDepth 100000 in
set_option maxHeartbeats 4000000 in
theorem gput_new (d : RD Att) (a : Att) (t : Nat) (w : World) (H : RingA w d) (ha : a.Ok) (ht : a.t = ((t : Nat) : Int)) (h1 : d.low ≤ t) (h2 : t < d.low + d.n) (hs : slotOf d ((t : Nat) : Int) = none) :
    Calls Try.prog 34 #[.pointer (some ⟨d.g, 0, none⟩), .agg (Att.c a)] w (fun e w' => e = .returned (.int .i64 0) ∧ ∃ p, RingA w' { d with V := upV d.V ((t : Nat) : Int) a, S := upS d.S (t % d.n) (some p) } ∧ Keeps (One d.s) w w') := by
  have hn0 := H.n1
  have hn2 := H.n2
  have hl2 := H.l2
  have hm := Nat.mod_lt t hn0
  have hgs : d.g ≠ d.s := fun e => by have h1 := H.ring; rw [e, H.slots] at h1; simp only [Option.some.injEq, Obj.cells.injEq] at h1; exact absurd h1.2.1 (by decide)
  have K0 : Keeps (One d.s) w w := Keeps.refl _ _
  refine sy_enter (part_gput 1) ⟨#[.pointer (some ⟨d.g, 0, none⟩), .agg (Att.c a), undef, undef, undef, undef, undef, undef, undef, undef, undef, undef, undef, undef, undef, undef, undef, undef, undef, undef, undef, undef, undef, undef, undef, undef, undef, undef, undef, undef, undef, undef, undef, undef, undef, undef, undef, undef, undef, undef, undef, undef, undef, undef, undef, undef, undef, undef, undef], []⟩ Try.func34 (by kernel_rfl) (by kernel_rfl) ?_
  refine sy_sq (part_gput 2) (part_gput 3) ?_
  refine sy_reg ?_
  refine rg_plain 0 (opsAt (part_gput 2)) [0, 1] (by kernel_rfl) (by kernel_rfl) ?_
  obtain ⟨V72, eV72, p, ep, h73, kV72⟩ := alloc_step w ((Att.c a)) 28
  have n74 : d.g < p := ep ▸ lt_of_block H.ring
  have n75 : d.s < p := ep ▸ lt_of_block H.slots
  have n76 : w.heap.size ≤ p := ep ▸ K0.size
  refine ps_r (o_gput 2 0) (pT p 0) (w' := V72) (by rw [← eV72, ← ep]; exact exec_box 28 (.tmp 1) (by kernel_rfl) (.agg (Att.c a)) (by kernel_rfl)) ?_
  clear eV72
  have h77 := kV72.bk H.ring
  have h78 := kV72.bk H.slots
  have h79 : RingA V72 d := H.keepsN kV72
  have h80 : ∀ (j : Nat) (cs : Array Value), w.heap[j]? = some (.cells cs 28 (0, 0)) → V72.heap[j]? = some (.cells cs 28 (0, 0)) := fun j cs e => kV72.odd (Odd.nob _) ((fun _ _ e => e) j cs e)
  have K81 := K0.nn kV72
  have z82 := kV72.size
  refine ps_k (o_gput 2 1) (.int .i64 0) ?_
  refine ps_end ?_
  refine then_n ?_
  refine sy_sq (part_gput 6) (part_gput 7) ?_
  refine sy_np ?_
  refine sy_reg ?_
  refine an_begin 1 7 (opsAt (part_gput 6)) (fun W => (W.heap[d.g]? = some (.cells (#[.func (.func 41) #[] #[], .slice (some ⟨d.s, 0, none⟩) d.n d.cap, .int .i64 ((d.low : Nat) : Int)]) 79 (0, 0))) ∧ (W.heap[p]? = some (.cells (Att.c a) 28 (0, 0)))) #[false, false, false, false, false, false, false] (by kernel_rfl) (by kernel_rfl) (by kernel_rfl) (by kernel_rfl) ?_
  obtain ⟨V83, eV83, kV83⟩ := drew_step V72
  rw [eV83]
  clear eV83
  have h84 := kV83.bk h77
  have h85 := kV83.bk h78
  have h86 : RingA V83 d := h79.keepsN kV83
  have h87 : ∀ (j : Nat) (cs : Array Value), w.heap[j]? = some (.cells cs 28 (0, 0)) → V83.heap[j]? = some (.cells cs 28 (0, 0)) := fun j cs e => kV83.odd (Odd.nob _) (h80 j cs e)
  have h88 := kV83.bk h73
  have K89 := K81.nn kV83
  have z90 := kV83.size
  refine an_k 0 (o_gput 6 0) (.pointer (some ⟨d.g, 0, none⟩)) ⟨h84, h88⟩ ?_
  refine an_k 1 (o_gput 6 1) (.pointer (some ⟨d.g, 0, none⟩)) ⟨h84, h88⟩ ?_
  refine an_k 2 (o_gput 6 2) (.pointer (some ⟨d.g, 0, none⟩)) ⟨h84, h88⟩ ?_
  refine an_v 3 (o_gput 6 3) (.func (.func 41) #[] #[]) (fun W hS => exec_load_cell 76 (.tmp 8) (by kernel_rfl) ⟨d.g, 0, none⟩ (by kernel_rfl) _ _ Try.underlying76 rfl (rc (hS.1) (by kernel_rfl))) ⟨h84, h88⟩ ?_
  refine an_v 4 (o_gput 6 4) (.agg (Att.c a)) (fun W hS => exec_load_row 28 (.tmp 3) (by kernel_rfl) p (by kernel_rfl) _ _ (0, 0) _ (hS.2) Try.underlying28 rfl (by rw [Att.c_size _ ha.r]; kernel_rfl)) ⟨h84, h88⟩ ?_
  refine an_o 5 ?_
  refine on_callV (o_gput 6 5) (.tmp 9) 41 #[] #[] #[.agg (Att.c a)] (by kernel_rfl) (by kernel_rfl) (by kernel_rfl) (by kernel_rfl) (by kernel_rfl) (enters_of Try.func41 (by kernel_rfl) rfl) ((qidx_as a t _ ha.r ht).mono ?_)
  rintro e V91 ⟨rfl, kV91⟩
  refine ⟨_, rfl, ?_⟩
  have h92 := kV91.bk h84
  have h93 := kV91.bk h85
  have h94 : RingA V91 d := h86.keepsN kV91
  have h95 : ∀ (j : Nat) (cs : Array Value), w.heap[j]? = some (.cells cs 28 (0, 0)) → V91.heap[j]? = some (.cells cs 28 (0, 0)) := fun j cs e => kV91.odd (Odd.nob _) (h87 j cs e)
  have h96 := kV91.bk h88
  have K97 := K89.nn kV91
  have z98 := kV91.size
  refine ⟨⟨h92, h96⟩, ?_⟩
  refine an_o 6 ?_
  refine on_r (o_gput 6 6) (iN t) (w' := V91) (by kernel_rfl) ?_
  refine ⟨⟨h92, h96⟩, ?_⟩
  refine an_end (by kernel_rfl) ?_
  refine then_n ?_
  refine sy_sq (part_gput 14) (part_gput 15) ?_
  refine sy_bk 0 (part_gput 28) ?_
  refine sy_sq (part_gput 56) (part_gput 57) ?_
  refine sy_reg ?_
  refine rg_plain 2 (opsAt (part_gput 56)) [0, 1, 2, 3, 4, 5, 6] (by kernel_rfl) (by kernel_rfl) ?_
  refine ps_k (o_gput 56 0) (iN t) ?_
  refine ps_k (o_gput 56 1) (.pointer (some ⟨d.g, 0, none⟩)) ?_
  refine ps_k (o_gput 56 2) (.pointer (some ⟨d.g, 0, none⟩)) ?_
  refine ps_k (o_gput 56 3) (.pointer (some ⟨d.g, 2, none⟩)) ?_
  refine ps_p (o_gput 56 4) (iN d.low) (exec_load_cell 3 (.tmp 16) (by kernel_rfl) ⟨d.g, 2, none⟩ (by kernel_rfl) _ _ Try.underlying3 rfl (rc (h92) (by kernel_rfl))) ?_
  refine ps_p (o_gput 56 5) (.bool false) (dcf ((((t : Nat) : Int)) < (((d.low : Nat) : Int))) (by omega)) ?_
  refine ps_k (o_gput 56 6) (.bool false) ?_
  refine ps_end ?_
  refine then_n ?_
  refine sy_n (.tmp 12) (part_gput 114) (part_gput 115) ?_
  refine sy_sq (part_gput 230) (part_gput 231) ?_
  refine sy_np ?_
  refine sy_reg ?_
  refine an_begin 4 13 (opsAt (part_gput 230)) (fun W => (W.heap[d.g]? = some (.cells (#[.func (.func 41) #[] #[], .slice (some ⟨d.s, 0, none⟩) d.n d.cap, .int .i64 ((d.low : Nat) : Int)]) 79 (0, 0)))) #[false, false, false, false, false, false, false, false, false, false, false, false, false] (by kernel_rfl) (by kernel_rfl) (by kernel_rfl) (by kernel_rfl) ?_
  obtain ⟨V99, eV99, kV99⟩ := drew_step V91
  rw [eV99]
  clear eV99
  have h100 := kV99.bk h92
  have h101 := kV99.bk h93
  have h102 : RingA V99 d := h94.keepsN kV99
  have h103 : ∀ (j : Nat) (cs : Array Value), w.heap[j]? = some (.cells cs 28 (0, 0)) → V99.heap[j]? = some (.cells cs 28 (0, 0)) := fun j cs e => kV99.odd (Odd.nob _) (h95 j cs e)
  have h104 := kV99.bk h96
  have K105 := K97.nn kV99
  have z106 := kV99.size
  refine an_k 0 (o_gput 230 0) (iN t) h100 ?_
  refine an_k 1 (o_gput 230 1) (.pointer (some ⟨d.g, 0, none⟩)) h100 ?_
  refine an_k 2 (o_gput 230 2) (.pointer (some ⟨d.g, 0, none⟩)) h100 ?_
  refine an_k 3 (o_gput 230 3) (.pointer (some ⟨d.g, 2, none⟩)) h100 ?_
  refine an_v 4 (o_gput 230 4) (iN d.low) (fun W hS => exec_load_cell 3 (.tmp 23) (by kernel_rfl) ⟨d.g, 2, none⟩ (by kernel_rfl) _ _ Try.underlying3 rfl (rc (hS) (by kernel_rfl))) h100 ?_
  refine an_k 5 (o_gput 230 5) (.pointer (some ⟨d.g, 0, none⟩)) h100 ?_
  refine an_k 6 (o_gput 230 6) (.pointer (some ⟨d.g, 0, none⟩)) h100 ?_
  refine an_k 7 (o_gput 230 7) (.pointer (some ⟨d.g, 1, none⟩)) h100 ?_
  refine an_v 8 (o_gput 230 8) (.slice (some ⟨d.s, 0, none⟩) d.n d.cap) (fun W hS => exec_load_cell 77 (.tmp 27) (by kernel_rfl) ⟨d.g, 1, none⟩ (by kernel_rfl) _ _ Try.underlying77 rfl (rc (hS) (by kernel_rfl))) h100 ?_
  refine an_v 9 (o_gput 230 9) (iN d.n) (fun W hS => exec_len (.tmp 28) 77 _ (by kernel_rfl) Try.underlying77 (some ⟨d.s, 0, none⟩) d.n d.cap (by kernel_rfl)) h100 ?_
  refine an_v 10 (o_gput 230 10) (iN (d.low + d.n)) (fun W hS => exec_cast (congrArg (Value.int .i64) (wrapN (d.low + d.n) (by omega))) (by kernel_rfl)) h100 ?_
  refine an_v 11 (o_gput 230 11) (.bool false) (fun W hS => dcf ((((t : Nat) : Int)) ≥ (((d.low + d.n : Nat) : Int))) (by omega)) h100 ?_
  refine an_o 12 ?_
  refine on_r (o_gput 230 12) (.bool false) (w' := V99) (by kernel_rfl) ?_
  refine ⟨h100, ?_⟩
  refine an_end (by kernel_rfl) ?_
  refine sy_a ⟨#[.pointer (some ⟨d.g, 0, none⟩), .agg (Att.c a), undef, pT p 0, .int .i64 0, iN t, .pointer (some ⟨d.g, 0, none⟩), .pointer (some ⟨d.g, 0, none⟩), .pointer (some ⟨d.g, 0, none⟩), .func (.func 41) #[] #[], .agg (Att.c a), iN t, .bool false, iN t, .pointer (some ⟨d.g, 0, none⟩), .pointer (some ⟨d.g, 0, none⟩), .pointer (some ⟨d.g, 2, none⟩), iN d.low, .bool false, .bool false, iN t, .pointer (some ⟨d.g, 0, none⟩), .pointer (some ⟨d.g, 0, none⟩), .pointer (some ⟨d.g, 2, none⟩), iN d.low, .pointer (some ⟨d.g, 0, none⟩), .pointer (some ⟨d.g, 0, none⟩), .pointer (some ⟨d.g, 1, none⟩), .slice (some ⟨d.s, 0, none⟩) d.n d.cap, iN d.n, iN (d.low + d.n), .bool false, undef, undef, undef, undef, undef, undef, undef, undef, undef, undef, undef, undef, undef, undef, undef, undef, undef], []⟩ ?_
  refine then_n ?_
  refine sy_n (.tmp 19) (part_gput 462) (part_gput 463) ?_
  refine sy_sq (part_gput 926) (part_gput 927) ?_
  refine sy_reg ?_
  refine rg_plain 6 (opsAt (part_gput 926)) [0, 1, 2, 3, 4] (by kernel_rfl) (by kernel_rfl) ?_
  refine ps_k (o_gput 926 0) (.pointer (some ⟨d.g, 0, none⟩)) ?_
  refine ps_k (o_gput 926 1) (iN t) ?_
  refine ps_c (o_gput 926 2) 31 #[.pointer (some ⟨d.g, 0, none⟩), iN t] Try.func31 ((gat_none _ _ h102 hs).mono ?_)
  rintro e V107 ⟨rfl, kV107⟩
  refine ⟨_, rfl, ?_⟩
  have h108 := kV107.bk h100
  have h109 := kV107.bk h101
  have h110 : RingA V107 d := h102.keepsN kV107
  have h111 : ∀ (j : Nat) (cs : Array Value), w.heap[j]? = some (.cells cs 28 (0, 0)) → V107.heap[j]? = some (.cells cs 28 (0, 0)) := fun j cs e => kV107.odd (Odd.nob _) (h103 j cs e)
  have h112 := kV107.bk h104
  have K113 := K105.nn kV107
  have z114 := kV107.size
  skip
  refine ps_k (o_gput 926 3) (.bool false) ?_
  refine ps_k (o_gput 926 4) (.bool false) ?_
  refine ps_end ?_
  refine then_n ?_
  refine sy_n (.tmp 32) (part_gput 1854) (part_gput 1855) ?_
  refine sy_sk ?_
  refine blk_n ?_
  refine then_n ?_
  refine sy_sq (part_gput 30) (part_gput 31) ?_
  refine sy_reg ?_
  refine rg_still 8 12 (opsAt (part_gput 30)) [o_gput 30 0, o_gput 30 1, o_gput 30 2, o_gput 30 3, o_gput 30 4, o_gput 30 5, o_gput 30 6, o_gput 30 7, o_gput 30 8, o_gput 30 9, o_gput 30 10, o_gput 30 11] [o_gput 30 12] (by kernel_rfl) (by kernel_rfl) (by kernel_rfl) (by kernel_rfl) (by kernel_rfl) ?_
  obtain ⟨V116, eV116, kV116⟩ := drew_step V107
  rw [eV116]
  clear eV116
  have h117 := kV116.bk h108
  have h118 := kV116.bk h109
  have h119 : RingA V116 d := h110.keepsN kV116
  have h120 : ∀ (j : Nat) (cs : Array Value), w.heap[j]? = some (.cells cs 28 (0, 0)) → V116.heap[j]? = some (.cells cs 28 (0, 0)) := fun j cs e => kV116.odd (Odd.nob _) (h111 j cs e)
  have h121 := kV116.bk h112
  have K122 := K113.nn kV116
  have z123 := kV116.size
  refine st_k (o_gput 30 0) (.pointer (some ⟨d.g, 0, none⟩)) ?_
  refine st_k (o_gput 30 1) (.pointer (some ⟨d.g, 0, none⟩)) ?_
  refine st_k (o_gput 30 2) (.pointer (some ⟨d.g, 1, none⟩)) ?_
  refine st_p (o_gput 30 3) (.slice (some ⟨d.s, 0, none⟩) d.n d.cap) (exec_load_cell 77 (.tmp 39) (by kernel_rfl) ⟨d.g, 1, none⟩ (by kernel_rfl) _ _ Try.underlying77 rfl (rc (h117) (by kernel_rfl))) ?_
  refine st_k (o_gput 30 4) (iN t) ?_
  refine st_k (o_gput 30 5) (.pointer (some ⟨d.g, 0, none⟩)) ?_
  refine st_k (o_gput 30 6) (.pointer (some ⟨d.g, 0, none⟩)) ?_
  refine st_k (o_gput 30 7) (.pointer (some ⟨d.g, 1, none⟩)) ?_
  refine st_p (o_gput 30 8) (.slice (some ⟨d.s, 0, none⟩) d.n d.cap) (exec_load_cell 77 (.tmp 44) (by kernel_rfl) ⟨d.g, 1, none⟩ (by kernel_rfl) _ _ Try.underlying77 rfl (rc (h117) (by kernel_rfl))) ?_
  refine st_p (o_gput 30 9) (iN d.n) (exec_len (.tmp 45) 77 _ (by kernel_rfl) Try.underlying77 (some ⟨d.s, 0, none⟩) d.n d.cap (by kernel_rfl)) ?_
  refine st_p (o_gput 30 10) (iN (t % d.n)) (exec_rem 3 3 (.tmp 41) (.tmp 46) (by kernel_rfl) t d.n (by kernel_rfl) (by kernel_rfl) hn0) ?_
  refine st_p (o_gput 30 11) (.pointer (some ⟨d.s, t % d.n, none⟩)) (exec_cast (v := .pointer (some ⟨d.s, 0 + (t % d.n) * 1, none⟩)) (by simp) (exec_indexAt_slice 77 (.tmp 40) (.tmp 47) (by kernel_rfl) d.s 0 d.n d.cap (by kernel_rfl) .i64 (t % d.n) (by kernel_rfl) _ 1 Try.underlying77 (by kernel_rfl) (by omega))) ?_
  refine st_end ?_
  obtain ⟨V124, eV124, kV124⟩ := cell_step V116 d.s (t % d.n) (.pointer (some ⟨p, 0, none⟩))
  have h125 : V124.heap[d.s]? = some (.cells (Slots d.n (upS d.S (t % d.n) (some p)) d.rest) 71 (0, 0)) := eV124 ▸ ((heap_setCell_same _ d.s (t % d.n) _ _ (.pointer (some ⟨p, 0, none⟩)) h118).trans (congrArg (fun c => some (Obj.cells c 71 (0, 0))) (show (Slots d.n d.S d.rest : Array Value).setIfInBounds (t % d.n) (.pointer (some ⟨p, 0, none⟩)) = Slots d.n (upS d.S (t % d.n) (some p)) d.rest from Slots.set' (Nat.mod_lt _ hn0) (some p) rfl)))
  refine ls_skip (o_gput 30 12) (w' := V124) (by kernel_rfl) (by rw [← eV124]; exact exec_store_cell 71 (.tmp 48) (.tmp 3) (by kernel_rfl) d.s (t % d.n) (by kernel_rfl) (.pointer (some ⟨p, 0, none⟩)) (by kernel_rfl) (by kernel_rfl) (by kernel_rfl) (ptrV (d.S (t % d.n))) (rc (h118) ((Slots.get (Nat.mod_lt _ hn0)).trans (congrArg some (rfl)))) (frozen_of_row _ _ _ _ _ h118) (by kernel_rfl)) ?_
  clear eV124
  have h126 := kV124.bo h117 (by omega)
  have h127 : ∀ (j : Nat) (cs : Array Value), w.heap[j]? = some (.cells cs 28 (0, 0)) → V124.heap[j]? = some (.cells cs 28 (0, 0)) := fun j cs e => kV124.odd (Odd.one h118 (by decide)) (h120 j cs e)
  have h128 := kV124.bo h121 (by omega)
  have K129 : Keeps (One d.s) w V124 := K122.then kV124 (fun i hi hm => by unfold Own.One at hm; subst hm; exact rfl)
  have z130 := kV124.size
  refine ls_end ?_
  refine then_n ?_
  refine sy_sq (part_gput 62) (part_gput 63) ?_
  refine sy_reg ?_
  refine rg_plain 9 (opsAt (part_gput 62)) [0] (by kernel_rfl) (by kernel_rfl) ?_
  refine ps_k (o_gput 62 0) (.int .i64 0) ?_
  refine ps_end ?_
  refine then_n ?_
  refine sy_ret (by kernel_rfl) ?_
  refine sy_out (.int .i64 0) rfl (by kernel_rfl) ?_
  exact ⟨rfl, _, Ring.put H t a h1 h2 ht ha p h128 h126 h127 h125, K129⟩
/-- Which error a put has. -/
def gputErr (d : RD Att) (i : Int) : Int := if i < (d.low : Int) then 16 else if (d.low : Int) + d.n ≤ i then 17 else if (d.V i).isSome then 8 else 0
theorem gput_ok (d : RD Att) (a : Att) (w : World) (H : RingA w d) (ha : a.Ok) : Calls Try.prog 34 #[.pointer (some ⟨d.g, 0, none⟩), .agg (Att.c a)] w fun e w' => e = .returned (.int .i64 (gputErr d a.t)) ∧
    (gputErr d a.t ≠ 0 → RingA w' d) ∧ (gputErr d a.t = 0 → ∃ S', RingA w' { d with V := upV d.V a.t a, S := S' }) ∧ Keeps (One d.s) w w' := by
  have nob : ∀ {w' : World}, Keeps Nob w w' → Keeps (One d.s) w w' := fun k => k.mono (fun _ _ x => x.elim)
  unfold gputErr
  by_cases h1 : a.t < (d.low : Int)
  · rw [if_pos h1]; exact (gput_low d a w H ha h1).mono fun e w' ⟨he, k⟩ => ⟨he, fun _ => H.keepsN k, fun h => by omega, nob k⟩
  · rw [if_neg h1]
    by_cases h2 : (d.low : Int) + d.n ≤ a.t
    · rw [if_pos h2]; exact (gput_high d a w H ha h2).mono fun e w' ⟨he, k⟩ => ⟨he, fun _ => H.keepsN k, fun h => by omega, nob k⟩
    · rw [if_neg h2]
      obtain ⟨t, ht⟩ : ∃ t : Nat, a.t = (t : Int) := ⟨(a.t).toNat, by omega⟩
      rw [ht]
      rcases H.none_or ((t : Nat) : Int) with ⟨hv, hs⟩ | ⟨b, q, hv, hs, _⟩
      · rw [hv]; exact (gput_new d a t w H ha ht (by omega) (by omega) hs).mono fun e w' ⟨he, p, hr, k⟩ => ⟨he, fun h => absurd rfl h, fun _ => ⟨_, hr⟩, k⟩
      · rw [hv]; exact (gput_double d a t q w H ha ht (by omega) (by omega) hs).mono fun e w' ⟨he, k⟩ => ⟨he, fun _ => H.keepsN k, fun h => (by cases h), nob k⟩
noncomputable def part_gmove (n : Nat) : Code := partOf Try.f38 n
noncomputable abbrev o_gmove (n k : Nat) : Oper := (opsAt (part_gmove n)).getD k default
set_option maxRecDepth 100000 in
set_option maxHeartbeats 4000000 in
theorem gmove_far (d : RD Att) (l : Nat) (w : World) (H : RingA w d) (hl : d.low + d.n ≤ l) (hl3 : l ≤ 4294967296) :
    Calls Try.prog 38 #[.pointer (some ⟨d.g, 0, none⟩), .int .i64 ((l : Nat) : Int)] w (fun e w' => e = .returned (.tuple #[]) ∧ RingA w' { d with low := l, V := mvV d.V ((l : Nat) : Int), S := fun _ => none } ∧ Keeps (fun j => j = d.g ∨ j = d.s) w w') := by
  have hn0 := H.n1
  have hn2 := H.n2
  have hl2 := H.l2
  have hgs : d.g ≠ d.s := fun e => by have h1 := H.ring; rw [e, H.slots] at h1; simp only [Option.some.injEq, Obj.cells.injEq] at h1; exact absurd h1.2.1 (by decide)
  have K0 : Keeps ((fun j => j = d.g ∨ j = d.s)) w w := Keeps.refl _ _
  refine sy_enter (part_gmove 1) ⟨#[.pointer (some ⟨d.g, 0, none⟩), iN l, undef, undef, undef, undef, undef, undef, undef, undef, undef, undef, undef, undef, undef, undef, undef, undef, undef, undef, undef, undef, undef, undef, undef, undef, undef, undef, undef, undef, undef, undef, undef, undef, undef, undef, undef, undef, undef, undef, undef, undef, undef, undef, undef, undef, undef, undef, undef, undef, undef, undef, undef, undef, undef, undef, undef, undef, undef, undef, undef, undef, undef, undef, undef, undef], []⟩ Try.func38 (by kernel_rfl) (by kernel_rfl) ?_
  refine sy_sq (part_gmove 2) (part_gmove 3) ?_
  refine sy_sq (part_gmove 4) (part_gmove 5) ?_
  refine sy_np ?_
  refine sy_reg ?_
  refine an_begin 0 12 (opsAt (part_gmove 4)) (fun W => (W.heap[d.g]? = some (.cells (#[.func (.func 41) #[] #[], .slice (some ⟨d.s, 0, none⟩) d.n d.cap, .int .i64 ((d.low : Nat) : Int)]) 79 (0, 0)))) #[false, false, false, false, false, false, false, false, false, false, false, false] (by kernel_rfl) (by kernel_rfl) (by kernel_rfl) (by kernel_rfl) ?_
  obtain ⟨V1, eV1, kV1⟩ := drew_step w
  rw [eV1]
  clear eV1
  have h2 := kV1.bk H.ring
  have h3 := kV1.bk H.slots
  have K4 := K0.nn kV1
  have z5 := kV1.size
  refine an_k 0 (o_gmove 4 0) (iN l) h2 ?_
  refine an_k 1 (o_gmove 4 1) (.pointer (some ⟨d.g, 0, none⟩)) h2 ?_
  refine an_k 2 (o_gmove 4 2) (.pointer (some ⟨d.g, 0, none⟩)) h2 ?_
  refine an_k 3 (o_gmove 4 3) (.pointer (some ⟨d.g, 2, none⟩)) h2 ?_
  refine an_v 4 (o_gmove 4 4) (iN d.low) (fun W hS => exec_load_cell 3 (.tmp 7) (by kernel_rfl) ⟨d.g, 2, none⟩ (by kernel_rfl) _ _ Try.underlying3 rfl (rc (hS) (by kernel_rfl))) h2 ?_
  refine an_v 5 (o_gmove 4 5) (iN (l - d.low)) (fun W hS => exec_cast (congrArg (Value.int .i64) (wrapI (((l : Nat) : Int) - ((d.low : Nat) : Int)) _ (by omega) (by omega) (by omega))) (by kernel_rfl)) h2 ?_
  refine an_k 6 (o_gmove 4 6) (.pointer (some ⟨d.g, 0, none⟩)) h2 ?_
  refine an_k 7 (o_gmove 4 7) (.pointer (some ⟨d.g, 0, none⟩)) h2 ?_
  refine an_k 8 (o_gmove 4 8) (.pointer (some ⟨d.g, 1, none⟩)) h2 ?_
  refine an_v 9 (o_gmove 4 9) (.slice (some ⟨d.s, 0, none⟩) d.n d.cap) (fun W hS => exec_load_cell 77 (.tmp 12) (by kernel_rfl) ⟨d.g, 1, none⟩ (by kernel_rfl) _ _ Try.underlying77 rfl (rc (hS) (by kernel_rfl))) h2 ?_
  refine an_v 10 (o_gmove 4 10) (iN d.n) (fun W hS => exec_len (.tmp 13) 77 _ (by kernel_rfl) Try.underlying77 (some ⟨d.s, 0, none⟩) d.n d.cap (by kernel_rfl)) h2 ?_
  refine an_v 11 (o_gmove 4 11) (.bool true) (fun W hS => dct ((((l - d.low : Nat) : Int)) ≥ (((d.n : Nat) : Int))) (by omega)) h2 ?_
  refine an_end (by kernel_rfl) ?_
  refine then_n ?_
  refine sy_ys (.tmp 15) (part_gmove 10) (part_gmove 11) ?_
  refine sy_reg ?_
  refine rg_plain 1 (opsAt (part_gmove 10)) [0, 1, 2, 3, 4] (by kernel_rfl) (by kernel_rfl) ?_
  refine ps_k (o_gmove 10 0) (.pointer (some ⟨d.g, 0, none⟩)) ?_
  refine ps_k (o_gmove 10 1) (.pointer (some ⟨d.g, 0, none⟩)) ?_
  refine ps_k (o_gmove 10 2) (.pointer (some ⟨d.g, 1, none⟩)) ?_
  refine ps_p (o_gmove 10 3) (.slice (some ⟨d.s, 0, none⟩) d.n d.cap) (exec_load_cell 77 (.tmp 18) (by kernel_rfl) ⟨d.g, 1, none⟩ (by kernel_rfl) _ _ Try.underlying77 rfl (rc (h2) (by kernel_rfl))) ?_
  obtain ⟨V6, eV6⟩ : ∃ V, V1.setCells d.s 0 (List.replicate d.n (.pointer none)) = V := ⟨_, rfl⟩
  have kV6 : Keeps (One d.s) V1 V6 := eV6 ▸ Keeps.setCells _ _ _ _
  have h7 : V6.heap[d.s]? = some (.cells (Slots d.n (fun _ => none) d.rest) 71 (0, 0)) := eV6 ▸ (heap_setCells d.s _ _ 0 _ _ h3 (by rw [Slots.size, List.length_replicate]; omega)).trans (congrArg (fun c => some (Obj.cells c 71 (0, 0))) Slots.clear)
  refine ps_r (o_gmove 10 4) (.tuple #[]) (w' := V6) (by rw [← eV6]; exact exec_clear (.tmp 19) 77 71 (by kernel_rfl) (.pointer none) Try.underlying77 (fun _ => by kernel_rfl) rfl rfl d.s d.n d.cap (by kernel_rfl) hn0 _ _ h3 (by rw [Slots.size]; omega)) ?_
  clear eV6
  have h8 := kV6.bo h2 (by omega)
  have K9 : Keeps ((fun j => j = d.g ∨ j = d.s)) w V6 := K4.then kV6 (fun i hi hm => by unfold Own.One at hm; subst hm; exact .inr rfl)
  have z10 := kV6.size
  refine ps_end ?_
  refine then_n ?_
  refine sy_sq (part_gmove 6) (part_gmove 7) ?_
  refine sy_bk 0 (part_gmove 12) ?_
  refine sy_rounds 1 (part_gmove 24) (by kernel_rfl) ?_
  refine rd_step ?_
  refine sy_sq (part_gmove 48) (part_gmove 49) ?_
  refine sy_sq (part_gmove 96) (part_gmove 97) ?_
  refine sy_np ?_
  refine sy_reg ?_
  refine an_begin 2 20 (opsAt (part_gmove 96)) (fun W => (W.heap[d.g]? = some (.cells (#[.func (.func 41) #[] #[], .slice (some ⟨d.s, 0, none⟩) d.n d.cap, .int .i64 ((d.low : Nat) : Int)]) 79 (0, 0)))) #[false, false, false, false, false, false, false, false, false, false, false, false, false, false, false, false, false, false, false, false] (by kernel_rfl) (by kernel_rfl) (by kernel_rfl) (by kernel_rfl) ?_
  obtain ⟨V11, eV11, kV11⟩ := drew_step V6
  rw [eV11]
  clear eV11
  have h12 := kV11.bk h8
  have h13 := kV11.bk h7
  have K14 := K9.nn kV11
  have z15 := kV11.size
  refine an_k 0 (o_gmove 96 0) (.pointer (some ⟨d.g, 0, none⟩)) h12 ?_
  refine an_k 1 (o_gmove 96 1) (.pointer (some ⟨d.g, 0, none⟩)) h12 ?_
  refine an_k 2 (o_gmove 96 2) (.pointer (some ⟨d.g, 2, none⟩)) h12 ?_
  refine an_v 3 (o_gmove 96 3) (iN d.low) (fun W hS => exec_load_cell 3 (.tmp 22) (by kernel_rfl) ⟨d.g, 2, none⟩ (by kernel_rfl) _ _ Try.underlying3 rfl (rc (hS) (by kernel_rfl))) h12 ?_
  refine an_k 4 (o_gmove 96 4) (iN l) h12 ?_
  refine an_v 5 (o_gmove 96 5) (.bool true) (fun W hS => dct ((((d.low : Nat) : Int)) < (((l : Nat) : Int))) (by omega)) h12 ?_
  refine an_k 6 (o_gmove 96 6) (.bool true) h12 ?_
  refine an_k 7 (o_gmove 96 7) (iN l) h12 ?_
  refine an_k 8 (o_gmove 96 8) (.pointer (some ⟨d.g, 0, none⟩)) h12 ?_
  refine an_k 9 (o_gmove 96 9) (.pointer (some ⟨d.g, 0, none⟩)) h12 ?_
  refine an_k 10 (o_gmove 96 10) (.pointer (some ⟨d.g, 2, none⟩)) h12 ?_
  refine an_v 11 (o_gmove 96 11) (iN d.low) (fun W hS => exec_load_cell 3 (.tmp 30) (by kernel_rfl) ⟨d.g, 2, none⟩ (by kernel_rfl) _ _ Try.underlying3 rfl (rc (hS) (by kernel_rfl))) h12 ?_
  refine an_v 12 (o_gmove 96 12) (iN (l - d.low)) (fun W hS => exec_cast (congrArg (Value.int .i64) (wrapI (((l : Nat) : Int) - ((d.low : Nat) : Int)) _ (by omega) (by omega) (by omega))) (by kernel_rfl)) h12 ?_
  refine an_k 13 (o_gmove 96 13) (.pointer (some ⟨d.g, 0, none⟩)) h12 ?_
  refine an_k 14 (o_gmove 96 14) (.pointer (some ⟨d.g, 0, none⟩)) h12 ?_
  refine an_k 15 (o_gmove 96 15) (.pointer (some ⟨d.g, 1, none⟩)) h12 ?_
  refine an_v 16 (o_gmove 96 16) (.slice (some ⟨d.s, 0, none⟩) d.n d.cap) (fun W hS => exec_load_cell 77 (.tmp 35) (by kernel_rfl) ⟨d.g, 1, none⟩ (by kernel_rfl) _ _ Try.underlying77 rfl (rc (hS) (by kernel_rfl))) h12 ?_
  refine an_v 17 (o_gmove 96 17) (iN d.n) (fun W hS => exec_len (.tmp 36) 77 _ (by kernel_rfl) Try.underlying77 (some ⟨d.s, 0, none⟩) d.n d.cap (by kernel_rfl)) h12 ?_
  refine an_v 18 (o_gmove 96 18) (.bool false) (fun W hS => dcf ((((l - d.low : Nat) : Int)) < (((d.n : Nat) : Int))) (by omega)) h12 ?_
  refine an_k 19 (o_gmove 96 19) (.bool false) h12 ?_
  refine an_end (by kernel_rfl) ?_
  refine sy_a ⟨#[.pointer (some ⟨d.g, 0, none⟩), iN l, undef, undef, iN l, .pointer (some ⟨d.g, 0, none⟩), .pointer (some ⟨d.g, 0, none⟩), .pointer (some ⟨d.g, 2, none⟩), iN d.low, iN (l - d.low), .pointer (some ⟨d.g, 0, none⟩), .pointer (some ⟨d.g, 0, none⟩), .pointer (some ⟨d.g, 1, none⟩), .slice (some ⟨d.s, 0, none⟩) d.n d.cap, iN d.n, .bool true, .pointer (some ⟨d.g, 0, none⟩), .pointer (some ⟨d.g, 0, none⟩), .pointer (some ⟨d.g, 1, none⟩), .slice (some ⟨d.s, 0, none⟩) d.n d.cap, .pointer (some ⟨d.g, 0, none⟩), .pointer (some ⟨d.g, 0, none⟩), .pointer (some ⟨d.g, 2, none⟩), iN d.low, iN l, .bool true, .bool true, iN l, .pointer (some ⟨d.g, 0, none⟩), .pointer (some ⟨d.g, 0, none⟩), .pointer (some ⟨d.g, 2, none⟩), iN d.low, iN (l - d.low), .pointer (some ⟨d.g, 0, none⟩), .pointer (some ⟨d.g, 0, none⟩), .pointer (some ⟨d.g, 1, none⟩), .slice (some ⟨d.s, 0, none⟩) d.n d.cap, iN d.n, .bool false, .bool false, undef, undef, undef, undef, undef, undef, undef, undef, undef, undef, undef, undef, undef, undef, undef, undef, undef, undef, undef, undef, undef, undef, undef, undef, undef, undef], []⟩ ?_
  refine then_n ?_
  refine sy_n (.tmp 39) (part_gmove 194) (part_gmove 195) ?_
  refine sy_exit 0 (by kernel_rfl) ?_
  refine then_e ?_
  refine then_e ?_
  refine blk_e ?_
  refine then_n ?_
  refine sy_reg ?_
  refine rg_plain 5 (opsAt (part_gmove 7)) [0, 1, 2, 3, 4] (by kernel_rfl) (by kernel_rfl) ?_
  refine ps_k (o_gmove 7 0) (.pointer (some ⟨d.g, 0, none⟩)) ?_
  refine ps_k (o_gmove 7 1) (iN l) ?_
  refine ps_k (o_gmove 7 2) (.pointer (some ⟨d.g, 0, none⟩)) ?_
  refine ps_k (o_gmove 7 3) (.pointer (some ⟨d.g, 2, none⟩)) ?_
  obtain ⟨V16, eV16, kV16⟩ := cell_step V11 d.g 2 (.int .i64 ((l : Nat) : Int))
  have h17 : V16.heap[d.g]? = some (.cells (#[.func (.func 41) #[] #[], .slice (some ⟨d.s, 0, none⟩) d.n d.cap, .int .i64 ((l : Nat) : Int)]) 79 (0, 0)) := eV16 ▸ ((heap_setCell_same _ d.g 2 _ _ (.int .i64 ((l : Nat) : Int)) h12).trans (congrArg (fun c => some (Obj.cells c 79 (0, 0))) (show (#[.func (.func 41) #[] #[], .slice (some ⟨d.s, 0, none⟩) d.n d.cap, .int .i64 ((d.low : Nat) : Int)] : Array Value).setIfInBounds 2 (.int .i64 ((l : Nat) : Int)) = #[.func (.func 41) #[] #[], .slice (some ⟨d.s, 0, none⟩) d.n d.cap, .int .i64 ((l : Nat) : Int)] from by kernel_rfl)))
  refine ps_s (o_gmove 7 4) (w' := V16) (by rw [← eV16]; exact exec_store_cell 3 (.tmp 65) (.tmp 63) (by kernel_rfl) d.g 2 (by kernel_rfl) (iN l) (by kernel_rfl) (by kernel_rfl) (by kernel_rfl) (iN d.low) (rc (h12) (by kernel_rfl)) (frozen_of_row _ _ _ _ _ h12) (by kernel_rfl)) ?_
  clear eV16
  have h18 := kV16.bo h13 (by omega)
  have K19 : Keeps ((fun j => j = d.g ∨ j = d.s)) w V16 := K14.then kV16 (fun i hi hm => by unfold Own.One at hm; subst hm; exact .inl rfl)
  have z20 := kV16.size
  refine ps_end ?_
  refine sy_fall (.tuple #[]) rfl (by kernel_rfl) ?_
  exact ⟨rfl, Ring.cleared H l hl hl3 h17 h18, K19⟩
set_option maxRecDepth 100000 in
set_option maxHeartbeats 4000000 in
theorem gmove_near (d : RD Att) (l : Nat) (w : World) (H : RingA w d) (hl0 : d.low ≤ l) (hl : l < d.low + d.n) (hl3 : l ≤ 4294967296) :
    Calls Try.prog 38 #[.pointer (some ⟨d.g, 0, none⟩), .int .i64 ((l : Nat) : Int)] w (fun e w' => e = .returned (.tuple #[]) ∧ ∃ S', RingA w' { d with low := l, V := mvV d.V ((l : Nat) : Int), S := S' } ∧ Keeps (fun j => j = d.g ∨ j = d.s) w w') := by
  have hn0 := H.n1
  have hn2 := H.n2
  have hl2 := H.l2
  have hgs : d.g ≠ d.s := fun e => by have h1 := H.ring; rw [e, H.slots] at h1; simp only [Option.some.injEq, Obj.cells.injEq] at h1; exact absurd h1.2.1 (by decide)
  have K0 : Keeps ((fun j => j = d.g ∨ j = d.s)) w w := Keeps.refl _ _
  refine sy_enter (part_gmove 1) ⟨#[.pointer (some ⟨d.g, 0, none⟩), iN l, undef, undef, undef, undef, undef, undef, undef, undef, undef, undef, undef, undef, undef, undef, undef, undef, undef, undef, undef, undef, undef, undef, undef, undef, undef, undef, undef, undef, undef, undef, undef, undef, undef, undef, undef, undef, undef, undef, undef, undef, undef, undef, undef, undef, undef, undef, undef, undef, undef, undef, undef, undef, undef, undef, undef, undef, undef, undef, undef, undef, undef, undef, undef, undef], []⟩ Try.func38 (by kernel_rfl) (by kernel_rfl) ?_
  refine sy_sq (part_gmove 2) (part_gmove 3) ?_
  refine sy_sq (part_gmove 4) (part_gmove 5) ?_
  refine sy_np ?_
  refine sy_reg ?_
  refine an_begin 0 12 (opsAt (part_gmove 4)) (fun W => (W.heap[d.g]? = some (.cells (#[.func (.func 41) #[] #[], .slice (some ⟨d.s, 0, none⟩) d.n d.cap, .int .i64 ((d.low : Nat) : Int)]) 79 (0, 0)))) #[false, false, false, false, false, false, false, false, false, false, false, false] (by kernel_rfl) (by kernel_rfl) (by kernel_rfl) (by kernel_rfl) ?_
  obtain ⟨V21, eV21, kV21⟩ := drew_step w
  rw [eV21]
  clear eV21
  have h22 := kV21.bk H.ring
  have h23 := kV21.bk H.slots
  have h24 : RingA V21 d := H.keepsN kV21
  have K25 := K0.nn kV21
  have z26 := kV21.size
  refine an_k 0 (o_gmove 4 0) (iN l) h22 ?_
  refine an_k 1 (o_gmove 4 1) (.pointer (some ⟨d.g, 0, none⟩)) h22 ?_
  refine an_k 2 (o_gmove 4 2) (.pointer (some ⟨d.g, 0, none⟩)) h22 ?_
  refine an_k 3 (o_gmove 4 3) (.pointer (some ⟨d.g, 2, none⟩)) h22 ?_
  refine an_v 4 (o_gmove 4 4) (iN d.low) (fun W hS => exec_load_cell 3 (.tmp 7) (by kernel_rfl) ⟨d.g, 2, none⟩ (by kernel_rfl) _ _ Try.underlying3 rfl (rc (hS) (by kernel_rfl))) h22 ?_
  refine an_v 5 (o_gmove 4 5) (iN (l - d.low)) (fun W hS => exec_cast (congrArg (Value.int .i64) (wrapI (((l : Nat) : Int) - ((d.low : Nat) : Int)) _ (by omega) (by omega) (by omega))) (by kernel_rfl)) h22 ?_
  refine an_k 6 (o_gmove 4 6) (.pointer (some ⟨d.g, 0, none⟩)) h22 ?_
  refine an_k 7 (o_gmove 4 7) (.pointer (some ⟨d.g, 0, none⟩)) h22 ?_
  refine an_k 8 (o_gmove 4 8) (.pointer (some ⟨d.g, 1, none⟩)) h22 ?_
  refine an_v 9 (o_gmove 4 9) (.slice (some ⟨d.s, 0, none⟩) d.n d.cap) (fun W hS => exec_load_cell 77 (.tmp 12) (by kernel_rfl) ⟨d.g, 1, none⟩ (by kernel_rfl) _ _ Try.underlying77 rfl (rc (hS) (by kernel_rfl))) h22 ?_
  refine an_v 10 (o_gmove 4 10) (iN d.n) (fun W hS => exec_len (.tmp 13) 77 _ (by kernel_rfl) Try.underlying77 (some ⟨d.s, 0, none⟩) d.n d.cap (by kernel_rfl)) h22 ?_
  refine an_v 11 (o_gmove 4 11) (.bool false) (fun W hS => dcf ((((l - d.low : Nat) : Int)) ≥ (((d.n : Nat) : Int))) (by omega)) h22 ?_
  refine an_end (by kernel_rfl) ?_
  refine then_n ?_
  refine sy_n (.tmp 15) (part_gmove 10) (part_gmove 11) ?_
  refine sy_sk ?_
  refine then_n ?_
  refine sy_sq (part_gmove 6) (part_gmove 7) ?_
  refine sy_bk 0 (part_gmove 12) ?_
  refine sy_loop (part_gmove 24) (fun a V => ∃ (k : Nat) (S' : Nat → Option Nat) (u20 u21 u22 u23 u24 u25 u26 u27 u28 u29 u30 u31 u32 u33 u34 u35 u36 u37 u38 u39 u40 u41 u42 u43 u44 u45 u46 u47 u48 u49 u50 u51 u52 u53 u54 u55 u56 u57 u58 u59 u60 u61 : Value), (a = ⟨#[.pointer (some ⟨d.g, 0, none⟩), iN l, undef, undef, iN l, .pointer (some ⟨d.g, 0, none⟩), .pointer (some ⟨d.g, 0, none⟩), .pointer (some ⟨d.g, 2, none⟩), iN d.low, iN (l - d.low), .pointer (some ⟨d.g, 0, none⟩), .pointer (some ⟨d.g, 0, none⟩), .pointer (some ⟨d.g, 1, none⟩), .slice (some ⟨d.s, 0, none⟩) d.n d.cap, iN d.n, .bool false, undef, undef, undef, undef, u20, u21, u22, u23, u24, u25, u26, u27, u28, u29, u30, u31, u32, u33, u34, u35, u36, u37, u38, u39, u40, u41, u42, u43, u44, u45, u46, u47, u48, u49, u50, u51, u52, u53, u54, u55, u56, u57, u58, u59, u60, u61, undef, undef, undef, undef], []⟩) ∧ (d.low ≤ k) ∧ (k ≤ l) ∧ (Keeps ((fun j => j = d.g ∨ j = d.s)) w V) ∧ (RingA V { d with low := k, V := mvV d.V ((k : Nat) : Int), S := S' })) (fun a V => l - lowAt V d.g) (by kernel_rfl) ?_ ?_
  · exact ⟨d.low, d.S, undef, undef, undef, undef, undef, undef, undef, undef, undef, undef, undef, undef, undef, undef, undef, undef, undef, undef, undef, undef, undef, undef, undef, undef, undef, undef, undef, undef, undef, undef, undef, undef, undef, undef, undef, undef, undef, undef, undef, undef, undef, undef, by kernel_rfl, Nat.le_refl _, by omega, K25, (by rw [H.mvV_self d.low (Nat.le_refl _)]; exact h24)⟩
  · rintro a V27 ⟨k, S', u20, u21, u22, u23, u24, u25, u26, u27, u28, u29, u30, u31, u32, u33, u34, u35, u36, u37, u38, u39, u40, u41, u42, u43, u44, u45, u46, u47, u48, u49, u50, u51, u52, u53, u54, u55, u56, u57, u58, u59, u60, u61, rfl, hk1, hk, K28, hR⟩
    have hg0 : V27.heap[d.g]? = some (.cells (#[.func (.func 41) #[] #[], .slice (some ⟨d.s, 0, none⟩) d.n d.cap, .int .i64 ((k : Nat) : Int)]) 79 (0, 0)) := hR.ring
    have hs0 : V27.heap[d.s]? = some (.cells (Slots d.n S' d.rest) 71 (0, 0)) := hR.slots
    have hm := Nat.mod_lt k hn0
    by_cases lt_k : k < l
    · skip
      refine sy_sq (part_gmove 48) (part_gmove 49) ?_
      refine sy_sq (part_gmove 96) (part_gmove 97) ?_
      refine sy_np ?_
      refine sy_reg ?_
      refine an_begin 2 20 (opsAt (part_gmove 96)) (fun W => (W.heap[d.g]? = some (.cells (#[.func (.func 41) #[] #[], .slice (some ⟨d.s, 0, none⟩) d.n d.cap, .int .i64 ((k : Nat) : Int)]) 79 (0, 0)))) #[false, false, false, false, false, false, false, false, false, false, false, false, false, false, false, false, false, false, false, false] (by kernel_rfl) (by kernel_rfl) (by kernel_rfl) (by kernel_rfl) ?_
      obtain ⟨V29, eV29, kV29⟩ := drew_step V27
      rw [eV29]
      clear eV29
      have h30 := kV29.bk hg0
      have h31 := kV29.bk hs0
      have h32 : ∀ (j : Nat) (cs : Array Value), V27.heap[j]? = some (.cells cs 28 (0, 0)) → V29.heap[j]? = some (.cells cs 28 (0, 0)) := fun j cs e => kV29.odd (Odd.nob _) ((fun _ _ e => e) j cs e)
      have K33 := K28.nn kV29
      have z34 := kV29.size
      refine an_k 0 (o_gmove 96 0) (.pointer (some ⟨d.g, 0, none⟩)) h30 ?_
      refine an_k 1 (o_gmove 96 1) (.pointer (some ⟨d.g, 0, none⟩)) h30 ?_
      refine an_k 2 (o_gmove 96 2) (.pointer (some ⟨d.g, 2, none⟩)) h30 ?_
      refine an_v 3 (o_gmove 96 3) (iN k) (fun W hS => exec_load_cell 3 (.tmp 22) (by kernel_rfl) ⟨d.g, 2, none⟩ (by kernel_rfl) _ _ Try.underlying3 rfl (rc (hS) (by kernel_rfl))) h30 ?_
      refine an_k 4 (o_gmove 96 4) (iN l) h30 ?_
      refine an_v 5 (o_gmove 96 5) (.bool true) (fun W hS => dct ((((k : Nat) : Int)) < (((l : Nat) : Int))) (by omega)) h30 ?_
      refine an_k 6 (o_gmove 96 6) (.bool true) h30 ?_
      refine an_k 7 (o_gmove 96 7) (iN l) h30 ?_
      refine an_k 8 (o_gmove 96 8) (.pointer (some ⟨d.g, 0, none⟩)) h30 ?_
      refine an_k 9 (o_gmove 96 9) (.pointer (some ⟨d.g, 0, none⟩)) h30 ?_
      refine an_k 10 (o_gmove 96 10) (.pointer (some ⟨d.g, 2, none⟩)) h30 ?_
      refine an_v 11 (o_gmove 96 11) (iN k) (fun W hS => exec_load_cell 3 (.tmp 30) (by kernel_rfl) ⟨d.g, 2, none⟩ (by kernel_rfl) _ _ Try.underlying3 rfl (rc (hS) (by kernel_rfl))) h30 ?_
      refine an_v 12 (o_gmove 96 12) (iN (l - k)) (fun W hS => exec_cast (congrArg (Value.int .i64) (wrapI (((l : Nat) : Int) - ((k : Nat) : Int)) _ (by omega) (by omega) (by omega))) (by kernel_rfl)) h30 ?_
      refine an_k 13 (o_gmove 96 13) (.pointer (some ⟨d.g, 0, none⟩)) h30 ?_
      refine an_k 14 (o_gmove 96 14) (.pointer (some ⟨d.g, 0, none⟩)) h30 ?_
      refine an_k 15 (o_gmove 96 15) (.pointer (some ⟨d.g, 1, none⟩)) h30 ?_
      refine an_v 16 (o_gmove 96 16) (.slice (some ⟨d.s, 0, none⟩) d.n d.cap) (fun W hS => exec_load_cell 77 (.tmp 35) (by kernel_rfl) ⟨d.g, 1, none⟩ (by kernel_rfl) _ _ Try.underlying77 rfl (rc (hS) (by kernel_rfl))) h30 ?_
      refine an_v 17 (o_gmove 96 17) (iN d.n) (fun W hS => exec_len (.tmp 36) 77 _ (by kernel_rfl) Try.underlying77 (some ⟨d.s, 0, none⟩) d.n d.cap (by kernel_rfl)) h30 ?_
      refine an_v 18 (o_gmove 96 18) (.bool true) (fun W hS => dct ((((l - k : Nat) : Int)) < (((d.n : Nat) : Int))) (by omega)) h30 ?_
      refine an_k 19 (o_gmove 96 19) (.bool true) h30 ?_
      refine an_end (by kernel_rfl) ?_
      refine then_n ?_
      refine sy_ys (.tmp 39) (part_gmove 194) (part_gmove 195) ?_
      refine sy_sk ?_
      refine then_n ?_
      refine sy_sq (part_gmove 98) (part_gmove 99) ?_
      refine sy_bk 1 (part_gmove 196) ?_
      refine sy_reg ?_
      refine rg_still 4 15 (opsAt (part_gmove 196)) [o_gmove 196 0, o_gmove 196 1, o_gmove 196 2, o_gmove 196 3, o_gmove 196 4, o_gmove 196 5, o_gmove 196 6, o_gmove 196 7, o_gmove 196 8, o_gmove 196 9, o_gmove 196 10, o_gmove 196 11, o_gmove 196 12, o_gmove 196 13, o_gmove 196 14] [o_gmove 196 15] (by kernel_rfl) (by kernel_rfl) (by kernel_rfl) (by kernel_rfl) (by kernel_rfl) ?_
      obtain ⟨V36, eV36, kV36⟩ := drew_step V29
      rw [eV36]
      clear eV36
      have h37 := kV36.bk h30
      have h38 := kV36.bk h31
      have h39 : ∀ (j : Nat) (cs : Array Value), V27.heap[j]? = some (.cells cs 28 (0, 0)) → V36.heap[j]? = some (.cells cs 28 (0, 0)) := fun j cs e => kV36.odd (Odd.nob _) (h32 j cs e)
      have K40 := K33.nn kV36
      have z41 := kV36.size
      refine st_k (o_gmove 196 0) (.pointer (some ⟨d.g, 0, none⟩)) ?_
      refine st_k (o_gmove 196 1) (.pointer (some ⟨d.g, 0, none⟩)) ?_
      refine st_k (o_gmove 196 2) (.pointer (some ⟨d.g, 1, none⟩)) ?_
      refine st_p (o_gmove 196 3) (.slice (some ⟨d.s, 0, none⟩) d.n d.cap) (exec_load_cell 77 (.tmp 49) (by kernel_rfl) ⟨d.g, 1, none⟩ (by kernel_rfl) _ _ Try.underlying77 rfl (rc (h37) (by kernel_rfl))) ?_
      refine st_k (o_gmove 196 4) (.pointer (some ⟨d.g, 0, none⟩)) ?_
      refine st_k (o_gmove 196 5) (.pointer (some ⟨d.g, 0, none⟩)) ?_
      refine st_k (o_gmove 196 6) (.pointer (some ⟨d.g, 2, none⟩)) ?_
      refine st_p (o_gmove 196 7) (iN k) (exec_load_cell 3 (.tmp 53) (by kernel_rfl) ⟨d.g, 2, none⟩ (by kernel_rfl) _ _ Try.underlying3 rfl (rc (h37) (by kernel_rfl))) ?_
      refine st_k (o_gmove 196 8) (.pointer (some ⟨d.g, 0, none⟩)) ?_
      refine st_k (o_gmove 196 9) (.pointer (some ⟨d.g, 0, none⟩)) ?_
      refine st_k (o_gmove 196 10) (.pointer (some ⟨d.g, 1, none⟩)) ?_
      refine st_p (o_gmove 196 11) (.slice (some ⟨d.s, 0, none⟩) d.n d.cap) (exec_load_cell 77 (.tmp 57) (by kernel_rfl) ⟨d.g, 1, none⟩ (by kernel_rfl) _ _ Try.underlying77 rfl (rc (h37) (by kernel_rfl))) ?_
      refine st_p (o_gmove 196 12) (iN d.n) (exec_len (.tmp 58) 77 _ (by kernel_rfl) Try.underlying77 (some ⟨d.s, 0, none⟩) d.n d.cap (by kernel_rfl)) ?_
      refine st_p (o_gmove 196 13) (iN (k % d.n)) (exec_rem 3 3 (.tmp 54) (.tmp 59) (by kernel_rfl) k d.n (by kernel_rfl) (by kernel_rfl) hn0) ?_
      refine st_p (o_gmove 196 14) (.pointer (some ⟨d.s, k % d.n, none⟩)) (exec_cast (v := .pointer (some ⟨d.s, 0 + (k % d.n) * 1, none⟩)) (by simp) (exec_indexAt_slice 77 (.tmp 50) (.tmp 60) (by kernel_rfl) d.s 0 d.n d.cap (by kernel_rfl) .i64 (k % d.n) (by kernel_rfl) _ 1 Try.underlying77 (by kernel_rfl) (by omega))) ?_
      refine st_end ?_
      obtain ⟨V42, eV42, kV42⟩ := cell_step V36 d.s (k % d.n) (.pointer none)
      have h43 : V42.heap[d.s]? = some (.cells (Slots d.n (upS S' (k % d.n) none) d.rest) 71 (0, 0)) := eV42 ▸ ((heap_setCell_same _ d.s (k % d.n) _ _ (.pointer none) h38).trans (congrArg (fun c => some (Obj.cells c 71 (0, 0))) (show (Slots d.n S' d.rest : Array Value).setIfInBounds (k % d.n) (.pointer none) = Slots d.n (upS S' (k % d.n) none) d.rest from Slots.set' (Nat.mod_lt _ hn0) none rfl)))
      refine ls_skip (o_gmove 196 15) (w' := V42) (by kernel_rfl) (by rw [← eV42]; exact exec_store_cell 71 (.tmp 61) (.const (.pointer none)) (by kernel_rfl) d.s (k % d.n) (by kernel_rfl) (.pointer none) (by kernel_rfl) (by kernel_rfl) (by kernel_rfl) (ptrV (S' (k % d.n))) (rc (h38) ((Slots.get (Nat.mod_lt _ hn0)).trans (congrArg some (rfl)))) (frozen_of_row _ _ _ _ _ h38) (by kernel_rfl)) ?_
      clear eV42
      have h44 := kV42.bo h37 (by omega)
      have h45 : ∀ (j : Nat) (cs : Array Value), V27.heap[j]? = some (.cells cs 28 (0, 0)) → V42.heap[j]? = some (.cells cs 28 (0, 0)) := fun j cs e => kV42.odd (Odd.one h38 (by decide)) (h39 j cs e)
      have K46 : Keeps ((fun j => j = d.g ∨ j = d.s)) w V42 := K40.then kV42 (fun i hi hm => by unfold Own.One at hm; subst hm; exact .inr rfl)
      have z47 := kV42.size
      refine ls_end ?_
      refine sy_a ⟨#[.pointer (some ⟨d.g, 0, none⟩), iN l, undef, undef, iN l, .pointer (some ⟨d.g, 0, none⟩), .pointer (some ⟨d.g, 0, none⟩), .pointer (some ⟨d.g, 2, none⟩), iN d.low, iN (l - d.low), .pointer (some ⟨d.g, 0, none⟩), .pointer (some ⟨d.g, 0, none⟩), .pointer (some ⟨d.g, 1, none⟩), .slice (some ⟨d.s, 0, none⟩) d.n d.cap, iN d.n, .bool false, undef, undef, undef, undef, .pointer (some ⟨d.g, 0, none⟩), .pointer (some ⟨d.g, 0, none⟩), .pointer (some ⟨d.g, 2, none⟩), iN k, iN l, .bool true, .bool true, iN l, .pointer (some ⟨d.g, 0, none⟩), .pointer (some ⟨d.g, 0, none⟩), .pointer (some ⟨d.g, 2, none⟩), iN k, iN (l - k), .pointer (some ⟨d.g, 0, none⟩), .pointer (some ⟨d.g, 0, none⟩), .pointer (some ⟨d.g, 1, none⟩), .slice (some ⟨d.s, 0, none⟩) d.n d.cap, iN d.n, .bool true, .bool true, u40, u41, u42, u43, u44, u45, u46, .pointer (some ⟨d.g, 0, none⟩), .pointer (some ⟨d.g, 0, none⟩), .pointer (some ⟨d.g, 1, none⟩), .slice (some ⟨d.s, 0, none⟩) d.n d.cap, .pointer (some ⟨d.g, 0, none⟩), .pointer (some ⟨d.g, 0, none⟩), .pointer (some ⟨d.g, 2, none⟩), iN k, .pointer (some ⟨d.g, 0, none⟩), .pointer (some ⟨d.g, 0, none⟩), .pointer (some ⟨d.g, 1, none⟩), .slice (some ⟨d.s, 0, none⟩) d.n d.cap, iN d.n, iN (k % d.n), .pointer (some ⟨d.s, k % d.n, none⟩), undef, undef, undef, undef], []⟩ ?_
      refine blk_n ?_
      refine then_n ?_
      refine sy_reg ?_
      refine rg_plain 3 (opsAt (part_gmove 99)) [0, 1, 2, 3, 4, 5, 6, 7] (by kernel_rfl) (by kernel_rfl) ?_
      refine ps_k (o_gmove 99 0) (.pointer (some ⟨d.g, 0, none⟩)) ?_
      refine ps_k (o_gmove 99 1) (.pointer (some ⟨d.g, 0, none⟩)) ?_
      refine ps_k (o_gmove 99 2) (.pointer (some ⟨d.g, 2, none⟩)) ?_
      refine ps_p (o_gmove 99 3) (iN k) (exec_load_cell 3 (.tmp 42) (by kernel_rfl) ⟨d.g, 2, none⟩ (by kernel_rfl) _ _ Try.underlying3 rfl (rc (h44) (by kernel_rfl))) ?_
      refine ps_p (o_gmove 99 4) (iN (k + 1)) (exec_cast (congrArg (Value.int .i64) (wrapN (k + 1) (by omega))) (by kernel_rfl)) ?_
      refine ps_k (o_gmove 99 5) (.pointer (some ⟨d.g, 0, none⟩)) ?_
      refine ps_k (o_gmove 99 6) (.pointer (some ⟨d.g, 2, none⟩)) ?_
      obtain ⟨V48, eV48, kV48⟩ := cell_step V42 d.g 2 (.int .i64 ((k + 1 : Nat) : Int))
      have h49 : V48.heap[d.g]? = some (.cells (#[.func (.func 41) #[] #[], .slice (some ⟨d.s, 0, none⟩) d.n d.cap, .int .i64 ((k + 1 : Nat) : Int)]) 79 (0, 0)) := eV48 ▸ ((heap_setCell_same _ d.g 2 _ _ (.int .i64 ((k + 1 : Nat) : Int)) h44).trans (congrArg (fun c => some (Obj.cells c 79 (0, 0))) (show (#[.func (.func 41) #[] #[], .slice (some ⟨d.s, 0, none⟩) d.n d.cap, .int .i64 ((k : Nat) : Int)] : Array Value).setIfInBounds 2 (.int .i64 ((k + 1 : Nat) : Int)) = #[.func (.func 41) #[] #[], .slice (some ⟨d.s, 0, none⟩) d.n d.cap, .int .i64 ((k + 1 : Nat) : Int)] from by kernel_rfl)))
      refine ps_s (o_gmove 99 7) (w' := V48) (by rw [← eV48]; exact exec_store_cell 3 (.tmp 46) (.tmp 44) (by kernel_rfl) d.g 2 (by kernel_rfl) (iN (k + 1)) (by kernel_rfl) (by kernel_rfl) (by kernel_rfl) (iN k) (rc (h44) (by kernel_rfl)) (frozen_of_row _ _ _ _ _ h44) (by kernel_rfl)) ?_
      clear eV48
      have h50 : ∀ (j : Nat) (cs : Array Value), V27.heap[j]? = some (.cells cs 28 (0, 0)) → V48.heap[j]? = some (.cells cs 28 (0, 0)) := fun j cs e => kV48.odd (Odd.one h44 (by decide)) (h45 j cs e)
      have h51 := kV48.bo h43 (by omega)
      have K52 : Keeps ((fun j => j = d.g ∨ j = d.s)) w V48 := K46.then kV48 (fun i hi hm => by unfold Own.One at hm; subst hm; exact .inl rfl)
      have z53 := kV48.size
      refine ps_end ?_
      refine then_n ?_
      refine ⟨⟨k + 1, upS S' (k % d.n) none, (.pointer (some ⟨d.g, 0, none⟩)), (.pointer (some ⟨d.g, 0, none⟩)), (.pointer (some ⟨d.g, 2, none⟩)), (iN k), (iN l), (.bool true), (.bool true), (iN l), (.pointer (some ⟨d.g, 0, none⟩)), (.pointer (some ⟨d.g, 0, none⟩)), (.pointer (some ⟨d.g, 2, none⟩)), (iN k), (iN (l - k)), (.pointer (some ⟨d.g, 0, none⟩)), (.pointer (some ⟨d.g, 0, none⟩)), (.pointer (some ⟨d.g, 1, none⟩)), (.slice (some ⟨d.s, 0, none⟩) d.n d.cap), (iN d.n), (.bool true), (.bool true), (.pointer (some ⟨d.g, 0, none⟩)), (.pointer (some ⟨d.g, 0, none⟩)), (.pointer (some ⟨d.g, 2, none⟩)), (iN k), (iN (k + 1)), (.pointer (some ⟨d.g, 0, none⟩)), (.pointer (some ⟨d.g, 2, none⟩)), (.pointer (some ⟨d.g, 0, none⟩)), (.pointer (some ⟨d.g, 0, none⟩)), (.pointer (some ⟨d.g, 1, none⟩)), (.slice (some ⟨d.s, 0, none⟩) d.n d.cap), (.pointer (some ⟨d.g, 0, none⟩)), (.pointer (some ⟨d.g, 0, none⟩)), (.pointer (some ⟨d.g, 2, none⟩)), (iN k), (.pointer (some ⟨d.g, 0, none⟩)), (.pointer (some ⟨d.g, 0, none⟩)), (.pointer (some ⟨d.g, 1, none⟩)), (.slice (some ⟨d.s, 0, none⟩) d.n d.cap), (iN d.n), (iN (k % d.n)), (.pointer (some ⟨d.s, k % d.n, none⟩)), by kernel_rfl, by omega, by omega, K52, (by have hx := Ring.step hR h50 (by show k < 4294967296; omega) h49 h51; dsimp only at hx; rw [mvV_mvV (show ((k : Nat) : Int) ≤ ((k + 1 : Nat) : Int) by omega)] at hx; exact hx)⟩, ?_⟩
      show l - lowAt V48 d.g < l - lowAt V27 d.g; rw [lowAt_of h49, lowAt_of hg0]; omega
    · have eq_k : k = l := by omega
      have hRl : RingA V27 { d with low := l, V := mvV d.V ((l : Nat) : Int), S := S' } := eq_k ▸ hR
      have hg1 : V27.heap[d.g]? = some (.cells (#[.func (.func 41) #[] #[], .slice (some ⟨d.s, 0, none⟩) d.n d.cap, .int .i64 ((l : Nat) : Int)]) 79 (0, 0)) := hRl.ring
      refine sy_sq (part_gmove 48) (part_gmove 49) ?_
      refine sy_sq (part_gmove 96) (part_gmove 97) ?_
      refine sy_np ?_
      refine sy_reg ?_
      refine an_begin 2 20 (opsAt (part_gmove 96)) (fun W => (W.heap[d.g]? = some (.cells (#[.func (.func 41) #[] #[], .slice (some ⟨d.s, 0, none⟩) d.n d.cap, .int .i64 ((l : Nat) : Int)]) 79 (0, 0)))) #[false, false, false, false, false, false, false, false, false, false, false, false, false, false, false, false, false, false, false, false] (by kernel_rfl) (by kernel_rfl) (by kernel_rfl) (by kernel_rfl) ?_
      obtain ⟨V54, eV54, kV54⟩ := drew_step V27
      rw [eV54]
      clear eV54
      have h55 := kV54.bk hg1
      have h56 := kV54.bk hs0
      have h57 : ∀ (j : Nat) (cs : Array Value), V27.heap[j]? = some (.cells cs 28 (0, 0)) → V54.heap[j]? = some (.cells cs 28 (0, 0)) := fun j cs e => kV54.odd (Odd.nob _) ((fun _ _ e => e) j cs e)
      have K58 := K28.nn kV54
      have z59 := kV54.size
      refine an_k 0 (o_gmove 96 0) (.pointer (some ⟨d.g, 0, none⟩)) h55 ?_
      refine an_k 1 (o_gmove 96 1) (.pointer (some ⟨d.g, 0, none⟩)) h55 ?_
      refine an_k 2 (o_gmove 96 2) (.pointer (some ⟨d.g, 2, none⟩)) h55 ?_
      refine an_v 3 (o_gmove 96 3) (iN l) (fun W hS => exec_load_cell 3 (.tmp 22) (by kernel_rfl) ⟨d.g, 2, none⟩ (by kernel_rfl) _ _ Try.underlying3 rfl (rc (hS) (by kernel_rfl))) h55 ?_
      refine an_k 4 (o_gmove 96 4) (iN l) h55 ?_
      refine an_v 5 (o_gmove 96 5) (.bool false) (fun W hS => dcf ((((l : Nat) : Int)) < (((l : Nat) : Int))) (by omega)) h55 ?_
      refine an_k 6 (o_gmove 96 6) (.bool false) h55 ?_
      refine an_n 7 (o_gmove 96 7) h55 ?_
      refine an_n 8 (o_gmove 96 8) h55 ?_
      refine an_n 9 (o_gmove 96 9) h55 ?_
      refine an_n 10 (o_gmove 96 10) h55 ?_
      refine an_n 11 (o_gmove 96 11) h55 ?_
      refine an_n 12 (o_gmove 96 12) h55 ?_
      refine an_n 13 (o_gmove 96 13) h55 ?_
      refine an_n 14 (o_gmove 96 14) h55 ?_
      refine an_n 15 (o_gmove 96 15) h55 ?_
      refine an_n 16 (o_gmove 96 16) h55 ?_
      refine an_n 17 (o_gmove 96 17) h55 ?_
      refine an_n 18 (o_gmove 96 18) h55 ?_
      refine an_k 19 (o_gmove 96 19) (.bool false) h55 ?_
      refine an_end (by kernel_rfl) ?_
      refine then_n ?_
      refine sy_n (.tmp 39) (part_gmove 194) (part_gmove 195) ?_
      refine sy_exit 0 (by kernel_rfl) ?_
      refine then_e ?_
      refine then_e ?_
      refine blk_e ?_
      refine then_n ?_
      refine sy_reg ?_
      refine rg_plain 5 (opsAt (part_gmove 7)) [0, 1, 2, 3, 4] (by kernel_rfl) (by kernel_rfl) ?_
      refine ps_k (o_gmove 7 0) (.pointer (some ⟨d.g, 0, none⟩)) ?_
      refine ps_k (o_gmove 7 1) (iN l) ?_
      refine ps_k (o_gmove 7 2) (.pointer (some ⟨d.g, 0, none⟩)) ?_
      refine ps_k (o_gmove 7 3) (.pointer (some ⟨d.g, 2, none⟩)) ?_
      obtain ⟨V60, eV60, kV60⟩ := cell_step V54 d.g 2 (.int .i64 ((l : Nat) : Int))
      have h61 : V60.heap[d.g]? = some (.cells (#[.func (.func 41) #[] #[], .slice (some ⟨d.s, 0, none⟩) d.n d.cap, .int .i64 ((l : Nat) : Int)]) 79 (0, 0)) := eV60 ▸ ((heap_setCell_same _ d.g 2 _ _ (.int .i64 ((l : Nat) : Int)) h55).trans (congrArg (fun c => some (Obj.cells c 79 (0, 0))) (show (#[.func (.func 41) #[] #[], .slice (some ⟨d.s, 0, none⟩) d.n d.cap, .int .i64 ((l : Nat) : Int)] : Array Value).setIfInBounds 2 (.int .i64 ((l : Nat) : Int)) = #[.func (.func 41) #[] #[], .slice (some ⟨d.s, 0, none⟩) d.n d.cap, .int .i64 ((l : Nat) : Int)] from by kernel_rfl)))
      refine ps_s (o_gmove 7 4) (w' := V60) (by rw [← eV60]; exact exec_store_cell 3 (.tmp 65) (.tmp 63) (by kernel_rfl) d.g 2 (by kernel_rfl) (iN l) (by kernel_rfl) (by kernel_rfl) (by kernel_rfl) (iN l) (rc (h55) (by kernel_rfl)) (frozen_of_row _ _ _ _ _ h55) (by kernel_rfl)) ?_
      clear eV60
      have h62 := kV60.bo h56 (by omega)
      have h63 : ∀ (j : Nat) (cs : Array Value), V27.heap[j]? = some (.cells cs 28 (0, 0)) → V60.heap[j]? = some (.cells cs 28 (0, 0)) := fun j cs e => kV60.odd (Odd.one h55 (by decide)) (h57 j cs e)
      have K64 : Keeps ((fun j => j = d.g ∨ j = d.s)) w V60 := K58.then kV60 (fun i hi hm => by unfold Own.One at hm; subst hm; exact .inl rfl)
      have z65 := kV60.size
      refine ps_end ?_
      refine sy_a ⟨#[.pointer (some ⟨d.g, 0, none⟩), iN l, undef, undef, iN l, .pointer (some ⟨d.g, 0, none⟩), .pointer (some ⟨d.g, 0, none⟩), .pointer (some ⟨d.g, 2, none⟩), iN d.low, iN (l - d.low), .pointer (some ⟨d.g, 0, none⟩), .pointer (some ⟨d.g, 0, none⟩), .pointer (some ⟨d.g, 1, none⟩), .slice (some ⟨d.s, 0, none⟩) d.n d.cap, iN d.n, .bool false, undef, undef, undef, undef, .pointer (some ⟨d.g, 0, none⟩), .pointer (some ⟨d.g, 0, none⟩), .pointer (some ⟨d.g, 2, none⟩), iN l, iN l, .bool false, .bool false, undef, undef, undef, undef, undef, undef, undef, undef, undef, undef, undef, undef, .bool false, u40, u41, u42, u43, u44, u45, u46, u47, u48, u49, u50, u51, u52, u53, u54, u55, u56, u57, u58, u59, u60, u61, .pointer (some ⟨d.g, 0, none⟩), iN l, .pointer (some ⟨d.g, 0, none⟩), .pointer (some ⟨d.g, 2, none⟩)], []⟩ ?_
      refine sy_fall (.tuple #[]) rfl (by kernel_rfl) ?_
      exact ⟨rfl, _, Ring.same hRl h61 h62 h63, K64⟩
theorem gmove_ok (d : RD Att) (l : Nat) (w : World) (H : RingA w d) (hl0 : d.low ≤ l) (hl3 : l ≤ 4294967296) : Calls Try.prog 38 #[.pointer (some ⟨d.g, 0, none⟩), .int .i64 ((l : Nat) : Int)] w fun e w' => e = .returned (.tuple #[]) ∧ ∃ S', RingA w' { d with low := l, V := mvV d.V ((l : Nat) : Int), S := S' } ∧ Keeps (fun j => j = d.g ∨ j = d.s) w w' := by
  by_cases h : d.low + d.n ≤ l
  · exact (gmove_far d l w H h hl3).mono fun e w' ⟨he, hr, k⟩ => ⟨he, _, hr, k⟩
  · exact gmove_near d l w H hl0 (by omega) hl3
end Go.Proofs.Ytgipooedgbbliaa
