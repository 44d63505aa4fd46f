/-
  Votes: read beside the document (printed by vote10.py). Conditions: none.
-/
import Derived.Test.YtenaakldccjnbaaVoteG
import Derived.Test.YtenaakldccjnbaaVoteS
namespace Go.Proofs.Ytenaakldccjnbaa
open Go Go.RowKit Go.Own Go.Shelf

theorem lent_lt {w : World} {v : Value} {l : List UInt8} (h : Lent w v l) {j : Nat} (hj : v.ownBlock = some j) : j < w.heap.size := by
  obtain ⟨g, cap, rfl, hr⟩ := h
  exact hr.lt (by simpa [Value.ownBlock] using hj)
noncomputable def part_VoteReads (n : Nat) : Code := partOf Try.f3 n
noncomputable abbrev o_VoteReads (n k : Nat) : Oper := (opsAt (part_VoteReads n)).getD k default
set_option maxRecDepth 100000 in
set_option maxHeartbeats 4000000 in
theorem vreads_long (A0 : Option Addr) (cap0 : Nat) (l : List UInt8) (w : World) (hx : BytesAt w (.slice A0 l.length cap0) l) (hl : 300 < l.length) :
    Calls Try.prog 3 #[.slice A0 l.length cap0] w (fun e w' => e = .returned (.bool true) ∧ Keeps Nob w w') := by
  have K0 : Keeps Nob w w := Keeps.refl _ _
  refine sy_enter (part_VoteReads 1) ⟨#[.slice A0 l.length cap0, undef, undef, undef, undef, undef, undef, undef, undef, undef, undef, undef, undef, undef, undef, undef, undef, undef, undef, undef, undef, undef, undef, undef, undef, undef, undef, undef, undef, undef, undef, undef, undef, undef, undef, undef, undef, undef, undef, undef, undef, undef, undef, undef, undef, undef, undef, undef, undef, undef, undef, undef, undef, undef, undef, undef, undef, undef, undef, undef, undef, undef, undef, undef], []⟩ Try.func3 (by kernel_rfl) (by kernel_rfl) ?_
  refine sy_sq (part_VoteReads 2) (part_VoteReads 3) ?_
  refine sy_reg ?_
  refine rg_plain 0 (opsAt (part_VoteReads 2)) [0] (by kernel_rfl) (by kernel_rfl) ?_
  refine ps_k (o_VoteReads 2 0) (.bool false) ?_
  refine ps_end ?_
  refine then_n ?_
  refine sy_sq (part_VoteReads 6) (part_VoteReads 7) ?_
  refine sy_sq (part_VoteReads 12) (part_VoteReads 13) ?_
  refine sy_reg ?_
  refine rg_plain 1 (opsAt (part_VoteReads 12)) [0, 1, 2] (by kernel_rfl) (by kernel_rfl) ?_
  refine ps_k (o_VoteReads 12 0) (.slice A0 l.length cap0) ?_
  refine ps_p (o_VoteReads 12 1) (iN l.length) (exec_len (.tmp 12) 22 _ (by kernel_rfl) Try.underlying22 A0 l.length cap0 (by kernel_rfl)) ?_
  refine ps_p (o_VoteReads 12 2) (.bool true) (dct ((((l.length : Nat) : Int)) > ((300) : Int)) (by omega)) ?_
  refine ps_end ?_
  refine then_n ?_
  refine sy_ys (.tmp 14) (part_VoteReads 26) (part_VoteReads 27) ?_
  refine sy_sq (part_VoteReads 52) (part_VoteReads 53) ?_
  refine sy_reg ?_
  refine rg_plain 2 (opsAt (part_VoteReads 52)) [0, 1] (by kernel_rfl) (by kernel_rfl) ?_
  refine ps_c (o_VoteReads 52 0) 9 #[] Try.func9 ((lvawake_ok _).mono ?_)
  rintro e V1 ⟨rfl, kV1⟩
  refine ⟨_, rfl, ?_⟩
  have K2 := K0.nn kV1
  have z3 := kV1.size
  refine ps_k (o_VoteReads 52 1) (.bool true) ?_
  refine ps_end ?_
  refine then_n ?_
  refine sy_ret (by kernel_rfl) ?_
  refine then_r ?_
  refine sy_out (.bool true) rfl (by kernel_rfl) ?_
  exact ⟨rfl, K2⟩
set_option maxRecDepth 100000 in
set_option maxHeartbeats 4000000 in
theorem vreads_main (A0 : Option Addr) (cap0 : Nat) (l : List UInt8) (w : World) (hx : BytesAt w (.slice A0 l.length cap0) l) (hl : l.length ≤ 300) :
    Calls Try.prog 3 #[.slice A0 l.length cap0] w (fun e w' => e = .returned (.bool true) ∧ Keeps Nob w w') := by
  have K0 : Keeps Nob w w := Keeps.refl _ _
  refine sy_enter (part_VoteReads 1) ⟨#[.slice A0 l.length cap0, undef, undef, undef, undef, undef, undef, undef, undef, undef, undef, undef, undef, undef, undef, undef, undef, undef, undef, undef, undef, undef, undef, undef, undef, undef, undef, undef, undef, undef, undef, undef, undef, undef, undef, undef, undef, undef, undef, undef, undef, undef, undef, undef, undef, undef, undef, undef, undef, undef, undef, undef, undef, undef, undef, undef, undef, undef, undef, undef, undef, undef, undef, undef], []⟩ Try.func3 (by kernel_rfl) (by kernel_rfl) ?_
  refine sy_sq (part_VoteReads 2) (part_VoteReads 3) ?_
  refine sy_reg ?_
  refine rg_plain 0 (opsAt (part_VoteReads 2)) [0] (by kernel_rfl) (by kernel_rfl) ?_
  refine ps_k (o_VoteReads 2 0) (.bool false) ?_
  refine ps_end ?_
  refine then_n ?_
  refine sy_sq (part_VoteReads 6) (part_VoteReads 7) ?_
  refine sy_sq (part_VoteReads 12) (part_VoteReads 13) ?_
  refine sy_reg ?_
  refine rg_plain 1 (opsAt (part_VoteReads 12)) [0, 1, 2] (by kernel_rfl) (by kernel_rfl) ?_
  refine ps_k (o_VoteReads 12 0) (.slice A0 l.length cap0) ?_
  refine ps_p (o_VoteReads 12 1) (iN l.length) (exec_len (.tmp 12) 22 _ (by kernel_rfl) Try.underlying22 A0 l.length cap0 (by kernel_rfl)) ?_
  refine ps_p (o_VoteReads 12 2) (.bool false) (dcf ((((l.length : Nat) : Int)) > ((300) : Int)) (by omega)) ?_
  refine ps_end ?_
  refine then_n ?_
  refine sy_n (.tmp 14) (part_VoteReads 26) (part_VoteReads 27) ?_
  refine sy_sk ?_
  refine then_n ?_
  refine sy_sq (part_VoteReads 14) (part_VoteReads 15) ?_
  refine sy_reg ?_
  refine rg_plain 3 (opsAt (part_VoteReads 14)) [0, 1, 2] (by kernel_rfl) (by kernel_rfl) ?_
  refine ps_k (o_VoteReads 14 0) (.slice A0 l.length cap0) ?_
  refine ps_c (o_VoteReads 14 1) 10 #[.slice A0 l.length cap0] Try.func10 ((lentBytes_ok _ l _ hx (by omega)).mono ?_)
  rintro e V1 ⟨lv, rfl, hL, hnL, kV1⟩
  have hlt : ∀ j, lv.ownBlock = some j → j < V1.heap.size := fun j hj => lent_lt hL hj
  refine ⟨_, rfl, ?_⟩
  have K2 := K0.nn kV1
  have z3 := kV1.size
  refine ps_k (o_VoteReads 14 2) (lv) ?_
  refine ps_end ?_
  refine then_n ?_
  refine sy_sq (part_VoteReads 30) (part_VoteReads 31) ?_
  refine sy_reg ?_
  refine rg_plain 4 (opsAt (part_VoteReads 30)) [0, 1, 2, 3, 4, 5, 6, 7, 8] (by kernel_rfl) (by kernel_rfl) ?_
  refine ps_k (o_VoteReads 30 0) (lv) ?_
  refine ps_c (o_VoteReads 30 1) 11 #[lv] Try.func11 ((vRead_ok _ l _ (Lent.bytes hL) (by omega)).mono ?_)
  rintro e V4 ⟨rfl, kV4⟩
  refine ⟨_, rfl, ?_⟩
  have h5 : Lent V4 lv l := hL.keeps kV4 (fun _ _ x => x)
  have K6 := K2.nn kV4
  have z7 := kV4.size
  refine ps_k (o_VoteReads 30 2) (.tuple #[.agg (Att.c (aRes l)), .agg #[.int .i64 (aF l).1, .int .i64 (aF l).2]]) ?_
  refine ps_k (o_VoteReads 30 3) (.agg (Att.c (aRes l))) ?_
  refine ps_k (o_VoteReads 30 4) (.agg #[.int .i64 (aF l).1, .int .i64 (aF l).2]) ?_
  obtain ⟨V8, eV8, g1, eg1, h9, kV8⟩ := alloc_step V4 (#[.int .i64 0, .int .i64 0, .int .i64 0, .int .u8 0, .int .u8 0, .int .u8 0, .int .u8 0, .int .u8 0, .int .u8 0, .int .u8 0, .int .u8 0, .int .u8 0, .int .u8 0, .int .u8 0, .int .u8 0, .int .u8 0, .int .u8 0, .int .u8 0, .int .u8 0, .int .u8 0, .int .u8 0, .int .u8 0, .int .u8 0, .int .u8 0, .int .u8 0, .int .u8 0, .int .u8 0, .int .u8 0, .int .u8 0, .int .u8 0, .int .u8 0, .int .u8 0, .int .u8 0, .int .u8 0, .int .u8 0, .int .u64 0]) 29
  have n10 : w.heap.size ≤ g1 := eg1 ▸ K6.size
  refine ps_r (o_VoteReads 30 5) (pT g1 0) (w' := V8) (by rw [← eV8, ← eg1]; exact exec_alloc0 29 (by kernel_rfl) (.agg (#[.int .i64 0, .int .i64 0, .int .i64 0, .int .u8 0, .int .u8 0, .int .u8 0, .int .u8 0, .int .u8 0, .int .u8 0, .int .u8 0, .int .u8 0, .int .u8 0, .int .u8 0, .int .u8 0, .int .u8 0, .int .u8 0, .int .u8 0, .int .u8 0, .int .u8 0, .int .u8 0, .int .u8 0, .int .u8 0, .int .u8 0, .int .u8 0, .int .u8 0, .int .u8 0, .int .u8 0, .int .u8 0, .int .u8 0, .int .u8 0, .int .u8 0, .int .u8 0, .int .u8 0, .int .u8 0, .int .u8 0, .int .u64 0])) (by kernel_rfl)) ?_
  clear eV8
  have h11 : Lent V8 lv l := h5.keeps kV8 (fun _ _ x => x)
  have K12 := K6.nn kV8
  have z13 := kV8.size
  obtain ⟨V14, eV14, f1, ef1, h15, kV14⟩ := alloc_step V8 (#[.int .i64 0, .int .i64 0]) 32
  have n16 : g1 < f1 := ef1 ▸ lt_of_block h9
  have n17 : w.heap.size ≤ f1 := ef1 ▸ K12.size
  refine ps_r (o_VoteReads 30 6) (pT f1 0) (w' := V14) (by rw [← eV14, ← ef1]; exact exec_alloc0 32 (by kernel_rfl) (.agg (#[.int .i64 0, .int .i64 0])) (by kernel_rfl)) ?_
  clear eV14
  have h18 : Lent V14 lv l := h11.keeps kV14 (fun _ _ x => x)
  have h19 := kV14.bk h9
  have K20 := K12.nn kV14
  have z21 := kV14.size
  obtain ⟨V22, eV22, kV22⟩ := rowset_step V14 g1 ((Att.c (aRes l)))
  have h23 : V22.heap[g1]? = some (.cells (Att.c (aRes l)) 29 (0, 0)) := eV22 ▸ setRow_heap _ _ _ _ _ _ h19
  refine ps_s (o_VoteReads 30 7) (w' := V22) (by rw [← eV22]; exact exec_store_row 29 (.tmp 4) (.tmp 21) (by kernel_rfl) g1 ((Att.c (aRes l))) (by kernel_rfl) (by kernel_rfl) 29 (#[.int .i64 0, .int .i64 0, .int .i64 0, .int .u8 0, .int .u8 0, .int .u8 0, .int .u8 0, .int .u8 0, .int .u8 0, .int .u8 0, .int .u8 0, .int .u8 0, .int .u8 0, .int .u8 0, .int .u8 0, .int .u8 0, .int .u8 0, .int .u8 0, .int .u8 0, .int .u8 0, .int .u8 0, .int .u8 0, .int .u8 0, .int .u8 0, .int .u8 0, .int .u8 0, .int .u8 0, .int .u8 0, .int .u8 0, .int .u8 0, .int .u8 0, .int .u8 0, .int .u8 0, .int .u8 0, .int .u8 0, .int .u64 0]) h19 (by rw [Att.c_size _ (aRes_len l)]; kernel_rfl) (by rw [Att.c_size _ (aRes_len l)]; rfl) (Att.c_one _)) ?_
  clear eV22
  have h24 : Lent V22 lv l := h18.keeps kV22 (fun j hj e => by have := hlt j hj; unfold Own.One at e; omega)
  have h25 := kV22.bo h15 (by omega)
  have K26 := K20.no kV22 (by omega)
  have z27 := kV22.size
  obtain ⟨V28, eV28, kV28⟩ := rowset_step V22 f1 (#[.int .i64 (aF l).1, .int .i64 (aF l).2])
  have h29 : V28.heap[f1]? = some (.cells (#[.int .i64 (aF l).1, .int .i64 (aF l).2]) 32 (0, 0)) := eV28 ▸ setRow_heap _ _ _ _ _ _ h25
  refine ps_s (o_VoteReads 30 8) (w' := V28) (by rw [← eV28]; exact exec_store_row 32 (.tmp 5) (.tmp 22) (by kernel_rfl) f1 (#[.int .i64 (aF l).1, .int .i64 (aF l).2]) (by kernel_rfl) (by kernel_rfl) 32 (#[.int .i64 0, .int .i64 0]) h25 (by kernel_rfl) rfl (by kernel_rfl)) ?_
  clear eV28
  have h30 : Lent V28 lv l := h24.keeps kV28 (fun j hj e => by have := hlt j hj; unfold Own.One at e; omega)
  have h31 := kV28.bo h23 (by omega)
  have K32 := K26.no kV28 (by omega)
  have z33 := kV28.size
  refine ps_end ?_
  refine then_n ?_
  refine sy_sq (part_VoteReads 62) (part_VoteReads 63) ?_
  refine sy_reg ?_
  refine rg_plain 5 (opsAt (part_VoteReads 62)) [0, 1, 2, 3, 4, 5, 6, 7, 8] (by kernel_rfl) (by kernel_rfl) ?_
  refine ps_k (o_VoteReads 62 0) (.slice A0 l.length cap0) ?_
  refine ps_c (o_VoteReads 62 1) 12 #[.slice A0 l.length cap0] Try.func12 ((rvRead_any _ l _ (hx.keepsN K32) (by omega)).mono ?_)
  rintro e V34 ⟨rfl, kV34⟩
  refine ⟨_, rfl, ?_⟩
  have h35 : Lent V34 lv l := h30.keeps kV34 (fun _ _ x => x)
  have h36 := kV34.bk h31
  have h37 := kV34.bk h29
  have K38 := K32.nn kV34
  have z39 := kV34.size
  refine ps_k (o_VoteReads 62 2) (.tuple #[.agg (Att.c (aRes l)), .agg #[.int .i64 (aF l).1, .int .i64 (aF l).2]]) ?_
  refine ps_k (o_VoteReads 62 3) (.agg (Att.c (aRes l))) ?_
  refine ps_k (o_VoteReads 62 4) (.agg #[.int .i64 (aF l).1, .int .i64 (aF l).2]) ?_
  obtain ⟨V40, eV40, g2, eg2, h41, kV40⟩ := alloc_step V34 (#[.int .i64 0, .int .i64 0, .int .i64 0, .int .u8 0, .int .u8 0, .int .u8 0, .int .u8 0, .int .u8 0, .int .u8 0, .int .u8 0, .int .u8 0, .int .u8 0, .int .u8 0, .int .u8 0, .int .u8 0, .int .u8 0, .int .u8 0, .int .u8 0, .int .u8 0, .int .u8 0, .int .u8 0, .int .u8 0, .int .u8 0, .int .u8 0, .int .u8 0, .int .u8 0, .int .u8 0, .int .u8 0, .int .u8 0, .int .u8 0, .int .u8 0, .int .u8 0, .int .u8 0, .int .u8 0, .int .u8 0, .int .u64 0]) 29
  have n42 : g1 < g2 := eg2 ▸ lt_of_block h36
  have n43 : f1 < g2 := eg2 ▸ lt_of_block h37
  have n44 : w.heap.size ≤ g2 := eg2 ▸ K38.size
  refine ps_r (o_VoteReads 62 5) (pT g2 0) (w' := V40) (by rw [← eV40, ← eg2]; exact exec_alloc0 29 (by kernel_rfl) (.agg (#[.int .i64 0, .int .i64 0, .int .i64 0, .int .u8 0, .int .u8 0, .int .u8 0, .int .u8 0, .int .u8 0, .int .u8 0, .int .u8 0, .int .u8 0, .int .u8 0, .int .u8 0, .int .u8 0, .int .u8 0, .int .u8 0, .int .u8 0, .int .u8 0, .int .u8 0, .int .u8 0, .int .u8 0, .int .u8 0, .int .u8 0, .int .u8 0, .int .u8 0, .int .u8 0, .int .u8 0, .int .u8 0, .int .u8 0, .int .u8 0, .int .u8 0, .int .u8 0, .int .u8 0, .int .u8 0, .int .u8 0, .int .u64 0])) (by kernel_rfl)) ?_
  clear eV40
  have h45 : Lent V40 lv l := h35.keeps kV40 (fun _ _ x => x)
  have h46 := kV40.bk h36
  have h47 := kV40.bk h37
  have K48 := K38.nn kV40
  have z49 := kV40.size
  obtain ⟨V50, eV50, f2, ef2, h51, kV50⟩ := alloc_step V40 (#[.int .i64 0, .int .i64 0]) 32
  have n52 : g1 < f2 := ef2 ▸ lt_of_block h46
  have n53 : f1 < f2 := ef2 ▸ lt_of_block h47
  have n54 : g2 < f2 := ef2 ▸ lt_of_block h41
  have n55 : w.heap.size ≤ f2 := ef2 ▸ K48.size
  refine ps_r (o_VoteReads 62 6) (pT f2 0) (w' := V50) (by rw [← eV50, ← ef2]; exact exec_alloc0 32 (by kernel_rfl) (.agg (#[.int .i64 0, .int .i64 0])) (by kernel_rfl)) ?_
  clear eV50
  have h56 : Lent V50 lv l := h45.keeps kV50 (fun _ _ x => x)
  have h57 := kV50.bk h46
  have h58 := kV50.bk h47
  have h59 := kV50.bk h41
  have K60 := K48.nn kV50
  have z61 := kV50.size
  obtain ⟨V62, eV62, kV62⟩ := rowset_step V50 g2 ((Att.c (aRes l)))
  have h63 : V62.heap[g2]? = some (.cells (Att.c (aRes l)) 29 (0, 0)) := eV62 ▸ setRow_heap _ _ _ _ _ _ h59
  refine ps_s (o_VoteReads 62 7) (w' := V62) (by rw [← eV62]; exact exec_store_row 29 (.tmp 6) (.tmp 26) (by kernel_rfl) g2 ((Att.c (aRes l))) (by kernel_rfl) (by kernel_rfl) 29 (#[.int .i64 0, .int .i64 0, .int .i64 0, .int .u8 0, .int .u8 0, .int .u8 0, .int .u8 0, .int .u8 0, .int .u8 0, .int .u8 0, .int .u8 0, .int .u8 0, .int .u8 0, .int .u8 0, .int .u8 0, .int .u8 0, .int .u8 0, .int .u8 0, .int .u8 0, .int .u8 0, .int .u8 0, .int .u8 0, .int .u8 0, .int .u8 0, .int .u8 0, .int .u8 0, .int .u8 0, .int .u8 0, .int .u8 0, .int .u8 0, .int .u8 0, .int .u8 0, .int .u8 0, .int .u8 0, .int .u8 0, .int .u64 0]) h59 (by rw [Att.c_size _ (aRes_len l)]; kernel_rfl) (by rw [Att.c_size _ (aRes_len l)]; rfl) (Att.c_one _)) ?_
  clear eV62
  have h64 : Lent V62 lv l := h56.keeps kV62 (fun j hj e => by have := hlt j hj; unfold Own.One at e; omega)
  have h65 := kV62.bo h57 (by omega)
  have h66 := kV62.bo h58 (by omega)
  have h67 := kV62.bo h51 (by omega)
  have K68 := K60.no kV62 (by omega)
  have z69 := kV62.size
  obtain ⟨V70, eV70, kV70⟩ := rowset_step V62 f2 (#[.int .i64 (aF l).1, .int .i64 (aF l).2])
  have h71 : V70.heap[f2]? = some (.cells (#[.int .i64 (aF l).1, .int .i64 (aF l).2]) 32 (0, 0)) := eV70 ▸ setRow_heap _ _ _ _ _ _ h67
  refine ps_s (o_VoteReads 62 8) (w' := V70) (by rw [← eV70]; exact exec_store_row 32 (.tmp 7) (.tmp 27) (by kernel_rfl) f2 (#[.int .i64 (aF l).1, .int .i64 (aF l).2]) (by kernel_rfl) (by kernel_rfl) 32 (#[.int .i64 0, .int .i64 0]) h67 (by kernel_rfl) rfl (by kernel_rfl)) ?_
  clear eV70
  have h72 : Lent V70 lv l := h64.keeps kV70 (fun j hj e => by have := hlt j hj; unfold Own.One at e; omega)
  have h73 := kV70.bo h65 (by omega)
  have h74 := kV70.bo h66 (by omega)
  have h75 := kV70.bo h63 (by omega)
  have K76 := K68.no kV70 (by omega)
  have z77 := kV70.size
  refine ps_end ?_
  refine sy_a ⟨#[.slice A0 l.length cap0, undef, .bool false, lv, pT g1 0, pT f1 0, pT g2 0, pT f2 0, undef, undef, undef, undef, .slice A0 l.length cap0, iN l.length, .bool false, undef, .slice A0 l.length cap0, lv, .tuple #[.agg (Att.c (aRes l)), .agg #[.int .i64 (aF l).1, .int .i64 (aF l).2]], lv, .tuple #[.agg (Att.c (aRes l)), .agg #[.int .i64 (aF l).1, .int .i64 (aF l).2]], .agg (Att.c (aRes l)), .agg #[.int .i64 (aF l).1, .int .i64 (aF l).2], .tuple #[.agg (Att.c (aRes l)), .agg #[.int .i64 (aF l).1, .int .i64 (aF l).2]], .slice A0 l.length cap0, .tuple #[.agg (Att.c (aRes l)), .agg #[.int .i64 (aF l).1, .int .i64 (aF l).2]], .agg (Att.c (aRes l)), .agg #[.int .i64 (aF l).1, .int .i64 (aF l).2], undef, undef, undef, undef, undef, undef, undef, undef, undef, undef, undef, undef, undef, undef, undef, undef, undef, undef, undef, undef, undef, undef, undef, undef, undef, undef, undef, undef, undef, undef, undef, undef, undef, undef, undef, undef], []⟩ ?_
  refine then_n ?_
  refine sy_sq (part_VoteReads 126) (part_VoteReads 127) ?_
  refine sy_reg ?_
  refine rg_plain 6 (opsAt (part_VoteReads 126)) [0, 1, 2, 3, 4, 5, 6, 7, 8] (by kernel_rfl) (by kernel_rfl) ?_
  refine ps_k (o_VoteReads 126 0) (lv) ?_
  refine ps_c (o_VoteReads 126 1) 13 #[lv] Try.func13 ((vReadBlock_ok _ l _ (Lent.bytes h72) (by omega)).mono ?_)
  rintro e V78 ⟨rfl, kV78⟩
  refine ⟨_, rfl, ?_⟩
  have h79 : Lent V78 lv l := h72.keeps kV78 (fun _ _ x => x)
  have h80 := kV78.bk h73
  have h81 := kV78.bk h74
  have h82 := kV78.bk h75
  have h83 := kV78.bk h71
  have K84 := K76.nn kV78
  have z85 := kV78.size
  refine ps_k (o_VoteReads 126 2) (.tuple #[.agg (Pro.c (pRes l)), .agg #[.int .i64 (pF l).1, .int .i64 (pF l).2]]) ?_
  refine ps_k (o_VoteReads 126 3) (.agg (Pro.c (pRes l))) ?_
  refine ps_k (o_VoteReads 126 4) (.agg #[.int .i64 (pF l).1, .int .i64 (pF l).2]) ?_
  obtain ⟨V86, eV86, g3, eg3, h87, kV86⟩ := alloc_step V78 (#[.int .i64 0, .int .i64 0, .int .u8 0, .int .u8 0, .int .u8 0, .int .u8 0, .int .u8 0, .int .u8 0, .int .u8 0, .int .u8 0, .int .u8 0, .int .u8 0, .int .u8 0, .int .u8 0, .int .u8 0, .int .u8 0, .int .u8 0, .int .u8 0, .int .u8 0, .int .u8 0, .int .u8 0, .int .u8 0, .int .u8 0, .int .u8 0, .int .u8 0, .int .u8 0, .int .u8 0, .int .u8 0, .int .u8 0, .int .u8 0, .int .u8 0, .int .u8 0, .int .u8 0, .int .u8 0, .int .u64 0]) 36
  have n88 : g1 < g3 := eg3 ▸ lt_of_block h80
  have n89 : f1 < g3 := eg3 ▸ lt_of_block h81
  have n90 : g2 < g3 := eg3 ▸ lt_of_block h82
  have n91 : f2 < g3 := eg3 ▸ lt_of_block h83
  have n92 : w.heap.size ≤ g3 := eg3 ▸ K84.size
  refine ps_r (o_VoteReads 126 5) (pT g3 0) (w' := V86) (by rw [← eV86, ← eg3]; exact exec_alloc0 36 (by kernel_rfl) (.agg (#[.int .i64 0, .int .i64 0, .int .u8 0, .int .u8 0, .int .u8 0, .int .u8 0, .int .u8 0, .int .u8 0, .int .u8 0, .int .u8 0, .int .u8 0, .int .u8 0, .int .u8 0, .int .u8 0, .int .u8 0, .int .u8 0, .int .u8 0, .int .u8 0, .int .u8 0, .int .u8 0, .int .u8 0, .int .u8 0, .int .u8 0, .int .u8 0, .int .u8 0, .int .u8 0, .int .u8 0, .int .u8 0, .int .u8 0, .int .u8 0, .int .u8 0, .int .u8 0, .int .u8 0, .int .u8 0, .int .u64 0])) (by kernel_rfl)) ?_
  clear eV86
  have h93 : Lent V86 lv l := h79.keeps kV86 (fun _ _ x => x)
  have h94 := kV86.bk h80
  have h95 := kV86.bk h81
  have h96 := kV86.bk h82
  have h97 := kV86.bk h83
  have K98 := K84.nn kV86
  have z99 := kV86.size
  obtain ⟨V100, eV100, f3, ef3, h101, kV100⟩ := alloc_step V86 (#[.int .i64 0, .int .i64 0]) 32
  have n102 : g1 < f3 := ef3 ▸ lt_of_block h94
  have n103 : f1 < f3 := ef3 ▸ lt_of_block h95
  have n104 : g2 < f3 := ef3 ▸ lt_of_block h96
  have n105 : f2 < f3 := ef3 ▸ lt_of_block h97
  have n106 : g3 < f3 := ef3 ▸ lt_of_block h87
  have n107 : w.heap.size ≤ f3 := ef3 ▸ K98.size
  refine ps_r (o_VoteReads 126 6) (pT f3 0) (w' := V100) (by rw [← eV100, ← ef3]; exact exec_alloc0 32 (by kernel_rfl) (.agg (#[.int .i64 0, .int .i64 0])) (by kernel_rfl)) ?_
  clear eV100
  have h108 : Lent V100 lv l := h93.keeps kV100 (fun _ _ x => x)
  have h109 := kV100.bk h94
  have h110 := kV100.bk h95
  have h111 := kV100.bk h96
  have h112 := kV100.bk h97
  have h113 := kV100.bk h87
  have K114 := K98.nn kV100
  have z115 := kV100.size
  obtain ⟨V116, eV116, kV116⟩ := rowset_step V100 g3 ((Pro.c (pRes l)))
  have h117 : V116.heap[g3]? = some (.cells (Pro.c (pRes l)) 36 (0, 0)) := eV116 ▸ setRow_heap _ _ _ _ _ _ h113
  refine ps_s (o_VoteReads 126 7) (w' := V116) (by rw [← eV116]; exact exec_store_row 36 (.tmp 8) (.tmp 31) (by kernel_rfl) g3 ((Pro.c (pRes l))) (by kernel_rfl) (by kernel_rfl) 36 (#[.int .i64 0, .int .i64 0, .int .u8 0, .int .u8 0, .int .u8 0, .int .u8 0, .int .u8 0, .int .u8 0, .int .u8 0, .int .u8 0, .int .u8 0, .int .u8 0, .int .u8 0, .int .u8 0, .int .u8 0, .int .u8 0, .int .u8 0, .int .u8 0, .int .u8 0, .int .u8 0, .int .u8 0, .int .u8 0, .int .u8 0, .int .u8 0, .int .u8 0, .int .u8 0, .int .u8 0, .int .u8 0, .int .u8 0, .int .u8 0, .int .u8 0, .int .u8 0, .int .u8 0, .int .u8 0, .int .u64 0]) h113 (by rw [Pro.c_size _ (pRes_len l)]; kernel_rfl) (by rw [Pro.c_size _ (pRes_len l)]; rfl) (Pro.c_one _)) ?_
  clear eV116
  have h118 : Lent V116 lv l := h108.keeps kV116 (fun j hj e => by have := hlt j hj; unfold Own.One at e; omega)
  have h119 := kV116.bo h109 (by omega)
  have h120 := kV116.bo h110 (by omega)
  have h121 := kV116.bo h111 (by omega)
  have h122 := kV116.bo h112 (by omega)
  have h123 := kV116.bo h101 (by omega)
  have K124 := K114.no kV116 (by omega)
  have z125 := kV116.size
  obtain ⟨V126, eV126, kV126⟩ := rowset_step V116 f3 (#[.int .i64 (pF l).1, .int .i64 (pF l).2])
  have h127 : V126.heap[f3]? = some (.cells (#[.int .i64 (pF l).1, .int .i64 (pF l).2]) 32 (0, 0)) := eV126 ▸ setRow_heap _ _ _ _ _ _ h123
  refine ps_s (o_VoteReads 126 8) (w' := V126) (by rw [← eV126]; exact exec_store_row 32 (.tmp 9) (.tmp 32) (by kernel_rfl) f3 (#[.int .i64 (pF l).1, .int .i64 (pF l).2]) (by kernel_rfl) (by kernel_rfl) 32 (#[.int .i64 0, .int .i64 0]) h123 (by kernel_rfl) rfl (by kernel_rfl)) ?_
  clear eV126
  have h128 : Lent V126 lv l := h118.keeps kV126 (fun j hj e => by have := hlt j hj; unfold Own.One at e; omega)
  have h129 := kV126.bo h119 (by omega)
  have h130 := kV126.bo h120 (by omega)
  have h131 := kV126.bo h121 (by omega)
  have h132 := kV126.bo h122 (by omega)
  have h133 := kV126.bo h117 (by omega)
  have K134 := K124.no kV126 (by omega)
  have z135 := kV126.size
  refine ps_end ?_
  refine then_n ?_
  refine sy_sq (part_VoteReads 254) (part_VoteReads 255) ?_
  refine sy_reg ?_
  refine rg_plain 7 (opsAt (part_VoteReads 254)) [0, 1, 2, 3, 4, 5, 6, 7, 8] (by kernel_rfl) (by kernel_rfl) ?_
  refine ps_k (o_VoteReads 254 0) (.slice A0 l.length cap0) ?_
  refine ps_c (o_VoteReads 254 1) 14 #[.slice A0 l.length cap0] Try.func14 ((rvReadBlock_any _ l _ (hx.keepsN K134) (by omega)).mono ?_)
  rintro e V136 ⟨rfl, kV136⟩
  refine ⟨_, rfl, ?_⟩
  have h137 : Lent V136 lv l := h128.keeps kV136 (fun _ _ x => x)
  have h138 := kV136.bk h129
  have h139 := kV136.bk h130
  have h140 := kV136.bk h131
  have h141 := kV136.bk h132
  have h142 := kV136.bk h133
  have h143 := kV136.bk h127
  have K144 := K134.nn kV136
  have z145 := kV136.size
  refine ps_k (o_VoteReads 254 2) (.tuple #[.agg (Pro.c (pRes l)), .agg #[.int .i64 (pF l).1, .int .i64 (pF l).2]]) ?_
  refine ps_k (o_VoteReads 254 3) (.agg (Pro.c (pRes l))) ?_
  refine ps_k (o_VoteReads 254 4) (.agg #[.int .i64 (pF l).1, .int .i64 (pF l).2]) ?_
  obtain ⟨V146, eV146, g4, eg4, h147, kV146⟩ := alloc_step V136 (#[.int .i64 0, .int .i64 0, .int .u8 0, .int .u8 0, .int .u8 0, .int .u8 0, .int .u8 0, .int .u8 0, .int .u8 0, .int .u8 0, .int .u8 0, .int .u8 0, .int .u8 0, .int .u8 0, .int .u8 0, .int .u8 0, .int .u8 0, .int .u8 0, .int .u8 0, .int .u8 0, .int .u8 0, .int .u8 0, .int .u8 0, .int .u8 0, .int .u8 0, .int .u8 0, .int .u8 0, .int .u8 0, .int .u8 0, .int .u8 0, .int .u8 0, .int .u8 0, .int .u8 0, .int .u8 0, .int .u64 0]) 36
  have n148 : g1 < g4 := eg4 ▸ lt_of_block h138
  have n149 : f1 < g4 := eg4 ▸ lt_of_block h139
  have n150 : g2 < g4 := eg4 ▸ lt_of_block h140
  have n151 : f2 < g4 := eg4 ▸ lt_of_block h141
  have n152 : g3 < g4 := eg4 ▸ lt_of_block h142
  have n153 : f3 < g4 := eg4 ▸ lt_of_block h143
  have n154 : w.heap.size ≤ g4 := eg4 ▸ K144.size
  refine ps_r (o_VoteReads 254 5) (pT g4 0) (w' := V146) (by rw [← eV146, ← eg4]; exact exec_alloc0 36 (by kernel_rfl) (.agg (#[.int .i64 0, .int .i64 0, .int .u8 0, .int .u8 0, .int .u8 0, .int .u8 0, .int .u8 0, .int .u8 0, .int .u8 0, .int .u8 0, .int .u8 0, .int .u8 0, .int .u8 0, .int .u8 0, .int .u8 0, .int .u8 0, .int .u8 0, .int .u8 0, .int .u8 0, .int .u8 0, .int .u8 0, .int .u8 0, .int .u8 0, .int .u8 0, .int .u8 0, .int .u8 0, .int .u8 0, .int .u8 0, .int .u8 0, .int .u8 0, .int .u8 0, .int .u8 0, .int .u8 0, .int .u8 0, .int .u64 0])) (by kernel_rfl)) ?_
  clear eV146
  have h155 : Lent V146 lv l := h137.keeps kV146 (fun _ _ x => x)
  have h156 := kV146.bk h138
  have h157 := kV146.bk h139
  have h158 := kV146.bk h140
  have h159 := kV146.bk h141
  have h160 := kV146.bk h142
  have h161 := kV146.bk h143
  have K162 := K144.nn kV146
  have z163 := kV146.size
  obtain ⟨V164, eV164, f4, ef4, h165, kV164⟩ := alloc_step V146 (#[.int .i64 0, .int .i64 0]) 32
  have n166 : g1 < f4 := ef4 ▸ lt_of_block h156
  have n167 : f1 < f4 := ef4 ▸ lt_of_block h157
  have n168 : g2 < f4 := ef4 ▸ lt_of_block h158
  have n169 : f2 < f4 := ef4 ▸ lt_of_block h159
  have n170 : g3 < f4 := ef4 ▸ lt_of_block h160
  have n171 : f3 < f4 := ef4 ▸ lt_of_block h161
  have n172 : g4 < f4 := ef4 ▸ lt_of_block h147
  have n173 : w.heap.size ≤ f4 := ef4 ▸ K162.size
  refine ps_r (o_VoteReads 254 6) (pT f4 0) (w' := V164) (by rw [← eV164, ← ef4]; exact exec_alloc0 32 (by kernel_rfl) (.agg (#[.int .i64 0, .int .i64 0])) (by kernel_rfl)) ?_
  clear eV164
  have h174 : Lent V164 lv l := h155.keeps kV164 (fun _ _ x => x)
  have h175 := kV164.bk h156
  have h176 := kV164.bk h157
  have h177 := kV164.bk h158
  have h178 := kV164.bk h159
  have h179 := kV164.bk h160
  have h180 := kV164.bk h161
  have h181 := kV164.bk h147
  have K182 := K162.nn kV164
  have z183 := kV164.size
  obtain ⟨V184, eV184, kV184⟩ := rowset_step V164 g4 ((Pro.c (pRes l)))
  have h185 : V184.heap[g4]? = some (.cells (Pro.c (pRes l)) 36 (0, 0)) := eV184 ▸ setRow_heap _ _ _ _ _ _ h181
  refine ps_s (o_VoteReads 254 7) (w' := V184) (by rw [← eV184]; exact exec_store_row 36 (.tmp 10) (.tmp 36) (by kernel_rfl) g4 ((Pro.c (pRes l))) (by kernel_rfl) (by kernel_rfl) 36 (#[.int .i64 0, .int .i64 0, .int .u8 0, .int .u8 0, .int .u8 0, .int .u8 0, .int .u8 0, .int .u8 0, .int .u8 0, .int .u8 0, .int .u8 0, .int .u8 0, .int .u8 0, .int .u8 0, .int .u8 0, .int .u8 0, .int .u8 0, .int .u8 0, .int .u8 0, .int .u8 0, .int .u8 0, .int .u8 0, .int .u8 0, .int .u8 0, .int .u8 0, .int .u8 0, .int .u8 0, .int .u8 0, .int .u8 0, .int .u8 0, .int .u8 0, .int .u8 0, .int .u8 0, .int .u8 0, .int .u64 0]) h181 (by rw [Pro.c_size _ (pRes_len l)]; kernel_rfl) (by rw [Pro.c_size _ (pRes_len l)]; rfl) (Pro.c_one _)) ?_
  clear eV184
  have h186 : Lent V184 lv l := h174.keeps kV184 (fun j hj e => by have := hlt j hj; unfold Own.One at e; omega)
  have h187 := kV184.bo h175 (by omega)
  have h188 := kV184.bo h176 (by omega)
  have h189 := kV184.bo h177 (by omega)
  have h190 := kV184.bo h178 (by omega)
  have h191 := kV184.bo h179 (by omega)
  have h192 := kV184.bo h180 (by omega)
  have h193 := kV184.bo h165 (by omega)
  have K194 := K182.no kV184 (by omega)
  have z195 := kV184.size
  obtain ⟨V196, eV196, kV196⟩ := rowset_step V184 f4 (#[.int .i64 (pF l).1, .int .i64 (pF l).2])
  have h197 : V196.heap[f4]? = some (.cells (#[.int .i64 (pF l).1, .int .i64 (pF l).2]) 32 (0, 0)) := eV196 ▸ setRow_heap _ _ _ _ _ _ h193
  refine ps_s (o_VoteReads 254 8) (w' := V196) (by rw [← eV196]; exact exec_store_row 32 (.tmp 11) (.tmp 37) (by kernel_rfl) f4 (#[.int .i64 (pF l).1, .int .i64 (pF l).2]) (by kernel_rfl) (by kernel_rfl) 32 (#[.int .i64 0, .int .i64 0]) h193 (by kernel_rfl) rfl (by kernel_rfl)) ?_
  clear eV196
  have h198 : Lent V196 lv l := h186.keeps kV196 (fun j hj e => by have := hlt j hj; unfold Own.One at e; omega)
  have h199 := kV196.bo h187 (by omega)
  have h200 := kV196.bo h188 (by omega)
  have h201 := kV196.bo h189 (by omega)
  have h202 := kV196.bo h190 (by omega)
  have h203 := kV196.bo h191 (by omega)
  have h204 := kV196.bo h192 (by omega)
  have h205 := kV196.bo h185 (by omega)
  have K206 := K194.no kV196 (by omega)
  have z207 := kV196.size
  refine ps_end ?_
  refine then_n ?_
  refine sy_sq (part_VoteReads 510) (part_VoteReads 511) ?_
  refine sy_reg ?_
  refine rg_plain 8 (opsAt (part_VoteReads 510)) [0, 1, 2, 3, 4, 5, 6, 7, 8, 9, 10, 11, 12, 13, 14, 15, 16, 17, 18, 19, 20, 21, 22, 23, 24, 25, 26] (by kernel_rfl) (by kernel_rfl) ?_
  refine ps_p (o_VoteReads 510 0) (.agg (Att.c (aRes l))) (exec_load_row 29 (.tmp 4) (by kernel_rfl) g1 (by kernel_rfl) _ _ (0, 0) _ (h199) Try.underlying29 rfl (by rw [Att.c_size _ (aRes_len l)]; kernel_rfl)) ?_
  refine ps_p (o_VoteReads 510 1) (.agg (Att.c (aRes l))) (exec_load_row 29 (.tmp 6) (by kernel_rfl) g2 (by kernel_rfl) _ _ (0, 0) _ (h201) Try.underlying29 rfl (by rw [Att.c_size _ (aRes_len l)]; kernel_rfl)) ?_
  refine ps_p (o_VoteReads 510 2) (.bool true) (exec_cast (congrArg Value.bool (by simp)) (exec_binop .eql 29 29 (.tmp 38) (.tmp 39) (by kernel_rfl) (.agg (Att.c (aRes l))) (.agg (Att.c (aRes l))) _ (by kernel_rfl) (by kernel_rfl) (run_eqGuard_agg _ _ _ _ _ _ _ att_guard) (att_eq (aRes l) (aRes l) (aRes_len l) (aRes_len l) _))) ?_
  refine ps_k (o_VoteReads 510 3) (.bool true) ?_
  refine ps_p (o_VoteReads 510 4) (.agg #[.int .i64 (aF l).1, .int .i64 (aF l).2]) (exec_load_row 32 (.tmp 5) (by kernel_rfl) f1 (by kernel_rfl) _ _ (0, 0) _ (h200) Try.underlying32 rfl (by kernel_rfl)) ?_
  refine ps_p (o_VoteReads 510 5) (.agg #[.int .i64 (aF l).1, .int .i64 (aF l).2]) (exec_load_row 32 (.tmp 7) (by kernel_rfl) f2 (by kernel_rfl) _ _ (0, 0) _ (h202) Try.underlying32 rfl (by kernel_rfl)) ?_
  refine ps_p (o_VoteReads 510 6) (.bool true) (exec_cast (congrArg Value.bool (by simp)) (exec_binop .eql 32 32 (.tmp 42) (.tmp 43) (by kernel_rfl) (.agg #[.int .i64 (aF l).1, .int .i64 (aF l).2]) (.agg #[.int .i64 (aF l).1, .int .i64 (aF l).2]) _ (by kernel_rfl) (by kernel_rfl) (run_eqGuard_agg _ _ _ _ _ _ _ fault_guard) (fault_eq _ _ _ _ _))) ?_
  refine ps_k (o_VoteReads 510 7) (.bool true) ?_
  refine ps_k (o_VoteReads 510 8) (.bool true) ?_
  refine ps_p (o_VoteReads 510 9) (.agg (Pro.c (pRes l))) (exec_load_row 36 (.tmp 8) (by kernel_rfl) g3 (by kernel_rfl) _ _ (0, 0) _ (h203) Try.underlying36 rfl (by rw [Pro.c_size _ (pRes_len l)]; kernel_rfl)) ?_
  refine ps_p (o_VoteReads 510 10) (.agg (Pro.c (pRes l))) (exec_load_row 36 (.tmp 10) (by kernel_rfl) g4 (by kernel_rfl) _ _ (0, 0) _ (h205) Try.underlying36 rfl (by rw [Pro.c_size _ (pRes_len l)]; kernel_rfl)) ?_
  refine ps_p (o_VoteReads 510 11) (.bool true) (exec_cast (congrArg Value.bool (by simp)) (exec_binop .eql 36 36 (.tmp 47) (.tmp 48) (by kernel_rfl) (.agg (Pro.c (pRes l))) (.agg (Pro.c (pRes l))) _ (by kernel_rfl) (by kernel_rfl) (run_eqGuard_agg _ _ _ _ _ _ _ pro_guard) (pro_eq (pRes l) (pRes l) (pRes_len l) (pRes_len l) _))) ?_
  refine ps_k (o_VoteReads 510 12) (.bool true) ?_
  refine ps_k (o_VoteReads 510 13) (.bool true) ?_
  refine ps_p (o_VoteReads 510 14) (.agg #[.int .i64 (pF l).1, .int .i64 (pF l).2]) (exec_load_row 32 (.tmp 9) (by kernel_rfl) f3 (by kernel_rfl) _ _ (0, 0) _ (h204) Try.underlying32 rfl (by kernel_rfl)) ?_
  refine ps_p (o_VoteReads 510 15) (.agg #[.int .i64 (pF l).1, .int .i64 (pF l).2]) (exec_load_row 32 (.tmp 11) (by kernel_rfl) f4 (by kernel_rfl) _ _ (0, 0) _ (h197) Try.underlying32 rfl (by kernel_rfl)) ?_
  refine ps_p (o_VoteReads 510 16) (.bool true) (exec_cast (congrArg Value.bool (by simp)) (exec_binop .eql 32 32 (.tmp 52) (.tmp 53) (by kernel_rfl) (.agg #[.int .i64 (pF l).1, .int .i64 (pF l).2]) (.agg #[.int .i64 (pF l).1, .int .i64 (pF l).2]) _ (by kernel_rfl) (by kernel_rfl) (run_eqGuard_agg _ _ _ _ _ _ _ fault_guard) (fault_eq _ _ _ _ _))) ?_
  refine ps_k (o_VoteReads 510 17) (.bool true) ?_
  refine ps_k (o_VoteReads 510 18) (.bool true) ?_
  refine ps_k (o_VoteReads 510 19) (lv) ?_
  refine ps_k (o_VoteReads 510 20) (.slice A0 l.length cap0) ?_
  refine ps_c (o_VoteReads 510 21) 15 #[lv, .slice A0 l.length cap0] Try.func15 ((keptBytes_ok _ _ l _ h198 (hx.keepsN K206) (by omega)).mono ?_)
  rintro e V208 ⟨rfl, kV208⟩
  refine ⟨_, rfl, ?_⟩
  have h209 : Lent V208 lv l := h198.keeps kV208 (fun _ _ x => x)
  have h210 := kV208.bk h199
  have h211 := kV208.bk h200
  have h212 := kV208.bk h201
  have h213 := kV208.bk h202
  have h214 := kV208.bk h203
  have h215 := kV208.bk h204
  have h216 := kV208.bk h205
  have h217 := kV208.bk h197
  have K218 := K206.nn kV208
  have z219 := kV208.size
  refine ps_k (o_VoteReads 510 22) (.bool true) ?_
  refine ps_k (o_VoteReads 510 23) (.bool true) ?_
  refine ps_c (o_VoteReads 510 24) 9 #[] Try.func9 ((lvawake_ok _).mono ?_)
  rintro e V220 ⟨rfl, kV220⟩
  refine ⟨_, rfl, ?_⟩
  have h221 : Lent V220 lv l := h209.keeps kV220 (fun _ _ x => x)
  have h222 := kV220.bk h210
  have h223 := kV220.bk h211
  have h224 := kV220.bk h212
  have h225 := kV220.bk h213
  have h226 := kV220.bk h214
  have h227 := kV220.bk h215
  have h228 := kV220.bk h216
  have h229 := kV220.bk h217
  have K230 := K218.nn kV220
  have z231 := kV220.size
  refine ps_k (o_VoteReads 510 25) (.bool true) ?_
  refine ps_k (o_VoteReads 510 26) (.bool true) ?_
  refine ps_end ?_
  refine sy_a ⟨#[.slice A0 l.length cap0, undef, .bool true, lv, pT g1 0, pT f1 0, pT g2 0, pT f2 0, pT g3 0, pT f3 0, pT g4 0, pT f4 0, .slice A0 l.length cap0, iN l.length, .bool false, undef, .slice A0 l.length cap0, lv, .tuple #[.agg (Att.c (aRes l)), .agg #[.int .i64 (aF l).1, .int .i64 (aF l).2]], lv, .tuple #[.agg (Att.c (aRes l)), .agg #[.int .i64 (aF l).1, .int .i64 (aF l).2]], .agg (Att.c (aRes l)), .agg #[.int .i64 (aF l).1, .int .i64 (aF l).2], .tuple #[.agg (Att.c (aRes l)), .agg #[.int .i64 (aF l).1, .int .i64 (aF l).2]], .slice A0 l.length cap0, .tuple #[.agg (Att.c (aRes l)), .agg #[.int .i64 (aF l).1, .int .i64 (aF l).2]], .agg (Att.c (aRes l)), .agg #[.int .i64 (aF l).1, .int .i64 (aF l).2], .tuple #[.agg (Pro.c (pRes l)), .agg #[.int .i64 (pF l).1, .int .i64 (pF l).2]], lv, .tuple #[.agg (Pro.c (pRes l)), .agg #[.int .i64 (pF l).1, .int .i64 (pF l).2]], .agg (Pro.c (pRes l)), .agg #[.int .i64 (pF l).1, .int .i64 (pF l).2], .tuple #[.agg (Pro.c (pRes l)), .agg #[.int .i64 (pF l).1, .int .i64 (pF l).2]], .slice A0 l.length cap0, .tuple #[.agg (Pro.c (pRes l)), .agg #[.int .i64 (pF l).1, .int .i64 (pF l).2]], .agg (Pro.c (pRes l)), .agg #[.int .i64 (pF l).1, .int .i64 (pF l).2], .agg (Att.c (aRes l)), .agg (Att.c (aRes l)), .bool true, .bool true, .agg #[.int .i64 (aF l).1, .int .i64 (aF l).2], .agg #[.int .i64 (aF l).1, .int .i64 (aF l).2], .bool true, .bool true, .bool true, .agg (Pro.c (pRes l)), .agg (Pro.c (pRes l)), .bool true, .bool true, .bool true, .agg #[.int .i64 (pF l).1, .int .i64 (pF l).2], .agg #[.int .i64 (pF l).1, .int .i64 (pF l).2], .bool true, .bool true, .bool true, lv, .slice A0 l.length cap0, .bool true, .bool true, .bool true, .bool true, .bool true], []⟩ ?_
  refine then_n ?_
  refine sy_ret (by kernel_rfl) ?_
  refine sy_out (.bool true) rfl (by kernel_rfl) ?_
  exact ⟨rfl, K230⟩
theorem vreads_ok (v0 : Value) (l : List UInt8) (w : World) (hx : BytesAt w v0 l) : Calls Try.prog 3 #[v0] w fun e w' => e = .returned (.bool true) ∧ Keeps Nob w w' := by
  obtain ⟨A0, cap0, rfl⟩ := hx.len
  by_cases hl : 300 < l.length
  · exact vreads_long A0 cap0 l w hx hl
  · exact vreads_main A0 cap0 l w hx (by omega)
end Go.Proofs.Ytenaakldccjnbaa
