/-
  Votes: bytes and digests beside the document's (printed by vote8.py). Conditions: none.
-/
import Derived.Test.YtenaakldccjnbaaVoteG
import Derived.Test.YtenaakldccjnbaaVoteI
import Derived.Test.YtenaakldccjnbaaVoteJ
namespace Go.Proofs.Ytenaakldccjnbaa
open Go Go.RowKit Go.Own Go.Shelf

def Att.told (a : Att) : List UInt8 := if a.fine then a.bytes else []
theorem vBytes_any (a : Att) (w : World) (ha : a.Ok) : Calls Try.prog 16 #[.agg (Att.c a)] w fun e w' => ∃ X, e = .returned (.tuple #[X, .int .i64 a.err]) ∧ Row w' 5 1 X a.told.length (B a.told) ∧ NewFrom w.heap.size X ∧ Keeps Nob w w' := by
  by_cases hf : a.fine
  · rw [Att.err_ok hf, Att.told, if_pos hf]; exact vBytes_ok a w ha hf
  · rw [Att.err_no hf, Att.told, if_neg hf]; exact (vBytes_bad a w ha hf).mono fun e w' ⟨h1, h2⟩ => ⟨_, h1, World.ownsRow_nil _ _ _ _, NewFrom.nil _, h2⟩
theorem rvBytes_any (a : Att) (w : World) (ha : a.Ok) : Calls Try.prog 17 #[.agg (Att.c a)] w fun e w' => ∃ X, e = .returned (.tuple #[X, .int .i64 a.err]) ∧ Row w' 5 1 X a.told.length (B a.told) ∧ NewFrom w.heap.size X ∧ Keeps Nob w w' := by
  by_cases hf : a.fine
  · rw [Att.err_ok hf, Att.told, if_pos hf]; exact rvBytes_ok a w ha hf
  · rw [Att.err_no hf, Att.told, if_neg hf]; exact (rvBytes_bad a w ha hf).mono fun e w' ⟨h1, h2⟩ => ⟨_, h1, World.ownsRow_nil _ _ _ _, NewFrom.nil _, h2⟩
theorem rvDigest_dg (a : Att) (w : World) (ha : a.Ok) : Calls Try.prog 27 #[.agg (Att.c a)] w fun e w' => e = .returned (.tuple #[.agg (B a.dg).toArray, .int .i64 a.err]) ∧ Keeps Nob w w' := by
  by_cases hf : a.fine
  · rw [Att.err_ok hf, Att.dg, if_pos hf]; exact rvDigest_ok a w ha hf
  · rw [Att.err_no hf, Att.dg, if_neg hf]; exact rvDigest_bad a w ha hf
def Pro.told (a : Pro) : List UInt8 := if a.fine then a.bytes else []
theorem vBytesBlock_any (a : Pro) (w : World) (ha : a.Ok) : Calls Try.prog 18 #[.agg (Pro.c a)] w fun e w' => ∃ X, e = .returned (.tuple #[X, .int .i64 a.err]) ∧ Row w' 5 1 X a.told.length (B a.told) ∧ NewFrom w.heap.size X ∧ Keeps Nob w w' := by
  by_cases hf : a.fine
  · rw [Pro.err_ok hf, Pro.told, if_pos hf]; exact vBytesBlock_ok a w ha hf
  · rw [Pro.err_no hf, Pro.told, if_neg hf]; exact (vBytesBlock_bad a w ha hf).mono fun e w' ⟨h1, h2⟩ => ⟨_, h1, World.ownsRow_nil _ _ _ _, NewFrom.nil _, h2⟩
theorem rvBytesBlock_any (a : Pro) (w : World) (ha : a.Ok) : Calls Try.prog 19 #[.agg (Pro.c a)] w fun e w' => ∃ X, e = .returned (.tuple #[X, .int .i64 a.err]) ∧ Row w' 5 1 X a.told.length (B a.told) ∧ NewFrom w.heap.size X ∧ Keeps Nob w w' := by
  by_cases hf : a.fine
  · rw [Pro.err_ok hf, Pro.told, if_pos hf]; exact rvBytesBlock_ok a w ha hf
  · rw [Pro.err_no hf, Pro.told, if_neg hf]; exact (rvBytesBlock_bad a w ha hf).mono fun e w' ⟨h1, h2⟩ => ⟨_, h1, World.ownsRow_nil _ _ _ _, NewFrom.nil _, h2⟩
theorem rvDigestBlock_dg (a : Pro) (w : World) (ha : a.Ok) : Calls Try.prog 29 #[.agg (Pro.c a)] w fun e w' => e = .returned (.tuple #[.agg (B a.dg).toArray, .int .i64 a.err]) ∧ Keeps Nob w w' := by
  by_cases hf : a.fine
  · rw [Pro.err_ok hf, Pro.dg, if_pos hf]; exact rvDigestBlock_ok a w ha hf
  · rw [Pro.err_no hf, Pro.dg, if_neg hf]; exact rvDigestBlock_bad a w ha hf
noncomputable def part_VoteBytes (n : Nat) : Code := partOf Try.f4 n
noncomputable abbrev o_VoteBytes (n k : Nat) : Oper := (opsAt (part_VoteBytes n)).getD k default
set_option maxRecDepth 100000 in
set_option maxHeartbeats 4000000 in
theorem vbytes_ok (a : Att) (p : Pro) (w : World) (ha : a.Ok) (hp : p.Ok) :
    Calls Try.prog 4 #[.agg (Att.c a), .agg (Pro.c p)] w (fun e w' => e = .returned (.bool true) ∧ Keeps Nob w w') := by
  have K0 : Keeps Nob w w := Keeps.refl _ _
  refine sy_enter (part_VoteBytes 1) ⟨#[.agg (Att.c a), .agg (Pro.c p), undef, undef, undef, undef, undef, undef, undef, undef, undef, undef, undef, undef, undef, undef, undef, undef, undef, undef, undef, undef, undef, undef, undef, undef, undef, undef, undef, undef, undef, undef, undef, undef, undef, undef, undef, undef, undef, undef, undef, undef, undef, undef, undef, undef, undef, undef, undef, undef, undef, undef, undef, undef, undef, undef, undef, undef, undef, undef, undef, undef, undef, undef, undef, undef, undef, undef, undef, undef, undef, undef, undef, undef, undef, undef, undef, undef, undef, undef, undef, undef, undef, undef, undef, undef, undef, undef, undef, undef, undef, undef, undef, undef, undef, undef, undef, undef, undef, undef, undef, undef, undef, undef, undef, undef, undef, undef, undef, undef, undef, undef, undef, undef, undef, undef, undef, undef, undef, undef, undef, undef, undef, undef, undef, undef, undef, undef, undef, undef, undef, undef, undef, undef], []⟩ Try.func4 (by kernel_rfl) (by kernel_rfl) ?_
  refine sy_sq (part_VoteBytes 2) (part_VoteBytes 3) ?_
  refine sy_reg ?_
  refine rg_plain 0 (opsAt (part_VoteBytes 2)) [0, 1, 2] (by kernel_rfl) (by kernel_rfl) ?_
  obtain ⟨V1, eV1, ga, ega, h2, kV1⟩ := alloc_step w ((Att.c a)) 29
  have n3 : w.heap.size ≤ ga := ega ▸ K0.size
  refine ps_r (o_VoteBytes 2 0) (pT ga 0) (w' := V1) (by rw [← eV1, ← ega]; exact exec_box 29 (.tmp 0) (by kernel_rfl) (.agg (Att.c a)) (by kernel_rfl)) ?_
  clear eV1
  have K4 := K0.nn kV1
  have z5 := kV1.size
  obtain ⟨V6, eV6, gp, egp, h7, kV6⟩ := alloc_step V1 ((Pro.c p)) 36
  have n8 : ga < gp := egp ▸ lt_of_block h2
  have n9 : w.heap.size ≤ gp := egp ▸ K4.size
  refine ps_r (o_VoteBytes 2 1) (pT gp 0) (w' := V6) (by rw [← eV6, ← egp]; exact exec_box 36 (.tmp 1) (by kernel_rfl) (.agg (Pro.c p)) (by kernel_rfl)) ?_
  clear eV6
  have h10 := kV6.bk h2
  have K11 := K4.nn kV6
  have z12 := kV6.size
  refine ps_k (o_VoteBytes 2 2) (.bool false) ?_
  refine ps_end ?_
  refine then_n ?_
  refine sy_sq (part_VoteBytes 6) (part_VoteBytes 7) ?_
  refine sy_reg ?_
  refine rg_plain 1 (opsAt (part_VoteBytes 6)) [0, 1, 2, 3, 4, 5, 6] (by kernel_rfl) (by kernel_rfl) ?_
  refine ps_p (o_VoteBytes 6 0) (.agg (Att.c a)) (exec_load_row 29 (.tmp 2) (by kernel_rfl) ga (by kernel_rfl) _ _ (0, 0) _ (h10) Try.underlying29 rfl (by rw [Att.c_size _ ha.r]; kernel_rfl)) ?_
  refine ps_c (o_VoteBytes 6 1) 16 #[.agg (Att.c a)] Try.func16 ((vBytes_any a _ ha).mono ?_)
  rintro e V13 ⟨x1, rfl, hV13, nx1, kV13⟩
  have lx1 : ∀ j, x1.ownBlock = some j → j < V13.heap.size := fun j hj => hV13.lt hj
  have gx1 : w.heap.size ≤ V6.heap.size := K11.size
  have fx1 : ga < V6.heap.size ∧ gp < V6.heap.size := ⟨lt_of_block h10, lt_of_block h7⟩
  refine ⟨_, rfl, ?_⟩
  have h14 := kV13.bk h10
  have h15 := kV13.bk h7
  have K16 := K11.nn kV13
  have z17 := kV13.size
  refine ps_k (o_VoteBytes 6 2) (.tuple #[x1, .int .i64 a.err]) ?_
  refine ps_k (o_VoteBytes 6 3) (x1) ?_
  refine ps_k (o_VoteBytes 6 4) (.int .i64 a.err) ?_
  refine ps_k (o_VoteBytes 6 5) (x1) ?_
  refine ps_k (o_VoteBytes 6 6) (.int .i64 a.err) ?_
  refine ps_end ?_
  refine then_n ?_
  refine sy_sq (part_VoteBytes 14) (part_VoteBytes 15) ?_
  refine sy_reg ?_
  refine rg_plain 2 (opsAt (part_VoteBytes 14)) [0, 1, 2, 3, 4, 5, 6] (by kernel_rfl) (by kernel_rfl) ?_
  refine ps_p (o_VoteBytes 14 0) (.agg (Att.c a)) (exec_load_row 29 (.tmp 2) (by kernel_rfl) ga (by kernel_rfl) _ _ (0, 0) _ (h14) Try.underlying29 rfl (by rw [Att.c_size _ ha.r]; kernel_rfl)) ?_
  have bx2_x1 : ∀ j, x1.ownBlock = some j → j < V13.heap.size := fun j hj => hV13.lt hj
  refine ps_c (o_VoteBytes 14 1) 17 #[.agg (Att.c a)] Try.func17 ((rvBytes_any a _ ha).mono ?_)
  rintro e V18 ⟨x2, rfl, hV18, nx2, kV18⟩
  have lx2 : ∀ j, x2.ownBlock = some j → j < V18.heap.size := fun j hj => hV18.lt hj
  have apx2_x1 : ∀ j, x1.ownBlock = some j → ¬ x2.ownBlock = some j := fun j h1 h2 => by have := bx2_x1 j h1; have := nx2 j h2; omega
  have gx2 : w.heap.size ≤ V13.heap.size := K16.size
  have fx2 : ga < V13.heap.size ∧ gp < V13.heap.size := ⟨lt_of_block h14, lt_of_block h15⟩
  refine ⟨_, rfl, ?_⟩
  have h19 := kV18.bk h14
  have h20 := kV18.bk h15
  have h21 : Row V18 5 1 x1 (a.told).length (B (a.told)) := hV13.keeps kV18 (fun _ _ x => x)
  have K22 := K16.nn kV18
  have z23 := kV18.size
  refine ps_k (o_VoteBytes 14 2) (.tuple #[x2, .int .i64 a.err]) ?_
  refine ps_k (o_VoteBytes 14 3) (x2) ?_
  refine ps_k (o_VoteBytes 14 4) (.int .i64 a.err) ?_
  refine ps_k (o_VoteBytes 14 5) (x2) ?_
  refine ps_k (o_VoteBytes 14 6) (.int .i64 a.err) ?_
  refine ps_end ?_
  refine then_n ?_
  refine sy_sq (part_VoteBytes 30) (part_VoteBytes 31) ?_
  refine sy_reg ?_
  refine rg_plain 3 (opsAt (part_VoteBytes 30)) [0, 1, 2, 3, 4, 5, 6] (by kernel_rfl) (by kernel_rfl) ?_
  refine ps_p (o_VoteBytes 30 0) (.agg (Pro.c p)) (exec_load_row 36 (.tmp 3) (by kernel_rfl) gp (by kernel_rfl) _ _ (0, 0) _ (h20) Try.underlying36 rfl (by rw [Pro.c_size _ hp.r]; kernel_rfl)) ?_
  have bx3_x1 : ∀ j, x1.ownBlock = some j → j < V18.heap.size := fun j hj => h21.lt hj
  have bx3_x2 : ∀ j, x2.ownBlock = some j → j < V18.heap.size := fun j hj => hV18.lt hj
  refine ps_c (o_VoteBytes 30 1) 18 #[.agg (Pro.c p)] Try.func18 ((vBytesBlock_any p _ hp).mono ?_)
  rintro e V24 ⟨x3, rfl, hV24, nx3, kV24⟩
  have lx3 : ∀ j, x3.ownBlock = some j → j < V24.heap.size := fun j hj => hV24.lt hj
  have apx3_x1 : ∀ j, x1.ownBlock = some j → ¬ x3.ownBlock = some j := fun j h1 h2 => by have := bx3_x1 j h1; have := nx3 j h2; omega
  have apx3_x2 : ∀ j, x2.ownBlock = some j → ¬ x3.ownBlock = some j := fun j h1 h2 => by have := bx3_x2 j h1; have := nx3 j h2; omega
  have gx3 : w.heap.size ≤ V18.heap.size := K22.size
  have fx3 : ga < V18.heap.size ∧ gp < V18.heap.size := ⟨lt_of_block h19, lt_of_block h20⟩
  refine ⟨_, rfl, ?_⟩
  have h25 := kV24.bk h19
  have h26 := kV24.bk h20
  have h27 : Row V24 5 1 x1 (a.told).length (B (a.told)) := h21.keeps kV24 (fun _ _ x => x)
  have h28 : Row V24 5 1 x2 (a.told).length (B (a.told)) := hV18.keeps kV24 (fun _ _ x => x)
  have K29 := K22.nn kV24
  have z30 := kV24.size
  refine ps_k (o_VoteBytes 30 2) (.tuple #[x3, .int .i64 p.err]) ?_
  refine ps_k (o_VoteBytes 30 3) (x3) ?_
  refine ps_k (o_VoteBytes 30 4) (.int .i64 p.err) ?_
  refine ps_k (o_VoteBytes 30 5) (x3) ?_
  refine ps_k (o_VoteBytes 30 6) (.int .i64 p.err) ?_
  refine ps_end ?_
  refine sy_a ⟨#[.agg (Att.c a), .agg (Pro.c p), pT ga 0, pT gp 0, .bool false, x1, .int .i64 a.err, x2, .int .i64 a.err, x3, .int .i64 p.err, undef, undef, undef, undef, undef, undef, undef, undef, undef, undef, undef, undef, undef, .tuple #[x1, .int .i64 a.err], .agg (Att.c a), .tuple #[x1, .int .i64 a.err], x1, .int .i64 a.err, .tuple #[x2, .int .i64 a.err], .agg (Att.c a), .tuple #[x2, .int .i64 a.err], x2, .int .i64 a.err, .tuple #[x3, .int .i64 p.err], .agg (Pro.c p), .tuple #[x3, .int .i64 p.err], x3, .int .i64 p.err, undef, undef, undef, undef, undef, undef, undef, undef, undef, undef, undef, undef, undef, undef, undef, undef, undef, undef, undef, undef, undef, undef, undef, undef, undef, undef, undef, undef, undef, undef, undef, undef, undef, undef, undef, undef, undef, undef, undef, undef, undef, undef, undef, undef, undef, undef, undef, undef, undef, undef, undef, undef, undef, undef, undef, undef, undef, undef, undef, undef, undef, undef, undef, undef, undef, undef, undef, undef, undef, undef, undef, undef, undef, undef, undef, undef, undef, undef, undef, undef, undef, undef, undef, undef, undef, undef, undef, undef, undef, undef, undef, undef, undef, undef, undef], []⟩ ?_
  refine then_n ?_
  refine sy_sq (part_VoteBytes 62) (part_VoteBytes 63) ?_
  refine sy_reg ?_
  refine rg_plain 4 (opsAt (part_VoteBytes 62)) [0, 1, 2, 3, 4, 5, 6] (by kernel_rfl) (by kernel_rfl) ?_
  refine ps_p (o_VoteBytes 62 0) (.agg (Pro.c p)) (exec_load_row 36 (.tmp 3) (by kernel_rfl) gp (by kernel_rfl) _ _ (0, 0) _ (h26) Try.underlying36 rfl (by rw [Pro.c_size _ hp.r]; kernel_rfl)) ?_
  have bx4_x1 : ∀ j, x1.ownBlock = some j → j < V24.heap.size := fun j hj => h27.lt hj
  have bx4_x2 : ∀ j, x2.ownBlock = some j → j < V24.heap.size := fun j hj => h28.lt hj
  have bx4_x3 : ∀ j, x3.ownBlock = some j → j < V24.heap.size := fun j hj => hV24.lt hj
  refine ps_c (o_VoteBytes 62 1) 19 #[.agg (Pro.c p)] Try.func19 ((rvBytesBlock_any p _ hp).mono ?_)
  rintro e V31 ⟨x4, rfl, hV31, nx4, kV31⟩
  have lx4 : ∀ j, x4.ownBlock = some j → j < V31.heap.size := fun j hj => hV31.lt hj
  have apx4_x1 : ∀ j, x1.ownBlock = some j → ¬ x4.ownBlock = some j := fun j h1 h2 => by have := bx4_x1 j h1; have := nx4 j h2; omega
  have apx4_x2 : ∀ j, x2.ownBlock = some j → ¬ x4.ownBlock = some j := fun j h1 h2 => by have := bx4_x2 j h1; have := nx4 j h2; omega
  have apx4_x3 : ∀ j, x3.ownBlock = some j → ¬ x4.ownBlock = some j := fun j h1 h2 => by have := bx4_x3 j h1; have := nx4 j h2; omega
  have gx4 : w.heap.size ≤ V24.heap.size := K29.size
  have fx4 : ga < V24.heap.size ∧ gp < V24.heap.size := ⟨lt_of_block h25, lt_of_block h26⟩
  refine ⟨_, rfl, ?_⟩
  have h32 := kV31.bk h25
  have h33 := kV31.bk h26
  have h34 : Row V31 5 1 x1 (a.told).length (B (a.told)) := h27.keeps kV31 (fun _ _ x => x)
  have h35 : Row V31 5 1 x2 (a.told).length (B (a.told)) := h28.keeps kV31 (fun _ _ x => x)
  have h36 : Row V31 5 1 x3 (p.told).length (B (p.told)) := hV24.keeps kV31 (fun _ _ x => x)
  have K37 := K29.nn kV31
  have z38 := kV31.size
  refine ps_k (o_VoteBytes 62 2) (.tuple #[x4, .int .i64 p.err]) ?_
  refine ps_k (o_VoteBytes 62 3) (x4) ?_
  refine ps_k (o_VoteBytes 62 4) (.int .i64 p.err) ?_
  refine ps_k (o_VoteBytes 62 5) (x4) ?_
  refine ps_k (o_VoteBytes 62 6) (.int .i64 p.err) ?_
  refine ps_end ?_
  refine then_n ?_
  refine sy_sq (part_VoteBytes 126) (part_VoteBytes 127) ?_
  refine sy_np ?_
  refine sy_reg ?_
  refine an_begin 5 33 (opsAt (part_VoteBytes 126)) (fun W => (W.heap[ga]? = some (.cells (Att.c a) 29 (0, 0))) ∧ (W.heap[gp]? = some (.cells (Pro.c p) 36 (0, 0)))) #[false, false, false, false, false, false, false, false, false, false, false, false, false, false, false, false, false, false, false, false, false, false, false, false, false, false, false, false, false, false, false, false, false] (by kernel_rfl) (by kernel_rfl) (by kernel_rfl) (by kernel_rfl) ?_
  obtain ⟨V39, eV39, kV39⟩ := drew_step V31
  rw [eV39]
  clear eV39
  have h40 := kV39.bk h32
  have h41 := kV39.bk h33
  have h42 : Row V39 5 1 x1 (a.told).length (B (a.told)) := h34.keeps kV39 (fun _ _ x => x)
  have h43 : Row V39 5 1 x2 (a.told).length (B (a.told)) := h35.keeps kV39 (fun _ _ x => x)
  have h44 : Row V39 5 1 x3 (p.told).length (B (p.told)) := h36.keeps kV39 (fun _ _ x => x)
  have h45 : Row V39 5 1 x4 (p.told).length (B (p.told)) := hV31.keeps kV39 (fun _ _ x => x)
  have K46 := K37.nn kV39
  have z47 := kV39.size
  refine an_k 0 (o_VoteBytes 126 0) (x1) ⟨h40, h41⟩ ?_
  refine an_k 1 (o_VoteBytes 126 1) (x2) ⟨h40, h41⟩ ?_
  refine an_o 2 ?_
  refine on_c (o_VoteBytes 126 2) 20 #[x1, x2] Try.func20 ((sameBytes_same (Row.bytes h42) (Row.bytes h43) rfl).mono ?_)
  rintro e w1 ⟨rfl, rfl⟩
  refine ⟨_, rfl, ?_⟩
  refine ⟨⟨h40, h41⟩, ?_⟩
  refine an_k 3 (o_VoteBytes 126 3) (.bool true) ⟨h40, h41⟩ ?_
  refine an_k 4 (o_VoteBytes 126 4) (.int .i64 a.err) ⟨h40, h41⟩ ?_
  refine an_k 5 (o_VoteBytes 126 5) (.int .i64 a.err) ⟨h40, h41⟩ ?_
  refine an_v 6 (o_VoteBytes 126 6) (.bool true) (fun W hS => exec_cast (congrArg Value.bool (show ((((a.err) : Int) == ((a.err) : Int))) = true from by simp)) (by kernel_rfl)) ⟨h40, h41⟩ ?_
  refine an_k 7 (o_VoteBytes 126 7) (.bool true) ⟨h40, h41⟩ ?_
  refine an_k 8 (o_VoteBytes 126 8) (.bool true) ⟨h40, h41⟩ ?_
  refine an_k 9 (o_VoteBytes 126 9) (x3) ⟨h40, h41⟩ ?_
  refine an_k 10 (o_VoteBytes 126 10) (x4) ⟨h40, h41⟩ ?_
  refine an_o 11 ?_
  refine on_c (o_VoteBytes 126 11) 20 #[x3, x4] Try.func20 ((sameBytes_same (Row.bytes h44) (Row.bytes h45) rfl).mono ?_)
  rintro e w1 ⟨rfl, rfl⟩
  refine ⟨_, rfl, ?_⟩
  refine ⟨⟨h40, h41⟩, ?_⟩
  refine an_k 12 (o_VoteBytes 126 12) (.bool true) ⟨h40, h41⟩ ?_
  refine an_k 13 (o_VoteBytes 126 13) (.bool true) ⟨h40, h41⟩ ?_
  refine an_k 14 (o_VoteBytes 126 14) (.int .i64 p.err) ⟨h40, h41⟩ ?_
  refine an_k 15 (o_VoteBytes 126 15) (.int .i64 p.err) ⟨h40, h41⟩ ?_
  refine an_v 16 (o_VoteBytes 126 16) (.bool true) (fun W hS => exec_cast (congrArg Value.bool (show ((((p.err) : Int) == ((p.err) : Int))) = true from by simp)) (by kernel_rfl)) ⟨h40, h41⟩ ?_
  refine an_k 17 (o_VoteBytes 126 17) (.bool true) ⟨h40, h41⟩ ?_
  refine an_k 18 (o_VoteBytes 126 18) (.bool true) ⟨h40, h41⟩ ?_
  refine an_v 19 (o_VoteBytes 126 19) (.agg (Att.c a)) (fun W hS => exec_load_row 29 (.tmp 2) (by kernel_rfl) ga (by kernel_rfl) _ _ (0, 0) _ (hS.1) Try.underlying29 rfl (by rw [Att.c_size _ ha.r]; kernel_rfl)) ⟨h40, h41⟩ ?_
  refine an_v 21 (o_VoteBytes 126 21) (.agg (Att.c a)) (fun W hS => exec_load_row 29 (.tmp 2) (by kernel_rfl) ga (by kernel_rfl) _ _ (0, 0) _ (hS.1) Try.underlying29 rfl (by rw [Att.c_size _ ha.r]; kernel_rfl)) ⟨h40, h41⟩ ?_
  refine an_o 20 ?_
  refine on_c (o_VoteBytes 126 20) 21 #[.agg (Att.c a)] Try.func21 ((vCheck_ok a _ ha.r).mono ?_)
  rintro e V48 ⟨rfl, kV48⟩
  refine ⟨_, rfl, ?_⟩
  have h49 := kV48.bk h40
  have h50 := kV48.bk h41
  have h51 : Row V48 5 1 x1 (a.told).length (B (a.told)) := h42.keeps kV48 (fun _ _ x => x)
  have h52 : Row V48 5 1 x2 (a.told).length (B (a.told)) := h43.keeps kV48 (fun _ _ x => x)
  have h53 : Row V48 5 1 x3 (p.told).length (B (p.told)) := h44.keeps kV48 (fun _ _ x => x)
  have h54 : Row V48 5 1 x4 (p.told).length (B (p.told)) := h45.keeps kV48 (fun _ _ x => x)
  have K55 := K46.nn kV48
  have z56 := kV48.size
  refine ⟨⟨h49, h50⟩, ?_⟩
  refine an_o 22 ?_
  refine on_c (o_VoteBytes 126 22) 22 #[.agg (Att.c a)] Try.func22 ((rvCheck_ok a _ ha.r).mono ?_)
  rintro e V57 ⟨rfl, kV57⟩
  refine ⟨_, rfl, ?_⟩
  have h58 := kV57.bk h49
  have h59 := kV57.bk h50
  have h60 : Row V57 5 1 x1 (a.told).length (B (a.told)) := h51.keeps kV57 (fun _ _ x => x)
  have h61 : Row V57 5 1 x2 (a.told).length (B (a.told)) := h52.keeps kV57 (fun _ _ x => x)
  have h62 : Row V57 5 1 x3 (p.told).length (B (p.told)) := h53.keeps kV57 (fun _ _ x => x)
  have h63 : Row V57 5 1 x4 (p.told).length (B (p.told)) := h54.keeps kV57 (fun _ _ x => x)
  have K64 := K55.nn kV57
  have z65 := kV57.size
  refine ⟨⟨h58, h59⟩, ?_⟩
  refine an_v 23 (o_VoteBytes 126 23) (.bool true) (fun W hS => exec_cast (congrArg Value.bool (show ((((a.err) : Int) == ((a.err) : Int))) = true from by simp)) (by kernel_rfl)) ⟨h58, h59⟩ ?_
  refine an_k 24 (o_VoteBytes 126 24) (.bool true) ⟨h58, h59⟩ ?_
  refine an_k 25 (o_VoteBytes 126 25) (.bool true) ⟨h58, h59⟩ ?_
  refine an_v 26 (o_VoteBytes 126 26) (.agg (Pro.c p)) (fun W hS => exec_load_row 36 (.tmp 3) (by kernel_rfl) gp (by kernel_rfl) _ _ (0, 0) _ (hS.2) Try.underlying36 rfl (by rw [Pro.c_size _ hp.r]; kernel_rfl)) ⟨h58, h59⟩ ?_
  refine an_v 28 (o_VoteBytes 126 28) (.agg (Pro.c p)) (fun W hS => exec_load_row 36 (.tmp 3) (by kernel_rfl) gp (by kernel_rfl) _ _ (0, 0) _ (hS.2) Try.underlying36 rfl (by rw [Pro.c_size _ hp.r]; kernel_rfl)) ⟨h58, h59⟩ ?_
  refine an_o 27 ?_
  refine on_c (o_VoteBytes 126 27) 23 #[.agg (Pro.c p)] Try.func23 ((vCheckBlock_ok p _ hp.r).mono ?_)
  rintro e V66 ⟨rfl, kV66⟩
  refine ⟨_, rfl, ?_⟩
  have h67 := kV66.bk h58
  have h68 := kV66.bk h59
  have h69 : Row V66 5 1 x1 (a.told).length (B (a.told)) := h60.keeps kV66 (fun _ _ x => x)
  have h70 : Row V66 5 1 x2 (a.told).length (B (a.told)) := h61.keeps kV66 (fun _ _ x => x)
  have h71 : Row V66 5 1 x3 (p.told).length (B (p.told)) := h62.keeps kV66 (fun _ _ x => x)
  have h72 : Row V66 5 1 x4 (p.told).length (B (p.told)) := h63.keeps kV66 (fun _ _ x => x)
  have K73 := K64.nn kV66
  have z74 := kV66.size
  refine ⟨⟨h67, h68⟩, ?_⟩
  refine an_o 29 ?_
  refine on_c (o_VoteBytes 126 29) 24 #[.agg (Pro.c p)] Try.func24 ((rvCheckBlock_ok p _ hp.r).mono ?_)
  rintro e V75 ⟨rfl, kV75⟩
  refine ⟨_, rfl, ?_⟩
  have h76 := kV75.bk h67
  have h77 := kV75.bk h68
  have h78 : Row V75 5 1 x1 (a.told).length (B (a.told)) := h69.keeps kV75 (fun _ _ x => x)
  have h79 : Row V75 5 1 x2 (a.told).length (B (a.told)) := h70.keeps kV75 (fun _ _ x => x)
  have h80 : Row V75 5 1 x3 (p.told).length (B (p.told)) := h71.keeps kV75 (fun _ _ x => x)
  have h81 : Row V75 5 1 x4 (p.told).length (B (p.told)) := h72.keeps kV75 (fun _ _ x => x)
  have K82 := K73.nn kV75
  have z83 := kV75.size
  refine ⟨⟨h76, h77⟩, ?_⟩
  refine an_v 30 (o_VoteBytes 126 30) (.bool true) (fun W hS => exec_cast (congrArg Value.bool (show ((((p.err) : Int) == ((p.err) : Int))) = true from by simp)) (by kernel_rfl)) ⟨h76, h77⟩ ?_
  refine an_k 31 (o_VoteBytes 126 31) (.bool true) ⟨h76, h77⟩ ?_
  refine an_o 32 ?_
  refine on_r (o_VoteBytes 126 32) (.bool true) (w' := V75) (by kernel_rfl) ?_
  refine ⟨⟨h76, h77⟩, ?_⟩
  refine an_end (by kernel_rfl) ?_
  refine sy_a ⟨#[.agg (Att.c a), .agg (Pro.c p), pT ga 0, pT gp 0, .bool false, x1, .int .i64 a.err, x2, .int .i64 a.err, x3, .int .i64 p.err, x4, .int .i64 p.err, .bool true, undef, undef, undef, undef, undef, undef, undef, undef, undef, undef, .tuple #[x1, .int .i64 a.err], .agg (Att.c a), .tuple #[x1, .int .i64 a.err], x1, .int .i64 a.err, .tuple #[x2, .int .i64 a.err], .agg (Att.c a), .tuple #[x2, .int .i64 a.err], x2, .int .i64 a.err, .tuple #[x3, .int .i64 p.err], .agg (Pro.c p), .tuple #[x3, .int .i64 p.err], x3, .int .i64 p.err, .tuple #[x4, .int .i64 p.err], .agg (Pro.c p), .tuple #[x4, .int .i64 p.err], x4, .int .i64 p.err, x1, x2, .bool true, .bool true, .int .i64 a.err, .int .i64 a.err, .bool true, .bool true, .bool true, x3, x4, .bool true, .bool true, .bool true, .int .i64 p.err, .int .i64 p.err, .bool true, .bool true, .bool true, .agg (Att.c a), .int .i64 a.err, .agg (Att.c a), .int .i64 a.err, .bool true, .bool true, .bool true, .agg (Pro.c p), .int .i64 p.err, .agg (Pro.c p), .int .i64 p.err, .bool true, .bool true, undef, undef, undef, undef, undef, undef, undef, undef, undef, undef, undef, undef, undef, undef, undef, undef, undef, undef, undef, undef, undef, undef, undef, undef, undef, undef, undef, undef, undef, undef, undef, undef, undef, undef, undef, undef, undef, undef, undef, undef, undef, undef, undef, undef, undef, undef, undef, undef, undef, undef, undef, undef, undef, undef, undef, undef, undef, undef], []⟩ ?_
  refine then_n ?_
  refine sy_sq (part_VoteBytes 254) (part_VoteBytes 255) ?_
  refine sy_reg ?_
  refine rg_plain 6 (opsAt (part_VoteBytes 254)) [0, 1] (by kernel_rfl) (by kernel_rfl) ?_
  refine ps_k (o_VoteBytes 254 0) (x1) ?_
  refine ps_c (o_VoteBytes 254 1) 25 #[x1] Try.func25 ((overBytes_ok _ _ _ h78).mono ?_)
  rintro e V84 ⟨⟨rx1, rfl⟩, kV84⟩
  refine ⟨_, rfl, ?_⟩
  have h85 : V84.heap[ga]? = some (.cells (Att.c a) 29 (0, 0)) := (kV84.block ga (lt_of_block h76) (fun e => by have := nx1 _ e; omega)).trans h76
  have h86 : V84.heap[gp]? = some (.cells (Pro.c p) 36 (0, 0)) := (kV84.block gp (lt_of_block h77) (fun e => by have := nx1 _ e; omega)).trans h77
  have h87 : Row V84 5 1 x2 (a.told).length (B (a.told)) := h79.keeps kV84 (fun j hj e => (fun j h1 h2 => apx2_x1 j h2 h1) j hj e)
  have h88 : Row V84 5 1 x3 (p.told).length (B (p.told)) := h80.keeps kV84 (fun j hj e => (fun j h1 h2 => apx3_x1 j h2 h1) j hj e)
  have h89 : Row V84 5 1 x4 (p.told).length (B (p.told)) := h81.keeps kV84 (fun j hj e => (fun j h1 h2 => apx4_x1 j h2 h1) j hj e)
  have K90 : Keeps Nob w V84 := K82.then kV84 (fun i hi hm => absurd hi (by have := nx1 i hm; omega))
  have z91 := kV84.size
  refine ps_end ?_
  refine then_n ?_
  refine sy_sq (part_VoteBytes 510) (part_VoteBytes 511) ?_
  refine sy_reg ?_
  refine rg_plain 7 (opsAt (part_VoteBytes 510)) [0, 1] (by kernel_rfl) (by kernel_rfl) ?_
  refine ps_k (o_VoteBytes 510 0) (x3) ?_
  refine ps_c (o_VoteBytes 510 1) 25 #[x3] Try.func25 ((overBytes_ok _ _ _ h88).mono ?_)
  rintro e V92 ⟨⟨rx3, rfl⟩, kV92⟩
  refine ⟨_, rfl, ?_⟩
  have h93 : V92.heap[ga]? = some (.cells (Att.c a) 29 (0, 0)) := (kV92.block ga (lt_of_block h85) (fun e => by have := nx3 _ e; omega)).trans h85
  have h94 : V92.heap[gp]? = some (.cells (Pro.c p) 36 (0, 0)) := (kV92.block gp (lt_of_block h86) (fun e => by have := nx3 _ e; omega)).trans h86
  have h95 : Row V92 5 1 x2 (a.told).length (B (a.told)) := h87.keeps kV92 (fun j hj e => apx3_x2 j hj e)
  have h96 : Row V92 5 1 x4 (p.told).length (B (p.told)) := h89.keeps kV92 (fun j hj e => (fun j h1 h2 => apx4_x3 j h2 h1) j hj e)
  have K97 : Keeps Nob w V92 := K90.then kV92 (fun i hi hm => absurd hi (by have := nx3 i hm; omega))
  have z98 := kV92.size
  refine ps_end ?_
  refine then_n ?_
  refine sy_sq (part_VoteBytes 1022) (part_VoteBytes 1023) ?_
  refine sy_reg ?_
  refine rg_plain 8 (opsAt (part_VoteBytes 1022)) [0, 1, 2, 3, 4, 5, 6] (by kernel_rfl) (by kernel_rfl) ?_
  refine ps_p (o_VoteBytes 1022 0) (.agg (Att.c a)) (exec_load_row 29 (.tmp 2) (by kernel_rfl) ga (by kernel_rfl) _ _ (0, 0) _ (h93) Try.underlying29 rfl (by rw [Att.c_size _ ha.r]; kernel_rfl)) ?_
  have bx5_x2 : ∀ j, x2.ownBlock = some j → j < V92.heap.size := fun j hj => h95.lt hj
  have bx5_x4 : ∀ j, x4.ownBlock = some j → j < V92.heap.size := fun j hj => h96.lt hj
  refine ps_c (o_VoteBytes 1022 1) 16 #[.agg (Att.c a)] Try.func16 ((vBytes_any a _ ha).mono ?_)
  rintro e V99 ⟨x5, rfl, hV99, nx5, kV99⟩
  have lx5 : ∀ j, x5.ownBlock = some j → j < V99.heap.size := fun j hj => hV99.lt hj
  have apx5_x2 : ∀ j, x2.ownBlock = some j → ¬ x5.ownBlock = some j := fun j h1 h2 => by have := bx5_x2 j h1; have := nx5 j h2; omega
  have apx5_x4 : ∀ j, x4.ownBlock = some j → ¬ x5.ownBlock = some j := fun j h1 h2 => by have := bx5_x4 j h1; have := nx5 j h2; omega
  have gx5 : w.heap.size ≤ V92.heap.size := K97.size
  have fx5 : ga < V92.heap.size ∧ gp < V92.heap.size := ⟨lt_of_block h93, lt_of_block h94⟩
  refine ⟨_, rfl, ?_⟩
  have h100 := kV99.bk h93
  have h101 := kV99.bk h94
  have h102 : Row V99 5 1 x2 (a.told).length (B (a.told)) := h95.keeps kV99 (fun _ _ x => x)
  have h103 : Row V99 5 1 x4 (p.told).length (B (p.told)) := h96.keeps kV99 (fun _ _ x => x)
  have K104 := K97.nn kV99
  have z105 := kV99.size
  refine ps_k (o_VoteBytes 1022 2) (.tuple #[x5, .int .i64 a.err]) ?_
  refine ps_k (o_VoteBytes 1022 3) (x5) ?_
  refine ps_k (o_VoteBytes 1022 4) (.int .i64 a.err) ?_
  refine ps_k (o_VoteBytes 1022 5) (x5) ?_
  refine ps_k (o_VoteBytes 1022 6) (.int .i64 a.err) ?_
  refine ps_end ?_
  refine then_n ?_
  refine sy_sq (part_VoteBytes 2046) (part_VoteBytes 2047) ?_
  refine sy_reg ?_
  refine rg_plain 9 (opsAt (part_VoteBytes 2046)) [0, 1, 2, 3, 4, 5, 6, 7] (by kernel_rfl) (by kernel_rfl) ?_
  refine ps_p (o_VoteBytes 2046 0) (.agg (Att.c a)) (exec_load_row 29 (.tmp 2) (by kernel_rfl) ga (by kernel_rfl) _ _ (0, 0) _ (h100) Try.underlying29 rfl (by rw [Att.c_size _ ha.r]; kernel_rfl)) ?_
  refine ps_c (o_VoteBytes 2046 1) 26 #[.agg (Att.c a)] Try.func26 ((vDigest_any a _ ha).mono ?_)
  rintro e V106 ⟨rfl, kV106⟩
  refine ⟨_, rfl, ?_⟩
  have h107 := kV106.bk h100
  have h108 := kV106.bk h101
  have h109 : Row V106 5 1 x2 (a.told).length (B (a.told)) := h102.keeps kV106 (fun _ _ x => x)
  have h110 : Row V106 5 1 x4 (p.told).length (B (p.told)) := h103.keeps kV106 (fun _ _ x => x)
  have h111 : Row V106 5 1 x5 (a.told).length (B (a.told)) := hV99.keeps kV106 (fun _ _ x => x)
  have K112 := K104.nn kV106
  have z113 := kV106.size
  refine ps_k (o_VoteBytes 2046 2) (.tuple #[.agg (B a.dg).toArray, .int .i64 a.err]) ?_
  refine ps_k (o_VoteBytes 2046 3) (.agg (B a.dg).toArray) ?_
  refine ps_k (o_VoteBytes 2046 4) (.int .i64 a.err) ?_
  obtain ⟨V114, eV114, g1, eg1, h115, kV114⟩ := alloc_step V106 (zr_u8_32) 26
  have n116 : ga < g1 := eg1 ▸ lt_of_block h107
  have n117 : gp < g1 := eg1 ▸ lt_of_block h108
  have n118 : w.heap.size ≤ g1 := eg1 ▸ K112.size
  refine ps_r (o_VoteBytes 2046 5) (pT g1 0) (w' := V114) (by rw [← eV114, ← eg1]; exact exec_alloc0 26 (by kernel_rfl) (.agg (zr_u8_32)) (by kernel_rfl)) ?_
  clear eV114
  have h119 := kV114.bk h107
  have h120 := kV114.bk h108
  have h121 : Row V114 5 1 x2 (a.told).length (B (a.told)) := h109.keeps kV114 (fun _ _ x => x)
  have h122 : Row V114 5 1 x4 (p.told).length (B (p.told)) := h110.keeps kV114 (fun _ _ x => x)
  have h123 : Row V114 5 1 x5 (a.told).length (B (a.told)) := h111.keeps kV114 (fun _ _ x => x)
  have K124 := K112.nn kV114
  have z125 := kV114.size
  obtain ⟨V126, eV126, kV126⟩ := rowset_step V114 g1 ((B a.dg).toArray)
  have h127 : V126.heap[g1]? = some (.cells ((B a.dg).toArray) 26 (0, 0)) := eV126 ▸ setRow_heap _ _ _ _ _ _ h115
  refine ps_s (o_VoteBytes 2046 6) (w' := V126) (by rw [← eV126]; exact exec_store_row 26 (.tmp 16) (.tmp 88) (by kernel_rfl) g1 ((B a.dg).toArray) (by kernel_rfl) (by kernel_rfl) 26 (zr_u8_32) h115 (by rw [Bz_size]; first | (rw [Att.dg_len]; kernel_rfl) | (rw [Pro.dg_len]; kernel_rfl)) (by rw [Bz_size]; first | (rw [Att.dg_len]; rfl) | (rw [Pro.dg_len]; rfl)) (by rw [List.all_toArray]; exact List.all_eq_true.2 (B_one _))) ?_
  clear eV126
  have h128 := kV126.bo h119 (by omega)
  have h129 := kV126.bo h120 (by omega)
  have h130 : Row V126 5 1 x2 (a.told).length (B (a.told)) := h121.keeps kV126 (fun j hj e => by have := lx2 j hj; unfold Own.One at e; omega)
  have h131 : Row V126 5 1 x4 (p.told).length (B (p.told)) := h122.keeps kV126 (fun j hj e => by have := lx4 j hj; unfold Own.One at e; omega)
  have h132 : Row V126 5 1 x5 (a.told).length (B (a.told)) := h123.keeps kV126 (fun j hj e => by have := lx5 j hj; unfold Own.One at e; omega)
  have K133 := K124.no kV126 (by omega)
  have z134 := kV126.size
  refine ps_k (o_VoteBytes 2046 7) (.int .i64 a.err) ?_
  refine ps_end ?_
  refine then_n ?_
  refine sy_sq (part_VoteBytes 4094) (part_VoteBytes 4095) ?_
  refine sy_reg ?_
  refine rg_plain 10 (opsAt (part_VoteBytes 4094)) [0, 1, 2, 3, 4, 5, 6, 7] (by kernel_rfl) (by kernel_rfl) ?_
  refine ps_p (o_VoteBytes 4094 0) (.agg (Att.c a)) (exec_load_row 29 (.tmp 2) (by kernel_rfl) ga (by kernel_rfl) _ _ (0, 0) _ (h128) Try.underlying29 rfl (by rw [Att.c_size _ ha.r]; kernel_rfl)) ?_
  refine ps_c (o_VoteBytes 4094 1) 27 #[.agg (Att.c a)] Try.func27 ((rvDigest_dg a _ ha).mono ?_)
  rintro e V135 ⟨rfl, kV135⟩
  refine ⟨_, rfl, ?_⟩
  have h136 := kV135.bk h128
  have h137 := kV135.bk h129
  have h138 : Row V135 5 1 x2 (a.told).length (B (a.told)) := h130.keeps kV135 (fun _ _ x => x)
  have h139 : Row V135 5 1 x4 (p.told).length (B (p.told)) := h131.keeps kV135 (fun _ _ x => x)
  have h140 : Row V135 5 1 x5 (a.told).length (B (a.told)) := h132.keeps kV135 (fun _ _ x => x)
  have h141 := kV135.bk h127
  have K142 := K133.nn kV135
  have z143 := kV135.size
  refine ps_k (o_VoteBytes 4094 2) (.tuple #[.agg (B a.dg).toArray, .int .i64 a.err]) ?_
  refine ps_k (o_VoteBytes 4094 3) (.agg (B a.dg).toArray) ?_
  refine ps_k (o_VoteBytes 4094 4) (.int .i64 a.err) ?_
  obtain ⟨V144, eV144, g2, eg2, h145, kV144⟩ := alloc_step V135 (zr_u8_32) 26
  have n146 : ga < g2 := eg2 ▸ lt_of_block h136
  have n147 : gp < g2 := eg2 ▸ lt_of_block h137
  have n148 : g1 < g2 := eg2 ▸ lt_of_block h141
  have n149 : w.heap.size ≤ g2 := eg2 ▸ K142.size
  refine ps_r (o_VoteBytes 4094 5) (pT g2 0) (w' := V144) (by rw [← eV144, ← eg2]; exact exec_alloc0 26 (by kernel_rfl) (.agg (zr_u8_32)) (by kernel_rfl)) ?_
  clear eV144
  have h150 := kV144.bk h136
  have h151 := kV144.bk h137
  have h152 : Row V144 5 1 x2 (a.told).length (B (a.told)) := h138.keeps kV144 (fun _ _ x => x)
  have h153 : Row V144 5 1 x4 (p.told).length (B (p.told)) := h139.keeps kV144 (fun _ _ x => x)
  have h154 : Row V144 5 1 x5 (a.told).length (B (a.told)) := h140.keeps kV144 (fun _ _ x => x)
  have h155 := kV144.bk h141
  have K156 := K142.nn kV144
  have z157 := kV144.size
  obtain ⟨V158, eV158, kV158⟩ := rowset_step V144 g2 ((B a.dg).toArray)
  have h159 : V158.heap[g2]? = some (.cells ((B a.dg).toArray) 26 (0, 0)) := eV158 ▸ setRow_heap _ _ _ _ _ _ h145
  refine ps_s (o_VoteBytes 4094 6) (w' := V158) (by rw [← eV158]; exact exec_store_row 26 (.tmp 18) (.tmp 93) (by kernel_rfl) g2 ((B a.dg).toArray) (by kernel_rfl) (by kernel_rfl) 26 (zr_u8_32) h145 (by rw [Bz_size]; first | (rw [Att.dg_len]; kernel_rfl) | (rw [Pro.dg_len]; kernel_rfl)) (by rw [Bz_size]; first | (rw [Att.dg_len]; rfl) | (rw [Pro.dg_len]; rfl)) (by rw [List.all_toArray]; exact List.all_eq_true.2 (B_one _))) ?_
  clear eV158
  have h160 := kV158.bo h150 (by omega)
  have h161 := kV158.bo h151 (by omega)
  have h162 : Row V158 5 1 x2 (a.told).length (B (a.told)) := h152.keeps kV158 (fun j hj e => by have := lx2 j hj; unfold Own.One at e; omega)
  have h163 : Row V158 5 1 x4 (p.told).length (B (p.told)) := h153.keeps kV158 (fun j hj e => by have := lx4 j hj; unfold Own.One at e; omega)
  have h164 : Row V158 5 1 x5 (a.told).length (B (a.told)) := h154.keeps kV158 (fun j hj e => by have := lx5 j hj; unfold Own.One at e; omega)
  have h165 := kV158.bo h155 (by omega)
  have K166 := K156.no kV158 (by omega)
  have z167 := kV158.size
  refine ps_k (o_VoteBytes 4094 7) (.int .i64 a.err) ?_
  refine ps_end ?_
  refine sy_a ⟨#[.agg (Att.c a), .agg (Pro.c p), pT ga 0, pT gp 0, .bool false, x1, .int .i64 a.err, x2, .int .i64 a.err, x3, .int .i64 p.err, x4, .int .i64 p.err, .bool true, x5, .int .i64 a.err, pT g1 0, .int .i64 a.err, pT g2 0, .int .i64 a.err, undef, undef, undef, undef, .tuple #[x1, .int .i64 a.err], .agg (Att.c a), .tuple #[x1, .int .i64 a.err], x1, .int .i64 a.err, .tuple #[x2, .int .i64 a.err], .agg (Att.c a), .tuple #[x2, .int .i64 a.err], x2, .int .i64 a.err, .tuple #[x3, .int .i64 p.err], .agg (Pro.c p), .tuple #[x3, .int .i64 p.err], x3, .int .i64 p.err, .tuple #[x4, .int .i64 p.err], .agg (Pro.c p), .tuple #[x4, .int .i64 p.err], x4, .int .i64 p.err, x1, x2, .bool true, .bool true, .int .i64 a.err, .int .i64 a.err, .bool true, .bool true, .bool true, x3, x4, .bool true, .bool true, .bool true, .int .i64 p.err, .int .i64 p.err, .bool true, .bool true, .bool true, .agg (Att.c a), .int .i64 a.err, .agg (Att.c a), .int .i64 a.err, .bool true, .bool true, .bool true, .agg (Pro.c p), .int .i64 p.err, .agg (Pro.c p), .int .i64 p.err, .bool true, .bool true, x1, rx1, x3, rx3, .tuple #[x5, .int .i64 a.err], .agg (Att.c a), .tuple #[x5, .int .i64 a.err], x5, .int .i64 a.err, .tuple #[.agg (B a.dg).toArray, .int .i64 a.err], .agg (Att.c a), .tuple #[.agg (B a.dg).toArray, .int .i64 a.err], .agg (B a.dg).toArray, .int .i64 a.err, .tuple #[.agg (B a.dg).toArray, .int .i64 a.err], .agg (Att.c a), .tuple #[.agg (B a.dg).toArray, .int .i64 a.err], .agg (B a.dg).toArray, .int .i64 a.err, undef, undef, undef, undef, undef, undef, undef, undef, undef, undef, undef, undef, undef, undef, undef, undef, undef, undef, undef, undef, undef, undef, undef, undef, undef, undef, undef, undef, undef, undef, undef, undef, undef, undef, undef, undef, undef, undef, undef], []⟩ ?_
  refine then_n ?_
  refine sy_sq (part_VoteBytes 8190) (part_VoteBytes 8191) ?_
  refine sy_reg ?_
  refine rg_plain 11 (opsAt (part_VoteBytes 8190)) [0, 1, 2, 3, 4, 5, 6, 7] (by kernel_rfl) (by kernel_rfl) ?_
  refine ps_p (o_VoteBytes 8190 0) (.agg (Pro.c p)) (exec_load_row 36 (.tmp 3) (by kernel_rfl) gp (by kernel_rfl) _ _ (0, 0) _ (h161) Try.underlying36 rfl (by rw [Pro.c_size _ hp.r]; kernel_rfl)) ?_
  refine ps_c (o_VoteBytes 8190 1) 28 #[.agg (Pro.c p)] Try.func28 ((vDigestBlock_any p _ hp).mono ?_)
  rintro e V168 ⟨rfl, kV168⟩
  refine ⟨_, rfl, ?_⟩
  have h169 := kV168.bk h160
  have h170 := kV168.bk h161
  have h171 : Row V168 5 1 x2 (a.told).length (B (a.told)) := h162.keeps kV168 (fun _ _ x => x)
  have h172 : Row V168 5 1 x4 (p.told).length (B (p.told)) := h163.keeps kV168 (fun _ _ x => x)
  have h173 : Row V168 5 1 x5 (a.told).length (B (a.told)) := h164.keeps kV168 (fun _ _ x => x)
  have h174 := kV168.bk h165
  have h175 := kV168.bk h159
  have K176 := K166.nn kV168
  have z177 := kV168.size
  refine ps_k (o_VoteBytes 8190 2) (.tuple #[.agg (B p.dg).toArray, .int .i64 p.err]) ?_
  refine ps_k (o_VoteBytes 8190 3) (.agg (B p.dg).toArray) ?_
  refine ps_k (o_VoteBytes 8190 4) (.int .i64 p.err) ?_
  obtain ⟨V178, eV178, g3, eg3, h179, kV178⟩ := alloc_step V168 (zr_u8_32) 26
  have n180 : ga < g3 := eg3 ▸ lt_of_block h169
  have n181 : gp < g3 := eg3 ▸ lt_of_block h170
  have n182 : g1 < g3 := eg3 ▸ lt_of_block h174
  have n183 : g2 < g3 := eg3 ▸ lt_of_block h175
  have n184 : w.heap.size ≤ g3 := eg3 ▸ K176.size
  refine ps_r (o_VoteBytes 8190 5) (pT g3 0) (w' := V178) (by rw [← eV178, ← eg3]; exact exec_alloc0 26 (by kernel_rfl) (.agg (zr_u8_32)) (by kernel_rfl)) ?_
  clear eV178
  have h185 := kV178.bk h169
  have h186 := kV178.bk h170
  have h187 : Row V178 5 1 x2 (a.told).length (B (a.told)) := h171.keeps kV178 (fun _ _ x => x)
  have h188 : Row V178 5 1 x4 (p.told).length (B (p.told)) := h172.keeps kV178 (fun _ _ x => x)
  have h189 : Row V178 5 1 x5 (a.told).length (B (a.told)) := h173.keeps kV178 (fun _ _ x => x)
  have h190 := kV178.bk h174
  have h191 := kV178.bk h175
  have K192 := K176.nn kV178
  have z193 := kV178.size
  obtain ⟨V194, eV194, kV194⟩ := rowset_step V178 g3 ((B p.dg).toArray)
  have h195 : V194.heap[g3]? = some (.cells ((B p.dg).toArray) 26 (0, 0)) := eV194 ▸ setRow_heap _ _ _ _ _ _ h179
  refine ps_s (o_VoteBytes 8190 6) (w' := V194) (by rw [← eV194]; exact exec_store_row 26 (.tmp 20) (.tmp 98) (by kernel_rfl) g3 ((B p.dg).toArray) (by kernel_rfl) (by kernel_rfl) 26 (zr_u8_32) h179 (by rw [Bz_size]; first | (rw [Att.dg_len]; kernel_rfl) | (rw [Pro.dg_len]; kernel_rfl)) (by rw [Bz_size]; first | (rw [Att.dg_len]; rfl) | (rw [Pro.dg_len]; rfl)) (by rw [List.all_toArray]; exact List.all_eq_true.2 (B_one _))) ?_
  clear eV194
  have h196 := kV194.bo h185 (by omega)
  have h197 := kV194.bo h186 (by omega)
  have h198 : Row V194 5 1 x2 (a.told).length (B (a.told)) := h187.keeps kV194 (fun j hj e => by have := lx2 j hj; unfold Own.One at e; omega)
  have h199 : Row V194 5 1 x4 (p.told).length (B (p.told)) := h188.keeps kV194 (fun j hj e => by have := lx4 j hj; unfold Own.One at e; omega)
  have h200 : Row V194 5 1 x5 (a.told).length (B (a.told)) := h189.keeps kV194 (fun j hj e => by have := lx5 j hj; unfold Own.One at e; omega)
  have h201 := kV194.bo h190 (by omega)
  have h202 := kV194.bo h191 (by omega)
  have K203 := K192.no kV194 (by omega)
  have z204 := kV194.size
  refine ps_k (o_VoteBytes 8190 7) (.int .i64 p.err) ?_
  refine ps_end ?_
  refine then_n ?_
  refine sy_sq (part_VoteBytes 16382) (part_VoteBytes 16383) ?_
  refine sy_reg ?_
  refine rg_plain 12 (opsAt (part_VoteBytes 16382)) [0, 1, 2, 3, 4, 5, 6, 7] (by kernel_rfl) (by kernel_rfl) ?_
  refine ps_p (o_VoteBytes 16382 0) (.agg (Pro.c p)) (exec_load_row 36 (.tmp 3) (by kernel_rfl) gp (by kernel_rfl) _ _ (0, 0) _ (h197) Try.underlying36 rfl (by rw [Pro.c_size _ hp.r]; kernel_rfl)) ?_
  refine ps_c (o_VoteBytes 16382 1) 29 #[.agg (Pro.c p)] Try.func29 ((rvDigestBlock_dg p _ hp).mono ?_)
  rintro e V205 ⟨rfl, kV205⟩
  refine ⟨_, rfl, ?_⟩
  have h206 := kV205.bk h196
  have h207 := kV205.bk h197
  have h208 : Row V205 5 1 x2 (a.told).length (B (a.told)) := h198.keeps kV205 (fun _ _ x => x)
  have h209 : Row V205 5 1 x4 (p.told).length (B (p.told)) := h199.keeps kV205 (fun _ _ x => x)
  have h210 : Row V205 5 1 x5 (a.told).length (B (a.told)) := h200.keeps kV205 (fun _ _ x => x)
  have h211 := kV205.bk h201
  have h212 := kV205.bk h202
  have h213 := kV205.bk h195
  have K214 := K203.nn kV205
  have z215 := kV205.size
  refine ps_k (o_VoteBytes 16382 2) (.tuple #[.agg (B p.dg).toArray, .int .i64 p.err]) ?_
  refine ps_k (o_VoteBytes 16382 3) (.agg (B p.dg).toArray) ?_
  refine ps_k (o_VoteBytes 16382 4) (.int .i64 p.err) ?_
  obtain ⟨V216, eV216, g4, eg4, h217, kV216⟩ := alloc_step V205 (zr_u8_32) 26
  have n218 : ga < g4 := eg4 ▸ lt_of_block h206
  have n219 : gp < g4 := eg4 ▸ lt_of_block h207
  have n220 : g1 < g4 := eg4 ▸ lt_of_block h211
  have n221 : g2 < g4 := eg4 ▸ lt_of_block h212
  have n222 : g3 < g4 := eg4 ▸ lt_of_block h213
  have n223 : w.heap.size ≤ g4 := eg4 ▸ K214.size
  refine ps_r (o_VoteBytes 16382 5) (pT g4 0) (w' := V216) (by rw [← eV216, ← eg4]; exact exec_alloc0 26 (by kernel_rfl) (.agg (zr_u8_32)) (by kernel_rfl)) ?_
  clear eV216
  have h224 := kV216.bk h206
  have h225 := kV216.bk h207
  have h226 : Row V216 5 1 x2 (a.told).length (B (a.told)) := h208.keeps kV216 (fun _ _ x => x)
  have h227 : Row V216 5 1 x4 (p.told).length (B (p.told)) := h209.keeps kV216 (fun _ _ x => x)
  have h228 : Row V216 5 1 x5 (a.told).length (B (a.told)) := h210.keeps kV216 (fun _ _ x => x)
  have h229 := kV216.bk h211
  have h230 := kV216.bk h212
  have h231 := kV216.bk h213
  have K232 := K214.nn kV216
  have z233 := kV216.size
  obtain ⟨V234, eV234, kV234⟩ := rowset_step V216 g4 ((B p.dg).toArray)
  have h235 : V234.heap[g4]? = some (.cells ((B p.dg).toArray) 26 (0, 0)) := eV234 ▸ setRow_heap _ _ _ _ _ _ h217
  refine ps_s (o_VoteBytes 16382 6) (w' := V234) (by rw [← eV234]; exact exec_store_row 26 (.tmp 22) (.tmp 103) (by kernel_rfl) g4 ((B p.dg).toArray) (by kernel_rfl) (by kernel_rfl) 26 (zr_u8_32) h217 (by rw [Bz_size]; first | (rw [Att.dg_len]; kernel_rfl) | (rw [Pro.dg_len]; kernel_rfl)) (by rw [Bz_size]; first | (rw [Att.dg_len]; rfl) | (rw [Pro.dg_len]; rfl)) (by rw [List.all_toArray]; exact List.all_eq_true.2 (B_one _))) ?_
  clear eV234
  have h236 := kV234.bo h224 (by omega)
  have h237 := kV234.bo h225 (by omega)
  have h238 : Row V234 5 1 x2 (a.told).length (B (a.told)) := h226.keeps kV234 (fun j hj e => by have := lx2 j hj; unfold Own.One at e; omega)
  have h239 : Row V234 5 1 x4 (p.told).length (B (p.told)) := h227.keeps kV234 (fun j hj e => by have := lx4 j hj; unfold Own.One at e; omega)
  have h240 : Row V234 5 1 x5 (a.told).length (B (a.told)) := h228.keeps kV234 (fun j hj e => by have := lx5 j hj; unfold Own.One at e; omega)
  have h241 := kV234.bo h229 (by omega)
  have h242 := kV234.bo h230 (by omega)
  have h243 := kV234.bo h231 (by omega)
  have K244 := K232.no kV234 (by omega)
  have z245 := kV234.size
  refine ps_k (o_VoteBytes 16382 7) (.int .i64 p.err) ?_
  refine ps_end ?_
  refine then_n ?_
  refine sy_sq (part_VoteBytes 32766) (part_VoteBytes 32767) ?_
  refine sy_reg ?_
  refine rg_plain 13 (opsAt (part_VoteBytes 32766)) [0, 1, 2, 3, 4, 5, 6, 7, 8, 9, 10, 11, 12, 13, 14, 15, 16, 17, 18, 19, 20, 21, 22, 23, 24, 25, 26, 27, 28, 29] (by kernel_rfl) (by kernel_rfl) ?_
  refine ps_k (o_VoteBytes 32766 0) (.bool true) ?_
  refine ps_k (o_VoteBytes 32766 1) (.bool true) ?_
  refine ps_k (o_VoteBytes 32766 2) (x5) ?_
  refine ps_k (o_VoteBytes 32766 3) (x2) ?_
  refine ps_c (o_VoteBytes 32766 4) 20 #[x5, x2] Try.func20 ((sameBytes_same (Row.bytes h240) (Row.bytes h238) rfl).mono ?_)
  rintro e w1 ⟨rfl, rfl⟩
  refine ⟨_, rfl, ?_⟩
  refine ps_k (o_VoteBytes 32766 5) (.bool true) ?_
  refine ps_k (o_VoteBytes 32766 6) (.bool true) ?_
  refine ps_p (o_VoteBytes 32766 7) (.agg ((B a.dg).toArray)) (exec_load_row 26 (.tmp 16) (by kernel_rfl) g1 (by kernel_rfl) _ _ (0, 0) _ (h241) Try.underlying26 rfl (by rw [Bz_size, (Att.dg_len a)]; kernel_rfl)) ?_
  refine ps_p (o_VoteBytes 32766 8) (.agg ((B a.dg).toArray)) (exec_load_row 26 (.tmp 18) (by kernel_rfl) g2 (by kernel_rfl) _ _ (0, 0) _ (h242) Try.underlying26 rfl (by rw [Bz_size, (Att.dg_len a)]; kernel_rfl)) ?_
  refine ps_p (o_VoteBytes 32766 9) (.bool true) (exec_cast (congrArg Value.bool (by simp)) (exec_binop .eql 26 26 (.tmp 112) (.tmp 113) (by kernel_rfl) (.agg (B a.dg).toArray) (.agg (B a.dg).toArray) _ (by kernel_rfl) (by kernel_rfl) (run_eqGuard_agg _ _ _ _ _ _ _ hash_guard) (hash_eq _ _ (Att.dg_len a) (Att.dg_len a) _))) ?_
  refine ps_k (o_VoteBytes 32766 10) (.bool true) ?_
  refine ps_k (o_VoteBytes 32766 11) (.bool true) ?_
  refine ps_k (o_VoteBytes 32766 12) (.int .i64 a.err) ?_
  refine ps_k (o_VoteBytes 32766 13) (.int .i64 a.err) ?_
  refine ps_p (o_VoteBytes 32766 14) (.bool true) (exec_cast (congrArg Value.bool (show ((((a.err) : Int) == ((a.err) : Int))) = true from by simp)) (by kernel_rfl)) ?_
  refine ps_k (o_VoteBytes 32766 15) (.bool true) ?_
  refine ps_k (o_VoteBytes 32766 16) (.bool true) ?_
  refine ps_p (o_VoteBytes 32766 17) (.agg ((B p.dg).toArray)) (exec_load_row 26 (.tmp 20) (by kernel_rfl) g3 (by kernel_rfl) _ _ (0, 0) _ (h243) Try.underlying26 rfl (by rw [Bz_size, (Pro.dg_len p)]; kernel_rfl)) ?_
  refine ps_p (o_VoteBytes 32766 18) (.agg ((B p.dg).toArray)) (exec_load_row 26 (.tmp 22) (by kernel_rfl) g4 (by kernel_rfl) _ _ (0, 0) _ (h235) Try.underlying26 rfl (by rw [Bz_size, (Pro.dg_len p)]; kernel_rfl)) ?_
  refine ps_p (o_VoteBytes 32766 19) (.bool true) (exec_cast (congrArg Value.bool (by simp)) (exec_binop .eql 26 26 (.tmp 122) (.tmp 123) (by kernel_rfl) (.agg (B p.dg).toArray) (.agg (B p.dg).toArray) _ (by kernel_rfl) (by kernel_rfl) (run_eqGuard_agg _ _ _ _ _ _ _ hash_guard) (hash_eq _ _ (Pro.dg_len p) (Pro.dg_len p) _))) ?_
  refine ps_k (o_VoteBytes 32766 20) (.bool true) ?_
  refine ps_k (o_VoteBytes 32766 21) (.bool true) ?_
  refine ps_k (o_VoteBytes 32766 22) (.int .i64 p.err) ?_
  refine ps_k (o_VoteBytes 32766 23) (.int .i64 p.err) ?_
  refine ps_p (o_VoteBytes 32766 24) (.bool true) (exec_cast (congrArg Value.bool (show ((((p.err) : Int) == ((p.err) : Int))) = true from by simp)) (by kernel_rfl)) ?_
  refine ps_k (o_VoteBytes 32766 25) (.bool true) ?_
  refine ps_k (o_VoteBytes 32766 26) (.bool true) ?_
  refine ps_c (o_VoteBytes 32766 27) 9 #[] Try.func9 ((lvawake_ok _).mono ?_)
  rintro e V246 ⟨rfl, kV246⟩
  refine ⟨_, rfl, ?_⟩
  have h247 := kV246.bk h236
  have h248 := kV246.bk h237
  have h249 : Row V246 5 1 x2 (a.told).length (B (a.told)) := h238.keeps kV246 (fun _ _ x => x)
  have h250 : Row V246 5 1 x4 (p.told).length (B (p.told)) := h239.keeps kV246 (fun _ _ x => x)
  have h251 : Row V246 5 1 x5 (a.told).length (B (a.told)) := h240.keeps kV246 (fun _ _ x => x)
  have h252 := kV246.bk h241
  have h253 := kV246.bk h242
  have h254 := kV246.bk h243
  have h255 := kV246.bk h235
  have K256 := K244.nn kV246
  have z257 := kV246.size
  refine ps_k (o_VoteBytes 32766 28) (.bool true) ?_
  refine ps_k (o_VoteBytes 32766 29) (.bool true) ?_
  refine ps_end ?_
  refine sy_a ⟨#[.agg (Att.c a), .agg (Pro.c p), pT ga 0, pT gp 0, .bool true, x1, .int .i64 a.err, x2, .int .i64 a.err, x3, .int .i64 p.err, x4, .int .i64 p.err, .bool true, x5, .int .i64 a.err, pT g1 0, .int .i64 a.err, pT g2 0, .int .i64 a.err, pT g3 0, .int .i64 p.err, pT g4 0, .int .i64 p.err, .tuple #[x1, .int .i64 a.err], .agg (Att.c a), .tuple #[x1, .int .i64 a.err], x1, .int .i64 a.err, .tuple #[x2, .int .i64 a.err], .agg (Att.c a), .tuple #[x2, .int .i64 a.err], x2, .int .i64 a.err, .tuple #[x3, .int .i64 p.err], .agg (Pro.c p), .tuple #[x3, .int .i64 p.err], x3, .int .i64 p.err, .tuple #[x4, .int .i64 p.err], .agg (Pro.c p), .tuple #[x4, .int .i64 p.err], x4, .int .i64 p.err, x1, x2, .bool true, .bool true, .int .i64 a.err, .int .i64 a.err, .bool true, .bool true, .bool true, x3, x4, .bool true, .bool true, .bool true, .int .i64 p.err, .int .i64 p.err, .bool true, .bool true, .bool true, .agg (Att.c a), .int .i64 a.err, .agg (Att.c a), .int .i64 a.err, .bool true, .bool true, .bool true, .agg (Pro.c p), .int .i64 p.err, .agg (Pro.c p), .int .i64 p.err, .bool true, .bool true, x1, rx1, x3, rx3, .tuple #[x5, .int .i64 a.err], .agg (Att.c a), .tuple #[x5, .int .i64 a.err], x5, .int .i64 a.err, .tuple #[.agg (B a.dg).toArray, .int .i64 a.err], .agg (Att.c a), .tuple #[.agg (B a.dg).toArray, .int .i64 a.err], .agg (B a.dg).toArray, .int .i64 a.err, .tuple #[.agg (B a.dg).toArray, .int .i64 a.err], .agg (Att.c a), .tuple #[.agg (B a.dg).toArray, .int .i64 a.err], .agg (B a.dg).toArray, .int .i64 a.err, .tuple #[.agg (B p.dg).toArray, .int .i64 p.err], .agg (Pro.c p), .tuple #[.agg (B p.dg).toArray, .int .i64 p.err], .agg (B p.dg).toArray, .int .i64 p.err, .tuple #[.agg (B p.dg).toArray, .int .i64 p.err], .agg (Pro.c p), .tuple #[.agg (B p.dg).toArray, .int .i64 p.err], .agg (B p.dg).toArray, .int .i64 p.err, .bool true, .bool true, x5, x2, .bool true, .bool true, .bool true, .agg ((B a.dg).toArray), .agg ((B a.dg).toArray), .bool true, .bool true, .bool true, .int .i64 a.err, .int .i64 a.err, .bool true, .bool true, .bool true, .agg ((B p.dg).toArray), .agg ((B p.dg).toArray), .bool true, .bool true, .bool true, .int .i64 p.err, .int .i64 p.err, .bool true, .bool true, .bool true, .bool true, .bool true], []⟩ ?_
  refine then_n ?_
  refine sy_ret (by kernel_rfl) ?_
  refine sy_out (.bool true) rfl (by kernel_rfl) ?_
  exact ⟨rfl, K256⟩
end Go.Proofs.Ytenaakldccjnbaa
