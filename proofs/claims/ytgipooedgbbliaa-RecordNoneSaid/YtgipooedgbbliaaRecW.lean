/-
  Records: records that are none (printed by rec11.py). Conditions: none.
-/
import Derived.Test.YtgipooedgbbliaaRecT
import Derived.Test.YtgipooedgbbliaaRecR
namespace Go.Proofs.Ytgipooedgbbliaa
open Go Go.RowKit Go.Own Go.Shelf

noncomputable def part_RecordNone (n : Nat) : Code := partOf Try.f5 n
noncomputable abbrev o_RecordNone (n k : Nat) : Oper := (opsAt (part_RecordNone n)).getD k default
set_option maxRecDepth 100000 in
set_option maxHeartbeats 4000000 in
theorem recordNone_ok (x : RAct) (w : World) (hx : x.Ok) :
    Calls Try.prog 5 #[.agg (RAct.c x)] w (fun e w' => e = .returned (.bool true) ∧ Keeps Nob w w') := by
  have K0 : Keeps Nob w w := Keeps.refl _ _
  refine sy_enter (part_RecordNone 1) ⟨#[.agg (RAct.c x), undef, undef, undef, undef, undef, undef, undef, undef, undef, undef, undef, undef, undef, undef, undef, undef, undef, undef, undef, undef, undef, undef, undef, undef, undef, undef, undef, undef, undef, undef, undef, undef, undef, undef, undef, undef, undef, undef, undef, undef, undef, undef, undef, undef, undef, undef, undef, undef, undef, undef, undef, undef, undef, undef, undef, undef, undef, undef, undef, undef, undef, undef, undef, undef, undef, undef, undef, undef, undef, undef, undef, undef, undef, undef, undef, undef, undef, undef, undef, undef, undef, undef, undef, undef, undef, undef, undef, undef, undef, undef, undef, undef, undef, undef, undef, undef, undef, undef, undef, undef, undef, undef], []⟩ Try.func5 (by kernel_rfl) (by kernel_rfl) ?_
  refine sy_sq (part_RecordNone 2) (part_RecordNone 3) ?_
  refine sy_reg ?_
  refine rg_plain 0 (opsAt (part_RecordNone 2)) [0, 1] (by kernel_rfl) (by kernel_rfl) ?_
  obtain ⟨V1, eV1, p, ep, h2, kV1⟩ := alloc_step w ((RAct.c x)) 51
  have n3 : w.heap.size ≤ p := ep ▸ K0.size
  refine ps_r (o_RecordNone 2 0) (pT p 0) (w' := V1) (by rw [← eV1, ← ep]; exact exec_box 51 (.tmp 0) (by kernel_rfl) (.agg (RAct.c x)) (by kernel_rfl)) ?_
  clear eV1
  have K4 := K0.nn kV1
  have z5 := kV1.size
  refine ps_k (o_RecordNone 2 1) (.bool false) ?_
  refine ps_end ?_
  refine then_n ?_
  refine sy_sq (part_RecordNone 6) (part_RecordNone 7) ?_
  refine sy_reg ?_
  refine rg_plain 1 (opsAt (part_RecordNone 6)) [0, 1, 2, 3] (by kernel_rfl) (by kernel_rfl) ?_
  refine ps_k (o_RecordNone 6 0) (.agg #[.int .i64 0, .pointer none, .pointer none]) ?_
  obtain ⟨V6, eV6, z, ez, h7, kV6⟩ := alloc_step V1 (#[.int .i64 0, .pointer none, .pointer none]) 57
  have n8 : p < z := ez ▸ lt_of_block h2
  have n9 : w.heap.size ≤ z := ez ▸ K4.size
  refine ps_r (o_RecordNone 6 1) (pT z 0) (w' := V6) (by rw [← eV6, ← ez]; exact exec_box 57 (.tmp 10) (by kernel_rfl) (.agg #[.int .i64 0, .pointer none, .pointer none]) (by kernel_rfl)) ?_
  clear eV6
  have h10 := kV6.bk h2
  have K11 := K4.nn kV6
  have z12 := kV6.size
  obtain ⟨V13, eV13, g, eg, h14, kV13⟩ := alloc_step V6 (#[.pointer none, .pointer (some ⟨z, 0, none⟩)]) 22
  have n15 : p < g := eg ▸ lt_of_block h10
  have n16 : z < g := eg ▸ lt_of_block h7
  have n17 : w.heap.size ≤ g := eg ▸ K11.size
  refine ps_r (o_RecordNone 6 2) (.slice (some ⟨g, 0, none⟩) 2 2) (w' := V13) (by rw [← eV13, ← eg]; kernel_rfl) ?_
  have h18 := kV13.bk h10
  have h19 := kV13.bk h7
  have K20 := K11.nn kV13
  have z21 := kV13.size
  refine ps_k (o_RecordNone 6 3) (.slice (some ⟨g, 0, none⟩) 2 2) ?_
  refine ps_end ?_
  refine then_n ?_
  refine sy_sq (part_RecordNone 14) (part_RecordNone 15) ?_
  refine sy_sq (part_RecordNone 28) (part_RecordNone 29) ?_
  refine sy_reg ?_
  refine rg_plain 2 (opsAt (part_RecordNone 28)) [0] (by kernel_rfl) (by kernel_rfl) ?_
  refine ps_k (o_RecordNone 28 0) (.int .i64 0) ?_
  refine ps_end ?_
  refine then_n ?_
  refine sy_bk 0 (part_RecordNone 58) ?_
  refine sy_rounds 3 (part_RecordNone 116) (by kernel_rfl) ?_
  refine rd_step ?_
  refine sy_sq (part_RecordNone 232) (part_RecordNone 233) ?_
  refine sy_sq (part_RecordNone 464) (part_RecordNone 465) ?_
  refine sy_reg ?_
  refine rg_plain 3 (opsAt (part_RecordNone 464)) [0, 1, 2, 3] (by kernel_rfl) (by kernel_rfl) ?_
  refine ps_k (o_RecordNone 464 0) (.int .i64 0) ?_
  refine ps_k (o_RecordNone 464 1) (.slice (some ⟨g, 0, none⟩) 2 2) ?_
  refine ps_p (o_RecordNone 464 2) (.int .i64 2) (exec_len (.tmp 14) 58 _ (by kernel_rfl) Try.underlying58 (some ⟨g, 0, none⟩) 2 2 (by kernel_rfl)) ?_
  refine ps_k (o_RecordNone 464 3) (.bool true) ?_
  refine ps_end ?_
  refine then_n ?_
  refine sy_ys (.tmp 16) (part_RecordNone 930) (part_RecordNone 931) ?_
  refine sy_sk ?_
  refine then_n ?_
  refine sy_sq (part_RecordNone 466) (part_RecordNone 467) ?_
  refine sy_bk 1 (part_RecordNone 932) ?_
  refine sy_sq (part_RecordNone 1864) (part_RecordNone 1865) ?_
  refine sy_reg ?_
  refine rg_plain 5 (opsAt (part_RecordNone 1864)) [0, 1, 2, 3, 4] (by kernel_rfl) (by kernel_rfl) ?_
  refine ps_k (o_RecordNone 1864 0) (.slice (some ⟨g, 0, none⟩) 2 2) ?_
  refine ps_k (o_RecordNone 1864 1) (.int .i64 0) ?_
  refine ps_p (o_RecordNone 1864 2) (pT g 0) (exec_cast (v := pT g (0 + 0 * 1)) (by simp) (exec_indexAt_slice 58 (.tmp 19) (.tmp 20) (by kernel_rfl) g 0 2 2 (by kernel_rfl) .i64 0 (by kernel_rfl) _ 1 Try.underlying58 (by kernel_rfl) (by omega))) ?_
  refine ps_p (o_RecordNone 1864 3) (.pointer none) (exec_ld 22 (.tmp 21) g 0 Try.underlying22 (rc (h14) (by kernel_rfl))) ?_
  refine ps_k (o_RecordNone 1864 4) (.pointer none) ?_
  refine ps_end ?_
  refine then_n ?_
  refine sy_sq (part_RecordNone 3730) (part_RecordNone 3731) ?_
  refine sy_reg ?_
  refine rg_plain 6 (opsAt (part_RecordNone 3730)) [0, 1, 2, 3, 4, 5, 6, 7, 8, 9] (by kernel_rfl) (by kernel_rfl) ?_
  refine ps_k (o_RecordNone 3730 0) (.pointer none) ?_
  refine ps_k (o_RecordNone 3730 1) (pT p 3) ?_
  refine ps_p (o_RecordNone 3730 2) (.int .i64 x.at_) (exec_ld 3 (.tmp 25) p 3 Try.underlying3 (rc (h18) (RAct.c_3 _))) ?_
  refine ps_c (o_RecordNone 3730 3) 8 #[.pointer none, .int .i64 x.at_] Try.func8 ((qAt_none (.pointer none) x.at_ _ (.inl rfl) ).mono ?_)
  rintro e V22 ⟨rfl, kV22⟩
  refine ⟨_, rfl, ?_⟩
  have h23 := kV22.bk h18
  have h24 := kV22.bk h19
  have h25 := kV22.bk h14
  have K26 := K20.nn kV22
  have z27 := kV22.size
  refine ps_k (o_RecordNone 3730 4) (.tuple #[.agg (Att.c zAtt), .bool false]) ?_
  refine ps_k (o_RecordNone 3730 5) (.agg (Att.c zAtt)) ?_
  refine ps_k (o_RecordNone 3730 6) (.bool false) ?_
  obtain ⟨V28, eV28, a1, ea1, h29, kV28⟩ := alloc_step V22 (#[.int .i64 0, .int .i64 0, .int .i64 0, .int .u8 0, .int .u8 0, .int .u8 0, .int .u8 0, .int .u8 0, .int .u8 0, .int .u8 0, .int .u8 0, .int .u8 0, .int .u8 0, .int .u8 0, .int .u8 0, .int .u8 0, .int .u8 0, .int .u8 0, .int .u8 0, .int .u8 0, .int .u8 0, .int .u8 0, .int .u8 0, .int .u8 0, .int .u8 0, .int .u8 0, .int .u8 0, .int .u8 0, .int .u8 0, .int .u8 0, .int .u8 0, .int .u8 0, .int .u8 0, .int .u8 0, .int .u8 0, .int .u64 0]) 28
  have n30 : p < a1 := ea1 ▸ lt_of_block h23
  have n31 : z < a1 := ea1 ▸ lt_of_block h24
  have n32 : g < a1 := ea1 ▸ lt_of_block h25
  have n33 : w.heap.size ≤ a1 := ea1 ▸ K26.size
  refine ps_r (o_RecordNone 3730 7) (pT a1 0) (w' := V28) (by rw [← eV28, ← ea1]; exact exec_alloc0 28 (by kernel_rfl) (.agg (#[.int .i64 0, .int .i64 0, .int .i64 0, .int .u8 0, .int .u8 0, .int .u8 0, .int .u8 0, .int .u8 0, .int .u8 0, .int .u8 0, .int .u8 0, .int .u8 0, .int .u8 0, .int .u8 0, .int .u8 0, .int .u8 0, .int .u8 0, .int .u8 0, .int .u8 0, .int .u8 0, .int .u8 0, .int .u8 0, .int .u8 0, .int .u8 0, .int .u8 0, .int .u8 0, .int .u8 0, .int .u8 0, .int .u8 0, .int .u8 0, .int .u8 0, .int .u8 0, .int .u8 0, .int .u8 0, .int .u8 0, .int .u64 0])) (by kernel_rfl)) ?_
  clear eV28
  have h34 := kV28.bk h23
  have h35 := kV28.bk h24
  have h36 := kV28.bk h25
  have K37 := K26.nn kV28
  have z38 := kV28.size
  obtain ⟨V39, eV39, kV39⟩ := rowset_step V28 a1 ((Att.c zAtt))
  have h40 : V39.heap[a1]? = some (.cells (Att.c zAtt) 28 (0, 0)) := eV39 ▸ setRow_heap _ _ _ _ _ _ h29
  refine ps_s (o_RecordNone 3730 8) (w' := V39) (by rw [← eV39]; exact exec_store_row 28 (.tmp 6) (.tmp 28) (by kernel_rfl) a1 ((Att.c zAtt)) (by kernel_rfl) (by kernel_rfl) 28 (#[.int .i64 0, .int .i64 0, .int .i64 0, .int .u8 0, .int .u8 0, .int .u8 0, .int .u8 0, .int .u8 0, .int .u8 0, .int .u8 0, .int .u8 0, .int .u8 0, .int .u8 0, .int .u8 0, .int .u8 0, .int .u8 0, .int .u8 0, .int .u8 0, .int .u8 0, .int .u8 0, .int .u8 0, .int .u8 0, .int .u8 0, .int .u8 0, .int .u8 0, .int .u8 0, .int .u8 0, .int .u8 0, .int .u8 0, .int .u8 0, .int .u8 0, .int .u8 0, .int .u8 0, .int .u8 0, .int .u8 0, .int .u64 0]) h29 (by kernel_rfl) (by kernel_rfl) (Att.c_one _)) ?_
  clear eV39
  have h41 := kV39.bo h34 (by omega)
  have h42 := kV39.bo h35 (by omega)
  have h43 := kV39.bo h36 (by omega)
  have K44 := K37.no kV39 (by omega)
  have z45 := kV39.size
  refine ps_k (o_RecordNone 3730 9) (.bool false) ?_
  refine ps_end ?_
  refine sy_a ⟨#[.agg (RAct.c x), pT p 0, .bool false, .slice (some ⟨g, 0, none⟩) 2 2, .int .i64 0, .pointer none, pT a1 0, .bool false, undef, undef, .agg #[.int .i64 0, .pointer none, .pointer none], pT z 0, .slice (some ⟨g, 0, none⟩) 2 2, .int .i64 0, .slice (some ⟨g, 0, none⟩) 2 2, .int .i64 2, .bool true, undef, undef, .slice (some ⟨g, 0, none⟩) 2 2, .int .i64 0, pT g 0, .pointer none, .tuple #[.agg (Att.c zAtt), .bool false], .pointer none, pT p 3, .int .i64 x.at_, .tuple #[.agg (Att.c zAtt), .bool false], .agg (Att.c zAtt), .bool false, undef, undef, undef, undef, undef, undef, undef, undef, undef, undef, undef, undef, undef, undef, undef, undef, undef, undef, undef, undef, undef, undef, undef, undef, undef, undef, undef, undef, undef, undef, undef, undef, undef, undef, undef, undef, undef, undef, undef, undef, undef, undef, undef, undef, undef, undef, undef, undef, undef, undef, undef, undef, undef, undef, undef, undef, undef, undef, undef, undef, undef, undef, undef, undef, undef, undef, undef, undef, undef, undef, undef, undef, undef], []⟩ ?_
  refine then_n ?_
  refine sy_sq (part_RecordNone 7462) (part_RecordNone 7463) ?_
  refine sy_reg ?_
  refine rg_plain 7 (opsAt (part_RecordNone 7462)) [0, 1, 2, 3, 4, 5, 6, 7, 8, 9] (by kernel_rfl) (by kernel_rfl) ?_
  refine ps_k (o_RecordNone 7462 0) (.pointer none) ?_
  refine ps_k (o_RecordNone 7462 1) (pT p 4) ?_
  refine ps_p (o_RecordNone 7462 2) (.int .i64 x.of_) (exec_ld 3 (.tmp 32) p 4 Try.underlying3 (rc (h41) (RAct.c_4 _))) ?_
  refine ps_c (o_RecordNone 7462 3) 11 #[.pointer none, .int .i64 x.of_] Try.func11 ((qBlock_none (.pointer none) x.of_ _ (.inl rfl) ).mono ?_)
  rintro e V46 ⟨rfl, kV46⟩
  refine ⟨_, rfl, ?_⟩
  have h47 := kV46.bk h41
  have h48 := kV46.bk h42
  have h49 := kV46.bk h43
  have h50 := kV46.bk h40
  have K51 := K44.nn kV46
  have z52 := kV46.size
  refine ps_k (o_RecordNone 7462 4) (.tuple #[.agg (Pro.c zPro), .bool false]) ?_
  refine ps_k (o_RecordNone 7462 5) (.agg (Pro.c zPro)) ?_
  refine ps_k (o_RecordNone 7462 6) (.bool false) ?_
  obtain ⟨V53, eV53, a2, ea2, h54, kV53⟩ := alloc_step V46 (#[.int .i64 0, .int .i64 0, .int .u8 0, .int .u8 0, .int .u8 0, .int .u8 0, .int .u8 0, .int .u8 0, .int .u8 0, .int .u8 0, .int .u8 0, .int .u8 0, .int .u8 0, .int .u8 0, .int .u8 0, .int .u8 0, .int .u8 0, .int .u8 0, .int .u8 0, .int .u8 0, .int .u8 0, .int .u8 0, .int .u8 0, .int .u8 0, .int .u8 0, .int .u8 0, .int .u8 0, .int .u8 0, .int .u8 0, .int .u8 0, .int .u8 0, .int .u8 0, .int .u8 0, .int .u8 0, .int .u64 0]) 35
  have n55 : p < a2 := ea2 ▸ lt_of_block h47
  have n56 : z < a2 := ea2 ▸ lt_of_block h48
  have n57 : g < a2 := ea2 ▸ lt_of_block h49
  have n58 : a1 < a2 := ea2 ▸ lt_of_block h50
  have n59 : w.heap.size ≤ a2 := ea2 ▸ K51.size
  refine ps_r (o_RecordNone 7462 7) (pT a2 0) (w' := V53) (by rw [← eV53, ← ea2]; exact exec_alloc0 35 (by kernel_rfl) (.agg (#[.int .i64 0, .int .i64 0, .int .u8 0, .int .u8 0, .int .u8 0, .int .u8 0, .int .u8 0, .int .u8 0, .int .u8 0, .int .u8 0, .int .u8 0, .int .u8 0, .int .u8 0, .int .u8 0, .int .u8 0, .int .u8 0, .int .u8 0, .int .u8 0, .int .u8 0, .int .u8 0, .int .u8 0, .int .u8 0, .int .u8 0, .int .u8 0, .int .u8 0, .int .u8 0, .int .u8 0, .int .u8 0, .int .u8 0, .int .u8 0, .int .u8 0, .int .u8 0, .int .u8 0, .int .u8 0, .int .u64 0])) (by kernel_rfl)) ?_
  clear eV53
  have h60 := kV53.bk h47
  have h61 := kV53.bk h48
  have h62 := kV53.bk h49
  have h63 := kV53.bk h50
  have K64 := K51.nn kV53
  have z65 := kV53.size
  obtain ⟨V66, eV66, kV66⟩ := rowset_step V53 a2 ((Pro.c zPro))
  have h67 : V66.heap[a2]? = some (.cells (Pro.c zPro) 35 (0, 0)) := eV66 ▸ setRow_heap _ _ _ _ _ _ h54
  refine ps_s (o_RecordNone 7462 8) (w' := V66) (by rw [← eV66]; exact exec_store_row 35 (.tmp 8) (.tmp 35) (by kernel_rfl) a2 ((Pro.c zPro)) (by kernel_rfl) (by kernel_rfl) 35 (#[.int .i64 0, .int .i64 0, .int .u8 0, .int .u8 0, .int .u8 0, .int .u8 0, .int .u8 0, .int .u8 0, .int .u8 0, .int .u8 0, .int .u8 0, .int .u8 0, .int .u8 0, .int .u8 0, .int .u8 0, .int .u8 0, .int .u8 0, .int .u8 0, .int .u8 0, .int .u8 0, .int .u8 0, .int .u8 0, .int .u8 0, .int .u8 0, .int .u8 0, .int .u8 0, .int .u8 0, .int .u8 0, .int .u8 0, .int .u8 0, .int .u8 0, .int .u8 0, .int .u8 0, .int .u8 0, .int .u64 0]) h54 (by kernel_rfl) (by kernel_rfl) (Pro.c_one _)) ?_
  clear eV66
  have h68 := kV66.bo h60 (by omega)
  have h69 := kV66.bo h61 (by omega)
  have h70 := kV66.bo h62 (by omega)
  have h71 := kV66.bo h63 (by omega)
  have K72 := K64.no kV66 (by omega)
  have z73 := kV66.size
  refine ps_k (o_RecordNone 7462 9) (.bool false) ?_
  refine ps_end ?_
  refine then_n ?_
  refine sy_sq (part_RecordNone 14926) (part_RecordNone 14927) ?_
  refine sy_np ?_
  refine sy_reg ?_
  refine an_begin 8 65 (opsAt (part_RecordNone 14926)) (fun W => (W.heap[p]? = some (.cells (RAct.c x) 51 (0, 0))) ∧ (W.heap[a1]? = some (.cells (Att.c zAtt) 28 (0, 0))) ∧ (W.heap[a2]? = some (.cells (Pro.c zPro) 35 (0, 0)))) #[false, false, false, false, false, false, false, false, false, false, false, false, false, false, false, false, false, false, false, false, false, false, false, false, false, false, false, false, false, false, false, false, false, false, false, false, false, false, false, false, false, false, false, false, false, false, false, false, false, false, false, false, false, false, false, false, false, false, false, false, false, false, false, false, false] (by kernel_rfl) (by kernel_rfl) (by kernel_rfl) (by kernel_rfl) ?_
  obtain ⟨V74, eV74, kV74⟩ := drew_step V66
  rw [eV74]
  clear eV74
  have h75 := kV74.bk h68
  have h76 := kV74.bk h69
  have h77 := kV74.bk h70
  have h78 := kV74.bk h71
  have h79 := kV74.bk h67
  have K80 := K72.nn kV74
  have z81 := kV74.size
  refine an_k 0 (o_RecordNone 14926 0) (.pointer none) ⟨h75, h78, h79⟩ ?_
  refine an_k 1 (o_RecordNone 14926 1) (pT p 5) ⟨h75, h78, h79⟩ ?_
  refine an_v 2 (o_RecordNone 14926 2) (.agg (Att.c x.a)) (fun W hS => exec_load_seg 28 (.tmp 38) (by kernel_rfl) p 5 (by kernel_rfl) (Att.cl x.a) _ _ _ hS.1 (RAct.c_a x) Try.underlying28 rfl (by rw [Att.cl_len hx.a]; kernel_rfl)) ⟨h75, h78, h79⟩ ?_
  refine an_o 3 ?_
  refine on_c (o_RecordNone 14926 3) 9 #[.pointer none, .agg (Att.c x.a)] Try.func9 ((qPut_none (.pointer none) x.a _ (.inl rfl) hx.a).mono ?_)
  rintro e V82 ⟨rfl, kV82⟩
  refine ⟨_, rfl, ?_⟩
  have h83 := kV82.bk h75
  have h84 := kV82.bk h76
  have h85 := kV82.bk h77
  have h86 := kV82.bk h78
  have h87 := kV82.bk h79
  have K88 := K80.nn kV82
  have z89 := kV82.size
  refine ⟨⟨h83, h86, h87⟩, ?_⟩
  refine an_k 4 (o_RecordNone 14926 4) (.bool false) ⟨h83, h86, h87⟩ ?_
  refine an_k 5 (o_RecordNone 14926 5) (.bool false) ⟨h83, h86, h87⟩ ?_
  refine an_k 6 (o_RecordNone 14926 6) (.pointer none) ⟨h83, h86, h87⟩ ?_
  refine an_k 7 (o_RecordNone 14926 7) (pT p 41) ⟨h83, h86, h87⟩ ?_
  refine an_v 8 (o_RecordNone 14926 8) (.agg (Pro.c x.p)) (fun W hS => exec_load_seg 35 (.tmp 44) (by kernel_rfl) p 41 (by kernel_rfl) (Pro.cl x.p) _ _ _ hS.1 (RAct.c_p x hx) Try.underlying35 rfl (by rw [Pro.cl_len hx.p]; kernel_rfl)) ⟨h83, h86, h87⟩ ?_
  refine an_o 9 ?_
  refine on_c (o_RecordNone 14926 9) 12 #[.pointer none, .agg (Pro.c x.p)] Try.func12 ((qPutBlock_none (.pointer none) x.p _ (.inl rfl) hx.p).mono ?_)
  rintro e V90 ⟨rfl, kV90⟩
  refine ⟨_, rfl, ?_⟩
  have h91 := kV90.bk h83
  have h92 := kV90.bk h84
  have h93 := kV90.bk h85
  have h94 := kV90.bk h86
  have h95 := kV90.bk h87
  have K96 := K88.nn kV90
  have z97 := kV90.size
  refine ⟨⟨h91, h94, h95⟩, ?_⟩
  refine an_k 10 (o_RecordNone 14926 10) (.bool false) ⟨h91, h94, h95⟩ ?_
  refine an_k 11 (o_RecordNone 14926 11) (.bool false) ⟨h91, h94, h95⟩ ?_
  refine an_k 12 (o_RecordNone 14926 12) (.bool false) ⟨h91, h94, h95⟩ ?_
  refine an_k 13 (o_RecordNone 14926 13) (.pointer none) ⟨h91, h94, h95⟩ ?_
  refine an_k 14 (o_RecordNone 14926 14) (pT p 1) ⟨h91, h94, h95⟩ ?_
  refine an_v 15 (o_RecordNone 14926 15) (.int .i64 x.l) (fun W hS => exec_ld 3 (.tmp 51) p 1 Try.underlying3 (rc (hS.1) (RAct.c_1 _))) ⟨h91, h94, h95⟩ ?_
  refine an_k 16 (o_RecordNone 14926 16) (pT p 2) ⟨h91, h94, h95⟩ ?_
  refine an_v 17 (o_RecordNone 14926 17) (.int .i64 x.f) (fun W hS => exec_ld 3 (.tmp 53) p 2 Try.underlying3 (rc (hS.1) (RAct.c_2 _))) ⟨h91, h94, h95⟩ ?_
  refine an_o 18 ?_
  refine on_c (o_RecordNone 14926 18) 14 #[.pointer none, .int .i64 x.l, .int .i64 x.f] Try.func14 ((qMove_none (.pointer none) x.l x.f _ (.inl rfl) ).mono ?_)
  rintro e V98 ⟨rfl, kV98⟩
  refine ⟨_, rfl, ?_⟩
  have h99 := kV98.bk h91
  have h100 := kV98.bk h92
  have h101 := kV98.bk h93
  have h102 := kV98.bk h94
  have h103 := kV98.bk h95
  have K104 := K96.nn kV98
  have z105 := kV98.size
  refine ⟨⟨h99, h102, h103⟩, ?_⟩
  refine an_k 19 (o_RecordNone 14926 19) (.bool false) ⟨h99, h102, h103⟩ ?_
  refine an_k 20 (o_RecordNone 14926 20) (.bool false) ⟨h99, h102, h103⟩ ?_
  refine an_k 21 (o_RecordNone 14926 21) (.bool false) ⟨h99, h102, h103⟩ ?_
  refine an_v 22 (o_RecordNone 14926 22) (.agg (Att.c zAtt)) (fun W hS => exec_load_row 28 (.tmp 6) (by kernel_rfl) a1 (by kernel_rfl) _ _ (0, 0) _ (hS.2.1) Try.underlying28 rfl (by rw [Att.c_size _ zAtt_ok.r]; kernel_rfl)) ⟨h99, h102, h103⟩ ?_
  refine an_k 23 (o_RecordNone 14926 23) (.agg (Att.c zAtt)) ⟨h99, h102, h103⟩ ?_
  refine an_v 24 (o_RecordNone 14926 24) (.bool false) (fun W hS => exec_cast (congrArg Value.bool (by simp)) (exec_binop .neq 28 28 (.tmp 59) (.tmp 60) (by kernel_rfl) (.agg (Att.c zAtt)) (.agg (Att.c zAtt)) _ (by kernel_rfl) (by kernel_rfl) (run_eqGuard_agg _ _ _ _ _ _ _ att_guard) (att_ne _ _ zAtt_ok.r zAtt_ok.r _))) ⟨h99, h102, h103⟩ ?_
  refine an_k 25 (o_RecordNone 14926 25) (.bool false) ⟨h99, h102, h103⟩ ?_
  refine an_k 26 (o_RecordNone 14926 26) (.bool false) ⟨h99, h102, h103⟩ ?_
  refine an_k 27 (o_RecordNone 14926 27) (.bool false) ⟨h99, h102, h103⟩ ?_
  refine an_k 28 (o_RecordNone 14926 28) (.bool false) ⟨h99, h102, h103⟩ ?_
  refine an_k 29 (o_RecordNone 14926 29) (.bool false) ⟨h99, h102, h103⟩ ?_
  refine an_v 30 (o_RecordNone 14926 30) (.agg (Pro.c zPro)) (fun W hS => exec_load_row 35 (.tmp 8) (by kernel_rfl) a2 (by kernel_rfl) _ _ (0, 0) _ (hS.2.2) Try.underlying35 rfl (by rw [Pro.c_size _ zPro_ok.r]; kernel_rfl)) ⟨h99, h102, h103⟩ ?_
  refine an_k 31 (o_RecordNone 14926 31) (.agg (Pro.c zPro)) ⟨h99, h102, h103⟩ ?_
  refine an_v 32 (o_RecordNone 14926 32) (.bool false) (fun W hS => exec_cast (congrArg Value.bool (by simp)) (exec_binop .neq 35 35 (.tmp 67) (.tmp 68) (by kernel_rfl) (.agg (Pro.c zPro)) (.agg (Pro.c zPro)) _ (by kernel_rfl) (by kernel_rfl) (run_eqGuard_agg _ _ _ _ _ _ _ pro_guard) (pro_ne _ _ zPro_ok.r zPro_ok.r _))) ⟨h99, h102, h103⟩ ?_
  refine an_k 33 (o_RecordNone 14926 33) (.bool false) ⟨h99, h102, h103⟩ ?_
  refine an_k 34 (o_RecordNone 14926 34) (.bool false) ⟨h99, h102, h103⟩ ?_
  refine an_k 35 (o_RecordNone 14926 35) (.bool false) ⟨h99, h102, h103⟩ ?_
  refine an_k 36 (o_RecordNone 14926 36) (.bool false) ⟨h99, h102, h103⟩ ?_
  refine an_k 37 (o_RecordNone 14926 37) (.bool false) ⟨h99, h102, h103⟩ ?_
  refine an_k 38 (o_RecordNone 14926 38) (.pointer none) ⟨h99, h102, h103⟩ ?_
  refine an_k 41 (o_RecordNone 14926 41) (.pointer none) ⟨h99, h102, h103⟩ ?_
  refine an_o 39 ?_
  refine on_c (o_RecordNone 14926 39) 24 #[.pointer none] Try.func24 ((qAll_none (.pointer none)  _ (.inl rfl) ).mono ?_)
  rintro e V106 ⟨rfl, kV106⟩
  refine ⟨_, rfl, ?_⟩
  have h107 := kV106.bk h99
  have h108 := kV106.bk h100
  have h109 := kV106.bk h101
  have h110 := kV106.bk h102
  have h111 := kV106.bk h103
  have K112 := K104.nn kV106
  have z113 := kV106.size
  refine ⟨⟨h107, h110, h111⟩, ?_⟩
  refine an_v 40 (o_RecordNone 14926 40) (.int .i64 0) (fun W hS => exec_len (.tmp 76) 59 _ (by kernel_rfl) Try.underlying59 none 0 0 (by kernel_rfl)) ⟨h107, h110, h111⟩ ?_
  refine an_o 42 ?_
  refine on_c (o_RecordNone 14926 42) 25 #[.pointer none] Try.func25 ((qBlocks_none (.pointer none)  _ (.inl rfl) ).mono ?_)
  rintro e V114 ⟨rfl, kV114⟩
  refine ⟨_, rfl, ?_⟩
  have h115 := kV114.bk h107
  have h116 := kV114.bk h108
  have h117 := kV114.bk h109
  have h118 := kV114.bk h110
  have h119 := kV114.bk h111
  have K120 := K112.nn kV114
  have z121 := kV114.size
  refine ⟨⟨h115, h118, h119⟩, ?_⟩
  refine an_v 43 (o_RecordNone 14926 43) (.int .i64 0) (fun W hS => exec_len (.tmp 79) 61 _ (by kernel_rfl) Try.underlying61 none 0 0 (by kernel_rfl)) ⟨h115, h118, h119⟩ ?_
  refine an_k 44 (o_RecordNone 14926 44) (.int .i64 0) ⟨h115, h118, h119⟩ ?_
  refine an_k 45 (o_RecordNone 14926 45) (.bool false) ⟨h115, h118, h119⟩ ?_
  refine an_k 46 (o_RecordNone 14926 46) (.bool false) ⟨h115, h118, h119⟩ ?_
  refine an_k 47 (o_RecordNone 14926 47) (.bool false) ⟨h115, h118, h119⟩ ?_
  refine an_k 48 (o_RecordNone 14926 48) (.pointer none) ⟨h115, h118, h119⟩ ?_
  refine an_o 49 ?_
  refine on_c (o_RecordNone 14926 49) 15 #[.pointer none] Try.func15 ((qLow_none (.pointer none) _ (.inl rfl)).mono ?_)
  rintro e w1 ⟨rfl, rfl⟩
  refine ⟨_, rfl, ?_⟩
  refine ⟨⟨h115, h118, h119⟩, ?_⟩
  refine an_k 50 (o_RecordNone 14926 50) (.bool false) ⟨h115, h118, h119⟩ ?_
  refine an_k 51 (o_RecordNone 14926 51) (.bool false) ⟨h115, h118, h119⟩ ?_
  refine an_k 52 (o_RecordNone 14926 52) (.bool false) ⟨h115, h118, h119⟩ ?_
  refine an_k 53 (o_RecordNone 14926 53) (.pointer none) ⟨h115, h118, h119⟩ ?_
  refine an_o 54 ?_
  refine on_c (o_RecordNone 14926 54) 16 #[.pointer none] Try.func16 ((qFloor_none (.pointer none) _ (.inl rfl)).mono ?_)
  rintro e w1 ⟨rfl, rfl⟩
  refine ⟨_, rfl, ?_⟩
  refine ⟨⟨h115, h118, h119⟩, ?_⟩
  refine an_k 55 (o_RecordNone 14926 55) (.bool false) ⟨h115, h118, h119⟩ ?_
  refine an_k 56 (o_RecordNone 14926 56) (.bool false) ⟨h115, h118, h119⟩ ?_
  refine an_k 57 (o_RecordNone 14926 57) (.bool false) ⟨h115, h118, h119⟩ ?_
  refine an_k 58 (o_RecordNone 14926 58) (.pointer none) ⟨h115, h118, h119⟩ ?_
  refine an_k 60 (o_RecordNone 14926 60) (pT p 5) ⟨h115, h118, h119⟩ ?_
  refine an_v 61 (o_RecordNone 14926 61) (.agg (Att.c x.a)) (fun W hS => exec_load_seg 28 (.tmp 97) (by kernel_rfl) p 5 (by kernel_rfl) (Att.cl x.a) _ _ _ hS.1 (RAct.c_a x) Try.underlying28 rfl (by rw [Att.cl_len hx.a]; kernel_rfl)) ⟨h115, h118, h119⟩ ?_
  refine an_o 59 ?_
  refine on_c (o_RecordNone 14926 59) 21 #[.pointer none] Try.func21 ((qCopy_none (.pointer none) _ (.inl rfl)).mono ?_)
  rintro e V122 ⟨r2, rfl, hr2, kV122⟩
  refine ⟨_, rfl, ?_⟩
  have h123 := kV122.bk h115
  have h124 := kV122.bk h116
  have h125 := kV122.bk h117
  have h126 := kV122.bk h118
  have h127 := kV122.bk h119
  have K128 := K120.nn kV122
  have z129 := kV122.size
  refine ⟨⟨h123, h126, h127⟩, ?_⟩
  refine an_o 62 ?_
  refine on_c (o_RecordNone 14926 62) 9 #[pT r2 0, .agg (Att.c x.a)] Try.func9 ((qPut_none (pT r2 0) x.a _ (.inr ⟨_, _, rfl, hr2⟩) hx.a).mono ?_)
  rintro e V130 ⟨rfl, kV130⟩
  refine ⟨_, rfl, ?_⟩
  have h131 := kV130.bk h123
  have h132 := kV130.bk h124
  have h133 := kV130.bk h125
  have h134 := kV130.bk h126
  have h135 := kV130.bk h127
  have h136 := kV130.bk hr2
  have K137 := K128.nn kV130
  have z138 := kV130.size
  refine ⟨⟨h131, h134, h135⟩, ?_⟩
  refine an_k 63 (o_RecordNone 14926 63) (.bool false) ⟨h131, h134, h135⟩ ?_
  refine an_k 64 (o_RecordNone 14926 64) (.bool false) ⟨h131, h134, h135⟩ ?_
  refine an_end (by kernel_rfl) ?_
  refine sy_a ⟨#[.agg (RAct.c x), pT p 0, .bool false, .slice (some ⟨g, 0, none⟩) 2 2, .int .i64 0, .pointer none, pT a1 0, .bool false, pT a2 0, .bool false, .agg #[.int .i64 0, .pointer none, .pointer none], pT z 0, .slice (some ⟨g, 0, none⟩) 2 2, .int .i64 0, .slice (some ⟨g, 0, none⟩) 2 2, .int .i64 2, .bool true, undef, undef, .slice (some ⟨g, 0, none⟩) 2 2, .int .i64 0, pT g 0, .pointer none, .tuple #[.agg (Att.c zAtt), .bool false], .pointer none, pT p 3, .int .i64 x.at_, .tuple #[.agg (Att.c zAtt), .bool false], .agg (Att.c zAtt), .bool false, .tuple #[.agg (Pro.c zPro), .bool false], .pointer none, pT p 4, .int .i64 x.of_, .tuple #[.agg (Pro.c zPro), .bool false], .agg (Pro.c zPro), .bool false, .pointer none, pT p 5, .agg (Att.c x.a), .int .i64 1, .bool false, .bool false, .pointer none, pT p 41, .agg (Pro.c x.p), .int .i64 1, .bool false, .bool false, .bool false, .pointer none, pT p 1, .int .i64 x.l, pT p 2, .int .i64 x.f, .int .i64 1, .bool false, .bool false, .bool false, .agg (Att.c zAtt), .agg (Att.c zAtt), .bool false, .bool false, .bool false, .bool false, .bool false, .bool false, .agg (Pro.c zPro), .agg (Pro.c zPro), .bool false, .bool false, .bool false, .bool false, .bool false, .bool false, .pointer none, .slice none 0 0, .int .i64 0, .pointer none, .slice none 0 0, .int .i64 0, .int .i64 0, .bool false, .bool false, .bool false, .pointer none, .int .i64 0, .bool false, .bool false, .bool false, .pointer none, .int .i64 0, .bool false, .bool false, .bool false, .pointer none, pT r2 0, pT p 5, .agg (Att.c x.a), .int .i64 1, .bool false, .bool false, undef], []⟩ ?_
  refine then_n ?_
  refine sy_n (.tmp 101) (part_RecordNone 29854) (part_RecordNone 29855) ?_
  refine sy_sk ?_
  refine blk_n ?_
  refine then_n ?_
  refine sy_reg ?_
  refine rg_plain 4 (opsAt (part_RecordNone 467)) [0, 1, 2] (by kernel_rfl) (by kernel_rfl) ?_
  refine ps_k (o_RecordNone 467 0) (.int .i64 0) ?_
  refine ps_k (o_RecordNone 467 1) (.int .i64 1) ?_
  refine ps_k (o_RecordNone 467 2) (.int .i64 1) ?_
  refine ps_end ?_
  refine then_n ?_
  refine rd_step ?_
  refine sy_sq (part_RecordNone 232) (part_RecordNone 233) ?_
  refine sy_sq (part_RecordNone 464) (part_RecordNone 465) ?_
  refine sy_reg ?_
  refine rg_plain 3 (opsAt (part_RecordNone 464)) [0, 1, 2, 3] (by kernel_rfl) (by kernel_rfl) ?_
  refine ps_k (o_RecordNone 464 0) (.int .i64 1) ?_
  refine ps_k (o_RecordNone 464 1) (.slice (some ⟨g, 0, none⟩) 2 2) ?_
  refine ps_p (o_RecordNone 464 2) (.int .i64 2) (exec_len (.tmp 14) 58 _ (by kernel_rfl) Try.underlying58 (some ⟨g, 0, none⟩) 2 2 (by kernel_rfl)) ?_
  refine ps_k (o_RecordNone 464 3) (.bool true) ?_
  refine ps_end ?_
  refine then_n ?_
  refine sy_ys (.tmp 16) (part_RecordNone 930) (part_RecordNone 931) ?_
  refine sy_sk ?_
  refine then_n ?_
  refine sy_sq (part_RecordNone 466) (part_RecordNone 467) ?_
  refine sy_bk 1 (part_RecordNone 932) ?_
  refine sy_sq (part_RecordNone 1864) (part_RecordNone 1865) ?_
  refine sy_reg ?_
  refine rg_plain 5 (opsAt (part_RecordNone 1864)) [0, 1, 2, 3, 4] (by kernel_rfl) (by kernel_rfl) ?_
  refine ps_k (o_RecordNone 1864 0) (.slice (some ⟨g, 0, none⟩) 2 2) ?_
  refine ps_k (o_RecordNone 1864 1) (.int .i64 1) ?_
  refine ps_p (o_RecordNone 1864 2) (pT g 1) (exec_cast (v := pT g (0 + 1 * 1)) (by simp) (exec_indexAt_slice 58 (.tmp 19) (.tmp 20) (by kernel_rfl) g 0 2 2 (by kernel_rfl) .i64 1 (by kernel_rfl) _ 1 Try.underlying58 (by kernel_rfl) (by omega))) ?_
  refine ps_p (o_RecordNone 1864 3) (pT z 0) (exec_ld 22 (.tmp 21) g 1 Try.underlying22 (rc (h133) (by kernel_rfl))) ?_
  refine ps_k (o_RecordNone 1864 4) (pT z 0) ?_
  refine ps_end ?_
  refine then_n ?_
  refine sy_sq (part_RecordNone 3730) (part_RecordNone 3731) ?_
  refine sy_reg ?_
  refine rg_plain 6 (opsAt (part_RecordNone 3730)) [0, 1, 2, 3, 4, 5, 6, 7, 8, 9] (by kernel_rfl) (by kernel_rfl) ?_
  refine ps_k (o_RecordNone 3730 0) (pT z 0) ?_
  refine ps_k (o_RecordNone 3730 1) (pT p 3) ?_
  refine ps_p (o_RecordNone 3730 2) (.int .i64 x.at_) (exec_ld 3 (.tmp 25) p 3 Try.underlying3 (rc (h131) (RAct.c_3 _))) ?_
  refine ps_c (o_RecordNone 3730 3) 8 #[pT z 0, .int .i64 x.at_] Try.func8 ((qAt_none (pT z 0) x.at_ _ (.inr ⟨_, _, rfl, h132⟩) ).mono ?_)
  rintro e V139 ⟨rfl, kV139⟩
  refine ⟨_, rfl, ?_⟩
  have h140 := kV139.bk h131
  have h141 := kV139.bk h132
  have h142 := kV139.bk h133
  have K143 := K137.nn kV139
  have z144 := kV139.size
  refine ps_k (o_RecordNone 3730 4) (.tuple #[.agg (Att.c zAtt), .bool false]) ?_
  refine ps_k (o_RecordNone 3730 5) (.agg (Att.c zAtt)) ?_
  refine ps_k (o_RecordNone 3730 6) (.bool false) ?_
  obtain ⟨V145, eV145, a1, ea1, h146, kV145⟩ := alloc_step V139 (#[.int .i64 0, .int .i64 0, .int .i64 0, .int .u8 0, .int .u8 0, .int .u8 0, .int .u8 0, .int .u8 0, .int .u8 0, .int .u8 0, .int .u8 0, .int .u8 0, .int .u8 0, .int .u8 0, .int .u8 0, .int .u8 0, .int .u8 0, .int .u8 0, .int .u8 0, .int .u8 0, .int .u8 0, .int .u8 0, .int .u8 0, .int .u8 0, .int .u8 0, .int .u8 0, .int .u8 0, .int .u8 0, .int .u8 0, .int .u8 0, .int .u8 0, .int .u8 0, .int .u8 0, .int .u8 0, .int .u8 0, .int .u64 0]) 28
  have n147 : p < a1 := ea1 ▸ lt_of_block h140
  have n148 : z < a1 := ea1 ▸ lt_of_block h141
  have n149 : g < a1 := ea1 ▸ lt_of_block h142
  have n150 : w.heap.size ≤ a1 := ea1 ▸ K143.size
  refine ps_r (o_RecordNone 3730 7) (pT a1 0) (w' := V145) (by rw [← eV145, ← ea1]; exact exec_alloc0 28 (by kernel_rfl) (.agg (#[.int .i64 0, .int .i64 0, .int .i64 0, .int .u8 0, .int .u8 0, .int .u8 0, .int .u8 0, .int .u8 0, .int .u8 0, .int .u8 0, .int .u8 0, .int .u8 0, .int .u8 0, .int .u8 0, .int .u8 0, .int .u8 0, .int .u8 0, .int .u8 0, .int .u8 0, .int .u8 0, .int .u8 0, .int .u8 0, .int .u8 0, .int .u8 0, .int .u8 0, .int .u8 0, .int .u8 0, .int .u8 0, .int .u8 0, .int .u8 0, .int .u8 0, .int .u8 0, .int .u8 0, .int .u8 0, .int .u8 0, .int .u64 0])) (by kernel_rfl)) ?_
  clear eV145
  have h151 := kV145.bk h140
  have h152 := kV145.bk h141
  have h153 := kV145.bk h142
  have K154 := K143.nn kV145
  have z155 := kV145.size
  obtain ⟨V156, eV156, kV156⟩ := rowset_step V145 a1 ((Att.c zAtt))
  have h157 : V156.heap[a1]? = some (.cells (Att.c zAtt) 28 (0, 0)) := eV156 ▸ setRow_heap _ _ _ _ _ _ h146
  refine ps_s (o_RecordNone 3730 8) (w' := V156) (by rw [← eV156]; exact exec_store_row 28 (.tmp 6) (.tmp 28) (by kernel_rfl) a1 ((Att.c zAtt)) (by kernel_rfl) (by kernel_rfl) 28 (#[.int .i64 0, .int .i64 0, .int .i64 0, .int .u8 0, .int .u8 0, .int .u8 0, .int .u8 0, .int .u8 0, .int .u8 0, .int .u8 0, .int .u8 0, .int .u8 0, .int .u8 0, .int .u8 0, .int .u8 0, .int .u8 0, .int .u8 0, .int .u8 0, .int .u8 0, .int .u8 0, .int .u8 0, .int .u8 0, .int .u8 0, .int .u8 0, .int .u8 0, .int .u8 0, .int .u8 0, .int .u8 0, .int .u8 0, .int .u8 0, .int .u8 0, .int .u8 0, .int .u8 0, .int .u8 0, .int .u8 0, .int .u64 0]) h146 (by kernel_rfl) (by kernel_rfl) (Att.c_one _)) ?_
  clear eV156
  have h158 := kV156.bo h151 (by omega)
  have h159 := kV156.bo h152 (by omega)
  have h160 := kV156.bo h153 (by omega)
  have K161 := K154.no kV156 (by omega)
  have z162 := kV156.size
  refine ps_k (o_RecordNone 3730 9) (.bool false) ?_
  refine ps_end ?_
  refine then_n ?_
  refine sy_sq (part_RecordNone 7462) (part_RecordNone 7463) ?_
  refine sy_reg ?_
  refine rg_plain 7 (opsAt (part_RecordNone 7462)) [0, 1, 2, 3, 4, 5, 6, 7, 8, 9] (by kernel_rfl) (by kernel_rfl) ?_
  refine ps_k (o_RecordNone 7462 0) (pT z 0) ?_
  refine ps_k (o_RecordNone 7462 1) (pT p 4) ?_
  refine ps_p (o_RecordNone 7462 2) (.int .i64 x.of_) (exec_ld 3 (.tmp 32) p 4 Try.underlying3 (rc (h158) (RAct.c_4 _))) ?_
  refine ps_c (o_RecordNone 7462 3) 11 #[pT z 0, .int .i64 x.of_] Try.func11 ((qBlock_none (pT z 0) x.of_ _ (.inr ⟨_, _, rfl, h159⟩) ).mono ?_)
  rintro e V163 ⟨rfl, kV163⟩
  refine ⟨_, rfl, ?_⟩
  have h164 := kV163.bk h158
  have h165 := kV163.bk h159
  have h166 := kV163.bk h160
  have h167 := kV163.bk h157
  have K168 := K161.nn kV163
  have z169 := kV163.size
  refine ps_k (o_RecordNone 7462 4) (.tuple #[.agg (Pro.c zPro), .bool false]) ?_
  refine ps_k (o_RecordNone 7462 5) (.agg (Pro.c zPro)) ?_
  refine ps_k (o_RecordNone 7462 6) (.bool false) ?_
  obtain ⟨V170, eV170, a2, ea2, h171, kV170⟩ := alloc_step V163 (#[.int .i64 0, .int .i64 0, .int .u8 0, .int .u8 0, .int .u8 0, .int .u8 0, .int .u8 0, .int .u8 0, .int .u8 0, .int .u8 0, .int .u8 0, .int .u8 0, .int .u8 0, .int .u8 0, .int .u8 0, .int .u8 0, .int .u8 0, .int .u8 0, .int .u8 0, .int .u8 0, .int .u8 0, .int .u8 0, .int .u8 0, .int .u8 0, .int .u8 0, .int .u8 0, .int .u8 0, .int .u8 0, .int .u8 0, .int .u8 0, .int .u8 0, .int .u8 0, .int .u8 0, .int .u8 0, .int .u64 0]) 35
  have n172 : p < a2 := ea2 ▸ lt_of_block h164
  have n173 : z < a2 := ea2 ▸ lt_of_block h165
  have n174 : g < a2 := ea2 ▸ lt_of_block h166
  have n175 : a1 < a2 := ea2 ▸ lt_of_block h167
  have n176 : w.heap.size ≤ a2 := ea2 ▸ K168.size
  refine ps_r (o_RecordNone 7462 7) (pT a2 0) (w' := V170) (by rw [← eV170, ← ea2]; exact exec_alloc0 35 (by kernel_rfl) (.agg (#[.int .i64 0, .int .i64 0, .int .u8 0, .int .u8 0, .int .u8 0, .int .u8 0, .int .u8 0, .int .u8 0, .int .u8 0, .int .u8 0, .int .u8 0, .int .u8 0, .int .u8 0, .int .u8 0, .int .u8 0, .int .u8 0, .int .u8 0, .int .u8 0, .int .u8 0, .int .u8 0, .int .u8 0, .int .u8 0, .int .u8 0, .int .u8 0, .int .u8 0, .int .u8 0, .int .u8 0, .int .u8 0, .int .u8 0, .int .u8 0, .int .u8 0, .int .u8 0, .int .u8 0, .int .u8 0, .int .u64 0])) (by kernel_rfl)) ?_
  clear eV170
  have h177 := kV170.bk h164
  have h178 := kV170.bk h165
  have h179 := kV170.bk h166
  have h180 := kV170.bk h167
  have K181 := K168.nn kV170
  have z182 := kV170.size
  obtain ⟨V183, eV183, kV183⟩ := rowset_step V170 a2 ((Pro.c zPro))
  have h184 : V183.heap[a2]? = some (.cells (Pro.c zPro) 35 (0, 0)) := eV183 ▸ setRow_heap _ _ _ _ _ _ h171
  refine ps_s (o_RecordNone 7462 8) (w' := V183) (by rw [← eV183]; exact exec_store_row 35 (.tmp 8) (.tmp 35) (by kernel_rfl) a2 ((Pro.c zPro)) (by kernel_rfl) (by kernel_rfl) 35 (#[.int .i64 0, .int .i64 0, .int .u8 0, .int .u8 0, .int .u8 0, .int .u8 0, .int .u8 0, .int .u8 0, .int .u8 0, .int .u8 0, .int .u8 0, .int .u8 0, .int .u8 0, .int .u8 0, .int .u8 0, .int .u8 0, .int .u8 0, .int .u8 0, .int .u8 0, .int .u8 0, .int .u8 0, .int .u8 0, .int .u8 0, .int .u8 0, .int .u8 0, .int .u8 0, .int .u8 0, .int .u8 0, .int .u8 0, .int .u8 0, .int .u8 0, .int .u8 0, .int .u8 0, .int .u8 0, .int .u64 0]) h171 (by kernel_rfl) (by kernel_rfl) (Pro.c_one _)) ?_
  clear eV183
  have h185 := kV183.bo h177 (by omega)
  have h186 := kV183.bo h178 (by omega)
  have h187 := kV183.bo h179 (by omega)
  have h188 := kV183.bo h180 (by omega)
  have K189 := K181.no kV183 (by omega)
  have z190 := kV183.size
  refine ps_k (o_RecordNone 7462 9) (.bool false) ?_
  refine ps_end ?_
  refine sy_a ⟨#[.agg (RAct.c x), pT p 0, .bool false, .slice (some ⟨g, 0, none⟩) 2 2, .int .i64 1, pT z 0, pT a1 0, .bool false, pT a2 0, .bool false, .agg #[.int .i64 0, .pointer none, .pointer none], pT z 0, .slice (some ⟨g, 0, none⟩) 2 2, .int .i64 1, .slice (some ⟨g, 0, none⟩) 2 2, .int .i64 2, .bool true, .int .i64 0, .int .i64 1, .slice (some ⟨g, 0, none⟩) 2 2, .int .i64 1, pT g 1, pT z 0, .tuple #[.agg (Att.c zAtt), .bool false], pT z 0, pT p 3, .int .i64 x.at_, .tuple #[.agg (Att.c zAtt), .bool false], .agg (Att.c zAtt), .bool false, .tuple #[.agg (Pro.c zPro), .bool false], pT z 0, pT p 4, .int .i64 x.of_, .tuple #[.agg (Pro.c zPro), .bool false], .agg (Pro.c zPro), .bool false, .pointer none, pT p 5, .agg (Att.c x.a), .int .i64 1, .bool false, .bool false, .pointer none, pT p 41, .agg (Pro.c x.p), .int .i64 1, .bool false, .bool false, .bool false, .pointer none, pT p 1, .int .i64 x.l, pT p 2, .int .i64 x.f, .int .i64 1, .bool false, .bool false, .bool false, .agg (Att.c zAtt), .agg (Att.c zAtt), .bool false, .bool false, .bool false, .bool false, .bool false, .bool false, .agg (Pro.c zPro), .agg (Pro.c zPro), .bool false, .bool false, .bool false, .bool false, .bool false, .bool false, .pointer none, .slice none 0 0, .int .i64 0, .pointer none, .slice none 0 0, .int .i64 0, .int .i64 0, .bool false, .bool false, .bool false, .pointer none, .int .i64 0, .bool false, .bool false, .bool false, .pointer none, .int .i64 0, .bool false, .bool false, .bool false, .pointer none, pT r2 0, pT p 5, .agg (Att.c x.a), .int .i64 1, .bool false, .bool false, undef], []⟩ ?_
  refine then_n ?_
  refine sy_sq (part_RecordNone 14926) (part_RecordNone 14927) ?_
  refine sy_np ?_
  refine sy_reg ?_
  refine an_begin 8 65 (opsAt (part_RecordNone 14926)) (fun W => (W.heap[p]? = some (.cells (RAct.c x) 51 (0, 0))) ∧ (W.heap[a1]? = some (.cells (Att.c zAtt) 28 (0, 0))) ∧ (W.heap[a2]? = some (.cells (Pro.c zPro) 35 (0, 0)))) #[false, false, false, false, false, false, false, false, false, false, false, false, false, false, false, false, false, false, false, false, false, false, false, false, false, false, false, false, false, false, false, false, false, false, false, false, false, false, false, false, false, false, false, false, false, false, false, false, false, false, false, false, false, false, false, false, false, false, false, false, false, false, false, false, false] (by kernel_rfl) (by kernel_rfl) (by kernel_rfl) (by kernel_rfl) ?_
  obtain ⟨V191, eV191, kV191⟩ := drew_step V183
  rw [eV191]
  clear eV191
  have h192 := kV191.bk h185
  have h193 := kV191.bk h186
  have h194 := kV191.bk h187
  have h195 := kV191.bk h188
  have h196 := kV191.bk h184
  have K197 := K189.nn kV191
  have z198 := kV191.size
  refine an_k 0 (o_RecordNone 14926 0) (pT z 0) ⟨h192, h195, h196⟩ ?_
  refine an_k 1 (o_RecordNone 14926 1) (pT p 5) ⟨h192, h195, h196⟩ ?_
  refine an_v 2 (o_RecordNone 14926 2) (.agg (Att.c x.a)) (fun W hS => exec_load_seg 28 (.tmp 38) (by kernel_rfl) p 5 (by kernel_rfl) (Att.cl x.a) _ _ _ hS.1 (RAct.c_a x) Try.underlying28 rfl (by rw [Att.cl_len hx.a]; kernel_rfl)) ⟨h192, h195, h196⟩ ?_
  refine an_o 3 ?_
  refine on_c (o_RecordNone 14926 3) 9 #[pT z 0, .agg (Att.c x.a)] Try.func9 ((qPut_none (pT z 0) x.a _ (.inr ⟨_, _, rfl, h193⟩) hx.a).mono ?_)
  rintro e V199 ⟨rfl, kV199⟩
  refine ⟨_, rfl, ?_⟩
  have h200 := kV199.bk h192
  have h201 := kV199.bk h193
  have h202 := kV199.bk h194
  have h203 := kV199.bk h195
  have h204 := kV199.bk h196
  have K205 := K197.nn kV199
  have z206 := kV199.size
  refine ⟨⟨h200, h203, h204⟩, ?_⟩
  refine an_k 4 (o_RecordNone 14926 4) (.bool false) ⟨h200, h203, h204⟩ ?_
  refine an_k 5 (o_RecordNone 14926 5) (.bool false) ⟨h200, h203, h204⟩ ?_
  refine an_k 6 (o_RecordNone 14926 6) (pT z 0) ⟨h200, h203, h204⟩ ?_
  refine an_k 7 (o_RecordNone 14926 7) (pT p 41) ⟨h200, h203, h204⟩ ?_
  refine an_v 8 (o_RecordNone 14926 8) (.agg (Pro.c x.p)) (fun W hS => exec_load_seg 35 (.tmp 44) (by kernel_rfl) p 41 (by kernel_rfl) (Pro.cl x.p) _ _ _ hS.1 (RAct.c_p x hx) Try.underlying35 rfl (by rw [Pro.cl_len hx.p]; kernel_rfl)) ⟨h200, h203, h204⟩ ?_
  refine an_o 9 ?_
  refine on_c (o_RecordNone 14926 9) 12 #[pT z 0, .agg (Pro.c x.p)] Try.func12 ((qPutBlock_none (pT z 0) x.p _ (.inr ⟨_, _, rfl, h201⟩) hx.p).mono ?_)
  rintro e V207 ⟨rfl, kV207⟩
  refine ⟨_, rfl, ?_⟩
  have h208 := kV207.bk h200
  have h209 := kV207.bk h201
  have h210 := kV207.bk h202
  have h211 := kV207.bk h203
  have h212 := kV207.bk h204
  have K213 := K205.nn kV207
  have z214 := kV207.size
  refine ⟨⟨h208, h211, h212⟩, ?_⟩
  refine an_k 10 (o_RecordNone 14926 10) (.bool false) ⟨h208, h211, h212⟩ ?_
  refine an_k 11 (o_RecordNone 14926 11) (.bool false) ⟨h208, h211, h212⟩ ?_
  refine an_k 12 (o_RecordNone 14926 12) (.bool false) ⟨h208, h211, h212⟩ ?_
  refine an_k 13 (o_RecordNone 14926 13) (pT z 0) ⟨h208, h211, h212⟩ ?_
  refine an_k 14 (o_RecordNone 14926 14) (pT p 1) ⟨h208, h211, h212⟩ ?_
  refine an_v 15 (o_RecordNone 14926 15) (.int .i64 x.l) (fun W hS => exec_ld 3 (.tmp 51) p 1 Try.underlying3 (rc (hS.1) (RAct.c_1 _))) ⟨h208, h211, h212⟩ ?_
  refine an_k 16 (o_RecordNone 14926 16) (pT p 2) ⟨h208, h211, h212⟩ ?_
  refine an_v 17 (o_RecordNone 14926 17) (.int .i64 x.f) (fun W hS => exec_ld 3 (.tmp 53) p 2 Try.underlying3 (rc (hS.1) (RAct.c_2 _))) ⟨h208, h211, h212⟩ ?_
  refine an_o 18 ?_
  refine on_c (o_RecordNone 14926 18) 14 #[pT z 0, .int .i64 x.l, .int .i64 x.f] Try.func14 ((qMove_none (pT z 0) x.l x.f _ (.inr ⟨_, _, rfl, h209⟩) ).mono ?_)
  rintro e V215 ⟨rfl, kV215⟩
  refine ⟨_, rfl, ?_⟩
  have h216 := kV215.bk h208
  have h217 := kV215.bk h209
  have h218 := kV215.bk h210
  have h219 := kV215.bk h211
  have h220 := kV215.bk h212
  have K221 := K213.nn kV215
  have z222 := kV215.size
  refine ⟨⟨h216, h219, h220⟩, ?_⟩
  refine an_k 19 (o_RecordNone 14926 19) (.bool false) ⟨h216, h219, h220⟩ ?_
  refine an_k 20 (o_RecordNone 14926 20) (.bool false) ⟨h216, h219, h220⟩ ?_
  refine an_k 21 (o_RecordNone 14926 21) (.bool false) ⟨h216, h219, h220⟩ ?_
  refine an_v 22 (o_RecordNone 14926 22) (.agg (Att.c zAtt)) (fun W hS => exec_load_row 28 (.tmp 6) (by kernel_rfl) a1 (by kernel_rfl) _ _ (0, 0) _ (hS.2.1) Try.underlying28 rfl (by rw [Att.c_size _ zAtt_ok.r]; kernel_rfl)) ⟨h216, h219, h220⟩ ?_
  refine an_k 23 (o_RecordNone 14926 23) (.agg (Att.c zAtt)) ⟨h216, h219, h220⟩ ?_
  refine an_v 24 (o_RecordNone 14926 24) (.bool false) (fun W hS => exec_cast (congrArg Value.bool (by simp)) (exec_binop .neq 28 28 (.tmp 59) (.tmp 60) (by kernel_rfl) (.agg (Att.c zAtt)) (.agg (Att.c zAtt)) _ (by kernel_rfl) (by kernel_rfl) (run_eqGuard_agg _ _ _ _ _ _ _ att_guard) (att_ne _ _ zAtt_ok.r zAtt_ok.r _))) ⟨h216, h219, h220⟩ ?_
  refine an_k 25 (o_RecordNone 14926 25) (.bool false) ⟨h216, h219, h220⟩ ?_
  refine an_k 26 (o_RecordNone 14926 26) (.bool false) ⟨h216, h219, h220⟩ ?_
  refine an_k 27 (o_RecordNone 14926 27) (.bool false) ⟨h216, h219, h220⟩ ?_
  refine an_k 28 (o_RecordNone 14926 28) (.bool false) ⟨h216, h219, h220⟩ ?_
  refine an_k 29 (o_RecordNone 14926 29) (.bool false) ⟨h216, h219, h220⟩ ?_
  refine an_v 30 (o_RecordNone 14926 30) (.agg (Pro.c zPro)) (fun W hS => exec_load_row 35 (.tmp 8) (by kernel_rfl) a2 (by kernel_rfl) _ _ (0, 0) _ (hS.2.2) Try.underlying35 rfl (by rw [Pro.c_size _ zPro_ok.r]; kernel_rfl)) ⟨h216, h219, h220⟩ ?_
  refine an_k 31 (o_RecordNone 14926 31) (.agg (Pro.c zPro)) ⟨h216, h219, h220⟩ ?_
  refine an_v 32 (o_RecordNone 14926 32) (.bool false) (fun W hS => exec_cast (congrArg Value.bool (by simp)) (exec_binop .neq 35 35 (.tmp 67) (.tmp 68) (by kernel_rfl) (.agg (Pro.c zPro)) (.agg (Pro.c zPro)) _ (by kernel_rfl) (by kernel_rfl) (run_eqGuard_agg _ _ _ _ _ _ _ pro_guard) (pro_ne _ _ zPro_ok.r zPro_ok.r _))) ⟨h216, h219, h220⟩ ?_
  refine an_k 33 (o_RecordNone 14926 33) (.bool false) ⟨h216, h219, h220⟩ ?_
  refine an_k 34 (o_RecordNone 14926 34) (.bool false) ⟨h216, h219, h220⟩ ?_
  refine an_k 35 (o_RecordNone 14926 35) (.bool false) ⟨h216, h219, h220⟩ ?_
  refine an_k 36 (o_RecordNone 14926 36) (.bool false) ⟨h216, h219, h220⟩ ?_
  refine an_k 37 (o_RecordNone 14926 37) (.bool false) ⟨h216, h219, h220⟩ ?_
  refine an_k 38 (o_RecordNone 14926 38) (pT z 0) ⟨h216, h219, h220⟩ ?_
  refine an_k 41 (o_RecordNone 14926 41) (pT z 0) ⟨h216, h219, h220⟩ ?_
  refine an_o 39 ?_
  refine on_c (o_RecordNone 14926 39) 24 #[pT z 0] Try.func24 ((qAll_none (pT z 0)  _ (.inr ⟨_, _, rfl, h217⟩) ).mono ?_)
  rintro e V223 ⟨rfl, kV223⟩
  refine ⟨_, rfl, ?_⟩
  have h224 := kV223.bk h216
  have h225 := kV223.bk h217
  have h226 := kV223.bk h218
  have h227 := kV223.bk h219
  have h228 := kV223.bk h220
  have K229 := K221.nn kV223
  have z230 := kV223.size
  refine ⟨⟨h224, h227, h228⟩, ?_⟩
  refine an_v 40 (o_RecordNone 14926 40) (.int .i64 0) (fun W hS => exec_len (.tmp 76) 59 _ (by kernel_rfl) Try.underlying59 none 0 0 (by kernel_rfl)) ⟨h224, h227, h228⟩ ?_
  refine an_o 42 ?_
  refine on_c (o_RecordNone 14926 42) 25 #[pT z 0] Try.func25 ((qBlocks_none (pT z 0)  _ (.inr ⟨_, _, rfl, h225⟩) ).mono ?_)
  rintro e V231 ⟨rfl, kV231⟩
  refine ⟨_, rfl, ?_⟩
  have h232 := kV231.bk h224
  have h233 := kV231.bk h225
  have h234 := kV231.bk h226
  have h235 := kV231.bk h227
  have h236 := kV231.bk h228
  have K237 := K229.nn kV231
  have z238 := kV231.size
  refine ⟨⟨h232, h235, h236⟩, ?_⟩
  refine an_v 43 (o_RecordNone 14926 43) (.int .i64 0) (fun W hS => exec_len (.tmp 79) 61 _ (by kernel_rfl) Try.underlying61 none 0 0 (by kernel_rfl)) ⟨h232, h235, h236⟩ ?_
  refine an_k 44 (o_RecordNone 14926 44) (.int .i64 0) ⟨h232, h235, h236⟩ ?_
  refine an_k 45 (o_RecordNone 14926 45) (.bool false) ⟨h232, h235, h236⟩ ?_
  refine an_k 46 (o_RecordNone 14926 46) (.bool false) ⟨h232, h235, h236⟩ ?_
  refine an_k 47 (o_RecordNone 14926 47) (.bool false) ⟨h232, h235, h236⟩ ?_
  refine an_k 48 (o_RecordNone 14926 48) (pT z 0) ⟨h232, h235, h236⟩ ?_
  refine an_o 49 ?_
  refine on_c (o_RecordNone 14926 49) 15 #[pT z 0] Try.func15 ((qLow_none (pT z 0) _ (.inr ⟨_, _, rfl, h233⟩)).mono ?_)
  rintro e w1 ⟨rfl, rfl⟩
  refine ⟨_, rfl, ?_⟩
  refine ⟨⟨h232, h235, h236⟩, ?_⟩
  refine an_k 50 (o_RecordNone 14926 50) (.bool false) ⟨h232, h235, h236⟩ ?_
  refine an_k 51 (o_RecordNone 14926 51) (.bool false) ⟨h232, h235, h236⟩ ?_
  refine an_k 52 (o_RecordNone 14926 52) (.bool false) ⟨h232, h235, h236⟩ ?_
  refine an_k 53 (o_RecordNone 14926 53) (pT z 0) ⟨h232, h235, h236⟩ ?_
  refine an_o 54 ?_
  refine on_c (o_RecordNone 14926 54) 16 #[pT z 0] Try.func16 ((qFloor_none (pT z 0) _ (.inr ⟨_, _, rfl, h233⟩)).mono ?_)
  rintro e w1 ⟨rfl, rfl⟩
  refine ⟨_, rfl, ?_⟩
  refine ⟨⟨h232, h235, h236⟩, ?_⟩
  refine an_k 55 (o_RecordNone 14926 55) (.bool false) ⟨h232, h235, h236⟩ ?_
  refine an_k 56 (o_RecordNone 14926 56) (.bool false) ⟨h232, h235, h236⟩ ?_
  refine an_k 57 (o_RecordNone 14926 57) (.bool false) ⟨h232, h235, h236⟩ ?_
  refine an_k 58 (o_RecordNone 14926 58) (pT z 0) ⟨h232, h235, h236⟩ ?_
  refine an_k 60 (o_RecordNone 14926 60) (pT p 5) ⟨h232, h235, h236⟩ ?_
  refine an_v 61 (o_RecordNone 14926 61) (.agg (Att.c x.a)) (fun W hS => exec_load_seg 28 (.tmp 97) (by kernel_rfl) p 5 (by kernel_rfl) (Att.cl x.a) _ _ _ hS.1 (RAct.c_a x) Try.underlying28 rfl (by rw [Att.cl_len hx.a]; kernel_rfl)) ⟨h232, h235, h236⟩ ?_
  refine an_o 59 ?_
  refine on_c (o_RecordNone 14926 59) 21 #[pT z 0] Try.func21 ((qCopy_none (pT z 0) _ (.inr ⟨_, _, rfl, h233⟩)).mono ?_)
  rintro e V239 ⟨r2, rfl, hr2, kV239⟩
  refine ⟨_, rfl, ?_⟩
  have h240 := kV239.bk h232
  have h241 := kV239.bk h233
  have h242 := kV239.bk h234
  have h243 := kV239.bk h235
  have h244 := kV239.bk h236
  have K245 := K237.nn kV239
  have z246 := kV239.size
  refine ⟨⟨h240, h243, h244⟩, ?_⟩
  refine an_o 62 ?_
  refine on_c (o_RecordNone 14926 62) 9 #[pT r2 0, .agg (Att.c x.a)] Try.func9 ((qPut_none (pT r2 0) x.a _ (.inr ⟨_, _, rfl, hr2⟩) hx.a).mono ?_)
  rintro e V247 ⟨rfl, kV247⟩
  refine ⟨_, rfl, ?_⟩
  have h248 := kV247.bk h240
  have h249 := kV247.bk h241
  have h250 := kV247.bk h242
  have h251 := kV247.bk h243
  have h252 := kV247.bk h244
  have h253 := kV247.bk hr2
  have K254 := K245.nn kV247
  have z255 := kV247.size
  refine ⟨⟨h248, h251, h252⟩, ?_⟩
  refine an_k 63 (o_RecordNone 14926 63) (.bool false) ⟨h248, h251, h252⟩ ?_
  refine an_k 64 (o_RecordNone 14926 64) (.bool false) ⟨h248, h251, h252⟩ ?_
  refine an_end (by kernel_rfl) ?_
  refine sy_a ⟨#[.agg (RAct.c x), pT p 0, .bool false, .slice (some ⟨g, 0, none⟩) 2 2, .int .i64 1, pT z 0, pT a1 0, .bool false, pT a2 0, .bool false, .agg #[.int .i64 0, .pointer none, .pointer none], pT z 0, .slice (some ⟨g, 0, none⟩) 2 2, .int .i64 1, .slice (some ⟨g, 0, none⟩) 2 2, .int .i64 2, .bool true, .int .i64 0, .int .i64 1, .slice (some ⟨g, 0, none⟩) 2 2, .int .i64 1, pT g 1, pT z 0, .tuple #[.agg (Att.c zAtt), .bool false], pT z 0, pT p 3, .int .i64 x.at_, .tuple #[.agg (Att.c zAtt), .bool false], .agg (Att.c zAtt), .bool false, .tuple #[.agg (Pro.c zPro), .bool false], pT z 0, pT p 4, .int .i64 x.of_, .tuple #[.agg (Pro.c zPro), .bool false], .agg (Pro.c zPro), .bool false, pT z 0, pT p 5, .agg (Att.c x.a), .int .i64 1, .bool false, .bool false, pT z 0, pT p 41, .agg (Pro.c x.p), .int .i64 1, .bool false, .bool false, .bool false, pT z 0, pT p 1, .int .i64 x.l, pT p 2, .int .i64 x.f, .int .i64 1, .bool false, .bool false, .bool false, .agg (Att.c zAtt), .agg (Att.c zAtt), .bool false, .bool false, .bool false, .bool false, .bool false, .bool false, .agg (Pro.c zPro), .agg (Pro.c zPro), .bool false, .bool false, .bool false, .bool false, .bool false, .bool false, pT z 0, .slice none 0 0, .int .i64 0, pT z 0, .slice none 0 0, .int .i64 0, .int .i64 0, .bool false, .bool false, .bool false, pT z 0, .int .i64 0, .bool false, .bool false, .bool false, pT z 0, .int .i64 0, .bool false, .bool false, .bool false, pT z 0, pT r2 0, pT p 5, .agg (Att.c x.a), .int .i64 1, .bool false, .bool false, undef], []⟩ ?_
  refine then_n ?_
  refine sy_n (.tmp 101) (part_RecordNone 29854) (part_RecordNone 29855) ?_
  refine sy_sk ?_
  refine blk_n ?_
  refine then_n ?_
  refine sy_reg ?_
  refine rg_plain 4 (opsAt (part_RecordNone 467)) [0, 1, 2] (by kernel_rfl) (by kernel_rfl) ?_
  refine ps_k (o_RecordNone 467 0) (.int .i64 1) ?_
  refine ps_k (o_RecordNone 467 1) (.int .i64 2) ?_
  refine ps_k (o_RecordNone 467 2) (.int .i64 2) ?_
  refine ps_end ?_
  refine then_n ?_
  refine rd_step ?_
  refine sy_sq (part_RecordNone 232) (part_RecordNone 233) ?_
  refine sy_sq (part_RecordNone 464) (part_RecordNone 465) ?_
  refine sy_reg ?_
  refine rg_plain 3 (opsAt (part_RecordNone 464)) [0, 1, 2, 3] (by kernel_rfl) (by kernel_rfl) ?_
  refine ps_k (o_RecordNone 464 0) (.int .i64 2) ?_
  refine ps_k (o_RecordNone 464 1) (.slice (some ⟨g, 0, none⟩) 2 2) ?_
  refine ps_p (o_RecordNone 464 2) (.int .i64 2) (exec_len (.tmp 14) 58 _ (by kernel_rfl) Try.underlying58 (some ⟨g, 0, none⟩) 2 2 (by kernel_rfl)) ?_
  refine ps_k (o_RecordNone 464 3) (.bool false) ?_
  refine ps_end ?_
  refine then_n ?_
  refine sy_n (.tmp 16) (part_RecordNone 930) (part_RecordNone 931) ?_
  refine sy_exit 0 (by kernel_rfl) ?_
  refine then_e ?_
  refine then_e ?_
  refine blk_e ?_
  refine then_n ?_
  refine sy_sq (part_RecordNone 30) (part_RecordNone 31) ?_
  refine sy_reg ?_
  refine rg_plain 10 (opsAt (part_RecordNone 30)) [0, 1] (by kernel_rfl) (by kernel_rfl) ?_
  refine ps_c (o_RecordNone 30 0) 19 #[] Try.func19 ((lrawake_ok _).mono ?_)
  rintro e V256 ⟨rfl, kV256⟩
  refine ⟨_, rfl, ?_⟩
  have h257 := kV256.bk h248
  have h258 := kV256.bk h249
  have h259 := kV256.bk h250
  have h260 := kV256.bk h251
  have h261 := kV256.bk h252
  have h262 := kV256.bk h253
  have K263 := K254.nn kV256
  have z264 := kV256.size
  refine ps_k (o_RecordNone 30 1) (.bool true) ?_
  refine ps_end ?_
  refine then_n ?_
  refine sy_ret (by kernel_rfl) ?_
  refine sy_out (.bool true) rfl (by kernel_rfl) ?_
  exact ⟨rfl, K263⟩
end Go.Proofs.Ytgipooedgbbliaa
