/-
  Keccak: the document's rounds, walked (printed by kec12.py). Conditions: none.
-/
import Derived.Test.YtolbdhgclcemlaaKecQ
namespace Go.Proofs.Ytolbdhgclcemlaa
open Go Go.RowKit Go.Own Go.Shelf

noncomputable def part_hround (n : Nat) : Code := partOf Try.f44 n
noncomputable abbrev o_hround (n k : Nat) : Oper := (opsAt (part_hround n)).getD k default
set_option maxRecDepth 100000 in
set_option maxHeartbeats 4000000 in
theorem hround_ok (s : List Nat) (k : Nat) (w : World) (hs : s.length = 25) (ws : Kec.Ws s) (hk : k < Kec.W) :
    Calls Try.prog 44 #[.agg (Wz s), .int .u64 ((k : Nat) : Int)] w (fun e w' => e = .returned (.agg (Wz (Kec.round s k))) ∧ Keeps Nob w w') := by
  have K0 : Keeps Nob w w := Keeps.refl _ _
  refine sy_enter (part_hround 1) ⟨#[.agg (Wz s), uN k, undef, undef, undef, undef, undef, undef, undef, undef, undef, undef, undef, undef, undef, undef, undef, undef, undef, undef, undef, undef, undef, undef, undef, undef, undef, undef, undef, undef, undef, undef, undef, undef, undef, undef, undef, undef, undef, undef, undef, undef, undef, undef, undef, undef, undef, undef, undef, undef, undef, undef, undef, undef, undef, undef, undef, undef, undef, undef, undef, undef, undef, undef, undef, undef, undef, undef, undef, undef, undef, undef, undef, undef, undef, undef, undef, undef, undef, undef, undef, undef, undef, undef, undef, undef, undef, undef, undef, undef, undef, undef, undef, undef, undef, undef, undef, undef, undef, undef, undef, undef, undef, undef, undef, undef, undef, undef, undef, undef, undef, undef, undef, undef], []⟩ Try.func44 (by kernel_rfl) (by kernel_rfl) ?_
  refine sy_sq (part_hround 2) (part_hround 3) ?_
  refine sy_reg ?_
  refine rg_plain 0 (opsAt (part_hround 2)) [0, 1] (by kernel_rfl) (by kernel_rfl) ?_
  obtain ⟨V1, eV1⟩ : ∃ V, w.alloc (.cells ((Wz s)) 46) = V := ⟨_, rfl⟩
  obtain ⟨ga, ega⟩ : ∃ g, w.heap.size = g := ⟨_, rfl⟩
  have n3 : w.heap.size ≤ ga := ega ▸ K0.size
  have h2 : V1.heap[ga]? = some (.cells ((Wz s)) 46 (0, 0)) := by rw [← eV1, ← ega]; exact heap_alloc_new _ _
  have kV1 : Keeps Nob w V1 := eV1 ▸ (Keeps.refl _ _).alloc _
  refine ps_run (o_hround 2 0) (pT ga 0) (w' := V1) (by kernel_rfl) (by kernel_rfl) (by rw [← eV1, ← ega]; exact exec_box 46 (.tmp 0) (by kernel_rfl) (.agg (Wz s)) (by kernel_rfl)) ?_
  clear eV1
  have K4 : Keeps Nob w V1 := K0.then kV1 (fun _ _ x => x.elim)
  obtain ⟨V5, eV5⟩ : ∃ V, V1.alloc (.cells (zr_u64_25) 46) = V := ⟨_, rfl⟩
  obtain ⟨gr, egr⟩ : ∃ g, V1.heap.size = g := ⟨_, rfl⟩
  have n7 : ga < gr := egr ▸ lt_of_block h2
  have n8 : w.heap.size ≤ gr := egr ▸ K4.size
  have h6 : V5.heap[gr]? = some (.cells (zr_u64_25) 46 (0, 0)) := by rw [← eV5, ← egr]; exact heap_alloc_new _ _
  have kV5 : Keeps Nob V1 V5 := eV5 ▸ (Keeps.refl _ _).alloc _
  refine ps_run (o_hround 2 1) (pT gr 0) (w' := V5) (by kernel_rfl) (by kernel_rfl) (by rw [← eV5, ← egr]; exact exec_alloc0 46 (by kernel_rfl) (.agg (zr_u64_25)) (by kernel_rfl)) ?_
  clear eV5
  have h9 : V5.heap[ga]? = some (.cells (Wz s) 46 (0, 0)) := (kV5.block ga (lt_of_block h2) (fun x => x)).trans h2
  have K10 : Keeps Nob w V5 := K4.then kV5 (fun _ _ x => x.elim)
  refine ps_end ?_
  refine sy_a ⟨#[.agg (Wz s), uN k, pT ga 0, undef, pT gr 0, undef, undef, undef, undef, undef, undef, undef, undef, undef, undef, undef, undef, undef, undef, undef, undef, undef, undef, undef, undef, undef, undef, undef, undef, undef, undef, undef, undef, undef, undef, undef, undef, undef, undef, undef, undef, undef, undef, undef, undef, undef, undef, undef, undef, undef, undef, undef, undef, undef, undef, undef, undef, undef, undef, undef, undef, undef, undef, undef, undef, undef, undef, undef, undef, undef, undef, undef, undef, undef, undef, undef, undef, undef, undef, undef, undef, undef, undef, undef, undef, undef, undef, undef, undef, undef, undef, undef, undef, undef, undef, undef, undef, undef, undef, undef, undef, undef, undef, undef, undef, undef, undef, undef, undef, undef, undef, undef, undef, undef], []⟩ ?_
  refine then_n ?_
  refine sy_sq (part_hround 6) (part_hround 7) ?_
  refine sy_reg ?_
  refine rg_plain 1 (opsAt (part_hround 6)) [0] (by kernel_rfl) (by kernel_rfl) ?_
  obtain ⟨V11, eV11⟩ : ∃ V, V5.alloc (.cells (zr_u64_5) 76) = V := ⟨_, rfl⟩
  obtain ⟨gc, egc⟩ : ∃ g, V5.heap.size = g := ⟨_, rfl⟩
  have n13 : ga < gc := egc ▸ lt_of_block h9
  have n14 : gr < gc := egc ▸ lt_of_block h6
  have n15 : w.heap.size ≤ gc := egc ▸ K10.size
  have h12 : V11.heap[gc]? = some (.cells (zr_u64_5) 76 (0, 0)) := by rw [← eV11, ← egc]; exact heap_alloc_new _ _
  have kV11 : Keeps Nob V5 V11 := eV11 ▸ (Keeps.refl _ _).alloc _
  refine ps_run (o_hround 6 0) (pT gc 0) (w' := V11) (by kernel_rfl) (by kernel_rfl) (by rw [← eV11, ← egc]; exact exec_alloc0 76 (by kernel_rfl) (.agg (zr_u64_5)) (by kernel_rfl)) ?_
  clear eV11
  have h16 : V11.heap[ga]? = some (.cells (Wz s) 46 (0, 0)) := (kV11.block ga (lt_of_block h9) (fun x => x)).trans h9
  have h17 : V11.heap[gr]? = some (.cells (zr_u64_25) 46 (0, 0)) := (kV11.block gr (lt_of_block h6) (fun x => x)).trans h6
  have K18 : Keeps Nob w V11 := K10.then kV11 (fun _ _ x => x.elim)
  refine ps_end ?_
  refine sy_a ⟨#[.agg (Wz s), uN k, pT ga 0, undef, pT gr 0, pT gc 0, undef, undef, undef, undef, undef, undef, undef, undef, undef, undef, undef, undef, undef, undef, undef, undef, undef, undef, undef, undef, undef, undef, undef, undef, undef, undef, undef, undef, undef, undef, undef, undef, undef, undef, undef, undef, undef, undef, undef, undef, undef, undef, undef, undef, undef, undef, undef, undef, undef, undef, undef, undef, undef, undef, undef, undef, undef, undef, undef, undef, undef, undef, undef, undef, undef, undef, undef, undef, undef, undef, undef, undef, undef, undef, undef, undef, undef, undef, undef, undef, undef, undef, undef, undef, undef, undef, undef, undef, undef, undef, undef, undef, undef, undef, undef, undef, undef, undef, undef, undef, undef, undef, undef, undef, undef, undef, undef, undef], []⟩ ?_
  refine then_n ?_
  refine sy_sq (part_hround 14) (part_hround 15) ?_
  refine sy_sq (part_hround 28) (part_hround 29) ?_
  refine sy_reg ?_
  refine rg_plain 2 (opsAt (part_hround 28)) [0] (by kernel_rfl) (by kernel_rfl) ?_
  refine ps_k (o_hround 28 0) (.int .i64 0) ?_
  refine ps_end ?_
  refine sy_a ⟨#[.agg (Wz s), uN k, pT ga 0, undef, pT gr 0, pT gc 0, .int .i64 0, undef, undef, undef, undef, undef, undef, undef, undef, undef, undef, undef, undef, undef, undef, undef, undef, undef, undef, undef, undef, undef, undef, undef, undef, undef, undef, undef, undef, undef, undef, undef, undef, undef, undef, undef, undef, undef, undef, undef, undef, undef, undef, undef, undef, undef, undef, undef, undef, undef, undef, undef, undef, undef, undef, undef, undef, undef, undef, undef, undef, undef, undef, undef, undef, undef, undef, undef, undef, undef, undef, undef, undef, undef, undef, undef, undef, undef, undef, undef, undef, undef, undef, undef, undef, undef, undef, undef, undef, undef, undef, undef, undef, undef, undef, undef, undef, undef, undef, undef, undef, undef, undef, undef, undef, undef, undef, undef], []⟩ ?_
  refine then_n ?_
  refine sy_bk 0 (part_hround 58) ?_
  refine sy_loop (part_hround 116) (fun a V => ∃ (x : Nat) (u7 u15 u16 u17 u18 u19 u20 u21 u22 u23 u24 u25 u26 u27 u28 u29 u30 u31 u32 u33 : Value), (a = ⟨#[.agg (Wz s), uN k, pT ga 0, undef, pT gr 0, pT gc 0, iN x, u7, undef, undef, undef, undef, undef, undef, undef, u15, u16, u17, u18, u19, u20, u21, u22, u23, u24, u25, u26, u27, u28, u29, u30, u31, u32, u33, undef, undef, undef, undef, undef, undef, undef, undef, undef, undef, undef, undef, undef, undef, undef, undef, undef, undef, undef, undef, undef, undef, undef, undef, undef, undef, undef, undef, undef, undef, undef, undef, undef, undef, undef, undef, undef, undef, undef, undef, undef, undef, undef, undef, undef, undef, undef, undef, undef, undef, undef, undef, undef, undef, undef, undef, undef, undef, undef, undef, undef, undef, undef, undef, undef, undef, undef, undef, undef, undef, undef, undef, undef, undef, undef, undef, undef, undef, undef, undef], []⟩) ∧ (x ≤ 5) ∧ (V.heap[ga]? = some (.cells (Wz s) 46 (0, 0))) ∧ (V.heap[gr]? = some (.cells (zr_u64_25) 46 (0, 0))) ∧ (V.heap[gc]? = some (.cells (Wz (ccn s (5 * x))) 76 (0, 0))) ∧ (Keeps Nob w V)) (fun a _ => 5 - (intOf (a.tmps.getD 6 undef)).toNat) (by kernel_rfl) ?_ ?_
  · exact ⟨0, undef, undef, undef, undef, undef, undef, undef, undef, undef, undef, undef, undef, undef, undef, undef, undef, undef, undef, undef, undef, by kernel_rfl, by omega, h16, h17, h12.trans (by kernel_rfl), K18⟩
  · rintro a V19 ⟨x, u7, u15, u16, u17, u18, u19, u20, u21, u22, u23, u24, u25, u26, u27, u28, u29, u30, u31, u32, u33, rfl, hx, h20, h21, h22, K23⟩
    by_cases lt_x : x < 5
    · show _
      refine sy_sq (part_hround 232) (part_hround 233) ?_
      refine sy_sq (part_hround 464) (part_hround 465) ?_
      refine sy_reg ?_
      refine rg_plain 3 (opsAt (part_hround 464)) [0, 1] (by kernel_rfl) (by kernel_rfl) ?_
      refine ps_k (o_hround 464 0) (iN x) ?_
      refine ps_p (o_hround 464 1) (.bool true) (exec_cast (congrArg Value.bool (show (decide ((((x : Nat) : Int)) < ((5) : Int))) = true from by simp only [decide_eq_true_eq]; omega)) (by kernel_rfl)) ?_
      refine ps_end ?_
      refine sy_a ⟨#[.agg (Wz s), uN k, pT ga 0, undef, pT gr 0, pT gc 0, iN x, u7, undef, undef, undef, undef, undef, undef, undef, iN x, .bool true, u17, u18, u19, u20, u21, u22, u23, u24, u25, u26, u27, u28, u29, u30, u31, u32, u33, undef, undef, undef, undef, undef, undef, undef, undef, undef, undef, undef, undef, undef, undef, undef, undef, undef, undef, undef, undef, undef, undef, undef, undef, undef, undef, undef, undef, undef, undef, undef, undef, undef, undef, undef, undef, undef, undef, undef, undef, undef, undef, undef, undef, undef, undef, undef, undef, undef, undef, undef, undef, undef, undef, undef, undef, undef, undef, undef, undef, undef, undef, undef, undef, undef, undef, undef, undef, undef, undef, undef, undef, undef, undef, undef, undef, undef, undef, undef, undef], []⟩ ?_
      refine then_n ?_
      refine sy_ys (.tmp 16) (part_hround 930) (part_hround 931) ?_
      refine sy_sk ?_
      refine then_n ?_
      refine sy_sq (part_hround 466) (part_hround 467) ?_
      refine sy_bk 1 (part_hround 932) ?_
      refine sy_sq (part_hround 1864) (part_hround 1865) ?_
      refine sy_reg ?_
      refine rg_plain 5 (opsAt (part_hround 1864)) [0] (by kernel_rfl) (by kernel_rfl) ?_
      refine ps_k (o_hround 1864 0) (.int .i64 0) ?_
      refine ps_end ?_
      refine sy_a ⟨#[.agg (Wz s), uN k, pT ga 0, undef, pT gr 0, pT gc 0, iN x, .int .i64 0, undef, undef, undef, undef, undef, undef, undef, iN x, .bool true, u17, u18, u19, u20, u21, u22, u23, u24, u25, u26, u27, u28, u29, u30, u31, u32, u33, undef, undef, undef, undef, undef, undef, undef, undef, undef, undef, undef, undef, undef, undef, undef, undef, undef, undef, undef, undef, undef, undef, undef, undef, undef, undef, undef, undef, undef, undef, undef, undef, undef, undef, undef, undef, undef, undef, undef, undef, undef, undef, undef, undef, undef, undef, undef, undef, undef, undef, undef, undef, undef, undef, undef, undef, undef, undef, undef, undef, undef, undef, undef, undef, undef, undef, undef, undef, undef, undef, undef, undef, undef, undef, undef, undef, undef, undef, undef, undef], []⟩ ?_
      refine then_n ?_
      refine sy_bk 2 (part_hround 3730) ?_
      refine sy_loop (part_hround 7460) (fun a V => ∃ (y : Nat) (u19 u20 u21 u22 u23 u24 u25 u26 u27 u28 u29 u30 u31 u32 u33 : Value), (a = ⟨#[.agg (Wz s), uN k, pT ga 0, undef, pT gr 0, pT gc 0, iN x, iN y, undef, undef, undef, undef, undef, undef, undef, iN x, .bool true, u17, u18, u19, u20, u21, u22, u23, u24, u25, u26, u27, u28, u29, u30, u31, u32, u33, undef, undef, undef, undef, undef, undef, undef, undef, undef, undef, undef, undef, undef, undef, undef, undef, undef, undef, undef, undef, undef, undef, undef, undef, undef, undef, undef, undef, undef, undef, undef, undef, undef, undef, undef, undef, undef, undef, undef, undef, undef, undef, undef, undef, undef, undef, undef, undef, undef, undef, undef, undef, undef, undef, undef, undef, undef, undef, undef, undef, undef, undef, undef, undef, undef, undef, undef, undef, undef, undef, undef, undef, undef, undef, undef, undef, undef, undef, undef, undef], []⟩) ∧ (y ≤ 5) ∧ (V.heap[ga]? = some (.cells (Wz s) 46 (0, 0))) ∧ (V.heap[gr]? = some (.cells (zr_u64_25) 46 (0, 0))) ∧ (V.heap[gc]? = some (.cells (Wz (ccn s (5 * x + y))) 76 (0, 0))) ∧ (Keeps Nob w V)) (fun a _ => 5 - (intOf (a.tmps.getD 7 undef)).toNat) (by kernel_rfl) ?_ ?_
      · exact ⟨0, u19, u20, u21, u22, u23, u24, u25, u26, u27, u28, u29, u30, u31, u32, u33, by kernel_rfl, by omega, h20, h21, h22, K23⟩
      · rintro a V24 ⟨y, u19, u20, u21, u22, u23, u24, u25, u26, u27, u28, u29, u30, u31, u32, u33, rfl, hy, h25, h26, h27, K28⟩
        by_cases lt_y : y < 5
        · have ha1 := Kec.at_lt x y
          refine sy_sq (part_hround 14920) (part_hround 14921) ?_
          refine sy_sq (part_hround 29840) (part_hround 29841) ?_
          refine sy_reg ?_
          refine rg_plain 6 (opsAt (part_hround 29840)) [0, 1] (by kernel_rfl) (by kernel_rfl) ?_
          refine ps_k (o_hround 29840 0) (iN y) ?_
          refine ps_p (o_hround 29840 1) (.bool true) (exec_cast (congrArg Value.bool (show (decide ((((y : Nat) : Int)) < ((5) : Int))) = true from by simp only [decide_eq_true_eq]; omega)) (by kernel_rfl)) ?_
          refine ps_end ?_
          refine sy_a ⟨#[.agg (Wz s), uN k, pT ga 0, undef, pT gr 0, pT gc 0, iN x, iN y, undef, undef, undef, undef, undef, undef, undef, iN x, .bool true, u17, u18, iN y, .bool true, u21, u22, u23, u24, u25, u26, u27, u28, u29, u30, u31, u32, u33, undef, undef, undef, undef, undef, undef, undef, undef, undef, undef, undef, undef, undef, undef, undef, undef, undef, undef, undef, undef, undef, undef, undef, undef, undef, undef, undef, undef, undef, undef, undef, undef, undef, undef, undef, undef, undef, undef, undef, undef, undef, undef, undef, undef, undef, undef, undef, undef, undef, undef, undef, undef, undef, undef, undef, undef, undef, undef, undef, undef, undef, undef, undef, undef, undef, undef, undef, undef, undef, undef, undef, undef, undef, undef, undef, undef, undef, undef, undef, undef], []⟩ ?_
          refine then_n ?_
          refine sy_ys (.tmp 20) (part_hround 59682) (part_hround 59683) ?_
          refine sy_sk ?_
          refine then_n ?_
          refine sy_sq (part_hround 29842) (part_hround 29843) ?_
          refine sy_bk 3 (part_hround 59684) ?_
          refine sy_reg ?_
          refine rg_still 8 11 (opsAt (part_hround 59684)) [o_hround 59684 0, o_hround 59684 1, o_hround 59684 2, o_hround 59684 3, o_hround 59684 4, o_hround 59684 5, o_hround 59684 6, o_hround 59684 7, o_hround 59684 8, o_hround 59684 9, o_hround 59684 10] [o_hround 59684 11] (by kernel_rfl) (by kernel_rfl) (by kernel_rfl) (by kernel_rfl) (by kernel_rfl) ?_
          obtain ⟨V30, eV30⟩ : ∃ V, V24.drew = V := ⟨_, rfl⟩
          have kV30 : Keeps Nob V24 V30 := eV30 ▸ (Keeps.refl _ _).drew
          rw [eV30]
          clear eV30
          have h31 : V30.heap[ga]? = some (.cells (Wz s) 46 (0, 0)) := (kV30.block ga (lt_of_block h25) (fun x => x)).trans h25
          have h32 : V30.heap[gr]? = some (.cells (zr_u64_25) 46 (0, 0)) := (kV30.block gr (lt_of_block h26) (fun x => x)).trans h26
          have h33 : V30.heap[gc]? = some (.cells (Wz (ccn s (5 * x + y))) 76 (0, 0)) := (kV30.block gc (lt_of_block h27) (fun x => x)).trans h27
          have K34 : Keeps Nob w V30 := K28.then kV30 (fun _ _ x => x.elim)
          refine st_k (o_hround 59684 0) (iN x) ?_
          refine st_k (o_hround 59684 1) (iN x) ?_
          refine st_p (o_hround 59684 2) (pT gc x) (exec_cast (v := pT gc (0 + x * 1)) (by simp) (exec_indexAt_arr 76 (.tmp 5) (.tmp 24) (by kernel_rfl) gc 0 (by kernel_rfl) .i64 x (by kernel_rfl) _ _ 1 Try.underlying76 (by kernel_rfl) (by omega))) ?_
          refine st_p (o_hround 59684 3) (uN (Kec.g (ccn s (5 * x + y)) x)) (exec_load_cell 45 (.tmp 25) (by kernel_rfl) ⟨gc, x, none⟩ (by kernel_rfl) _ _ Try.underlying45 rfl ((cell_of_row _ _ _ _ _ _ (h33)).trans (Wz_get _ x (by rw [ccn_len]; omega)))) ?_
          refine st_k (o_hround 59684 4) (iN x) ?_
          refine st_k (o_hround 59684 5) (iN y) ?_
          refine st_call (o_hround 59684 6) 50 #[iN x, iN y] (iN (Kec.at_ x y)) (by kernel_rfl) (by kernel_rfl) (by kernel_rfl) (enters_of Try.func50 (by kernel_rfl) rfl) (hat_ok x y _ _ (by omega) (by omega) rfl) ?_
          refine st_p (o_hround 59684 7) (.pointer (some ⟨ga, Kec.at_ x y, none⟩)) (exec_cast (v := .pointer (some ⟨ga, 0 + (Kec.at_ x y) * 1, none⟩)) (by simp) (exec_indexAt_arr 46 (.tmp 2) (.tmp 29) (by kernel_rfl) ga 0 (by kernel_rfl) .i64 (Kec.at_ x y) (by kernel_rfl) _ _ 1 Try.underlying46 (by kernel_rfl) (by omega))) ?_
          refine st_p (o_hround 59684 8) (uN (Kec.g s (Kec.at_ x y))) (exec_load_cell 45 (.tmp 30) (by kernel_rfl) ⟨ga, Kec.at_ x y, none⟩ (by kernel_rfl) _ _ Try.underlying45 rfl ((cell_of_row _ _ _ _ _ _ (h31)).trans (Wz_get _ (Kec.at_ x y) (by rw [hs]; omega)))) ?_
          refine st_p (o_hround 59684 9) (uN ((Kec.g (ccn s (5 * x + y)) x) ^^^ (Kec.g s (Kec.at_ x y)))) (exec_cast (xorU (Kec.g (ccn s (5 * x + y)) x) (Kec.g s (Kec.at_ x y)) (ws_ccn ws _ _) (ws _)) (by kernel_rfl)) ?_
          refine st_p (o_hround 59684 10) (pT gc x) (exec_cast (v := pT gc (0 + x * 1)) (by simp) (exec_indexAt_arr 76 (.tmp 5) (.tmp 23) (by kernel_rfl) gc 0 (by kernel_rfl) .i64 x (by kernel_rfl) _ _ 1 Try.underlying76 (by kernel_rfl) (by omega))) ?_
          refine st_end ?_
          obtain ⟨V35, eV35⟩ : ∃ V, V30.setCell ⟨gc, x, none⟩ (.int .u64 (((Kec.g (ccn s (5 * x + y)) x) ^^^ (Kec.g s (Kec.at_ x y)) : Nat) : Int)) = V := ⟨_, rfl⟩
          have kV35 : Keeps (One gc) V30 V35 := eV35 ▸ (Keeps.refl _ _).setOne _
          have h36 : V35.heap[gc]? = some (.cells (Wz (ccn s (5 * x + (y + 1)))) 76 (0, 0)) := eV35 ▸ ((heap_setCell_same _ gc x _ _ (.int .u64 (((Kec.g (ccn s (5 * x + y)) x) ^^^ (Kec.g s (Kec.at_ x y)) : Nat) : Int)) h33).trans (congrArg (fun c => some (Obj.cells c 76 (0, 0))) (show (Wz (ccn s (5 * x + y)) : Array Value).setIfInBounds x (.int .u64 (((Kec.g (ccn s (5 * x + y)) x) ^^^ (Kec.g s (Kec.at_ x y)) : Nat) : Int)) = Wz (ccn s (5 * x + (y + 1))) from by rw [Wz_set]; exact congrArg Wz (ccn_succ s x y lt_y))))
          refine ls_skip (o_hround 59684 11) (w' := V35) (by kernel_rfl) (by rw [← eV35]; exact exec_store_cell 45 (.tmp 33) (.tmp 32) (by kernel_rfl) gc x (by kernel_rfl) (.int .u64 (((Kec.g (ccn s (5 * x + y)) x) ^^^ (Kec.g s (Kec.at_ x y)) : Nat) : Int)) (by kernel_rfl) (by kernel_rfl) (by kernel_rfl) (.int .u64 ((Kec.g (ccn s (5 * x + y)) x : Nat) : Int)) ((cell_of_row _ _ _ _ _ _ (h33)).trans (Wz_get _ x (by rw [ccn_len]; omega))) (frozen_of_row _ _ _ _ _ h33) (by kernel_rfl)) ?_
          clear eV35
          have h37 : V35.heap[ga]? = some (.cells (Wz s) 46 (0, 0)) := (kV35.block ga (lt_of_block h31) (fun e => by unfold Own.One at e; omega)).trans h31
          have h38 : V35.heap[gr]? = some (.cells (zr_u64_25) 46 (0, 0)) := (kV35.block gr (lt_of_block h32) (fun e => by unfold Own.One at e; omega)).trans h32
          have K39 : Keeps Nob w V35 := K34.then kV35 (fun i hi hm => absurd hi (by unfold Own.One at hm; omega))
          refine ls_end ?_
          refine sy_a ⟨#[.agg (Wz s), uN k, pT ga 0, undef, pT gr 0, pT gc 0, iN x, iN y, undef, undef, undef, undef, undef, undef, undef, iN x, .bool true, u17, u18, iN y, .bool true, u21, u22, iN x, iN x, pT gc x, uN (Kec.g (ccn s (5 * x + y)) x), iN x, iN y, iN (Kec.at_ x y), .pointer (some ⟨ga, Kec.at_ x y, none⟩), uN (Kec.g s (Kec.at_ x y)), uN ((Kec.g (ccn s (5 * x + y)) x) ^^^ (Kec.g s (Kec.at_ x y))), pT gc x, undef, undef, undef, undef, undef, undef, undef, undef, undef, undef, undef, undef, undef, undef, undef, undef, undef, undef, undef, undef, undef, undef, undef, undef, undef, undef, undef, undef, undef, undef, undef, undef, undef, undef, undef, undef, undef, undef, undef, undef, undef, undef, undef, undef, undef, undef, undef, undef, undef, undef, undef, undef, undef, undef, undef, undef, undef, undef, undef, undef, undef, undef, undef, undef, undef, undef, undef, undef, undef, undef, undef, undef, undef, undef, undef, undef, undef, undef, undef, undef], []⟩ ?_
          refine blk_n ?_
          refine then_n ?_
          refine sy_reg ?_
          refine rg_plain 7 (opsAt (part_hround 29843)) [0, 1, 2] (by kernel_rfl) (by kernel_rfl) ?_
          refine ps_k (o_hround 29843 0) (iN y) ?_
          refine ps_p (o_hround 29843 1) (iN (y + 1)) (exec_cast (congrArg (Value.int .i64) (wrapN (y + 1) (by omega))) (by kernel_rfl)) ?_
          refine ps_k (o_hround 29843 2) (iN (y + 1)) ?_
          refine ps_end ?_
          refine sy_a ⟨#[.agg (Wz s), uN k, pT ga 0, undef, pT gr 0, pT gc 0, iN x, iN (y + 1), undef, undef, undef, undef, undef, undef, undef, iN x, .bool true, u17, u18, iN y, .bool true, iN y, iN (y + 1), iN x, iN x, pT gc x, uN (Kec.g (ccn s (5 * x + y)) x), iN x, iN y, iN (Kec.at_ x y), .pointer (some ⟨ga, Kec.at_ x y, none⟩), uN (Kec.g s (Kec.at_ x y)), uN ((Kec.g (ccn s (5 * x + y)) x) ^^^ (Kec.g s (Kec.at_ x y))), pT gc x, undef, undef, undef, undef, undef, undef, undef, undef, undef, undef, undef, undef, undef, undef, undef, undef, undef, undef, undef, undef, undef, undef, undef, undef, undef, undef, undef, undef, undef, undef, undef, undef, undef, undef, undef, undef, undef, undef, undef, undef, undef, undef, undef, undef, undef, undef, undef, undef, undef, undef, undef, undef, undef, undef, undef, undef, undef, undef, undef, undef, undef, undef, undef, undef, undef, undef, undef, undef, undef, undef, undef, undef, undef, undef, undef, undef, undef, undef, undef, undef], []⟩ ?_
          refine then_n ?_
          refine ⟨⟨y + 1, (iN y), (.bool true), (iN y), (iN (y + 1)), (iN x), (iN x), (pT gc x), (uN (Kec.g (ccn s (5 * x + y)) x)), (iN x), (iN y), (iN (Kec.at_ x y)), (.pointer (some ⟨ga, Kec.at_ x y, none⟩)), (uN (Kec.g s (Kec.at_ x y))), (uN ((Kec.g (ccn s (5 * x + y)) x) ^^^ (Kec.g s (Kec.at_ x y)))), (pT gc x), by kernel_rfl, by omega, h37, h38, h36, K39⟩, ?_⟩
          exact lt_meas (x := 5 - (y + 1)) (y := 5 - y) (by kernel_rfl) (by kernel_rfl) (by omega)
        · have eq_y : y = 5 := by omega
          refine sy_sq (part_hround 14920) (part_hround 14921) ?_
          refine sy_sq (part_hround 29840) (part_hround 29841) ?_
          refine sy_reg ?_
          refine rg_plain 6 (opsAt (part_hround 29840)) [0, 1] (by kernel_rfl) (by kernel_rfl) ?_
          refine ps_k (o_hround 29840 0) (iN y) ?_
          refine ps_p (o_hround 29840 1) (.bool false) (exec_cast (congrArg Value.bool (show (decide ((((y : Nat) : Int)) < ((5) : Int))) = false from by simp only [decide_eq_false_iff_not]; omega)) (by kernel_rfl)) ?_
          refine ps_end ?_
          refine sy_a ⟨#[.agg (Wz s), uN k, pT ga 0, undef, pT gr 0, pT gc 0, iN x, iN y, undef, undef, undef, undef, undef, undef, undef, iN x, .bool true, u17, u18, iN y, .bool false, u21, u22, u23, u24, u25, u26, u27, u28, u29, u30, u31, u32, u33, undef, undef, undef, undef, undef, undef, undef, undef, undef, undef, undef, undef, undef, undef, undef, undef, undef, undef, undef, undef, undef, undef, undef, undef, undef, undef, undef, undef, undef, undef, undef, undef, undef, undef, undef, undef, undef, undef, undef, undef, undef, undef, undef, undef, undef, undef, undef, undef, undef, undef, undef, undef, undef, undef, undef, undef, undef, undef, undef, undef, undef, undef, undef, undef, undef, undef, undef, undef, undef, undef, undef, undef, undef, undef, undef, undef, undef, undef, undef, undef], []⟩ ?_
          refine then_n ?_
          refine sy_n (.tmp 20) (part_hround 59682) (part_hround 59683) ?_
          refine sy_exit 2 (by kernel_rfl) ?_
          refine then_e ?_
          refine then_e ?_
          refine blk_e ?_
          refine blk_n ?_
          refine then_n ?_
          refine sy_reg ?_
          refine rg_plain 4 (opsAt (part_hround 467)) [0, 1, 2] (by kernel_rfl) (by kernel_rfl) ?_
          refine ps_k (o_hround 467 0) (iN x) ?_
          refine ps_p (o_hround 467 1) (iN (x + 1)) (exec_cast (congrArg (Value.int .i64) (wrapN (x + 1) (by omega))) (by kernel_rfl)) ?_
          refine ps_k (o_hround 467 2) (iN (x + 1)) ?_
          refine ps_end ?_
          refine sy_a ⟨#[.agg (Wz s), uN k, pT ga 0, undef, pT gr 0, pT gc 0, iN (x + 1), iN y, undef, undef, undef, undef, undef, undef, undef, iN x, .bool true, iN x, iN (x + 1), iN y, .bool false, u21, u22, u23, u24, u25, u26, u27, u28, u29, u30, u31, u32, u33, undef, undef, undef, undef, undef, undef, undef, undef, undef, undef, undef, undef, undef, undef, undef, undef, undef, undef, undef, undef, undef, undef, undef, undef, undef, undef, undef, undef, undef, undef, undef, undef, undef, undef, undef, undef, undef, undef, undef, undef, undef, undef, undef, undef, undef, undef, undef, undef, undef, undef, undef, undef, undef, undef, undef, undef, undef, undef, undef, undef, undef, undef, undef, undef, undef, undef, undef, undef, undef, undef, undef, undef, undef, undef, undef, undef, undef, undef, undef, undef], []⟩ ?_
          refine then_n ?_
          refine ⟨⟨x + 1, (iN y), (iN x), (.bool true), (iN x), (iN (x + 1)), (iN y), (.bool false), u21, u22, u23, u24, u25, u26, u27, u28, u29, u30, u31, u32, u33, by kernel_rfl, by omega, h25, h26, h27.trans (congrArg (fun n => some (Obj.cells (Wz (ccn s n)) 76 (0, 0))) (show 5 * x + y = 5 * (x + 1) by omega)), K28⟩, ?_⟩
          exact lt_meas (x := 5 - (x + 1)) (y := 5 - x) (by kernel_rfl) (by kernel_rfl) (by omega)
    · have eq_x : x = 5 := by omega
      have h40 : V19.heap[gc]? = some (.cells (Wz ((List.range 5).map (Kec.col s))) 76 (0, 0)) := (h22.trans (congrArg (fun n => some (Obj.cells (Wz (ccn s n)) 76 (0, 0))) (show 5 * x = 25 by omega))).trans (congrArg (fun l => some (Obj.cells (Wz l) 76 (0, 0))) (ccn_all s))
      refine sy_sq (part_hround 232) (part_hround 233) ?_
      refine sy_sq (part_hround 464) (part_hround 465) ?_
      refine sy_reg ?_
      refine rg_plain 3 (opsAt (part_hround 464)) [0, 1] (by kernel_rfl) (by kernel_rfl) ?_
      refine ps_k (o_hround 464 0) (iN x) ?_
      refine ps_p (o_hround 464 1) (.bool false) (exec_cast (congrArg Value.bool (show (decide ((((x : Nat) : Int)) < ((5) : Int))) = false from by simp only [decide_eq_false_iff_not]; omega)) (by kernel_rfl)) ?_
      refine ps_end ?_
      refine sy_a ⟨#[.agg (Wz s), uN k, pT ga 0, undef, pT gr 0, pT gc 0, iN x, u7, undef, undef, undef, undef, undef, undef, undef, iN x, .bool false, u17, u18, u19, u20, u21, u22, u23, u24, u25, u26, u27, u28, u29, u30, u31, u32, u33, undef, undef, undef, undef, undef, undef, undef, undef, undef, undef, undef, undef, undef, undef, undef, undef, undef, undef, undef, undef, undef, undef, undef, undef, undef, undef, undef, undef, undef, undef, undef, undef, undef, undef, undef, undef, undef, undef, undef, undef, undef, undef, undef, undef, undef, undef, undef, undef, undef, undef, undef, undef, undef, undef, undef, undef, undef, undef, undef, undef, undef, undef, undef, undef, undef, undef, undef, undef, undef, undef, undef, undef, undef, undef, undef, undef, undef, undef, undef, undef], []⟩ ?_
      refine then_n ?_
      refine sy_n (.tmp 16) (part_hround 930) (part_hround 931) ?_
      refine sy_exit 0 (by kernel_rfl) ?_
      refine then_e ?_
      refine then_e ?_
      refine blk_e ?_
      refine then_n ?_
      refine sy_sq (part_hround 30) (part_hround 31) ?_
      refine sy_reg ?_
      refine rg_plain 9 (opsAt (part_hround 30)) [0, 1, 2] (by kernel_rfl) (by kernel_rfl) ?_
      refine ps_call (o_hround 30 0) 51 #[] (by kernel_rfl) (by kernel_rfl) (by kernel_rfl) (by kernel_rfl) (enters_of Try.func51 (by kernel_rfl) rfl) ((hturns_ok _).mono ?_)
      rintro e V41 ⟨rfl, kV41⟩
      refine ⟨_, rfl, ?_⟩
      have h42 : V41.heap[ga]? = some (.cells (Wz s) 46 (0, 0)) := (kV41.block ga (lt_of_block h20) (fun x => x)).trans h20
      have h43 : V41.heap[gr]? = some (.cells (zr_u64_25) 46 (0, 0)) := (kV41.block gr (lt_of_block h21) (fun x => x)).trans h21
      have h44 : V41.heap[gc]? = some (.cells (Wz ((List.range 5).map (Kec.col s))) 76 (0, 0)) := (kV41.block gc (lt_of_block h40) (fun x => x)).trans h40
      have K45 : Keeps Nob w V41 := K23.then kV41 (fun _ _ x => x.elim)
      obtain ⟨V46, eV46⟩ : ∃ V, V41.alloc (.cells (zr_i64_25) 77) = V := ⟨_, rfl⟩
      obtain ⟨gt, egt⟩ : ∃ g, V41.heap.size = g := ⟨_, rfl⟩
      have n48 : ga < gt := egt ▸ lt_of_block h42
      have n49 : gr < gt := egt ▸ lt_of_block h43
      have n50 : gc < gt := egt ▸ lt_of_block h44
      have n51 : w.heap.size ≤ gt := egt ▸ K45.size
      have h47 : V46.heap[gt]? = some (.cells (zr_i64_25) 77 (0, 0)) := by rw [← eV46, ← egt]; exact heap_alloc_new _ _
      have kV46 : Keeps Nob V41 V46 := eV46 ▸ (Keeps.refl _ _).alloc _
      refine ps_run (o_hround 30 1) (pT gt 0) (w' := V46) (by kernel_rfl) (by kernel_rfl) (by rw [← eV46, ← egt]; exact exec_alloc0 77 (by kernel_rfl) (.agg (zr_i64_25)) (by kernel_rfl)) ?_
      clear eV46
      have h52 : V46.heap[ga]? = some (.cells (Wz s) 46 (0, 0)) := (kV46.block ga (lt_of_block h42) (fun x => x)).trans h42
      have h53 : V46.heap[gr]? = some (.cells (zr_u64_25) 46 (0, 0)) := (kV46.block gr (lt_of_block h43) (fun x => x)).trans h43
      have h54 : V46.heap[gc]? = some (.cells (Wz ((List.range 5).map (Kec.col s))) 76 (0, 0)) := (kV46.block gc (lt_of_block h44) (fun x => x)).trans h44
      have K55 : Keeps Nob w V46 := K45.then kV46 (fun _ _ x => x.elim)
      obtain ⟨V56, eV56⟩ : ∃ V, V46.setRow gt Rz = V := ⟨_, rfl⟩
      have kV56 : Keeps (One gt) V46 V56 := eV56 ▸ (Keeps.refl (One gt) _).setRow (fun _ => (rfl : Own.One gt gt)) _
      have h57 : V56.heap[gt]? = some (.cells Rz 77 (0, 0)) := eV56 ▸ setRow_heap _ _ _ _ _ _ h47
      refine ps_skip (o_hround 30 2) (w' := V56) (by kernel_rfl) (by kernel_rfl) (by rw [← eV56]; exact exec_store_row 77 (.tmp 8) (.tmp 34) (by kernel_rfl) gt Rz (by kernel_rfl) (by kernel_rfl) 77 (zr_i64_25) h47 (by kernel_rfl) (by kernel_rfl) (by kernel_rfl)) ?_
      clear eV56
      have h58 : V56.heap[ga]? = some (.cells (Wz s) 46 (0, 0)) := (kV56.block ga (lt_of_block h52) (fun e => by unfold Own.One at e; omega)).trans h52
      have h59 : V56.heap[gr]? = some (.cells (zr_u64_25) 46 (0, 0)) := (kV56.block gr (lt_of_block h53) (fun e => by unfold Own.One at e; omega)).trans h53
      have h60 : V56.heap[gc]? = some (.cells (Wz ((List.range 5).map (Kec.col s))) 76 (0, 0)) := (kV56.block gc (lt_of_block h54) (fun e => by unfold Own.One at e; omega)).trans h54
      have K61 : Keeps Nob w V56 := K55.then kV56 (fun i hi hm => absurd hi (by unfold Own.One at hm; omega))
      refine ps_end ?_
      refine sy_a ⟨#[.agg (Wz s), uN k, pT ga 0, undef, pT gr 0, pT gc 0, iN x, u7, pT gt 0, undef, undef, undef, undef, undef, undef, iN x, .bool false, u17, u18, u19, u20, u21, u22, u23, u24, u25, u26, u27, u28, u29, u30, u31, u32, u33, .agg Rz, undef, undef, undef, undef, undef, undef, undef, undef, undef, undef, undef, undef, undef, undef, undef, undef, undef, undef, undef, undef, undef, undef, undef, undef, undef, undef, undef, undef, undef, undef, undef, undef, undef, undef, undef, undef, undef, undef, undef, undef, undef, undef, undef, undef, undef, undef, undef, undef, undef, undef, undef, undef, undef, undef, undef, undef, undef, undef, undef, undef, undef, undef, undef, undef, undef, undef, undef, undef, undef, undef, undef, undef, undef, undef, undef, undef, undef, undef, undef], []⟩ ?_
      refine then_n ?_
      refine sy_sq (part_hround 62) (part_hround 63) ?_
      refine sy_reg ?_
      refine rg_plain 10 (opsAt (part_hround 62)) [0] (by kernel_rfl) (by kernel_rfl) ?_
      obtain ⟨V62, eV62⟩ : ∃ V, V56.alloc (.cells (zr_u64_25) 46) = V := ⟨_, rfl⟩
      obtain ⟨gb, egb⟩ : ∃ g, V56.heap.size = g := ⟨_, rfl⟩
      have n64 : ga < gb := egb ▸ lt_of_block h58
      have n65 : gr < gb := egb ▸ lt_of_block h59
      have n66 : gc < gb := egb ▸ lt_of_block h60
      have n67 : gt < gb := egb ▸ lt_of_block h57
      have n68 : w.heap.size ≤ gb := egb ▸ K61.size
      have h63 : V62.heap[gb]? = some (.cells (zr_u64_25) 46 (0, 0)) := by rw [← eV62, ← egb]; exact heap_alloc_new _ _
      have kV62 : Keeps Nob V56 V62 := eV62 ▸ (Keeps.refl _ _).alloc _
      refine ps_run (o_hround 62 0) (pT gb 0) (w' := V62) (by kernel_rfl) (by kernel_rfl) (by rw [← eV62, ← egb]; exact exec_alloc0 46 (by kernel_rfl) (.agg (zr_u64_25)) (by kernel_rfl)) ?_
      clear eV62
      have h69 : V62.heap[ga]? = some (.cells (Wz s) 46 (0, 0)) := (kV62.block ga (lt_of_block h58) (fun x => x)).trans h58
      have h70 : V62.heap[gr]? = some (.cells (zr_u64_25) 46 (0, 0)) := (kV62.block gr (lt_of_block h59) (fun x => x)).trans h59
      have h71 : V62.heap[gc]? = some (.cells (Wz ((List.range 5).map (Kec.col s))) 76 (0, 0)) := (kV62.block gc (lt_of_block h60) (fun x => x)).trans h60
      have h72 : V62.heap[gt]? = some (.cells Rz 77 (0, 0)) := (kV62.block gt (lt_of_block h57) (fun x => x)).trans h57
      have K73 : Keeps Nob w V62 := K61.then kV62 (fun _ _ x => x.elim)
      refine ps_end ?_
      refine sy_a ⟨#[.agg (Wz s), uN k, pT ga 0, undef, pT gr 0, pT gc 0, iN x, u7, pT gt 0, pT gb 0, undef, undef, undef, undef, undef, iN x, .bool false, u17, u18, u19, u20, u21, u22, u23, u24, u25, u26, u27, u28, u29, u30, u31, u32, u33, .agg Rz, undef, undef, undef, undef, undef, undef, undef, undef, undef, undef, undef, undef, undef, undef, undef, undef, undef, undef, undef, undef, undef, undef, undef, undef, undef, undef, undef, undef, undef, undef, undef, undef, undef, undef, undef, undef, undef, undef, undef, undef, undef, undef, undef, undef, undef, undef, undef, undef, undef, undef, undef, undef, undef, undef, undef, undef, undef, undef, undef, undef, undef, undef, undef, undef, undef, undef, undef, undef, undef, undef, undef, undef, undef, undef, undef, undef, undef, undef, undef], []⟩ ?_
      refine then_n ?_
      refine sy_sq (part_hround 126) (part_hround 127) ?_
      refine sy_sq (part_hround 252) (part_hround 253) ?_
      refine sy_reg ?_
      refine rg_plain 11 (opsAt (part_hround 252)) [0] (by kernel_rfl) (by kernel_rfl) ?_
      refine ps_k (o_hround 252 0) (.int .i64 0) ?_
      refine ps_end ?_
      refine sy_a ⟨#[.agg (Wz s), uN k, pT ga 0, undef, pT gr 0, pT gc 0, iN x, u7, pT gt 0, pT gb 0, .int .i64 0, undef, undef, undef, undef, iN x, .bool false, u17, u18, u19, u20, u21, u22, u23, u24, u25, u26, u27, u28, u29, u30, u31, u32, u33, .agg Rz, undef, undef, undef, undef, undef, undef, undef, undef, undef, undef, undef, undef, undef, undef, undef, undef, undef, undef, undef, undef, undef, undef, undef, undef, undef, undef, undef, undef, undef, undef, undef, undef, undef, undef, undef, undef, undef, undef, undef, undef, undef, undef, undef, undef, undef, undef, undef, undef, undef, undef, undef, undef, undef, undef, undef, undef, undef, undef, undef, undef, undef, undef, undef, undef, undef, undef, undef, undef, undef, undef, undef, undef, undef, undef, undef, undef, undef, undef, undef], []⟩ ?_
      refine then_n ?_
      refine sy_bk 4 (part_hround 506) ?_
      refine sy_loop (part_hround 1012) (fun a V => ∃ (x2 : Nat) (u11 u12 u35 u36 u37 u38 u39 u40 u41 u42 u43 u44 u45 u46 u47 u48 u49 u50 u51 u52 u53 u54 u55 u56 u57 u58 u59 u60 u61 u62 u63 u64 u65 u66 u67 u68 u69 u70 u71 u72 u73 u74 u75 : Value), (a = ⟨#[.agg (Wz s), uN k, pT ga 0, undef, pT gr 0, pT gc 0, iN x, u7, pT gt 0, pT gb 0, iN x2, u11, u12, undef, undef, iN x, .bool false, u17, u18, u19, u20, u21, u22, u23, u24, u25, u26, u27, u28, u29, u30, u31, u32, u33, .agg Rz, u35, u36, u37, u38, u39, u40, u41, u42, u43, u44, u45, u46, u47, u48, u49, u50, u51, u52, u53, u54, u55, u56, u57, u58, u59, u60, u61, u62, u63, u64, u65, u66, u67, u68, u69, u70, u71, u72, u73, u74, u75, undef, undef, undef, undef, undef, undef, undef, undef, undef, undef, undef, undef, undef, undef, undef, undef, undef, undef, undef, undef, undef, undef, undef, undef, undef, undef, undef, undef, undef, undef, undef, undef, undef, undef, undef, undef, undef, undef], []⟩) ∧ (x2 ≤ 5) ∧ (V.heap[ga]? = some (.cells (Wz s) 46 (0, 0))) ∧ (V.heap[gr]? = some (.cells (zr_u64_25) 46 (0, 0))) ∧ (V.heap[gc]? = some (.cells (Wz ((List.range 5).map (Kec.col s))) 76 (0, 0))) ∧ (V.heap[gt]? = some (.cells Rz 77 (0, 0))) ∧ (V.heap[gb]? = some (.cells (Wz (mmn s (5 * x2))) 46 (0, 0))) ∧ (Keeps Nob w V)) (fun a _ => 5 - (intOf (a.tmps.getD 10 undef)).toNat) (by kernel_rfl) ?_ ?_
      · exact ⟨0, undef, undef, undef, undef, undef, undef, undef, undef, undef, undef, undef, undef, undef, undef, undef, undef, undef, undef, undef, undef, undef, undef, undef, undef, undef, undef, undef, undef, undef, undef, undef, undef, undef, undef, undef, undef, undef, undef, undef, undef, undef, undef, undef, by kernel_rfl, by omega, h69, h70, h71, h72, h63.trans (by kernel_rfl), K73⟩
      · rintro a V74 ⟨x2, u11, u12, u35, u36, u37, u38, u39, u40, u41, u42, u43, u44, u45, u46, u47, u48, u49, u50, u51, u52, u53, u54, u55, u56, u57, u58, u59, u60, u61, u62, u63, u64, u65, u66, u67, u68, u69, u70, u71, u72, u73, u74, u75, rfl, hx2, h75, h76, h77, h78, h79, K80⟩
        by_cases lt_x2 : x2 < 5
        · show _
          refine sy_sq (part_hround 2024) (part_hround 2025) ?_
          refine sy_sq (part_hround 4048) (part_hround 4049) ?_
          refine sy_reg ?_
          refine rg_plain 12 (opsAt (part_hround 4048)) [0, 1] (by kernel_rfl) (by kernel_rfl) ?_
          refine ps_k (o_hround 4048 0) (iN x2) ?_
          refine ps_p (o_hround 4048 1) (.bool true) (exec_cast (congrArg Value.bool (show (decide ((((x2 : Nat) : Int)) < ((5) : Int))) = true from by simp only [decide_eq_true_eq]; omega)) (by kernel_rfl)) ?_
          refine ps_end ?_
          refine sy_a ⟨#[.agg (Wz s), uN k, pT ga 0, undef, pT gr 0, pT gc 0, iN x, u7, pT gt 0, pT gb 0, iN x2, u11, u12, undef, undef, iN x, .bool false, u17, u18, u19, u20, u21, u22, u23, u24, u25, u26, u27, u28, u29, u30, u31, u32, u33, .agg Rz, iN x2, .bool true, u37, u38, u39, u40, u41, u42, u43, u44, u45, u46, u47, u48, u49, u50, u51, u52, u53, u54, u55, u56, u57, u58, u59, u60, u61, u62, u63, u64, u65, u66, u67, u68, u69, u70, u71, u72, u73, u74, u75, undef, undef, undef, undef, undef, undef, undef, undef, undef, undef, undef, undef, undef, undef, undef, undef, undef, undef, undef, undef, undef, undef, undef, undef, undef, undef, undef, undef, undef, undef, undef, undef, undef, undef, undef, undef, undef, undef], []⟩ ?_
          refine then_n ?_
          refine sy_ys (.tmp 36) (part_hround 8098) (part_hround 8099) ?_
          refine sy_sk ?_
          refine then_n ?_
          refine sy_sq (part_hround 4050) (part_hround 4051) ?_
          refine sy_bk 5 (part_hround 8100) ?_
          refine sy_sq (part_hround 16200) (part_hround 16201) ?_
          refine sy_np ?_
          refine sy_reg ?_
          refine an_begin 14 13 (opsAt (part_hround 16200)) (fun W => (W.heap[gc]? = some (.cells (Wz ((List.range 5).map (Kec.col s))) 76 (0, 0)))) #[false, false, false, false, false, false, false, false, false, false, false, false, false] (by kernel_rfl) (by kernel_rfl) (by kernel_rfl) (by kernel_rfl) ?_
          obtain ⟨V81, eV81⟩ : ∃ V, V74.drew = V := ⟨_, rfl⟩
          have kV81 : Keeps Nob V74 V81 := eV81 ▸ (Keeps.refl _ _).drew
          rw [eV81]
          clear eV81
          have h82 : V81.heap[ga]? = some (.cells (Wz s) 46 (0, 0)) := (kV81.block ga (lt_of_block h75) (fun x => x)).trans h75
          have h83 : V81.heap[gr]? = some (.cells (zr_u64_25) 46 (0, 0)) := (kV81.block gr (lt_of_block h76) (fun x => x)).trans h76
          have h84 : V81.heap[gc]? = some (.cells (Wz ((List.range 5).map (Kec.col s))) 76 (0, 0)) := (kV81.block gc (lt_of_block h77) (fun x => x)).trans h77
          have h85 : V81.heap[gt]? = some (.cells Rz 77 (0, 0)) := (kV81.block gt (lt_of_block h78) (fun x => x)).trans h78
          have h86 : V81.heap[gb]? = some (.cells (Wz (mmn s (5 * x2))) 46 (0, 0)) := (kV81.block gb (lt_of_block h79) (fun x => x)).trans h79
          have K87 : Keeps Nob w V81 := K80.then kV81 (fun _ _ x => x.elim)
          refine an_val 0 (o_hround 16200 0) (iN x2) (by kernel_rfl) (by kernel_rfl) (by kernel_rfl) (by kernel_rfl) (by kernel_rfl) (fun W hS => by kernel_rfl) h84 ?_
          refine an_val 1 (o_hround 16200 1) (iN (x2 + 4)) (by kernel_rfl) (by kernel_rfl) (by kernel_rfl) (by kernel_rfl) (by kernel_rfl) (fun W hS => exec_cast (congrArg (Value.int .i64) (wrapN (x2 + 4) (by omega))) (by kernel_rfl)) h84 ?_
          refine an_val 2 (o_hround 16200 2) (iN ((x2 + 4) % 5)) (by kernel_rfl) (by kernel_rfl) (by kernel_rfl) (by kernel_rfl) (by kernel_rfl) (fun W hS => by kernel_rfl) h84 ?_
          refine an_val 3 (o_hround 16200 3) (.pointer (some ⟨gc, (x2 + 4) % 5, none⟩)) (by kernel_rfl) (by kernel_rfl) (by kernel_rfl) (by kernel_rfl) (by kernel_rfl) (fun W hS => exec_cast (v := .pointer (some ⟨gc, 0 + ((x2 + 4) % 5) * 1, none⟩)) (by simp) (exec_indexAt_arr 76 (.tmp 5) (.tmp 41) (by kernel_rfl) gc 0 (by kernel_rfl) .i64 ((x2 + 4) % 5) (by kernel_rfl) _ _ 1 Try.underlying76 (by kernel_rfl) (by omega))) h84 ?_
          refine an_val 4 (o_hround 16200 4) (uN (Kec.col s ((x2 + 4) % 5))) (by kernel_rfl) (by kernel_rfl) (by kernel_rfl) (by kernel_rfl) (by kernel_rfl) (fun W hS => exec_load_cell 45 (.tmp 42) (by kernel_rfl) ⟨gc, (x2 + 4) % 5, none⟩ (by kernel_rfl) _ _ Try.underlying45 rfl ((cell_of_row _ _ _ _ _ _ (hS)).trans (Wz_get' _ ((x2 + 4) % 5) _ (by rw [List.length_map, List.length_range]; omega) (g_map5 _ _ (by omega))))) h84 ?_
          refine an_val 5 (o_hround 16200 5) (iN x2) (by kernel_rfl) (by kernel_rfl) (by kernel_rfl) (by kernel_rfl) (by kernel_rfl) (fun W hS => by kernel_rfl) h84 ?_
          refine an_val 6 (o_hround 16200 6) (iN (x2 + 1)) (by kernel_rfl) (by kernel_rfl) (by kernel_rfl) (by kernel_rfl) (by kernel_rfl) (fun W hS => exec_cast (congrArg (Value.int .i64) (wrapN (x2 + 1) (by omega))) (by kernel_rfl)) h84 ?_
          refine an_val 7 (o_hround 16200 7) (iN ((x2 + 1) % 5)) (by kernel_rfl) (by kernel_rfl) (by kernel_rfl) (by kernel_rfl) (by kernel_rfl) (fun W hS => by kernel_rfl) h84 ?_
          refine an_val 8 (o_hround 16200 8) (.pointer (some ⟨gc, (x2 + 1) % 5, none⟩)) (by kernel_rfl) (by kernel_rfl) (by kernel_rfl) (by kernel_rfl) (by kernel_rfl) (fun W hS => exec_cast (v := .pointer (some ⟨gc, 0 + ((x2 + 1) % 5) * 1, none⟩)) (by simp) (exec_indexAt_arr 76 (.tmp 5) (.tmp 46) (by kernel_rfl) gc 0 (by kernel_rfl) .i64 ((x2 + 1) % 5) (by kernel_rfl) _ _ 1 Try.underlying76 (by kernel_rfl) (by omega))) h84 ?_
          refine an_val 9 (o_hround 16200 9) (uN (Kec.col s ((x2 + 1) % 5))) (by kernel_rfl) (by kernel_rfl) (by kernel_rfl) (by kernel_rfl) (by kernel_rfl) (fun W hS => exec_load_cell 45 (.tmp 47) (by kernel_rfl) ⟨gc, (x2 + 1) % 5, none⟩ (by kernel_rfl) _ _ Try.underlying45 rfl ((cell_of_row _ _ _ _ _ _ (hS)).trans (Wz_get' _ ((x2 + 1) % 5) _ (by rw [List.length_map, List.length_range]; omega) (g_map5 _ _ (by omega))))) h84 ?_
          refine an_one 10 (by kernel_rfl) ?_
          refine on_call (o_hround 16200 10) 52 #[uN (Kec.col s ((x2 + 1) % 5)), .int .i64 1] (by kernel_rfl) (by kernel_rfl) (by kernel_rfl) (by kernel_rfl) (enters_of Try.func52 (by kernel_rfl) rfl) ((hrot_ok (Kec.col s ((x2 + 1) % 5)) 1 _ (Kec.col_lt ws _) (by omega)).mono ?_)
          rintro e V88 ⟨rfl, kV88⟩
          refine ⟨_, rfl, ?_⟩
          have h89 : V88.heap[ga]? = some (.cells (Wz s) 46 (0, 0)) := (kV88.block ga (lt_of_block h82) (fun x => x)).trans h82
          have h90 : V88.heap[gr]? = some (.cells (zr_u64_25) 46 (0, 0)) := (kV88.block gr (lt_of_block h83) (fun x => x)).trans h83
          have h91 : V88.heap[gc]? = some (.cells (Wz ((List.range 5).map (Kec.col s))) 76 (0, 0)) := (kV88.block gc (lt_of_block h84) (fun x => x)).trans h84
          have h92 : V88.heap[gt]? = some (.cells Rz 77 (0, 0)) := (kV88.block gt (lt_of_block h85) (fun x => x)).trans h85
          have h93 : V88.heap[gb]? = some (.cells (Wz (mmn s (5 * x2))) 46 (0, 0)) := (kV88.block gb (lt_of_block h86) (fun x => x)).trans h86
          have K94 : Keeps Nob w V88 := K87.then kV88 (fun _ _ x => x.elim)
          refine ⟨h91, ?_⟩
          refine an_val 11 (o_hround 16200 11) (uN ((Kec.col s ((x2 + 4) % 5)) ^^^ (Kec.rot (Kec.col s ((x2 + 1) % 5)) 1))) (by kernel_rfl) (by kernel_rfl) (by kernel_rfl) (by kernel_rfl) (by kernel_rfl) (fun W hS => exec_cast (xorU (Kec.col s ((x2 + 4) % 5)) (Kec.rot (Kec.col s ((x2 + 1) % 5)) 1) (Kec.col_lt ws _) (Kec.rot_lt (Kec.col_lt ws _) _)) (by kernel_rfl)) h91 ?_
          refine an_one 12 (by kernel_rfl) ?_
          refine on_run (o_hround 16200 12) (uN ((Kec.col s ((x2 + 4) % 5)) ^^^ (Kec.rot (Kec.col s ((x2 + 1) % 5)) 1))) (w' := V88) (by kernel_rfl) (by kernel_rfl) (by kernel_rfl) ?_
          refine ⟨h91, ?_⟩
          refine an_end (by kernel_rfl) ?_
          refine sy_a ⟨#[.agg (Wz s), uN k, pT ga 0, undef, pT gr 0, pT gc 0, iN x, u7, pT gt 0, pT gb 0, iN x2, uN ((Kec.col s ((x2 + 4) % 5)) ^^^ (Kec.rot (Kec.col s ((x2 + 1) % 5)) 1)), u12, undef, undef, iN x, .bool false, u17, u18, u19, u20, u21, u22, u23, u24, u25, u26, u27, u28, u29, u30, u31, u32, u33, .agg Rz, iN x2, .bool true, u37, u38, iN x2, iN (x2 + 4), iN ((x2 + 4) % 5), .pointer (some ⟨gc, (x2 + 4) % 5, none⟩), uN (Kec.col s ((x2 + 4) % 5)), iN x2, iN (x2 + 1), iN ((x2 + 1) % 5), .pointer (some ⟨gc, (x2 + 1) % 5, none⟩), uN (Kec.col s ((x2 + 1) % 5)), uN (Kec.rot (Kec.col s ((x2 + 1) % 5)) 1), uN ((Kec.col s ((x2 + 4) % 5)) ^^^ (Kec.rot (Kec.col s ((x2 + 1) % 5)) 1)), u51, u52, u53, u54, u55, u56, u57, u58, u59, u60, u61, u62, u63, u64, u65, u66, u67, u68, u69, u70, u71, u72, u73, u74, u75, undef, undef, undef, undef, undef, undef, undef, undef, undef, undef, undef, undef, undef, undef, undef, undef, undef, undef, undef, undef, undef, undef, undef, undef, undef, undef, undef, undef, undef, undef, undef, undef, undef, undef, undef, undef, undef, undef], []⟩ ?_
          refine then_n ?_
          refine sy_sq (part_hround 32402) (part_hround 32403) ?_
          refine sy_reg ?_
          refine rg_plain 15 (opsAt (part_hround 32402)) [0] (by kernel_rfl) (by kernel_rfl) ?_
          refine ps_k (o_hround 32402 0) (.int .i64 0) ?_
          refine ps_end ?_
          refine sy_a ⟨#[.agg (Wz s), uN k, pT ga 0, undef, pT gr 0, pT gc 0, iN x, u7, pT gt 0, pT gb 0, iN x2, uN ((Kec.col s ((x2 + 4) % 5)) ^^^ (Kec.rot (Kec.col s ((x2 + 1) % 5)) 1)), .int .i64 0, undef, undef, iN x, .bool false, u17, u18, u19, u20, u21, u22, u23, u24, u25, u26, u27, u28, u29, u30, u31, u32, u33, .agg Rz, iN x2, .bool true, u37, u38, iN x2, iN (x2 + 4), iN ((x2 + 4) % 5), .pointer (some ⟨gc, (x2 + 4) % 5, none⟩), uN (Kec.col s ((x2 + 4) % 5)), iN x2, iN (x2 + 1), iN ((x2 + 1) % 5), .pointer (some ⟨gc, (x2 + 1) % 5, none⟩), uN (Kec.col s ((x2 + 1) % 5)), uN (Kec.rot (Kec.col s ((x2 + 1) % 5)) 1), uN ((Kec.col s ((x2 + 4) % 5)) ^^^ (Kec.rot (Kec.col s ((x2 + 1) % 5)) 1)), u51, u52, u53, u54, u55, u56, u57, u58, u59, u60, u61, u62, u63, u64, u65, u66, u67, u68, u69, u70, u71, u72, u73, u74, u75, undef, undef, undef, undef, undef, undef, undef, undef, undef, undef, undef, undef, undef, undef, undef, undef, undef, undef, undef, undef, undef, undef, undef, undef, undef, undef, undef, undef, undef, undef, undef, undef, undef, undef, undef, undef, undef, undef], []⟩ ?_
          refine then_n ?_
          refine sy_bk 6 (part_hround 64806) ?_
          refine sy_loop (part_hround 129612) (fun a V => ∃ (y2 : Nat) (u51 u52 u53 u54 u55 u56 u57 u58 u59 u60 u61 u62 u63 u64 u65 u66 u67 u68 u69 u70 u71 u72 u73 u74 u75 : Value), (a = ⟨#[.agg (Wz s), uN k, pT ga 0, undef, pT gr 0, pT gc 0, iN x, u7, pT gt 0, pT gb 0, iN x2, uN ((Kec.col s ((x2 + 4) % 5)) ^^^ (Kec.rot (Kec.col s ((x2 + 1) % 5)) 1)), iN y2, undef, undef, iN x, .bool false, u17, u18, u19, u20, u21, u22, u23, u24, u25, u26, u27, u28, u29, u30, u31, u32, u33, .agg Rz, iN x2, .bool true, u37, u38, iN x2, iN (x2 + 4), iN ((x2 + 4) % 5), .pointer (some ⟨gc, (x2 + 4) % 5, none⟩), uN (Kec.col s ((x2 + 4) % 5)), iN x2, iN (x2 + 1), iN ((x2 + 1) % 5), .pointer (some ⟨gc, (x2 + 1) % 5, none⟩), uN (Kec.col s ((x2 + 1) % 5)), uN (Kec.rot (Kec.col s ((x2 + 1) % 5)) 1), uN ((Kec.col s ((x2 + 4) % 5)) ^^^ (Kec.rot (Kec.col s ((x2 + 1) % 5)) 1)), u51, u52, u53, u54, u55, u56, u57, u58, u59, u60, u61, u62, u63, u64, u65, u66, u67, u68, u69, u70, u71, u72, u73, u74, u75, undef, undef, undef, undef, undef, undef, undef, undef, undef, undef, undef, undef, undef, undef, undef, undef, undef, undef, undef, undef, undef, undef, undef, undef, undef, undef, undef, undef, undef, undef, undef, undef, undef, undef, undef, undef, undef, undef], []⟩) ∧ (y2 ≤ 5) ∧ (V.heap[ga]? = some (.cells (Wz s) 46 (0, 0))) ∧ (V.heap[gr]? = some (.cells (zr_u64_25) 46 (0, 0))) ∧ (V.heap[gc]? = some (.cells (Wz ((List.range 5).map (Kec.col s))) 76 (0, 0))) ∧ (V.heap[gt]? = some (.cells Rz 77 (0, 0))) ∧ (V.heap[gb]? = some (.cells (Wz (mmn s (5 * x2 + y2))) 46 (0, 0))) ∧ (Keeps Nob w V)) (fun a _ => 5 - (intOf (a.tmps.getD 12 undef)).toNat) (by kernel_rfl) ?_ ?_
          · exact ⟨0, u51, u52, u53, u54, u55, u56, u57, u58, u59, u60, u61, u62, u63, u64, u65, u66, u67, u68, u69, u70, u71, u72, u73, u74, u75, by kernel_rfl, by omega, h89, h90, h91, h92, h93, K94⟩
          · rintro a V95 ⟨y2, u51, u52, u53, u54, u55, u56, u57, u58, u59, u60, u61, u62, u63, u64, u65, u66, u67, u68, u69, u70, u71, u72, u73, u74, u75, rfl, hy2, h96, h97, h98, h99, h100, K101⟩
            by_cases lt_y2 : y2 < 5
            · have ha1 := Kec.at_lt x2 y2
              have ha2 := Kec.at_lt y2 (2 * x2 + 3 * y2)
              refine sy_sq (part_hround 259224) (part_hround 259225) ?_
              refine sy_sq (part_hround 518448) (part_hround 518449) ?_
              refine sy_reg ?_
              refine rg_plain 16 (opsAt (part_hround 518448)) [0, 1] (by kernel_rfl) (by kernel_rfl) ?_
              refine ps_k (o_hround 518448 0) (iN y2) ?_
              refine ps_p (o_hround 518448 1) (.bool true) (exec_cast (congrArg Value.bool (show (decide ((((y2 : Nat) : Int)) < ((5) : Int))) = true from by simp only [decide_eq_true_eq]; omega)) (by kernel_rfl)) ?_
              refine ps_end ?_
              refine sy_a ⟨#[.agg (Wz s), uN k, pT ga 0, undef, pT gr 0, pT gc 0, iN x, u7, pT gt 0, pT gb 0, iN x2, uN ((Kec.col s ((x2 + 4) % 5)) ^^^ (Kec.rot (Kec.col s ((x2 + 1) % 5)) 1)), iN y2, undef, undef, iN x, .bool false, u17, u18, u19, u20, u21, u22, u23, u24, u25, u26, u27, u28, u29, u30, u31, u32, u33, .agg Rz, iN x2, .bool true, u37, u38, iN x2, iN (x2 + 4), iN ((x2 + 4) % 5), .pointer (some ⟨gc, (x2 + 4) % 5, none⟩), uN (Kec.col s ((x2 + 4) % 5)), iN x2, iN (x2 + 1), iN ((x2 + 1) % 5), .pointer (some ⟨gc, (x2 + 1) % 5, none⟩), uN (Kec.col s ((x2 + 1) % 5)), uN (Kec.rot (Kec.col s ((x2 + 1) % 5)) 1), uN ((Kec.col s ((x2 + 4) % 5)) ^^^ (Kec.rot (Kec.col s ((x2 + 1) % 5)) 1)), iN y2, .bool true, u53, u54, u55, u56, u57, u58, u59, u60, u61, u62, u63, u64, u65, u66, u67, u68, u69, u70, u71, u72, u73, u74, u75, undef, undef, undef, undef, undef, undef, undef, undef, undef, undef, undef, undef, undef, undef, undef, undef, undef, undef, undef, undef, undef, undef, undef, undef, undef, undef, undef, undef, undef, undef, undef, undef, undef, undef, undef, undef, undef, undef], []⟩ ?_
              refine then_n ?_
              refine sy_ys (.tmp 52) (part_hround 1036898) (part_hround 1036899) ?_
              refine sy_sk ?_
              refine then_n ?_
              refine sy_sq (part_hround 518450) (part_hround 518451) ?_
              refine sy_bk 7 (part_hround 1036900) ?_
              refine sy_np ?_
              refine sy_reg ?_
              refine an_begin 18 22 (opsAt (part_hround 1036900)) (fun W => (W.heap[ga]? = some (.cells (Wz s) 46 (0, 0))) ∧ (W.heap[gt]? = some (.cells Rz 77 (0, 0)))) #[false, false, false, false, false, false, false, false, false, false, false, false, false, false, false, false, false, false, false, false, false, false] (by kernel_rfl) (by kernel_rfl) (by kernel_rfl) (by kernel_rfl) ?_
              obtain ⟨V102, eV102⟩ : ∃ V, V95.drew = V := ⟨_, rfl⟩
              have kV102 : Keeps Nob V95 V102 := eV102 ▸ (Keeps.refl _ _).drew
              rw [eV102]
              clear eV102
              have h103 : V102.heap[ga]? = some (.cells (Wz s) 46 (0, 0)) := (kV102.block ga (lt_of_block h96) (fun x => x)).trans h96
              have h104 : V102.heap[gr]? = some (.cells (zr_u64_25) 46 (0, 0)) := (kV102.block gr (lt_of_block h97) (fun x => x)).trans h97
              have h105 : V102.heap[gc]? = some (.cells (Wz ((List.range 5).map (Kec.col s))) 76 (0, 0)) := (kV102.block gc (lt_of_block h98) (fun x => x)).trans h98
              have h106 : V102.heap[gt]? = some (.cells Rz 77 (0, 0)) := (kV102.block gt (lt_of_block h99) (fun x => x)).trans h99
              have h107 : V102.heap[gb]? = some (.cells (Wz (mmn s (5 * x2 + y2))) 46 (0, 0)) := (kV102.block gb (lt_of_block h100) (fun x => x)).trans h100
              have K108 : Keeps Nob w V102 := K101.then kV102 (fun _ _ x => x.elim)
              refine an_val 0 (o_hround 1036900 0) (iN y2) (by kernel_rfl) (by kernel_rfl) (by kernel_rfl) (by kernel_rfl) (by kernel_rfl) (fun W hS => by kernel_rfl) ⟨h103, h106⟩ ?_
              refine an_val 1 (o_hround 1036900 1) (iN x2) (by kernel_rfl) (by kernel_rfl) (by kernel_rfl) (by kernel_rfl) (by kernel_rfl) (fun W hS => by kernel_rfl) ⟨h103, h106⟩ ?_
              refine an_val 2 (o_hround 1036900 2) (iN (2 * x2)) (by kernel_rfl) (by kernel_rfl) (by kernel_rfl) (by kernel_rfl) (by kernel_rfl) (fun W hS => exec_cast (congrArg (Value.int .i64) (wrapN (2 * x2) (by omega))) (by kernel_rfl)) ⟨h103, h106⟩ ?_
              refine an_val 3 (o_hround 1036900 3) (iN y2) (by kernel_rfl) (by kernel_rfl) (by kernel_rfl) (by kernel_rfl) (by kernel_rfl) (fun W hS => by kernel_rfl) ⟨h103, h106⟩ ?_
              refine an_val 4 (o_hround 1036900 4) (iN (3 * y2)) (by kernel_rfl) (by kernel_rfl) (by kernel_rfl) (by kernel_rfl) (by kernel_rfl) (fun W hS => exec_cast (congrArg (Value.int .i64) (wrapN (3 * y2) (by omega))) (by kernel_rfl)) ⟨h103, h106⟩ ?_
              refine an_val 5 (o_hround 1036900 5) (iN ((2 * x2) + (3 * y2))) (by kernel_rfl) (by kernel_rfl) (by kernel_rfl) (by kernel_rfl) (by kernel_rfl) (fun W hS => exec_cast (congrArg (Value.int .i64) (wrapN ((2 * x2) + (3 * y2)) (by omega))) (by kernel_rfl)) ⟨h103, h106⟩ ?_
              refine an_val 7 (o_hround 1036900 7) (iN x2) (by kernel_rfl) (by kernel_rfl) (by kernel_rfl) (by kernel_rfl) (by kernel_rfl) (fun W hS => by kernel_rfl) ⟨h103, h106⟩ ?_
              refine an_val 8 (o_hround 1036900 8) (iN y2) (by kernel_rfl) (by kernel_rfl) (by kernel_rfl) (by kernel_rfl) (by kernel_rfl) (fun W hS => by kernel_rfl) ⟨h103, h106⟩ ?_
              refine an_val 12 (o_hround 1036900 12) (uN ((Kec.col s ((x2 + 4) % 5)) ^^^ (Kec.rot (Kec.col s ((x2 + 1) % 5)) 1))) (by kernel_rfl) (by kernel_rfl) (by kernel_rfl) (by kernel_rfl) (by kernel_rfl) (fun W hS => by kernel_rfl) ⟨h103, h106⟩ ?_
              refine an_val 14 (o_hround 1036900 14) (iN x2) (by kernel_rfl) (by kernel_rfl) (by kernel_rfl) (by kernel_rfl) (by kernel_rfl) (fun W hS => by kernel_rfl) ⟨h103, h106⟩ ?_
              refine an_val 15 (o_hround 1036900 15) (iN y2) (by kernel_rfl) (by kernel_rfl) (by kernel_rfl) (by kernel_rfl) (by kernel_rfl) (fun W hS => by kernel_rfl) ⟨h103, h106⟩ ?_
              refine an_one 6 (by kernel_rfl) ?_
              refine on_call (o_hround 1036900 6) 50 #[iN y2, iN ((2 * x2) + (3 * y2))] (by kernel_rfl) (by kernel_rfl) (by kernel_rfl) (by kernel_rfl) (enters_of Try.func50 (by kernel_rfl) rfl) ((hat_ok y2 ((2 * x2) + (3 * y2)) _ _ (by omega) (by omega) rfl).mono ?_)
              rintro e w1 ⟨rfl, rfl⟩
              refine ⟨_, rfl, ?_⟩
              refine ⟨⟨h103, h106⟩, ?_⟩
              refine an_one 9 (by kernel_rfl) ?_
              refine on_call (o_hround 1036900 9) 50 #[iN x2, iN y2] (by kernel_rfl) (by kernel_rfl) (by kernel_rfl) (by kernel_rfl) (enters_of Try.func50 (by kernel_rfl) rfl) ((hat_ok x2 y2 _ _ (by omega) (by omega) rfl).mono ?_)
              rintro e w1 ⟨rfl, rfl⟩
              refine ⟨_, rfl, ?_⟩
              refine ⟨⟨h103, h106⟩, ?_⟩
              refine an_val 10 (o_hround 1036900 10) (.pointer (some ⟨ga, Kec.at_ x2 y2, none⟩)) (by kernel_rfl) (by kernel_rfl) (by kernel_rfl) (by kernel_rfl) (by kernel_rfl) (fun W hS => exec_cast (v := .pointer (some ⟨ga, 0 + (Kec.at_ x2 y2) * 1, none⟩)) (by simp) (exec_indexAt_arr 46 (.tmp 2) (.tmp 64) (by kernel_rfl) ga 0 (by kernel_rfl) .i64 (Kec.at_ x2 y2) (by kernel_rfl) _ _ 1 Try.underlying46 (by kernel_rfl) (by omega))) ⟨h103, h106⟩ ?_
              refine an_val 11 (o_hround 1036900 11) (uN (Kec.g s (Kec.at_ x2 y2))) (by kernel_rfl) (by kernel_rfl) (by kernel_rfl) (by kernel_rfl) (by kernel_rfl) (fun W hS => exec_load_cell 45 (.tmp 65) (by kernel_rfl) ⟨ga, Kec.at_ x2 y2, none⟩ (by kernel_rfl) _ _ Try.underlying45 rfl ((cell_of_row _ _ _ _ _ _ (hS.1)).trans (Wz_get _ (Kec.at_ x2 y2) (by rw [hs]; omega)))) ⟨h103, h106⟩ ?_
              refine an_val 13 (o_hround 1036900 13) (uN ((Kec.g s (Kec.at_ x2 y2)) ^^^ ((Kec.col s ((x2 + 4) % 5)) ^^^ (Kec.rot (Kec.col s ((x2 + 1) % 5)) 1)))) (by kernel_rfl) (by kernel_rfl) (by kernel_rfl) (by kernel_rfl) (by kernel_rfl) (fun W hS => exec_cast (xorU (Kec.g s (Kec.at_ x2 y2)) ((Kec.col s ((x2 + 4) % 5)) ^^^ (Kec.rot (Kec.col s ((x2 + 1) % 5)) 1)) (ws _) (Kec.xor_lt (Kec.col_lt ws _) (Kec.rot_lt (Kec.col_lt ws _) _))) (by kernel_rfl)) ⟨h103, h106⟩ ?_
              refine an_one 16 (by kernel_rfl) ?_
              refine on_call (o_hround 1036900 16) 50 #[iN x2, iN y2] (by kernel_rfl) (by kernel_rfl) (by kernel_rfl) (by kernel_rfl) (enters_of Try.func50 (by kernel_rfl) rfl) ((hat_ok x2 y2 _ _ (by omega) (by omega) rfl).mono ?_)
              rintro e w1 ⟨rfl, rfl⟩
              refine ⟨_, rfl, ?_⟩
              refine ⟨⟨h103, h106⟩, ?_⟩
              refine an_val 17 (o_hround 1036900 17) (.pointer (some ⟨gt, Kec.at_ x2 y2, none⟩)) (by kernel_rfl) (by kernel_rfl) (by kernel_rfl) (by kernel_rfl) (by kernel_rfl) (fun W hS => exec_cast (v := .pointer (some ⟨gt, 0 + (Kec.at_ x2 y2) * 1, none⟩)) (by simp) (exec_indexAt_arr 77 (.tmp 8) (.tmp 71) (by kernel_rfl) gt 0 (by kernel_rfl) .i64 (Kec.at_ x2 y2) (by kernel_rfl) _ _ 1 Try.underlying77 (by kernel_rfl) (by omega))) ⟨h103, h106⟩ ?_
              refine an_val 18 (o_hround 1036900 18) (iN (Kec.g Kec.R (Kec.at_ x2 y2))) (by kernel_rfl) (by kernel_rfl) (by kernel_rfl) (by kernel_rfl) (by kernel_rfl) (fun W hS => exec_load_cell 3 (.tmp 72) (by kernel_rfl) ⟨gt, Kec.at_ x2 y2, none⟩ (by kernel_rfl) _ _ Try.underlying3 rfl ((cell_of_row _ _ _ _ _ _ (hS.2)).trans (Rz_get (Kec.at_ x2 y2) (by omega)))) ⟨h103, h106⟩ ?_
              refine an_one 19 (by kernel_rfl) ?_
              refine on_call (o_hround 1036900 19) 52 #[uN ((Kec.g s (Kec.at_ x2 y2)) ^^^ ((Kec.col s ((x2 + 4) % 5)) ^^^ (Kec.rot (Kec.col s ((x2 + 1) % 5)) 1))), iN (Kec.g Kec.R (Kec.at_ x2 y2))] (by kernel_rfl) (by kernel_rfl) (by kernel_rfl) (by kernel_rfl) (enters_of Try.func52 (by kernel_rfl) rfl) ((hrot_ok ((Kec.g s (Kec.at_ x2 y2)) ^^^ ((Kec.col s ((x2 + 4) % 5)) ^^^ (Kec.rot (Kec.col s ((x2 + 1) % 5)) 1))) (Kec.g Kec.R (Kec.at_ x2 y2)) _ (Kec.xor_lt (ws _) (Kec.xor_lt (Kec.col_lt ws _) (Kec.rot_lt (Kec.col_lt ws _) _))) (Kec.R_lt' _ (by omega))).mono ?_)
              rintro e V109 ⟨rfl, kV109⟩
              refine ⟨_, rfl, ?_⟩
              have h110 : V109.heap[ga]? = some (.cells (Wz s) 46 (0, 0)) := (kV109.block ga (lt_of_block h103) (fun x => x)).trans h103
              have h111 : V109.heap[gr]? = some (.cells (zr_u64_25) 46 (0, 0)) := (kV109.block gr (lt_of_block h104) (fun x => x)).trans h104
              have h112 : V109.heap[gc]? = some (.cells (Wz ((List.range 5).map (Kec.col s))) 76 (0, 0)) := (kV109.block gc (lt_of_block h105) (fun x => x)).trans h105
              have h113 : V109.heap[gt]? = some (.cells Rz 77 (0, 0)) := (kV109.block gt (lt_of_block h106) (fun x => x)).trans h106
              have h114 : V109.heap[gb]? = some (.cells (Wz (mmn s (5 * x2 + y2))) 46 (0, 0)) := (kV109.block gb (lt_of_block h107) (fun x => x)).trans h107
              have K115 : Keeps Nob w V109 := K108.then kV109 (fun _ _ x => x.elim)
              refine ⟨⟨h110, h113⟩, ?_⟩
              refine an_val 20 (o_hround 1036900 20) (.pointer (some ⟨gb, Kec.at_ y2 ((2 * x2) + (3 * y2)), none⟩)) (by kernel_rfl) (by kernel_rfl) (by kernel_rfl) (by kernel_rfl) (by kernel_rfl) (fun W hS => exec_cast (v := .pointer (some ⟨gb, 0 + (Kec.at_ y2 ((2 * x2) + (3 * y2))) * 1, none⟩)) (by simp) (exec_indexAt_arr 46 (.tmp 9) (.tmp 61) (by kernel_rfl) gb 0 (by kernel_rfl) .i64 (Kec.at_ y2 ((2 * x2) + (3 * y2))) (by kernel_rfl) _ _ 1 Try.underlying46 (by kernel_rfl) (by omega))) ⟨h110, h113⟩ ?_
              refine an_one 21 (by kernel_rfl) ?_
              obtain ⟨V116, eV116⟩ : ∃ V, V109.setCell ⟨gb, Kec.at_ y2 ((2 * x2) + (3 * y2)), none⟩ (.int .u64 ((Kec.rot ((Kec.g s (Kec.at_ x2 y2)) ^^^ ((Kec.col s ((x2 + 4) % 5)) ^^^ (Kec.rot (Kec.col s ((x2 + 1) % 5)) 1))) (Kec.g Kec.R (Kec.at_ x2 y2)) : Nat) : Int)) = V := ⟨_, rfl⟩
              have kV116 : Keeps (One gb) V109 V116 := eV116 ▸ (Keeps.refl _ _).setOne _
              have h117 : V116.heap[gb]? = some (.cells (Wz (mmn s (5 * x2 + (y2 + 1)))) 46 (0, 0)) := eV116 ▸ ((heap_setCell_same _ gb (Kec.at_ y2 ((2 * x2) + (3 * y2))) _ _ (.int .u64 ((Kec.rot ((Kec.g s (Kec.at_ x2 y2)) ^^^ ((Kec.col s ((x2 + 4) % 5)) ^^^ (Kec.rot (Kec.col s ((x2 + 1) % 5)) 1))) (Kec.g Kec.R (Kec.at_ x2 y2)) : Nat) : Int)) h114).trans (congrArg (fun c => some (Obj.cells c 46 (0, 0))) (show (Wz (mmn s (5 * x2 + y2)) : Array Value).setIfInBounds (Kec.at_ y2 ((2 * x2) + (3 * y2))) (.int .u64 ((Kec.rot ((Kec.g s (Kec.at_ x2 y2)) ^^^ ((Kec.col s ((x2 + 4) % 5)) ^^^ (Kec.rot (Kec.col s ((x2 + 1) % 5)) 1))) (Kec.g Kec.R (Kec.at_ x2 y2)) : Nat) : Int)) = Wz (mmn s (5 * x2 + (y2 + 1))) from by rw [Wz_set]; exact congrArg Wz (mmn_succ s x2 y2 lt_y2))))
              refine on_skip (o_hround 1036900 21) (w' := V116) (by kernel_rfl) (by kernel_rfl) (by rw [← eV116]; exact exec_store_cell 45 (.tmp 75) (.tmp 74) (by kernel_rfl) gb (Kec.at_ y2 ((2 * x2) + (3 * y2))) (by kernel_rfl) (uN (Kec.rot ((Kec.g s (Kec.at_ x2 y2)) ^^^ ((Kec.col s ((x2 + 4) % 5)) ^^^ (Kec.rot (Kec.col s ((x2 + 1) % 5)) 1))) (Kec.g Kec.R (Kec.at_ x2 y2)))) (by kernel_rfl) (by kernel_rfl) (by kernel_rfl) (uN (Kec.g (mmn s (5 * x2 + y2)) (Kec.at_ y2 ((2 * x2) + (3 * y2))))) ((cell_of_row _ _ _ _ _ _ (h114)).trans (Wz_get _ (Kec.at_ y2 ((2 * x2) + (3 * y2))) (by rw [mmn_len]; omega))) (frozen_of_row _ _ _ _ _ h114) (by kernel_rfl)) ?_
              clear eV116
              have h118 : V116.heap[ga]? = some (.cells (Wz s) 46 (0, 0)) := (kV116.block ga (lt_of_block h110) (fun e => by unfold Own.One at e; omega)).trans h110
              have h119 : V116.heap[gr]? = some (.cells (zr_u64_25) 46 (0, 0)) := (kV116.block gr (lt_of_block h111) (fun e => by unfold Own.One at e; omega)).trans h111
              have h120 : V116.heap[gc]? = some (.cells (Wz ((List.range 5).map (Kec.col s))) 76 (0, 0)) := (kV116.block gc (lt_of_block h112) (fun e => by unfold Own.One at e; omega)).trans h112
              have h121 : V116.heap[gt]? = some (.cells Rz 77 (0, 0)) := (kV116.block gt (lt_of_block h113) (fun e => by unfold Own.One at e; omega)).trans h113
              have K122 : Keeps Nob w V116 := K115.then kV116 (fun i hi hm => absurd hi (by unfold Own.One at hm; omega))
              refine ⟨⟨h118, h121⟩, ?_⟩
              refine an_end (by kernel_rfl) ?_
              refine sy_a ⟨#[.agg (Wz s), uN k, pT ga 0, undef, pT gr 0, pT gc 0, iN x, u7, pT gt 0, pT gb 0, iN x2, uN ((Kec.col s ((x2 + 4) % 5)) ^^^ (Kec.rot (Kec.col s ((x2 + 1) % 5)) 1)), iN y2, undef, undef, iN x, .bool false, u17, u18, u19, u20, u21, u22, u23, u24, u25, u26, u27, u28, u29, u30, u31, u32, u33, .agg Rz, iN x2, .bool true, u37, u38, iN x2, iN (x2 + 4), iN ((x2 + 4) % 5), .pointer (some ⟨gc, (x2 + 4) % 5, none⟩), uN (Kec.col s ((x2 + 4) % 5)), iN x2, iN (x2 + 1), iN ((x2 + 1) % 5), .pointer (some ⟨gc, (x2 + 1) % 5, none⟩), uN (Kec.col s ((x2 + 1) % 5)), uN (Kec.rot (Kec.col s ((x2 + 1) % 5)) 1), uN ((Kec.col s ((x2 + 4) % 5)) ^^^ (Kec.rot (Kec.col s ((x2 + 1) % 5)) 1)), iN y2, .bool true, u53, u54, iN y2, iN x2, iN (2 * x2), iN y2, iN (3 * y2), iN ((2 * x2) + (3 * y2)), iN (Kec.at_ y2 ((2 * x2) + (3 * y2))), iN x2, iN y2, iN (Kec.at_ x2 y2), .pointer (some ⟨ga, Kec.at_ x2 y2, none⟩), uN (Kec.g s (Kec.at_ x2 y2)), uN ((Kec.col s ((x2 + 4) % 5)) ^^^ (Kec.rot (Kec.col s ((x2 + 1) % 5)) 1)), uN ((Kec.g s (Kec.at_ x2 y2)) ^^^ ((Kec.col s ((x2 + 4) % 5)) ^^^ (Kec.rot (Kec.col s ((x2 + 1) % 5)) 1))), iN x2, iN y2, iN (Kec.at_ x2 y2), .pointer (some ⟨gt, Kec.at_ x2 y2, none⟩), iN (Kec.g Kec.R (Kec.at_ x2 y2)), uN (Kec.rot ((Kec.g s (Kec.at_ x2 y2)) ^^^ ((Kec.col s ((x2 + 4) % 5)) ^^^ (Kec.rot (Kec.col s ((x2 + 1) % 5)) 1))) (Kec.g Kec.R (Kec.at_ x2 y2))), .pointer (some ⟨gb, Kec.at_ y2 ((2 * x2) + (3 * y2)), none⟩), undef, undef, undef, undef, undef, undef, undef, undef, undef, undef, undef, undef, undef, undef, undef, undef, undef, undef, undef, undef, undef, undef, undef, undef, undef, undef, undef, undef, undef, undef, undef, undef, undef, undef, undef, undef, undef, undef], []⟩ ?_
              refine blk_n ?_
              refine then_n ?_
              refine sy_reg ?_
              refine rg_plain 17 (opsAt (part_hround 518451)) [0, 1, 2] (by kernel_rfl) (by kernel_rfl) ?_
              refine ps_k (o_hround 518451 0) (iN y2) ?_
              refine ps_p (o_hround 518451 1) (iN (y2 + 1)) (exec_cast (congrArg (Value.int .i64) (wrapN (y2 + 1) (by omega))) (by kernel_rfl)) ?_
              refine ps_k (o_hround 518451 2) (iN (y2 + 1)) ?_
              refine ps_end ?_
              refine sy_a ⟨#[.agg (Wz s), uN k, pT ga 0, undef, pT gr 0, pT gc 0, iN x, u7, pT gt 0, pT gb 0, iN x2, uN ((Kec.col s ((x2 + 4) % 5)) ^^^ (Kec.rot (Kec.col s ((x2 + 1) % 5)) 1)), iN (y2 + 1), undef, undef, iN x, .bool false, u17, u18, u19, u20, u21, u22, u23, u24, u25, u26, u27, u28, u29, u30, u31, u32, u33, .agg Rz, iN x2, .bool true, u37, u38, iN x2, iN (x2 + 4), iN ((x2 + 4) % 5), .pointer (some ⟨gc, (x2 + 4) % 5, none⟩), uN (Kec.col s ((x2 + 4) % 5)), iN x2, iN (x2 + 1), iN ((x2 + 1) % 5), .pointer (some ⟨gc, (x2 + 1) % 5, none⟩), uN (Kec.col s ((x2 + 1) % 5)), uN (Kec.rot (Kec.col s ((x2 + 1) % 5)) 1), uN ((Kec.col s ((x2 + 4) % 5)) ^^^ (Kec.rot (Kec.col s ((x2 + 1) % 5)) 1)), iN y2, .bool true, iN y2, iN (y2 + 1), iN y2, iN x2, iN (2 * x2), iN y2, iN (3 * y2), iN ((2 * x2) + (3 * y2)), iN (Kec.at_ y2 ((2 * x2) + (3 * y2))), iN x2, iN y2, iN (Kec.at_ x2 y2), .pointer (some ⟨ga, Kec.at_ x2 y2, none⟩), uN (Kec.g s (Kec.at_ x2 y2)), uN ((Kec.col s ((x2 + 4) % 5)) ^^^ (Kec.rot (Kec.col s ((x2 + 1) % 5)) 1)), uN ((Kec.g s (Kec.at_ x2 y2)) ^^^ ((Kec.col s ((x2 + 4) % 5)) ^^^ (Kec.rot (Kec.col s ((x2 + 1) % 5)) 1))), iN x2, iN y2, iN (Kec.at_ x2 y2), .pointer (some ⟨gt, Kec.at_ x2 y2, none⟩), iN (Kec.g Kec.R (Kec.at_ x2 y2)), uN (Kec.rot ((Kec.g s (Kec.at_ x2 y2)) ^^^ ((Kec.col s ((x2 + 4) % 5)) ^^^ (Kec.rot (Kec.col s ((x2 + 1) % 5)) 1))) (Kec.g Kec.R (Kec.at_ x2 y2))), .pointer (some ⟨gb, Kec.at_ y2 ((2 * x2) + (3 * y2)), none⟩), undef, undef, undef, undef, undef, undef, undef, undef, undef, undef, undef, undef, undef, undef, undef, undef, undef, undef, undef, undef, undef, undef, undef, undef, undef, undef, undef, undef, undef, undef, undef, undef, undef, undef, undef, undef, undef, undef], []⟩ ?_
              refine then_n ?_
              refine ⟨⟨y2 + 1, (iN y2), (.bool true), (iN y2), (iN (y2 + 1)), (iN y2), (iN x2), (iN (2 * x2)), (iN y2), (iN (3 * y2)), (iN ((2 * x2) + (3 * y2))), (iN (Kec.at_ y2 ((2 * x2) + (3 * y2)))), (iN x2), (iN y2), (iN (Kec.at_ x2 y2)), (.pointer (some ⟨ga, Kec.at_ x2 y2, none⟩)), (uN (Kec.g s (Kec.at_ x2 y2))), (uN ((Kec.col s ((x2 + 4) % 5)) ^^^ (Kec.rot (Kec.col s ((x2 + 1) % 5)) 1))), (uN ((Kec.g s (Kec.at_ x2 y2)) ^^^ ((Kec.col s ((x2 + 4) % 5)) ^^^ (Kec.rot (Kec.col s ((x2 + 1) % 5)) 1)))), (iN x2), (iN y2), (iN (Kec.at_ x2 y2)), (.pointer (some ⟨gt, Kec.at_ x2 y2, none⟩)), (iN (Kec.g Kec.R (Kec.at_ x2 y2))), (uN (Kec.rot ((Kec.g s (Kec.at_ x2 y2)) ^^^ ((Kec.col s ((x2 + 4) % 5)) ^^^ (Kec.rot (Kec.col s ((x2 + 1) % 5)) 1))) (Kec.g Kec.R (Kec.at_ x2 y2)))), (.pointer (some ⟨gb, Kec.at_ y2 ((2 * x2) + (3 * y2)), none⟩)), by kernel_rfl, by omega, h118, h119, h120, h121, h117, K122⟩, ?_⟩
              exact lt_meas (x := 5 - (y2 + 1)) (y := 5 - y2) (by kernel_rfl) (by kernel_rfl) (by omega)
            · have eq_y2 : y2 = 5 := by omega
              refine sy_sq (part_hround 259224) (part_hround 259225) ?_
              refine sy_sq (part_hround 518448) (part_hround 518449) ?_
              refine sy_reg ?_
              refine rg_plain 16 (opsAt (part_hround 518448)) [0, 1] (by kernel_rfl) (by kernel_rfl) ?_
              refine ps_k (o_hround 518448 0) (iN y2) ?_
              refine ps_p (o_hround 518448 1) (.bool false) (exec_cast (congrArg Value.bool (show (decide ((((y2 : Nat) : Int)) < ((5) : Int))) = false from by simp only [decide_eq_false_iff_not]; omega)) (by kernel_rfl)) ?_
              refine ps_end ?_
              refine sy_a ⟨#[.agg (Wz s), uN k, pT ga 0, undef, pT gr 0, pT gc 0, iN x, u7, pT gt 0, pT gb 0, iN x2, uN ((Kec.col s ((x2 + 4) % 5)) ^^^ (Kec.rot (Kec.col s ((x2 + 1) % 5)) 1)), iN y2, undef, undef, iN x, .bool false, u17, u18, u19, u20, u21, u22, u23, u24, u25, u26, u27, u28, u29, u30, u31, u32, u33, .agg Rz, iN x2, .bool true, u37, u38, iN x2, iN (x2 + 4), iN ((x2 + 4) % 5), .pointer (some ⟨gc, (x2 + 4) % 5, none⟩), uN (Kec.col s ((x2 + 4) % 5)), iN x2, iN (x2 + 1), iN ((x2 + 1) % 5), .pointer (some ⟨gc, (x2 + 1) % 5, none⟩), uN (Kec.col s ((x2 + 1) % 5)), uN (Kec.rot (Kec.col s ((x2 + 1) % 5)) 1), uN ((Kec.col s ((x2 + 4) % 5)) ^^^ (Kec.rot (Kec.col s ((x2 + 1) % 5)) 1)), iN y2, .bool false, u53, u54, u55, u56, u57, u58, u59, u60, u61, u62, u63, u64, u65, u66, u67, u68, u69, u70, u71, u72, u73, u74, u75, undef, undef, undef, undef, undef, undef, undef, undef, undef, undef, undef, undef, undef, undef, undef, undef, undef, undef, undef, undef, undef, undef, undef, undef, undef, undef, undef, undef, undef, undef, undef, undef, undef, undef, undef, undef, undef, undef], []⟩ ?_
              refine then_n ?_
              refine sy_n (.tmp 52) (part_hround 1036898) (part_hround 1036899) ?_
              refine sy_exit 6 (by kernel_rfl) ?_
              refine then_e ?_
              refine then_e ?_
              refine blk_e ?_
              refine blk_n ?_
              refine then_n ?_
              refine sy_reg ?_
              refine rg_plain 13 (opsAt (part_hround 4051)) [0, 1, 2] (by kernel_rfl) (by kernel_rfl) ?_
              refine ps_k (o_hround 4051 0) (iN x2) ?_
              refine ps_p (o_hround 4051 1) (iN (x2 + 1)) (exec_cast (congrArg (Value.int .i64) (wrapN (x2 + 1) (by omega))) (by kernel_rfl)) ?_
              refine ps_k (o_hround 4051 2) (iN (x2 + 1)) ?_
              refine ps_end ?_
              refine sy_a ⟨#[.agg (Wz s), uN k, pT ga 0, undef, pT gr 0, pT gc 0, iN x, u7, pT gt 0, pT gb 0, iN (x2 + 1), uN ((Kec.col s ((x2 + 4) % 5)) ^^^ (Kec.rot (Kec.col s ((x2 + 1) % 5)) 1)), iN y2, undef, undef, iN x, .bool false, u17, u18, u19, u20, u21, u22, u23, u24, u25, u26, u27, u28, u29, u30, u31, u32, u33, .agg Rz, iN x2, .bool true, iN x2, iN (x2 + 1), iN x2, iN (x2 + 4), iN ((x2 + 4) % 5), .pointer (some ⟨gc, (x2 + 4) % 5, none⟩), uN (Kec.col s ((x2 + 4) % 5)), iN x2, iN (x2 + 1), iN ((x2 + 1) % 5), .pointer (some ⟨gc, (x2 + 1) % 5, none⟩), uN (Kec.col s ((x2 + 1) % 5)), uN (Kec.rot (Kec.col s ((x2 + 1) % 5)) 1), uN ((Kec.col s ((x2 + 4) % 5)) ^^^ (Kec.rot (Kec.col s ((x2 + 1) % 5)) 1)), iN y2, .bool false, u53, u54, u55, u56, u57, u58, u59, u60, u61, u62, u63, u64, u65, u66, u67, u68, u69, u70, u71, u72, u73, u74, u75, undef, undef, undef, undef, undef, undef, undef, undef, undef, undef, undef, undef, undef, undef, undef, undef, undef, undef, undef, undef, undef, undef, undef, undef, undef, undef, undef, undef, undef, undef, undef, undef, undef, undef, undef, undef, undef, undef], []⟩ ?_
              refine then_n ?_
              refine ⟨⟨x2 + 1, (uN ((Kec.col s ((x2 + 4) % 5)) ^^^ (Kec.rot (Kec.col s ((x2 + 1) % 5)) 1))), (iN y2), (iN x2), (.bool true), (iN x2), (iN (x2 + 1)), (iN x2), (iN (x2 + 4)), (iN ((x2 + 4) % 5)), (.pointer (some ⟨gc, (x2 + 4) % 5, none⟩)), (uN (Kec.col s ((x2 + 4) % 5))), (iN x2), (iN (x2 + 1)), (iN ((x2 + 1) % 5)), (.pointer (some ⟨gc, (x2 + 1) % 5, none⟩)), (uN (Kec.col s ((x2 + 1) % 5))), (uN (Kec.rot (Kec.col s ((x2 + 1) % 5)) 1)), (uN ((Kec.col s ((x2 + 4) % 5)) ^^^ (Kec.rot (Kec.col s ((x2 + 1) % 5)) 1))), (iN y2), (.bool false), u53, u54, u55, u56, u57, u58, u59, u60, u61, u62, u63, u64, u65, u66, u67, u68, u69, u70, u71, u72, u73, u74, u75, by kernel_rfl, by omega, h96, h97, h98, h99, h100.trans (congrArg (fun n => some (Obj.cells (Wz (mmn s n)) 46 (0, 0))) (show 5 * x2 + y2 = 5 * (x2 + 1) by omega)), K101⟩, ?_⟩
              exact lt_meas (x := 5 - (x2 + 1)) (y := 5 - x2) (by kernel_rfl) (by kernel_rfl) (by omega)
        · have eq_x2 : x2 = 5 := by omega
          have h123 : V74.heap[gb]? = some (.cells (Wz (Kec.moves (Kec.columns s))) 46 (0, 0)) := (h79.trans (congrArg (fun n => some (Obj.cells (Wz (mmn s n)) 46 (0, 0))) (show 5 * x2 = 25 by omega))).trans (congrArg (fun l => some (Obj.cells (Wz l) 46 (0, 0))) (mmn_all s))
          refine sy_sq (part_hround 2024) (part_hround 2025) ?_
          refine sy_sq (part_hround 4048) (part_hround 4049) ?_
          refine sy_reg ?_
          refine rg_plain 12 (opsAt (part_hround 4048)) [0, 1] (by kernel_rfl) (by kernel_rfl) ?_
          refine ps_k (o_hround 4048 0) (iN x2) ?_
          refine ps_p (o_hround 4048 1) (.bool false) (exec_cast (congrArg Value.bool (show (decide ((((x2 : Nat) : Int)) < ((5) : Int))) = false from by simp only [decide_eq_false_iff_not]; omega)) (by kernel_rfl)) ?_
          refine ps_end ?_
          refine sy_a ⟨#[.agg (Wz s), uN k, pT ga 0, undef, pT gr 0, pT gc 0, iN x, u7, pT gt 0, pT gb 0, iN x2, u11, u12, undef, undef, iN x, .bool false, u17, u18, u19, u20, u21, u22, u23, u24, u25, u26, u27, u28, u29, u30, u31, u32, u33, .agg Rz, iN x2, .bool false, u37, u38, u39, u40, u41, u42, u43, u44, u45, u46, u47, u48, u49, u50, u51, u52, u53, u54, u55, u56, u57, u58, u59, u60, u61, u62, u63, u64, u65, u66, u67, u68, u69, u70, u71, u72, u73, u74, u75, undef, undef, undef, undef, undef, undef, undef, undef, undef, undef, undef, undef, undef, undef, undef, undef, undef, undef, undef, undef, undef, undef, undef, undef, undef, undef, undef, undef, undef, undef, undef, undef, undef, undef, undef, undef, undef, undef], []⟩ ?_
          refine then_n ?_
          refine sy_n (.tmp 36) (part_hround 8098) (part_hround 8099) ?_
          refine sy_exit 4 (by kernel_rfl) ?_
          refine then_e ?_
          refine then_e ?_
          refine blk_e ?_
          refine then_n ?_
          refine sy_sq (part_hround 254) (part_hround 255) ?_
          refine sy_sq (part_hround 508) (part_hround 509) ?_
          refine sy_reg ?_
          refine rg_plain 19 (opsAt (part_hround 508)) [0] (by kernel_rfl) (by kernel_rfl) ?_
          refine ps_k (o_hround 508 0) (.int .i64 0) ?_
          refine ps_end ?_
          refine sy_a ⟨#[.agg (Wz s), uN k, pT ga 0, undef, pT gr 0, pT gc 0, iN x, u7, pT gt 0, pT gb 0, iN x2, u11, u12, .int .i64 0, undef, iN x, .bool false, u17, u18, u19, u20, u21, u22, u23, u24, u25, u26, u27, u28, u29, u30, u31, u32, u33, .agg Rz, iN x2, .bool false, u37, u38, u39, u40, u41, u42, u43, u44, u45, u46, u47, u48, u49, u50, u51, u52, u53, u54, u55, u56, u57, u58, u59, u60, u61, u62, u63, u64, u65, u66, u67, u68, u69, u70, u71, u72, u73, u74, u75, undef, undef, undef, undef, undef, undef, undef, undef, undef, undef, undef, undef, undef, undef, undef, undef, undef, undef, undef, undef, undef, undef, undef, undef, undef, undef, undef, undef, undef, undef, undef, undef, undef, undef, undef, undef, undef, undef], []⟩ ?_
          refine then_n ?_
          refine sy_bk 8 (part_hround 1018) ?_
          refine sy_loop (part_hround 2036) (fun a V => ∃ (x3 : Nat) (u14 u76 u77 u78 u79 u80 u81 u82 u83 u84 u85 u86 u87 u88 u89 u90 u91 u92 u93 u94 u95 u96 u97 u98 u99 u100 u101 u102 u103 u104 u105 u106 u107 : Value), (a = ⟨#[.agg (Wz s), uN k, pT ga 0, undef, pT gr 0, pT gc 0, iN x, u7, pT gt 0, pT gb 0, iN x2, u11, u12, iN x3, u14, iN x, .bool false, u17, u18, u19, u20, u21, u22, u23, u24, u25, u26, u27, u28, u29, u30, u31, u32, u33, .agg Rz, iN x2, .bool false, u37, u38, u39, u40, u41, u42, u43, u44, u45, u46, u47, u48, u49, u50, u51, u52, u53, u54, u55, u56, u57, u58, u59, u60, u61, u62, u63, u64, u65, u66, u67, u68, u69, u70, u71, u72, u73, u74, u75, u76, u77, u78, u79, u80, u81, u82, u83, u84, u85, u86, u87, u88, u89, u90, u91, u92, u93, u94, u95, u96, u97, u98, u99, u100, u101, u102, u103, u104, u105, u106, u107, undef, undef, undef, undef, undef, undef], []⟩) ∧ (x3 ≤ 5) ∧ (V.heap[ga]? = some (.cells (Wz (xxn (Kec.moves (Kec.columns s)) (5 * x3) s)) 46 (0, 0))) ∧ (V.heap[gr]? = some (.cells (zr_u64_25) 46 (0, 0))) ∧ (V.heap[gc]? = some (.cells (Wz ((List.range 5).map (Kec.col s))) 76 (0, 0))) ∧ (V.heap[gt]? = some (.cells Rz 77 (0, 0))) ∧ (V.heap[gb]? = some (.cells (Wz (Kec.moves (Kec.columns s))) 46 (0, 0))) ∧ (Keeps Nob w V)) (fun a _ => 5 - (intOf (a.tmps.getD 13 undef)).toNat) (by kernel_rfl) ?_ ?_
          · exact ⟨0, undef, undef, undef, undef, undef, undef, undef, undef, undef, undef, undef, undef, undef, undef, undef, undef, undef, undef, undef, undef, undef, undef, undef, undef, undef, undef, undef, undef, undef, undef, undef, undef, undef, by kernel_rfl, by omega, h75, h76, h77, h78, h123, K80⟩
          · rintro a V124 ⟨x3, u14, u76, u77, u78, u79, u80, u81, u82, u83, u84, u85, u86, u87, u88, u89, u90, u91, u92, u93, u94, u95, u96, u97, u98, u99, u100, u101, u102, u103, u104, u105, u106, u107, rfl, hx3, h125, h126, h127, h128, h129, K130⟩
            by_cases lt_x3 : x3 < 5
            · show _
              refine sy_sq (part_hround 4072) (part_hround 4073) ?_
              refine sy_sq (part_hround 8144) (part_hround 8145) ?_
              refine sy_reg ?_
              refine rg_plain 20 (opsAt (part_hround 8144)) [0, 1] (by kernel_rfl) (by kernel_rfl) ?_
              refine ps_k (o_hround 8144 0) (iN x3) ?_
              refine ps_p (o_hround 8144 1) (.bool true) (exec_cast (congrArg Value.bool (show (decide ((((x3 : Nat) : Int)) < ((5) : Int))) = true from by simp only [decide_eq_true_eq]; omega)) (by kernel_rfl)) ?_
              refine ps_end ?_
              refine sy_a ⟨#[.agg (Wz s), uN k, pT ga 0, undef, pT gr 0, pT gc 0, iN x, u7, pT gt 0, pT gb 0, iN x2, u11, u12, iN x3, u14, iN x, .bool false, u17, u18, u19, u20, u21, u22, u23, u24, u25, u26, u27, u28, u29, u30, u31, u32, u33, .agg Rz, iN x2, .bool false, u37, u38, u39, u40, u41, u42, u43, u44, u45, u46, u47, u48, u49, u50, u51, u52, u53, u54, u55, u56, u57, u58, u59, u60, u61, u62, u63, u64, u65, u66, u67, u68, u69, u70, u71, u72, u73, u74, u75, iN x3, .bool true, u78, u79, u80, u81, u82, u83, u84, u85, u86, u87, u88, u89, u90, u91, u92, u93, u94, u95, u96, u97, u98, u99, u100, u101, u102, u103, u104, u105, u106, u107, undef, undef, undef, undef, undef, undef], []⟩ ?_
              refine then_n ?_
              refine sy_ys (.tmp 77) (part_hround 16290) (part_hround 16291) ?_
              refine sy_sk ?_
              refine then_n ?_
              refine sy_sq (part_hround 8146) (part_hround 8147) ?_
              refine sy_bk 9 (part_hround 16292) ?_
              refine sy_sq (part_hround 32584) (part_hround 32585) ?_
              refine sy_reg ?_
              refine rg_plain 22 (opsAt (part_hround 32584)) [0] (by kernel_rfl) (by kernel_rfl) ?_
              refine ps_k (o_hround 32584 0) (.int .i64 0) ?_
              refine ps_end ?_
              refine sy_a ⟨#[.agg (Wz s), uN k, pT ga 0, undef, pT gr 0, pT gc 0, iN x, u7, pT gt 0, pT gb 0, iN x2, u11, u12, iN x3, .int .i64 0, iN x, .bool false, u17, u18, u19, u20, u21, u22, u23, u24, u25, u26, u27, u28, u29, u30, u31, u32, u33, .agg Rz, iN x2, .bool false, u37, u38, u39, u40, u41, u42, u43, u44, u45, u46, u47, u48, u49, u50, u51, u52, u53, u54, u55, u56, u57, u58, u59, u60, u61, u62, u63, u64, u65, u66, u67, u68, u69, u70, u71, u72, u73, u74, u75, iN x3, .bool true, u78, u79, u80, u81, u82, u83, u84, u85, u86, u87, u88, u89, u90, u91, u92, u93, u94, u95, u96, u97, u98, u99, u100, u101, u102, u103, u104, u105, u106, u107, undef, undef, undef, undef, undef, undef], []⟩ ?_
              refine then_n ?_
              refine sy_bk 10 (part_hround 65170) ?_
              refine sy_loop (part_hround 130340) (fun a V => ∃ (y3 : Nat) (u80 u81 u82 u83 u84 u85 u86 u87 u88 u89 u90 u91 u92 u93 u94 u95 u96 u97 u98 u99 u100 u101 u102 u103 u104 u105 u106 u107 : Value), (a = ⟨#[.agg (Wz s), uN k, pT ga 0, undef, pT gr 0, pT gc 0, iN x, u7, pT gt 0, pT gb 0, iN x2, u11, u12, iN x3, iN y3, iN x, .bool false, u17, u18, u19, u20, u21, u22, u23, u24, u25, u26, u27, u28, u29, u30, u31, u32, u33, .agg Rz, iN x2, .bool false, u37, u38, u39, u40, u41, u42, u43, u44, u45, u46, u47, u48, u49, u50, u51, u52, u53, u54, u55, u56, u57, u58, u59, u60, u61, u62, u63, u64, u65, u66, u67, u68, u69, u70, u71, u72, u73, u74, u75, iN x3, .bool true, u78, u79, u80, u81, u82, u83, u84, u85, u86, u87, u88, u89, u90, u91, u92, u93, u94, u95, u96, u97, u98, u99, u100, u101, u102, u103, u104, u105, u106, u107, undef, undef, undef, undef, undef, undef], []⟩) ∧ (y3 ≤ 5) ∧ (V.heap[ga]? = some (.cells (Wz (xxn (Kec.moves (Kec.columns s)) (5 * x3 + y3) s)) 46 (0, 0))) ∧ (V.heap[gr]? = some (.cells (zr_u64_25) 46 (0, 0))) ∧ (V.heap[gc]? = some (.cells (Wz ((List.range 5).map (Kec.col s))) 76 (0, 0))) ∧ (V.heap[gt]? = some (.cells Rz 77 (0, 0))) ∧ (V.heap[gb]? = some (.cells (Wz (Kec.moves (Kec.columns s))) 46 (0, 0))) ∧ (Keeps Nob w V)) (fun a _ => 5 - (intOf (a.tmps.getD 14 undef)).toNat) (by kernel_rfl) ?_ ?_
              · exact ⟨0, u80, u81, u82, u83, u84, u85, u86, u87, u88, u89, u90, u91, u92, u93, u94, u95, u96, u97, u98, u99, u100, u101, u102, u103, u104, u105, u106, u107, by kernel_rfl, by omega, h125, h126, h127, h128, h129, K130⟩
              · rintro a V131 ⟨y3, u80, u81, u82, u83, u84, u85, u86, u87, u88, u89, u90, u91, u92, u93, u94, u95, u96, u97, u98, u99, u100, u101, u102, u103, u104, u105, u106, u107, rfl, hy3, h132, h133, h134, h135, h136, K137⟩
                by_cases lt_y3 : y3 < 5
                · have ha1 := Kec.at_lt x3 y3
                  have ha2 := Kec.at_lt (x3 + 1) y3
                  have ha3 := Kec.at_lt (x3 + 2) y3
                  refine sy_sq (part_hround 260680) (part_hround 260681) ?_
                  refine sy_sq (part_hround 521360) (part_hround 521361) ?_
                  refine sy_reg ?_
                  refine rg_plain 23 (opsAt (part_hround 521360)) [0, 1] (by kernel_rfl) (by kernel_rfl) ?_
                  refine ps_k (o_hround 521360 0) (iN y3) ?_
                  refine ps_p (o_hround 521360 1) (.bool true) (exec_cast (congrArg Value.bool (show (decide ((((y3 : Nat) : Int)) < ((5) : Int))) = true from by simp only [decide_eq_true_eq]; omega)) (by kernel_rfl)) ?_
                  refine ps_end ?_
                  refine sy_a ⟨#[.agg (Wz s), uN k, pT ga 0, undef, pT gr 0, pT gc 0, iN x, u7, pT gt 0, pT gb 0, iN x2, u11, u12, iN x3, iN y3, iN x, .bool false, u17, u18, u19, u20, u21, u22, u23, u24, u25, u26, u27, u28, u29, u30, u31, u32, u33, .agg Rz, iN x2, .bool false, u37, u38, u39, u40, u41, u42, u43, u44, u45, u46, u47, u48, u49, u50, u51, u52, u53, u54, u55, u56, u57, u58, u59, u60, u61, u62, u63, u64, u65, u66, u67, u68, u69, u70, u71, u72, u73, u74, u75, iN x3, .bool true, u78, u79, iN y3, .bool true, u82, u83, u84, u85, u86, u87, u88, u89, u90, u91, u92, u93, u94, u95, u96, u97, u98, u99, u100, u101, u102, u103, u104, u105, u106, u107, undef, undef, undef, undef, undef, undef], []⟩ ?_
                  refine then_n ?_
                  refine sy_ys (.tmp 81) (part_hround 1042722) (part_hround 1042723) ?_
                  refine sy_sk ?_
                  refine then_n ?_
                  refine sy_sq (part_hround 521362) (part_hround 521363) ?_
                  refine sy_bk 11 (part_hround 1042724) ?_
                  refine sy_reg ?_
                  refine rg_still 25 24 (opsAt (part_hround 1042724)) [o_hround 1042724 0, o_hround 1042724 1, o_hround 1042724 2, o_hround 1042724 3, o_hround 1042724 4, o_hround 1042724 5, o_hround 1042724 6, o_hround 1042724 7, o_hround 1042724 8, o_hround 1042724 9, o_hround 1042724 10, o_hround 1042724 11, o_hround 1042724 12, o_hround 1042724 13, o_hround 1042724 14, o_hround 1042724 15, o_hround 1042724 16, o_hround 1042724 17, o_hround 1042724 18, o_hround 1042724 19, o_hround 1042724 20, o_hround 1042724 21, o_hround 1042724 22, o_hround 1042724 23] [o_hround 1042724 24] (by kernel_rfl) (by kernel_rfl) (by kernel_rfl) (by kernel_rfl) (by kernel_rfl) ?_
                  obtain ⟨V139, eV139⟩ : ∃ V, V131.drew = V := ⟨_, rfl⟩
                  have kV139 : Keeps Nob V131 V139 := eV139 ▸ (Keeps.refl _ _).drew
                  rw [eV139]
                  clear eV139
                  have h140 : V139.heap[ga]? = some (.cells (Wz (xxn (Kec.moves (Kec.columns s)) (5 * x3 + y3) s)) 46 (0, 0)) := (kV139.block ga (lt_of_block h132) (fun x => x)).trans h132
                  have h141 : V139.heap[gr]? = some (.cells (zr_u64_25) 46 (0, 0)) := (kV139.block gr (lt_of_block h133) (fun x => x)).trans h133
                  have h142 : V139.heap[gc]? = some (.cells (Wz ((List.range 5).map (Kec.col s))) 76 (0, 0)) := (kV139.block gc (lt_of_block h134) (fun x => x)).trans h134
                  have h143 : V139.heap[gt]? = some (.cells Rz 77 (0, 0)) := (kV139.block gt (lt_of_block h135) (fun x => x)).trans h135
                  have h144 : V139.heap[gb]? = some (.cells (Wz (Kec.moves (Kec.columns s))) 46 (0, 0)) := (kV139.block gb (lt_of_block h136) (fun x => x)).trans h136
                  have K145 : Keeps Nob w V139 := K137.then kV139 (fun _ _ x => x.elim)
                  refine st_k (o_hround 1042724 0) (iN x3) ?_
                  refine st_k (o_hround 1042724 1) (iN y3) ?_
                  refine st_call (o_hround 1042724 2) 50 #[iN x3, iN y3] (iN (Kec.at_ x3 y3)) (by kernel_rfl) (by kernel_rfl) (by kernel_rfl) (enters_of Try.func50 (by kernel_rfl) rfl) (hat_ok x3 y3 _ _ (by omega) (by omega) rfl) ?_
                  refine st_k (o_hround 1042724 3) (iN x3) ?_
                  refine st_k (o_hround 1042724 4) (iN y3) ?_
                  refine st_call (o_hround 1042724 5) 50 #[iN x3, iN y3] (iN (Kec.at_ x3 y3)) (by kernel_rfl) (by kernel_rfl) (by kernel_rfl) (enters_of Try.func50 (by kernel_rfl) rfl) (hat_ok x3 y3 _ _ (by omega) (by omega) rfl) ?_
                  refine st_p (o_hround 1042724 6) (.pointer (some ⟨gb, Kec.at_ x3 y3, none⟩)) (exec_cast (v := .pointer (some ⟨gb, 0 + (Kec.at_ x3 y3) * 1, none⟩)) (by simp) (exec_indexAt_arr 46 (.tmp 9) (.tmp 89) (by kernel_rfl) gb 0 (by kernel_rfl) .i64 (Kec.at_ x3 y3) (by kernel_rfl) _ _ 1 Try.underlying46 (by kernel_rfl) (by omega))) ?_
                  refine st_p (o_hround 1042724 7) (uN (Kec.g (Kec.moves (Kec.columns s)) (Kec.at_ x3 y3))) (exec_load_cell 45 (.tmp 90) (by kernel_rfl) ⟨gb, Kec.at_ x3 y3, none⟩ (by kernel_rfl) _ _ Try.underlying45 rfl ((cell_of_row _ _ _ _ _ _ (h144)).trans (Wz_get _ (Kec.at_ x3 y3) (by rw [Kec.len_moves]; omega)))) ?_
                  refine st_k (o_hround 1042724 8) (iN x3) ?_
                  refine st_p (o_hround 1042724 9) (iN (x3 + 1)) (exec_cast (congrArg (Value.int .i64) (wrapN (x3 + 1) (by omega))) (by kernel_rfl)) ?_
                  refine st_k (o_hround 1042724 10) (iN y3) ?_
                  refine st_call (o_hround 1042724 11) 50 #[iN (x3 + 1), iN y3] (iN (Kec.at_ (x3 + 1) y3)) (by kernel_rfl) (by kernel_rfl) (by kernel_rfl) (enters_of Try.func50 (by kernel_rfl) rfl) (hat_ok (x3 + 1) y3 _ _ (by omega) (by omega) rfl) ?_
                  refine st_p (o_hround 1042724 12) (.pointer (some ⟨gb, Kec.at_ (x3 + 1) y3, none⟩)) (exec_cast (v := .pointer (some ⟨gb, 0 + (Kec.at_ (x3 + 1) y3) * 1, none⟩)) (by simp) (exec_indexAt_arr 46 (.tmp 9) (.tmp 95) (by kernel_rfl) gb 0 (by kernel_rfl) .i64 (Kec.at_ (x3 + 1) y3) (by kernel_rfl) _ _ 1 Try.underlying46 (by kernel_rfl) (by omega))) ?_
                  refine st_p (o_hround 1042724 13) (uN (Kec.g (Kec.moves (Kec.columns s)) (Kec.at_ (x3 + 1) y3))) (exec_load_cell 45 (.tmp 96) (by kernel_rfl) ⟨gb, Kec.at_ (x3 + 1) y3, none⟩ (by kernel_rfl) _ _ Try.underlying45 rfl ((cell_of_row _ _ _ _ _ _ (h144)).trans (Wz_get _ (Kec.at_ (x3 + 1) y3) (by rw [Kec.len_moves]; omega)))) ?_
                  refine st_p (o_hround 1042724 14) (uN (Kec.W - 1 - (Kec.g (Kec.moves (Kec.columns s)) (Kec.at_ (x3 + 1) y3)))) (exec_cast (notU (Kec.g (Kec.moves (Kec.columns s)) (Kec.at_ (x3 + 1) y3)) (Kec.ws_moves (Kec.ws_columns ws) _)) (by kernel_rfl)) ?_
                  refine st_k (o_hround 1042724 15) (iN x3) ?_
                  refine st_p (o_hround 1042724 16) (iN (x3 + 2)) (exec_cast (congrArg (Value.int .i64) (wrapN (x3 + 2) (by omega))) (by kernel_rfl)) ?_
                  refine st_k (o_hround 1042724 17) (iN y3) ?_
                  refine st_call (o_hround 1042724 18) 50 #[iN (x3 + 2), iN y3] (iN (Kec.at_ (x3 + 2) y3)) (by kernel_rfl) (by kernel_rfl) (by kernel_rfl) (enters_of Try.func50 (by kernel_rfl) rfl) (hat_ok (x3 + 2) y3 _ _ (by omega) (by omega) rfl) ?_
                  refine st_p (o_hround 1042724 19) (.pointer (some ⟨gb, Kec.at_ (x3 + 2) y3, none⟩)) (exec_cast (v := .pointer (some ⟨gb, 0 + (Kec.at_ (x3 + 2) y3) * 1, none⟩)) (by simp) (exec_indexAt_arr 46 (.tmp 9) (.tmp 102) (by kernel_rfl) gb 0 (by kernel_rfl) .i64 (Kec.at_ (x3 + 2) y3) (by kernel_rfl) _ _ 1 Try.underlying46 (by kernel_rfl) (by omega))) ?_
                  refine st_p (o_hround 1042724 20) (uN (Kec.g (Kec.moves (Kec.columns s)) (Kec.at_ (x3 + 2) y3))) (exec_load_cell 45 (.tmp 103) (by kernel_rfl) ⟨gb, Kec.at_ (x3 + 2) y3, none⟩ (by kernel_rfl) _ _ Try.underlying45 rfl ((cell_of_row _ _ _ _ _ _ (h144)).trans (Wz_get _ (Kec.at_ (x3 + 2) y3) (by rw [Kec.len_moves]; omega)))) ?_
                  refine st_p (o_hround 1042724 21) (uN ((Kec.W - 1 - (Kec.g (Kec.moves (Kec.columns s)) (Kec.at_ (x3 + 1) y3))) &&& (Kec.g (Kec.moves (Kec.columns s)) (Kec.at_ (x3 + 2) y3)))) (exec_cast (andU (Kec.W - 1 - (Kec.g (Kec.moves (Kec.columns s)) (Kec.at_ (x3 + 1) y3))) (Kec.g (Kec.moves (Kec.columns s)) (Kec.at_ (x3 + 2) y3)) (Kec.sub_lt _) (Kec.ws_moves (Kec.ws_columns ws) _)) (by kernel_rfl)) ?_
                  refine st_p (o_hround 1042724 22) (uN ((Kec.g (Kec.moves (Kec.columns s)) (Kec.at_ x3 y3)) ^^^ ((Kec.W - 1 - (Kec.g (Kec.moves (Kec.columns s)) (Kec.at_ (x3 + 1) y3))) &&& (Kec.g (Kec.moves (Kec.columns s)) (Kec.at_ (x3 + 2) y3))))) (exec_cast (xorU (Kec.g (Kec.moves (Kec.columns s)) (Kec.at_ x3 y3)) ((Kec.W - 1 - (Kec.g (Kec.moves (Kec.columns s)) (Kec.at_ (x3 + 1) y3))) &&& (Kec.g (Kec.moves (Kec.columns s)) (Kec.at_ (x3 + 2) y3))) (Kec.ws_moves (Kec.ws_columns ws) _) (Kec.and_lt (Kec.ws_moves (Kec.ws_columns ws) _))) (by kernel_rfl)) ?_
                  refine st_p (o_hround 1042724 23) (.pointer (some ⟨ga, Kec.at_ x3 y3, none⟩)) (exec_cast (v := .pointer (some ⟨ga, 0 + (Kec.at_ x3 y3) * 1, none⟩)) (by simp) (exec_indexAt_arr 46 (.tmp 2) (.tmp 86) (by kernel_rfl) ga 0 (by kernel_rfl) .i64 (Kec.at_ x3 y3) (by kernel_rfl) _ _ 1 Try.underlying46 (by kernel_rfl) (by omega))) ?_
                  refine st_end ?_
                  obtain ⟨V146, eV146⟩ : ∃ V, V139.setCell ⟨ga, Kec.at_ x3 y3, none⟩ (.int .u64 (((Kec.g (Kec.moves (Kec.columns s)) (Kec.at_ x3 y3)) ^^^ ((Kec.W - 1 - (Kec.g (Kec.moves (Kec.columns s)) (Kec.at_ (x3 + 1) y3))) &&& (Kec.g (Kec.moves (Kec.columns s)) (Kec.at_ (x3 + 2) y3))) : Nat) : Int)) = V := ⟨_, rfl⟩
                  have kV146 : Keeps (One ga) V139 V146 := eV146 ▸ (Keeps.refl _ _).setOne _
                  have h147 : V146.heap[ga]? = some (.cells (Wz (xxn (Kec.moves (Kec.columns s)) (5 * x3 + (y3 + 1)) s)) 46 (0, 0)) := eV146 ▸ ((heap_setCell_same _ ga (Kec.at_ x3 y3) _ _ (.int .u64 (((Kec.g (Kec.moves (Kec.columns s)) (Kec.at_ x3 y3)) ^^^ ((Kec.W - 1 - (Kec.g (Kec.moves (Kec.columns s)) (Kec.at_ (x3 + 1) y3))) &&& (Kec.g (Kec.moves (Kec.columns s)) (Kec.at_ (x3 + 2) y3))) : Nat) : Int)) h140).trans (congrArg (fun c => some (Obj.cells c 46 (0, 0))) (show (Wz (xxn (Kec.moves (Kec.columns s)) (5 * x3 + y3) s) : Array Value).setIfInBounds (Kec.at_ x3 y3) (.int .u64 (((Kec.g (Kec.moves (Kec.columns s)) (Kec.at_ x3 y3)) ^^^ ((Kec.W - 1 - (Kec.g (Kec.moves (Kec.columns s)) (Kec.at_ (x3 + 1) y3))) &&& (Kec.g (Kec.moves (Kec.columns s)) (Kec.at_ (x3 + 2) y3))) : Nat) : Int)) = Wz (xxn (Kec.moves (Kec.columns s)) (5 * x3 + (y3 + 1)) s) from by rw [Wz_set]; exact congrArg Wz (xxn_succ s (Kec.moves (Kec.columns s)) x3 y3 lt_y3))))
                  refine ls_skip (o_hround 1042724 24) (w' := V146) (by kernel_rfl) (by rw [← eV146]; exact exec_store_cell 45 (.tmp 107) (.tmp 106) (by kernel_rfl) ga (Kec.at_ x3 y3) (by kernel_rfl) (.int .u64 (((Kec.g (Kec.moves (Kec.columns s)) (Kec.at_ x3 y3)) ^^^ ((Kec.W - 1 - (Kec.g (Kec.moves (Kec.columns s)) (Kec.at_ (x3 + 1) y3))) &&& (Kec.g (Kec.moves (Kec.columns s)) (Kec.at_ (x3 + 2) y3))) : Nat) : Int)) (by kernel_rfl) (by kernel_rfl) (by kernel_rfl) (.int .u64 ((Kec.g (xxn (Kec.moves (Kec.columns s)) (5 * x3 + y3) s) (Kec.at_ x3 y3) : Nat) : Int)) ((cell_of_row _ _ _ _ _ _ (h140)).trans (Wz_get _ (Kec.at_ x3 y3) (by rw [xxn_len, hs]; omega))) (frozen_of_row _ _ _ _ _ h140) (by kernel_rfl)) ?_
                  clear eV146
                  have h148 : V146.heap[gr]? = some (.cells (zr_u64_25) 46 (0, 0)) := (kV146.block gr (lt_of_block h141) (fun e => by unfold Own.One at e; omega)).trans h141
                  have h149 : V146.heap[gc]? = some (.cells (Wz ((List.range 5).map (Kec.col s))) 76 (0, 0)) := (kV146.block gc (lt_of_block h142) (fun e => by unfold Own.One at e; omega)).trans h142
                  have h150 : V146.heap[gt]? = some (.cells Rz 77 (0, 0)) := (kV146.block gt (lt_of_block h143) (fun e => by unfold Own.One at e; omega)).trans h143
                  have h151 : V146.heap[gb]? = some (.cells (Wz (Kec.moves (Kec.columns s))) 46 (0, 0)) := (kV146.block gb (lt_of_block h144) (fun e => by unfold Own.One at e; omega)).trans h144
                  have K152 : Keeps Nob w V146 := K145.then kV146 (fun i hi hm => absurd hi (by unfold Own.One at hm; omega))
                  refine ls_end ?_
                  refine sy_a ⟨#[.agg (Wz s), uN k, pT ga 0, undef, pT gr 0, pT gc 0, iN x, u7, pT gt 0, pT gb 0, iN x2, u11, u12, iN x3, iN y3, iN x, .bool false, u17, u18, u19, u20, u21, u22, u23, u24, u25, u26, u27, u28, u29, u30, u31, u32, u33, .agg Rz, iN x2, .bool false, u37, u38, u39, u40, u41, u42, u43, u44, u45, u46, u47, u48, u49, u50, u51, u52, u53, u54, u55, u56, u57, u58, u59, u60, u61, u62, u63, u64, u65, u66, u67, u68, u69, u70, u71, u72, u73, u74, u75, iN x3, .bool true, u78, u79, iN y3, .bool true, u82, u83, iN x3, iN y3, iN (Kec.at_ x3 y3), iN x3, iN y3, iN (Kec.at_ x3 y3), .pointer (some ⟨gb, Kec.at_ x3 y3, none⟩), uN (Kec.g (Kec.moves (Kec.columns s)) (Kec.at_ x3 y3)), iN x3, iN (x3 + 1), iN y3, iN (Kec.at_ (x3 + 1) y3), .pointer (some ⟨gb, Kec.at_ (x3 + 1) y3, none⟩), uN (Kec.g (Kec.moves (Kec.columns s)) (Kec.at_ (x3 + 1) y3)), uN (Kec.W - 1 - (Kec.g (Kec.moves (Kec.columns s)) (Kec.at_ (x3 + 1) y3))), iN x3, iN (x3 + 2), iN y3, iN (Kec.at_ (x3 + 2) y3), .pointer (some ⟨gb, Kec.at_ (x3 + 2) y3, none⟩), uN (Kec.g (Kec.moves (Kec.columns s)) (Kec.at_ (x3 + 2) y3)), uN ((Kec.W - 1 - (Kec.g (Kec.moves (Kec.columns s)) (Kec.at_ (x3 + 1) y3))) &&& (Kec.g (Kec.moves (Kec.columns s)) (Kec.at_ (x3 + 2) y3))), uN ((Kec.g (Kec.moves (Kec.columns s)) (Kec.at_ x3 y3)) ^^^ ((Kec.W - 1 - (Kec.g (Kec.moves (Kec.columns s)) (Kec.at_ (x3 + 1) y3))) &&& (Kec.g (Kec.moves (Kec.columns s)) (Kec.at_ (x3 + 2) y3)))), .pointer (some ⟨ga, Kec.at_ x3 y3, none⟩), undef, undef, undef, undef, undef, undef], []⟩ ?_
                  refine blk_n ?_
                  refine then_n ?_
                  refine sy_reg ?_
                  refine rg_plain 24 (opsAt (part_hround 521363)) [0, 1, 2] (by kernel_rfl) (by kernel_rfl) ?_
                  refine ps_k (o_hround 521363 0) (iN y3) ?_
                  refine ps_p (o_hround 521363 1) (iN (y3 + 1)) (exec_cast (congrArg (Value.int .i64) (wrapN (y3 + 1) (by omega))) (by kernel_rfl)) ?_
                  refine ps_k (o_hround 521363 2) (iN (y3 + 1)) ?_
                  refine ps_end ?_
                  refine sy_a ⟨#[.agg (Wz s), uN k, pT ga 0, undef, pT gr 0, pT gc 0, iN x, u7, pT gt 0, pT gb 0, iN x2, u11, u12, iN x3, iN (y3 + 1), iN x, .bool false, u17, u18, u19, u20, u21, u22, u23, u24, u25, u26, u27, u28, u29, u30, u31, u32, u33, .agg Rz, iN x2, .bool false, u37, u38, u39, u40, u41, u42, u43, u44, u45, u46, u47, u48, u49, u50, u51, u52, u53, u54, u55, u56, u57, u58, u59, u60, u61, u62, u63, u64, u65, u66, u67, u68, u69, u70, u71, u72, u73, u74, u75, iN x3, .bool true, u78, u79, iN y3, .bool true, iN y3, iN (y3 + 1), iN x3, iN y3, iN (Kec.at_ x3 y3), iN x3, iN y3, iN (Kec.at_ x3 y3), .pointer (some ⟨gb, Kec.at_ x3 y3, none⟩), uN (Kec.g (Kec.moves (Kec.columns s)) (Kec.at_ x3 y3)), iN x3, iN (x3 + 1), iN y3, iN (Kec.at_ (x3 + 1) y3), .pointer (some ⟨gb, Kec.at_ (x3 + 1) y3, none⟩), uN (Kec.g (Kec.moves (Kec.columns s)) (Kec.at_ (x3 + 1) y3)), uN (Kec.W - 1 - (Kec.g (Kec.moves (Kec.columns s)) (Kec.at_ (x3 + 1) y3))), iN x3, iN (x3 + 2), iN y3, iN (Kec.at_ (x3 + 2) y3), .pointer (some ⟨gb, Kec.at_ (x3 + 2) y3, none⟩), uN (Kec.g (Kec.moves (Kec.columns s)) (Kec.at_ (x3 + 2) y3)), uN ((Kec.W - 1 - (Kec.g (Kec.moves (Kec.columns s)) (Kec.at_ (x3 + 1) y3))) &&& (Kec.g (Kec.moves (Kec.columns s)) (Kec.at_ (x3 + 2) y3))), uN ((Kec.g (Kec.moves (Kec.columns s)) (Kec.at_ x3 y3)) ^^^ ((Kec.W - 1 - (Kec.g (Kec.moves (Kec.columns s)) (Kec.at_ (x3 + 1) y3))) &&& (Kec.g (Kec.moves (Kec.columns s)) (Kec.at_ (x3 + 2) y3)))), .pointer (some ⟨ga, Kec.at_ x3 y3, none⟩), undef, undef, undef, undef, undef, undef], []⟩ ?_
                  refine then_n ?_
                  refine ⟨⟨y3 + 1, (iN y3), (.bool true), (iN y3), (iN (y3 + 1)), (iN x3), (iN y3), (iN (Kec.at_ x3 y3)), (iN x3), (iN y3), (iN (Kec.at_ x3 y3)), (.pointer (some ⟨gb, Kec.at_ x3 y3, none⟩)), (uN (Kec.g (Kec.moves (Kec.columns s)) (Kec.at_ x3 y3))), (iN x3), (iN (x3 + 1)), (iN y3), (iN (Kec.at_ (x3 + 1) y3)), (.pointer (some ⟨gb, Kec.at_ (x3 + 1) y3, none⟩)), (uN (Kec.g (Kec.moves (Kec.columns s)) (Kec.at_ (x3 + 1) y3))), (uN (Kec.W - 1 - (Kec.g (Kec.moves (Kec.columns s)) (Kec.at_ (x3 + 1) y3)))), (iN x3), (iN (x3 + 2)), (iN y3), (iN (Kec.at_ (x3 + 2) y3)), (.pointer (some ⟨gb, Kec.at_ (x3 + 2) y3, none⟩)), (uN (Kec.g (Kec.moves (Kec.columns s)) (Kec.at_ (x3 + 2) y3))), (uN ((Kec.W - 1 - (Kec.g (Kec.moves (Kec.columns s)) (Kec.at_ (x3 + 1) y3))) &&& (Kec.g (Kec.moves (Kec.columns s)) (Kec.at_ (x3 + 2) y3)))), (uN ((Kec.g (Kec.moves (Kec.columns s)) (Kec.at_ x3 y3)) ^^^ ((Kec.W - 1 - (Kec.g (Kec.moves (Kec.columns s)) (Kec.at_ (x3 + 1) y3))) &&& (Kec.g (Kec.moves (Kec.columns s)) (Kec.at_ (x3 + 2) y3))))), (.pointer (some ⟨ga, Kec.at_ x3 y3, none⟩)), by kernel_rfl, by omega, h147, h148, h149, h150, h151, K152⟩, ?_⟩
                  exact lt_meas (x := 5 - (y3 + 1)) (y := 5 - y3) (by kernel_rfl) (by kernel_rfl) (by omega)
                · have eq_y3 : y3 = 5 := by omega
                  refine sy_sq (part_hround 260680) (part_hround 260681) ?_
                  refine sy_sq (part_hround 521360) (part_hround 521361) ?_
                  refine sy_reg ?_
                  refine rg_plain 23 (opsAt (part_hround 521360)) [0, 1] (by kernel_rfl) (by kernel_rfl) ?_
                  refine ps_k (o_hround 521360 0) (iN y3) ?_
                  refine ps_p (o_hround 521360 1) (.bool false) (exec_cast (congrArg Value.bool (show (decide ((((y3 : Nat) : Int)) < ((5) : Int))) = false from by simp only [decide_eq_false_iff_not]; omega)) (by kernel_rfl)) ?_
                  refine ps_end ?_
                  refine sy_a ⟨#[.agg (Wz s), uN k, pT ga 0, undef, pT gr 0, pT gc 0, iN x, u7, pT gt 0, pT gb 0, iN x2, u11, u12, iN x3, iN y3, iN x, .bool false, u17, u18, u19, u20, u21, u22, u23, u24, u25, u26, u27, u28, u29, u30, u31, u32, u33, .agg Rz, iN x2, .bool false, u37, u38, u39, u40, u41, u42, u43, u44, u45, u46, u47, u48, u49, u50, u51, u52, u53, u54, u55, u56, u57, u58, u59, u60, u61, u62, u63, u64, u65, u66, u67, u68, u69, u70, u71, u72, u73, u74, u75, iN x3, .bool true, u78, u79, iN y3, .bool false, u82, u83, u84, u85, u86, u87, u88, u89, u90, u91, u92, u93, u94, u95, u96, u97, u98, u99, u100, u101, u102, u103, u104, u105, u106, u107, undef, undef, undef, undef, undef, undef], []⟩ ?_
                  refine then_n ?_
                  refine sy_n (.tmp 81) (part_hround 1042722) (part_hround 1042723) ?_
                  refine sy_exit 10 (by kernel_rfl) ?_
                  refine then_e ?_
                  refine then_e ?_
                  refine blk_e ?_
                  refine blk_n ?_
                  refine then_n ?_
                  refine sy_reg ?_
                  refine rg_plain 21 (opsAt (part_hround 8147)) [0, 1, 2] (by kernel_rfl) (by kernel_rfl) ?_
                  refine ps_k (o_hround 8147 0) (iN x3) ?_
                  refine ps_p (o_hround 8147 1) (iN (x3 + 1)) (exec_cast (congrArg (Value.int .i64) (wrapN (x3 + 1) (by omega))) (by kernel_rfl)) ?_
                  refine ps_k (o_hround 8147 2) (iN (x3 + 1)) ?_
                  refine ps_end ?_
                  refine sy_a ⟨#[.agg (Wz s), uN k, pT ga 0, undef, pT gr 0, pT gc 0, iN x, u7, pT gt 0, pT gb 0, iN x2, u11, u12, iN (x3 + 1), iN y3, iN x, .bool false, u17, u18, u19, u20, u21, u22, u23, u24, u25, u26, u27, u28, u29, u30, u31, u32, u33, .agg Rz, iN x2, .bool false, u37, u38, u39, u40, u41, u42, u43, u44, u45, u46, u47, u48, u49, u50, u51, u52, u53, u54, u55, u56, u57, u58, u59, u60, u61, u62, u63, u64, u65, u66, u67, u68, u69, u70, u71, u72, u73, u74, u75, iN x3, .bool true, iN x3, iN (x3 + 1), iN y3, .bool false, u82, u83, u84, u85, u86, u87, u88, u89, u90, u91, u92, u93, u94, u95, u96, u97, u98, u99, u100, u101, u102, u103, u104, u105, u106, u107, undef, undef, undef, undef, undef, undef], []⟩ ?_
                  refine then_n ?_
                  refine ⟨⟨x3 + 1, (iN y3), (iN x3), (.bool true), (iN x3), (iN (x3 + 1)), (iN y3), (.bool false), u82, u83, u84, u85, u86, u87, u88, u89, u90, u91, u92, u93, u94, u95, u96, u97, u98, u99, u100, u101, u102, u103, u104, u105, u106, u107, by kernel_rfl, by omega, h132.trans (congrArg (fun n => some (Obj.cells (Wz (xxn (Kec.moves (Kec.columns s)) n s)) 46 (0, 0))) (show 5 * x3 + y3 = 5 * (x3 + 1) by omega)), h133, h134, h135, h136, K137⟩, ?_⟩
                  exact lt_meas (x := 5 - (x3 + 1)) (y := 5 - x3) (by kernel_rfl) (by kernel_rfl) (by omega)
            · have eq_x3 : x3 = 5 := by omega
              have h153 : V124.heap[ga]? = some (.cells (Wz (Kec.mixes (Kec.moves (Kec.columns s)))) 46 (0, 0)) := (h125.trans (congrArg (fun n => some (Obj.cells (Wz (xxn (Kec.moves (Kec.columns s)) n s)) 46 (0, 0))) (show 5 * x3 = 25 by omega))).trans (congrArg (fun l => some (Obj.cells (Wz l) 46 (0, 0))) (xxn_all s (Kec.moves (Kec.columns s)) hs))
              refine sy_sq (part_hround 4072) (part_hround 4073) ?_
              refine sy_sq (part_hround 8144) (part_hround 8145) ?_
              refine sy_reg ?_
              refine rg_plain 20 (opsAt (part_hround 8144)) [0, 1] (by kernel_rfl) (by kernel_rfl) ?_
              refine ps_k (o_hround 8144 0) (iN x3) ?_
              refine ps_p (o_hround 8144 1) (.bool false) (exec_cast (congrArg Value.bool (show (decide ((((x3 : Nat) : Int)) < ((5) : Int))) = false from by simp only [decide_eq_false_iff_not]; omega)) (by kernel_rfl)) ?_
              refine ps_end ?_
              refine sy_a ⟨#[.agg (Wz s), uN k, pT ga 0, undef, pT gr 0, pT gc 0, iN x, u7, pT gt 0, pT gb 0, iN x2, u11, u12, iN x3, u14, iN x, .bool false, u17, u18, u19, u20, u21, u22, u23, u24, u25, u26, u27, u28, u29, u30, u31, u32, u33, .agg Rz, iN x2, .bool false, u37, u38, u39, u40, u41, u42, u43, u44, u45, u46, u47, u48, u49, u50, u51, u52, u53, u54, u55, u56, u57, u58, u59, u60, u61, u62, u63, u64, u65, u66, u67, u68, u69, u70, u71, u72, u73, u74, u75, iN x3, .bool false, u78, u79, u80, u81, u82, u83, u84, u85, u86, u87, u88, u89, u90, u91, u92, u93, u94, u95, u96, u97, u98, u99, u100, u101, u102, u103, u104, u105, u106, u107, undef, undef, undef, undef, undef, undef], []⟩ ?_
              refine then_n ?_
              refine sy_n (.tmp 77) (part_hround 16290) (part_hround 16291) ?_
              refine sy_exit 8 (by kernel_rfl) ?_
              refine then_e ?_
              refine then_e ?_
              refine blk_e ?_
              refine then_n ?_
              refine sy_sq (part_hround 510) (part_hround 511) ?_
              refine sy_reg ?_
              refine rg_plain 26 (opsAt (part_hround 510)) [0, 1, 2, 3, 4, 5] (by kernel_rfl) (by kernel_rfl) ?_
              refine ps_p (o_hround 510 0) (pT ga 0) (exec_cast (v := pT ga (0 + 0 * 1)) (by simp) (exec_indexAt_arr 46 (.tmp 2) (.const (.int .i64 0)) (by kernel_rfl) ga 0 (by kernel_rfl) .i64 0 (by kernel_rfl) _ _ 1 Try.underlying46 (by kernel_rfl) (by omega))) ?_
              refine ps_p (o_hround 510 1) (uN (Kec.g (Kec.mixes (Kec.moves (Kec.columns s))) 0)) (exec_load_cell 45 (.tmp 108) (by kernel_rfl) ⟨ga, 0, none⟩ (by kernel_rfl) _ _ Try.underlying45 rfl ((cell_of_row _ _ _ _ _ _ (h153)).trans (Wz_get _ 0 (by rw [Kec.len_mixes]; omega)))) ?_
              refine ps_k (o_hround 510 2) (uN k) ?_
              refine ps_p (o_hround 510 3) (uN ((Kec.g (Kec.mixes (Kec.moves (Kec.columns s))) 0) ^^^ k)) (exec_cast (xorU (Kec.g (Kec.mixes (Kec.moves (Kec.columns s))) 0) k (Kec.ws_mixes (Kec.ws_moves (Kec.ws_columns ws)) _) hk) (by kernel_rfl)) ?_
              refine ps_p (o_hround 510 4) (pT ga 0) (exec_cast (v := pT ga (0 + 0 * 1)) (by simp) (exec_indexAt_arr 46 (.tmp 2) (.const (.int .i64 0)) (by kernel_rfl) ga 0 (by kernel_rfl) .i64 0 (by kernel_rfl) _ _ 1 Try.underlying46 (by kernel_rfl) (by omega))) ?_
              obtain ⟨V154, eV154⟩ : ∃ V, V124.setCell ⟨ga, 0, none⟩ (.int .u64 (((Kec.g (Kec.mixes (Kec.moves (Kec.columns s))) 0) ^^^ k : Nat) : Int)) = V := ⟨_, rfl⟩
              have kV154 : Keeps (One ga) V124 V154 := eV154 ▸ (Keeps.refl _ _).setOne _
              have h155 : V154.heap[ga]? = some (.cells (Wz (Kec.round s k)) 46 (0, 0)) := eV154 ▸ ((heap_setCell_same _ ga 0 _ _ (.int .u64 (((Kec.g (Kec.mixes (Kec.moves (Kec.columns s))) 0) ^^^ k : Nat) : Int)) h153).trans (congrArg (fun c => some (Obj.cells c 46 (0, 0))) (show (Wz (Kec.mixes (Kec.moves (Kec.columns s))) : Array Value).setIfInBounds 0 (.int .u64 (((Kec.g (Kec.mixes (Kec.moves (Kec.columns s))) 0) ^^^ k : Nat) : Int)) = Wz (Kec.round s k) from by rw [Wz_set]; exact congrArg Wz (rfl))))
              refine ps_skip (o_hround 510 5) (w' := V154) (by kernel_rfl) (by kernel_rfl) (by rw [← eV154]; exact exec_store_cell 45 (.tmp 112) (.tmp 111) (by kernel_rfl) ga 0 (by kernel_rfl) (uN ((Kec.g (Kec.mixes (Kec.moves (Kec.columns s))) 0) ^^^ k)) (by kernel_rfl) (by kernel_rfl) (by kernel_rfl) (uN (Kec.g (Kec.mixes (Kec.moves (Kec.columns s))) 0)) ((cell_of_row _ _ _ _ _ _ (h153)).trans (Wz_get _ 0 (by rw [Kec.len_mixes]; omega))) (frozen_of_row _ _ _ _ _ h153) (by kernel_rfl)) ?_
              clear eV154
              have h156 : V154.heap[gr]? = some (.cells (zr_u64_25) 46 (0, 0)) := (kV154.block gr (lt_of_block h126) (fun e => by unfold Own.One at e; omega)).trans h126
              have h157 : V154.heap[gc]? = some (.cells (Wz ((List.range 5).map (Kec.col s))) 76 (0, 0)) := (kV154.block gc (lt_of_block h127) (fun e => by unfold Own.One at e; omega)).trans h127
              have h158 : V154.heap[gt]? = some (.cells Rz 77 (0, 0)) := (kV154.block gt (lt_of_block h128) (fun e => by unfold Own.One at e; omega)).trans h128
              have h159 : V154.heap[gb]? = some (.cells (Wz (Kec.moves (Kec.columns s))) 46 (0, 0)) := (kV154.block gb (lt_of_block h129) (fun e => by unfold Own.One at e; omega)).trans h129
              have K160 : Keeps Nob w V154 := K130.then kV154 (fun i hi hm => absurd hi (by unfold Own.One at hm; omega))
              refine ps_end ?_
              refine sy_a ⟨#[.agg (Wz s), uN k, pT ga 0, undef, pT gr 0, pT gc 0, iN x, u7, pT gt 0, pT gb 0, iN x2, u11, u12, iN x3, u14, iN x, .bool false, u17, u18, u19, u20, u21, u22, u23, u24, u25, u26, u27, u28, u29, u30, u31, u32, u33, .agg Rz, iN x2, .bool false, u37, u38, u39, u40, u41, u42, u43, u44, u45, u46, u47, u48, u49, u50, u51, u52, u53, u54, u55, u56, u57, u58, u59, u60, u61, u62, u63, u64, u65, u66, u67, u68, u69, u70, u71, u72, u73, u74, u75, iN x3, .bool false, u78, u79, u80, u81, u82, u83, u84, u85, u86, u87, u88, u89, u90, u91, u92, u93, u94, u95, u96, u97, u98, u99, u100, u101, u102, u103, u104, u105, u106, u107, pT ga 0, uN (Kec.g (Kec.mixes (Kec.moves (Kec.columns s))) 0), uN k, uN ((Kec.g (Kec.mixes (Kec.moves (Kec.columns s))) 0) ^^^ k), pT ga 0, undef], []⟩ ?_
              refine then_n ?_
              refine sy_sq (part_hround 1022) (part_hround 1023) ?_
              refine sy_reg ?_
              refine rg_plain 27 (opsAt (part_hround 1022)) [0, 1] (by kernel_rfl) (by kernel_rfl) ?_
              refine ps_p (o_hround 1022 0) (.agg (Wz (Kec.round s k))) (exec_load_row 46 (.tmp 2) (by kernel_rfl) ga (by kernel_rfl) _ _ (0, 0) _ (h155) Try.underlying46 rfl (by rw [Wz_size, Kec.len_round]; kernel_rfl)) ?_
              obtain ⟨V161, eV161⟩ : ∃ V, V154.setRow gr ((Wz (Kec.round s k))) = V := ⟨_, rfl⟩
              have kV161 : Keeps (One gr) V154 V161 := eV161 ▸ (Keeps.refl (One gr) _).setRow (fun _ => (rfl : Own.One gr gr)) _
              have h162 : V161.heap[gr]? = some (.cells (Wz (Kec.round s k)) 46 (0, 0)) := eV161 ▸ setRow_heap _ _ _ _ _ _ h156
              refine ps_skip (o_hround 1022 1) (w' := V161) (by kernel_rfl) (by kernel_rfl) (by rw [← eV161]; exact exec_store_row 46 (.tmp 4) (.tmp 113) (by kernel_rfl) gr ((Wz (Kec.round s k))) (by kernel_rfl) (by kernel_rfl) 46 (zr_u64_25) h156 (by rw [Wz_size, Kec.len_round]; kernel_rfl) (by rw [Wz_size, Kec.len_round]; rfl) (Wz_one _)) ?_
              clear eV161
              have h163 : V161.heap[gc]? = some (.cells (Wz ((List.range 5).map (Kec.col s))) 76 (0, 0)) := (kV161.block gc (lt_of_block h157) (fun e => by unfold Own.One at e; omega)).trans h157
              have h164 : V161.heap[gt]? = some (.cells Rz 77 (0, 0)) := (kV161.block gt (lt_of_block h158) (fun e => by unfold Own.One at e; omega)).trans h158
              have h165 : V161.heap[gb]? = some (.cells (Wz (Kec.moves (Kec.columns s))) 46 (0, 0)) := (kV161.block gb (lt_of_block h159) (fun e => by unfold Own.One at e; omega)).trans h159
              have h166 : V161.heap[ga]? = some (.cells (Wz (Kec.round s k)) 46 (0, 0)) := (kV161.block ga (lt_of_block h155) (fun e => by unfold Own.One at e; omega)).trans h155
              have K167 : Keeps Nob w V161 := K160.then kV161 (fun i hi hm => absurd hi (by unfold Own.One at hm; omega))
              refine ps_end ?_
              refine sy_a ⟨#[.agg (Wz s), uN k, pT ga 0, undef, pT gr 0, pT gc 0, iN x, u7, pT gt 0, pT gb 0, iN x2, u11, u12, iN x3, u14, iN x, .bool false, u17, u18, u19, u20, u21, u22, u23, u24, u25, u26, u27, u28, u29, u30, u31, u32, u33, .agg Rz, iN x2, .bool false, u37, u38, u39, u40, u41, u42, u43, u44, u45, u46, u47, u48, u49, u50, u51, u52, u53, u54, u55, u56, u57, u58, u59, u60, u61, u62, u63, u64, u65, u66, u67, u68, u69, u70, u71, u72, u73, u74, u75, iN x3, .bool false, u78, u79, u80, u81, u82, u83, u84, u85, u86, u87, u88, u89, u90, u91, u92, u93, u94, u95, u96, u97, u98, u99, u100, u101, u102, u103, u104, u105, u106, u107, pT ga 0, uN (Kec.g (Kec.mixes (Kec.moves (Kec.columns s))) 0), uN k, uN ((Kec.g (Kec.mixes (Kec.moves (Kec.columns s))) 0) ^^^ k), pT ga 0, .agg (Wz (Kec.round s k))], []⟩ ?_
              refine then_n ?_
              refine sy_ret (by kernel_rfl) ?_
              refine sy_out (.agg (Wz (Kec.round s k))) rfl (results_cell_row (p := 4) (ty := 46) (by kernel_rfl) _ _ gr 46 (Wz (Kec.round s k)) (0, 0) _ (by kernel_rfl) h162 Try.underlying46 rfl (by rw [Wz_size, (Kec.len_round _ _)]; kernel_rfl)) ?_
              exact ⟨rfl, K167⟩
theorem hround_as (s : List Nat) (r : Nat) (w : World) (hs : s.length = 25) (ws : Kec.Ws s) (hr : r < 24) : Calls Try.prog 44 #[.agg (Wz (permn s r)), .int .u64 ((Kec.g Kec.K r : Nat) : Int)] w fun e w' => e = .returned (.agg (Wz (permn s (r + 1)))) ∧ Keeps Nob w w' := by
  rw [permn_succ s r hr]; exact hround_ok (permn s r) (Kec.g Kec.K r) w (permn_len s hs r) (permn_ws s ws r) (ws_K r)
noncomputable def part_hPermute (n : Nat) : Code := partOf Try.f30 n
noncomputable abbrev o_hPermute (n k : Nat) : Oper := (opsAt (part_hPermute n)).getD k default
set_option maxRecDepth 100000 in
set_option maxHeartbeats 4000000 in
theorem hPermute_ok (s : List Nat) (w : World) (hs : s.length = 25) (ws : Kec.Ws s) :
    Calls Try.prog 30 #[.agg (Wz s)] w (fun e w' => e = .returned (.agg (Wz (Kec.perm s))) ∧ Keeps Nob w w') := by
  have K0 : Keeps Nob w w := Keeps.refl _ _
  refine sy_enter (part_hPermute 1) ⟨#[.agg (Wz s), undef, undef, undef, undef, undef, undef, undef, undef, undef, undef, undef, undef, undef, undef, undef], []⟩ Try.func30 (by kernel_rfl) (by kernel_rfl) ?_
  refine sy_sq (part_hPermute 2) (part_hPermute 3) ?_
  refine sy_reg ?_
  refine rg_plain 0 (opsAt (part_hPermute 2)) [0, 1] (by kernel_rfl) (by kernel_rfl) ?_
  obtain ⟨V1, eV1⟩ : ∃ V, w.alloc (.cells ((Wz s)) 46) = V := ⟨_, rfl⟩
  obtain ⟨gb, egb⟩ : ∃ g, w.heap.size = g := ⟨_, rfl⟩
  have n3 : w.heap.size ≤ gb := egb ▸ K0.size
  have h2 : V1.heap[gb]? = some (.cells ((Wz s)) 46 (0, 0)) := by rw [← eV1, ← egb]; exact heap_alloc_new _ _
  have kV1 : Keeps Nob w V1 := eV1 ▸ (Keeps.refl _ _).alloc _
  refine ps_run (o_hPermute 2 0) (pT gb 0) (w' := V1) (by kernel_rfl) (by kernel_rfl) (by rw [← eV1, ← egb]; exact exec_box 46 (.tmp 0) (by kernel_rfl) (.agg (Wz s)) (by kernel_rfl)) ?_
  clear eV1
  have K4 : Keeps Nob w V1 := K0.then kV1 (fun _ _ x => x.elim)
  obtain ⟨V5, eV5⟩ : ∃ V, V1.alloc (.cells (zr_u64_25) 46) = V := ⟨_, rfl⟩
  obtain ⟨gr, egr⟩ : ∃ g, V1.heap.size = g := ⟨_, rfl⟩
  have n7 : gb < gr := egr ▸ lt_of_block h2
  have n8 : w.heap.size ≤ gr := egr ▸ K4.size
  have h6 : V5.heap[gr]? = some (.cells (zr_u64_25) 46 (0, 0)) := by rw [← eV5, ← egr]; exact heap_alloc_new _ _
  have kV5 : Keeps Nob V1 V5 := eV5 ▸ (Keeps.refl _ _).alloc _
  refine ps_run (o_hPermute 2 1) (pT gr 0) (w' := V5) (by kernel_rfl) (by kernel_rfl) (by rw [← eV5, ← egr]; exact exec_alloc0 46 (by kernel_rfl) (.agg (zr_u64_25)) (by kernel_rfl)) ?_
  clear eV5
  have h9 : V5.heap[gb]? = some (.cells (Wz s) 46 (0, 0)) := (kV5.block gb (lt_of_block h2) (fun x => x)).trans h2
  have K10 : Keeps Nob w V5 := K4.then kV5 (fun _ _ x => x.elim)
  refine ps_end ?_
  refine sy_a ⟨#[.agg (Wz s), pT gb 0, pT gr 0, undef, undef, undef, undef, undef, undef, undef, undef, undef, undef, undef, undef, undef], []⟩ ?_
  refine then_n ?_
  refine sy_sq (part_hPermute 6) (part_hPermute 7) ?_
  refine sy_reg ?_
  refine rg_plain 1 (opsAt (part_hPermute 6)) [0, 1, 2] (by kernel_rfl) (by kernel_rfl) ?_
  refine ps_call (o_hPermute 6 0) 43 #[] (by kernel_rfl) (by kernel_rfl) (by kernel_rfl) (by kernel_rfl) (enters_of Try.func43 (by kernel_rfl) rfl) ((hconstants_ok _).mono ?_)
  rintro e V11 ⟨rfl, kV11⟩
  refine ⟨_, rfl, ?_⟩
  have h12 : V11.heap[gb]? = some (.cells (Wz s) 46 (0, 0)) := (kV11.block gb (lt_of_block h9) (fun x => x)).trans h9
  have h13 : V11.heap[gr]? = some (.cells (zr_u64_25) 46 (0, 0)) := (kV11.block gr (lt_of_block h6) (fun x => x)).trans h6
  have K14 : Keeps Nob w V11 := K10.then kV11 (fun _ _ x => x.elim)
  obtain ⟨V15, eV15⟩ : ∃ V, V11.alloc (.cells (zr_u64_24) 72) = V := ⟨_, rfl⟩
  obtain ⟨gk, egk⟩ : ∃ g, V11.heap.size = g := ⟨_, rfl⟩
  have n17 : gb < gk := egk ▸ lt_of_block h12
  have n18 : gr < gk := egk ▸ lt_of_block h13
  have n19 : w.heap.size ≤ gk := egk ▸ K14.size
  have h16 : V15.heap[gk]? = some (.cells (zr_u64_24) 72 (0, 0)) := by rw [← eV15, ← egk]; exact heap_alloc_new _ _
  have kV15 : Keeps Nob V11 V15 := eV15 ▸ (Keeps.refl _ _).alloc _
  refine ps_run (o_hPermute 6 1) (pT gk 0) (w' := V15) (by kernel_rfl) (by kernel_rfl) (by rw [← eV15, ← egk]; exact exec_alloc0 72 (by kernel_rfl) (.agg (zr_u64_24)) (by kernel_rfl)) ?_
  clear eV15
  have h20 : V15.heap[gb]? = some (.cells (Wz s) 46 (0, 0)) := (kV15.block gb (lt_of_block h12) (fun x => x)).trans h12
  have h21 : V15.heap[gr]? = some (.cells (zr_u64_25) 46 (0, 0)) := (kV15.block gr (lt_of_block h13) (fun x => x)).trans h13
  have K22 : Keeps Nob w V15 := K14.then kV15 (fun _ _ x => x.elim)
  obtain ⟨V23, eV23⟩ : ∃ V, V15.setRow gk ((Wz Kec.K)) = V := ⟨_, rfl⟩
  have kV23 : Keeps (One gk) V15 V23 := eV23 ▸ (Keeps.refl (One gk) _).setRow (fun _ => (rfl : Own.One gk gk)) _
  have h24 : V23.heap[gk]? = some (.cells (Wz Kec.K) 72 (0, 0)) := eV23 ▸ setRow_heap _ _ _ _ _ _ h16
  refine ps_skip (o_hPermute 6 2) (w' := V23) (by kernel_rfl) (by kernel_rfl) (by rw [← eV23]; exact exec_store_row 72 (.tmp 3) (.tmp 5) (by kernel_rfl) gk ((Wz Kec.K)) (by kernel_rfl) (by kernel_rfl) 72 (zr_u64_24) h16 (by kernel_rfl) (by kernel_rfl) (by kernel_rfl)) ?_
  clear eV23
  have h25 : V23.heap[gb]? = some (.cells (Wz s) 46 (0, 0)) := (kV23.block gb (lt_of_block h20) (fun e => by unfold Own.One at e; omega)).trans h20
  have h26 : V23.heap[gr]? = some (.cells (zr_u64_25) 46 (0, 0)) := (kV23.block gr (lt_of_block h21) (fun e => by unfold Own.One at e; omega)).trans h21
  have K27 : Keeps Nob w V23 := K22.then kV23 (fun i hi hm => absurd hi (by unfold Own.One at hm; omega))
  refine ps_end ?_
  refine sy_a ⟨#[.agg (Wz s), pT gb 0, pT gr 0, pT gk 0, undef, .agg (Wz Kec.K), undef, undef, undef, undef, undef, undef, undef, undef, undef, undef], []⟩ ?_
  refine then_n ?_
  refine sy_sq (part_hPermute 14) (part_hPermute 15) ?_
  refine sy_sq (part_hPermute 28) (part_hPermute 29) ?_
  refine sy_reg ?_
  refine rg_plain 2 (opsAt (part_hPermute 28)) [0] (by kernel_rfl) (by kernel_rfl) ?_
  refine ps_k (o_hPermute 28 0) (.int .i64 0) ?_
  refine ps_end ?_
  refine sy_a ⟨#[.agg (Wz s), pT gb 0, pT gr 0, pT gk 0, .int .i64 0, .agg (Wz Kec.K), undef, undef, undef, undef, undef, undef, undef, undef, undef, undef], []⟩ ?_
  refine then_n ?_
  refine sy_bk 0 (part_hPermute 58) ?_
  refine sy_loop (part_hPermute 116) (fun a V => ∃ (r : Nat) (u6 u7 u8 u9 u10 u11 u12 u13 u14 : Value), (a = ⟨#[.agg (Wz s), pT gb 0, pT gr 0, pT gk 0, iN r, .agg (Wz Kec.K), u6, u7, u8, u9, u10, u11, u12, u13, u14, undef], []⟩) ∧ (r ≤ 24) ∧ (V.heap[gb]? = some (.cells (Wz (permn s r)) 46 (0, 0))) ∧ (V.heap[gr]? = some (.cells (zr_u64_25) 46 (0, 0))) ∧ (V.heap[gk]? = some (.cells (Wz Kec.K) 72 (0, 0))) ∧ (Keeps Nob w V)) (fun a _ => 24 - (intOf (a.tmps.getD 4 undef)).toNat) (by kernel_rfl) ?_ ?_
  · exact ⟨0, undef, undef, undef, undef, undef, undef, undef, undef, undef, by kernel_rfl, by omega, h25, h26, h24, K27⟩
  · rintro a V28 ⟨r, u6, u7, u8, u9, u10, u11, u12, u13, u14, rfl, hr, h29, h30, h31, K32⟩
    by_cases lt_r : r < 24
    · show _
      refine sy_sq (part_hPermute 232) (part_hPermute 233) ?_
      refine sy_sq (part_hPermute 464) (part_hPermute 465) ?_
      refine sy_reg ?_
      refine rg_plain 3 (opsAt (part_hPermute 464)) [0, 1] (by kernel_rfl) (by kernel_rfl) ?_
      refine ps_k (o_hPermute 464 0) (iN r) ?_
      refine ps_p (o_hPermute 464 1) (.bool true) (exec_cast (congrArg Value.bool (show (decide ((((r : Nat) : Int)) < ((24) : Int))) = true from by simp only [decide_eq_true_eq]; omega)) (by kernel_rfl)) ?_
      refine ps_end ?_
      refine sy_a ⟨#[.agg (Wz s), pT gb 0, pT gr 0, pT gk 0, iN r, .agg (Wz Kec.K), iN r, .bool true, u8, u9, u10, u11, u12, u13, u14, undef], []⟩ ?_
      refine then_n ?_
      refine sy_ys (.tmp 7) (part_hPermute 930) (part_hPermute 931) ?_
      refine sy_sk ?_
      refine then_n ?_
      refine sy_sq (part_hPermute 466) (part_hPermute 467) ?_
      refine sy_bk 1 (part_hPermute 932) ?_
      refine sy_np ?_
      refine sy_reg ?_
      refine an_begin 5 6 (opsAt (part_hPermute 932)) (fun W => (W.heap[gk]? = some (.cells (Wz Kec.K) 72 (0, 0)))) #[false, false, false, false, false, false] (by kernel_rfl) (by kernel_rfl) (by kernel_rfl) (by kernel_rfl) ?_
      obtain ⟨V33, eV33⟩ : ∃ V, V28.drew = V := ⟨_, rfl⟩
      have kV33 : Keeps Nob V28 V33 := eV33 ▸ (Keeps.refl _ _).drew
      rw [eV33]
      clear eV33
      have h34 : V33.heap[gb]? = some (.cells (Wz (permn s r)) 46 (0, 0)) := (kV33.block gb (lt_of_block h29) (fun x => x)).trans h29
      have h35 : V33.heap[gr]? = some (.cells (zr_u64_25) 46 (0, 0)) := (kV33.block gr (lt_of_block h30) (fun x => x)).trans h30
      have h36 : V33.heap[gk]? = some (.cells (Wz Kec.K) 72 (0, 0)) := (kV33.block gk (lt_of_block h31) (fun x => x)).trans h31
      have K37 : Keeps Nob w V33 := K32.then kV33 (fun _ _ x => x.elim)
      refine an_val 1 (o_hPermute 932 1) (iN r) (by kernel_rfl) (by kernel_rfl) (by kernel_rfl) (by kernel_rfl) (by kernel_rfl) (fun W hS => by kernel_rfl) h36 ?_
      refine an_val 2 (o_hPermute 932 2) (pT gk r) (by kernel_rfl) (by kernel_rfl) (by kernel_rfl) (by kernel_rfl) (by kernel_rfl) (fun W hS => exec_cast (v := pT gk (0 + r * 1)) (by simp) (exec_indexAt_arr 72 (.tmp 3) (.tmp 11) (by kernel_rfl) gk 0 (by kernel_rfl) .i64 r (by kernel_rfl) _ _ 1 Try.underlying72 (by kernel_rfl) (by omega))) h36 ?_
      refine an_val 3 (o_hPermute 932 3) (uN (Kec.g Kec.K r)) (by kernel_rfl) (by kernel_rfl) (by kernel_rfl) (by kernel_rfl) (by kernel_rfl) (fun W hS => exec_load_cell 45 (.tmp 12) (by kernel_rfl) ⟨gk, r, none⟩ (by kernel_rfl) _ _ Try.underlying45 rfl ((cell_of_row _ _ _ _ _ _ (hS)).trans (Wz_get _ r (by rw [K_len]; omega)))) h36 ?_
      refine an_one 0 (by kernel_rfl) ?_
      refine on_run (o_hPermute 932 0) (.agg (Wz (permn s r))) (w' := V33) (by kernel_rfl) (by kernel_rfl) (exec_load_row 46 (.tmp 1) (by kernel_rfl) gb (by kernel_rfl) _ _ (0, 0) _ (h34) Try.underlying46 rfl (by rw [Wz_size, permn_len s hs]; kernel_rfl)) ?_
      refine ⟨h36, ?_⟩
      refine an_one 4 (by kernel_rfl) ?_
      refine on_call (o_hPermute 932 4) 44 #[.agg (Wz (permn s r)), uN (Kec.g Kec.K r)] (by kernel_rfl) (by kernel_rfl) (by kernel_rfl) (by kernel_rfl) (enters_of Try.func44 (by kernel_rfl) rfl) ((hround_as s r _ hs ws lt_r).mono ?_)
      rintro e V38 ⟨rfl, kV38⟩
      refine ⟨_, rfl, ?_⟩
      have h39 : V38.heap[gb]? = some (.cells (Wz (permn s r)) 46 (0, 0)) := (kV38.block gb (lt_of_block h34) (fun x => x)).trans h34
      have h40 : V38.heap[gr]? = some (.cells (zr_u64_25) 46 (0, 0)) := (kV38.block gr (lt_of_block h35) (fun x => x)).trans h35
      have h41 : V38.heap[gk]? = some (.cells (Wz Kec.K) 72 (0, 0)) := (kV38.block gk (lt_of_block h36) (fun x => x)).trans h36
      have K42 : Keeps Nob w V38 := K37.then kV38 (fun _ _ x => x.elim)
      refine ⟨h41, ?_⟩
      refine an_one 5 (by kernel_rfl) ?_
      obtain ⟨V43, eV43⟩ : ∃ V, V38.setRow gb ((Wz (permn s (r + 1)))) = V := ⟨_, rfl⟩
      have kV43 : Keeps (One gb) V38 V43 := eV43 ▸ (Keeps.refl (One gb) _).setRow (fun _ => (rfl : Own.One gb gb)) _
      have h44 : V43.heap[gb]? = some (.cells (Wz (permn s (r + 1))) 46 (0, 0)) := eV43 ▸ setRow_heap _ _ _ _ _ _ h39
      refine on_skip (o_hPermute 932 5) (w' := V43) (by kernel_rfl) (by kernel_rfl) (by rw [← eV43]; exact exec_store_row 46 (.tmp 1) (.tmp 14) (by kernel_rfl) gb ((Wz (permn s (r + 1)))) (by kernel_rfl) (by kernel_rfl) 46 (Wz (permn s r)) h39 (by rw [Wz_size]; first | (rw [permn_len s hs]; kernel_rfl) | (rw [Kec.len_perm hs]; kernel_rfl)) (by simp only [Wz_size, permn_len s hs, Kec.len_perm hs] <;> rfl) (Wz_one _)) ?_
      clear eV43
      have h45 : V43.heap[gr]? = some (.cells (zr_u64_25) 46 (0, 0)) := (kV43.block gr (lt_of_block h40) (fun e => by unfold Own.One at e; omega)).trans h40
      have h46 : V43.heap[gk]? = some (.cells (Wz Kec.K) 72 (0, 0)) := (kV43.block gk (lt_of_block h41) (fun e => by unfold Own.One at e; omega)).trans h41
      have K47 : Keeps Nob w V43 := K42.then kV43 (fun i hi hm => absurd hi (by unfold Own.One at hm; omega))
      refine ⟨h46, ?_⟩
      refine an_end (by kernel_rfl) ?_
      refine sy_a ⟨#[.agg (Wz s), pT gb 0, pT gr 0, pT gk 0, iN r, .agg (Wz Kec.K), iN r, .bool true, u8, u9, .agg (Wz (permn s r)), iN r, pT gk r, uN (Kec.g Kec.K r), .agg (Wz (permn s (r + 1))), undef], []⟩ ?_
      refine blk_n ?_
      refine then_n ?_
      refine sy_reg ?_
      refine rg_plain 4 (opsAt (part_hPermute 467)) [0, 1, 2] (by kernel_rfl) (by kernel_rfl) ?_
      refine ps_k (o_hPermute 467 0) (iN r) ?_
      refine ps_p (o_hPermute 467 1) (iN (r + 1)) (exec_cast (congrArg (Value.int .i64) (wrapN (r + 1) (by omega))) (by kernel_rfl)) ?_
      refine ps_k (o_hPermute 467 2) (iN (r + 1)) ?_
      refine ps_end ?_
      refine sy_a ⟨#[.agg (Wz s), pT gb 0, pT gr 0, pT gk 0, iN (r + 1), .agg (Wz Kec.K), iN r, .bool true, iN r, iN (r + 1), .agg (Wz (permn s r)), iN r, pT gk r, uN (Kec.g Kec.K r), .agg (Wz (permn s (r + 1))), undef], []⟩ ?_
      refine then_n ?_
      refine ⟨⟨r + 1, (iN r), (.bool true), (iN r), (iN (r + 1)), (.agg (Wz (permn s r))), (iN r), (pT gk r), (uN (Kec.g Kec.K r)), (.agg (Wz (permn s (r + 1)))), by kernel_rfl, by omega, h44, h45, h46, K47⟩, ?_⟩
      exact lt_meas (x := 24 - (r + 1)) (y := 24 - r) (by kernel_rfl) (by kernel_rfl) (by omega)
    · have eq_r : r = 24 := by omega
      have h48 : V28.heap[gb]? = some (.cells (Wz (Kec.perm s)) 46 (0, 0)) := h29.trans (by rw [eq_r, permn_all])
      refine sy_sq (part_hPermute 232) (part_hPermute 233) ?_
      refine sy_sq (part_hPermute 464) (part_hPermute 465) ?_
      refine sy_reg ?_
      refine rg_plain 3 (opsAt (part_hPermute 464)) [0, 1] (by kernel_rfl) (by kernel_rfl) ?_
      refine ps_k (o_hPermute 464 0) (iN r) ?_
      refine ps_p (o_hPermute 464 1) (.bool false) (exec_cast (congrArg Value.bool (show (decide ((((r : Nat) : Int)) < ((24) : Int))) = false from by simp only [decide_eq_false_iff_not]; omega)) (by kernel_rfl)) ?_
      refine ps_end ?_
      refine sy_a ⟨#[.agg (Wz s), pT gb 0, pT gr 0, pT gk 0, iN r, .agg (Wz Kec.K), iN r, .bool false, u8, u9, u10, u11, u12, u13, u14, undef], []⟩ ?_
      refine then_n ?_
      refine sy_n (.tmp 7) (part_hPermute 930) (part_hPermute 931) ?_
      refine sy_exit 0 (by kernel_rfl) ?_
      refine then_e ?_
      refine then_e ?_
      refine blk_e ?_
      refine then_n ?_
      refine sy_sq (part_hPermute 30) (part_hPermute 31) ?_
      refine sy_reg ?_
      refine rg_plain 6 (opsAt (part_hPermute 30)) [0, 1] (by kernel_rfl) (by kernel_rfl) ?_
      refine ps_p (o_hPermute 30 0) (.agg (Wz (Kec.perm s))) (exec_load_row 46 (.tmp 1) (by kernel_rfl) gb (by kernel_rfl) _ _ (0, 0) _ (h48) Try.underlying46 rfl (by rw [Wz_size, Kec.len_perm hs]; kernel_rfl)) ?_
      obtain ⟨V49, eV49⟩ : ∃ V, V28.setRow gr ((Wz (Kec.perm s))) = V := ⟨_, rfl⟩
      have kV49 : Keeps (One gr) V28 V49 := eV49 ▸ (Keeps.refl (One gr) _).setRow (fun _ => (rfl : Own.One gr gr)) _
      have h50 : V49.heap[gr]? = some (.cells (Wz (Kec.perm s)) 46 (0, 0)) := eV49 ▸ setRow_heap _ _ _ _ _ _ h30
      refine ps_skip (o_hPermute 30 1) (w' := V49) (by kernel_rfl) (by kernel_rfl) (by rw [← eV49]; exact exec_store_row 46 (.tmp 2) (.tmp 15) (by kernel_rfl) gr ((Wz (Kec.perm s))) (by kernel_rfl) (by kernel_rfl) 46 (zr_u64_25) h30 (by rw [Wz_size]; first | (rw [permn_len s hs]; kernel_rfl) | (rw [Kec.len_perm hs]; kernel_rfl)) (by simp only [Wz_size, permn_len s hs, Kec.len_perm hs] <;> rfl) (Wz_one _)) ?_
      clear eV49
      have h51 : V49.heap[gb]? = some (.cells (Wz (Kec.perm s)) 46 (0, 0)) := (kV49.block gb (lt_of_block h48) (fun e => by unfold Own.One at e; omega)).trans h48
      have h52 : V49.heap[gk]? = some (.cells (Wz Kec.K) 72 (0, 0)) := (kV49.block gk (lt_of_block h31) (fun e => by unfold Own.One at e; omega)).trans h31
      have K53 : Keeps Nob w V49 := K32.then kV49 (fun i hi hm => absurd hi (by unfold Own.One at hm; omega))
      refine ps_end ?_
      refine sy_a ⟨#[.agg (Wz s), pT gb 0, pT gr 0, pT gk 0, iN r, .agg (Wz Kec.K), iN r, .bool false, u8, u9, u10, u11, u12, u13, u14, .agg (Wz (Kec.perm s))], []⟩ ?_
      refine then_n ?_
      refine sy_ret (by kernel_rfl) ?_
      refine sy_out (.agg (Wz (Kec.perm s))) rfl (results_cell_row (p := 2) (ty := 46) (by kernel_rfl) _ _ gr 46 (Wz (Kec.perm s)) (0, 0) _ (by kernel_rfl) h50 Try.underlying46 rfl (by rw [Wz_size, Kec.len_perm hs]; kernel_rfl)) ?_
      exact ⟨rfl, K53⟩
end Go.Proofs.Ytolbdhgclcemlaa
