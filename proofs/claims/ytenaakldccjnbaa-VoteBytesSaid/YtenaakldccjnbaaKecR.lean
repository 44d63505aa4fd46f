/-
  Keccak: the document's rounds, walked (printed by kec12.py). Conditions: none.
-/
import Derived.Test.YtenaakldccjnbaaKecQ
namespace Go.Proofs.Ytenaakldccjnbaa
open Go Go.RowKit Go.Own Go.Shelf

noncomputable def part_hround (n : Nat) : Code := partOf Try.f103 n
noncomputable abbrev o_hround (n k : Nat) : Oper := (opsAt (part_hround n)).getD k default
set_option maxRecDepth 100000 in
set_option maxHeartbeats 4000000 in
theorem hround_ok (s : List Nat) (k : Nat) (w : World) (hs : s.length = 25) (ws : Kec.Ws s) (hk : k < Kec.W) :
    Calls Try.prog 103 #[.agg (Wz s), .int .u64 ((k : Nat) : Int)] w (fun e w' => e = .returned (.agg (Wz (Kec.round s k))) ∧ Keeps Nob w w') := by
  have K0 : Keeps Nob w w := Keeps.refl _ _
  refine sy_enter (part_hround 1) ⟨#[.agg (Wz s), uN k, undef, undef, undef, undef, undef, undef, undef, undef, undef, undef, undef, undef, undef, undef, undef, undef, undef, undef, undef, undef, undef, undef, undef, undef, undef, undef, undef, undef, undef, undef, undef, undef, undef, undef, undef, undef, undef, undef, undef, undef, undef, undef, undef, undef, undef, undef, undef, undef, undef, undef, undef, undef, undef, undef, undef, undef, undef, undef, undef, undef, undef, undef, undef, undef, undef, undef, undef, undef, undef, undef, undef, undef, undef, undef, undef, undef, undef, undef, undef, undef, undef, undef, undef, undef, undef, undef, undef, undef, undef, undef, undef, undef, undef, undef, undef, undef, undef, undef, undef, undef, undef, undef, undef, undef, undef, undef, undef, undef, undef, undef, undef, undef], []⟩ Try.func103 (by kernel_rfl) (by kernel_rfl) ?_
  refine sy_sq (part_hround 2) (part_hround 3) ?_
  refine sy_reg ?_
  refine rg_plain 0 (opsAt (part_hround 2)) [0, 1] (by kernel_rfl) (by kernel_rfl) ?_
  obtain ⟨V1, eV1, ga, ega, h2, kV1⟩ := alloc_step w ((Wz s)) 86
  have n3 : w.heap.size ≤ ga := ega ▸ K0.size
  refine ps_r (o_hround 2 0) (pT ga 0) (w' := V1) (by rw [← eV1, ← ega]; exact exec_box 86 (.tmp 0) (by kernel_rfl) (.agg (Wz s)) (by kernel_rfl)) ?_
  clear eV1
  have K4 := K0.nn kV1
  obtain ⟨V5, eV5, gr, egr, h6, kV5⟩ := alloc_step V1 (zr_u64_25) 86
  have n7 : ga < gr := egr ▸ lt_of_block h2
  have n8 : w.heap.size ≤ gr := egr ▸ K4.size
  refine ps_r (o_hround 2 1) (pT gr 0) (w' := V5) (by rw [← eV5, ← egr]; exact exec_alloc0 86 (by kernel_rfl) (.agg (zr_u64_25)) (by kernel_rfl)) ?_
  clear eV5
  have h9 := kV5.bk h2
  have K10 := K4.nn kV5
  refine ps_end ?_
  refine then_n ?_
  refine sy_sq (part_hround 6) (part_hround 7) ?_
  refine sy_reg ?_
  refine rg_plain 1 (opsAt (part_hround 6)) [0] (by kernel_rfl) (by kernel_rfl) ?_
  obtain ⟨V11, eV11, gc, egc, h12, kV11⟩ := alloc_step V5 (zr_u64_5) 140
  have n13 : ga < gc := egc ▸ lt_of_block h9
  have n14 : gr < gc := egc ▸ lt_of_block h6
  have n15 : w.heap.size ≤ gc := egc ▸ K10.size
  refine ps_r (o_hround 6 0) (pT gc 0) (w' := V11) (by rw [← eV11, ← egc]; exact exec_alloc0 140 (by kernel_rfl) (.agg (zr_u64_5)) (by kernel_rfl)) ?_
  clear eV11
  have h16 := kV11.bk h9
  have h17 := kV11.bk h6
  have K18 := K10.nn kV11
  refine ps_end ?_
  refine then_n ?_
  refine sy_sq (part_hround 14) (part_hround 15) ?_
  refine sy_sq (part_hround 28) (part_hround 29) ?_
  refine sy_reg ?_
  refine rg_plain 2 (opsAt (part_hround 28)) [0] (by kernel_rfl) (by kernel_rfl) ?_
  refine ps_k (o_hround 28 0) (.int .i64 0) ?_
  refine ps_end ?_
  refine then_n ?_
  refine sy_bk 0 (part_hround 58) ?_
  refine sy_loop (part_hround 116) (fun a V => ∃ (x : Nat) (u7 u15 u16 u17 u18 u19 u20 u21 u22 u23 u24 u25 u26 u27 u28 u29 u30 u31 u32 u33 : Value), (a = ⟨#[.agg (Wz s), uN k, pT ga 0, undef, pT gr 0, pT gc 0, iN x, u7, undef, undef, undef, undef, undef, undef, undef, u15, u16, u17, u18, u19, u20, u21, u22, u23, u24, u25, u26, u27, u28, u29, u30, u31, u32, u33, undef, undef, undef, undef, undef, undef, undef, undef, undef, undef, undef, undef, undef, undef, undef, undef, undef, undef, undef, undef, undef, undef, undef, undef, undef, undef, undef, undef, undef, undef, undef, undef, undef, undef, undef, undef, undef, undef, undef, undef, undef, undef, undef, undef, undef, undef, undef, undef, undef, undef, undef, undef, undef, undef, undef, undef, undef, undef, undef, undef, undef, undef, undef, undef, undef, undef, undef, undef, undef, undef, undef, undef, undef, undef, undef, undef, undef, undef, undef, undef], []⟩) ∧ (x ≤ 5) ∧ (V.heap[ga]? = some (.cells (Wz s) 86 (0, 0))) ∧ (V.heap[gr]? = some (.cells (zr_u64_25) 86 (0, 0))) ∧ (V.heap[gc]? = some (.cells (Wz (ccn s (5 * x))) 140 (0, 0))) ∧ (Keeps Nob w V)) (fun a _ => 5 - (intOf (a.tmps.getD 6 undef)).toNat) (by kernel_rfl) ?_ ?_
  · exact ⟨0, undef, undef, undef, undef, undef, undef, undef, undef, undef, undef, undef, undef, undef, undef, undef, undef, undef, undef, undef, undef, by kernel_rfl, by omega, h16, h17, h12.trans (by kernel_rfl), K18⟩
  · rintro a V19 ⟨x, u7, u15, u16, u17, u18, u19, u20, u21, u22, u23, u24, u25, u26, u27, u28, u29, u30, u31, u32, u33, rfl, hx, h20, h21, h22, K23⟩
    by_cases lt_x : x < 5
    · show _
      refine sy_sq (part_hround 232) (part_hround 233) ?_
      refine sy_sq (part_hround 464) (part_hround 465) ?_
      refine sy_reg ?_
      refine rg_plain 3 (opsAt (part_hround 464)) [0, 1] (by kernel_rfl) (by kernel_rfl) ?_
      refine ps_k (o_hround 464 0) (iN x) ?_
      refine ps_p (o_hround 464 1) (.bool true) (dct ((((x : Nat) : Int)) < ((5) : Int)) (by omega)) ?_
      refine ps_end ?_
      refine then_n ?_
      refine sy_ys (.tmp 16) (part_hround 930) (part_hround 931) ?_
      refine sy_sk ?_
      refine then_n ?_
      refine sy_sq (part_hround 466) (part_hround 467) ?_
      refine sy_bk 1 (part_hround 932) ?_
      refine sy_sq (part_hround 1864) (part_hround 1865) ?_
      refine sy_reg ?_
      refine rg_plain 5 (opsAt (part_hround 1864)) [0] (by kernel_rfl) (by kernel_rfl) ?_
      refine ps_k (o_hround 1864 0) (.int .i64 0) ?_
      refine ps_end ?_
      refine then_n ?_
      refine sy_bk 2 (part_hround 3730) ?_
      refine sy_loop (part_hround 7460) (fun a V => ∃ (y : Nat) (u19 u20 u21 u22 u23 u24 u25 u26 u27 u28 u29 u30 u31 u32 u33 : Value), (a = ⟨#[.agg (Wz s), uN k, pT ga 0, undef, pT gr 0, pT gc 0, iN x, iN y, undef, undef, undef, undef, undef, undef, undef, iN x, .bool true, u17, u18, u19, u20, u21, u22, u23, u24, u25, u26, u27, u28, u29, u30, u31, u32, u33, undef, undef, undef, undef, undef, undef, undef, undef, undef, undef, undef, undef, undef, undef, undef, undef, undef, undef, undef, undef, undef, undef, undef, undef, undef, undef, undef, undef, undef, undef, undef, undef, undef, undef, undef, undef, undef, undef, undef, undef, undef, undef, undef, undef, undef, undef, undef, undef, undef, undef, undef, undef, undef, undef, undef, undef, undef, undef, undef, undef, undef, undef, undef, undef, undef, undef, undef, undef, undef, undef, undef, undef, undef, undef, undef, undef, undef, undef, undef, undef], []⟩) ∧ (y ≤ 5) ∧ (V.heap[ga]? = some (.cells (Wz s) 86 (0, 0))) ∧ (V.heap[gr]? = some (.cells (zr_u64_25) 86 (0, 0))) ∧ (V.heap[gc]? = some (.cells (Wz (ccn s (5 * x + y))) 140 (0, 0))) ∧ (Keeps Nob w V)) (fun a _ => 5 - (intOf (a.tmps.getD 7 undef)).toNat) (by kernel_rfl) ?_ ?_
      · exact ⟨0, u19, u20, u21, u22, u23, u24, u25, u26, u27, u28, u29, u30, u31, u32, u33, by kernel_rfl, by omega, h20, h21, h22, K23⟩
      · rintro a V24 ⟨y, u19, u20, u21, u22, u23, u24, u25, u26, u27, u28, u29, u30, u31, u32, u33, rfl, hy, h25, h26, h27, K28⟩
        by_cases lt_y : y < 5
        · have ha1 := Kec.at_lt x y
          refine sy_sq (part_hround 14920) (part_hround 14921) ?_
          refine sy_sq (part_hround 29840) (part_hround 29841) ?_
          refine sy_reg ?_
          refine rg_plain 6 (opsAt (part_hround 29840)) [0, 1] (by kernel_rfl) (by kernel_rfl) ?_
          refine ps_k (o_hround 29840 0) (iN y) ?_
          refine ps_p (o_hround 29840 1) (.bool true) (dct ((((y : Nat) : Int)) < ((5) : Int)) (by omega)) ?_
          refine ps_end ?_
          refine then_n ?_
          refine sy_ys (.tmp 20) (part_hround 59682) (part_hround 59683) ?_
          refine sy_sk ?_
          refine then_n ?_
          refine sy_sq (part_hround 29842) (part_hround 29843) ?_
          refine sy_bk 3 (part_hround 59684) ?_
          refine sy_reg ?_
          refine rg_still 8 11 (opsAt (part_hround 59684)) [o_hround 59684 0, o_hround 59684 1, o_hround 59684 2, o_hround 59684 3, o_hround 59684 4, o_hround 59684 5, o_hround 59684 6, o_hround 59684 7, o_hround 59684 8, o_hround 59684 9, o_hround 59684 10] [o_hround 59684 11] (by kernel_rfl) (by kernel_rfl) (by kernel_rfl) (by kernel_rfl) (by kernel_rfl) ?_
          obtain ⟨V30, eV30, kV30⟩ := drew_step V24
          rw [eV30]
          clear eV30
          have h31 := kV30.bk h25
          have h32 := kV30.bk h26
          have h33 := kV30.bk h27
          have K34 := K28.nn kV30
          refine st_k (o_hround 59684 0) (iN x) ?_
          refine st_k (o_hround 59684 1) (iN x) ?_
          refine st_p (o_hround 59684 2) (pT gc x) (exec_cast (v := pT gc (0 + x * 1)) (by simp) (exec_indexAt_arr 140 (.tmp 5) (.tmp 24) (by kernel_rfl) gc 0 (by kernel_rfl) .i64 x (by kernel_rfl) _ _ 1 Try.underlying140 (by kernel_rfl) (by omega))) ?_
          refine st_p (o_hround 59684 3) (uN (Kec.g (ccn s (5 * x + y)) x)) (exec_ld 27 (.tmp 25) gc x Try.underlying27 (rc (h33) (Wz_get _ x (by rw [ccn_len]; omega)))) ?_
          refine st_k (o_hround 59684 4) (iN x) ?_
          refine st_k (o_hround 59684 5) (iN y) ?_
          refine st_c (o_hround 59684 6) 107 #[iN x, iN y] (iN (Kec.at_ x y)) Try.func107 (hat_ok x y _ _ (by omega) (by omega) rfl) ?_
          refine st_p (o_hround 59684 7) (.pointer (some ⟨ga, Kec.at_ x y, none⟩)) (exec_cast (v := .pointer (some ⟨ga, 0 + (Kec.at_ x y) * 1, none⟩)) (by simp) (exec_indexAt_arr 86 (.tmp 2) (.tmp 29) (by kernel_rfl) ga 0 (by kernel_rfl) .i64 (Kec.at_ x y) (by kernel_rfl) _ _ 1 Try.underlying86 (by kernel_rfl) (by omega))) ?_
          refine st_p (o_hround 59684 8) (uN (Kec.g s (Kec.at_ x y))) (exec_ld 27 (.tmp 30) ga (Kec.at_ x y) Try.underlying27 (rc (h31) (Wz_get _ (Kec.at_ x y) (by rw [hs]; omega)))) ?_
          refine st_p (o_hround 59684 9) (uN ((Kec.g (ccn s (5 * x + y)) x) ^^^ (Kec.g s (Kec.at_ x y)))) (exec_cast (xorU (Kec.g (ccn s (5 * x + y)) x) (Kec.g s (Kec.at_ x y)) (ws_ccn ws _ _) (ws _)) (by kernel_rfl)) ?_
          refine st_p (o_hround 59684 10) (pT gc x) (exec_cast (v := pT gc (0 + x * 1)) (by simp) (exec_indexAt_arr 140 (.tmp 5) (.tmp 23) (by kernel_rfl) gc 0 (by kernel_rfl) .i64 x (by kernel_rfl) _ _ 1 Try.underlying140 (by kernel_rfl) (by omega))) ?_
          refine st_end ?_
          obtain ⟨V35, eV35, kV35⟩ := cell_step V30 gc x (.int .u64 (((Kec.g (ccn s (5 * x + y)) x) ^^^ (Kec.g s (Kec.at_ x y)) : Nat) : Int))
          have h36 : V35.heap[gc]? = some (.cells (Wz (ccn s (5 * x + (y + 1)))) 140 (0, 0)) := eV35 ▸ ((heap_setCell_same _ gc x _ _ (.int .u64 (((Kec.g (ccn s (5 * x + y)) x) ^^^ (Kec.g s (Kec.at_ x y)) : Nat) : Int)) h33).trans (congrArg (fun c => some (Obj.cells c 140 (0, 0))) (show (Wz (ccn s (5 * x + y)) : Array Value).setIfInBounds x (.int .u64 (((Kec.g (ccn s (5 * x + y)) x) ^^^ (Kec.g s (Kec.at_ x y)) : Nat) : Int)) = Wz (ccn s (5 * x + (y + 1))) from by rw [Wz_set]; exact congrArg Wz (ccn_succ s x y lt_y))))
          refine ls_skip (o_hround 59684 11) (w' := V35) (by kernel_rfl) (by rw [← eV35]; exact exec_store_cell 27 (.tmp 33) (.tmp 32) (by kernel_rfl) gc x (by kernel_rfl) (.int .u64 (((Kec.g (ccn s (5 * x + y)) x) ^^^ (Kec.g s (Kec.at_ x y)) : Nat) : Int)) (by kernel_rfl) (by kernel_rfl) (by kernel_rfl) (.int .u64 ((Kec.g (ccn s (5 * x + y)) x : Nat) : Int)) (rc (h33) (Wz_get _ x (by rw [ccn_len]; omega))) (frozen_of_row _ _ _ _ _ h33) (by kernel_rfl)) ?_
          clear eV35
          have h37 := kV35.bo h31 (by omega)
          have h38 := kV35.bo h32 (by omega)
          have K39 := K34.no kV35 (by omega)
          refine ls_end ?_
          refine blk_n ?_
          refine then_n ?_
          refine sy_reg ?_
          refine rg_plain 7 (opsAt (part_hround 29843)) [0, 1, 2] (by kernel_rfl) (by kernel_rfl) ?_
          refine ps_k (o_hround 29843 0) (iN y) ?_
          refine ps_p (o_hround 29843 1) (iN (y + 1)) (exec_cast (congrArg (Value.int .i64) (wrapN (y + 1) (by omega))) (by kernel_rfl)) ?_
          refine ps_k (o_hround 29843 2) (iN (y + 1)) ?_
          refine ps_end ?_
          refine then_n ?_
          refine ⟨⟨y + 1, (iN y), (.bool true), (iN y), (iN (y + 1)), (iN x), (iN x), (pT gc x), (uN (Kec.g (ccn s (5 * x + y)) x)), (iN x), (iN y), (iN (Kec.at_ x y)), (.pointer (some ⟨ga, Kec.at_ x y, none⟩)), (uN (Kec.g s (Kec.at_ x y))), (uN ((Kec.g (ccn s (5 * x + y)) x) ^^^ (Kec.g s (Kec.at_ x y)))), (pT gc x), by kernel_rfl, by omega, h37, h38, h36, K39⟩, ?_⟩
          exact lt_meas (x := 5 - (y + 1)) (y := 5 - y) (by kernel_rfl) (by kernel_rfl) (by omega)
        · have eq_y : y = 5 := by omega
          refine sy_sq (part_hround 14920) (part_hround 14921) ?_
          refine sy_sq (part_hround 29840) (part_hround 29841) ?_
          refine sy_reg ?_
          refine rg_plain 6 (opsAt (part_hround 29840)) [0, 1] (by kernel_rfl) (by kernel_rfl) ?_
          refine ps_k (o_hround 29840 0) (iN y) ?_
          refine ps_p (o_hround 29840 1) (.bool false) (dcf ((((y : Nat) : Int)) < ((5) : Int)) (by omega)) ?_
          refine ps_end ?_
          refine then_n ?_
          refine sy_n (.tmp 20) (part_hround 59682) (part_hround 59683) ?_
          refine sy_exit 2 (by kernel_rfl) ?_
          refine then_e ?_
          refine then_e ?_
          refine blk_e ?_
          refine blk_n ?_
          refine then_n ?_
          refine sy_reg ?_
          refine rg_plain 4 (opsAt (part_hround 467)) [0, 1, 2] (by kernel_rfl) (by kernel_rfl) ?_
          refine ps_k (o_hround 467 0) (iN x) ?_
          refine ps_p (o_hround 467 1) (iN (x + 1)) (exec_cast (congrArg (Value.int .i64) (wrapN (x + 1) (by omega))) (by kernel_rfl)) ?_
          refine ps_k (o_hround 467 2) (iN (x + 1)) ?_
          refine ps_end ?_
          refine then_n ?_
          refine ⟨⟨x + 1, (iN y), (iN x), (.bool true), (iN x), (iN (x + 1)), (iN y), (.bool false), u21, u22, u23, u24, u25, u26, u27, u28, u29, u30, u31, u32, u33, by kernel_rfl, by omega, h25, h26, h27.trans (congrArg (fun n => some (Obj.cells (Wz (ccn s n)) 140 (0, 0))) (show 5 * x + y = 5 * (x + 1) by omega)), K28⟩, ?_⟩
          exact lt_meas (x := 5 - (x + 1)) (y := 5 - x) (by kernel_rfl) (by kernel_rfl) (by omega)
    · have eq_x : x = 5 := by omega
      have h40 : V19.heap[gc]? = some (.cells (Wz ((List.range 5).map (Kec.col s))) 140 (0, 0)) := (h22.trans (congrArg (fun n => some (Obj.cells (Wz (ccn s n)) 140 (0, 0))) (show 5 * x = 25 by omega))).trans (congrArg (fun l => some (Obj.cells (Wz l) 140 (0, 0))) (ccn_all s))
      refine sy_sq (part_hround 232) (part_hround 233) ?_
      refine sy_sq (part_hround 464) (part_hround 465) ?_
      refine sy_reg ?_
      refine rg_plain 3 (opsAt (part_hround 464)) [0, 1] (by kernel_rfl) (by kernel_rfl) ?_
      refine ps_k (o_hround 464 0) (iN x) ?_
      refine ps_p (o_hround 464 1) (.bool false) (dcf ((((x : Nat) : Int)) < ((5) : Int)) (by omega)) ?_
      refine ps_end ?_
      refine then_n ?_
      refine sy_n (.tmp 16) (part_hround 930) (part_hround 931) ?_
      refine sy_exit 0 (by kernel_rfl) ?_
      refine then_e ?_
      refine then_e ?_
      refine blk_e ?_
      refine then_n ?_
      refine sy_sq (part_hround 30) (part_hround 31) ?_
      refine sy_reg ?_
      refine rg_plain 9 (opsAt (part_hround 30)) [0, 1, 2] (by kernel_rfl) (by kernel_rfl) ?_
      refine ps_c (o_hround 30 0) 108 #[] Try.func108 ((hturns_ok _).mono ?_)
      rintro e V41 ⟨rfl, kV41⟩
      refine ⟨_, rfl, ?_⟩
      have h42 := kV41.bk h20
      have h43 := kV41.bk h21
      have h44 := kV41.bk h40
      have K45 := K23.nn kV41
      obtain ⟨V46, eV46, gt, egt, h47, kV46⟩ := alloc_step V41 (zr_i64_25) 141
      have n48 : ga < gt := egt ▸ lt_of_block h42
      have n49 : gr < gt := egt ▸ lt_of_block h43
      have n50 : gc < gt := egt ▸ lt_of_block h44
      have n51 : w.heap.size ≤ gt := egt ▸ K45.size
      refine ps_r (o_hround 30 1) (pT gt 0) (w' := V46) (by rw [← eV46, ← egt]; exact exec_alloc0 141 (by kernel_rfl) (.agg (zr_i64_25)) (by kernel_rfl)) ?_
      clear eV46
      have h52 := kV46.bk h42
      have h53 := kV46.bk h43
      have h54 := kV46.bk h44
      have K55 := K45.nn kV46
      obtain ⟨V56, eV56, kV56⟩ := rowset_step V46 gt Rz
      have h57 : V56.heap[gt]? = some (.cells Rz 141 (0, 0)) := eV56 ▸ setRow_heap _ _ _ _ _ _ h47
      refine ps_s (o_hround 30 2) (w' := V56) (by rw [← eV56]; exact exec_store_row 141 (.tmp 8) (.tmp 34) (by kernel_rfl) gt Rz (by kernel_rfl) (by kernel_rfl) 141 (zr_i64_25) h47 (by kernel_rfl) (by kernel_rfl) (by kernel_rfl)) ?_
      clear eV56
      have h58 := kV56.bo h52 (by omega)
      have h59 := kV56.bo h53 (by omega)
      have h60 := kV56.bo h54 (by omega)
      have K61 := K55.no kV56 (by omega)
      refine ps_end ?_
      refine then_n ?_
      refine sy_sq (part_hround 62) (part_hround 63) ?_
      refine sy_reg ?_
      refine rg_plain 10 (opsAt (part_hround 62)) [0] (by kernel_rfl) (by kernel_rfl) ?_
      obtain ⟨V62, eV62, gb, egb, h63, kV62⟩ := alloc_step V56 (zr_u64_25) 86
      have n64 : ga < gb := egb ▸ lt_of_block h58
      have n65 : gr < gb := egb ▸ lt_of_block h59
      have n66 : gc < gb := egb ▸ lt_of_block h60
      have n67 : gt < gb := egb ▸ lt_of_block h57
      have n68 : w.heap.size ≤ gb := egb ▸ K61.size
      refine ps_r (o_hround 62 0) (pT gb 0) (w' := V62) (by rw [← eV62, ← egb]; exact exec_alloc0 86 (by kernel_rfl) (.agg (zr_u64_25)) (by kernel_rfl)) ?_
      clear eV62
      have h69 := kV62.bk h58
      have h70 := kV62.bk h59
      have h71 := kV62.bk h60
      have h72 := kV62.bk h57
      have K73 := K61.nn kV62
      refine ps_end ?_
      refine then_n ?_
      refine sy_sq (part_hround 126) (part_hround 127) ?_
      refine sy_sq (part_hround 252) (part_hround 253) ?_
      refine sy_reg ?_
      refine rg_plain 11 (opsAt (part_hround 252)) [0] (by kernel_rfl) (by kernel_rfl) ?_
      refine ps_k (o_hround 252 0) (.int .i64 0) ?_
      refine ps_end ?_
      refine then_n ?_
      refine sy_bk 4 (part_hround 506) ?_
      refine sy_loop (part_hround 1012) (fun a V => ∃ (x2 : Nat) (u11 u12 u35 u36 u37 u38 u39 u40 u41 u42 u43 u44 u45 u46 u47 u48 u49 u50 u51 u52 u53 u54 u55 u56 u57 u58 u59 u60 u61 u62 u63 u64 u65 u66 u67 u68 u69 u70 u71 u72 u73 u74 u75 : Value), (a = ⟨#[.agg (Wz s), uN k, pT ga 0, undef, pT gr 0, pT gc 0, iN x, u7, pT gt 0, pT gb 0, iN x2, u11, u12, undef, undef, iN x, .bool false, u17, u18, u19, u20, u21, u22, u23, u24, u25, u26, u27, u28, u29, u30, u31, u32, u33, .agg Rz, u35, u36, u37, u38, u39, u40, u41, u42, u43, u44, u45, u46, u47, u48, u49, u50, u51, u52, u53, u54, u55, u56, u57, u58, u59, u60, u61, u62, u63, u64, u65, u66, u67, u68, u69, u70, u71, u72, u73, u74, u75, undef, undef, undef, undef, undef, undef, undef, undef, undef, undef, undef, undef, undef, undef, undef, undef, undef, undef, undef, undef, undef, undef, undef, undef, undef, undef, undef, undef, undef, undef, undef, undef, undef, undef, undef, undef, undef, undef], []⟩) ∧ (x2 ≤ 5) ∧ (V.heap[ga]? = some (.cells (Wz s) 86 (0, 0))) ∧ (V.heap[gr]? = some (.cells (zr_u64_25) 86 (0, 0))) ∧ (V.heap[gc]? = some (.cells (Wz ((List.range 5).map (Kec.col s))) 140 (0, 0))) ∧ (V.heap[gt]? = some (.cells Rz 141 (0, 0))) ∧ (V.heap[gb]? = some (.cells (Wz (mmn s (5 * x2))) 86 (0, 0))) ∧ (Keeps Nob w V)) (fun a _ => 5 - (intOf (a.tmps.getD 10 undef)).toNat) (by kernel_rfl) ?_ ?_
      · exact ⟨0, undef, undef, undef, undef, undef, undef, undef, undef, undef, undef, undef, undef, undef, undef, undef, undef, undef, undef, undef, undef, undef, undef, undef, undef, undef, undef, undef, undef, undef, undef, undef, undef, undef, undef, undef, undef, undef, undef, undef, undef, undef, undef, undef, by kernel_rfl, by omega, h69, h70, h71, h72, h63.trans (by kernel_rfl), K73⟩
      · rintro a V74 ⟨x2, u11, u12, u35, u36, u37, u38, u39, u40, u41, u42, u43, u44, u45, u46, u47, u48, u49, u50, u51, u52, u53, u54, u55, u56, u57, u58, u59, u60, u61, u62, u63, u64, u65, u66, u67, u68, u69, u70, u71, u72, u73, u74, u75, rfl, hx2, h75, h76, h77, h78, h79, K80⟩
        by_cases lt_x2 : x2 < 5
        · show _
          refine sy_sq (part_hround 2024) (part_hround 2025) ?_
          refine sy_sq (part_hround 4048) (part_hround 4049) ?_
          refine sy_reg ?_
          refine rg_plain 12 (opsAt (part_hround 4048)) [0, 1] (by kernel_rfl) (by kernel_rfl) ?_
          refine ps_k (o_hround 4048 0) (iN x2) ?_
          refine ps_p (o_hround 4048 1) (.bool true) (dct ((((x2 : Nat) : Int)) < ((5) : Int)) (by omega)) ?_
          refine ps_end ?_
          refine then_n ?_
          refine sy_ys (.tmp 36) (part_hround 8098) (part_hround 8099) ?_
          refine sy_sk ?_
          refine then_n ?_
          refine sy_sq (part_hround 4050) (part_hround 4051) ?_
          refine sy_bk 5 (part_hround 8100) ?_
          refine sy_sq (part_hround 16200) (part_hround 16201) ?_
          refine sy_np ?_
          refine sy_reg ?_
          refine an_begin 14 13 (opsAt (part_hround 16200)) (fun W => (W.heap[gc]? = some (.cells (Wz ((List.range 5).map (Kec.col s))) 140 (0, 0)))) #[false, false, false, false, false, false, false, false, false, false, false, false, false] (by kernel_rfl) (by kernel_rfl) (by kernel_rfl) (by kernel_rfl) ?_
          obtain ⟨V81, eV81, kV81⟩ := drew_step V74
          rw [eV81]
          clear eV81
          have h82 := kV81.bk h75
          have h83 := kV81.bk h76
          have h84 := kV81.bk h77
          have h85 := kV81.bk h78
          have h86 := kV81.bk h79
          have K87 := K80.nn kV81
          refine an_k 0 (o_hround 16200 0) (iN x2) h84 ?_
          refine an_v 1 (o_hround 16200 1) (iN (x2 + 4)) (fun W hS => exec_cast (congrArg (Value.int .i64) (wrapN (x2 + 4) (by omega))) (by kernel_rfl)) h84 ?_
          refine an_k 2 (o_hround 16200 2) (iN ((x2 + 4) % 5)) h84 ?_
          refine an_v 3 (o_hround 16200 3) (.pointer (some ⟨gc, (x2 + 4) % 5, none⟩)) (fun W hS => exec_cast (v := .pointer (some ⟨gc, 0 + ((x2 + 4) % 5) * 1, none⟩)) (by simp) (exec_indexAt_arr 140 (.tmp 5) (.tmp 41) (by kernel_rfl) gc 0 (by kernel_rfl) .i64 ((x2 + 4) % 5) (by kernel_rfl) _ _ 1 Try.underlying140 (by kernel_rfl) (by omega))) h84 ?_
          refine an_v 4 (o_hround 16200 4) (uN (Kec.col s ((x2 + 4) % 5))) (fun W hS => exec_ld 27 (.tmp 42) gc ((x2 + 4) % 5) Try.underlying27 (rc (hS) (Wz_get' _ ((x2 + 4) % 5) _ (by rw [List.length_map, List.length_range]; omega) (g_map5 _ _ (by omega))))) h84 ?_
          refine an_k 5 (o_hround 16200 5) (iN x2) h84 ?_
          refine an_v 6 (o_hround 16200 6) (iN (x2 + 1)) (fun W hS => exec_cast (congrArg (Value.int .i64) (wrapN (x2 + 1) (by omega))) (by kernel_rfl)) h84 ?_
          refine an_k 7 (o_hround 16200 7) (iN ((x2 + 1) % 5)) h84 ?_
          refine an_v 8 (o_hround 16200 8) (.pointer (some ⟨gc, (x2 + 1) % 5, none⟩)) (fun W hS => exec_cast (v := .pointer (some ⟨gc, 0 + ((x2 + 1) % 5) * 1, none⟩)) (by simp) (exec_indexAt_arr 140 (.tmp 5) (.tmp 46) (by kernel_rfl) gc 0 (by kernel_rfl) .i64 ((x2 + 1) % 5) (by kernel_rfl) _ _ 1 Try.underlying140 (by kernel_rfl) (by omega))) h84 ?_
          refine an_v 9 (o_hround 16200 9) (uN (Kec.col s ((x2 + 1) % 5))) (fun W hS => exec_ld 27 (.tmp 47) gc ((x2 + 1) % 5) Try.underlying27 (rc (hS) (Wz_get' _ ((x2 + 1) % 5) _ (by rw [List.length_map, List.length_range]; omega) (g_map5 _ _ (by omega))))) h84 ?_
          refine an_o 10 ?_
          refine on_c (o_hround 16200 10) 109 #[uN (Kec.col s ((x2 + 1) % 5)), .int .i64 1] Try.func109 ((hrot_ok (Kec.col s ((x2 + 1) % 5)) 1 _ (Kec.col_lt ws _) (by omega)).mono ?_)
          rintro e V88 ⟨rfl, kV88⟩
          refine ⟨_, rfl, ?_⟩
          have h89 := kV88.bk h82
          have h90 := kV88.bk h83
          have h91 := kV88.bk h84
          have h92 := kV88.bk h85
          have h93 := kV88.bk h86
          have K94 := K87.nn kV88
          refine ⟨h91, ?_⟩
          refine an_v 11 (o_hround 16200 11) (uN ((Kec.col s ((x2 + 4) % 5)) ^^^ (Kec.rot (Kec.col s ((x2 + 1) % 5)) 1))) (fun W hS => exec_cast (xorU (Kec.col s ((x2 + 4) % 5)) (Kec.rot (Kec.col s ((x2 + 1) % 5)) 1) (Kec.col_lt ws _) (Kec.rot_lt (Kec.col_lt ws _) _)) (by kernel_rfl)) h91 ?_
          refine an_o 12 ?_
          refine on_r (o_hround 16200 12) (uN ((Kec.col s ((x2 + 4) % 5)) ^^^ (Kec.rot (Kec.col s ((x2 + 1) % 5)) 1))) (w' := V88) (by kernel_rfl) ?_
          refine ⟨h91, ?_⟩
          refine an_end (by kernel_rfl) ?_
          refine then_n ?_
          refine sy_sq (part_hround 32402) (part_hround 32403) ?_
          refine sy_reg ?_
          refine rg_plain 15 (opsAt (part_hround 32402)) [0] (by kernel_rfl) (by kernel_rfl) ?_
          refine ps_k (o_hround 32402 0) (.int .i64 0) ?_
          refine ps_end ?_
          refine then_n ?_
          refine sy_bk 6 (part_hround 64806) ?_
          refine sy_loop (part_hround 129612) (fun a V => ∃ (y2 : Nat) (u51 u52 u53 u54 u55 u56 u57 u58 u59 u60 u61 u62 u63 u64 u65 u66 u67 u68 u69 u70 u71 u72 u73 u74 u75 : Value), (a = ⟨#[.agg (Wz s), uN k, pT ga 0, undef, pT gr 0, pT gc 0, iN x, u7, pT gt 0, pT gb 0, iN x2, uN ((Kec.col s ((x2 + 4) % 5)) ^^^ (Kec.rot (Kec.col s ((x2 + 1) % 5)) 1)), iN y2, undef, undef, iN x, .bool false, u17, u18, u19, u20, u21, u22, u23, u24, u25, u26, u27, u28, u29, u30, u31, u32, u33, .agg Rz, iN x2, .bool true, u37, u38, iN x2, iN (x2 + 4), iN ((x2 + 4) % 5), .pointer (some ⟨gc, (x2 + 4) % 5, none⟩), uN (Kec.col s ((x2 + 4) % 5)), iN x2, iN (x2 + 1), iN ((x2 + 1) % 5), .pointer (some ⟨gc, (x2 + 1) % 5, none⟩), uN (Kec.col s ((x2 + 1) % 5)), uN (Kec.rot (Kec.col s ((x2 + 1) % 5)) 1), uN ((Kec.col s ((x2 + 4) % 5)) ^^^ (Kec.rot (Kec.col s ((x2 + 1) % 5)) 1)), u51, u52, u53, u54, u55, u56, u57, u58, u59, u60, u61, u62, u63, u64, u65, u66, u67, u68, u69, u70, u71, u72, u73, u74, u75, undef, undef, undef, undef, undef, undef, undef, undef, undef, undef, undef, undef, undef, undef, undef, undef, undef, undef, undef, undef, undef, undef, undef, undef, undef, undef, undef, undef, undef, undef, undef, undef, undef, undef, undef, undef, undef, undef], []⟩) ∧ (y2 ≤ 5) ∧ (V.heap[ga]? = some (.cells (Wz s) 86 (0, 0))) ∧ (V.heap[gr]? = some (.cells (zr_u64_25) 86 (0, 0))) ∧ (V.heap[gc]? = some (.cells (Wz ((List.range 5).map (Kec.col s))) 140 (0, 0))) ∧ (V.heap[gt]? = some (.cells Rz 141 (0, 0))) ∧ (V.heap[gb]? = some (.cells (Wz (mmn s (5 * x2 + y2))) 86 (0, 0))) ∧ (Keeps Nob w V)) (fun a _ => 5 - (intOf (a.tmps.getD 12 undef)).toNat) (by kernel_rfl) ?_ ?_
          · exact ⟨0, u51, u52, u53, u54, u55, u56, u57, u58, u59, u60, u61, u62, u63, u64, u65, u66, u67, u68, u69, u70, u71, u72, u73, u74, u75, by kernel_rfl, by omega, h89, h90, h91, h92, h93, K94⟩
          · rintro a V95 ⟨y2, u51, u52, u53, u54, u55, u56, u57, u58, u59, u60, u61, u62, u63, u64, u65, u66, u67, u68, u69, u70, u71, u72, u73, u74, u75, rfl, hy2, h96, h97, h98, h99, h100, K101⟩
            by_cases lt_y2 : y2 < 5
            · have ha1 := Kec.at_lt x2 y2
              have ha2 := Kec.at_lt y2 (2 * x2 + 3 * y2)
              refine sy_sq (part_hround 259224) (part_hround 259225) ?_
              refine sy_sq (part_hround 518448) (part_hround 518449) ?_
              refine sy_reg ?_
              refine rg_plain 16 (opsAt (part_hround 518448)) [0, 1] (by kernel_rfl) (by kernel_rfl) ?_
              refine ps_k (o_hround 518448 0) (iN y2) ?_
              refine ps_p (o_hround 518448 1) (.bool true) (dct ((((y2 : Nat) : Int)) < ((5) : Int)) (by omega)) ?_
              refine ps_end ?_
              refine then_n ?_
              refine sy_ys (.tmp 52) (part_hround 1036898) (part_hround 1036899) ?_
              refine sy_sk ?_
              refine then_n ?_
              refine sy_sq (part_hround 518450) (part_hround 518451) ?_
              refine sy_bk 7 (part_hround 1036900) ?_
              refine sy_np ?_
              refine sy_reg ?_
              refine an_begin 18 22 (opsAt (part_hround 1036900)) (fun W => (W.heap[ga]? = some (.cells (Wz s) 86 (0, 0))) ∧ (W.heap[gt]? = some (.cells Rz 141 (0, 0)))) #[false, false, false, false, false, false, false, false, false, false, false, false, false, false, false, false, false, false, false, false, false, false] (by kernel_rfl) (by kernel_rfl) (by kernel_rfl) (by kernel_rfl) ?_
              obtain ⟨V102, eV102, kV102⟩ := drew_step V95
              rw [eV102]
              clear eV102
              have h103 := kV102.bk h96
              have h104 := kV102.bk h97
              have h105 := kV102.bk h98
              have h106 := kV102.bk h99
              have h107 := kV102.bk h100
              have K108 := K101.nn kV102
              refine an_k 0 (o_hround 1036900 0) (iN y2) ⟨h103, h106⟩ ?_
              refine an_k 1 (o_hround 1036900 1) (iN x2) ⟨h103, h106⟩ ?_
              refine an_v 2 (o_hround 1036900 2) (iN (2 * x2)) (fun W hS => exec_cast (congrArg (Value.int .i64) (wrapN (2 * x2) (by omega))) (by kernel_rfl)) ⟨h103, h106⟩ ?_
              refine an_k 3 (o_hround 1036900 3) (iN y2) ⟨h103, h106⟩ ?_
              refine an_v 4 (o_hround 1036900 4) (iN (3 * y2)) (fun W hS => exec_cast (congrArg (Value.int .i64) (wrapN (3 * y2) (by omega))) (by kernel_rfl)) ⟨h103, h106⟩ ?_
              refine an_v 5 (o_hround 1036900 5) (iN ((2 * x2) + (3 * y2))) (fun W hS => exec_cast (congrArg (Value.int .i64) (wrapN ((2 * x2) + (3 * y2)) (by omega))) (by kernel_rfl)) ⟨h103, h106⟩ ?_
              refine an_k 7 (o_hround 1036900 7) (iN x2) ⟨h103, h106⟩ ?_
              refine an_k 8 (o_hround 1036900 8) (iN y2) ⟨h103, h106⟩ ?_
              refine an_k 12 (o_hround 1036900 12) (uN ((Kec.col s ((x2 + 4) % 5)) ^^^ (Kec.rot (Kec.col s ((x2 + 1) % 5)) 1))) ⟨h103, h106⟩ ?_
              refine an_k 14 (o_hround 1036900 14) (iN x2) ⟨h103, h106⟩ ?_
              refine an_k 15 (o_hround 1036900 15) (iN y2) ⟨h103, h106⟩ ?_
              refine an_o 6 ?_
              refine on_c (o_hround 1036900 6) 107 #[iN y2, iN ((2 * x2) + (3 * y2))] Try.func107 ((hat_ok y2 ((2 * x2) + (3 * y2)) _ _ (by omega) (by omega) rfl).mono ?_)
              rintro e w1 ⟨rfl, rfl⟩
              refine ⟨_, rfl, ?_⟩
              refine ⟨⟨h103, h106⟩, ?_⟩
              refine an_o 9 ?_
              refine on_c (o_hround 1036900 9) 107 #[iN x2, iN y2] Try.func107 ((hat_ok x2 y2 _ _ (by omega) (by omega) rfl).mono ?_)
              rintro e w1 ⟨rfl, rfl⟩
              refine ⟨_, rfl, ?_⟩
              refine ⟨⟨h103, h106⟩, ?_⟩
              refine an_v 10 (o_hround 1036900 10) (.pointer (some ⟨ga, Kec.at_ x2 y2, none⟩)) (fun W hS => exec_cast (v := .pointer (some ⟨ga, 0 + (Kec.at_ x2 y2) * 1, none⟩)) (by simp) (exec_indexAt_arr 86 (.tmp 2) (.tmp 64) (by kernel_rfl) ga 0 (by kernel_rfl) .i64 (Kec.at_ x2 y2) (by kernel_rfl) _ _ 1 Try.underlying86 (by kernel_rfl) (by omega))) ⟨h103, h106⟩ ?_
              refine an_v 11 (o_hround 1036900 11) (uN (Kec.g s (Kec.at_ x2 y2))) (fun W hS => exec_ld 27 (.tmp 65) ga (Kec.at_ x2 y2) Try.underlying27 (rc (hS.1) (Wz_get _ (Kec.at_ x2 y2) (by rw [hs]; omega)))) ⟨h103, h106⟩ ?_
              refine an_v 13 (o_hround 1036900 13) (uN ((Kec.g s (Kec.at_ x2 y2)) ^^^ ((Kec.col s ((x2 + 4) % 5)) ^^^ (Kec.rot (Kec.col s ((x2 + 1) % 5)) 1)))) (fun W hS => exec_cast (xorU (Kec.g s (Kec.at_ x2 y2)) ((Kec.col s ((x2 + 4) % 5)) ^^^ (Kec.rot (Kec.col s ((x2 + 1) % 5)) 1)) (ws _) (Kec.xor_lt (Kec.col_lt ws _) (Kec.rot_lt (Kec.col_lt ws _) _))) (by kernel_rfl)) ⟨h103, h106⟩ ?_
              refine an_o 16 ?_
              refine on_c (o_hround 1036900 16) 107 #[iN x2, iN y2] Try.func107 ((hat_ok x2 y2 _ _ (by omega) (by omega) rfl).mono ?_)
              rintro e w1 ⟨rfl, rfl⟩
              refine ⟨_, rfl, ?_⟩
              refine ⟨⟨h103, h106⟩, ?_⟩
              refine an_v 17 (o_hround 1036900 17) (.pointer (some ⟨gt, Kec.at_ x2 y2, none⟩)) (fun W hS => exec_cast (v := .pointer (some ⟨gt, 0 + (Kec.at_ x2 y2) * 1, none⟩)) (by simp) (exec_indexAt_arr 141 (.tmp 8) (.tmp 71) (by kernel_rfl) gt 0 (by kernel_rfl) .i64 (Kec.at_ x2 y2) (by kernel_rfl) _ _ 1 Try.underlying141 (by kernel_rfl) (by omega))) ⟨h103, h106⟩ ?_
              refine an_v 18 (o_hround 1036900 18) (iN (Kec.g Kec.R (Kec.at_ x2 y2))) (fun W hS => exec_ld 3 (.tmp 72) gt (Kec.at_ x2 y2) Try.underlying3 (rc (hS.2) (Rz_get (Kec.at_ x2 y2) (by omega)))) ⟨h103, h106⟩ ?_
              refine an_o 19 ?_
              refine on_c (o_hround 1036900 19) 109 #[uN ((Kec.g s (Kec.at_ x2 y2)) ^^^ ((Kec.col s ((x2 + 4) % 5)) ^^^ (Kec.rot (Kec.col s ((x2 + 1) % 5)) 1))), iN (Kec.g Kec.R (Kec.at_ x2 y2))] Try.func109 ((hrot_ok ((Kec.g s (Kec.at_ x2 y2)) ^^^ ((Kec.col s ((x2 + 4) % 5)) ^^^ (Kec.rot (Kec.col s ((x2 + 1) % 5)) 1))) (Kec.g Kec.R (Kec.at_ x2 y2)) _ (Kec.xor_lt (ws _) (Kec.xor_lt (Kec.col_lt ws _) (Kec.rot_lt (Kec.col_lt ws _) _))) (Kec.R_lt' _ (by omega))).mono ?_)
              rintro e V109 ⟨rfl, kV109⟩
              refine ⟨_, rfl, ?_⟩
              have h110 := kV109.bk h103
              have h111 := kV109.bk h104
              have h112 := kV109.bk h105
              have h113 := kV109.bk h106
              have h114 := kV109.bk h107
              have K115 := K108.nn kV109
              refine ⟨⟨h110, h113⟩, ?_⟩
              refine an_v 20 (o_hround 1036900 20) (.pointer (some ⟨gb, Kec.at_ y2 ((2 * x2) + (3 * y2)), none⟩)) (fun W hS => exec_cast (v := .pointer (some ⟨gb, 0 + (Kec.at_ y2 ((2 * x2) + (3 * y2))) * 1, none⟩)) (by simp) (exec_indexAt_arr 86 (.tmp 9) (.tmp 61) (by kernel_rfl) gb 0 (by kernel_rfl) .i64 (Kec.at_ y2 ((2 * x2) + (3 * y2))) (by kernel_rfl) _ _ 1 Try.underlying86 (by kernel_rfl) (by omega))) ⟨h110, h113⟩ ?_
              refine an_o 21 ?_
              obtain ⟨V116, eV116, kV116⟩ := cell_step V109 gb (Kec.at_ y2 ((2 * x2) + (3 * y2))) (.int .u64 ((Kec.rot ((Kec.g s (Kec.at_ x2 y2)) ^^^ ((Kec.col s ((x2 + 4) % 5)) ^^^ (Kec.rot (Kec.col s ((x2 + 1) % 5)) 1))) (Kec.g Kec.R (Kec.at_ x2 y2)) : Nat) : Int))
              have h117 : V116.heap[gb]? = some (.cells (Wz (mmn s (5 * x2 + (y2 + 1)))) 86 (0, 0)) := eV116 ▸ ((heap_setCell_same _ gb (Kec.at_ y2 ((2 * x2) + (3 * y2))) _ _ (.int .u64 ((Kec.rot ((Kec.g s (Kec.at_ x2 y2)) ^^^ ((Kec.col s ((x2 + 4) % 5)) ^^^ (Kec.rot (Kec.col s ((x2 + 1) % 5)) 1))) (Kec.g Kec.R (Kec.at_ x2 y2)) : Nat) : Int)) h114).trans (congrArg (fun c => some (Obj.cells c 86 (0, 0))) (show (Wz (mmn s (5 * x2 + y2)) : Array Value).setIfInBounds (Kec.at_ y2 ((2 * x2) + (3 * y2))) (.int .u64 ((Kec.rot ((Kec.g s (Kec.at_ x2 y2)) ^^^ ((Kec.col s ((x2 + 4) % 5)) ^^^ (Kec.rot (Kec.col s ((x2 + 1) % 5)) 1))) (Kec.g Kec.R (Kec.at_ x2 y2)) : Nat) : Int)) = Wz (mmn s (5 * x2 + (y2 + 1))) from by rw [Wz_set]; exact congrArg Wz (mmn_succ s x2 y2 lt_y2))))
              refine on_s (o_hround 1036900 21) (w' := V116) (by rw [← eV116]; exact exec_store_cell 27 (.tmp 75) (.tmp 74) (by kernel_rfl) gb (Kec.at_ y2 ((2 * x2) + (3 * y2))) (by kernel_rfl) (uN (Kec.rot ((Kec.g s (Kec.at_ x2 y2)) ^^^ ((Kec.col s ((x2 + 4) % 5)) ^^^ (Kec.rot (Kec.col s ((x2 + 1) % 5)) 1))) (Kec.g Kec.R (Kec.at_ x2 y2)))) (by kernel_rfl) (by kernel_rfl) (by kernel_rfl) (uN (Kec.g (mmn s (5 * x2 + y2)) (Kec.at_ y2 ((2 * x2) + (3 * y2))))) (rc (h114) (Wz_get _ (Kec.at_ y2 ((2 * x2) + (3 * y2))) (by rw [mmn_len]; omega))) (frozen_of_row _ _ _ _ _ h114) (by kernel_rfl)) ?_
              clear eV116
              have h118 := kV116.bo h110 (by omega)
              have h119 := kV116.bo h111 (by omega)
              have h120 := kV116.bo h112 (by omega)
              have h121 := kV116.bo h113 (by omega)
              have K122 := K115.no kV116 (by omega)
              refine ⟨⟨h118, h121⟩, ?_⟩
              refine an_end (by kernel_rfl) ?_
              refine sy_a ⟨#[.agg (Wz s), uN k, pT ga 0, undef, pT gr 0, pT gc 0, iN x, u7, pT gt 0, pT gb 0, iN x2, uN ((Kec.col s ((x2 + 4) % 5)) ^^^ (Kec.rot (Kec.col s ((x2 + 1) % 5)) 1)), iN y2, undef, undef, iN x, .bool false, u17, u18, u19, u20, u21, u22, u23, u24, u25, u26, u27, u28, u29, u30, u31, u32, u33, .agg Rz, iN x2, .bool true, u37, u38, iN x2, iN (x2 + 4), iN ((x2 + 4) % 5), .pointer (some ⟨gc, (x2 + 4) % 5, none⟩), uN (Kec.col s ((x2 + 4) % 5)), iN x2, iN (x2 + 1), iN ((x2 + 1) % 5), .pointer (some ⟨gc, (x2 + 1) % 5, none⟩), uN (Kec.col s ((x2 + 1) % 5)), uN (Kec.rot (Kec.col s ((x2 + 1) % 5)) 1), uN ((Kec.col s ((x2 + 4) % 5)) ^^^ (Kec.rot (Kec.col s ((x2 + 1) % 5)) 1)), iN y2, .bool true, u53, u54, iN y2, iN x2, iN (2 * x2), iN y2, iN (3 * y2), iN ((2 * x2) + (3 * y2)), iN (Kec.at_ y2 ((2 * x2) + (3 * y2))), iN x2, iN y2, iN (Kec.at_ x2 y2), .pointer (some ⟨ga, Kec.at_ x2 y2, none⟩), uN (Kec.g s (Kec.at_ x2 y2)), uN ((Kec.col s ((x2 + 4) % 5)) ^^^ (Kec.rot (Kec.col s ((x2 + 1) % 5)) 1)), uN ((Kec.g s (Kec.at_ x2 y2)) ^^^ ((Kec.col s ((x2 + 4) % 5)) ^^^ (Kec.rot (Kec.col s ((x2 + 1) % 5)) 1))), iN x2, iN y2, iN (Kec.at_ x2 y2), .pointer (some ⟨gt, Kec.at_ x2 y2, none⟩), iN (Kec.g Kec.R (Kec.at_ x2 y2)), uN (Kec.rot ((Kec.g s (Kec.at_ x2 y2)) ^^^ ((Kec.col s ((x2 + 4) % 5)) ^^^ (Kec.rot (Kec.col s ((x2 + 1) % 5)) 1))) (Kec.g Kec.R (Kec.at_ x2 y2))), .pointer (some ⟨gb, Kec.at_ y2 ((2 * x2) + (3 * y2)), none⟩), undef, undef, undef, undef, undef, undef, undef, undef, undef, undef, undef, undef, undef, undef, undef, undef, undef, undef, undef, undef, undef, undef, undef, undef, undef, undef, undef, undef, undef, undef, undef, undef, undef, undef, undef, undef, undef, undef], []⟩ ?_
              refine blk_n ?_
              refine then_n ?_
              refine sy_reg ?_
              refine rg_plain 17 (opsAt (part_hround 518451)) [0, 1, 2] (by kernel_rfl) (by kernel_rfl) ?_
              refine ps_k (o_hround 518451 0) (iN y2) ?_
              refine ps_p (o_hround 518451 1) (iN (y2 + 1)) (exec_cast (congrArg (Value.int .i64) (wrapN (y2 + 1) (by omega))) (by kernel_rfl)) ?_
              refine ps_k (o_hround 518451 2) (iN (y2 + 1)) ?_
              refine ps_end ?_
              refine then_n ?_
              refine ⟨⟨y2 + 1, (iN y2), (.bool true), (iN y2), (iN (y2 + 1)), (iN y2), (iN x2), (iN (2 * x2)), (iN y2), (iN (3 * y2)), (iN ((2 * x2) + (3 * y2))), (iN (Kec.at_ y2 ((2 * x2) + (3 * y2)))), (iN x2), (iN y2), (iN (Kec.at_ x2 y2)), (.pointer (some ⟨ga, Kec.at_ x2 y2, none⟩)), (uN (Kec.g s (Kec.at_ x2 y2))), (uN ((Kec.col s ((x2 + 4) % 5)) ^^^ (Kec.rot (Kec.col s ((x2 + 1) % 5)) 1))), (uN ((Kec.g s (Kec.at_ x2 y2)) ^^^ ((Kec.col s ((x2 + 4) % 5)) ^^^ (Kec.rot (Kec.col s ((x2 + 1) % 5)) 1)))), (iN x2), (iN y2), (iN (Kec.at_ x2 y2)), (.pointer (some ⟨gt, Kec.at_ x2 y2, none⟩)), (iN (Kec.g Kec.R (Kec.at_ x2 y2))), (uN (Kec.rot ((Kec.g s (Kec.at_ x2 y2)) ^^^ ((Kec.col s ((x2 + 4) % 5)) ^^^ (Kec.rot (Kec.col s ((x2 + 1) % 5)) 1))) (Kec.g Kec.R (Kec.at_ x2 y2)))), (.pointer (some ⟨gb, Kec.at_ y2 ((2 * x2) + (3 * y2)), none⟩)), by kernel_rfl, by omega, h118, h119, h120, h121, h117, K122⟩, ?_⟩
              exact lt_meas (x := 5 - (y2 + 1)) (y := 5 - y2) (by kernel_rfl) (by kernel_rfl) (by omega)
            · have eq_y2 : y2 = 5 := by omega
              refine sy_sq (part_hround 259224) (part_hround 259225) ?_
              refine sy_sq (part_hround 518448) (part_hround 518449) ?_
              refine sy_reg ?_
              refine rg_plain 16 (opsAt (part_hround 518448)) [0, 1] (by kernel_rfl) (by kernel_rfl) ?_
              refine ps_k (o_hround 518448 0) (iN y2) ?_
              refine ps_p (o_hround 518448 1) (.bool false) (dcf ((((y2 : Nat) : Int)) < ((5) : Int)) (by omega)) ?_
              refine ps_end ?_
              refine then_n ?_
              refine sy_n (.tmp 52) (part_hround 1036898) (part_hround 1036899) ?_
              refine sy_exit 6 (by kernel_rfl) ?_
              refine then_e ?_
              refine then_e ?_
              refine blk_e ?_
              refine blk_n ?_
              refine then_n ?_
              refine sy_reg ?_
              refine rg_plain 13 (opsAt (part_hround 4051)) [0, 1, 2] (by kernel_rfl) (by kernel_rfl) ?_
              refine ps_k (o_hround 4051 0) (iN x2) ?_
              refine ps_p (o_hround 4051 1) (iN (x2 + 1)) (exec_cast (congrArg (Value.int .i64) (wrapN (x2 + 1) (by omega))) (by kernel_rfl)) ?_
              refine ps_k (o_hround 4051 2) (iN (x2 + 1)) ?_
              refine ps_end ?_
              refine then_n ?_
              refine ⟨⟨x2 + 1, (uN ((Kec.col s ((x2 + 4) % 5)) ^^^ (Kec.rot (Kec.col s ((x2 + 1) % 5)) 1))), (iN y2), (iN x2), (.bool true), (iN x2), (iN (x2 + 1)), (iN x2), (iN (x2 + 4)), (iN ((x2 + 4) % 5)), (.pointer (some ⟨gc, (x2 + 4) % 5, none⟩)), (uN (Kec.col s ((x2 + 4) % 5))), (iN x2), (iN (x2 + 1)), (iN ((x2 + 1) % 5)), (.pointer (some ⟨gc, (x2 + 1) % 5, none⟩)), (uN (Kec.col s ((x2 + 1) % 5))), (uN (Kec.rot (Kec.col s ((x2 + 1) % 5)) 1)), (uN ((Kec.col s ((x2 + 4) % 5)) ^^^ (Kec.rot (Kec.col s ((x2 + 1) % 5)) 1))), (iN y2), (.bool false), u53, u54, u55, u56, u57, u58, u59, u60, u61, u62, u63, u64, u65, u66, u67, u68, u69, u70, u71, u72, u73, u74, u75, by kernel_rfl, by omega, h96, h97, h98, h99, h100.trans (congrArg (fun n => some (Obj.cells (Wz (mmn s n)) 86 (0, 0))) (show 5 * x2 + y2 = 5 * (x2 + 1) by omega)), K101⟩, ?_⟩
              exact lt_meas (x := 5 - (x2 + 1)) (y := 5 - x2) (by kernel_rfl) (by kernel_rfl) (by omega)
        · have eq_x2 : x2 = 5 := by omega
          have h123 : V74.heap[gb]? = some (.cells (Wz (Kec.moves (Kec.columns s))) 86 (0, 0)) := (h79.trans (congrArg (fun n => some (Obj.cells (Wz (mmn s n)) 86 (0, 0))) (show 5 * x2 = 25 by omega))).trans (congrArg (fun l => some (Obj.cells (Wz l) 86 (0, 0))) (mmn_all s))
          refine sy_sq (part_hround 2024) (part_hround 2025) ?_
          refine sy_sq (part_hround 4048) (part_hround 4049) ?_
          refine sy_reg ?_
          refine rg_plain 12 (opsAt (part_hround 4048)) [0, 1] (by kernel_rfl) (by kernel_rfl) ?_
          refine ps_k (o_hround 4048 0) (iN x2) ?_
          refine ps_p (o_hround 4048 1) (.bool false) (dcf ((((x2 : Nat) : Int)) < ((5) : Int)) (by omega)) ?_
          refine ps_end ?_
          refine then_n ?_
          refine sy_n (.tmp 36) (part_hround 8098) (part_hround 8099) ?_
          refine sy_exit 4 (by kernel_rfl) ?_
          refine then_e ?_
          refine then_e ?_
          refine blk_e ?_
          refine then_n ?_
          refine sy_sq (part_hround 254) (part_hround 255) ?_
          refine sy_sq (part_hround 508) (part_hround 509) ?_
          refine sy_reg ?_
          refine rg_plain 19 (opsAt (part_hround 508)) [0] (by kernel_rfl) (by kernel_rfl) ?_
          refine ps_k (o_hround 508 0) (.int .i64 0) ?_
          refine ps_end ?_
          refine then_n ?_
          refine sy_bk 8 (part_hround 1018) ?_
          refine sy_loop (part_hround 2036) (fun a V => ∃ (x3 : Nat) (u14 u76 u77 u78 u79 u80 u81 u82 u83 u84 u85 u86 u87 u88 u89 u90 u91 u92 u93 u94 u95 u96 u97 u98 u99 u100 u101 u102 u103 u104 u105 u106 u107 : Value), (a = ⟨#[.agg (Wz s), uN k, pT ga 0, undef, pT gr 0, pT gc 0, iN x, u7, pT gt 0, pT gb 0, iN x2, u11, u12, iN x3, u14, iN x, .bool false, u17, u18, u19, u20, u21, u22, u23, u24, u25, u26, u27, u28, u29, u30, u31, u32, u33, .agg Rz, iN x2, .bool false, u37, u38, u39, u40, u41, u42, u43, u44, u45, u46, u47, u48, u49, u50, u51, u52, u53, u54, u55, u56, u57, u58, u59, u60, u61, u62, u63, u64, u65, u66, u67, u68, u69, u70, u71, u72, u73, u74, u75, u76, u77, u78, u79, u80, u81, u82, u83, u84, u85, u86, u87, u88, u89, u90, u91, u92, u93, u94, u95, u96, u97, u98, u99, u100, u101, u102, u103, u104, u105, u106, u107, undef, undef, undef, undef, undef, undef], []⟩) ∧ (x3 ≤ 5) ∧ (V.heap[ga]? = some (.cells (Wz (xxn (Kec.moves (Kec.columns s)) (5 * x3) s)) 86 (0, 0))) ∧ (V.heap[gr]? = some (.cells (zr_u64_25) 86 (0, 0))) ∧ (V.heap[gc]? = some (.cells (Wz ((List.range 5).map (Kec.col s))) 140 (0, 0))) ∧ (V.heap[gt]? = some (.cells Rz 141 (0, 0))) ∧ (V.heap[gb]? = some (.cells (Wz (Kec.moves (Kec.columns s))) 86 (0, 0))) ∧ (Keeps Nob w V)) (fun a _ => 5 - (intOf (a.tmps.getD 13 undef)).toNat) (by kernel_rfl) ?_ ?_
          · exact ⟨0, undef, undef, undef, undef, undef, undef, undef, undef, undef, undef, undef, undef, undef, undef, undef, undef, undef, undef, undef, undef, undef, undef, undef, undef, undef, undef, undef, undef, undef, undef, undef, undef, undef, by kernel_rfl, by omega, h75, h76, h77, h78, h123, K80⟩
          · rintro a V124 ⟨x3, u14, u76, u77, u78, u79, u80, u81, u82, u83, u84, u85, u86, u87, u88, u89, u90, u91, u92, u93, u94, u95, u96, u97, u98, u99, u100, u101, u102, u103, u104, u105, u106, u107, rfl, hx3, h125, h126, h127, h128, h129, K130⟩
            by_cases lt_x3 : x3 < 5
            · show _
              refine sy_sq (part_hround 4072) (part_hround 4073) ?_
              refine sy_sq (part_hround 8144) (part_hround 8145) ?_
              refine sy_reg ?_
              refine rg_plain 20 (opsAt (part_hround 8144)) [0, 1] (by kernel_rfl) (by kernel_rfl) ?_
              refine ps_k (o_hround 8144 0) (iN x3) ?_
              refine ps_p (o_hround 8144 1) (.bool true) (dct ((((x3 : Nat) : Int)) < ((5) : Int)) (by omega)) ?_
              refine ps_end ?_
              refine then_n ?_
              refine sy_ys (.tmp 77) (part_hround 16290) (part_hround 16291) ?_
              refine sy_sk ?_
              refine then_n ?_
              refine sy_sq (part_hround 8146) (part_hround 8147) ?_
              refine sy_bk 9 (part_hround 16292) ?_
              refine sy_sq (part_hround 32584) (part_hround 32585) ?_
              refine sy_reg ?_
              refine rg_plain 22 (opsAt (part_hround 32584)) [0] (by kernel_rfl) (by kernel_rfl) ?_
              refine ps_k (o_hround 32584 0) (.int .i64 0) ?_
              refine ps_end ?_
              refine then_n ?_
              refine sy_bk 10 (part_hround 65170) ?_
              refine sy_loop (part_hround 130340) (fun a V => ∃ (y3 : Nat) (u80 u81 u82 u83 u84 u85 u86 u87 u88 u89 u90 u91 u92 u93 u94 u95 u96 u97 u98 u99 u100 u101 u102 u103 u104 u105 u106 u107 : Value), (a = ⟨#[.agg (Wz s), uN k, pT ga 0, undef, pT gr 0, pT gc 0, iN x, u7, pT gt 0, pT gb 0, iN x2, u11, u12, iN x3, iN y3, iN x, .bool false, u17, u18, u19, u20, u21, u22, u23, u24, u25, u26, u27, u28, u29, u30, u31, u32, u33, .agg Rz, iN x2, .bool false, u37, u38, u39, u40, u41, u42, u43, u44, u45, u46, u47, u48, u49, u50, u51, u52, u53, u54, u55, u56, u57, u58, u59, u60, u61, u62, u63, u64, u65, u66, u67, u68, u69, u70, u71, u72, u73, u74, u75, iN x3, .bool true, u78, u79, u80, u81, u82, u83, u84, u85, u86, u87, u88, u89, u90, u91, u92, u93, u94, u95, u96, u97, u98, u99, u100, u101, u102, u103, u104, u105, u106, u107, undef, undef, undef, undef, undef, undef], []⟩) ∧ (y3 ≤ 5) ∧ (V.heap[ga]? = some (.cells (Wz (xxn (Kec.moves (Kec.columns s)) (5 * x3 + y3) s)) 86 (0, 0))) ∧ (V.heap[gr]? = some (.cells (zr_u64_25) 86 (0, 0))) ∧ (V.heap[gc]? = some (.cells (Wz ((List.range 5).map (Kec.col s))) 140 (0, 0))) ∧ (V.heap[gt]? = some (.cells Rz 141 (0, 0))) ∧ (V.heap[gb]? = some (.cells (Wz (Kec.moves (Kec.columns s))) 86 (0, 0))) ∧ (Keeps Nob w V)) (fun a _ => 5 - (intOf (a.tmps.getD 14 undef)).toNat) (by kernel_rfl) ?_ ?_
              · exact ⟨0, u80, u81, u82, u83, u84, u85, u86, u87, u88, u89, u90, u91, u92, u93, u94, u95, u96, u97, u98, u99, u100, u101, u102, u103, u104, u105, u106, u107, by kernel_rfl, by omega, h125, h126, h127, h128, h129, K130⟩
              · rintro a V131 ⟨y3, u80, u81, u82, u83, u84, u85, u86, u87, u88, u89, u90, u91, u92, u93, u94, u95, u96, u97, u98, u99, u100, u101, u102, u103, u104, u105, u106, u107, rfl, hy3, h132, h133, h134, h135, h136, K137⟩
                by_cases lt_y3 : y3 < 5
                · have ha1 := Kec.at_lt x3 y3
                  have ha2 := Kec.at_lt (x3 + 1) y3
                  have ha3 := Kec.at_lt (x3 + 2) y3
                  refine sy_sq (part_hround 260680) (part_hround 260681) ?_
                  refine sy_sq (part_hround 521360) (part_hround 521361) ?_
                  refine sy_reg ?_
                  refine rg_plain 23 (opsAt (part_hround 521360)) [0, 1] (by kernel_rfl) (by kernel_rfl) ?_
                  refine ps_k (o_hround 521360 0) (iN y3) ?_
                  refine ps_p (o_hround 521360 1) (.bool true) (dct ((((y3 : Nat) : Int)) < ((5) : Int)) (by omega)) ?_
                  refine ps_end ?_
                  refine then_n ?_
                  refine sy_ys (.tmp 81) (part_hround 1042722) (part_hround 1042723) ?_
                  refine sy_sk ?_
                  refine then_n ?_
                  refine sy_sq (part_hround 521362) (part_hround 521363) ?_
                  refine sy_bk 11 (part_hround 1042724) ?_
                  refine sy_reg ?_
                  refine rg_still 25 24 (opsAt (part_hround 1042724)) [o_hround 1042724 0, o_hround 1042724 1, o_hround 1042724 2, o_hround 1042724 3, o_hround 1042724 4, o_hround 1042724 5, o_hround 1042724 6, o_hround 1042724 7, o_hround 1042724 8, o_hround 1042724 9, o_hround 1042724 10, o_hround 1042724 11, o_hround 1042724 12, o_hround 1042724 13, o_hround 1042724 14, o_hround 1042724 15, o_hround 1042724 16, o_hround 1042724 17, o_hround 1042724 18, o_hround 1042724 19, o_hround 1042724 20, o_hround 1042724 21, o_hround 1042724 22, o_hround 1042724 23] [o_hround 1042724 24] (by kernel_rfl) (by kernel_rfl) (by kernel_rfl) (by kernel_rfl) (by kernel_rfl) ?_
                  obtain ⟨V139, eV139, kV139⟩ := drew_step V131
                  rw [eV139]
                  clear eV139
                  have h140 := kV139.bk h132
                  have h141 := kV139.bk h133
                  have h142 := kV139.bk h134
                  have h143 := kV139.bk h135
                  have h144 := kV139.bk h136
                  have K145 := K137.nn kV139
                  refine st_k (o_hround 1042724 0) (iN x3) ?_
                  refine st_k (o_hround 1042724 1) (iN y3) ?_
                  refine st_c (o_hround 1042724 2) 107 #[iN x3, iN y3] (iN (Kec.at_ x3 y3)) Try.func107 (hat_ok x3 y3 _ _ (by omega) (by omega) rfl) ?_
                  refine st_k (o_hround 1042724 3) (iN x3) ?_
                  refine st_k (o_hround 1042724 4) (iN y3) ?_
                  refine st_c (o_hround 1042724 5) 107 #[iN x3, iN y3] (iN (Kec.at_ x3 y3)) Try.func107 (hat_ok x3 y3 _ _ (by omega) (by omega) rfl) ?_
                  refine st_p (o_hround 1042724 6) (.pointer (some ⟨gb, Kec.at_ x3 y3, none⟩)) (exec_cast (v := .pointer (some ⟨gb, 0 + (Kec.at_ x3 y3) * 1, none⟩)) (by simp) (exec_indexAt_arr 86 (.tmp 9) (.tmp 89) (by kernel_rfl) gb 0 (by kernel_rfl) .i64 (Kec.at_ x3 y3) (by kernel_rfl) _ _ 1 Try.underlying86 (by kernel_rfl) (by omega))) ?_
                  refine st_p (o_hround 1042724 7) (uN (Kec.g (Kec.moves (Kec.columns s)) (Kec.at_ x3 y3))) (exec_ld 27 (.tmp 90) gb (Kec.at_ x3 y3) Try.underlying27 (rc (h144) (Wz_get _ (Kec.at_ x3 y3) (by rw [Kec.len_moves]; omega)))) ?_
                  refine st_k (o_hround 1042724 8) (iN x3) ?_
                  refine st_p (o_hround 1042724 9) (iN (x3 + 1)) (exec_cast (congrArg (Value.int .i64) (wrapN (x3 + 1) (by omega))) (by kernel_rfl)) ?_
                  refine st_k (o_hround 1042724 10) (iN y3) ?_
                  refine st_c (o_hround 1042724 11) 107 #[iN (x3 + 1), iN y3] (iN (Kec.at_ (x3 + 1) y3)) Try.func107 (hat_ok (x3 + 1) y3 _ _ (by omega) (by omega) rfl) ?_
                  refine st_p (o_hround 1042724 12) (.pointer (some ⟨gb, Kec.at_ (x3 + 1) y3, none⟩)) (exec_cast (v := .pointer (some ⟨gb, 0 + (Kec.at_ (x3 + 1) y3) * 1, none⟩)) (by simp) (exec_indexAt_arr 86 (.tmp 9) (.tmp 95) (by kernel_rfl) gb 0 (by kernel_rfl) .i64 (Kec.at_ (x3 + 1) y3) (by kernel_rfl) _ _ 1 Try.underlying86 (by kernel_rfl) (by omega))) ?_
                  refine st_p (o_hround 1042724 13) (uN (Kec.g (Kec.moves (Kec.columns s)) (Kec.at_ (x3 + 1) y3))) (exec_ld 27 (.tmp 96) gb (Kec.at_ (x3 + 1) y3) Try.underlying27 (rc (h144) (Wz_get _ (Kec.at_ (x3 + 1) y3) (by rw [Kec.len_moves]; omega)))) ?_
                  refine st_p (o_hround 1042724 14) (uN (Kec.W - 1 - (Kec.g (Kec.moves (Kec.columns s)) (Kec.at_ (x3 + 1) y3)))) (exec_cast (notU (Kec.g (Kec.moves (Kec.columns s)) (Kec.at_ (x3 + 1) y3)) (Kec.ws_moves (Kec.ws_columns ws) _)) (by kernel_rfl)) ?_
                  refine st_k (o_hround 1042724 15) (iN x3) ?_
                  refine st_p (o_hround 1042724 16) (iN (x3 + 2)) (exec_cast (congrArg (Value.int .i64) (wrapN (x3 + 2) (by omega))) (by kernel_rfl)) ?_
                  refine st_k (o_hround 1042724 17) (iN y3) ?_
                  refine st_c (o_hround 1042724 18) 107 #[iN (x3 + 2), iN y3] (iN (Kec.at_ (x3 + 2) y3)) Try.func107 (hat_ok (x3 + 2) y3 _ _ (by omega) (by omega) rfl) ?_
                  refine st_p (o_hround 1042724 19) (.pointer (some ⟨gb, Kec.at_ (x3 + 2) y3, none⟩)) (exec_cast (v := .pointer (some ⟨gb, 0 + (Kec.at_ (x3 + 2) y3) * 1, none⟩)) (by simp) (exec_indexAt_arr 86 (.tmp 9) (.tmp 102) (by kernel_rfl) gb 0 (by kernel_rfl) .i64 (Kec.at_ (x3 + 2) y3) (by kernel_rfl) _ _ 1 Try.underlying86 (by kernel_rfl) (by omega))) ?_
                  refine st_p (o_hround 1042724 20) (uN (Kec.g (Kec.moves (Kec.columns s)) (Kec.at_ (x3 + 2) y3))) (exec_ld 27 (.tmp 103) gb (Kec.at_ (x3 + 2) y3) Try.underlying27 (rc (h144) (Wz_get _ (Kec.at_ (x3 + 2) y3) (by rw [Kec.len_moves]; omega)))) ?_
                  refine st_p (o_hround 1042724 21) (uN ((Kec.W - 1 - (Kec.g (Kec.moves (Kec.columns s)) (Kec.at_ (x3 + 1) y3))) &&& (Kec.g (Kec.moves (Kec.columns s)) (Kec.at_ (x3 + 2) y3)))) (exec_cast (andU (Kec.W - 1 - (Kec.g (Kec.moves (Kec.columns s)) (Kec.at_ (x3 + 1) y3))) (Kec.g (Kec.moves (Kec.columns s)) (Kec.at_ (x3 + 2) y3)) (Kec.sub_lt _) (Kec.ws_moves (Kec.ws_columns ws) _)) (by kernel_rfl)) ?_
                  refine st_p (o_hround 1042724 22) (uN ((Kec.g (Kec.moves (Kec.columns s)) (Kec.at_ x3 y3)) ^^^ ((Kec.W - 1 - (Kec.g (Kec.moves (Kec.columns s)) (Kec.at_ (x3 + 1) y3))) &&& (Kec.g (Kec.moves (Kec.columns s)) (Kec.at_ (x3 + 2) y3))))) (exec_cast (xorU (Kec.g (Kec.moves (Kec.columns s)) (Kec.at_ x3 y3)) ((Kec.W - 1 - (Kec.g (Kec.moves (Kec.columns s)) (Kec.at_ (x3 + 1) y3))) &&& (Kec.g (Kec.moves (Kec.columns s)) (Kec.at_ (x3 + 2) y3))) (Kec.ws_moves (Kec.ws_columns ws) _) (Kec.and_lt (Kec.ws_moves (Kec.ws_columns ws) _))) (by kernel_rfl)) ?_
                  refine st_p (o_hround 1042724 23) (.pointer (some ⟨ga, Kec.at_ x3 y3, none⟩)) (exec_cast (v := .pointer (some ⟨ga, 0 + (Kec.at_ x3 y3) * 1, none⟩)) (by simp) (exec_indexAt_arr 86 (.tmp 2) (.tmp 86) (by kernel_rfl) ga 0 (by kernel_rfl) .i64 (Kec.at_ x3 y3) (by kernel_rfl) _ _ 1 Try.underlying86 (by kernel_rfl) (by omega))) ?_
                  refine st_end ?_
                  obtain ⟨V146, eV146, kV146⟩ := cell_step V139 ga (Kec.at_ x3 y3) (.int .u64 (((Kec.g (Kec.moves (Kec.columns s)) (Kec.at_ x3 y3)) ^^^ ((Kec.W - 1 - (Kec.g (Kec.moves (Kec.columns s)) (Kec.at_ (x3 + 1) y3))) &&& (Kec.g (Kec.moves (Kec.columns s)) (Kec.at_ (x3 + 2) y3))) : Nat) : Int))
                  have h147 : V146.heap[ga]? = some (.cells (Wz (xxn (Kec.moves (Kec.columns s)) (5 * x3 + (y3 + 1)) s)) 86 (0, 0)) := eV146 ▸ ((heap_setCell_same _ ga (Kec.at_ x3 y3) _ _ (.int .u64 (((Kec.g (Kec.moves (Kec.columns s)) (Kec.at_ x3 y3)) ^^^ ((Kec.W - 1 - (Kec.g (Kec.moves (Kec.columns s)) (Kec.at_ (x3 + 1) y3))) &&& (Kec.g (Kec.moves (Kec.columns s)) (Kec.at_ (x3 + 2) y3))) : Nat) : Int)) h140).trans (congrArg (fun c => some (Obj.cells c 86 (0, 0))) (show (Wz (xxn (Kec.moves (Kec.columns s)) (5 * x3 + y3) s) : Array Value).setIfInBounds (Kec.at_ x3 y3) (.int .u64 (((Kec.g (Kec.moves (Kec.columns s)) (Kec.at_ x3 y3)) ^^^ ((Kec.W - 1 - (Kec.g (Kec.moves (Kec.columns s)) (Kec.at_ (x3 + 1) y3))) &&& (Kec.g (Kec.moves (Kec.columns s)) (Kec.at_ (x3 + 2) y3))) : Nat) : Int)) = Wz (xxn (Kec.moves (Kec.columns s)) (5 * x3 + (y3 + 1)) s) from by rw [Wz_set]; exact congrArg Wz (xxn_succ s (Kec.moves (Kec.columns s)) x3 y3 lt_y3))))
                  refine ls_skip (o_hround 1042724 24) (w' := V146) (by kernel_rfl) (by rw [← eV146]; exact exec_store_cell 27 (.tmp 107) (.tmp 106) (by kernel_rfl) ga (Kec.at_ x3 y3) (by kernel_rfl) (.int .u64 (((Kec.g (Kec.moves (Kec.columns s)) (Kec.at_ x3 y3)) ^^^ ((Kec.W - 1 - (Kec.g (Kec.moves (Kec.columns s)) (Kec.at_ (x3 + 1) y3))) &&& (Kec.g (Kec.moves (Kec.columns s)) (Kec.at_ (x3 + 2) y3))) : Nat) : Int)) (by kernel_rfl) (by kernel_rfl) (by kernel_rfl) (.int .u64 ((Kec.g (xxn (Kec.moves (Kec.columns s)) (5 * x3 + y3) s) (Kec.at_ x3 y3) : Nat) : Int)) (rc (h140) (Wz_get _ (Kec.at_ x3 y3) (by rw [xxn_len, hs]; omega))) (frozen_of_row _ _ _ _ _ h140) (by kernel_rfl)) ?_
                  clear eV146
                  have h148 := kV146.bo h141 (by omega)
                  have h149 := kV146.bo h142 (by omega)
                  have h150 := kV146.bo h143 (by omega)
                  have h151 := kV146.bo h144 (by omega)
                  have K152 := K145.no kV146 (by omega)
                  refine ls_end ?_
                  refine sy_a ⟨#[.agg (Wz s), uN k, pT ga 0, undef, pT gr 0, pT gc 0, iN x, u7, pT gt 0, pT gb 0, iN x2, u11, u12, iN x3, iN y3, iN x, .bool false, u17, u18, u19, u20, u21, u22, u23, u24, u25, u26, u27, u28, u29, u30, u31, u32, u33, .agg Rz, iN x2, .bool false, u37, u38, u39, u40, u41, u42, u43, u44, u45, u46, u47, u48, u49, u50, u51, u52, u53, u54, u55, u56, u57, u58, u59, u60, u61, u62, u63, u64, u65, u66, u67, u68, u69, u70, u71, u72, u73, u74, u75, iN x3, .bool true, u78, u79, iN y3, .bool true, u82, u83, iN x3, iN y3, iN (Kec.at_ x3 y3), iN x3, iN y3, iN (Kec.at_ x3 y3), .pointer (some ⟨gb, Kec.at_ x3 y3, none⟩), uN (Kec.g (Kec.moves (Kec.columns s)) (Kec.at_ x3 y3)), iN x3, iN (x3 + 1), iN y3, iN (Kec.at_ (x3 + 1) y3), .pointer (some ⟨gb, Kec.at_ (x3 + 1) y3, none⟩), uN (Kec.g (Kec.moves (Kec.columns s)) (Kec.at_ (x3 + 1) y3)), uN (Kec.W - 1 - (Kec.g (Kec.moves (Kec.columns s)) (Kec.at_ (x3 + 1) y3))), iN x3, iN (x3 + 2), iN y3, iN (Kec.at_ (x3 + 2) y3), .pointer (some ⟨gb, Kec.at_ (x3 + 2) y3, none⟩), uN (Kec.g (Kec.moves (Kec.columns s)) (Kec.at_ (x3 + 2) y3)), uN ((Kec.W - 1 - (Kec.g (Kec.moves (Kec.columns s)) (Kec.at_ (x3 + 1) y3))) &&& (Kec.g (Kec.moves (Kec.columns s)) (Kec.at_ (x3 + 2) y3))), uN ((Kec.g (Kec.moves (Kec.columns s)) (Kec.at_ x3 y3)) ^^^ ((Kec.W - 1 - (Kec.g (Kec.moves (Kec.columns s)) (Kec.at_ (x3 + 1) y3))) &&& (Kec.g (Kec.moves (Kec.columns s)) (Kec.at_ (x3 + 2) y3)))), .pointer (some ⟨ga, Kec.at_ x3 y3, none⟩), undef, undef, undef, undef, undef, undef], []⟩ ?_
                  refine blk_n ?_
                  refine then_n ?_
                  refine sy_reg ?_
                  refine rg_plain 24 (opsAt (part_hround 521363)) [0, 1, 2] (by kernel_rfl) (by kernel_rfl) ?_
                  refine ps_k (o_hround 521363 0) (iN y3) ?_
                  refine ps_p (o_hround 521363 1) (iN (y3 + 1)) (exec_cast (congrArg (Value.int .i64) (wrapN (y3 + 1) (by omega))) (by kernel_rfl)) ?_
                  refine ps_k (o_hround 521363 2) (iN (y3 + 1)) ?_
                  refine ps_end ?_
                  refine then_n ?_
                  refine ⟨⟨y3 + 1, (iN y3), (.bool true), (iN y3), (iN (y3 + 1)), (iN x3), (iN y3), (iN (Kec.at_ x3 y3)), (iN x3), (iN y3), (iN (Kec.at_ x3 y3)), (.pointer (some ⟨gb, Kec.at_ x3 y3, none⟩)), (uN (Kec.g (Kec.moves (Kec.columns s)) (Kec.at_ x3 y3))), (iN x3), (iN (x3 + 1)), (iN y3), (iN (Kec.at_ (x3 + 1) y3)), (.pointer (some ⟨gb, Kec.at_ (x3 + 1) y3, none⟩)), (uN (Kec.g (Kec.moves (Kec.columns s)) (Kec.at_ (x3 + 1) y3))), (uN (Kec.W - 1 - (Kec.g (Kec.moves (Kec.columns s)) (Kec.at_ (x3 + 1) y3)))), (iN x3), (iN (x3 + 2)), (iN y3), (iN (Kec.at_ (x3 + 2) y3)), (.pointer (some ⟨gb, Kec.at_ (x3 + 2) y3, none⟩)), (uN (Kec.g (Kec.moves (Kec.columns s)) (Kec.at_ (x3 + 2) y3))), (uN ((Kec.W - 1 - (Kec.g (Kec.moves (Kec.columns s)) (Kec.at_ (x3 + 1) y3))) &&& (Kec.g (Kec.moves (Kec.columns s)) (Kec.at_ (x3 + 2) y3)))), (uN ((Kec.g (Kec.moves (Kec.columns s)) (Kec.at_ x3 y3)) ^^^ ((Kec.W - 1 - (Kec.g (Kec.moves (Kec.columns s)) (Kec.at_ (x3 + 1) y3))) &&& (Kec.g (Kec.moves (Kec.columns s)) (Kec.at_ (x3 + 2) y3))))), (.pointer (some ⟨ga, Kec.at_ x3 y3, none⟩)), by kernel_rfl, by omega, h147, h148, h149, h150, h151, K152⟩, ?_⟩
                  exact lt_meas (x := 5 - (y3 + 1)) (y := 5 - y3) (by kernel_rfl) (by kernel_rfl) (by omega)
                · have eq_y3 : y3 = 5 := by omega
                  refine sy_sq (part_hround 260680) (part_hround 260681) ?_
                  refine sy_sq (part_hround 521360) (part_hround 521361) ?_
                  refine sy_reg ?_
                  refine rg_plain 23 (opsAt (part_hround 521360)) [0, 1] (by kernel_rfl) (by kernel_rfl) ?_
                  refine ps_k (o_hround 521360 0) (iN y3) ?_
                  refine ps_p (o_hround 521360 1) (.bool false) (dcf ((((y3 : Nat) : Int)) < ((5) : Int)) (by omega)) ?_
                  refine ps_end ?_
                  refine then_n ?_
                  refine sy_n (.tmp 81) (part_hround 1042722) (part_hround 1042723) ?_
                  refine sy_exit 10 (by kernel_rfl) ?_
                  refine then_e ?_
                  refine then_e ?_
                  refine blk_e ?_
                  refine blk_n ?_
                  refine then_n ?_
                  refine sy_reg ?_
                  refine rg_plain 21 (opsAt (part_hround 8147)) [0, 1, 2] (by kernel_rfl) (by kernel_rfl) ?_
                  refine ps_k (o_hround 8147 0) (iN x3) ?_
                  refine ps_p (o_hround 8147 1) (iN (x3 + 1)) (exec_cast (congrArg (Value.int .i64) (wrapN (x3 + 1) (by omega))) (by kernel_rfl)) ?_
                  refine ps_k (o_hround 8147 2) (iN (x3 + 1)) ?_
                  refine ps_end ?_
                  refine then_n ?_
                  refine ⟨⟨x3 + 1, (iN y3), (iN x3), (.bool true), (iN x3), (iN (x3 + 1)), (iN y3), (.bool false), u82, u83, u84, u85, u86, u87, u88, u89, u90, u91, u92, u93, u94, u95, u96, u97, u98, u99, u100, u101, u102, u103, u104, u105, u106, u107, by kernel_rfl, by omega, h132.trans (congrArg (fun n => some (Obj.cells (Wz (xxn (Kec.moves (Kec.columns s)) n s)) 86 (0, 0))) (show 5 * x3 + y3 = 5 * (x3 + 1) by omega)), h133, h134, h135, h136, K137⟩, ?_⟩
                  exact lt_meas (x := 5 - (x3 + 1)) (y := 5 - x3) (by kernel_rfl) (by kernel_rfl) (by omega)
            · have eq_x3 : x3 = 5 := by omega
              have h153 : V124.heap[ga]? = some (.cells (Wz (Kec.mixes (Kec.moves (Kec.columns s)))) 86 (0, 0)) := (h125.trans (congrArg (fun n => some (Obj.cells (Wz (xxn (Kec.moves (Kec.columns s)) n s)) 86 (0, 0))) (show 5 * x3 = 25 by omega))).trans (congrArg (fun l => some (Obj.cells (Wz l) 86 (0, 0))) (xxn_all s (Kec.moves (Kec.columns s)) hs))
              refine sy_sq (part_hround 4072) (part_hround 4073) ?_
              refine sy_sq (part_hround 8144) (part_hround 8145) ?_
              refine sy_reg ?_
              refine rg_plain 20 (opsAt (part_hround 8144)) [0, 1] (by kernel_rfl) (by kernel_rfl) ?_
              refine ps_k (o_hround 8144 0) (iN x3) ?_
              refine ps_p (o_hround 8144 1) (.bool false) (dcf ((((x3 : Nat) : Int)) < ((5) : Int)) (by omega)) ?_
              refine ps_end ?_
              refine then_n ?_
              refine sy_n (.tmp 77) (part_hround 16290) (part_hround 16291) ?_
              refine sy_exit 8 (by kernel_rfl) ?_
              refine then_e ?_
              refine then_e ?_
              refine blk_e ?_
              refine then_n ?_
              refine sy_sq (part_hround 510) (part_hround 511) ?_
              refine sy_reg ?_
              refine rg_plain 26 (opsAt (part_hround 510)) [0, 1, 2, 3, 4, 5] (by kernel_rfl) (by kernel_rfl) ?_
              refine ps_p (o_hround 510 0) (pT ga 0) (exec_cast (v := pT ga (0 + 0 * 1)) (by simp) (exec_indexAt_arr 86 (.tmp 2) (.const (.int .i64 0)) (by kernel_rfl) ga 0 (by kernel_rfl) .i64 0 (by kernel_rfl) _ _ 1 Try.underlying86 (by kernel_rfl) (by omega))) ?_
              refine ps_p (o_hround 510 1) (uN (Kec.g (Kec.mixes (Kec.moves (Kec.columns s))) 0)) (exec_ld 27 (.tmp 108) ga 0 Try.underlying27 (rc (h153) (Wz_get _ 0 (by rw [Kec.len_mixes]; omega)))) ?_
              refine ps_k (o_hround 510 2) (uN k) ?_
              refine ps_p (o_hround 510 3) (uN ((Kec.g (Kec.mixes (Kec.moves (Kec.columns s))) 0) ^^^ k)) (exec_cast (xorU (Kec.g (Kec.mixes (Kec.moves (Kec.columns s))) 0) k (Kec.ws_mixes (Kec.ws_moves (Kec.ws_columns ws)) _) hk) (by kernel_rfl)) ?_
              refine ps_p (o_hround 510 4) (pT ga 0) (exec_cast (v := pT ga (0 + 0 * 1)) (by simp) (exec_indexAt_arr 86 (.tmp 2) (.const (.int .i64 0)) (by kernel_rfl) ga 0 (by kernel_rfl) .i64 0 (by kernel_rfl) _ _ 1 Try.underlying86 (by kernel_rfl) (by omega))) ?_
              obtain ⟨V154, eV154, kV154⟩ := cell_step V124 ga 0 (.int .u64 (((Kec.g (Kec.mixes (Kec.moves (Kec.columns s))) 0) ^^^ k : Nat) : Int))
              have h155 : V154.heap[ga]? = some (.cells (Wz (Kec.round s k)) 86 (0, 0)) := eV154 ▸ ((heap_setCell_same _ ga 0 _ _ (.int .u64 (((Kec.g (Kec.mixes (Kec.moves (Kec.columns s))) 0) ^^^ k : Nat) : Int)) h153).trans (congrArg (fun c => some (Obj.cells c 86 (0, 0))) (show (Wz (Kec.mixes (Kec.moves (Kec.columns s))) : Array Value).setIfInBounds 0 (.int .u64 (((Kec.g (Kec.mixes (Kec.moves (Kec.columns s))) 0) ^^^ k : Nat) : Int)) = Wz (Kec.round s k) from by rw [Wz_set]; exact congrArg Wz (rfl))))
              refine ps_s (o_hround 510 5) (w' := V154) (by rw [← eV154]; exact exec_store_cell 27 (.tmp 112) (.tmp 111) (by kernel_rfl) ga 0 (by kernel_rfl) (uN ((Kec.g (Kec.mixes (Kec.moves (Kec.columns s))) 0) ^^^ k)) (by kernel_rfl) (by kernel_rfl) (by kernel_rfl) (uN (Kec.g (Kec.mixes (Kec.moves (Kec.columns s))) 0)) (rc (h153) (Wz_get _ 0 (by rw [Kec.len_mixes]; omega))) (frozen_of_row _ _ _ _ _ h153) (by kernel_rfl)) ?_
              clear eV154
              have h156 := kV154.bo h126 (by omega)
              have h157 := kV154.bo h127 (by omega)
              have h158 := kV154.bo h128 (by omega)
              have h159 := kV154.bo h129 (by omega)
              have K160 := K130.no kV154 (by omega)
              refine ps_end ?_
              refine then_n ?_
              refine sy_sq (part_hround 1022) (part_hround 1023) ?_
              refine sy_reg ?_
              refine rg_plain 27 (opsAt (part_hround 1022)) [0, 1] (by kernel_rfl) (by kernel_rfl) ?_
              refine ps_p (o_hround 1022 0) (.agg (Wz (Kec.round s k))) (exec_load_row 86 (.tmp 2) (by kernel_rfl) ga (by kernel_rfl) _ _ (0, 0) _ (h155) Try.underlying86 rfl (by rw [Wz_size, Kec.len_round]; kernel_rfl)) ?_
              obtain ⟨V161, eV161, kV161⟩ := rowset_step V154 gr ((Wz (Kec.round s k)))
              have h162 : V161.heap[gr]? = some (.cells (Wz (Kec.round s k)) 86 (0, 0)) := eV161 ▸ setRow_heap _ _ _ _ _ _ h156
              refine ps_s (o_hround 1022 1) (w' := V161) (by rw [← eV161]; exact exec_store_row 86 (.tmp 4) (.tmp 113) (by kernel_rfl) gr ((Wz (Kec.round s k))) (by kernel_rfl) (by kernel_rfl) 86 (zr_u64_25) h156 (by rw [Wz_size, Kec.len_round]; kernel_rfl) (by rw [Wz_size, Kec.len_round]; rfl) (Wz_one _)) ?_
              clear eV161
              have h163 := kV161.bo h157 (by omega)
              have h164 := kV161.bo h158 (by omega)
              have h165 := kV161.bo h159 (by omega)
              have h166 := kV161.bo h155 (by omega)
              have K167 := K160.no kV161 (by omega)
              refine ps_end ?_
              refine then_n ?_
              refine sy_ret (by kernel_rfl) ?_
              refine sy_out (.agg (Wz (Kec.round s k))) rfl (results_cell_row (p := 4) (ty := 86) (by kernel_rfl) _ _ gr 86 (Wz (Kec.round s k)) (0, 0) _ (by kernel_rfl) h162 Try.underlying86 rfl (by rw [Wz_size, (Kec.len_round _ _)]; kernel_rfl)) ?_
              exact ⟨rfl, K167⟩
theorem hround_as (s : List Nat) (r : Nat) (w : World) (hs : s.length = 25) (ws : Kec.Ws s) (hr : r < 24) : Calls Try.prog 103 #[.agg (Wz (permn s r)), .int .u64 ((Kec.g Kec.K r : Nat) : Int)] w fun e w' => e = .returned (.agg (Wz (permn s (r + 1)))) ∧ Keeps Nob w w' := by
  rw [permn_succ s r hr]; exact hround_ok (permn s r) (Kec.g Kec.K r) w (permn_len s hs r) (permn_ws s ws r) (ws_K r)
noncomputable def part_hPermute (n : Nat) : Code := partOf Try.f89 n
noncomputable abbrev o_hPermute (n k : Nat) : Oper := (opsAt (part_hPermute n)).getD k default
set_option maxRecDepth 100000 in
set_option maxHeartbeats 4000000 in
theorem hPermute_ok (s : List Nat) (w : World) (hs : s.length = 25) (ws : Kec.Ws s) :
    Calls Try.prog 89 #[.agg (Wz s)] w (fun e w' => e = .returned (.agg (Wz (Kec.perm s))) ∧ Keeps Nob w w') := by
  have K0 : Keeps Nob w w := Keeps.refl _ _
  refine sy_enter (part_hPermute 1) ⟨#[.agg (Wz s), undef, undef, undef, undef, undef, undef, undef, undef, undef, undef, undef, undef, undef, undef, undef], []⟩ Try.func89 (by kernel_rfl) (by kernel_rfl) ?_
  refine sy_sq (part_hPermute 2) (part_hPermute 3) ?_
  refine sy_reg ?_
  refine rg_plain 0 (opsAt (part_hPermute 2)) [0, 1] (by kernel_rfl) (by kernel_rfl) ?_
  obtain ⟨V1, eV1, gb, egb, h2, kV1⟩ := alloc_step w ((Wz s)) 86
  have n3 : w.heap.size ≤ gb := egb ▸ K0.size
  refine ps_r (o_hPermute 2 0) (pT gb 0) (w' := V1) (by rw [← eV1, ← egb]; exact exec_box 86 (.tmp 0) (by kernel_rfl) (.agg (Wz s)) (by kernel_rfl)) ?_
  clear eV1
  have K4 := K0.nn kV1
  obtain ⟨V5, eV5, gr, egr, h6, kV5⟩ := alloc_step V1 (zr_u64_25) 86
  have n7 : gb < gr := egr ▸ lt_of_block h2
  have n8 : w.heap.size ≤ gr := egr ▸ K4.size
  refine ps_r (o_hPermute 2 1) (pT gr 0) (w' := V5) (by rw [← eV5, ← egr]; exact exec_alloc0 86 (by kernel_rfl) (.agg (zr_u64_25)) (by kernel_rfl)) ?_
  clear eV5
  have h9 := kV5.bk h2
  have K10 := K4.nn kV5
  refine ps_end ?_
  refine then_n ?_
  refine sy_sq (part_hPermute 6) (part_hPermute 7) ?_
  refine sy_reg ?_
  refine rg_plain 1 (opsAt (part_hPermute 6)) [0, 1, 2] (by kernel_rfl) (by kernel_rfl) ?_
  refine ps_c (o_hPermute 6 0) 102 #[] Try.func102 ((hconstants_ok _).mono ?_)
  rintro e V11 ⟨rfl, kV11⟩
  refine ⟨_, rfl, ?_⟩
  have h12 := kV11.bk h9
  have h13 := kV11.bk h6
  have K14 := K10.nn kV11
  obtain ⟨V15, eV15, gk, egk, h16, kV15⟩ := alloc_step V11 (zr_u64_24) 135
  have n17 : gb < gk := egk ▸ lt_of_block h12
  have n18 : gr < gk := egk ▸ lt_of_block h13
  have n19 : w.heap.size ≤ gk := egk ▸ K14.size
  refine ps_r (o_hPermute 6 1) (pT gk 0) (w' := V15) (by rw [← eV15, ← egk]; exact exec_alloc0 135 (by kernel_rfl) (.agg (zr_u64_24)) (by kernel_rfl)) ?_
  clear eV15
  have h20 := kV15.bk h12
  have h21 := kV15.bk h13
  have K22 := K14.nn kV15
  obtain ⟨V23, eV23, kV23⟩ := rowset_step V15 gk ((Wz Kec.K))
  have h24 : V23.heap[gk]? = some (.cells (Wz Kec.K) 135 (0, 0)) := eV23 ▸ setRow_heap _ _ _ _ _ _ h16
  refine ps_s (o_hPermute 6 2) (w' := V23) (by rw [← eV23]; exact exec_store_row 135 (.tmp 3) (.tmp 5) (by kernel_rfl) gk ((Wz Kec.K)) (by kernel_rfl) (by kernel_rfl) 135 (zr_u64_24) h16 (by kernel_rfl) (by kernel_rfl) (by kernel_rfl)) ?_
  clear eV23
  have h25 := kV23.bo h20 (by omega)
  have h26 := kV23.bo h21 (by omega)
  have K27 := K22.no kV23 (by omega)
  refine ps_end ?_
  refine then_n ?_
  refine sy_sq (part_hPermute 14) (part_hPermute 15) ?_
  refine sy_sq (part_hPermute 28) (part_hPermute 29) ?_
  refine sy_reg ?_
  refine rg_plain 2 (opsAt (part_hPermute 28)) [0] (by kernel_rfl) (by kernel_rfl) ?_
  refine ps_k (o_hPermute 28 0) (.int .i64 0) ?_
  refine ps_end ?_
  refine then_n ?_
  refine sy_bk 0 (part_hPermute 58) ?_
  refine sy_loop (part_hPermute 116) (fun a V => ∃ (r : Nat) (u6 u7 u8 u9 u10 u11 u12 u13 u14 : Value), (a = ⟨#[.agg (Wz s), pT gb 0, pT gr 0, pT gk 0, iN r, .agg (Wz Kec.K), u6, u7, u8, u9, u10, u11, u12, u13, u14, undef], []⟩) ∧ (r ≤ 24) ∧ (V.heap[gb]? = some (.cells (Wz (permn s r)) 86 (0, 0))) ∧ (V.heap[gr]? = some (.cells (zr_u64_25) 86 (0, 0))) ∧ (V.heap[gk]? = some (.cells (Wz Kec.K) 135 (0, 0))) ∧ (Keeps Nob w V)) (fun a _ => 24 - (intOf (a.tmps.getD 4 undef)).toNat) (by kernel_rfl) ?_ ?_
  · exact ⟨0, undef, undef, undef, undef, undef, undef, undef, undef, undef, by kernel_rfl, by omega, h25, h26, h24, K27⟩
  · rintro a V28 ⟨r, u6, u7, u8, u9, u10, u11, u12, u13, u14, rfl, hr, h29, h30, h31, K32⟩
    by_cases lt_r : r < 24
    · show _
      refine sy_sq (part_hPermute 232) (part_hPermute 233) ?_
      refine sy_sq (part_hPermute 464) (part_hPermute 465) ?_
      refine sy_reg ?_
      refine rg_plain 3 (opsAt (part_hPermute 464)) [0, 1] (by kernel_rfl) (by kernel_rfl) ?_
      refine ps_k (o_hPermute 464 0) (iN r) ?_
      refine ps_p (o_hPermute 464 1) (.bool true) (dct ((((r : Nat) : Int)) < ((24) : Int)) (by omega)) ?_
      refine ps_end ?_
      refine then_n ?_
      refine sy_ys (.tmp 7) (part_hPermute 930) (part_hPermute 931) ?_
      refine sy_sk ?_
      refine then_n ?_
      refine sy_sq (part_hPermute 466) (part_hPermute 467) ?_
      refine sy_bk 1 (part_hPermute 932) ?_
      refine sy_np ?_
      refine sy_reg ?_
      refine an_begin 5 6 (opsAt (part_hPermute 932)) (fun W => (W.heap[gk]? = some (.cells (Wz Kec.K) 135 (0, 0)))) #[false, false, false, false, false, false] (by kernel_rfl) (by kernel_rfl) (by kernel_rfl) (by kernel_rfl) ?_
      obtain ⟨V33, eV33, kV33⟩ := drew_step V28
      rw [eV33]
      clear eV33
      have h34 := kV33.bk h29
      have h35 := kV33.bk h30
      have h36 := kV33.bk h31
      have K37 := K32.nn kV33
      refine an_k 1 (o_hPermute 932 1) (iN r) h36 ?_
      refine an_v 2 (o_hPermute 932 2) (pT gk r) (fun W hS => exec_cast (v := pT gk (0 + r * 1)) (by simp) (exec_indexAt_arr 135 (.tmp 3) (.tmp 11) (by kernel_rfl) gk 0 (by kernel_rfl) .i64 r (by kernel_rfl) _ _ 1 Try.underlying135 (by kernel_rfl) (by omega))) h36 ?_
      refine an_v 3 (o_hPermute 932 3) (uN (Kec.g Kec.K r)) (fun W hS => exec_ld 27 (.tmp 12) gk r Try.underlying27 (rc (hS) (Wz_get _ r (by rw [K_len]; omega)))) h36 ?_
      refine an_o 0 ?_
      refine on_r (o_hPermute 932 0) (.agg (Wz (permn s r))) (w' := V33) (exec_load_row 86 (.tmp 1) (by kernel_rfl) gb (by kernel_rfl) _ _ (0, 0) _ (h34) Try.underlying86 rfl (by rw [Wz_size, permn_len s hs]; kernel_rfl)) ?_
      refine ⟨h36, ?_⟩
      refine an_o 4 ?_
      refine on_c (o_hPermute 932 4) 103 #[.agg (Wz (permn s r)), uN (Kec.g Kec.K r)] Try.func103 ((hround_as s r _ hs ws lt_r).mono ?_)
      rintro e V38 ⟨rfl, kV38⟩
      refine ⟨_, rfl, ?_⟩
      have h39 := kV38.bk h34
      have h40 := kV38.bk h35
      have h41 := kV38.bk h36
      have K42 := K37.nn kV38
      refine ⟨h41, ?_⟩
      refine an_o 5 ?_
      obtain ⟨V43, eV43, kV43⟩ := rowset_step V38 gb ((Wz (permn s (r + 1))))
      have h44 : V43.heap[gb]? = some (.cells (Wz (permn s (r + 1))) 86 (0, 0)) := eV43 ▸ setRow_heap _ _ _ _ _ _ h39
      refine on_s (o_hPermute 932 5) (w' := V43) (by rw [← eV43]; exact exec_store_row 86 (.tmp 1) (.tmp 14) (by kernel_rfl) gb ((Wz (permn s (r + 1)))) (by kernel_rfl) (by kernel_rfl) 86 (Wz (permn s r)) h39 (by rw [Wz_size]; first | (rw [permn_len s hs]; kernel_rfl) | (rw [Kec.len_perm hs]; kernel_rfl)) (by simp only [Wz_size, permn_len s hs, Kec.len_perm hs] <;> rfl) (Wz_one _)) ?_
      clear eV43
      have h45 := kV43.bo h40 (by omega)
      have h46 := kV43.bo h41 (by omega)
      have K47 := K42.no kV43 (by omega)
      refine ⟨h46, ?_⟩
      refine an_end (by kernel_rfl) ?_
      refine blk_n ?_
      refine then_n ?_
      refine sy_reg ?_
      refine rg_plain 4 (opsAt (part_hPermute 467)) [0, 1, 2] (by kernel_rfl) (by kernel_rfl) ?_
      refine ps_k (o_hPermute 467 0) (iN r) ?_
      refine ps_p (o_hPermute 467 1) (iN (r + 1)) (exec_cast (congrArg (Value.int .i64) (wrapN (r + 1) (by omega))) (by kernel_rfl)) ?_
      refine ps_k (o_hPermute 467 2) (iN (r + 1)) ?_
      refine ps_end ?_
      refine then_n ?_
      refine ⟨⟨r + 1, (iN r), (.bool true), (iN r), (iN (r + 1)), (.agg (Wz (permn s r))), (iN r), (pT gk r), (uN (Kec.g Kec.K r)), (.agg (Wz (permn s (r + 1)))), by kernel_rfl, by omega, h44, h45, h46, K47⟩, ?_⟩
      exact lt_meas (x := 24 - (r + 1)) (y := 24 - r) (by kernel_rfl) (by kernel_rfl) (by omega)
    · have eq_r : r = 24 := by omega
      have h48 : V28.heap[gb]? = some (.cells (Wz (Kec.perm s)) 86 (0, 0)) := h29.trans (by rw [eq_r, permn_all])
      refine sy_sq (part_hPermute 232) (part_hPermute 233) ?_
      refine sy_sq (part_hPermute 464) (part_hPermute 465) ?_
      refine sy_reg ?_
      refine rg_plain 3 (opsAt (part_hPermute 464)) [0, 1] (by kernel_rfl) (by kernel_rfl) ?_
      refine ps_k (o_hPermute 464 0) (iN r) ?_
      refine ps_p (o_hPermute 464 1) (.bool false) (dcf ((((r : Nat) : Int)) < ((24) : Int)) (by omega)) ?_
      refine ps_end ?_
      refine then_n ?_
      refine sy_n (.tmp 7) (part_hPermute 930) (part_hPermute 931) ?_
      refine sy_exit 0 (by kernel_rfl) ?_
      refine then_e ?_
      refine then_e ?_
      refine blk_e ?_
      refine then_n ?_
      refine sy_sq (part_hPermute 30) (part_hPermute 31) ?_
      refine sy_reg ?_
      refine rg_plain 6 (opsAt (part_hPermute 30)) [0, 1] (by kernel_rfl) (by kernel_rfl) ?_
      refine ps_p (o_hPermute 30 0) (.agg (Wz (Kec.perm s))) (exec_load_row 86 (.tmp 1) (by kernel_rfl) gb (by kernel_rfl) _ _ (0, 0) _ (h48) Try.underlying86 rfl (by rw [Wz_size, Kec.len_perm hs]; kernel_rfl)) ?_
      obtain ⟨V49, eV49, kV49⟩ := rowset_step V28 gr ((Wz (Kec.perm s)))
      have h50 : V49.heap[gr]? = some (.cells (Wz (Kec.perm s)) 86 (0, 0)) := eV49 ▸ setRow_heap _ _ _ _ _ _ h30
      refine ps_s (o_hPermute 30 1) (w' := V49) (by rw [← eV49]; exact exec_store_row 86 (.tmp 2) (.tmp 15) (by kernel_rfl) gr ((Wz (Kec.perm s))) (by kernel_rfl) (by kernel_rfl) 86 (zr_u64_25) h30 (by rw [Wz_size]; first | (rw [permn_len s hs]; kernel_rfl) | (rw [Kec.len_perm hs]; kernel_rfl)) (by simp only [Wz_size, permn_len s hs, Kec.len_perm hs] <;> rfl) (Wz_one _)) ?_
      clear eV49
      have h51 := kV49.bo h48 (by omega)
      have h52 := kV49.bo h31 (by omega)
      have K53 := K32.no kV49 (by omega)
      refine ps_end ?_
      refine then_n ?_
      refine sy_ret (by kernel_rfl) ?_
      refine sy_out (.agg (Wz (Kec.perm s))) rfl (results_cell_row (p := 2) (ty := 86) (by kernel_rfl) _ _ gr 86 (Wz (Kec.perm s)) (0, 0) _ (by kernel_rfl) h50 Try.underlying86 rfl (by rw [Wz_size, Kec.len_perm hs]; kernel_rfl)) ?_
      exact ⟨rfl, K53⟩
end Go.Proofs.Ytenaakldccjnbaa
