/-
  Votes: the document's digests (printed by vote4.py). Conditions: none.
-/
import Derived.Test.YtenaakldccjnbaaVoteE
import Derived.Test.YtenaakldccjnbaaVoteH
import Derived.Test.YtenaakldccjnbaaKecT
namespace Go.Proofs.Ytenaakldccjnbaa
open Go Go.RowKit Go.Own Go.Shelf

noncomputable def part_rvDigest (n : Nat) : Code := partOf Try.f27 n
noncomputable abbrev o_rvDigest (n k : Nat) : Oper := (opsAt (part_rvDigest n)).getD k default
set_option maxRecDepth 100000 in
set_option maxHeartbeats 4000000 in
theorem rvDigest_bad (a : Att) (w : World) (ha : a.Ok) (hf : ¬ a.fine) :
    Calls Try.prog 27 #[.agg (Att.c a)] w (fun e w' => e = .returned (.tuple #[.agg (B zhash).toArray, .int .i64 3]) ∧ Keeps Nob w w') := by
  have hr := ha.r
  have hlen := att_len hr
  have K0 : Keeps Nob w w := Keeps.refl _ _
  refine sy_enter (part_rvDigest 1) ⟨#[.agg (Att.c a), undef, undef, undef, undef, undef, undef, undef, undef, undef, undef, undef, undef, undef], []⟩ Try.func27 (by kernel_rfl) (by kernel_rfl) ?_
  refine sy_sq (part_rvDigest 2) (part_rvDigest 3) ?_
  refine sy_reg ?_
  refine rg_plain 0 (opsAt (part_rvDigest 2)) [0, 1, 2] (by kernel_rfl) (by kernel_rfl) ?_
  obtain ⟨V1, eV1, ga, ega, h2, kV1⟩ := alloc_step w ((Att.c a)) 29
  have n3 : w.heap.size ≤ ga := ega ▸ K0.size
  refine ps_r (o_rvDigest 2 0) (pT ga 0) (w' := V1) (by rw [← eV1, ← ega]; exact exec_box 29 (.tmp 0) (by kernel_rfl) (.agg (Att.c a)) (by kernel_rfl)) ?_
  clear eV1
  have K4 := K0.nn kV1
  have z5 := kV1.size
  obtain ⟨V6, eV6, gr, egr, h7, kV6⟩ := alloc_step V1 (zr_u8_32) 26
  have n8 : ga < gr := egr ▸ lt_of_block h2
  have n9 : w.heap.size ≤ gr := egr ▸ K4.size
  refine ps_r (o_rvDigest 2 1) (pT gr 0) (w' := V6) (by rw [← eV6, ← egr]; exact exec_alloc0 26 (by kernel_rfl) (.agg (zr_u8_32)) (by kernel_rfl)) ?_
  clear eV6
  have h10 := kV6.bk h2
  have K11 := K4.nn kV6
  have z12 := kV6.size
  refine ps_k (o_rvDigest 2 2) (.int .i64 0) ?_
  refine ps_end ?_
  refine then_n ?_
  refine sy_sq (part_rvDigest 6) (part_rvDigest 7) ?_
  refine sy_sq (part_rvDigest 12) (part_rvDigest 13) ?_
  refine sy_reg ?_
  refine rg_plain 1 (opsAt (part_rvDigest 12)) [0, 1, 2] (by kernel_rfl) (by kernel_rfl) ?_
  refine ps_p (o_rvDigest 12 0) (.agg (Att.c a)) (exec_load_row 29 (.tmp 1) (by kernel_rfl) ga (by kernel_rfl) _ _ (0, 0) _ (h10) Try.underlying29 rfl (by rw [Att.c_size _ hr]; kernel_rfl)) ?_
  refine ps_c (o_rvDigest 12 1) 22 #[.agg (Att.c a)] Try.func22 ((rvCheck_is a _ hr (Att.err_no hf)).mono ?_)
  rintro e V13 ⟨rfl, kV13⟩
  refine ⟨_, rfl, ?_⟩
  have h14 := kV13.bk h10
  have h15 := kV13.bk h7
  have K16 := K11.nn kV13
  have z17 := kV13.size
  refine ps_k (o_rvDigest 12 2) (.int .i64 3) ?_
  refine ps_end ?_
  refine then_n ?_
  refine sy_sq (part_rvDigest 26) (part_rvDigest 27) ?_
  refine sy_reg ?_
  refine rg_plain 2 (opsAt (part_rvDigest 26)) [0, 1] (by kernel_rfl) (by kernel_rfl) ?_
  refine ps_k (o_rvDigest 26 0) (.int .i64 3) ?_
  refine ps_k (o_rvDigest 26 1) (.bool true) ?_
  refine ps_end ?_
  refine then_n ?_
  refine sy_ys (.tmp 8) (part_rvDigest 54) (part_rvDigest 55) ?_
  refine sy_sq (part_rvDigest 108) (part_rvDigest 109) ?_
  refine sy_reg ?_
  refine rg_plain 3 (opsAt (part_rvDigest 108)) [0, 1, 2, 3] (by kernel_rfl) (by kernel_rfl) ?_
  refine ps_k (o_rvDigest 108 0) (.agg (B zhash).toArray) ?_
  refine ps_k (o_rvDigest 108 1) (.int .i64 3) ?_
  obtain ⟨V18, eV18, kV18⟩ := rowset_step V13 gr ((B zhash).toArray)
  have h19 : V18.heap[gr]? = some (.cells ((B zhash).toArray) 26 (0, 0)) := eV18 ▸ setRow_heap _ _ _ _ _ _ h15
  refine ps_s (o_rvDigest 108 2) (w' := V18) (by rw [← eV18]; exact exec_store_row 26 (.tmp 2) (.tmp 9) (by kernel_rfl) gr ((B zhash).toArray) (by kernel_rfl) (by kernel_rfl) 26 (zr_u8_32) h15 (by rw [Bz_size, show (zhash).length = 32 from zhash_len]; kernel_rfl) (by rw [Bz_size, show (zhash).length = 32 from zhash_len]; rfl) (by rw [List.all_toArray]; exact List.all_eq_true.2 (B_one _))) ?_
  clear eV18
  have h20 := kV18.bo h14 (by omega)
  have K21 := K16.no kV18 (by omega)
  have z22 := kV18.size
  refine ps_k (o_rvDigest 108 3) (.int .i64 3) ?_
  refine ps_end ?_
  refine then_n ?_
  refine sy_ret (by kernel_rfl) ?_
  refine then_r ?_
  refine sy_out (.tuple #[.agg ((B zhash).toArray), .int .i64 3]) rfl (results_row_tmp (p := 2) (q := 3) (ty := 26) (by kernel_rfl) _ _ gr 26 ((B zhash).toArray) (0, 0) _ (.int .i64 3) (by kernel_rfl) h19 Try.underlying26 rfl (by rw [Bz_size, zhash_len]; kernel_rfl) (by kernel_rfl)) ?_
  exact ⟨rfl, K21⟩
set_option maxRecDepth 100000 in
set_option maxHeartbeats 4000000 in
theorem rvDigest_ok (a : Att) (w : World) (ha : a.Ok) (hf : a.fine) :
    Calls Try.prog 27 #[.agg (Att.c a)] w (fun e w' => e = .returned (.tuple #[.agg (B a.dig).toArray, .int .i64 0]) ∧ Keeps Nob w w') := by
  have hr := ha.r
  have hlen := att_len hr
  have K0 : Keeps Nob w w := Keeps.refl _ _
  refine sy_enter (part_rvDigest 1) ⟨#[.agg (Att.c a), undef, undef, undef, undef, undef, undef, undef, undef, undef, undef, undef, undef, undef], []⟩ Try.func27 (by kernel_rfl) (by kernel_rfl) ?_
  refine sy_sq (part_rvDigest 2) (part_rvDigest 3) ?_
  refine sy_reg ?_
  refine rg_plain 0 (opsAt (part_rvDigest 2)) [0, 1, 2] (by kernel_rfl) (by kernel_rfl) ?_
  obtain ⟨V1, eV1, ga, ega, h2, kV1⟩ := alloc_step w ((Att.c a)) 29
  have n3 : w.heap.size ≤ ga := ega ▸ K0.size
  refine ps_r (o_rvDigest 2 0) (pT ga 0) (w' := V1) (by rw [← eV1, ← ega]; exact exec_box 29 (.tmp 0) (by kernel_rfl) (.agg (Att.c a)) (by kernel_rfl)) ?_
  clear eV1
  have K4 := K0.nn kV1
  have z5 := kV1.size
  obtain ⟨V6, eV6, gr, egr, h7, kV6⟩ := alloc_step V1 (zr_u8_32) 26
  have n8 : ga < gr := egr ▸ lt_of_block h2
  have n9 : w.heap.size ≤ gr := egr ▸ K4.size
  refine ps_r (o_rvDigest 2 1) (pT gr 0) (w' := V6) (by rw [← eV6, ← egr]; exact exec_alloc0 26 (by kernel_rfl) (.agg (zr_u8_32)) (by kernel_rfl)) ?_
  clear eV6
  have h10 := kV6.bk h2
  have K11 := K4.nn kV6
  have z12 := kV6.size
  refine ps_k (o_rvDigest 2 2) (.int .i64 0) ?_
  refine ps_end ?_
  refine then_n ?_
  refine sy_sq (part_rvDigest 6) (part_rvDigest 7) ?_
  refine sy_sq (part_rvDigest 12) (part_rvDigest 13) ?_
  refine sy_reg ?_
  refine rg_plain 1 (opsAt (part_rvDigest 12)) [0, 1, 2] (by kernel_rfl) (by kernel_rfl) ?_
  refine ps_p (o_rvDigest 12 0) (.agg (Att.c a)) (exec_load_row 29 (.tmp 1) (by kernel_rfl) ga (by kernel_rfl) _ _ (0, 0) _ (h10) Try.underlying29 rfl (by rw [Att.c_size _ hr]; kernel_rfl)) ?_
  refine ps_c (o_rvDigest 12 1) 22 #[.agg (Att.c a)] Try.func22 ((rvCheck_is a _ hr (Att.err_ok hf)).mono ?_)
  rintro e V13 ⟨rfl, kV13⟩
  refine ⟨_, rfl, ?_⟩
  have h14 := kV13.bk h10
  have h15 := kV13.bk h7
  have K16 := K11.nn kV13
  have z17 := kV13.size
  refine ps_k (o_rvDigest 12 2) (.int .i64 0) ?_
  refine ps_end ?_
  refine then_n ?_
  refine sy_sq (part_rvDigest 26) (part_rvDigest 27) ?_
  refine sy_reg ?_
  refine rg_plain 2 (opsAt (part_rvDigest 26)) [0, 1] (by kernel_rfl) (by kernel_rfl) ?_
  refine ps_k (o_rvDigest 26 0) (.int .i64 0) ?_
  refine ps_k (o_rvDigest 26 1) (.bool false) ?_
  refine ps_end ?_
  refine then_n ?_
  refine sy_n (.tmp 8) (part_rvDigest 54) (part_rvDigest 55) ?_
  refine sy_sk ?_
  refine then_n ?_
  refine sy_sq (part_rvDigest 14) (part_rvDigest 15) ?_
  refine sy_reg ?_
  refine rg_plain 4 (opsAt (part_rvDigest 14)) [0, 1, 2, 3, 4] (by kernel_rfl) (by kernel_rfl) ?_
  refine ps_p (o_rvDigest 14 0) (.agg (Att.c a)) (exec_load_row 29 (.tmp 1) (by kernel_rfl) ga (by kernel_rfl) _ _ (0, 0) _ (h14) Try.underlying29 rfl (by rw [Att.c_size _ hr]; kernel_rfl)) ?_
  refine ps_c (o_rvDigest 14 1) 57 #[.agg (Att.c a)] Try.func57 ((rbare_ok a _ ha hf).mono ?_)
  rintro e V18 ⟨X, rfl, hX, hnX, kV18⟩
  refine ⟨_, rfl, ?_⟩
  have h19 := kV18.bk h14
  have h20 := kV18.bk h15
  have K21 := K16.nn kV18
  have z22 := kV18.size
  refine ps_c (o_rvDigest 14 2) 65 #[X] Try.func65 ((hSum_ok a.bare _ _ (Row.bytes hX) (by omega)).mono ?_)
  rintro e V23 ⟨rfl, kV23⟩
  refine ⟨_, rfl, ?_⟩
  have h24 := kV23.bk h19
  have h25 := kV23.bk h20
  have K26 := K21.nn kV23
  have z27 := kV23.size
  obtain ⟨V28, eV28, kV28⟩ := rowset_step V23 gr ((B a.dig).toArray)
  have h29 : V28.heap[gr]? = some (.cells ((B a.dig).toArray) 26 (0, 0)) := eV28 ▸ setRow_heap _ _ _ _ _ _ h25
  refine ps_s (o_rvDigest 14 3) (w' := V28) (by rw [← eV28]; exact exec_store_row 26 (.tmp 2) (.tmp 13) (by kernel_rfl) gr ((B a.dig).toArray) (by kernel_rfl) (by kernel_rfl) 26 (zr_u8_32) h25 (by rw [Bz_size, show (a.dig).length = 32 from (Att.dig_len a)]; kernel_rfl) (by rw [Bz_size, show (a.dig).length = 32 from (Att.dig_len a)]; rfl) (by rw [List.all_toArray]; exact List.all_eq_true.2 (B_one _))) ?_
  clear eV28
  have h30 := kV28.bo h24 (by omega)
  have K31 := K26.no kV28 (by omega)
  have z32 := kV28.size
  refine ps_k (o_rvDigest 14 4) (.int .i64 0) ?_
  refine ps_end ?_
  refine then_n ?_
  refine sy_ret (by kernel_rfl) ?_
  refine sy_out (.tuple #[.agg ((B a.dig).toArray), .int .i64 0]) rfl (results_row_tmp (p := 2) (q := 3) (ty := 26) (by kernel_rfl) _ _ gr 26 ((B a.dig).toArray) (0, 0) _ (.int .i64 0) (by kernel_rfl) h29 Try.underlying26 rfl (by rw [Bz_size, (Att.dig_len a)]; kernel_rfl) (by kernel_rfl)) ?_
  exact ⟨rfl, K31⟩
noncomputable def part_rvDigestBlock (n : Nat) : Code := partOf Try.f29 n
noncomputable abbrev o_rvDigestBlock (n k : Nat) : Oper := (opsAt (part_rvDigestBlock n)).getD k default
set_option maxRecDepth 100000 in
set_option maxHeartbeats 4000000 in
theorem rvDigestBlock_bad (a : Pro) (w : World) (ha : a.Ok) (hf : ¬ a.fine) :
    Calls Try.prog 29 #[.agg (Pro.c a)] w (fun e w' => e = .returned (.tuple #[.agg (B zhash).toArray, .int .i64 3]) ∧ Keeps Nob w w') := by
  have hr := ha.r
  have hlen := pro_len hr
  have K0 : Keeps Nob w w := Keeps.refl _ _
  refine sy_enter (part_rvDigestBlock 1) ⟨#[.agg (Pro.c a), undef, undef, undef, undef, undef, undef, undef, undef, undef, undef, undef, undef, undef], []⟩ Try.func29 (by kernel_rfl) (by kernel_rfl) ?_
  refine sy_sq (part_rvDigestBlock 2) (part_rvDigestBlock 3) ?_
  refine sy_reg ?_
  refine rg_plain 0 (opsAt (part_rvDigestBlock 2)) [0, 1, 2] (by kernel_rfl) (by kernel_rfl) ?_
  obtain ⟨V1, eV1, ga, ega, h2, kV1⟩ := alloc_step w ((Pro.c a)) 36
  have n3 : w.heap.size ≤ ga := ega ▸ K0.size
  refine ps_r (o_rvDigestBlock 2 0) (pT ga 0) (w' := V1) (by rw [← eV1, ← ega]; exact exec_box 36 (.tmp 0) (by kernel_rfl) (.agg (Pro.c a)) (by kernel_rfl)) ?_
  clear eV1
  have K4 := K0.nn kV1
  have z5 := kV1.size
  obtain ⟨V6, eV6, gr, egr, h7, kV6⟩ := alloc_step V1 (zr_u8_32) 26
  have n8 : ga < gr := egr ▸ lt_of_block h2
  have n9 : w.heap.size ≤ gr := egr ▸ K4.size
  refine ps_r (o_rvDigestBlock 2 1) (pT gr 0) (w' := V6) (by rw [← eV6, ← egr]; exact exec_alloc0 26 (by kernel_rfl) (.agg (zr_u8_32)) (by kernel_rfl)) ?_
  clear eV6
  have h10 := kV6.bk h2
  have K11 := K4.nn kV6
  have z12 := kV6.size
  refine ps_k (o_rvDigestBlock 2 2) (.int .i64 0) ?_
  refine ps_end ?_
  refine then_n ?_
  refine sy_sq (part_rvDigestBlock 6) (part_rvDigestBlock 7) ?_
  refine sy_sq (part_rvDigestBlock 12) (part_rvDigestBlock 13) ?_
  refine sy_reg ?_
  refine rg_plain 1 (opsAt (part_rvDigestBlock 12)) [0, 1, 2] (by kernel_rfl) (by kernel_rfl) ?_
  refine ps_p (o_rvDigestBlock 12 0) (.agg (Pro.c a)) (exec_load_row 36 (.tmp 1) (by kernel_rfl) ga (by kernel_rfl) _ _ (0, 0) _ (h10) Try.underlying36 rfl (by rw [Pro.c_size _ hr]; kernel_rfl)) ?_
  refine ps_c (o_rvDigestBlock 12 1) 24 #[.agg (Pro.c a)] Try.func24 ((rvCheckBlock_is a _ hr (Pro.err_no hf)).mono ?_)
  rintro e V13 ⟨rfl, kV13⟩
  refine ⟨_, rfl, ?_⟩
  have h14 := kV13.bk h10
  have h15 := kV13.bk h7
  have K16 := K11.nn kV13
  have z17 := kV13.size
  refine ps_k (o_rvDigestBlock 12 2) (.int .i64 3) ?_
  refine ps_end ?_
  refine then_n ?_
  refine sy_sq (part_rvDigestBlock 26) (part_rvDigestBlock 27) ?_
  refine sy_reg ?_
  refine rg_plain 2 (opsAt (part_rvDigestBlock 26)) [0, 1] (by kernel_rfl) (by kernel_rfl) ?_
  refine ps_k (o_rvDigestBlock 26 0) (.int .i64 3) ?_
  refine ps_k (o_rvDigestBlock 26 1) (.bool true) ?_
  refine ps_end ?_
  refine then_n ?_
  refine sy_ys (.tmp 8) (part_rvDigestBlock 54) (part_rvDigestBlock 55) ?_
  refine sy_sq (part_rvDigestBlock 108) (part_rvDigestBlock 109) ?_
  refine sy_reg ?_
  refine rg_plain 3 (opsAt (part_rvDigestBlock 108)) [0, 1, 2, 3] (by kernel_rfl) (by kernel_rfl) ?_
  refine ps_k (o_rvDigestBlock 108 0) (.agg (B zhash).toArray) ?_
  refine ps_k (o_rvDigestBlock 108 1) (.int .i64 3) ?_
  obtain ⟨V18, eV18, kV18⟩ := rowset_step V13 gr ((B zhash).toArray)
  have h19 : V18.heap[gr]? = some (.cells ((B zhash).toArray) 26 (0, 0)) := eV18 ▸ setRow_heap _ _ _ _ _ _ h15
  refine ps_s (o_rvDigestBlock 108 2) (w' := V18) (by rw [← eV18]; exact exec_store_row 26 (.tmp 2) (.tmp 9) (by kernel_rfl) gr ((B zhash).toArray) (by kernel_rfl) (by kernel_rfl) 26 (zr_u8_32) h15 (by rw [Bz_size, show (zhash).length = 32 from zhash_len]; kernel_rfl) (by rw [Bz_size, show (zhash).length = 32 from zhash_len]; rfl) (by rw [List.all_toArray]; exact List.all_eq_true.2 (B_one _))) ?_
  clear eV18
  have h20 := kV18.bo h14 (by omega)
  have K21 := K16.no kV18 (by omega)
  have z22 := kV18.size
  refine ps_k (o_rvDigestBlock 108 3) (.int .i64 3) ?_
  refine ps_end ?_
  refine then_n ?_
  refine sy_ret (by kernel_rfl) ?_
  refine then_r ?_
  refine sy_out (.tuple #[.agg ((B zhash).toArray), .int .i64 3]) rfl (results_row_tmp (p := 2) (q := 3) (ty := 26) (by kernel_rfl) _ _ gr 26 ((B zhash).toArray) (0, 0) _ (.int .i64 3) (by kernel_rfl) h19 Try.underlying26 rfl (by rw [Bz_size, zhash_len]; kernel_rfl) (by kernel_rfl)) ?_
  exact ⟨rfl, K21⟩
set_option maxRecDepth 100000 in
set_option maxHeartbeats 4000000 in
theorem rvDigestBlock_ok (a : Pro) (w : World) (ha : a.Ok) (hf : a.fine) :
    Calls Try.prog 29 #[.agg (Pro.c a)] w (fun e w' => e = .returned (.tuple #[.agg (B a.dig).toArray, .int .i64 0]) ∧ Keeps Nob w w') := by
  have hr := ha.r
  have hlen := pro_len hr
  have K0 : Keeps Nob w w := Keeps.refl _ _
  refine sy_enter (part_rvDigestBlock 1) ⟨#[.agg (Pro.c a), undef, undef, undef, undef, undef, undef, undef, undef, undef, undef, undef, undef, undef], []⟩ Try.func29 (by kernel_rfl) (by kernel_rfl) ?_
  refine sy_sq (part_rvDigestBlock 2) (part_rvDigestBlock 3) ?_
  refine sy_reg ?_
  refine rg_plain 0 (opsAt (part_rvDigestBlock 2)) [0, 1, 2] (by kernel_rfl) (by kernel_rfl) ?_
  obtain ⟨V1, eV1, ga, ega, h2, kV1⟩ := alloc_step w ((Pro.c a)) 36
  have n3 : w.heap.size ≤ ga := ega ▸ K0.size
  refine ps_r (o_rvDigestBlock 2 0) (pT ga 0) (w' := V1) (by rw [← eV1, ← ega]; exact exec_box 36 (.tmp 0) (by kernel_rfl) (.agg (Pro.c a)) (by kernel_rfl)) ?_
  clear eV1
  have K4 := K0.nn kV1
  have z5 := kV1.size
  obtain ⟨V6, eV6, gr, egr, h7, kV6⟩ := alloc_step V1 (zr_u8_32) 26
  have n8 : ga < gr := egr ▸ lt_of_block h2
  have n9 : w.heap.size ≤ gr := egr ▸ K4.size
  refine ps_r (o_rvDigestBlock 2 1) (pT gr 0) (w' := V6) (by rw [← eV6, ← egr]; exact exec_alloc0 26 (by kernel_rfl) (.agg (zr_u8_32)) (by kernel_rfl)) ?_
  clear eV6
  have h10 := kV6.bk h2
  have K11 := K4.nn kV6
  have z12 := kV6.size
  refine ps_k (o_rvDigestBlock 2 2) (.int .i64 0) ?_
  refine ps_end ?_
  refine then_n ?_
  refine sy_sq (part_rvDigestBlock 6) (part_rvDigestBlock 7) ?_
  refine sy_sq (part_rvDigestBlock 12) (part_rvDigestBlock 13) ?_
  refine sy_reg ?_
  refine rg_plain 1 (opsAt (part_rvDigestBlock 12)) [0, 1, 2] (by kernel_rfl) (by kernel_rfl) ?_
  refine ps_p (o_rvDigestBlock 12 0) (.agg (Pro.c a)) (exec_load_row 36 (.tmp 1) (by kernel_rfl) ga (by kernel_rfl) _ _ (0, 0) _ (h10) Try.underlying36 rfl (by rw [Pro.c_size _ hr]; kernel_rfl)) ?_
  refine ps_c (o_rvDigestBlock 12 1) 24 #[.agg (Pro.c a)] Try.func24 ((rvCheckBlock_is a _ hr (Pro.err_ok hf)).mono ?_)
  rintro e V13 ⟨rfl, kV13⟩
  refine ⟨_, rfl, ?_⟩
  have h14 := kV13.bk h10
  have h15 := kV13.bk h7
  have K16 := K11.nn kV13
  have z17 := kV13.size
  refine ps_k (o_rvDigestBlock 12 2) (.int .i64 0) ?_
  refine ps_end ?_
  refine then_n ?_
  refine sy_sq (part_rvDigestBlock 26) (part_rvDigestBlock 27) ?_
  refine sy_reg ?_
  refine rg_plain 2 (opsAt (part_rvDigestBlock 26)) [0, 1] (by kernel_rfl) (by kernel_rfl) ?_
  refine ps_k (o_rvDigestBlock 26 0) (.int .i64 0) ?_
  refine ps_k (o_rvDigestBlock 26 1) (.bool false) ?_
  refine ps_end ?_
  refine then_n ?_
  refine sy_n (.tmp 8) (part_rvDigestBlock 54) (part_rvDigestBlock 55) ?_
  refine sy_sk ?_
  refine then_n ?_
  refine sy_sq (part_rvDigestBlock 14) (part_rvDigestBlock 15) ?_
  refine sy_reg ?_
  refine rg_plain 4 (opsAt (part_rvDigestBlock 14)) [0, 1, 2, 3, 4] (by kernel_rfl) (by kernel_rfl) ?_
  refine ps_p (o_rvDigestBlock 14 0) (.agg (Pro.c a)) (exec_load_row 36 (.tmp 1) (by kernel_rfl) ga (by kernel_rfl) _ _ (0, 0) _ (h14) Try.underlying36 rfl (by rw [Pro.c_size _ hr]; kernel_rfl)) ?_
  refine ps_c (o_rvDigestBlock 14 1) 60 #[.agg (Pro.c a)] Try.func60 ((rbareBlock_ok a _ ha hf).mono ?_)
  rintro e V18 ⟨X, rfl, hX, hnX, kV18⟩
  refine ⟨_, rfl, ?_⟩
  have h19 := kV18.bk h14
  have h20 := kV18.bk h15
  have K21 := K16.nn kV18
  have z22 := kV18.size
  refine ps_c (o_rvDigestBlock 14 2) 65 #[X] Try.func65 ((hSum_ok a.bare _ _ (Row.bytes hX) (by omega)).mono ?_)
  rintro e V23 ⟨rfl, kV23⟩
  refine ⟨_, rfl, ?_⟩
  have h24 := kV23.bk h19
  have h25 := kV23.bk h20
  have K26 := K21.nn kV23
  have z27 := kV23.size
  obtain ⟨V28, eV28, kV28⟩ := rowset_step V23 gr ((B a.dig).toArray)
  have h29 : V28.heap[gr]? = some (.cells ((B a.dig).toArray) 26 (0, 0)) := eV28 ▸ setRow_heap _ _ _ _ _ _ h25
  refine ps_s (o_rvDigestBlock 14 3) (w' := V28) (by rw [← eV28]; exact exec_store_row 26 (.tmp 2) (.tmp 13) (by kernel_rfl) gr ((B a.dig).toArray) (by kernel_rfl) (by kernel_rfl) 26 (zr_u8_32) h25 (by rw [Bz_size, show (a.dig).length = 32 from (Pro.dig_len a)]; kernel_rfl) (by rw [Bz_size, show (a.dig).length = 32 from (Pro.dig_len a)]; rfl) (by rw [List.all_toArray]; exact List.all_eq_true.2 (B_one _))) ?_
  clear eV28
  have h30 := kV28.bo h24 (by omega)
  have K31 := K26.no kV28 (by omega)
  have z32 := kV28.size
  refine ps_k (o_rvDigestBlock 14 4) (.int .i64 0) ?_
  refine ps_end ?_
  refine then_n ?_
  refine sy_ret (by kernel_rfl) ?_
  refine sy_out (.tuple #[.agg ((B a.dig).toArray), .int .i64 0]) rfl (results_row_tmp (p := 2) (q := 3) (ty := 26) (by kernel_rfl) _ _ gr 26 ((B a.dig).toArray) (0, 0) _ (.int .i64 0) (by kernel_rfl) h29 Try.underlying26 rfl (by rw [Bz_size, (Pro.dig_len a)]; kernel_rfl) (by kernel_rfl)) ?_
  exact ⟨rfl, K31⟩
end Go.Proofs.Ytenaakldccjnbaa
