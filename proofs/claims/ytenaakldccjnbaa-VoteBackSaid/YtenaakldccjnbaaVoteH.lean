/-
  Votes: their digests, told (printed by vote3.py). Conditions: none.
-/
import Derived.Test.YtenaakldccjnbaaVoteD
import Derived.Test.YtenaakldccjnbaaKecE
namespace Go.Proofs.Ytenaakldccjnbaa
open Go Go.RowKit Go.Own Go.Shelf
def Att.dig (a : Att) : List UInt8 := Kec.sum a.bare
def Pro.dig (a : Pro) : List UInt8 := Kec.sum a.bare
theorem Att.dig_len (a : Att) : a.dig.length = 32 := Kec.sum_len _
theorem Pro.dig_len (a : Pro) : a.dig.length = 32 := Kec.sum_len _
theorem ksum_any (v : Value) (x : List UInt8) (w : World) (hx : BytesAt w v x) (hl : x.length ≤ 9000000000000000000) : Calls Try.prog 38 #[v] w fun e w' => e = .returned (.agg (B (Kec.sum x)).toArray) ∧ Keeps Nob w w' := by
  obtain ⟨A, cap, rfl⟩ := hx.len; exact kSum_ok x A cap w hx hl

noncomputable def part_vhash (n : Nat) : Code := partOf Try.f64 n
noncomputable abbrev o_vhash (n k : Nat) : Oper := (opsAt (part_vhash n)).getD k default
set_option maxRecDepth 100000 in
set_option maxHeartbeats 4000000 in
theorem vhash_bad (x : Int) (v : Value) (w : World) (hx : x ≠ 0) :
    Calls Try.prog 64 #[.int .i64 x, v] w (fun e w' => e = .returned (.tuple #[.agg (B zhash).toArray, .int .i64 x]) ∧ Keeps Nob w w') := by
  have K0 : Keeps Nob w w := Keeps.refl _ _
  refine sy_enter (part_vhash 1) ⟨#[.int .i64 x, v, undef, undef, undef, undef, undef, undef, undef, undef, undef, undef, undef, undef, undef, undef, undef, undef, undef], []⟩ Try.func64 (by kernel_rfl) (by kernel_rfl) ?_
  refine sy_sq (part_vhash 2) (part_vhash 3) ?_
  refine sy_reg ?_
  refine rg_plain 0 (opsAt (part_vhash 2)) [0, 1] (by kernel_rfl) (by kernel_rfl) ?_
  obtain ⟨V1, eV1, gr, egr, h2, kV1⟩ := alloc_step w (zr_u8_32) 26
  have n3 : w.heap.size ≤ gr := egr ▸ K0.size
  refine ps_r (o_vhash 2 0) (pT gr 0) (w' := V1) (by rw [← eV1, ← egr]; exact exec_alloc0 26 (by kernel_rfl) (.agg (zr_u8_32)) (by kernel_rfl)) ?_
  clear eV1
  have K4 := K0.nn kV1
  have z5 := kV1.size
  refine ps_k (o_vhash 2 1) (.int .i64 0) ?_
  refine ps_end ?_
  refine then_n ?_
  refine sy_sq (part_vhash 6) (part_vhash 7) ?_
  refine sy_reg ?_
  refine rg_plain 1 (opsAt (part_vhash 6)) [0, 1, 2, 3, 4, 5, 6, 7] (by kernel_rfl) (by kernel_rfl) ?_
  refine ps_k (o_vhash 6 0) (.int .i64 x) ?_
  refine ps_k (o_vhash 6 1) (v) ?_
  refine ps_c (o_vhash 6 2) 54 #[.int .i64 x, v] Try.func54 ((vwritten_bad x v _ hx).mono ?_)
  rintro e w1 ⟨rfl, rfl⟩
  refine ⟨_, rfl, ?_⟩
  refine ps_k (o_vhash 6 3) (.tuple #[.slice none 0 0, .int .i64 x]) ?_
  refine ps_k (o_vhash 6 4) (.slice none 0 0) ?_
  refine ps_k (o_vhash 6 5) (.int .i64 x) ?_
  refine ps_k (o_vhash 6 6) (.slice none 0 0) ?_
  refine ps_k (o_vhash 6 7) (.int .i64 x) ?_
  refine ps_end ?_
  refine then_n ?_
  refine sy_sq (part_vhash 14) (part_vhash 15) ?_
  refine sy_sq (part_vhash 28) (part_vhash 29) ?_
  refine sy_reg ?_
  refine rg_plain 2 (opsAt (part_vhash 28)) [0, 1] (by kernel_rfl) (by kernel_rfl) ?_
  refine ps_k (o_vhash 28 0) (.int .i64 x) ?_
  refine ps_p (o_vhash 28 1) (.bool true) (nqt ((x) : Int) ((0) : Int) (by omega)) ?_
  refine ps_end ?_
  refine then_n ?_
  refine sy_ys (.tmp 14) (part_vhash 58) (part_vhash 59) ?_
  refine sy_sq (part_vhash 116) (part_vhash 117) ?_
  refine sy_reg ?_
  refine rg_plain 3 (opsAt (part_vhash 116)) [0, 1, 2, 3] (by kernel_rfl) (by kernel_rfl) ?_
  refine ps_k (o_vhash 116 0) (.agg (B zhash).toArray) ?_
  refine ps_k (o_vhash 116 1) (.int .i64 x) ?_
  obtain ⟨V6, eV6, kV6⟩ := rowset_step V1 gr ((B zhash).toArray)
  have h7 : V6.heap[gr]? = some (.cells ((B zhash).toArray) 26 (0, 0)) := eV6 ▸ setRow_heap _ _ _ _ _ _ h2
  refine ps_s (o_vhash 116 2) (w' := V6) (by rw [← eV6]; exact exec_store_row 26 (.tmp 4) (.tmp 15) (by kernel_rfl) gr ((B zhash).toArray) (by kernel_rfl) (by kernel_rfl) 26 (zr_u8_32) h2 (by rw [Bz_size, zhash_len]; kernel_rfl) (by rw [Bz_size, zhash_len]; rfl) (by rw [List.all_toArray]; exact List.all_eq_true.2 (B_one _))) ?_
  clear eV6
  have K8 := K4.no kV6 (by omega)
  have z9 := kV6.size
  refine ps_k (o_vhash 116 3) (.int .i64 x) ?_
  refine ps_end ?_
  refine then_n ?_
  refine sy_ret (by kernel_rfl) ?_
  refine then_r ?_
  refine sy_out (.tuple #[.agg ((B zhash).toArray), .int .i64 x]) rfl (results_row_tmp (p := 4) (q := 5) (ty := 26) (by kernel_rfl) _ _ gr 26 ((B zhash).toArray) (0, 0) _ (.int .i64 x) (by kernel_rfl) h7 Try.underlying26 rfl (by rw [Bz_size, zhash_len]; kernel_rfl) (by kernel_rfl)) ?_
  exact ⟨rfl, K8⟩
set_option maxRecDepth 100000 in
set_option maxHeartbeats 4000000 in
theorem vhash_ok (v : Value) (ts : List Thg) (vs : List Value) (w : World) (h0 : Row w 74 1 v ts.length vs) (h1 : ThsAt w vs ts) (hpos : 0 < ts.length) (hok : ∀ (k : Nat) (t : Thg), ts[k]? = some t → t.Ok) (hl : (allb ts).length ≤ 4096) (hmax : ts.length ≤ 1000) :
    Calls Try.prog 64 #[.int .i64 0, v] w (fun e w' => e = .returned (.tuple #[.agg (B (Kec.sum (allb ts))).toArray, .int .i64 0]) ∧ Keeps Nob w w') := by
  have K0 : Keeps Nob w w := Keeps.refl _ _
  refine sy_enter (part_vhash 1) ⟨#[.int .i64 0, v, undef, undef, undef, undef, undef, undef, undef, undef, undef, undef, undef, undef, undef, undef, undef, undef, undef], []⟩ Try.func64 (by kernel_rfl) (by kernel_rfl) ?_
  refine sy_sq (part_vhash 2) (part_vhash 3) ?_
  refine sy_reg ?_
  refine rg_plain 0 (opsAt (part_vhash 2)) [0, 1] (by kernel_rfl) (by kernel_rfl) ?_
  obtain ⟨V1, eV1, gr, egr, h2, kV1⟩ := alloc_step w (zr_u8_32) 26
  have n3 : w.heap.size ≤ gr := egr ▸ K0.size
  refine ps_r (o_vhash 2 0) (pT gr 0) (w' := V1) (by rw [← eV1, ← egr]; exact exec_alloc0 26 (by kernel_rfl) (.agg (zr_u8_32)) (by kernel_rfl)) ?_
  clear eV1
  have h4 : Row V1 74 1 v ts.length vs := h0.keeps kV1 (fun _ _ x => x)
  have h5 : ThsAt V1 vs ts := h1.keepsN kV1
  have K6 := K0.nn kV1
  have z7 := kV1.size
  refine ps_k (o_vhash 2 1) (.int .i64 0) ?_
  refine ps_end ?_
  refine then_n ?_
  refine sy_sq (part_vhash 6) (part_vhash 7) ?_
  refine sy_reg ?_
  refine rg_plain 1 (opsAt (part_vhash 6)) [0, 1, 2, 3, 4, 5, 6, 7] (by kernel_rfl) (by kernel_rfl) ?_
  refine ps_k (o_vhash 6 0) (.int .i64 0) ?_
  refine ps_k (o_vhash 6 1) (v) ?_
  refine ps_c (o_vhash 6 2) 54 #[.int .i64 0, v] Try.func54 ((vwritten_ok v ts vs _ h4 h5 hpos hok hl hmax).mono ?_)
  rintro e V8 ⟨X, rfl, hX, hnX, kV8⟩
  refine ⟨_, rfl, ?_⟩
  have h9 := kV8.bk h2
  have K10 := K6.nn kV8
  have z11 := kV8.size
  refine ps_k (o_vhash 6 3) (.tuple #[X, .int .i64 0]) ?_
  refine ps_k (o_vhash 6 4) (X) ?_
  refine ps_k (o_vhash 6 5) (.int .i64 0) ?_
  refine ps_k (o_vhash 6 6) (X) ?_
  refine ps_k (o_vhash 6 7) (.int .i64 0) ?_
  refine ps_end ?_
  refine then_n ?_
  refine sy_sq (part_vhash 14) (part_vhash 15) ?_
  refine sy_sq (part_vhash 28) (part_vhash 29) ?_
  refine sy_reg ?_
  refine rg_plain 2 (opsAt (part_vhash 28)) [0, 1] (by kernel_rfl) (by kernel_rfl) ?_
  refine ps_k (o_vhash 28 0) (.int .i64 0) ?_
  refine ps_k (o_vhash 28 1) (.bool false) ?_
  refine ps_end ?_
  refine then_n ?_
  refine sy_n (.tmp 14) (part_vhash 58) (part_vhash 59) ?_
  refine sy_sk ?_
  refine then_n ?_
  refine sy_sq (part_vhash 30) (part_vhash 31) ?_
  refine sy_reg ?_
  refine rg_plain 4 (opsAt (part_vhash 30)) [0, 1, 2, 3] (by kernel_rfl) (by kernel_rfl) ?_
  refine ps_k (o_vhash 30 0) (X) ?_
  refine ps_c (o_vhash 30 1) 38 #[X] Try.func38 ((ksum_any X (allb ts) _ (Row.bytes hX) (by omega)).mono ?_)
  rintro e V12 ⟨rfl, kV12⟩
  refine ⟨_, rfl, ?_⟩
  have h13 := kV12.bk h9
  have K14 := K10.nn kV12
  have z15 := kV12.size
  obtain ⟨V16, eV16, kV16⟩ := rowset_step V12 gr ((B (Kec.sum (allb ts))).toArray)
  have h17 : V16.heap[gr]? = some (.cells ((B (Kec.sum (allb ts))).toArray) 26 (0, 0)) := eV16 ▸ setRow_heap _ _ _ _ _ _ h13
  refine ps_s (o_vhash 30 2) (w' := V16) (by rw [← eV16]; exact exec_store_row 26 (.tmp 4) (.tmp 18) (by kernel_rfl) gr ((B (Kec.sum (allb ts))).toArray) (by kernel_rfl) (by kernel_rfl) 26 (zr_u8_32) h13 (by rw [Bz_size, Kec.sum_len]; kernel_rfl) (by rw [Bz_size, Kec.sum_len]; rfl) (by rw [List.all_toArray]; exact List.all_eq_true.2 (B_one _))) ?_
  clear eV16
  have K18 := K14.no kV16 (by omega)
  have z19 := kV16.size
  refine ps_k (o_vhash 30 3) (.int .i64 0) ?_
  refine ps_end ?_
  refine then_n ?_
  refine sy_ret (by kernel_rfl) ?_
  refine sy_out (.tuple #[.agg ((B (Kec.sum (allb ts))).toArray), .int .i64 0]) rfl (results_row_tmp (p := 4) (q := 5) (ty := 26) (by kernel_rfl) _ _ gr 26 ((B (Kec.sum (allb ts))).toArray) (0, 0) _ (.int .i64 0) (by kernel_rfl) h17 Try.underlying26 rfl (by rw [Bz_size, (Kec.sum_len _)]; kernel_rfl) (by kernel_rfl)) ?_
  exact ⟨rfl, K18⟩
noncomputable def part_vDigest (n : Nat) : Code := partOf Try.f26 n
noncomputable abbrev o_vDigest (n k : Nat) : Oper := (opsAt (part_vDigest n)).getD k default
set_option maxRecDepth 100000 in
set_option maxHeartbeats 4000000 in
theorem vDigest_bad (a : Att) (w : World) (ha : a.Ok) (hf : ¬ a.fine) :
    Calls Try.prog 26 #[.agg (Att.c a)] w (fun e w' => e = .returned (.tuple #[.agg (B zhash).toArray, .int .i64 3]) ∧ Keeps Nob w w') := by
  have hr := ha.r
  have hlen := att_len hr
  obtain ⟨i0, hi0, hz0, hz1, hz2⟩ := info_parts thing_info
  have K0 : Keeps Nob w w := Keeps.refl _ _
  refine sy_enter (part_vDigest 1) ⟨#[.agg (Att.c a), undef, undef, undef, undef, undef, undef, undef, undef, undef, undef], []⟩ Try.func26 (by kernel_rfl) (by kernel_rfl) ?_
  refine sy_sq (part_vDigest 2) (part_vDigest 3) ?_
  refine sy_reg ?_
  refine rg_plain 0 (opsAt (part_vDigest 2)) [0, 1, 2] (by kernel_rfl) (by kernel_rfl) ?_
  obtain ⟨V1, eV1, ga, ega, h2, kV1⟩ := alloc_step w ((Att.c a)) 29
  have n3 : w.heap.size ≤ ga := ega ▸ K0.size
  refine ps_r (o_vDigest 2 0) (pT ga 0) (w' := V1) (by rw [← eV1, ← ega]; exact exec_box 29 (.tmp 0) (by kernel_rfl) (.agg (Att.c a)) (by kernel_rfl)) ?_
  clear eV1
  have K4 := K0.nn kV1
  have z5 := kV1.size
  obtain ⟨V6, eV6, gr, egr, h7, kV6⟩ := alloc_step V1 (zr_u8_32) 26
  have n8 : ga < gr := egr ▸ lt_of_block h2
  have n9 : w.heap.size ≤ gr := egr ▸ K4.size
  refine ps_r (o_vDigest 2 1) (pT gr 0) (w' := V6) (by rw [← eV6, ← egr]; exact exec_alloc0 26 (by kernel_rfl) (.agg (zr_u8_32)) (by kernel_rfl)) ?_
  clear eV6
  have h10 := kV6.bk h2
  have K11 := K4.nn kV6
  have z12 := kV6.size
  refine ps_k (o_vDigest 2 2) (.int .i64 0) ?_
  refine ps_end ?_
  refine then_n ?_
  refine sy_sq (part_vDigest 6) (part_vDigest 7) ?_
  refine sy_np ?_
  refine sy_reg ?_
  refine an_begin 1 9 (opsAt (part_vDigest 6)) (fun W => (W.heap[ga]? = some (.cells (Att.c a) 29 (0, 0)))) #[false, false, false, false, false, false, false, false, false] (by kernel_rfl) (by kernel_rfl) (by kernel_rfl) (by kernel_rfl) ?_
  obtain ⟨V13, eV13, kV13⟩ := drew_step V6
  rw [eV13]
  clear eV13
  have h14 := kV13.bk h10
  have h15 := kV13.bk h7
  have K16 := K11.nn kV13
  have z17 := kV13.size
  refine an_v 0 (o_vDigest 6 0) (.agg (Att.c a)) (fun W hS => exec_load_row 29 (.tmp 1) (by kernel_rfl) ga (by kernel_rfl) _ _ (0, 0) _ (hS) Try.underlying29 rfl (by rw [Att.c_size _ hr]; kernel_rfl)) h14 ?_
  refine an_v 2 (o_vDigest 6 2) (.agg (Att.c a)) (fun W hS => exec_load_row 29 (.tmp 1) (by kernel_rfl) ga (by kernel_rfl) _ _ (0, 0) _ (hS) Try.underlying29 rfl (by rw [Att.c_size _ hr]; kernel_rfl)) h14 ?_
  refine an_o 1 ?_
  refine on_c (o_vDigest 6 1) 21 #[.agg (Att.c a)] Try.func21 ((vCheck_is a _ hr (Att.err_no hf)).mono ?_)
  rintro e V18 ⟨rfl, kV18⟩
  refine ⟨_, rfl, ?_⟩
  have h19 := kV18.bk h14
  have h20 := kV18.bk h15
  have K21 := K16.nn kV18
  have z22 := kV18.size
  refine ⟨h19, ?_⟩
  refine an_o 3 ?_
  refine on_c (o_vDigest 6 3) 55 #[.agg (Att.c a)] Try.func55 ((vthings_ok a _ hr).mono ?_)
  rintro e V23 ⟨gl, vs, rfl, hrow, hths, hnl, kV23⟩
  have hnl2 : NewFrom w.heap.size (.slice (some ⟨gl, 0, none⟩) 5 5) := fun j hj => by have := hnl j hj; have := K21.size; omega
  refine ⟨_, rfl, ?_⟩
  have h24 := kV23.bk h19
  have h25 := kV23.bk h20
  have K26 := K21.nn kV23
  have z27 := kV23.size
  refine ⟨h24, ?_⟩
  refine an_o 4 ?_
  refine on_c (o_vDigest 6 4) 64 #[.int .i64 3, .slice (some ⟨gl, 0, none⟩) 5 5] Try.func64 ((vhash_bad 3 _ _ (by decide)).mono ?_)
  rintro e V28 ⟨rfl, kV28⟩
  refine ⟨_, rfl, ?_⟩
  have h29 := kV28.bk h24
  have h30 := kV28.bk h25
  have K31 := K26.nn kV28
  have z32 := kV28.size
  refine ⟨h29, ?_⟩
  refine an_k 5 (o_vDigest 6 5) (.agg (B zhash).toArray) h29 ?_
  refine an_k 6 (o_vDigest 6 6) (.int .i64 3) h29 ?_
  refine an_o 7 ?_
  obtain ⟨V33, eV33, kV33⟩ := rowset_step V28 gr ((B zhash).toArray)
  have h34 : V33.heap[gr]? = some (.cells ((B zhash).toArray) 26 (0, 0)) := eV33 ▸ setRow_heap _ _ _ _ _ _ h30
  refine on_s (o_vDigest 6 7) (w' := V33) (by rw [← eV33]; exact exec_store_row 26 (.tmp 2) (.tmp 9) (by kernel_rfl) gr ((B zhash).toArray) (by kernel_rfl) (by kernel_rfl) 26 (zr_u8_32) h30 (by rw [Bz_size, show (zhash).length = 32 from zhash_len]; kernel_rfl) (by rw [Bz_size, show (zhash).length = 32 from zhash_len]; rfl) (by rw [List.all_toArray]; exact List.all_eq_true.2 (B_one _))) ?_
  clear eV33
  have h35 := kV33.bo h29 (by omega)
  have K36 := K31.no kV33 (by omega)
  have z37 := kV33.size
  refine ⟨h35, ?_⟩
  refine an_o 8 ?_
  refine on_r (o_vDigest 6 8) (.int .i64 3) (w' := V33) (by kernel_rfl) ?_
  refine ⟨h35, ?_⟩
  refine an_end (by kernel_rfl) ?_
  refine then_n ?_
  refine sy_ret (by kernel_rfl) ?_
  refine sy_out (.tuple #[.agg ((B zhash).toArray), .int .i64 3]) rfl (results_row_tmp (p := 2) (q := 3) (ty := 26) (by kernel_rfl) _ _ gr 26 ((B zhash).toArray) (0, 0) _ (.int .i64 3) (by kernel_rfl) h34 Try.underlying26 rfl (by rw [Bz_size, zhash_len]; kernel_rfl) (by kernel_rfl)) ?_
  exact ⟨rfl, K36⟩
set_option maxRecDepth 100000 in
set_option maxHeartbeats 4000000 in
theorem vDigest_ok (a : Att) (w : World) (ha : a.Ok) (hf : a.fine) :
    Calls Try.prog 26 #[.agg (Att.c a)] w (fun e w' => e = .returned (.tuple #[.agg (B a.dig).toArray, .int .i64 0]) ∧ Keeps Nob w w') := by
  have hr := ha.r
  have hlen := att_len hr
  obtain ⟨i0, hi0, hz0, hz1, hz2⟩ := info_parts thing_info
  have K0 : Keeps Nob w w := Keeps.refl _ _
  refine sy_enter (part_vDigest 1) ⟨#[.agg (Att.c a), undef, undef, undef, undef, undef, undef, undef, undef, undef, undef], []⟩ Try.func26 (by kernel_rfl) (by kernel_rfl) ?_
  refine sy_sq (part_vDigest 2) (part_vDigest 3) ?_
  refine sy_reg ?_
  refine rg_plain 0 (opsAt (part_vDigest 2)) [0, 1, 2] (by kernel_rfl) (by kernel_rfl) ?_
  obtain ⟨V1, eV1, ga, ega, h2, kV1⟩ := alloc_step w ((Att.c a)) 29
  have n3 : w.heap.size ≤ ga := ega ▸ K0.size
  refine ps_r (o_vDigest 2 0) (pT ga 0) (w' := V1) (by rw [← eV1, ← ega]; exact exec_box 29 (.tmp 0) (by kernel_rfl) (.agg (Att.c a)) (by kernel_rfl)) ?_
  clear eV1
  have K4 := K0.nn kV1
  have z5 := kV1.size
  obtain ⟨V6, eV6, gr, egr, h7, kV6⟩ := alloc_step V1 (zr_u8_32) 26
  have n8 : ga < gr := egr ▸ lt_of_block h2
  have n9 : w.heap.size ≤ gr := egr ▸ K4.size
  refine ps_r (o_vDigest 2 1) (pT gr 0) (w' := V6) (by rw [← eV6, ← egr]; exact exec_alloc0 26 (by kernel_rfl) (.agg (zr_u8_32)) (by kernel_rfl)) ?_
  clear eV6
  have h10 := kV6.bk h2
  have K11 := K4.nn kV6
  have z12 := kV6.size
  refine ps_k (o_vDigest 2 2) (.int .i64 0) ?_
  refine ps_end ?_
  refine then_n ?_
  refine sy_sq (part_vDigest 6) (part_vDigest 7) ?_
  refine sy_np ?_
  refine sy_reg ?_
  refine an_begin 1 9 (opsAt (part_vDigest 6)) (fun W => (W.heap[ga]? = some (.cells (Att.c a) 29 (0, 0)))) #[false, false, false, false, false, false, false, false, false] (by kernel_rfl) (by kernel_rfl) (by kernel_rfl) (by kernel_rfl) ?_
  obtain ⟨V13, eV13, kV13⟩ := drew_step V6
  rw [eV13]
  clear eV13
  have h14 := kV13.bk h10
  have h15 := kV13.bk h7
  have K16 := K11.nn kV13
  have z17 := kV13.size
  refine an_v 0 (o_vDigest 6 0) (.agg (Att.c a)) (fun W hS => exec_load_row 29 (.tmp 1) (by kernel_rfl) ga (by kernel_rfl) _ _ (0, 0) _ (hS) Try.underlying29 rfl (by rw [Att.c_size _ hr]; kernel_rfl)) h14 ?_
  refine an_v 2 (o_vDigest 6 2) (.agg (Att.c a)) (fun W hS => exec_load_row 29 (.tmp 1) (by kernel_rfl) ga (by kernel_rfl) _ _ (0, 0) _ (hS) Try.underlying29 rfl (by rw [Att.c_size _ hr]; kernel_rfl)) h14 ?_
  refine an_o 1 ?_
  refine on_c (o_vDigest 6 1) 21 #[.agg (Att.c a)] Try.func21 ((vCheck_is a _ hr (Att.err_ok hf)).mono ?_)
  rintro e V18 ⟨rfl, kV18⟩
  refine ⟨_, rfl, ?_⟩
  have h19 := kV18.bk h14
  have h20 := kV18.bk h15
  have K21 := K16.nn kV18
  have z22 := kV18.size
  refine ⟨h19, ?_⟩
  refine an_o 3 ?_
  refine on_c (o_vDigest 6 3) 55 #[.agg (Att.c a)] Try.func55 ((vthings_ok a _ hr).mono ?_)
  rintro e V23 ⟨gl, vs, rfl, hrow, hths, hnl, kV23⟩
  have hnl2 : NewFrom w.heap.size (.slice (some ⟨gl, 0, none⟩) 5 5) := fun j hj => by have := hnl j hj; have := K21.size; omega
  refine ⟨_, rfl, ?_⟩
  have h24 := kV23.bk h19
  have h25 := kV23.bk h20
  have K26 := K21.nn kV23
  have z27 := kV23.size
  refine ⟨h24, ?_⟩
  refine an_o 4 ?_
  refine on_c (o_vDigest 6 4) 64 #[.int .i64 0, .slice (some ⟨gl, 0, none⟩) 5 5] Try.func64 ((vhash_ok _ (attT a) _ _ hrow hths (by simp [attT]) (okT_pre (att_okT ha hf)) (by have h := hlen.2; unfold Att.bare at h; omega) (by simp [attT])).mono ?_)
  rintro e V28 ⟨rfl, kV28⟩
  refine ⟨_, rfl, ?_⟩
  have h29 := kV28.bk h24
  have h30 := kV28.bk h25
  have K31 := K26.nn kV28
  have z32 := kV28.size
  refine ⟨h29, ?_⟩
  refine an_k 5 (o_vDigest 6 5) (.agg (B a.dig).toArray) h29 ?_
  refine an_k 6 (o_vDigest 6 6) (.int .i64 0) h29 ?_
  refine an_o 7 ?_
  obtain ⟨V33, eV33, kV33⟩ := rowset_step V28 gr ((B a.dig).toArray)
  have h34 : V33.heap[gr]? = some (.cells ((B a.dig).toArray) 26 (0, 0)) := eV33 ▸ setRow_heap _ _ _ _ _ _ h30
  refine on_s (o_vDigest 6 7) (w' := V33) (by rw [← eV33]; exact exec_store_row 26 (.tmp 2) (.tmp 9) (by kernel_rfl) gr ((B a.dig).toArray) (by kernel_rfl) (by kernel_rfl) 26 (zr_u8_32) h30 (by rw [Bz_size, show (a.dig).length = 32 from (Att.dig_len a)]; kernel_rfl) (by rw [Bz_size, show (a.dig).length = 32 from (Att.dig_len a)]; rfl) (by rw [List.all_toArray]; exact List.all_eq_true.2 (B_one _))) ?_
  clear eV33
  have h35 := kV33.bo h29 (by omega)
  have K36 := K31.no kV33 (by omega)
  have z37 := kV33.size
  refine ⟨h35, ?_⟩
  refine an_o 8 ?_
  refine on_r (o_vDigest 6 8) (.int .i64 0) (w' := V33) (by kernel_rfl) ?_
  refine ⟨h35, ?_⟩
  refine an_end (by kernel_rfl) ?_
  refine then_n ?_
  refine sy_ret (by kernel_rfl) ?_
  refine sy_out (.tuple #[.agg ((B a.dig).toArray), .int .i64 0]) rfl (results_row_tmp (p := 2) (q := 3) (ty := 26) (by kernel_rfl) _ _ gr 26 ((B a.dig).toArray) (0, 0) _ (.int .i64 0) (by kernel_rfl) h34 Try.underlying26 rfl (by rw [Bz_size, (Att.dig_len a)]; kernel_rfl) (by kernel_rfl)) ?_
  exact ⟨rfl, K36⟩
noncomputable def part_vDigestBlock (n : Nat) : Code := partOf Try.f28 n
noncomputable abbrev o_vDigestBlock (n k : Nat) : Oper := (opsAt (part_vDigestBlock n)).getD k default
set_option maxRecDepth 100000 in
set_option maxHeartbeats 4000000 in
theorem vDigestBlock_bad (a : Pro) (w : World) (ha : a.Ok) (hf : ¬ a.fine) :
    Calls Try.prog 28 #[.agg (Pro.c a)] w (fun e w' => e = .returned (.tuple #[.agg (B zhash).toArray, .int .i64 3]) ∧ Keeps Nob w w') := by
  have hr := ha.r
  have hlen := pro_len hr
  obtain ⟨i0, hi0, hz0, hz1, hz2⟩ := info_parts thing_info
  have K0 : Keeps Nob w w := Keeps.refl _ _
  refine sy_enter (part_vDigestBlock 1) ⟨#[.agg (Pro.c a), undef, undef, undef, undef, undef, undef, undef, undef, undef, undef], []⟩ Try.func28 (by kernel_rfl) (by kernel_rfl) ?_
  refine sy_sq (part_vDigestBlock 2) (part_vDigestBlock 3) ?_
  refine sy_reg ?_
  refine rg_plain 0 (opsAt (part_vDigestBlock 2)) [0, 1, 2] (by kernel_rfl) (by kernel_rfl) ?_
  obtain ⟨V1, eV1, ga, ega, h2, kV1⟩ := alloc_step w ((Pro.c a)) 36
  have n3 : w.heap.size ≤ ga := ega ▸ K0.size
  refine ps_r (o_vDigestBlock 2 0) (pT ga 0) (w' := V1) (by rw [← eV1, ← ega]; exact exec_box 36 (.tmp 0) (by kernel_rfl) (.agg (Pro.c a)) (by kernel_rfl)) ?_
  clear eV1
  have K4 := K0.nn kV1
  have z5 := kV1.size
  obtain ⟨V6, eV6, gr, egr, h7, kV6⟩ := alloc_step V1 (zr_u8_32) 26
  have n8 : ga < gr := egr ▸ lt_of_block h2
  have n9 : w.heap.size ≤ gr := egr ▸ K4.size
  refine ps_r (o_vDigestBlock 2 1) (pT gr 0) (w' := V6) (by rw [← eV6, ← egr]; exact exec_alloc0 26 (by kernel_rfl) (.agg (zr_u8_32)) (by kernel_rfl)) ?_
  clear eV6
  have h10 := kV6.bk h2
  have K11 := K4.nn kV6
  have z12 := kV6.size
  refine ps_k (o_vDigestBlock 2 2) (.int .i64 0) ?_
  refine ps_end ?_
  refine then_n ?_
  refine sy_sq (part_vDigestBlock 6) (part_vDigestBlock 7) ?_
  refine sy_np ?_
  refine sy_reg ?_
  refine an_begin 1 9 (opsAt (part_vDigestBlock 6)) (fun W => (W.heap[ga]? = some (.cells (Pro.c a) 36 (0, 0)))) #[false, false, false, false, false, false, false, false, false] (by kernel_rfl) (by kernel_rfl) (by kernel_rfl) (by kernel_rfl) ?_
  obtain ⟨V13, eV13, kV13⟩ := drew_step V6
  rw [eV13]
  clear eV13
  have h14 := kV13.bk h10
  have h15 := kV13.bk h7
  have K16 := K11.nn kV13
  have z17 := kV13.size
  refine an_v 0 (o_vDigestBlock 6 0) (.agg (Pro.c a)) (fun W hS => exec_load_row 36 (.tmp 1) (by kernel_rfl) ga (by kernel_rfl) _ _ (0, 0) _ (hS) Try.underlying36 rfl (by rw [Pro.c_size _ hr]; kernel_rfl)) h14 ?_
  refine an_v 2 (o_vDigestBlock 6 2) (.agg (Pro.c a)) (fun W hS => exec_load_row 36 (.tmp 1) (by kernel_rfl) ga (by kernel_rfl) _ _ (0, 0) _ (hS) Try.underlying36 rfl (by rw [Pro.c_size _ hr]; kernel_rfl)) h14 ?_
  refine an_o 1 ?_
  refine on_c (o_vDigestBlock 6 1) 23 #[.agg (Pro.c a)] Try.func23 ((vCheckBlock_is a _ hr (Pro.err_no hf)).mono ?_)
  rintro e V18 ⟨rfl, kV18⟩
  refine ⟨_, rfl, ?_⟩
  have h19 := kV18.bk h14
  have h20 := kV18.bk h15
  have K21 := K16.nn kV18
  have z22 := kV18.size
  refine ⟨h19, ?_⟩
  refine an_o 3 ?_
  refine on_c (o_vDigestBlock 6 3) 59 #[.agg (Pro.c a)] Try.func59 ((vthingsBlock_ok a _ hr).mono ?_)
  rintro e V23 ⟨gl, vs, rfl, hrow, hths, hnl, kV23⟩
  have hnl2 : NewFrom w.heap.size (.slice (some ⟨gl, 0, none⟩) 4 4) := fun j hj => by have := hnl j hj; have := K21.size; omega
  refine ⟨_, rfl, ?_⟩
  have h24 := kV23.bk h19
  have h25 := kV23.bk h20
  have K26 := K21.nn kV23
  have z27 := kV23.size
  refine ⟨h24, ?_⟩
  refine an_o 4 ?_
  refine on_c (o_vDigestBlock 6 4) 64 #[.int .i64 3, .slice (some ⟨gl, 0, none⟩) 4 4] Try.func64 ((vhash_bad 3 _ _ (by decide)).mono ?_)
  rintro e V28 ⟨rfl, kV28⟩
  refine ⟨_, rfl, ?_⟩
  have h29 := kV28.bk h24
  have h30 := kV28.bk h25
  have K31 := K26.nn kV28
  have z32 := kV28.size
  refine ⟨h29, ?_⟩
  refine an_k 5 (o_vDigestBlock 6 5) (.agg (B zhash).toArray) h29 ?_
  refine an_k 6 (o_vDigestBlock 6 6) (.int .i64 3) h29 ?_
  refine an_o 7 ?_
  obtain ⟨V33, eV33, kV33⟩ := rowset_step V28 gr ((B zhash).toArray)
  have h34 : V33.heap[gr]? = some (.cells ((B zhash).toArray) 26 (0, 0)) := eV33 ▸ setRow_heap _ _ _ _ _ _ h30
  refine on_s (o_vDigestBlock 6 7) (w' := V33) (by rw [← eV33]; exact exec_store_row 26 (.tmp 2) (.tmp 9) (by kernel_rfl) gr ((B zhash).toArray) (by kernel_rfl) (by kernel_rfl) 26 (zr_u8_32) h30 (by rw [Bz_size, show (zhash).length = 32 from zhash_len]; kernel_rfl) (by rw [Bz_size, show (zhash).length = 32 from zhash_len]; rfl) (by rw [List.all_toArray]; exact List.all_eq_true.2 (B_one _))) ?_
  clear eV33
  have h35 := kV33.bo h29 (by omega)
  have K36 := K31.no kV33 (by omega)
  have z37 := kV33.size
  refine ⟨h35, ?_⟩
  refine an_o 8 ?_
  refine on_r (o_vDigestBlock 6 8) (.int .i64 3) (w' := V33) (by kernel_rfl) ?_
  refine ⟨h35, ?_⟩
  refine an_end (by kernel_rfl) ?_
  refine then_n ?_
  refine sy_ret (by kernel_rfl) ?_
  refine sy_out (.tuple #[.agg ((B zhash).toArray), .int .i64 3]) rfl (results_row_tmp (p := 2) (q := 3) (ty := 26) (by kernel_rfl) _ _ gr 26 ((B zhash).toArray) (0, 0) _ (.int .i64 3) (by kernel_rfl) h34 Try.underlying26 rfl (by rw [Bz_size, zhash_len]; kernel_rfl) (by kernel_rfl)) ?_
  exact ⟨rfl, K36⟩
set_option maxRecDepth 100000 in
set_option maxHeartbeats 4000000 in
theorem vDigestBlock_ok (a : Pro) (w : World) (ha : a.Ok) (hf : a.fine) :
    Calls Try.prog 28 #[.agg (Pro.c a)] w (fun e w' => e = .returned (.tuple #[.agg (B a.dig).toArray, .int .i64 0]) ∧ Keeps Nob w w') := by
  have hr := ha.r
  have hlen := pro_len hr
  obtain ⟨i0, hi0, hz0, hz1, hz2⟩ := info_parts thing_info
  have K0 : Keeps Nob w w := Keeps.refl _ _
  refine sy_enter (part_vDigestBlock 1) ⟨#[.agg (Pro.c a), undef, undef, undef, undef, undef, undef, undef, undef, undef, undef], []⟩ Try.func28 (by kernel_rfl) (by kernel_rfl) ?_
  refine sy_sq (part_vDigestBlock 2) (part_vDigestBlock 3) ?_
  refine sy_reg ?_
  refine rg_plain 0 (opsAt (part_vDigestBlock 2)) [0, 1, 2] (by kernel_rfl) (by kernel_rfl) ?_
  obtain ⟨V1, eV1, ga, ega, h2, kV1⟩ := alloc_step w ((Pro.c a)) 36
  have n3 : w.heap.size ≤ ga := ega ▸ K0.size
  refine ps_r (o_vDigestBlock 2 0) (pT ga 0) (w' := V1) (by rw [← eV1, ← ega]; exact exec_box 36 (.tmp 0) (by kernel_rfl) (.agg (Pro.c a)) (by kernel_rfl)) ?_
  clear eV1
  have K4 := K0.nn kV1
  have z5 := kV1.size
  obtain ⟨V6, eV6, gr, egr, h7, kV6⟩ := alloc_step V1 (zr_u8_32) 26
  have n8 : ga < gr := egr ▸ lt_of_block h2
  have n9 : w.heap.size ≤ gr := egr ▸ K4.size
  refine ps_r (o_vDigestBlock 2 1) (pT gr 0) (w' := V6) (by rw [← eV6, ← egr]; exact exec_alloc0 26 (by kernel_rfl) (.agg (zr_u8_32)) (by kernel_rfl)) ?_
  clear eV6
  have h10 := kV6.bk h2
  have K11 := K4.nn kV6
  have z12 := kV6.size
  refine ps_k (o_vDigestBlock 2 2) (.int .i64 0) ?_
  refine ps_end ?_
  refine then_n ?_
  refine sy_sq (part_vDigestBlock 6) (part_vDigestBlock 7) ?_
  refine sy_np ?_
  refine sy_reg ?_
  refine an_begin 1 9 (opsAt (part_vDigestBlock 6)) (fun W => (W.heap[ga]? = some (.cells (Pro.c a) 36 (0, 0)))) #[false, false, false, false, false, false, false, false, false] (by kernel_rfl) (by kernel_rfl) (by kernel_rfl) (by kernel_rfl) ?_
  obtain ⟨V13, eV13, kV13⟩ := drew_step V6
  rw [eV13]
  clear eV13
  have h14 := kV13.bk h10
  have h15 := kV13.bk h7
  have K16 := K11.nn kV13
  have z17 := kV13.size
  refine an_v 0 (o_vDigestBlock 6 0) (.agg (Pro.c a)) (fun W hS => exec_load_row 36 (.tmp 1) (by kernel_rfl) ga (by kernel_rfl) _ _ (0, 0) _ (hS) Try.underlying36 rfl (by rw [Pro.c_size _ hr]; kernel_rfl)) h14 ?_
  refine an_v 2 (o_vDigestBlock 6 2) (.agg (Pro.c a)) (fun W hS => exec_load_row 36 (.tmp 1) (by kernel_rfl) ga (by kernel_rfl) _ _ (0, 0) _ (hS) Try.underlying36 rfl (by rw [Pro.c_size _ hr]; kernel_rfl)) h14 ?_
  refine an_o 1 ?_
  refine on_c (o_vDigestBlock 6 1) 23 #[.agg (Pro.c a)] Try.func23 ((vCheckBlock_is a _ hr (Pro.err_ok hf)).mono ?_)
  rintro e V18 ⟨rfl, kV18⟩
  refine ⟨_, rfl, ?_⟩
  have h19 := kV18.bk h14
  have h20 := kV18.bk h15
  have K21 := K16.nn kV18
  have z22 := kV18.size
  refine ⟨h19, ?_⟩
  refine an_o 3 ?_
  refine on_c (o_vDigestBlock 6 3) 59 #[.agg (Pro.c a)] Try.func59 ((vthingsBlock_ok a _ hr).mono ?_)
  rintro e V23 ⟨gl, vs, rfl, hrow, hths, hnl, kV23⟩
  have hnl2 : NewFrom w.heap.size (.slice (some ⟨gl, 0, none⟩) 4 4) := fun j hj => by have := hnl j hj; have := K21.size; omega
  refine ⟨_, rfl, ?_⟩
  have h24 := kV23.bk h19
  have h25 := kV23.bk h20
  have K26 := K21.nn kV23
  have z27 := kV23.size
  refine ⟨h24, ?_⟩
  refine an_o 4 ?_
  refine on_c (o_vDigestBlock 6 4) 64 #[.int .i64 0, .slice (some ⟨gl, 0, none⟩) 4 4] Try.func64 ((vhash_ok _ (proT a) _ _ hrow hths (by simp [proT]) (okT_pre (pro_okT ha hf)) (by have h := hlen.2; unfold Pro.bare at h; omega) (by simp [proT])).mono ?_)
  rintro e V28 ⟨rfl, kV28⟩
  refine ⟨_, rfl, ?_⟩
  have h29 := kV28.bk h24
  have h30 := kV28.bk h25
  have K31 := K26.nn kV28
  have z32 := kV28.size
  refine ⟨h29, ?_⟩
  refine an_k 5 (o_vDigestBlock 6 5) (.agg (B a.dig).toArray) h29 ?_
  refine an_k 6 (o_vDigestBlock 6 6) (.int .i64 0) h29 ?_
  refine an_o 7 ?_
  obtain ⟨V33, eV33, kV33⟩ := rowset_step V28 gr ((B a.dig).toArray)
  have h34 : V33.heap[gr]? = some (.cells ((B a.dig).toArray) 26 (0, 0)) := eV33 ▸ setRow_heap _ _ _ _ _ _ h30
  refine on_s (o_vDigestBlock 6 7) (w' := V33) (by rw [← eV33]; exact exec_store_row 26 (.tmp 2) (.tmp 9) (by kernel_rfl) gr ((B a.dig).toArray) (by kernel_rfl) (by kernel_rfl) 26 (zr_u8_32) h30 (by rw [Bz_size, show (a.dig).length = 32 from (Pro.dig_len a)]; kernel_rfl) (by rw [Bz_size, show (a.dig).length = 32 from (Pro.dig_len a)]; rfl) (by rw [List.all_toArray]; exact List.all_eq_true.2 (B_one _))) ?_
  clear eV33
  have h35 := kV33.bo h29 (by omega)
  have K36 := K31.no kV33 (by omega)
  have z37 := kV33.size
  refine ⟨h35, ?_⟩
  refine an_o 8 ?_
  refine on_r (o_vDigestBlock 6 8) (.int .i64 0) (w' := V33) (by kernel_rfl) ?_
  refine ⟨h35, ?_⟩
  refine an_end (by kernel_rfl) ?_
  refine then_n ?_
  refine sy_ret (by kernel_rfl) ?_
  refine sy_out (.tuple #[.agg ((B a.dig).toArray), .int .i64 0]) rfl (results_row_tmp (p := 2) (q := 3) (ty := 26) (by kernel_rfl) _ _ gr 26 ((B a.dig).toArray) (0, 0) _ (.int .i64 0) (by kernel_rfl) h34 Try.underlying26 rfl (by rw [Bz_size, (Pro.dig_len a)]; kernel_rfl) (by kernel_rfl)) ?_
  exact ⟨rfl, K36⟩
end Go.Proofs.Ytenaakldccjnbaa
