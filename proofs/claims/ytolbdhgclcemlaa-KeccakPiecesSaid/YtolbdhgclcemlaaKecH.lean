/-
  Keccak: the laws' examples (printed by kec7.py). Conditions: none.
-/
import Derived.Test.YtolbdhgclcemlaaKecG
import Derived.Test.YtolbdhgclcemlaaArr
namespace Go.Proofs.Ytolbdhgclcemlaa
open Go Go.RowKit Go.Own Go.Shelf
theorem khash_eql (l m : List UInt8) (hl : l.length = 32) (hm : m.length = 32) (w : World) : (binOp .eql 29 (.agg (B l).toArray) (.agg (B m).toArray)).run Try.prog w = .ok (.bool (l == m)) w := by
  obtain ⟨i0, hi, _, _, _⟩ := info_parts u8_infoK
  have h := run_equalIn_bytes (P := Try.prog) (t := 29) (e := 5) (n := 32) Try.underlying29 hi (by kernel_rfl) Try.underlying5 (by kernel_rfl) 9998 l m w hl hm
  rw [run_eql_struct, h]
  rfl
theorem khash_guard : Try.prog.eqGuardType Try.prog.depth 29 = false := by kernel_rfl
theorem hex_nil : hexOf (Kec.sum []) = [97, 55, 102, 102, 99, 54, 102, 56, 98, 102, 49, 101, 100, 55, 54, 54, 53, 49, 99, 49, 52, 55, 53, 54, 97, 48, 54, 49, 100, 54, 54, 50, 102, 53, 56, 48, 102, 102, 52, 100, 101, 52, 51, 98, 52, 57, 102, 97, 56, 50, 100, 56, 48, 97, 52, 98, 56, 48, 102, 56, 52, 51, 52, 97] := by rw [Kec.sum_nil]; decide +kernel
theorem hex_abc : hexOf (Kec.sum [97, 98, 99]) = [51, 97, 57, 56, 53, 100, 97, 55, 52, 102, 101, 50, 50, 53, 98, 50, 48, 52, 53, 99, 49, 55, 50, 100, 54, 98, 100, 51, 57, 48, 98, 100, 56, 53, 53, 102, 48, 56, 54, 101, 51, 101, 57, 100, 53, 50, 53, 98, 52, 54, 98, 102, 101, 50, 52, 53, 49, 49, 52, 51, 49, 53, 51, 50] := by rw [Kec.sum_abc]; decide +kernel
theorem text_nil (w : World) : Calls Try.prog 27 #[.agg (B (Kec.sum [])).toArray] w fun e w' => e = .returned (.string ⟨#[97, 55, 102, 102, 99, 54, 102, 56, 98, 102, 49, 101, 100, 55, 54, 54, 53, 49, 99, 49, 52, 55, 53, 54, 97, 48, 54, 49, 100, 54, 54, 50, 102, 53, 56, 48, 102, 102, 52, 100, 101, 52, 51, 98, 52, 57, 102, 97, 56, 50, 100, 56, 48, 97, 52, 98, 56, 48, 102, 56, 52, 51, 52, 97]⟩) ∧ Keeps Nob w w' := by
  have h := kText_ok (Kec.sum []) w (Kec.sum_len _)
  rw [hex_nil] at h; exact h
theorem text_abc (w : World) : Calls Try.prog 27 #[.agg (B (Kec.sum [97, 98, 99])).toArray] w fun e w' => e = .returned (.string ⟨#[51, 97, 57, 56, 53, 100, 97, 55, 52, 102, 101, 50, 50, 53, 98, 50, 48, 52, 53, 99, 49, 55, 50, 100, 54, 98, 100, 51, 57, 48, 98, 100, 56, 53, 53, 102, 48, 56, 54, 101, 51, 101, 57, 100, 53, 50, 53, 98, 52, 54, 98, 102, 101, 50, 52, 53, 49, 49, 52, 51, 49, 53, 51, 50]⟩) ∧ Keeps Nob w w' := by
  have h := kText_ok (Kec.sum [97, 98, 99]) w (Kec.sum_len _)
  rw [hex_abc] at h; exact h
/-- So many noughts. -/
def noughts (n : Nat) : List UInt8 := List.replicate n 48
theorem noughts_succ (n : Nat) : noughts n ++ [48] = noughts (n + 1) := by simp [noughts, List.replicate_succ']

noncomputable def part_lzeros (n : Nat) : Code := partOf Try.f33 n
noncomputable abbrev o_lzeros (n k : Nat) : Oper := (opsAt (part_lzeros n)).getD k default
set_option maxRecDepth 100000 in
set_option maxHeartbeats 4000000 in
theorem lzeros_ok (n : Nat) (w : World) (hn : n ≤ 1000000) :
    Calls Try.prog 33 #[.int .i64 ((n : Nat) : Int)] w (fun e w' => e = .returned (.string ⟨(noughts n).toArray⟩) ∧ w = w') := by
  have K0 : Keeps Nob w w := Keeps.refl _ _
  refine sy_enter (part_lzeros 1) ⟨#[iN n, undef, undef, undef, undef, undef, undef, undef, undef, undef, undef, undef, undef], []⟩ Try.func33 (by kernel_rfl) (by kernel_rfl) ?_
  refine sy_sq (part_lzeros 2) (part_lzeros 3) ?_
  refine sy_reg ?_
  refine rg_plain 0 (opsAt (part_lzeros 2)) [0] (by kernel_rfl) (by kernel_rfl) ?_
  refine ps_k (o_lzeros 2 0) (.string { data := #[] }) ?_
  refine ps_end ?_
  refine sy_a ⟨#[iN n, undef, .string { data := #[] }, undef, undef, undef, undef, undef, undef, undef, undef, undef, undef], []⟩ ?_
  refine then_n ?_
  refine sy_sq (part_lzeros 6) (part_lzeros 7) ?_
  refine sy_reg ?_
  refine rg_plain 1 (opsAt (part_lzeros 6)) [0] (by kernel_rfl) (by kernel_rfl) ?_
  refine ps_k (o_lzeros 6 0) (.string { data := #[] }) ?_
  refine ps_end ?_
  refine sy_a ⟨#[iN n, undef, .string { data := #[] }, .string { data := #[] }, undef, undef, undef, undef, undef, undef, undef, undef, undef], []⟩ ?_
  refine then_n ?_
  refine sy_sq (part_lzeros 14) (part_lzeros 15) ?_
  refine sy_sq (part_lzeros 28) (part_lzeros 29) ?_
  refine sy_reg ?_
  refine rg_plain 2 (opsAt (part_lzeros 28)) [0] (by kernel_rfl) (by kernel_rfl) ?_
  refine ps_k (o_lzeros 28 0) (.int .i64 0) ?_
  refine ps_end ?_
  refine sy_a ⟨#[iN n, undef, .string { data := #[] }, .string { data := #[] }, .int .i64 0, undef, undef, undef, undef, undef, undef, undef, undef], []⟩ ?_
  refine then_n ?_
  refine sy_bk 0 (part_lzeros 58) ?_
  refine sy_loop (part_lzeros 116) (fun a V => ∃ (k : Nat) (u5 u6 u7 u8 u9 u10 u11 : Value), (a = ⟨#[iN n, undef, .string { data := #[] }, .string ⟨(noughts k).toArray⟩, iN k, u5, u6, u7, u8, u9, u10, u11, undef], []⟩) ∧ (k ≤ n) ∧ (w = V)) (fun a _ => n - (intOf (a.tmps.getD 4 undef)).toNat) (by kernel_rfl) ?_ ?_
  · exact ⟨0, undef, undef, undef, undef, undef, undef, undef, by kernel_rfl, by omega, rfl⟩
  · rintro a V1 ⟨k, u5, u6, u7, u8, u9, u10, u11, rfl, hk, rfl⟩
    by_cases lt_k : k < n
    · show _
      refine sy_sq (part_lzeros 232) (part_lzeros 233) ?_
      refine sy_sq (part_lzeros 464) (part_lzeros 465) ?_
      refine sy_reg ?_
      refine rg_plain 3 (opsAt (part_lzeros 464)) [0, 1, 2] (by kernel_rfl) (by kernel_rfl) ?_
      refine ps_k (o_lzeros 464 0) (iN k) ?_
      refine ps_k (o_lzeros 464 1) (iN n) ?_
      refine ps_p (o_lzeros 464 2) (.bool true) (exec_cast (congrArg Value.bool (show (decide ((((k : Nat) : Int)) < (((n : Nat) : Int)))) = true from by simp only [decide_eq_true_eq]; omega)) (by kernel_rfl)) ?_
      refine ps_end ?_
      refine sy_a ⟨#[iN n, undef, .string { data := #[] }, .string ⟨(noughts k).toArray⟩, iN k, iN k, iN n, .bool true, u8, u9, u10, u11, undef], []⟩ ?_
      refine then_n ?_
      refine sy_ys (.tmp 7) (part_lzeros 930) (part_lzeros 931) ?_
      refine sy_sk ?_
      refine then_n ?_
      refine sy_sq (part_lzeros 466) (part_lzeros 467) ?_
      refine sy_bk 1 (part_lzeros 932) ?_
      refine sy_reg ?_
      refine rg_plain 5 (opsAt (part_lzeros 932)) [0, 1, 2] (by kernel_rfl) (by kernel_rfl) ?_
      refine ps_k (o_lzeros 932 0) (.string ⟨(noughts k).toArray⟩) ?_
      refine ps_p (o_lzeros 932 1) (.string ⟨(noughts (k + 1)).toArray⟩) (exec_cast (congrArg (fun l : List UInt8 => Value.string ⟨l.toArray⟩) (noughts_succ k)) (exec_cat 9 (.tmp 10) (.const (.string ⟨#[48]⟩)) (by kernel_rfl) (noughts k) [48] (by kernel_rfl) (by kernel_rfl) (by simp [noughts]; omega))) ?_
      refine ps_k (o_lzeros 932 2) (.string ⟨(noughts (k + 1)).toArray⟩) ?_
      refine ps_end ?_
      refine sy_a ⟨#[iN n, undef, .string { data := #[] }, .string ⟨(noughts (k + 1)).toArray⟩, iN k, iN k, iN n, .bool true, u8, u9, .string ⟨(noughts k).toArray⟩, .string ⟨(noughts (k + 1)).toArray⟩, undef], []⟩ ?_
      refine blk_n ?_
      refine then_n ?_
      refine sy_reg ?_
      refine rg_plain 4 (opsAt (part_lzeros 467)) [0, 1, 2] (by kernel_rfl) (by kernel_rfl) ?_
      refine ps_k (o_lzeros 467 0) (iN k) ?_
      refine ps_p (o_lzeros 467 1) (iN (k + 1)) (exec_cast (congrArg (Value.int .i64) (wrapN (k + 1) (by omega))) (by kernel_rfl)) ?_
      refine ps_k (o_lzeros 467 2) (iN (k + 1)) ?_
      refine ps_end ?_
      refine sy_a ⟨#[iN n, undef, .string { data := #[] }, .string ⟨(noughts (k + 1)).toArray⟩, iN (k + 1), iN k, iN n, .bool true, iN k, iN (k + 1), .string ⟨(noughts k).toArray⟩, .string ⟨(noughts (k + 1)).toArray⟩, undef], []⟩ ?_
      refine then_n ?_
      refine ⟨⟨k + 1, (iN k), (iN n), (.bool true), (iN k), (iN (k + 1)), (.string ⟨(noughts k).toArray⟩), (.string ⟨(noughts (k + 1)).toArray⟩), by kernel_rfl, by omega, rfl⟩, ?_⟩
      exact lt_meas (x := n - (k + 1)) (y := n - k) (by kernel_rfl) (by kernel_rfl) (by omega)
    · have eq_k : k = n := by omega
      refine sy_sq (part_lzeros 232) (part_lzeros 233) ?_
      refine sy_sq (part_lzeros 464) (part_lzeros 465) ?_
      refine sy_reg ?_
      refine rg_plain 3 (opsAt (part_lzeros 464)) [0, 1, 2] (by kernel_rfl) (by kernel_rfl) ?_
      refine ps_k (o_lzeros 464 0) (iN k) ?_
      refine ps_k (o_lzeros 464 1) (iN n) ?_
      refine ps_p (o_lzeros 464 2) (.bool false) (exec_cast (congrArg Value.bool (show (decide ((((k : Nat) : Int)) < (((n : Nat) : Int)))) = false from by simp only [decide_eq_false_iff_not]; omega)) (by kernel_rfl)) ?_
      refine ps_end ?_
      refine sy_a ⟨#[iN n, undef, .string { data := #[] }, .string ⟨(noughts k).toArray⟩, iN k, iN k, iN n, .bool false, u8, u9, u10, u11, undef], []⟩ ?_
      refine then_n ?_
      refine sy_n (.tmp 7) (part_lzeros 930) (part_lzeros 931) ?_
      refine sy_exit 0 (by kernel_rfl) ?_
      refine then_e ?_
      refine then_e ?_
      refine blk_e ?_
      refine then_n ?_
      refine sy_sq (part_lzeros 30) (part_lzeros 31) ?_
      refine sy_reg ?_
      refine rg_plain 6 (opsAt (part_lzeros 30)) [0, 1] (by kernel_rfl) (by kernel_rfl) ?_
      refine ps_k (o_lzeros 30 0) (.string ⟨(noughts k).toArray⟩) ?_
      refine ps_k (o_lzeros 30 1) (.string ⟨(noughts k).toArray⟩) ?_
      refine ps_end ?_
      refine sy_a ⟨#[iN n, undef, .string ⟨(noughts k).toArray⟩, .string ⟨(noughts k).toArray⟩, iN k, iN k, iN n, .bool false, u8, u9, u10, u11, .string ⟨(noughts k).toArray⟩], []⟩ ?_
      refine then_n ?_
      refine sy_ret (by kernel_rfl) ?_
      refine sy_out (.string ⟨(noughts k).toArray⟩) rfl (by kernel_rfl) ?_
      exact ⟨by rw [eq_k], rfl⟩
theorem perm_zero' : Kec.perm Kec.zero = [17376452488221285863, 9571781953733019530, 15391093639620504046, 13624874521033984333, 10027350355371872343, 18417369716475457492, 10448040663659726788, 10113917136857017974, 12479658147685402012, 3500241080921619556, 16959053435453822517, 12224711289652453635, 9342009439668884831, 4879704952849025062, 140226327413610143, 424854978622500449, 7259519967065370866, 7004910057750291985, 13293599522548616907, 10105770293752443592, 10668034807192757780, 1747952066141424100, 1654286879329379778, 8500057116360352059, 16929593379567477321] := Kec.perm_zero
noncomputable def part_lawake (n : Nat) : Code := partOf Try.f14 n
noncomputable abbrev o_lawake (n k : Nat) : Oper := (opsAt (part_lawake n)).getD k default
set_option maxRecDepth 100000 in
set_option maxHeartbeats 4000000 in
theorem lawake_ok (w : World) :
    Calls Try.prog 14 #[] w (fun e w' => e = .returned (.bool true) ∧ Keeps Nob w w') := by
  have K0 : Keeps Nob w w := Keeps.refl _ _
  refine sy_enter (part_lawake 1) ⟨#[undef, undef, undef, undef, undef, undef, undef, undef, undef, undef, undef, undef, undef, undef, undef, undef, undef, undef, undef, undef, undef, undef, undef, undef], []⟩ Try.func14 (by kernel_rfl) (by kernel_rfl) ?_
  refine sy_sq (part_lawake 2) (part_lawake 3) ?_
  refine sy_reg ?_
  refine rg_plain 0 (opsAt (part_lawake 2)) [0] (by kernel_rfl) (by kernel_rfl) ?_
  refine ps_k (o_lawake 2 0) (.bool false) ?_
  refine ps_end ?_
  refine sy_a ⟨#[.bool false, undef, undef, undef, undef, undef, undef, undef, undef, undef, undef, undef, undef, undef, undef, undef, undef, undef, undef, undef, undef, undef, undef, undef], []⟩ ?_
  refine then_n ?_
  refine sy_sq (part_lawake 6) (part_lawake 7) ?_
  refine sy_reg ?_
  refine rg_plain 1 (opsAt (part_lawake 6)) [0, 1, 2, 3] (by kernel_rfl) (by kernel_rfl) ?_
  refine ps_k (o_lawake 6 0) (.agg (Wz Kec.zero)) ?_
  refine ps_call (o_lawake 6 1) 29 #[.agg (Wz Kec.zero)] (by kernel_rfl) (by kernel_rfl) (by kernel_rfl) (by kernel_rfl) (enters_of Try.func29 (by kernel_rfl) rfl) ((kPermute_ok Kec.zero _ (by simp [Kec.zero]) Kec.ws_zero).mono ?_)
  rintro e V1 ⟨rfl, kV1⟩
  refine ⟨_, rfl, ?_⟩
  have K2 : Keeps Nob w V1 := K0.then kV1 (fun _ _ x => x.elim)
  obtain ⟨V3, eV3⟩ : ∃ V, V1.alloc (.cells (zr_u64_25) 46) = V := ⟨_, rfl⟩
  obtain ⟨gs, egs⟩ : ∃ g, V1.heap.size = g := ⟨_, rfl⟩
  have n5 : w.heap.size ≤ gs := egs ▸ K2.size
  have h4 : V3.heap[gs]? = some (.cells (zr_u64_25) 46 (0, 0)) := by rw [← eV3, ← egs]; exact heap_alloc_new _ _
  have kV3 : Keeps Nob V1 V3 := eV3 ▸ (Keeps.refl _ _).alloc _
  refine ps_run (o_lawake 6 2) (pT gs 0) (w' := V3) (by kernel_rfl) (by kernel_rfl) (by rw [← eV3, ← egs]; exact exec_alloc0 46 (by kernel_rfl) (.agg (zr_u64_25)) (by kernel_rfl)) ?_
  clear eV3
  have K6 : Keeps Nob w V3 := K2.then kV3 (fun _ _ x => x.elim)
  obtain ⟨V7, eV7⟩ : ∃ V, V3.setRow gs ((Wz (Kec.perm Kec.zero))) = V := ⟨_, rfl⟩
  have kV7 : Keeps (One gs) V3 V7 := eV7 ▸ (Keeps.refl (One gs) _).setRow (fun _ => (rfl : Own.One gs gs)) _
  have h8 : V7.heap[gs]? = some (.cells (Wz (Kec.perm Kec.zero)) 46 (0, 0)) := eV7 ▸ setRow_heap _ _ _ _ _ _ h4
  refine ps_skip (o_lawake 6 3) (w' := V7) (by kernel_rfl) (by kernel_rfl) (by rw [← eV7]; exact exec_store_row 46 (.tmp 1) (.tmp 3) (by kernel_rfl) gs ((Wz (Kec.perm Kec.zero))) (by kernel_rfl) (by kernel_rfl) 46 (zr_u64_25) h4 (by rw [Wz_size, Kec.len_perm (by simp [Kec.zero])]; kernel_rfl) (by rw [Wz_size, Kec.len_perm (by simp [Kec.zero])]; rfl) (Wz_one _)) ?_
  clear eV7
  have K9 : Keeps Nob w V7 := K6.then kV7 (fun i hi hm => absurd hi (by unfold Own.One at hm; omega))
  refine ps_end ?_
  refine sy_a ⟨#[.bool false, pT gs 0, .agg (Wz Kec.zero), .agg (Wz (Kec.perm Kec.zero)), undef, undef, undef, undef, undef, undef, undef, undef, undef, undef, undef, undef, undef, undef, undef, undef, undef, undef, undef, undef], []⟩ ?_
  refine then_n ?_
  refine sy_sq (part_lawake 14) (part_lawake 15) ?_
  refine sy_reg ?_
  refine rg_plain 2 (opsAt (part_lawake 14)) [0, 1, 2, 3, 4, 5, 6, 7, 8, 9, 10, 11, 12, 13, 14, 15, 16, 17, 18, 19, 20] (by kernel_rfl) (by kernel_rfl) ?_
  refine ps_call (o_lawake 14 0) 24 #[.slice none 0 0] (by kernel_rfl) (by kernel_rfl) (by kernel_rfl) (by kernel_rfl) (enters_of Try.func24 (by kernel_rfl) rfl) ((kSum_ok [] none 0 _ (BytesAt.nil _) (by simp)).mono ?_)
  rintro e V10 ⟨rfl, kV10⟩
  refine ⟨_, rfl, ?_⟩
  have h11 : V10.heap[gs]? = some (.cells (Wz (Kec.perm Kec.zero)) 46 (0, 0)) := (kV10.block gs (lt_of_block h8) (fun x => x)).trans h8
  have K12 : Keeps Nob w V10 := K9.then kV10 (fun _ _ x => x.elim)
  refine ps_call (o_lawake 14 1) 27 #[.agg (B (Kec.sum [])).toArray] (by kernel_rfl) (by kernel_rfl) (by kernel_rfl) (by kernel_rfl) (enters_of Try.func27 (by kernel_rfl) rfl) ((text_nil _).mono ?_)
  rintro e V13 ⟨rfl, kV13⟩
  refine ⟨_, rfl, ?_⟩
  have h14 : V13.heap[gs]? = some (.cells (Wz (Kec.perm Kec.zero)) 46 (0, 0)) := (kV13.block gs (lt_of_block h11) (fun x => x)).trans h11
  have K15 : Keeps Nob w V13 := K12.then kV13 (fun _ _ x => x.elim)
  refine ps_k (o_lawake 14 2) (.bool true) ?_
  refine ps_k (o_lawake 14 3) (.bool true) ?_
  obtain ⟨V16, eV16⟩ : ∃ V, V13.alloc (.cells (#[.int .u8 97, .int .u8 98, .int .u8 99]) 5) = V := ⟨_, rfl⟩
  obtain ⟨ga, ega⟩ : ∃ g, V13.heap.size = g := ⟨_, rfl⟩
  have n18 : gs < ga := ega ▸ lt_of_block h14
  have n19 : w.heap.size ≤ ga := ega ▸ K15.size
  have h17 : V16.heap[ga]? = some (.cells (#[.int .u8 97, .int .u8 98, .int .u8 99]) 5 (0, 0)) := by rw [← eV16, ← ega]; exact heap_alloc_new _ _
  have kV16 : Keeps Nob V13 V16 := eV16 ▸ (Keeps.refl _ _).alloc _
  refine ps_run (o_lawake 14 4) (.slice (some ⟨ga, 0, none⟩) 3 3) (w' := V16) (by kernel_rfl) (by kernel_rfl) (by rw [← eV16, ← ega]; kernel_rfl) ?_
  have h20 : V16.heap[gs]? = some (.cells (Wz (Kec.perm Kec.zero)) 46 (0, 0)) := (kV16.block gs (lt_of_block h14) (fun x => x)).trans h14
  have K21 : Keeps Nob w V16 := K15.then kV16 (fun _ _ x => x.elim)
  obtain ⟨V22, hr24, h25, kV22⟩ := conv_step (P := Try.prog) V13 (#[.int .u8 97, .int .u8 98, .int .u8 99]) 5 V16 ga eV16 ega 22 3 3 Try.underlying22 Try.underlying5
  have h23 : BytesAt V22 (.slice (some ⟨ga, 0, none⟩) 3 3) [97, 98, 99] := bytes_of_block h25 (by kernel_rfl) rfl (by decide)
  have hl26 := lt_of_block h25
  refine ps_run (o_lawake 14 5) (.slice (some ⟨ga, 0, none⟩) 3 3) (w' := V22) (by kernel_rfl) (by kernel_rfl) (exec_convert 22 22 (.tmp 8) (by kernel_rfl) _ (by kernel_rfl) hr24) ?_
  have h27 : V22.heap[gs]? = some (.cells (Wz (Kec.perm Kec.zero)) 46 (0, 0)) := (kV22.block gs (lt_of_block h20) (fun e => by unfold Own.One at e; omega)).trans h20
  have K28 : Keeps Nob w V22 := K21.then kV22 (fun i hi hm => absurd hi (by unfold Own.One at hm; omega))
  refine ps_call (o_lawake 14 6) 24 #[.slice (some ⟨ga, 0, none⟩) 3 3] (by kernel_rfl) (by kernel_rfl) (by kernel_rfl) (by kernel_rfl) (enters_of Try.func24 (by kernel_rfl) rfl) ((kSum_ok [97, 98, 99] (some ⟨ga, 0, none⟩) 3 _ h23 (by simp)).mono ?_)
  rintro e V29 ⟨rfl, kV29⟩
  refine ⟨_, rfl, ?_⟩
  have h30 : V29.heap[gs]? = some (.cells (Wz (Kec.perm Kec.zero)) 46 (0, 0)) := (kV29.block gs (lt_of_block h27) (fun x => x)).trans h27
  have h31 : BytesAt V29 (.slice (some ⟨ga, 0, none⟩) 3 3) [97, 98, 99] := h23.keepsN kV29
  have K32 : Keeps Nob w V29 := K28.then kV29 (fun _ _ x => x.elim)
  refine ps_call (o_lawake 14 7) 27 #[.agg (B (Kec.sum [97, 98, 99])).toArray] (by kernel_rfl) (by kernel_rfl) (by kernel_rfl) (by kernel_rfl) (enters_of Try.func27 (by kernel_rfl) rfl) ((text_abc _).mono ?_)
  rintro e V33 ⟨rfl, kV33⟩
  refine ⟨_, rfl, ?_⟩
  have h34 : V33.heap[gs]? = some (.cells (Wz (Kec.perm Kec.zero)) 46 (0, 0)) := (kV33.block gs (lt_of_block h30) (fun x => x)).trans h30
  have h35 : BytesAt V33 (.slice (some ⟨ga, 0, none⟩) 3 3) [97, 98, 99] := h31.keepsN kV33
  have K36 : Keeps Nob w V33 := K32.then kV33 (fun _ _ x => x.elim)
  refine ps_k (o_lawake 14 8) (.bool true) ?_
  refine ps_k (o_lawake 14 9) (.bool true) ?_
  refine ps_k (o_lawake 14 10) (.bool true) ?_
  refine ps_p (o_lawake 14 11) (pT gs 0) (exec_cast (v := pT gs (0 + 0 * 1)) (by simp) (exec_indexAt_arr 46 (.tmp 1) (.const (.int .i64 0)) (by kernel_rfl) gs 0 (by kernel_rfl) .i64 0 (by kernel_rfl) _ _ 1 Try.underlying46 (by kernel_rfl) (by omega))) ?_
  refine ps_p (o_lawake 14 12) (.int .u64 17376452488221285863) (exec_load_cell 45 (.tmp 15) (by kernel_rfl) ⟨gs, 0, none⟩ (by kernel_rfl) _ _ Try.underlying45 rfl ((cell_of_row _ _ _ _ _ _ (h34)).trans (Wz_get' _ 0 _ (by rw [Kec.len_perm (by simp [Kec.zero] : Kec.zero.length = 25)]; omega) (by rw [perm_zero']; rfl)))) ?_
  refine ps_k (o_lawake 14 13) (.bool true) ?_
  refine ps_k (o_lawake 14 14) (.bool true) ?_
  refine ps_k (o_lawake 14 15) (.bool true) ?_
  refine ps_p (o_lawake 14 16) (pT gs 24) (exec_cast (v := pT gs (0 + 24 * 1)) (by simp) (exec_indexAt_arr 46 (.tmp 1) (.const (.int .i64 24)) (by kernel_rfl) gs 0 (by kernel_rfl) .i64 24 (by kernel_rfl) _ _ 1 Try.underlying46 (by kernel_rfl) (by omega))) ?_
  refine ps_p (o_lawake 14 17) (.int .u64 16929593379567477321) (exec_load_cell 45 (.tmp 20) (by kernel_rfl) ⟨gs, 24, none⟩ (by kernel_rfl) _ _ Try.underlying45 rfl ((cell_of_row _ _ _ _ _ _ (h34)).trans (Wz_get' _ 24 _ (by rw [Kec.len_perm (by simp [Kec.zero] : Kec.zero.length = 25)]; omega) (by rw [perm_zero']; rfl)))) ?_
  refine ps_k (o_lawake 14 18) (.bool true) ?_
  refine ps_k (o_lawake 14 19) (.bool true) ?_
  refine ps_k (o_lawake 14 20) (.bool true) ?_
  refine ps_end ?_
  refine sy_a ⟨#[.bool true, pT gs 0, .agg (Wz Kec.zero), .agg (Wz (Kec.perm Kec.zero)), .agg (B (Kec.sum [])).toArray, .string ⟨#[97, 55, 102, 102, 99, 54, 102, 56, 98, 102, 49, 101, 100, 55, 54, 54, 53, 49, 99, 49, 52, 55, 53, 54, 97, 48, 54, 49, 100, 54, 54, 50, 102, 53, 56, 48, 102, 102, 52, 100, 101, 52, 51, 98, 52, 57, 102, 97, 56, 50, 100, 56, 48, 97, 52, 98, 56, 48, 102, 56, 52, 51, 52, 97]⟩, .bool true, .bool true, .slice (some ⟨ga, 0, none⟩) 3 3, .slice (some ⟨ga, 0, none⟩) 3 3, .agg (B (Kec.sum [97, 98, 99])).toArray, .string ⟨#[51, 97, 57, 56, 53, 100, 97, 55, 52, 102, 101, 50, 50, 53, 98, 50, 48, 52, 53, 99, 49, 55, 50, 100, 54, 98, 100, 51, 57, 48, 98, 100, 56, 53, 53, 102, 48, 56, 54, 101, 51, 101, 57, 100, 53, 50, 53, 98, 52, 54, 98, 102, 101, 50, 52, 53, 49, 49, 52, 51, 49, 53, 51, 50]⟩, .bool true, .bool true, .bool true, pT gs 0, .int .u64 17376452488221285863, .bool true, .bool true, .bool true, pT gs 24, .int .u64 16929593379567477321, .bool true, .bool true], []⟩ ?_
  refine then_n ?_
  refine sy_ret (by kernel_rfl) ?_
  refine sy_out (.bool true) rfl (by kernel_rfl) ?_
  exact ⟨rfl, K36⟩

theorem reads_of (l v : List UInt8) (e : Int) (h : ∀ v' e', ReadsAs l v' e' → v' = v ∧ e' = e) (w : World) : Calls Try.prog 22 #[.string ⟨l.toArray⟩] w fun x w' => x = .returned (.tuple #[.agg (B v).toArray, .int .i64 e]) ∧ Keeps Nob w w' :=
  (kRead_ok l w).mono fun x w' ⟨v', e', h1, h2, h3⟩ => by obtain ⟨rfl, rfl⟩ := h v' e' h2; exact ⟨h1, h3⟩
theorem isHex_iff (l : List UInt8) : isHex l ↔ (decide (l.length = 64) && (List.range 32).all fun i => decide (0 ≤ dv (l.getD (2 * i) 0)) && decide (0 ≤ dv (l.getD (2 * i + 1) 0))) = true := by
  simp [isHex]
theorem reads_yes (l : List UInt8) (h : (decide (l.length = 64) && (List.range 32).all fun i => decide (0 ≤ dv (l.getD (2 * i) 0)) && decide (0 ≤ dv (l.getD (2 * i + 1) 0))) = true) (v : List UInt8) (e : Int) (hr : ReadsAs l v e) : v = (List.range 32).map (hv l) ∧ e = 0 := by
  rcases hr with ⟨_, h1, h2⟩ | ⟨h1, _⟩
  · exact ⟨h1, h2⟩
  · exact absurd ((isHex_iff l).2 h) h1
theorem reads_no (l : List UInt8) (h : (decide (l.length = 64) && (List.range 32).all fun i => decide (0 ≤ dv (l.getD (2 * i) 0)) && decide (0 ≤ dv (l.getD (2 * i + 1) 0))) = false) (v : List UInt8) (e : Int) (hr : ReadsAs l v e) : v = zero32 ∧ e = 5 := by
  rcases hr with ⟨h1, _⟩ | ⟨_, h1, h2⟩
  · rw [(isHex_iff l).1 h1] at h; cases h
  · exact ⟨h1, h2⟩
theorem reads64 (w : World) : Calls Try.prog 22 #[.string ⟨(noughts 64).toArray⟩] w fun x w' => x = .returned (.tuple #[.agg (B zero32).toArray, .int .i64 0]) ∧ Keeps Nob w w' :=
  reads_of _ _ _ (fun v e h => by obtain ⟨h1, h2⟩ := reads_yes (noughts 64) (by decide +kernel) v e h; exact ⟨h1.trans (by decide +kernel), h2⟩) w
theorem reads63 (w : World) : Calls Try.prog 22 #[.string ⟨(noughts 63).toArray⟩] w fun x w' => x = .returned (.tuple #[.agg (B zero32).toArray, .int .i64 5]) ∧ Keeps Nob w w' :=
  reads_of _ _ _ (reads_no (noughts 63) (by decide +kernel)) w
theorem reads63A (w : World) : Calls Try.prog 22 #[.string ⟨#[48, 48, 48, 48, 48, 48, 48, 48, 48, 48, 48, 48, 48, 48, 48, 48, 48, 48, 48, 48, 48, 48, 48, 48, 48, 48, 48, 48, 48, 48, 48, 48, 48, 48, 48, 48, 48, 48, 48, 48, 48, 48, 48, 48, 48, 48, 48, 48, 48, 48, 48, 48, 48, 48, 48, 48, 48, 48, 48, 48, 48, 48, 48, 65]⟩] w fun x w' => x = .returned (.tuple #[.agg (B zero32).toArray, .int .i64 5]) ∧ Keeps Nob w w' :=
  reads_of [48, 48, 48, 48, 48, 48, 48, 48, 48, 48, 48, 48, 48, 48, 48, 48, 48, 48, 48, 48, 48, 48, 48, 48, 48, 48, 48, 48, 48, 48, 48, 48, 48, 48, 48, 48, 48, 48, 48, 48, 48, 48, 48, 48, 48, 48, 48, 48, 48, 48, 48, 48, 48, 48, 48, 48, 48, 48, 48, 48, 48, 48, 48, 65] _ _ (reads_no _ (by decide +kernel)) w
theorem readsabc (w : World) : Calls Try.prog 22 #[.string ⟨#[51, 97, 57, 56, 53, 100, 97, 55, 52, 102, 101, 50, 50, 53, 98, 50, 48, 52, 53, 99, 49, 55, 50, 100, 54, 98, 100, 51, 57, 48, 98, 100, 56, 53, 53, 102, 48, 56, 54, 101, 51, 101, 57, 100, 53, 50, 53, 98, 52, 54, 98, 102, 101, 50, 52, 53, 49, 49, 52, 51, 49, 53, 51, 50]⟩] w fun x w' => x = .returned (.tuple #[.agg (B (Kec.sum [97, 98, 99])).toArray, .int .i64 0]) ∧ Keeps Nob w w' :=
  reads_of [51, 97, 57, 56, 53, 100, 97, 55, 52, 102, 101, 50, 50, 53, 98, 50, 48, 52, 53, 99, 49, 55, 50, 100, 54, 98, 100, 51, 57, 48, 98, 100, 56, 53, 53, 102, 48, 56, 54, 101, 51, 101, 57, 100, 53, 50, 53, 98, 52, 54, 98, 102, 101, 50, 52, 53, 49, 49, 52, 51, 49, 53, 51, 50] _ _ (fun v e h => by obtain ⟨h1, h2⟩ := reads_yes _ (by decide +kernel) v e h; exact ⟨h1.trans (by rw [Kec.sum_abc]; decide +kernel), h2⟩) w

noncomputable def part_KeccakKnown (n : Nat) : Code := partOf Try.f6 n
noncomputable abbrev o_KeccakKnown (n k : Nat) : Oper := (opsAt (part_KeccakKnown n)).getD k default
set_option maxRecDepth 100000 in
set_option maxHeartbeats 4000000 in
theorem known_ok (w : World) :
    Calls Try.prog 6 #[] w (fun e w' => e = .returned (.bool true) ∧ Keeps Nob w w') := by
  have K0 : Keeps Nob w w := Keeps.refl _ _
  refine sy_enter (part_KeccakKnown 1) ⟨#[undef, undef, undef, undef, undef, undef, undef, undef, undef, undef, undef, undef, undef, undef, undef, undef, undef, undef, undef, undef, undef, undef, undef, undef, undef, undef, undef, undef, undef, undef, undef, undef, undef, undef, undef, undef, undef, undef, undef, undef, undef, undef, undef, undef, undef, undef, undef, undef, undef, undef, undef, undef, undef, undef, undef, undef, undef, undef, undef, undef, undef, undef, undef, undef, undef, undef, undef, undef, undef, undef, undef, undef, undef, undef, undef, undef, undef, undef, undef, undef, undef, undef, undef, undef, undef, undef, undef, undef, undef, undef, undef, undef, undef, undef, undef], []⟩ Try.func6 (by kernel_rfl) (by kernel_rfl) ?_
  refine sy_sq (part_KeccakKnown 2) (part_KeccakKnown 3) ?_
  refine sy_reg ?_
  refine rg_plain 0 (opsAt (part_KeccakKnown 2)) [0] (by kernel_rfl) (by kernel_rfl) ?_
  refine ps_k (o_KeccakKnown 2 0) (.bool false) ?_
  refine ps_end ?_
  refine sy_a ⟨#[.bool false, undef, undef, undef, undef, undef, undef, undef, undef, undef, undef, undef, undef, undef, undef, undef, undef, undef, undef, undef, undef, undef, undef, undef, undef, undef, undef, undef, undef, undef, undef, undef, undef, undef, undef, undef, undef, undef, undef, undef, undef, undef, undef, undef, undef, undef, undef, undef, undef, undef, undef, undef, undef, undef, undef, undef, undef, undef, undef, undef, undef, undef, undef, undef, undef, undef, undef, undef, undef, undef, undef, undef, undef, undef, undef, undef, undef, undef, undef, undef, undef, undef, undef, undef, undef, undef, undef, undef, undef, undef, undef, undef, undef, undef, undef], []⟩ ?_
  refine then_n ?_
  refine sy_sq (part_KeccakKnown 6) (part_KeccakKnown 7) ?_
  refine sy_reg ?_
  refine rg_plain 1 (opsAt (part_KeccakKnown 6)) [0, 1] (by kernel_rfl) (by kernel_rfl) ?_
  refine ps_call (o_KeccakKnown 6 0) 17 #[] (by kernel_rfl) (by kernel_rfl) (by kernel_rfl) (by kernel_rfl) (enters_of Try.func17 (by kernel_rfl) rfl) ((kNew_ok _).mono ?_)
  rintro e V1 ⟨b, p, rfl, hh0, hb0, hp0, kV1⟩
  refine ⟨_, rfl, ?_⟩
  have K2 : Keeps Nob w V1 := K0.then kV1 (fun _ _ x => x.elim)
  have z3 := kV1.size
  have hbl := lt_of_block hh0.cell
  have hpl := hh0.sp.lt
  refine ps_k (o_KeccakKnown 6 1) (pT b 0) ?_
  refine ps_end ?_
  refine sy_a ⟨#[.bool false, pT b 0, undef, undef, undef, undef, undef, undef, undef, undef, undef, undef, undef, pT b 0, undef, undef, undef, undef, undef, undef, undef, undef, undef, undef, undef, undef, undef, undef, undef, undef, undef, undef, undef, undef, undef, undef, undef, undef, undef, undef, undef, undef, undef, undef, undef, undef, undef, undef, undef, undef, undef, undef, undef, undef, undef, undef, undef, undef, undef, undef, undef, undef, undef, undef, undef, undef, undef, undef, undef, undef, undef, undef, undef, undef, undef, undef, undef, undef, undef, undef, undef, undef, undef, undef, undef, undef, undef, undef, undef, undef, undef, undef, undef, undef, undef], []⟩ ?_
  refine then_n ?_
  refine sy_sq (part_KeccakKnown 14) (part_KeccakKnown 15) ?_
  refine sy_reg ?_
  refine rg_plain 2 (opsAt (part_KeccakKnown 14)) [0, 1, 2, 3, 4, 5, 6, 7, 8, 9, 10, 11, 12, 13, 14, 15, 16, 17] (by kernel_rfl) (by kernel_rfl) ?_
  refine ps_k (o_KeccakKnown 14 0) (pT b 0) ?_
  obtain ⟨V4, eV4⟩ : ∃ V, V1.alloc (.cells (#[.int .u8 97]) 5) = V := ⟨_, rfl⟩
  obtain ⟨ga, ega⟩ : ∃ g, V1.heap.size = g := ⟨_, rfl⟩
  have n6 : w.heap.size ≤ ga := ega ▸ K2.size
  have h5 : V4.heap[ga]? = some (.cells (#[.int .u8 97]) 5 (0, 0)) := by rw [← eV4, ← ega]; exact heap_alloc_new _ _
  have kV4 : Keeps Nob V1 V4 := eV4 ▸ (Keeps.refl _ _).alloc _
  refine ps_run (o_KeccakKnown 14 1) (.slice (some ⟨ga, 0, none⟩) 1 1) (w' := V4) (by kernel_rfl) (by kernel_rfl) (by rw [← eV4, ← ega]; kernel_rfl) ?_
  have h7 : HashAt V4 b p [] := hh0.keepsN kV4
  have K8 : Keeps Nob w V4 := K2.then kV4 (fun _ _ x => x.elim)
  have z9 := kV4.size
  obtain ⟨V10, hr12, h13, kV10⟩ := conv_step (P := Try.prog) V1 (#[.int .u8 97]) 5 V4 ga eV4 ega 22 1 1 Try.underlying22 Try.underlying5
  have h11 : BytesAt V10 (.slice (some ⟨ga, 0, none⟩) 1 1) [97] := bytes_of_block h13 (by kernel_rfl) rfl (by decide)
  have hl14 := lt_of_block h13
  refine ps_run (o_KeccakKnown 14 2) (.slice (some ⟨ga, 0, none⟩) 1 1) (w' := V10) (by kernel_rfl) (by kernel_rfl) (exec_convert 22 22 (.tmp 15) (by kernel_rfl) _ (by kernel_rfl) hr12) ?_
  have h15 : HashAt V10 b p [] := h7.keeps kV10 (by intro e; first | exact e.elim | (unfold Own.One at e; omega)) (by intro e; first | exact e.elim | (unfold Own.One at e; omega))
  have K16 : Keeps Nob w V10 := K8.then kV10 (fun i hi hm => absurd hi (by unfold Own.One at hm; omega))
  have z17 := kV10.size
  refine ps_call (o_KeccakKnown 14 3) 11 #[pT b 0, .slice (some ⟨ga, 0, none⟩) 1 1] (by kernel_rfl) (by kernel_rfl) (by kernel_rfl) (by kernel_rfl) (enters_of Try.func11 (by kernel_rfl) rfl) ((kHWrite_ok b p [] [97] (some ⟨ga, 0, none⟩) 1 _ h15 h11 (fun _ j hj => by simp only [Value.ownBlock, Option.some.injEq] at hj; omega) (by simp)).mono ?_)
  rintro e V18 ⟨rfl, h19, kV18⟩
  refine ⟨_, rfl, ?_⟩
  have h20 : BytesAt V18 (.slice (some ⟨ga, 0, none⟩) 1 1) [97] := h11.keeps kV18 (fun j hj e => by simp only [Value.ownBlock, Option.some.injEq] at hj; unfold Own.One at e; omega)
  have K21 : Keeps Nob w V18 := K16.then kV18 (fun i hi hm => absurd hi (by unfold Own.One at hm; omega))
  have z22 := kV18.size
  refine ps_k (o_KeccakKnown 14 4) (.bool true) ?_
  refine ps_k (o_KeccakKnown 14 5) (.bool true) ?_
  refine ps_k (o_KeccakKnown 14 6) (pT b 0) ?_
  obtain ⟨V23, eV23⟩ : ∃ V, V18.alloc (.cells (#[.int .u8 98, .int .u8 99]) 5) = V := ⟨_, rfl⟩
  obtain ⟨gc, egc⟩ : ∃ g, V18.heap.size = g := ⟨_, rfl⟩
  have n25 : w.heap.size ≤ gc := egc ▸ K21.size
  have h24 : V23.heap[gc]? = some (.cells (#[.int .u8 98, .int .u8 99]) 5 (0, 0)) := by rw [← eV23, ← egc]; exact heap_alloc_new _ _
  have kV23 : Keeps Nob V18 V23 := eV23 ▸ (Keeps.refl _ _).alloc _
  refine ps_run (o_KeccakKnown 14 7) (.slice (some ⟨gc, 0, none⟩) 2 2) (w' := V23) (by kernel_rfl) (by kernel_rfl) (by rw [← eV23, ← egc]; kernel_rfl) ?_
  have h26 : BytesAt V23 (.slice (some ⟨ga, 0, none⟩) 1 1) [97] := h20.keepsN kV23
  have h27 : HashAt V23 b p [97] := h19.keepsN kV23
  have K28 : Keeps Nob w V23 := K21.then kV23 (fun _ _ x => x.elim)
  have z29 := kV23.size
  obtain ⟨V30, hr32, h33, kV30⟩ := conv_step (P := Try.prog) V18 (#[.int .u8 98, .int .u8 99]) 5 V23 gc eV23 egc 22 2 2 Try.underlying22 Try.underlying5
  have h31 : BytesAt V30 (.slice (some ⟨gc, 0, none⟩) 2 2) [98, 99] := bytes_of_block h33 (by kernel_rfl) rfl (by decide)
  have hl34 := lt_of_block h33
  refine ps_run (o_KeccakKnown 14 8) (.slice (some ⟨gc, 0, none⟩) 2 2) (w' := V30) (by kernel_rfl) (by kernel_rfl) (exec_convert 22 22 (.tmp 21) (by kernel_rfl) _ (by kernel_rfl) hr32) ?_
  have h35 : BytesAt V30 (.slice (some ⟨ga, 0, none⟩) 1 1) [97] := h26.keeps kV30 (fun j hj e => by simp only [Value.ownBlock, Option.some.injEq] at hj; unfold Own.One at e; omega)
  have h36 : HashAt V30 b p [97] := h27.keeps kV30 (by intro e; first | exact e.elim | (unfold Own.One at e; omega)) (by intro e; first | exact e.elim | (unfold Own.One at e; omega))
  have K37 : Keeps Nob w V30 := K28.then kV30 (fun i hi hm => absurd hi (by unfold Own.One at hm; omega))
  have z38 := kV30.size
  refine ps_call (o_KeccakKnown 14 9) 11 #[pT b 0, .slice (some ⟨gc, 0, none⟩) 2 2] (by kernel_rfl) (by kernel_rfl) (by kernel_rfl) (by kernel_rfl) (enters_of Try.func11 (by kernel_rfl) rfl) ((kHWrite_ok b p [97] [98, 99] (some ⟨gc, 0, none⟩) 2 _ h36 h31 (fun _ j hj => by simp only [Value.ownBlock, Option.some.injEq] at hj; omega) (by simp)).mono ?_)
  rintro e V39 ⟨rfl, h40, kV39⟩
  refine ⟨_, rfl, ?_⟩
  have h41 : BytesAt V39 (.slice (some ⟨ga, 0, none⟩) 1 1) [97] := h35.keeps kV39 (fun j hj e => by simp only [Value.ownBlock, Option.some.injEq] at hj; unfold Own.One at e; omega)
  have h42 : BytesAt V39 (.slice (some ⟨gc, 0, none⟩) 2 2) [98, 99] := h31.keeps kV39 (fun j hj e => by simp only [Value.ownBlock, Option.some.injEq] at hj; unfold Own.One at e; omega)
  have K43 : Keeps Nob w V39 := K37.then kV39 (fun i hi hm => absurd hi (by unfold Own.One at hm; omega))
  have z44 := kV39.size
  refine ps_k (o_KeccakKnown 14 10) (.bool true) ?_
  refine ps_k (o_KeccakKnown 14 11) (.bool true) ?_
  refine ps_k (o_KeccakKnown 14 12) (.bool true) ?_
  refine ps_k (o_KeccakKnown 14 13) (pT b 0) ?_
  refine ps_call (o_KeccakKnown 14 14) 12 #[pT b 0] (by kernel_rfl) (by kernel_rfl) (by kernel_rfl) (by kernel_rfl) (enters_of Try.func12 (by kernel_rfl) rfl) ((kHLen_ok b p [97, 98, 99] _ h40).mono ?_)
  rintro e w1 ⟨rfl, rfl⟩
  refine ⟨_, rfl, ?_⟩
  refine ps_k (o_KeccakKnown 14 15) (.bool true) ?_
  refine ps_k (o_KeccakKnown 14 16) (.bool true) ?_
  refine ps_k (o_KeccakKnown 14 17) (.bool true) ?_
  refine ps_end ?_
  refine sy_a ⟨#[.bool false, pT b 0, .bool true, undef, undef, undef, undef, undef, undef, undef, undef, undef, undef, pT b 0, pT b 0, .slice (some ⟨ga, 0, none⟩) 1 1, .slice (some ⟨ga, 0, none⟩) 1 1, .int .i64 0, .bool true, .bool true, pT b 0, .slice (some ⟨gc, 0, none⟩) 2 2, .slice (some ⟨gc, 0, none⟩) 2 2, .int .i64 0, .bool true, .bool true, .bool true, pT b 0, .int .i64 3, .bool true, .bool true, undef, undef, undef, undef, undef, undef, undef, undef, undef, undef, undef, undef, undef, undef, undef, undef, undef, undef, undef, undef, undef, undef, undef, undef, undef, undef, undef, undef, undef, undef, undef, undef, undef, undef, undef, undef, undef, undef, undef, undef, undef, undef, undef, undef, undef, undef, undef, undef, undef, undef, undef, undef, undef, undef, undef, undef, undef, undef, undef, undef, undef, undef, undef, undef], []⟩ ?_
  refine then_n ?_
  refine sy_sq (part_KeccakKnown 30) (part_KeccakKnown 31) ?_
  refine sy_reg ?_
  refine rg_plain 3 (opsAt (part_KeccakKnown 30)) [0, 1, 2, 3, 4, 5, 6, 7] (by kernel_rfl) (by kernel_rfl) ?_
  refine ps_k (o_KeccakKnown 30 0) (pT b 0) ?_
  refine ps_call (o_KeccakKnown 30 1) 10 #[pT b 0] (by kernel_rfl) (by kernel_rfl) (by kernel_rfl) (by kernel_rfl) (enters_of Try.func10 (by kernel_rfl) rfl) ((kHSum_ok b p [97, 98, 99] _ h40).mono ?_)
  rintro e V45 ⟨rfl, kV45⟩
  refine ⟨_, rfl, ?_⟩
  have h46 : BytesAt V45 (.slice (some ⟨ga, 0, none⟩) 1 1) [97] := h41.keepsN kV45
  have h47 : BytesAt V45 (.slice (some ⟨gc, 0, none⟩) 2 2) [98, 99] := h42.keepsN kV45
  have h48 : HashAt V45 b p [97, 98, 99] := h40.keepsN kV45
  have K49 : Keeps Nob w V45 := K43.then kV45 (fun _ _ x => x.elim)
  have z50 := kV45.size
  refine ps_k (o_KeccakKnown 30 2) (.tuple #[.agg (B (Kec.sum [97, 98, 99])).toArray, .int .i64 0]) ?_
  refine ps_k (o_KeccakKnown 30 3) (.agg (B (Kec.sum [97, 98, 99])).toArray) ?_
  refine ps_k (o_KeccakKnown 30 4) (.int .i64 0) ?_
  obtain ⟨V51, eV51⟩ : ∃ V, V45.alloc (.cells (zr_u8_32) 29) = V := ⟨_, rfl⟩
  obtain ⟨g3, eg3⟩ : ∃ g, V45.heap.size = g := ⟨_, rfl⟩
  have n53 : w.heap.size ≤ g3 := eg3 ▸ K49.size
  have h52 : V51.heap[g3]? = some (.cells (zr_u8_32) 29 (0, 0)) := by rw [← eV51, ← eg3]; exact heap_alloc_new _ _
  have kV51 : Keeps Nob V45 V51 := eV51 ▸ (Keeps.refl _ _).alloc _
  refine ps_run (o_KeccakKnown 30 5) (pT g3 0) (w' := V51) (by kernel_rfl) (by kernel_rfl) (by rw [← eV51, ← eg3]; exact exec_alloc0 29 (by kernel_rfl) (.agg (zr_u8_32)) (by kernel_rfl)) ?_
  clear eV51
  have h54 : BytesAt V51 (.slice (some ⟨ga, 0, none⟩) 1 1) [97] := h46.keepsN kV51
  have h55 : BytesAt V51 (.slice (some ⟨gc, 0, none⟩) 2 2) [98, 99] := h47.keepsN kV51
  have h56 : HashAt V51 b p [97, 98, 99] := h48.keepsN kV51
  have K57 : Keeps Nob w V51 := K49.then kV51 (fun _ _ x => x.elim)
  have z58 := kV51.size
  obtain ⟨V59, eV59⟩ : ∃ V, V51.setRow g3 ((B (Kec.sum [97, 98, 99])).toArray) = V := ⟨_, rfl⟩
  have kV59 : Keeps (One g3) V51 V59 := eV59 ▸ (Keeps.refl (One g3) _).setRow (fun _ => (rfl : Own.One g3 g3)) _
  have h60 : V59.heap[g3]? = some (.cells ((B (Kec.sum [97, 98, 99])).toArray) 29 (0, 0)) := eV59 ▸ setRow_heap _ _ _ _ _ _ h52
  refine ps_skip (o_KeccakKnown 30 6) (w' := V59) (by kernel_rfl) (by kernel_rfl) (by rw [← eV59]; exact exec_store_row 29 (.tmp 3) (.tmp 34) (by kernel_rfl) g3 ((B (Kec.sum [97, 98, 99])).toArray) (by kernel_rfl) (by kernel_rfl) 29 (zr_u8_32) h52 (by rw [Bz_size, Kec.sum_len]; kernel_rfl) (by rw [Bz_size, Kec.sum_len]; rfl) (by rw [List.all_toArray]; exact List.all_eq_true.2 (B_one _))) ?_
  clear eV59
  have h61 : BytesAt V59 (.slice (some ⟨ga, 0, none⟩) 1 1) [97] := h54.keeps kV59 (fun j hj e => by simp only [Value.ownBlock, Option.some.injEq] at hj; unfold Own.One at e; omega)
  have h62 : BytesAt V59 (.slice (some ⟨gc, 0, none⟩) 2 2) [98, 99] := h55.keeps kV59 (fun j hj e => by simp only [Value.ownBlock, Option.some.injEq] at hj; unfold Own.One at e; omega)
  have h63 : HashAt V59 b p [97, 98, 99] := h56.keeps kV59 (by intro e; first | exact e.elim | (unfold Own.One at e; omega)) (by intro e; first | exact e.elim | (unfold Own.One at e; omega))
  have K64 : Keeps Nob w V59 := K57.then kV59 (fun i hi hm => absurd hi (by unfold Own.One at hm; omega))
  have z65 := kV59.size
  refine ps_k (o_KeccakKnown 30 7) (.int .i64 0) ?_
  refine ps_end ?_
  refine sy_a ⟨#[.bool false, pT b 0, .bool true, pT g3 0, .int .i64 0, undef, undef, undef, undef, undef, undef, undef, undef, pT b 0, pT b 0, .slice (some ⟨ga, 0, none⟩) 1 1, .slice (some ⟨ga, 0, none⟩) 1 1, .int .i64 0, .bool true, .bool true, pT b 0, .slice (some ⟨gc, 0, none⟩) 2 2, .slice (some ⟨gc, 0, none⟩) 2 2, .int .i64 0, .bool true, .bool true, .bool true, pT b 0, .int .i64 3, .bool true, .bool true, .tuple #[.agg (B (Kec.sum [97, 98, 99])).toArray, .int .i64 0], pT b 0, .tuple #[.agg (B (Kec.sum [97, 98, 99])).toArray, .int .i64 0], .agg (B (Kec.sum [97, 98, 99])).toArray, .int .i64 0, undef, undef, undef, undef, undef, undef, undef, undef, undef, undef, undef, undef, undef, undef, undef, undef, undef, undef, undef, undef, undef, undef, undef, undef, undef, undef, undef, undef, undef, undef, undef, undef, undef, undef, undef, undef, undef, undef, undef, undef, undef, undef, undef, undef, undef, undef, undef, undef, undef, undef, undef, undef, undef, undef, undef, undef, undef, undef, undef], []⟩ ?_
  refine then_n ?_
  refine sy_sq (part_KeccakKnown 62) (part_KeccakKnown 63) ?_
  refine sy_reg ?_
  refine rg_plain 4 (opsAt (part_KeccakKnown 62)) [0, 1, 2, 3, 4, 5, 6, 7] (by kernel_rfl) (by kernel_rfl) ?_
  refine ps_call (o_KeccakKnown 62 0) 33 #[.int .i64 64] (by kernel_rfl) (by kernel_rfl) (by kernel_rfl) (by kernel_rfl) (enters_of Try.func33 (by kernel_rfl) rfl) ((lzeros_ok 64 _ (by omega)).mono ?_)
  rintro e w1 ⟨rfl, rfl⟩
  refine ⟨_, rfl, ?_⟩
  refine ps_call (o_KeccakKnown 62 1) 22 #[.string ⟨(noughts 64).toArray⟩] (by kernel_rfl) (by kernel_rfl) (by kernel_rfl) (by kernel_rfl) (enters_of Try.func22 (by kernel_rfl) rfl) ((reads64 _).mono ?_)
  rintro e V66 ⟨rfl, kV66⟩
  refine ⟨_, rfl, ?_⟩
  have h67 : BytesAt V66 (.slice (some ⟨ga, 0, none⟩) 1 1) [97] := h61.keepsN kV66
  have h68 : BytesAt V66 (.slice (some ⟨gc, 0, none⟩) 2 2) [98, 99] := h62.keepsN kV66
  have h69 : HashAt V66 b p [97, 98, 99] := h63.keepsN kV66
  have h70 : V66.heap[g3]? = some (.cells ((B (Kec.sum [97, 98, 99])).toArray) 29 (0, 0)) := (kV66.block g3 (lt_of_block h60) (fun x => x)).trans h60
  have K71 : Keeps Nob w V66 := K64.then kV66 (fun _ _ x => x.elim)
  have z72 := kV66.size
  refine ps_k (o_KeccakKnown 62 2) (.tuple #[.agg (B zero32).toArray, .int .i64 0]) ?_
  refine ps_k (o_KeccakKnown 62 3) (.agg (B zero32).toArray) ?_
  refine ps_k (o_KeccakKnown 62 4) (.int .i64 0) ?_
  obtain ⟨V73, eV73⟩ : ∃ V, V66.alloc (.cells (zr_u8_32) 29) = V := ⟨_, rfl⟩
  obtain ⟨g5, eg5⟩ : ∃ g, V66.heap.size = g := ⟨_, rfl⟩
  have n75 : g3 < g5 := eg5 ▸ lt_of_block h70
  have n76 : w.heap.size ≤ g5 := eg5 ▸ K71.size
  have h74 : V73.heap[g5]? = some (.cells (zr_u8_32) 29 (0, 0)) := by rw [← eV73, ← eg5]; exact heap_alloc_new _ _
  have kV73 : Keeps Nob V66 V73 := eV73 ▸ (Keeps.refl _ _).alloc _
  refine ps_run (o_KeccakKnown 62 5) (pT g5 0) (w' := V73) (by kernel_rfl) (by kernel_rfl) (by rw [← eV73, ← eg5]; exact exec_alloc0 29 (by kernel_rfl) (.agg (zr_u8_32)) (by kernel_rfl)) ?_
  clear eV73
  have h77 : BytesAt V73 (.slice (some ⟨ga, 0, none⟩) 1 1) [97] := h67.keepsN kV73
  have h78 : BytesAt V73 (.slice (some ⟨gc, 0, none⟩) 2 2) [98, 99] := h68.keepsN kV73
  have h79 : HashAt V73 b p [97, 98, 99] := h69.keepsN kV73
  have h80 : V73.heap[g3]? = some (.cells ((B (Kec.sum [97, 98, 99])).toArray) 29 (0, 0)) := (kV73.block g3 (lt_of_block h70) (fun x => x)).trans h70
  have K81 : Keeps Nob w V73 := K71.then kV73 (fun _ _ x => x.elim)
  have z82 := kV73.size
  obtain ⟨V83, eV83⟩ : ∃ V, V73.setRow g5 ((B zero32).toArray) = V := ⟨_, rfl⟩
  have kV83 : Keeps (One g5) V73 V83 := eV83 ▸ (Keeps.refl (One g5) _).setRow (fun _ => (rfl : Own.One g5 g5)) _
  have h84 : V83.heap[g5]? = some (.cells ((B zero32).toArray) 29 (0, 0)) := eV83 ▸ setRow_heap _ _ _ _ _ _ h74
  refine ps_skip (o_KeccakKnown 62 6) (w' := V83) (by kernel_rfl) (by kernel_rfl) (by rw [← eV83]; exact exec_store_row 29 (.tmp 5) (.tmp 39) (by kernel_rfl) g5 ((B zero32).toArray) (by kernel_rfl) (by kernel_rfl) 29 (zr_u8_32) h74 (by rw [Bz_size, zero32_len]; kernel_rfl) (by rw [Bz_size, zero32_len]; rfl) (by rw [List.all_toArray]; exact List.all_eq_true.2 (B_one _))) ?_
  clear eV83
  have h85 : BytesAt V83 (.slice (some ⟨ga, 0, none⟩) 1 1) [97] := h77.keeps kV83 (fun j hj e => by simp only [Value.ownBlock, Option.some.injEq] at hj; unfold Own.One at e; omega)
  have h86 : BytesAt V83 (.slice (some ⟨gc, 0, none⟩) 2 2) [98, 99] := h78.keeps kV83 (fun j hj e => by simp only [Value.ownBlock, Option.some.injEq] at hj; unfold Own.One at e; omega)
  have h87 : HashAt V83 b p [97, 98, 99] := h79.keeps kV83 (by intro e; first | exact e.elim | (unfold Own.One at e; omega)) (by intro e; first | exact e.elim | (unfold Own.One at e; omega))
  have h88 : V83.heap[g3]? = some (.cells ((B (Kec.sum [97, 98, 99])).toArray) 29 (0, 0)) := (kV83.block g3 (lt_of_block h80) (fun e => by unfold Own.One at e; omega)).trans h80
  have K89 : Keeps Nob w V83 := K81.then kV83 (fun i hi hm => absurd hi (by unfold Own.One at hm; omega))
  have z90 := kV83.size
  refine ps_k (o_KeccakKnown 62 7) (.int .i64 0) ?_
  refine ps_end ?_
  refine sy_a ⟨#[.bool false, pT b 0, .bool true, pT g3 0, .int .i64 0, pT g5 0, .int .i64 0, undef, undef, undef, undef, undef, undef, pT b 0, pT b 0, .slice (some ⟨ga, 0, none⟩) 1 1, .slice (some ⟨ga, 0, none⟩) 1 1, .int .i64 0, .bool true, .bool true, pT b 0, .slice (some ⟨gc, 0, none⟩) 2 2, .slice (some ⟨gc, 0, none⟩) 2 2, .int .i64 0, .bool true, .bool true, .bool true, pT b 0, .int .i64 3, .bool true, .bool true, .tuple #[.agg (B (Kec.sum [97, 98, 99])).toArray, .int .i64 0], pT b 0, .tuple #[.agg (B (Kec.sum [97, 98, 99])).toArray, .int .i64 0], .agg (B (Kec.sum [97, 98, 99])).toArray, .int .i64 0, .tuple #[.agg (B zero32).toArray, .int .i64 0], .string ⟨(noughts 64).toArray⟩, .tuple #[.agg (B zero32).toArray, .int .i64 0], .agg (B zero32).toArray, .int .i64 0, undef, undef, undef, undef, undef, undef, undef, undef, undef, undef, undef, undef, undef, undef, undef, undef, undef, undef, undef, undef, undef, undef, undef, undef, undef, undef, undef, undef, undef, undef, undef, undef, undef, undef, undef, undef, undef, undef, undef, undef, undef, undef, undef, undef, undef, undef, undef, undef, undef, undef, undef, undef, undef, undef], []⟩ ?_
  refine then_n ?_
  refine sy_sq (part_KeccakKnown 126) (part_KeccakKnown 127) ?_
  refine sy_reg ?_
  refine rg_plain 5 (opsAt (part_KeccakKnown 126)) [0, 1, 2, 3, 4, 5, 6, 7] (by kernel_rfl) (by kernel_rfl) ?_
  refine ps_call (o_KeccakKnown 126 0) 33 #[.int .i64 63] (by kernel_rfl) (by kernel_rfl) (by kernel_rfl) (by kernel_rfl) (enters_of Try.func33 (by kernel_rfl) rfl) ((lzeros_ok 63 _ (by omega)).mono ?_)
  rintro e w1 ⟨rfl, rfl⟩
  refine ⟨_, rfl, ?_⟩
  refine ps_call (o_KeccakKnown 126 1) 22 #[.string ⟨(noughts 63).toArray⟩] (by kernel_rfl) (by kernel_rfl) (by kernel_rfl) (by kernel_rfl) (enters_of Try.func22 (by kernel_rfl) rfl) ((reads63 _).mono ?_)
  rintro e V91 ⟨rfl, kV91⟩
  refine ⟨_, rfl, ?_⟩
  have h92 : BytesAt V91 (.slice (some ⟨ga, 0, none⟩) 1 1) [97] := h85.keepsN kV91
  have h93 : BytesAt V91 (.slice (some ⟨gc, 0, none⟩) 2 2) [98, 99] := h86.keepsN kV91
  have h94 : HashAt V91 b p [97, 98, 99] := h87.keepsN kV91
  have h95 : V91.heap[g3]? = some (.cells ((B (Kec.sum [97, 98, 99])).toArray) 29 (0, 0)) := (kV91.block g3 (lt_of_block h88) (fun x => x)).trans h88
  have h96 : V91.heap[g5]? = some (.cells ((B zero32).toArray) 29 (0, 0)) := (kV91.block g5 (lt_of_block h84) (fun x => x)).trans h84
  have K97 : Keeps Nob w V91 := K89.then kV91 (fun _ _ x => x.elim)
  have z98 := kV91.size
  refine ps_k (o_KeccakKnown 126 2) (.tuple #[.agg (B zero32).toArray, .int .i64 5]) ?_
  refine ps_k (o_KeccakKnown 126 3) (.agg (B zero32).toArray) ?_
  refine ps_k (o_KeccakKnown 126 4) (.int .i64 5) ?_
  obtain ⟨V99, eV99⟩ : ∃ V, V91.alloc (.cells (zr_u8_32) 29) = V := ⟨_, rfl⟩
  obtain ⟨g7, eg7⟩ : ∃ g, V91.heap.size = g := ⟨_, rfl⟩
  have n101 : g3 < g7 := eg7 ▸ lt_of_block h95
  have n102 : g5 < g7 := eg7 ▸ lt_of_block h96
  have n103 : w.heap.size ≤ g7 := eg7 ▸ K97.size
  have h100 : V99.heap[g7]? = some (.cells (zr_u8_32) 29 (0, 0)) := by rw [← eV99, ← eg7]; exact heap_alloc_new _ _
  have kV99 : Keeps Nob V91 V99 := eV99 ▸ (Keeps.refl _ _).alloc _
  refine ps_run (o_KeccakKnown 126 5) (pT g7 0) (w' := V99) (by kernel_rfl) (by kernel_rfl) (by rw [← eV99, ← eg7]; exact exec_alloc0 29 (by kernel_rfl) (.agg (zr_u8_32)) (by kernel_rfl)) ?_
  clear eV99
  have h104 : BytesAt V99 (.slice (some ⟨ga, 0, none⟩) 1 1) [97] := h92.keepsN kV99
  have h105 : BytesAt V99 (.slice (some ⟨gc, 0, none⟩) 2 2) [98, 99] := h93.keepsN kV99
  have h106 : HashAt V99 b p [97, 98, 99] := h94.keepsN kV99
  have h107 : V99.heap[g3]? = some (.cells ((B (Kec.sum [97, 98, 99])).toArray) 29 (0, 0)) := (kV99.block g3 (lt_of_block h95) (fun x => x)).trans h95
  have h108 : V99.heap[g5]? = some (.cells ((B zero32).toArray) 29 (0, 0)) := (kV99.block g5 (lt_of_block h96) (fun x => x)).trans h96
  have K109 : Keeps Nob w V99 := K97.then kV99 (fun _ _ x => x.elim)
  have z110 := kV99.size
  obtain ⟨V111, eV111⟩ : ∃ V, V99.setRow g7 ((B zero32).toArray) = V := ⟨_, rfl⟩
  have kV111 : Keeps (One g7) V99 V111 := eV111 ▸ (Keeps.refl (One g7) _).setRow (fun _ => (rfl : Own.One g7 g7)) _
  have h112 : V111.heap[g7]? = some (.cells ((B zero32).toArray) 29 (0, 0)) := eV111 ▸ setRow_heap _ _ _ _ _ _ h100
  refine ps_skip (o_KeccakKnown 126 6) (w' := V111) (by kernel_rfl) (by kernel_rfl) (by rw [← eV111]; exact exec_store_row 29 (.tmp 7) (.tmp 44) (by kernel_rfl) g7 ((B zero32).toArray) (by kernel_rfl) (by kernel_rfl) 29 (zr_u8_32) h100 (by rw [Bz_size, zero32_len]; kernel_rfl) (by rw [Bz_size, zero32_len]; rfl) (by rw [List.all_toArray]; exact List.all_eq_true.2 (B_one _))) ?_
  clear eV111
  have h113 : BytesAt V111 (.slice (some ⟨ga, 0, none⟩) 1 1) [97] := h104.keeps kV111 (fun j hj e => by simp only [Value.ownBlock, Option.some.injEq] at hj; unfold Own.One at e; omega)
  have h114 : BytesAt V111 (.slice (some ⟨gc, 0, none⟩) 2 2) [98, 99] := h105.keeps kV111 (fun j hj e => by simp only [Value.ownBlock, Option.some.injEq] at hj; unfold Own.One at e; omega)
  have h115 : HashAt V111 b p [97, 98, 99] := h106.keeps kV111 (by intro e; first | exact e.elim | (unfold Own.One at e; omega)) (by intro e; first | exact e.elim | (unfold Own.One at e; omega))
  have h116 : V111.heap[g3]? = some (.cells ((B (Kec.sum [97, 98, 99])).toArray) 29 (0, 0)) := (kV111.block g3 (lt_of_block h107) (fun e => by unfold Own.One at e; omega)).trans h107
  have h117 : V111.heap[g5]? = some (.cells ((B zero32).toArray) 29 (0, 0)) := (kV111.block g5 (lt_of_block h108) (fun e => by unfold Own.One at e; omega)).trans h108
  have K118 : Keeps Nob w V111 := K109.then kV111 (fun i hi hm => absurd hi (by unfold Own.One at hm; omega))
  have z119 := kV111.size
  refine ps_k (o_KeccakKnown 126 7) (.int .i64 5) ?_
  refine ps_end ?_
  refine sy_a ⟨#[.bool false, pT b 0, .bool true, pT g3 0, .int .i64 0, pT g5 0, .int .i64 0, pT g7 0, .int .i64 5, undef, undef, undef, undef, pT b 0, pT b 0, .slice (some ⟨ga, 0, none⟩) 1 1, .slice (some ⟨ga, 0, none⟩) 1 1, .int .i64 0, .bool true, .bool true, pT b 0, .slice (some ⟨gc, 0, none⟩) 2 2, .slice (some ⟨gc, 0, none⟩) 2 2, .int .i64 0, .bool true, .bool true, .bool true, pT b 0, .int .i64 3, .bool true, .bool true, .tuple #[.agg (B (Kec.sum [97, 98, 99])).toArray, .int .i64 0], pT b 0, .tuple #[.agg (B (Kec.sum [97, 98, 99])).toArray, .int .i64 0], .agg (B (Kec.sum [97, 98, 99])).toArray, .int .i64 0, .tuple #[.agg (B zero32).toArray, .int .i64 0], .string ⟨(noughts 64).toArray⟩, .tuple #[.agg (B zero32).toArray, .int .i64 0], .agg (B zero32).toArray, .int .i64 0, .tuple #[.agg (B zero32).toArray, .int .i64 5], .string ⟨(noughts 63).toArray⟩, .tuple #[.agg (B zero32).toArray, .int .i64 5], .agg (B zero32).toArray, .int .i64 5, undef, undef, undef, undef, undef, undef, undef, undef, undef, undef, undef, undef, undef, undef, undef, undef, undef, undef, undef, undef, undef, undef, undef, undef, undef, undef, undef, undef, undef, undef, undef, undef, undef, undef, undef, undef, undef, undef, undef, undef, undef, undef, undef, undef, undef, undef, undef, undef, undef], []⟩ ?_
  refine then_n ?_
  refine sy_sq (part_KeccakKnown 254) (part_KeccakKnown 255) ?_
  refine sy_reg ?_
  refine rg_plain 6 (opsAt (part_KeccakKnown 254)) [0, 1, 2, 3, 4, 5, 6, 7, 8] (by kernel_rfl) (by kernel_rfl) ?_
  refine ps_call (o_KeccakKnown 254 0) 33 #[.int .i64 63] (by kernel_rfl) (by kernel_rfl) (by kernel_rfl) (by kernel_rfl) (enters_of Try.func33 (by kernel_rfl) rfl) ((lzeros_ok 63 _ (by omega)).mono ?_)
  rintro e w1 ⟨rfl, rfl⟩
  refine ⟨_, rfl, ?_⟩
  refine ps_p (o_KeccakKnown 254 1) (.string ⟨#[48, 48, 48, 48, 48, 48, 48, 48, 48, 48, 48, 48, 48, 48, 48, 48, 48, 48, 48, 48, 48, 48, 48, 48, 48, 48, 48, 48, 48, 48, 48, 48, 48, 48, 48, 48, 48, 48, 48, 48, 48, 48, 48, 48, 48, 48, 48, 48, 48, 48, 48, 48, 48, 48, 48, 48, 48, 48, 48, 48, 48, 48, 48, 65]⟩) (exec_binop .add 9 9 (.tmp 47) (.const (.string ⟨#[65]⟩)) (by kernel_rfl) _ _ _ (show _ = Value.string ⟨(noughts 63).toArray⟩ from by kernel_rfl) (show _ = Value.string ⟨#[65]⟩ from by kernel_rfl) (by kernel_rfl) (by kernel_rfl)) ?_
  refine ps_call (o_KeccakKnown 254 2) 22 #[.string ⟨#[48, 48, 48, 48, 48, 48, 48, 48, 48, 48, 48, 48, 48, 48, 48, 48, 48, 48, 48, 48, 48, 48, 48, 48, 48, 48, 48, 48, 48, 48, 48, 48, 48, 48, 48, 48, 48, 48, 48, 48, 48, 48, 48, 48, 48, 48, 48, 48, 48, 48, 48, 48, 48, 48, 48, 48, 48, 48, 48, 48, 48, 48, 48, 65]⟩] (by kernel_rfl) (by kernel_rfl) (by kernel_rfl) (by kernel_rfl) (enters_of Try.func22 (by kernel_rfl) rfl) ((reads63A _).mono ?_)
  rintro e V120 ⟨rfl, kV120⟩
  refine ⟨_, rfl, ?_⟩
  have h121 : BytesAt V120 (.slice (some ⟨ga, 0, none⟩) 1 1) [97] := h113.keepsN kV120
  have h122 : BytesAt V120 (.slice (some ⟨gc, 0, none⟩) 2 2) [98, 99] := h114.keepsN kV120
  have h123 : HashAt V120 b p [97, 98, 99] := h115.keepsN kV120
  have h124 : V120.heap[g3]? = some (.cells ((B (Kec.sum [97, 98, 99])).toArray) 29 (0, 0)) := (kV120.block g3 (lt_of_block h116) (fun x => x)).trans h116
  have h125 : V120.heap[g5]? = some (.cells ((B zero32).toArray) 29 (0, 0)) := (kV120.block g5 (lt_of_block h117) (fun x => x)).trans h117
  have h126 : V120.heap[g7]? = some (.cells ((B zero32).toArray) 29 (0, 0)) := (kV120.block g7 (lt_of_block h112) (fun x => x)).trans h112
  have K127 : Keeps Nob w V120 := K118.then kV120 (fun _ _ x => x.elim)
  have z128 := kV120.size
  refine ps_k (o_KeccakKnown 254 3) (.tuple #[.agg (B zero32).toArray, .int .i64 5]) ?_
  refine ps_k (o_KeccakKnown 254 4) (.agg (B zero32).toArray) ?_
  refine ps_k (o_KeccakKnown 254 5) (.int .i64 5) ?_
  obtain ⟨V129, eV129⟩ : ∃ V, V120.alloc (.cells (zr_u8_32) 29) = V := ⟨_, rfl⟩
  obtain ⟨g9, eg9⟩ : ∃ g, V120.heap.size = g := ⟨_, rfl⟩
  have n131 : g3 < g9 := eg9 ▸ lt_of_block h124
  have n132 : g5 < g9 := eg9 ▸ lt_of_block h125
  have n133 : g7 < g9 := eg9 ▸ lt_of_block h126
  have n134 : w.heap.size ≤ g9 := eg9 ▸ K127.size
  have h130 : V129.heap[g9]? = some (.cells (zr_u8_32) 29 (0, 0)) := by rw [← eV129, ← eg9]; exact heap_alloc_new _ _
  have kV129 : Keeps Nob V120 V129 := eV129 ▸ (Keeps.refl _ _).alloc _
  refine ps_run (o_KeccakKnown 254 6) (pT g9 0) (w' := V129) (by kernel_rfl) (by kernel_rfl) (by rw [← eV129, ← eg9]; exact exec_alloc0 29 (by kernel_rfl) (.agg (zr_u8_32)) (by kernel_rfl)) ?_
  clear eV129
  have h135 : BytesAt V129 (.slice (some ⟨ga, 0, none⟩) 1 1) [97] := h121.keepsN kV129
  have h136 : BytesAt V129 (.slice (some ⟨gc, 0, none⟩) 2 2) [98, 99] := h122.keepsN kV129
  have h137 : HashAt V129 b p [97, 98, 99] := h123.keepsN kV129
  have h138 : V129.heap[g3]? = some (.cells ((B (Kec.sum [97, 98, 99])).toArray) 29 (0, 0)) := (kV129.block g3 (lt_of_block h124) (fun x => x)).trans h124
  have h139 : V129.heap[g5]? = some (.cells ((B zero32).toArray) 29 (0, 0)) := (kV129.block g5 (lt_of_block h125) (fun x => x)).trans h125
  have h140 : V129.heap[g7]? = some (.cells ((B zero32).toArray) 29 (0, 0)) := (kV129.block g7 (lt_of_block h126) (fun x => x)).trans h126
  have K141 : Keeps Nob w V129 := K127.then kV129 (fun _ _ x => x.elim)
  have z142 := kV129.size
  obtain ⟨V143, eV143⟩ : ∃ V, V129.setRow g9 ((B zero32).toArray) = V := ⟨_, rfl⟩
  have kV143 : Keeps (One g9) V129 V143 := eV143 ▸ (Keeps.refl (One g9) _).setRow (fun _ => (rfl : Own.One g9 g9)) _
  have h144 : V143.heap[g9]? = some (.cells ((B zero32).toArray) 29 (0, 0)) := eV143 ▸ setRow_heap _ _ _ _ _ _ h130
  refine ps_skip (o_KeccakKnown 254 7) (w' := V143) (by kernel_rfl) (by kernel_rfl) (by rw [← eV143]; exact exec_store_row 29 (.tmp 9) (.tmp 50) (by kernel_rfl) g9 ((B zero32).toArray) (by kernel_rfl) (by kernel_rfl) 29 (zr_u8_32) h130 (by rw [Bz_size, zero32_len]; kernel_rfl) (by rw [Bz_size, zero32_len]; rfl) (by rw [List.all_toArray]; exact List.all_eq_true.2 (B_one _))) ?_
  clear eV143
  have h145 : BytesAt V143 (.slice (some ⟨ga, 0, none⟩) 1 1) [97] := h135.keeps kV143 (fun j hj e => by simp only [Value.ownBlock, Option.some.injEq] at hj; unfold Own.One at e; omega)
  have h146 : BytesAt V143 (.slice (some ⟨gc, 0, none⟩) 2 2) [98, 99] := h136.keeps kV143 (fun j hj e => by simp only [Value.ownBlock, Option.some.injEq] at hj; unfold Own.One at e; omega)
  have h147 : HashAt V143 b p [97, 98, 99] := h137.keeps kV143 (by intro e; first | exact e.elim | (unfold Own.One at e; omega)) (by intro e; first | exact e.elim | (unfold Own.One at e; omega))
  have h148 : V143.heap[g3]? = some (.cells ((B (Kec.sum [97, 98, 99])).toArray) 29 (0, 0)) := (kV143.block g3 (lt_of_block h138) (fun e => by unfold Own.One at e; omega)).trans h138
  have h149 : V143.heap[g5]? = some (.cells ((B zero32).toArray) 29 (0, 0)) := (kV143.block g5 (lt_of_block h139) (fun e => by unfold Own.One at e; omega)).trans h139
  have h150 : V143.heap[g7]? = some (.cells ((B zero32).toArray) 29 (0, 0)) := (kV143.block g7 (lt_of_block h140) (fun e => by unfold Own.One at e; omega)).trans h140
  have K151 : Keeps Nob w V143 := K141.then kV143 (fun i hi hm => absurd hi (by unfold Own.One at hm; omega))
  have z152 := kV143.size
  refine ps_k (o_KeccakKnown 254 8) (.int .i64 5) ?_
  refine ps_end ?_
  refine sy_a ⟨#[.bool false, pT b 0, .bool true, pT g3 0, .int .i64 0, pT g5 0, .int .i64 0, pT g7 0, .int .i64 5, pT g9 0, .int .i64 5, undef, undef, pT b 0, pT b 0, .slice (some ⟨ga, 0, none⟩) 1 1, .slice (some ⟨ga, 0, none⟩) 1 1, .int .i64 0, .bool true, .bool true, pT b 0, .slice (some ⟨gc, 0, none⟩) 2 2, .slice (some ⟨gc, 0, none⟩) 2 2, .int .i64 0, .bool true, .bool true, .bool true, pT b 0, .int .i64 3, .bool true, .bool true, .tuple #[.agg (B (Kec.sum [97, 98, 99])).toArray, .int .i64 0], pT b 0, .tuple #[.agg (B (Kec.sum [97, 98, 99])).toArray, .int .i64 0], .agg (B (Kec.sum [97, 98, 99])).toArray, .int .i64 0, .tuple #[.agg (B zero32).toArray, .int .i64 0], .string ⟨(noughts 64).toArray⟩, .tuple #[.agg (B zero32).toArray, .int .i64 0], .agg (B zero32).toArray, .int .i64 0, .tuple #[.agg (B zero32).toArray, .int .i64 5], .string ⟨(noughts 63).toArray⟩, .tuple #[.agg (B zero32).toArray, .int .i64 5], .agg (B zero32).toArray, .int .i64 5, .tuple #[.agg (B zero32).toArray, .int .i64 5], .string ⟨(noughts 63).toArray⟩, .string ⟨#[48, 48, 48, 48, 48, 48, 48, 48, 48, 48, 48, 48, 48, 48, 48, 48, 48, 48, 48, 48, 48, 48, 48, 48, 48, 48, 48, 48, 48, 48, 48, 48, 48, 48, 48, 48, 48, 48, 48, 48, 48, 48, 48, 48, 48, 48, 48, 48, 48, 48, 48, 48, 48, 48, 48, 48, 48, 48, 48, 48, 48, 48, 48, 65]⟩, .tuple #[.agg (B zero32).toArray, .int .i64 5], .agg (B zero32).toArray, .int .i64 5, undef, undef, undef, undef, undef, undef, undef, undef, undef, undef, undef, undef, undef, undef, undef, undef, undef, undef, undef, undef, undef, undef, undef, undef, undef, undef, undef, undef, undef, undef, undef, undef, undef, undef, undef, undef, undef, undef, undef, undef, undef, undef, undef], []⟩ ?_
  refine then_n ?_
  refine sy_sq (part_KeccakKnown 510) (part_KeccakKnown 511) ?_
  refine sy_reg ?_
  refine rg_plain 7 (opsAt (part_KeccakKnown 510)) [0, 1, 2, 3, 4, 5, 6] (by kernel_rfl) (by kernel_rfl) ?_
  refine ps_call (o_KeccakKnown 510 0) 22 #[.string { data := #[51, 97, 57, 56, 53, 100, 97, 55, 52, 102, 101, 50, 50, 53, 98, 50, 48, 52, 53, 99, 49, 55, 50, 100, 54, 98, 100, 51, 57, 48, 98, 100, 56, 53, 53, 102, 48, 56, 54, 101, 51, 101, 57, 100, 53, 50, 53, 98, 52, 54, 98, 102, 101, 50, 52, 53, 49, 49, 52, 51, 49, 53, 51, 50] }] (by kernel_rfl) (by kernel_rfl) (by kernel_rfl) (by kernel_rfl) (enters_of Try.func22 (by kernel_rfl) rfl) ((readsabc _).mono ?_)
  rintro e V153 ⟨rfl, kV153⟩
  refine ⟨_, rfl, ?_⟩
  have h154 : BytesAt V153 (.slice (some ⟨ga, 0, none⟩) 1 1) [97] := h145.keepsN kV153
  have h155 : BytesAt V153 (.slice (some ⟨gc, 0, none⟩) 2 2) [98, 99] := h146.keepsN kV153
  have h156 : HashAt V153 b p [97, 98, 99] := h147.keepsN kV153
  have h157 : V153.heap[g3]? = some (.cells ((B (Kec.sum [97, 98, 99])).toArray) 29 (0, 0)) := (kV153.block g3 (lt_of_block h148) (fun x => x)).trans h148
  have h158 : V153.heap[g5]? = some (.cells ((B zero32).toArray) 29 (0, 0)) := (kV153.block g5 (lt_of_block h149) (fun x => x)).trans h149
  have h159 : V153.heap[g7]? = some (.cells ((B zero32).toArray) 29 (0, 0)) := (kV153.block g7 (lt_of_block h150) (fun x => x)).trans h150
  have h160 : V153.heap[g9]? = some (.cells ((B zero32).toArray) 29 (0, 0)) := (kV153.block g9 (lt_of_block h144) (fun x => x)).trans h144
  have K161 : Keeps Nob w V153 := K151.then kV153 (fun _ _ x => x.elim)
  have z162 := kV153.size
  refine ps_k (o_KeccakKnown 510 1) (.tuple #[.agg (B (Kec.sum [97, 98, 99])).toArray, .int .i64 0]) ?_
  refine ps_k (o_KeccakKnown 510 2) (.agg (B (Kec.sum [97, 98, 99])).toArray) ?_
  refine ps_k (o_KeccakKnown 510 3) (.int .i64 0) ?_
  obtain ⟨V163, eV163⟩ : ∃ V, V153.alloc (.cells (zr_u8_32) 29) = V := ⟨_, rfl⟩
  obtain ⟨g11, eg11⟩ : ∃ g, V153.heap.size = g := ⟨_, rfl⟩
  have n165 : g3 < g11 := eg11 ▸ lt_of_block h157
  have n166 : g5 < g11 := eg11 ▸ lt_of_block h158
  have n167 : g7 < g11 := eg11 ▸ lt_of_block h159
  have n168 : g9 < g11 := eg11 ▸ lt_of_block h160
  have n169 : w.heap.size ≤ g11 := eg11 ▸ K161.size
  have h164 : V163.heap[g11]? = some (.cells (zr_u8_32) 29 (0, 0)) := by rw [← eV163, ← eg11]; exact heap_alloc_new _ _
  have kV163 : Keeps Nob V153 V163 := eV163 ▸ (Keeps.refl _ _).alloc _
  refine ps_run (o_KeccakKnown 510 4) (pT g11 0) (w' := V163) (by kernel_rfl) (by kernel_rfl) (by rw [← eV163, ← eg11]; exact exec_alloc0 29 (by kernel_rfl) (.agg (zr_u8_32)) (by kernel_rfl)) ?_
  clear eV163
  have h170 : BytesAt V163 (.slice (some ⟨ga, 0, none⟩) 1 1) [97] := h154.keepsN kV163
  have h171 : BytesAt V163 (.slice (some ⟨gc, 0, none⟩) 2 2) [98, 99] := h155.keepsN kV163
  have h172 : HashAt V163 b p [97, 98, 99] := h156.keepsN kV163
  have h173 : V163.heap[g3]? = some (.cells ((B (Kec.sum [97, 98, 99])).toArray) 29 (0, 0)) := (kV163.block g3 (lt_of_block h157) (fun x => x)).trans h157
  have h174 : V163.heap[g5]? = some (.cells ((B zero32).toArray) 29 (0, 0)) := (kV163.block g5 (lt_of_block h158) (fun x => x)).trans h158
  have h175 : V163.heap[g7]? = some (.cells ((B zero32).toArray) 29 (0, 0)) := (kV163.block g7 (lt_of_block h159) (fun x => x)).trans h159
  have h176 : V163.heap[g9]? = some (.cells ((B zero32).toArray) 29 (0, 0)) := (kV163.block g9 (lt_of_block h160) (fun x => x)).trans h160
  have K177 : Keeps Nob w V163 := K161.then kV163 (fun _ _ x => x.elim)
  have z178 := kV163.size
  obtain ⟨V179, eV179⟩ : ∃ V, V163.setRow g11 ((B (Kec.sum [97, 98, 99])).toArray) = V := ⟨_, rfl⟩
  have kV179 : Keeps (One g11) V163 V179 := eV179 ▸ (Keeps.refl (One g11) _).setRow (fun _ => (rfl : Own.One g11 g11)) _
  have h180 : V179.heap[g11]? = some (.cells ((B (Kec.sum [97, 98, 99])).toArray) 29 (0, 0)) := eV179 ▸ setRow_heap _ _ _ _ _ _ h164
  refine ps_skip (o_KeccakKnown 510 5) (w' := V179) (by kernel_rfl) (by kernel_rfl) (by rw [← eV179]; exact exec_store_row 29 (.tmp 11) (.tmp 54) (by kernel_rfl) g11 ((B (Kec.sum [97, 98, 99])).toArray) (by kernel_rfl) (by kernel_rfl) 29 (zr_u8_32) h164 (by rw [Bz_size, Kec.sum_len]; kernel_rfl) (by rw [Bz_size, Kec.sum_len]; rfl) (by rw [List.all_toArray]; exact List.all_eq_true.2 (B_one _))) ?_
  clear eV179
  have h181 : BytesAt V179 (.slice (some ⟨ga, 0, none⟩) 1 1) [97] := h170.keeps kV179 (fun j hj e => by simp only [Value.ownBlock, Option.some.injEq] at hj; unfold Own.One at e; omega)
  have h182 : BytesAt V179 (.slice (some ⟨gc, 0, none⟩) 2 2) [98, 99] := h171.keeps kV179 (fun j hj e => by simp only [Value.ownBlock, Option.some.injEq] at hj; unfold Own.One at e; omega)
  have h183 : HashAt V179 b p [97, 98, 99] := h172.keeps kV179 (by intro e; first | exact e.elim | (unfold Own.One at e; omega)) (by intro e; first | exact e.elim | (unfold Own.One at e; omega))
  have h184 : V179.heap[g3]? = some (.cells ((B (Kec.sum [97, 98, 99])).toArray) 29 (0, 0)) := (kV179.block g3 (lt_of_block h173) (fun e => by unfold Own.One at e; omega)).trans h173
  have h185 : V179.heap[g5]? = some (.cells ((B zero32).toArray) 29 (0, 0)) := (kV179.block g5 (lt_of_block h174) (fun e => by unfold Own.One at e; omega)).trans h174
  have h186 : V179.heap[g7]? = some (.cells ((B zero32).toArray) 29 (0, 0)) := (kV179.block g7 (lt_of_block h175) (fun e => by unfold Own.One at e; omega)).trans h175
  have h187 : V179.heap[g9]? = some (.cells ((B zero32).toArray) 29 (0, 0)) := (kV179.block g9 (lt_of_block h176) (fun e => by unfold Own.One at e; omega)).trans h176
  have K188 : Keeps Nob w V179 := K177.then kV179 (fun i hi hm => absurd hi (by unfold Own.One at hm; omega))
  have z189 := kV179.size
  refine ps_k (o_KeccakKnown 510 6) (.int .i64 0) ?_
  refine ps_end ?_
  refine sy_a ⟨#[.bool false, pT b 0, .bool true, pT g3 0, .int .i64 0, pT g5 0, .int .i64 0, pT g7 0, .int .i64 5, pT g9 0, .int .i64 5, pT g11 0, .int .i64 0, pT b 0, pT b 0, .slice (some ⟨ga, 0, none⟩) 1 1, .slice (some ⟨ga, 0, none⟩) 1 1, .int .i64 0, .bool true, .bool true, pT b 0, .slice (some ⟨gc, 0, none⟩) 2 2, .slice (some ⟨gc, 0, none⟩) 2 2, .int .i64 0, .bool true, .bool true, .bool true, pT b 0, .int .i64 3, .bool true, .bool true, .tuple #[.agg (B (Kec.sum [97, 98, 99])).toArray, .int .i64 0], pT b 0, .tuple #[.agg (B (Kec.sum [97, 98, 99])).toArray, .int .i64 0], .agg (B (Kec.sum [97, 98, 99])).toArray, .int .i64 0, .tuple #[.agg (B zero32).toArray, .int .i64 0], .string ⟨(noughts 64).toArray⟩, .tuple #[.agg (B zero32).toArray, .int .i64 0], .agg (B zero32).toArray, .int .i64 0, .tuple #[.agg (B zero32).toArray, .int .i64 5], .string ⟨(noughts 63).toArray⟩, .tuple #[.agg (B zero32).toArray, .int .i64 5], .agg (B zero32).toArray, .int .i64 5, .tuple #[.agg (B zero32).toArray, .int .i64 5], .string ⟨(noughts 63).toArray⟩, .string ⟨#[48, 48, 48, 48, 48, 48, 48, 48, 48, 48, 48, 48, 48, 48, 48, 48, 48, 48, 48, 48, 48, 48, 48, 48, 48, 48, 48, 48, 48, 48, 48, 48, 48, 48, 48, 48, 48, 48, 48, 48, 48, 48, 48, 48, 48, 48, 48, 48, 48, 48, 48, 48, 48, 48, 48, 48, 48, 48, 48, 48, 48, 48, 48, 65]⟩, .tuple #[.agg (B zero32).toArray, .int .i64 5], .agg (B zero32).toArray, .int .i64 5, .tuple #[.agg (B (Kec.sum [97, 98, 99])).toArray, .int .i64 0], .tuple #[.agg (B (Kec.sum [97, 98, 99])).toArray, .int .i64 0], .agg (B (Kec.sum [97, 98, 99])).toArray, .int .i64 0, undef, undef, undef, undef, undef, undef, undef, undef, undef, undef, undef, undef, undef, undef, undef, undef, undef, undef, undef, undef, undef, undef, undef, undef, undef, undef, undef, undef, undef, undef, undef, undef, undef, undef, undef, undef, undef, undef, undef], []⟩ ?_
  refine then_n ?_
  refine sy_sq (part_KeccakKnown 1022) (part_KeccakKnown 1023) ?_
  refine sy_reg ?_
  refine rg_plain 8 (opsAt (part_KeccakKnown 1022)) [0, 1, 2, 3, 4, 5, 6, 7, 8, 9, 10, 11, 12, 13, 14, 15, 16, 17, 18, 19, 20, 21, 22, 23, 24, 25, 26, 27, 28, 29, 30, 31, 32, 33, 34, 35, 36, 37, 38, 39] (by kernel_rfl) (by kernel_rfl) ?_
  refine ps_call (o_KeccakKnown 1022 0) 14 #[] (by kernel_rfl) (by kernel_rfl) (by kernel_rfl) (by kernel_rfl) (enters_of Try.func14 (by kernel_rfl) rfl) ((lawake_ok _).mono ?_)
  rintro e V190 ⟨rfl, kV190⟩
  refine ⟨_, rfl, ?_⟩
  have h191 : BytesAt V190 (.slice (some ⟨ga, 0, none⟩) 1 1) [97] := h181.keepsN kV190
  have h192 : BytesAt V190 (.slice (some ⟨gc, 0, none⟩) 2 2) [98, 99] := h182.keepsN kV190
  have h193 : HashAt V190 b p [97, 98, 99] := h183.keepsN kV190
  have h194 : V190.heap[g3]? = some (.cells ((B (Kec.sum [97, 98, 99])).toArray) 29 (0, 0)) := (kV190.block g3 (lt_of_block h184) (fun x => x)).trans h184
  have h195 : V190.heap[g5]? = some (.cells ((B zero32).toArray) 29 (0, 0)) := (kV190.block g5 (lt_of_block h185) (fun x => x)).trans h185
  have h196 : V190.heap[g7]? = some (.cells ((B zero32).toArray) 29 (0, 0)) := (kV190.block g7 (lt_of_block h186) (fun x => x)).trans h186
  have h197 : V190.heap[g9]? = some (.cells ((B zero32).toArray) 29 (0, 0)) := (kV190.block g9 (lt_of_block h187) (fun x => x)).trans h187
  have h198 : V190.heap[g11]? = some (.cells ((B (Kec.sum [97, 98, 99])).toArray) 29 (0, 0)) := (kV190.block g11 (lt_of_block h180) (fun x => x)).trans h180
  have K199 : Keeps Nob w V190 := K188.then kV190 (fun _ _ x => x.elim)
  have z200 := kV190.size
  refine ps_k (o_KeccakKnown 1022 1) (.bool true) ?_
  refine ps_k (o_KeccakKnown 1022 2) (.bool true) ?_
  refine ps_k (o_KeccakKnown 1022 3) (.bool true) ?_
  refine ps_k (o_KeccakKnown 1022 4) (.bool true) ?_
  refine ps_p (o_KeccakKnown 1022 5) (.agg ((B (Kec.sum [97, 98, 99])).toArray)) (exec_load_row 29 (.tmp 3) (by kernel_rfl) g3 (by kernel_rfl) _ _ (0, 0) _ (h194) Try.underlying29 rfl (by rw [Bz_size, Kec.sum_len]; kernel_rfl)) ?_
  refine ps_call (o_KeccakKnown 1022 6) 27 #[.agg ((B (Kec.sum [97, 98, 99])).toArray)] (by kernel_rfl) (by kernel_rfl) (by kernel_rfl) (by kernel_rfl) (enters_of Try.func27 (by kernel_rfl) rfl) ((text_abc _).mono ?_)
  rintro e V201 ⟨rfl, kV201⟩
  refine ⟨_, rfl, ?_⟩
  have h202 : BytesAt V201 (.slice (some ⟨ga, 0, none⟩) 1 1) [97] := h191.keepsN kV201
  have h203 : BytesAt V201 (.slice (some ⟨gc, 0, none⟩) 2 2) [98, 99] := h192.keepsN kV201
  have h204 : HashAt V201 b p [97, 98, 99] := h193.keepsN kV201
  have h205 : V201.heap[g3]? = some (.cells ((B (Kec.sum [97, 98, 99])).toArray) 29 (0, 0)) := (kV201.block g3 (lt_of_block h194) (fun x => x)).trans h194
  have h206 : V201.heap[g5]? = some (.cells ((B zero32).toArray) 29 (0, 0)) := (kV201.block g5 (lt_of_block h195) (fun x => x)).trans h195
  have h207 : V201.heap[g7]? = some (.cells ((B zero32).toArray) 29 (0, 0)) := (kV201.block g7 (lt_of_block h196) (fun x => x)).trans h196
  have h208 : V201.heap[g9]? = some (.cells ((B zero32).toArray) 29 (0, 0)) := (kV201.block g9 (lt_of_block h197) (fun x => x)).trans h197
  have h209 : V201.heap[g11]? = some (.cells ((B (Kec.sum [97, 98, 99])).toArray) 29 (0, 0)) := (kV201.block g11 (lt_of_block h198) (fun x => x)).trans h198
  have K210 : Keeps Nob w V201 := K199.then kV201 (fun _ _ x => x.elim)
  have z211 := kV201.size
  refine ps_k (o_KeccakKnown 1022 7) (.bool true) ?_
  refine ps_k (o_KeccakKnown 1022 8) (.bool true) ?_
  refine ps_k (o_KeccakKnown 1022 9) (.bool true) ?_
  refine ps_k (o_KeccakKnown 1022 10) (.int .i64 0) ?_
  refine ps_k (o_KeccakKnown 1022 11) (.bool true) ?_
  refine ps_k (o_KeccakKnown 1022 12) (.bool true) ?_
  refine ps_k (o_KeccakKnown 1022 13) (.bool true) ?_
  refine ps_p (o_KeccakKnown 1022 14) (.agg ((B zero32).toArray)) (exec_load_row 29 (.tmp 5) (by kernel_rfl) g5 (by kernel_rfl) _ _ (0, 0) _ (h206) Try.underlying29 rfl (by rw [Bz_size, zero32_len]; kernel_rfl)) ?_
  refine ps_k (o_KeccakKnown 1022 15) (.agg (B zero32).toArray) ?_
  refine ps_p (o_KeccakKnown 1022 16) (.bool true) (exec_cast (v := .bool (zero32 == zero32)) (by simp) (exec_binop .eql 29 29 (.tmp 70) (.tmp 71) (by kernel_rfl) (.agg (B zero32).toArray) (.agg (B zero32).toArray) _ (by kernel_rfl) (by kernel_rfl) (run_eqGuard_agg _ _ _ _ _ _ _ khash_guard) (khash_eql zero32 zero32 (by first | exact Kec.sum_len _ | exact zero32_len) (by first | exact Kec.sum_len _ | exact zero32_len) _))) ?_
  refine ps_k (o_KeccakKnown 1022 17) (.bool true) ?_
  refine ps_k (o_KeccakKnown 1022 18) (.bool true) ?_
  refine ps_k (o_KeccakKnown 1022 19) (.int .i64 0) ?_
  refine ps_k (o_KeccakKnown 1022 20) (.bool true) ?_
  refine ps_k (o_KeccakKnown 1022 21) (.bool true) ?_
  refine ps_k (o_KeccakKnown 1022 22) (.bool true) ?_
  refine ps_k (o_KeccakKnown 1022 23) (.int .i64 5) ?_
  refine ps_k (o_KeccakKnown 1022 24) (.bool true) ?_
  refine ps_k (o_KeccakKnown 1022 25) (.bool true) ?_
  refine ps_k (o_KeccakKnown 1022 26) (.bool true) ?_
  refine ps_k (o_KeccakKnown 1022 27) (.int .i64 5) ?_
  refine ps_k (o_KeccakKnown 1022 28) (.bool true) ?_
  refine ps_k (o_KeccakKnown 1022 29) (.bool true) ?_
  refine ps_k (o_KeccakKnown 1022 30) (.bool true) ?_
  refine ps_p (o_KeccakKnown 1022 31) (.agg ((B (Kec.sum [97, 98, 99])).toArray)) (exec_load_row 29 (.tmp 11) (by kernel_rfl) g11 (by kernel_rfl) _ _ (0, 0) _ (h209) Try.underlying29 rfl (by rw [Bz_size, Kec.sum_len]; kernel_rfl)) ?_
  refine ps_p (o_KeccakKnown 1022 32) (.agg ((B (Kec.sum [97, 98, 99])).toArray)) (exec_load_row 29 (.tmp 3) (by kernel_rfl) g3 (by kernel_rfl) _ _ (0, 0) _ (h205) Try.underlying29 rfl (by rw [Bz_size, Kec.sum_len]; kernel_rfl)) ?_
  refine ps_p (o_KeccakKnown 1022 33) (.bool true) (exec_cast (v := .bool ((Kec.sum [97, 98, 99]) == (Kec.sum [97, 98, 99]))) (by simp) (exec_binop .eql 29 29 (.tmp 87) (.tmp 88) (by kernel_rfl) (.agg (B (Kec.sum [97, 98, 99])).toArray) (.agg (B (Kec.sum [97, 98, 99])).toArray) _ (by kernel_rfl) (by kernel_rfl) (run_eqGuard_agg _ _ _ _ _ _ _ khash_guard) (khash_eql (Kec.sum [97, 98, 99]) (Kec.sum [97, 98, 99]) (by first | exact Kec.sum_len _ | exact zero32_len) (by first | exact Kec.sum_len _ | exact zero32_len) _))) ?_
  refine ps_k (o_KeccakKnown 1022 34) (.bool true) ?_
  refine ps_k (o_KeccakKnown 1022 35) (.bool true) ?_
  refine ps_k (o_KeccakKnown 1022 36) (.int .i64 0) ?_
  refine ps_k (o_KeccakKnown 1022 37) (.bool true) ?_
  refine ps_k (o_KeccakKnown 1022 38) (.bool true) ?_
  refine ps_k (o_KeccakKnown 1022 39) (.bool true) ?_
  refine ps_end ?_
  refine sy_a ⟨#[.bool true, pT b 0, .bool true, pT g3 0, .int .i64 0, pT g5 0, .int .i64 0, pT g7 0, .int .i64 5, pT g9 0, .int .i64 5, pT g11 0, .int .i64 0, pT b 0, pT b 0, .slice (some ⟨ga, 0, none⟩) 1 1, .slice (some ⟨ga, 0, none⟩) 1 1, .int .i64 0, .bool true, .bool true, pT b 0, .slice (some ⟨gc, 0, none⟩) 2 2, .slice (some ⟨gc, 0, none⟩) 2 2, .int .i64 0, .bool true, .bool true, .bool true, pT b 0, .int .i64 3, .bool true, .bool true, .tuple #[.agg (B (Kec.sum [97, 98, 99])).toArray, .int .i64 0], pT b 0, .tuple #[.agg (B (Kec.sum [97, 98, 99])).toArray, .int .i64 0], .agg (B (Kec.sum [97, 98, 99])).toArray, .int .i64 0, .tuple #[.agg (B zero32).toArray, .int .i64 0], .string ⟨(noughts 64).toArray⟩, .tuple #[.agg (B zero32).toArray, .int .i64 0], .agg (B zero32).toArray, .int .i64 0, .tuple #[.agg (B zero32).toArray, .int .i64 5], .string ⟨(noughts 63).toArray⟩, .tuple #[.agg (B zero32).toArray, .int .i64 5], .agg (B zero32).toArray, .int .i64 5, .tuple #[.agg (B zero32).toArray, .int .i64 5], .string ⟨(noughts 63).toArray⟩, .string ⟨#[48, 48, 48, 48, 48, 48, 48, 48, 48, 48, 48, 48, 48, 48, 48, 48, 48, 48, 48, 48, 48, 48, 48, 48, 48, 48, 48, 48, 48, 48, 48, 48, 48, 48, 48, 48, 48, 48, 48, 48, 48, 48, 48, 48, 48, 48, 48, 48, 48, 48, 48, 48, 48, 48, 48, 48, 48, 48, 48, 48, 48, 48, 48, 65]⟩, .tuple #[.agg (B zero32).toArray, .int .i64 5], .agg (B zero32).toArray, .int .i64 5, .tuple #[.agg (B (Kec.sum [97, 98, 99])).toArray, .int .i64 0], .tuple #[.agg (B (Kec.sum [97, 98, 99])).toArray, .int .i64 0], .agg (B (Kec.sum [97, 98, 99])).toArray, .int .i64 0, .bool true, .bool true, .bool true, .bool true, .bool true, .agg ((B (Kec.sum [97, 98, 99])).toArray), .string ⟨#[51, 97, 57, 56, 53, 100, 97, 55, 52, 102, 101, 50, 50, 53, 98, 50, 48, 52, 53, 99, 49, 55, 50, 100, 54, 98, 100, 51, 57, 48, 98, 100, 56, 53, 53, 102, 48, 56, 54, 101, 51, 101, 57, 100, 53, 50, 53, 98, 52, 54, 98, 102, 101, 50, 52, 53, 49, 49, 52, 51, 49, 53, 51, 50]⟩, .bool true, .bool true, .bool true, .int .i64 0, .bool true, .bool true, .bool true, .agg ((B zero32).toArray), .agg (B zero32).toArray, .bool true, .bool true, .bool true, .int .i64 0, .bool true, .bool true, .bool true, .int .i64 5, .bool true, .bool true, .bool true, .int .i64 5, .bool true, .bool true, .bool true, .agg ((B (Kec.sum [97, 98, 99])).toArray), .agg ((B (Kec.sum [97, 98, 99])).toArray), .bool true, .bool true, .bool true, .int .i64 0, .bool true, .bool true], []⟩ ?_
  refine then_n ?_
  refine sy_ret (by kernel_rfl) ?_
  refine sy_out (.bool true) rfl (by kernel_rfl) ?_
  exact ⟨rfl, K210⟩
end Go.Proofs.Ytolbdhgclcemlaa
