/-
  Keccak: the sponge's functions (printed by kec3.py). Conditions: none.
-/
import Derived.Test.YtenaakldccjnbaaKecC
import Derived.Test.YtenaakldccjnbaaKecD0
import Derived.Lib.Hide
namespace Go.Proofs.Ytenaakldccjnbaa
open Go Go.RowKit Go.Own Go.Shelf

noncomputable def part_kword (n : Nat) : Code := partOf Try.f104 n
noncomputable abbrev o_kword (n k : Nat) : Oper := (opsAt (part_kword n)).getD k default
set_option maxRecDepth 100000 in
set_option maxHeartbeats 4000000 in
theorem kword_ok (g o n cap : Nat) (l : List UInt8) (w : World) (hn : l.length = n) (h8 : 8 ≤ n) (hc : n ≤ cap) (hv : BytesAt w (.slice (some ⟨g, o, none⟩) n cap) l) :
    Calls Try.prog 104 #[.slice (some ⟨g, o, none⟩) n cap] w (fun e w' => e = .returned (.int .u64 ((Kec.word (l.take 8) : Nat) : Int)) ∧ w = w') := by
  have K0 : Keeps Nob w w := Keeps.refl _ _
  refine sy_enter (part_kword 1) ⟨#[.slice (some ⟨g, o, none⟩) n cap, undef, undef, undef, undef, undef, undef, undef, undef, undef, undef, undef, undef, undef, undef, undef, undef, undef, undef, undef, undef, undef, undef], []⟩ Try.func104 (by kernel_rfl) (by kernel_rfl) ?_
  refine sy_sq (part_kword 2) (part_kword 3) ?_
  refine sy_reg ?_
  refine rg_plain 0 (opsAt (part_kword 2)) [0] (by kernel_rfl) (by kernel_rfl) ?_
  refine ps_k (o_kword 2 0) (.int .u64 0) ?_
  refine ps_end ?_
  refine then_n ?_
  refine sy_sq (part_kword 6) (part_kword 7) ?_
  refine sy_reg ?_
  refine rg_plain 1 (opsAt (part_kword 6)) [0] (by kernel_rfl) (by kernel_rfl) ?_
  refine ps_k (o_kword 6 0) (.int .u64 0) ?_
  refine ps_end ?_
  refine then_n ?_
  refine sy_sq (part_kword 14) (part_kword 15) ?_
  refine sy_sq (part_kword 28) (part_kword 29) ?_
  refine sy_reg ?_
  refine rg_plain 2 (opsAt (part_kword 28)) [0, 1, 2, 3] (by kernel_rfl) (by kernel_rfl) ?_
  refine ps_k (o_kword 28 0) (.slice (some ⟨g, o, none⟩) n cap) ?_
  refine ps_p (o_kword 28 1) (.slice (some ⟨g, o, none⟩) 8 cap) (exec_slice_to 22 (.tmp 6) (.const (.int .i64 8)) (by kernel_rfl) (some ⟨g, o, none⟩) n cap (by kernel_rfl) .i64 8 (by kernel_rfl) 5 Try.underlying22 (by kernel_rfl) (by omega)) ?_
  refine ps_p (o_kword 28 2) (.int .i64 8) (exec_len (.tmp 7) 22 _ (by kernel_rfl) Try.underlying22 (some ⟨g, o, none⟩) 8 cap (by kernel_rfl)) ?_
  refine ps_k (o_kword 28 3) (.int .i64 0) ?_
  refine ps_end ?_
  refine then_n ?_
  refine sy_bk 0 (part_kword 58) ?_
  refine sy_loop (part_kword 116) (fun a V => ∃ (k : Nat) (u4 u5 u10 u11 u12 u13 u14 u15 u16 u17 u18 u19 u20 u21 : Value), (a = ⟨#[.slice (some ⟨g, o, none⟩) n cap, undef, .int .u64 0, uN (Kec.word (l.take k)), u4, u5, .slice (some ⟨g, o, none⟩) n cap, .slice (some ⟨g, o, none⟩) 8 cap, .int .i64 8, iN k, u10, u11, u12, u13, u14, u15, u16, u17, u18, u19, u20, u21, undef], []⟩) ∧ (k ≤ 8) ∧ (w = V)) (fun a _ => 8 - (intOf (a.tmps.getD 9 undef)).toNat) (by kernel_rfl) ?_ ?_
  · exact ⟨0, undef, undef, undef, undef, undef, undef, undef, undef, undef, undef, undef, undef, undef, undef, by kernel_rfl, by omega, rfl⟩
  · rintro a V1 ⟨k, u4, u5, u10, u11, u12, u13, u14, u15, u16, u17, u18, u19, u20, u21, rfl, hk, rfl⟩
    by_cases lt_k : k < 8
    · show _
      refine sy_sq (part_kword 232) (part_kword 233) ?_
      refine sy_reg ?_
      refine rg_plain 3 (opsAt (part_kword 232)) [0] (by kernel_rfl) (by kernel_rfl) ?_
      refine ps_p (o_kword 232 0) (.bool true) (dct ((((k : Nat) : Int)) < ((8) : Int)) (by omega)) ?_
      refine ps_end ?_
      refine then_n ?_
      refine sy_sq (part_kword 466) (part_kword 467) ?_
      refine sy_ys (.tmp 10) (part_kword 932) (part_kword 933) ?_
      refine sy_sk ?_
      refine then_n ?_
      refine sy_sq (part_kword 934) (part_kword 935) ?_
      refine sy_bk 1 (part_kword 1868) ?_
      refine sy_sq (part_kword 3736) (part_kword 3737) ?_
      refine sy_reg ?_
      refine rg_plain 4 (opsAt (part_kword 3736)) [0, 1, 2, 3, 4] (by kernel_rfl) (by kernel_rfl) ?_
      refine ps_k (o_kword 3736 0) (iN k) ?_
      refine ps_p (o_kword 3736 1) (pT g (o + k)) (exec_cast (v := pT g (o + k * 1)) (by simp) (exec_indexAt_slice 22 (.tmp 7) (.tmp 9) (by kernel_rfl) g o 8 cap (by kernel_rfl) .i64 k (by kernel_rfl) _ 1 Try.underlying22 (by kernel_rfl) (by omega))) ?_
      refine ps_p (o_kword 3736 2) (cN ((l.getD k 0).toNat)) (exec_ld 5 (.tmp 12) g (o + k) Try.underlying5 (bytes_cell hv k (by rw [hn]; omega))) ?_
      refine ps_k (o_kword 3736 3) (iN k) ?_
      refine ps_k (o_kword 3736 4) (cN ((l.getD k 0).toNat)) ?_
      refine ps_end ?_
      refine then_n ?_
      refine sy_reg ?_
      refine rg_plain 5 (opsAt (part_kword 3737)) [0, 1, 2, 3, 4, 5, 6, 7] (by kernel_rfl) (by kernel_rfl) ?_
      refine ps_k (o_kword 3737 0) (uN (Kec.word (l.take k))) ?_
      refine ps_k (o_kword 3737 1) (cN ((l.getD k 0).toNat)) ?_
      refine ps_p (o_kword 3737 2) (uN ((l.getD k 0).toNat)) (exec_cast (congrArg (Value.int .u64) (wrapU (l.getD k 0).toNat (by have := (l.getD k 0).toNat_lt; omega))) (by kernel_rfl)) ?_
      refine ps_k (o_kword 3737 3) (iN k) ?_
      refine ps_p (o_kword 3737 4) (iN (8 * k)) (exec_cast (congrArg (Value.int .i64) (wrapN (8 * k) (by omega))) (by kernel_rfl)) ?_
      refine ps_p (o_kword 3737 5) (uN (((l.getD k 0).toNat <<< (8 * k)) % Kec.W)) (exec_binop .shl 27 3 (.tmp 16) (.tmp 18) (by kernel_rfl) (uN ((l.getD k 0).toNat)) (iN (8 * k)) _ (by kernel_rfl) (by kernel_rfl) (by kernel_rfl) (run_shlU _ _ _ (8 * k) (by omega))) ?_
      refine ps_p (o_kword 3737 6) (uN (Kec.word (l.take (k + 1)))) (exec_cast ((orU _ _ (word_take_lt l k (by omega)) (Nat.mod_lt _ Kec.W_pos)).trans (congrArg (fun n : Nat => Value.int .u64 (n : Int)) (word_step l k (by rw [hn]; omega) (by omega)))) (by kernel_rfl)) ?_
      refine ps_k (o_kword 3737 7) (uN (Kec.word (l.take (k + 1)))) ?_
      refine ps_end ?_
      refine blk_n ?_
      refine then_n ?_
      refine sy_reg ?_
      refine rg_plain 6 (opsAt (part_kword 935)) [0, 1] (by kernel_rfl) (by kernel_rfl) ?_
      refine ps_p (o_kword 935 0) (iN (k + 1)) (exec_cast (congrArg (Value.int .i64) (wrapN (k + 1) (by omega))) (by kernel_rfl)) ?_
      refine ps_k (o_kword 935 1) (iN (k + 1)) ?_
      refine ps_end ?_
      refine then_n ?_
      refine ⟨⟨k + 1, (iN k), (cN ((l.getD k 0).toNat)), (.bool true), (iN k), (pT g (o + k)), (cN ((l.getD k 0).toNat)), (uN (Kec.word (l.take k))), (cN ((l.getD k 0).toNat)), (uN ((l.getD k 0).toNat)), (iN k), (iN (8 * k)), (uN (((l.getD k 0).toNat <<< (8 * k)) % Kec.W)), (uN (Kec.word (l.take (k + 1)))), (iN (k + 1)), by kernel_rfl, by omega, rfl⟩, ?_⟩
      exact lt_meas (x := 8 - (k + 1)) (y := 8 - k) (by kernel_rfl) (by kernel_rfl) (by omega)
    · have eq_k : k = 8 := by omega
      refine sy_sq (part_kword 232) (part_kword 233) ?_
      refine sy_reg ?_
      refine rg_plain 3 (opsAt (part_kword 232)) [0] (by kernel_rfl) (by kernel_rfl) ?_
      refine ps_p (o_kword 232 0) (.bool false) (dcf ((((k : Nat) : Int)) < ((8) : Int)) (by omega)) ?_
      refine ps_end ?_
      refine then_n ?_
      refine sy_sq (part_kword 466) (part_kword 467) ?_
      refine sy_n (.tmp 10) (part_kword 932) (part_kword 933) ?_
      refine sy_exit 0 (by kernel_rfl) ?_
      refine then_e ?_
      refine then_e ?_
      refine blk_e ?_
      refine then_n ?_
      refine sy_sq (part_kword 30) (part_kword 31) ?_
      refine sy_reg ?_
      refine rg_plain 7 (opsAt (part_kword 30)) [0, 1] (by kernel_rfl) (by kernel_rfl) ?_
      refine ps_k (o_kword 30 0) (uN (Kec.word (l.take k))) ?_
      refine ps_k (o_kword 30 1) (uN (Kec.word (l.take k))) ?_
      refine ps_end ?_
      refine then_n ?_
      refine sy_ret (by kernel_rfl) ?_
      refine sy_out (.int .u64 ((Kec.word (l.take k) : Nat) : Int)) rfl (by kernel_rfl) ?_
      subst eq_k; exact ⟨rfl, rfl⟩
theorem eight_len {wd : Nat} : (Kec.eight wd).length = 8 := by simp [Kec.eight]
noncomputable def part_keight (n : Nat) : Code := partOf Try.f92 n
noncomputable abbrev o_keight (n k : Nat) : Oper := (opsAt (part_keight n)).getD k default
set_option maxRecDepth 100000 in
set_option maxHeartbeats 4000000 in
theorem keight_ok (wd : Nat) (w : World) (hw : wd < Kec.W) :
    Calls Try.prog 92 #[.int .u64 ((wd : Nat) : Int)] w (fun e w' => e = .returned (.agg (B (Kec.eight wd)).toArray) ∧ Keeps Nob w w') := by
  have K0 : Keeps Nob w w := Keeps.refl _ _
  refine sy_enter (part_keight 1) ⟨#[uN wd, undef, undef, undef, undef, undef, undef, undef, undef, undef, undef, undef, undef, undef, undef, undef, undef], []⟩ Try.func92 (by kernel_rfl) (by kernel_rfl) ?_
  refine sy_sq (part_keight 2) (part_keight 3) ?_
  refine sy_reg ?_
  refine rg_plain 0 (opsAt (part_keight 2)) [0] (by kernel_rfl) (by kernel_rfl) ?_
  obtain ⟨V1, eV1, gr, egr, h2, kV1⟩ := alloc_step w (zr_u8_8) 122
  have n3 : w.heap.size ≤ gr := egr ▸ K0.size
  refine ps_r (o_keight 2 0) (pT gr 0) (w' := V1) (by rw [← eV1, ← egr]; exact exec_alloc0 122 (by kernel_rfl) (.agg (zr_u8_8)) (by kernel_rfl)) ?_
  clear eV1
  have K4 := K0.nn kV1
  refine ps_end ?_
  refine then_n ?_
  refine sy_sq (part_keight 6) (part_keight 7) ?_
  refine sy_reg ?_
  refine rg_plain 1 (opsAt (part_keight 6)) [0] (by kernel_rfl) (by kernel_rfl) ?_
  obtain ⟨V5, eV5, go, ego, h6, kV5⟩ := alloc_step V1 (zr_u8_8) 122
  have n7 : gr < go := ego ▸ lt_of_block h2
  have n8 : w.heap.size ≤ go := ego ▸ K4.size
  refine ps_r (o_keight 6 0) (pT go 0) (w' := V5) (by rw [← eV5, ← ego]; exact exec_alloc0 122 (by kernel_rfl) (.agg (zr_u8_8)) (by kernel_rfl)) ?_
  clear eV5
  have h9 := kV5.bk h2
  have K10 := K4.nn kV5
  refine ps_end ?_
  refine then_n ?_
  refine sy_sq (part_keight 14) (part_keight 15) ?_
  refine sy_sq (part_keight 28) (part_keight 29) ?_
  refine sy_reg ?_
  refine rg_plain 2 (opsAt (part_keight 28)) [0] (by kernel_rfl) (by kernel_rfl) ?_
  refine ps_k (o_keight 28 0) (.int .i64 0) ?_
  refine ps_end ?_
  refine then_n ?_
  refine sy_bk 0 (part_keight 58) ?_
  refine sy_loop (part_keight 116) (fun a V => ∃ (k : Nat) (u4 u6 u7 u8 u9 u10 u11 u12 u13 u14 u15 : Value), (a = ⟨#[uN wd, undef, pT gr 0, pT go 0, u4, iN k, u6, u7, u8, u9, u10, u11, u12, u13, u14, u15, undef], []⟩) ∧ (k ≤ 8) ∧ (V.heap[gr]? = some (.cells (zr_u8_8) 122 (0, 0))) ∧ (V.heap[go]? = some (.cells ((B (stpB (fun i => UInt8.ofNat (wd / 256 ^ i)) k (List.replicate 8 0))).toArray) 122 (0, 0))) ∧ (Keeps Nob w V)) (fun a _ => 8 - (intOf (a.tmps.getD 5 undef)).toNat) (by kernel_rfl) ?_ ?_
  · exact ⟨0, undef, undef, undef, undef, undef, undef, undef, undef, undef, undef, undef, by kernel_rfl, by omega, h9, h6.trans (by kernel_rfl), K10⟩
  · rintro a V11 ⟨k, u4, u6, u7, u8, u9, u10, u11, u12, u13, u14, u15, rfl, hk, h12, h13, K14⟩
    by_cases lt_k : k < 8
    · show _
      refine sy_sq (part_keight 232) (part_keight 233) ?_
      refine sy_reg ?_
      refine rg_plain 3 (opsAt (part_keight 232)) [0] (by kernel_rfl) (by kernel_rfl) ?_
      refine ps_p (o_keight 232 0) (.bool true) (dct ((((k : Nat) : Int)) < ((8) : Int)) (by omega)) ?_
      refine ps_end ?_
      refine then_n ?_
      refine sy_sq (part_keight 466) (part_keight 467) ?_
      refine sy_ys (.tmp 6) (part_keight 932) (part_keight 933) ?_
      refine sy_sk ?_
      refine then_n ?_
      refine sy_sq (part_keight 934) (part_keight 935) ?_
      refine sy_bk 1 (part_keight 1868) ?_
      refine sy_sq (part_keight 3736) (part_keight 3737) ?_
      refine sy_reg ?_
      refine rg_plain 4 (opsAt (part_keight 3736)) [0, 1] (by kernel_rfl) (by kernel_rfl) ?_
      refine ps_k (o_keight 3736 0) (iN k) ?_
      refine ps_k (o_keight 3736 1) (iN k) ?_
      refine ps_end ?_
      refine then_n ?_
      refine sy_reg ?_
      refine rg_plain 5 (opsAt (part_keight 3737)) [0, 1, 2, 3, 4, 5, 6, 7] (by kernel_rfl) (by kernel_rfl) ?_
      refine ps_k (o_keight 3737 0) (iN k) ?_
      refine ps_k (o_keight 3737 1) (uN wd) ?_
      refine ps_k (o_keight 3737 2) (iN k) ?_
      refine ps_p (o_keight 3737 3) (iN (8 * k)) (exec_cast (congrArg (Value.int .i64) (wrapN (8 * k) (by omega))) (by kernel_rfl)) ?_
      refine ps_p (o_keight 3737 4) (uN (wd >>> (8 * k))) (exec_binop .shr 27 3 (.tmp 9) (.tmp 11) (by kernel_rfl) (uN wd) (iN (8 * k)) _ (by kernel_rfl) (by kernel_rfl) (by kernel_rfl) (run_shrU _ _ wd (8 * k) (by omega))) ?_
      refine ps_p (o_keight 3737 5) (cN ((UInt8.ofNat (wd / 256 ^ k)).toNat)) (exec_cast (congrArg (Value.int .u8) ((wrap8 (wd >>> (8 * k))).trans (by rw [Nat.shiftRight_eq_div_pow, Nat.pow_mul]))) (by kernel_rfl)) ?_
      refine ps_p (o_keight 3737 6) (pT go k) (exec_cast (v := pT go (0 + k * 1)) (by simp) (exec_indexAt_arr 122 (.tmp 3) (.tmp 8) (by kernel_rfl) go 0 (by kernel_rfl) .i64 k (by kernel_rfl) _ _ 1 Try.underlying122 (by kernel_rfl) (by omega))) ?_
      obtain ⟨V15, eV15, kV15⟩ := cell_step V11 go k (.int .u8 (((UInt8.ofNat (wd / 256 ^ k)).toNat : Nat) : Int))
      have h16 : V15.heap[go]? = some (.cells ((B (stpB (fun i => UInt8.ofNat (wd / 256 ^ i)) (k + 1) (List.replicate 8 0))).toArray) 122 (0, 0)) := eV15 ▸ ((heap_setCell_same _ go k _ _ (.int .u8 (((UInt8.ofNat (wd / 256 ^ k)).toNat : Nat) : Int)) h13).trans (congrArg (fun c => some (Obj.cells c 122 (0, 0))) (show ((B (stpB (fun i => UInt8.ofNat (wd / 256 ^ i)) k (List.replicate 8 0))).toArray : Array Value).setIfInBounds k (.int .u8 (((UInt8.ofNat (wd / 256 ^ k)).toNat : Nat) : Int)) = (B (stpB (fun i => UInt8.ofNat (wd / 256 ^ i)) (k + 1) (List.replicate 8 0))).toArray from by rw [Bz_set]; exact congrArg (fun l => (B l).toArray) (by rw [stpB_succ]))))
      refine ps_s (o_keight 3737 7) (w' := V15) (by rw [← eV15]; exact exec_store_cell 5 (.tmp 14) (.tmp 13) (by kernel_rfl) go k (by kernel_rfl) (cN ((UInt8.ofNat (wd / 256 ^ k)).toNat)) (by kernel_rfl) (by kernel_rfl) (by kernel_rfl) (cN (((stpB (fun i => UInt8.ofNat (wd / 256 ^ i)) k (List.replicate 8 0)).getD k 0).toNat)) (rc (h13) (Bz_get _ k (by rw [stpB_len, List.length_replicate]; omega))) (frozen_of_row _ _ _ _ _ h13) (by kernel_rfl)) ?_
      clear eV15
      have h17 := kV15.bo h12 (by omega)
      have K18 := K14.no kV15 (by omega)
      refine ps_end ?_
      refine blk_n ?_
      refine then_n ?_
      refine sy_reg ?_
      refine rg_plain 6 (opsAt (part_keight 935)) [0, 1] (by kernel_rfl) (by kernel_rfl) ?_
      refine ps_p (o_keight 935 0) (iN (k + 1)) (exec_cast (congrArg (Value.int .i64) (wrapN (k + 1) (by omega))) (by kernel_rfl)) ?_
      refine ps_k (o_keight 935 1) (iN (k + 1)) ?_
      refine ps_end ?_
      refine then_n ?_
      refine ⟨⟨k + 1, (iN k), (.bool true), (iN k), (iN k), (uN wd), (iN k), (iN (8 * k)), (uN (wd >>> (8 * k))), (cN ((UInt8.ofNat (wd / 256 ^ k)).toNat)), (pT go k), (iN (k + 1)), by kernel_rfl, by omega, h17, h16, K18⟩, ?_⟩
      exact lt_meas (x := 8 - (k + 1)) (y := 8 - k) (by kernel_rfl) (by kernel_rfl) (by omega)
    · have eq_k : k = 8 := by omega
      have h19 : V11.heap[go]? = some (.cells ((B (Kec.eight wd)).toArray) 122 (0, 0)) := h13.trans (by rw [eq_k, stpB_all _ _ 8 rfl]; rfl)
      refine sy_sq (part_keight 232) (part_keight 233) ?_
      refine sy_reg ?_
      refine rg_plain 3 (opsAt (part_keight 232)) [0] (by kernel_rfl) (by kernel_rfl) ?_
      refine ps_p (o_keight 232 0) (.bool false) (dcf ((((k : Nat) : Int)) < ((8) : Int)) (by omega)) ?_
      refine ps_end ?_
      refine then_n ?_
      refine sy_sq (part_keight 466) (part_keight 467) ?_
      refine sy_n (.tmp 6) (part_keight 932) (part_keight 933) ?_
      refine sy_exit 0 (by kernel_rfl) ?_
      refine then_e ?_
      refine then_e ?_
      refine blk_e ?_
      refine then_n ?_
      refine sy_sq (part_keight 30) (part_keight 31) ?_
      refine sy_reg ?_
      refine rg_plain 7 (opsAt (part_keight 30)) [0, 1] (by kernel_rfl) (by kernel_rfl) ?_
      refine ps_p (o_keight 30 0) (.agg ((B (Kec.eight wd)).toArray)) (exec_load_row 122 (.tmp 3) (by kernel_rfl) go (by kernel_rfl) _ _ (0, 0) _ (h19) Try.underlying122 rfl (by rw [Bz_size, eight_len]; kernel_rfl)) ?_
      obtain ⟨V20, eV20, kV20⟩ := rowset_step V11 gr (((B (Kec.eight wd)).toArray))
      have h21 : V20.heap[gr]? = some (.cells ((B (Kec.eight wd)).toArray) 122 (0, 0)) := eV20 ▸ setRow_heap _ _ _ _ _ _ h12
      refine ps_s (o_keight 30 1) (w' := V20) (by rw [← eV20]; exact exec_store_row 122 (.tmp 2) (.tmp 16) (by kernel_rfl) gr (((B (Kec.eight wd)).toArray)) (by kernel_rfl) (by kernel_rfl) 122 (zr_u8_8) h12 (by rw [Bz_size, eight_len]; kernel_rfl) (by rw [Bz_size, eight_len]; rfl) (by rw [List.all_toArray]; exact List.all_eq_true.2 (B_one _))) ?_
      clear eV20
      have h22 := kV20.bo h19 (by omega)
      have K23 := K14.no kV20 (by omega)
      refine ps_end ?_
      refine then_n ?_
      refine sy_ret (by kernel_rfl) ?_
      refine sy_out (.agg ((B (Kec.eight wd)).toArray)) rfl (results_cell_row (p := 2) (ty := 122) (by kernel_rfl) _ _ gr 122 ((B (Kec.eight wd)).toArray) (0, 0) _ (by kernel_rfl) h21 Try.underlying122 rfl (by rw [Bz_size, eight_len]; kernel_rfl)) ?_
      exact ⟨rfl, K23⟩
theorem getD_some (l : List UInt8) (k : Nat) (h : k < l.length) : l[k]? = some (l.getD k 0) := by rw [List.getD_eq_getElem?_getD, List.getElem?_eq_getElem h]; rfl
def zero136 : List UInt8 := List.replicate 136 0
theorem zero136_len : zero136.length = 136 := by simp [zero136]
theorem Sp_seg_zero (s : List Nat) (blk : List UInt8) (n m : Nat) (hs : s.length = 25) (hb : blk.length = 136) : seg (Sp s blk n m) 25 (B zero136).toArray.toList = Sp s zero136 n m := by
  have := Sp_seg_bytes s blk zero136 n m 0 hs (by rw [zero136_len, hb]; omega)
  have e : blk.drop (0 + zero136.length) = [] := List.drop_of_length_le (by rw [zero136_len, hb]; omega)
  rw [e, List.append_nil, List.take_zero, List.nil_append] at this
  exact this
theorem g_get (s : List Nat) (i : Nat) (h : i < s.length) : Kec.g s i = s[i] := by
  unfold Kec.g
  rw [List.getD_eq_getElem?_getD, List.getElem?_eq_getElem h]; rfl
theorem stp_mixin (s : List Nat) (blk : List UInt8) (hs : s.length = 25) : stp (fun i => Kec.g s i ^^^ Kec.wordAt blk i) 17 s = Kec.mixin s blk := by
  refine List.ext_getElem (by rw [stp_len, Kec.len_mixin, hs]) fun i h1 h2 => ?_
  have hi : i < 25 := by rwa [stp_len, hs] at h1
  have e1 := stp_get (fun i => Kec.g s i ^^^ Kec.wordAt blk i) 17 s i (by omega)
  have e2 := Kec.g_map (fun i => if i < 17 then Kec.g s i ^^^ Kec.wordAt blk i else Kec.g s i) i hi
  have e3 : Kec.g (stp (fun i => Kec.g s i ^^^ Kec.wordAt blk i) 17 s) i = Kec.g (Kec.mixin s blk) i := by
    rw [e1]; exact e2.symm
  rw [g_get _ _ h1, g_get _ _ h2] at e3
  exact e3
noncomputable def part_ktakes (n : Nat) : Code := partOf Try.f91 n
noncomputable abbrev o_ktakes (n k : Nat) : Oper := (opsAt (part_ktakes n)).getD k default
set_option maxRecDepth 100000 in
set_option maxHeartbeats 4000000 in
theorem ktakes_ok (p : Nat) (s : List Nat) (blk : List UInt8) (n m : Nat) (hs : s.length = 25) (ws : Kec.Ws s) (hb : blk.length = 136) (w : World) (hp : w.heap[p]? = some (.cells (Sp s blk n m) 90 (0, 0))) :
    Calls Try.prog 91 #[.pointer (some ⟨p, 0, none⟩)] w (fun e w' => e = .returned (.tuple #[]) ∧ w'.heap[p]? = some (.cells (Sp (Kec.takes s blk) zero136 0 m) 90 (0, 0)) ∧ Keeps (One p) w w') := by
  have K0 : Keeps (One p) w w := Keeps.refl _ _
  refine sy_enter (part_ktakes 1) ⟨#[pT p 0, undef, undef, undef, undef, undef, undef, undef, undef, undef, undef, undef, undef, undef, undef, undef, undef, undef, undef, undef, undef, undef, undef, undef, undef, undef, undef, undef, undef, undef, undef, undef, undef, undef, undef, undef, undef, undef, undef], []⟩ Try.func91 (by kernel_rfl) (by kernel_rfl) ?_
  refine sy_sq (part_ktakes 2) (part_ktakes 3) ?_
  refine sy_sq (part_ktakes 4) (part_ktakes 5) ?_
  refine sy_reg ?_
  refine rg_plain 0 (opsAt (part_ktakes 4)) [0] (by kernel_rfl) (by kernel_rfl) ?_
  refine ps_k (o_ktakes 4 0) (.int .i64 0) ?_
  refine ps_end ?_
  refine then_n ?_
  refine sy_bk 0 (part_ktakes 10) ?_
  refine sy_loop (part_ktakes 20) (fun a V => ∃ (i : Nat) (u3 u4 u5 u6 u7 u8 u9 u10 u11 u12 u13 u14 u15 u16 u17 u18 u19 u20 u21 u22 u23 : Value), (a = ⟨#[pT p 0, undef, iN i, u3, u4, u5, u6, u7, u8, u9, u10, u11, u12, u13, u14, u15, u16, u17, u18, u19, u20, u21, u22, u23, undef, undef, undef, undef, undef, undef, undef, undef, undef, undef, undef, undef, undef, undef, undef], []⟩) ∧ (i ≤ 17) ∧ (V.heap[p]? = some (.cells (Sp (stp (fun i => Kec.g s i ^^^ Kec.wordAt blk i) i s) blk n m) 90 (0, 0))) ∧ (Keeps (One p) w V)) (fun a _ => 17 - (intOf (a.tmps.getD 2 undef)).toNat) (by kernel_rfl) ?_ ?_
  · exact ⟨0, undef, undef, undef, undef, undef, undef, undef, undef, undef, undef, undef, undef, undef, undef, undef, undef, undef, undef, undef, undef, undef, by kernel_rfl, by omega, hp, K0⟩
  · rintro a V1 ⟨i, u3, u4, u5, u6, u7, u8, u9, u10, u11, u12, u13, u14, u15, u16, u17, u18, u19, u20, u21, u22, u23, rfl, hi, h2, K3⟩
    by_cases lt_i : i < 17
    · show _
      refine sy_sq (part_ktakes 40) (part_ktakes 41) ?_
      refine sy_sq (part_ktakes 80) (part_ktakes 81) ?_
      refine sy_reg ?_
      refine rg_plain 1 (opsAt (part_ktakes 80)) [0, 1] (by kernel_rfl) (by kernel_rfl) ?_
      refine ps_k (o_ktakes 80 0) (iN i) ?_
      refine ps_p (o_ktakes 80 1) (.bool true) (dct ((((i : Nat) : Int)) < ((17) : Int)) (by omega)) ?_
      refine ps_end ?_
      refine then_n ?_
      refine sy_ys (.tmp 4) (part_ktakes 162) (part_ktakes 163) ?_
      refine sy_sk ?_
      refine then_n ?_
      refine sy_sq (part_ktakes 82) (part_ktakes 83) ?_
      refine sy_bk 1 (part_ktakes 164) ?_
      refine sy_reg ?_
      refine rg_still 3 17 (opsAt (part_ktakes 164)) [o_ktakes 164 0, o_ktakes 164 1, o_ktakes 164 2, o_ktakes 164 3, o_ktakes 164 4, o_ktakes 164 5, o_ktakes 164 6, o_ktakes 164 7, o_ktakes 164 8, o_ktakes 164 9, o_ktakes 164 10, o_ktakes 164 11, o_ktakes 164 12, o_ktakes 164 13, o_ktakes 164 14, o_ktakes 164 15, o_ktakes 164 16] [o_ktakes 164 17] (by kernel_rfl) (by kernel_rfl) (by kernel_rfl) (by kernel_rfl) (by kernel_rfl) ?_
      obtain ⟨V5, eV5, kV5⟩ := drew_step V1
      rw [eV5]
      clear eV5
      have h6 := kV5.bk h2
      have K7 := K3.nn kV5
      refine st_k (o_ktakes 164 0) (pT p 0) ?_
      refine st_k (o_ktakes 164 1) (iN i) ?_
      refine st_k (o_ktakes 164 2) (pT p 0) ?_
      refine st_k (o_ktakes 164 3) (pT p 0) ?_
      refine st_p (o_ktakes 164 4) (pT p i) (exec_cast (v := pT p (0 + i * 1)) (by simp) (exec_indexAt_arr 87 (.tmp 10) (.tmp 8) (by kernel_rfl) p 0 (by kernel_rfl) .i64 i (by kernel_rfl) _ _ 1 Try.underlying87 (by kernel_rfl) (by omega))) ?_
      refine st_p (o_ktakes 164 5) (uN (Kec.g s i)) (exec_ld 27 (.tmp 11) p i Try.underlying27 (rc (h6) ((Sp_word _ _ _ _ ((stp_len _ _ _).trans hs) i (by omega)).trans (congrArg (fun n : Nat => some (Value.int .u64 (n : Int))) (by rw [stp_get _ _ _ _ (by omega), if_neg (by omega)]))))) ?_
      refine st_k (o_ktakes 164 6) (pT p 0) ?_
      refine st_k (o_ktakes 164 7) (pT p 0) ?_
      refine st_k (o_ktakes 164 8) (pT p 25) ?_
      refine st_k (o_ktakes 164 9) (iN i) ?_
      refine st_p (o_ktakes 164 10) (iN (8 * i)) (exec_cast (congrArg (Value.int .i64) (wrapN (8 * i) (by omega))) (by kernel_rfl)) ?_
      refine st_p (o_ktakes 164 11) (.slice (some ⟨p, 25 + 8 * i, none⟩) (136 - 8 * i) (136 - 8 * i)) (exec_slice_arr 88 (.tmp 15) (.tmp 17) (by kernel_rfl) p 25 (by kernel_rfl) .i64 (8 * i) (by kernel_rfl) 136 5 Try.underlying88 (by kernel_rfl) (by omega)) ?_
      refine st_c (o_ktakes 164 12) 104 #[.slice (some ⟨p, 25 + 8 * i, none⟩) (136 - 8 * i) (136 - 8 * i)] (uN (Kec.wordAt blk i)) Try.func104 (kword_ok p (25 + 8 * i) (136 - 8 * i) (136 - 8 * i) (blk.drop (8 * i)) _ (by rw [List.length_drop, hb]) (by omega) (Nat.le_refl _) (Sp_bytes h6 ((stp_len _ _ _).trans hs) hb (8 * i) (by omega))) ?_
      refine st_p (o_ktakes 164 13) (uN ((Kec.g s i) ^^^ (Kec.wordAt blk i))) (exec_cast (xorU (Kec.g s i) (Kec.wordAt blk i) (ws _) (Kec.wordAt_lt _ _)) (by kernel_rfl)) ?_
      refine st_k (o_ktakes 164 14) (pT p 0) ?_
      refine st_k (o_ktakes 164 15) (pT p 0) ?_
      refine st_p (o_ktakes 164 16) (pT p i) (exec_cast (v := pT p (0 + i * 1)) (by simp) (exec_indexAt_arr 87 (.tmp 22) (.tmp 8) (by kernel_rfl) p 0 (by kernel_rfl) .i64 i (by kernel_rfl) _ _ 1 Try.underlying87 (by kernel_rfl) (by omega))) ?_
      refine st_end ?_
      obtain ⟨V8, eV8, kV8⟩ := cell_step V5 p i (.int .u64 (((Kec.g s i) ^^^ (Kec.wordAt blk i) : Nat) : Int))
      have h9 : V8.heap[p]? = some (.cells (Sp (stp (fun i => Kec.g s i ^^^ Kec.wordAt blk i) (i + 1) s) blk n m) 90 (0, 0)) := eV8 ▸ ((heap_setCell_same _ p i _ _ (.int .u64 (((Kec.g s i) ^^^ (Kec.wordAt blk i) : Nat) : Int)) h6).trans (congrArg (fun c => some (Obj.cells c 90 (0, 0))) (show (Sp (stp (fun i => Kec.g s i ^^^ Kec.wordAt blk i) i s) blk n m : Array Value).setIfInBounds i (.int .u64 (((Kec.g s i) ^^^ (Kec.wordAt blk i) : Nat) : Int)) = Sp (stp (fun i => Kec.g s i ^^^ Kec.wordAt blk i) (i + 1) s) blk n m from (Sp_set_word _ _ _ _ ((stp_len _ _ _).trans hs) i _ (by omega)).trans (congrArg (fun s => Sp s blk n m) (by rw [stp_succ])))))
      refine ls_skip (o_ktakes 164 17) (w' := V8) (by kernel_rfl) (by rw [← eV8]; exact exec_store_cell 27 (.tmp 23) (.tmp 20) (by kernel_rfl) p i (by kernel_rfl) (.int .u64 (((Kec.g s i) ^^^ (Kec.wordAt blk i) : Nat) : Int)) (by kernel_rfl) (by kernel_rfl) (by kernel_rfl) (.int .u64 ((Kec.g s i : Nat) : Int)) (rc (h6) ((Sp_word _ _ _ _ ((stp_len _ _ _).trans hs) i (by omega)).trans (congrArg (fun n : Nat => some (Value.int .u64 (n : Int))) (by rw [stp_get _ _ _ _ (by omega), if_neg (by omega)])))) (frozen_of_row _ _ _ _ _ h6) (by kernel_rfl)) ?_
      clear eV8
      have K10 : Keeps (One p) w V8 := K7.then kV8 (fun i hi hm => by unfold Own.One at hm; subst hm; exact rfl)
      refine ls_end ?_
      refine blk_n ?_
      refine then_n ?_
      refine sy_reg ?_
      refine rg_plain 2 (opsAt (part_ktakes 83)) [0, 1, 2] (by kernel_rfl) (by kernel_rfl) ?_
      refine ps_k (o_ktakes 83 0) (iN i) ?_
      refine ps_p (o_ktakes 83 1) (iN (i + 1)) (exec_cast (congrArg (Value.int .i64) (wrapN (i + 1) (by omega))) (by kernel_rfl)) ?_
      refine ps_k (o_ktakes 83 2) (iN (i + 1)) ?_
      refine ps_end ?_
      refine then_n ?_
      refine ⟨⟨i + 1, (iN i), (.bool true), (iN i), (iN (i + 1)), (pT p 0), (iN i), (pT p 0), (pT p 0), (pT p i), (uN (Kec.g s i)), (pT p 0), (pT p 0), (pT p 25), (iN i), (iN (8 * i)), (.slice (some ⟨p, 25 + 8 * i, none⟩) (136 - 8 * i) (136 - 8 * i)), (uN (Kec.wordAt blk i)), (uN ((Kec.g s i) ^^^ (Kec.wordAt blk i))), (pT p 0), (pT p 0), (pT p i), by kernel_rfl, by omega, h9, K10⟩, ?_⟩
      exact lt_meas (x := 17 - (i + 1)) (y := 17 - i) (by kernel_rfl) (by kernel_rfl) (by omega)
    · have eq_i : i = 17 := by omega
      have h11 : V1.heap[p]? = some (.cells (Sp (Kec.mixin s blk) blk n m) 90 (0, 0)) := h2.trans (by rw [eq_i, stp_mixin s blk hs])
      refine sy_sq (part_ktakes 40) (part_ktakes 41) ?_
      refine sy_sq (part_ktakes 80) (part_ktakes 81) ?_
      refine sy_reg ?_
      refine rg_plain 1 (opsAt (part_ktakes 80)) [0, 1] (by kernel_rfl) (by kernel_rfl) ?_
      refine ps_k (o_ktakes 80 0) (iN i) ?_
      refine ps_p (o_ktakes 80 1) (.bool false) (dcf ((((i : Nat) : Int)) < ((17) : Int)) (by omega)) ?_
      refine ps_end ?_
      refine then_n ?_
      refine sy_n (.tmp 4) (part_ktakes 162) (part_ktakes 163) ?_
      refine sy_exit 0 (by kernel_rfl) ?_
      refine then_e ?_
      refine then_e ?_
      refine blk_e ?_
      refine then_n ?_
      refine sy_sq (part_ktakes 6) (part_ktakes 7) ?_
      refine sy_reg ?_
      refine rg_plain 4 (opsAt (part_ktakes 6)) [0, 1, 2, 3, 4, 5, 6, 7, 8] (by kernel_rfl) (by kernel_rfl) ?_
      refine ps_k (o_ktakes 6 0) (pT p 0) ?_
      refine ps_k (o_ktakes 6 1) (pT p 0) ?_
      refine ps_k (o_ktakes 6 2) (pT p 0) ?_
      refine ps_k (o_ktakes 6 3) (pT p 0) ?_
      refine ps_p (o_ktakes 6 4) (.agg (Wz (Kec.mixin s blk))) (exec_load_seg 87 (.tmp 27) (by kernel_rfl) p 0 (by kernel_rfl) (Wz (Kec.mixin s blk)).toList _ _ _ h11 (Sp_load _ _ _ _ (Kec.len_mixin s blk)) Try.underlying87 rfl (by rw [show (Wz (Kec.mixin s blk)).toList.length = 25 by simp [Wz, Kec.len_mixin]]; kernel_rfl)) ?_
      refine ps_c (o_ktakes 6 5) 105 #[.agg (Wz (Kec.mixin s blk))] Try.func105 ((kpermuted_ok (Kec.mixin s blk) _ (Kec.len_mixin s blk) (Kec.ws_mixin ws blk)).mono ?_)
      rintro e V12 ⟨rfl, kV12⟩
      refine ⟨_, rfl, ?_⟩
      have h13 := kV12.bk h11
      have K14 := K3.nn kV12
      refine ps_k (o_ktakes 6 6) (pT p 0) ?_
      refine ps_k (o_ktakes 6 7) (pT p 0) ?_
      obtain ⟨V15, eV15⟩ : ∃ V, V12.setCells p 0 (Wz (Kec.takes s blk)).toList = V := ⟨_, rfl⟩
      have kV15 : Keeps (One p) V12 V15 := eV15 ▸ Keeps.setCells _ _ _ _
      have h16 : V15.heap[p]? = some (.cells (Sp (Kec.takes s blk) blk n m) 90 (0, 0)) := eV15 ▸ (heap_setCells p _ _ 0 _ _ h13 (by rw [Sp_size _ _ _ _ (Kec.len_mixin s blk) hb]; simp [Wz, Kec.len_takes])).trans (congrArg (fun c => some (Obj.cells c 90 (0, 0))) (Sp_seg_words _ _ _ _ _ (Kec.len_mixin s blk) (Kec.len_takes s blk)))
      refine ps_s (o_ktakes 6 8) (w' := V15) (by rw [← eV15]; exact exec_store_mid 87 (.tmp 31) (.tmp 29) (by kernel_rfl) p 0 (by kernel_rfl) (Wz (Kec.takes s blk)) (by kernel_rfl) _ _ h13 (by rw [Sp_size _ _ _ _ (Kec.len_mixin s blk) hb]; simp [Wz, Kec.len_takes]) (by rw [Wz_size, Kec.len_takes]; kernel_rfl) (Wz_one _)) ?_
      clear eV15
      have K17 : Keeps (One p) w V15 := K14.then kV15 (fun i hi hm => by unfold Own.One at hm; subst hm; exact rfl)
      refine ps_end ?_
      refine then_n ?_
      refine sy_reg ?_
      refine rg_plain 5 (opsAt (part_ktakes 7)) [0, 1, 2, 3, 4, 5, 6, 7, 8] (by kernel_rfl) (by kernel_rfl) ?_
      refine ps_k (o_ktakes 7 0) (pT p 0) ?_
      refine ps_k (o_ktakes 7 1) (pT p 0) ?_
      refine ps_k (o_ktakes 7 2) (.agg (B zero136).toArray) ?_
      refine ps_k (o_ktakes 7 3) (pT p 0) ?_
      refine ps_k (o_ktakes 7 4) (pT p 25) ?_
      obtain ⟨V18, eV18⟩ : ∃ V, V15.setCells p 25 ((B zero136).toArray).toList = V := ⟨_, rfl⟩
      have kV18 : Keeps (One p) V15 V18 := eV18 ▸ Keeps.setCells _ _ _ _
      have h19 : V18.heap[p]? = some (.cells (Sp (Kec.takes s blk) zero136 n m) 90 (0, 0)) := eV18 ▸ (heap_setCells p _ _ 25 _ _ h16 (by rw [Sp_size _ _ _ _ (Kec.len_takes s blk) hb]; simp [B_length, zero136])).trans (congrArg (fun c => some (Obj.cells c 90 (0, 0))) (Sp_seg_zero _ _ _ _ (Kec.len_takes s blk) hb))
      refine ps_s (o_ktakes 7 5) (w' := V18) (by rw [← eV18]; exact exec_store_mid 88 (.tmp 36) (.tmp 34) (by kernel_rfl) p 25 (by kernel_rfl) ((B zero136).toArray) (by kernel_rfl) _ _ h16 (by rw [Sp_size _ _ _ _ (Kec.len_takes s blk) hb]; simp [B_length, zero136]) (by kernel_rfl) (by rw [List.all_toArray]; exact List.all_eq_true.2 (B_one _))) ?_
      clear eV18
      have K20 : Keeps (One p) w V18 := K17.then kV18 (fun i hi hm => by unfold Own.One at hm; subst hm; exact rfl)
      refine ps_k (o_ktakes 7 6) (pT p 0) ?_
      refine ps_k (o_ktakes 7 7) (pT p 161) ?_
      obtain ⟨V21, eV21, kV21⟩ := cell_step V18 p 161 (.int .i64 0)
      have h22 : V21.heap[p]? = some (.cells (Sp (Kec.takes s blk) zero136 0 m) 90 (0, 0)) := eV21 ▸ ((heap_setCell_same _ p 161 _ _ (.int .i64 0) h19).trans (congrArg (fun c => some (Obj.cells c 90 (0, 0))) (show (Sp (Kec.takes s blk) zero136 n m : Array Value).setIfInBounds 161 (.int .i64 0) = Sp (Kec.takes s blk) zero136 0 m from Sp_set_n _ _ _ _ _ (Kec.len_takes s blk) zero136_len)))
      refine ps_s (o_ktakes 7 8) (w' := V21) (by rw [← eV21]; exact exec_store_cell 3 (.tmp 38) (.const (.int .i64 0)) (by kernel_rfl) p 161 (by kernel_rfl) (.int .i64 0) (by kernel_rfl) (by kernel_rfl) (by kernel_rfl) (iN n) (rc (h19) (Sp_n _ _ _ _ (Kec.len_takes s blk) zero136_len)) (frozen_of_row _ _ _ _ _ h19) (by kernel_rfl)) ?_
      clear eV21
      have K23 : Keeps (One p) w V21 := K20.then kV21 (fun i hi hm => by unfold Own.One at hm; subst hm; exact rfl)
      refine ps_end ?_
      refine sy_fall (.tuple #[]) rfl (by kernel_rfl) ?_
      exact ⟨rfl, h22, K23⟩

/-- The block of a sponge that took bytes. -/
def blkOf (l : List UInt8) : List UInt8 := Kec.restOf l ++ List.replicate (136 - l.length % 136) 0
theorem blkOf_len (l : List UInt8) : (blkOf l).length = 136 := by unfold blkOf; rw [List.length_append, Kec.restOf_len, List.length_replicate]; omega
theorem blkOf_cut (l y : List UInt8) (h : l.length % 136 + y.length ≤ 136) : (blkOf l).take (l.length % 136) ++ y ++ (blkOf l).drop (l.length % 136 + y.length) = Kec.restOf l ++ y ++ List.replicate (136 - l.length % 136 - y.length) 0 := by
  have hr := Kec.restOf_len l
  unfold blkOf
  rw [List.take_left' hr, List.drop_append, List.drop_of_length_le (by omega), List.nil_append, hr, Nat.add_sub_cancel_left, List.drop_replicate]
theorem write_some (l y : List UInt8) (h : l.length % 136 + y.length < 136) : (blkOf l).take (l.length % 136) ++ y ++ (blkOf l).drop (l.length % 136 + y.length) = blkOf (l ++ y) ∧ Kec.stateOf l = Kec.stateOf (l ++ y) ∧ l.length % 136 + y.length = (l ++ y).length % 136 := by
  have hr := Kec.restOf_len l
  have hs := Kec.sponge_some l y (by omega)
  have hl : l.length % 136 + y.length = (l ++ y).length % 136 := by rw [List.length_append]; omega
  refine ⟨?_, hs.1.symm, hl⟩
  rw [blkOf_cut l y (by omega)]
  unfold blkOf
  rw [hs.2, ← hl, Nat.sub_sub]
theorem write_full (l y : List UInt8) (h : l.length % 136 + y.length = 136) : Kec.takes (Kec.stateOf l) ((blkOf l).take (l.length % 136) ++ y ++ (blkOf l).drop (l.length % 136 + y.length)) = Kec.stateOf (l ++ y) ∧ zero136 = blkOf (l ++ y) ∧ 0 = (l ++ y).length % 136 := by
  have hr := Kec.restOf_len l
  have hs := Kec.sponge_fill l y (by omega)
  have hl : 0 = (l ++ y).length % 136 := by rw [List.length_append]; omega
  refine ⟨?_, ?_, hl⟩
  · rw [blkOf_cut l y (by omega), hs.1, show 136 - l.length % 136 - y.length = 0 by omega]; simp
  · unfold blkOf zero136
    rw [hs.2, ← hl]; simp
theorem wcase (n r : Nat) (hr : r < 136) : (∃ c, 0 < n ∧ c = n ∧ c = Nat.min n (136 - r) ∧ r + c < 136) ∨ (∃ c, 0 < n ∧ c ≤ n ∧ c = Nat.min n (136 - r) ∧ r + c = 136) ∨ n = 0 := by
  have h : Nat.min n (136 - r) = if n ≤ 136 - r then n else 136 - r := Nat.min_def
  by_cases h0 : n = 0
  · exact .inr (.inr h0)
  · by_cases h1 : r + n < 136
    · exact .inl ⟨n, by omega, rfl, by rw [h, if_pos (by omega)], h1⟩
    · refine .inr (.inl ⟨136 - r, by omega, by omega, ?_, by omega⟩)
      rw [h]; split <;> omega
def sliceLen : Value → Nat | .slice _ n _ => n | _ => 0
/-- A sponge at p that took the bytes l. -/
def SpAt (w : World) (p : Nat) (l : List UInt8) : Prop := w.heap[p]? = some (.cells (Sp (Kec.stateOf l) (blkOf l) (l.length % 136) l.length) 90 (0, 0))
theorem take_step (x : List UInt8) (k c : Nat) : x.take (k + c) = x.take k ++ (x.drop k).take c := by rw [List.take_add]
theorem sp_next (l x y : List UInt8) (k c m : Nat) (hy : y = (x.drop k).take c) (cs : Array Value) (h : cs = Sp (Kec.stateOf (l ++ x.take k ++ y)) (blkOf (l ++ x.take k ++ y)) ((l ++ x.take k ++ y).length % 136) m) : cs = Sp (Kec.stateOf (l ++ x.take (k + c))) (blkOf (l ++ x.take (k + c))) ((l ++ x.take (k + c)).length % 136) m := by
  rw [h, hy, take_step, List.append_assoc]

theorem cut_block (A : Option Addr) (n cap c j : Nat) (h : (Value.slice (if cap = c then A else A.map (·.add c)) (n - c) (cap - c)).ownBlock = some j) : (Value.slice A n cap).ownBlock = some j := by
  cases A with
  | none => split at h <;> simp [Value.ownBlock] at h
  | some a =>
    have hb : (a.add c).block = a.block := by unfold Addr.add; split <;> rfl
    split at h
    · exact h
    · simp only [Value.ownBlock, Option.map_some, hb] at h ⊢; exact h
noncomputable def part_kwrite (n : Nat) : Code := partOf Try.f66 n
noncomputable abbrev o_kwrite (n k : Nat) : Oper := (opsAt (part_kwrite n)).getD k default
set_option maxRecDepth 100000 in
set_option maxHeartbeats 4000000 in
theorem kwrite_ok (p : Nat) (l x : List UInt8) (A0 : Option Addr) (cap0 : Nat) (w : World) (hp : SpAt w p l) (hx : BytesAt w (.slice A0 x.length cap0) x) (hA0 : 0 < x.length → ∀ j, (Value.slice A0 x.length cap0).ownBlock = some j → j ≠ p) (hl : l.length + x.length ≤ 9000000000000000000) :
    Calls Try.prog 66 #[.pointer (some ⟨p, 0, none⟩), .slice A0 x.length cap0] w (fun e w' => e = .returned (.tuple #[]) ∧ SpAt w' p (l ++ x) ∧ Keeps (One p) w w') := by
  have K0 : Keeps (One p) w w := Keeps.refl _ _
  refine sy_enter (part_kwrite 1) ⟨#[pT p 0, .slice A0 x.length cap0, undef, undef, undef, undef, undef, undef, undef, undef, undef, undef, undef, undef, undef, undef, undef, undef, undef, undef, undef, undef, undef, undef, undef, undef, undef, undef, undef, undef, undef, undef, undef, undef, undef, undef, undef, undef, undef, undef, undef, undef, undef, undef, undef], []⟩ Try.func66 (by kernel_rfl) (by kernel_rfl) ?_
  refine sy_sq (part_kwrite 2) (part_kwrite 3) ?_
  refine sy_reg ?_
  refine rg_plain 0 (opsAt (part_kwrite 2)) [0, 1, 2, 3, 4, 5, 6, 7, 8, 9] (by kernel_rfl) (by kernel_rfl) ?_
  refine ps_k (o_kwrite 2 0) (pT p 0) ?_
  refine ps_k (o_kwrite 2 1) (pT p 0) ?_
  refine ps_k (o_kwrite 2 2) (pT p 162) ?_
  refine ps_p (o_kwrite 2 3) (iN l.length) (exec_ld 3 (.tmp 7) p 162 Try.underlying3 (rc (hp) (Sp_m _ _ _ _ (Kec.len_stateOf _) (blkOf_len _)))) ?_
  refine ps_k (o_kwrite 2 4) (.slice A0 x.length cap0) ?_
  refine ps_p (o_kwrite 2 5) (iN x.length) (exec_len (.tmp 9) 22 _ (by kernel_rfl) Try.underlying22 A0 x.length cap0 (by kernel_rfl)) ?_
  refine ps_p (o_kwrite 2 6) (iN (l.length + x.length)) (exec_cast (congrArg (Value.int .i64) (wrapN (l.length + x.length) (by omega))) (by kernel_rfl)) ?_
  refine ps_k (o_kwrite 2 7) (pT p 0) ?_
  refine ps_k (o_kwrite 2 8) (pT p 162) ?_
  obtain ⟨V1, eV1, kV1⟩ := cell_step w p 162 (.int .i64 ((l.length + x.length : Nat) : Int))
  have h2 : V1.heap[p]? = some (.cells (Sp (Kec.stateOf l) (blkOf l) (l.length % 136) (l.length + x.length)) 90 (0, 0)) := eV1 ▸ ((heap_setCell_same _ p 162 _ _ (.int .i64 ((l.length + x.length : Nat) : Int)) hp).trans (congrArg (fun c => some (Obj.cells c 90 (0, 0))) (show (Sp (Kec.stateOf l) (blkOf l) (l.length % 136) l.length : Array Value).setIfInBounds 162 (.int .i64 ((l.length + x.length : Nat) : Int)) = Sp (Kec.stateOf l) (blkOf l) (l.length % 136) (l.length + x.length) from Sp_set_m _ _ _ _ _ (Kec.len_stateOf _) (blkOf_len _))))
  refine ps_s (o_kwrite 2 9) (w' := V1) (by rw [← eV1]; exact exec_store_cell 3 (.tmp 13) (.tmp 11) (by kernel_rfl) p 162 (by kernel_rfl) (iN (l.length + x.length)) (by kernel_rfl) (by kernel_rfl) (by kernel_rfl) (iN l.length) (rc (hp) (Sp_m _ _ _ _ (Kec.len_stateOf _) (blkOf_len _))) (frozen_of_row _ _ _ _ _ hp) (by kernel_rfl)) ?_
  clear eV1
  have h3 : BytesAt V1 (.slice A0 x.length cap0) x := hx.keeps0 kV1 (fun hn j hj e => hA0 hn j hj e)
  have K4 : Keeps (One p) w V1 := K0.then kV1 (fun i hi hm => by unfold Own.One at hm; subst hm; exact rfl)
  refine ps_end ?_
  refine then_n ?_
  refine sy_bk 0 (part_kwrite 6) ?_
  refine sy_loop (part_kwrite 12) (fun a V => ∃ (k : Nat) (n : Nat) (cap : Nat) (A : Option Addr) (u4 u14 u15 u16 u17 u18 u19 u20 u21 u22 u23 u24 u25 u26 u27 u28 u29 u30 u31 u32 u33 u34 u35 u36 u37 u38 u39 u40 u41 u42 u43 u44 : Value), (a = ⟨#[pT p 0, .slice A n cap, undef, undef, u4, pT p 0, pT p 0, pT p 162, iN l.length, .slice A0 x.length cap0, iN x.length, iN (l.length + x.length), pT p 0, pT p 162, u14, u15, u16, u17, u18, u19, u20, u21, u22, u23, u24, u25, u26, u27, u28, u29, u30, u31, u32, u33, u34, u35, u36, u37, u38, u39, u40, u41, u42, u43, u44], []⟩) ∧ (n + k = x.length) ∧ (0 < n → ∀ j, (Value.slice A n cap).ownBlock = some j → j ≠ p) ∧ (BytesAt V (.slice A n cap) (x.drop k)) ∧ (V.heap[p]? = some (.cells (Sp (Kec.stateOf (l ++ x.take k)) (blkOf (l ++ x.take k)) ((l ++ x.take k).length % 136) (l.length + x.length)) 90 (0, 0))) ∧ (Keeps (One p) w V)) (fun a _ => sliceLen (a.tmps.getD 1 undef)) (by kernel_rfl) ?_ ?_
  · exact ⟨0, x.length, cap0, A0, undef, undef, undef, undef, undef, undef, undef, undef, undef, undef, undef, undef, undef, undef, undef, undef, undef, undef, undef, undef, undef, undef, undef, undef, undef, undef, undef, undef, undef, undef, undef, undef, by kernel_rfl, rfl, hA0, h3, h2.trans (by rw [List.take_zero, List.append_nil]), K4⟩
  · rintro a V5 ⟨k, n, cap, A, u4, u14, u15, u16, u17, u18, u19, u20, u21, u22, u23, u24, u25, u26, u27, u28, u29, u30, u31, u32, u33, u34, u35, u36, u37, u38, u39, u40, u41, u42, u43, u44, rfl, hkn, hA, h6, h7, K8⟩
    rcases wcase n ((l ++ x.take k).length % 136) (Nat.mod_lt _ (by decide)) with ⟨c, h0, hcn, hcm, hcr⟩ | ⟨c, h0, hcn, hcm, hcr⟩ | h0
    · show _
      refine sy_sq (part_kwrite 24) (part_kwrite 25) ?_
      refine sy_sq (part_kwrite 48) (part_kwrite 49) ?_
      refine sy_reg ?_
      refine rg_plain 1 (opsAt (part_kwrite 48)) [0, 1, 2] (by kernel_rfl) (by kernel_rfl) ?_
      refine ps_k (o_kwrite 48 0) (.slice A n cap) ?_
      refine ps_p (o_kwrite 48 1) (iN n) (exec_len (.tmp 14) 22 _ (by kernel_rfl) Try.underlying22 A n cap (by kernel_rfl)) ?_
      refine ps_p (o_kwrite 48 2) (.bool true) (dct ((((n : Nat) : Int)) > ((0) : Int)) (by omega)) ?_
      refine ps_end ?_
      refine then_n ?_
      refine sy_ys (.tmp 16) (part_kwrite 98) (part_kwrite 99) ?_
      refine sy_sk ?_
      refine then_n ?_
      refine sy_bk 1 (part_kwrite 50) ?_
      refine sy_sq (part_kwrite 100) (part_kwrite 101) ?_
      refine sy_reg ?_
      refine rg_still 2 9 (opsAt (part_kwrite 100)) [o_kwrite 100 0, o_kwrite 100 1, o_kwrite 100 2, o_kwrite 100 3, o_kwrite 100 4, o_kwrite 100 5, o_kwrite 100 6, o_kwrite 100 7, o_kwrite 100 8] [o_kwrite 100 9, o_kwrite 100 10] (by kernel_rfl) (by kernel_rfl) (by kernel_rfl) (by kernel_rfl) (by kernel_rfl) ?_
      obtain ⟨V10, eV10, kV10⟩ := drew_step V5
      rw [eV10]
      clear eV10
      have h11 : BytesAt V10 (.slice A n cap) (x.drop k) := h6.keepsN kV10
      have h12 := kV10.bk h7
      have K13 := K8.nn kV10
      refine st_k (o_kwrite 100 0) (pT p 0) ?_
      refine st_k (o_kwrite 100 1) (pT p 0) ?_
      refine st_k (o_kwrite 100 2) (pT p 25) ?_
      refine st_k (o_kwrite 100 3) (pT p 0) ?_
      refine st_k (o_kwrite 100 4) (pT p 0) ?_
      refine st_k (o_kwrite 100 5) (pT p 161) ?_
      refine st_p (o_kwrite 100 6) (iN ((l ++ x.take k).length % 136)) (exec_ld 3 (.tmp 22) p 161 Try.underlying3 (rc (h12) (Sp_n _ _ _ _ (Kec.len_stateOf _) (blkOf_len _)))) ?_
      refine st_p (o_kwrite 100 7) (.slice (some ⟨p, 25 + ((l ++ x.take k).length % 136), none⟩) (136 - ((l ++ x.take k).length % 136)) (136 - ((l ++ x.take k).length % 136))) (exec_slice_arr 88 (.tmp 19) (.tmp 23) (by kernel_rfl) p 25 (by kernel_rfl) .i64 ((l ++ x.take k).length % 136) (by kernel_rfl) 136 5 Try.underlying88 (by kernel_rfl) (Nat.mod_lt _ (by decide))) ?_
      refine st_k (o_kwrite 100 8) (.slice A n cap) ?_
      refine st_end ?_
      have hyl : ((x.drop k).take c).length = c := by rw [List.length_take, List.length_drop]; omega
      have hrk : (l ++ x.take k).length % 136 < 136 := Nat.mod_lt _ (by decide)
      obtain ⟨V14, eV14⟩ : ∃ V, V10.setRow p (seg (Sp (Kec.stateOf (l ++ x.take k)) (blkOf (l ++ x.take k)) ((l ++ x.take k).length % 136) (l.length + x.length)) (25 + ((l ++ x.take k).length % 136)) (B ((x.drop k).take c))) = V := ⟨_, rfl⟩
      have kV14 : Keeps (One p) V10 V14 := eV14 ▸ (Keeps.refl (One p) _).setRow (fun _ => (rfl : Own.One p p)) _
      have h15 : V14.heap[p]? = some (.cells (Sp (Kec.stateOf (l ++ x.take k)) ((blkOf (l ++ x.take k)).take ((l ++ x.take k).length % 136) ++ ((x.drop k).take c) ++ (blkOf (l ++ x.take k)).drop ((l ++ x.take k).length % 136 + ((x.drop k).take c).length)) ((l ++ x.take k).length % 136) (l.length + x.length)) 90 (0, 0)) := eV14 ▸ (setRow_heap _ _ _ _ _ _ h12).trans (congrArg (fun c => some (Obj.cells c 90 (0, 0))) (Sp_seg_bytes _ _ _ _ _ _ (Kec.len_stateOf _) (by rw [blkOf_len, hyl]; omega)))
      refine ls_run (o_kwrite 100 9) (w' := V14) (iN c) (by kernel_rfl) (by rw [← eV14]; exact exec_copy (.tmp 24) (.tmp 25) 22 (by kernel_rfl) 5 Try.underlying22 (by kernel_rfl) p (25 + ((l ++ x.take k).length % 136)) (136 - ((l ++ x.take k).length % 136)) (136 - ((l ++ x.take k).length % 136)) (by kernel_rfl) (.slice A n cap) (x.drop k) (by kernel_rfl) h11 _ _ h12 c (by rw [List.length_drop, show x.length - k = n by omega]; exact hcm) (by rw [Sp_size _ _ _ _ (Kec.len_stateOf _) (blkOf_len _)]; omega) (by rw [List.length_drop]; omega)) ?_
      clear eV14
      have h16 : BytesAt V14 (.slice A n cap) (x.drop k) := h11.keeps0 kV14 (fun hn j hj e => hA (by rw [List.length_drop] at hn; omega) j hj e)
      have K17 : Keeps (One p) w V14 := K13.then kV14 (fun i hi hm => by unfold Own.One at hm; subst hm; exact rfl)
      refine ls_run (o_kwrite 100 10) (iN c) (w' := V14) (by kernel_rfl) (by kernel_rfl) ?_
      refine ls_end ?_
      refine then_n ?_
      refine sy_sq (part_kwrite 202) (part_kwrite 203) ?_
      refine sy_reg ?_
      refine rg_plain 3 (opsAt (part_kwrite 202)) [0, 1, 2, 3, 4, 5, 6, 7, 8] (by kernel_rfl) (by kernel_rfl) ?_
      refine ps_k (o_kwrite 202 0) (pT p 0) ?_
      refine ps_k (o_kwrite 202 1) (pT p 0) ?_
      refine ps_k (o_kwrite 202 2) (pT p 161) ?_
      refine ps_p (o_kwrite 202 3) (iN ((l ++ x.take k).length % 136)) (exec_ld 3 (.tmp 29) p 161 Try.underlying3 (rc (h15) (Sp_n _ _ _ _ (Kec.len_stateOf _) ((by rw [List.length_append, List.length_append, List.length_take, List.length_drop, blkOf_len, hyl]; omega : ((blkOf (l ++ x.take k)).take ((l ++ x.take k).length % 136) ++ ((x.drop k).take c) ++ (blkOf (l ++ x.take k)).drop ((l ++ x.take k).length % 136 + ((x.drop k).take c).length)).length = 136))))) ?_
      refine ps_k (o_kwrite 202 4) (iN c) ?_
      refine ps_p (o_kwrite 202 5) (iN (((l ++ x.take k).length % 136) + c)) (exec_cast (congrArg (Value.int .i64) (wrapN (((l ++ x.take k).length % 136) + c) (by omega))) (by kernel_rfl)) ?_
      refine ps_k (o_kwrite 202 6) (pT p 0) ?_
      refine ps_k (o_kwrite 202 7) (pT p 161) ?_
      obtain ⟨V18, eV18, kV18⟩ := cell_step V14 p 161 (.int .i64 ((((l ++ x.take k).length % 136) + c : Nat) : Int))
      have h19 : V18.heap[p]? = some (.cells (Sp (Kec.stateOf (l ++ x.take k)) ((blkOf (l ++ x.take k)).take ((l ++ x.take k).length % 136) ++ ((x.drop k).take c) ++ (blkOf (l ++ x.take k)).drop ((l ++ x.take k).length % 136 + ((x.drop k).take c).length)) (((l ++ x.take k).length % 136) + c) (l.length + x.length)) 90 (0, 0)) := eV18 ▸ ((heap_setCell_same _ p 161 _ _ (.int .i64 ((((l ++ x.take k).length % 136) + c : Nat) : Int)) h15).trans (congrArg (fun c => some (Obj.cells c 90 (0, 0))) (show (Sp (Kec.stateOf (l ++ x.take k)) ((blkOf (l ++ x.take k)).take ((l ++ x.take k).length % 136) ++ ((x.drop k).take c) ++ (blkOf (l ++ x.take k)).drop ((l ++ x.take k).length % 136 + ((x.drop k).take c).length)) ((l ++ x.take k).length % 136) (l.length + x.length) : Array Value).setIfInBounds 161 (.int .i64 ((((l ++ x.take k).length % 136) + c : Nat) : Int)) = Sp (Kec.stateOf (l ++ x.take k)) ((blkOf (l ++ x.take k)).take ((l ++ x.take k).length % 136) ++ ((x.drop k).take c) ++ (blkOf (l ++ x.take k)).drop ((l ++ x.take k).length % 136 + ((x.drop k).take c).length)) (((l ++ x.take k).length % 136) + c) (l.length + x.length) from Sp_set_n _ _ _ _ _ (Kec.len_stateOf _) ((by rw [List.length_append, List.length_append, List.length_take, List.length_drop, blkOf_len, hyl]; omega : ((blkOf (l ++ x.take k)).take ((l ++ x.take k).length % 136) ++ ((x.drop k).take c) ++ (blkOf (l ++ x.take k)).drop ((l ++ x.take k).length % 136 + ((x.drop k).take c).length)).length = 136)))))
      refine ps_s (o_kwrite 202 8) (w' := V18) (by rw [← eV18]; exact exec_store_cell 3 (.tmp 34) (.tmp 32) (by kernel_rfl) p 161 (by kernel_rfl) (iN (((l ++ x.take k).length % 136) + c)) (by kernel_rfl) (by kernel_rfl) (by kernel_rfl) (iN ((l ++ x.take k).length % 136)) (rc (h15) (Sp_n _ _ _ _ (Kec.len_stateOf _) ((by rw [List.length_append, List.length_append, List.length_take, List.length_drop, blkOf_len, hyl]; omega : ((blkOf (l ++ x.take k)).take ((l ++ x.take k).length % 136) ++ ((x.drop k).take c) ++ (blkOf (l ++ x.take k)).drop ((l ++ x.take k).length % 136 + ((x.drop k).take c).length)).length = 136)))) (frozen_of_row _ _ _ _ _ h15) (by kernel_rfl)) ?_
      clear eV18
      have h20 : BytesAt V18 (.slice A n cap) (x.drop k) := h16.keeps0 kV18 (fun hn j hj e => hA (by rw [List.length_drop] at hn; omega) j hj e)
      have K21 : Keeps (One p) w V18 := K17.then kV18 (fun i hi hm => by unfold Own.One at hm; subst hm; exact rfl)
      refine ps_end ?_
      refine then_n ?_
      refine sy_sq (part_kwrite 406) (part_kwrite 407) ?_
      refine sy_reg ?_
      refine rg_plain 4 (opsAt (part_kwrite 406)) [0, 1, 2, 3] (by kernel_rfl) (by kernel_rfl) ?_
      refine ps_k (o_kwrite 406 0) (.slice A n cap) ?_
      refine ps_k (o_kwrite 406 1) (iN c) ?_
      refine ps_p (o_kwrite 406 2) (.slice (if cap = c then A else A.map (·.add c)) (n - c) (cap - c)) (exec_slice_from 22 (.tmp 35) (.tmp 36) (by kernel_rfl) A n cap (by kernel_rfl) .i64 c (by kernel_rfl) 5 Try.underlying22 (by kernel_rfl) (by omega)) ?_
      refine ps_k (o_kwrite 406 3) (.slice (if cap = c then A else A.map (·.add c)) (n - c) (cap - c)) ?_
      refine ps_end ?_
      refine sy_a ⟨#[pT p 0, .slice (if cap = c then A else A.map (·.add c)) (n - c) (cap - c), undef, undef, iN c, pT p 0, pT p 0, pT p 162, iN l.length, .slice A0 x.length cap0, iN x.length, iN (l.length + x.length), pT p 0, pT p 162, .slice A n cap, iN n, .bool true, pT p 0, pT p 0, pT p 25, pT p 0, pT p 0, pT p 161, iN ((l ++ x.take k).length % 136), .slice (some ⟨p, 25 + ((l ++ x.take k).length % 136), none⟩) (136 - ((l ++ x.take k).length % 136)) (136 - ((l ++ x.take k).length % 136)), .slice A n cap, iN c, pT p 0, pT p 0, pT p 161, iN ((l ++ x.take k).length % 136), iN c, iN (((l ++ x.take k).length % 136) + c), pT p 0, pT p 161, .slice A n cap, iN c, .slice (if cap = c then A else A.map (·.add c)) (n - c) (cap - c), u38, u39, u40, u41, u42, u43, u44], []⟩ ?_
      refine then_n ?_
      refine sy_sq (part_kwrite 814) (part_kwrite 815) ?_
      refine sy_reg ?_
      refine rg_plain 5 (opsAt (part_kwrite 814)) [0, 1, 2, 3, 4] (by kernel_rfl) (by kernel_rfl) ?_
      refine ps_k (o_kwrite 814 0) (pT p 0) ?_
      refine ps_k (o_kwrite 814 1) (pT p 0) ?_
      refine ps_k (o_kwrite 814 2) (pT p 161) ?_
      refine ps_p (o_kwrite 814 3) (iN (((l ++ x.take k).length % 136) + c)) (exec_ld 3 (.tmp 40) p 161 Try.underlying3 (rc (h19) (Sp_n _ _ _ _ (Kec.len_stateOf _) ((by rw [List.length_append, List.length_append, List.length_take, List.length_drop, blkOf_len, hyl]; omega : ((blkOf (l ++ x.take k)).take ((l ++ x.take k).length % 136) ++ ((x.drop k).take c) ++ (blkOf (l ++ x.take k)).drop ((l ++ x.take k).length % 136 + ((x.drop k).take c).length)).length = 136))))) ?_
      refine ps_p (o_kwrite 814 4) (.bool false) (exec_cast (congrArg Value.bool (show (((((((l ++ x.take k).length % 136) + c : Nat) : Int)) == ((136) : Int))) = false from by simp only [beq_eq_false_iff_ne, ne_eq]; omega)) (by kernel_rfl)) ?_
      refine ps_end ?_
      refine then_n ?_
      refine sy_n (.tmp 42) (part_kwrite 1630) (part_kwrite 1631) ?_
      refine sy_sk ?_
      refine blk_n ?_
      refine then_n ?_
      refine ⟨⟨k + c, n - c, cap - c, (if cap = c then A else A.map (·.add c)), (iN c), (.slice A n cap), (iN n), (.bool true), (pT p 0), (pT p 0), (pT p 25), (pT p 0), (pT p 0), (pT p 161), (iN ((l ++ x.take k).length % 136)), (.slice (some ⟨p, 25 + ((l ++ x.take k).length % 136), none⟩) (136 - ((l ++ x.take k).length % 136)) (136 - ((l ++ x.take k).length % 136))), (.slice A n cap), (iN c), (pT p 0), (pT p 0), (pT p 161), (iN ((l ++ x.take k).length % 136)), (iN c), (iN (((l ++ x.take k).length % 136) + c)), (pT p 0), (pT p 161), (.slice A n cap), (iN c), (.slice (if cap = c then A else A.map (·.add c)) (n - c) (cap - c)), (pT p 0), (pT p 0), (pT p 161), (iN (((l ++ x.take k).length % 136) + c)), (.bool false), u43, u44, by kernel_rfl, by omega, fun hn j hj => hA (by omega) j (cut_block A n cap c j hj), (show BytesAt _ (.slice (if cap = c then A else A.map (·.add c)) (n - c) (cap - c)) (x.drop (k + c)) from by have := BytesAt.drop h20 c (by rw [List.length_drop]; omega) _ _ _ rfl; rwa [List.drop_drop] at this), h19.trans (congrArg (fun c => some (Obj.cells c 90 (0, 0))) (sp_next l x _ k c _ rfl _ (by obtain ⟨e1, e2, e3⟩ := write_some (l ++ x.take k) ((x.drop k).take c) (by rw [hyl]; omega); rw [← e1, ← e2, ← e3, hyl]))), K21⟩, ?_⟩
      exact lt_meas (x := n - c) (y := n) (by kernel_rfl) (by kernel_rfl) (by omega)
    · show _
      refine sy_sq (part_kwrite 24) (part_kwrite 25) ?_
      refine sy_sq (part_kwrite 48) (part_kwrite 49) ?_
      refine sy_reg ?_
      refine rg_plain 1 (opsAt (part_kwrite 48)) [0, 1, 2] (by kernel_rfl) (by kernel_rfl) ?_
      refine ps_k (o_kwrite 48 0) (.slice A n cap) ?_
      refine ps_p (o_kwrite 48 1) (iN n) (exec_len (.tmp 14) 22 _ (by kernel_rfl) Try.underlying22 A n cap (by kernel_rfl)) ?_
      refine ps_p (o_kwrite 48 2) (.bool true) (dct ((((n : Nat) : Int)) > ((0) : Int)) (by omega)) ?_
      refine ps_end ?_
      refine then_n ?_
      refine sy_ys (.tmp 16) (part_kwrite 98) (part_kwrite 99) ?_
      refine sy_sk ?_
      refine then_n ?_
      refine sy_bk 1 (part_kwrite 50) ?_
      refine sy_sq (part_kwrite 100) (part_kwrite 101) ?_
      refine sy_reg ?_
      refine rg_still 2 9 (opsAt (part_kwrite 100)) [o_kwrite 100 0, o_kwrite 100 1, o_kwrite 100 2, o_kwrite 100 3, o_kwrite 100 4, o_kwrite 100 5, o_kwrite 100 6, o_kwrite 100 7, o_kwrite 100 8] [o_kwrite 100 9, o_kwrite 100 10] (by kernel_rfl) (by kernel_rfl) (by kernel_rfl) (by kernel_rfl) (by kernel_rfl) ?_
      obtain ⟨V23, eV23, kV23⟩ := drew_step V5
      rw [eV23]
      clear eV23
      have h24 : BytesAt V23 (.slice A n cap) (x.drop k) := h6.keepsN kV23
      have h25 := kV23.bk h7
      have K26 := K8.nn kV23
      refine st_k (o_kwrite 100 0) (pT p 0) ?_
      refine st_k (o_kwrite 100 1) (pT p 0) ?_
      refine st_k (o_kwrite 100 2) (pT p 25) ?_
      refine st_k (o_kwrite 100 3) (pT p 0) ?_
      refine st_k (o_kwrite 100 4) (pT p 0) ?_
      refine st_k (o_kwrite 100 5) (pT p 161) ?_
      refine st_p (o_kwrite 100 6) (iN ((l ++ x.take k).length % 136)) (exec_ld 3 (.tmp 22) p 161 Try.underlying3 (rc (h25) (Sp_n _ _ _ _ (Kec.len_stateOf _) (blkOf_len _)))) ?_
      refine st_p (o_kwrite 100 7) (.slice (some ⟨p, 25 + ((l ++ x.take k).length % 136), none⟩) (136 - ((l ++ x.take k).length % 136)) (136 - ((l ++ x.take k).length % 136))) (exec_slice_arr 88 (.tmp 19) (.tmp 23) (by kernel_rfl) p 25 (by kernel_rfl) .i64 ((l ++ x.take k).length % 136) (by kernel_rfl) 136 5 Try.underlying88 (by kernel_rfl) (Nat.mod_lt _ (by decide))) ?_
      refine st_k (o_kwrite 100 8) (.slice A n cap) ?_
      refine st_end ?_
      have hyl : ((x.drop k).take c).length = c := by rw [List.length_take, List.length_drop]; omega
      have hrk : (l ++ x.take k).length % 136 < 136 := Nat.mod_lt _ (by decide)
      obtain ⟨V27, eV27⟩ : ∃ V, V23.setRow p (seg (Sp (Kec.stateOf (l ++ x.take k)) (blkOf (l ++ x.take k)) ((l ++ x.take k).length % 136) (l.length + x.length)) (25 + ((l ++ x.take k).length % 136)) (B ((x.drop k).take c))) = V := ⟨_, rfl⟩
      have kV27 : Keeps (One p) V23 V27 := eV27 ▸ (Keeps.refl (One p) _).setRow (fun _ => (rfl : Own.One p p)) _
      have h28 : V27.heap[p]? = some (.cells (Sp (Kec.stateOf (l ++ x.take k)) ((blkOf (l ++ x.take k)).take ((l ++ x.take k).length % 136) ++ ((x.drop k).take c) ++ (blkOf (l ++ x.take k)).drop ((l ++ x.take k).length % 136 + ((x.drop k).take c).length)) ((l ++ x.take k).length % 136) (l.length + x.length)) 90 (0, 0)) := eV27 ▸ (setRow_heap _ _ _ _ _ _ h25).trans (congrArg (fun c => some (Obj.cells c 90 (0, 0))) (Sp_seg_bytes _ _ _ _ _ _ (Kec.len_stateOf _) (by rw [blkOf_len, hyl]; omega)))
      refine ls_run (o_kwrite 100 9) (w' := V27) (iN c) (by kernel_rfl) (by rw [← eV27]; exact exec_copy (.tmp 24) (.tmp 25) 22 (by kernel_rfl) 5 Try.underlying22 (by kernel_rfl) p (25 + ((l ++ x.take k).length % 136)) (136 - ((l ++ x.take k).length % 136)) (136 - ((l ++ x.take k).length % 136)) (by kernel_rfl) (.slice A n cap) (x.drop k) (by kernel_rfl) h24 _ _ h25 c (by rw [List.length_drop, show x.length - k = n by omega]; exact hcm) (by rw [Sp_size _ _ _ _ (Kec.len_stateOf _) (blkOf_len _)]; omega) (by rw [List.length_drop]; omega)) ?_
      clear eV27
      have h29 : BytesAt V27 (.slice A n cap) (x.drop k) := h24.keeps0 kV27 (fun hn j hj e => hA (by rw [List.length_drop] at hn; omega) j hj e)
      have K30 : Keeps (One p) w V27 := K26.then kV27 (fun i hi hm => by unfold Own.One at hm; subst hm; exact rfl)
      refine ls_run (o_kwrite 100 10) (iN c) (w' := V27) (by kernel_rfl) (by kernel_rfl) ?_
      refine ls_end ?_
      refine then_n ?_
      refine sy_sq (part_kwrite 202) (part_kwrite 203) ?_
      refine sy_reg ?_
      refine rg_plain 3 (opsAt (part_kwrite 202)) [0, 1, 2, 3, 4, 5, 6, 7, 8] (by kernel_rfl) (by kernel_rfl) ?_
      refine ps_k (o_kwrite 202 0) (pT p 0) ?_
      refine ps_k (o_kwrite 202 1) (pT p 0) ?_
      refine ps_k (o_kwrite 202 2) (pT p 161) ?_
      refine ps_p (o_kwrite 202 3) (iN ((l ++ x.take k).length % 136)) (exec_ld 3 (.tmp 29) p 161 Try.underlying3 (rc (h28) (Sp_n _ _ _ _ (Kec.len_stateOf _) ((by rw [List.length_append, List.length_append, List.length_take, List.length_drop, blkOf_len, hyl]; omega : ((blkOf (l ++ x.take k)).take ((l ++ x.take k).length % 136) ++ ((x.drop k).take c) ++ (blkOf (l ++ x.take k)).drop ((l ++ x.take k).length % 136 + ((x.drop k).take c).length)).length = 136))))) ?_
      refine ps_k (o_kwrite 202 4) (iN c) ?_
      refine ps_p (o_kwrite 202 5) (iN (((l ++ x.take k).length % 136) + c)) (exec_cast (congrArg (Value.int .i64) (wrapN (((l ++ x.take k).length % 136) + c) (by omega))) (by kernel_rfl)) ?_
      refine ps_k (o_kwrite 202 6) (pT p 0) ?_
      refine ps_k (o_kwrite 202 7) (pT p 161) ?_
      obtain ⟨V31, eV31, kV31⟩ := cell_step V27 p 161 (.int .i64 ((((l ++ x.take k).length % 136) + c : Nat) : Int))
      have h32 : V31.heap[p]? = some (.cells (Sp (Kec.stateOf (l ++ x.take k)) ((blkOf (l ++ x.take k)).take ((l ++ x.take k).length % 136) ++ ((x.drop k).take c) ++ (blkOf (l ++ x.take k)).drop ((l ++ x.take k).length % 136 + ((x.drop k).take c).length)) (((l ++ x.take k).length % 136) + c) (l.length + x.length)) 90 (0, 0)) := eV31 ▸ ((heap_setCell_same _ p 161 _ _ (.int .i64 ((((l ++ x.take k).length % 136) + c : Nat) : Int)) h28).trans (congrArg (fun c => some (Obj.cells c 90 (0, 0))) (show (Sp (Kec.stateOf (l ++ x.take k)) ((blkOf (l ++ x.take k)).take ((l ++ x.take k).length % 136) ++ ((x.drop k).take c) ++ (blkOf (l ++ x.take k)).drop ((l ++ x.take k).length % 136 + ((x.drop k).take c).length)) ((l ++ x.take k).length % 136) (l.length + x.length) : Array Value).setIfInBounds 161 (.int .i64 ((((l ++ x.take k).length % 136) + c : Nat) : Int)) = Sp (Kec.stateOf (l ++ x.take k)) ((blkOf (l ++ x.take k)).take ((l ++ x.take k).length % 136) ++ ((x.drop k).take c) ++ (blkOf (l ++ x.take k)).drop ((l ++ x.take k).length % 136 + ((x.drop k).take c).length)) (((l ++ x.take k).length % 136) + c) (l.length + x.length) from Sp_set_n _ _ _ _ _ (Kec.len_stateOf _) ((by rw [List.length_append, List.length_append, List.length_take, List.length_drop, blkOf_len, hyl]; omega : ((blkOf (l ++ x.take k)).take ((l ++ x.take k).length % 136) ++ ((x.drop k).take c) ++ (blkOf (l ++ x.take k)).drop ((l ++ x.take k).length % 136 + ((x.drop k).take c).length)).length = 136)))))
      refine ps_s (o_kwrite 202 8) (w' := V31) (by rw [← eV31]; exact exec_store_cell 3 (.tmp 34) (.tmp 32) (by kernel_rfl) p 161 (by kernel_rfl) (iN (((l ++ x.take k).length % 136) + c)) (by kernel_rfl) (by kernel_rfl) (by kernel_rfl) (iN ((l ++ x.take k).length % 136)) (rc (h28) (Sp_n _ _ _ _ (Kec.len_stateOf _) ((by rw [List.length_append, List.length_append, List.length_take, List.length_drop, blkOf_len, hyl]; omega : ((blkOf (l ++ x.take k)).take ((l ++ x.take k).length % 136) ++ ((x.drop k).take c) ++ (blkOf (l ++ x.take k)).drop ((l ++ x.take k).length % 136 + ((x.drop k).take c).length)).length = 136)))) (frozen_of_row _ _ _ _ _ h28) (by kernel_rfl)) ?_
      clear eV31
      have h33 : BytesAt V31 (.slice A n cap) (x.drop k) := h29.keeps0 kV31 (fun hn j hj e => hA (by rw [List.length_drop] at hn; omega) j hj e)
      have K34 : Keeps (One p) w V31 := K30.then kV31 (fun i hi hm => by unfold Own.One at hm; subst hm; exact rfl)
      refine ps_end ?_
      refine then_n ?_
      refine sy_sq (part_kwrite 406) (part_kwrite 407) ?_
      refine sy_reg ?_
      refine rg_plain 4 (opsAt (part_kwrite 406)) [0, 1, 2, 3] (by kernel_rfl) (by kernel_rfl) ?_
      refine ps_k (o_kwrite 406 0) (.slice A n cap) ?_
      refine ps_k (o_kwrite 406 1) (iN c) ?_
      refine ps_p (o_kwrite 406 2) (.slice (if cap = c then A else A.map (·.add c)) (n - c) (cap - c)) (exec_slice_from 22 (.tmp 35) (.tmp 36) (by kernel_rfl) A n cap (by kernel_rfl) .i64 c (by kernel_rfl) 5 Try.underlying22 (by kernel_rfl) (by omega)) ?_
      refine ps_k (o_kwrite 406 3) (.slice (if cap = c then A else A.map (·.add c)) (n - c) (cap - c)) ?_
      refine ps_end ?_
      refine sy_a ⟨#[pT p 0, .slice (if cap = c then A else A.map (·.add c)) (n - c) (cap - c), undef, undef, iN c, pT p 0, pT p 0, pT p 162, iN l.length, .slice A0 x.length cap0, iN x.length, iN (l.length + x.length), pT p 0, pT p 162, .slice A n cap, iN n, .bool true, pT p 0, pT p 0, pT p 25, pT p 0, pT p 0, pT p 161, iN ((l ++ x.take k).length % 136), .slice (some ⟨p, 25 + ((l ++ x.take k).length % 136), none⟩) (136 - ((l ++ x.take k).length % 136)) (136 - ((l ++ x.take k).length % 136)), .slice A n cap, iN c, pT p 0, pT p 0, pT p 161, iN ((l ++ x.take k).length % 136), iN c, iN (((l ++ x.take k).length % 136) + c), pT p 0, pT p 161, .slice A n cap, iN c, .slice (if cap = c then A else A.map (·.add c)) (n - c) (cap - c), u38, u39, u40, u41, u42, u43, u44], []⟩ ?_
      refine then_n ?_
      refine sy_sq (part_kwrite 814) (part_kwrite 815) ?_
      refine sy_reg ?_
      refine rg_plain 5 (opsAt (part_kwrite 814)) [0, 1, 2, 3, 4] (by kernel_rfl) (by kernel_rfl) ?_
      refine ps_k (o_kwrite 814 0) (pT p 0) ?_
      refine ps_k (o_kwrite 814 1) (pT p 0) ?_
      refine ps_k (o_kwrite 814 2) (pT p 161) ?_
      refine ps_p (o_kwrite 814 3) (iN (((l ++ x.take k).length % 136) + c)) (exec_ld 3 (.tmp 40) p 161 Try.underlying3 (rc (h32) (Sp_n _ _ _ _ (Kec.len_stateOf _) ((by rw [List.length_append, List.length_append, List.length_take, List.length_drop, blkOf_len, hyl]; omega : ((blkOf (l ++ x.take k)).take ((l ++ x.take k).length % 136) ++ ((x.drop k).take c) ++ (blkOf (l ++ x.take k)).drop ((l ++ x.take k).length % 136 + ((x.drop k).take c).length)).length = 136))))) ?_
      refine ps_p (o_kwrite 814 4) (.bool true) (exec_cast (congrArg Value.bool (show (((((((l ++ x.take k).length % 136) + c : Nat) : Int)) == ((136) : Int))) = true from by simp only [beq_iff_eq]; omega)) (by kernel_rfl)) ?_
      refine ps_end ?_
      refine then_n ?_
      refine sy_ys (.tmp 42) (part_kwrite 1630) (part_kwrite 1631) ?_
      refine sy_reg ?_
      refine rg_plain 6 (opsAt (part_kwrite 1630)) [0, 1] (by kernel_rfl) (by kernel_rfl) ?_
      refine ps_k (o_kwrite 1630 0) (pT p 0) ?_
      refine ps_c (o_kwrite 1630 1) 91 #[pT p 0] Try.func91 ((ktakes_ok p _ _ _ _ (Kec.len_stateOf _) (Kec.ws_stateOf _) ((by rw [List.length_append, List.length_append, List.length_take, List.length_drop, blkOf_len, hyl]; omega : ((blkOf (l ++ x.take k)).take ((l ++ x.take k).length % 136) ++ ((x.drop k).take c) ++ (blkOf (l ++ x.take k)).drop ((l ++ x.take k).length % 136 + ((x.drop k).take c).length)).length = 136)) _ h32).mono ?_)
      rintro e V35 ⟨rfl, h36, kV35⟩
      refine ⟨_, rfl, ?_⟩
      have h37 : BytesAt V35 (.slice A n cap) (x.drop k) := h33.keeps0 kV35 (fun hn j hj e => hA (by rw [List.length_drop] at hn; omega) j hj e)
      have K38 : Keeps (One p) w V35 := K34.then kV35 (fun i hi hm => by unfold Own.One at hm; subst hm; exact rfl)
      refine ps_end ?_
      refine blk_n ?_
      refine then_n ?_
      refine ⟨⟨k + c, n - c, cap - c, (if cap = c then A else A.map (·.add c)), (iN c), (.slice A n cap), (iN n), (.bool true), (pT p 0), (pT p 0), (pT p 25), (pT p 0), (pT p 0), (pT p 161), (iN ((l ++ x.take k).length % 136)), (.slice (some ⟨p, 25 + ((l ++ x.take k).length % 136), none⟩) (136 - ((l ++ x.take k).length % 136)) (136 - ((l ++ x.take k).length % 136))), (.slice A n cap), (iN c), (pT p 0), (pT p 0), (pT p 161), (iN ((l ++ x.take k).length % 136)), (iN c), (iN (((l ++ x.take k).length % 136) + c)), (pT p 0), (pT p 161), (.slice A n cap), (iN c), (.slice (if cap = c then A else A.map (·.add c)) (n - c) (cap - c)), (pT p 0), (pT p 0), (pT p 161), (iN (((l ++ x.take k).length % 136) + c)), (.bool true), (pT p 0), (.tuple #[]), by kernel_rfl, by omega, fun hn j hj => hA (by omega) j (cut_block A n cap c j hj), (show BytesAt _ (.slice (if cap = c then A else A.map (·.add c)) (n - c) (cap - c)) (x.drop (k + c)) from by have := BytesAt.drop h37 c (by rw [List.length_drop]; omega) _ _ _ rfl; rwa [List.drop_drop] at this), h36.trans (congrArg (fun c => some (Obj.cells c 90 (0, 0))) (sp_next l x _ k c _ rfl _ (by obtain ⟨e1, e2, e3⟩ := write_full (l ++ x.take k) ((x.drop k).take c) (by rw [hyl]; omega); rw [← e1, ← e2, ← e3]))), K38⟩, ?_⟩
      exact lt_meas (x := n - c) (y := n) (by kernel_rfl) (by kernel_rfl) (by omega)
    · have hkx : x.take k = x := List.take_of_length_le (by omega)
      refine sy_sq (part_kwrite 24) (part_kwrite 25) ?_
      refine sy_sq (part_kwrite 48) (part_kwrite 49) ?_
      refine sy_reg ?_
      refine rg_plain 1 (opsAt (part_kwrite 48)) [0, 1, 2] (by kernel_rfl) (by kernel_rfl) ?_
      refine ps_k (o_kwrite 48 0) (.slice A n cap) ?_
      refine ps_p (o_kwrite 48 1) (iN n) (exec_len (.tmp 14) 22 _ (by kernel_rfl) Try.underlying22 A n cap (by kernel_rfl)) ?_
      refine ps_p (o_kwrite 48 2) (.bool false) (dcf ((((n : Nat) : Int)) > ((0) : Int)) (by omega)) ?_
      refine ps_end ?_
      refine then_n ?_
      refine sy_n (.tmp 16) (part_kwrite 98) (part_kwrite 99) ?_
      refine sy_exit 0 (by kernel_rfl) ?_
      refine then_e ?_
      refine then_e ?_
      refine blk_e ?_
      refine sy_fall (.tuple #[]) rfl (by kernel_rfl) ?_
      exact ⟨rfl, (by unfold SpAt; rw [List.length_append]; have h := h7; rw [hkx, List.length_append] at h; exact h), K8⟩

theorem xor8_fin : ∀ c : Fin 256, bits .xor .u8 ((c.val : Nat) : Int) 6 = ((c.val ^^^ 6 : Nat) : Int) ∧ bits .xor .u8 ((c.val : Nat) : Int) 128 = ((c.val ^^^ 128 : Nat) : Int) := by decide +kernel
theorem xor8_6 (c : UInt8) : Value.int .u8 (bits .xor .u8 ((c.toNat : Nat) : Int) 6) = .int .u8 (((c ^^^ 6).toNat : Nat) : Int) := congrArg _ (xor8_fin ⟨c.toNat, c.toNat_lt⟩).1
theorem xor8_128 (c : UInt8) : Value.int .u8 (bits .xor .u8 ((c.toNat : Nat) : Int) 128) = .int .u8 (((c ^^^ 128).toNat : Nat) : Int) := congrArg _ (xor8_fin ⟨c.toNat, c.toNat_lt⟩).2
theorem last_eq (l : List UInt8) : ((blkOf l).set (l.length % 136) ((blkOf l).getD (l.length % 136) 0 ^^^ 6)).set 135 (((blkOf l).set (l.length % 136) ((blkOf l).getD (l.length % 136) 0 ^^^ 6)).getD 135 0 ^^^ 128) = Kec.lastBlock (Kec.restOf l) := by
  have hr := Kec.restOf_len l
  have e1 : (blkOf l).getD (l.length % 136) 0 = 0 := by
    unfold blkOf
    rw [Kec.getD_right _ _ _ _ (by omega), hr, Nat.sub_self, List.getD_eq_getElem?_getD, List.getElem?_replicate]
    split <;> rfl
  have e2 : (blkOf l).set (l.length % 136) ((blkOf l).getD (l.length % 136) 0 ^^^ 6) = Kec.restOf l ++ 6 :: List.replicate (135 - l.length % 136) 0 := by
    rw [e1]
    unfold blkOf
    rw [List.set_append, if_neg (by omega), hr, Nat.sub_self, show 136 - l.length % 136 = (135 - l.length % 136) + 1 by omega, List.replicate_succ]
    rfl
  rw [e2]
  unfold Kec.lastBlock
  rw [hr]
theorem squeeze_step (S : List Nat) (k : Nat) (hk : k < 4) : (Kec.squeeze S).take (8 * k + 8) = (Kec.squeeze S).take (8 * k) ++ Kec.eight (Kec.g S k) := by
  have e (n : Nat) : (Kec.eight n).length = 8 := eight_len
  unfold Kec.squeeze
  match k, hk with
  | 0, _ => rw [List.append_assoc, List.append_assoc, List.take_append_of_le_length (by rw [e]; omega), List.take_of_length_le (by rw [e]; omega)]; simp
  | 1, _ =>
    rw [List.append_assoc, List.take_append_of_le_length (by simp [e]), List.take_of_length_le (by simp [e]), List.append_assoc, List.take_append_of_le_length (by rw [e]; omega), List.take_of_length_le (by rw [e]; omega)]
  | 2, _ =>
    rw [List.take_append_of_le_length (by simp [e]), List.take_of_length_le (by simp [e]), List.append_assoc (Kec.eight _ ++ Kec.eight _), List.take_append_of_le_length (by simp [e]), List.take_of_length_le (by simp [e])]
  | 3, _ =>
    rw [List.take_of_length_le (by simp [e]), List.take_append_of_le_length (by simp [e]), List.take_of_length_le (by simp [e])]
def sqk (S : List Nat) (k : Nat) : List UInt8 := (Kec.squeeze S).take (8 * k) ++ List.replicate (32 - 8 * k) 0
theorem sqk_len (S : List Nat) (k : Nat) (hk : k ≤ 4) : (sqk S k).length = 32 := by unfold sqk; rw [List.length_append, List.length_take, Kec.squeeze_len, List.length_replicate]; omega
theorem seg_bytes (l y : List UInt8) (o : Nat) : seg (B l).toArray o (B y) = (B (l.take o ++ y ++ l.drop (o + y.length))).toArray := by
  apply Array.toList_inj.1
  simp [seg, B_append, ← B_take, ← B_drop, B_length]
theorem sqk_step (S : List Nat) (k : Nat) (hk : k < 4) : (sqk S k).take (8 * k) ++ Kec.eight (Kec.g S k) ++ (sqk S k).drop (8 * k + (Kec.eight (Kec.g S k)).length) = sqk S (k + 1) := by
  have hl : ((Kec.squeeze S).take (8 * k)).length = 8 * k := by rw [List.length_take, Kec.squeeze_len]; omega
  unfold sqk
  rw [List.take_left' hl, List.drop_append, List.drop_of_length_le (by omega), List.nil_append, hl, eight_len, Nat.add_sub_cancel_left, List.drop_replicate, show 8 * (k + 1) = 8 * k + 8 by omega, squeeze_step S k hk, Nat.sub_sub]
theorem sqk_all (S : List Nat) : sqk S 4 = Kec.squeeze S := by
  unfold sqk
  rw [List.take_of_length_le (by rw [Kec.squeeze_len]; omega)]; simp

theorem blk_bytes {w : World} {g n : Nat} {l : List UInt8} {T : TypeId} (h : w.heap[g]? = some (.cells (B l).toArray T (0, 0))) (hn : l.length = n) (hm : n ≤ maxLen) : BytesAt w (.slice (some ⟨g, 0, none⟩) n n) l := by
  subst hn
  refine ⟨⟨_, _, rfl, Nat.le_refl _, hm, fun h => by cases h⟩, fun k x hk => ⟨g, 0, _, rfl, lt_of_block h, ?_⟩⟩
  rw [Nat.zero_add]
  refine (cell_of_row _ _ _ _ _ _ h).trans ?_
  rw [List.getElem?_toArray]; exact B_get l k x hk
noncomputable def part_ksum (n : Nat) : Code := partOf Try.f67 n
noncomputable abbrev o_ksum (n k : Nat) : Oper := (opsAt (part_ksum n)).getD k default
set_option maxRecDepth 100000 in
set_option maxHeartbeats 4000000 in
theorem ksum_ok (l : List UInt8) (w : World) :
    Calls Try.prog 67 #[.agg (Sp (Kec.stateOf l) (blkOf l) (l.length % 136) l.length)] w (fun e w' => e = .returned (.agg (B (Kec.sum l)).toArray) ∧ Keeps Nob w w') := by
  obtain ⟨S, hS⟩ : ∃ S, Kec.takes (Kec.stateOf l) (Kec.lastBlock (Kec.restOf l)) = S := ⟨_, rfl⟩
  have hSl : S.length = 25 := hS ▸ Kec.len_takes _ _
  have hSw : Kec.Ws S := hS ▸ Kec.ws_takes (Kec.ws_stateOf l) _
  have hmod : l.length % 136 < 136 := Nat.mod_lt _ (by decide)
  have K0 : Keeps Nob w w := Keeps.refl _ _
  refine sy_enter (part_ksum 1) ⟨#[.agg (Sp (Kec.stateOf l) (blkOf l) (l.length % 136) l.length), undef, undef, undef, undef, undef, undef, undef, undef, undef, undef, undef, undef, undef, undef, undef, undef, undef, undef, undef, undef, undef, undef, undef, undef, undef, undef, undef, undef, undef, undef, undef, undef, undef, undef, undef], []⟩ Try.func67 (by kernel_rfl) (by kernel_rfl) ?_
  refine sy_sq (part_ksum 2) (part_ksum 3) ?_
  refine sy_reg ?_
  refine rg_plain 0 (opsAt (part_ksum 2)) [0, 1] (by kernel_rfl) (by kernel_rfl) ?_
  obtain ⟨V1, eV1, p, ep, h2, kV1⟩ := alloc_step w ((Sp (Kec.stateOf l) (blkOf l) (l.length % 136) l.length)) 90
  have n3 : w.heap.size ≤ p := ep ▸ K0.size
  refine ps_r (o_ksum 2 0) (pT p 0) (w' := V1) (by rw [← eV1, ← ep]; exact exec_box 90 (.tmp 0) (by kernel_rfl) (.agg (Sp (Kec.stateOf l) (blkOf l) (l.length % 136) l.length)) (by kernel_rfl)) ?_
  clear eV1
  have K4 := K0.nn kV1
  obtain ⟨V5, eV5, gr, egr, h6, kV5⟩ := alloc_step V1 (zr_u8_32) 26
  have n7 : p < gr := egr ▸ lt_of_block h2
  have n8 : w.heap.size ≤ gr := egr ▸ K4.size
  refine ps_r (o_ksum 2 1) (pT gr 0) (w' := V5) (by rw [← eV5, ← egr]; exact exec_alloc0 26 (by kernel_rfl) (.agg (zr_u8_32)) (by kernel_rfl)) ?_
  clear eV5
  have h9 := kV5.bk h2
  have K10 := K4.nn kV5
  refine ps_end ?_
  refine then_n ?_
  refine sy_sq (part_ksum 6) (part_ksum 7) ?_
  refine sy_reg ?_
  refine rg_plain 1 (opsAt (part_ksum 6)) [0, 1, 2, 3, 4, 5, 6, 7, 8] (by kernel_rfl) (by kernel_rfl) ?_
  refine ps_k (o_ksum 6 0) (pT p 161) ?_
  refine ps_p (o_ksum 6 1) (iN (l.length % 136)) (exec_ld 3 (.tmp 6) p 161 Try.underlying3 (rc (h9) (Sp_n _ _ _ _ (Kec.len_stateOf _) (blkOf_len _)))) ?_
  refine ps_k (o_ksum 6 2) (pT p 25) ?_
  refine ps_p (o_ksum 6 3) (.pointer (some ⟨p, 25 + (l.length % 136), none⟩)) (exec_cast (v := .pointer (some ⟨p, 25 + (l.length % 136) * 1, none⟩)) (by simp) (exec_indexAt_arr 88 (.tmp 8) (.tmp 7) (by kernel_rfl) p 25 (by kernel_rfl) .i64 (l.length % 136) (by kernel_rfl) _ _ 1 Try.underlying88 (by kernel_rfl) (by omega))) ?_
  refine ps_p (o_ksum 6 4) (cN (((blkOf l).getD ((l.length % 136)) 0).toNat)) (exec_ld 5 (.tmp 9) p (25 + (l.length % 136)) Try.underlying5 (rc (h9) (Sp_byte _ _ _ _ (Kec.len_stateOf _) ((l.length % 136)) ((blkOf l).getD ((l.length % 136)) 0) (getD_some _ _ (by rw [(blkOf_len _)]; omega))))) ?_
  refine ps_p (o_ksum 6 5) (cN (((blkOf l).getD (l.length % 136) 0 ^^^ 6).toNat)) (exec_cast (xor8_6 ((blkOf l).getD (l.length % 136) 0)) (by kernel_rfl)) ?_
  refine ps_k (o_ksum 6 6) (pT p 25) ?_
  refine ps_p (o_ksum 6 7) (.pointer (some ⟨p, 25 + (l.length % 136), none⟩)) (exec_cast (v := .pointer (some ⟨p, 25 + (l.length % 136) * 1, none⟩)) (by simp) (exec_indexAt_arr 88 (.tmp 12) (.tmp 7) (by kernel_rfl) p 25 (by kernel_rfl) .i64 (l.length % 136) (by kernel_rfl) _ _ 1 Try.underlying88 (by kernel_rfl) (by omega))) ?_
  obtain ⟨V11, eV11, kV11⟩ := cell_step V5 p (25 + (l.length % 136)) (.int .u8 ((((blkOf l).getD (l.length % 136) 0 ^^^ 6).toNat : Nat) : Int))
  have h12 : V11.heap[p]? = some (.cells (Sp (Kec.stateOf l) ((blkOf l).set ((l.length % 136)) (((blkOf l).getD (l.length % 136) 0 ^^^ 6))) (l.length % 136) l.length) 90 (0, 0)) := eV11 ▸ ((heap_setCell_same _ p (25 + (l.length % 136)) _ _ (.int .u8 ((((blkOf l).getD (l.length % 136) 0 ^^^ 6).toNat : Nat) : Int)) h9).trans (congrArg (fun c => some (Obj.cells c 90 (0, 0))) (show (Sp (Kec.stateOf l) (blkOf l) (l.length % 136) l.length : Array Value).setIfInBounds (25 + (l.length % 136)) (.int .u8 ((((blkOf l).getD (l.length % 136) 0 ^^^ 6).toNat : Nat) : Int)) = Sp (Kec.stateOf l) ((blkOf l).set ((l.length % 136)) (((blkOf l).getD (l.length % 136) 0 ^^^ 6))) (l.length % 136) l.length from Sp_set_byte _ _ _ _ (Kec.len_stateOf _) ((l.length % 136)) (((blkOf l).getD (l.length % 136) 0 ^^^ 6)) (by rw [(blkOf_len _)]; omega))))
  refine ps_s (o_ksum 6 8) (w' := V11) (by rw [← eV11]; exact exec_store_cell 5 (.tmp 13) (.tmp 11) (by kernel_rfl) p (25 + (l.length % 136)) (by kernel_rfl) (cN (((blkOf l).getD (l.length % 136) 0 ^^^ 6).toNat)) (by kernel_rfl) (by kernel_rfl) (by kernel_rfl) (cN (((blkOf l).getD ((l.length % 136)) 0).toNat)) (rc (h9) (Sp_byte _ _ _ _ (Kec.len_stateOf _) ((l.length % 136)) ((blkOf l).getD ((l.length % 136)) 0) (getD_some _ _ (by rw [(blkOf_len _)]; omega)))) (frozen_of_row _ _ _ _ _ h9) (by kernel_rfl)) ?_
  clear eV11
  have h13 := kV11.bo h6 (by omega)
  have K14 := K10.no kV11 (by omega)
  refine ps_end ?_
  refine then_n ?_
  refine sy_sq (part_ksum 14) (part_ksum 15) ?_
  refine sy_reg ?_
  refine rg_plain 2 (opsAt (part_ksum 14)) [0, 1, 2, 3, 4, 5, 6] (by kernel_rfl) (by kernel_rfl) ?_
  refine ps_k (o_ksum 14 0) (pT p 25) ?_
  refine ps_p (o_ksum 14 1) (pT p 160) (exec_cast (v := pT p (25 + 135 * 1)) (by simp) (exec_indexAt_arr 88 (.tmp 14) (.const (.int .i64 135)) (by kernel_rfl) p 25 (by kernel_rfl) .i64 135 (by kernel_rfl) _ _ 1 Try.underlying88 (by kernel_rfl) (by omega))) ?_
  refine ps_p (o_ksum 14 2) (cN ((((blkOf l).set ((l.length % 136)) (((blkOf l).getD (l.length % 136) 0 ^^^ 6))).getD 135 0).toNat)) (exec_ld 5 (.tmp 15) p 160 Try.underlying5 (rc (h12) (Sp_byte _ _ _ _ (Kec.len_stateOf _) 135 (((blkOf l).set ((l.length % 136)) (((blkOf l).getD (l.length % 136) 0 ^^^ 6))).getD 135 0) (getD_some _ _ (by rw [((List.length_set ..).trans (blkOf_len _))]; omega))))) ?_
  refine ps_p (o_ksum 14 3) (cN ((((blkOf l).set (l.length % 136) ((blkOf l).getD (l.length % 136) 0 ^^^ 6)).getD 135 0 ^^^ 128).toNat)) (exec_cast (xor8_128 (((blkOf l).set (l.length % 136) ((blkOf l).getD (l.length % 136) 0 ^^^ 6)).getD 135 0)) (by kernel_rfl)) ?_
  refine ps_k (o_ksum 14 4) (pT p 25) ?_
  refine ps_p (o_ksum 14 5) (pT p 160) (exec_cast (v := pT p (25 + 135 * 1)) (by simp) (exec_indexAt_arr 88 (.tmp 18) (.const (.int .i64 135)) (by kernel_rfl) p 25 (by kernel_rfl) .i64 135 (by kernel_rfl) _ _ 1 Try.underlying88 (by kernel_rfl) (by omega))) ?_
  obtain ⟨V15, eV15, kV15⟩ := cell_step V11 p 160 (.int .u8 (((((blkOf l).set (l.length % 136) ((blkOf l).getD (l.length % 136) 0 ^^^ 6)).getD 135 0 ^^^ 128).toNat : Nat) : Int))
  have h16 : V15.heap[p]? = some (.cells (Sp (Kec.stateOf l) (((blkOf l).set ((l.length % 136)) (((blkOf l).getD (l.length % 136) 0 ^^^ 6))).set 135 ((((blkOf l).set (l.length % 136) ((blkOf l).getD (l.length % 136) 0 ^^^ 6)).getD 135 0 ^^^ 128))) (l.length % 136) l.length) 90 (0, 0)) := eV15 ▸ ((heap_setCell_same _ p 160 _ _ (.int .u8 (((((blkOf l).set (l.length % 136) ((blkOf l).getD (l.length % 136) 0 ^^^ 6)).getD 135 0 ^^^ 128).toNat : Nat) : Int)) h12).trans (congrArg (fun c => some (Obj.cells c 90 (0, 0))) (show (Sp (Kec.stateOf l) ((blkOf l).set ((l.length % 136)) (((blkOf l).getD (l.length % 136) 0 ^^^ 6))) (l.length % 136) l.length : Array Value).setIfInBounds 160 (.int .u8 (((((blkOf l).set (l.length % 136) ((blkOf l).getD (l.length % 136) 0 ^^^ 6)).getD 135 0 ^^^ 128).toNat : Nat) : Int)) = Sp (Kec.stateOf l) (((blkOf l).set ((l.length % 136)) (((blkOf l).getD (l.length % 136) 0 ^^^ 6))).set 135 ((((blkOf l).set (l.length % 136) ((blkOf l).getD (l.length % 136) 0 ^^^ 6)).getD 135 0 ^^^ 128))) (l.length % 136) l.length from Sp_set_byte _ _ _ _ (Kec.len_stateOf _) 135 ((((blkOf l).set (l.length % 136) ((blkOf l).getD (l.length % 136) 0 ^^^ 6)).getD 135 0 ^^^ 128)) (by rw [((List.length_set ..).trans (blkOf_len _))]; omega))))
  refine ps_s (o_ksum 14 6) (w' := V15) (by rw [← eV15]; exact exec_store_cell 5 (.tmp 19) (.tmp 17) (by kernel_rfl) p 160 (by kernel_rfl) (cN ((((blkOf l).set (l.length % 136) ((blkOf l).getD (l.length % 136) 0 ^^^ 6)).getD 135 0 ^^^ 128).toNat)) (by kernel_rfl) (by kernel_rfl) (by kernel_rfl) (cN ((((blkOf l).set ((l.length % 136)) (((blkOf l).getD (l.length % 136) 0 ^^^ 6))).getD 135 0).toNat)) (rc (h12) (Sp_byte _ _ _ _ (Kec.len_stateOf _) 135 (((blkOf l).set ((l.length % 136)) (((blkOf l).getD (l.length % 136) 0 ^^^ 6))).getD 135 0) (getD_some _ _ (by rw [((List.length_set ..).trans (blkOf_len _))]; omega)))) (frozen_of_row _ _ _ _ _ h12) (by kernel_rfl)) ?_
  clear eV15
  have h17 := kV15.bo h13 (by omega)
  have K18 := K14.no kV15 (by omega)
  refine ps_end ?_
  refine then_n ?_
  refine sy_sq (part_ksum 30) (part_ksum 31) ?_
  refine sy_reg ?_
  refine rg_plain 3 (opsAt (part_ksum 30)) [0] (by kernel_rfl) (by kernel_rfl) ?_
  refine ps_c (o_ksum 30 0) 91 #[pT p 0] Try.func91 ((ktakes_ok p _ _ _ _ (Kec.len_stateOf _) (Kec.ws_stateOf _) ((List.length_set ..).trans ((List.length_set ..).trans (blkOf_len _))) _ h16).mono ?_)
  rintro e V19 ⟨rfl, h20, kV19⟩
  rw [last_eq, hS] at h20
  refine ⟨_, rfl, ?_⟩
  have h21 := kV19.bo h17 (by omega)
  have K22 := K18.no kV19 (by omega)
  refine ps_end ?_
  refine then_n ?_
  refine sy_sq (part_ksum 62) (part_ksum 63) ?_
  refine sy_reg ?_
  refine rg_plain 4 (opsAt (part_ksum 62)) [0] (by kernel_rfl) (by kernel_rfl) ?_
  obtain ⟨V23, eV23, go, ego, h24, kV23⟩ := alloc_step V19 (zr_u8_32) 26
  have n25 : gr < go := ego ▸ lt_of_block h21
  have n26 : p < go := ego ▸ lt_of_block h20
  have n27 : w.heap.size ≤ go := ego ▸ K22.size
  refine ps_r (o_ksum 62 0) (pT go 0) (w' := V23) (by rw [← eV23, ← ego]; exact exec_alloc0 26 (by kernel_rfl) (.agg (zr_u8_32)) (by kernel_rfl)) ?_
  clear eV23
  have h28 := kV23.bk h21
  have h29 := kV23.bk h20
  have K30 := K22.nn kV23
  refine ps_end ?_
  refine then_n ?_
  refine sy_sq (part_ksum 126) (part_ksum 127) ?_
  refine sy_sq (part_ksum 252) (part_ksum 253) ?_
  refine sy_reg ?_
  refine rg_plain 5 (opsAt (part_ksum 252)) [0] (by kernel_rfl) (by kernel_rfl) ?_
  refine ps_k (o_ksum 252 0) (.int .i64 0) ?_
  refine ps_end ?_
  refine then_n ?_
  refine sy_bk 0 (part_ksum 506) ?_
  refine sy_loop (part_ksum 1012) (fun a V => ∃ (k : Nat) (u4 u5 u22 u23 u24 u25 u26 u27 u28 u29 u30 u31 u32 u33 u34 : Value), (a = ⟨#[.agg (Sp (Kec.stateOf l) (blkOf l) (l.length % 136) l.length), pT p 0, pT gr 0, pT go 0, u4, u5, pT p 161, iN (l.length % 136), pT p 25, .pointer (some ⟨p, 25 + (l.length % 136), none⟩), cN (((blkOf l).getD ((l.length % 136)) 0).toNat), cN (((blkOf l).getD (l.length % 136) 0 ^^^ 6).toNat), pT p 25, .pointer (some ⟨p, 25 + (l.length % 136), none⟩), pT p 25, pT p 160, cN ((((blkOf l).set ((l.length % 136)) (((blkOf l).getD (l.length % 136) 0 ^^^ 6))).getD 135 0).toNat), cN ((((blkOf l).set (l.length % 136) ((blkOf l).getD (l.length % 136) 0 ^^^ 6)).getD 135 0 ^^^ 128).toNat), pT p 25, pT p 160, .tuple #[], iN k, u22, u23, u24, u25, u26, u27, u28, u29, u30, u31, u32, u33, u34, undef], []⟩) ∧ (k ≤ 4) ∧ (V.heap[gr]? = some (.cells (zr_u8_32) 26 (0, 0))) ∧ (V.heap[p]? = some (.cells (Sp S zero136 0 l.length) 90 (0, 0))) ∧ (V.heap[go]? = some (.cells ((B (sqk S k)).toArray) 26 (0, 0))) ∧ (Keeps Nob w V)) (fun a _ => 4 - (intOf (a.tmps.getD 21 undef)).toNat) (by kernel_rfl) ?_ ?_
  · exact ⟨0, undef, undef, undef, undef, undef, undef, undef, undef, undef, undef, undef, undef, undef, undef, undef, by kernel_rfl, by omega, h28, h29, h24.trans (by kernel_rfl), K30⟩
  · rintro a V31 ⟨k, u4, u5, u22, u23, u24, u25, u26, u27, u28, u29, u30, u31, u32, u33, u34, rfl, hk, h32, h33, h34, K35⟩
    by_cases lt_k : k < 4
    · show _
      refine sy_sq (part_ksum 2024) (part_ksum 2025) ?_
      refine sy_reg ?_
      refine rg_plain 6 (opsAt (part_ksum 2024)) [0] (by kernel_rfl) (by kernel_rfl) ?_
      refine ps_p (o_ksum 2024 0) (.bool true) (dct ((((k : Nat) : Int)) < ((4) : Int)) (by omega)) ?_
      refine ps_end ?_
      refine then_n ?_
      refine sy_sq (part_ksum 4050) (part_ksum 4051) ?_
      refine sy_ys (.tmp 22) (part_ksum 8100) (part_ksum 8101) ?_
      refine sy_sk ?_
      refine then_n ?_
      refine sy_sq (part_ksum 8102) (part_ksum 8103) ?_
      refine sy_bk 1 (part_ksum 16204) ?_
      refine sy_sq (part_ksum 32408) (part_ksum 32409) ?_
      refine sy_reg ?_
      refine rg_plain 7 (opsAt (part_ksum 32408)) [0, 1] (by kernel_rfl) (by kernel_rfl) ?_
      refine ps_k (o_ksum 32408 0) (iN k) ?_
      refine ps_k (o_ksum 32408 1) (iN k) ?_
      refine ps_end ?_
      refine then_n ?_
      refine sy_sq (part_ksum 64818) (part_ksum 64819) ?_
      refine sy_reg ?_
      refine rg_plain 8 (opsAt (part_ksum 64818)) [0, 1, 2, 3, 4, 5, 6] (by kernel_rfl) (by kernel_rfl) ?_
      refine ps_k (o_ksum 64818 0) (iN k) ?_
      refine ps_k (o_ksum 64818 1) (pT p 0) ?_
      refine ps_p (o_ksum 64818 2) (pT p k) (exec_cast (v := pT p (0 + k * 1)) (by simp) (exec_indexAt_arr 87 (.tmp 25) (.tmp 24) (by kernel_rfl) p 0 (by kernel_rfl) .i64 k (by kernel_rfl) _ _ 1 Try.underlying87 (by kernel_rfl) (by omega))) ?_
      refine ps_p (o_ksum 64818 3) (uN (Kec.g S k)) (exec_ld 27 (.tmp 26) p k Try.underlying27 (rc (h33) (Sp_word _ _ _ _ hSl k (by omega)))) ?_
      refine ps_c (o_ksum 64818 4) 92 #[uN (Kec.g S k)] Try.func92 ((keight_ok (Kec.g S k) _ (hSw _)).mono ?_)
      rintro e V36 ⟨rfl, kV36⟩
      refine ⟨_, rfl, ?_⟩
      have h37 := kV36.bk h32
      have h38 := kV36.bk h33
      have h39 := kV36.bk h34
      have K40 := K35.nn kV36
      obtain ⟨V41, eV41, gt, egt, h42, kV41⟩ := alloc_step V36 (zr_u8_8) 122
      have n43 : gr < gt := egt ▸ lt_of_block h37
      have n44 : p < gt := egt ▸ lt_of_block h38
      have n45 : go < gt := egt ▸ lt_of_block h39
      have n46 : w.heap.size ≤ gt := egt ▸ K40.size
      refine ps_r (o_ksum 64818 5) (pT gt 0) (w' := V41) (by rw [← eV41, ← egt]; exact exec_alloc0 122 (by kernel_rfl) (.agg (zr_u8_8)) (by kernel_rfl)) ?_
      clear eV41
      have h47 := kV41.bk h37
      have h48 := kV41.bk h38
      have h49 := kV41.bk h39
      have K50 := K40.nn kV41
      obtain ⟨V51, eV51, kV51⟩ := rowset_step V41 gt ((B (Kec.eight (Kec.g S k))).toArray)
      have h52 : V51.heap[gt]? = some (.cells ((B (Kec.eight (Kec.g S k))).toArray) 122 (0, 0)) := eV51 ▸ setRow_heap _ _ _ _ _ _ h42
      refine ps_s (o_ksum 64818 6) (w' := V51) (by rw [← eV51]; exact exec_store_row 122 (.tmp 5) (.tmp 28) (by kernel_rfl) gt ((B (Kec.eight (Kec.g S k))).toArray) (by kernel_rfl) (by kernel_rfl) 122 (zr_u8_8) h42 (by rw [Bz_size, eight_len]; kernel_rfl) (by rw [Bz_size, eight_len]; rfl) (by rw [List.all_toArray]; exact List.all_eq_true.2 (B_one _))) ?_
      clear eV51
      have h53 := kV51.bo h47 (by omega)
      have h54 := kV51.bo h48 (by omega)
      have h55 := kV51.bo h49 (by omega)
      have K56 := K50.no kV51 (by omega)
      refine ps_end ?_
      refine then_n ?_
      refine sy_reg ?_
      refine rg_still 9 4 (opsAt (part_ksum 64819)) [o_ksum 64819 0, o_ksum 64819 1, o_ksum 64819 2, o_ksum 64819 3] [o_ksum 64819 4] (by kernel_rfl) (by kernel_rfl) (by kernel_rfl) (by kernel_rfl) (by kernel_rfl) ?_
      obtain ⟨V58, eV58, kV58⟩ := drew_step V51
      rw [eV58]
      clear eV58
      have h59 := kV58.bk h53
      have h60 := kV58.bk h54
      have h61 := kV58.bk h55
      have h62 := kV58.bk h52
      have K63 := K56.nn kV58
      refine st_k (o_ksum 64819 0) (iN k) ?_
      refine st_p (o_ksum 64819 1) (iN (8 * k)) (exec_cast (congrArg (Value.int .i64) (wrapN (8 * k) (by omega))) (by kernel_rfl)) ?_
      refine st_p (o_ksum 64819 2) (.slice (some ⟨go, 0 + 8 * k, none⟩) (32 - 8 * k) (32 - 8 * k)) (exec_slice_arr 26 (.tmp 3) (.tmp 30) (by kernel_rfl) go 0 (by kernel_rfl) .i64 (8 * k) (by kernel_rfl) 32 5 Try.underlying26 (by kernel_rfl) (by omega)) ?_
      refine st_p (o_ksum 64819 3) (.slice (some ⟨gt, 0, none⟩) 8 8) (exec_slice_all 122 (.tmp 5) (by kernel_rfl) gt 0 (by kernel_rfl) 8 5 Try.underlying122 (by kernel_rfl)) ?_
      refine st_end ?_
      obtain ⟨V64, eV64⟩ : ∃ V, V58.setRow go (seg (B (sqk S k)).toArray (0 + 8 * k) (B ((Kec.eight (Kec.g S k)).take 8))) = V := ⟨_, rfl⟩
      have kV64 : Keeps (One go) V58 V64 := eV64 ▸ (Keeps.refl (One go) _).setRow (fun _ => (rfl : Own.One go go)) _
      have h65 : V64.heap[go]? = some (.cells ((B (sqk S (k + 1))).toArray) 26 (0, 0)) := eV64 ▸ (setRow_heap _ _ _ _ _ _ h61).trans (congrArg (fun c => some (Obj.cells c 26 (0, 0))) (by rw [List.take_of_length_le (by rw [eight_len]; omega), Nat.zero_add, seg_bytes, sqk_step S k lt_k]))
      refine ls_run (o_ksum 64819 4) (w' := V64) (.int .i64 8) (by kernel_rfl) (by rw [← eV64]; exact exec_copy (.tmp 31) (.tmp 32) 22 (by kernel_rfl) 5 Try.underlying22 (by kernel_rfl) go (0 + 8 * k) (32 - 8 * k) (32 - 8 * k) (by kernel_rfl) (.slice (some ⟨gt, 0, none⟩) 8 8) (Kec.eight (Kec.g S k)) (by kernel_rfl) (blk_bytes h62 eight_len (by decide)) _ _ h61 8 (by rw [eight_len]; exact (Nat.min_eq_left (by omega)).symm) (by rw [Bz_size, sqk_len S _ (by omega)]; omega) (by rw [eight_len]; omega)) ?_
      clear eV64
      have h66 := kV64.bo h59 (by omega)
      have h67 := kV64.bo h60 (by omega)
      have h68 := kV64.bo h62 (by omega)
      have K69 := K63.no kV64 (by omega)
      refine ls_end ?_
      refine blk_n ?_
      refine then_n ?_
      refine sy_reg ?_
      refine rg_plain 10 (opsAt (part_ksum 8103)) [0, 1] (by kernel_rfl) (by kernel_rfl) ?_
      refine ps_p (o_ksum 8103 0) (iN (k + 1)) (exec_cast (congrArg (Value.int .i64) (wrapN (k + 1) (by omega))) (by kernel_rfl)) ?_
      refine ps_k (o_ksum 8103 1) (iN (k + 1)) ?_
      refine ps_end ?_
      refine then_n ?_
      refine ⟨⟨k + 1, (iN k), (pT gt 0), (.bool true), (iN k), (iN k), (pT p 0), (pT p k), (uN (Kec.g S k)), (.agg (B (Kec.eight (Kec.g S k))).toArray), (iN k), (iN (8 * k)), (.slice (some ⟨go, 0 + 8 * k, none⟩) (32 - 8 * k) (32 - 8 * k)), (.slice (some ⟨gt, 0, none⟩) 8 8), (.int .i64 8), (iN (k + 1)), by kernel_rfl, by omega, h66, h67, h65, K69⟩, ?_⟩
      exact lt_meas (x := 4 - (k + 1)) (y := 4 - k) (by kernel_rfl) (by kernel_rfl) (by omega)
    · have eq_k : k = 4 := by omega
      have h70 : V31.heap[go]? = some (.cells ((B (Kec.sum l)).toArray) 26 (0, 0)) := h34.trans (by rw [eq_k, sqk_all, ← hS]; rfl)
      refine sy_sq (part_ksum 2024) (part_ksum 2025) ?_
      refine sy_reg ?_
      refine rg_plain 6 (opsAt (part_ksum 2024)) [0] (by kernel_rfl) (by kernel_rfl) ?_
      refine ps_p (o_ksum 2024 0) (.bool false) (dcf ((((k : Nat) : Int)) < ((4) : Int)) (by omega)) ?_
      refine ps_end ?_
      refine then_n ?_
      refine sy_sq (part_ksum 4050) (part_ksum 4051) ?_
      refine sy_n (.tmp 22) (part_ksum 8100) (part_ksum 8101) ?_
      refine sy_exit 0 (by kernel_rfl) ?_
      refine then_e ?_
      refine then_e ?_
      refine blk_e ?_
      refine then_n ?_
      refine sy_sq (part_ksum 254) (part_ksum 255) ?_
      refine sy_reg ?_
      refine rg_plain 11 (opsAt (part_ksum 254)) [0, 1] (by kernel_rfl) (by kernel_rfl) ?_
      refine ps_p (o_ksum 254 0) (.agg ((B (Kec.sum l)).toArray)) (exec_load_row 26 (.tmp 3) (by kernel_rfl) go (by kernel_rfl) _ _ (0, 0) _ (h70) Try.underlying26 rfl (by rw [Bz_size, Kec.sum_len]; kernel_rfl)) ?_
      obtain ⟨V71, eV71, kV71⟩ := rowset_step V31 gr (((B (Kec.sum l)).toArray))
      have h72 : V71.heap[gr]? = some (.cells ((B (Kec.sum l)).toArray) 26 (0, 0)) := eV71 ▸ setRow_heap _ _ _ _ _ _ h32
      refine ps_s (o_ksum 254 1) (w' := V71) (by rw [← eV71]; exact exec_store_row 26 (.tmp 2) (.tmp 35) (by kernel_rfl) gr (((B (Kec.sum l)).toArray)) (by kernel_rfl) (by kernel_rfl) 26 (zr_u8_32) h32 (by rw [Bz_size, Kec.sum_len]; kernel_rfl) (by rw [Bz_size, Kec.sum_len]; rfl) (by rw [List.all_toArray]; exact List.all_eq_true.2 (B_one _))) ?_
      clear eV71
      have h73 := kV71.bo h33 (by omega)
      have h74 := kV71.bo h70 (by omega)
      have K75 := K35.no kV71 (by omega)
      refine ps_end ?_
      refine then_n ?_
      refine sy_ret (by kernel_rfl) ?_
      refine sy_out (.agg ((B (Kec.sum l)).toArray)) rfl (results_cell_row (p := 2) (ty := 26) (by kernel_rfl) _ _ gr 26 ((B (Kec.sum l)).toArray) (0, 0) _ (by kernel_rfl) h72 Try.underlying26 rfl (by rw [Bz_size, Kec.sum_len]; kernel_rfl)) ?_
      exact ⟨rfl, K75⟩
end Go.Proofs.Ytenaakldccjnbaa
