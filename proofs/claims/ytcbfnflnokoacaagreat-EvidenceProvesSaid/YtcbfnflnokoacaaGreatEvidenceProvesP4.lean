import Derived.Test.YtcbfnflnokoacaaGreatEvidenceProvesP3
namespace Go.Proofs.YtcbfnflnokoacaaGreat
set_option maxRecDepth 100000
set_option maxHeartbeats 4000000
open Go Go.RowKit Go.Own Go.Shelf
noncomputable def qc47_3 (n : Nat) : Code := partOf Tryz.f158 n
theorem kword_ok (g o n cap : Nat) (l : List UInt8) (w : World) (hn : l.length = n) (h8 : 8 ≤ n) (hc : n ≤ cap) (hv : BytesAt w (.slice (some ⟨g, o, none⟩) n cap) l) :
    Calls Tryz.prog 158 #[.slice (some ⟨g, o, none⟩) n cap] w (fun e w' => e = .returned (.int .u64 ((Kec.word (l.take 8) : Nat) : Int)) ∧ w = w') := by
  have K0 : Keeps Nob w w := Keeps.refl _ _
  refine sy_enter (qc47_3 1) ⟨#[.slice (some ⟨g, o, none⟩) n cap, ud, ud, ud, ud, ud, ud, ud, ud, ud, ud, ud, ud, ud, ud, ud, ud, ud, ud, ud, ud, ud, ud], []⟩ Tryz.func158 (by kernel_rfl) (by kernel_rfl) <| sy_sq (qc47_3 2) (qc47_3 3) <| sy_reg <| rg_q 0 [0] <| pkq (.int .u64 0) <| ps_end <| then_n <| sy_sq (qc47_3 6) (qc47_3 7) <| sy_reg <| rg_q 1 [0] <| pkq (.int .u64 0) <| ps_end <| then_n <| sy_sq (qc47_3 14) (qc47_3 15) ?_
  refine sy_sq (qc47_3 28) (qc47_3 29) <| sy_reg <| rg_q 2 [0, 1, 2, 3] <| pkq (.slice (some ⟨g, o, none⟩) n cap) <| ppq (.slice (some ⟨g, o, none⟩) 8 cap) (exec_slice_to 114 (.tmp 6) (.const (.int .i64 8)) (by kernel_rfl) (some ⟨g, o, none⟩) n cap (by kernel_rfl) .i64 8 (by kernel_rfl) 5 Tryz.underlying114 (by kernel_rfl) (by omega)) <| ppq (.int .i64 8) (exec_len (.tmp 7) 114 _ (by kernel_rfl) Tryz.underlying114 (some ⟨g, o, none⟩) 8 cap (by kernel_rfl)) <| pkq (.int .i64 0) <| ps_end <| then_n <| sy_bk 0 (qc47_3 58) ?_
  refine sy_loop (qc47_3 116) (fun a V => ∃ (k : Nat) (u4 u5 u10 u11 u12 u13 u14 u15 u16 u17 u18 u19 u20 u21 : Value), (a = ⟨#[.slice (some ⟨g, o, none⟩) n cap, ud, .int .u64 0, uN (Kec.word (l.take k)), u4, u5, .slice (some ⟨g, o, none⟩) n cap, .slice (some ⟨g, o, none⟩) 8 cap, .int .i64 8, iN k, u10, u11, u12, u13, u14, u15, u16, u17, u18, u19, u20, u21, ud], []⟩) ∧ (k ≤ 8) ∧ (w = V)) (fun a _ => 8 - (intOf (a.tmps.getD 9 undef)).toNat) (by kernel_rfl) ?_ ?_
  · exact ⟨0, undef, undef, undef, undef, undef, undef, undef, undef, undef, undef, undef, undef, undef, undef, by kernel_rfl, by omega, rfl⟩
  · rintro a V1 ⟨k, u4, u5, u10, u11, u12, u13, u14, u15, u16, u17, u18, u19, u20, u21, rfl, hk, rfl⟩
    by_cases lt_k : k < 8
    · show _
      refine sy_sq (qc47_3 232) (qc47_3 233) <| sy_reg <| rg_q 3 [0] <| ppq (.bool true) (dct ((((k : Nat) : Int)) < ((8) : Int)) (by omega)) <| ps_end <| then_n <| sy_sq (qc47_3 466) (qc47_3 467) <| sy_ys (.tmp 10) (qc47_3 932) (qc47_3 933) <| sy_sk <| then_n <| sy_sq (qc47_3 934) (qc47_3 935) <| sy_bk 1 (qc47_3 1868) <| sy_sq (qc47_3 3736) (qc47_3 3737) <| sy_reg ?_
      refine rg_q 4 [0, 1, 2, 3, 4] <| pkq (iN k) <| ppq (pT g (o + k)) (exec_cast (v := pT g (o + k * 1)) (by simp) (exec_indexAt_slice 114 (.tmp 7) (.tmp 9) (by kernel_rfl) g o 8 cap (by kernel_rfl) .i64 k (by kernel_rfl) _ 1 Tryz.underlying114 (by kernel_rfl) (by omega))) <| ppq (cN ((l.getD k 0).toNat)) (exec_ld 5 (.tmp 12) g (o + k) Tryz.underlying5 (bytes_cell hv k (by rw [hn]; omega))) <| pkq (iN k) <| pkq (cN ((l.getD k 0).toNat)) <| ps_end <| then_n <| sy_reg <| rg_q 5 [0, 1, 2, 3, 4, 5, 6, 7] <| pkq (uN (Kec.word (l.take k))) <| pkq (cN ((l.getD k 0).toNat)) <| ppq (uN ((l.getD k 0).toNat)) (exec_cast (congrArg (Value.int .u64) (wrapU (l.getD k 0).toNat (by have := (l.getD k 0).toNat_lt; omega))) (by kernel_rfl)) <| pkq (iN k) ?_
      refine ppq (iN (8 * k)) (exec_cast (congrArg (Value.int .i64) (wrapN (8 * k) (by omega))) (by kernel_rfl)) <| ppq (uN (((l.getD k 0).toNat <<< (8 * k)) % Kec.W)) (exec_binop .shl 24 3 (.tmp 16) (.tmp 18) (by kernel_rfl) (uN ((l.getD k 0).toNat)) (iN (8 * k)) _ (by kernel_rfl) (by kernel_rfl) (by kernel_rfl) (run_shlU _ _ _ (8 * k) (by omega))) <| ppq (uN (Kec.word (l.take (k + 1)))) (exec_cast ((orU _ _ (word_take_lt l k (by omega)) (Nat.mod_lt _ Kec.W_pos)).trans (congrArg (fun n : Nat => Value.int .u64 (n : Int)) (word_step l k (by rw [hn]; omega) (by omega)))) (by kernel_rfl)) <| pkq (uN (Kec.word (l.take (k + 1)))) <| ps_end <| blk_n <| then_n <| sy_reg <| rg_q 6 [0, 1] <| ppq (iN (k + 1)) (exec_cast (congrArg (Value.int .i64) (wrapN (k + 1) (by omega))) (by kernel_rfl)) <| pkq (iN (k + 1)) <| ps_end <| then_n ?_
      refine ⟨⟨k + 1, (iN k), (cN ((l.getD k 0).toNat)), (.bool true), (iN k), (pT g (o + k)), (cN ((l.getD k 0).toNat)), (uN (Kec.word (l.take k))), (cN ((l.getD k 0).toNat)), (uN ((l.getD k 0).toNat)), (iN k), (iN (8 * k)), (uN (((l.getD k 0).toNat <<< (8 * k)) % Kec.W)), (uN (Kec.word (l.take (k + 1)))), (iN (k + 1)), by kernel_rfl, by omega, rfl⟩, ?_⟩
      exact lt_meas (x := 8 - (k + 1)) (y := 8 - k) (by kernel_rfl) (by kernel_rfl) (by omega)
    · have eq_k : k = 8 := by omega
      refine sy_sq (qc47_3 232) (qc47_3 233) <| sy_reg <| rg_q 3 [0] <| ppq (.bool false) (dcf ((((k : Nat) : Int)) < ((8) : Int)) (by omega)) <| ps_end <| then_n <| sy_sq (qc47_3 466) (qc47_3 467) <| sy_n (.tmp 10) (qc47_3 932) (qc47_3 933) <| sy_exit 0 (by kernel_rfl) <| then_e <| then_e <| blk_e <| then_n <| sy_sq (qc47_3 30) (qc47_3 31) ?_
      refine sy_reg <| rg_q 7 [0, 1] <| pkq (uN (Kec.word (l.take k))) <| pkq (uN (Kec.word (l.take k))) <| ps_end <| then_n <| sy_ret (by kernel_rfl) <| sy_out (.int .u64 ((Kec.word (l.take k) : Nat) : Int)) rfl (by kernel_rfl) ?_
      subst eq_k; exact ⟨rfl, rfl⟩
theorem eight_len {wd : Nat} : (Kec.eight wd).length = 8 := by simp [Kec.eight]
noncomputable def qc47_0 (n : Nat) : Code := partOf Tryz.f151 n
theorem keight_ok (wd : Nat) (w : World) (hw : wd < Kec.W) :
    Calls Tryz.prog 151 #[.int .u64 ((wd : Nat) : Int)] w (fun e w' => e = .returned (.agg (B (Kec.eight wd)).toArray) ∧ Keeps Nob w w') := by
  have K0 : Keeps Nob w w := Keeps.refl _ _
  refine sy_enter (qc47_0 1) ⟨#[uN wd, ud, ud, ud, ud, ud, ud, ud, ud, ud, ud, ud, ud, ud, ud, ud, ud], []⟩ Tryz.func151 (by kernel_rfl) (by kernel_rfl) <| sy_sq (qc47_0 2) (qc47_0 3) <| sy_reg <| rg_q 0 [0] ?_
  obtain ⟨V1, eV1, gr, egr, h2, kV1⟩ := alloc_step w (zr_u8_8) 183
  have n3 : w.heap.size ≤ gr := egr ▸ K0.size
  refine prq (pT gr 0) (w' := V1) (by rw [← eV1, ← egr]; exact exec_alloc0 183 (by kernel_rfl) (.agg (zr_u8_8)) (by kernel_rfl)) ?_
  clear eV1
  have K4 := K0.nn kV1
  refine ps_end <| then_n <| sy_sq (qc47_0 6) (qc47_0 7) <| sy_reg <| rg_q 1 [0] ?_
  obtain ⟨V5, eV5, go, ego, h6, kV5⟩ := alloc_step V1 (zr_u8_8) 183
  have n7 : gr < go := ego ▸ lt_of_block h2
  have n8 : w.heap.size ≤ go := ego ▸ K4.size
  refine prq (pT go 0) (w' := V5) (by rw [← eV5, ← ego]; exact exec_alloc0 183 (by kernel_rfl) (.agg (zr_u8_8)) (by kernel_rfl)) ?_
  clear eV5
  have h9 := kV5.bk h2
  have K10 := K4.nn kV5
  refine ps_end <| then_n <| sy_sq (qc47_0 14) (qc47_0 15) <| sy_sq (qc47_0 28) (qc47_0 29) <| sy_reg <| rg_q 2 [0] <| pkq (.int .i64 0) <| ps_end <| then_n <| sy_bk 0 (qc47_0 58) ?_
  refine sy_loop (qc47_0 116) (fun a V => ∃ (k : Nat) (u4 u6 u7 u8 u9 u10 u11 u12 u13 u14 u15 : Value), (a = ⟨#[uN wd, ud, pT gr 0, pT go 0, u4, iN k, u6, u7, u8, u9, u10, u11, u12, u13, u14, u15, ud], []⟩) ∧ (k ≤ 8) ∧ (V.heap[gr]? = some (.cells (zr_u8_8) 183 (0, 0))) ∧ (V.heap[go]? = some (.cells ((B (stpB (fun i => UInt8.ofNat (wd / 256 ^ i)) k (List.replicate 8 0))).toArray) 183 (0, 0))) ∧ (Keeps Nob w V)) (fun a _ => 8 - (intOf (a.tmps.getD 5 undef)).toNat) (by kernel_rfl) ?_ ?_
  · exact ⟨0, undef, undef, undef, undef, undef, undef, undef, undef, undef, undef, undef, by kernel_rfl, by omega, h9, h6.trans (by kernel_rfl), K10⟩
  · rintro a V11 ⟨k, u4, u6, u7, u8, u9, u10, u11, u12, u13, u14, u15, rfl, hk, h12, h13, K14⟩
    by_cases lt_k : k < 8
    · show _
      refine sy_sq (qc47_0 232) (qc47_0 233) <| sy_reg <| rg_q 3 [0] <| ppq (.bool true) (dct ((((k : Nat) : Int)) < ((8) : Int)) (by omega)) <| ps_end <| then_n <| sy_sq (qc47_0 466) (qc47_0 467) <| sy_ys (.tmp 6) (qc47_0 932) (qc47_0 933) <| sy_sk <| then_n <| sy_sq (qc47_0 934) (qc47_0 935) <| sy_bk 1 (qc47_0 1868) <| sy_sq (qc47_0 3736) (qc47_0 3737) <| sy_reg ?_
      refine rg_q 4 [0, 1] <| pkq (iN k) <| pkq (iN k) <| ps_end <| then_n <| sy_reg <| rg_q 5 [0, 1, 2, 3, 4, 5, 6, 7] <| pkq (iN k) <| pkq (uN wd) <| pkq (iN k) <| ppq (iN (8 * k)) (exec_cast (congrArg (Value.int .i64) (wrapN (8 * k) (by omega))) (by kernel_rfl)) <| ppq (uN (wd >>> (8 * k))) (exec_binop .shr 24 3 (.tmp 9) (.tmp 11) (by kernel_rfl) (uN wd) (iN (8 * k)) _ (by kernel_rfl) (by kernel_rfl) (by kernel_rfl) (run_shrU _ _ wd (8 * k) (by omega))) <| ppq (cN ((UInt8.ofNat (wd / 256 ^ k)).toNat)) (exec_cast (congrArg (Value.int .u8) ((wrap8 (wd >>> (8 * k))).trans (by rw [Nat.shiftRight_eq_div_pow, Nat.pow_mul]))) (by kernel_rfl)) <| ppq (pT go k) (exec_cast (v := pT go (0 + k * 1)) (by simp) (exec_indexAt_arr 183 (.tmp 3) (.tmp 8) (by kernel_rfl) go 0 (by kernel_rfl) .i64 k (by kernel_rfl) _ _ 1 Tryz.underlying183 (by kernel_rfl) (by omega))) ?_
      obtain ⟨V15, eV15, kV15⟩ := cell_step V11 go k (.int .u8 (((UInt8.ofNat (wd / 256 ^ k)).toNat : Nat) : Int))
      have h16 : V15.heap[go]? = some (.cells ((B (stpB (fun i => UInt8.ofNat (wd / 256 ^ i)) (k + 1) (List.replicate 8 0))).toArray) 183 (0, 0)) := eV15 ▸ ((heap_setCell_same _ go k _ _ (.int .u8 (((UInt8.ofNat (wd / 256 ^ k)).toNat : Nat) : Int)) h13).trans (congrArg (fun c => some (Obj.cells c 183 (0, 0))) (show ((B (stpB (fun i => UInt8.ofNat (wd / 256 ^ i)) k (List.replicate 8 0))).toArray : Array Value).setIfInBounds k (.int .u8 (((UInt8.ofNat (wd / 256 ^ k)).toNat : Nat) : Int)) = (B (stpB (fun i => UInt8.ofNat (wd / 256 ^ i)) (k + 1) (List.replicate 8 0))).toArray from by rw [Bz_set]; exact congrArg (fun l => (B l).toArray) (by rw [stpB_succ]))))
      refine pzq (w' := V15) (by rw [← eV15]; exact exec_store_cell 5 (.tmp 14) (.tmp 13) (by kernel_rfl) go k (by kernel_rfl) (cN ((UInt8.ofNat (wd / 256 ^ k)).toNat)) (by kernel_rfl) (by kernel_rfl) (by kernel_rfl) (cN (((stpB (fun i => UInt8.ofNat (wd / 256 ^ i)) k (List.replicate 8 0)).getD k 0).toNat)) (rc (h13) (Bz_get _ k (by rw [stpB_len, List.length_replicate]; omega))) (frozen_of_row _ _ _ _ _ h13) (by kernel_rfl)) ?_
      clear eV15
      have h17 := kV15.bo h12 (by omega)
      have K18 := K14.no kV15 (by omega)
      refine ps_end <| blk_n <| then_n <| sy_reg <| rg_q 6 [0, 1] <| ppq (iN (k + 1)) (exec_cast (congrArg (Value.int .i64) (wrapN (k + 1) (by omega))) (by kernel_rfl)) <| pkq (iN (k + 1)) <| ps_end <| then_n ?_
      refine ⟨⟨k + 1, (iN k), (.bool true), (iN k), (iN k), (uN wd), (iN k), (iN (8 * k)), (uN (wd >>> (8 * k))), (cN ((UInt8.ofNat (wd / 256 ^ k)).toNat)), (pT go k), (iN (k + 1)), by kernel_rfl, by omega, h17, h16, K18⟩, ?_⟩
      exact lt_meas (x := 8 - (k + 1)) (y := 8 - k) (by kernel_rfl) (by kernel_rfl) (by omega)
    · have eq_k : k = 8 := by omega
      have h19 : V11.heap[go]? = some (.cells ((B (Kec.eight wd)).toArray) 183 (0, 0)) := h13.trans (by rw [eq_k, stpB_all _ _ 8 rfl]; rfl)
      refine sy_sq (qc47_0 232) (qc47_0 233) <| sy_reg <| rg_q 3 [0] <| ppq (.bool false) (dcf ((((k : Nat) : Int)) < ((8) : Int)) (by omega)) <| ps_end <| then_n <| sy_sq (qc47_0 466) (qc47_0 467) <| sy_n (.tmp 6) (qc47_0 932) (qc47_0 933) <| sy_exit 0 (by kernel_rfl) <| then_e <| then_e <| blk_e <| then_n <| sy_sq (qc47_0 30) (qc47_0 31) ?_
      refine sy_reg <| rg_q 7 [0, 1] <| ppq (.agg ((B (Kec.eight wd)).toArray)) (exec_load_row 183 (.tmp 3) (by kernel_rfl) go (by kernel_rfl) _ _ (0, 0) _ (h19) Tryz.underlying183 rfl (by rw [Bz_size, eight_len]; kernel_rfl)) ?_
      obtain ⟨V20, eV20, kV20⟩ := rowset_step V11 gr (((B (Kec.eight wd)).toArray))
      have h21 : V20.heap[gr]? = some (.cells ((B (Kec.eight wd)).toArray) 183 (0, 0)) := eV20 ▸ setRow_heap _ _ _ _ _ _ h12
      refine pzq (w' := V20) (by rw [← eV20]; exact exec_store_row 183 (.tmp 2) (.tmp 16) (by kernel_rfl) gr (((B (Kec.eight wd)).toArray)) (by kernel_rfl) (by kernel_rfl) 183 (zr_u8_8) h12 (by rw [Bz_size, eight_len]; kernel_rfl) (by rw [Bz_size, eight_len]; rfl) (by rw [List.all_toArray]; exact List.all_eq_true.2 (B_one _))) ?_
      clear eV20
      have K23 := K14.no kV20 (by omega)
      refine ps_end <| then_n <| sy_ret (by kernel_rfl) <| sy_out (.agg ((B (Kec.eight wd)).toArray)) rfl (results_cell_row (p := 2) (ty := 183) (by kernel_rfl) _ _ gr 183 ((B (Kec.eight wd)).toArray) (0, 0) _ (by kernel_rfl) h21 Tryz.underlying183 rfl (by rw [Bz_size, eight_len]; kernel_rfl)) ?_
      exact ⟨rfl, K23⟩
theorem getD_some (l : List UInt8) (k : Nat) (h : k < l.length) : l[k]? = some (l.getD k 0) := by rw [List.getD_eq_getElem?_getD, List.getElem?_eq_getElem h]; rfl
def zero136 : List UInt8 := List.replicate 136 0
theorem zero136_len : zero136.length = 136 := by simp [zero136]
theorem Sp_seg_zero (s : List Nat) (blk : List UInt8) (n m : Nat) (hs : s.length = 25) (hb : blk.length = 136) : seg (Sp s blk n m) 25 (B zero136).toArray.toList = Sp s zero136 n m := by
  have := Sp_seg_bytes s blk zero136 n m 0 hs (by rw [zero136_len, hb]; omega)
  have e : blk.drop (0 + zero136.length) = [] := List.drop_of_length_le (by rw [zero136_len, hb]; omega)
  rw [e, List.append_nil, List.take_zero, List.nil_append] at this
  exact this
theorem g_get (s : List Nat) (i : Nat) (h : i < s.length) : Kec.g s i = s[i] := by
  unfold Kec.g
  rw [List.getD_eq_getElem?_getD, List.getElem?_eq_getElem h]; rfl
theorem stp_mixin (s : List Nat) (blk : List UInt8) (hs : s.length = 25) : stp (fun i => Kec.g s i ^^^ Kec.wordAt blk i) 17 s = Kec.mixin s blk := by
  refine List.ext_getElem (by rw [stp_len, Kec.len_mixin, hs]) fun i h1 h2 => ?_
  have hi : i < 25 := by rwa [stp_len, hs] at h1
  have e1 := stp_get (fun i => Kec.g s i ^^^ Kec.wordAt blk i) 17 s i (by omega)
  have e2 := Kec.g_map (fun i => if i < 17 then Kec.g s i ^^^ Kec.wordAt blk i else Kec.g s i) i hi
  have e3 : Kec.g (stp (fun i => Kec.g s i ^^^ Kec.wordAt blk i) 17 s) i = Kec.g (Kec.mixin s blk) i := by
    rw [e1]; exact e2.symm
  rw [g_get _ _ h1, g_get _ _ h2] at e3
  exact e3
noncomputable def qc47_1 (n : Nat) : Code := partOf Tryz.f150 n
noncomputable abbrev qo47_1 (n k : Nat) : Oper := (opsAt (qc47_1 n)).getD k default
theorem ktakes_ok (p : Nat) (s : List Nat) (blk : List UInt8) (n m : Nat) (hs : s.length = 25) (ws : Kec.Ws s) (hb : blk.length = 136) (w : World) (hp : w.heap[p]? = some (.cells (Sp s blk n m) 164 (0, 0))) :
    Calls Tryz.prog 150 #[.pointer (some ⟨p, 0, none⟩)] w (fun e w' => e = .returned (.tuple #[]) ∧ w'.heap[p]? = some (.cells (Sp (Kec.takes s blk) zero136 0 m) 164 (0, 0)) ∧ Keeps (One p) w w') := by
  have K0 : Keeps (One p) w w := Keeps.refl _ _
  refine sy_enter (qc47_1 1) ⟨#[pT p 0, ud, ud, ud, ud, ud, ud, ud, ud, ud, ud, ud, ud, ud, ud, ud, ud, ud, ud, ud, ud, ud, ud, ud, ud, ud, ud, ud, ud, ud, ud, ud, ud, ud, ud, ud, ud, ud, ud], []⟩ Tryz.func150 (by kernel_rfl) (by kernel_rfl) <| sy_sq (qc47_1 2) (qc47_1 3) <| sy_sq (qc47_1 4) (qc47_1 5) <| sy_reg <| rg_q 0 [0] <| pkq (.int .i64 0) <| ps_end <| then_n <| sy_bk 0 (qc47_1 10) ?_
  refine sy_loop (qc47_1 20) (fun a V => ∃ (i : Nat) (u3 u4 u5 u6 u7 u8 u9 u10 u11 u12 u13 u14 u15 u16 u17 u18 u19 u20 u21 u22 u23 : Value), (a = ⟨#[pT p 0, ud, iN i, u3, u4, u5, u6, u7, u8, u9, u10, u11, u12, u13, u14, u15, u16, u17, u18, u19, u20, u21, u22, u23, ud, ud, ud, ud, ud, ud, ud, ud, ud, ud, ud, ud, ud, ud, ud], []⟩) ∧ (i ≤ 17) ∧ (V.heap[p]? = some (.cells (Sp (stp (fun i => Kec.g s i ^^^ Kec.wordAt blk i) i s) blk n m) 164 (0, 0))) ∧ (Keeps (One p) w V)) (fun a _ => 17 - (intOf (a.tmps.getD 2 undef)).toNat) (by kernel_rfl) ?_ ?_
  · exact ⟨0, undef, undef, undef, undef, undef, undef, undef, undef, undef, undef, undef, undef, undef, undef, undef, undef, undef, undef, undef, undef, undef, by kernel_rfl, by omega, hp, K0⟩
  · rintro a V1 ⟨i, u3, u4, u5, u6, u7, u8, u9, u10, u11, u12, u13, u14, u15, u16, u17, u18, u19, u20, u21, u22, u23, rfl, hi, h2, K3⟩
    by_cases lt_i : i < 17
    · show _
      refine sy_sq (qc47_1 40) (qc47_1 41) <| sy_sq (qc47_1 80) (qc47_1 81) <| sy_reg <| rg_q 1 [0, 1] <| pkq (iN i) <| ppq (.bool true) (dct ((((i : Nat) : Int)) < ((17) : Int)) (by omega)) <| ps_end <| then_n <| sy_ys (.tmp 4) (qc47_1 162) (qc47_1 163) <| sy_sk <| then_n <| sy_sq (qc47_1 82) (qc47_1 83) <| sy_bk 1 (qc47_1 164) <| sy_reg ?_
      refine rg_still 3 17 (opsAt (qc47_1 164)) [qo47_1 164 0, qo47_1 164 1, qo47_1 164 2, qo47_1 164 3, qo47_1 164 4, qo47_1 164 5, qo47_1 164 6, qo47_1 164 7, qo47_1 164 8, qo47_1 164 9, qo47_1 164 10, qo47_1 164 11, qo47_1 164 12, qo47_1 164 13, qo47_1 164 14, qo47_1 164 15, qo47_1 164 16] [qo47_1 164 17] (by kernel_rfl) (by kernel_rfl) (by kernel_rfl) (by kernel_rfl) (by kernel_rfl) ?_
      obtain ⟨V5, eV5, kV5⟩ := drew_step V1
      rw [eV5]
      clear eV5
      have h6 := kV5.bk h2
      have K7 := K3.nn kV5
      refine skq (pT p 0) <| skq (iN i) <| skq (pT p 0) <| skq (pT p 0) <| spq (pT p i) (exec_cast (v := pT p (0 + i * 1)) (by simp) (exec_indexAt_arr 161 (.tmp 10) (.tmp 8) (by kernel_rfl) p 0 (by kernel_rfl) .i64 i (by kernel_rfl) _ _ 1 Tryz.underlying161 (by kernel_rfl) (by omega))) <| spq (uN (Kec.g s i)) (exec_ld 24 (.tmp 11) p i Tryz.underlying24 (rc (h6) ((Sp_word _ _ _ _ ((stp_len _ _ _).trans hs) i (by omega)).trans (congrArg (fun n : Nat => some (Value.int .u64 (n : Int))) (by rw [stp_get _ _ _ _ (by omega), if_neg (by omega)]))))) <| skq (pT p 0) <| skq (pT p 0) <| skq (pT p 25) <| skq (iN i) <| spq (iN (8 * i)) (exec_cast (congrArg (Value.int .i64) (wrapN (8 * i) (by omega))) (by kernel_rfl)) <| spq (.slice (some ⟨p, 25 + 8 * i, none⟩) (136 - 8 * i) (136 - 8 * i)) (exec_slice_arr 162 (.tmp 15) (.tmp 17) (by kernel_rfl) p 25 (by kernel_rfl) .i64 (8 * i) (by kernel_rfl) 136 5 Tryz.underlying162 (by kernel_rfl) (by omega)) <| scq 158 #[.slice (some ⟨p, 25 + 8 * i, none⟩) (136 - 8 * i) (136 - 8 * i)] (uN (Kec.wordAt blk i)) Tryz.func158 (kword_ok p (25 + 8 * i) (136 - 8 * i) (136 - 8 * i) (blk.drop (8 * i)) _ (by rw [List.length_drop, hb]) (by omega) (Nat.le_refl _) (Sp_bytes h6 ((stp_len _ _ _).trans hs) hb (8 * i) (by omega))) <| spq (uN ((Kec.g s i) ^^^ (Kec.wordAt blk i))) (exec_cast (xorU (Kec.g s i) (Kec.wordAt blk i) (ws _) (Kec.wordAt_lt _ _)) (by kernel_rfl)) ?_
      refine skq (pT p 0) <| skq (pT p 0) <| spq (pT p i) (exec_cast (v := pT p (0 + i * 1)) (by simp) (exec_indexAt_arr 161 (.tmp 22) (.tmp 8) (by kernel_rfl) p 0 (by kernel_rfl) .i64 i (by kernel_rfl) _ _ 1 Tryz.underlying161 (by kernel_rfl) (by omega))) <| st_end ?_
      obtain ⟨V8, eV8, kV8⟩ := cell_step V5 p i (.int .u64 (((Kec.g s i) ^^^ (Kec.wordAt blk i) : Nat) : Int))
      have h9 : V8.heap[p]? = some (.cells (Sp (stp (fun i => Kec.g s i ^^^ Kec.wordAt blk i) (i + 1) s) blk n m) 164 (0, 0)) := eV8 ▸ ((heap_setCell_same _ p i _ _ (.int .u64 (((Kec.g s i) ^^^ (Kec.wordAt blk i) : Nat) : Int)) h6).trans (congrArg (fun c => some (Obj.cells c 164 (0, 0))) (show (Sp (stp (fun i => Kec.g s i ^^^ Kec.wordAt blk i) i s) blk n m : Array Value).setIfInBounds i (.int .u64 (((Kec.g s i) ^^^ (Kec.wordAt blk i) : Nat) : Int)) = Sp (stp (fun i => Kec.g s i ^^^ Kec.wordAt blk i) (i + 1) s) blk n m from (Sp_set_word _ _ _ _ ((stp_len _ _ _).trans hs) i _ (by omega)).trans (congrArg (fun s => Sp s blk n m) (by rw [stp_succ])))))
      refine ls_skip (qo47_1 164 17) (w' := V8) (by kernel_rfl) (by rw [← eV8]; exact exec_store_cell 24 (.tmp 23) (.tmp 20) (by kernel_rfl) p i (by kernel_rfl) (.int .u64 (((Kec.g s i) ^^^ (Kec.wordAt blk i) : Nat) : Int)) (by kernel_rfl) (by kernel_rfl) (by kernel_rfl) (.int .u64 ((Kec.g s i : Nat) : Int)) (rc (h6) ((Sp_word _ _ _ _ ((stp_len _ _ _).trans hs) i (by omega)).trans (congrArg (fun n : Nat => some (Value.int .u64 (n : Int))) (by rw [stp_get _ _ _ _ (by omega), if_neg (by omega)])))) (frozen_of_row _ _ _ _ _ h6) (by kernel_rfl)) ?_
      clear eV8
      have K10 : Keeps (One p) w V8 := K7.then kV8 (fun i hi hm => by unfold Own.One at hm; subst hm; exact rfl)
      refine ls_end <| blk_n <| then_n <| sy_reg <| rg_q 2 [0, 1, 2] <| pkq (iN i) <| ppq (iN (i + 1)) (exec_cast (congrArg (Value.int .i64) (wrapN (i + 1) (by omega))) (by kernel_rfl)) <| pkq (iN (i + 1)) <| ps_end <| then_n ?_
      refine ⟨⟨i + 1, (iN i), (.bool true), (iN i), (iN (i + 1)), (pT p 0), (iN i), (pT p 0), (pT p 0), (pT p i), (uN (Kec.g s i)), (pT p 0), (pT p 0), (pT p 25), (iN i), (iN (8 * i)), (.slice (some ⟨p, 25 + 8 * i, none⟩) (136 - 8 * i) (136 - 8 * i)), (uN (Kec.wordAt blk i)), (uN ((Kec.g s i) ^^^ (Kec.wordAt blk i))), (pT p 0), (pT p 0), (pT p i), by kernel_rfl, by omega, h9, K10⟩, ?_⟩
      exact lt_meas (x := 17 - (i + 1)) (y := 17 - i) (by kernel_rfl) (by kernel_rfl) (by omega)
    · have eq_i : i = 17 := by omega
      have h11 : V1.heap[p]? = some (.cells (Sp (Kec.mixin s blk) blk n m) 164 (0, 0)) := h2.trans (by rw [eq_i, stp_mixin s blk hs])
      refine sy_sq (qc47_1 40) (qc47_1 41) <| sy_sq (qc47_1 80) (qc47_1 81) <| sy_reg <| rg_q 1 [0, 1] <| pkq (iN i) <| ppq (.bool false) (dcf ((((i : Nat) : Int)) < ((17) : Int)) (by omega)) <| ps_end <| then_n <| sy_n (.tmp 4) (qc47_1 162) (qc47_1 163) <| sy_exit 0 (by kernel_rfl) <| then_e <| then_e <| blk_e <| then_n ?_
      refine sy_sq (qc47_1 6) (qc47_1 7) <| sy_reg <| rg_q 4 [0, 1, 2, 3, 4, 5, 6, 7, 8] <| pkq (pT p 0) <| pkq (pT p 0) <| pkq (pT p 0) <| pkq (pT p 0) <| ppq (.agg (Wz (Kec.mixin s blk))) (exec_load_seg 161 (.tmp 27) (by kernel_rfl) p 0 (by kernel_rfl) (Wz (Kec.mixin s blk)).toList _ _ _ h11 (Sp_load _ _ _ _ (Kec.len_mixin s blk)) Tryz.underlying161 rfl (by rw [show (Wz (Kec.mixin s blk)).toList.length = 25 by simp [Wz, Kec.len_mixin]]; kernel_rfl)) ?_
      refine pcq 159 #[.agg (Wz (Kec.mixin s blk))] Tryz.func159 ((kpermuted_ok (Kec.mixin s blk) _ (Kec.len_mixin s blk) (Kec.ws_mixin ws blk)).mono ?_)
      rintro e V12 ⟨rfl, kV12⟩
      refine ⟨_, rfl, ?_⟩
      have h13 := kV12.bk h11
      have K14 := K3.nn kV12
      refine pkq (pT p 0) <| pkq (pT p 0) ?_
      obtain ⟨V15, eV15⟩ : ∃ V, V12.setCells p 0 (Wz (Kec.takes s blk)).toList = V := ⟨_, rfl⟩
      have kV15 : Keeps (One p) V12 V15 := eV15 ▸ Keeps.setCells _ _ _ _
      have h16 : V15.heap[p]? = some (.cells (Sp (Kec.takes s blk) blk n m) 164 (0, 0)) := eV15 ▸ (heap_setCells p _ _ 0 _ _ h13 (by rw [Sp_size _ _ _ _ (Kec.len_mixin s blk) hb]; simp [Wz, Kec.len_takes])).trans (congrArg (fun c => some (Obj.cells c 164 (0, 0))) (Sp_seg_words _ _ _ _ _ (Kec.len_mixin s blk) (Kec.len_takes s blk)))
      refine pzq (w' := V15) (by rw [← eV15]; exact exec_store_mid 161 (.tmp 31) (.tmp 29) (by kernel_rfl) p 0 (by kernel_rfl) (Wz (Kec.takes s blk)) (by kernel_rfl) _ _ h13 (by rw [Sp_size _ _ _ _ (Kec.len_mixin s blk) hb]; simp [Wz, Kec.len_takes]) (by rw [Wz_size, Kec.len_takes]; kernel_rfl) (Wz_one _)) ?_
      clear eV15
      have K17 : Keeps (One p) w V15 := K14.then kV15 (fun i hi hm => by unfold Own.One at hm; subst hm; exact rfl)
      refine ps_end <| then_n <| sy_reg <| rg_q 5 [0, 1, 2, 3, 4, 5, 6, 7, 8] <| pkq (pT p 0) <| pkq (pT p 0) <| pkq (.agg (B zero136).toArray) <| pkq (pT p 0) <| pkq (pT p 25) ?_
      obtain ⟨V18, eV18⟩ : ∃ V, V15.setCells p 25 ((B zero136).toArray).toList = V := ⟨_, rfl⟩
      have kV18 : Keeps (One p) V15 V18 := eV18 ▸ Keeps.setCells _ _ _ _
      have h19 : V18.heap[p]? = some (.cells (Sp (Kec.takes s blk) zero136 n m) 164 (0, 0)) := eV18 ▸ (heap_setCells p _ _ 25 _ _ h16 (by rw [Sp_size _ _ _ _ (Kec.len_takes s blk) hb]; simp [B_length, zero136])).trans (congrArg (fun c => some (Obj.cells c 164 (0, 0))) (Sp_seg_zero _ _ _ _ (Kec.len_takes s blk) hb))
      refine pzq (w' := V18) (by rw [← eV18]; exact exec_store_mid 162 (.tmp 36) (.tmp 34) (by kernel_rfl) p 25 (by kernel_rfl) ((B zero136).toArray) (by kernel_rfl) _ _ h16 (by rw [Sp_size _ _ _ _ (Kec.len_takes s blk) hb]; simp [B_length, zero136]) (by kernel_rfl) (by rw [List.all_toArray]; exact List.all_eq_true.2 (B_one _))) ?_
      clear eV18
      have K20 : Keeps (One p) w V18 := K17.then kV18 (fun i hi hm => by unfold Own.One at hm; subst hm; exact rfl)
      refine pkq (pT p 0) <| pkq (pT p 161) ?_
      obtain ⟨V21, eV21, kV21⟩ := cell_step V18 p 161 (.int .i64 0)
      have h22 : V21.heap[p]? = some (.cells (Sp (Kec.takes s blk) zero136 0 m) 164 (0, 0)) := eV21 ▸ ((heap_setCell_same _ p 161 _ _ (.int .i64 0) h19).trans (congrArg (fun c => some (Obj.cells c 164 (0, 0))) (show (Sp (Kec.takes s blk) zero136 n m : Array Value).setIfInBounds 161 (.int .i64 0) = Sp (Kec.takes s blk) zero136 0 m from Sp_set_n _ _ _ _ _ (Kec.len_takes s blk) zero136_len)))
      refine pzq (w' := V21) (by rw [← eV21]; exact exec_store_cell 3 (.tmp 38) (.const (.int .i64 0)) (by kernel_rfl) p 161 (by kernel_rfl) (.int .i64 0) (by kernel_rfl) (by kernel_rfl) (by kernel_rfl) (iN n) (rc (h19) (Sp_n _ _ _ _ (Kec.len_takes s blk) zero136_len)) (frozen_of_row _ _ _ _ _ h19) (by kernel_rfl)) ?_
      clear eV21
      have K23 : Keeps (One p) w V21 := K20.then kV21 (fun i hi hm => by unfold Own.One at hm; subst hm; exact rfl)
      refine ps_end <| sy_fall (.tuple #[]) rfl (by kernel_rfl) ?_
      exact ⟨rfl, h22, K23⟩
/-- The block of a sponge that took bytes. -/
def blkOf (l : List UInt8) : List UInt8 := Kec.restOf l ++ List.replicate (136 - l.length % 136) 0
theorem blkOf_len (l : List UInt8) : (blkOf l).length = 136 := by unfold blkOf; rw [List.length_append, Kec.restOf_len, List.length_replicate]; omega
theorem blkOf_cut (l y : List UInt8) (h : l.length % 136 + y.length ≤ 136) : (blkOf l).take (l.length % 136) ++ y ++ (blkOf l).drop (l.length % 136 + y.length) = Kec.restOf l ++ y ++ List.replicate (136 - l.length % 136 - y.length) 0 := by
  have hr := Kec.restOf_len l
  unfold blkOf
  rw [List.take_left' hr, List.drop_append, List.drop_of_length_le (by omega), List.nil_append, hr, Nat.add_sub_cancel_left, List.drop_replicate]
theorem write_some (l y : List UInt8) (h : l.length % 136 + y.length < 136) : (blkOf l).take (l.length % 136) ++ y ++ (blkOf l).drop (l.length % 136 + y.length) = blkOf (l ++ y) ∧ Kec.stateOf l = Kec.stateOf (l ++ y) ∧ l.length % 136 + y.length = (l ++ y).length % 136 := by
  have hr := Kec.restOf_len l
  have hs := Kec.sponge_some l y (by omega)
  have hl : l.length % 136 + y.length = (l ++ y).length % 136 := by rw [List.length_append]; omega
  refine ⟨?_, hs.1.symm, hl⟩
  rw [blkOf_cut l y (by omega)]
  unfold blkOf
  rw [hs.2, ← hl, Nat.sub_sub]
theorem write_full (l y : List UInt8) (h : l.length % 136 + y.length = 136) : Kec.takes (Kec.stateOf l) ((blkOf l).take (l.length % 136) ++ y ++ (blkOf l).drop (l.length % 136 + y.length)) = Kec.stateOf (l ++ y) ∧ zero136 = blkOf (l ++ y) ∧ 0 = (l ++ y).length % 136 := by
  have hr := Kec.restOf_len l
  have hs := Kec.sponge_fill l y (by omega)
  have hl : 0 = (l ++ y).length % 136 := by rw [List.length_append]; omega
  refine ⟨?_, ?_, hl⟩
  · rw [blkOf_cut l y (by omega), hs.1, show 136 - l.length % 136 - y.length = 0 by omega]; simp
  · unfold blkOf zero136
    rw [hs.2, ← hl]; simp
theorem wcase (n r : Nat) (hr : r < 136) : (∃ c, 0 < n ∧ c = n ∧ c = Nat.min n (136 - r) ∧ r + c < 136) ∨ (∃ c, 0 < n ∧ c ≤ n ∧ c = Nat.min n (136 - r) ∧ r + c = 136) ∨ n = 0 := by
  have h : Nat.min n (136 - r) = if n ≤ 136 - r then n else 136 - r := Nat.min_def
  by_cases h0 : n = 0
  · exact .inr (.inr h0)
  · by_cases h1 : r + n < 136
    · exact .inl ⟨n, by omega, rfl, by rw [h, if_pos (by omega)], h1⟩
    · refine .inr (.inl ⟨136 - r, by omega, by omega, ?_, by omega⟩)
      rw [h]; split <;> omega
def sliceLen : Value → Nat | .slice _ n _ => n | _ => 0
/-- A sponge at p that took the bytes l. -/
def SpAt (w : World) (p : Nat) (l : List UInt8) : Prop := w.heap[p]? = some (.cells (Sp (Kec.stateOf l) (blkOf l) (l.length % 136) l.length) 164 (0, 0))
theorem take_step (x : List UInt8) (k c : Nat) : x.take (k + c) = x.take k ++ (x.drop k).take c := by rw [List.take_add]
theorem sp_next (l x y : List UInt8) (k c m : Nat) (hy : y = (x.drop k).take c) (cs : Array Value) (h : cs = Sp (Kec.stateOf (l ++ x.take k ++ y)) (blkOf (l ++ x.take k ++ y)) ((l ++ x.take k ++ y).length % 136) m) : cs = Sp (Kec.stateOf (l ++ x.take (k + c))) (blkOf (l ++ x.take (k + c))) ((l ++ x.take (k + c)).length % 136) m := by
  rw [h, hy, take_step, List.append_assoc]
theorem cut_block (A : Option Addr) (n cap c j : Nat) (h : (Value.slice (if cap = c then A else A.map (·.add c)) (n - c) (cap - c)).ownBlock = some j) : (Value.slice A n cap).ownBlock = some j := by
  cases A with
  | none => split at h <;> simp [Value.ownBlock] at h
  | some a =>
    have hb : (a.add c).block = a.block := by unfold Addr.add; split <;> rfl
    split at h
    · exact h
    · simp only [Value.ownBlock, Option.map_some, hb] at h ⊢; exact h
noncomputable def qc47_2 (n : Nat) : Code := partOf Tryz.f128 n
noncomputable abbrev qo47_2 (n k : Nat) : Oper := (opsAt (qc47_2 n)).getD k default
theorem kwrite_ok (p : Nat) (l x : List UInt8) (A0 : Option Addr) (cap0 : Nat) (w : World) (hp : SpAt w p l) (hx : BytesAt w (.slice A0 x.length cap0) x) (hA0 : 0 < x.length → ∀ j, (Value.slice A0 x.length cap0).ownBlock = some j → j ≠ p) (hl : l.length + x.length ≤ 9000000000000000000) :
    Calls Tryz.prog 128 #[.pointer (some ⟨p, 0, none⟩), .slice A0 x.length cap0] w (fun e w' => e = .returned (.tuple #[]) ∧ SpAt w' p (l ++ x) ∧ Keeps (One p) w w') := by
  have K0 : Keeps (One p) w w := Keeps.refl _ _
  refine sy_enter (qc47_2 1) ⟨#[pT p 0, .slice A0 x.length cap0, ud, ud, ud, ud, ud, ud, ud, ud, ud, ud, ud, ud, ud, ud, ud, ud, ud, ud, ud, ud, ud, ud, ud, ud, ud, ud, ud, ud, ud, ud, ud, ud, ud, ud, ud, ud, ud, ud, ud, ud, ud, ud, ud], []⟩ Tryz.func128 (by kernel_rfl) (by kernel_rfl) <| sy_sq (qc47_2 2) (qc47_2 3) <| sy_reg <| rg_q 0 [0, 1, 2, 3, 4, 5, 6, 7, 8, 9] <| pkq (pT p 0) <| pkq (pT p 0) <| pkq (pT p 162) <| ppq (iN l.length) (exec_ld 3 (.tmp 7) p 162 Tryz.underlying3 (rc (hp) (Sp_m _ _ _ _ (Kec.len_stateOf _) (blkOf_len _)))) <| pkq (.slice A0 x.length cap0) <| ppq (iN x.length) (exec_len (.tmp 9) 114 _ (by kernel_rfl) Tryz.underlying114 A0 x.length cap0 (by kernel_rfl)) <| ppq (iN (l.length + x.length)) (exec_cast (congrArg (Value.int .i64) (wrapN (l.length + x.length) (by omega))) (by kernel_rfl)) <| pkq (pT p 0) <| pkq (pT p 162) ?_
  obtain ⟨V1, eV1, kV1⟩ := cell_step w p 162 (.int .i64 ((l.length + x.length : Nat) : Int))
  have h2 : V1.heap[p]? = some (.cells (Sp (Kec.stateOf l) (blkOf l) (l.length % 136) (l.length + x.length)) 164 (0, 0)) := eV1 ▸ ((heap_setCell_same _ p 162 _ _ (.int .i64 ((l.length + x.length : Nat) : Int)) hp).trans (congrArg (fun c => some (Obj.cells c 164 (0, 0))) (show (Sp (Kec.stateOf l) (blkOf l) (l.length % 136) l.length : Array Value).setIfInBounds 162 (.int .i64 ((l.length + x.length : Nat) : Int)) = Sp (Kec.stateOf l) (blkOf l) (l.length % 136) (l.length + x.length) from Sp_set_m _ _ _ _ _ (Kec.len_stateOf _) (blkOf_len _))))
  refine pzq (w' := V1) (by rw [← eV1]; exact exec_store_cell 3 (.tmp 13) (.tmp 11) (by kernel_rfl) p 162 (by kernel_rfl) (iN (l.length + x.length)) (by kernel_rfl) (by kernel_rfl) (by kernel_rfl) (iN l.length) (rc (hp) (Sp_m _ _ _ _ (Kec.len_stateOf _) (blkOf_len _))) (frozen_of_row _ _ _ _ _ hp) (by kernel_rfl)) ?_
  clear eV1
  have h3 : BytesAt V1 (.slice A0 x.length cap0) x := hx.keeps0 kV1 (fun hn j hj e => hA0 hn j hj e)
  have K4 : Keeps (One p) w V1 := K0.then kV1 (fun i hi hm => by unfold Own.One at hm; subst hm; exact rfl)
  refine ps_end <| then_n <| sy_bk 0 (qc47_2 6) ?_
  refine sy_loop (qc47_2 12) (fun a V => ∃ (k : Nat) (n : Nat) (cap : Nat) (A : Option Addr) (u4 u14 u15 u16 u17 u18 u19 u20 u21 u22 u23 u24 u25 u26 u27 u28 u29 u30 u31 u32 u33 u34 u35 u36 u37 u38 u39 u40 u41 u42 u43 u44 : Value), (a = ⟨#[pT p 0, .slice A n cap, ud, ud, u4, pT p 0, pT p 0, pT p 162, iN l.length, .slice A0 x.length cap0, iN x.length, iN (l.length + x.length), pT p 0, pT p 162, u14, u15, u16, u17, u18, u19, u20, u21, u22, u23, u24, u25, u26, u27, u28, u29, u30, u31, u32, u33, u34, u35, u36, u37, u38, u39, u40, u41, u42, u43, u44], []⟩) ∧ (n + k = x.length) ∧ (0 < n → ∀ j, (Value.slice A n cap).ownBlock = some j → j ≠ p) ∧ (BytesAt V (.slice A n cap) (x.drop k)) ∧ (V.heap[p]? = some (.cells (Sp (Kec.stateOf (l ++ x.take k)) (blkOf (l ++ x.take k)) ((l ++ x.take k).length % 136) (l.length + x.length)) 164 (0, 0))) ∧ (Keeps (One p) w V)) (fun a _ => sliceLen (a.tmps.getD 1 undef)) (by kernel_rfl) ?_ ?_
  · exact ⟨0, x.length, cap0, A0, undef, undef, undef, undef, undef, undef, undef, undef, undef, undef, undef, undef, undef, undef, undef, undef, undef, undef, undef, undef, undef, undef, undef, undef, undef, undef, undef, undef, undef, undef, undef, undef, by kernel_rfl, rfl, hA0, h3, h2.trans (by rw [List.take_zero, List.append_nil]), K4⟩
  · rintro a V5 ⟨k, n, cap, A, u4, u14, u15, u16, u17, u18, u19, u20, u21, u22, u23, u24, u25, u26, u27, u28, u29, u30, u31, u32, u33, u34, u35, u36, u37, u38, u39, u40, u41, u42, u43, u44, rfl, hkn, hA, h6, h7, K8⟩
    rcases wcase n ((l ++ x.take k).length % 136) (Nat.mod_lt _ (by decide)) with ⟨c, h0, hcn, hcm, hcr⟩ | ⟨c, h0, hcn, hcm, hcr⟩ | h0
    · show _
      refine sy_sq (qc47_2 24) (qc47_2 25) <| sy_sq (qc47_2 48) (qc47_2 49) <| sy_reg <| rg_q 1 [0, 1, 2] <| pkq (.slice A n cap) <| ppq (iN n) (exec_len (.tmp 14) 114 _ (by kernel_rfl) Tryz.underlying114 A n cap (by kernel_rfl)) <| ppq (.bool true) (dct ((((n : Nat) : Int)) > ((0) : Int)) (by omega)) <| ps_end <| then_n <| sy_ys (.tmp 16) (qc47_2 98) (qc47_2 99) <| sy_sk <| then_n <| sy_bk 1 (qc47_2 50) <| sy_sq (qc47_2 100) (qc47_2 101) ?_
      refine sy_reg <| rg_still 2 9 (opsAt (qc47_2 100)) [qo47_2 100 0, qo47_2 100 1, qo47_2 100 2, qo47_2 100 3, qo47_2 100 4, qo47_2 100 5, qo47_2 100 6, qo47_2 100 7, qo47_2 100 8] [qo47_2 100 9, qo47_2 100 10] (by kernel_rfl) (by kernel_rfl) (by kernel_rfl) (by kernel_rfl) (by kernel_rfl) ?_
      obtain ⟨V10, eV10, kV10⟩ := drew_step V5
      rw [eV10]
      clear eV10
      have h11 : BytesAt V10 (.slice A n cap) (x.drop k) := h6.keepsN kV10
      have h12 := kV10.bk h7
      have K13 := K8.nn kV10
      refine skq (pT p 0) <| skq (pT p 0) <| skq (pT p 25) <| skq (pT p 0) <| skq (pT p 0) <| skq (pT p 161) <| spq (iN ((l ++ x.take k).length % 136)) (exec_ld 3 (.tmp 22) p 161 Tryz.underlying3 (rc (h12) (Sp_n _ _ _ _ (Kec.len_stateOf _) (blkOf_len _)))) <| spq (.slice (some ⟨p, 25 + ((l ++ x.take k).length % 136), none⟩) (136 - ((l ++ x.take k).length % 136)) (136 - ((l ++ x.take k).length % 136))) (exec_slice_arr 162 (.tmp 19) (.tmp 23) (by kernel_rfl) p 25 (by kernel_rfl) .i64 ((l ++ x.take k).length % 136) (by kernel_rfl) 136 5 Tryz.underlying162 (by kernel_rfl) (Nat.mod_lt _ (by decide))) <| skq (.slice A n cap) <| st_end ?_
      have hyl : ((x.drop k).take c).length = c := by rw [List.length_take, List.length_drop]; omega
      have hrk : (l ++ x.take k).length % 136 < 136 := Nat.mod_lt _ (by decide)
      obtain ⟨V14, eV14⟩ : ∃ V, V10.setRow p (seg (Sp (Kec.stateOf (l ++ x.take k)) (blkOf (l ++ x.take k)) ((l ++ x.take k).length % 136) (l.length + x.length)) (25 + ((l ++ x.take k).length % 136)) (B ((x.drop k).take c))) = V := ⟨_, rfl⟩
      have kV14 : Keeps (One p) V10 V14 := eV14 ▸ (Keeps.refl (One p) _).setRow (fun _ => (rfl : Own.One p p)) _
      have h15 : V14.heap[p]? = some (.cells (Sp (Kec.stateOf (l ++ x.take k)) ((blkOf (l ++ x.take k)).take ((l ++ x.take k).length % 136) ++ ((x.drop k).take c) ++ (blkOf (l ++ x.take k)).drop ((l ++ x.take k).length % 136 + ((x.drop k).take c).length)) ((l ++ x.take k).length % 136) (l.length + x.length)) 164 (0, 0)) := eV14 ▸ (setRow_heap _ _ _ _ _ _ h12).trans (congrArg (fun c => some (Obj.cells c 164 (0, 0))) (Sp_seg_bytes _ _ _ _ _ _ (Kec.len_stateOf _) (by rw [blkOf_len, hyl]; omega)))
      refine ls_run (qo47_2 100 9) (w' := V14) (iN c) (by kernel_rfl) (by rw [← eV14]; exact exec_copy (.tmp 24) (.tmp 25) 114 (by kernel_rfl) 5 Tryz.underlying114 (by kernel_rfl) p (25 + ((l ++ x.take k).length % 136)) (136 - ((l ++ x.take k).length % 136)) (136 - ((l ++ x.take k).length % 136)) (by kernel_rfl) (.slice A n cap) (x.drop k) (by kernel_rfl) h11 _ _ h12 c (by rw [List.length_drop, show x.length - k = n by omega]; exact hcm) (by rw [Sp_size _ _ _ _ (Kec.len_stateOf _) (blkOf_len _)]; omega) (by rw [List.length_drop]; omega)) ?_
      clear eV14
      have h16 : BytesAt V14 (.slice A n cap) (x.drop k) := h11.keeps0 kV14 (fun hn j hj e => hA (by rw [List.length_drop] at hn; omega) j hj e)
      have K17 : Keeps (One p) w V14 := K13.then kV14 (fun i hi hm => by unfold Own.One at hm; subst hm; exact rfl)
      refine ls_run (qo47_2 100 10) (iN c) (w' := V14) (by kernel_rfl) (by kernel_rfl) <| ls_end <| then_n <| sy_sq (qc47_2 202) (qc47_2 203) <| sy_reg <| rg_q 3 [0, 1, 2, 3, 4, 5, 6, 7, 8] <| pkq (pT p 0) <| pkq (pT p 0) <| pkq (pT p 161) <| ppq (iN ((l ++ x.take k).length % 136)) (exec_ld 3 (.tmp 29) p 161 Tryz.underlying3 (rc (h15) (Sp_n _ _ _ _ (Kec.len_stateOf _) ((by rw [List.length_append, List.length_append, List.length_take, List.length_drop, blkOf_len, hyl]; omega : ((blkOf (l ++ x.take k)).take ((l ++ x.take k).length % 136) ++ ((x.drop k).take c) ++ (blkOf (l ++ x.take k)).drop ((l ++ x.take k).length % 136 + ((x.drop k).take c).length)).length = 136))))) <| pkq (iN c) <| ppq (iN (((l ++ x.take k).length % 136) + c)) (exec_cast (congrArg (Value.int .i64) (wrapN (((l ++ x.take k).length % 136) + c) (by omega))) (by kernel_rfl)) <| pkq (pT p 0) <| pkq (pT p 161) ?_
      obtain ⟨V18, eV18, kV18⟩ := cell_step V14 p 161 (.int .i64 ((((l ++ x.take k).length % 136) + c : Nat) : Int))
      have h19 : V18.heap[p]? = some (.cells (Sp (Kec.stateOf (l ++ x.take k)) ((blkOf (l ++ x.take k)).take ((l ++ x.take k).length % 136) ++ ((x.drop k).take c) ++ (blkOf (l ++ x.take k)).drop ((l ++ x.take k).length % 136 + ((x.drop k).take c).length)) (((l ++ x.take k).length % 136) + c) (l.length + x.length)) 164 (0, 0)) := eV18 ▸ ((heap_setCell_same _ p 161 _ _ (.int .i64 ((((l ++ x.take k).length % 136) + c : Nat) : Int)) h15).trans (congrArg (fun c => some (Obj.cells c 164 (0, 0))) (show (Sp (Kec.stateOf (l ++ x.take k)) ((blkOf (l ++ x.take k)).take ((l ++ x.take k).length % 136) ++ ((x.drop k).take c) ++ (blkOf (l ++ x.take k)).drop ((l ++ x.take k).length % 136 + ((x.drop k).take c).length)) ((l ++ x.take k).length % 136) (l.length + x.length) : Array Value).setIfInBounds 161 (.int .i64 ((((l ++ x.take k).length % 136) + c : Nat) : Int)) = Sp (Kec.stateOf (l ++ x.take k)) ((blkOf (l ++ x.take k)).take ((l ++ x.take k).length % 136) ++ ((x.drop k).take c) ++ (blkOf (l ++ x.take k)).drop ((l ++ x.take k).length % 136 + ((x.drop k).take c).length)) (((l ++ x.take k).length % 136) + c) (l.length + x.length) from Sp_set_n _ _ _ _ _ (Kec.len_stateOf _) ((by rw [List.length_append, List.length_append, List.length_take, List.length_drop, blkOf_len, hyl]; omega : ((blkOf (l ++ x.take k)).take ((l ++ x.take k).length % 136) ++ ((x.drop k).take c) ++ (blkOf (l ++ x.take k)).drop ((l ++ x.take k).length % 136 + ((x.drop k).take c).length)).length = 136)))))
      refine pzq (w' := V18) (by rw [← eV18]; exact exec_store_cell 3 (.tmp 34) (.tmp 32) (by kernel_rfl) p 161 (by kernel_rfl) (iN (((l ++ x.take k).length % 136) + c)) (by kernel_rfl) (by kernel_rfl) (by kernel_rfl) (iN ((l ++ x.take k).length % 136)) (rc (h15) (Sp_n _ _ _ _ (Kec.len_stateOf _) ((by rw [List.length_append, List.length_append, List.length_take, List.length_drop, blkOf_len, hyl]; omega : ((blkOf (l ++ x.take k)).take ((l ++ x.take k).length % 136) ++ ((x.drop k).take c) ++ (blkOf (l ++ x.take k)).drop ((l ++ x.take k).length % 136 + ((x.drop k).take c).length)).length = 136)))) (frozen_of_row _ _ _ _ _ h15) (by kernel_rfl)) ?_
      clear eV18
      have h20 : BytesAt V18 (.slice A n cap) (x.drop k) := h16.keeps0 kV18 (fun hn j hj e => hA (by rw [List.length_drop] at hn; omega) j hj e)
      have K21 : Keeps (One p) w V18 := K17.then kV18 (fun i hi hm => by unfold Own.One at hm; subst hm; exact rfl)
      refine ps_end <| then_n <| sy_sq (qc47_2 406) (qc47_2 407) <| sy_reg <| rg_q 4 [0, 1, 2, 3] <| pkq (.slice A n cap) <| pkq (iN c) <| ppq (.slice (if cap = c then A else A.map (·.add c)) (n - c) (cap - c)) (exec_slice_from 114 (.tmp 35) (.tmp 36) (by kernel_rfl) A n cap (by kernel_rfl) .i64 c (by kernel_rfl) 5 Tryz.underlying114 (by kernel_rfl) (by omega)) <| pkq (.slice (if cap = c then A else A.map (·.add c)) (n - c) (cap - c)) <| ps_end <| sy_a ⟨#[pT p 0, .slice (if cap = c then A else A.map (·.add c)) (n - c) (cap - c), ud, ud, iN c, pT p 0, pT p 0, pT p 162, iN l.length, .slice A0 x.length cap0, iN x.length, iN (l.length + x.length), pT p 0, pT p 162, .slice A n cap, iN n, .bool true, pT p 0, pT p 0, pT p 25, pT p 0, pT p 0, pT p 161, iN ((l ++ x.take k).length % 136), .slice (some ⟨p, 25 + ((l ++ x.take k).length % 136), none⟩) (136 - ((l ++ x.take k).length % 136)) (136 - ((l ++ x.take k).length % 136)), .slice A n cap, iN c, pT p 0, pT p 0, pT p 161, iN ((l ++ x.take k).length % 136), iN c, iN (((l ++ x.take k).length % 136) + c), pT p 0, pT p 161, .slice A n cap, iN c, .slice (if cap = c then A else A.map (·.add c)) (n - c) (cap - c), u38, u39, u40, u41, u42, u43, u44], []⟩ <| then_n <| sy_sq (qc47_2 814) (qc47_2 815) <| sy_reg ?_
      refine rg_q 5 [0, 1, 2, 3, 4] <| pkq (pT p 0) <| pkq (pT p 0) <| pkq (pT p 161) <| ppq (iN (((l ++ x.take k).length % 136) + c)) (exec_ld 3 (.tmp 40) p 161 Tryz.underlying3 (rc (h19) (Sp_n _ _ _ _ (Kec.len_stateOf _) ((by rw [List.length_append, List.length_append, List.length_take, List.length_drop, blkOf_len, hyl]; omega : ((blkOf (l ++ x.take k)).take ((l ++ x.take k).length % 136) ++ ((x.drop k).take c) ++ (blkOf (l ++ x.take k)).drop ((l ++ x.take k).length % 136 + ((x.drop k).take c).length)).length = 136))))) <| ppq (.bool false) (exec_cast (congrArg Value.bool (show (((((((l ++ x.take k).length % 136) + c : Nat) : Int)) == ((136) : Int))) = false from by simp only [beq_eq_false_iff_ne, ne_eq]; omega)) (by kernel_rfl)) <| ps_end <| then_n <| sy_n (.tmp 42) (qc47_2 1630) (qc47_2 1631) <| sy_sk <| blk_n <| then_n ?_
      refine ⟨⟨k + c, n - c, cap - c, (if cap = c then A else A.map (·.add c)), (iN c), (.slice A n cap), (iN n), (.bool true), (pT p 0), (pT p 0), (pT p 25), (pT p 0), (pT p 0), (pT p 161), (iN ((l ++ x.take k).length % 136)), (.slice (some ⟨p, 25 + ((l ++ x.take k).length % 136), none⟩) (136 - ((l ++ x.take k).length % 136)) (136 - ((l ++ x.take k).length % 136))), (.slice A n cap), (iN c), (pT p 0), (pT p 0), (pT p 161), (iN ((l ++ x.take k).length % 136)), (iN c), (iN (((l ++ x.take k).length % 136) + c)), (pT p 0), (pT p 161), (.slice A n cap), (iN c), (.slice (if cap = c then A else A.map (·.add c)) (n - c) (cap - c)), (pT p 0), (pT p 0), (pT p 161), (iN (((l ++ x.take k).length % 136) + c)), (.bool false), u43, u44, by kernel_rfl, by omega, fun hn j hj => hA (by omega) j (cut_block A n cap c j hj), (show BytesAt _ (.slice (if cap = c then A else A.map (·.add c)) (n - c) (cap - c)) (x.drop (k + c)) from by have := BytesAt.drop h20 c (by rw [List.length_drop]; omega) _ _ _ rfl; rwa [List.drop_drop] at this), h19.trans (congrArg (fun c => some (Obj.cells c 164 (0, 0))) (sp_next l x _ k c _ rfl _ (by obtain ⟨e1, e2, e3⟩ := write_some (l ++ x.take k) ((x.drop k).take c) (by rw [hyl]; omega); rw [← e1, ← e2, ← e3, hyl]))), K21⟩, ?_⟩
      exact lt_meas (x := n - c) (y := n) (by kernel_rfl) (by kernel_rfl) (by omega)
    · show _
      refine sy_sq (qc47_2 24) (qc47_2 25) <| sy_sq (qc47_2 48) (qc47_2 49) <| sy_reg <| rg_q 1 [0, 1, 2] <| pkq (.slice A n cap) <| ppq (iN n) (exec_len (.tmp 14) 114 _ (by kernel_rfl) Tryz.underlying114 A n cap (by kernel_rfl)) <| ppq (.bool true) (dct ((((n : Nat) : Int)) > ((0) : Int)) (by omega)) <| ps_end <| then_n <| sy_ys (.tmp 16) (qc47_2 98) (qc47_2 99) <| sy_sk <| then_n <| sy_bk 1 (qc47_2 50) <| sy_sq (qc47_2 100) (qc47_2 101) ?_
      refine sy_reg <| rg_still 2 9 (opsAt (qc47_2 100)) [qo47_2 100 0, qo47_2 100 1, qo47_2 100 2, qo47_2 100 3, qo47_2 100 4, qo47_2 100 5, qo47_2 100 6, qo47_2 100 7, qo47_2 100 8] [qo47_2 100 9, qo47_2 100 10] (by kernel_rfl) (by kernel_rfl) (by kernel_rfl) (by kernel_rfl) (by kernel_rfl) ?_
      obtain ⟨V23, eV23, kV23⟩ := drew_step V5
      rw [eV23]
      clear eV23
      have h24 : BytesAt V23 (.slice A n cap) (x.drop k) := h6.keepsN kV23
      have h25 := kV23.bk h7
      have K26 := K8.nn kV23
      refine skq (pT p 0) <| skq (pT p 0) <| skq (pT p 25) <| skq (pT p 0) <| skq (pT p 0) <| skq (pT p 161) <| spq (iN ((l ++ x.take k).length % 136)) (exec_ld 3 (.tmp 22) p 161 Tryz.underlying3 (rc (h25) (Sp_n _ _ _ _ (Kec.len_stateOf _) (blkOf_len _)))) <| spq (.slice (some ⟨p, 25 + ((l ++ x.take k).length % 136), none⟩) (136 - ((l ++ x.take k).length % 136)) (136 - ((l ++ x.take k).length % 136))) (exec_slice_arr 162 (.tmp 19) (.tmp 23) (by kernel_rfl) p 25 (by kernel_rfl) .i64 ((l ++ x.take k).length % 136) (by kernel_rfl) 136 5 Tryz.underlying162 (by kernel_rfl) (Nat.mod_lt _ (by decide))) <| skq (.slice A n cap) <| st_end ?_
      have hyl : ((x.drop k).take c).length = c := by rw [List.length_take, List.length_drop]; omega
      have hrk : (l ++ x.take k).length % 136 < 136 := Nat.mod_lt _ (by decide)
      obtain ⟨V27, eV27⟩ : ∃ V, V23.setRow p (seg (Sp (Kec.stateOf (l ++ x.take k)) (blkOf (l ++ x.take k)) ((l ++ x.take k).length % 136) (l.length + x.length)) (25 + ((l ++ x.take k).length % 136)) (B ((x.drop k).take c))) = V := ⟨_, rfl⟩
      have kV27 : Keeps (One p) V23 V27 := eV27 ▸ (Keeps.refl (One p) _).setRow (fun _ => (rfl : Own.One p p)) _
      have h28 : V27.heap[p]? = some (.cells (Sp (Kec.stateOf (l ++ x.take k)) ((blkOf (l ++ x.take k)).take ((l ++ x.take k).length % 136) ++ ((x.drop k).take c) ++ (blkOf (l ++ x.take k)).drop ((l ++ x.take k).length % 136 + ((x.drop k).take c).length)) ((l ++ x.take k).length % 136) (l.length + x.length)) 164 (0, 0)) := eV27 ▸ (setRow_heap _ _ _ _ _ _ h25).trans (congrArg (fun c => some (Obj.cells c 164 (0, 0))) (Sp_seg_bytes _ _ _ _ _ _ (Kec.len_stateOf _) (by rw [blkOf_len, hyl]; omega)))
      refine ls_run (qo47_2 100 9) (w' := V27) (iN c) (by kernel_rfl) (by rw [← eV27]; exact exec_copy (.tmp 24) (.tmp 25) 114 (by kernel_rfl) 5 Tryz.underlying114 (by kernel_rfl) p (25 + ((l ++ x.take k).length % 136)) (136 - ((l ++ x.take k).length % 136)) (136 - ((l ++ x.take k).length % 136)) (by kernel_rfl) (.slice A n cap) (x.drop k) (by kernel_rfl) h24 _ _ h25 c (by rw [List.length_drop, show x.length - k = n by omega]; exact hcm) (by rw [Sp_size _ _ _ _ (Kec.len_stateOf _) (blkOf_len _)]; omega) (by rw [List.length_drop]; omega)) ?_
      clear eV27
      have h29 : BytesAt V27 (.slice A n cap) (x.drop k) := h24.keeps0 kV27 (fun hn j hj e => hA (by rw [List.length_drop] at hn; omega) j hj e)
      have K30 : Keeps (One p) w V27 := K26.then kV27 (fun i hi hm => by unfold Own.One at hm; subst hm; exact rfl)
      refine ls_run (qo47_2 100 10) (iN c) (w' := V27) (by kernel_rfl) (by kernel_rfl) <| ls_end <| then_n <| sy_sq (qc47_2 202) (qc47_2 203) <| sy_reg <| rg_q 3 [0, 1, 2, 3, 4, 5, 6, 7, 8] <| pkq (pT p 0) <| pkq (pT p 0) <| pkq (pT p 161) <| ppq (iN ((l ++ x.take k).length % 136)) (exec_ld 3 (.tmp 29) p 161 Tryz.underlying3 (rc (h28) (Sp_n _ _ _ _ (Kec.len_stateOf _) ((by rw [List.length_append, List.length_append, List.length_take, List.length_drop, blkOf_len, hyl]; omega : ((blkOf (l ++ x.take k)).take ((l ++ x.take k).length % 136) ++ ((x.drop k).take c) ++ (blkOf (l ++ x.take k)).drop ((l ++ x.take k).length % 136 + ((x.drop k).take c).length)).length = 136))))) <| pkq (iN c) <| ppq (iN (((l ++ x.take k).length % 136) + c)) (exec_cast (congrArg (Value.int .i64) (wrapN (((l ++ x.take k).length % 136) + c) (by omega))) (by kernel_rfl)) <| pkq (pT p 0) <| pkq (pT p 161) ?_
      obtain ⟨V31, eV31, kV31⟩ := cell_step V27 p 161 (.int .i64 ((((l ++ x.take k).length % 136) + c : Nat) : Int))
      have h32 : V31.heap[p]? = some (.cells (Sp (Kec.stateOf (l ++ x.take k)) ((blkOf (l ++ x.take k)).take ((l ++ x.take k).length % 136) ++ ((x.drop k).take c) ++ (blkOf (l ++ x.take k)).drop ((l ++ x.take k).length % 136 + ((x.drop k).take c).length)) (((l ++ x.take k).length % 136) + c) (l.length + x.length)) 164 (0, 0)) := eV31 ▸ ((heap_setCell_same _ p 161 _ _ (.int .i64 ((((l ++ x.take k).length % 136) + c : Nat) : Int)) h28).trans (congrArg (fun c => some (Obj.cells c 164 (0, 0))) (show (Sp (Kec.stateOf (l ++ x.take k)) ((blkOf (l ++ x.take k)).take ((l ++ x.take k).length % 136) ++ ((x.drop k).take c) ++ (blkOf (l ++ x.take k)).drop ((l ++ x.take k).length % 136 + ((x.drop k).take c).length)) ((l ++ x.take k).length % 136) (l.length + x.length) : Array Value).setIfInBounds 161 (.int .i64 ((((l ++ x.take k).length % 136) + c : Nat) : Int)) = Sp (Kec.stateOf (l ++ x.take k)) ((blkOf (l ++ x.take k)).take ((l ++ x.take k).length % 136) ++ ((x.drop k).take c) ++ (blkOf (l ++ x.take k)).drop ((l ++ x.take k).length % 136 + ((x.drop k).take c).length)) (((l ++ x.take k).length % 136) + c) (l.length + x.length) from Sp_set_n _ _ _ _ _ (Kec.len_stateOf _) ((by rw [List.length_append, List.length_append, List.length_take, List.length_drop, blkOf_len, hyl]; omega : ((blkOf (l ++ x.take k)).take ((l ++ x.take k).length % 136) ++ ((x.drop k).take c) ++ (blkOf (l ++ x.take k)).drop ((l ++ x.take k).length % 136 + ((x.drop k).take c).length)).length = 136)))))
      refine pzq (w' := V31) (by rw [← eV31]; exact exec_store_cell 3 (.tmp 34) (.tmp 32) (by kernel_rfl) p 161 (by kernel_rfl) (iN (((l ++ x.take k).length % 136) + c)) (by kernel_rfl) (by kernel_rfl) (by kernel_rfl) (iN ((l ++ x.take k).length % 136)) (rc (h28) (Sp_n _ _ _ _ (Kec.len_stateOf _) ((by rw [List.length_append, List.length_append, List.length_take, List.length_drop, blkOf_len, hyl]; omega : ((blkOf (l ++ x.take k)).take ((l ++ x.take k).length % 136) ++ ((x.drop k).take c) ++ (blkOf (l ++ x.take k)).drop ((l ++ x.take k).length % 136 + ((x.drop k).take c).length)).length = 136)))) (frozen_of_row _ _ _ _ _ h28) (by kernel_rfl)) ?_
      clear eV31
      have h33 : BytesAt V31 (.slice A n cap) (x.drop k) := h29.keeps0 kV31 (fun hn j hj e => hA (by rw [List.length_drop] at hn; omega) j hj e)
      have K34 : Keeps (One p) w V31 := K30.then kV31 (fun i hi hm => by unfold Own.One at hm; subst hm; exact rfl)
      refine ps_end <| then_n <| sy_sq (qc47_2 406) (qc47_2 407) <| sy_reg <| rg_q 4 [0, 1, 2, 3] <| pkq (.slice A n cap) <| pkq (iN c) <| ppq (.slice (if cap = c then A else A.map (·.add c)) (n - c) (cap - c)) (exec_slice_from 114 (.tmp 35) (.tmp 36) (by kernel_rfl) A n cap (by kernel_rfl) .i64 c (by kernel_rfl) 5 Tryz.underlying114 (by kernel_rfl) (by omega)) <| pkq (.slice (if cap = c then A else A.map (·.add c)) (n - c) (cap - c)) <| ps_end <| sy_a ⟨#[pT p 0, .slice (if cap = c then A else A.map (·.add c)) (n - c) (cap - c), ud, ud, iN c, pT p 0, pT p 0, pT p 162, iN l.length, .slice A0 x.length cap0, iN x.length, iN (l.length + x.length), pT p 0, pT p 162, .slice A n cap, iN n, .bool true, pT p 0, pT p 0, pT p 25, pT p 0, pT p 0, pT p 161, iN ((l ++ x.take k).length % 136), .slice (some ⟨p, 25 + ((l ++ x.take k).length % 136), none⟩) (136 - ((l ++ x.take k).length % 136)) (136 - ((l ++ x.take k).length % 136)), .slice A n cap, iN c, pT p 0, pT p 0, pT p 161, iN ((l ++ x.take k).length % 136), iN c, iN (((l ++ x.take k).length % 136) + c), pT p 0, pT p 161, .slice A n cap, iN c, .slice (if cap = c then A else A.map (·.add c)) (n - c) (cap - c), u38, u39, u40, u41, u42, u43, u44], []⟩ <| then_n <| sy_sq (qc47_2 814) (qc47_2 815) <| sy_reg ?_
      refine rg_q 5 [0, 1, 2, 3, 4] <| pkq (pT p 0) <| pkq (pT p 0) <| pkq (pT p 161) <| ppq (iN (((l ++ x.take k).length % 136) + c)) (exec_ld 3 (.tmp 40) p 161 Tryz.underlying3 (rc (h32) (Sp_n _ _ _ _ (Kec.len_stateOf _) ((by rw [List.length_append, List.length_append, List.length_take, List.length_drop, blkOf_len, hyl]; omega : ((blkOf (l ++ x.take k)).take ((l ++ x.take k).length % 136) ++ ((x.drop k).take c) ++ (blkOf (l ++ x.take k)).drop ((l ++ x.take k).length % 136 + ((x.drop k).take c).length)).length = 136))))) <| ppq (.bool true) (exec_cast (congrArg Value.bool (show (((((((l ++ x.take k).length % 136) + c : Nat) : Int)) == ((136) : Int))) = true from by simp only [beq_iff_eq]; omega)) (by kernel_rfl)) <| ps_end <| then_n <| sy_ys (.tmp 42) (qc47_2 1630) (qc47_2 1631) <| sy_reg <| rg_q 6 [0, 1] <| pkq (pT p 0) ?_
      refine pcq 150 #[pT p 0] Tryz.func150 ((ktakes_ok p _ _ _ _ (Kec.len_stateOf _) (Kec.ws_stateOf _) ((by rw [List.length_append, List.length_append, List.length_take, List.length_drop, blkOf_len, hyl]; omega : ((blkOf (l ++ x.take k)).take ((l ++ x.take k).length % 136) ++ ((x.drop k).take c) ++ (blkOf (l ++ x.take k)).drop ((l ++ x.take k).length % 136 + ((x.drop k).take c).length)).length = 136)) _ h32).mono ?_)
      rintro e V35 ⟨rfl, h36, kV35⟩
      refine ⟨_, rfl, ?_⟩
      have h37 : BytesAt V35 (.slice A n cap) (x.drop k) := h33.keeps0 kV35 (fun hn j hj e => hA (by rw [List.length_drop] at hn; omega) j hj e)
      have K38 : Keeps (One p) w V35 := K34.then kV35 (fun i hi hm => by unfold Own.One at hm; subst hm; exact rfl)
      refine ps_end <| blk_n <| then_n ?_
      refine ⟨⟨k + c, n - c, cap - c, (if cap = c then A else A.map (·.add c)), (iN c), (.slice A n cap), (iN n), (.bool true), (pT p 0), (pT p 0), (pT p 25), (pT p 0), (pT p 0), (pT p 161), (iN ((l ++ x.take k).length % 136)), (.slice (some ⟨p, 25 + ((l ++ x.take k).length % 136), none⟩) (136 - ((l ++ x.take k).length % 136)) (136 - ((l ++ x.take k).length % 136))), (.slice A n cap), (iN c), (pT p 0), (pT p 0), (pT p 161), (iN ((l ++ x.take k).length % 136)), (iN c), (iN (((l ++ x.take k).length % 136) + c)), (pT p 0), (pT p 161), (.slice A n cap), (iN c), (.slice (if cap = c then A else A.map (·.add c)) (n - c) (cap - c)), (pT p 0), (pT p 0), (pT p 161), (iN (((l ++ x.take k).length % 136) + c)), (.bool true), (pT p 0), (.tuple #[]), by kernel_rfl, by omega, fun hn j hj => hA (by omega) j (cut_block A n cap c j hj), (show BytesAt _ (.slice (if cap = c then A else A.map (·.add c)) (n - c) (cap - c)) (x.drop (k + c)) from by have := BytesAt.drop h37 c (by rw [List.length_drop]; omega) _ _ _ rfl; rwa [List.drop_drop] at this), h36.trans (congrArg (fun c => some (Obj.cells c 164 (0, 0))) (sp_next l x _ k c _ rfl _ (by obtain ⟨e1, e2, e3⟩ := write_full (l ++ x.take k) ((x.drop k).take c) (by rw [hyl]; omega); rw [← e1, ← e2, ← e3]))), K38⟩, ?_⟩
      exact lt_meas (x := n - c) (y := n) (by kernel_rfl) (by kernel_rfl) (by omega)
    · have hkx : x.take k = x := List.take_of_length_le (by omega)
      refine sy_sq (qc47_2 24) (qc47_2 25) <| sy_sq (qc47_2 48) (qc47_2 49) <| sy_reg <| rg_q 1 [0, 1, 2] <| pkq (.slice A n cap) <| ppq (iN n) (exec_len (.tmp 14) 114 _ (by kernel_rfl) Tryz.underlying114 A n cap (by kernel_rfl)) <| ppq (.bool false) (dcf ((((n : Nat) : Int)) > ((0) : Int)) (by omega)) <| ps_end <| then_n <| sy_n (.tmp 16) (qc47_2 98) (qc47_2 99) <| sy_exit 0 (by kernel_rfl) <| then_e <| then_e <| blk_e ?_
      refine sy_fall (.tuple #[]) rfl (by kernel_rfl) ?_
      exact ⟨rfl, (by unfold SpAt; rw [List.length_append]; have h := h7; rw [hkx, List.length_append] at h; exact h), K8⟩
theorem xor8_fin : ∀ c : Fin 256, bits .xor .u8 ((c.val : Nat) : Int) 6 = ((c.val ^^^ 6 : Nat) : Int) ∧ bits .xor .u8 ((c.val : Nat) : Int) 128 = ((c.val ^^^ 128 : Nat) : Int) := by decide +kernel
theorem xor8_6 (c : UInt8) : Value.int .u8 (bits .xor .u8 ((c.toNat : Nat) : Int) 6) = .int .u8 (((c ^^^ 6).toNat : Nat) : Int) := congrArg _ (xor8_fin ⟨c.toNat, c.toNat_lt⟩).1
theorem xor8_128 (c : UInt8) : Value.int .u8 (bits .xor .u8 ((c.toNat : Nat) : Int) 128) = .int .u8 (((c ^^^ 128).toNat : Nat) : Int) := congrArg _ (xor8_fin ⟨c.toNat, c.toNat_lt⟩).2
theorem last_eq (l : List UInt8) : ((blkOf l).set (l.length % 136) ((blkOf l).getD (l.length % 136) 0 ^^^ 6)).set 135 (((blkOf l).set (l.length % 136) ((blkOf l).getD (l.length % 136) 0 ^^^ 6)).getD 135 0 ^^^ 128) = Kec.lastBlock (Kec.restOf l) := by
  have hr := Kec.restOf_len l
  have e1 : (blkOf l).getD (l.length % 136) 0 = 0 := by
    unfold blkOf
    rw [Kec.getD_right _ _ _ _ (by omega), hr, Nat.sub_self, List.getD_eq_getElem?_getD, List.getElem?_replicate]
    split <;> rfl
  have e2 : (blkOf l).set (l.length % 136) ((blkOf l).getD (l.length % 136) 0 ^^^ 6) = Kec.restOf l ++ 6 :: List.replicate (135 - l.length % 136) 0 := by
    rw [e1]
    unfold blkOf
    rw [List.set_append, if_neg (by omega), hr, Nat.sub_self, show 136 - l.length % 136 = (135 - l.length % 136) + 1 by omega, List.replicate_succ]
    rfl
  rw [e2]
  unfold Kec.lastBlock
  rw [hr]
theorem squeeze_step (S : List Nat) (k : Nat) (hk : k < 4) : (Kec.squeeze S).take (8 * k + 8) = (Kec.squeeze S).take (8 * k) ++ Kec.eight (Kec.g S k) := by
  have e (n : Nat) : (Kec.eight n).length = 8 := eight_len
  unfold Kec.squeeze
  match k, hk with
  | 0, _ => rw [List.append_assoc, List.append_assoc, List.take_append_of_le_length (by rw [e]; omega), List.take_of_length_le (by rw [e]; omega)]; simp
  | 1, _ =>
    rw [List.append_assoc, List.take_append_of_le_length (by simp [e]), List.take_of_length_le (by simp [e]), List.append_assoc, List.take_append_of_le_length (by rw [e]; omega), List.take_of_length_le (by rw [e]; omega)]
  | 2, _ =>
    rw [List.take_append_of_le_length (by simp [e]), List.take_of_length_le (by simp [e]), List.append_assoc (Kec.eight _ ++ Kec.eight _), List.take_append_of_le_length (by simp [e]), List.take_of_length_le (by simp [e])]
  | 3, _ =>
    rw [List.take_of_length_le (by simp [e]), List.take_append_of_le_length (by simp [e]), List.take_of_length_le (by simp [e])]
def sqk (S : List Nat) (k : Nat) : List UInt8 := (Kec.squeeze S).take (8 * k) ++ List.replicate (32 - 8 * k) 0
theorem sqk_len (S : List Nat) (k : Nat) (hk : k ≤ 4) : (sqk S k).length = 32 := by unfold sqk; rw [List.length_append, List.length_take, Kec.squeeze_len, List.length_replicate]; omega
theorem seg_bytes (l y : List UInt8) (o : Nat) : seg (B l).toArray o (B y) = (B (l.take o ++ y ++ l.drop (o + y.length))).toArray := by
  apply Array.toList_inj.1
  simp [seg, B_append, ← B_take, ← B_drop, B_length]
theorem sqk_step (S : List Nat) (k : Nat) (hk : k < 4) : (sqk S k).take (8 * k) ++ Kec.eight (Kec.g S k) ++ (sqk S k).drop (8 * k + (Kec.eight (Kec.g S k)).length) = sqk S (k + 1) := by
  have hl : ((Kec.squeeze S).take (8 * k)).length = 8 * k := by rw [List.length_take, Kec.squeeze_len]; omega
  unfold sqk
  rw [List.take_left' hl, List.drop_append, List.drop_of_length_le (by omega), List.nil_append, hl, eight_len, Nat.add_sub_cancel_left, List.drop_replicate, show 8 * (k + 1) = 8 * k + 8 by omega, squeeze_step S k hk, Nat.sub_sub]
theorem sqk_all (S : List Nat) : sqk S 4 = Kec.squeeze S := by
  unfold sqk
  rw [List.take_of_length_le (by rw [Kec.squeeze_len]; omega)]; simp
theorem blk_bytes {w : World} {g n : Nat} {l : List UInt8} {T : TypeId} (h : w.heap[g]? = some (.cells (B l).toArray T (0, 0))) (hn : l.length = n) (hm : n ≤ maxLen) : BytesAt w (.slice (some ⟨g, 0, none⟩) n n) l := by
  subst hn
  refine ⟨⟨_, _, rfl, Nat.le_refl _, hm, fun h => by cases h⟩, fun k x hk => ⟨g, 0, _, rfl, lt_of_block h, ?_⟩⟩
  rw [Nat.zero_add]
  refine (cell_of_row _ _ _ _ _ _ h).trans ?_
  rw [List.getElem?_toArray]; exact B_get l k x hk
noncomputable def qc47_4 (n : Nat) : Code := partOf Tryz.f129 n
noncomputable abbrev qo47_4 (n k : Nat) : Oper := (opsAt (qc47_4 n)).getD k default
theorem ksum_ok (l : List UInt8) (w : World) :
    Calls Tryz.prog 129 #[.agg (Sp (Kec.stateOf l) (blkOf l) (l.length % 136) l.length)] w (fun e w' => e = .returned (.agg (B (Kec.sum l)).toArray) ∧ Keeps Nob w w') := by
  obtain ⟨S, hS⟩ : ∃ S, Kec.takes (Kec.stateOf l) (Kec.lastBlock (Kec.restOf l)) = S := ⟨_, rfl⟩
  have hSl : S.length = 25 := hS ▸ Kec.len_takes _ _
  have hSw : Kec.Ws S := hS ▸ Kec.ws_takes (Kec.ws_stateOf l) _
  have hmod : l.length % 136 < 136 := Nat.mod_lt _ (by decide)
  have K0 : Keeps Nob w w := Keeps.refl _ _
  refine sy_enter (qc47_4 1) ⟨#[.agg (Sp (Kec.stateOf l) (blkOf l) (l.length % 136) l.length), ud, ud, ud, ud, ud, ud, ud, ud, ud, ud, ud, ud, ud, ud, ud, ud, ud, ud, ud, ud, ud, ud, ud, ud, ud, ud, ud, ud, ud, ud, ud, ud, ud, ud, ud], []⟩ Tryz.func129 (by kernel_rfl) (by kernel_rfl) <| sy_sq (qc47_4 2) (qc47_4 3) <| sy_reg <| rg_q 0 [0, 1] ?_
  obtain ⟨V1, eV1, p, ep, h2, kV1⟩ := alloc_step w ((Sp (Kec.stateOf l) (blkOf l) (l.length % 136) l.length)) 164
  have n3 : w.heap.size ≤ p := ep ▸ K0.size
  refine prq (pT p 0) (w' := V1) (by rw [← eV1, ← ep]; exact exec_box 164 (.tmp 0) (by kernel_rfl) (.agg (Sp (Kec.stateOf l) (blkOf l) (l.length % 136) l.length)) (by kernel_rfl)) ?_
  clear eV1
  have K4 := K0.nn kV1
  obtain ⟨V5, eV5, gr, egr, h6, kV5⟩ := alloc_step V1 (zr_u8_32) 23
  have n7 : p < gr := egr ▸ lt_of_block h2
  have n8 : w.heap.size ≤ gr := egr ▸ K4.size
  refine prq (pT gr 0) (w' := V5) (by rw [← eV5, ← egr]; exact exec_alloc0 23 (by kernel_rfl) (.agg (zr_u8_32)) (by kernel_rfl)) ?_
  clear eV5
  have h9 := kV5.bk h2
  have K10 := K4.nn kV5
  refine ps_end <| then_n <| sy_sq (qc47_4 6) (qc47_4 7) <| sy_reg <| rg_q 1 [0, 1, 2, 3, 4, 5, 6, 7, 8] <| pkq (pT p 161) <| ppq (iN (l.length % 136)) (exec_ld 3 (.tmp 6) p 161 Tryz.underlying3 (rc (h9) (Sp_n _ _ _ _ (Kec.len_stateOf _) (blkOf_len _)))) <| pkq (pT p 25) <| ppq (.pointer (some ⟨p, 25 + (l.length % 136), none⟩)) (exec_cast (v := .pointer (some ⟨p, 25 + (l.length % 136) * 1, none⟩)) (by simp) (exec_indexAt_arr 162 (.tmp 8) (.tmp 7) (by kernel_rfl) p 25 (by kernel_rfl) .i64 (l.length % 136) (by kernel_rfl) _ _ 1 Tryz.underlying162 (by kernel_rfl) (by omega))) <| ppq (cN (((blkOf l).getD ((l.length % 136)) 0).toNat)) (exec_ld 5 (.tmp 9) p (25 + (l.length % 136)) Tryz.underlying5 (rc (h9) (Sp_byte _ _ _ _ (Kec.len_stateOf _) ((l.length % 136)) ((blkOf l).getD ((l.length % 136)) 0) (getD_some _ _ (by rw [(blkOf_len _)]; omega))))) <| ppq (cN (((blkOf l).getD (l.length % 136) 0 ^^^ 6).toNat)) (exec_cast (xor8_6 ((blkOf l).getD (l.length % 136) 0)) (by kernel_rfl)) <| pkq (pT p 25) <| ppq (.pointer (some ⟨p, 25 + (l.length % 136), none⟩)) (exec_cast (v := .pointer (some ⟨p, 25 + (l.length % 136) * 1, none⟩)) (by simp) (exec_indexAt_arr 162 (.tmp 12) (.tmp 7) (by kernel_rfl) p 25 (by kernel_rfl) .i64 (l.length % 136) (by kernel_rfl) _ _ 1 Tryz.underlying162 (by kernel_rfl) (by omega))) ?_
  obtain ⟨V11, eV11, kV11⟩ := cell_step V5 p (25 + (l.length % 136)) (.int .u8 ((((blkOf l).getD (l.length % 136) 0 ^^^ 6).toNat : Nat) : Int))
  have h12 : V11.heap[p]? = some (.cells (Sp (Kec.stateOf l) ((blkOf l).set ((l.length % 136)) (((blkOf l).getD (l.length % 136) 0 ^^^ 6))) (l.length % 136) l.length) 164 (0, 0)) := eV11 ▸ ((heap_setCell_same _ p (25 + (l.length % 136)) _ _ (.int .u8 ((((blkOf l).getD (l.length % 136) 0 ^^^ 6).toNat : Nat) : Int)) h9).trans (congrArg (fun c => some (Obj.cells c 164 (0, 0))) (show (Sp (Kec.stateOf l) (blkOf l) (l.length % 136) l.length : Array Value).setIfInBounds (25 + (l.length % 136)) (.int .u8 ((((blkOf l).getD (l.length % 136) 0 ^^^ 6).toNat : Nat) : Int)) = Sp (Kec.stateOf l) ((blkOf l).set ((l.length % 136)) (((blkOf l).getD (l.length % 136) 0 ^^^ 6))) (l.length % 136) l.length from Sp_set_byte _ _ _ _ (Kec.len_stateOf _) ((l.length % 136)) (((blkOf l).getD (l.length % 136) 0 ^^^ 6)) (by rw [(blkOf_len _)]; omega))))
  refine pzq (w' := V11) (by rw [← eV11]; exact exec_store_cell 5 (.tmp 13) (.tmp 11) (by kernel_rfl) p (25 + (l.length % 136)) (by kernel_rfl) (cN (((blkOf l).getD (l.length % 136) 0 ^^^ 6).toNat)) (by kernel_rfl) (by kernel_rfl) (by kernel_rfl) (cN (((blkOf l).getD ((l.length % 136)) 0).toNat)) (rc (h9) (Sp_byte _ _ _ _ (Kec.len_stateOf _) ((l.length % 136)) ((blkOf l).getD ((l.length % 136)) 0) (getD_some _ _ (by rw [(blkOf_len _)]; omega)))) (frozen_of_row _ _ _ _ _ h9) (by kernel_rfl)) ?_
  clear eV11
  have h13 := kV11.bo h6 (by omega)
  have K14 := K10.no kV11 (by omega)
  refine ps_end <| then_n <| sy_sq (qc47_4 14) (qc47_4 15) <| sy_reg <| rg_q 2 [0, 1, 2, 3, 4, 5, 6] <| pkq (pT p 25) <| ppq (pT p 160) (exec_cast (v := pT p (25 + 135 * 1)) (by simp) (exec_indexAt_arr 162 (.tmp 14) (.const (.int .i64 135)) (by kernel_rfl) p 25 (by kernel_rfl) .i64 135 (by kernel_rfl) _ _ 1 Tryz.underlying162 (by kernel_rfl) (by omega))) <| ppq (cN ((((blkOf l).set ((l.length % 136)) (((blkOf l).getD (l.length % 136) 0 ^^^ 6))).getD 135 0).toNat)) (exec_ld 5 (.tmp 15) p 160 Tryz.underlying5 (rc (h12) (Sp_byte _ _ _ _ (Kec.len_stateOf _) 135 (((blkOf l).set ((l.length % 136)) (((blkOf l).getD (l.length % 136) 0 ^^^ 6))).getD 135 0) (getD_some _ _ (by rw [((List.length_set ..).trans (blkOf_len _))]; omega))))) <| ppq (cN ((((blkOf l).set (l.length % 136) ((blkOf l).getD (l.length % 136) 0 ^^^ 6)).getD 135 0 ^^^ 128).toNat)) (exec_cast (xor8_128 (((blkOf l).set (l.length % 136) ((blkOf l).getD (l.length % 136) 0 ^^^ 6)).getD 135 0)) (by kernel_rfl)) <| pkq (pT p 25) <| ppq (pT p 160) (exec_cast (v := pT p (25 + 135 * 1)) (by simp) (exec_indexAt_arr 162 (.tmp 18) (.const (.int .i64 135)) (by kernel_rfl) p 25 (by kernel_rfl) .i64 135 (by kernel_rfl) _ _ 1 Tryz.underlying162 (by kernel_rfl) (by omega))) ?_
  obtain ⟨V15, eV15, kV15⟩ := cell_step V11 p 160 (.int .u8 (((((blkOf l).set (l.length % 136) ((blkOf l).getD (l.length % 136) 0 ^^^ 6)).getD 135 0 ^^^ 128).toNat : Nat) : Int))
  have h16 : V15.heap[p]? = some (.cells (Sp (Kec.stateOf l) (((blkOf l).set ((l.length % 136)) (((blkOf l).getD (l.length % 136) 0 ^^^ 6))).set 135 ((((blkOf l).set (l.length % 136) ((blkOf l).getD (l.length % 136) 0 ^^^ 6)).getD 135 0 ^^^ 128))) (l.length % 136) l.length) 164 (0, 0)) := eV15 ▸ ((heap_setCell_same _ p 160 _ _ (.int .u8 (((((blkOf l).set (l.length % 136) ((blkOf l).getD (l.length % 136) 0 ^^^ 6)).getD 135 0 ^^^ 128).toNat : Nat) : Int)) h12).trans (congrArg (fun c => some (Obj.cells c 164 (0, 0))) (show (Sp (Kec.stateOf l) ((blkOf l).set ((l.length % 136)) (((blkOf l).getD (l.length % 136) 0 ^^^ 6))) (l.length % 136) l.length : Array Value).setIfInBounds 160 (.int .u8 (((((blkOf l).set (l.length % 136) ((blkOf l).getD (l.length % 136) 0 ^^^ 6)).getD 135 0 ^^^ 128).toNat : Nat) : Int)) = Sp (Kec.stateOf l) (((blkOf l).set ((l.length % 136)) (((blkOf l).getD (l.length % 136) 0 ^^^ 6))).set 135 ((((blkOf l).set (l.length % 136) ((blkOf l).getD (l.length % 136) 0 ^^^ 6)).getD 135 0 ^^^ 128))) (l.length % 136) l.length from Sp_set_byte _ _ _ _ (Kec.len_stateOf _) 135 ((((blkOf l).set (l.length % 136) ((blkOf l).getD (l.length % 136) 0 ^^^ 6)).getD 135 0 ^^^ 128)) (by rw [((List.length_set ..).trans (blkOf_len _))]; omega))))
  refine pzq (w' := V15) (by rw [← eV15]; exact exec_store_cell 5 (.tmp 19) (.tmp 17) (by kernel_rfl) p 160 (by kernel_rfl) (cN ((((blkOf l).set (l.length % 136) ((blkOf l).getD (l.length % 136) 0 ^^^ 6)).getD 135 0 ^^^ 128).toNat)) (by kernel_rfl) (by kernel_rfl) (by kernel_rfl) (cN ((((blkOf l).set ((l.length % 136)) (((blkOf l).getD (l.length % 136) 0 ^^^ 6))).getD 135 0).toNat)) (rc (h12) (Sp_byte _ _ _ _ (Kec.len_stateOf _) 135 (((blkOf l).set ((l.length % 136)) (((blkOf l).getD (l.length % 136) 0 ^^^ 6))).getD 135 0) (getD_some _ _ (by rw [((List.length_set ..).trans (blkOf_len _))]; omega)))) (frozen_of_row _ _ _ _ _ h12) (by kernel_rfl)) ?_
  clear eV15
  have h17 := kV15.bo h13 (by omega)
  have K18 := K14.no kV15 (by omega)
  refine ps_end <| then_n <| sy_sq (qc47_4 30) (qc47_4 31) <| sy_reg <| rg_q 3 [0] ?_
  refine pcq 150 #[pT p 0] Tryz.func150 ((ktakes_ok p _ _ _ _ (Kec.len_stateOf _) (Kec.ws_stateOf _) ((List.length_set ..).trans ((List.length_set ..).trans (blkOf_len _))) _ h16).mono ?_)
  rintro e V19 ⟨rfl, h20, kV19⟩
  rw [last_eq, hS] at h20
  refine ⟨_, rfl, ?_⟩
  have h21 := kV19.bo h17 (by omega)
  have K22 := K18.no kV19 (by omega)
  refine ps_end <| then_n <| sy_sq (qc47_4 62) (qc47_4 63) <| sy_reg <| rg_q 4 [0] ?_
  obtain ⟨V23, eV23, go, ego, h24, kV23⟩ := alloc_step V19 (zr_u8_32) 23
  have n25 : gr < go := ego ▸ lt_of_block h21
  have n26 : p < go := ego ▸ lt_of_block h20
  have n27 : w.heap.size ≤ go := ego ▸ K22.size
  refine prq (pT go 0) (w' := V23) (by rw [← eV23, ← ego]; exact exec_alloc0 23 (by kernel_rfl) (.agg (zr_u8_32)) (by kernel_rfl)) ?_
  clear eV23
  have h28 := kV23.bk h21
  have h29 := kV23.bk h20
  have K30 := K22.nn kV23
  refine ps_end <| then_n <| sy_sq (qc47_4 126) (qc47_4 127) <| sy_sq (qc47_4 252) (qc47_4 253) <| sy_reg <| rg_q 5 [0] <| pkq (.int .i64 0) <| ps_end <| then_n <| sy_bk 0 (qc47_4 506) ?_
  refine sy_loop (qc47_4 1012) (fun a V => ∃ (k : Nat) (u4 u5 u22 u23 u24 u25 u26 u27 u28 u29 u30 u31 u32 u33 u34 : Value), (a = ⟨#[.agg (Sp (Kec.stateOf l) (blkOf l) (l.length % 136) l.length), pT p 0, pT gr 0, pT go 0, u4, u5, pT p 161, iN (l.length % 136), pT p 25, .pointer (some ⟨p, 25 + (l.length % 136), none⟩), cN (((blkOf l).getD ((l.length % 136)) 0).toNat), cN (((blkOf l).getD (l.length % 136) 0 ^^^ 6).toNat), pT p 25, .pointer (some ⟨p, 25 + (l.length % 136), none⟩), pT p 25, pT p 160, cN ((((blkOf l).set ((l.length % 136)) (((blkOf l).getD (l.length % 136) 0 ^^^ 6))).getD 135 0).toNat), cN ((((blkOf l).set (l.length % 136) ((blkOf l).getD (l.length % 136) 0 ^^^ 6)).getD 135 0 ^^^ 128).toNat), pT p 25, pT p 160, .tuple #[], iN k, u22, u23, u24, u25, u26, u27, u28, u29, u30, u31, u32, u33, u34, ud], []⟩) ∧ (k ≤ 4) ∧ (V.heap[gr]? = some (.cells (zr_u8_32) 23 (0, 0))) ∧ (V.heap[p]? = some (.cells (Sp S zero136 0 l.length) 164 (0, 0))) ∧ (V.heap[go]? = some (.cells ((B (sqk S k)).toArray) 23 (0, 0))) ∧ (Keeps Nob w V)) (fun a _ => 4 - (intOf (a.tmps.getD 21 undef)).toNat) (by kernel_rfl) ?_ ?_
  · exact ⟨0, undef, undef, undef, undef, undef, undef, undef, undef, undef, undef, undef, undef, undef, undef, undef, by kernel_rfl, by omega, h28, h29, h24.trans (by kernel_rfl), K30⟩
  · rintro a V31 ⟨k, u4, u5, u22, u23, u24, u25, u26, u27, u28, u29, u30, u31, u32, u33, u34, rfl, hk, h32, h33, h34, K35⟩
    by_cases lt_k : k < 4
    · show _
      refine sy_sq (qc47_4 2024) (qc47_4 2025) <| sy_reg <| rg_q 6 [0] <| ppq (.bool true) (dct ((((k : Nat) : Int)) < ((4) : Int)) (by omega)) <| ps_end <| then_n <| sy_sq (qc47_4 4050) (qc47_4 4051) <| sy_ys (.tmp 22) (qc47_4 8100) (qc47_4 8101) <| sy_sk <| then_n <| sy_sq (qc47_4 8102) (qc47_4 8103) <| sy_bk 1 (qc47_4 16204) <| sy_sq (qc47_4 32408) (qc47_4 32409) <| sy_reg ?_
      refine rg_q 7 [0, 1] <| pkq (iN k) <| pkq (iN k) <| ps_end <| then_n <| sy_sq (qc47_4 64818) (qc47_4 64819) <| sy_reg <| rg_q 8 [0, 1, 2, 3, 4, 5, 6] <| pkq (iN k) <| pkq (pT p 0) <| ppq (pT p k) (exec_cast (v := pT p (0 + k * 1)) (by simp) (exec_indexAt_arr 161 (.tmp 25) (.tmp 24) (by kernel_rfl) p 0 (by kernel_rfl) .i64 k (by kernel_rfl) _ _ 1 Tryz.underlying161 (by kernel_rfl) (by omega))) <| ppq (uN (Kec.g S k)) (exec_ld 24 (.tmp 26) p k Tryz.underlying24 (rc (h33) (Sp_word _ _ _ _ hSl k (by omega)))) ?_
      refine pcq 151 #[uN (Kec.g S k)] Tryz.func151 ((keight_ok (Kec.g S k) _ (hSw _)).mono ?_)
      rintro e V36 ⟨rfl, kV36⟩
      refine ⟨_, rfl, ?_⟩
      have h37 := kV36.bk h32
      have h38 := kV36.bk h33
      have h39 := kV36.bk h34
      have K40 := K35.nn kV36
      obtain ⟨V41, eV41, gt, egt, h42, kV41⟩ := alloc_step V36 (zr_u8_8) 183
      have n43 : gr < gt := egt ▸ lt_of_block h37
      have n44 : p < gt := egt ▸ lt_of_block h38
      have n45 : go < gt := egt ▸ lt_of_block h39
      have n46 : w.heap.size ≤ gt := egt ▸ K40.size
      refine prq (pT gt 0) (w' := V41) (by rw [← eV41, ← egt]; exact exec_alloc0 183 (by kernel_rfl) (.agg (zr_u8_8)) (by kernel_rfl)) ?_
      clear eV41
      have h47 := kV41.bk h37
      have h48 := kV41.bk h38
      have h49 := kV41.bk h39
      have K50 := K40.nn kV41
      obtain ⟨V51, eV51, kV51⟩ := rowset_step V41 gt ((B (Kec.eight (Kec.g S k))).toArray)
      have h52 : V51.heap[gt]? = some (.cells ((B (Kec.eight (Kec.g S k))).toArray) 183 (0, 0)) := eV51 ▸ setRow_heap _ _ _ _ _ _ h42
      refine pzq (w' := V51) (by rw [← eV51]; exact exec_store_row 183 (.tmp 5) (.tmp 28) (by kernel_rfl) gt ((B (Kec.eight (Kec.g S k))).toArray) (by kernel_rfl) (by kernel_rfl) 183 (zr_u8_8) h42 (by rw [Bz_size, eight_len]; kernel_rfl) (by rw [Bz_size, eight_len]; rfl) (by rw [List.all_toArray]; exact List.all_eq_true.2 (B_one _))) ?_
      clear eV51
      have h53 := kV51.bo h47 (by omega)
      have h54 := kV51.bo h48 (by omega)
      have h55 := kV51.bo h49 (by omega)
      have K56 := K50.no kV51 (by omega)
      refine ps_end <| then_n <| sy_reg <| rg_still 9 4 (opsAt (qc47_4 64819)) [qo47_4 64819 0, qo47_4 64819 1, qo47_4 64819 2, qo47_4 64819 3] [qo47_4 64819 4] (by kernel_rfl) (by kernel_rfl) (by kernel_rfl) (by kernel_rfl) (by kernel_rfl) ?_
      obtain ⟨V58, eV58, kV58⟩ := drew_step V51
      rw [eV58]
      clear eV58
      have h59 := kV58.bk h53
      have h60 := kV58.bk h54
      have h61 := kV58.bk h55
      have h62 := kV58.bk h52
      have K63 := K56.nn kV58
      refine skq (iN k) <| spq (iN (8 * k)) (exec_cast (congrArg (Value.int .i64) (wrapN (8 * k) (by omega))) (by kernel_rfl)) <| spq (.slice (some ⟨go, 0 + 8 * k, none⟩) (32 - 8 * k) (32 - 8 * k)) (exec_slice_arr 23 (.tmp 3) (.tmp 30) (by kernel_rfl) go 0 (by kernel_rfl) .i64 (8 * k) (by kernel_rfl) 32 5 Tryz.underlying23 (by kernel_rfl) (by omega)) <| spq (.slice (some ⟨gt, 0, none⟩) 8 8) (exec_slice_all 183 (.tmp 5) (by kernel_rfl) gt 0 (by kernel_rfl) 8 5 Tryz.underlying183 (by kernel_rfl)) <| st_end ?_
      obtain ⟨V64, eV64⟩ : ∃ V, V58.setRow go (seg (B (sqk S k)).toArray (0 + 8 * k) (B ((Kec.eight (Kec.g S k)).take 8))) = V := ⟨_, rfl⟩
      have kV64 : Keeps (One go) V58 V64 := eV64 ▸ (Keeps.refl (One go) _).setRow (fun _ => (rfl : Own.One go go)) _
      have h65 : V64.heap[go]? = some (.cells ((B (sqk S (k + 1))).toArray) 23 (0, 0)) := eV64 ▸ (setRow_heap _ _ _ _ _ _ h61).trans (congrArg (fun c => some (Obj.cells c 23 (0, 0))) (by rw [List.take_of_length_le (by rw [eight_len]; omega), Nat.zero_add, seg_bytes, sqk_step S k lt_k]))
      refine ls_run (qo47_4 64819 4) (w' := V64) (.int .i64 8) (by kernel_rfl) (by rw [← eV64]; exact exec_copy (.tmp 31) (.tmp 32) 114 (by kernel_rfl) 5 Tryz.underlying114 (by kernel_rfl) go (0 + 8 * k) (32 - 8 * k) (32 - 8 * k) (by kernel_rfl) (.slice (some ⟨gt, 0, none⟩) 8 8) (Kec.eight (Kec.g S k)) (by kernel_rfl) (blk_bytes h62 eight_len (by decide)) _ _ h61 8 (by rw [eight_len]; exact (Nat.min_eq_left (by omega)).symm) (by rw [Bz_size, sqk_len S _ (by omega)]; omega) (by rw [eight_len]; omega)) ?_
      clear eV64
      have h66 := kV64.bo h59 (by omega)
      have h67 := kV64.bo h60 (by omega)
      have K69 := K63.no kV64 (by omega)
      refine ls_end <| blk_n <| then_n <| sy_reg <| rg_q 10 [0, 1] <| ppq (iN (k + 1)) (exec_cast (congrArg (Value.int .i64) (wrapN (k + 1) (by omega))) (by kernel_rfl)) <| pkq (iN (k + 1)) <| ps_end <| then_n ?_
      refine ⟨⟨k + 1, (iN k), (pT gt 0), (.bool true), (iN k), (iN k), (pT p 0), (pT p k), (uN (Kec.g S k)), (.agg (B (Kec.eight (Kec.g S k))).toArray), (iN k), (iN (8 * k)), (.slice (some ⟨go, 0 + 8 * k, none⟩) (32 - 8 * k) (32 - 8 * k)), (.slice (some ⟨gt, 0, none⟩) 8 8), (.int .i64 8), (iN (k + 1)), by kernel_rfl, by omega, h66, h67, h65, K69⟩, ?_⟩
      exact lt_meas (x := 4 - (k + 1)) (y := 4 - k) (by kernel_rfl) (by kernel_rfl) (by omega)
    · have eq_k : k = 4 := by omega
      have h70 : V31.heap[go]? = some (.cells ((B (Kec.sum l)).toArray) 23 (0, 0)) := h34.trans (by rw [eq_k, sqk_all, ← hS]; rfl)
      refine sy_sq (qc47_4 2024) (qc47_4 2025) <| sy_reg <| rg_q 6 [0] <| ppq (.bool false) (dcf ((((k : Nat) : Int)) < ((4) : Int)) (by omega)) <| ps_end <| then_n <| sy_sq (qc47_4 4050) (qc47_4 4051) <| sy_n (.tmp 22) (qc47_4 8100) (qc47_4 8101) <| sy_exit 0 (by kernel_rfl) <| then_e <| then_e <| blk_e <| then_n <| sy_sq (qc47_4 254) (qc47_4 255) ?_
      refine sy_reg <| rg_q 11 [0, 1] <| ppq (.agg ((B (Kec.sum l)).toArray)) (exec_load_row 23 (.tmp 3) (by kernel_rfl) go (by kernel_rfl) _ _ (0, 0) _ (h70) Tryz.underlying23 rfl (by rw [Bz_size, Kec.sum_len]; kernel_rfl)) ?_
      obtain ⟨V71, eV71, kV71⟩ := rowset_step V31 gr (((B (Kec.sum l)).toArray))
      have h72 : V71.heap[gr]? = some (.cells ((B (Kec.sum l)).toArray) 23 (0, 0)) := eV71 ▸ setRow_heap _ _ _ _ _ _ h32
      refine pzq (w' := V71) (by rw [← eV71]; exact exec_store_row 23 (.tmp 2) (.tmp 35) (by kernel_rfl) gr (((B (Kec.sum l)).toArray)) (by kernel_rfl) (by kernel_rfl) 23 (zr_u8_32) h32 (by rw [Bz_size, Kec.sum_len]; kernel_rfl) (by rw [Bz_size, Kec.sum_len]; rfl) (by rw [List.all_toArray]; exact List.all_eq_true.2 (B_one _))) ?_
      clear eV71
      have K75 := K35.no kV71 (by omega)
      refine ps_end <| then_n <| sy_ret (by kernel_rfl) <| sy_out (.agg ((B (Kec.sum l)).toArray)) rfl (results_cell_row (p := 2) (ty := 23) (by kernel_rfl) _ _ gr 23 ((B (Kec.sum l)).toArray) (0, 0) _ (by kernel_rfl) h72 Tryz.underlying23 rfl (by rw [Bz_size, Kec.sum_len]; kernel_rfl)) ?_
      exact ⟨rfl, K75⟩
end Go.Proofs.YtcbfnflnokoacaaGreat
namespace Go.Proofs.YtcbfnflnokoacaaGreat
set_option maxRecDepth 100000
set_option maxHeartbeats 4000000
open Go Go.RowKit Go.Own Go.Shelf
theorem SpAt.lt {w : World} {p : Nat} {l : List UInt8} (h : SpAt w p l) : p < w.heap.size := lt_of_block h
theorem SpAt.keeps {w w' : World} {M : Nat → Prop} {p : Nat} {l : List UInt8} (h : SpAt w p l) (k : Keeps M w w') (hm : ¬ M p) : SpAt w' p l := (k.block p (lt_of_block h) hm).trans h
theorem sp_nil : (Sp Kec.zero zero136 0 0) = Sp (Kec.stateOf []) (blkOf []) (([] : List UInt8).length % 136) ([] : List UInt8).length := by
  unfold Sp
  have : blkOf [] = zero136 := by simp [blkOf, zero136, Kec.restOf_nil]
  rw [this]; rfl
noncomputable def qc48_0 (n : Nat) : Code := partOf Tryz.f96 n
theorem kSum_ok (x : List UInt8) (A : Option Addr) (cap : Nat) (w : World) (hx : BytesAt w (.slice A x.length cap) x) (hl : x.length ≤ 9000000000000000000) :
    Calls Tryz.prog 96 #[.slice A x.length cap] w (fun e w' => e = .returned (.agg (B (Kec.sum x)).toArray) ∧ Keeps Nob w w') := by
  have K0 : Keeps Nob w w := Keeps.refl _ _
  refine sy_enter (qc48_0 1) ⟨#[.slice A x.length cap, ud, ud, ud, ud, ud, ud, ud], []⟩ Tryz.func96 (by kernel_rfl) (by kernel_rfl) <| sy_sq (qc48_0 2) (qc48_0 3) <| sy_reg <| rg_q 0 [0] ?_
  obtain ⟨V1, eV1, gr, egr, h2, kV1⟩ := alloc_step w (zr_u8_32) 23
  have n3 : w.heap.size ≤ gr := egr ▸ K0.size
  refine prq (pT gr 0) (w' := V1) (by rw [← eV1, ← egr]; exact exec_alloc0 23 (by kernel_rfl) (.agg (zr_u8_32)) (by kernel_rfl)) ?_
  clear eV1
  have h4 : BytesAt V1 (.slice A x.length cap) x := hx.keepsN kV1
  have K5 := K0.nn kV1
  refine ps_end <| then_n <| sy_sq (qc48_0 6) (qc48_0 7) <| sy_reg <| rg_q 1 [0] ?_
  obtain ⟨V6, eV6, p, ep, h7, kV6⟩ := alloc_step V1 (Sp Kec.zero zero136 0 0) 164
  have n8 : gr < p := ep ▸ lt_of_block h2
  have n9 : w.heap.size ≤ p := ep ▸ K5.size
  refine prq (pT p 0) (w' := V6) (by rw [← eV6, ← ep]; exact exec_alloc0 164 (by kernel_rfl) (.agg (Sp Kec.zero zero136 0 0)) (by kernel_rfl)) ?_
  clear eV6
  have h10 : BytesAt V6 (.slice A x.length cap) x := h4.keepsN kV6
  have h11 := kV6.bk h2
  have K12 := K5.nn kV6
  refine ps_end <| then_n <| sy_sq (qc48_0 14) (qc48_0 15) <| sy_reg <| rg_q 2 [0, 1] <| pkq (.slice A x.length cap) ?_
  have h15 : SpAt V6 p [] := h7.trans (congrArg (fun c => some (Obj.cells c 164 (0, 0))) sp_nil)
  have hA2 : 0 < x.length → ∀ j, (Value.slice A x.length cap).ownBlock = some j → j ≠ p := fun hn j hj => by have := hx.blockLt hn j hj; omega
  refine pcq 128 #[pT p 0, .slice A x.length cap] Tryz.func128 ((kwrite_ok p [] x A cap _ h15 h10 hA2 (by simpa using hl)).mono ?_)
  rintro e V13 ⟨rfl, h14, kV13⟩
  refine ⟨_, rfl, ?_⟩
  have h17 := kV13.bo h11 (by omega)
  have K18 := K12.no kV13 (by omega)
  refine ps_end <| then_n <| sy_sq (qc48_0 30) (qc48_0 31) <| sy_reg <| rg_q 3 [0, 1, 2] <| ppq (.agg (Sp (Kec.stateOf x) (blkOf x) (x.length % 136) x.length)) (exec_load_row 164 (.tmp 3) (by kernel_rfl) p (by kernel_rfl) _ _ (0, 0) _ (h14) Tryz.underlying164 rfl (by rw [Sp_size _ _ _ _ (Kec.len_stateOf _) (blkOf_len _)]; kernel_rfl)) ?_
  refine pcq 129 #[.agg (Sp (Kec.stateOf x) (blkOf x) (x.length % 136) x.length)] Tryz.func129 ((ksum_ok x _).mono ?_)
  rintro e V19 ⟨rfl, kV19⟩
  refine ⟨_, rfl, ?_⟩
  have h21 := kV19.bk h17
  have K23 := K18.nn kV19
  obtain ⟨V24, eV24, kV24⟩ := rowset_step V19 gr ((B (Kec.sum x)).toArray)
  have h25 : V24.heap[gr]? = some (.cells ((B (Kec.sum x)).toArray) 23 (0, 0)) := eV24 ▸ setRow_heap _ _ _ _ _ _ h21
  refine pzq (w' := V24) (by rw [← eV24]; exact exec_store_row 23 (.tmp 2) (.tmp 7) (by kernel_rfl) gr ((B (Kec.sum x)).toArray) (by kernel_rfl) (by kernel_rfl) 23 (zr_u8_32) h21 (by rw [Bz_size, Kec.sum_len]; kernel_rfl) (by rw [Bz_size, Kec.sum_len]; rfl) (by rw [List.all_toArray]; exact List.all_eq_true.2 (B_one _))) ?_
  clear eV24
  have K28 := K23.no kV24 (by omega)
  refine ps_end <| then_n <| sy_ret (by kernel_rfl) <| sy_out (.agg ((B (Kec.sum x)).toArray)) rfl (results_cell_row (p := 2) (ty := 23) (by kernel_rfl) _ _ gr 23 ((B (Kec.sum x)).toArray) (0, 0) _ (by kernel_rfl) h25 Tryz.underlying23 rfl (by rw [Bz_size, Kec.sum_len]; kernel_rfl)) ?_
  exact ⟨rfl, K28⟩
end Go.Proofs.YtcbfnflnokoacaaGreat
namespace Go.Proofs.YtcbfnflnokoacaaGreat
set_option maxRecDepth 100000
set_option maxHeartbeats 4000000
open Go Go.RowKit Go.Own Go.Shelf
def Att.dig (a : Att) : List UInt8 := Kec.sum a.bare
def Pro.dig (a : Pro) : List UInt8 := Kec.sum a.bare
theorem Att.dig_len (a : Att) : a.dig.length = 32 := Kec.sum_len _
theorem Pro.dig_len (a : Pro) : a.dig.length = 32 := Kec.sum_len _
theorem ksum_any (v : Value) (x : List UInt8) (w : World) (hx : BytesAt w v x) (hl : x.length ≤ 9000000000000000000) : Calls Tryz.prog 96 #[v] w fun e w' => e = .returned (.agg (B (Kec.sum x)).toArray) ∧ Keeps Nob w w' := by
  obtain ⟨A, cap, rfl⟩ := hx.len; exact kSum_ok x A cap w hx hl
noncomputable def qc49_2 (n : Nat) : Code := partOf Tryz.f72 n
theorem vhash_bad (x : Int) (v : Value) (w : World) (hx : x ≠ 0) :
    Calls Tryz.prog 72 #[.int .i64 x, v] w (fun e w' => e = .returned (.tuple #[.agg (B zhash).toArray, .int .i64 x]) ∧ Keeps Nob w w') := by
  have K0 : Keeps Nob w w := Keeps.refl _ _
  refine sy_enter (qc49_2 1) ⟨#[.int .i64 x, v, ud, ud, ud, ud, ud, ud, ud, ud, ud, ud, ud, ud, ud, ud, ud, ud, ud], []⟩ Tryz.func72 (by kernel_rfl) (by kernel_rfl) <| sy_sq (qc49_2 2) (qc49_2 3) <| sy_reg <| rg_q 0 [0, 1] ?_
  obtain ⟨V1, eV1, gr, egr, h2, kV1⟩ := alloc_step w (zr_u8_32) 23
  have n3 : w.heap.size ≤ gr := egr ▸ K0.size
  refine prq (pT gr 0) (w' := V1) (by rw [← eV1, ← egr]; exact exec_alloc0 23 (by kernel_rfl) (.agg (zr_u8_32)) (by kernel_rfl)) ?_
  clear eV1
  have K4 := K0.nn kV1
  have z5 := kV1.size
  refine pkq (.int .i64 0) <| ps_end <| then_n <| sy_sq (qc49_2 6) (qc49_2 7) <| sy_reg <| rg_q 1 [0, 1, 2, 3, 4, 5, 6, 7] <| pkq (.int .i64 x) <| pkq (v) ?_
  refine pcq 95 #[.int .i64 x, v] Tryz.func95 ((vwritten_bad x v _ hx).mono ?_)
  rintro e w1 ⟨rfl, rfl⟩
  refine ⟨_, rfl, ?_⟩
  refine pkq (.tuple #[.slice none 0 0, .int .i64 x]) <| pkq (.slice none 0 0) <| pkq (.int .i64 x) <| pkq (.slice none 0 0) <| pkq (.int .i64 x) <| ps_end <| then_n <| sy_sq (qc49_2 14) (qc49_2 15) <| sy_sq (qc49_2 28) (qc49_2 29) <| sy_reg <| rg_q 2 [0, 1] <| pkq (.int .i64 x) <| ppq (.bool true) (nqt ((x) : Int) ((0) : Int) (by omega)) <| ps_end ?_
  refine then_n <| sy_ys (.tmp 14) (qc49_2 58) (qc49_2 59) <| sy_sq (qc49_2 116) (qc49_2 117) <| sy_reg <| rg_q 3 [0, 1, 2, 3] <| pkq (.agg (B zhash).toArray) <| pkq (.int .i64 x) ?_
  obtain ⟨V6, eV6, kV6⟩ := rowset_step V1 gr ((B zhash).toArray)
  have h7 : V6.heap[gr]? = some (.cells ((B zhash).toArray) 23 (0, 0)) := eV6 ▸ setRow_heap _ _ _ _ _ _ h2
  refine pzq (w' := V6) (by rw [← eV6]; exact exec_store_row 23 (.tmp 4) (.tmp 15) (by kernel_rfl) gr ((B zhash).toArray) (by kernel_rfl) (by kernel_rfl) 23 (zr_u8_32) h2 (by rw [Bz_size, zhash_len]; kernel_rfl) (by rw [Bz_size, zhash_len]; rfl) (by rw [List.all_toArray]; exact List.all_eq_true.2 (B_one _))) ?_
  clear eV6
  have K8 := K4.no kV6 (by omega)
  have z9 := kV6.size
  refine pkq (.int .i64 x) <| ps_end <| then_n <| sy_ret (by kernel_rfl) <| then_r <| sy_out (.tuple #[.agg ((B zhash).toArray), .int .i64 x]) rfl (results_row_tmp (p := 4) (q := 5) (ty := 23) (by kernel_rfl) _ _ gr 23 ((B zhash).toArray) (0, 0) _ (.int .i64 x) (by kernel_rfl) h7 Tryz.underlying23 rfl (by rw [Bz_size, zhash_len]; kernel_rfl) (by kernel_rfl)) ?_
  exact ⟨rfl, K8⟩
theorem vhash_ok (v : Value) (ts : List Thg) (vs : List Value) (w : World) (h0 : Row w 143 1 v ts.length vs) (h1 : ThsAt w vs ts) (hpos : 0 < ts.length) (hok : ∀ (k : Nat) (t : Thg), ts[k]? = some t → t.Ok) (hl : (allb ts).length ≤ 4096) (hmax : ts.length ≤ 1000) :
    Calls Tryz.prog 72 #[.int .i64 0, v] w (fun e w' => e = .returned (.tuple #[.agg (B (Kec.sum (allb ts))).toArray, .int .i64 0]) ∧ Keeps Nob w w') := by
  have K0 : Keeps Nob w w := Keeps.refl _ _
  refine sy_enter (qc49_2 1) ⟨#[.int .i64 0, v, ud, ud, ud, ud, ud, ud, ud, ud, ud, ud, ud, ud, ud, ud, ud, ud, ud], []⟩ Tryz.func72 (by kernel_rfl) (by kernel_rfl) <| sy_sq (qc49_2 2) (qc49_2 3) <| sy_reg <| rg_q 0 [0, 1] ?_
  obtain ⟨V1, eV1, gr, egr, h2, kV1⟩ := alloc_step w (zr_u8_32) 23
  have n3 : w.heap.size ≤ gr := egr ▸ K0.size
  refine prq (pT gr 0) (w' := V1) (by rw [← eV1, ← egr]; exact exec_alloc0 23 (by kernel_rfl) (.agg (zr_u8_32)) (by kernel_rfl)) ?_
  clear eV1
  have h4 : Row V1 143 1 v ts.length vs := h0.keeps kV1 (fun _ _ x => x)
  have h5 : ThsAt V1 vs ts := h1.keepsN kV1
  have K6 := K0.nn kV1
  have z7 := kV1.size
  refine pkq (.int .i64 0) <| ps_end <| then_n <| sy_sq (qc49_2 6) (qc49_2 7) <| sy_reg <| rg_q 1 [0, 1, 2, 3, 4, 5, 6, 7] <| pkq (.int .i64 0) <| pkq (v) ?_
  refine pcq 95 #[.int .i64 0, v] Tryz.func95 ((vwritten_ok v ts vs _ h4 h5 hpos hok hl hmax).mono ?_)
  rintro e V8 ⟨X, rfl, hX, hnX, kV8⟩
  refine ⟨_, rfl, ?_⟩
  have h9 := kV8.bk h2
  have K10 := K6.nn kV8
  have z11 := kV8.size
  refine pkq (.tuple #[X, .int .i64 0]) <| pkq (X) <| pkq (.int .i64 0) <| pkq (X) <| pkq (.int .i64 0) <| ps_end <| then_n <| sy_sq (qc49_2 14) (qc49_2 15) <| sy_sq (qc49_2 28) (qc49_2 29) <| sy_reg <| rg_q 2 [0, 1] <| pkq (.int .i64 0) <| pkq (.bool false) <| ps_end ?_
  refine then_n <| sy_n (.tmp 14) (qc49_2 58) (qc49_2 59) <| sy_sk <| then_n <| sy_sq (qc49_2 30) (qc49_2 31) <| sy_reg <| rg_q 4 [0, 1, 2, 3] <| pkq (X) ?_
  refine pcq 96 #[X] Tryz.func96 ((ksum_any X (allb ts) _ (Row.bytes hX) (by omega)).mono ?_)
  rintro e V12 ⟨rfl, kV12⟩
  refine ⟨_, rfl, ?_⟩
  have h13 := kV12.bk h9
  have K14 := K10.nn kV12
  have z15 := kV12.size
  obtain ⟨V16, eV16, kV16⟩ := rowset_step V12 gr ((B (Kec.sum (allb ts))).toArray)
  have h17 : V16.heap[gr]? = some (.cells ((B (Kec.sum (allb ts))).toArray) 23 (0, 0)) := eV16 ▸ setRow_heap _ _ _ _ _ _ h13
  refine pzq (w' := V16) (by rw [← eV16]; exact exec_store_row 23 (.tmp 4) (.tmp 18) (by kernel_rfl) gr ((B (Kec.sum (allb ts))).toArray) (by kernel_rfl) (by kernel_rfl) 23 (zr_u8_32) h13 (by rw [Bz_size, Kec.sum_len]; kernel_rfl) (by rw [Bz_size, Kec.sum_len]; rfl) (by rw [List.all_toArray]; exact List.all_eq_true.2 (B_one _))) ?_
  clear eV16
  have K18 := K14.no kV16 (by omega)
  have z19 := kV16.size
  refine pkq (.int .i64 0) <| ps_end <| then_n <| sy_ret (by kernel_rfl) <| sy_out (.tuple #[.agg ((B (Kec.sum (allb ts))).toArray), .int .i64 0]) rfl (results_row_tmp (p := 4) (q := 5) (ty := 23) (by kernel_rfl) _ _ gr 23 ((B (Kec.sum (allb ts))).toArray) (0, 0) _ (.int .i64 0) (by kernel_rfl) h17 Tryz.underlying23 rfl (by rw [Bz_size, (Kec.sum_len _)]; kernel_rfl) (by kernel_rfl)) ?_
  exact ⟨rfl, K18⟩
noncomputable def qc49_1 (n : Nat) : Code := partOf Tryz.f39 n
theorem vDigest_bad (a : Att) (w : World) (ha : a.Ok) (hf : ¬ a.fine) :
    Calls Tryz.prog 39 #[.agg (Att.c a)] w (fun e w' => e = .returned (.tuple #[.agg (B zhash).toArray, .int .i64 3]) ∧ Keeps Nob w w') := by
  have hr := ha.r
  have hlen := att_len hr
  obtain ⟨i0, hi0, hz0, hz1, hz2⟩ := info_parts thing_info
  have K0 : Keeps Nob w w := Keeps.refl _ _
  refine sy_enter (qc49_1 1) ⟨#[.agg (Att.c a), ud, ud, ud, ud, ud, ud, ud, ud, ud, ud], []⟩ Tryz.func39 (by kernel_rfl) (by kernel_rfl) <| sy_sq (qc49_1 2) (qc49_1 3) <| sy_reg <| rg_q 0 [0, 1, 2] ?_
  obtain ⟨V1, eV1, ga, ega, h2, kV1⟩ := alloc_step w ((Att.c a)) 26
  have n3 : w.heap.size ≤ ga := ega ▸ K0.size
  refine prq (pT ga 0) (w' := V1) (by rw [← eV1, ← ega]; exact exec_box 26 (.tmp 0) (by kernel_rfl) (.agg (Att.c a)) (by kernel_rfl)) ?_
  clear eV1
  have K4 := K0.nn kV1
  have z5 := kV1.size
  obtain ⟨V6, eV6, gr, egr, h7, kV6⟩ := alloc_step V1 (zr_u8_32) 23
  have n8 : ga < gr := egr ▸ lt_of_block h2
  have n9 : w.heap.size ≤ gr := egr ▸ K4.size
  refine prq (pT gr 0) (w' := V6) (by rw [← eV6, ← egr]; exact exec_alloc0 23 (by kernel_rfl) (.agg (zr_u8_32)) (by kernel_rfl)) ?_
  clear eV6
  have h10 := kV6.bk h2
  have K11 := K4.nn kV6
  have z12 := kV6.size
  refine pkq (.int .i64 0) <| ps_end <| then_n <| sy_sq (qc49_1 6) (qc49_1 7) <| sy_np <| sy_reg <| an_begin 1 9 (opsAt (qc49_1 6)) (fun W => (W.heap[ga]? = some (.cells (Att.c a) 26 (0, 0)))) #[false, false, false, false, false, false, false, false, false] (by kernel_rfl) (by kernel_rfl) (by kernel_rfl) (by kernel_rfl) ?_
  obtain ⟨V13, eV13, kV13⟩ := drew_step V6
  rw [eV13]
  clear eV13
  have h14 := kV13.bk h10
  have h15 := kV13.bk h7
  have K16 := K11.nn kV13
  have z17 := kV13.size
  refine avq 0 (.agg (Att.c a)) (fun W hS => exec_load_row 26 (.tmp 1) (by kernel_rfl) ga (by kernel_rfl) _ _ (0, 0) _ (hS) Tryz.underlying26 rfl (by rw [Att.c_size _ hr]; kernel_rfl)) h14 <| avq 2 (.agg (Att.c a)) (fun W hS => exec_load_row 26 (.tmp 1) (by kernel_rfl) ga (by kernel_rfl) _ _ (0, 0) _ (hS) Tryz.underlying26 rfl (by rw [Att.c_size _ hr]; kernel_rfl)) h14 <| an_o 1 ?_
  refine ncq 66 #[.agg (Att.c a)] Tryz.func66 ((vCheck_is a _ hr (Att.err_no hf)).mono ?_)
  rintro e V18 ⟨rfl, kV18⟩
  refine ⟨_, rfl, ?_⟩
  have h19 := kV18.bk h14
  have h20 := kV18.bk h15
  have K21 := K16.nn kV18
  have z22 := kV18.size
  refine ⟨h19, ?_⟩
  refine an_o 3 ?_
  refine ncq 75 #[.agg (Att.c a)] Tryz.func75 ((vthings_ok a _ hr).mono ?_)
  rintro e V23 ⟨gl, vs, rfl, hrow, hths, hnl, kV23⟩
  have hnl2 : NewFrom w.heap.size (.slice (some ⟨gl, 0, none⟩) 5 5) := fun j hj => by have := hnl j hj; have := K21.size; omega
  refine ⟨_, rfl, ?_⟩
  have h24 := kV23.bk h19
  have h25 := kV23.bk h20
  have K26 := K21.nn kV23
  have z27 := kV23.size
  refine ⟨h24, ?_⟩
  refine an_o 4 ?_
  refine ncq 72 #[.int .i64 3, .slice (some ⟨gl, 0, none⟩) 5 5] Tryz.func72 ((vhash_bad 3 _ _ (by decide)).mono ?_)
  rintro e V28 ⟨rfl, kV28⟩
  refine ⟨_, rfl, ?_⟩
  have h29 := kV28.bk h24
  have h30 := kV28.bk h25
  have K31 := K26.nn kV28
  have z32 := kV28.size
  refine ⟨h29, ?_⟩
  refine akq 5 (.agg (B zhash).toArray) h29 <| akq 6 (.int .i64 3) h29 <| an_o 7 ?_
  obtain ⟨V33, eV33, kV33⟩ := rowset_step V28 gr ((B zhash).toArray)
  have h34 : V33.heap[gr]? = some (.cells ((B zhash).toArray) 23 (0, 0)) := eV33 ▸ setRow_heap _ _ _ _ _ _ h30
  refine nzq (w' := V33) (by rw [← eV33]; exact exec_store_row 23 (.tmp 2) (.tmp 9) (by kernel_rfl) gr ((B zhash).toArray) (by kernel_rfl) (by kernel_rfl) 23 (zr_u8_32) h30 (by rw [Bz_size, show (zhash).length = 32 from zhash_len]; kernel_rfl) (by rw [Bz_size, show (zhash).length = 32 from zhash_len]; rfl) (by rw [List.all_toArray]; exact List.all_eq_true.2 (B_one _))) ?_
  clear eV33
  have h35 := kV33.bo h29 (by omega)
  have K36 := K31.no kV33 (by omega)
  have z37 := kV33.size
  refine ⟨h35, ?_⟩
  refine an_o 8 <| nrq (.int .i64 3) (w' := V33) (by kernel_rfl) ?_
  refine ⟨h35, ?_⟩
  refine an_end (by kernel_rfl) <| then_n <| sy_ret (by kernel_rfl) <| sy_out (.tuple #[.agg ((B zhash).toArray), .int .i64 3]) rfl (results_row_tmp (p := 2) (q := 3) (ty := 23) (by kernel_rfl) _ _ gr 23 ((B zhash).toArray) (0, 0) _ (.int .i64 3) (by kernel_rfl) h34 Tryz.underlying23 rfl (by rw [Bz_size, zhash_len]; kernel_rfl) (by kernel_rfl)) ?_
  exact ⟨rfl, K36⟩
theorem vDigest_ok (a : Att) (w : World) (ha : a.Ok) (hf : a.fine) :
    Calls Tryz.prog 39 #[.agg (Att.c a)] w (fun e w' => e = .returned (.tuple #[.agg (B a.dig).toArray, .int .i64 0]) ∧ Keeps Nob w w') := by
  have hr := ha.r
  have hlen := att_len hr
  obtain ⟨i0, hi0, hz0, hz1, hz2⟩ := info_parts thing_info
  have K0 : Keeps Nob w w := Keeps.refl _ _
  refine sy_enter (qc49_1 1) ⟨#[.agg (Att.c a), ud, ud, ud, ud, ud, ud, ud, ud, ud, ud], []⟩ Tryz.func39 (by kernel_rfl) (by kernel_rfl) <| sy_sq (qc49_1 2) (qc49_1 3) <| sy_reg <| rg_q 0 [0, 1, 2] ?_
  obtain ⟨V1, eV1, ga, ega, h2, kV1⟩ := alloc_step w ((Att.c a)) 26
  have n3 : w.heap.size ≤ ga := ega ▸ K0.size
  refine prq (pT ga 0) (w' := V1) (by rw [← eV1, ← ega]; exact exec_box 26 (.tmp 0) (by kernel_rfl) (.agg (Att.c a)) (by kernel_rfl)) ?_
  clear eV1
  have K4 := K0.nn kV1
  have z5 := kV1.size
  obtain ⟨V6, eV6, gr, egr, h7, kV6⟩ := alloc_step V1 (zr_u8_32) 23
  have n8 : ga < gr := egr ▸ lt_of_block h2
  have n9 : w.heap.size ≤ gr := egr ▸ K4.size
  refine prq (pT gr 0) (w' := V6) (by rw [← eV6, ← egr]; exact exec_alloc0 23 (by kernel_rfl) (.agg (zr_u8_32)) (by kernel_rfl)) ?_
  clear eV6
  have h10 := kV6.bk h2
  have K11 := K4.nn kV6
  have z12 := kV6.size
  refine pkq (.int .i64 0) <| ps_end <| then_n <| sy_sq (qc49_1 6) (qc49_1 7) <| sy_np <| sy_reg <| an_begin 1 9 (opsAt (qc49_1 6)) (fun W => (W.heap[ga]? = some (.cells (Att.c a) 26 (0, 0)))) #[false, false, false, false, false, false, false, false, false] (by kernel_rfl) (by kernel_rfl) (by kernel_rfl) (by kernel_rfl) ?_
  obtain ⟨V13, eV13, kV13⟩ := drew_step V6
  rw [eV13]
  clear eV13
  have h14 := kV13.bk h10
  have h15 := kV13.bk h7
  have K16 := K11.nn kV13
  have z17 := kV13.size
  refine avq 0 (.agg (Att.c a)) (fun W hS => exec_load_row 26 (.tmp 1) (by kernel_rfl) ga (by kernel_rfl) _ _ (0, 0) _ (hS) Tryz.underlying26 rfl (by rw [Att.c_size _ hr]; kernel_rfl)) h14 <| avq 2 (.agg (Att.c a)) (fun W hS => exec_load_row 26 (.tmp 1) (by kernel_rfl) ga (by kernel_rfl) _ _ (0, 0) _ (hS) Tryz.underlying26 rfl (by rw [Att.c_size _ hr]; kernel_rfl)) h14 <| an_o 1 ?_
  refine ncq 66 #[.agg (Att.c a)] Tryz.func66 ((vCheck_is a _ hr (Att.err_ok hf)).mono ?_)
  rintro e V18 ⟨rfl, kV18⟩
  refine ⟨_, rfl, ?_⟩
  have h19 := kV18.bk h14
  have h20 := kV18.bk h15
  have K21 := K16.nn kV18
  have z22 := kV18.size
  refine ⟨h19, ?_⟩
  refine an_o 3 ?_
  refine ncq 75 #[.agg (Att.c a)] Tryz.func75 ((vthings_ok a _ hr).mono ?_)
  rintro e V23 ⟨gl, vs, rfl, hrow, hths, hnl, kV23⟩
  have hnl2 : NewFrom w.heap.size (.slice (some ⟨gl, 0, none⟩) 5 5) := fun j hj => by have := hnl j hj; have := K21.size; omega
  refine ⟨_, rfl, ?_⟩
  have h24 := kV23.bk h19
  have h25 := kV23.bk h20
  have K26 := K21.nn kV23
  have z27 := kV23.size
  refine ⟨h24, ?_⟩
  refine an_o 4 ?_
  refine ncq 72 #[.int .i64 0, .slice (some ⟨gl, 0, none⟩) 5 5] Tryz.func72 ((vhash_ok _ (attT a) _ _ hrow hths (by simp [attT]) (okT_pre (att_okT ha hf)) (by have h := hlen.2; unfold Att.bare at h; omega) (by simp [attT])).mono ?_)
  rintro e V28 ⟨rfl, kV28⟩
  refine ⟨_, rfl, ?_⟩
  have h29 := kV28.bk h24
  have h30 := kV28.bk h25
  have K31 := K26.nn kV28
  have z32 := kV28.size
  refine ⟨h29, ?_⟩
  refine akq 5 (.agg (B a.dig).toArray) h29 <| akq 6 (.int .i64 0) h29 <| an_o 7 ?_
  obtain ⟨V33, eV33, kV33⟩ := rowset_step V28 gr ((B a.dig).toArray)
  have h34 : V33.heap[gr]? = some (.cells ((B a.dig).toArray) 23 (0, 0)) := eV33 ▸ setRow_heap _ _ _ _ _ _ h30
  refine nzq (w' := V33) (by rw [← eV33]; exact exec_store_row 23 (.tmp 2) (.tmp 9) (by kernel_rfl) gr ((B a.dig).toArray) (by kernel_rfl) (by kernel_rfl) 23 (zr_u8_32) h30 (by rw [Bz_size, show (a.dig).length = 32 from (Att.dig_len a)]; kernel_rfl) (by rw [Bz_size, show (a.dig).length = 32 from (Att.dig_len a)]; rfl) (by rw [List.all_toArray]; exact List.all_eq_true.2 (B_one _))) ?_
  clear eV33
  have h35 := kV33.bo h29 (by omega)
  have K36 := K31.no kV33 (by omega)
  have z37 := kV33.size
  refine ⟨h35, ?_⟩
  refine an_o 8 <| nrq (.int .i64 0) (w' := V33) (by kernel_rfl) ?_
  refine ⟨h35, ?_⟩
  refine an_end (by kernel_rfl) <| then_n <| sy_ret (by kernel_rfl) <| sy_out (.tuple #[.agg ((B a.dig).toArray), .int .i64 0]) rfl (results_row_tmp (p := 2) (q := 3) (ty := 23) (by kernel_rfl) _ _ gr 23 ((B a.dig).toArray) (0, 0) _ (.int .i64 0) (by kernel_rfl) h34 Tryz.underlying23 rfl (by rw [Bz_size, (Att.dig_len a)]; kernel_rfl) (by kernel_rfl)) ?_
  exact ⟨rfl, K36⟩
noncomputable def qc49_0 (n : Nat) : Code := partOf Tryz.f37 n
theorem vDigestBlock_bad (a : Pro) (w : World) (ha : a.Ok) (hf : ¬ a.fine) :
    Calls Tryz.prog 37 #[.agg (Pro.c a)] w (fun e w' => e = .returned (.tuple #[.agg (B zhash).toArray, .int .i64 3]) ∧ Keeps Nob w w') := by
  have hr := ha.r
  have hlen := pro_len hr
  obtain ⟨i0, hi0, hz0, hz1, hz2⟩ := info_parts thing_info
  have K0 : Keeps Nob w w := Keeps.refl _ _
  refine sy_enter (qc49_0 1) ⟨#[.agg (Pro.c a), ud, ud, ud, ud, ud, ud, ud, ud, ud, ud], []⟩ Tryz.func37 (by kernel_rfl) (by kernel_rfl) <| sy_sq (qc49_0 2) (qc49_0 3) <| sy_reg <| rg_q 0 [0, 1, 2] ?_
  obtain ⟨V1, eV1, ga, ega, h2, kV1⟩ := alloc_step w ((Pro.c a)) 28
  have n3 : w.heap.size ≤ ga := ega ▸ K0.size
  refine prq (pT ga 0) (w' := V1) (by rw [← eV1, ← ega]; exact exec_box 28 (.tmp 0) (by kernel_rfl) (.agg (Pro.c a)) (by kernel_rfl)) ?_
  clear eV1
  have K4 := K0.nn kV1
  have z5 := kV1.size
  obtain ⟨V6, eV6, gr, egr, h7, kV6⟩ := alloc_step V1 (zr_u8_32) 23
  have n8 : ga < gr := egr ▸ lt_of_block h2
  have n9 : w.heap.size ≤ gr := egr ▸ K4.size
  refine prq (pT gr 0) (w' := V6) (by rw [← eV6, ← egr]; exact exec_alloc0 23 (by kernel_rfl) (.agg (zr_u8_32)) (by kernel_rfl)) ?_
  clear eV6
  have h10 := kV6.bk h2
  have K11 := K4.nn kV6
  have z12 := kV6.size
  refine pkq (.int .i64 0) <| ps_end <| then_n <| sy_sq (qc49_0 6) (qc49_0 7) <| sy_np <| sy_reg <| an_begin 1 9 (opsAt (qc49_0 6)) (fun W => (W.heap[ga]? = some (.cells (Pro.c a) 28 (0, 0)))) #[false, false, false, false, false, false, false, false, false] (by kernel_rfl) (by kernel_rfl) (by kernel_rfl) (by kernel_rfl) ?_
  obtain ⟨V13, eV13, kV13⟩ := drew_step V6
  rw [eV13]
  clear eV13
  have h14 := kV13.bk h10
  have h15 := kV13.bk h7
  have K16 := K11.nn kV13
  have z17 := kV13.size
  refine avq 0 (.agg (Pro.c a)) (fun W hS => exec_load_row 28 (.tmp 1) (by kernel_rfl) ga (by kernel_rfl) _ _ (0, 0) _ (hS) Tryz.underlying28 rfl (by rw [Pro.c_size _ hr]; kernel_rfl)) h14 <| avq 2 (.agg (Pro.c a)) (fun W hS => exec_load_row 28 (.tmp 1) (by kernel_rfl) ga (by kernel_rfl) _ _ (0, 0) _ (hS) Tryz.underlying28 rfl (by rw [Pro.c_size _ hr]; kernel_rfl)) h14 <| an_o 1 ?_
  refine ncq 73 #[.agg (Pro.c a)] Tryz.func73 ((vCheckBlock_is a _ hr (Pro.err_no hf)).mono ?_)
  rintro e V18 ⟨rfl, kV18⟩
  refine ⟨_, rfl, ?_⟩
  have h19 := kV18.bk h14
  have h20 := kV18.bk h15
  have K21 := K16.nn kV18
  have z22 := kV18.size
  refine ⟨h19, ?_⟩
  refine an_o 3 ?_
  refine ncq 74 #[.agg (Pro.c a)] Tryz.func74 ((vthingsBlock_ok a _ hr).mono ?_)
  rintro e V23 ⟨gl, vs, rfl, hrow, hths, hnl, kV23⟩
  have hnl2 : NewFrom w.heap.size (.slice (some ⟨gl, 0, none⟩) 4 4) := fun j hj => by have := hnl j hj; have := K21.size; omega
  refine ⟨_, rfl, ?_⟩
  have h24 := kV23.bk h19
  have h25 := kV23.bk h20
  have K26 := K21.nn kV23
  have z27 := kV23.size
  refine ⟨h24, ?_⟩
  refine an_o 4 ?_
  refine ncq 72 #[.int .i64 3, .slice (some ⟨gl, 0, none⟩) 4 4] Tryz.func72 ((vhash_bad 3 _ _ (by decide)).mono ?_)
  rintro e V28 ⟨rfl, kV28⟩
  refine ⟨_, rfl, ?_⟩
  have h29 := kV28.bk h24
  have h30 := kV28.bk h25
  have K31 := K26.nn kV28
  have z32 := kV28.size
  refine ⟨h29, ?_⟩
  refine akq 5 (.agg (B zhash).toArray) h29 <| akq 6 (.int .i64 3) h29 <| an_o 7 ?_
  obtain ⟨V33, eV33, kV33⟩ := rowset_step V28 gr ((B zhash).toArray)
  have h34 : V33.heap[gr]? = some (.cells ((B zhash).toArray) 23 (0, 0)) := eV33 ▸ setRow_heap _ _ _ _ _ _ h30
  refine nzq (w' := V33) (by rw [← eV33]; exact exec_store_row 23 (.tmp 2) (.tmp 9) (by kernel_rfl) gr ((B zhash).toArray) (by kernel_rfl) (by kernel_rfl) 23 (zr_u8_32) h30 (by rw [Bz_size, show (zhash).length = 32 from zhash_len]; kernel_rfl) (by rw [Bz_size, show (zhash).length = 32 from zhash_len]; rfl) (by rw [List.all_toArray]; exact List.all_eq_true.2 (B_one _))) ?_
  clear eV33
  have h35 := kV33.bo h29 (by omega)
  have K36 := K31.no kV33 (by omega)
  have z37 := kV33.size
  refine ⟨h35, ?_⟩
  refine an_o 8 <| nrq (.int .i64 3) (w' := V33) (by kernel_rfl) ?_
  refine ⟨h35, ?_⟩
  refine an_end (by kernel_rfl) <| then_n <| sy_ret (by kernel_rfl) <| sy_out (.tuple #[.agg ((B zhash).toArray), .int .i64 3]) rfl (results_row_tmp (p := 2) (q := 3) (ty := 23) (by kernel_rfl) _ _ gr 23 ((B zhash).toArray) (0, 0) _ (.int .i64 3) (by kernel_rfl) h34 Tryz.underlying23 rfl (by rw [Bz_size, zhash_len]; kernel_rfl) (by kernel_rfl)) ?_
  exact ⟨rfl, K36⟩
theorem vDigestBlock_ok (a : Pro) (w : World) (ha : a.Ok) (hf : a.fine) :
    Calls Tryz.prog 37 #[.agg (Pro.c a)] w (fun e w' => e = .returned (.tuple #[.agg (B a.dig).toArray, .int .i64 0]) ∧ Keeps Nob w w') := by
  have hr := ha.r
  have hlen := pro_len hr
  obtain ⟨i0, hi0, hz0, hz1, hz2⟩ := info_parts thing_info
  have K0 : Keeps Nob w w := Keeps.refl _ _
  refine sy_enter (qc49_0 1) ⟨#[.agg (Pro.c a), ud, ud, ud, ud, ud, ud, ud, ud, ud, ud], []⟩ Tryz.func37 (by kernel_rfl) (by kernel_rfl) <| sy_sq (qc49_0 2) (qc49_0 3) <| sy_reg <| rg_q 0 [0, 1, 2] ?_
  obtain ⟨V1, eV1, ga, ega, h2, kV1⟩ := alloc_step w ((Pro.c a)) 28
  have n3 : w.heap.size ≤ ga := ega ▸ K0.size
  refine prq (pT ga 0) (w' := V1) (by rw [← eV1, ← ega]; exact exec_box 28 (.tmp 0) (by kernel_rfl) (.agg (Pro.c a)) (by kernel_rfl)) ?_
  clear eV1
  have K4 := K0.nn kV1
  have z5 := kV1.size
  obtain ⟨V6, eV6, gr, egr, h7, kV6⟩ := alloc_step V1 (zr_u8_32) 23
  have n8 : ga < gr := egr ▸ lt_of_block h2
  have n9 : w.heap.size ≤ gr := egr ▸ K4.size
  refine prq (pT gr 0) (w' := V6) (by rw [← eV6, ← egr]; exact exec_alloc0 23 (by kernel_rfl) (.agg (zr_u8_32)) (by kernel_rfl)) ?_
  clear eV6
  have h10 := kV6.bk h2
  have K11 := K4.nn kV6
  have z12 := kV6.size
  refine pkq (.int .i64 0) <| ps_end <| then_n <| sy_sq (qc49_0 6) (qc49_0 7) <| sy_np <| sy_reg <| an_begin 1 9 (opsAt (qc49_0 6)) (fun W => (W.heap[ga]? = some (.cells (Pro.c a) 28 (0, 0)))) #[false, false, false, false, false, false, false, false, false] (by kernel_rfl) (by kernel_rfl) (by kernel_rfl) (by kernel_rfl) ?_
  obtain ⟨V13, eV13, kV13⟩ := drew_step V6
  rw [eV13]
  clear eV13
  have h14 := kV13.bk h10
  have h15 := kV13.bk h7
  have K16 := K11.nn kV13
  have z17 := kV13.size
  refine avq 0 (.agg (Pro.c a)) (fun W hS => exec_load_row 28 (.tmp 1) (by kernel_rfl) ga (by kernel_rfl) _ _ (0, 0) _ (hS) Tryz.underlying28 rfl (by rw [Pro.c_size _ hr]; kernel_rfl)) h14 <| avq 2 (.agg (Pro.c a)) (fun W hS => exec_load_row 28 (.tmp 1) (by kernel_rfl) ga (by kernel_rfl) _ _ (0, 0) _ (hS) Tryz.underlying28 rfl (by rw [Pro.c_size _ hr]; kernel_rfl)) h14 <| an_o 1 ?_
  refine ncq 73 #[.agg (Pro.c a)] Tryz.func73 ((vCheckBlock_is a _ hr (Pro.err_ok hf)).mono ?_)
  rintro e V18 ⟨rfl, kV18⟩
  refine ⟨_, rfl, ?_⟩
  have h19 := kV18.bk h14
  have h20 := kV18.bk h15
  have K21 := K16.nn kV18
  have z22 := kV18.size
  refine ⟨h19, ?_⟩
  refine an_o 3 ?_
  refine ncq 74 #[.agg (Pro.c a)] Tryz.func74 ((vthingsBlock_ok a _ hr).mono ?_)
  rintro e V23 ⟨gl, vs, rfl, hrow, hths, hnl, kV23⟩
  have hnl2 : NewFrom w.heap.size (.slice (some ⟨gl, 0, none⟩) 4 4) := fun j hj => by have := hnl j hj; have := K21.size; omega
  refine ⟨_, rfl, ?_⟩
  have h24 := kV23.bk h19
  have h25 := kV23.bk h20
  have K26 := K21.nn kV23
  have z27 := kV23.size
  refine ⟨h24, ?_⟩
  refine an_o 4 ?_
  refine ncq 72 #[.int .i64 0, .slice (some ⟨gl, 0, none⟩) 4 4] Tryz.func72 ((vhash_ok _ (proT a) _ _ hrow hths (by simp [proT]) (okT_pre (pro_okT ha hf)) (by have h := hlen.2; unfold Pro.bare at h; omega) (by simp [proT])).mono ?_)
  rintro e V28 ⟨rfl, kV28⟩
  refine ⟨_, rfl, ?_⟩
  have h29 := kV28.bk h24
  have h30 := kV28.bk h25
  have K31 := K26.nn kV28
  have z32 := kV28.size
  refine ⟨h29, ?_⟩
  refine akq 5 (.agg (B a.dig).toArray) h29 <| akq 6 (.int .i64 0) h29 <| an_o 7 ?_
  obtain ⟨V33, eV33, kV33⟩ := rowset_step V28 gr ((B a.dig).toArray)
  have h34 : V33.heap[gr]? = some (.cells ((B a.dig).toArray) 23 (0, 0)) := eV33 ▸ setRow_heap _ _ _ _ _ _ h30
  refine nzq (w' := V33) (by rw [← eV33]; exact exec_store_row 23 (.tmp 2) (.tmp 9) (by kernel_rfl) gr ((B a.dig).toArray) (by kernel_rfl) (by kernel_rfl) 23 (zr_u8_32) h30 (by rw [Bz_size, show (a.dig).length = 32 from (Pro.dig_len a)]; kernel_rfl) (by rw [Bz_size, show (a.dig).length = 32 from (Pro.dig_len a)]; rfl) (by rw [List.all_toArray]; exact List.all_eq_true.2 (B_one _))) ?_
  clear eV33
  have h35 := kV33.bo h29 (by omega)
  have K36 := K31.no kV33 (by omega)
  have z37 := kV33.size
  refine ⟨h35, ?_⟩
  refine an_o 8 <| nrq (.int .i64 0) (w' := V33) (by kernel_rfl) ?_
  refine ⟨h35, ?_⟩
  refine an_end (by kernel_rfl) <| then_n <| sy_ret (by kernel_rfl) <| sy_out (.tuple #[.agg ((B a.dig).toArray), .int .i64 0]) rfl (results_row_tmp (p := 2) (q := 3) (ty := 23) (by kernel_rfl) _ _ gr 23 ((B a.dig).toArray) (0, 0) _ (.int .i64 0) (by kernel_rfl) h34 Tryz.underlying23 rfl (by rw [Bz_size, (Pro.dig_len a)]; kernel_rfl) (by kernel_rfl)) ?_
  exact ⟨rfl, K36⟩
end Go.Proofs.YtcbfnflnokoacaaGreat
namespace Go.Proofs.YtcbfnflnokoacaaGreat
set_option maxRecDepth 100000
set_option maxHeartbeats 4000000
open Go Go.RowKit Go.Own Go.Shelf
def doub (a b : Att) : Bool := decide (a.fine ∧ b.fine ∧ a.v = b.v ∧ a.t = b.t ∧ ¬ a.dig = b.dig)
def doubP (a b : Pro) : Bool := decide (a.fine ∧ b.fine ∧ a.v = b.v ∧ a.h = b.h ∧ ¬ a.dig = b.dig)
theorem ne_dec (l m : List UInt8) : (!(l == m)) = decide (¬ l = m) := by by_cases h : l = m <;> simp [h]
theorem hash_guard : Tryz.prog.eqGuardType Tryz.prog.depth 23 = false := by kernel_rfl
theorem hash_ne (l m : List UInt8) (hl : l.length = 32) (hm : m.length = 32) (w : World) : (binOp .neq 23 (.agg (B l).toArray) (.agg (B m).toArray)).run Tryz.prog w = .ok (.bool (!(l == m))) w := by
  obtain ⟨i0, hi, _, _, _⟩ := info_parts u8_info0
  have h := run_equalIn_bytes (P := Tryz.prog) (t := 23) (e := 5) (n := 32) Tryz.underlying23 hi (by kernel_rfl) Tryz.underlying5 (by kernel_rfl) 9998 l m w hl hm
  rw [run_neq_struct, h]; rfl
def Att.dg (a : Att) : List UInt8 := if a.fine then a.dig else zhash
def Pro.dg (a : Pro) : List UInt8 := if a.fine then a.dig else zhash
theorem Att.dg_len (a : Att) : a.dg.length = 32 := by unfold Att.dg; split; exact a.dig_len; exact zhash_len
theorem Pro.dg_len (a : Pro) : a.dg.length = 32 := by unfold Pro.dg; split; exact a.dig_len; exact zhash_len
theorem vDigest_any (a : Att) (w : World) (ha : a.Ok) : Calls Tryz.prog 39 #[.agg (Att.c a)] w fun e w' => e = .returned (.tuple #[.agg (B a.dg).toArray, .int .i64 a.err]) ∧ Keeps Nob w w' := by
  by_cases hf : a.fine
  · rw [Att.err_ok hf, Att.dg, if_pos hf]; exact vDigest_ok a w ha hf
  · rw [Att.err_no hf, Att.dg, if_neg hf]; exact vDigest_bad a w ha hf
noncomputable def qc50_1 (n : Nat) : Code := partOf Tryz.f32 n
theorem vDoubles_ok (a b : Att) (w : World) (ha : a.Ok) (hb : b.Ok) :
    Calls Tryz.prog 32 #[.agg (Att.c a), .agg (Att.c b)] w (fun e w' => e = .returned (.bool (doub a b)) ∧ Keeps Nob w w') := by
  have hr := ha.r
  have hs := hb.r
  have K0 : Keeps Nob w w := Keeps.refl _ _
  refine sy_enter (qc50_1 1) ⟨#[.agg (Att.c a), .agg (Att.c b), ud, ud, ud, ud, ud, ud, ud, ud, ud, ud, ud, ud, ud, ud, ud, ud, ud, ud, ud, ud, ud, ud, ud, ud, ud, ud, ud, ud, ud, ud, ud, ud, ud, ud, ud, ud, ud, ud, ud, ud, ud, ud], []⟩ Tryz.func32 (by kernel_rfl) (by kernel_rfl) <| sy_sq (qc50_1 2) (qc50_1 3) <| sy_reg <| rg_q 0 [0, 1, 2] ?_
  obtain ⟨V1, eV1, ga, ega, h2, kV1⟩ := alloc_step w ((Att.c a)) 26
  have n3 : w.heap.size ≤ ga := ega ▸ K0.size
  refine prq (pT ga 0) (w' := V1) (by rw [← eV1, ← ega]; exact exec_box 26 (.tmp 0) (by kernel_rfl) (.agg (Att.c a)) (by kernel_rfl)) ?_
  clear eV1
  have K4 := K0.nn kV1
  have z5 := kV1.size
  obtain ⟨V6, eV6, gb, egb, h7, kV6⟩ := alloc_step V1 ((Att.c b)) 26
  have n8 : ga < gb := egb ▸ lt_of_block h2
  have n9 : w.heap.size ≤ gb := egb ▸ K4.size
  refine prq (pT gb 0) (w' := V6) (by rw [← eV6, ← egb]; exact exec_box 26 (.tmp 1) (by kernel_rfl) (.agg (Att.c b)) (by kernel_rfl)) ?_
  clear eV6
  have h10 := kV6.bk h2
  have K11 := K4.nn kV6
  have z12 := kV6.size
  refine pkq (.bool false) <| ps_end <| then_n <| sy_sq (qc50_1 6) (qc50_1 7) <| sy_reg <| rg_q 1 [0, 1, 2, 3, 4, 5, 6, 7] <| ppq (.agg (Att.c a)) (exec_load_row 26 (.tmp 2) (by kernel_rfl) ga (by kernel_rfl) _ _ (0, 0) _ (h10) Tryz.underlying26 rfl (by rw [Att.c_size _ hr]; kernel_rfl)) ?_
  refine pcq 39 #[.agg (Att.c a)] Tryz.func39 ((vDigest_any a _ ha).mono ?_)
  rintro e V13 ⟨rfl, kV13⟩
  refine ⟨_, rfl, ?_⟩
  have h14 := kV13.bk h10
  have h15 := kV13.bk h7
  have K16 := K11.nn kV13
  have z17 := kV13.size
  refine pkq (.tuple #[.agg (B a.dg).toArray, .int .i64 a.err]) <| pkq (.agg (B a.dg).toArray) <| pkq (.int .i64 a.err) ?_
  obtain ⟨V18, eV18, gx, egx, h19, kV18⟩ := alloc_step V13 (zr_u8_32) 23
  have n20 : ga < gx := egx ▸ lt_of_block h14
  have n21 : gb < gx := egx ▸ lt_of_block h15
  have n22 : w.heap.size ≤ gx := egx ▸ K16.size
  refine prq (pT gx 0) (w' := V18) (by rw [← eV18, ← egx]; exact exec_alloc0 23 (by kernel_rfl) (.agg (zr_u8_32)) (by kernel_rfl)) ?_
  clear eV18
  have h23 := kV18.bk h14
  have h24 := kV18.bk h15
  have K25 := K16.nn kV18
  have z26 := kV18.size
  obtain ⟨V27, eV27, kV27⟩ := rowset_step V18 gx ((B a.dg).toArray)
  have h28 : V27.heap[gx]? = some (.cells ((B a.dg).toArray) 23 (0, 0)) := eV27 ▸ setRow_heap _ _ _ _ _ _ h19
  refine pzq (w' := V27) (by rw [← eV27]; exact exec_store_row 23 (.tmp 5) (.tmp 12) (by kernel_rfl) gx ((B a.dg).toArray) (by kernel_rfl) (by kernel_rfl) 23 (zr_u8_32) h19 (by rw [Bz_size, Att.dg_len]; kernel_rfl) (by rw [Bz_size, Att.dg_len]; rfl) (by rw [List.all_toArray]; exact List.all_eq_true.2 (B_one _))) ?_
  clear eV27
  have h29 := kV27.bo h23 (by omega)
  have h30 := kV27.bo h24 (by omega)
  have K31 := K25.no kV27 (by omega)
  have z32 := kV27.size
  refine pkq (.int .i64 a.err) <| ps_end <| then_n <| sy_sq (qc50_1 14) (qc50_1 15) <| sy_reg <| rg_q 2 [0, 1, 2, 3, 4, 5, 6, 7] <| ppq (.agg (Att.c b)) (exec_load_row 26 (.tmp 3) (by kernel_rfl) gb (by kernel_rfl) _ _ (0, 0) _ (h30) Tryz.underlying26 rfl (by rw [Att.c_size _ hs]; kernel_rfl)) ?_
  refine pcq 39 #[.agg (Att.c b)] Tryz.func39 ((vDigest_any b _ hb).mono ?_)
  rintro e V33 ⟨rfl, kV33⟩
  refine ⟨_, rfl, ?_⟩
  have h34 := kV33.bk h29
  have h35 := kV33.bk h30
  have h36 := kV33.bk h28
  have K37 := K31.nn kV33
  have z38 := kV33.size
  refine pkq (.tuple #[.agg (B b.dg).toArray, .int .i64 b.err]) <| pkq (.agg (B b.dg).toArray) <| pkq (.int .i64 b.err) ?_
  obtain ⟨V39, eV39, gy, egy, h40, kV39⟩ := alloc_step V33 (zr_u8_32) 23
  have n41 : ga < gy := egy ▸ lt_of_block h34
  have n42 : gb < gy := egy ▸ lt_of_block h35
  have n43 : gx < gy := egy ▸ lt_of_block h36
  have n44 : w.heap.size ≤ gy := egy ▸ K37.size
  refine prq (pT gy 0) (w' := V39) (by rw [← eV39, ← egy]; exact exec_alloc0 23 (by kernel_rfl) (.agg (zr_u8_32)) (by kernel_rfl)) ?_
  clear eV39
  have h45 := kV39.bk h34
  have h46 := kV39.bk h35
  have h47 := kV39.bk h36
  have K48 := K37.nn kV39
  have z49 := kV39.size
  obtain ⟨V50, eV50, kV50⟩ := rowset_step V39 gy ((B b.dg).toArray)
  have h51 : V50.heap[gy]? = some (.cells ((B b.dg).toArray) 23 (0, 0)) := eV50 ▸ setRow_heap _ _ _ _ _ _ h40
  refine pzq (w' := V50) (by rw [← eV50]; exact exec_store_row 23 (.tmp 7) (.tmp 17) (by kernel_rfl) gy ((B b.dg).toArray) (by kernel_rfl) (by kernel_rfl) 23 (zr_u8_32) h40 (by rw [Bz_size, Att.dg_len]; kernel_rfl) (by rw [Bz_size, Att.dg_len]; rfl) (by rw [List.all_toArray]; exact List.all_eq_true.2 (B_one _))) ?_
  clear eV50
  have h52 := kV50.bo h45 (by omega)
  have h53 := kV50.bo h46 (by omega)
  have h54 := kV50.bo h47 (by omega)
  have K55 := K48.no kV50 (by omega)
  have z56 := kV50.size
  refine pkq (.int .i64 b.err) <| ps_end <| then_n <| sy_sq (qc50_1 30) (qc50_1 31) <| sy_reg <| rg_q 3 [0, 1, 2, 3, 4, 5, 6, 7, 8, 9, 10, 11, 12, 13, 14, 15, 16, 17, 18, 19, 20, 21, 22, 23, 24, 25] <| pkq (.int .i64 a.err) ?_
  by_cases c0 : a.fine
  · have e0 := Att.err_ok c0
    refine ppq (.bool true) (eqt ((a.err) : Int) ((0) : Int) (by omega)) <| pkq (.bool true) <| pkq (.int .i64 b.err) ?_
    by_cases c1 : b.fine
    · have e1 := Att.err_ok c1
      refine ppq (.bool true) (eqt ((b.err) : Int) ((0) : Int) (by omega)) <| pkq (.bool true) <| pkq (.bool true) <| pkq (pT ga 0) <| ppq (.int .i64 a.v) (exec_ld 3 (.tmp 26) ga 0 Tryz.underlying3 (rc (h52) (Att.c_0 _))) <| pkq (pT gb 0) <| ppq (.int .i64 b.v) (exec_ld 3 (.tmp 28) gb 0 Tryz.underlying3 (rc (h53) (Att.c_0 _))) ?_
      by_cases c2 : a.v = b.v
      · have e2 := c2
        refine ppq (.bool true) (eqt ((a.v) : Int) ((b.v) : Int) (by omega)) <| pkq (.bool true) <| pkq (.bool true) <| pkq (pT ga 2) <| ppq (.int .i64 a.t) (exec_ld 3 (.tmp 33) ga 2 Tryz.underlying3 (rc (h52) (Att.c_2 _))) <| pkq (pT gb 2) <| ppq (.int .i64 b.t) (exec_ld 3 (.tmp 35) gb 2 Tryz.underlying3 (rc (h53) (Att.c_2 _))) ?_
        by_cases c3 : a.t = b.t
        · have e3 := c3
          refine ppq (.bool true) (eqt ((a.t) : Int) ((b.t) : Int) (by omega)) <| pkq (.bool true) <| pkq (.bool true) <| ppq (.agg ((B a.dg).toArray)) (exec_load_row 23 (.tmp 5) (by kernel_rfl) gx (by kernel_rfl) _ _ (0, 0) _ (h54) Tryz.underlying23 rfl (by rw [Bz_size, (Att.dg_len a)]; kernel_rfl)) <| ppq (.agg ((B b.dg).toArray)) (exec_load_row 23 (.tmp 7) (by kernel_rfl) gy (by kernel_rfl) _ _ (0, 0) _ (h51) Tryz.underlying23 rfl (by rw [Bz_size, (Att.dg_len b)]; kernel_rfl)) <| ppq (.bool (!(a.dg == b.dg))) (exec_binop .neq 23 23 (.tmp 40) (.tmp 41) (by kernel_rfl) (.agg (B a.dg).toArray) (.agg (B b.dg).toArray) _ (by kernel_rfl) (by kernel_rfl) (run_eqGuard_agg _ _ _ _ _ _ _ hash_guard) (hash_ne _ _ (Att.dg_len a) (Att.dg_len b) _)) <| pkq (.bool (!(a.dg == b.dg))) <| pkq (.bool (!(a.dg == b.dg))) <| ps_end <| sy_a ⟨#[.agg (Att.c a), .agg (Att.c b), pT ga 0, pT gb 0, .bool (!(a.dg == b.dg)), pT gx 0, .int .i64 a.err, pT gy 0, .int .i64 b.err, .tuple #[.agg (B a.dg).toArray, .int .i64 a.err], .agg (Att.c a), .tuple #[.agg (B a.dg).toArray, .int .i64 a.err], .agg (B a.dg).toArray, .int .i64 a.err, .tuple #[.agg (B b.dg).toArray, .int .i64 b.err], .agg (Att.c b), .tuple #[.agg (B b.dg).toArray, .int .i64 b.err], .agg (B b.dg).toArray, .int .i64 b.err, .int .i64 a.err, .bool true, .bool true, .int .i64 b.err, .bool true, .bool true, .bool true, pT ga 0, .int .i64 a.v, pT gb 0, .int .i64 b.v, .bool true, .bool true, .bool true, pT ga 2, .int .i64 a.t, pT gb 2, .int .i64 b.t, .bool true, .bool true, .bool true, .agg ((B a.dg).toArray), .agg ((B b.dg).toArray), .bool (!(a.dg == b.dg)), .bool (!(a.dg == b.dg))], []⟩ <| then_n <| sy_ret (by kernel_rfl) <| sy_out (.bool (!(a.dg == b.dg))) rfl (by kernel_rfl) ?_
          exact ⟨by rw [ne_dec, Att.dg, Att.dg, if_pos c0, if_pos c1]; unfold doub; simp [c0, c1, c2, c3], K55⟩
        · have e3 := c3
          refine ppq (.bool false) (eqf ((a.t) : Int) ((b.t) : Int) (by omega)) <| pkq (.bool false) <| pkq (.bool false) <| pnq <| pnq <| pnq <| pkq (.bool false) <| pkq (.bool false) <| ps_end <| sy_a ⟨#[.agg (Att.c a), .agg (Att.c b), pT ga 0, pT gb 0, .bool false, pT gx 0, .int .i64 a.err, pT gy 0, .int .i64 b.err, .tuple #[.agg (B a.dg).toArray, .int .i64 a.err], .agg (Att.c a), .tuple #[.agg (B a.dg).toArray, .int .i64 a.err], .agg (B a.dg).toArray, .int .i64 a.err, .tuple #[.agg (B b.dg).toArray, .int .i64 b.err], .agg (Att.c b), .tuple #[.agg (B b.dg).toArray, .int .i64 b.err], .agg (B b.dg).toArray, .int .i64 b.err, .int .i64 a.err, .bool true, .bool true, .int .i64 b.err, .bool true, .bool true, .bool true, pT ga 0, .int .i64 a.v, pT gb 0, .int .i64 b.v, .bool true, .bool true, .bool true, pT ga 2, .int .i64 a.t, pT gb 2, .int .i64 b.t, .bool false, .bool false, .bool false, ud, ud, ud, .bool false], []⟩ <| then_n <| sy_ret (by kernel_rfl) <| sy_out (.bool false) rfl (by kernel_rfl) ?_
          exact ⟨by unfold doub; simp [c0, c1, c2, c3], K55⟩
      · have e2 := c2
        refine ppq (.bool false) (eqf ((a.v) : Int) ((b.v) : Int) (by omega)) <| pkq (.bool false) <| pkq (.bool false) <| pnq <| pnq <| pnq <| pnq <| pnq <| pkq (.bool false) <| pkq (.bool false) <| pnq <| pnq <| pnq <| pkq (.bool false) ?_
        refine pkq (.bool false) <| ps_end <| sy_a ⟨#[.agg (Att.c a), .agg (Att.c b), pT ga 0, pT gb 0, .bool false, pT gx 0, .int .i64 a.err, pT gy 0, .int .i64 b.err, .tuple #[.agg (B a.dg).toArray, .int .i64 a.err], .agg (Att.c a), .tuple #[.agg (B a.dg).toArray, .int .i64 a.err], .agg (B a.dg).toArray, .int .i64 a.err, .tuple #[.agg (B b.dg).toArray, .int .i64 b.err], .agg (Att.c b), .tuple #[.agg (B b.dg).toArray, .int .i64 b.err], .agg (B b.dg).toArray, .int .i64 b.err, .int .i64 a.err, .bool true, .bool true, .int .i64 b.err, .bool true, .bool true, .bool true, pT ga 0, .int .i64 a.v, pT gb 0, .int .i64 b.v, .bool false, .bool false, .bool false, ud, ud, ud, ud, ud, .bool false, .bool false, ud, ud, ud, .bool false], []⟩ <| then_n <| sy_ret (by kernel_rfl) <| sy_out (.bool false) rfl (by kernel_rfl) ?_
        exact ⟨by unfold doub; simp [c0, c1, c2], K55⟩
    · have e1 := Att.err_no c1
      refine ppq (.bool false) (eqf ((b.err) : Int) ((0) : Int) (by omega)) <| pkq (.bool false) <| pkq (.bool false) <| pnq <| pnq <| pnq <| pnq <| pnq <| pkq (.bool false) <| pkq (.bool false) <| pnq <| pnq <| pnq <| pnq ?_
      refine pnq <| pkq (.bool false) <| pkq (.bool false) <| pnq <| pnq <| pnq <| pkq (.bool false) <| pkq (.bool false) <| ps_end <| sy_a ⟨#[.agg (Att.c a), .agg (Att.c b), pT ga 0, pT gb 0, .bool false, pT gx 0, .int .i64 a.err, pT gy 0, .int .i64 b.err, .tuple #[.agg (B a.dg).toArray, .int .i64 a.err], .agg (Att.c a), .tuple #[.agg (B a.dg).toArray, .int .i64 a.err], .agg (B a.dg).toArray, .int .i64 a.err, .tuple #[.agg (B b.dg).toArray, .int .i64 b.err], .agg (Att.c b), .tuple #[.agg (B b.dg).toArray, .int .i64 b.err], .agg (B b.dg).toArray, .int .i64 b.err, .int .i64 a.err, .bool true, .bool true, .int .i64 b.err, .bool false, .bool false, .bool false, ud, ud, ud, ud, ud, .bool false, .bool false, ud, ud, ud, ud, ud, .bool false, .bool false, ud, ud, ud, .bool false], []⟩ <| then_n <| sy_ret (by kernel_rfl) <| sy_out (.bool false) rfl (by kernel_rfl) ?_
      exact ⟨by unfold doub; simp [c0, c1], K55⟩
  · have e0 := Att.err_no c0
    refine ppq (.bool false) (eqf ((a.err) : Int) ((0) : Int) (by omega)) <| pkq (.bool false) <| pnq <| pnq <| pkq (.bool false) <| pkq (.bool false) <| pnq <| pnq <| pnq <| pnq <| pnq <| pkq (.bool false) <| pkq (.bool false) <| pnq ?_
    refine pnq <| pnq <| pnq <| pnq <| pkq (.bool false) <| pkq (.bool false) <| pnq <| pnq <| pnq <| pkq (.bool false) <| pkq (.bool false) <| ps_end <| sy_a ⟨#[.agg (Att.c a), .agg (Att.c b), pT ga 0, pT gb 0, .bool false, pT gx 0, .int .i64 a.err, pT gy 0, .int .i64 b.err, .tuple #[.agg (B a.dg).toArray, .int .i64 a.err], .agg (Att.c a), .tuple #[.agg (B a.dg).toArray, .int .i64 a.err], .agg (B a.dg).toArray, .int .i64 a.err, .tuple #[.agg (B b.dg).toArray, .int .i64 b.err], .agg (Att.c b), .tuple #[.agg (B b.dg).toArray, .int .i64 b.err], .agg (B b.dg).toArray, .int .i64 b.err, .int .i64 a.err, .bool false, .bool false, ud, ud, .bool false, .bool false, ud, ud, ud, ud, ud, .bool false, .bool false, ud, ud, ud, ud, ud, .bool false, .bool false, ud, ud, ud, .bool false], []⟩ <| then_n ?_
    refine sy_ret (by kernel_rfl) <| sy_out (.bool false) rfl (by kernel_rfl) ?_
    exact ⟨by unfold doub; simp [c0], K55⟩
theorem vDigestBlock_any (a : Pro) (w : World) (ha : a.Ok) : Calls Tryz.prog 37 #[.agg (Pro.c a)] w fun e w' => e = .returned (.tuple #[.agg (B a.dg).toArray, .int .i64 a.err]) ∧ Keeps Nob w w' := by
  by_cases hf : a.fine
  · rw [Pro.err_ok hf, Pro.dg, if_pos hf]; exact vDigestBlock_ok a w ha hf
  · rw [Pro.err_no hf, Pro.dg, if_neg hf]; exact vDigestBlock_bad a w ha hf
noncomputable def qc50_0 (n : Nat) : Code := partOf Tryz.f35 n
theorem vDoublesBlock_ok (a b : Pro) (w : World) (ha : a.Ok) (hb : b.Ok) :
    Calls Tryz.prog 35 #[.agg (Pro.c a), .agg (Pro.c b)] w (fun e w' => e = .returned (.bool (doubP a b)) ∧ Keeps Nob w w') := by
  have hr := ha.r
  have hs := hb.r
  have K0 : Keeps Nob w w := Keeps.refl _ _
  refine sy_enter (qc50_0 1) ⟨#[.agg (Pro.c a), .agg (Pro.c b), ud, ud, ud, ud, ud, ud, ud, ud, ud, ud, ud, ud, ud, ud, ud, ud, ud, ud, ud, ud, ud, ud, ud, ud, ud, ud, ud, ud, ud, ud, ud, ud, ud, ud, ud, ud, ud, ud, ud, ud, ud, ud], []⟩ Tryz.func35 (by kernel_rfl) (by kernel_rfl) <| sy_sq (qc50_0 2) (qc50_0 3) <| sy_reg <| rg_q 0 [0, 1, 2] ?_
  obtain ⟨V1, eV1, ga, ega, h2, kV1⟩ := alloc_step w ((Pro.c a)) 28
  have n3 : w.heap.size ≤ ga := ega ▸ K0.size
  refine prq (pT ga 0) (w' := V1) (by rw [← eV1, ← ega]; exact exec_box 28 (.tmp 0) (by kernel_rfl) (.agg (Pro.c a)) (by kernel_rfl)) ?_
  clear eV1
  have K4 := K0.nn kV1
  have z5 := kV1.size
  obtain ⟨V6, eV6, gb, egb, h7, kV6⟩ := alloc_step V1 ((Pro.c b)) 28
  have n8 : ga < gb := egb ▸ lt_of_block h2
  have n9 : w.heap.size ≤ gb := egb ▸ K4.size
  refine prq (pT gb 0) (w' := V6) (by rw [← eV6, ← egb]; exact exec_box 28 (.tmp 1) (by kernel_rfl) (.agg (Pro.c b)) (by kernel_rfl)) ?_
  clear eV6
  have h10 := kV6.bk h2
  have K11 := K4.nn kV6
  have z12 := kV6.size
  refine pkq (.bool false) <| ps_end <| then_n <| sy_sq (qc50_0 6) (qc50_0 7) <| sy_reg <| rg_q 1 [0, 1, 2, 3, 4, 5, 6, 7] <| ppq (.agg (Pro.c a)) (exec_load_row 28 (.tmp 2) (by kernel_rfl) ga (by kernel_rfl) _ _ (0, 0) _ (h10) Tryz.underlying28 rfl (by rw [Pro.c_size _ hr]; kernel_rfl)) ?_
  refine pcq 37 #[.agg (Pro.c a)] Tryz.func37 ((vDigestBlock_any a _ ha).mono ?_)
  rintro e V13 ⟨rfl, kV13⟩
  refine ⟨_, rfl, ?_⟩
  have h14 := kV13.bk h10
  have h15 := kV13.bk h7
  have K16 := K11.nn kV13
  have z17 := kV13.size
  refine pkq (.tuple #[.agg (B a.dg).toArray, .int .i64 a.err]) <| pkq (.agg (B a.dg).toArray) <| pkq (.int .i64 a.err) ?_
  obtain ⟨V18, eV18, gx, egx, h19, kV18⟩ := alloc_step V13 (zr_u8_32) 23
  have n20 : ga < gx := egx ▸ lt_of_block h14
  have n21 : gb < gx := egx ▸ lt_of_block h15
  have n22 : w.heap.size ≤ gx := egx ▸ K16.size
  refine prq (pT gx 0) (w' := V18) (by rw [← eV18, ← egx]; exact exec_alloc0 23 (by kernel_rfl) (.agg (zr_u8_32)) (by kernel_rfl)) ?_
  clear eV18
  have h23 := kV18.bk h14
  have h24 := kV18.bk h15
  have K25 := K16.nn kV18
  have z26 := kV18.size
  obtain ⟨V27, eV27, kV27⟩ := rowset_step V18 gx ((B a.dg).toArray)
  have h28 : V27.heap[gx]? = some (.cells ((B a.dg).toArray) 23 (0, 0)) := eV27 ▸ setRow_heap _ _ _ _ _ _ h19
  refine pzq (w' := V27) (by rw [← eV27]; exact exec_store_row 23 (.tmp 5) (.tmp 12) (by kernel_rfl) gx ((B a.dg).toArray) (by kernel_rfl) (by kernel_rfl) 23 (zr_u8_32) h19 (by rw [Bz_size, Pro.dg_len]; kernel_rfl) (by rw [Bz_size, Pro.dg_len]; rfl) (by rw [List.all_toArray]; exact List.all_eq_true.2 (B_one _))) ?_
  clear eV27
  have h29 := kV27.bo h23 (by omega)
  have h30 := kV27.bo h24 (by omega)
  have K31 := K25.no kV27 (by omega)
  have z32 := kV27.size
  refine pkq (.int .i64 a.err) <| ps_end <| then_n <| sy_sq (qc50_0 14) (qc50_0 15) <| sy_reg <| rg_q 2 [0, 1, 2, 3, 4, 5, 6, 7] <| ppq (.agg (Pro.c b)) (exec_load_row 28 (.tmp 3) (by kernel_rfl) gb (by kernel_rfl) _ _ (0, 0) _ (h30) Tryz.underlying28 rfl (by rw [Pro.c_size _ hs]; kernel_rfl)) ?_
  refine pcq 37 #[.agg (Pro.c b)] Tryz.func37 ((vDigestBlock_any b _ hb).mono ?_)
  rintro e V33 ⟨rfl, kV33⟩
  refine ⟨_, rfl, ?_⟩
  have h34 := kV33.bk h29
  have h35 := kV33.bk h30
  have h36 := kV33.bk h28
  have K37 := K31.nn kV33
  have z38 := kV33.size
  refine pkq (.tuple #[.agg (B b.dg).toArray, .int .i64 b.err]) <| pkq (.agg (B b.dg).toArray) <| pkq (.int .i64 b.err) ?_
  obtain ⟨V39, eV39, gy, egy, h40, kV39⟩ := alloc_step V33 (zr_u8_32) 23
  have n41 : ga < gy := egy ▸ lt_of_block h34
  have n42 : gb < gy := egy ▸ lt_of_block h35
  have n43 : gx < gy := egy ▸ lt_of_block h36
  have n44 : w.heap.size ≤ gy := egy ▸ K37.size
  refine prq (pT gy 0) (w' := V39) (by rw [← eV39, ← egy]; exact exec_alloc0 23 (by kernel_rfl) (.agg (zr_u8_32)) (by kernel_rfl)) ?_
  clear eV39
  have h45 := kV39.bk h34
  have h46 := kV39.bk h35
  have h47 := kV39.bk h36
  have K48 := K37.nn kV39
  have z49 := kV39.size
  obtain ⟨V50, eV50, kV50⟩ := rowset_step V39 gy ((B b.dg).toArray)
  have h51 : V50.heap[gy]? = some (.cells ((B b.dg).toArray) 23 (0, 0)) := eV50 ▸ setRow_heap _ _ _ _ _ _ h40
  refine pzq (w' := V50) (by rw [← eV50]; exact exec_store_row 23 (.tmp 7) (.tmp 17) (by kernel_rfl) gy ((B b.dg).toArray) (by kernel_rfl) (by kernel_rfl) 23 (zr_u8_32) h40 (by rw [Bz_size, Pro.dg_len]; kernel_rfl) (by rw [Bz_size, Pro.dg_len]; rfl) (by rw [List.all_toArray]; exact List.all_eq_true.2 (B_one _))) ?_
  clear eV50
  have h52 := kV50.bo h45 (by omega)
  have h53 := kV50.bo h46 (by omega)
  have h54 := kV50.bo h47 (by omega)
  have K55 := K48.no kV50 (by omega)
  have z56 := kV50.size
  refine pkq (.int .i64 b.err) <| ps_end <| then_n <| sy_sq (qc50_0 30) (qc50_0 31) <| sy_reg <| rg_q 3 [0, 1, 2, 3, 4, 5, 6, 7, 8, 9, 10, 11, 12, 13, 14, 15, 16, 17, 18, 19, 20, 21, 22, 23, 24, 25] <| pkq (.int .i64 a.err) ?_
  by_cases c0 : a.fine
  · have e0 := Pro.err_ok c0
    refine ppq (.bool true) (eqt ((a.err) : Int) ((0) : Int) (by omega)) <| pkq (.bool true) <| pkq (.int .i64 b.err) ?_
    by_cases c1 : b.fine
    · have e1 := Pro.err_ok c1
      refine ppq (.bool true) (eqt ((b.err) : Int) ((0) : Int) (by omega)) <| pkq (.bool true) <| pkq (.bool true) <| pkq (pT ga 0) <| ppq (.int .i64 a.v) (exec_ld 3 (.tmp 26) ga 0 Tryz.underlying3 (rc (h52) (Pro.c_0 _))) <| pkq (pT gb 0) <| ppq (.int .i64 b.v) (exec_ld 3 (.tmp 28) gb 0 Tryz.underlying3 (rc (h53) (Pro.c_0 _))) ?_
      by_cases c2 : a.v = b.v
      · have e2 := c2
        refine ppq (.bool true) (eqt ((a.v) : Int) ((b.v) : Int) (by omega)) <| pkq (.bool true) <| pkq (.bool true) <| pkq (pT ga 1) <| ppq (.int .i64 a.h) (exec_ld 3 (.tmp 33) ga 1 Tryz.underlying3 (rc (h52) (Pro.c_1 _))) <| pkq (pT gb 1) <| ppq (.int .i64 b.h) (exec_ld 3 (.tmp 35) gb 1 Tryz.underlying3 (rc (h53) (Pro.c_1 _))) ?_
        by_cases c3 : a.h = b.h
        · have e3 := c3
          refine ppq (.bool true) (eqt ((a.h) : Int) ((b.h) : Int) (by omega)) <| pkq (.bool true) <| pkq (.bool true) <| ppq (.agg ((B a.dg).toArray)) (exec_load_row 23 (.tmp 5) (by kernel_rfl) gx (by kernel_rfl) _ _ (0, 0) _ (h54) Tryz.underlying23 rfl (by rw [Bz_size, (Pro.dg_len a)]; kernel_rfl)) <| ppq (.agg ((B b.dg).toArray)) (exec_load_row 23 (.tmp 7) (by kernel_rfl) gy (by kernel_rfl) _ _ (0, 0) _ (h51) Tryz.underlying23 rfl (by rw [Bz_size, (Pro.dg_len b)]; kernel_rfl)) <| ppq (.bool (!(a.dg == b.dg))) (exec_binop .neq 23 23 (.tmp 40) (.tmp 41) (by kernel_rfl) (.agg (B a.dg).toArray) (.agg (B b.dg).toArray) _ (by kernel_rfl) (by kernel_rfl) (run_eqGuard_agg _ _ _ _ _ _ _ hash_guard) (hash_ne _ _ (Pro.dg_len a) (Pro.dg_len b) _)) <| pkq (.bool (!(a.dg == b.dg))) <| pkq (.bool (!(a.dg == b.dg))) <| ps_end <| sy_a ⟨#[.agg (Pro.c a), .agg (Pro.c b), pT ga 0, pT gb 0, .bool (!(a.dg == b.dg)), pT gx 0, .int .i64 a.err, pT gy 0, .int .i64 b.err, .tuple #[.agg (B a.dg).toArray, .int .i64 a.err], .agg (Pro.c a), .tuple #[.agg (B a.dg).toArray, .int .i64 a.err], .agg (B a.dg).toArray, .int .i64 a.err, .tuple #[.agg (B b.dg).toArray, .int .i64 b.err], .agg (Pro.c b), .tuple #[.agg (B b.dg).toArray, .int .i64 b.err], .agg (B b.dg).toArray, .int .i64 b.err, .int .i64 a.err, .bool true, .bool true, .int .i64 b.err, .bool true, .bool true, .bool true, pT ga 0, .int .i64 a.v, pT gb 0, .int .i64 b.v, .bool true, .bool true, .bool true, pT ga 1, .int .i64 a.h, pT gb 1, .int .i64 b.h, .bool true, .bool true, .bool true, .agg ((B a.dg).toArray), .agg ((B b.dg).toArray), .bool (!(a.dg == b.dg)), .bool (!(a.dg == b.dg))], []⟩ <| then_n <| sy_ret (by kernel_rfl) <| sy_out (.bool (!(a.dg == b.dg))) rfl (by kernel_rfl) ?_
          exact ⟨by rw [ne_dec, Pro.dg, Pro.dg, if_pos c0, if_pos c1]; unfold doubP; simp [c0, c1, c2, c3], K55⟩
        · have e3 := c3
          refine ppq (.bool false) (eqf ((a.h) : Int) ((b.h) : Int) (by omega)) <| pkq (.bool false) <| pkq (.bool false) <| pnq <| pnq <| pnq <| pkq (.bool false) <| pkq (.bool false) <| ps_end <| sy_a ⟨#[.agg (Pro.c a), .agg (Pro.c b), pT ga 0, pT gb 0, .bool false, pT gx 0, .int .i64 a.err, pT gy 0, .int .i64 b.err, .tuple #[.agg (B a.dg).toArray, .int .i64 a.err], .agg (Pro.c a), .tuple #[.agg (B a.dg).toArray, .int .i64 a.err], .agg (B a.dg).toArray, .int .i64 a.err, .tuple #[.agg (B b.dg).toArray, .int .i64 b.err], .agg (Pro.c b), .tuple #[.agg (B b.dg).toArray, .int .i64 b.err], .agg (B b.dg).toArray, .int .i64 b.err, .int .i64 a.err, .bool true, .bool true, .int .i64 b.err, .bool true, .bool true, .bool true, pT ga 0, .int .i64 a.v, pT gb 0, .int .i64 b.v, .bool true, .bool true, .bool true, pT ga 1, .int .i64 a.h, pT gb 1, .int .i64 b.h, .bool false, .bool false, .bool false, ud, ud, ud, .bool false], []⟩ <| then_n <| sy_ret (by kernel_rfl) <| sy_out (.bool false) rfl (by kernel_rfl) ?_
          exact ⟨by unfold doubP; simp [c0, c1, c2, c3], K55⟩
      · have e2 := c2
        refine ppq (.bool false) (eqf ((a.v) : Int) ((b.v) : Int) (by omega)) <| pkq (.bool false) <| pkq (.bool false) <| pnq <| pnq <| pnq <| pnq <| pnq <| pkq (.bool false) <| pkq (.bool false) <| pnq <| pnq <| pnq <| pkq (.bool false) ?_
        refine pkq (.bool false) <| ps_end <| sy_a ⟨#[.agg (Pro.c a), .agg (Pro.c b), pT ga 0, pT gb 0, .bool false, pT gx 0, .int .i64 a.err, pT gy 0, .int .i64 b.err, .tuple #[.agg (B a.dg).toArray, .int .i64 a.err], .agg (Pro.c a), .tuple #[.agg (B a.dg).toArray, .int .i64 a.err], .agg (B a.dg).toArray, .int .i64 a.err, .tuple #[.agg (B b.dg).toArray, .int .i64 b.err], .agg (Pro.c b), .tuple #[.agg (B b.dg).toArray, .int .i64 b.err], .agg (B b.dg).toArray, .int .i64 b.err, .int .i64 a.err, .bool true, .bool true, .int .i64 b.err, .bool true, .bool true, .bool true, pT ga 0, .int .i64 a.v, pT gb 0, .int .i64 b.v, .bool false, .bool false, .bool false, ud, ud, ud, ud, ud, .bool false, .bool false, ud, ud, ud, .bool false], []⟩ <| then_n <| sy_ret (by kernel_rfl) <| sy_out (.bool false) rfl (by kernel_rfl) ?_
        exact ⟨by unfold doubP; simp [c0, c1, c2], K55⟩
    · have e1 := Pro.err_no c1
      refine ppq (.bool false) (eqf ((b.err) : Int) ((0) : Int) (by omega)) <| pkq (.bool false) <| pkq (.bool false) <| pnq <| pnq <| pnq <| pnq <| pnq <| pkq (.bool false) <| pkq (.bool false) <| pnq <| pnq <| pnq <| pnq ?_
      refine pnq <| pkq (.bool false) <| pkq (.bool false) <| pnq <| pnq <| pnq <| pkq (.bool false) <| pkq (.bool false) <| ps_end <| sy_a ⟨#[.agg (Pro.c a), .agg (Pro.c b), pT ga 0, pT gb 0, .bool false, pT gx 0, .int .i64 a.err, pT gy 0, .int .i64 b.err, .tuple #[.agg (B a.dg).toArray, .int .i64 a.err], .agg (Pro.c a), .tuple #[.agg (B a.dg).toArray, .int .i64 a.err], .agg (B a.dg).toArray, .int .i64 a.err, .tuple #[.agg (B b.dg).toArray, .int .i64 b.err], .agg (Pro.c b), .tuple #[.agg (B b.dg).toArray, .int .i64 b.err], .agg (B b.dg).toArray, .int .i64 b.err, .int .i64 a.err, .bool true, .bool true, .int .i64 b.err, .bool false, .bool false, .bool false, ud, ud, ud, ud, ud, .bool false, .bool false, ud, ud, ud, ud, ud, .bool false, .bool false, ud, ud, ud, .bool false], []⟩ <| then_n <| sy_ret (by kernel_rfl) <| sy_out (.bool false) rfl (by kernel_rfl) ?_
      exact ⟨by unfold doubP; simp [c0, c1], K55⟩
  · have e0 := Pro.err_no c0
    refine ppq (.bool false) (eqf ((a.err) : Int) ((0) : Int) (by omega)) <| pkq (.bool false) <| pnq <| pnq <| pkq (.bool false) <| pkq (.bool false) <| pnq <| pnq <| pnq <| pnq <| pnq <| pkq (.bool false) <| pkq (.bool false) <| pnq ?_
    refine pnq <| pnq <| pnq <| pnq <| pkq (.bool false) <| pkq (.bool false) <| pnq <| pnq <| pnq <| pkq (.bool false) <| pkq (.bool false) <| ps_end <| sy_a ⟨#[.agg (Pro.c a), .agg (Pro.c b), pT ga 0, pT gb 0, .bool false, pT gx 0, .int .i64 a.err, pT gy 0, .int .i64 b.err, .tuple #[.agg (B a.dg).toArray, .int .i64 a.err], .agg (Pro.c a), .tuple #[.agg (B a.dg).toArray, .int .i64 a.err], .agg (B a.dg).toArray, .int .i64 a.err, .tuple #[.agg (B b.dg).toArray, .int .i64 b.err], .agg (Pro.c b), .tuple #[.agg (B b.dg).toArray, .int .i64 b.err], .agg (B b.dg).toArray, .int .i64 b.err, .int .i64 a.err, .bool false, .bool false, ud, ud, .bool false, .bool false, ud, ud, ud, ud, ud, .bool false, .bool false, ud, ud, ud, ud, ud, .bool false, .bool false, ud, ud, ud, .bool false], []⟩ <| then_n ?_
    refine sy_ret (by kernel_rfl) <| sy_out (.bool false) rfl (by kernel_rfl) ?_
    exact ⟨by unfold doubP; simp [c0], K55⟩
end Go.Proofs.YtcbfnflnokoacaaGreat
namespace Go.Proofs.YtcbfnflnokoacaaGreat
set_option maxRecDepth 100000
set_option maxHeartbeats 4000000
open Go Go.RowKit Go.Own Go.Shelf
def surr (a b : Att) : Bool := decide (a.fine ∧ b.fine ∧ a.v = b.v ∧ a.s < b.s ∧ a.t > b.t)
noncomputable def qc51_1 (n : Nat) : Code := partOf Tryz.f33 n
theorem vSurrounds_ok (a b : Att) (w : World) (ha : a.Ok) (hb : b.Ok) :
    Calls Tryz.prog 33 #[.agg (Att.c a), .agg (Att.c b)] w (fun e w' => e = .returned (.bool (surr a b)) ∧ Keeps Nob w w') := by
  have hr := ha.r
  have hs := hb.r
  have K0 : Keeps Nob w w := Keeps.refl _ _
  refine sy_enter (qc51_1 1) ⟨#[.agg (Att.c a), .agg (Att.c b), ud, ud, ud, ud, ud, ud, ud, ud, ud, ud, ud, ud, ud, ud, ud, ud, ud, ud, ud, ud, ud, ud, ud, ud, ud, ud, ud, ud, ud, ud, ud, ud], []⟩ Tryz.func33 (by kernel_rfl) (by kernel_rfl) <| sy_sq (qc51_1 2) (qc51_1 3) <| sy_reg <| rg_q 0 [0, 1, 2] ?_
  obtain ⟨V1, eV1, ga, ega, h2, kV1⟩ := alloc_step w ((Att.c a)) 26
  have n3 : w.heap.size ≤ ga := ega ▸ K0.size
  refine prq (pT ga 0) (w' := V1) (by rw [← eV1, ← ega]; exact exec_box 26 (.tmp 0) (by kernel_rfl) (.agg (Att.c a)) (by kernel_rfl)) ?_
  clear eV1
  have K4 := K0.nn kV1
  have z5 := kV1.size
  obtain ⟨V6, eV6, gb, egb, h7, kV6⟩ := alloc_step V1 ((Att.c b)) 26
  have n8 : ga < gb := egb ▸ lt_of_block h2
  have n9 : w.heap.size ≤ gb := egb ▸ K4.size
  refine prq (pT gb 0) (w' := V6) (by rw [← eV6, ← egb]; exact exec_box 26 (.tmp 1) (by kernel_rfl) (.agg (Att.c b)) (by kernel_rfl)) ?_
  clear eV6
  have h10 := kV6.bk h2
  have K11 := K4.nn kV6
  have z12 := kV6.size
  refine pkq (.bool false) <| ps_end <| then_n <| sy_sq (qc51_1 6) (qc51_1 7) <| sy_reg <| rg_q 1 [0, 1, 2, 3, 4, 5, 6, 7, 8, 9, 10, 11, 12, 13, 14, 15, 16, 17, 18, 19, 20, 21, 22, 23, 24, 25, 26, 27, 28, 29] <| ppq (.agg (Att.c a)) (exec_load_row 26 (.tmp 2) (by kernel_rfl) ga (by kernel_rfl) _ _ (0, 0) _ (h10) Tryz.underlying26 rfl (by rw [Att.c_size _ hr]; kernel_rfl)) ?_
  refine pcq 66 #[.agg (Att.c a)] Tryz.func66 ((vCheck_ok a _ hr).mono ?_)
  rintro e V13 ⟨rfl, kV13⟩
  refine ⟨_, rfl, ?_⟩
  have h14 := kV13.bk h10
  have h15 := kV13.bk h7
  have K16 := K11.nn kV13
  have z17 := kV13.size
  by_cases c0 : a.fine
  · have e0 := Att.err_ok c0
    refine ppq (.bool true) (eqt ((a.err) : Int) ((0) : Int) (by omega)) <| pkq (.bool true) <| ppq (.agg (Att.c b)) (exec_load_row 26 (.tmp 3) (by kernel_rfl) gb (by kernel_rfl) _ _ (0, 0) _ (h15) Tryz.underlying26 rfl (by rw [Att.c_size _ hs]; kernel_rfl)) ?_
    refine pcq 66 #[.agg (Att.c b)] Tryz.func66 ((vCheck_ok b _ hs).mono ?_)
    rintro e V18 ⟨rfl, kV18⟩
    refine ⟨_, rfl, ?_⟩
    have h19 := kV18.bk h14
    have h20 := kV18.bk h15
    have K21 := K16.nn kV18
    have z22 := kV18.size
    by_cases c1 : b.fine
    · have e1 := Att.err_ok c1
      refine ppq (.bool true) (eqt ((b.err) : Int) ((0) : Int) (by omega)) <| pkq (.bool true) <| pkq (.bool true) <| pkq (pT ga 0) <| ppq (.int .i64 a.v) (exec_ld 3 (.tmp 14) ga 0 Tryz.underlying3 (rc (h19) (Att.c_0 _))) <| pkq (pT gb 0) <| ppq (.int .i64 b.v) (exec_ld 3 (.tmp 16) gb 0 Tryz.underlying3 (rc (h20) (Att.c_0 _))) ?_
      by_cases c2 : a.v = b.v
      · have e2 := c2
        refine ppq (.bool true) (eqt ((a.v) : Int) ((b.v) : Int) (by omega)) <| pkq (.bool true) <| pkq (.bool true) <| pkq (pT ga 1) <| ppq (.int .i64 a.s) (exec_ld 3 (.tmp 21) ga 1 Tryz.underlying3 (rc (h19) (Att.c_1 _))) <| pkq (pT gb 1) <| ppq (.int .i64 b.s) (exec_ld 3 (.tmp 23) gb 1 Tryz.underlying3 (rc (h20) (Att.c_1 _))) ?_
        by_cases c3 : a.s < b.s
        · have e3 := c3
          refine ppq (.bool true) (dct (((a.s) : Int) < ((b.s) : Int)) (by omega)) <| pkq (.bool true) <| pkq (.bool true) <| pkq (pT ga 2) <| ppq (.int .i64 a.t) (exec_ld 3 (.tmp 28) ga 2 Tryz.underlying3 (rc (h19) (Att.c_2 _))) <| pkq (pT gb 2) <| ppq (.int .i64 b.t) (exec_ld 3 (.tmp 30) gb 2 Tryz.underlying3 (rc (h20) (Att.c_2 _))) ?_
          by_cases c4 : b.t < a.t
          · have e4 := c4
            refine ppq (.bool true) (dct (((a.t) : Int) > ((b.t) : Int)) (by omega)) <| pkq (.bool true) <| pkq (.bool true) <| ps_end <| sy_a ⟨#[.agg (Att.c a), .agg (Att.c b), pT ga 0, pT gb 0, .bool true, .agg (Att.c a), .int .i64 a.err, .bool true, .bool true, .agg (Att.c b), .int .i64 b.err, .bool true, .bool true, .bool true, pT ga 0, .int .i64 a.v, pT gb 0, .int .i64 b.v, .bool true, .bool true, .bool true, pT ga 1, .int .i64 a.s, pT gb 1, .int .i64 b.s, .bool true, .bool true, .bool true, pT ga 2, .int .i64 a.t, pT gb 2, .int .i64 b.t, .bool true, .bool true], []⟩ <| then_n <| sy_ret (by kernel_rfl) <| sy_out (.bool true) rfl (by kernel_rfl) ?_
            exact ⟨by unfold surr; simp [c0, c1, c2, c3, c4], K21⟩
          · have e4 := c4
            refine ppq (.bool false) (dcf (((a.t) : Int) > ((b.t) : Int)) (by omega)) <| pkq (.bool false) <| pkq (.bool false) <| ps_end <| sy_a ⟨#[.agg (Att.c a), .agg (Att.c b), pT ga 0, pT gb 0, .bool false, .agg (Att.c a), .int .i64 a.err, .bool true, .bool true, .agg (Att.c b), .int .i64 b.err, .bool true, .bool true, .bool true, pT ga 0, .int .i64 a.v, pT gb 0, .int .i64 b.v, .bool true, .bool true, .bool true, pT ga 1, .int .i64 a.s, pT gb 1, .int .i64 b.s, .bool true, .bool true, .bool true, pT ga 2, .int .i64 a.t, pT gb 2, .int .i64 b.t, .bool false, .bool false], []⟩ <| then_n <| sy_ret (by kernel_rfl) <| sy_out (.bool false) rfl (by kernel_rfl) ?_
            exact ⟨by unfold surr; simp [c0, c1, c2, c3, c4], K21⟩
        · have e3 := c3
          refine ppq (.bool false) (dcf (((a.s) : Int) < ((b.s) : Int)) (by omega)) <| pkq (.bool false) <| pkq (.bool false) <| pnq <| pnq <| pnq <| pnq <| pnq <| pkq (.bool false) <| pkq (.bool false) <| ps_end <| sy_a ⟨#[.agg (Att.c a), .agg (Att.c b), pT ga 0, pT gb 0, .bool false, .agg (Att.c a), .int .i64 a.err, .bool true, .bool true, .agg (Att.c b), .int .i64 b.err, .bool true, .bool true, .bool true, pT ga 0, .int .i64 a.v, pT gb 0, .int .i64 b.v, .bool true, .bool true, .bool true, pT ga 1, .int .i64 a.s, pT gb 1, .int .i64 b.s, .bool false, .bool false, .bool false, ud, ud, ud, ud, ud, .bool false], []⟩ <| then_n <| sy_ret (by kernel_rfl) ?_
          refine sy_out (.bool false) rfl (by kernel_rfl) ?_
          exact ⟨by unfold surr; simp [c0, c1, c2, c3], K21⟩
      · have e2 := c2
        refine ppq (.bool false) (eqf ((a.v) : Int) ((b.v) : Int) (by omega)) <| pkq (.bool false) <| pkq (.bool false) <| pnq <| pnq <| pnq <| pnq <| pnq <| pkq (.bool false) <| pkq (.bool false) <| pnq <| pnq <| pnq <| pnq ?_
        refine pnq <| pkq (.bool false) <| pkq (.bool false) <| ps_end <| sy_a ⟨#[.agg (Att.c a), .agg (Att.c b), pT ga 0, pT gb 0, .bool false, .agg (Att.c a), .int .i64 a.err, .bool true, .bool true, .agg (Att.c b), .int .i64 b.err, .bool true, .bool true, .bool true, pT ga 0, .int .i64 a.v, pT gb 0, .int .i64 b.v, .bool false, .bool false, .bool false, ud, ud, ud, ud, ud, .bool false, .bool false, ud, ud, ud, ud, ud, .bool false], []⟩ <| then_n <| sy_ret (by kernel_rfl) <| sy_out (.bool false) rfl (by kernel_rfl) ?_
        exact ⟨by unfold surr; simp [c0, c1, c2], K21⟩
    · have e1 := Att.err_no c1
      refine ppq (.bool false) (eqf ((b.err) : Int) ((0) : Int) (by omega)) <| pkq (.bool false) <| pkq (.bool false) <| pnq <| pnq <| pnq <| pnq <| pnq <| pkq (.bool false) <| pkq (.bool false) <| pnq <| pnq <| pnq <| pnq ?_
      refine pnq <| pkq (.bool false) <| pkq (.bool false) <| pnq <| pnq <| pnq <| pnq <| pnq <| pkq (.bool false) <| pkq (.bool false) <| ps_end <| sy_a ⟨#[.agg (Att.c a), .agg (Att.c b), pT ga 0, pT gb 0, .bool false, .agg (Att.c a), .int .i64 a.err, .bool true, .bool true, .agg (Att.c b), .int .i64 b.err, .bool false, .bool false, .bool false, ud, ud, ud, ud, ud, .bool false, .bool false, ud, ud, ud, ud, ud, .bool false, .bool false, ud, ud, ud, ud, ud, .bool false], []⟩ <| then_n <| sy_ret (by kernel_rfl) ?_
      refine sy_out (.bool false) rfl (by kernel_rfl) ?_
      exact ⟨by unfold surr; simp [c0, c1], K21⟩
  · have e0 := Att.err_no c0
    refine ppq (.bool false) (eqf ((a.err) : Int) ((0) : Int) (by omega)) <| pkq (.bool false) <| pnq <| pnq <| pnq <| pkq (.bool false) <| pkq (.bool false) <| pnq <| pnq <| pnq <| pnq <| pnq <| pkq (.bool false) <| pkq (.bool false) ?_
    refine pnq <| pnq <| pnq <| pnq <| pnq <| pkq (.bool false) <| pkq (.bool false) <| pnq <| pnq <| pnq <| pnq <| pnq <| pkq (.bool false) <| pkq (.bool false) ?_
    refine ps_end <| sy_a ⟨#[.agg (Att.c a), .agg (Att.c b), pT ga 0, pT gb 0, .bool false, .agg (Att.c a), .int .i64 a.err, .bool false, .bool false, ud, ud, ud, .bool false, .bool false, ud, ud, ud, ud, ud, .bool false, .bool false, ud, ud, ud, ud, ud, .bool false, .bool false, ud, ud, ud, ud, ud, .bool false], []⟩ <| then_n <| sy_ret (by kernel_rfl) <| sy_out (.bool false) rfl (by kernel_rfl) ?_
    exact ⟨by unfold surr; simp [c0], K16⟩
noncomputable def qc51_0 (n : Nat) : Code := partOf Tryz.f46 n
theorem rvSurrounds_ok (a b : Att) (w : World) (ha : a.Ok) (hb : b.Ok) :
    Calls Tryz.prog 46 #[.agg (Att.c a), .agg (Att.c b)] w (fun e w' => e = .returned (.bool (surr a b)) ∧ Keeps Nob w w') := by
  have hr := ha.r
  have hs := hb.r
  have K0 : Keeps Nob w w := Keeps.refl _ _
  refine sy_enter (qc51_0 1) ⟨#[.agg (Att.c a), .agg (Att.c b), ud, ud, ud, ud, ud, ud, ud, ud, ud, ud, ud, ud, ud, ud, ud, ud, ud, ud, ud, ud, ud, ud, ud, ud, ud, ud, ud, ud, ud, ud, ud, ud], []⟩ Tryz.func46 (by kernel_rfl) (by kernel_rfl) <| sy_sq (qc51_0 2) (qc51_0 3) <| sy_reg <| rg_q 0 [0, 1, 2] ?_
  obtain ⟨V1, eV1, ga, ega, h2, kV1⟩ := alloc_step w ((Att.c a)) 26
  have n3 : w.heap.size ≤ ga := ega ▸ K0.size
  refine prq (pT ga 0) (w' := V1) (by rw [← eV1, ← ega]; exact exec_box 26 (.tmp 0) (by kernel_rfl) (.agg (Att.c a)) (by kernel_rfl)) ?_
  clear eV1
  have K4 := K0.nn kV1
  have z5 := kV1.size
  obtain ⟨V6, eV6, gb, egb, h7, kV6⟩ := alloc_step V1 ((Att.c b)) 26
  have n8 : ga < gb := egb ▸ lt_of_block h2
  have n9 : w.heap.size ≤ gb := egb ▸ K4.size
  refine prq (pT gb 0) (w' := V6) (by rw [← eV6, ← egb]; exact exec_box 26 (.tmp 1) (by kernel_rfl) (.agg (Att.c b)) (by kernel_rfl)) ?_
  clear eV6
  have h10 := kV6.bk h2
  have K11 := K4.nn kV6
  have z12 := kV6.size
  refine pkq (.bool false) <| ps_end <| then_n <| sy_sq (qc51_0 6) (qc51_0 7) <| sy_reg <| rg_q 1 [0, 1, 2, 3, 4, 5, 6, 7, 8, 9, 10, 11, 12, 13, 14, 15, 16, 17, 18, 19, 20, 21, 22, 23, 24, 25, 26, 27, 28, 29] <| ppq (.agg (Att.c a)) (exec_load_row 26 (.tmp 2) (by kernel_rfl) ga (by kernel_rfl) _ _ (0, 0) _ (h10) Tryz.underlying26 rfl (by rw [Att.c_size _ hr]; kernel_rfl)) ?_
  refine pcq 77 #[.agg (Att.c a)] Tryz.func77 ((rvCheck_ok a _ hr).mono ?_)
  rintro e V13 ⟨rfl, kV13⟩
  refine ⟨_, rfl, ?_⟩
  have h14 := kV13.bk h10
  have h15 := kV13.bk h7
  have K16 := K11.nn kV13
  have z17 := kV13.size
  by_cases c0 : a.fine
  · have e0 := Att.err_ok c0
    refine ppq (.bool true) (eqt ((a.err) : Int) ((0) : Int) (by omega)) <| pkq (.bool true) <| ppq (.agg (Att.c b)) (exec_load_row 26 (.tmp 3) (by kernel_rfl) gb (by kernel_rfl) _ _ (0, 0) _ (h15) Tryz.underlying26 rfl (by rw [Att.c_size _ hs]; kernel_rfl)) ?_
    refine pcq 77 #[.agg (Att.c b)] Tryz.func77 ((rvCheck_ok b _ hs).mono ?_)
    rintro e V18 ⟨rfl, kV18⟩
    refine ⟨_, rfl, ?_⟩
    have h19 := kV18.bk h14
    have h20 := kV18.bk h15
    have K21 := K16.nn kV18
    have z22 := kV18.size
    by_cases c1 : b.fine
    · have e1 := Att.err_ok c1
      refine ppq (.bool true) (eqt ((b.err) : Int) ((0) : Int) (by omega)) <| pkq (.bool true) <| pkq (.bool true) <| pkq (pT ga 0) <| ppq (.int .i64 a.v) (exec_ld 3 (.tmp 14) ga 0 Tryz.underlying3 (rc (h19) (Att.c_0 _))) <| pkq (pT gb 0) <| ppq (.int .i64 b.v) (exec_ld 3 (.tmp 16) gb 0 Tryz.underlying3 (rc (h20) (Att.c_0 _))) ?_
      by_cases c2 : a.v = b.v
      · have e2 := c2
        refine ppq (.bool true) (eqt ((a.v) : Int) ((b.v) : Int) (by omega)) <| pkq (.bool true) <| pkq (.bool true) <| pkq (pT ga 1) <| ppq (.int .i64 a.s) (exec_ld 3 (.tmp 21) ga 1 Tryz.underlying3 (rc (h19) (Att.c_1 _))) <| pkq (pT gb 1) <| ppq (.int .i64 b.s) (exec_ld 3 (.tmp 23) gb 1 Tryz.underlying3 (rc (h20) (Att.c_1 _))) ?_
        by_cases c3 : a.s < b.s
        · have e3 := c3
          refine ppq (.bool true) (dct (((a.s) : Int) < ((b.s) : Int)) (by omega)) <| pkq (.bool true) <| pkq (.bool true) <| pkq (pT ga 2) <| ppq (.int .i64 a.t) (exec_ld 3 (.tmp 28) ga 2 Tryz.underlying3 (rc (h19) (Att.c_2 _))) <| pkq (pT gb 2) <| ppq (.int .i64 b.t) (exec_ld 3 (.tmp 30) gb 2 Tryz.underlying3 (rc (h20) (Att.c_2 _))) ?_
          by_cases c4 : b.t < a.t
          · have e4 := c4
            refine ppq (.bool true) (dct (((a.t) : Int) > ((b.t) : Int)) (by omega)) <| pkq (.bool true) <| pkq (.bool true) <| ps_end <| sy_a ⟨#[.agg (Att.c a), .agg (Att.c b), pT ga 0, pT gb 0, .bool true, .agg (Att.c a), .int .i64 a.err, .bool true, .bool true, .agg (Att.c b), .int .i64 b.err, .bool true, .bool true, .bool true, pT ga 0, .int .i64 a.v, pT gb 0, .int .i64 b.v, .bool true, .bool true, .bool true, pT ga 1, .int .i64 a.s, pT gb 1, .int .i64 b.s, .bool true, .bool true, .bool true, pT ga 2, .int .i64 a.t, pT gb 2, .int .i64 b.t, .bool true, .bool true], []⟩ <| then_n <| sy_ret (by kernel_rfl) <| sy_out (.bool true) rfl (by kernel_rfl) ?_
            exact ⟨by unfold surr; simp [c0, c1, c2, c3, c4], K21⟩
          · have e4 := c4
            refine ppq (.bool false) (dcf (((a.t) : Int) > ((b.t) : Int)) (by omega)) <| pkq (.bool false) <| pkq (.bool false) <| ps_end <| sy_a ⟨#[.agg (Att.c a), .agg (Att.c b), pT ga 0, pT gb 0, .bool false, .agg (Att.c a), .int .i64 a.err, .bool true, .bool true, .agg (Att.c b), .int .i64 b.err, .bool true, .bool true, .bool true, pT ga 0, .int .i64 a.v, pT gb 0, .int .i64 b.v, .bool true, .bool true, .bool true, pT ga 1, .int .i64 a.s, pT gb 1, .int .i64 b.s, .bool true, .bool true, .bool true, pT ga 2, .int .i64 a.t, pT gb 2, .int .i64 b.t, .bool false, .bool false], []⟩ <| then_n <| sy_ret (by kernel_rfl) <| sy_out (.bool false) rfl (by kernel_rfl) ?_
            exact ⟨by unfold surr; simp [c0, c1, c2, c3, c4], K21⟩
        · have e3 := c3
          refine ppq (.bool false) (dcf (((a.s) : Int) < ((b.s) : Int)) (by omega)) <| pkq (.bool false) <| pkq (.bool false) <| pnq <| pnq <| pnq <| pnq <| pnq <| pkq (.bool false) <| pkq (.bool false) <| ps_end <| sy_a ⟨#[.agg (Att.c a), .agg (Att.c b), pT ga 0, pT gb 0, .bool false, .agg (Att.c a), .int .i64 a.err, .bool true, .bool true, .agg (Att.c b), .int .i64 b.err, .bool true, .bool true, .bool true, pT ga 0, .int .i64 a.v, pT gb 0, .int .i64 b.v, .bool true, .bool true, .bool true, pT ga 1, .int .i64 a.s, pT gb 1, .int .i64 b.s, .bool false, .bool false, .bool false, ud, ud, ud, ud, ud, .bool false], []⟩ <| then_n <| sy_ret (by kernel_rfl) ?_
          refine sy_out (.bool false) rfl (by kernel_rfl) ?_
          exact ⟨by unfold surr; simp [c0, c1, c2, c3], K21⟩
      · have e2 := c2
        refine ppq (.bool false) (eqf ((a.v) : Int) ((b.v) : Int) (by omega)) <| pkq (.bool false) <| pkq (.bool false) <| pnq <| pnq <| pnq <| pnq <| pnq <| pkq (.bool false) <| pkq (.bool false) <| pnq <| pnq <| pnq <| pnq ?_
        refine pnq <| pkq (.bool false) <| pkq (.bool false) <| ps_end <| sy_a ⟨#[.agg (Att.c a), .agg (Att.c b), pT ga 0, pT gb 0, .bool false, .agg (Att.c a), .int .i64 a.err, .bool true, .bool true, .agg (Att.c b), .int .i64 b.err, .bool true, .bool true, .bool true, pT ga 0, .int .i64 a.v, pT gb 0, .int .i64 b.v, .bool false, .bool false, .bool false, ud, ud, ud, ud, ud, .bool false, .bool false, ud, ud, ud, ud, ud, .bool false], []⟩ <| then_n <| sy_ret (by kernel_rfl) <| sy_out (.bool false) rfl (by kernel_rfl) ?_
        exact ⟨by unfold surr; simp [c0, c1, c2], K21⟩
    · have e1 := Att.err_no c1
      refine ppq (.bool false) (eqf ((b.err) : Int) ((0) : Int) (by omega)) <| pkq (.bool false) <| pkq (.bool false) <| pnq <| pnq <| pnq <| pnq <| pnq <| pkq (.bool false) <| pkq (.bool false) <| pnq <| pnq <| pnq <| pnq ?_
      refine pnq <| pkq (.bool false) <| pkq (.bool false) <| pnq <| pnq <| pnq <| pnq <| pnq <| pkq (.bool false) <| pkq (.bool false) <| ps_end <| sy_a ⟨#[.agg (Att.c a), .agg (Att.c b), pT ga 0, pT gb 0, .bool false, .agg (Att.c a), .int .i64 a.err, .bool true, .bool true, .agg (Att.c b), .int .i64 b.err, .bool false, .bool false, .bool false, ud, ud, ud, ud, ud, .bool false, .bool false, ud, ud, ud, ud, ud, .bool false, .bool false, ud, ud, ud, ud, ud, .bool false], []⟩ <| then_n <| sy_ret (by kernel_rfl) ?_
      refine sy_out (.bool false) rfl (by kernel_rfl) ?_
      exact ⟨by unfold surr; simp [c0, c1], K21⟩
  · have e0 := Att.err_no c0
    refine ppq (.bool false) (eqf ((a.err) : Int) ((0) : Int) (by omega)) <| pkq (.bool false) <| pnq <| pnq <| pnq <| pkq (.bool false) <| pkq (.bool false) <| pnq <| pnq <| pnq <| pnq <| pnq <| pkq (.bool false) <| pkq (.bool false) ?_
    refine pnq <| pnq <| pnq <| pnq <| pnq <| pkq (.bool false) <| pkq (.bool false) <| pnq <| pnq <| pnq <| pnq <| pnq <| pkq (.bool false) <| pkq (.bool false) ?_
    refine ps_end <| sy_a ⟨#[.agg (Att.c a), .agg (Att.c b), pT ga 0, pT gb 0, .bool false, .agg (Att.c a), .int .i64 a.err, .bool false, .bool false, ud, ud, ud, .bool false, .bool false, ud, ud, ud, ud, ud, .bool false, .bool false, ud, ud, ud, ud, ud, .bool false, .bool false, ud, ud, ud, ud, ud, .bool false], []⟩ <| then_n <| sy_ret (by kernel_rfl) <| sy_out (.bool false) rfl (by kernel_rfl) ?_
    exact ⟨by unfold surr; simp [c0], K16⟩
end Go.Proofs.YtcbfnflnokoacaaGreat
namespace Go.Proofs.YtcbfnflnokoacaaGreat
set_option maxRecDepth 100000
set_option maxHeartbeats 4000000
open Go Go.RowKit Go.Own Go.Shelf
/-- A field as it is made: name, bounds, reader, setter, and the box that both hold. -/
def fieldV (nm : Value) (lo hi : Int) (f g : Nat) (k : Nat) : Value :=
  .agg #[nm, .int .u64 lo, .int .u64 hi, .func (.func f) #[] #[.pointer (some ⟨k, 0, none⟩)], .func (.func g) #[] #[.pointer (some ⟨k, 0, none⟩)]]
theorem mf_run : ∀ (fn : Fn) (first cap : Array Value) (w : World), (Instr.makeFunc fn first cap).run Tryz.prog w = .ok (.func fn first cap) w := fun _ _ _ _ => rfl
theorem field_info : (Tryz.prog.info? 91).map (·.size) = some 5 := by kernel_rfl
theorem of_ok (nm : ByteArray) (lo hi : Int) (q : Addr) (w : World) :
    Calls Tryz.prog 89 #[.string nm, .int .u64 lo, .int .u64 hi, .pointer (some q)] w fun e w' => e = .returned (fieldV (.string nm) lo hi 111 112 w.heap.size) ∧ w'.cell? ⟨w.heap.size, 0, none⟩ = some (.pointer (some q)) ∧ w.heap.size < w'.heap.size ∧ Keeps Nob w w' := by
  have hmf := mf_run
  go_enter Tryz.func89, Tryz.ntmps89
  go_wp2_with (refine wpList_store_row rfl 91 _ _ rfl (w.heap.size + 1) #[.string nm, .int .u64 lo, .int .u64 hi, .func (.func 111) #[] #[.pointer (some ⟨w.heap.size, 0, none⟩)], .func (.func 112) #[] #[.pointer (some ⟨w.heap.size, 0, none⟩)]] rfl rfl 91 #[.string ⟨#[]⟩, .int .u64 0, .int .u64 0, .nilFunc, .nilFunc] (by rw [show w.heap.size + 1 = (w.alloc (.cells #[.pointer (some q)] 126)).heap.size by simp]; exact World.alloc_heap_new _ _) field_info rfl (by simp [Value.oneCell']) ?_)
  have k1 : Keeps Nob w (w.alloc (.cells #[.pointer (some q)] 126)) := (Keeps.refl _ _).alloc _
  have c1 : (w.alloc (.cells #[.pointer (some q)] 126)).cell? ⟨w.heap.size, 0, none⟩ = some (.pointer (some q)) := (World.cell?_alloc_at _ _ _ _ rfl).trans rfl
  have s1 : (w.alloc (.cells #[.pointer (some q)] 126)).heap.size = w.heap.size + 1 := by simp
  (try simp only [Exit.inBlock, Exit.then])
  refine bodyPost_ret (v := .agg #[.string nm, .int .u64 lo, .int .u64 hi, .func (.func 111) #[] #[.pointer (some ⟨w.heap.size, 0, none⟩)], .func (.func 112) #[] #[.pointer (some ⟨w.heap.size, 0, none⟩)]]) ?_ rfl ?_
  · exact results_cell_row rfl _ _ (w.heap.size + 1) 91 #[.string nm, .int .u64 lo, .int .u64 hi, .func (.func 111) #[] #[.pointer (some ⟨w.heap.size, 0, none⟩)], .func (.func 112) #[] #[.pointer (some ⟨w.heap.size, 0, none⟩)]] (0, 0) _ rfl (setRow_heap _ _ #[.string ⟨#[]⟩, .int .u64 0, .int .u64 0, .nilFunc, .nilFunc] _ _ _ (by rw [show w.heap.size + 1 = (w.alloc (.cells #[.pointer (some q)] 126)).heap.size by simp]; exact World.alloc_heap_new _ _)) Tryz.underlying91 rfl field_info
  have k2 : ∀ o cs, Keeps Nob (w.alloc (.cells #[.pointer (some q)] 126)) (((w.alloc (.cells #[.pointer (some q)] 126)).alloc o).setRow (w.heap.size + 1) cs) := fun o cs => ((Keeps.refl _ _).alloc _).setRow (fun x => absurd x (by omega)) cs
  exact ⟨rfl, ((k2 _ _).cell (by omega) (fun x => x)).trans c1, Nat.lt_of_lt_of_le (by omega) (k2 _ _).size, k1.trans (k2 _ _)⟩
theorem word_ok (nm : ByteArray) (hi : Int) (q : Addr) (w : World) :
    Calls Tryz.prog 90 #[.string nm, .int .u64 hi, .pointer (some q)] w fun e w' => e = .returned (fieldV (.string nm) 0 hi 113 114 w.heap.size) ∧ w'.cell? ⟨w.heap.size, 0, none⟩ = some (.pointer (some q)) ∧ w.heap.size < w'.heap.size ∧ Keeps Nob w w' := by
  have hmf := mf_run
  go_enter Tryz.func90, Tryz.ntmps90
  go_wp2_with (refine wpList_store_row rfl 91 _ _ rfl (w.heap.size + 1) #[.string nm, .int .u64 0, .int .u64 hi, .func (.func 113) #[] #[.pointer (some ⟨w.heap.size, 0, none⟩)], .func (.func 114) #[] #[.pointer (some ⟨w.heap.size, 0, none⟩)]] rfl rfl 91 #[.string ⟨#[]⟩, .int .u64 0, .int .u64 0, .nilFunc, .nilFunc] (by rw [show w.heap.size + 1 = (w.alloc (.cells #[.pointer (some q)] 128)).heap.size by simp]; exact World.alloc_heap_new _ _) field_info rfl (by simp [Value.oneCell']) ?_)
  have k1 : Keeps Nob w (w.alloc (.cells #[.pointer (some q)] 128)) := (Keeps.refl _ _).alloc _
  have c1 : (w.alloc (.cells #[.pointer (some q)] 128)).cell? ⟨w.heap.size, 0, none⟩ = some (.pointer (some q)) := (World.cell?_alloc_at _ _ _ _ rfl).trans rfl
  have s1 : (w.alloc (.cells #[.pointer (some q)] 128)).heap.size = w.heap.size + 1 := by simp
  (try simp only [Exit.inBlock, Exit.then])
  refine bodyPost_ret (v := .agg #[.string nm, .int .u64 0, .int .u64 hi, .func (.func 113) #[] #[.pointer (some ⟨w.heap.size, 0, none⟩)], .func (.func 114) #[] #[.pointer (some ⟨w.heap.size, 0, none⟩)]]) ?_ rfl ?_
  · exact results_cell_row rfl _ _ (w.heap.size + 1) 91 #[.string nm, .int .u64 0, .int .u64 hi, .func (.func 113) #[] #[.pointer (some ⟨w.heap.size, 0, none⟩)], .func (.func 114) #[] #[.pointer (some ⟨w.heap.size, 0, none⟩)]] (0, 0) _ rfl (setRow_heap _ _ #[.string ⟨#[]⟩, .int .u64 0, .int .u64 0, .nilFunc, .nilFunc] _ _ _ (by rw [show w.heap.size + 1 = (w.alloc (.cells #[.pointer (some q)] 128)).heap.size by simp]; exact World.alloc_heap_new _ _)) Tryz.underlying91 rfl field_info
  have k2 : ∀ o cs, Keeps Nob (w.alloc (.cells #[.pointer (some q)] 128)) (((w.alloc (.cells #[.pointer (some q)] 128)).alloc o).setRow (w.heap.size + 1) cs) := fun o cs => ((Keeps.refl _ _).alloc _).setRow (fun x => absurd x (by omega)) cs
  exact ⟨rfl, ((k2 _ _).cell (by omega) (fun x => x)).trans c1, Nat.lt_of_lt_of_le (by omega) (k2 _ _).size, k1.trans (k2 _ _)⟩
end Go.Proofs.YtcbfnflnokoacaaGreat
namespace Go.Proofs.YtcbfnflnokoacaaGreat
set_option maxRecDepth 100000
set_option maxHeartbeats 4000000
open Go Go.RowKit Go.Own Go.Shelf
theorem of1_ok (k : Nat) (q : Addr) (x : Int) (w : World) (h1 : w.cell? ⟨k, 0, none⟩ = some (.pointer (some q))) (h2 : w.cell? q = some (.int .i64 x)) (b1 : -9223372036854775808 ≤ x) (b2 : x ≤ 9223372036854775807) :
    Calls Tryz.prog 111 #[.pointer (some ⟨k, 0, none⟩)] w fun e w' => e = .returned (.tuple #[.int .u64 (max x 0), .bool (decide (0 ≤ x))]) ∧ Keeps Nob w w' := by
  by_cases hx : 0 ≤ x
  · have hm : max x 0 = x := by omega
    rw [hm]
    go_enter Tryz.func111, Tryz.ntmps111
    go_wp2
    go_region
    go_wp2
    all_goals (go_ret2; exact ⟨by simp [hx], (Keeps.refl _ _).drew⟩)
  · have hm : max x 0 = 0 := by omega
    rw [hm]
    have hd : decide (0 ≤ x) = false := by simpa using hx
    go_enter Tryz.func111, Tryz.ntmps111
    go_wp2
    go_region
    go_wp2
    all_goals (go_ret2; exact ⟨by simp [hd], (Keeps.refl _ _).drew⟩)
theorem word1_ok (k : Nat) (q : Addr) (x : Int) (w : World) (h1 : w.cell? ⟨k, 0, none⟩ = some (.pointer (some q))) (h2 : w.cell? q = some (.int .u64 x)) :
    Calls Tryz.prog 113 #[.pointer (some ⟨k, 0, none⟩)] w fun e w' => e = .returned (.tuple #[.int .u64 x, .bool true]) ∧ Keeps Nob w w' := by
  go_enter Tryz.func113, Tryz.ntmps113
  go_wp2
  go_ret2
  exact ⟨rfl, Keeps.refl _ _⟩
theorem within_ok (nm f g : Value) (lo hi n : Int) (w : World) :
    Calls Tryz.prog 65 #[.agg #[nm, .int .u64 lo, .int .u64 hi, f, g], .int .u64 n] w fun e w' => e = .returned (.bool (decide (lo ≤ n) && decide (n ≤ hi))) ∧ Keeps Nob w w' := by
  by_cases h1 : lo ≤ n
  · go_enter Tryz.func65, Tryz.ntmps65
    go_wp2
    go_ret
    exact ⟨by simp [h1], (Keeps.refl _ _).alloc _⟩
  · have h2 : decide (lo ≤ n) = false := by simpa using h1
    go_enter Tryz.func65, Tryz.ntmps65
    go_wp2
    go_ret
    exact ⟨by simp [h2], (Keeps.refl _ _).alloc _⟩
end Go.Proofs.YtcbfnflnokoacaaGreat
namespace Go.Proofs.YtcbfnflnokoacaaGreat
set_option maxRecDepth 100000
set_option maxHeartbeats 4000000
open Go Go.Own
noncomputable def opsFields : Array Oper := opsOf Tryz.f64 1
end Go.Proofs.YtcbfnflnokoacaaGreat
namespace Go.Proofs.YtcbfnflnokoacaaGreat
set_option maxRecDepth 100000
set_option maxHeartbeats 4000000
open Go Go.RowKit Go.Own Go.Shelf
/-- The names, bounds and functions of the fields. -/
def parName : List ByteArray := [⟨#[117, 110, 98, 111, 110, 100, 105, 110, 103]⟩, ⟨#[109, 97, 120, 97, 103, 101]⟩, ⟨#[101, 112, 111, 99, 104, 108, 101, 110]⟩, ⟨#[119, 105, 110, 100, 111, 119]⟩, ⟨#[101, 110, 116, 114, 105, 101, 115]⟩, ⟨#[109, 97, 120, 97, 99, 116, 105, 118, 101]⟩, ⟨#[106, 97, 105, 108, 116, 105, 109, 101]⟩, ⟨#[98, 97, 115, 101]⟩, ⟨#[109, 117, 108, 116]⟩, ⟨#[99, 111, 114, 114, 119, 105, 110, 100, 111, 119]⟩, ⟨#[114, 101, 119, 97, 114, 100]⟩]
def parLoU : List Int := [1, 0, 1, 1, 1, 1, 1, 0, 0, 1, 0]
def parHiU : List Int := [1048576, 1048576, 1000, 256, 16, 32, 1048576, 1000000000, 1000, 1048576, 1000000000]
def parGet : List Nat := [111, 111, 111, 111, 111, 111, 111, 113, 113, 111, 113]
def parSet : List Nat := [112, 112, 112, 112, 112, 112, 112, 114, 114, 112, 114]
def parField (i k : Nat) : Value := fieldV (.string (parName[i]?.getD ⟨#[]⟩)) (parLoU[i]?.getD 0) (parHiU[i]?.getD 0) (parGet[i]?.getD 0) (parSet[i]?.getD 0) k
/-- The fields of the record at block b lie at block g; field i's box is block ks i. -/
structure FieldsAt (w : World) (g b : Nat) (ks : Nat → Nat) : Prop where
  cell : ∀ i j : Nat, i < 11 → j < 5 → w.cell? ⟨g, i * 5 + j, none⟩ = (parField i (ks i)).cells[j]?
  box : ∀ i : Nat, i < 11 → w.cell? ⟨ks i, 0, none⟩ = some (.pointer (some ⟨b, i, none⟩))
/-- All cells of the fields. -/
def fieldCells (zs : List Nat) : Array Value := ((List.range 11).map fun i => (parField i (zs[i]?.getD 0)).cells.toList).flatten.toArray
theorem fieldCells_get (z0 z1 z2 z3 z4 z5 z6 z7 z8 z9 z10 : Nat) (i j : Nat) (hi : i < 11) (hj : j < 5) :
    (fieldCells [z0, z1, z2, z3, z4, z5, z6, z7, z8, z9, z10])[i * 5 + j]? = (parField i ([z0, z1, z2, z3, z4, z5, z6, z7, z8, z9, z10][i]?.getD 0)).cells[j]? := by
  have h : j = 0 ∨ j = 1 ∨ j = 2 ∨ j = 3 ∨ j = 4 := by omega
  have h' : i = 0 ∨ i = 1 ∨ i = 2 ∨ i = 3 ∨ i = 4 ∨ i = 5 ∨ i = 6 ∨ i = 7 ∨ i = 8 ∨ i = 9 ∨ i = 10 := by omega
  rcases h' with rfl | rfl | rfl | rfl | rfl | rfl | rfl | rfl | rfl | rfl | rfl <;> rcases h with rfl | rfl | rfl | rfl | rfl <;> rfl
theorem fields_sel : Region.noSelect opsFields = true := by kernel_rfl
theorem fields_size : opsFields.size = 46 := by kernel_rfl
theorem fields_pure (b : Nat) : pureRun Tryz.prog .any opsFields [0, 1, 2, 4, 5, 6, 8, 9, 10, 12, 13, 14, 16, 17, 18, 20, 21, 22, 24, 25, 26, 28, 29, 30, 32, 33, 34, 36, 37, 38, 40, 41, 42] (Array.replicate 46 false) ⟨#[.pointer (some ⟨b, 0, none⟩), ud, .slice none 0 0, ud, ud, ud, ud, ud, ud, ud, ud, ud, ud, ud, ud, ud, ud, ud, ud, ud, ud, ud, ud, ud, ud, ud, ud, ud, ud, ud, ud, ud, ud, ud, ud, ud, ud, ud, ud, ud, ud, ud, ud, ud, ud, ud, ud, ud], []⟩ = some (#[true, true, true, false, true, true, true, false, true, true, true, false, true, true, true, false, true, true, true, false, true, true, true, false, true, true, true, false, true, true, true, false, true, true, true, false, true, true, true, false, true, true, true, false, false, false], ⟨#[.pointer (some ⟨b, 0, none⟩), ud, .slice none 0 0, .pointer (some ⟨b, 0, none⟩), .pointer (some ⟨b, 0, none⟩), .pointer (some ⟨b, 0, none⟩), ud, .pointer (some ⟨b, 0, none⟩), .pointer (some ⟨b, 0, none⟩), .pointer (some ⟨b, 1, none⟩), ud, .pointer (some ⟨b, 0, none⟩), .pointer (some ⟨b, 0, none⟩), .pointer (some ⟨b, 2, none⟩), ud, .pointer (some ⟨b, 0, none⟩), .pointer (some ⟨b, 0, none⟩), .pointer (some ⟨b, 3, none⟩), ud, .pointer (some ⟨b, 0, none⟩), .pointer (some ⟨b, 0, none⟩), .pointer (some ⟨b, 4, none⟩), ud, .pointer (some ⟨b, 0, none⟩), .pointer (some ⟨b, 0, none⟩), .pointer (some ⟨b, 5, none⟩), ud, .pointer (some ⟨b, 0, none⟩), .pointer (some ⟨b, 0, none⟩), .pointer (some ⟨b, 6, none⟩), ud, .pointer (some ⟨b, 0, none⟩), .pointer (some ⟨b, 0, none⟩), .pointer (some ⟨b, 7, none⟩), ud, .pointer (some ⟨b, 0, none⟩), .pointer (some ⟨b, 0, none⟩), .pointer (some ⟨b, 8, none⟩), ud, .pointer (some ⟨b, 0, none⟩), .pointer (some ⟨b, 0, none⟩), .pointer (some ⟨b, 9, none⟩), ud, .pointer (some ⟨b, 0, none⟩), .pointer (some ⟨b, 0, none⟩), .pointer (some ⟨b, 10, none⟩), ud, ud], []⟩) := by kernel_rfl
theorem fields_fn0 : (opsFields.getD 3 default).op = .call { callee := .value (.func 89), args := callArgs (opsFields.getD 3 default), argTypes := callTypes (opsFields.getD 3 default) } := by kernel_rfl
theorem fields_fn1 : (opsFields.getD 7 default).op = .call { callee := .value (.func 89), args := callArgs (opsFields.getD 7 default), argTypes := callTypes (opsFields.getD 7 default) } := by kernel_rfl
theorem fields_fn2 : (opsFields.getD 11 default).op = .call { callee := .value (.func 89), args := callArgs (opsFields.getD 11 default), argTypes := callTypes (opsFields.getD 11 default) } := by kernel_rfl
theorem fields_fn3 : (opsFields.getD 15 default).op = .call { callee := .value (.func 89), args := callArgs (opsFields.getD 15 default), argTypes := callTypes (opsFields.getD 15 default) } := by kernel_rfl
theorem fields_fn4 : (opsFields.getD 19 default).op = .call { callee := .value (.func 89), args := callArgs (opsFields.getD 19 default), argTypes := callTypes (opsFields.getD 19 default) } := by kernel_rfl
theorem fields_fn5 : (opsFields.getD 23 default).op = .call { callee := .value (.func 89), args := callArgs (opsFields.getD 23 default), argTypes := callTypes (opsFields.getD 23 default) } := by kernel_rfl
theorem fields_fn6 : (opsFields.getD 27 default).op = .call { callee := .value (.func 89), args := callArgs (opsFields.getD 27 default), argTypes := callTypes (opsFields.getD 27 default) } := by kernel_rfl
theorem fields_fn7 : (opsFields.getD 31 default).op = .call { callee := .value (.func 90), args := callArgs (opsFields.getD 31 default), argTypes := callTypes (opsFields.getD 31 default) } := by kernel_rfl
theorem fields_fn8 : (opsFields.getD 35 default).op = .call { callee := .value (.func 90), args := callArgs (opsFields.getD 35 default), argTypes := callTypes (opsFields.getD 35 default) } := by kernel_rfl
theorem fields_fn9 : (opsFields.getD 39 default).op = .call { callee := .value (.func 89), args := callArgs (opsFields.getD 39 default), argTypes := callTypes (opsFields.getD 39 default) } := by kernel_rfl
theorem fields_fn10 : (opsFields.getD 43 default).op = .call { callee := .value (.func 90), args := callArgs (opsFields.getD 43 default), argTypes := callTypes (opsFields.getD 43 default) } := by kernel_rfl
theorem ent_of : ∀ args w, (callFunc 89 args).run Tryz.prog w = .ok (.enter 89 args) w := enters_of Tryz.func89 (by kernel_rfl) rfl
theorem ent_word : ∀ args w, (callFunc 90 args).run Tryz.prog w = .ok (.enter 90 args) w := enters_of Tryz.func90 (by kernel_rfl) rfl
theorem fields_ok (b : Nat) (w : World) :
    Calls Tryz.prog 64 #[.pointer (some ⟨b, 0, none⟩)] w fun e w' => ∃ g ks, e = .returned (.slice (some ⟨g, 0, none⟩) 11 11) ∧ FieldsAt w' g b ks ∧ g < w'.heap.size ∧ Keeps Nob w w' := by
  go_enter Tryz.func64, Tryz.ntmps64
  go_wp2_with fail
  refine wp_region_noPanic <| region_named (R := opsFields) (by kernel_rfl) <| wp_region_fuel 46 (Array.replicate 46 false) (by kernel_rfl) fields_size rfl <| wpAny_pure' fields_sel (fun _ _ _ _ _ h => h) [0, 1, 2, 4, 5, 6, 8, 9, 10, 12, 13, 14, 16, 17, 18, 20, 21, 22, 24, 25, 26, 28, 29, 30, 32, 33, 34, 36, 37, 38, 40, 41, 42] _ _ _ _ _ 13 46 rfl (fields_pure b) ?_
  refine wpAny_call' (i := 3) (opsFields.getD 3 default) 89 #[.string ⟨#[117, 110, 98, 111, 110, 100, 105, 110, 103]⟩, .int .u64 1, .int .u64 1048576, .pointer (some ⟨b, 0, none⟩)] (by kernel_rfl) (by kernel_rfl) (by kernel_rfl) fields_fn0 (by kernel_rfl) ent_of ((of_ok ⟨#[117, 110, 98, 111, 110, 100, 105, 110, 103]⟩ 1 1048576 ⟨b, 0, none⟩ _).mono ?_)
  rintro e W0 ⟨rfl, c0, s0, k0⟩
  refine ⟨_, rfl, ?_⟩
  obtain ⟨z0, hz0⟩ : ∃ z, z = w.drew.heap.size := ⟨_, rfl⟩
  rw [← hz0] at c0 s0 ⊢
  refine wpAny_call' (i := 7) (opsFields.getD 7 default) 89 #[.string ⟨#[109, 97, 120, 97, 103, 101]⟩, .int .u64 0, .int .u64 1048576, .pointer (some ⟨b, 1, none⟩)] (by kernel_rfl) (by kernel_rfl) (by kernel_rfl) fields_fn1 (by kernel_rfl) ent_of ((of_ok ⟨#[109, 97, 120, 97, 103, 101]⟩ 0 1048576 ⟨b, 1, none⟩ _).mono ?_)
  rintro e W1 ⟨rfl, c1, s1, k1⟩
  refine ⟨_, rfl, ?_⟩
  obtain ⟨z1, hz1⟩ : ∃ z, z = W0.heap.size := ⟨_, rfl⟩
  rw [← hz1] at c1 s1 ⊢
  refine wpAny_call' (i := 11) (opsFields.getD 11 default) 89 #[.string ⟨#[101, 112, 111, 99, 104, 108, 101, 110]⟩, .int .u64 1, .int .u64 1000, .pointer (some ⟨b, 2, none⟩)] (by kernel_rfl) (by kernel_rfl) (by kernel_rfl) fields_fn2 (by kernel_rfl) ent_of ((of_ok ⟨#[101, 112, 111, 99, 104, 108, 101, 110]⟩ 1 1000 ⟨b, 2, none⟩ _).mono ?_)
  rintro e W2 ⟨rfl, c2, s2, k2⟩
  refine ⟨_, rfl, ?_⟩
  obtain ⟨z2, hz2⟩ : ∃ z, z = W1.heap.size := ⟨_, rfl⟩
  rw [← hz2] at c2 s2 ⊢
  refine wpAny_call' (i := 15) (opsFields.getD 15 default) 89 #[.string ⟨#[119, 105, 110, 100, 111, 119]⟩, .int .u64 1, .int .u64 256, .pointer (some ⟨b, 3, none⟩)] (by kernel_rfl) (by kernel_rfl) (by kernel_rfl) fields_fn3 (by kernel_rfl) ent_of ((of_ok ⟨#[119, 105, 110, 100, 111, 119]⟩ 1 256 ⟨b, 3, none⟩ _).mono ?_)
  rintro e W3 ⟨rfl, c3, s3, k3⟩
  refine ⟨_, rfl, ?_⟩
  obtain ⟨z3, hz3⟩ : ∃ z, z = W2.heap.size := ⟨_, rfl⟩
  rw [← hz3] at c3 s3 ⊢
  refine wpAny_call' (i := 19) (opsFields.getD 19 default) 89 #[.string ⟨#[101, 110, 116, 114, 105, 101, 115]⟩, .int .u64 1, .int .u64 16, .pointer (some ⟨b, 4, none⟩)] (by kernel_rfl) (by kernel_rfl) (by kernel_rfl) fields_fn4 (by kernel_rfl) ent_of ((of_ok ⟨#[101, 110, 116, 114, 105, 101, 115]⟩ 1 16 ⟨b, 4, none⟩ _).mono ?_)
  rintro e W4 ⟨rfl, c4, s4, k4⟩
  refine ⟨_, rfl, ?_⟩
  obtain ⟨z4, hz4⟩ : ∃ z, z = W3.heap.size := ⟨_, rfl⟩
  rw [← hz4] at c4 s4 ⊢
  refine wpAny_call' (i := 23) (opsFields.getD 23 default) 89 #[.string ⟨#[109, 97, 120, 97, 99, 116, 105, 118, 101]⟩, .int .u64 1, .int .u64 32, .pointer (some ⟨b, 5, none⟩)] (by kernel_rfl) (by kernel_rfl) (by kernel_rfl) fields_fn5 (by kernel_rfl) ent_of ((of_ok ⟨#[109, 97, 120, 97, 99, 116, 105, 118, 101]⟩ 1 32 ⟨b, 5, none⟩ _).mono ?_)
  rintro e W5 ⟨rfl, c5, s5, k5⟩
  refine ⟨_, rfl, ?_⟩
  obtain ⟨z5, hz5⟩ : ∃ z, z = W4.heap.size := ⟨_, rfl⟩
  rw [← hz5] at c5 s5 ⊢
  refine wpAny_call' (i := 27) (opsFields.getD 27 default) 89 #[.string ⟨#[106, 97, 105, 108, 116, 105, 109, 101]⟩, .int .u64 1, .int .u64 1048576, .pointer (some ⟨b, 6, none⟩)] (by kernel_rfl) (by kernel_rfl) (by kernel_rfl) fields_fn6 (by kernel_rfl) ent_of ((of_ok ⟨#[106, 97, 105, 108, 116, 105, 109, 101]⟩ 1 1048576 ⟨b, 6, none⟩ _).mono ?_)
  rintro e W6 ⟨rfl, c6, s6, k6⟩
  refine ⟨_, rfl, ?_⟩
  obtain ⟨z6, hz6⟩ : ∃ z, z = W5.heap.size := ⟨_, rfl⟩
  rw [← hz6] at c6 s6 ⊢
  refine wpAny_call' (i := 31) (opsFields.getD 31 default) 90 #[.string ⟨#[98, 97, 115, 101]⟩, .int .u64 1000000000, .pointer (some ⟨b, 7, none⟩)] (by kernel_rfl) (by kernel_rfl) (by kernel_rfl) fields_fn7 (by kernel_rfl) ent_word ((word_ok ⟨#[98, 97, 115, 101]⟩ 1000000000 ⟨b, 7, none⟩ _).mono ?_)
  rintro e W7 ⟨rfl, c7, s7, k7⟩
  refine ⟨_, rfl, ?_⟩
  obtain ⟨z7, hz7⟩ : ∃ z, z = W6.heap.size := ⟨_, rfl⟩
  rw [← hz7] at c7 s7 ⊢
  refine wpAny_call' (i := 35) (opsFields.getD 35 default) 90 #[.string ⟨#[109, 117, 108, 116]⟩, .int .u64 1000, .pointer (some ⟨b, 8, none⟩)] (by kernel_rfl) (by kernel_rfl) (by kernel_rfl) fields_fn8 (by kernel_rfl) ent_word ((word_ok ⟨#[109, 117, 108, 116]⟩ 1000 ⟨b, 8, none⟩ _).mono ?_)
  rintro e W8 ⟨rfl, c8, s8, k8⟩
  refine ⟨_, rfl, ?_⟩
  obtain ⟨z8, hz8⟩ : ∃ z, z = W7.heap.size := ⟨_, rfl⟩
  rw [← hz8] at c8 s8 ⊢
  refine wpAny_call' (i := 39) (opsFields.getD 39 default) 89 #[.string ⟨#[99, 111, 114, 114, 119, 105, 110, 100, 111, 119]⟩, .int .u64 1, .int .u64 1048576, .pointer (some ⟨b, 9, none⟩)] (by kernel_rfl) (by kernel_rfl) (by kernel_rfl) fields_fn9 (by kernel_rfl) ent_of ((of_ok ⟨#[99, 111, 114, 114, 119, 105, 110, 100, 111, 119]⟩ 1 1048576 ⟨b, 9, none⟩ _).mono ?_)
  rintro e W9 ⟨rfl, c9, s9, k9⟩
  refine ⟨_, rfl, ?_⟩
  obtain ⟨z9, hz9⟩ : ∃ z, z = W8.heap.size := ⟨_, rfl⟩
  rw [← hz9] at c9 s9 ⊢
  refine wpAny_call' (i := 43) (opsFields.getD 43 default) 90 #[.string ⟨#[114, 101, 119, 97, 114, 100]⟩, .int .u64 1000000000, .pointer (some ⟨b, 10, none⟩)] (by kernel_rfl) (by kernel_rfl) (by kernel_rfl) fields_fn10 (by kernel_rfl) ent_word ((word_ok ⟨#[114, 101, 119, 97, 114, 100]⟩ 1000000000 ⟨b, 10, none⟩ _).mono ?_)
  rintro e W10 ⟨rfl, c10, s10, k10⟩
  refine ⟨_, rfl, ?_⟩
  obtain ⟨z10, hz10⟩ : ∃ z, z = W9.heap.size := ⟨_, rfl⟩
  rw [← hz10] at c10 s10 ⊢
  refine wpAny_run (i := 44) (opsFields.getD 44 default) (.slice (some ⟨W10.heap.size, 0, none⟩) 11 11) (w' := W10.alloc (.cells (fieldCells [z0, z1, z2, z3, z4, z5, z6, z7, z8, z9, z10]) 91)) (by kernel_rfl) (by kernel_rfl) (by kernel_rfl) (by kernel_rfl) <| wpAny_run (i := 45) (opsFields.getD 45 default) (.slice (some ⟨W10.heap.size, 0, none⟩) 11 11) (w' := W10.alloc (.cells (fieldCells [z0, z1, z2, z3, z4, z5, z6, z7, z8, z9, z10]) 91)) (by kernel_rfl) (by kernel_rfl) (by kernel_rfl) (by kernel_rfl) ?_
  refine wpAny_done (by kernel_rfl) ?_ _
  generalize hR : W10.alloc (.cells (fieldCells [z0, z1, z2, z3, z4, z5, z6, z7, z8, z9, z10]) 91) = V at *
  refine NoPanic.normal <| state_eq (b := ⟨#[.pointer (some ⟨b, 0, none⟩), ud, (.slice (some ⟨W10.heap.size, 0, none⟩) 11 11), .pointer (some ⟨b, 0, none⟩), .pointer (some ⟨b, 0, none⟩), .pointer (some ⟨b, 0, none⟩), fieldV (.string ⟨#[117, 110, 98, 111, 110, 100, 105, 110, 103]⟩) 1 1048576 111 112 z0, .pointer (some ⟨b, 0, none⟩), .pointer (some ⟨b, 0, none⟩), .pointer (some ⟨b, 1, none⟩), fieldV (.string ⟨#[109, 97, 120, 97, 103, 101]⟩) 0 1048576 111 112 z1, .pointer (some ⟨b, 0, none⟩), .pointer (some ⟨b, 0, none⟩), .pointer (some ⟨b, 2, none⟩), fieldV (.string ⟨#[101, 112, 111, 99, 104, 108, 101, 110]⟩) 1 1000 111 112 z2, .pointer (some ⟨b, 0, none⟩), .pointer (some ⟨b, 0, none⟩), .pointer (some ⟨b, 3, none⟩), fieldV (.string ⟨#[119, 105, 110, 100, 111, 119]⟩) 1 256 111 112 z3, .pointer (some ⟨b, 0, none⟩), .pointer (some ⟨b, 0, none⟩), .pointer (some ⟨b, 4, none⟩), fieldV (.string ⟨#[101, 110, 116, 114, 105, 101, 115]⟩) 1 16 111 112 z4, .pointer (some ⟨b, 0, none⟩), .pointer (some ⟨b, 0, none⟩), .pointer (some ⟨b, 5, none⟩), fieldV (.string ⟨#[109, 97, 120, 97, 99, 116, 105, 118, 101]⟩) 1 32 111 112 z5, .pointer (some ⟨b, 0, none⟩), .pointer (some ⟨b, 0, none⟩), .pointer (some ⟨b, 6, none⟩), fieldV (.string ⟨#[106, 97, 105, 108, 116, 105, 109, 101]⟩) 1 1048576 111 112 z6, .pointer (some ⟨b, 0, none⟩), .pointer (some ⟨b, 0, none⟩), .pointer (some ⟨b, 7, none⟩), fieldV (.string ⟨#[98, 97, 115, 101]⟩) 0 1000000000 113 114 z7, .pointer (some ⟨b, 0, none⟩), .pointer (some ⟨b, 0, none⟩), .pointer (some ⟨b, 8, none⟩), fieldV (.string ⟨#[109, 117, 108, 116]⟩) 0 1000 113 114 z8, .pointer (some ⟨b, 0, none⟩), .pointer (some ⟨b, 0, none⟩), .pointer (some ⟨b, 9, none⟩), fieldV (.string ⟨#[99, 111, 114, 114, 119, 105, 110, 100, 111, 119]⟩) 1 1048576 111 112 z9, .pointer (some ⟨b, 0, none⟩), .pointer (some ⟨b, 0, none⟩), .pointer (some ⟨b, 10, none⟩), fieldV (.string ⟨#[114, 101, 119, 97, 114, 100]⟩) 0 1000000000 113 114 z10, (.slice (some ⟨W10.heap.size, 0, none⟩) 11 11)], []⟩) (by kernel_rfl) ?_
  have hk : Keeps Nob W10 V := by rw [← hR]; exact (Keeps.refl _ _).alloc _
  have hcl : ∀ j, V.cell? ⟨W10.heap.size, j, none⟩ = (fieldCells [z0, z1, z2, z3, z4, z5, z6, z7, z8, z9, z10])[j]? := fun j => by rw [← hR]; exact World.cell?_alloc_at _ _ _ _ rfl
  have hsz : W10.heap.size < V.heap.size := by rw [← hR]; simp
  have q10 : Keeps Nob W10 V := hk
  have q9 : Keeps Nob W9 V := k10.trans q10
  have q8 : Keeps Nob W8 V := k9.trans q9
  have q7 : Keeps Nob W7 V := k8.trans q8
  have q6 : Keeps Nob W6 V := k7.trans q7
  have q5 : Keeps Nob W5 V := k6.trans q6
  have q4 : Keeps Nob W4 V := k5.trans q5
  have q3 : Keeps Nob W3 V := k4.trans q4
  have q2 : Keeps Nob W2 V := k3.trans q3
  have q1 : Keeps Nob W1 V := k2.trans q2
  have q0 : Keeps Nob W0 V := k1.trans q1
  have hall : Keeps Nob w V := ((Keeps.refl Nob w).drew.trans k0).trans q0
  have d0 := (q0.cell (i := 0) s0 (fun x => x)).trans c0
  have d1 := (q1.cell (i := 0) s1 (fun x => x)).trans c1
  have d2 := (q2.cell (i := 0) s2 (fun x => x)).trans c2
  have d3 := (q3.cell (i := 0) s3 (fun x => x)).trans c3
  have d4 := (q4.cell (i := 0) s4 (fun x => x)).trans c4
  have d5 := (q5.cell (i := 0) s5 (fun x => x)).trans c5
  have d6 := (q6.cell (i := 0) s6 (fun x => x)).trans c6
  have d7 := (q7.cell (i := 0) s7 (fun x => x)).trans c7
  have d8 := (q8.cell (i := 0) s8 (fun x => x)).trans c8
  have d9 := (q9.cell (i := 0) s9 (fun x => x)).trans c9
  have d10 := (q10.cell (i := 0) s10 (fun x => x)).trans c10
  have HF : Hid (FieldsAt V W10.heap.size b (fun i => [z0, z1, z2, z3, z4, z5, z6, z7, z8, z9, z10][i]?.getD 0)) := Lib.hid ⟨fun i j hi hj => (hcl _).trans (fieldCells_get _ _ _ _ _ _ _ _ _ _ _ i j hi hj), fun i hi => by
    have h' : i = 0 ∨ i = 1 ∨ i = 2 ∨ i = 3 ∨ i = 4 ∨ i = 5 ∨ i = 6 ∨ i = 7 ∨ i = 8 ∨ i = 9 ∨ i = 10 := by omega
    rcases h' with rfl | rfl | rfl | rfl | rfl | rfl | rfl | rfl | rfl | rfl | rfl <;> assumption⟩
  clear hcl c0 s0 k0 d0 q0 hz0 c1 s1 k1 d1 q1 hz1 c2 s2 k2 d2 q2 hz2 c3 s3 k3 d3 q3 hz3 c4 s4 k4 d4 q4 hz4 c5 s5 k5 d5 q5 hz5 c6 s6 k6 d6 q6 hz6 c7 s7 k7 d7 q7 hz7 c8 s8 k8 d8 q8 hz8 c9 s9 k9 d9 q9 hz9 c10 s10 k10 d10 q10 hz10 hR
  go_wp2
  go_ret
  exact ⟨_, _, rfl, HF.out, hsz, hall⟩
end Go.Proofs.YtcbfnflnokoacaaGreat
namespace Go.Proofs.YtcbfnflnokoacaaGreat
set_option maxRecDepth 100000
set_option maxHeartbeats 4000000
open Go Go.RowKit Go.Own Go.Shelf
/-- Eleven params. -/
structure Par where
  (unb mage elen win ent act jail base mult corr rew : Int)
def Par.cells (p : Par) : Array Value := #[.int .i64 p.unb, .int .i64 p.mage, .int .i64 p.elen, .int .i64 p.win, .int .i64 p.ent, .int .i64 p.act, .int .i64 p.jail, .int .u64 p.base, .int .u64 p.mult, .int .i64 p.corr, .int .u64 p.rew]
def Par.v (p : Par) : Value := .agg p.cells
def i64ok (x : Int) : Prop := -9223372036854775808 ≤ x ∧ x ≤ 9223372036854775807
def u64ok (x : Int) : Prop := 0 ≤ x ∧ x ≤ 18446744073709551615
structure Par.Ok (p : Par) : Prop where
  unb : i64ok p.unb
  mage : i64ok p.mage
  elen : i64ok p.elen
  win : i64ok p.win
  ent : i64ok p.ent
  act : i64ok p.act
  jail : i64ok p.jail
  base : u64ok p.base
  mult : u64ok p.mult
  corr : i64ok p.corr
  rew : u64ok p.rew
/-- Its numbers, bounds. -/
def Par.l (p : Par) : List Int := [p.unb, p.mage, p.elen, p.win, p.ent, p.act, p.jail, p.base, p.mult, p.corr, p.rew]
def parLo : List Int := [1, 0, 1, 1, 1, 1, 1, 0, 0, 1, 0]
def parHi : List Int := [1048576, 1048576, 1000, 256, 16, 32, 1048576, 1000000000, 1000, 1048576, 1000000000]
def Par.good (p : Par) (i : Nat) : Prop := parLo[i]?.getD 0 ≤ p.l[i]?.getD 0 ∧ p.l[i]?.getD 0 ≤ parHi[i]?.getD 0
instance (p : Par) (i : Nat) : Decidable (p.good i) := by unfold Par.good; infer_instance
/-- What Check tells. -/
def Par.check (p : Par) : Int × Int := match (List.range 11).find? (fun i => decide (¬ p.good i)) with | some i => (3, i) | none => if p.unb < p.mage then (9, 1) else (0, 0)
theorem Par.check_bad (p : Par) (i : Nat) (hi : i < 11) (h : ∀ j, j < i → p.good j) (hb : ¬ p.good i) : p.check = (3, (i : Int)) := by
  have : (List.range 11).find? (fun i => decide (¬ p.good i)) = some i := by
    rw [List.find?_range_eq_some]
    exact ⟨by simpa using hb, by simpa using hi, fun j hj => by simpa using h j hj⟩
  unfold Par.check; rw [this]
theorem Par.check_good (p : Par) (h : ∀ j, j < 11 → p.good j) : p.check = if p.unb < p.mage then (9, 1) else (0, 0) := by
  have : (List.range 11).find? (fun i => decide (¬ p.good i)) = none := by
    rw [List.find?_eq_none]
    intro j hj
    simpa using h j (by simpa using hj)
  unfold Par.check; rw [this]
/-- What the reference's numbers are: words are cut at 1 << 40. -/
def Par.r (p : Par) : List Int := [p.unb, p.mage, p.elen, p.win, p.ent, p.act, p.jail, min p.base 1099511627776, min p.mult 1099511627776, p.corr, min p.rew 1099511627776]
end Go.Proofs.YtcbfnflnokoacaaGreat
namespace Go.Proofs.YtcbfnflnokoacaaGreat
set_option maxRecDepth 100000
set_option maxHeartbeats 4000000
set_option maxRecDepth 100000
open Go Go.RowKit Go.Own Go.Shelf
/-- A field's reader tells its number. -/
theorem get_ok (p : Par) (hp : p.Ok) (i b k : Nat) (hi : i < 11) (V : World) (hbox : V.cell? ⟨k, 0, none⟩ = some (.pointer (some ⟨b, i, none⟩))) (hc : ∀ x, p.cells[i]? = some x → V.cell? ⟨b, i, none⟩ = some x) :
    Calls Tryz.prog (parGet[i]?.getD 0) #[.pointer (some ⟨k, 0, none⟩)] V fun e w' => e = .returned (.tuple #[.int .u64 (max (p.l[i]?.getD 0) 0), .bool (decide (0 ≤ p.l[i]?.getD 0))]) ∧ Keeps Nob V w' := by
  have h' : i = 0 ∨ i = 1 ∨ i = 2 ∨ i = 3 ∨ i = 4 ∨ i = 5 ∨ i = 6 ∨ i = 7 ∨ i = 8 ∨ i = 9 ∨ i = 10 := by omega
  rcases h' with rfl | rfl | rfl | rfl | rfl | rfl | rfl | rfl | rfl | rfl | rfl
  · exact of1_ok k ⟨b, 0, none⟩ p.unb V hbox (hc _ rfl) hp.unb.1 hp.unb.2
  · exact of1_ok k ⟨b, 1, none⟩ p.mage V hbox (hc _ rfl) hp.mage.1 hp.mage.2
  · exact of1_ok k ⟨b, 2, none⟩ p.elen V hbox (hc _ rfl) hp.elen.1 hp.elen.2
  · exact of1_ok k ⟨b, 3, none⟩ p.win V hbox (hc _ rfl) hp.win.1 hp.win.2
  · exact of1_ok k ⟨b, 4, none⟩ p.ent V hbox (hc _ rfl) hp.ent.1 hp.ent.2
  · exact of1_ok k ⟨b, 5, none⟩ p.act V hbox (hc _ rfl) hp.act.1 hp.act.2
  · exact of1_ok k ⟨b, 6, none⟩ p.jail V hbox (hc _ rfl) hp.jail.1 hp.jail.2
  · have h0 := hp.base.1
    have := word1_ok k ⟨b, 7, none⟩ p.base V hbox (hc _ rfl)
    simpa [parGet, Par.l, h0, Int.max_eq_left h0] using this
  · have h0 := hp.mult.1
    have := word1_ok k ⟨b, 8, none⟩ p.mult V hbox (hc _ rfl)
    simpa [parGet, Par.l, h0, Int.max_eq_left h0] using this
  · exact of1_ok k ⟨b, 9, none⟩ p.corr V hbox (hc _ rfl) hp.corr.1 hp.corr.2
  · have h0 := hp.rew.1
    have := word1_ok k ⟨b, 10, none⟩ p.rew V hbox (hc _ rfl)
    simpa [parGet, Par.l, h0, Int.max_eq_left h0] using this
theorem get_enters (i : Nat) (hi : i < 11) : ∀ args w, (callFunc (parGet[i]?.getD 0) args).run Tryz.prog w = .ok (.enter (parGet[i]?.getD 0) args) w := by
  have h' : i = 0 ∨ i = 1 ∨ i = 2 ∨ i = 3 ∨ i = 4 ∨ i = 5 ∨ i = 6 ∨ i = 7 ∨ i = 8 ∨ i = 9 ∨ i = 10 := by omega
  have e1 : ∀ args w, (callFunc 111 args).run Tryz.prog w = .ok (.enter 111 args) w := enters_of Tryz.func111 (by kernel_rfl) rfl
  have e2 : ∀ args w, (callFunc 113 args).run Tryz.prog w = .ok (.enter 113 args) w := enters_of Tryz.func113 (by kernel_rfl) rfl
  rcases h' with rfl | rfl | rfl | rfl | rfl | rfl | rfl | rfl | rfl | rfl | rfl <;> first | exact e1 | exact e2
theorem good_iff (p : Par) (i : Nat) (hi : i < 11) : p.good i ↔ 0 ≤ p.l[i]?.getD 0 ∧ parLoU[i]?.getD 0 ≤ max (p.l[i]?.getD 0) 0 ∧ max (p.l[i]?.getD 0) 0 ≤ parHiU[i]?.getD 0 := by
  have h' : i = 0 ∨ i = 1 ∨ i = 2 ∨ i = 3 ∨ i = 4 ∨ i = 5 ∨ i = 6 ∨ i = 7 ∨ i = 8 ∨ i = 9 ∨ i = 10 := by omega
  rcases h' with rfl | rfl | rfl | rfl | rfl | rfl | rfl | rfl | rfl | rfl | rfl <;> simp [Par.good, Par.l, parLo, parHi, parLoU, parHiU] <;> omega
theorem pCheck_ok (p : Par) (hp : p.Ok) (w : World) :
    Calls Tryz.prog 31 #[p.v] w fun e w' => e = .returned (.tuple #[.int .i64 p.check.1, .int .i64 p.check.2]) ∧ Keeps Nob w w' := by
  obtain ⟨ce, hce⟩ : ∃ c, p.check = c := ⟨_, rfl⟩
  rw [hce]
  have HCE := Lib.hid hce; clear hce
  obtain ⟨cs, hcs⟩ : ∃ cs, p.cells = cs := ⟨_, rfl⟩
  have hv : p.v = .agg cs := by rw [← hcs]; rfl
  rw [hv]
  have hcz : cs.size = 11 := by rw [← hcs]; rfl
  have hc0 : cs[0]? = some (.int .i64 p.unb) := by rw [← hcs]; rfl
  have hc1 : cs[1]? = some (.int .i64 p.mage) := by rw [← hcs]; rfl
  have HCS := Lib.hid hcs
  clear hcs hv
  go_enter Tryz.func31, Tryz.ntmps31
  go_wp2_with (go_at_call 64; refine (fields_ok _ _).mono ?_; rintro e V ⟨g, ks, rfl, hF, hg, hk⟩; have HF := Lib.hid hF; clear hF)
  have hk0 := ((Keeps.refl Nob w).alloc (.cells cs 45)).trans hk
  have hb : w.heap.size < (w.alloc (.cells cs 45)).heap.size := by simp
  have HP : Hid (∀ i x, cs[i]? = some x → V.cell? ⟨w.heap.size, i, none⟩ = some x) := Lib.hid (fun i x hx => (hk.cell (i := i) hb (fun x => x)).trans ((World.cell?_alloc_at _ _ _ _ rfl).trans hx))
  have q0 := HP.out 0 _ hc0
  have q1 := HP.out 1 _ hc1
  have hsz : w.heap.size < V.heap.size := Nat.lt_of_lt_of_le hb hk.size
  clear hk hb hc0 hc1
  go_loopg [10] 11 (fun g i V1 => ∃ k : Nat, k ≤ 11 ∧ g = 11 - k ∧ i = .int .i64 k ∧ Hid (∀ j, j < k → p.good j) ∧ Keeps Nob V V1)
  case atStart => exact ⟨0, by omega, rfl, rfl, Lib.hid (fun j hj => by omega), Keeps.refl _ _⟩
  case round =>
    obtain ⟨k, hk, hgf, rfl, HG, hkp⟩ := hrel
    by_cases hlt : k < 11
    · have hfc : ∀ j v, j < 5 → (parField k (ks k)).cells[j]? = some v → wr.cell? ⟨g, k * 5 + j, none⟩ = some v := fun j v hj hv => (hkp.cell (i := k * 5 + j) hg (fun x => x)).trans ((HF.out.cell k j hlt hj).trans hv)
      have f0 : wr.cell? ⟨g, k * 5, none⟩ = some (.string (parName[k]?.getD ⟨#[]⟩)) := hfc 0 _ (by omega) rfl
      have f1 : wr.cell? ⟨g, k * 5 + 1, none⟩ = some (.int .u64 (parLoU[k]?.getD 0)) := hfc 1 _ (by omega) rfl
      have f2 : wr.cell? ⟨g, k * 5 + 2, none⟩ = some (.int .u64 (parHiU[k]?.getD 0)) := hfc 2 _ (by omega) rfl
      have f3 : wr.cell? ⟨g, k * 5 + 3, none⟩ = some (.func (.func (parGet[k]?.getD 0)) #[] #[.pointer (some ⟨ks k, 0, none⟩)]) := hfc 3 _ (by omega) rfl
      have f4 : wr.cell? ⟨g, k * 5 + 4, none⟩ = some (.func (.func (parSet[k]?.getD 0)) #[] #[.pointer (some ⟨ks k, 0, none⟩)]) := hfc 4 _ (by omega) rfl
      clear hfc
      have hent := get_enters k hlt
      have hks : ks k < V.heap.size := World.block_lt_of_cell? V _ (HF.out.box k hlt)
      have GETH : Hid (∀ W, Keeps Nob V W → Calls Tryz.prog (parGet[k]?.getD 0) #[.pointer (some ⟨ks k, 0, none⟩)] W fun e w' => e = .returned (.tuple #[.int .u64 (max (p.l[k]?.getD 0) 0), .bool (decide (0 ≤ p.l[k]?.getD 0))]) ∧ Keeps Nob W w') :=
        Lib.hid (fun W hW => get_ok p hp k w.heap.size (ks k) hlt W ((hW.cell hks (fun x => x)).trans (HF.out.box k hlt)) (fun x hx => (hW.cell hsz (fun x => x)).trans (HP.out k x (by rw [← HCS.out]; exact hx))))
      have hgi := good_iff p k hlt
      generalize parName[k]?.getD ⟨#[]⟩ = nm at *
      generalize parLoU[k]?.getD 0 = lo at *
      generalize parHiU[k]?.getD 0 = hi at *
      generalize parGet[k]?.getD 0 = gk at *
      generalize parSet[k]?.getD 0 = sk at *
      generalize max (p.l[k]?.getD 0) 0 = x at *
      by_cases h1 : 0 ≤ p.l[k]?.getD 0
      · have hd := decide_eq_true h1
        rw [hd] at GETH
        by_cases h2 : lo ≤ x ∧ x ≤ hi
        · have hw : (decide (lo ≤ x) && decide (x ≤ hi)) = true := by simp; exact h2
          have hgood := hgi.2 ⟨h1, h2⟩
          have HG1 := Lib.hid (fun j hj => (Nat.lt_succ_iff_lt_or_eq.1 hj).elim (HG.out j) (fun e => e ▸ hgood) : ∀ j, j < k + 1 → p.good j)
          have WI := Lib.hid (fun nm f g W => within_ok nm f g lo hi x W)
          rw [hw] at WI
          clear hgi hgood hd h1 h2 hw
          go_wp2_with fail
          refine (GETH.out _ (hkp.alloc _)).mono ?_
          rintro e W1 ⟨rfl, k1⟩
          have c0 := (k1.cell (k := wr.heap.size) (i := 0) (by simp) (fun x => x)).trans ((World.cell?_alloc_at _ _ _ _ rfl).trans rfl)
          have c1 := (k1.cell (k := wr.heap.size) (i := 1) (by simp) (fun x => x)).trans ((World.cell?_alloc_at _ _ _ _ rfl).trans rfl)
          have c2 := (k1.cell (k := wr.heap.size) (i := 2) (by simp) (fun x => x)).trans ((World.cell?_alloc_at _ _ _ _ rfl).trans rfl)
          have c3 := (k1.cell (k := wr.heap.size) (i := 3) (by simp) (fun x => x)).trans ((World.cell?_alloc_at _ _ _ _ rfl).trans rfl)
          have c4 := (k1.cell (k := wr.heap.size) (i := 4) (by simp) (fun x => x)).trans ((World.cell?_alloc_at _ _ _ _ rfl).trans rfl)
          go_wp2_with fail
          refine (WI.out _ _ _ _).mono ?_
          rintro e W2 ⟨rfl, k2⟩
          clear c0 c1 c2 c3 c4
          go_wp2_with fail
          go_roundg (11 - (k + 1))
          case measure => omega
          case rel => exact ⟨k + 1, by omega, rfl, by go_num, HG1, ((hkp.alloc _).trans k1).trans k2⟩
        · have hw : (decide (lo ≤ x) && decide (x ≤ hi)) = false := by
            rw [Bool.and_eq_false_iff]; simp; omega
          obtain rfl : ce = (3, (k : Int)) := HCE.out.symm.trans (p.check_bad k hlt HG.out (fun h => h2 (hgi.1 h).2))
          have WI := Lib.hid (fun nm f g W => within_ok nm f g lo hi x W)
          rw [hw] at WI
          clear hgi hd h1 h2 hw
          go_wp2_with fail
          refine (GETH.out _ (hkp.alloc _)).mono ?_
          rintro e W1 ⟨rfl, k1⟩
          have c0 := (k1.cell (k := wr.heap.size) (i := 0) (by simp) (fun x => x)).trans ((World.cell?_alloc_at _ _ _ _ rfl).trans rfl)
          have c1 := (k1.cell (k := wr.heap.size) (i := 1) (by simp) (fun x => x)).trans ((World.cell?_alloc_at _ _ _ _ rfl).trans rfl)
          have c2 := (k1.cell (k := wr.heap.size) (i := 2) (by simp) (fun x => x)).trans ((World.cell?_alloc_at _ _ _ _ rfl).trans rfl)
          have c3 := (k1.cell (k := wr.heap.size) (i := 3) (by simp) (fun x => x)).trans ((World.cell?_alloc_at _ _ _ _ rfl).trans rfl)
          have c4 := (k1.cell (k := wr.heap.size) (i := 4) (by simp) (fun x => x)).trans ((World.cell?_alloc_at _ _ _ _ rfl).trans rfl)
          go_wp2_with fail
          refine (WI.out _ _ _ _).mono ?_
          rintro e W2 ⟨rfl, k2⟩
          clear c0 c1 c2 c3 c4
          go_wp2_with fail
          go_ret2
          exact ⟨rfl, hk0.trans (((hkp.alloc _).trans k1).trans k2)⟩
      · have hd := decide_eq_false h1
        rw [hd] at GETH
        obtain rfl : ce = (3, (k : Int)) := HCE.out.symm.trans (p.check_bad k hlt HG.out (fun h => h1 (hgi.1 h).1))
        clear hgi hd h1
        go_wp2_with fail
        refine (GETH.out _ (hkp.alloc _)).mono ?_
        rintro e W1 ⟨rfl, k1⟩
        go_wp2_with fail
        go_ret2
        exact ⟨rfl, hk0.trans ((hkp.alloc _).trans k1)⟩
    · have h1 : decide ((k : Int) < 11) = false := by simp; omega
      have hk11 : k = 11 := by omega
      have q0 := (hkp.cell (i := 0) hsz (fun x => x)).trans q0
      have q1 := (hkp.cell (i := 1) hsz (fun x => x)).trans q1
      have hce := HCE.out.symm.trans (p.check_good (fun j hj => HG.out j (by omega)))
      by_cases hm : p.unb < p.mage
      · rw [if_pos hm] at hce
        subst hce
        clear HCE
        go_wp2_with fail
        go_ret2
        exact ⟨rfl, hk0.trans hkp⟩
      · rw [if_neg hm] at hce
        subst hce
        clear HCE
        have hmd : decide (p.unb < p.mage) = false := by simpa using hm
        go_wp2_with fail
        go_ret2
        exact ⟨rfl, hk0.trans hkp⟩
end Go.Proofs.YtcbfnflnokoacaaGreat
namespace Go.Proofs.YtcbfnflnokoacaaGreat
set_option maxRecDepth 100000
set_option maxHeartbeats 4000000
open Go Go.RowKit Go.Own Go.Shelf
end Go.Proofs.YtcbfnflnokoacaaGreat
namespace Go.Own
set_option maxRecDepth 100000
set_option maxHeartbeats 4000000
open Go Go.ChangeShapes Go.WideShapes Go.ChangeAt Go.RowKit Go.WideElems
variable {H : Type} {enc : TypeId × Value → H} {P : Program}
theorem trodAll_stays (hl : laidOutB P = true) {W W' : World} {sp : Nat → Bool} : ∀ (ts : List TypeId) (vs : List Value) (ds : List (DataW H)) (ps : List MemPlace),
    ts.all (fun t => P.readableRec t && decide (t < P.types.size)) = true → DataW.TrodAll enc P W 0 (fun _ => true) true ts vs ds ps → (∀ p ∈ ps, W.sameAt W' p) → (∀ p ∈ ps, sp p.block = true) →
    DataW.TrodAll enc P W' 0 sp true ts vs ds ps
  | [], vs, ds, ps, _, h, _, _ => by
    obtain ⟨rfl, rfl, rfl⟩ := trodAll_nil h
    exact trodAll_mk0
  | t :: ts, vs, ds, ps, hr, h, hs, hsp => by
    obtain ⟨v, vs', d, ds', p, q, rfl, rfl, rfl, h0, r⟩ := trodAll_cons h
    simp only [List.all_cons, Bool.and_eq_true, decide_eq_true_eq] at hr
    exact trodAll_cons_mk (Trod_stays hl hr.1.1 hr.1.2 h0 (fun x hx => hs x (by simp [hx])) (fun x hx => hsp x (by simp [hx])))
      (trodAll_stays hl ts vs' ds' q hr.2 r (fun x hx => hs x (by simp [hx])) (fun x hx => hsp x (by simp [hx])))
theorem law_post {f : Func} {s : ChangeSpec} {W W' : World} {args : Array Value} {ds gs : List (DataW H)} {before : List MemPlace} {tb : TypeId} (hl : laidOutB P = true) (hr : f.params.toList.all (fun t => P.readableRec t && decide (t < P.types.size)) = true)
    (hres : f.resultTypes = #[tb]) (hb : P.underlying tb = some .bool) (hvars : s.vars = []) (hfn : s.fn H (ds ++ gs) = { results := [.lit (.bool true)], args := ds })
    (hW : DataW.Whole enc P f.params.toList s.vars false W args.toList ds gs before) (hB : Below W.heap.size W W') : s.post enc P f false true false false W args (.bool true) W' := by
  have hlt := hW.lt
  have hW0 := hW
  obtain ⟨p, q, hA, hV, rfl, hfz, hnd⟩ := hW
  rw [hvars] at hV
  obtain ⟨rfl, rfl⟩ := trodVars_none hV
  refine ⟨ds, [], p ++ [], [], p, [], hW0, ?_, ?_, ?_, hB.frame _, fun h => by cases h⟩
  · rw [hfn, hres]
    exact trodAll_mk1 (shut_bool hb _)
  · rw [hfn]
    exact trodAll_stays hl _ _ _ _ hr hA (fun x hx => hB.same (hlt x (by simp [hx]))) (fun x hx => by simpa using hlt x (by simp [hx]))
  · rw [hfn, hvars]
    rfl
theorem list_of {α : Type} (Q : Nat → α → Prop) (n : Nat) (h : ∀ i, i < n → ∃ x, Q i x) : ∃ l : List α, l.length = n ∧ ∀ k x, l[k]? = some x → Q k x := by
  induction n with
  | zero => exact ⟨[], rfl, fun k x hk => by simp at hk⟩
  | succ n ih =>
    obtain ⟨l, hl, hq⟩ := ih (fun i hi => h i (by omega))
    obtain ⟨x, hx⟩ := h n (by omega)
    refine ⟨l ++ [x], by simp [hl], fun k y hk => ?_⟩
    rw [List.getElem?_append] at hk
    split at hk
    · exact hq k y hk
    · rename_i hlt
      obtain ⟨hk1, hk2⟩ := List.getElem?_eq_some_iff.1 hk
      have : k = n := by simp at hk1; omega
      subst this
      simp at hk2
      rw [← hk2]; exact hx
/-- One cell of a struct that is read as an integer. -/
theorem field_int {t : TypeId} {k : IntKind} {W : World} {sp : Nat → Bool} {held : Bool} {n off : Nat} {cs : List Value} {y : Option (DataW H × List MemPlace)} {z : DataW H × List MemPlace} (ht : P.underlying t = some (.int k)) (h1 : P.cellsOf t = 1) (h : DataW.trod enc P W 0 sp held n t ((cs.drop off).take (P.cellsOf t)) = y) (hy : y = some z) :
    ∃ q : Int, cs[off]? = some (.int k q) ∧ (Lit.int k q).wf = true := by
  subst hy
  rw [h1] at h
  obtain ⟨q, e1, _, e3⟩ := DataW.trod_int ht h
  refine ⟨q, ?_, e3⟩
  cases hc : cs.drop off with
  | nil => rw [hc] at e1; simp at e1
  | cons c r =>
    rw [hc] at e1
    simp at e1
    have : (cs.drop off)[0]? = some c := by rw [hc]; rfl
    rw [List.getElem?_drop] at this
    rw [show off = off + 0 by omega, this, e1]
/-- A slice of ints that came in. -/
structure IntsAt (w : World) (v : Value) (l : List Int) : Prop where
  len : ∃ a cap, v = .slice a l.length cap
  at_ : ∀ k x, l[k]? = some x → -9223372036854775808 ≤ x ∧ x ≤ 9223372036854775807 ∧ ∃ b o cap, v = .slice (some ⟨b, o, none⟩) l.length cap ∧ b < w.heap.size ∧ w.cell? ⟨b, o + k, none⟩ = some (.int .i64 x)
theorem IntsAt.keeps {w w' : World} {v : Value} {l : List Int} (h : IntsAt w v l) (k : Keeps Nob w w') : IntsAt w' v l :=
  ⟨h.len, fun i x hi => by
    obtain ⟨b1, b2, b, o, cap, e, hb, hc⟩ := h.at_ i x hi
    exact ⟨b1, b2, b, o, cap, e, Nat.lt_of_lt_of_le hb k.size, (k.cell hb (fun x => x)).trans hc⟩⟩
theorem u64_nat {a : Int} (h : (Lit.int .u64 a).wf = true) : ∃ n : Nat, n < 2 ^ 64 ∧ a = (n : Int) := by
  have h1 : 0 ≤ a ∧ a < 18446744073709551616 := by
    simp [Lit.wf, IntKind.min, IntKind.max, IntKind.bits, IntKind.signed] at h
    omega
  exact ⟨a.toNat, by omega, by omega⟩
theorem u8_nat {a : Int} (h : (Lit.int .u8 a).wf = true) : ∃ c : UInt8, a = (c.toNat : Int) := by
  have h1 : 0 ≤ a ∧ a < 256 := by
    simp [Lit.wf, IntKind.min, IntKind.max, IntKind.bits, IntKind.signed] at h
    omega
  exact ⟨UInt8.ofNat a.toNat, by simp; omega⟩
end Go.Own
namespace Go.Proofs.YtcbfnflnokoacaaGreat
set_option maxRecDepth 100000
set_option maxHeartbeats 4000000
open Go Go.RowKit Go.Own Go.Shelf
def hOk (h : Int) : Prop := 1 ≤ h ∧ h ≤ 4294967296
instance (h : Int) : Decidable (hOk h) := by unfold hOk; infer_instance
/-- May params, and heights, be? -/
def Par.fine (p : Par) (l : List Int) : Int := if p.check.1 = 0 then (if l.all (fun h => decide (hOk h)) then 0 else 3) else p.check.1
end Go.Proofs.YtcbfnflnokoacaaGreat
namespace Go.Proofs.YtcbfnflnokoacaaGreat
set_option maxRecDepth 100000
set_option maxHeartbeats 4000000
open Go Go.RowKit Go.Own Go.Shelf
/-- What good params are. -/
theorem Par.bounds (p : Par) (h : p.check.1 = 0) : (1 ≤ p.unb ∧ p.unb ≤ 1048576) ∧ (0 ≤ p.mage ∧ p.mage ≤ 1048576) ∧ (1 ≤ p.elen ∧ p.elen ≤ 1000) ∧ (1 ≤ p.win ∧ p.win ≤ 256) ∧ (1 ≤ p.jail ∧ p.jail ≤ 1048576) ∧ (1 ≤ p.corr ∧ p.corr ≤ 1048576) ∧ p.mage ≤ p.unb := by
  unfold Par.check at h
  split at h
  · simp at h
  · rename_i hn
    rw [List.find?_eq_none] at hn
    have g : ∀ i, i < 11 → p.good i := fun i hi => by simpa using hn i (by simpa using hi)
    have g0 := g 0 (by omega); have g1 := g 1 (by omega); have g2 := g 2 (by omega); have g3 := g 3 (by omega); have g6 := g 6 (by omega); have g9 := g 9 (by omega)
    simp [Par.good, parLo, parHi, Par.l] at g0 g1 g2 g3 g6 g9
    refine ⟨g0, g1, g2, g3, g6, g9, ?_⟩
    split at h
    · simp at h
    · omega
theorem Par.fine_zero (p : Par) (l : List Int) (h : p.fine l = 0) : p.check.1 = 0 ∧ ∀ x ∈ l, hOk x := by
  unfold Par.fine at h
  split at h
  · rename_i hc
    refine ⟨hc, ?_⟩
    split at h
    · rename_i ha
      rw [List.all_eq_true] at ha
      intro x hx; simpa using ha x hx
    · simp at h
  · rename_i hc; exact absurd h hc
end Go.Proofs.YtcbfnflnokoacaaGreat
namespace Go.Proofs.YtcbfnflnokoacaaGreat
set_option maxRecDepth 100000
set_option maxHeartbeats 4000000
open Go Go.RowKit Go.Own Go.Shelf
end Go.Proofs.YtcbfnflnokoacaaGreat
namespace Go.Proofs.YtcbfnflnokoacaaGreat
set_option maxRecDepth 100000
set_option maxHeartbeats 4000000
open Go Go.RowKit Go.Own Go.Shelf
end Go.Proofs.YtcbfnflnokoacaaGreat
namespace Go.Proofs.YtcbfnflnokoacaaGreat
set_option maxRecDepth 100000
set_option maxHeartbeats 4000000
open Go Go.RowKit Go.Own Go.Shelf
def Par.low (p : Par) (h : Int) : Int × Int := if p.fine [h] = 0 then (max 0 ((h - 1) / p.elen - p.win + 1), 0) else (0, p.fine [h])
def Par.first (p : Par) (e : Int) : Int × Int := if p.fine [] = 0 then (if 0 ≤ e ∧ e ≤ 4294967296 ∧ e * p.elen + 1 ≤ 4294967296 then (e * p.elen + 1, 0) else (0, 3)) else (0, p.fine [])
end Go.Proofs.YtcbfnflnokoacaaGreat
namespace Go.Proofs.YtcbfnflnokoacaaGreat
set_option maxRecDepth 100000
set_option maxHeartbeats 4000000
open Go Go.RowKit Go.Own Go.Shelf
theorem ints_none (w : World) : IntsAt w (.slice none 0 0) [] := ⟨⟨_, _, rfl⟩, fun k x hk => by simp at hk⟩
end Go.Proofs.YtcbfnflnokoacaaGreat
namespace Go.Proofs.YtcbfnflnokoacaaGreat
set_option maxRecDepth 100000
set_option maxHeartbeats 4000000
open Go Go.RowKit Go.Own Go.Shelf
def Par.last (p : Par) (e : Int) : Int × Int := if (p.first e).2 = 0 then (min 4294967296 ((e + 1) * p.elen), 0) else (0, (p.first e).2)
end Go.Proofs.YtcbfnflnokoacaaGreat
namespace Go.Proofs.YtcbfnflnokoacaaGreat
set_option maxRecDepth 100000
set_option maxHeartbeats 4000000
open Go Go.RowKit Go.Own Go.Shelf
def errFirst (l : List Int) : Int := (l.find? (fun x => decide (x ≠ 0))).getD 0
theorem errFirst_hit (l : List Int) (k : Nat) (x : Int) (hx : l[k]? = some x) (h0 : x ≠ 0) (h : ∀ j y, j < k → l[j]? = some y → y = 0) : errFirst l = x := by
  unfold errFirst
  have : l.find? (fun x => decide (x ≠ 0)) = some x := by
    rw [List.find?_eq_some_iff_getElem]
    obtain ⟨hk, e⟩ := List.getElem?_eq_some_iff.1 hx
    refine ⟨by simpa using h0, k, hk, e, fun j hj => ?_⟩
    simpa using h j _ hj (List.getElem?_eq_getElem (by omega))
  rw [this]; rfl
theorem errFirst_none (l : List Int) (h : ∀ (j : Nat) y, l[j]? = some y → y = 0) : errFirst l = 0 := by
  unfold errFirst
  have : l.find? (fun x => decide (x ≠ 0)) = none := by
    rw [List.find?_eq_none]
    intro x hx
    obtain ⟨j, hj⟩ := List.getElem?_of_mem hx
    simpa using h j x hj
  rw [this]; rfl
def errOf (h : Int) : Int := if hOk h then 0 else 3
theorem errOf_ok (h : Int) (x : hOk h) : errOf h = 0 := if_pos x
theorem errOf_bad (h : Int) (x : ¬ hOk h) : errOf h = 3 := if_neg x
theorem errFirst_cons (x : Int) (l : List Int) : errFirst (x :: l) = if x = 0 then errFirst l else x := by
  unfold errFirst
  rw [List.find?_cons]
  by_cases h : x = 0
  · simp [h]
  · simp [h]
theorem errFirst_map (l : List Int) : errFirst (l.map errOf) = if l.all (fun h => decide (hOk h)) then 0 else 3 := by
  induction l with
  | nil => rfl
  | cons h t ih =>
    rw [List.map_cons, errFirst_cons, ih]
    by_cases hh : hOk h
    · rw [errOf_ok h hh]; simp [hh]
    · rw [errOf_bad h hh]; simp [hh]
theorem fine_eq (p : Par) (l : List Int) : p.fine l = errFirst (p.check.1 :: l.map errOf) := by
  rw [errFirst_cons, errFirst_map]
  rfl
theorem pfine_ok (h : Int) (w : World) : Calls Tryz.prog 68 #[.int .i64 h] w fun e w' => e = .returned (.int .i64 (errOf h)) ∧ w = w' := by
  by_cases h1 : h < 1
  · have he : errOf h = 3 := errOf_bad h (fun x => by unfold hOk at x; omega)
    rw [he]
    go_enter Tryz.func68, Tryz.ntmps68
    go_wp2
    go_ret
    exact ⟨rfl, rfl⟩
  · have h1d : decide (h < 1) = false := by simpa using h1
    by_cases h2 : 4294967296 < h
    · have he : errOf h = 3 := errOf_bad h (fun x => by unfold hOk at x; omega)
      rw [he]
      go_enter Tryz.func68, Tryz.ntmps68
      go_wp2
      go_ret
      exact ⟨rfl, rfl⟩
    · have h2d : decide (4294967296 < h) = false := by simpa using h2
      have he : errOf h = 0 := errOf_ok h (by unfold hOk; omega)
      rw [he]
      go_enter Tryz.func68, Tryz.ntmps68
      go_wp2
      go_ret
      exact ⟨rfl, rfl⟩
/-- Errors that the call laid itself. -/
def E (l : List Int) : List Value := l.map fun x => .int .i64 x
theorem E_get (l : List Int) (k : Nat) (x : Int) (h : l[k]? = some x) : (E l)[k]? = some (.int .i64 x) := by simp [E, h]
theorem first_ok (v : Value) (l : List Int) (w : World) (hv : Row w 31 1 v l.length (E l)) (hl : l.length ≤ 1000) :
    Calls Tryz.prog 93 #[v] w fun e w' => e = .returned (.int .i64 (errFirst l)) ∧ w = w' := by
  obtain ⟨er, her⟩ : ∃ c, errFirst l = c := ⟨_, rfl⟩
  rw [her]
  have HER := Lib.hid her; clear her
  have hform : ∃ A cap, v = .slice A l.length cap := by
    rcases hv.2 with ⟨rfl, h0⟩ | ⟨g, cap, cur, rfl, _⟩
    · exact ⟨none, 0, by rw [h0]⟩
    · exact ⟨_, _, rfl⟩
  obtain ⟨A, cap, rfl⟩ := hform
  have HV := Lib.hid hv; clear hv
  go_enter Tryz.func93, Tryz.ntmps93
  go_wp2_with fail
  go_loop [7] (fun i => ∃ k : Nat, k ≤ l.length ∧ i = .int .i64 k ∧ Hid (∀ j y, j < k → l[j]? = some y → y = 0)) (fun i => l.length - (intOf i).toNat)
  case atStart => exact ⟨0, Nat.zero_le _, rfl, Lib.hid (fun j y hj => by omega)⟩
  case round =>
    obtain ⟨k, hk, rfl, HK⟩ := hrel
    by_cases hlt : k < l.length
    · obtain ⟨x, hx⟩ : ∃ x, l[k]? = some x := ⟨_, List.getElem?_eq_getElem hlt⟩
      obtain ⟨g, cap', hv, hg⟩ := HV.out.spell (by omega)
      simp only [Value.slice.injEq, true_and] at hv
      obtain ⟨rfl, rfl⟩ := hv
      have c0 : w.cell? ⟨g, k, none⟩ = some (.int .i64 x) := (World.ownsRow.cellAt HV.out k (by omega)).trans (E_get l k x hx)
      have HX := Lib.hid hx
      clear hx
      by_cases h0 : x = 0
      · have hb : (x != 0) = false := by simpa using h0
        have HK1 : Hid (∀ j y, j < k + 1 → l[j]? = some y → y = 0) := Lib.hid (fun j y hj hy => (Nat.lt_succ_iff_lt_or_eq.1 hj).elim (fun h => HK.out j y h hy) (fun e => by subst e; have := HX.out.symm.trans hy; simp at this; omega))
        clear h0
        go_wp2_with fail
        go_round
        case rel => exact ⟨k + 1, by omega, by go_num, HK1⟩
        case measure => simp [intOf]; omega
      · have hb : (x != 0) = true := by simpa using h0
        obtain rfl : er = x := HER.out.symm.trans (errFirst_hit l k x HX.out h0 HK.out)
        go_wp2_with fail
        go_ret
        exact ⟨rfl, rfl⟩
    · have hd : decide ((k : Int) < (l.length : Int)) = false := by simp; omega
      obtain rfl : er = 0 := HER.out.symm.trans (errFirst_none l (fun j y hy => HK.out j y (by have := (List.getElem?_eq_some_iff.1 hy).1; omega) hy))
      go_wp2_with fail
      go_ret
      exact ⟨rfl, rfl⟩
end Go.Proofs.YtcbfnflnokoacaaGreat
namespace Go.Proofs.YtcbfnflnokoacaaGreat
set_option maxRecDepth 100000
set_option maxHeartbeats 4000000
open Go Go.RowKit Go.Own Go.Shelf
noncomputable def opsGood : Array Oper := opsOf Tryz.f67 8
theorem err_info : (Tryz.prog.info? 31).map (fun i => (i.zero, i.size, i.bytes)) = some (some (.int .i64 0), 1, 8) := by kernel_rfl
theorem E_append (l m : List Int) : E (l ++ m) = E l ++ E m := by simp [E]
theorem Row.newE (w : World) (x : Int) : Row (w.alloc (.cells #[.int .i64 x] 31)) 31 1 (.slice (some ⟨w.heap.size, 0, none⟩) 1 1) 1 (E [x]) :=
  ⟨rfl, .inr ⟨_, _, _, rfl, Nat.zero_le _, heap_alloc_new _ _, Nat.le_refl _, by unfold maxLen; omega, rfl, rfl⟩⟩
theorem good_ok (p : Par) (hp : p.Ok) (v : Value) (l : List Int) (w : World) (hl : l.length ≤ 900) (hv : IntsAt w v l) :
    Calls Tryz.prog 67 #[p.v, v] w fun e w' => e = .returned (.tuple #[p.v, .int .i64 (p.fine l)]) ∧ Keeps Nob w w' := by
  obtain ⟨i0, hi, hz0, hz1, hz2⟩ := info_parts err_info
  obtain ⟨a0, cap, rfl⟩ := hv.len
  have HV := Lib.hid hv; clear hv
  have CH := fun V => pCheck_ok p hp V
  obtain ⟨er, her⟩ : ∃ c, p.fine l = c := ⟨_, rfl⟩
  rw [her]
  have HER := Lib.hid ((fine_eq p l).symm.trans her); clear her
  obtain ⟨ce, hce⟩ : ∃ c, p.check.1 = c := ⟨_, rfl⟩
  obtain ⟨ci, hci⟩ : ∃ c, p.check.2 = c := ⟨_, rfl⟩
  rw [hce, hci] at CH
  rw [hce] at HER
  clear hci hce
  have hpv : p.v = .agg p.cells := rfl
  rw [hpv] at CH ⊢
  unfold Par.cells at CH ⊢
  have CHH := Lib.hid CH; clear CH hpv
  go_enter Tryz.func67, Tryz.ntmps67
  go_wp2_with (go_at_call 31; refine (CHH.out _).mono ?_; rintro e V ⟨rfl, hk⟩)
  obtain ⟨W2, hW2⟩ : ∃ W2, ((w.alloc (.cells #[.int .i64 p.unb, .int .i64 p.mage, .int .i64 p.elen, .int .i64 p.win, .int .i64 p.ent, .int .i64 p.act, .int .i64 p.jail, .int .u64 p.base, .int .u64 p.mult, .int .i64 p.corr, .int .u64 p.rew] 45)).alloc (.cells #[.int .i64 0, .int .i64 0, .int .i64 0, .int .i64 0, .int .i64 0, .int .i64 0, .int .i64 0, .int .u64 0, .int .u64 0, .int .i64 0, .int .u64 0] 96)) = W2 := ⟨_, rfl⟩
  rw [hW2] at hk
  have hb1 : W2.heap[w.heap.size]? = some (.cells #[.int .i64 p.unb, .int .i64 p.mage, .int .i64 p.elen, .int .i64 p.win, .int .i64 p.ent, .int .i64 p.act, .int .i64 p.jail, .int .u64 p.base, .int .u64 p.mult, .int .i64 p.corr, .int .u64 p.rew] 45 (0, 0)) := by
    rw [← hW2]; exact (Below.heap_alloc _ _ _ (by simp)).trans (heap_alloc_new _ _)
  have hb2 : W2.heap[w.heap.size + 1]? = some (.cells #[.int .i64 0, .int .i64 0, .int .i64 0, .int .i64 0, .int .i64 0, .int .i64 0, .int .i64 0, .int .u64 0, .int .u64 0, .int .i64 0, .int .u64 0] 96 (0, 0)) := by
    rw [← hW2]; have := heap_alloc_new (w.alloc (.cells #[.int .i64 p.unb, .int .i64 p.mage, .int .i64 p.elen, .int .i64 p.win, .int .i64 p.ent, .int .i64 p.act, .int .i64 p.jail, .int .u64 p.base, .int .u64 p.mult, .int .i64 p.corr, .int .u64 p.rew] 45)) (.cells #[.int .i64 0, .int .i64 0, .int .i64 0, .int .i64 0, .int .i64 0, .int .i64 0, .int .i64 0, .int .u64 0, .int .u64 0, .int .i64 0, .int .u64 0] 96)
    simpa using this
  have hkw : Keeps Nob w W2 := by rw [← hW2]; exact ((Keeps.refl _ _).alloc _).alloc _
  have hs2 : W2.heap.size = w.heap.size + 2 := by rw [← hW2]; simp
  have HB := Lib.hid (And.intro hb1 hb2)
  clear hW2 hb1 hb2
  have hVs := hk.size
  go_loopw [8, 20] (fun v i wr => ∃ k A c, k ≤ l.length ∧ i = .int .i64 k ∧ v = .slice A (k + 1) c ∧ Hid (Row wr 31 1 (.slice A (k + 1) c) (k + 1) (E (ce :: (l.take k).map errOf))) ∧ Hid (∀ j, (Value.slice A (k + 1) c).ownBlock = some j → V.heap.size ≤ j) ∧ Keeps Nob V wr) (fun _ i _ => l.length - (intOf i).toNat)
  case atStart =>
    exact ⟨0, some ⟨V.heap.size, 0, none⟩, 1, Nat.zero_le _, rfl, rfl, Lib.hid (Row.newE V ce), Lib.hid (fun j hj => by simp [Value.ownBlock] at hj; omega), (Keeps.refl _ _).alloc _⟩
  case round =>
    obtain ⟨k, A, c, hkl, rfl, rfl, HR, HN, hkp⟩ := hrel
    by_cases hlt : k < l.length
    · obtain ⟨x, hx⟩ : ∃ x, l[k]? = some x := ⟨l[k], List.getElem?_eq_getElem hlt⟩
      obtain ⟨bx1, bx2, bl, ol, cl, hvl, hbl, q0⟩ := HV.out.at_ k _ hx
      simp only [Value.slice.injEq, true_and] at hvl
      obtain ⟨rfl, rfl⟩ := hvl
      have p0 := ((hkw.trans (hk.trans hkp)).cell hbl (fun x => x)).trans q0
      have HT : Hid (l.take (k + 1) = l.take k ++ [x]) := Lib.hid (by rw [List.take_add_one, hx]; rfl)
      clear q0 hx
      have hown := HR.out.keeps ((Keeps.refl Nob wr).alloc (.cells #[.int .i64 (errOf x)] 31)) (fun _ _ x => x)
      have hsrc := Src.new wr 1 1 [.int .i64 (errOf x)] 31 rfl (by simp [Value.oneCell']) 1
      have HO := Lib.hid hown
      have HS := Lib.hid hsrc
      clear hown hsrc
      go_wp2_with (first
        | (go_at_call 68; refine (pfine_ok x _).mono ?_; rintro e w' ⟨rfl, rfl⟩)
        | (at_builtin; refine own_append2 rfl _ _ 133 rfl 31 i0 (.int .i64 0) 1 8 Tryz.underlying133 hi hz0 hz1 hz2 rfl (by decide) (.slice A (k + 1) c) (k + 1) _ rfl HO.out (.slice (some ⟨wr.heap.size, 0, none⟩) 1 1) 1 _ rfl HS.out (by unfold maxLen; omega) (by omega) ?_; intro v' w1 hown' hgrow hnil hat; obtain ⟨g', cap', rfl, hg'⟩ := hown'.spell (by omega); have HW := Lib.hid hown'; have HT2 := Lib.hid hat; have HGr := Lib.hid hgrow; clear hown' hat hgrow hnil))
      go_roundw
      case rel =>
        refine ⟨k + 1, some ⟨g', 0, none⟩, cap', by omega, by go_num, rfl, Lib.hid ?_, Lib.hid (fun j hj => ?_), ?_⟩
        · rw [HT.out, List.map_append, ← List.cons_append, E_append]; exact HW.out
        · rcases HT2.out j hj with h | ⟨h, _⟩
          · exact HN.out j h
          · have := hkp.size; simp at h; omega
        · exact (hkp.alloc _).grown HGr.out (fun j hj hlt => by have := HN.out j hj; omega)
      case measure => simp [intOf]; omega
    · have hd : decide ((k : Int) < (l.length : Int)) = false := by simp; omega
      have hkk : k = l.length := by omega
      have hR := HR.out
      have hn1 : (ce :: (l.take k).map errOf).length = k + 1 := by simp; omega
      rw [← hn1] at hR
      have FO := fun W hW => first_ok _ _ W (hR.keeps (w' := W) hW (fun _ _ x => x)) (by rw [hn1]; omega)
      rw [hn1, show (l.take k) = l by rw [hkk]; exact List.take_of_length_le (Nat.le_refl _), HER.out] at FO
      have FOH := Lib.hid FO
      obtain ⟨hb1, hb2⟩ := HB.out
      have kV2 := hk.trans hkp
      have e1 := (kV2.block w.heap.size (by omega) (fun x => x)).trans hb1
      have e2 := (kV2.block (w.heap.size + 1) (by omega) (fun x => x)).trans hb2
      clear FO hR hn1 hb1 hb2
      go_wp2_with fail
      refine wp_region_noPanic <| region_named (R := opsGood) (by kernel_rfl) <| wp_regionH_fuel (fun W => W.heap[w.heap.size]? = some (.cells p.cells 45 (0, 0))) 6 #[false, false, false, false, false, false] (by kernel_rfl) (by kernel_rfl) rfl <| wpAnyH_val (i := 0) (opsGood.getD 0 default) (.agg p.cells) (by kernel_rfl) (fun _ _ _ _ _ h => h) (by kernel_rfl) (by kernel_rfl) (by kernel_rfl) (by kernel_rfl) (fun W hW => exec_load_row 45 (.tmp 2) (by kernel_rfl) w.heap.size (by kernel_rfl) 45 p.cells (0, 0) _ hW Tryz.underlying45 rfl (by kernel_rfl)) e1 <| wpAnyH_val (i := 1) (opsGood.getD 1 default) (.agg p.cells) (by kernel_rfl) (fun _ _ _ _ _ h => h) (by kernel_rfl) (by kernel_rfl) (by kernel_rfl) (by kernel_rfl) (fun W hW => by kernel_rfl) e1 <| wpAnyH_val (i := 2) (opsGood.getD 2 default) (.slice A (k + 1) c) (by kernel_rfl) (fun _ _ _ _ _ h => h) (by kernel_rfl) (by kernel_rfl) (by kernel_rfl) (by kernel_rfl) (fun W hW => by kernel_rfl) e1 ?_
      refine wpAnyH_call (i := 3) (opsGood.getD 3 default) 93 #[.slice A (k + 1) c] (by kernel_rfl) (by kernel_rfl) (by kernel_rfl) (by kernel_rfl) (by kernel_rfl) (enters_of Tryz.func93 (by kernel_rfl) rfl) ((FOH.out _ ((Keeps.refl _ _).drew)).mono ?_)
      rintro e w' ⟨rfl, rfl⟩
      refine ⟨_, rfl, e1, ?_⟩
      have eS : (wr.drew.setRow (w.heap.size + 1) p.cells).heap[w.heap.size]? = some (.cells p.cells 45 (0, 0)) := (setRow_other wr.drew (w.heap.size + 1) w.heap.size p.cells (by omega)).trans e1
      refine wpAnyH_run (i := 4) (opsGood.getD 4 default) undef (w' := wr.drew.setRow (w.heap.size + 1) p.cells) (by kernel_rfl) (by kernel_rfl) (by kernel_rfl) (.inr ⟨exec_store_row 96 (.tmp 4) (.tmp 31) (by kernel_rfl) (w.heap.size + 1) p.cells (by kernel_rfl) (by kernel_rfl) 96 _ e2 (by kernel_rfl) rfl (by kernel_rfl), rfl⟩) eS <| wpAnyH_run (i := 5) (opsGood.getD 5 default) (.int .i64 er) (w' := wr.drew.setRow (w.heap.size + 1) p.cells) (by kernel_rfl) (by kernel_rfl) (by kernel_rfl) (.inl (by kernel_rfl)) eS ?_
      refine wpAnyH_done (by kernel_rfl) ?_ _
      refine NoPanic.normal ?_
      refine state_eq (b := ⟨#[.agg p.cells, .slice a0 l.length cap, .pointer (some ⟨w.heap.size, 0, none⟩), undef, .pointer (some ⟨w.heap.size + 1, 0, none⟩), .int .i64 er, .int .i64 ce, .int .i64 ci, .slice A (k + 1) c, undef, u10,
        .tuple #[.int .i64 ce, .int .i64 ci], .agg p.cells, .tuple #[.int .i64 ce, .int .i64 ci], .int .i64 ce, .int .i64 ci, .int .i64 ce, .slice (some ⟨V.heap.size, 0, none⟩) 1 1, .slice a0 l.length cap, .int .i64 l.length, .int .i64 k, .bool false, u22, u23, u24, u25, u26, u27, u28, u29,
        .agg p.cells, .agg p.cells, .slice A (k + 1) c, .int .i64 er], []⟩) (by kernel_rfl) ?_
      have eR : (wr.drew.setRow (w.heap.size + 1) p.cells).heap[w.heap.size + 1]? = some (.cells p.cells 96 (0, 0)) := setRow_heap _ _ _ _ _ _ e2
      have hfin : Keeps Nob w (wr.drew.setRow (w.heap.size + 1) p.cells) := ((hkw.trans kV2).drew).setRow (fun x => absurd x (by omega)) _
      generalize wr.drew.setRow (w.heap.size + 1) p.cells = WF at *
      have eld := fun (t : TypeId) => run_loadVar_row (P := Tryz.prog) WF (w.heap.size + 1) 96 96 p.cells (0, 0) _ eR Tryz.underlying96 rfl (by kernel_rfl)
      go_wp2
      refine bodyPost_ret (v := .tuple #[.agg p.cells, .int .i64 er]) ?_ rfl ⟨rfl, hfin⟩
      simp [results, Tryz.results67, asAddr, eld 0]
end Go.Proofs.YtcbfnflnokoacaaGreat
namespace Go.Proofs.YtcbfnflnokoacaaGreat
set_option maxRecDepth 100000
set_option maxHeartbeats 4000000
open Go Go.RowKit Go.Own Go.Shelf
end Go.Proofs.YtcbfnflnokoacaaGreat
namespace Go.Proofs.YtcbfnflnokoacaaGreat
set_option maxRecDepth 100000
set_option maxHeartbeats 4000000
open Go Go.RowKit Go.Own Go.Shelf
end Go.Proofs.YtcbfnflnokoacaaGreat
namespace Go.Proofs.YtcbfnflnokoacaaGreat
set_option maxRecDepth 100000
set_option maxHeartbeats 4000000
open Go Go.RowKit Go.Own Go.Shelf
theorem pFirst_ok (p : Par) (hp : p.Ok) (e : Int) (he : i64ok e) (w : World) :
    Calls Tryz.prog 34 #[p.v, .int .i64 e] w fun x w' => x = .returned (.tuple #[.int .i64 (p.first e).1, .int .i64 (p.first e).2]) ∧ Keeps Nob w w' := by
  have FN := fun V v hv => good_ok p hp v [] V (by simp) hv
  have hb := fun hc => p.bounds (p.fine_zero [] hc).1
  unfold Par.first
  generalize p.fine [] = er at *
  have hpv : p.v = .agg p.cells := rfl
  rw [hpv] at FN ⊢
  unfold Par.cells at FN ⊢
  have FH := Lib.hid FN; clear FN hpv
  obtain ⟨he1, he2⟩ := he
  by_cases hc : er = 0
  · subst hc
    obtain ⟨_, _, ⟨x5, x6⟩, _⟩ := hb rfl
    clear hb
    rw [if_pos rfl]
    by_cases k1 : e < 0
    · rw [if_neg (by omega)]
      go_enter Tryz.func34, Tryz.ntmps34
      go_wp2_with (go_at_call 67; refine (FH.out _ _ (ints_none _)).mono ?_; rintro x V ⟨rfl, hk⟩)
      go_ret2
      exact ⟨rfl, (((Keeps.refl Nob w).alloc _).trans hk).alloc _⟩
    · have k1d : decide (e < 0) = false := by simpa using k1
      by_cases k2 : 4294967296 < e
      · rw [if_neg (by omega)]
        go_enter Tryz.func34, Tryz.ntmps34
        go_wp2_with (go_at_call 67; refine (FH.out _ _ (ints_none _)).mono ?_; rintro x V ⟨rfl, hk⟩)
        go_ret2
        exact ⟨rfl, (((Keeps.refl Nob w).alloc _).trans hk).alloc _⟩
      · have k2d : decide (4294967296 < e) = false := by simpa using k2
        have m1 : 0 ≤ e * p.elen := Int.mul_nonneg (by omega) (by omega)
        have m2 : e * p.elen ≤ 4294967296000 := by have := Int.mul_le_mul (show e ≤ 4294967296 by omega) x6 (by omega) (by omega); omega
        by_cases k3 : e * p.elen + 1 ≤ 4294967296
        · rw [if_pos ⟨by omega, by omega, k3⟩]
          have hf := fun W => pfine_ok (e * p.elen + 1) W
          rw [errOf_ok _ (by unfold hOk; omega)] at hf
          have HF := Lib.hid hf; clear hf
          go_enter Tryz.func34, Tryz.ntmps34
          go_wp2_with (first
            | (go_at_call 67; refine (FH.out _ _ (ints_none _)).mono ?_; rintro x V ⟨rfl, hk⟩)
            | (go_at_call 68; refine (HF.out _).mono ?_; rintro e w' ⟨rfl, rfl⟩))
          go_ret2
          exact ⟨rfl, (((Keeps.refl Nob w).alloc _).trans hk).alloc _⟩
        · rw [if_neg (by omega)]
          have hf := fun W => pfine_ok (e * p.elen + 1) W
          rw [errOf_bad _ (by unfold hOk; omega)] at hf
          have HF := Lib.hid hf; clear hf
          go_enter Tryz.func34, Tryz.ntmps34
          go_wp2_with (first
            | (go_at_call 67; refine (FH.out _ _ (ints_none _)).mono ?_; rintro x V ⟨rfl, hk⟩)
            | (go_at_call 68; refine (HF.out _).mono ?_; rintro e w' ⟨rfl, rfl⟩))
          go_ret2
          exact ⟨rfl, (((Keeps.refl Nob w).alloc _).trans hk).alloc _⟩
  · have hcd : (er != 0) = true := by simpa using hc
    rw [if_neg hc]
    clear hb
    go_enter Tryz.func34, Tryz.ntmps34
    go_wp2_with (go_at_call 67; refine (FH.out _ _ (ints_none _)).mono ?_; rintro x V ⟨rfl, hk⟩)
    go_ret2
    exact ⟨rfl, (((Keeps.refl Nob w).alloc _).trans hk).alloc _⟩
end Go.Proofs.YtcbfnflnokoacaaGreat
namespace Go.Own
set_option maxRecDepth 100000
set_option maxHeartbeats 4000000
open Go Go.RowKit Go.Shelf
section
variable {P : Program} {Q : Exit → Act → World → Prop} {a : Act} {w : World} {ops : Array Oper} {i : Nat} {S : World → Prop} {fuel : Nat} {l : Array Bool}
end
/-! A function that yields. -/
section
variable {P : Program} {Q : Exit → Act → World → Prop} {a : Act} {w : World} {ops : Array Oper} {i n : Nat} {rest : List Nat} {c : Code}
end
/-! Slices of elements of s cells each. -/
section
variable {P : Program} {o : Oper} {ρ : Operand → Value} {w : World}
def cutW (A : Option Addr) (n cap s k : Nat) : Value := .slice (if cap = k then A else A.map (·.add (k * s))) (n - k) (cap - k)
end
/-! What a step leaves of all that is no cells. -/
/-- A slice of elements x of s cells each, 'c x'. -/
structure Sl {α : Type} (w : World) (s : Nat) (c : α → List Value) (v : Value) (xs : List α) : Prop where
  form : ∃ A cap, v = .slice A xs.length cap ∧ xs.length ≤ cap ∧ cap ≤ maxLen ∧ (A = none → cap = 0)
  at_ : ∀ (k : Nat) (x : α), xs[k]? = some x → ∃ b o cap, v = .slice (some ⟨b, o, none⟩) xs.length cap ∧ b < w.heap.size ∧ ∀ (j : Nat) (u : Value), (c x)[j]? = some u → w.cell? ⟨b, o + k * s + j, none⟩ = some u
section
variable {α : Type} {w w' : World} {M : Nat → Prop} {s : Nat} {c : α → List Value} {v : Value} {xs : List α}
theorem Sl.keeps (h : Sl w s c v xs) (k : Keeps M w w') (hm : ∀ j, v.ownBlock = some j → j < w.heap.size → ¬ M j) : Sl w' s c v xs :=
  ⟨h.form, fun i x hi => by
    obtain ⟨b, o, cap, e, hb, hc⟩ := h.at_ i x hi
    exact ⟨b, o, cap, e, Nat.lt_of_lt_of_le hb k.size, fun j u hj => (k.cell hb (hm b (by rw [e]; rfl) hb)).trans (hc j u hj)⟩⟩
theorem Sl.keepsN (h : Sl w s c v xs) (k : Keeps Nob w w') : Sl w' s c v xs := h.keeps k (fun _ _ _ x => x)
/-- Below 'w0' nothing is turned. -/
theorem Sl.keepsB {w0 : World} (h0 : Sl w0 s c v xs) (h : Sl w s c v xs) (k : Keeps M w w') (hm : ∀ j, M j → w0.heap.size ≤ j) : Sl w' s c v xs :=
  ⟨h.form, fun i x hi => by
    obtain ⟨b, o, cap, e, hb, hc⟩ := h.at_ i x hi
    obtain ⟨b0, o0, cap0, e0, hb0, _⟩ := h0.at_ i x hi
    rw [e] at e0
    simp only [Value.slice.injEq, Option.some.injEq, Addr.mk.injEq] at e0
    obtain ⟨⟨rfl, _⟩, _⟩ := e0
    exact ⟨b, o, cap, e, Nat.lt_of_lt_of_le hb k.size, fun j u hj => (k.cell hb (fun x => by have := hm _ x; omega)).trans (hc j u hj)⟩⟩
theorem Sl.nil (w : World) (s : Nat) (c : α → List Value) : Sl w s c (.slice none 0 0) [] := ⟨⟨none, 0, rfl, Nat.le_refl _, by simp [maxLen], fun _ => rfl⟩, fun k x h => by simp at h⟩
theorem Sl.len_le (h : Sl w s c v xs) : xs.length ≤ 9223372036854775807 := by
  obtain ⟨A, cap, e, h1, h2, _⟩ := h.form
  unfold maxLen at h2; omega
theorem flat_get (hc : ∀ x ∈ xs, (c x).length = s) (k : Nat) (x : α) (hx : xs[k]? = some x) (j : Nat) (u : Value) (hj : (c x)[j]? = some u) : (xs.flatMap c)[k * s + j]? = some u := by
  induction xs generalizing k with
  | nil => simp at hx
  | cons y r ih =>
    rw [List.flatMap_cons]
    have hy := hc y (by simp)
    cases k with
    | zero =>
      simp only [List.getElem?_cons_zero, Option.some.injEq] at hx; subst hx
      rw [Nat.zero_mul, Nat.zero_add, List.getElem?_append_left (List.getElem?_eq_some_iff.1 hj).1]; exact hj
    | succ k =>
      rw [List.getElem?_append_right (by rw [hy, Nat.succ_mul]; omega), hy, show (k + 1) * s + j - s = k * s + j by rw [Nat.succ_mul]; omega]
      exact ih (fun z hz => hc z (by simp [hz])) k (by simpa using hx)
theorem flat_len (hc : ∀ x ∈ xs, (c x).length = s) : (xs.flatMap c).length = xs.length * s := by
  induction xs with
  | nil => simp
  | cons y r ih =>
    rw [List.flatMap_cons, List.length_append, ih (fun z hz => hc z (by simp [hz])), hc y (by simp), List.length_cons, Nat.succ_mul]; omega
theorem mem_flat {c : α → List Value} {xs : List α} {u : Value} (h : u ∈ xs.flatMap c) : ∃ x ∈ xs, u ∈ c x := by simpa using h
theorem Sl.src (h : Sl w s c v xs) (hc : ∀ x ∈ xs, (c x).length = s) (hs : 0 < s) (h1 : ∀ x ∈ xs, ∀ u ∈ c x, u.oneCell' = true) : Src w s v xs.length (xs.flatMap c) := by
  refine ⟨flat_len hc, fun u hu => let ⟨x, hx, hu⟩ := mem_flat hu; h1 x hx u hu, ?_⟩
  obtain ⟨A, cap, rfl, h2, h3, h4⟩ := h.form
  cases A with
  | none => have := h4 rfl; exact .inl ⟨by rw [this] at h2 ⊢; rw [Nat.le_zero.1 h2], by omega⟩
  | some ad =>
    refine .inr ⟨ad, cap, rfl, fun j u hj => ?_⟩
    have hj2 : j < xs.length * s := by rw [← flat_len hc]; exact (List.getElem?_eq_some_iff.1 hj).1
    have hk : j / s < xs.length := Nat.div_lt_of_lt_mul (by rw [Nat.mul_comm]; exact hj2)
    obtain ⟨b, o, cap', e, _, hcell⟩ := h.at_ (j / s) xs[j / s] (List.getElem?_eq_getElem hk)
    simp only [Value.slice.injEq, Option.some.injEq, true_and] at e
    obtain ⟨rfl, _⟩ := e
    have hl := hc xs[j / s] (List.getElem_mem hk)
    have hm : j % s < (c xs[j / s]).length := by rw [hl]; exact Nat.mod_lt _ hs
    have e2 := flat_get hc (j / s) xs[j / s] (List.getElem?_eq_getElem hk) (j % s) _ (List.getElem?_eq_getElem hm)
    have hd : j / s * s + j % s = j := by rw [Nat.mul_comm]; exact Nat.div_add_mod j s
    rw [hd, hj] at e2
    have := hcell (j % s) u (by rw [List.getElem?_eq_getElem hm]; exact e2.symm)
    rw [show o + j / s * s + j % s = o + j by omega] at this
    simpa [Addr.add_lit] using this
theorem Sl.take (h : Sl w s c v xs) (k : Nat) (hk : k ≤ xs.length) : ∀ A n cap, v = .slice A n cap → Sl w s c (.slice A k cap) (xs.take k) := by
  rintro A n cap rfl
  obtain ⟨A', cap', e, h2, h3, h4⟩ := h.form
  simp only [Value.slice.injEq] at e
  obtain ⟨rfl, rfl, rfl⟩ := e
  have hl : (xs.take k).length = k := by simp; omega
  refine ⟨⟨_, _, by rw [hl], by omega, h3, h4⟩, fun i x hi => ?_⟩
  have hik : i < k := by have := (List.getElem?_eq_some_iff.1 hi).1; omega
  rw [List.getElem?_take_of_lt hik] at hi
  obtain ⟨b, o, cap'', e, hb, hcell⟩ := h.at_ i x hi
  simp only [Value.slice.injEq, true_and] at e
  obtain ⟨rfl, rfl⟩ := e
  exact ⟨b, o, _, by rw [hl], hb, hcell⟩
theorem Sl.drop (h : Sl w s c v xs) (k : Nat) (hk : k ≤ xs.length) : ∀ A n cap, v = .slice A n cap → Sl w s c (cutW A n cap s k) (xs.drop k) := by
  rintro A n cap rfl
  obtain ⟨A', cap', e, h2, h3, h4⟩ := h.form
  simp only [Value.slice.injEq] at e
  obtain ⟨rfl, rfl, rfl⟩ := e
  unfold cutW
  refine ⟨⟨_, _, by rw [List.length_drop], by rw [List.length_drop]; omega, by omega, fun hn => ?_⟩, fun i x hi => ?_⟩
  · split at hn
    · omega
    · cases A with
      | none => have := h4 rfl; omega
      | some a => cases hn
  · rw [List.getElem?_drop] at hi
    have hlt := (List.getElem?_eq_some_iff.1 hi).1
    obtain ⟨b, o, cap'', e, hb, hcell⟩ := h.at_ (k + i) x hi
    simp only [Value.slice.injEq, true_and] at e
    obtain ⟨rfl, rfl⟩ := e
    rw [if_neg (by omega)]
    refine ⟨b, o + k * s, cap - k, by rw [List.length_drop]; simp [Addr.add], hb, fun j u hj => ?_⟩
    have := hcell j u hj
    rwa [show o + (k + i) * s + j = o + k * s + i * s + j by rw [Nat.add_mul]; omega] at this
end
end Go.Own
namespace Go.Proofs.YtcbfnflnokoacaaGreat
set_option maxRecDepth 100000
set_option maxHeartbeats 4000000
open Go Go.RowKit Go.Own Go.Shelf
theorem _root_.Go.Own.Sl.cell {α : Type} {w : World} {s : Nat} {c : α → List Value} {v : Value} {xs : List α} (h : Sl w s c v xs) {k : Nat} {x : α} (hx : xs[k]? = some x) {b o n cap : Nat} (hv : v = .slice (some ⟨b, o, none⟩) n cap) {j : Nat} {u : Value} (hu : (c x)[j]? = some u) :
    w.cell? ⟨b, o + k * s + j, none⟩ = some u := by
  obtain ⟨b2, o2, cap2, e, _, hc⟩ := h.at_ k x hx
  rw [hv] at e
  simp only [Value.slice.injEq, Option.some.injEq, Addr.mk.injEq, and_true] at e
  obtain ⟨⟨rfl, rfl⟩, _⟩ := e
  exact hc j u hu
theorem _root_.Go.Own.Sl.range {α : Type} {w : World} {s : Nat} {c : α → List Value} {v : Value} {xs : List α} (h : Sl w s c v xs) {k : Nat} {x : α} (hx : xs[k]? = some x) {b o n cap : Nat} (hv : v = .slice (some ⟨b, o, none⟩) n cap) : w.rangeAt b (o + k * s) (c x) := fun j u hu => h.cell hx hv hu
theorem exec_len_sl {P : Program} {o : Oper} {ρ : Operand → Value} {w w0 : World} (x : Operand) (t e : TypeId) (ho : o.op = .call { callee := .builtin .len, args := #[x], argTypes := #[t] }) (ht : P.underlying t = some (.slice e)) {v : Value} (hx : ρ x = v) {α : Type} {s : Nat} {c : α → List Value} {xs : List α} (hv : Sl w0 s c v xs) :
    (execOp ρ o).run P w = .ok (.value (.int .i64 (xs.length : Int))) w := by
  obtain ⟨A, cap, rfl, _⟩ := hv.form
  exact exec_len x t e ho ht A xs.length cap hx
end Go.Proofs.YtcbfnflnokoacaaGreat
