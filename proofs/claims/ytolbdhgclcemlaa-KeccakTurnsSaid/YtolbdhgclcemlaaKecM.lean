/-
  Keccak: a bit turned (printed by kec9.py). Conditions: none.
-/
import Derived.Test.YtolbdhgclcemlaaKecL
namespace Go.Proofs.Ytolbdhgclcemlaa
open Go Go.RowKit Go.Own Go.Shelf

noncomputable def part_KeccakTurns (n : Nat) : Code := partOf Try.f8 n
set_option maxRecDepth 100000 in
set_option maxHeartbeats 4000000 in
theorem turns_ok (s u : List Nat) (x : Int) (hx : -9223372036854775808 ≤ x ∧ x ≤ 9223372036854775807) (w : World) (hs : s.length = 25) (ws : Kec.Ws s) (hu : u.length = 25) (wu : Kec.Ws u) :
    Calls Try.prog 8 #[.agg (Wz s), .agg (Wz u), .int .i64 x] w (fun e w' => e = .returned (.bool true) ∧ Keeps Nob w w') := by
  have K0 : Keeps Nob w w := Keeps.refl _ _
  refine sy_enter (part_KeccakTurns 1) ⟨#[.agg (Wz s), .agg (Wz u), .int .i64 x, undef, undef, undef, undef, undef, undef, undef, undef, undef, undef, undef, undef, undef, undef, undef, undef, undef, undef, undef, undef, undef, undef, undef, undef, undef, undef, undef, undef, undef, undef, undef, undef, undef, undef, undef, undef, undef, undef, undef, undef, undef, undef, undef, undef, undef, undef, undef], []⟩ Try.func8 (by kernel_rfl) (by kernel_rfl) ?_
  refine sy_seq (part_KeccakTurns 2) (part_KeccakTurns 3) (by kernel_rfl) ?_
  refine sy_reg ?_
  refine rg_plain 0 (opsAt (part_KeccakTurns 2)) [0, 1, 2] (by kernel_rfl) (by kernel_rfl) ?_
  obtain ⟨V1, eV1⟩ : ∃ V, w.alloc (.cells ((Wz s)) 46) = V := ⟨_, rfl⟩
  obtain ⟨gs, egs⟩ : ∃ g, w.heap.size = g := ⟨_, rfl⟩
  have n3 : w.heap.size ≤ gs := egs ▸ K0.size
  have h2 : V1.heap[gs]? = some (.cells ((Wz s)) 46 (0, 0)) := by rw [← eV1, ← egs]; exact heap_alloc_new _ _
  have kV1 : Keeps Nob w V1 := eV1 ▸ (Keeps.refl _ _).alloc _
  refine ps_run ((opsAt (part_KeccakTurns 2)).getD 0 default) (.pointer (some ⟨gs, 0, none⟩)) (w' := V1) (by kernel_rfl) (by kernel_rfl) (by rw [← eV1, ← egs]; exact exec_box 46 (.tmp 0) (by kernel_rfl) (.agg (Wz s)) (by kernel_rfl)) ?_
  clear eV1
  have K4 : Keeps Nob w V1 := K0.then kV1 (fun _ _ x => x.elim)
  have z5 := kV1.size
  obtain ⟨V6, eV6⟩ : ∃ V, V1.alloc (.cells ((Wz u)) 46) = V := ⟨_, rfl⟩
  obtain ⟨gu, egu⟩ : ∃ g, V1.heap.size = g := ⟨_, rfl⟩
  have n8 : gs < gu := egu ▸ lt_of_block h2
  have n9 : w.heap.size ≤ gu := egu ▸ K4.size
  have h7 : V6.heap[gu]? = some (.cells ((Wz u)) 46 (0, 0)) := by rw [← eV6, ← egu]; exact heap_alloc_new _ _
  have kV6 : Keeps Nob V1 V6 := eV6 ▸ (Keeps.refl _ _).alloc _
  refine ps_run ((opsAt (part_KeccakTurns 2)).getD 1 default) (.pointer (some ⟨gu, 0, none⟩)) (w' := V6) (by kernel_rfl) (by kernel_rfl) (by rw [← eV6, ← egu]; exact exec_box 46 (.tmp 1) (by kernel_rfl) (.agg (Wz u)) (by kernel_rfl)) ?_
  clear eV6
  have h10 : V6.heap[gs]? = some (.cells (Wz s) 46 (0, 0)) := (kV6.block gs (lt_of_block h2) (fun x => x)).trans h2
  have K11 : Keeps Nob w V6 := K4.then kV6 (fun _ _ x => x.elim)
  have z12 := kV6.size
  refine ps_run ((opsAt (part_KeccakTurns 2)).getD 2 default) (.bool false) (w' := V6) (by kernel_rfl) (by kernel_rfl) (by kernel_rfl) ?_
  refine ps_end ?_
  refine sy_act ⟨#[.agg (Wz s), .agg (Wz u), .int .i64 x, .pointer (some ⟨gs, 0, none⟩), .pointer (some ⟨gu, 0, none⟩), undef, .bool false, undef, undef, undef, undef, undef, undef, undef, undef, undef, undef, undef, undef, undef, undef, undef, undef, undef, undef, undef, undef, undef, undef, undef, undef, undef, undef, undef, undef, undef, undef, undef, undef, undef, undef, undef, undef, undef, undef, undef, undef, undef, undef, undef], []⟩ (by kernel_rfl) ?_
  refine then_n ?_
  refine sy_seq (part_KeccakTurns 6) (part_KeccakTurns 7) (by kernel_rfl) ?_
  refine sy_reg ?_
  refine rg_plain 1 (opsAt (part_KeccakTurns 6)) [0, 1] (by kernel_rfl) (by kernel_rfl) ?_
  refine ps_call ((opsAt (part_KeccakTurns 6)).getD 0 default) 6 #[] (by kernel_rfl) (by kernel_rfl) (by kernel_rfl) (by kernel_rfl) (enters_of Try.func6 (by kernel_rfl) rfl) ((known_ok _).mono ?_)
  rintro e V13 ⟨rfl, kV13⟩
  refine ⟨_, rfl, ?_⟩
  have h14 : V13.heap[gs]? = some (.cells (Wz s) 46 (0, 0)) := (kV13.block gs (lt_of_block h10) (fun x => x)).trans h10
  have h15 : V13.heap[gu]? = some (.cells (Wz u) 46 (0, 0)) := (kV13.block gu (lt_of_block h7) (fun x => x)).trans h7
  have K16 : Keeps Nob w V13 := K11.then kV13 (fun _ _ x => x.elim)
  have z17 := kV13.size
  refine ps_run ((opsAt (part_KeccakTurns 6)).getD 1 default) (.bool true) (w' := V13) (by kernel_rfl) (by kernel_rfl) (by kernel_rfl) ?_
  refine ps_end ?_
  refine sy_act ⟨#[.agg (Wz s), .agg (Wz u), .int .i64 x, .pointer (some ⟨gs, 0, none⟩), .pointer (some ⟨gu, 0, none⟩), undef, .bool false, .bool true, undef, undef, .bool true, undef, undef, undef, undef, undef, undef, undef, undef, undef, undef, undef, undef, undef, undef, undef, undef, undef, undef, undef, undef, undef, undef, undef, undef, undef, undef, undef, undef, undef, undef, undef, undef, undef, undef, undef, undef, undef, undef, undef], []⟩ (by kernel_rfl) ?_
  refine then_n ?_
  refine sy_seq (part_KeccakTurns 14) (part_KeccakTurns 15) (by kernel_rfl) ?_
  refine sy_reg ?_
  refine rg_plain 2 (opsAt (part_KeccakTurns 14)) [0, 1, 2] (by kernel_rfl) (by kernel_rfl) ?_
  refine ps_run ((opsAt (part_KeccakTurns 14)).getD 0 default) (.agg (Wz s)) (w' := V13) (by kernel_rfl) (by kernel_rfl) (exec_load_row 46 (.tmp 3) (by kernel_rfl) gs (by kernel_rfl) _ _ (0, 0) _ (h14) Try.underlying46 rfl (by rw [Wz_size, hs]; kernel_rfl)) ?_
  obtain ⟨V18, eV18⟩ : ∃ V, V13.alloc (.cells (#[.int .u64 0, .int .u64 0, .int .u64 0, .int .u64 0, .int .u64 0, .int .u64 0, .int .u64 0, .int .u64 0, .int .u64 0, .int .u64 0, .int .u64 0, .int .u64 0, .int .u64 0, .int .u64 0, .int .u64 0, .int .u64 0, .int .u64 0, .int .u64 0, .int .u64 0, .int .u64 0, .int .u64 0, .int .u64 0, .int .u64 0, .int .u64 0, .int .u64 0]) 46) = V := ⟨_, rfl⟩
  obtain ⟨gf, egf⟩ : ∃ g, V13.heap.size = g := ⟨_, rfl⟩
  have n20 : gs < gf := egf ▸ lt_of_block h14
  have n21 : gu < gf := egf ▸ lt_of_block h15
  have n22 : w.heap.size ≤ gf := egf ▸ K16.size
  have h19 : V18.heap[gf]? = some (.cells (#[.int .u64 0, .int .u64 0, .int .u64 0, .int .u64 0, .int .u64 0, .int .u64 0, .int .u64 0, .int .u64 0, .int .u64 0, .int .u64 0, .int .u64 0, .int .u64 0, .int .u64 0, .int .u64 0, .int .u64 0, .int .u64 0, .int .u64 0, .int .u64 0, .int .u64 0, .int .u64 0, .int .u64 0, .int .u64 0, .int .u64 0, .int .u64 0, .int .u64 0]) 46 (0, 0)) := by rw [← eV18, ← egf]; exact heap_alloc_new _ _
  have kV18 : Keeps Nob V13 V18 := eV18 ▸ (Keeps.refl _ _).alloc _
  refine ps_run ((opsAt (part_KeccakTurns 14)).getD 1 default) (.pointer (some ⟨gf, 0, none⟩)) (w' := V18) (by kernel_rfl) (by kernel_rfl) (by rw [← eV18, ← egf]; exact exec_alloc0 46 (by kernel_rfl) (.agg (#[.int .u64 0, .int .u64 0, .int .u64 0, .int .u64 0, .int .u64 0, .int .u64 0, .int .u64 0, .int .u64 0, .int .u64 0, .int .u64 0, .int .u64 0, .int .u64 0, .int .u64 0, .int .u64 0, .int .u64 0, .int .u64 0, .int .u64 0, .int .u64 0, .int .u64 0, .int .u64 0, .int .u64 0, .int .u64 0, .int .u64 0, .int .u64 0, .int .u64 0])) (by kernel_rfl)) ?_
  clear eV18
  have h23 : V18.heap[gs]? = some (.cells (Wz s) 46 (0, 0)) := (kV18.block gs (lt_of_block h14) (fun x => x)).trans h14
  have h24 : V18.heap[gu]? = some (.cells (Wz u) 46 (0, 0)) := (kV18.block gu (lt_of_block h15) (fun x => x)).trans h15
  have K25 : Keeps Nob w V18 := K16.then kV18 (fun _ _ x => x.elim)
  have z26 := kV18.size
  obtain ⟨V27, eV27⟩ : ∃ V, V18.setRow gf ((Wz s)) = V := ⟨_, rfl⟩
  have kV27 : Keeps (One gf) V18 V27 := eV27 ▸ (Keeps.refl (One gf) _).setRow (fun _ => (rfl : Own.One gf gf)) _
  have h28 : V27.heap[gf]? = some (.cells (Wz s) 46 (0, 0)) := eV27 ▸ setRow_heap _ _ _ _ _ _ h19
  refine ps_skip ((opsAt (part_KeccakTurns 14)).getD 2 default) (w' := V27) (by kernel_rfl) (by kernel_rfl) (by rw [← eV27]; exact exec_store_row 46 (.tmp 8) (.tmp 11) (by kernel_rfl) gf ((Wz s)) (by kernel_rfl) (by kernel_rfl) 46 (#[.int .u64 0, .int .u64 0, .int .u64 0, .int .u64 0, .int .u64 0, .int .u64 0, .int .u64 0, .int .u64 0, .int .u64 0, .int .u64 0, .int .u64 0, .int .u64 0, .int .u64 0, .int .u64 0, .int .u64 0, .int .u64 0, .int .u64 0, .int .u64 0, .int .u64 0, .int .u64 0, .int .u64 0, .int .u64 0, .int .u64 0, .int .u64 0, .int .u64 0]) h19 (by rw [Wz_size]; first | (rw [hs]; kernel_rfl) | (rw [hu]; kernel_rfl) | (rw [hf]; kernel_rfl) | (rw [Kec.len_perm hs]; kernel_rfl)) (by rw [Wz_size]; first | (rw [hs]; rfl) | (rw [hu]; rfl) | (rw [hf]; rfl) | (rw [Kec.len_perm hs]; rfl)) (Wz_one _)) ?_
  clear eV27
  have h29 : V27.heap[gs]? = some (.cells (Wz s) 46 (0, 0)) := (kV27.block gs (lt_of_block h23) (fun e => by unfold Own.One at e; omega)).trans h23
  have h30 : V27.heap[gu]? = some (.cells (Wz u) 46 (0, 0)) := (kV27.block gu (lt_of_block h24) (fun e => by unfold Own.One at e; omega)).trans h24
  have K31 : Keeps Nob w V27 := K25.then kV27 (fun i hi hm => absurd hi (by unfold Own.One at hm; omega))
  have z32 := kV27.size
  refine ps_end ?_
  refine sy_act ⟨#[.agg (Wz s), .agg (Wz u), .int .i64 x, .pointer (some ⟨gs, 0, none⟩), .pointer (some ⟨gu, 0, none⟩), undef, .bool false, .bool true, .pointer (some ⟨gf, 0, none⟩), undef, .bool true, .agg (Wz s), undef, undef, undef, undef, undef, undef, undef, undef, undef, undef, undef, undef, undef, undef, undef, undef, undef, undef, undef, undef, undef, undef, undef, undef, undef, undef, undef, undef, undef, undef, undef, undef, undef, undef, undef, undef, undef, undef], []⟩ (by kernel_rfl) ?_
  refine then_n ?_
  refine sy_seq (part_KeccakTurns 30) (part_KeccakTurns 31) (by kernel_rfl) ?_
  refine sy_reg ?_
  refine rg_plain 3 (opsAt (part_KeccakTurns 30)) [0, 1, 2] (by kernel_rfl) (by kernel_rfl) ?_
  refine ps_run ((opsAt (part_KeccakTurns 30)).getD 0 default) (.int .i64 x) (w' := V27) (by kernel_rfl) (by kernel_rfl) (by kernel_rfl) ?_
  refine ps_call ((opsAt (part_KeccakTurns 30)).getD 1 default) 16 #[.int .i64 x, .int .i64 1600] (by kernel_rfl) (by kernel_rfl) (by kernel_rfl) (by kernel_rfl) (enters_of Try.func16 (by kernel_rfl) rfl) ((pick1600 x _ hx).mono ?_)
  rintro e w1 ⟨tn, htn, rfl, rfl⟩
  refine ⟨_, rfl, ?_⟩
  refine ps_run ((opsAt (part_KeccakTurns 30)).getD 2 default) (.int .i64 ((tn : Nat) : Int)) (w' := V27) (by kernel_rfl) (by kernel_rfl) (by kernel_rfl) ?_
  refine ps_end ?_
  refine sy_act ⟨#[.agg (Wz s), .agg (Wz u), .int .i64 ((tn : Nat) : Int), .pointer (some ⟨gs, 0, none⟩), .pointer (some ⟨gu, 0, none⟩), undef, .bool false, .bool true, .pointer (some ⟨gf, 0, none⟩), undef, .bool true, .agg (Wz s), .int .i64 x, .int .i64 ((tn : Nat) : Int), undef, undef, undef, undef, undef, undef, undef, undef, undef, undef, undef, undef, undef, undef, undef, undef, undef, undef, undef, undef, undef, undef, undef, undef, undef, undef, undef, undef, undef, undef, undef, undef, undef, undef, undef, undef], []⟩ (by kernel_rfl) ?_
  refine then_n ?_
  refine sy_seq (part_KeccakTurns 62) (part_KeccakTurns 63) (by kernel_rfl) ?_
  refine sy_reg ?_
  refine rg_still 4 11 (opsAt (part_KeccakTurns 62)) [(opsAt (part_KeccakTurns 62)).getD 0 default, (opsAt (part_KeccakTurns 62)).getD 1 default, (opsAt (part_KeccakTurns 62)).getD 2 default, (opsAt (part_KeccakTurns 62)).getD 3 default, (opsAt (part_KeccakTurns 62)).getD 4 default, (opsAt (part_KeccakTurns 62)).getD 5 default, (opsAt (part_KeccakTurns 62)).getD 6 default, (opsAt (part_KeccakTurns 62)).getD 7 default, (opsAt (part_KeccakTurns 62)).getD 8 default, (opsAt (part_KeccakTurns 62)).getD 9 default, (opsAt (part_KeccakTurns 62)).getD 10 default] [(opsAt (part_KeccakTurns 62)).getD 11 default] (by kernel_rfl) (by kernel_rfl) (by kernel_rfl) (by kernel_rfl) (by kernel_rfl) ?_
  obtain ⟨V34, eV34⟩ : ∃ V, V27.drew = V := ⟨_, rfl⟩
  have kV34 : Keeps Nob V27 V34 := eV34 ▸ (Keeps.refl _ _).drew
  rw [eV34]
  clear eV34
  have h35 : V34.heap[gs]? = some (.cells (Wz s) 46 (0, 0)) := (kV34.block gs (lt_of_block h29) (fun x => x)).trans h29
  have h36 : V34.heap[gu]? = some (.cells (Wz u) 46 (0, 0)) := (kV34.block gu (lt_of_block h30) (fun x => x)).trans h30
  have h37 : V34.heap[gf]? = some (.cells (Wz s) 46 (0, 0)) := (kV34.block gf (lt_of_block h28) (fun x => x)).trans h28
  have K38 : Keeps Nob w V34 := K31.then kV34 (fun _ _ x => x.elim)
  have z39 := kV34.size
  refine st_run ((opsAt (part_KeccakTurns 62)).getD 0 default) (.int .i64 ((tn : Nat) : Int)) (by kernel_rfl) (by kernel_rfl) ?_
  refine st_run ((opsAt (part_KeccakTurns 62)).getD 1 default) (.int .i64 ((tn / 64 : Nat) : Int)) (by kernel_rfl) (exec_cast (congrArg (Value.int .i64) (wrapN (tn / 64) (by omega))) (by kernel_rfl)) ?_
  refine st_run ((opsAt (part_KeccakTurns 62)).getD 2 default) (.int .i64 ((tn : Nat) : Int)) (by kernel_rfl) (by kernel_rfl) ?_
  refine st_run ((opsAt (part_KeccakTurns 62)).getD 3 default) (.int .i64 ((tn / 64 : Nat) : Int)) (by kernel_rfl) (exec_cast (congrArg (Value.int .i64) (wrapN (tn / 64) (by omega))) (by kernel_rfl)) ?_
  refine st_run ((opsAt (part_KeccakTurns 62)).getD 4 default) (.pointer (some ⟨gf, tn / 64, none⟩)) (by kernel_rfl) (exec_cast (v := .pointer (some ⟨gf, 0 + (tn / 64) * 1, none⟩)) (by simp) (exec_indexAt_arr 46 (.tmp 8) (.tmp 17) (by kernel_rfl) gf 0 (by kernel_rfl) .i64 (tn / 64) (by kernel_rfl) _ _ 1 Try.underlying46 (by kernel_rfl) (by omega))) ?_
  refine st_run ((opsAt (part_KeccakTurns 62)).getD 5 default) (.int .u64 ((Kec.g s (tn / 64) : Nat) : Int)) (by kernel_rfl) (exec_load_cell 45 (.tmp 18) (by kernel_rfl) ⟨gf, tn / 64, none⟩ (by kernel_rfl) _ _ Try.underlying45 rfl ((cell_of_row _ _ _ _ _ _ (h37)).trans (Wz_get _ (tn / 64) (by rw [hs]; omega)))) ?_
  refine st_run ((opsAt (part_KeccakTurns 62)).getD 6 default) (.int .i64 ((tn : Nat) : Int)) (by kernel_rfl) (by kernel_rfl) ?_
  refine st_run ((opsAt (part_KeccakTurns 62)).getD 7 default) (.int .i64 ((tn % 64 : Nat) : Int)) (by kernel_rfl) (by kernel_rfl) ?_
  refine st_run ((opsAt (part_KeccakTurns 62)).getD 8 default) (.int .u64 ((2 ^ (tn % 64) : Nat) : Int)) (by kernel_rfl) (exec_cast (congrArg (fun n : Nat => Value.int .u64 (n : Int)) (shl_one (tn % 64) (by omega)).1) (exec_binop .shl 45 3 (.const (.int .u64 1)) (.tmp 21) (by kernel_rfl) (.int .u64 ((1 : Nat) : Int)) (.int .i64 ((tn % 64 : Nat) : Int)) _ (by kernel_rfl) (by kernel_rfl) (by kernel_rfl) (run_shlU _ _ 1 _ (by omega)))) ?_
  refine st_run ((opsAt (part_KeccakTurns 62)).getD 9 default) (.int .u64 (((Kec.g s (tn / 64)) ^^^ (2 ^ (tn % 64)) : Nat) : Int)) (by kernel_rfl) (exec_cast (xorU (Kec.g s (tn / 64)) (2 ^ (tn % 64)) (ws _) (shl_one _ (by omega)).2) (by kernel_rfl)) ?_
  refine st_run ((opsAt (part_KeccakTurns 62)).getD 10 default) (.pointer (some ⟨gf, tn / 64, none⟩)) (by kernel_rfl) (exec_cast (v := .pointer (some ⟨gf, 0 + (tn / 64) * 1, none⟩)) (by simp) (exec_indexAt_arr 46 (.tmp 8) (.tmp 15) (by kernel_rfl) gf 0 (by kernel_rfl) .i64 (tn / 64) (by kernel_rfl) _ _ 1 Try.underlying46 (by kernel_rfl) (by omega))) ?_
  refine st_end ?_
  obtain ⟨V40, eV40⟩ : ∃ V, V34.setCell ⟨gf, tn / 64, none⟩ (.int .u64 (((Kec.g s (tn / 64)) ^^^ (2 ^ (tn % 64)) : Nat) : Int)) = V := ⟨_, rfl⟩
  have kV40 : Keeps (One gf) V34 V40 := eV40 ▸ (Keeps.refl _ _).setOne _
  obtain ⟨f, hfe⟩ : ∃ f, s.set (tn / 64) (Kec.g s (tn / 64) ^^^ 2 ^ (tn % 64)) = f := ⟨_, rfl⟩
  have hf : f.length = 25 := by rw [← hfe, List.length_set, hs]
  have wf : Kec.Ws f := by rw [← hfe]; exact Kec.ws_set ws _ _ (Kec.xor_lt (ws _) (shl_one _ (by omega)).2)
  have hsf : s ≠ f := by rw [← hfe]; exact flip_ne hs _ _ (by omega)
  have h41 : V40.heap[gf]? = some (.cells (Wz f) 46 (0, 0)) := eV40 ▸ ((heap_setCell_same _ gf (tn / 64) _ _ (.int .u64 (((Kec.g s (tn / 64)) ^^^ (2 ^ (tn % 64)) : Nat) : Int)) h37).trans (congrArg (fun c => some (Obj.cells c 46 (0, 0))) (show (Wz s : Array Value).setIfInBounds (tn / 64) (.int .u64 (((Kec.g s (tn / 64)) ^^^ (2 ^ (tn % 64)) : Nat) : Int)) = Wz f from by rw [Wz_set]; exact congrArg Wz (hfe))))
  refine ls_skip ((opsAt (part_KeccakTurns 62)).getD 11 default) (w' := V40) (by kernel_rfl) (by rw [← eV40]; exact exec_store_cell 45 (.tmp 24) (.tmp 23) (by kernel_rfl) gf (tn / 64) (by kernel_rfl) (.int .u64 (((Kec.g s (tn / 64)) ^^^ (2 ^ (tn % 64)) : Nat) : Int)) (by kernel_rfl) (by kernel_rfl) (by kernel_rfl) (.int .u64 ((Kec.g s (tn / 64) : Nat) : Int)) ((cell_of_row _ _ _ _ _ _ (h37)).trans (Wz_get _ (tn / 64) (by rw [hs]; omega))) (frozen_of_row _ _ _ _ _ h37) (by kernel_rfl)) ?_
  clear eV40
  have h42 : V40.heap[gs]? = some (.cells (Wz s) 46 (0, 0)) := (kV40.block gs (lt_of_block h35) (fun e => by unfold Own.One at e; omega)).trans h35
  have h43 : V40.heap[gu]? = some (.cells (Wz u) 46 (0, 0)) := (kV40.block gu (lt_of_block h36) (fun e => by unfold Own.One at e; omega)).trans h36
  have K44 : Keeps Nob w V40 := K38.then kV40 (fun i hi hm => absurd hi (by unfold Own.One at hm; omega))
  have z45 := kV40.size
  refine ls_end ?_
  refine sy_act ⟨#[.agg (Wz s), .agg (Wz u), .int .i64 ((tn : Nat) : Int), .pointer (some ⟨gs, 0, none⟩), .pointer (some ⟨gu, 0, none⟩), undef, .bool false, .bool true, .pointer (some ⟨gf, 0, none⟩), undef, .bool true, .agg (Wz s), .int .i64 x, .int .i64 ((tn : Nat) : Int), .int .i64 ((tn : Nat) : Int), .int .i64 ((tn / 64 : Nat) : Int), .int .i64 ((tn : Nat) : Int), .int .i64 ((tn / 64 : Nat) : Int), .pointer (some ⟨gf, tn / 64, none⟩), .int .u64 ((Kec.g s (tn / 64) : Nat) : Int), .int .i64 ((tn : Nat) : Int), .int .i64 ((tn % 64 : Nat) : Int), .int .u64 ((2 ^ (tn % 64) : Nat) : Int), .int .u64 (((Kec.g s (tn / 64)) ^^^ (2 ^ (tn % 64)) : Nat) : Int), .pointer (some ⟨gf, tn / 64, none⟩), undef, undef, undef, undef, undef, undef, undef, undef, undef, undef, undef, undef, undef, undef, undef, undef, undef, undef, undef, undef, undef, undef, undef, undef, undef], []⟩ (by kernel_rfl) ?_
  refine then_n ?_
  refine sy_seq (part_KeccakTurns 126) (part_KeccakTurns 127) (by kernel_rfl) ?_
  refine sy_reg ?_
  refine rg_plain 5 (opsAt (part_KeccakTurns 126)) [0, 1, 2, 3] (by kernel_rfl) (by kernel_rfl) ?_
  refine ps_run ((opsAt (part_KeccakTurns 126)).getD 0 default) (.agg (Wz s)) (w' := V40) (by kernel_rfl) (by kernel_rfl) (exec_load_row 46 (.tmp 3) (by kernel_rfl) gs (by kernel_rfl) _ _ (0, 0) _ (h42) Try.underlying46 rfl (by rw [Wz_size, hs]; kernel_rfl)) ?_
  refine ps_call ((opsAt (part_KeccakTurns 126)).getD 1 default) 29 #[.agg (Wz s)] (by kernel_rfl) (by kernel_rfl) (by kernel_rfl) (by kernel_rfl) (enters_of Try.func29 (by kernel_rfl) rfl) ((kPermute_ok s _ hs ws).mono ?_)
  rintro e V46 ⟨rfl, kV46⟩
  refine ⟨_, rfl, ?_⟩
  have h47 : V46.heap[gs]? = some (.cells (Wz s) 46 (0, 0)) := (kV46.block gs (lt_of_block h42) (fun x => x)).trans h42
  have h48 : V46.heap[gu]? = some (.cells (Wz u) 46 (0, 0)) := (kV46.block gu (lt_of_block h43) (fun x => x)).trans h43
  have h49 : V46.heap[gf]? = some (.cells (Wz f) 46 (0, 0)) := (kV46.block gf (lt_of_block h41) (fun x => x)).trans h41
  have K50 : Keeps Nob w V46 := K44.then kV46 (fun _ _ x => x.elim)
  have z51 := kV46.size
  obtain ⟨V52, eV52⟩ : ∃ V, V46.alloc (.cells (#[.int .u64 0, .int .u64 0, .int .u64 0, .int .u64 0, .int .u64 0, .int .u64 0, .int .u64 0, .int .u64 0, .int .u64 0, .int .u64 0, .int .u64 0, .int .u64 0, .int .u64 0, .int .u64 0, .int .u64 0, .int .u64 0, .int .u64 0, .int .u64 0, .int .u64 0, .int .u64 0, .int .u64 0, .int .u64 0, .int .u64 0, .int .u64 0, .int .u64 0]) 46) = V := ⟨_, rfl⟩
  obtain ⟨gt, egt⟩ : ∃ g, V46.heap.size = g := ⟨_, rfl⟩
  have n54 : gs < gt := egt ▸ lt_of_block h47
  have n55 : gu < gt := egt ▸ lt_of_block h48
  have n56 : gf < gt := egt ▸ lt_of_block h49
  have n57 : w.heap.size ≤ gt := egt ▸ K50.size
  have h53 : V52.heap[gt]? = some (.cells (#[.int .u64 0, .int .u64 0, .int .u64 0, .int .u64 0, .int .u64 0, .int .u64 0, .int .u64 0, .int .u64 0, .int .u64 0, .int .u64 0, .int .u64 0, .int .u64 0, .int .u64 0, .int .u64 0, .int .u64 0, .int .u64 0, .int .u64 0, .int .u64 0, .int .u64 0, .int .u64 0, .int .u64 0, .int .u64 0, .int .u64 0, .int .u64 0, .int .u64 0]) 46 (0, 0)) := by rw [← eV52, ← egt]; exact heap_alloc_new _ _
  have kV52 : Keeps Nob V46 V52 := eV52 ▸ (Keeps.refl _ _).alloc _
  refine ps_run ((opsAt (part_KeccakTurns 126)).getD 2 default) (.pointer (some ⟨gt, 0, none⟩)) (w' := V52) (by kernel_rfl) (by kernel_rfl) (by rw [← eV52, ← egt]; exact exec_alloc0 46 (by kernel_rfl) (.agg (#[.int .u64 0, .int .u64 0, .int .u64 0, .int .u64 0, .int .u64 0, .int .u64 0, .int .u64 0, .int .u64 0, .int .u64 0, .int .u64 0, .int .u64 0, .int .u64 0, .int .u64 0, .int .u64 0, .int .u64 0, .int .u64 0, .int .u64 0, .int .u64 0, .int .u64 0, .int .u64 0, .int .u64 0, .int .u64 0, .int .u64 0, .int .u64 0, .int .u64 0])) (by kernel_rfl)) ?_
  clear eV52
  have h58 : V52.heap[gs]? = some (.cells (Wz s) 46 (0, 0)) := (kV52.block gs (lt_of_block h47) (fun x => x)).trans h47
  have h59 : V52.heap[gu]? = some (.cells (Wz u) 46 (0, 0)) := (kV52.block gu (lt_of_block h48) (fun x => x)).trans h48
  have h60 : V52.heap[gf]? = some (.cells (Wz f) 46 (0, 0)) := (kV52.block gf (lt_of_block h49) (fun x => x)).trans h49
  have K61 : Keeps Nob w V52 := K50.then kV52 (fun _ _ x => x.elim)
  have z62 := kV52.size
  obtain ⟨V63, eV63⟩ : ∃ V, V52.setRow gt ((Wz (Kec.perm s))) = V := ⟨_, rfl⟩
  have kV63 : Keeps (One gt) V52 V63 := eV63 ▸ (Keeps.refl (One gt) _).setRow (fun _ => (rfl : Own.One gt gt)) _
  have h64 : V63.heap[gt]? = some (.cells (Wz (Kec.perm s)) 46 (0, 0)) := eV63 ▸ setRow_heap _ _ _ _ _ _ h53
  refine ps_skip ((opsAt (part_KeccakTurns 126)).getD 3 default) (w' := V63) (by kernel_rfl) (by kernel_rfl) (by rw [← eV63]; exact exec_store_row 46 (.tmp 9) (.tmp 26) (by kernel_rfl) gt ((Wz (Kec.perm s))) (by kernel_rfl) (by kernel_rfl) 46 (#[.int .u64 0, .int .u64 0, .int .u64 0, .int .u64 0, .int .u64 0, .int .u64 0, .int .u64 0, .int .u64 0, .int .u64 0, .int .u64 0, .int .u64 0, .int .u64 0, .int .u64 0, .int .u64 0, .int .u64 0, .int .u64 0, .int .u64 0, .int .u64 0, .int .u64 0, .int .u64 0, .int .u64 0, .int .u64 0, .int .u64 0, .int .u64 0, .int .u64 0]) h53 (by rw [Wz_size]; first | (rw [hs]; kernel_rfl) | (rw [hu]; kernel_rfl) | (rw [hf]; kernel_rfl) | (rw [Kec.len_perm hs]; kernel_rfl)) (by rw [Wz_size]; first | (rw [hs]; rfl) | (rw [hu]; rfl) | (rw [hf]; rfl) | (rw [Kec.len_perm hs]; rfl)) (Wz_one _)) ?_
  clear eV63
  have h65 : V63.heap[gs]? = some (.cells (Wz s) 46 (0, 0)) := (kV63.block gs (lt_of_block h58) (fun e => by unfold Own.One at e; omega)).trans h58
  have h66 : V63.heap[gu]? = some (.cells (Wz u) 46 (0, 0)) := (kV63.block gu (lt_of_block h59) (fun e => by unfold Own.One at e; omega)).trans h59
  have h67 : V63.heap[gf]? = some (.cells (Wz f) 46 (0, 0)) := (kV63.block gf (lt_of_block h60) (fun e => by unfold Own.One at e; omega)).trans h60
  have K68 : Keeps Nob w V63 := K61.then kV63 (fun i hi hm => absurd hi (by unfold Own.One at hm; omega))
  have z69 := kV63.size
  refine ps_end ?_
  refine sy_act ⟨#[.agg (Wz s), .agg (Wz u), .int .i64 ((tn : Nat) : Int), .pointer (some ⟨gs, 0, none⟩), .pointer (some ⟨gu, 0, none⟩), undef, .bool false, .bool true, .pointer (some ⟨gf, 0, none⟩), .pointer (some ⟨gt, 0, none⟩), .bool true, .agg (Wz s), .int .i64 x, .int .i64 ((tn : Nat) : Int), .int .i64 ((tn : Nat) : Int), .int .i64 ((tn / 64 : Nat) : Int), .int .i64 ((tn : Nat) : Int), .int .i64 ((tn / 64 : Nat) : Int), .pointer (some ⟨gf, tn / 64, none⟩), .int .u64 ((Kec.g s (tn / 64) : Nat) : Int), .int .i64 ((tn : Nat) : Int), .int .i64 ((tn % 64 : Nat) : Int), .int .u64 ((2 ^ (tn % 64) : Nat) : Int), .int .u64 (((Kec.g s (tn / 64)) ^^^ (2 ^ (tn % 64)) : Nat) : Int), .pointer (some ⟨gf, tn / 64, none⟩), .agg (Wz s), .agg (Wz (Kec.perm s)), undef, undef, undef, undef, undef, undef, undef, undef, undef, undef, undef, undef, undef, undef, undef, undef, undef, undef, undef, undef, undef, undef, undef], []⟩ (by kernel_rfl) ?_
  refine then_n ?_
  refine sy_seq (part_KeccakTurns 254) (part_KeccakTurns 255) (by kernel_rfl) ?_
  refine sy_np ?_
  refine sy_reg ?_
  refine an_begin 6 24 (opsAt (part_KeccakTurns 254)) (fun W => (W.heap[gs]? = some (.cells (Wz s) 46 (0, 0))) ∧ (W.heap[gu]? = some (.cells (Wz u) 46 (0, 0))) ∧ (W.heap[gf]? = some (.cells (Wz f) 46 (0, 0))) ∧ (W.heap[gt]? = some (.cells (Wz (Kec.perm s)) 46 (0, 0)))) #[false, false, false, false, false, false, false, false, false, false, false, false, false, false, false, false, false, false, false, false, false, false, false, false] (by kernel_rfl) (by kernel_rfl) (by kernel_rfl) (by kernel_rfl) ?_
  obtain ⟨V70, eV70⟩ : ∃ V, V63.drew = V := ⟨_, rfl⟩
  have kV70 : Keeps Nob V63 V70 := eV70 ▸ (Keeps.refl _ _).drew
  rw [eV70]
  clear eV70
  have h71 : V70.heap[gs]? = some (.cells (Wz s) 46 (0, 0)) := (kV70.block gs (lt_of_block h65) (fun x => x)).trans h65
  have h72 : V70.heap[gu]? = some (.cells (Wz u) 46 (0, 0)) := (kV70.block gu (lt_of_block h66) (fun x => x)).trans h66
  have h73 : V70.heap[gf]? = some (.cells (Wz f) 46 (0, 0)) := (kV70.block gf (lt_of_block h67) (fun x => x)).trans h67
  have h74 : V70.heap[gt]? = some (.cells (Wz (Kec.perm s)) 46 (0, 0)) := (kV70.block gt (lt_of_block h64) (fun x => x)).trans h64
  have K75 : Keeps Nob w V70 := K68.then kV70 (fun _ _ x => x.elim)
  have z76 := kV70.size
  refine an_val 0 ((opsAt (part_KeccakTurns 254)).getD 0 default) (.bool true) (by kernel_rfl) (by kernel_rfl) (by kernel_rfl) (by kernel_rfl) (by kernel_rfl) (fun W hS => by kernel_rfl) ⟨h71, h72, h73, h74⟩ ?_
  refine an_val 1 ((opsAt (part_KeccakTurns 254)).getD 1 default) (.bool true) (by kernel_rfl) (by kernel_rfl) (by kernel_rfl) (by kernel_rfl) (by kernel_rfl) (fun W hS => by kernel_rfl) ⟨h71, h72, h73, h74⟩ ?_
  refine an_val 2 ((opsAt (part_KeccakTurns 254)).getD 2 default) (.agg (Wz (Kec.perm s))) (by kernel_rfl) (by kernel_rfl) (by kernel_rfl) (by kernel_rfl) (by kernel_rfl) (fun W hS => exec_load_row 46 (.tmp 9) (by kernel_rfl) gt (by kernel_rfl) _ _ (0, 0) _ (hS.2.2.2) Try.underlying46 rfl (by rw [Wz_size, (Kec.len_perm hs)]; kernel_rfl)) ⟨h71, h72, h73, h74⟩ ?_
  refine an_val 3 ((opsAt (part_KeccakTurns 254)).getD 3 default) (.agg (Wz f)) (by kernel_rfl) (by kernel_rfl) (by kernel_rfl) (by kernel_rfl) (by kernel_rfl) (fun W hS => exec_load_row 46 (.tmp 8) (by kernel_rfl) gf (by kernel_rfl) _ _ (0, 0) _ (hS.2.2.1) Try.underlying46 rfl (by rw [Wz_size, hf]; kernel_rfl)) ⟨h71, h72, h73, h74⟩ ?_
  refine an_one 4 (by kernel_rfl) ?_
  refine on_call ((opsAt (part_KeccakTurns 254)).getD 4 default) 29 #[.agg (Wz f)] (by kernel_rfl) (by kernel_rfl) (by kernel_rfl) (by kernel_rfl) (enters_of Try.func29 (by kernel_rfl) rfl) ((kPermute_ok f _ hf wf).mono ?_)
  rintro e V77 ⟨rfl, kV77⟩
  refine ⟨_, rfl, ?_⟩
  have h78 : V77.heap[gs]? = some (.cells (Wz s) 46 (0, 0)) := (kV77.block gs (lt_of_block h71) (fun x => x)).trans h71
  have h79 : V77.heap[gu]? = some (.cells (Wz u) 46 (0, 0)) := (kV77.block gu (lt_of_block h72) (fun x => x)).trans h72
  have h80 : V77.heap[gf]? = some (.cells (Wz f) 46 (0, 0)) := (kV77.block gf (lt_of_block h73) (fun x => x)).trans h73
  have h81 : V77.heap[gt]? = some (.cells (Wz (Kec.perm s)) 46 (0, 0)) := (kV77.block gt (lt_of_block h74) (fun x => x)).trans h74
  have K82 : Keeps Nob w V77 := K75.then kV77 (fun _ _ x => x.elim)
  have z83 := kV77.size
  refine ⟨⟨h78, h79, h80, h81⟩, ?_⟩
  refine an_val 5 ((opsAt (part_KeccakTurns 254)).getD 5 default) (.bool true) (by kernel_rfl) (by kernel_rfl) (by kernel_rfl) (by kernel_rfl) (by kernel_rfl) (fun W hS => exec_cast (congrArg Value.bool (show (!(Kec.perm s == Kec.perm f)) = true by rw [perm_beq hs hf ws wf, beq_eq_false_iff_ne.2 hsf]; rfl)) (exec_binop .neq 46 46 (.tmp 29) (.tmp 31) (by kernel_rfl) (.agg (Wz (Kec.perm s))) (.agg (Wz (Kec.perm f))) _ (by kernel_rfl) (by kernel_rfl) (run_eqGuard_agg _ _ _ _ _ _ _ w25_guard) (neq25 (Kec.perm s) (Kec.perm f) (Kec.len_perm hs) (Kec.len_perm hf) _))) ⟨h78, h79, h80, h81⟩ ?_
  refine an_val 6 ((opsAt (part_KeccakTurns 254)).getD 6 default) (.bool true) (by kernel_rfl) (by kernel_rfl) (by kernel_rfl) (by kernel_rfl) (by kernel_rfl) (fun W hS => by kernel_rfl) ⟨h78, h79, h80, h81⟩ ?_
  refine an_val 7 ((opsAt (part_KeccakTurns 254)).getD 7 default) (.bool true) (by kernel_rfl) (by kernel_rfl) (by kernel_rfl) (by kernel_rfl) (by kernel_rfl) (fun W hS => by kernel_rfl) ⟨h78, h79, h80, h81⟩ ?_
  refine an_val 8 ((opsAt (part_KeccakTurns 254)).getD 8 default) (.agg (Wz (Kec.perm s))) (by kernel_rfl) (by kernel_rfl) (by kernel_rfl) (by kernel_rfl) (by kernel_rfl) (fun W hS => exec_load_row 46 (.tmp 9) (by kernel_rfl) gt (by kernel_rfl) _ _ (0, 0) _ (hS.2.2.2) Try.underlying46 rfl (by rw [Wz_size, (Kec.len_perm hs)]; kernel_rfl)) ⟨h78, h79, h80, h81⟩ ?_
  refine an_val 9 ((opsAt (part_KeccakTurns 254)).getD 9 default) (.agg (Wz u)) (by kernel_rfl) (by kernel_rfl) (by kernel_rfl) (by kernel_rfl) (by kernel_rfl) (fun W hS => exec_load_row 46 (.tmp 4) (by kernel_rfl) gu (by kernel_rfl) _ _ (0, 0) _ (hS.2.1) Try.underlying46 rfl (by rw [Wz_size, hu]; kernel_rfl)) ⟨h78, h79, h80, h81⟩ ?_
  refine an_val 12 ((opsAt (part_KeccakTurns 254)).getD 12 default) (.agg (Wz s)) (by kernel_rfl) (by kernel_rfl) (by kernel_rfl) (by kernel_rfl) (by kernel_rfl) (fun W hS => exec_load_row 46 (.tmp 3) (by kernel_rfl) gs (by kernel_rfl) _ _ (0, 0) _ (hS.1) Try.underlying46 rfl (by rw [Wz_size, hs]; kernel_rfl)) ⟨h78, h79, h80, h81⟩ ?_
  refine an_val 13 ((opsAt (part_KeccakTurns 254)).getD 13 default) (.agg (Wz u)) (by kernel_rfl) (by kernel_rfl) (by kernel_rfl) (by kernel_rfl) (by kernel_rfl) (fun W hS => exec_load_row 46 (.tmp 4) (by kernel_rfl) gu (by kernel_rfl) _ _ (0, 0) _ (hS.2.1) Try.underlying46 rfl (by rw [Wz_size, hu]; kernel_rfl)) ⟨h78, h79, h80, h81⟩ ?_
  refine an_val 14 ((opsAt (part_KeccakTurns 254)).getD 14 default) (.bool (s == u)) (by kernel_rfl) (by kernel_rfl) (by kernel_rfl) (by kernel_rfl) (by kernel_rfl) (fun W hS => exec_cast (congrArg Value.bool (rfl)) (exec_binop .eql 46 46 (.tmp 39) (.tmp 40) (by kernel_rfl) (.agg (Wz s)) (.agg (Wz u)) _ (by kernel_rfl) (by kernel_rfl) (run_eqGuard_agg _ _ _ _ _ _ _ w25_guard) (eql25 s u hs hu _))) ⟨h78, h79, h80, h81⟩ ?_
  refine an_one 10 (by kernel_rfl) ?_
  refine on_call ((opsAt (part_KeccakTurns 254)).getD 10 default) 29 #[.agg (Wz u)] (by kernel_rfl) (by kernel_rfl) (by kernel_rfl) (by kernel_rfl) (enters_of Try.func29 (by kernel_rfl) rfl) ((kPermute_ok u _ hu wu).mono ?_)
  rintro e V84 ⟨rfl, kV84⟩
  refine ⟨_, rfl, ?_⟩
  have h85 : V84.heap[gs]? = some (.cells (Wz s) 46 (0, 0)) := (kV84.block gs (lt_of_block h78) (fun x => x)).trans h78
  have h86 : V84.heap[gu]? = some (.cells (Wz u) 46 (0, 0)) := (kV84.block gu (lt_of_block h79) (fun x => x)).trans h79
  have h87 : V84.heap[gf]? = some (.cells (Wz f) 46 (0, 0)) := (kV84.block gf (lt_of_block h80) (fun x => x)).trans h80
  have h88 : V84.heap[gt]? = some (.cells (Wz (Kec.perm s)) 46 (0, 0)) := (kV84.block gt (lt_of_block h81) (fun x => x)).trans h81
  have K89 : Keeps Nob w V84 := K82.then kV84 (fun _ _ x => x.elim)
  have z90 := kV84.size
  refine ⟨⟨h85, h86, h87, h88⟩, ?_⟩
  refine an_val 11 ((opsAt (part_KeccakTurns 254)).getD 11 default) (.bool (s == u)) (by kernel_rfl) (by kernel_rfl) (by kernel_rfl) (by kernel_rfl) (by kernel_rfl) (fun W hS => exec_cast (congrArg Value.bool (perm_beq hs hu ws wu)) (exec_binop .eql 46 46 (.tmp 35) (.tmp 37) (by kernel_rfl) (.agg (Wz (Kec.perm s))) (.agg (Wz (Kec.perm u))) _ (by kernel_rfl) (by kernel_rfl) (run_eqGuard_agg _ _ _ _ _ _ _ w25_guard) (eql25 (Kec.perm s) (Kec.perm u) (Kec.len_perm hs) (Kec.len_perm hu) _))) ⟨h85, h86, h87, h88⟩ ?_
  refine an_val 15 ((opsAt (part_KeccakTurns 254)).getD 15 default) (.bool true) (by kernel_rfl) (by kernel_rfl) (by kernel_rfl) (by kernel_rfl) (by kernel_rfl) (fun W hS => exec_binop .eql 4 4 (.tmp 38) (.tmp 41) (by kernel_rfl) (.bool (s == u)) (.bool (s == u)) _ (by kernel_rfl) (by kernel_rfl) (by kernel_rfl) (eq_bools _ _)) ⟨h85, h86, h87, h88⟩ ?_
  refine an_val 16 ((opsAt (part_KeccakTurns 254)).getD 16 default) (.bool true) (by kernel_rfl) (by kernel_rfl) (by kernel_rfl) (by kernel_rfl) (by kernel_rfl) (fun W hS => by kernel_rfl) ⟨h85, h86, h87, h88⟩ ?_
  refine an_val 17 ((opsAt (part_KeccakTurns 254)).getD 17 default) (.bool true) (by kernel_rfl) (by kernel_rfl) (by kernel_rfl) (by kernel_rfl) (by kernel_rfl) (fun W hS => by kernel_rfl) ⟨h85, h86, h87, h88⟩ ?_
  refine an_val 18 ((opsAt (part_KeccakTurns 254)).getD 18 default) (.agg (Wz (Kec.perm s))) (by kernel_rfl) (by kernel_rfl) (by kernel_rfl) (by kernel_rfl) (by kernel_rfl) (fun W hS => exec_load_row 46 (.tmp 9) (by kernel_rfl) gt (by kernel_rfl) _ _ (0, 0) _ (hS.2.2.2) Try.underlying46 rfl (by rw [Wz_size, (Kec.len_perm hs)]; kernel_rfl)) ⟨h85, h86, h87, h88⟩ ?_
  refine an_val 19 ((opsAt (part_KeccakTurns 254)).getD 19 default) (.agg (Wz s)) (by kernel_rfl) (by kernel_rfl) (by kernel_rfl) (by kernel_rfl) (by kernel_rfl) (fun W hS => exec_load_row 46 (.tmp 3) (by kernel_rfl) gs (by kernel_rfl) _ _ (0, 0) _ (hS.1) Try.underlying46 rfl (by rw [Wz_size, hs]; kernel_rfl)) ⟨h85, h86, h87, h88⟩ ?_
  refine an_one 20 (by kernel_rfl) ?_
  refine on_call ((opsAt (part_KeccakTurns 254)).getD 20 default) 29 #[.agg (Wz s)] (by kernel_rfl) (by kernel_rfl) (by kernel_rfl) (by kernel_rfl) (enters_of Try.func29 (by kernel_rfl) rfl) ((kPermute_ok s _ hs ws).mono ?_)
  rintro e V91 ⟨rfl, kV91⟩
  refine ⟨_, rfl, ?_⟩
  have h92 : V91.heap[gs]? = some (.cells (Wz s) 46 (0, 0)) := (kV91.block gs (lt_of_block h85) (fun x => x)).trans h85
  have h93 : V91.heap[gu]? = some (.cells (Wz u) 46 (0, 0)) := (kV91.block gu (lt_of_block h86) (fun x => x)).trans h86
  have h94 : V91.heap[gf]? = some (.cells (Wz f) 46 (0, 0)) := (kV91.block gf (lt_of_block h87) (fun x => x)).trans h87
  have h95 : V91.heap[gt]? = some (.cells (Wz (Kec.perm s)) 46 (0, 0)) := (kV91.block gt (lt_of_block h88) (fun x => x)).trans h88
  have K96 : Keeps Nob w V91 := K89.then kV91 (fun _ _ x => x.elim)
  have z97 := kV91.size
  refine ⟨⟨h92, h93, h94, h95⟩, ?_⟩
  refine an_val 21 ((opsAt (part_KeccakTurns 254)).getD 21 default) (.bool true) (by kernel_rfl) (by kernel_rfl) (by kernel_rfl) (by kernel_rfl) (by kernel_rfl) (fun W hS => exec_cast (congrArg Value.bool (by simp)) (exec_binop .eql 46 46 (.tmp 45) (.tmp 47) (by kernel_rfl) (.agg (Wz (Kec.perm s))) (.agg (Wz (Kec.perm s))) _ (by kernel_rfl) (by kernel_rfl) (run_eqGuard_agg _ _ _ _ _ _ _ w25_guard) (eql25 (Kec.perm s) (Kec.perm s) (Kec.len_perm hs) (Kec.len_perm hs) _))) ⟨h92, h93, h94, h95⟩ ?_
  refine an_val 22 ((opsAt (part_KeccakTurns 254)).getD 22 default) (.bool true) (by kernel_rfl) (by kernel_rfl) (by kernel_rfl) (by kernel_rfl) (by kernel_rfl) (fun W hS => by kernel_rfl) ⟨h92, h93, h94, h95⟩ ?_
  refine an_one 23 (by kernel_rfl) ?_
  refine on_run ((opsAt (part_KeccakTurns 254)).getD 23 default) (.bool true) (w' := V91) (by kernel_rfl) (by kernel_rfl) (by kernel_rfl) ?_
  refine ⟨⟨h92, h93, h94, h95⟩, ?_⟩
  refine an_end (by kernel_rfl) ?_
  refine sy_act ⟨#[.agg (Wz s), .agg (Wz u), .int .i64 ((tn : Nat) : Int), .pointer (some ⟨gs, 0, none⟩), .pointer (some ⟨gu, 0, none⟩), undef, .bool true, .bool true, .pointer (some ⟨gf, 0, none⟩), .pointer (some ⟨gt, 0, none⟩), .bool true, .agg (Wz s), .int .i64 x, .int .i64 ((tn : Nat) : Int), .int .i64 ((tn : Nat) : Int), .int .i64 ((tn / 64 : Nat) : Int), .int .i64 ((tn : Nat) : Int), .int .i64 ((tn / 64 : Nat) : Int), .pointer (some ⟨gf, tn / 64, none⟩), .int .u64 ((Kec.g s (tn / 64) : Nat) : Int), .int .i64 ((tn : Nat) : Int), .int .i64 ((tn % 64 : Nat) : Int), .int .u64 ((2 ^ (tn % 64) : Nat) : Int), .int .u64 (((Kec.g s (tn / 64)) ^^^ (2 ^ (tn % 64)) : Nat) : Int), .pointer (some ⟨gf, tn / 64, none⟩), .agg (Wz s), .agg (Wz (Kec.perm s)), .bool true, .bool true, .agg (Wz (Kec.perm s)), .agg (Wz f), .agg (Wz (Kec.perm f)), .bool true, .bool true, .bool true, .agg (Wz (Kec.perm s)), .agg (Wz u), .agg (Wz (Kec.perm u)), .bool (s == u), .agg (Wz s), .agg (Wz u), .bool (s == u), .bool true, .bool true, .bool true, .agg (Wz (Kec.perm s)), .agg (Wz s), .agg (Wz (Kec.perm s)), .bool true, .bool true], []⟩ (by kernel_rfl) ?_
  refine then_n ?_
  refine sy_ret (by kernel_rfl) ?_
  refine sy_out (.bool true) rfl (by kernel_rfl) ?_
  exact ⟨rfl, K96⟩
end Go.Proofs.Ytolbdhgclcemlaa
