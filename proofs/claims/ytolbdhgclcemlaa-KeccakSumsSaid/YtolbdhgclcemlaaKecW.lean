/-
  Keccak: the document's Text, walked (printed by kec16.py). Conditions: none.
-/
import Derived.Test.YtolbdhgclcemlaaKecF
import Derived.Laws.Strings2
namespace Go.Proofs.Ytolbdhgclcemlaa
open Go Go.RowKit Go.Own Go.Shelf
theorem exec_slice_digs {P : Program} {o : Oper} {ρ : Operand → Value} {w : World} (t : TypeId) (x y z : Operand) (ho : o.op = .slice t x (some y) (some z) none) (hx : ρ x = .string ⟨digs.toArray⟩) (a : Nat) (ha : a < 16) (hy : ρ y = .int .u8 ((a : Nat) : Int)) (hz : ρ z = .int .u8 ((a + 1 : Nat) : Int)) (hu : P.underlying t = some .string) :
    (execOp ρ o).run P w = .ok (.value (.string ⟨[dig a].toArray⟩)) w := by
  have e : ∀ j : Fin 16, (⟨digs.toArray⟩ : ByteArray).extract j.val (j.val + 1) = ⟨[dig j.val].toArray⟩ := by decide +kernel
  have hs : (⟨digs.toArray⟩ : ByteArray).size = 16 := rfl
  have h := run_slice_string (P := P) (w := w) t (⟨digs.toArray⟩ : ByteArray) .u8 .u8 ((a : Nat) : Int) ((a + 1 : Nat) : Int) hu (by omega) (by omega) (by rw [hs]; omega)
  rw [Int.toNat_natCast, Int.toNat_natCast, e ⟨a, ha⟩] at h
  unfold execOp
  simp only [ho, hx, hy, hz, Option.map_some, Option.map_none, Sem.run_bind]
  rw [run_sliceAt_string (P := P) (w := w) (h := hu), h]
  rfl
theorem hexOf_snoc (h : List UInt8) (k : Nat) (hk : k < h.length) : (hexOf (h.take k) ++ [dig ((h.getD k 0).toNat / 16)]) ++ [dig ((h.getD k 0).toNat % 16)] = hexOf (h.take (k + 1)) := by
  rw [List.take_succ_eq_append_getElem hk]
  unfold hexOf
  rw [List.flatMap_append]
  have : h.getD k 0 = h[k] := by rw [List.getD_eq_getElem?_getD, List.getElem?_eq_getElem hk]; rfl
  rw [this]; simp
theorem small8 (n : Nat) (h : n < 256) : IntKind.u8.wrap (n : Int) = ((n : Nat) : Int) := by
  rw [wrap8, UInt8.toNat_ofNat', Nat.mod_eq_of_lt h]

noncomputable def part_hText (n : Nat) : Code := partOf Try.f28 n
noncomputable abbrev o_hText (n k : Nat) : Oper := (opsAt (part_hText n)).getD k default
set_option maxRecDepth 100000 in
set_option maxHeartbeats 4000000 in
theorem hText_ok (h : List UInt8) (w : World) (hh : h.length = 32) :
    Calls Try.prog 28 #[.agg (B h).toArray] w (fun e w' => e = .returned (.string ⟨(hexOf h).toArray⟩) ∧ Keeps Nob w w') := by
  have K0 : Keeps Nob w w := Keeps.refl _ _
  refine sy_enter (part_hText 1) ⟨#[.agg (B h).toArray, undef, undef, undef, undef, undef, undef, undef, undef, undef, undef, undef, undef, undef, undef, undef, undef, undef, undef, undef, undef, undef, undef, undef, undef, undef, undef, undef, undef, undef, undef, undef, undef], []⟩ Try.func28 (by kernel_rfl) (by kernel_rfl) ?_
  refine sy_sq (part_hText 2) (part_hText 3) ?_
  refine sy_reg ?_
  refine rg_plain 0 (opsAt (part_hText 2)) [0, 1] (by kernel_rfl) (by kernel_rfl) ?_
  obtain ⟨V1, eV1⟩ : ∃ V, w.alloc (.cells ((B h).toArray) 29) = V := ⟨_, rfl⟩
  obtain ⟨gb, egb⟩ : ∃ g, w.heap.size = g := ⟨_, rfl⟩
  have n3 : w.heap.size ≤ gb := egb ▸ K0.size
  have h2 : V1.heap[gb]? = some (.cells ((B h).toArray) 29 (0, 0)) := by rw [← eV1, ← egb]; exact heap_alloc_new _ _
  have kV1 : Keeps Nob w V1 := eV1 ▸ (Keeps.refl _ _).alloc _
  refine ps_run (o_hText 2 0) (pT gb 0) (w' := V1) (by kernel_rfl) (by kernel_rfl) (by rw [← eV1, ← egb]; exact exec_box 29 (.tmp 0) (by kernel_rfl) (.agg (B h).toArray) (by kernel_rfl)) ?_
  clear eV1
  have K4 : Keeps Nob w V1 := K0.then kV1 (fun _ _ x => x.elim)
  refine ps_k (o_hText 2 1) (.string { data := #[] }) ?_
  refine ps_end ?_
  refine sy_a ⟨#[.agg (B h).toArray, pT gb 0, .string { data := #[] }, undef, undef, undef, undef, undef, undef, undef, undef, undef, undef, undef, undef, undef, undef, undef, undef, undef, undef, undef, undef, undef, undef, undef, undef, undef, undef, undef, undef, undef, undef], []⟩ ?_
  refine then_n ?_
  refine sy_sq (part_hText 6) (part_hText 7) ?_
  refine sy_reg ?_
  refine rg_plain 1 (opsAt (part_hText 6)) [0] (by kernel_rfl) (by kernel_rfl) ?_
  refine ps_k (o_hText 6 0) (.string { data := #[] }) ?_
  refine ps_end ?_
  refine sy_a ⟨#[.agg (B h).toArray, pT gb 0, .string { data := #[] }, .string { data := #[] }, undef, undef, undef, undef, undef, undef, undef, undef, undef, undef, undef, undef, undef, undef, undef, undef, undef, undef, undef, undef, undef, undef, undef, undef, undef, undef, undef, undef, undef], []⟩ ?_
  refine then_n ?_
  refine sy_sq (part_hText 14) (part_hText 15) ?_
  refine sy_sq (part_hText 28) (part_hText 29) ?_
  refine sy_reg ?_
  refine rg_plain 2 (opsAt (part_hText 28)) [0] (by kernel_rfl) (by kernel_rfl) ?_
  refine ps_k (o_hText 28 0) (.int .i64 0) ?_
  refine ps_end ?_
  refine sy_a ⟨#[.agg (B h).toArray, pT gb 0, .string { data := #[] }, .string { data := #[] }, .int .i64 0, undef, undef, undef, undef, undef, undef, undef, undef, undef, undef, undef, undef, undef, undef, undef, undef, undef, undef, undef, undef, undef, undef, undef, undef, undef, undef, undef, undef], []⟩ ?_
  refine then_n ?_
  refine sy_bk 0 (part_hText 58) ?_
  refine sy_loop (part_hText 116) (fun a V => ∃ (k : Nat) (u5 u6 u7 u8 u9 u10 u11 u12 u13 u14 u15 u16 u17 u18 u19 u20 u21 u22 u23 u24 u25 u26 u27 u28 u29 u30 u31 : Value), (a = ⟨#[.agg (B h).toArray, pT gb 0, .string { data := #[] }, .string ⟨(hexOf (h.take k)).toArray⟩, iN k, u5, u6, u7, u8, u9, u10, u11, u12, u13, u14, u15, u16, u17, u18, u19, u20, u21, u22, u23, u24, u25, u26, u27, u28, u29, u30, u31, undef], []⟩) ∧ (k ≤ 32) ∧ (V.heap[gb]? = some (.cells ((B h).toArray) 29 (0, 0))) ∧ (Keeps Nob w V)) (fun a _ => 32 - (intOf (a.tmps.getD 4 undef)).toNat) (by kernel_rfl) ?_ ?_
  · exact ⟨0, undef, undef, undef, undef, undef, undef, undef, undef, undef, undef, undef, undef, undef, undef, undef, undef, undef, undef, undef, undef, undef, undef, undef, undef, undef, undef, undef, by kernel_rfl, by omega, h2, K4⟩
  · rintro a V5 ⟨k, u5, u6, u7, u8, u9, u10, u11, u12, u13, u14, u15, u16, u17, u18, u19, u20, u21, u22, u23, u24, u25, u26, u27, u28, u29, u30, u31, rfl, hk, h6, K7⟩
    by_cases lt_k : k < 32
    · show _
      refine sy_sq (part_hText 232) (part_hText 233) ?_
      refine sy_sq (part_hText 464) (part_hText 465) ?_
      refine sy_reg ?_
      refine rg_plain 3 (opsAt (part_hText 464)) [0, 1] (by kernel_rfl) (by kernel_rfl) ?_
      refine ps_k (o_hText 464 0) (iN k) ?_
      refine ps_p (o_hText 464 1) (.bool true) (exec_cast (congrArg Value.bool (show (decide ((((k : Nat) : Int)) < ((32) : Int))) = true from by simp only [decide_eq_true_eq]; omega)) (by kernel_rfl)) ?_
      refine ps_end ?_
      refine sy_a ⟨#[.agg (B h).toArray, pT gb 0, .string { data := #[] }, .string ⟨(hexOf (h.take k)).toArray⟩, iN k, iN k, .bool true, u7, u8, u9, u10, u11, u12, u13, u14, u15, u16, u17, u18, u19, u20, u21, u22, u23, u24, u25, u26, u27, u28, u29, u30, u31, undef], []⟩ ?_
      refine then_n ?_
      refine sy_ys (.tmp 6) (part_hText 930) (part_hText 931) ?_
      refine sy_sk ?_
      refine then_n ?_
      refine sy_sq (part_hText 466) (part_hText 467) ?_
      refine sy_bk 1 (part_hText 932) ?_
      refine sy_reg ?_
      refine rg_still 5 23 (opsAt (part_hText 932)) [o_hText 932 0, o_hText 932 1, o_hText 932 2, o_hText 932 3, o_hText 932 4, o_hText 932 5, o_hText 932 6, o_hText 932 7, o_hText 932 8, o_hText 932 9, o_hText 932 10, o_hText 932 11, o_hText 932 12, o_hText 932 13, o_hText 932 14, o_hText 932 15, o_hText 932 16, o_hText 932 17, o_hText 932 18, o_hText 932 19, o_hText 932 20, o_hText 932 21, o_hText 932 22] [o_hText 932 23] (by kernel_rfl) (by kernel_rfl) (by kernel_rfl) (by kernel_rfl) (by kernel_rfl) ?_
      obtain ⟨V9, eV9⟩ : ∃ V, V5.drew = V := ⟨_, rfl⟩
      have kV9 : Keeps Nob V5 V9 := eV9 ▸ (Keeps.refl _ _).drew
      rw [eV9]
      clear eV9
      have h10 : V9.heap[gb]? = some (.cells ((B h).toArray) 29 (0, 0)) := (kV9.block gb (lt_of_block h6) (fun x => x)).trans h6
      have K11 : Keeps Nob w V9 := K7.then kV9 (fun _ _ x => x.elim)
      refine st_k (o_hText 932 0) (.string ⟨(hexOf (h.take k)).toArray⟩) ?_
      refine st_k (o_hText 932 1) (iN k) ?_
      refine st_p (o_hText 932 2) (pT gb k) (exec_cast (v := pT gb (0 + k * 1)) (by simp) (exec_indexAt_arr 29 (.tmp 1) (.tmp 10) (by kernel_rfl) gb 0 (by kernel_rfl) .i64 k (by kernel_rfl) _ _ 1 Try.underlying29 (by kernel_rfl) (by omega))) ?_
      refine st_p (o_hText 932 3) (cN ((h.getD k 0).toNat)) (exec_load_cell 5 (.tmp 11) (by kernel_rfl) ⟨gb, k, none⟩ (by kernel_rfl) _ _ Try.underlying5 rfl ((cell_of_row _ _ _ _ _ _ (h10)).trans (Bz_get _ k (by rw [hh]; omega)))) ?_
      refine st_p (o_hText 932 4) (cN ((h.getD k 0).toNat / 16)) (exec_cast (v := .int .u8 (IntKind.u8.wrap (((h.getD k 0).toNat / 16 : Nat) : Int))) (congrArg (Value.int .u8) (small8 _ (by have := (h.getD k 0).toNat_lt; omega))) (by kernel_rfl)) ?_
      refine st_k (o_hText 932 5) (iN k) ?_
      refine st_p (o_hText 932 6) (pT gb k) (exec_cast (v := pT gb (0 + k * 1)) (by simp) (exec_indexAt_arr 29 (.tmp 1) (.tmp 14) (by kernel_rfl) gb 0 (by kernel_rfl) .i64 k (by kernel_rfl) _ _ 1 Try.underlying29 (by kernel_rfl) (by omega))) ?_
      refine st_p (o_hText 932 7) (cN ((h.getD k 0).toNat)) (exec_load_cell 5 (.tmp 15) (by kernel_rfl) ⟨gb, k, none⟩ (by kernel_rfl) _ _ Try.underlying5 rfl ((cell_of_row _ _ _ _ _ _ (h10)).trans (Bz_get _ k (by rw [hh]; omega)))) ?_
      refine st_p (o_hText 932 8) (cN ((h.getD k 0).toNat / 16)) (exec_cast (v := .int .u8 (IntKind.u8.wrap (((h.getD k 0).toNat / 16 : Nat) : Int))) (congrArg (Value.int .u8) (small8 _ (by have := (h.getD k 0).toNat_lt; omega))) (by kernel_rfl)) ?_
      refine st_p (o_hText 932 9) (cN ((h.getD k 0).toNat / 16 + 1)) (exec_cast (v := .int .u8 (IntKind.u8.wrap ((((h.getD k 0).toNat / 16 : Nat) : Int) + 1))) (congrArg (Value.int .u8) ((show IntKind.u8.wrap ((((h.getD k 0).toNat / 16 : Nat) : Int) + 1) = _ from small8 ((h.getD k 0).toNat / 16 + 1) (by have := (h.getD k 0).toNat_lt; omega)))) (by kernel_rfl)) ?_
      refine st_p (o_hText 932 10) (.string ⟨[dig ((h.getD k 0).toNat / 16)].toArray⟩) (exec_slice_digs 9 (.const (.string ⟨digs.toArray⟩)) (.tmp 13) (.tmp 18) (by kernel_rfl) (by kernel_rfl) ((h.getD k 0).toNat / 16) (by have := (h.getD k 0).toNat_lt; omega) (by kernel_rfl) (by kernel_rfl) Try.underlying9) ?_
      refine st_p (o_hText 932 11) (.string ⟨(hexOf (h.take k) ++ [dig ((h.getD k 0).toNat / 16)]).toArray⟩) (exec_cat 9 (.tmp 9) (.tmp 19) (by kernel_rfl) (hexOf (h.take k)) [dig ((h.getD k 0).toNat / 16)] (by kernel_rfl) (by kernel_rfl) (by rw [hexOf_len, List.length_take]; simp only [List.length_cons, List.length_nil]; omega)) ?_
      refine st_k (o_hText 932 12) (iN k) ?_
      refine st_p (o_hText 932 13) (pT gb k) (exec_cast (v := pT gb (0 + k * 1)) (by simp) (exec_indexAt_arr 29 (.tmp 1) (.tmp 21) (by kernel_rfl) gb 0 (by kernel_rfl) .i64 k (by kernel_rfl) _ _ 1 Try.underlying29 (by kernel_rfl) (by omega))) ?_
      refine st_p (o_hText 932 14) (cN ((h.getD k 0).toNat)) (exec_load_cell 5 (.tmp 22) (by kernel_rfl) ⟨gb, k, none⟩ (by kernel_rfl) _ _ Try.underlying5 rfl ((cell_of_row _ _ _ _ _ _ (h10)).trans (Bz_get _ k (by rw [hh]; omega)))) ?_
      refine st_k (o_hText 932 15) (cN ((h.getD k 0).toNat % 16)) ?_
      refine st_k (o_hText 932 16) (iN k) ?_
      refine st_p (o_hText 932 17) (pT gb k) (exec_cast (v := pT gb (0 + k * 1)) (by simp) (exec_indexAt_arr 29 (.tmp 1) (.tmp 25) (by kernel_rfl) gb 0 (by kernel_rfl) .i64 k (by kernel_rfl) _ _ 1 Try.underlying29 (by kernel_rfl) (by omega))) ?_
      refine st_p (o_hText 932 18) (cN ((h.getD k 0).toNat)) (exec_load_cell 5 (.tmp 26) (by kernel_rfl) ⟨gb, k, none⟩ (by kernel_rfl) _ _ Try.underlying5 rfl ((cell_of_row _ _ _ _ _ _ (h10)).trans (Bz_get _ k (by rw [hh]; omega)))) ?_
      refine st_k (o_hText 932 19) (cN ((h.getD k 0).toNat % 16)) ?_
      refine st_p (o_hText 932 20) (cN ((h.getD k 0).toNat % 16 + 1)) (exec_cast (v := .int .u8 (IntKind.u8.wrap ((((h.getD k 0).toNat % 16 : Nat) : Int) + 1))) (congrArg (Value.int .u8) ((show IntKind.u8.wrap ((((h.getD k 0).toNat % 16 : Nat) : Int) + 1) = _ from small8 ((h.getD k 0).toNat % 16 + 1) (by have := (h.getD k 0).toNat_lt; omega)))) (by kernel_rfl)) ?_
      refine st_p (o_hText 932 21) (.string ⟨[dig ((h.getD k 0).toNat % 16)].toArray⟩) (exec_slice_digs 9 (.const (.string ⟨digs.toArray⟩)) (.tmp 24) (.tmp 29) (by kernel_rfl) (by kernel_rfl) ((h.getD k 0).toNat % 16) (by have := (h.getD k 0).toNat_lt; omega) (by kernel_rfl) (by kernel_rfl) Try.underlying9) ?_
      refine st_p (o_hText 932 22) (.string ⟨(hexOf (h.take (k + 1))).toArray⟩) (exec_cast (congrArg (fun l : List UInt8 => Value.string ⟨l.toArray⟩) (hexOf_snoc h k (by omega))) (exec_cat 9 (.tmp 20) (.tmp 30) (by kernel_rfl) (hexOf (h.take k) ++ [dig ((h.getD k 0).toNat / 16)]) [dig ((h.getD k 0).toNat % 16)] (by kernel_rfl) (by kernel_rfl) (by rw [List.length_append, hexOf_len, List.length_take]; simp only [List.length_cons, List.length_nil]; omega))) ?_
      refine st_end ?_
      refine ls_run (o_hText 932 23) (.string ⟨(hexOf (h.take (k + 1))).toArray⟩) (w' := V9) (by kernel_rfl) (by kernel_rfl) ?_
      refine ls_end ?_
      refine sy_a ⟨#[.agg (B h).toArray, pT gb 0, .string { data := #[] }, .string ⟨(hexOf (h.take (k + 1))).toArray⟩, iN k, iN k, .bool true, u7, u8, .string ⟨(hexOf (h.take k)).toArray⟩, iN k, pT gb k, cN ((h.getD k 0).toNat), cN ((h.getD k 0).toNat / 16), iN k, pT gb k, cN ((h.getD k 0).toNat), cN ((h.getD k 0).toNat / 16), cN ((h.getD k 0).toNat / 16 + 1), .string ⟨[dig ((h.getD k 0).toNat / 16)].toArray⟩, .string ⟨(hexOf (h.take k) ++ [dig ((h.getD k 0).toNat / 16)]).toArray⟩, iN k, pT gb k, cN ((h.getD k 0).toNat), cN ((h.getD k 0).toNat % 16), iN k, pT gb k, cN ((h.getD k 0).toNat), cN ((h.getD k 0).toNat % 16), cN ((h.getD k 0).toNat % 16 + 1), .string ⟨[dig ((h.getD k 0).toNat % 16)].toArray⟩, .string ⟨(hexOf (h.take (k + 1))).toArray⟩, undef], []⟩ ?_
      refine blk_n ?_
      refine then_n ?_
      refine sy_reg ?_
      refine rg_plain 4 (opsAt (part_hText 467)) [0, 1, 2] (by kernel_rfl) (by kernel_rfl) ?_
      refine ps_k (o_hText 467 0) (iN k) ?_
      refine ps_p (o_hText 467 1) (iN (k + 1)) (exec_cast (congrArg (Value.int .i64) (wrapN (k + 1) (by omega))) (by kernel_rfl)) ?_
      refine ps_k (o_hText 467 2) (iN (k + 1)) ?_
      refine ps_end ?_
      refine sy_a ⟨#[.agg (B h).toArray, pT gb 0, .string { data := #[] }, .string ⟨(hexOf (h.take (k + 1))).toArray⟩, iN (k + 1), iN k, .bool true, iN k, iN (k + 1), .string ⟨(hexOf (h.take k)).toArray⟩, iN k, pT gb k, cN ((h.getD k 0).toNat), cN ((h.getD k 0).toNat / 16), iN k, pT gb k, cN ((h.getD k 0).toNat), cN ((h.getD k 0).toNat / 16), cN ((h.getD k 0).toNat / 16 + 1), .string ⟨[dig ((h.getD k 0).toNat / 16)].toArray⟩, .string ⟨(hexOf (h.take k) ++ [dig ((h.getD k 0).toNat / 16)]).toArray⟩, iN k, pT gb k, cN ((h.getD k 0).toNat), cN ((h.getD k 0).toNat % 16), iN k, pT gb k, cN ((h.getD k 0).toNat), cN ((h.getD k 0).toNat % 16), cN ((h.getD k 0).toNat % 16 + 1), .string ⟨[dig ((h.getD k 0).toNat % 16)].toArray⟩, .string ⟨(hexOf (h.take (k + 1))).toArray⟩, undef], []⟩ ?_
      refine then_n ?_
      refine ⟨⟨k + 1, (iN k), (.bool true), (iN k), (iN (k + 1)), (.string ⟨(hexOf (h.take k)).toArray⟩), (iN k), (pT gb k), (cN ((h.getD k 0).toNat)), (cN ((h.getD k 0).toNat / 16)), (iN k), (pT gb k), (cN ((h.getD k 0).toNat)), (cN ((h.getD k 0).toNat / 16)), (cN ((h.getD k 0).toNat / 16 + 1)), (.string ⟨[dig ((h.getD k 0).toNat / 16)].toArray⟩), (.string ⟨(hexOf (h.take k) ++ [dig ((h.getD k 0).toNat / 16)]).toArray⟩), (iN k), (pT gb k), (cN ((h.getD k 0).toNat)), (cN ((h.getD k 0).toNat % 16)), (iN k), (pT gb k), (cN ((h.getD k 0).toNat)), (cN ((h.getD k 0).toNat % 16)), (cN ((h.getD k 0).toNat % 16 + 1)), (.string ⟨[dig ((h.getD k 0).toNat % 16)].toArray⟩), (.string ⟨(hexOf (h.take (k + 1))).toArray⟩), by kernel_rfl, by omega, h10, K11⟩, ?_⟩
      exact lt_meas (x := 32 - (k + 1)) (y := 32 - k) (by kernel_rfl) (by kernel_rfl) (by omega)
    · have eq_k : k = 32 := by omega
      refine sy_sq (part_hText 232) (part_hText 233) ?_
      refine sy_sq (part_hText 464) (part_hText 465) ?_
      refine sy_reg ?_
      refine rg_plain 3 (opsAt (part_hText 464)) [0, 1] (by kernel_rfl) (by kernel_rfl) ?_
      refine ps_k (o_hText 464 0) (iN k) ?_
      refine ps_p (o_hText 464 1) (.bool false) (exec_cast (congrArg Value.bool (show (decide ((((k : Nat) : Int)) < ((32) : Int))) = false from by simp only [decide_eq_false_iff_not]; omega)) (by kernel_rfl)) ?_
      refine ps_end ?_
      refine sy_a ⟨#[.agg (B h).toArray, pT gb 0, .string { data := #[] }, .string ⟨(hexOf (h.take k)).toArray⟩, iN k, iN k, .bool false, u7, u8, u9, u10, u11, u12, u13, u14, u15, u16, u17, u18, u19, u20, u21, u22, u23, u24, u25, u26, u27, u28, u29, u30, u31, undef], []⟩ ?_
      refine then_n ?_
      refine sy_n (.tmp 6) (part_hText 930) (part_hText 931) ?_
      refine sy_exit 0 (by kernel_rfl) ?_
      refine then_e ?_
      refine then_e ?_
      refine blk_e ?_
      refine then_n ?_
      refine sy_sq (part_hText 30) (part_hText 31) ?_
      refine sy_reg ?_
      refine rg_plain 6 (opsAt (part_hText 30)) [0, 1] (by kernel_rfl) (by kernel_rfl) ?_
      refine ps_k (o_hText 30 0) (.string ⟨(hexOf (h.take k)).toArray⟩) ?_
      refine ps_k (o_hText 30 1) (.string ⟨(hexOf (h.take k)).toArray⟩) ?_
      refine ps_end ?_
      refine sy_a ⟨#[.agg (B h).toArray, pT gb 0, .string ⟨(hexOf (h.take k)).toArray⟩, .string ⟨(hexOf (h.take k)).toArray⟩, iN k, iN k, .bool false, u7, u8, u9, u10, u11, u12, u13, u14, u15, u16, u17, u18, u19, u20, u21, u22, u23, u24, u25, u26, u27, u28, u29, u30, u31, .string ⟨(hexOf (h.take k)).toArray⟩], []⟩ ?_
      refine then_n ?_
      refine sy_ret (by kernel_rfl) ?_
      refine sy_out (.string ⟨(hexOf (h.take k)).toArray⟩) rfl (by kernel_rfl) ?_
      exact ⟨by rw [eq_k, List.take_of_length_le (by omega)], K7⟩
end Go.Proofs.Ytolbdhgclcemlaa
