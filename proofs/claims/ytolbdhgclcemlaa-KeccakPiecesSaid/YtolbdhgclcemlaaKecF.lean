/-
  Keccak: texts of hashes (printed by kec5.py). Conditions: none.
-/
import Derived.Test.YtolbdhgclcemlaaKecE
import Derived.Test.YtolbdhgclcemlaaKecV
import Derived.Test.YtolbdhgclcemlaaSym2
namespace Go.Proofs.Ytolbdhgclcemlaa
open Go Go.RowKit Go.Own Go.Shelf
theorem u8_infoK : (Try.prog.info? 5).map (fun i => (i.zero, i.size, i.bytes)) = some (some (.int .u8 0), 1, 1) := by kernel_rfl
/-- The digits of base 16. -/
def digs : List UInt8 := [48, 49, 50, 51, 52, 53, 54, 55, 56, 57, 97, 98, 99, 100, 101, 102]
def dig (k : Nat) : UInt8 := digs.getD k 0
theorem dig_at (k : Nat) (h : k < 16) : digs[k]? = some (dig k) := getD_some digs k (by simpa [digs] using h)
def hexOf (h : List UInt8) : List UInt8 := h.flatMap fun c => [dig (c.toNat / 16), dig (c.toNat % 16)]
theorem hexOf_len (h : List UInt8) : (hexOf h).length = 2 * h.length := by induction h with | nil => rfl | cons c r ih => simp only [hexOf, List.flatMap_cons, List.length_append, List.length_cons, List.length_nil] at *; omega
theorem hexOf_step (h : List UInt8) (k : Nat) (hk : k < h.length) : B (hexOf (h.take (k + 1))) = B (hexOf (h.take k)) ++ [.int .u8 (((dig ((h.getD k 0).toNat / 16)).toNat : Nat) : Int), .int .u8 (((dig ((h.getD k 0).toNat % 16)).toNat : Nat) : Int)] := by
  rw [List.take_succ_eq_append_getElem hk, hexOf, List.flatMap_append, B_append]
  have : h.getD k 0 = h[k] := by rw [List.getD_eq_getElem?_getD, List.getElem?_eq_getElem hk]; rfl
  rw [this]; rfl
theorem shr4_fin : ∀ c : Fin 256, bits .and .u8 ((c.val : Nat) : Int) 15 = ((c.val % 16 : Nat) : Int) := by decide +kernel
theorem and15 (c : UInt8) : bits .and .u8 ((c.toNat : Nat) : Int) 15 = ((c.toNat % 16 : Nat) : Int) := shr4_fin ⟨c.toNat, c.toNat_lt⟩
theorem run_shr4 {P : Program} {w : World} (t : TypeId) (yk : IntKind) (c : UInt8) : (binOp .shr t (.int .u8 ((c.toNat : Nat) : Int)) (.int yk 4)).run P w = .ok (.int .u8 ((c.toNat / 16 : Nat) : Int)) w := by
  rw [binOp_shr, shift_shr .u8 yk _ 4 (by omega) (by show (4 : Int) ≤ 8; omega)]
  have e : ((c.toNat : Nat) : Int) / 2 ^ (4 : Int).toNat = ((c.toNat / 16 : Nat) : Int) := by
    rw [show (2 : Int) ^ (4 : Int).toNat = 16 from rfl]; omega
  rw [e]; rfl
theorem rows_apart {B : Nat} {v v' : Value} (h : NewFrom B v) (h' : NewFrom B v') : ∀ j, v.ownBlock = some j → ¬ v'.ownBlock = some j → True := fun _ _ _ => trivial


noncomputable def part_kText (n : Nat) : Code := partOf Try.f27 n
noncomputable abbrev o_kText (n k : Nat) : Oper := (opsAt (part_kText n)).getD k default
set_option maxRecDepth 100000 in
set_option maxHeartbeats 4000000 in
theorem kText_ok (h : List UInt8) (w : World) (hh : h.length = 32) :
    Calls Try.prog 27 #[.agg (B h).toArray] w (fun e w' => e = .returned (.string ⟨(hexOf h).toArray⟩) ∧ Keeps Nob w w') := by
  obtain ⟨i0, hi, hz0, hz1, hz2⟩ := info_parts u8_infoK
  have r0 : Row w 5 1 (.slice none 0 0) (2 * 0) (B (hexOf (h.take 0))) := World.ownsRow_nil _ _ _ _
  have nw0 := NewFrom.nil w.heap.size
  have K0 : Keeps Nob w w := Keeps.refl _ _
  refine sy_enter (part_kText 1) ⟨#[.agg (B h).toArray, undef, undef, undef, undef, undef, undef, undef, undef, undef, undef, undef, undef, undef, undef, undef, undef, undef, undef, undef, undef, undef], []⟩ Try.func27 (by kernel_rfl) (by kernel_rfl) ?_
  refine sy_sq (part_kText 2) (part_kText 3) ?_
  refine sy_reg ?_
  refine rg_plain 0 (opsAt (part_kText 2)) [0, 1] (by kernel_rfl) (by kernel_rfl) ?_
  obtain ⟨V1, eV1⟩ : ∃ V, w.alloc (.cells ((B h).toArray) 29) = V := ⟨_, rfl⟩
  obtain ⟨gb, egb⟩ : ∃ g, w.heap.size = g := ⟨_, rfl⟩
  have n3 : w.heap.size ≤ gb := egb ▸ K0.size
  have h2 : V1.heap[gb]? = some (.cells ((B h).toArray) 29 (0, 0)) := by rw [← eV1, ← egb]; exact heap_alloc_new _ _
  have kV1 : Keeps Nob w V1 := eV1 ▸ (Keeps.refl _ _).alloc _
  refine ps_run (o_kText 2 0) (pT gb 0) (w' := V1) (by kernel_rfl) (by kernel_rfl) (by rw [← eV1, ← egb]; exact exec_box 29 (.tmp 0) (by kernel_rfl) (.agg (B h).toArray) (by kernel_rfl)) ?_
  clear eV1
  have h4 : Row V1 5 1 (.slice none 0 0) (2 * 0) (B (hexOf (h.take 0))) := r0.keeps kV1 (fun _ _ x => x)
  have K5 : Keeps Nob w V1 := K0.then kV1 (fun _ _ x => x.elim)
  refine ps_k (o_kText 2 1) (.string { data := #[] }) ?_
  refine ps_end ?_
  refine sy_a ⟨#[.agg (B h).toArray, pT gb 0, .string { data := #[] }, undef, undef, undef, undef, undef, undef, undef, undef, undef, undef, undef, undef, undef, undef, undef, undef, undef, undef, undef], []⟩ ?_
  refine then_n ?_
  refine sy_sq (part_kText 6) (part_kText 7) ?_
  refine sy_reg ?_
  refine rg_plain 1 (opsAt (part_kText 6)) [0] (by kernel_rfl) (by kernel_rfl) ?_
  refine ps_k (o_kText 6 0) (.slice none 0 0) ?_
  refine ps_end ?_
  refine sy_a ⟨#[.agg (B h).toArray, pT gb 0, .string { data := #[] }, .slice none 0 0, undef, undef, undef, undef, undef, undef, undef, undef, undef, undef, undef, undef, undef, undef, undef, undef, undef, undef], []⟩ ?_
  refine then_n ?_
  refine sy_sq (part_kText 14) (part_kText 15) ?_
  refine sy_sq (part_kText 28) (part_kText 29) ?_
  refine sy_reg ?_
  refine rg_plain 2 (opsAt (part_kText 28)) [0, 1] (by kernel_rfl) (by kernel_rfl) ?_
  refine ps_p (o_kText 28 0) (.agg ((B h).toArray)) (exec_load_row 29 (.tmp 1) (by kernel_rfl) gb (by kernel_rfl) _ _ (0, 0) _ (h2) Try.underlying29 rfl (by rw [Bz_size, hh]; kernel_rfl)) ?_
  refine ps_k (o_kText 28 1) (.int .i64 0) ?_
  refine ps_end ?_
  refine sy_a ⟨#[.agg (B h).toArray, pT gb 0, .string { data := #[] }, .slice none 0 0, undef, undef, .agg ((B h).toArray), .int .i64 0, undef, undef, undef, undef, undef, undef, undef, undef, undef, undef, undef, undef, undef, undef], []⟩ ?_
  refine then_n ?_
  refine sy_bk 0 (part_kText 58) ?_
  refine sy_loop (part_kText 116) (fun a V => ∃ (k : Nat) (v : Value) (u5 u8 u9 u10 u11 u12 u13 u14 u15 u16 u17 u18 u19 : Value), (a = ⟨#[.agg (B h).toArray, pT gb 0, .string { data := #[] }, v, undef, u5, .agg ((B h).toArray), iN k, u8, u9, u10, u11, u12, u13, u14, u15, u16, u17, u18, u19, undef, undef], []⟩) ∧ (k ≤ 32) ∧ (Row V 5 1 v (2 * k) (B (hexOf (h.take k)))) ∧ (Keeps Nob w V) ∧ (NewFrom w.heap.size v)) (fun a _ => 32 - (intOf (a.tmps.getD 7 undef)).toNat) (by kernel_rfl) ?_ ?_
  · exact ⟨0, .slice none 0 0, undef, undef, undef, undef, undef, undef, undef, undef, undef, undef, undef, undef, undef, by kernel_rfl, by omega, h4, K5, NewFrom.nil _⟩
  · rintro a V6 ⟨k, v, u5, u8, u9, u10, u11, u12, u13, u14, u15, u16, u17, u18, u19, rfl, hk, h7, K8, hnw⟩
    by_cases lt_k : k < 32
    · show _
      refine sy_sq (part_kText 232) (part_kText 233) ?_
      refine sy_reg ?_
      refine rg_plain 3 (opsAt (part_kText 232)) [0] (by kernel_rfl) (by kernel_rfl) ?_
      refine ps_p (o_kText 232 0) (.bool true) (exec_cast (congrArg Value.bool (show (decide ((((k : Nat) : Int)) < ((32) : Int))) = true from by simp only [decide_eq_true_eq]; omega)) (by kernel_rfl)) ?_
      refine ps_end ?_
      refine sy_a ⟨#[.agg (B h).toArray, pT gb 0, .string { data := #[] }, v, undef, u5, .agg ((B h).toArray), iN k, .bool true, u9, u10, u11, u12, u13, u14, u15, u16, u17, u18, u19, undef, undef], []⟩ ?_
      refine then_n ?_
      refine sy_sq (part_kText 466) (part_kText 467) ?_
      refine sy_ys (.tmp 8) (part_kText 932) (part_kText 933) ?_
      refine sy_sk ?_
      refine then_n ?_
      refine sy_sq (part_kText 934) (part_kText 935) ?_
      refine sy_bk 1 (part_kText 1868) ?_
      refine sy_sq (part_kText 3736) (part_kText 3737) ?_
      refine sy_reg ?_
      refine rg_plain 4 (opsAt (part_kText 3736)) [0, 1] (by kernel_rfl) (by kernel_rfl) ?_
      refine ps_p (o_kText 3736 0) (cN ((h.getD k 0).toNat)) (exec_index_arr 29 (.tmp 6) (.tmp 7) (by kernel_rfl) (B h).toArray (by kernel_rfl) .i64 k (by kernel_rfl) 32 5 Try.underlying29 (by kernel_rfl) (by kernel_rfl) (by omega) _ (Bz_get h k (by omega))) ?_
      refine ps_k (o_kText 3736 1) (cN ((h.getD k 0).toNat)) ?_
      refine ps_end ?_
      refine sy_a ⟨#[.agg (B h).toArray, pT gb 0, .string { data := #[] }, v, undef, cN ((h.getD k 0).toNat), .agg ((B h).toArray), iN k, .bool true, cN ((h.getD k 0).toNat), u10, u11, u12, u13, u14, u15, u16, u17, u18, u19, undef, undef], []⟩ ?_
      refine then_n ?_
      refine sy_np ?_
      refine sy_reg ?_
      refine an_begin 5 10 (opsAt (part_kText 3737)) (fun W => True) #[false, false, false, false, false, false, false, false, false, false] (by kernel_rfl) (by kernel_rfl) (by kernel_rfl) (by kernel_rfl) ?_
      obtain ⟨V9, eV9⟩ : ∃ V, V6.drew = V := ⟨_, rfl⟩
      have kV9 : Keeps Nob V6 V9 := eV9 ▸ (Keeps.refl _ _).drew
      rw [eV9]
      clear eV9
      have h10 : Row V9 5 1 v (2 * k) (B (hexOf (h.take k))) := h7.keeps kV9 (fun _ _ x => x)
      have K11 : Keeps Nob w V9 := K8.then kV9 (fun _ _ x => x.elim)
      refine an_val 0 (o_kText 3737 0) (v) (by kernel_rfl) (by kernel_rfl) (by kernel_rfl) (by kernel_rfl) (by kernel_rfl) (fun W hS => by kernel_rfl) trivial ?_
      refine an_val 1 (o_kText 3737 1) (cN ((h.getD k 0).toNat)) (by kernel_rfl) (by kernel_rfl) (by kernel_rfl) (by kernel_rfl) (by kernel_rfl) (fun W hS => by kernel_rfl) trivial ?_
      refine an_val 2 (o_kText 3737 2) (cN ((h.getD k 0).toNat / 16)) (by kernel_rfl) (by kernel_rfl) (by kernel_rfl) (by kernel_rfl) (by kernel_rfl) (fun W hS => exec_binop .shr 5 70 (.tmp 11) (.const (.int .u64 4)) (by kernel_rfl) (cN ((h.getD k 0).toNat)) (.int .u64 4) _ (by kernel_rfl) (by kernel_rfl) (by kernel_rfl) (run_shr4 _ _ (h.getD k 0))) trivial ?_
      refine an_val 3 (o_kText 3737 3) (cN ((dig ((h.getD k 0).toNat / 16)).toNat)) (by kernel_rfl) (by kernel_rfl) (by kernel_rfl) (by kernel_rfl) (by kernel_rfl) (fun W hS => exec_index_str 9 (.const (.string ⟨digs.toArray⟩)) (.tmp 12) (by kernel_rfl) digs (by kernel_rfl) .u8 ((h.getD k 0).toNat / 16) (by kernel_rfl) Try.underlying9 _ (dig_at _ (by have := (h.getD k 0).toNat_lt; omega))) trivial ?_
      refine an_val 4 (o_kText 3737 4) (cN ((h.getD k 0).toNat)) (by kernel_rfl) (by kernel_rfl) (by kernel_rfl) (by kernel_rfl) (by kernel_rfl) (fun W hS => by kernel_rfl) trivial ?_
      refine an_val 5 (o_kText 3737 5) (cN ((h.getD k 0).toNat % 16)) (by kernel_rfl) (by kernel_rfl) (by kernel_rfl) (by kernel_rfl) (by kernel_rfl) (fun W hS => exec_cast (congrArg (Value.int .u8) (and15 (h.getD k 0))) (by kernel_rfl)) trivial ?_
      refine an_val 6 (o_kText 3737 6) (cN ((dig ((h.getD k 0).toNat % 16)).toNat)) (by kernel_rfl) (by kernel_rfl) (by kernel_rfl) (by kernel_rfl) (by kernel_rfl) (fun W hS => exec_index_str 9 (.const (.string ⟨digs.toArray⟩)) (.tmp 15) (by kernel_rfl) digs (by kernel_rfl) .u8 ((h.getD k 0).toNat % 16) (by kernel_rfl) Try.underlying9 _ (dig_at _ (by omega))) trivial ?_
      refine an_one 7 (by kernel_rfl) ?_
      obtain ⟨V12, eV12⟩ : ∃ V, V9.alloc (.cells (#[.int .u8 (((dig ((h.getD k 0).toNat / 16)).toNat : Nat) : Int), .int .u8 (((dig ((h.getD k 0).toNat % 16)).toNat : Nat) : Int)]) 5) = V := ⟨_, rfl⟩
      obtain ⟨gs, egs⟩ : ∃ g, V9.heap.size = g := ⟨_, rfl⟩
      have n14 : w.heap.size ≤ gs := egs ▸ K11.size
      have h13 : V12.heap[gs]? = some (.cells (#[.int .u8 (((dig ((h.getD k 0).toNat / 16)).toNat : Nat) : Int), .int .u8 (((dig ((h.getD k 0).toNat % 16)).toNat : Nat) : Int)]) 5 (0, 0)) := by rw [← eV12, ← egs]; exact heap_alloc_new _ _
      have kV12 : Keeps Nob V9 V12 := eV12 ▸ (Keeps.refl _ _).alloc _
      refine on_run (o_kText 3737 7) (.slice (some ⟨gs, 0, none⟩) 2 2) (w' := V12) (by kernel_rfl) (by kernel_rfl) (by rw [← eV12, ← egs]; kernel_rfl) ?_
      clear eV12
      have h15 : Row V12 5 1 v (2 * k) (B (hexOf (h.take k))) := h10.keeps kV12 (fun _ _ x => x)
      have K16 : Keeps Nob w V12 := K11.then kV12 (fun _ _ x => x.elim)
      refine ⟨trivial, ?_⟩
      refine an_one 8 (by kernel_rfl) ?_
      obtain ⟨v17, V18, hr19, h20, hg21, hn22, ha23⟩ := run_append_any (P := Try.prog) (w := V12) 22 (Oper.type (o_kText 3737 8)) 5 i0 (.int .u8 0) 1 1 Try.underlying22 hi hz0 hz1 hz2 rfl (by decide) v (2 * k) (B (hexOf (h.take k))) h15 (.slice (some ⟨gs, 0, none⟩) 2 2) 2 (#[.int .u8 (((dig ((h.getD k 0).toNat / 16)).toNat : Nat) : Int), .int .u8 (((dig ((h.getD k 0).toNat % 16)).toNat : Nat) : Int)].toList) (src_block h13 1 2 rfl (by kernel_rfl)) (by unfold maxLen; omega) (by omega)
      have kV18 : Keeps (fun j => v.ownBlock = some j) V12 V18 := Keeps.rowAdd hg21
      have hw24 : NewFrom w.heap.size v17 := hnw.next K16.size ha23
      refine on_run (o_kText 3737 8) v17 (w' := V18) (by kernel_rfl) (by kernel_rfl) (exec_append (.tmp 10) (.tmp 17) 22 (by kernel_rfl) v (.slice (some ⟨gs, 0, none⟩) 2 2) (by kernel_rfl) (by kernel_rfl) hr19) ?_
      have h25 : Row V18 5 1 v17 (2 * (k + 1)) (B (hexOf (h.take (k + 1)))) := (by rw [hexOf_step h k (by omega)]; exact h20)
      have K26 : Keeps Nob w V18 := K16.then kV18 (fun i hi hm => absurd hi (by have := hnw i hm; omega))
      refine ⟨trivial, ?_⟩
      refine an_one 9 (by kernel_rfl) ?_
      refine on_run (o_kText 3737 9) (v17) (w' := V18) (by kernel_rfl) (by kernel_rfl) (by kernel_rfl) ?_
      refine ⟨trivial, ?_⟩
      refine an_end (by kernel_rfl) ?_
      refine sy_a ⟨#[.agg (B h).toArray, pT gb 0, .string { data := #[] }, v17, undef, cN ((h.getD k 0).toNat), .agg ((B h).toArray), iN k, .bool true, cN ((h.getD k 0).toNat), v, cN ((h.getD k 0).toNat), cN ((h.getD k 0).toNat / 16), cN ((dig ((h.getD k 0).toNat / 16)).toNat), cN ((h.getD k 0).toNat), cN ((h.getD k 0).toNat % 16), cN ((dig ((h.getD k 0).toNat % 16)).toNat), .slice (some ⟨gs, 0, none⟩) 2 2, v17, u19, undef, undef], []⟩ ?_
      refine blk_n ?_
      refine then_n ?_
      refine sy_reg ?_
      refine rg_plain 6 (opsAt (part_kText 935)) [0, 1] (by kernel_rfl) (by kernel_rfl) ?_
      refine ps_p (o_kText 935 0) (iN (k + 1)) (exec_cast (congrArg (Value.int .i64) (wrapN (k + 1) (by omega))) (by kernel_rfl)) ?_
      refine ps_k (o_kText 935 1) (iN (k + 1)) ?_
      refine ps_end ?_
      refine sy_a ⟨#[.agg (B h).toArray, pT gb 0, .string { data := #[] }, v17, undef, cN ((h.getD k 0).toNat), .agg ((B h).toArray), iN (k + 1), .bool true, cN ((h.getD k 0).toNat), v, cN ((h.getD k 0).toNat), cN ((h.getD k 0).toNat / 16), cN ((dig ((h.getD k 0).toNat / 16)).toNat), cN ((h.getD k 0).toNat), cN ((h.getD k 0).toNat % 16), cN ((dig ((h.getD k 0).toNat % 16)).toNat), .slice (some ⟨gs, 0, none⟩) 2 2, v17, iN (k + 1), undef, undef], []⟩ ?_
      refine then_n ?_
      refine ⟨⟨k + 1, v17, (cN ((h.getD k 0).toNat)), (.bool true), (cN ((h.getD k 0).toNat)), v, (cN ((h.getD k 0).toNat)), (cN ((h.getD k 0).toNat / 16)), (cN ((dig ((h.getD k 0).toNat / 16)).toNat)), (cN ((h.getD k 0).toNat)), (cN ((h.getD k 0).toNat % 16)), (cN ((dig ((h.getD k 0).toNat % 16)).toNat)), (.slice (some ⟨gs, 0, none⟩) 2 2), v17, (iN (k + 1)), by kernel_rfl, by omega, h25, K26, hw24⟩, ?_⟩
      exact lt_meas (x := 32 - (k + 1)) (y := 32 - k) (by kernel_rfl) (by kernel_rfl) (by omega)
    · have eq_k : k = 32 := by omega
      refine sy_sq (part_kText 232) (part_kText 233) ?_
      refine sy_reg ?_
      refine rg_plain 3 (opsAt (part_kText 232)) [0] (by kernel_rfl) (by kernel_rfl) ?_
      refine ps_p (o_kText 232 0) (.bool false) (exec_cast (congrArg Value.bool (show (decide ((((k : Nat) : Int)) < ((32) : Int))) = false from by simp only [decide_eq_false_iff_not]; omega)) (by kernel_rfl)) ?_
      refine ps_end ?_
      refine sy_a ⟨#[.agg (B h).toArray, pT gb 0, .string { data := #[] }, v, undef, u5, .agg ((B h).toArray), iN k, .bool false, u9, u10, u11, u12, u13, u14, u15, u16, u17, u18, u19, undef, undef], []⟩ ?_
      refine then_n ?_
      refine sy_sq (part_kText 466) (part_kText 467) ?_
      refine sy_n (.tmp 8) (part_kText 932) (part_kText 933) ?_
      refine sy_exit 0 (by kernel_rfl) ?_
      refine then_e ?_
      refine then_e ?_
      refine blk_e ?_
      refine then_n ?_
      refine sy_sq (part_kText 30) (part_kText 31) ?_
      refine sy_reg ?_
      refine rg_plain 7 (opsAt (part_kText 30)) [0, 1, 2] (by kernel_rfl) (by kernel_rfl) ?_
      refine ps_k (o_kText 30 0) (v) ?_
      refine ps_run (o_kText 30 1) (.string ⟨(hexOf h).toArray⟩) (w' := V6) (by kernel_rfl) (by kernel_rfl) (exec_convert 22 9 (.tmp 20) (by kernel_rfl) v (by kernel_rfl) ((Row.bytes (show Row _ 5 1 v (hexOf h).length (B (hexOf h)) from by rw [hexOf_len, hh]; have e := h7; rw [List.take_of_length_le (by omega)] at e; rwa [eq_k] at e)).str (P := Try.prog) (src := 22) (dst := 9) (e := 5) Try.underlying22 Try.underlying5 Try.underlying9)) ?_
      refine ps_k (o_kText 30 2) (.string ⟨(hexOf h).toArray⟩) ?_
      refine ps_end ?_
      refine sy_a ⟨#[.agg (B h).toArray, pT gb 0, .string ⟨(hexOf h).toArray⟩, v, undef, u5, .agg ((B h).toArray), iN k, .bool false, u9, u10, u11, u12, u13, u14, u15, u16, u17, u18, u19, v, .string ⟨(hexOf h).toArray⟩], []⟩ ?_
      refine then_n ?_
      refine sy_ret (by kernel_rfl) ?_
      refine sy_out (.string ⟨(hexOf h).toArray⟩) rfl (by kernel_rfl) ?_
      exact ⟨rfl, K8⟩
end Go.Proofs.Ytolbdhgclcemlaa
