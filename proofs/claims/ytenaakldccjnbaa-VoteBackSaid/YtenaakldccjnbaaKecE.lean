/-
  Keccak: hashes in pieces, Sum, Join (printed by kec4.py). Conditions: none.
-/
import Derived.Test.YtenaakldccjnbaaKecD
namespace Go.Proofs.Ytenaakldccjnbaa
open Go Go.RowKit Go.Own Go.Shelf
theorem SpAt.lt {w : World} {p : Nat} {l : List UInt8} (h : SpAt w p l) : p < w.heap.size := lt_of_block h
theorem SpAt.keeps {w w' : World} {M : Nat → Prop} {p : Nat} {l : List UInt8} (h : SpAt w p l) (k : Keeps M w w') (hm : ¬ M p) : SpAt w' p l := (k.block p (lt_of_block h) hm).trans h
theorem sp_nil : (Sp Kec.zero zero136 0 0) = Sp (Kec.stateOf []) (blkOf []) (([] : List UInt8).length % 136) ([] : List UInt8).length := by
  unfold Sp
  have : blkOf [] = zero136 := by simp [blkOf, zero136, Kec.restOf_nil]
  rw [this]; rfl

theorem Sp_one (s : List Nat) (blk : List UInt8) (n m : Nat) : (Sp s blk n m).all (·.oneCell') = true := by
  simp only [Array.all_eq_true_iff_forall_mem]
  intro x hx
  simp only [Sp, Array.mem_append, Wz, List.mem_toArray, List.mem_map, B] at hx
  rcases hx with (⟨j, _, rfl⟩ | ⟨j, _, rfl⟩) | hx
  · rfl
  · rfl
  · simp at hx; rcases hx with rfl | rfl <;> rfl
noncomputable def part_kSum (n : Nat) : Code := partOf Try.f38 n
noncomputable abbrev o_kSum (n k : Nat) : Oper := (opsAt (part_kSum n)).getD k default
set_option maxRecDepth 100000 in
set_option maxHeartbeats 4000000 in
theorem kSum_ok (x : List UInt8) (A : Option Addr) (cap : Nat) (w : World) (hx : BytesAt w (.slice A x.length cap) x) (hl : x.length ≤ 9000000000000000000) :
    Calls Try.prog 38 #[.slice A x.length cap] w (fun e w' => e = .returned (.agg (B (Kec.sum x)).toArray) ∧ Keeps Nob w w') := by
  have K0 : Keeps Nob w w := Keeps.refl _ _
  refine sy_enter (part_kSum 1) ⟨#[.slice A x.length cap, undef, undef, undef, undef, undef, undef, undef], []⟩ Try.func38 (by kernel_rfl) (by kernel_rfl) ?_
  refine sy_sq (part_kSum 2) (part_kSum 3) ?_
  refine sy_reg ?_
  refine rg_plain 0 (opsAt (part_kSum 2)) [0] (by kernel_rfl) (by kernel_rfl) ?_
  obtain ⟨V1, eV1, gr, egr, h2, kV1⟩ := alloc_step w (zr_u8_32) 26
  have n3 : w.heap.size ≤ gr := egr ▸ K0.size
  refine ps_r (o_kSum 2 0) (pT gr 0) (w' := V1) (by rw [← eV1, ← egr]; exact exec_alloc0 26 (by kernel_rfl) (.agg (zr_u8_32)) (by kernel_rfl)) ?_
  clear eV1
  have h4 : BytesAt V1 (.slice A x.length cap) x := hx.keepsN kV1
  have K5 := K0.nn kV1
  refine ps_end ?_
  refine then_n ?_
  refine sy_sq (part_kSum 6) (part_kSum 7) ?_
  refine sy_reg ?_
  refine rg_plain 1 (opsAt (part_kSum 6)) [0] (by kernel_rfl) (by kernel_rfl) ?_
  obtain ⟨V6, eV6, p, ep, h7, kV6⟩ := alloc_step V1 (Sp Kec.zero zero136 0 0) 90
  have n8 : gr < p := ep ▸ lt_of_block h2
  have n9 : w.heap.size ≤ p := ep ▸ K5.size
  refine ps_r (o_kSum 6 0) (pT p 0) (w' := V6) (by rw [← eV6, ← ep]; exact exec_alloc0 90 (by kernel_rfl) (.agg (Sp Kec.zero zero136 0 0)) (by kernel_rfl)) ?_
  clear eV6
  have h10 : BytesAt V6 (.slice A x.length cap) x := h4.keepsN kV6
  have h11 := kV6.bk h2
  have K12 := K5.nn kV6
  refine ps_end ?_
  refine then_n ?_
  refine sy_sq (part_kSum 14) (part_kSum 15) ?_
  refine sy_reg ?_
  refine rg_plain 2 (opsAt (part_kSum 14)) [0, 1] (by kernel_rfl) (by kernel_rfl) ?_
  refine ps_k (o_kSum 14 0) (.slice A x.length cap) ?_
  have h15 : SpAt V6 p [] := h7.trans (congrArg (fun c => some (Obj.cells c 90 (0, 0))) sp_nil)
  have hA2 : 0 < x.length → ∀ j, (Value.slice A x.length cap).ownBlock = some j → j ≠ p := fun hn j hj => by have := hx.blockLt hn j hj; omega
  refine ps_c (o_kSum 14 1) 66 #[pT p 0, .slice A x.length cap] Try.func66 ((kwrite_ok p [] x A cap _ h15 h10 hA2 (by simpa using hl)).mono ?_)
  rintro e V13 ⟨rfl, h14, kV13⟩
  refine ⟨_, rfl, ?_⟩
  have h16 : BytesAt V13 (.slice A x.length cap) x := h10.keeps0 kV13 (fun hn j hj e => by have := hx.blockLt hn j hj; unfold Own.One at e; omega)
  have h17 := kV13.bo h11 (by omega)
  have K18 := K12.no kV13 (by omega)
  refine ps_end ?_
  refine then_n ?_
  refine sy_sq (part_kSum 30) (part_kSum 31) ?_
  refine sy_reg ?_
  refine rg_plain 3 (opsAt (part_kSum 30)) [0, 1, 2] (by kernel_rfl) (by kernel_rfl) ?_
  refine ps_p (o_kSum 30 0) (.agg (Sp (Kec.stateOf x) (blkOf x) (x.length % 136) x.length)) (exec_load_row 90 (.tmp 3) (by kernel_rfl) p (by kernel_rfl) _ _ (0, 0) _ (h14) Try.underlying90 rfl (by rw [Sp_size _ _ _ _ (Kec.len_stateOf _) (blkOf_len _)]; kernel_rfl)) ?_
  refine ps_c (o_kSum 30 1) 67 #[.agg (Sp (Kec.stateOf x) (blkOf x) (x.length % 136) x.length)] Try.func67 ((ksum_ok x _).mono ?_)
  rintro e V19 ⟨rfl, kV19⟩
  refine ⟨_, rfl, ?_⟩
  have h20 : BytesAt V19 (.slice A x.length cap) x := h16.keepsN kV19
  have h21 := kV19.bk h17
  have h22 := kV19.bk h14
  have K23 := K18.nn kV19
  obtain ⟨V24, eV24, kV24⟩ := rowset_step V19 gr ((B (Kec.sum x)).toArray)
  have h25 : V24.heap[gr]? = some (.cells ((B (Kec.sum x)).toArray) 26 (0, 0)) := eV24 ▸ setRow_heap _ _ _ _ _ _ h21
  refine ps_s (o_kSum 30 2) (w' := V24) (by rw [← eV24]; exact exec_store_row 26 (.tmp 2) (.tmp 7) (by kernel_rfl) gr ((B (Kec.sum x)).toArray) (by kernel_rfl) (by kernel_rfl) 26 (zr_u8_32) h21 (by rw [Bz_size, Kec.sum_len]; kernel_rfl) (by rw [Bz_size, Kec.sum_len]; rfl) (by rw [List.all_toArray]; exact List.all_eq_true.2 (B_one _))) ?_
  clear eV24
  have h26 : BytesAt V24 (.slice A x.length cap) x := h20.keeps0 kV24 (fun hn j hj e => by have := hx.blockLt hn j hj; unfold Own.One at e; omega)
  have h27 := kV24.bo h22 (by omega)
  have K28 := K23.no kV24 (by omega)
  refine ps_end ?_
  refine then_n ?_
  refine sy_ret (by kernel_rfl) ?_
  refine sy_out (.agg ((B (Kec.sum x)).toArray)) rfl (results_cell_row (p := 2) (ty := 26) (by kernel_rfl) _ _ gr 26 ((B (Kec.sum x)).toArray) (0, 0) _ (by kernel_rfl) h25 Try.underlying26 rfl (by rw [Bz_size, Kec.sum_len]; kernel_rfl)) ?_
  exact ⟨rfl, K28⟩
end Go.Proofs.Ytenaakldccjnbaa
