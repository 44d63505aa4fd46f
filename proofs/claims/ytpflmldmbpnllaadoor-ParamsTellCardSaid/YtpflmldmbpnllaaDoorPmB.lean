/-
  Params: the fields gone through (printed by par2.py). Conditions: none.
-/
import Derived.Test.YtpflmldmbpnllaaDoorPmA
namespace Go.Proofs.YtpflmldmbpnllaaDoor
open Go Go.RowKit Go.Own Go.Shelf
theorem FieldsAt.glt {w : World} {g b : Nat} {ks : Nat → Nat} (h : FieldsAt w g b ks) : g < w.heap.size := World.block_lt_of_cell? w ⟨g, 0 * 5 + 0, none⟩ ((h.cell 0 0 (by omega) (by omega)).trans rfl)
theorem FieldsAt.klt {w : World} {g b : Nat} {ks : Nat → Nat} (h : FieldsAt w g b ks) (i : Nat) (hi : i < 11) : ks i < w.heap.size := World.block_lt_of_cell? w _ (h.box i hi)
theorem FieldsAt.keeps {M : Nat → Prop} {w w' : World} {g b N : Nat} {ks : Nat → Nat} (h : FieldsAt w g b ks) (k : Keeps M w w') (hg : ¬ M g) (hk : ∀ i, i < 11 → ¬ M (ks i)) : FieldsAt w' g b ks :=
  ⟨fun i j hi hj => (k.cell h.glt hg).trans (h.cell i j hi hj), fun i hi => (k.cell (h.klt i hi) (hk i hi)).trans (h.box i hi)⟩
theorem FieldsAt.keepsB {M : Nat → Prop} {w0 w w' : World} {g b : Nat} {ks : Nat → Nat} (h0 : FieldsAt w0 g b ks) (h : FieldsAt w g b ks) (k : Keeps M w w') (hM : ∀ j, j < w0.heap.size → ¬ M j) : FieldsAt w' g b ks :=
  h.keeps (N := 0) k (hM _ h0.glt) (fun i hi => hM _ (h0.klt i hi))
theorem FieldsAt.keepsN {w w' : World} {g b : Nat} {ks : Nat → Nat} (h : FieldsAt w g b ks) (k : Keeps Nob w w') : FieldsAt w' g b ks := h.keeps (N := 0) k (fun x => x) (fun _ _ x => x)
def fieldC (i k : Nat) : List Value := [.string (parName[i]?.getD ⟨#[]⟩), .int .u64 (parLoU[i]?.getD 0), .int .u64 (parHiU[i]?.getD 0), .func (.func (parGet[i]?.getD 0)) #[] #[.pointer (some ⟨k, 0, none⟩)], .func (.func (parSet[i]?.getD 0)) #[] #[.pointer (some ⟨k, 0, none⟩)]]
theorem FieldsAt.mid {w : World} {g b : Nat} {ks : Nat → Nat} (h : FieldsAt w g b ks) {i : Nat} (hi : i < 11) : ∀ (j : Nat) (v : Value), (fieldC i (ks i))[j]? = some v → w.cell? ⟨g, i * 5 + j, none⟩ = some v := fun j v hj => by
  have hj5 : j < 5 := (List.getElem?_eq_some_iff.1 hj).1
  refine (h.cell i j hi hj5).trans ?_
  have h' : j = 0 ∨ j = 1 ∨ j = 2 ∨ j = 3 ∨ j = 4 := by omega
  rcases h' with rfl | rfl | rfl | rfl | rfl <;> exact hj
theorem str_info0 : (Tryd.prog.info? 9).map (fun i => (i.zero, i.size, i.bytes)) = some (some (.string ⟨#[]⟩), 1, 16) := by kernel_rfl
theorem names_take {i : Nat} (hi : i < 11) : Tx (parName.take i) ++ [.string (parName[i]?.getD ⟨#[]⟩)] = Tx (parName.take (i + 1)) := by
  have h : parName[i]? = some (parName[i]?.getD ⟨#[]⟩) := by rw [List.getElem?_eq_getElem (by show i < 11; exact hi)]; rfl
  rw [List.take_add_one]
  conv => rhs; rw [h]
  simp [Tx]

noncomputable def part_pNames (n : Nat) : Code := partOf Tryd.f15 n
noncomputable abbrev o_pNames (n k : Nat) : Oper := (opsAt (part_pNames n)).getD k default
set_option maxRecDepth 100000 in
set_option maxHeartbeats 4000000 in
theorem pNames_ok (w : World) :
    Calls Tryd.prog 15 #[] w (fun e w' => ∃ v, e = .returned v ∧ Row w' 9 1 v 11 (Tx parName) ∧ NewFrom w.heap.size v ∧ Keeps Nob w w') := by
  obtain ⟨i0, hi0, hz0, hz1, hz2⟩ := info_parts str_info0
  have K0 : Keeps Nob w w := Keeps.refl _ _
  refine sy_enter (part_pNames 1) ⟨#[undef, undef, undef, undef, undef, undef, undef, undef, undef, undef, undef, undef, undef, undef, undef, undef, undef, undef, undef], []⟩ Tryd.func15 (by kernel_rfl) (by kernel_rfl) ?_
  refine sy_sq (part_pNames 2) (part_pNames 3) ?_
  refine sy_reg ?_
  refine rg_plain 0 (opsAt (part_pNames 2)) [0] (by kernel_rfl) (by kernel_rfl) ?_
  refine ps_k (o_pNames 2 0) (.slice none 0 0) ?_
  refine ps_end ?_
  refine then_n ?_
  refine sy_sq (part_pNames 6) (part_pNames 7) ?_
  refine sy_reg ?_
  refine rg_plain 1 (opsAt (part_pNames 6)) [0] (by kernel_rfl) (by kernel_rfl) ?_
  refine ps_k (o_pNames 6 0) (.slice none 0 0) ?_
  refine ps_end ?_
  refine then_n ?_
  refine sy_sq (part_pNames 14) (part_pNames 15) ?_
  refine sy_sq (part_pNames 28) (part_pNames 29) ?_
  refine sy_reg ?_
  refine rg_plain 2 (opsAt (part_pNames 28)) [0, 1, 2, 3, 4] (by kernel_rfl) (by kernel_rfl) ?_
  refine ps_k (o_pNames 28 0) (.agg parZ.cells) ?_
  obtain ⟨V1, eV1, gp, egp, h2, kV1⟩ := alloc_step w parZ.cells 24
  have n3 : w.heap.size ≤ gp := egp ▸ K0.size
  refine ps_r (o_pNames 28 1) (pT gp 0) (w' := V1) (by rw [← eV1, ← egp]; exact exec_box 24 (.tmp 4) (by kernel_rfl) (.agg parZ.cells) (by kernel_rfl)) ?_
  clear eV1
  have K4 := K0.nn kV1
  have z5 := kV1.size
  refine ps_c (o_pNames 28 2) 37 #[pT gp 0] Tryd.func37 ((fields_ok gp _).mono ?_)
  rintro e V6 ⟨g, ks, rfl, hF, hgl, kV6⟩
  obtain ⟨NB, hNB⟩ : ∃ n, V6.heap.size = n := ⟨_, rfl⟩
  have hNw : w.heap.size ≤ NB := hNB ▸ Nat.le_trans K4.size kV6.size
  refine ⟨_, rfl, ?_⟩
  have h7 := kV6.bk h2
  have K8 := K4.nn kV6
  have z9 := kV6.size
  refine ps_p (o_pNames 28 3) (.int .i64 11) (exec_len (.tmp 6) 61 _ (by kernel_rfl) Tryd.underlying61 (some ⟨g, 0, none⟩) 11 11 (by kernel_rfl)) ?_
  refine ps_k (o_pNames 28 4) (.int .i64 0) ?_
  refine ps_end ?_
  refine then_n ?_
  refine sy_bk 0 (part_pNames 58) ?_
  refine sy_loop (part_pNames 116) (fun a V => ∃ (i : Nat) (v : Value) (u3 u9 u10 u11 u12 u13 u14 u15 u16 u17 : Value), (a = ⟨#[.slice none 0 0, v, undef, u3, .agg parZ.cells, pT gp 0, .slice (some ⟨g, 0, none⟩) 11 11, .int .i64 11, iN i, u9, u10, u11, u12, u13, u14, u15, u16, u17, undef], []⟩) ∧ (i ≤ 11) ∧ (V.heap[gp]? = some (.cells parZ.cells 24 (0, 0))) ∧ (FieldsAt V g gp ks) ∧ (Row V 9 1 v i (Tx (parName.take i))) ∧ (NB ≤ V.heap.size) ∧ (Keeps Nob w V) ∧ (NewFrom NB v)) (fun a _ => 11 - (intOf (a.tmps.getD 8 undef)).toNat) (by kernel_rfl) ?_ ?_
  · exact ⟨0, .slice none 0 0, undef, undef, undef, undef, undef, undef, undef, undef, undef, undef, by kernel_rfl, by omega, h7, hF, (World.ownsRow_nil _ _ _ _), (Nat.le_of_eq hNB.symm), K8, (NewFrom.nil _)⟩
  · rintro a V10 ⟨i, v, u3, u9, u10, u11, u12, u13, u14, u15, u16, u17, rfl, hi, h11, h12, h13, h14, K15, hnw⟩
    by_cases lt_i : i < 11
    · skip
      refine sy_sq (part_pNames 232) (part_pNames 233) ?_
      refine sy_reg ?_
      refine rg_plain 3 (opsAt (part_pNames 232)) [0] (by kernel_rfl) (by kernel_rfl) ?_
      refine ps_p (o_pNames 232 0) (.bool true) (dct ((((i : Nat) : Int)) < ((11) : Int)) (by omega)) ?_
      refine ps_end ?_
      refine then_n ?_
      refine sy_sq (part_pNames 466) (part_pNames 467) ?_
      refine sy_ys (.tmp 9) (part_pNames 932) (part_pNames 933) ?_
      refine sy_sk ?_
      refine then_n ?_
      refine sy_sq (part_pNames 934) (part_pNames 935) ?_
      refine sy_bk 1 (part_pNames 1868) ?_
      refine sy_sq (part_pNames 3736) (part_pNames 3737) ?_
      refine sy_reg ?_
      refine rg_plain 4 (opsAt (part_pNames 3736)) [0, 1, 2, 3] (by kernel_rfl) (by kernel_rfl) ?_
      refine ps_p (o_pNames 3736 0) (pT g (i * 5)) (exec_cast (v := pT g (0 + i * 5)) (by simp) (exec_indexAt_slice 61 (.tmp 6) (.tmp 8) (by kernel_rfl) g 0 11 11 (by kernel_rfl) .i64 i (by kernel_rfl) _ 5 Tryd.underlying61 (by kernel_rfl) (by omega))) ?_
      refine ps_p (o_pNames 3736 1) (.agg (fieldC i (ks i)).toArray) (exec_load_mid 67 (.tmp 10) (by kernel_rfl) g (i * 5) (by kernel_rfl) (fieldC i (ks i)) _ (FieldsAt.mid h12 lt_i) Tryd.underlying67 rfl (by kernel_rfl)) ?_
      obtain ⟨V16, eV16, gt, egt, h17, kV16⟩ := alloc_step V10 (#[.string ⟨#[]⟩, .int .u64 0, .int .u64 0, .nilFunc, .nilFunc]) 67
      have n18 : gp < gt := egt ▸ lt_of_block h11
      have n19 : w.heap.size ≤ gt := egt ▸ K15.size
      refine ps_r (o_pNames 3736 2) (pT gt 0) (w' := V16) (by rw [← eV16, ← egt]; exact exec_alloc0 67 (by kernel_rfl) (.agg (#[.string ⟨#[]⟩, .int .u64 0, .int .u64 0, .nilFunc, .nilFunc])) (by kernel_rfl)) ?_
      clear eV16
      have h20 := kV16.bk h11
      have h21 : FieldsAt V16 g gp ks := h12.keepsN kV16
      have h22 : Row V16 9 1 v i (Tx (parName.take i)) := h13.keeps kV16 (fun _ _ x => x)
      have h23 : NB ≤ V16.heap.size := Nat.le_trans h14 kV16.size
      have K24 := K15.nn kV16
      have z25 := kV16.size
      obtain ⟨V26, eV26, kV26⟩ := rowset_step V16 gt ((fieldC i (ks i)).toArray)
      have h27 : V26.heap[gt]? = some (.cells ((fieldC i (ks i)).toArray) 67 (0, 0)) := eV26 ▸ setRow_heap _ _ _ _ _ _ h17
      refine ps_s (o_pNames 3736 3) (w' := V26) (by rw [← eV26]; exact exec_store_row 67 (.tmp 3) (.tmp 11) (by kernel_rfl) gt ((fieldC i (ks i)).toArray) (by kernel_rfl) (by kernel_rfl) 67 (#[.string ⟨#[]⟩, .int .u64 0, .int .u64 0, .nilFunc, .nilFunc]) h17 (by kernel_rfl) rfl (by kernel_rfl)) ?_
      clear eV26
      have h28 := kV26.bo h20 (by omega)
      have h29 : FieldsAt V26 g gp ks := FieldsAt.keepsB hF h21 kV26 (fun j hj e => by unfold Own.One at e; omega)
      have h30 : Row V26 9 1 v i (Tx (parName.take i)) := h22.keeps kV26 (fun j hj e => Row.ne h22 h17 (by decide) ((show j = gt from e) ▸ hj))
      have h31 : NB ≤ V26.heap.size := Nat.le_trans h23 kV26.size
      have K32 := K24.no kV26 (by omega)
      have z33 := kV26.size
      refine ps_end ?_
      refine then_n ?_
      refine sy_reg ?_
      refine rg_plain 5 (opsAt (part_pNames 3737)) [0, 1, 2, 3, 4, 5] (by kernel_rfl) (by kernel_rfl) ?_
      refine ps_k (o_pNames 3737 0) (v) ?_
      refine ps_k (o_pNames 3737 1) (pT gt 0) ?_
      refine ps_p (o_pNames 3737 2) (.string (parName[i]?.getD ⟨#[]⟩)) (exec_ld 9 (.tmp 13) gt 0 Tryd.underlying9 (rc (h27) (rfl))) ?_
      obtain ⟨V34, eV34, gl, egl, h35, kV34⟩ := alloc_step V26 (#[.string (parName[i]?.getD ⟨#[]⟩)]) 9
      have n36 : gp < gl := egl ▸ lt_of_block h28
      have n37 : gt < gl := egl ▸ lt_of_block h27
      have n38 : w.heap.size ≤ gl := egl ▸ K32.size
      refine ps_r (o_pNames 3737 3) (.slice (some ⟨gl, 0, none⟩) 1 1) (w' := V34) (by rw [← eV34, ← egl]; kernel_rfl) ?_
      have h39 := kV34.bk h28
      have h40 : FieldsAt V34 g gp ks := h29.keepsN kV34
      have h41 : Row V34 9 1 v i (Tx (parName.take i)) := h30.keeps kV34 (fun _ _ x => x)
      have h42 : NB ≤ V34.heap.size := Nat.le_trans h31 kV34.size
      have h43 := kV34.bk h27
      have K44 := K32.nn kV34
      have z45 := kV34.size
      obtain ⟨v46, V47, hr48, h49, hg50, hn51, ha52⟩ := run_append_any (P := Tryd.prog) (w := V34) 33 (Oper.type (o_pNames 3737 4)) 9 i0 (.string ⟨#[]⟩) 1 16 Tryd.underlying33 hi0 hz0 hz1 hz2 rfl (by decide) v i (Tx (parName.take i)) h41 (.slice (some ⟨gl, 0, none⟩) 1 1) 1 ([.string (parName[i]?.getD ⟨#[]⟩)]) (src_block h35 1 1 rfl (by simp [Value.oneCell'])) (by unfold maxLen; omega) (by omega)
      have kV47 : Keeps (fun j => v.ownBlock = some j) V34 V47 := Keeps.rowAdd hg50
      have hw53 : NewFrom NB v46 := hnw.next h42 ha52
      refine ps_r (o_pNames 3737 4) v46 (w' := V47) (exec_append (.tmp 12) (.tmp 15) 33 (by kernel_rfl) v (.slice (some ⟨gl, 0, none⟩) 1 1) (by kernel_rfl) (by kernel_rfl) hr48) ?_
      have h54 : Row V47 9 1 v46 (i + 1) (Tx (parName.take (i + 1))) := (names_take lt_i ▸ h49)
      have h55 : V47.heap[gp]? = some (.cells parZ.cells 24 (0, 0)) := (kV47.block gp (lt_of_block h39) (fun e => Row.ne h41 h39 (by decide) e)).trans h39
      have h56 : FieldsAt V47 g gp ks := FieldsAt.keepsB hF h40 kV47 (fun j hj e => by have := hnw j e; omega)
      have h57 : NB ≤ V47.heap.size := Nat.le_trans h42 kV47.size
      have h58 : V47.heap[gt]? = some (.cells ((fieldC i (ks i)).toArray) 67 (0, 0)) := (kV47.block gt (lt_of_block h43) (fun e => Row.ne h41 h43 (by decide) e)).trans h43
      have K59 : Keeps Nob w V47 := K44.then kV47 (fun i hi hm => absurd hi (by have := hnw i hm; omega))
      have z60 := kV47.size
      refine ps_k (o_pNames 3737 5) (v46) ?_
      refine ps_end ?_
      refine blk_n ?_
      refine then_n ?_
      refine sy_reg ?_
      refine rg_plain 6 (opsAt (part_pNames 935)) [0, 1] (by kernel_rfl) (by kernel_rfl) ?_
      refine ps_p (o_pNames 935 0) (iN (i + 1)) (exec_cast (congrArg (Value.int .i64) (wrapN (i + 1) (by omega))) (by kernel_rfl)) ?_
      refine ps_k (o_pNames 935 1) (iN (i + 1)) ?_
      refine ps_end ?_
      refine then_n ?_
      refine ⟨⟨i + 1, v46, (pT gt 0), (.bool true), (pT g (i * 5)), (.agg (fieldC i (ks i)).toArray), v, (pT gt 0), (.string (parName[i]?.getD ⟨#[]⟩)), (.slice (some ⟨gl, 0, none⟩) 1 1), v46, (iN (i + 1)), by kernel_rfl, by omega, h55, h56, h54, h57, K59, hw53⟩, ?_⟩
      exact lt_meas (x := 11 - (i + 1)) (y := 11 - i) (by kernel_rfl) (by kernel_rfl) (by omega)
    · have eq_i : i = 11 := by omega
      refine sy_sq (part_pNames 232) (part_pNames 233) ?_
      refine sy_reg ?_
      refine rg_plain 3 (opsAt (part_pNames 232)) [0] (by kernel_rfl) (by kernel_rfl) ?_
      refine ps_p (o_pNames 232 0) (.bool false) (dcf ((((i : Nat) : Int)) < ((11) : Int)) (by omega)) ?_
      refine ps_end ?_
      refine then_n ?_
      refine sy_sq (part_pNames 466) (part_pNames 467) ?_
      refine sy_n (.tmp 9) (part_pNames 932) (part_pNames 933) ?_
      refine sy_exit 0 (by kernel_rfl) ?_
      refine then_e ?_
      refine then_e ?_
      refine blk_e ?_
      refine then_n ?_
      refine sy_sq (part_pNames 30) (part_pNames 31) ?_
      refine sy_reg ?_
      refine rg_plain 7 (opsAt (part_pNames 30)) [0, 1] (by kernel_rfl) (by kernel_rfl) ?_
      refine ps_k (o_pNames 30 0) (v) ?_
      refine ps_k (o_pNames 30 1) (v) ?_
      refine ps_end ?_
      refine then_n ?_
      refine sy_ret (by kernel_rfl) ?_
      refine sy_out (v) rfl (by kernel_rfl) ?_
      exact ⟨v, rfl, by have e := h13; rw [eq_i] at e; exact e, fun j hj => Nat.le_trans hNw (hnw j hj), K15⟩
theorem name_i {i : Nat} (hi : i < 11) : parName[i]? = some (parName[i]?.getD ⟨#[]⟩) := by rw [List.getElem?_eq_getElem (by show i < 11; exact hi)]; rfl
theorem Par.l_nn {p : Par} (h : ∀ j, j < 11 → p.good j) (i : Nat) (hi : i < 11) : max (p.l[i]?.getD 0) 0 = p.l[i]?.getD 0 := by
  have h1 := Par.r_in h i hi; omega
theorem cell_par {w : World} {b : Nat} {p : Par} (h : w.heap[b]? = some (.cells p.cells 24 (0, 0))) (i : Nat) : ∀ x, p.cells[i]? = some x → w.cell? ⟨b, i, none⟩ = some x := fun x hx => (cell_of_row _ _ _ _ _ _ h).trans hx
noncomputable def part_pGet (n : Nat) : Code := partOf Tryd.f11 n
noncomputable abbrev o_pGet (n k : Nat) : Oper := (opsAt (part_pGet n)).getD k default
set_option maxRecDepth 100000 in
set_option maxHeartbeats 4000000 in
theorem pGet_bad (p : Par) (s : ByteArray) (w : World) (hp : p.Ok) (hc : ¬ p.check.1 = 0) :
    Calls Tryd.prog 11 #[.agg p.cells, .string s] w (fun e w' => e = .returned (.tuple #[.int .u64 (pget p s).1, .int .i64 (pget p s).2]) ∧ Keeps Nob w w') := by
  have K0 : Keeps Nob w w := Keeps.refl _ _
  refine sy_enter (part_pGet 1) ⟨#[.agg p.cells, .string s, undef, undef, undef, undef, undef, undef, undef, undef, undef, undef, undef, undef, undef, undef, undef, undef, undef, undef, undef, undef, undef, undef, undef, undef, undef, undef, undef, undef, undef, undef, undef, undef, undef, undef, undef, undef], []⟩ Tryd.func11 (by kernel_rfl) (by kernel_rfl) ?_
  refine sy_sq (part_pGet 2) (part_pGet 3) ?_
  refine sy_reg ?_
  refine rg_plain 0 (opsAt (part_pGet 2)) [0, 1, 2] (by kernel_rfl) (by kernel_rfl) ?_
  obtain ⟨V1, eV1, gp, egp, h2, kV1⟩ := alloc_step w p.cells 24
  have n3 : w.heap.size ≤ gp := egp ▸ K0.size
  refine ps_r (o_pGet 2 0) (pT gp 0) (w' := V1) (by rw [← eV1, ← egp]; exact exec_box 24 (.tmp 0) (by kernel_rfl) (.agg p.cells) (by kernel_rfl)) ?_
  clear eV1
  have K4 := K0.nn kV1
  have z5 := kV1.size
  refine ps_k (o_pGet 2 1) (.int .u64 0) ?_
  refine ps_k (o_pGet 2 2) (.int .i64 0) ?_
  refine ps_end ?_
  refine then_n ?_
  refine sy_sq (part_pGet 6) (part_pGet 7) ?_
  refine sy_sq (part_pGet 12) (part_pGet 13) ?_
  refine sy_reg ?_
  refine rg_plain 1 (opsAt (part_pGet 12)) [0, 1, 2, 3, 4, 5, 6] (by kernel_rfl) (by kernel_rfl) ?_
  refine ps_p (o_pGet 12 0) (.agg (p.cells)) (exec_load_row 24 (.tmp 2) (by kernel_rfl) gp (by kernel_rfl) _ _ (0, 0) _ (h2) Tryd.underlying24 rfl (by kernel_rfl)) ?_
  refine ps_c (o_pGet 12 1) 9 #[.agg (p.cells)] Tryd.func9 ((pCheck_is p _ _ hp rfl).mono ?_)
  rintro e V6 ⟨rfl, kV6⟩
  refine ⟨_, rfl, ?_⟩
  have h7 := kV6.bk h2
  have K8 := K4.nn kV6
  have z9 := kV6.size
  refine ps_k (o_pGet 12 2) (.tuple #[.int .i64 p.check.1, .int .i64 p.check.2]) ?_
  refine ps_k (o_pGet 12 3) (.int .i64 p.check.1) ?_
  refine ps_k (o_pGet 12 4) (.int .i64 p.check.2) ?_
  refine ps_k (o_pGet 12 5) (.int .i64 p.check.1) ?_
  refine ps_k (o_pGet 12 6) (.int .i64 p.check.2) ?_
  refine ps_end ?_
  refine then_n ?_
  refine sy_sq (part_pGet 26) (part_pGet 27) ?_
  refine sy_reg ?_
  refine rg_plain 2 (opsAt (part_pGet 26)) [0, 1] (by kernel_rfl) (by kernel_rfl) ?_
  refine ps_k (o_pGet 26 0) (.int .i64 p.check.1) ?_
  refine ps_p (o_pGet 26 1) (.bool true) (nqt ((p.check.1) : Int) ((0) : Int) (by omega)) ?_
  refine ps_end ?_
  refine then_n ?_
  refine sy_ys (.tmp 18) (part_pGet 54) (part_pGet 55) ?_
  refine sy_sq (part_pGet 108) (part_pGet 109) ?_
  refine sy_reg ?_
  refine rg_plain 3 (opsAt (part_pGet 108)) [0, 1, 2] (by kernel_rfl) (by kernel_rfl) ?_
  refine ps_k (o_pGet 108 0) (.int .i64 p.check.1) ?_
  refine ps_k (o_pGet 108 1) (.int .u64 0) ?_
  refine ps_k (o_pGet 108 2) (.int .i64 p.check.1) ?_
  refine ps_end ?_
  refine then_n ?_
  refine sy_ret (by kernel_rfl) ?_
  refine then_r ?_
  refine sy_out (.tuple #[.int .u64 0, .int .i64 p.check.1]) rfl (by kernel_rfl) ?_
  exact ⟨by rw [pget, if_neg hc], K8⟩
set_option maxRecDepth 100000 in
set_option maxHeartbeats 4000000 in
theorem pGet_fine (p : Par) (s : ByteArray) (w : World) (hp : p.Ok) (hc : p.check.1 = 0) :
    Calls Tryd.prog 11 #[.agg p.cells, .string s] w (fun e w' => e = .returned (.tuple #[.int .u64 (pget p s).1, .int .i64 (pget p s).2]) ∧ Keeps Nob w w') := by
  have K0 : Keeps Nob w w := Keeps.refl _ _
  refine sy_enter (part_pGet 1) ⟨#[.agg p.cells, .string s, undef, undef, undef, undef, undef, undef, undef, undef, undef, undef, undef, undef, undef, undef, undef, undef, undef, undef, undef, undef, undef, undef, undef, undef, undef, undef, undef, undef, undef, undef, undef, undef, undef, undef, undef, undef], []⟩ Tryd.func11 (by kernel_rfl) (by kernel_rfl) ?_
  refine sy_sq (part_pGet 2) (part_pGet 3) ?_
  refine sy_reg ?_
  refine rg_plain 0 (opsAt (part_pGet 2)) [0, 1, 2] (by kernel_rfl) (by kernel_rfl) ?_
  obtain ⟨V1, eV1, gp, egp, h2, kV1⟩ := alloc_step w p.cells 24
  have n3 : w.heap.size ≤ gp := egp ▸ K0.size
  refine ps_r (o_pGet 2 0) (pT gp 0) (w' := V1) (by rw [← eV1, ← egp]; exact exec_box 24 (.tmp 0) (by kernel_rfl) (.agg p.cells) (by kernel_rfl)) ?_
  clear eV1
  have K4 := K0.nn kV1
  have z5 := kV1.size
  refine ps_k (o_pGet 2 1) (.int .u64 0) ?_
  refine ps_k (o_pGet 2 2) (.int .i64 0) ?_
  refine ps_end ?_
  refine then_n ?_
  refine sy_sq (part_pGet 6) (part_pGet 7) ?_
  refine sy_sq (part_pGet 12) (part_pGet 13) ?_
  refine sy_reg ?_
  refine rg_plain 1 (opsAt (part_pGet 12)) [0, 1, 2, 3, 4, 5, 6] (by kernel_rfl) (by kernel_rfl) ?_
  refine ps_p (o_pGet 12 0) (.agg (p.cells)) (exec_load_row 24 (.tmp 2) (by kernel_rfl) gp (by kernel_rfl) _ _ (0, 0) _ (h2) Tryd.underlying24 rfl (by kernel_rfl)) ?_
  refine ps_c (o_pGet 12 1) 9 #[.agg (p.cells)] Tryd.func9 ((pCheck_is p 0 _ hp hc).mono ?_)
  rintro e V6 ⟨rfl, kV6⟩
  refine ⟨_, rfl, ?_⟩
  have h7 := kV6.bk h2
  have K8 := K4.nn kV6
  have z9 := kV6.size
  refine ps_k (o_pGet 12 2) (.tuple #[.int .i64 0, .int .i64 p.check.2]) ?_
  refine ps_k (o_pGet 12 3) (.int .i64 0) ?_
  refine ps_k (o_pGet 12 4) (.int .i64 p.check.2) ?_
  refine ps_k (o_pGet 12 5) (.int .i64 0) ?_
  refine ps_k (o_pGet 12 6) (.int .i64 p.check.2) ?_
  refine ps_end ?_
  refine then_n ?_
  refine sy_sq (part_pGet 26) (part_pGet 27) ?_
  refine sy_reg ?_
  refine rg_plain 2 (opsAt (part_pGet 26)) [0, 1] (by kernel_rfl) (by kernel_rfl) ?_
  refine ps_k (o_pGet 26 0) (.int .i64 0) ?_
  refine ps_k (o_pGet 26 1) (.bool false) ?_
  refine ps_end ?_
  refine then_n ?_
  refine sy_n (.tmp 18) (part_pGet 54) (part_pGet 55) ?_
  refine sy_sk ?_
  refine then_n ?_
  refine sy_sq (part_pGet 14) (part_pGet 15) ?_
  refine sy_sq (part_pGet 28) (part_pGet 29) ?_
  refine sy_reg ?_
  refine rg_plain 4 (opsAt (part_pGet 28)) [0, 1, 2] (by kernel_rfl) (by kernel_rfl) ?_
  refine ps_c (o_pGet 28 0) 37 #[pT gp 0] Tryd.func37 ((fields_ok gp _).mono ?_)
  rintro e V10 ⟨g, ks, rfl, hF, hgl, kV10⟩
  obtain ⟨NB, hNB⟩ : ∃ n, V10.heap.size = n := ⟨_, rfl⟩
  have hgp5 := lt_of_block h7
  refine ⟨_, rfl, ?_⟩
  have h11 := kV10.bk h7
  have K12 := K8.nn kV10
  have z13 := kV10.size
  refine ps_p (o_pGet 28 1) (.int .i64 11) (exec_len (.tmp 20) 61 _ (by kernel_rfl) Tryd.underlying61 (some ⟨g, 0, none⟩) 11 11 (by kernel_rfl)) ?_
  refine ps_k (o_pGet 28 2) (.int .i64 0) ?_
  refine ps_end ?_
  refine then_n ?_
  refine sy_bk 0 (part_pGet 58) ?_
  refine sy_loop (part_pGet 116) (fun a V => ∃ (i : Nat) (u4 u5 u9 u10 u11 u23 u24 u25 u26 u27 u28 u29 u30 u31 u32 u33 u34 u35 u36 u37 : Value), (a = ⟨#[.agg p.cells, .string s, pT gp 0, undef, u4, u5, .int .i64 0, .int .i64 p.check.2, undef, u9, u10, u11, .tuple #[.int .i64 0, .int .i64 p.check.2], .agg (p.cells), .tuple #[.int .i64 0, .int .i64 p.check.2], .int .i64 0, .int .i64 p.check.2, .int .i64 0, .bool false, undef, .slice (some ⟨g, 0, none⟩) 11 11, .int .i64 11, iN i, u23, u24, u25, u26, u27, u28, u29, u30, u31, u32, u33, u34, u35, u36, u37], []⟩) ∧ (i ≤ 11) ∧ (∀ j, j < i → parName[j]? ≠ some s) ∧ (V.heap[gp]? = some (.cells p.cells 24 (0, 0))) ∧ (FieldsAt V g gp ks) ∧ (NB ≤ V.heap.size) ∧ (Keeps Nob w V)) (fun a _ => 11 - (intOf (a.tmps.getD 22 undef)).toNat) (by kernel_rfl) ?_ ?_
  · exact ⟨0, (.int .u64 0), (.int .i64 0), undef, undef, undef, undef, undef, undef, undef, undef, undef, undef, undef, undef, undef, undef, undef, undef, undef, undef, by kernel_rfl, by omega, fun j h => absurd h (by omega), h11, hF, (Nat.le_of_eq hNB.symm), K12⟩
  · rintro a V14 ⟨i, u4, u5, u9, u10, u11, u23, u24, u25, u26, u27, u28, u29, u30, u31, u32, u33, u34, u35, u36, u37, rfl, hi, hs, h15, h16, h17, K18⟩
    rcases (show (i < 11 ∧ parName[i]?.getD ⟨#[]⟩ = s) ∨ (i < 11 ∧ ¬ parName[i]?.getD ⟨#[]⟩ = s) ∨ i = 11 by
        by_cases h : i < 11
        · by_cases e : parName[i]?.getD ⟨#[]⟩ = s
          · exact .inl ⟨h, e⟩
          · exact .inr (.inl ⟨h, e⟩)
        · exact .inr (.inr (by omega))) with ⟨lt_i, hxs⟩ | ⟨lt_i, hxs⟩ | eq_i
    · skip
      refine sy_sq (part_pGet 232) (part_pGet 233) ?_
      refine sy_reg ?_
      refine rg_plain 5 (opsAt (part_pGet 232)) [0] (by kernel_rfl) (by kernel_rfl) ?_
      refine ps_p (o_pGet 232 0) (.bool true) (dct ((((i : Nat) : Int)) < ((11) : Int)) (by omega)) ?_
      refine ps_end ?_
      refine then_n ?_
      refine sy_sq (part_pGet 466) (part_pGet 467) ?_
      refine sy_ys (.tmp 23) (part_pGet 932) (part_pGet 933) ?_
      refine sy_sk ?_
      refine then_n ?_
      refine sy_sq (part_pGet 934) (part_pGet 935) ?_
      refine sy_bk 1 (part_pGet 1868) ?_
      refine sy_sq (part_pGet 3736) (part_pGet 3737) ?_
      refine sy_reg ?_
      refine rg_plain 6 (opsAt (part_pGet 3736)) [0, 1, 2, 3] (by kernel_rfl) (by kernel_rfl) ?_
      refine ps_p (o_pGet 3736 0) (pT g (i * 5)) (exec_cast (v := pT g (0 + i * 5)) (by simp) (exec_indexAt_slice 61 (.tmp 20) (.tmp 22) (by kernel_rfl) g 0 11 11 (by kernel_rfl) .i64 i (by kernel_rfl) _ 5 Tryd.underlying61 (by kernel_rfl) (by omega))) ?_
      refine ps_p (o_pGet 3736 1) (.agg (fieldC i (ks i)).toArray) (exec_load_mid 67 (.tmp 24) (by kernel_rfl) g (i * 5) (by kernel_rfl) (fieldC i (ks i)) _ (FieldsAt.mid h16 lt_i) Tryd.underlying67 rfl (by kernel_rfl)) ?_
      obtain ⟨V19, eV19, gt, egt, h20, kV19⟩ := alloc_step V14 (#[.string ⟨#[]⟩, .int .u64 0, .int .u64 0, .nilFunc, .nilFunc]) 67
      have n21 : gp < gt := egt ▸ lt_of_block h15
      have n22 : w.heap.size ≤ gt := egt ▸ K18.size
      refine ps_r (o_pGet 3736 2) (pT gt 0) (w' := V19) (by rw [← eV19, ← egt]; exact exec_alloc0 67 (by kernel_rfl) (.agg (#[.string ⟨#[]⟩, .int .u64 0, .int .u64 0, .nilFunc, .nilFunc])) (by kernel_rfl)) ?_
      clear eV19
      have h23 := kV19.bk h15
      have h24 : FieldsAt V19 g gp ks := h16.keepsN kV19
      have h25 : NB ≤ V19.heap.size := Nat.le_trans h17 kV19.size
      have K26 := K18.nn kV19
      have z27 := kV19.size
      obtain ⟨V28, eV28, kV28⟩ := rowset_step V19 gt ((fieldC i (ks i)).toArray)
      have h29 : V28.heap[gt]? = some (.cells ((fieldC i (ks i)).toArray) 67 (0, 0)) := eV28 ▸ setRow_heap _ _ _ _ _ _ h20
      refine ps_s (o_pGet 3736 3) (w' := V28) (by rw [← eV28]; exact exec_store_row 67 (.tmp 9) (.tmp 25) (by kernel_rfl) gt ((fieldC i (ks i)).toArray) (by kernel_rfl) (by kernel_rfl) 67 (#[.string ⟨#[]⟩, .int .u64 0, .int .u64 0, .nilFunc, .nilFunc]) h20 (by kernel_rfl) rfl (by kernel_rfl)) ?_
      clear eV28
      have h30 := kV28.bo h23 (by omega)
      have h31 : FieldsAt V28 g gp ks := FieldsAt.keepsB hF h24 kV28 (fun j hj e => by unfold Own.One at e; omega)
      have h32 : NB ≤ V28.heap.size := Nat.le_trans h25 kV28.size
      have K33 := K26.no kV28 (by omega)
      have z34 := kV28.size
      refine ps_end ?_
      refine then_n ?_
      refine sy_sq (part_pGet 7474) (part_pGet 7475) ?_
      refine sy_reg ?_
      refine rg_plain 7 (opsAt (part_pGet 7474)) [0, 1, 2, 3] (by kernel_rfl) (by kernel_rfl) ?_
      refine ps_k (o_pGet 7474 0) (pT gt 0) ?_
      refine ps_p (o_pGet 7474 1) (.string (parName[i]?.getD ⟨#[]⟩)) (exec_ld 9 (.tmp 26) gt 0 Tryd.underlying9 (rc (h29) (rfl))) ?_
      refine ps_k (o_pGet 7474 2) (.string s) ?_
      refine ps_p (o_pGet 7474 3) (.bool true) (exec_cast (congrArg Value.bool (decide_eq_true hxs)) (exec_binop .eql 9 9 (.tmp 27) (.tmp 28) (by kernel_rfl) (.string (parName[i]?.getD ⟨#[]⟩)) (.string s) _ (by kernel_rfl) (by kernel_rfl) (by kernel_rfl) (str_eql _ s _))) ?_
      refine ps_end ?_
      refine then_n ?_
      refine sy_ys (.tmp 29) (part_pGet 14950) (part_pGet 14951) ?_
      refine sy_sq (part_pGet 29900) (part_pGet 29901) ?_
      refine sy_reg ?_
      refine rg_plain 8 (opsAt (part_pGet 29900)) [0, 1, 2, 3, 4, 5, 6, 7] (by kernel_rfl) (by kernel_rfl) ?_
      refine ps_k (o_pGet 29900 0) (pT gt 3) ?_
      refine ps_p (o_pGet 29900 1) (.func (.func (parGet[i]?.getD 0)) #[] #[.pointer (some ⟨ks i, 0, none⟩)]) (exec_ld 64 (.tmp 31) gt 3 Tryd.underlying64 (rc (h29) (rfl))) ?_
      refine ps_callV (o_pGet 29900 2) (.tmp 32) (parGet[i]?.getD 0) #[] #[.pointer (some ⟨ks i, 0, none⟩)] #[.pointer (some ⟨ks i, 0, none⟩)] (by kernel_rfl) (by kernel_rfl) (by kernel_rfl) (by kernel_rfl) (by kernel_rfl) (get_enters i lt_i) (((Par.l_nn (Par.check_0 hc).1 i lt_i ▸ get_ok p hp i gp (ks i) lt_i _ (FieldsAt.box h31 i lt_i) (cell_par h30 i))).mono ?_)
      rintro e V35 ⟨rfl, kV35⟩
      refine ⟨_, rfl, ?_⟩
      have h36 := kV35.bk h30
      have h37 : FieldsAt V35 g gp ks := h31.keepsN kV35
      have h38 : NB ≤ V35.heap.size := Nat.le_trans h32 kV35.size
      have h39 := kV35.bk h29
      have K40 := K33.nn kV35
      have z41 := kV35.size
      refine ps_k (o_pGet 29900 3) (.tuple #[.int .u64 (p.l[i]?.getD 0), .bool (decide (0 ≤ p.l[i]?.getD 0))]) ?_
      refine ps_k (o_pGet 29900 4) (.int .u64 (p.l[i]?.getD 0)) ?_
      refine ps_k (o_pGet 29900 5) (.bool (decide (0 ≤ p.l[i]?.getD 0))) ?_
      refine ps_k (o_pGet 29900 6) (.int .u64 (p.l[i]?.getD 0)) ?_
      refine ps_k (o_pGet 29900 7) (.bool (decide (0 ≤ p.l[i]?.getD 0))) ?_
      refine ps_end ?_
      refine then_n ?_
      refine sy_sq (part_pGet 59802) (part_pGet 59803) ?_
      refine sy_reg ?_
      refine rg_plain 9 (opsAt (part_pGet 59802)) [0, 1, 2] (by kernel_rfl) (by kernel_rfl) ?_
      refine ps_k (o_pGet 59802 0) (.int .u64 (p.l[i]?.getD 0)) ?_
      refine ps_k (o_pGet 59802 1) (.int .u64 (p.l[i]?.getD 0)) ?_
      refine ps_k (o_pGet 59802 2) (.int .i64 0) ?_
      refine ps_end ?_
      refine then_n ?_
      refine sy_ret (by kernel_rfl) ?_
      refine blk_r ?_
      refine then_r ?_
      refine then_r ?_
      refine blk_r ?_
      refine then_r ?_
      refine sy_out (.tuple #[.int .u64 (p.l[i]?.getD 0), .int .i64 0]) rfl (by kernel_rfl) ?_
      have hf := pfind_hit hs (hxs ▸ name_i lt_i)
      exact ⟨by rw [pget, if_pos hc, hf, if_neg (by omega), Int.toNat_natCast], K40⟩
    · skip
      refine sy_sq (part_pGet 232) (part_pGet 233) ?_
      refine sy_reg ?_
      refine rg_plain 5 (opsAt (part_pGet 232)) [0] (by kernel_rfl) (by kernel_rfl) ?_
      refine ps_p (o_pGet 232 0) (.bool true) (dct ((((i : Nat) : Int)) < ((11) : Int)) (by omega)) ?_
      refine ps_end ?_
      refine then_n ?_
      refine sy_sq (part_pGet 466) (part_pGet 467) ?_
      refine sy_ys (.tmp 23) (part_pGet 932) (part_pGet 933) ?_
      refine sy_sk ?_
      refine then_n ?_
      refine sy_sq (part_pGet 934) (part_pGet 935) ?_
      refine sy_bk 1 (part_pGet 1868) ?_
      refine sy_sq (part_pGet 3736) (part_pGet 3737) ?_
      refine sy_reg ?_
      refine rg_plain 6 (opsAt (part_pGet 3736)) [0, 1, 2, 3] (by kernel_rfl) (by kernel_rfl) ?_
      refine ps_p (o_pGet 3736 0) (pT g (i * 5)) (exec_cast (v := pT g (0 + i * 5)) (by simp) (exec_indexAt_slice 61 (.tmp 20) (.tmp 22) (by kernel_rfl) g 0 11 11 (by kernel_rfl) .i64 i (by kernel_rfl) _ 5 Tryd.underlying61 (by kernel_rfl) (by omega))) ?_
      refine ps_p (o_pGet 3736 1) (.agg (fieldC i (ks i)).toArray) (exec_load_mid 67 (.tmp 24) (by kernel_rfl) g (i * 5) (by kernel_rfl) (fieldC i (ks i)) _ (FieldsAt.mid h16 lt_i) Tryd.underlying67 rfl (by kernel_rfl)) ?_
      obtain ⟨V42, eV42, gt, egt, h43, kV42⟩ := alloc_step V14 (#[.string ⟨#[]⟩, .int .u64 0, .int .u64 0, .nilFunc, .nilFunc]) 67
      have n44 : gp < gt := egt ▸ lt_of_block h15
      have n45 : w.heap.size ≤ gt := egt ▸ K18.size
      refine ps_r (o_pGet 3736 2) (pT gt 0) (w' := V42) (by rw [← eV42, ← egt]; exact exec_alloc0 67 (by kernel_rfl) (.agg (#[.string ⟨#[]⟩, .int .u64 0, .int .u64 0, .nilFunc, .nilFunc])) (by kernel_rfl)) ?_
      clear eV42
      have h46 := kV42.bk h15
      have h47 : FieldsAt V42 g gp ks := h16.keepsN kV42
      have h48 : NB ≤ V42.heap.size := Nat.le_trans h17 kV42.size
      have K49 := K18.nn kV42
      have z50 := kV42.size
      obtain ⟨V51, eV51, kV51⟩ := rowset_step V42 gt ((fieldC i (ks i)).toArray)
      have h52 : V51.heap[gt]? = some (.cells ((fieldC i (ks i)).toArray) 67 (0, 0)) := eV51 ▸ setRow_heap _ _ _ _ _ _ h43
      refine ps_s (o_pGet 3736 3) (w' := V51) (by rw [← eV51]; exact exec_store_row 67 (.tmp 9) (.tmp 25) (by kernel_rfl) gt ((fieldC i (ks i)).toArray) (by kernel_rfl) (by kernel_rfl) 67 (#[.string ⟨#[]⟩, .int .u64 0, .int .u64 0, .nilFunc, .nilFunc]) h43 (by kernel_rfl) rfl (by kernel_rfl)) ?_
      clear eV51
      have h53 := kV51.bo h46 (by omega)
      have h54 : FieldsAt V51 g gp ks := FieldsAt.keepsB hF h47 kV51 (fun j hj e => by unfold Own.One at e; omega)
      have h55 : NB ≤ V51.heap.size := Nat.le_trans h48 kV51.size
      have K56 := K49.no kV51 (by omega)
      have z57 := kV51.size
      refine ps_end ?_
      refine then_n ?_
      refine sy_sq (part_pGet 7474) (part_pGet 7475) ?_
      refine sy_reg ?_
      refine rg_plain 7 (opsAt (part_pGet 7474)) [0, 1, 2, 3] (by kernel_rfl) (by kernel_rfl) ?_
      refine ps_k (o_pGet 7474 0) (pT gt 0) ?_
      refine ps_p (o_pGet 7474 1) (.string (parName[i]?.getD ⟨#[]⟩)) (exec_ld 9 (.tmp 26) gt 0 Tryd.underlying9 (rc (h52) (rfl))) ?_
      refine ps_k (o_pGet 7474 2) (.string s) ?_
      refine ps_p (o_pGet 7474 3) (.bool false) (exec_cast (congrArg Value.bool (decide_eq_false hxs)) (exec_binop .eql 9 9 (.tmp 27) (.tmp 28) (by kernel_rfl) (.string (parName[i]?.getD ⟨#[]⟩)) (.string s) _ (by kernel_rfl) (by kernel_rfl) (by kernel_rfl) (str_eql _ s _))) ?_
      refine ps_end ?_
      refine then_n ?_
      refine sy_n (.tmp 29) (part_pGet 14950) (part_pGet 14951) ?_
      refine sy_sk ?_
      refine blk_n ?_
      refine then_n ?_
      refine sy_reg ?_
      refine rg_plain 10 (opsAt (part_pGet 935)) [0, 1] (by kernel_rfl) (by kernel_rfl) ?_
      refine ps_p (o_pGet 935 0) (iN (i + 1)) (exec_cast (congrArg (Value.int .i64) (wrapN (i + 1) (by omega))) (by kernel_rfl)) ?_
      refine ps_k (o_pGet 935 1) (iN (i + 1)) ?_
      refine ps_end ?_
      refine then_n ?_
      refine ⟨⟨i + 1, u4, u5, (pT gt 0), u10, u11, (.bool true), (pT g (i * 5)), (.agg (fieldC i (ks i)).toArray), (pT gt 0), (.string (parName[i]?.getD ⟨#[]⟩)), (.string s), (.bool false), u30, u31, u32, u33, u34, u35, u36, (iN (i + 1)), by kernel_rfl, by omega, fun j hj => by by_cases e : j = i; (subst e; rw [name_i lt_i]; simpa using hxs); exact hs j (by omega), h53, h54, h55, K56⟩, ?_⟩
      exact lt_meas (x := 11 - (i + 1)) (y := 11 - i) (by kernel_rfl) (by kernel_rfl) (by omega)
    · skip
      refine sy_sq (part_pGet 232) (part_pGet 233) ?_
      refine sy_reg ?_
      refine rg_plain 5 (opsAt (part_pGet 232)) [0] (by kernel_rfl) (by kernel_rfl) ?_
      refine ps_p (o_pGet 232 0) (.bool false) (dcf ((((i : Nat) : Int)) < ((11) : Int)) (by omega)) ?_
      refine ps_end ?_
      refine then_n ?_
      refine sy_sq (part_pGet 466) (part_pGet 467) ?_
      refine sy_n (.tmp 23) (part_pGet 932) (part_pGet 933) ?_
      refine sy_exit 0 (by kernel_rfl) ?_
      refine then_e ?_
      refine then_e ?_
      refine blk_e ?_
      refine then_n ?_
      refine sy_sq (part_pGet 30) (part_pGet 31) ?_
      refine sy_reg ?_
      refine rg_plain 11 (opsAt (part_pGet 30)) [0, 1] (by kernel_rfl) (by kernel_rfl) ?_
      refine ps_k (o_pGet 30 0) (.int .u64 0) ?_
      refine ps_k (o_pGet 30 1) (.int .i64 10) ?_
      refine ps_end ?_
      refine then_n ?_
      refine sy_ret (by kernel_rfl) ?_
      refine sy_out (.tuple #[.int .u64 0, .int .i64 10]) rfl (by kernel_rfl) ?_
      exact ⟨by rw [pget, if_pos hc, if_pos (pfind_none (fun j hj => hs j (by omega)))], K18⟩
theorem pGet_ok (p : Par) (s : ByteArray) (w : World) (hp : p.Ok) : Calls Tryd.prog 11 #[.agg p.cells, .string s] w (fun e w' => e = .returned (.tuple #[.int .u64 (pget p s).1, .int .i64 (pget p s).2]) ∧ Keeps Nob w w') := by
  by_cases hc : p.check.1 = 0
  · exact pGet_fine p s w hp hc
  · exact pGet_bad p s w hp hc
noncomputable def part_pof2 (n : Nat) : Code := partOf Tryd.f83 n
noncomputable abbrev o_pof2 (n k : Nat) : Oper := (opsAt (part_pof2 n)).getD k default
set_option maxRecDepth 100000 in
set_option maxHeartbeats 4000000 in
theorem pof2_ok (b k i : Nat) (n x : Int) (cs : Array Value) (w : World) (hbox : w.cell? ⟨k, 0, none⟩ = some (.pointer (some ⟨b, i, none⟩))) (hb : w.heap[b]? = some (.cells cs 24 (0, 0))) (hx : cs[i]? = some (.int .i64 x)) (hn0 : 0 ≤ n) (hn1 : n ≤ 9223372036854775807) (hkb : k ≠ b) :
    Calls Tryd.prog 83 #[.int .u64 n, .pointer (some ⟨k, 0, none⟩)] w (fun e w' => e = .returned (.tuple #[]) ∧ w'.heap[b]? = some (.cells (cs.setIfInBounds i (.int .i64 n)) 24 (0, 0)) ∧ Keeps (One b) w w') := by
  have K0 : Keeps (One b) w w := Keeps.refl _ _
  refine sy_enter (part_pof2 1) ⟨#[.int .u64 n, pT k 0, undef, undef, undef, undef, undef], []⟩ Tryd.func83 (by kernel_rfl) (by kernel_rfl) ?_
  refine sy_reg ?_
  refine rg_plain 0 (opsAt (part_pof2 1)) [0, 1, 2, 3, 4] (by kernel_rfl) (by kernel_rfl) ?_
  refine ps_p (o_pof2 1 0) (pT b i) (exec_load_cell 103 (.tmp 1) (by kernel_rfl) ⟨k, 0, none⟩ (by kernel_rfl) _ _ Tryd.underlying103 rfl hbox) ?_
  refine ps_k (o_pof2 1 1) (.int .u64 n) ?_
  refine ps_r (o_pof2 1 2) (.int .i64 n) (w' := w) (exec_convert 22 3 (.tmp 4) (by kernel_rfl) _ (by kernel_rfl) (conv_u64 _ _ hn0 hn1)) ?_
  refine ps_k (o_pof2 1 3) (pT b i) ?_
  obtain ⟨V1, eV1, kV1⟩ := cell_step w b i (.int .i64 n)
  have h2 : V1.heap[b]? = some (.cells (cs.setIfInBounds i (.int .i64 n)) 24 (0, 0)) := eV1 ▸ ((heap_setCell_same _ b i _ _ (.int .i64 n) hb).trans (congrArg (fun c => some (Obj.cells c 24 (0, 0))) (show (cs : Array Value).setIfInBounds i (.int .i64 n) = cs.setIfInBounds i (.int .i64 n) from rfl)))
  refine ps_s (o_pof2 1 4) (w' := V1) (by rw [← eV1]; exact exec_store_cell 3 (.tmp 6) (.tmp 5) (by kernel_rfl) b i (by kernel_rfl) (.int .i64 n) (by kernel_rfl) (by kernel_rfl) (by kernel_rfl) (.int .i64 x) (rc (hb) (hx)) (frozen_of_row _ _ _ _ _ hb) (by kernel_rfl)) ?_
  clear eV1
  have h3 : V1.cell? ⟨k, 0, none⟩ = some (.pointer (some ⟨b, i, none⟩)) := (kV1.cell (World.block_lt_of_cell? _ _ hbox) (fun e => hkb e)).trans hbox
  have K4 : Keeps (One b) w V1 := K0.then kV1 (fun i hi hm => by unfold Own.One at hm; subst hm; exact rfl)
  have z5 := kV1.size
  refine ps_end ?_
  refine sy_fall (.tuple #[]) rfl (by kernel_rfl) ?_
  exact ⟨rfl, h2, K4⟩
noncomputable def part_pword2 (n : Nat) : Code := partOf Tryd.f85 n
noncomputable abbrev o_pword2 (n k : Nat) : Oper := (opsAt (part_pword2 n)).getD k default
set_option maxRecDepth 100000 in
set_option maxHeartbeats 4000000 in
theorem pword2_ok (b k i : Nat) (n x : Int) (cs : Array Value) (w : World) (hbox : w.cell? ⟨k, 0, none⟩ = some (.pointer (some ⟨b, i, none⟩))) (hb : w.heap[b]? = some (.cells cs 24 (0, 0))) (hx : cs[i]? = some (.int .u64 x)) (hn0 : 0 ≤ n) (hn1 : n ≤ 9223372036854775807) (hkb : k ≠ b) :
    Calls Tryd.prog 85 #[.int .u64 n, .pointer (some ⟨k, 0, none⟩)] w (fun e w' => e = .returned (.tuple #[]) ∧ w'.heap[b]? = some (.cells (cs.setIfInBounds i (.int .u64 n)) 24 (0, 0)) ∧ Keeps (One b) w w') := by
  have K0 : Keeps (One b) w w := Keeps.refl _ _
  refine sy_enter (part_pword2 1) ⟨#[.int .u64 n, pT k 0, undef, undef, undef, undef], []⟩ Tryd.func85 (by kernel_rfl) (by kernel_rfl) ?_
  refine sy_reg ?_
  refine rg_plain 0 (opsAt (part_pword2 1)) [0, 1, 2, 3] (by kernel_rfl) (by kernel_rfl) ?_
  refine ps_p (o_pword2 1 0) (pT b i) (exec_load_cell 105 (.tmp 1) (by kernel_rfl) ⟨k, 0, none⟩ (by kernel_rfl) _ _ Tryd.underlying105 rfl hbox) ?_
  refine ps_k (o_pword2 1 1) (.int .u64 n) ?_
  refine ps_k (o_pword2 1 2) (pT b i) ?_
  obtain ⟨V1, eV1, kV1⟩ := cell_step w b i (.int .u64 n)
  have h2 : V1.heap[b]? = some (.cells (cs.setIfInBounds i (.int .u64 n)) 24 (0, 0)) := eV1 ▸ ((heap_setCell_same _ b i _ _ (.int .u64 n) hb).trans (congrArg (fun c => some (Obj.cells c 24 (0, 0))) (show (cs : Array Value).setIfInBounds i (.int .u64 n) = cs.setIfInBounds i (.int .u64 n) from rfl)))
  refine ps_s (o_pword2 1 3) (w' := V1) (by rw [← eV1]; exact exec_store_cell 22 (.tmp 5) (.tmp 4) (by kernel_rfl) b i (by kernel_rfl) (.int .u64 n) (by kernel_rfl) (by kernel_rfl) (by kernel_rfl) (.int .u64 x) (rc (hb) (hx)) (frozen_of_row _ _ _ _ _ hb) (by kernel_rfl)) ?_
  clear eV1
  have h3 : V1.cell? ⟨k, 0, none⟩ = some (.pointer (some ⟨b, i, none⟩)) := (kV1.cell (World.block_lt_of_cell? _ _ hbox) (fun e => hkb e)).trans hbox
  have K4 : Keeps (One b) w V1 := K0.then kV1 (fun i hi hm => by unfold Own.One at hm; subst hm; exact rfl)
  have z5 := kV1.size
  refine ps_end ?_
  refine sy_fall (.tuple #[]) rfl (by kernel_rfl) ?_
  exact ⟨rfl, h2, K4⟩
theorem str_neq (a b : ByteArray) (w : World) : (binOp .neq 9 (.string a) (.string b)).run Tryd.prog w = .ok (.bool (!decide (a = b))) w := by
  have h := str_eql a b w
  rw [binOp_string_eql] at h
  rw [binOp_string_neq]
  have h2 : (a.toList == b.toList) = decide (a = b) := by
    have : (Result.ok (.bool (a.toList == b.toList)) w : Result Value) = .ok (.bool (decide (a = b))) w := h
    simpa using this
  rw [← h2]; rfl
theorem parOfL_l {l : List Int} (h : l.length = 11) : (parOfL l).l = l := (eleven h).symm
theorem pwith_l (p : Par) (i n : Nat) : (pwith p i n).l = p.r.set i (min (n : Int) 1099511627776) := parOfL_l (by rw [List.length_set]; rfl)
theorem U_eq (i : Nat) : parLoU[i]?.getD 0 = parLo[i]?.getD 0 ∧ parHiU[i]?.getD 0 = parHi[i]?.getD 0 := ⟨rfl, rfl⟩
theorem pwith_out {p : Par} (h : ∀ j, j < 11 → p.good j) {i n : Nat} (hi : i < 11) (ho : ¬ (parLoU[i]?.getD 0 ≤ (n : Int) ∧ (n : Int) ≤ parHiU[i]?.getD 0)) : (pwith p i n).check.1 = 3 := by
  have hb : ¬ (pwith p i n).good i := fun hg => ho <| by
    unfold Par.good at hg
    rw [pwith_l, List.getElem?_set_self (by show i < p.r.length; exact hi)] at hg
    simp only [Option.getD_some] at hg
    have := parHi_le i; have := U_eq i
    omega
  rw [(pwith p i n).check_bad i hi (fun j hj => by
    unfold Par.good
    rw [pwith_l, List.getElem?_set_ne (by omega)]
    exact (p.good_r j (by omega)).1 (h j (by omega))) hb]
theorem set_eq {p : Par} (h : ∀ j, j < 11 → p.good j) {i n : Nat} (hn : (n : Int) ≤ 1099511627776) : (min p.base 1099511627776 = p.base ∧ min p.mult 1099511627776 = p.mult ∧ min p.rew 1099511627776 = p.rew) ∧ min (n : Int) 1099511627776 = n := by
  have h7 := (h 7 (by omega)).2; have h8 := (h 8 (by omega)).2; have h10 := (h 10 (by omega)).2
  have e7 : p.base ≤ 1000000000 := h7
  have e8 : p.mult ≤ 1000 := h8
  have e10 : p.rew ≤ 1000000000 := h10
  omega
theorem set_ok (p : Par) (h : ∀ j, j < 11 → p.good j) (i b k n : Nat) (w : World) (hi : i < 11) (hbox : w.cell? ⟨k, 0, none⟩ = some (.pointer (some ⟨b, i, none⟩))) (hb : w.heap[b]? = some (.cells p.cells 24 (0, 0))) (hn : (n : Int) ≤ 1099511627776) (hkb : k ≠ b) :
    Calls Tryd.prog (parSet[i]?.getD 0) #[.int .u64 ((n : Nat) : Int), .pointer (some ⟨k, 0, none⟩)] w (fun e w' => e = .returned (.tuple #[]) ∧ w'.heap[b]? = some (.cells (pwith p i n).cells 24 (0, 0)) ∧ Keeps (One b) w w') := by
  obtain ⟨⟨e7, e8, e10⟩, en⟩ := set_eq (i := i) h hn
  have h' : i = 0 ∨ i = 1 ∨ i = 2 ∨ i = 3 ∨ i = 4 ∨ i = 5 ∨ i = 6 ∨ i = 7 ∨ i = 8 ∨ i = 9 ∨ i = 10 := by omega
  rcases h' with rfl | rfl | rfl | rfl | rfl | rfl | rfl | rfl | rfl | rfl | rfl
  all_goals
    first
    | refine (pof2_ok b k _ n _ _ w hbox hb rfl (by omega) (by omega) hkb).mono fun e w' ⟨h1, h2, h3⟩ => ⟨h1, h2.trans (congrArg (fun c => some (Obj.cells c 24 (0, 0))) ?_), h3⟩
    | refine (pword2_ok b k _ n _ _ w hbox hb rfl (by omega) (by omega) hkb).mono fun e w' ⟨h1, h2, h3⟩ => ⟨h1, h2.trans (congrArg (fun c => some (Obj.cells c 24 (0, 0))) ?_), h3⟩
    unfold pwith Par.r
    rw [e7, e8, e10, en]
    rfl
set_option maxRecDepth 100000 in
theorem set_enters (i : Nat) (hi : i < 11) : ∀ args w, (callFunc (parSet[i]?.getD 0) args).run Tryd.prog w = .ok (.enter (parSet[i]?.getD 0) args) w := by
  have h' : i = 0 ∨ i = 1 ∨ i = 2 ∨ i = 3 ∨ i = 4 ∨ i = 5 ∨ i = 6 ∨ i = 7 ∨ i = 8 ∨ i = 9 ∨ i = 10 := by omega
  have e1 : ∀ args w, (callFunc 83 args).run Tryd.prog w = .ok (.enter 83 args) w := enters_of Tryd.func83 (by kernel_rfl) rfl
  have e2 : ∀ args w, (callFunc 85 args).run Tryd.prog w = .ok (.enter 85 args) w := enters_of Tryd.func85 (by kernel_rfl) rfl
  rcases h' with rfl | rfl | rfl | rfl | rfl | rfl | rfl | rfl | rfl | rfl | rfl <;> first | exact e1 | exact e2
theorem within_yes (nm f g : Value) (lo hi n : Int) (w : World) (hb : lo ≤ n ∧ n ≤ hi) : Calls Tryd.prog 38 #[.agg #[nm, .int .u64 lo, .int .u64 hi, f, g], .int .u64 n] w fun e w' => e = .returned (.bool true) ∧ Keeps Nob w w' := by
  have := within_ok nm f g lo hi n w
  rwa [decide_eq_true hb.1, decide_eq_true hb.2] at this
theorem within_no (nm f g : Value) (lo hi n : Int) (w : World) (hb : ¬ (lo ≤ n ∧ n ≤ hi)) : Calls Tryd.prog 38 #[.agg #[nm, .int .u64 lo, .int .u64 hi, f, g], .int .u64 n] w fun e w' => e = .returned (.bool false) ∧ Keeps Nob w w' := by
  have := within_ok nm f g lo hi n w
  have e : (decide (lo ≤ n) && decide (n ≤ hi)) = false := by simpa using hb
  rwa [e] at this
theorem ks_ne {w : World} {g b i : Nat} {ks : Nat → Nat} {p : Par} (h : FieldsAt w g b ks) (hb : w.heap[b]? = some (.cells p.cells 24 (0, 0))) (hi : i < 11) : ks i ≠ b := fun e => by
  have h1 := h.box i hi
  rw [e, cell_of_row _ _ 0 _ _ _ hb] at h1
  cases h1
noncomputable def part_pSet (n : Nat) : Code := partOf Tryd.f13 n
noncomputable abbrev o_pSet (n k : Nat) : Oper := (opsAt (part_pSet n)).getD k default
set_option maxRecDepth 100000 in
set_option maxHeartbeats 4000000 in
theorem pSet_bad (p : Par) (s : ByteArray) (n : Nat) (w : World) (hp : p.Ok) (hc : ¬ p.check.1 = 0) :
    Calls Tryd.prog 13 #[.agg p.cells, .string s, .int .u64 ((n : Nat) : Int)] w (fun e w' => e = .returned (.tuple #[.agg (pset p s n).1.cells, .int .i64 (pset p s n).2]) ∧ Keeps Nob w w') := by
  have K0 : Keeps Nob w w := Keeps.refl _ _
  refine sy_enter (part_pSet 1) ⟨#[.agg p.cells, .string s, uN n, undef, undef, undef, undef, undef, undef, undef, undef, undef, undef, undef, undef, undef, undef, undef, undef, undef, undef, undef, undef, undef, undef, undef, undef, undef, undef, undef, undef, undef, undef, undef, undef, undef, undef, undef, undef, undef, undef, undef, undef, undef, undef, undef, undef, undef, undef, undef, undef, undef, undef, undef], []⟩ Tryd.func13 (by kernel_rfl) (by kernel_rfl) ?_
  refine sy_sq (part_pSet 2) (part_pSet 3) ?_
  refine sy_reg ?_
  refine rg_plain 0 (opsAt (part_pSet 2)) [0, 1, 2] (by kernel_rfl) (by kernel_rfl) ?_
  obtain ⟨V1, eV1, gp, egp, h2, kV1⟩ := alloc_step w p.cells 24
  have n3 : w.heap.size ≤ gp := egp ▸ K0.size
  refine ps_r (o_pSet 2 0) (pT gp 0) (w' := V1) (by rw [← eV1, ← egp]; exact exec_box 24 (.tmp 0) (by kernel_rfl) (.agg p.cells) (by kernel_rfl)) ?_
  clear eV1
  have K4 := K0.nn kV1
  have z5 := kV1.size
  obtain ⟨V6, eV6, go, ego, h7, kV6⟩ := alloc_step V1 (#[.int .i64 0, .int .i64 0, .int .i64 0, .int .i64 0, .int .i64 0, .int .i64 0, .int .i64 0, .int .u64 0, .int .u64 0, .int .i64 0, .int .u64 0]) 24
  have n8 : gp < go := ego ▸ lt_of_block h2
  have n9 : w.heap.size ≤ go := ego ▸ K4.size
  refine ps_r (o_pSet 2 1) (pT go 0) (w' := V6) (by rw [← eV6, ← ego]; exact exec_alloc0 24 (by kernel_rfl) (.agg (#[.int .i64 0, .int .i64 0, .int .i64 0, .int .i64 0, .int .i64 0, .int .i64 0, .int .i64 0, .int .u64 0, .int .u64 0, .int .i64 0, .int .u64 0])) (by kernel_rfl)) ?_
  clear eV6
  have h10 := kV6.bk h2
  have K11 := K4.nn kV6
  have z12 := kV6.size
  refine ps_k (o_pSet 2 2) (.int .i64 0) ?_
  refine ps_end ?_
  refine then_n ?_
  refine sy_sq (part_pSet 6) (part_pSet 7) ?_
  refine sy_sq (part_pSet 12) (part_pSet 13) ?_
  refine sy_reg ?_
  refine rg_plain 1 (opsAt (part_pSet 12)) [0, 1, 2, 3, 4, 5, 6] (by kernel_rfl) (by kernel_rfl) ?_
  refine ps_p (o_pSet 12 0) (.agg (p.cells)) (exec_load_row 24 (.tmp 3) (by kernel_rfl) gp (by kernel_rfl) _ _ (0, 0) _ (h10) Tryd.underlying24 rfl (by kernel_rfl)) ?_
  refine ps_c (o_pSet 12 1) 9 #[.agg (p.cells)] Tryd.func9 ((pCheck_is p _ _ hp rfl).mono ?_)
  rintro e V13 ⟨rfl, kV13⟩
  refine ⟨_, rfl, ?_⟩
  have h14 := kV13.bk h10
  have h15 := kV13.bk h7
  have K16 := K11.nn kV13
  have z17 := kV13.size
  refine ps_k (o_pSet 12 2) (.tuple #[.int .i64 p.check.1, .int .i64 p.check.2]) ?_
  refine ps_k (o_pSet 12 3) (.int .i64 p.check.1) ?_
  refine ps_k (o_pSet 12 4) (.int .i64 p.check.2) ?_
  refine ps_k (o_pSet 12 5) (.int .i64 p.check.1) ?_
  refine ps_k (o_pSet 12 6) (.int .i64 p.check.2) ?_
  refine ps_end ?_
  refine then_n ?_
  refine sy_sq (part_pSet 26) (part_pSet 27) ?_
  refine sy_reg ?_
  refine rg_plain 2 (opsAt (part_pSet 26)) [0, 1] (by kernel_rfl) (by kernel_rfl) ?_
  refine ps_k (o_pSet 26 0) (.int .i64 p.check.1) ?_
  refine ps_p (o_pSet 26 1) (.bool true) (nqt ((p.check.1) : Int) ((0) : Int) (by omega)) ?_
  refine ps_end ?_
  refine then_n ?_
  refine sy_ys (.tmp 20) (part_pSet 54) (part_pSet 55) ?_
  refine sy_sq (part_pSet 108) (part_pSet 109) ?_
  refine sy_reg ?_
  refine rg_plain 3 (opsAt (part_pSet 108)) [0, 1, 2, 3] (by kernel_rfl) (by kernel_rfl) ?_
  refine ps_k (o_pSet 108 0) (.agg parZ.cells) ?_
  refine ps_k (o_pSet 108 1) (.int .i64 p.check.1) ?_
  obtain ⟨V18, eV18, kV18⟩ := rowset_step V13 go parZ.cells
  have h19 : V18.heap[go]? = some (.cells parZ.cells 24 (0, 0)) := eV18 ▸ setRow_heap _ _ _ _ _ _ h15
  refine ps_s (o_pSet 108 2) (w' := V18) (by rw [← eV18]; exact exec_store_row 24 (.tmp 6) (.tmp 21) (by kernel_rfl) go parZ.cells (by kernel_rfl) (by kernel_rfl) 24 (#[.int .i64 0, .int .i64 0, .int .i64 0, .int .i64 0, .int .i64 0, .int .i64 0, .int .i64 0, .int .u64 0, .int .u64 0, .int .i64 0, .int .u64 0]) h15 (by kernel_rfl) rfl (by kernel_rfl)) ?_
  clear eV18
  have h20 := kV18.bo h14 (by omega)
  have K21 := K16.no kV18 (by omega)
  have z22 := kV18.size
  refine ps_k (o_pSet 108 3) (.int .i64 p.check.1) ?_
  refine ps_end ?_
  refine then_n ?_
  refine sy_ret (by kernel_rfl) ?_
  refine then_r ?_
  refine sy_out (.tuple #[.agg parZ.cells, .int .i64 p.check.1]) rfl (results_row_tmp (p := 6) (q := 7) (ty := 24) (by kernel_rfl) _ _ go 24 parZ.cells (0, 0) _ (.int .i64 p.check.1) (by kernel_rfl) h19 Tryd.underlying24 rfl (by kernel_rfl) (by kernel_rfl)) ?_
  exact ⟨by rw [pset, if_neg hc], K21⟩
set_option maxRecDepth 100000 in
set_option maxHeartbeats 4000000 in
theorem pSet_fine (p : Par) (s : ByteArray) (n : Nat) (w : World) (hp : p.Ok) (hc : p.check.1 = 0) :
    Calls Tryd.prog 13 #[.agg p.cells, .string s, .int .u64 ((n : Nat) : Int)] w (fun e w' => e = .returned (.tuple #[.agg (pset p s n).1.cells, .int .i64 (pset p s n).2]) ∧ Keeps Nob w w') := by
  have K0 : Keeps Nob w w := Keeps.refl _ _
  refine sy_enter (part_pSet 1) ⟨#[.agg p.cells, .string s, uN n, undef, undef, undef, undef, undef, undef, undef, undef, undef, undef, undef, undef, undef, undef, undef, undef, undef, undef, undef, undef, undef, undef, undef, undef, undef, undef, undef, undef, undef, undef, undef, undef, undef, undef, undef, undef, undef, undef, undef, undef, undef, undef, undef, undef, undef, undef, undef, undef, undef, undef, undef], []⟩ Tryd.func13 (by kernel_rfl) (by kernel_rfl) ?_
  refine sy_sq (part_pSet 2) (part_pSet 3) ?_
  refine sy_reg ?_
  refine rg_plain 0 (opsAt (part_pSet 2)) [0, 1, 2] (by kernel_rfl) (by kernel_rfl) ?_
  obtain ⟨V1, eV1, gp, egp, h2, kV1⟩ := alloc_step w p.cells 24
  have n3 : w.heap.size ≤ gp := egp ▸ K0.size
  refine ps_r (o_pSet 2 0) (pT gp 0) (w' := V1) (by rw [← eV1, ← egp]; exact exec_box 24 (.tmp 0) (by kernel_rfl) (.agg p.cells) (by kernel_rfl)) ?_
  clear eV1
  have K4 := K0.nn kV1
  have z5 := kV1.size
  obtain ⟨V6, eV6, go, ego, h7, kV6⟩ := alloc_step V1 (#[.int .i64 0, .int .i64 0, .int .i64 0, .int .i64 0, .int .i64 0, .int .i64 0, .int .i64 0, .int .u64 0, .int .u64 0, .int .i64 0, .int .u64 0]) 24
  have n8 : gp < go := ego ▸ lt_of_block h2
  have n9 : w.heap.size ≤ go := ego ▸ K4.size
  refine ps_r (o_pSet 2 1) (pT go 0) (w' := V6) (by rw [← eV6, ← ego]; exact exec_alloc0 24 (by kernel_rfl) (.agg (#[.int .i64 0, .int .i64 0, .int .i64 0, .int .i64 0, .int .i64 0, .int .i64 0, .int .i64 0, .int .u64 0, .int .u64 0, .int .i64 0, .int .u64 0])) (by kernel_rfl)) ?_
  clear eV6
  have h10 := kV6.bk h2
  have K11 := K4.nn kV6
  have z12 := kV6.size
  refine ps_k (o_pSet 2 2) (.int .i64 0) ?_
  refine ps_end ?_
  refine then_n ?_
  refine sy_sq (part_pSet 6) (part_pSet 7) ?_
  refine sy_sq (part_pSet 12) (part_pSet 13) ?_
  refine sy_reg ?_
  refine rg_plain 1 (opsAt (part_pSet 12)) [0, 1, 2, 3, 4, 5, 6] (by kernel_rfl) (by kernel_rfl) ?_
  refine ps_p (o_pSet 12 0) (.agg (p.cells)) (exec_load_row 24 (.tmp 3) (by kernel_rfl) gp (by kernel_rfl) _ _ (0, 0) _ (h10) Tryd.underlying24 rfl (by kernel_rfl)) ?_
  refine ps_c (o_pSet 12 1) 9 #[.agg (p.cells)] Tryd.func9 ((pCheck_is p 0 _ hp hc).mono ?_)
  rintro e V13 ⟨rfl, kV13⟩
  refine ⟨_, rfl, ?_⟩
  have h14 := kV13.bk h10
  have h15 := kV13.bk h7
  have K16 := K11.nn kV13
  have z17 := kV13.size
  refine ps_k (o_pSet 12 2) (.tuple #[.int .i64 0, .int .i64 p.check.2]) ?_
  refine ps_k (o_pSet 12 3) (.int .i64 0) ?_
  refine ps_k (o_pSet 12 4) (.int .i64 p.check.2) ?_
  refine ps_k (o_pSet 12 5) (.int .i64 0) ?_
  refine ps_k (o_pSet 12 6) (.int .i64 p.check.2) ?_
  refine ps_end ?_
  refine then_n ?_
  refine sy_sq (part_pSet 26) (part_pSet 27) ?_
  refine sy_reg ?_
  refine rg_plain 2 (opsAt (part_pSet 26)) [0, 1] (by kernel_rfl) (by kernel_rfl) ?_
  refine ps_k (o_pSet 26 0) (.int .i64 0) ?_
  refine ps_k (o_pSet 26 1) (.bool false) ?_
  refine ps_end ?_
  refine then_n ?_
  refine sy_n (.tmp 20) (part_pSet 54) (part_pSet 55) ?_
  refine sy_sk ?_
  refine then_n ?_
  refine sy_sq (part_pSet 14) (part_pSet 15) ?_
  refine sy_sq (part_pSet 28) (part_pSet 29) ?_
  refine sy_reg ?_
  refine rg_plain 4 (opsAt (part_pSet 28)) [0, 1, 2] (by kernel_rfl) (by kernel_rfl) ?_
  refine ps_c (o_pSet 28 0) 37 #[pT gp 0] Tryd.func37 ((fields_ok gp _).mono ?_)
  rintro e V18 ⟨g, ks, rfl, hF, hgl, kV18⟩
  obtain ⟨NB, hNB⟩ : ∃ n, V18.heap.size = n := ⟨_, rfl⟩
  have hgp5 := lt_of_block h14
  have hgo5 := lt_of_block h15
  refine ⟨_, rfl, ?_⟩
  have h19 := kV18.bk h14
  have h20 := kV18.bk h15
  have K21 := K16.nn kV18
  have z22 := kV18.size
  refine ps_p (o_pSet 28 1) (.int .i64 11) (exec_len (.tmp 23) 61 _ (by kernel_rfl) Tryd.underlying61 (some ⟨g, 0, none⟩) 11 11 (by kernel_rfl)) ?_
  refine ps_k (o_pSet 28 2) (.int .i64 0) ?_
  refine ps_end ?_
  refine then_n ?_
  refine sy_bk 0 (part_pSet 58) ?_
  refine sy_loop (part_pSet 116) (fun a V => ∃ (i : Nat) (u7 u11 u12 u13 u26 u27 u28 u29 u30 u31 u32 u33 u34 u35 u36 u37 u38 u39 u40 u41 u42 u43 u44 u45 u46 u47 u48 u49 u50 u51 u52 : Value), (a = ⟨#[.agg p.cells, .string s, uN n, pT gp 0, undef, undef, pT go 0, u7, .int .i64 0, .int .i64 p.check.2, undef, u11, u12, u13, .tuple #[.int .i64 0, .int .i64 p.check.2], .agg (p.cells), .tuple #[.int .i64 0, .int .i64 p.check.2], .int .i64 0, .int .i64 p.check.2, .int .i64 0, .bool false, undef, undef, .slice (some ⟨g, 0, none⟩) 11 11, .int .i64 11, iN i, u26, u27, u28, u29, u30, u31, u32, u33, u34, u35, u36, u37, u38, u39, u40, u41, u42, u43, u44, u45, u46, u47, u48, u49, u50, u51, u52, undef], []⟩) ∧ (i ≤ 11) ∧ (∀ j, j < i → parName[j]? ≠ some s) ∧ (V.heap[gp]? = some (.cells p.cells 24 (0, 0))) ∧ (V.heap[go]? = some (.cells (#[.int .i64 0, .int .i64 0, .int .i64 0, .int .i64 0, .int .i64 0, .int .i64 0, .int .i64 0, .int .u64 0, .int .u64 0, .int .i64 0, .int .u64 0]) 24 (0, 0))) ∧ (FieldsAt V g gp ks) ∧ (NB ≤ V.heap.size) ∧ (Keeps Nob w V)) (fun a _ => 11 - (intOf (a.tmps.getD 25 undef)).toNat) (by kernel_rfl) ?_ ?_
  · exact ⟨0, (.int .i64 0), undef, undef, undef, undef, undef, undef, undef, undef, undef, undef, undef, undef, undef, undef, undef, undef, undef, undef, undef, undef, undef, undef, undef, undef, undef, undef, undef, undef, undef, undef, by kernel_rfl, by omega, fun j h => absurd h (by omega), h19, h20, hF, (Nat.le_of_eq hNB.symm), K21⟩
  · rintro a V23 ⟨i, u7, u11, u12, u13, u26, u27, u28, u29, u30, u31, u32, u33, u34, u35, u36, u37, u38, u39, u40, u41, u42, u43, u44, u45, u46, u47, u48, u49, u50, u51, u52, rfl, hi, hs, h24, h25, h26, h27, K28⟩
    rcases (show (i < 11 ∧ parName[i]?.getD ⟨#[]⟩ = s) ∨ (i < 11 ∧ ¬ parName[i]?.getD ⟨#[]⟩ = s) ∨ i = 11 by
        by_cases h : i < 11
        · by_cases e : parName[i]?.getD ⟨#[]⟩ = s
          · exact .inl ⟨h, e⟩
          · exact .inr (.inl ⟨h, e⟩)
        · exact .inr (.inr (by omega))) with ⟨lt_i, hxs⟩ | ⟨lt_i, hxs⟩ | eq_i
    · have hf := pfind_hit hs (hxs ▸ name_i lt_i)
      have hqo := pwith_Ok (Par.check_0 hc).1 i n
      refine sy_sq (part_pSet 232) (part_pSet 233) ?_
      refine sy_reg ?_
      refine rg_plain 5 (opsAt (part_pSet 232)) [0] (by kernel_rfl) (by kernel_rfl) ?_
      refine ps_p (o_pSet 232 0) (.bool true) (dct ((((i : Nat) : Int)) < ((11) : Int)) (by omega)) ?_
      refine ps_end ?_
      refine then_n ?_
      refine sy_sq (part_pSet 466) (part_pSet 467) ?_
      refine sy_ys (.tmp 26) (part_pSet 932) (part_pSet 933) ?_
      refine sy_sk ?_
      refine then_n ?_
      refine sy_sq (part_pSet 934) (part_pSet 935) ?_
      refine sy_bk 1 (part_pSet 1868) ?_
      refine sy_sq (part_pSet 3736) (part_pSet 3737) ?_
      refine sy_reg ?_
      refine rg_plain 6 (opsAt (part_pSet 3736)) [0, 1, 2, 3] (by kernel_rfl) (by kernel_rfl) ?_
      refine ps_p (o_pSet 3736 0) (pT g (i * 5)) (exec_cast (v := pT g (0 + i * 5)) (by simp) (exec_indexAt_slice 61 (.tmp 23) (.tmp 25) (by kernel_rfl) g 0 11 11 (by kernel_rfl) .i64 i (by kernel_rfl) _ 5 Tryd.underlying61 (by kernel_rfl) (by omega))) ?_
      refine ps_p (o_pSet 3736 1) (.agg (fieldC i (ks i)).toArray) (exec_load_mid 67 (.tmp 27) (by kernel_rfl) g (i * 5) (by kernel_rfl) (fieldC i (ks i)) _ (FieldsAt.mid h26 lt_i) Tryd.underlying67 rfl (by kernel_rfl)) ?_
      obtain ⟨V29, eV29, gt, egt, h30, kV29⟩ := alloc_step V23 (#[.string ⟨#[]⟩, .int .u64 0, .int .u64 0, .nilFunc, .nilFunc]) 67
      have n31 : gp < gt := egt ▸ lt_of_block h24
      have n32 : go < gt := egt ▸ lt_of_block h25
      have n33 : w.heap.size ≤ gt := egt ▸ K28.size
      refine ps_r (o_pSet 3736 2) (pT gt 0) (w' := V29) (by rw [← eV29, ← egt]; exact exec_alloc0 67 (by kernel_rfl) (.agg (#[.string ⟨#[]⟩, .int .u64 0, .int .u64 0, .nilFunc, .nilFunc])) (by kernel_rfl)) ?_
      clear eV29
      have h34 := kV29.bk h24
      have h35 := kV29.bk h25
      have h36 : FieldsAt V29 g gp ks := h26.keepsN kV29
      have h37 : NB ≤ V29.heap.size := Nat.le_trans h27 kV29.size
      have K38 := K28.nn kV29
      have z39 := kV29.size
      obtain ⟨V40, eV40, kV40⟩ := rowset_step V29 gt ((fieldC i (ks i)).toArray)
      have h41 : V40.heap[gt]? = some (.cells ((fieldC i (ks i)).toArray) 67 (0, 0)) := eV40 ▸ setRow_heap _ _ _ _ _ _ h30
      refine ps_s (o_pSet 3736 3) (w' := V40) (by rw [← eV40]; exact exec_store_row 67 (.tmp 11) (.tmp 28) (by kernel_rfl) gt ((fieldC i (ks i)).toArray) (by kernel_rfl) (by kernel_rfl) 67 (#[.string ⟨#[]⟩, .int .u64 0, .int .u64 0, .nilFunc, .nilFunc]) h30 (by kernel_rfl) rfl (by kernel_rfl)) ?_
      clear eV40
      have h42 := kV40.bo h34 (by omega)
      have h43 := kV40.bo h35 (by omega)
      have h44 : FieldsAt V40 g gp ks := FieldsAt.keepsB hF h36 kV40 (fun j hj e => by unfold Own.One at e; omega)
      have h45 : NB ≤ V40.heap.size := Nat.le_trans h37 kV40.size
      have K46 := K38.no kV40 (by omega)
      have z47 := kV40.size
      refine ps_end ?_
      refine then_n ?_
      refine sy_sq (part_pSet 7474) (part_pSet 7475) ?_
      refine sy_sq (part_pSet 14948) (part_pSet 14949) ?_
      refine sy_reg ?_
      refine rg_plain 7 (opsAt (part_pSet 14948)) [0, 1, 2, 3] (by kernel_rfl) (by kernel_rfl) ?_
      refine ps_k (o_pSet 14948 0) (pT gt 0) ?_
      refine ps_p (o_pSet 14948 1) (.string (parName[i]?.getD ⟨#[]⟩)) (exec_ld 9 (.tmp 29) gt 0 Tryd.underlying9 (rc (h41) (rfl))) ?_
      refine ps_k (o_pSet 14948 2) (.string s) ?_
      refine ps_p (o_pSet 14948 3) (.bool false) (exec_cast (congrArg Value.bool ((by simp [hxs]))) (exec_binop .neq 9 9 (.tmp 30) (.tmp 31) (by kernel_rfl) (.string (parName[i]?.getD ⟨#[]⟩)) (.string s) _ (by kernel_rfl) (by kernel_rfl) (by kernel_rfl) (str_neq _ s _))) ?_
      refine ps_end ?_
      refine then_n ?_
      refine sy_n (.tmp 32) (part_pSet 29898) (part_pSet 29899) ?_
      refine sy_sk ?_
      refine then_n ?_
      refine sy_sq (part_pSet 14950) (part_pSet 14951) ?_
      refine sy_sq (part_pSet 29900) (part_pSet 29901) ?_
      refine sy_reg ?_
      refine rg_plain 8 (opsAt (part_pSet 29900)) [0, 1, 2, 3] (by kernel_rfl) (by kernel_rfl) ?_
      by_cases hin : parLoU[i]?.getD 0 ≤ (n : Int) ∧ (n : Int) ≤ parHiU[i]?.getD 0
      · have hn40 : (n : Int) ≤ 1099511627776 := by have := parHi_le i; have := U_eq i; omega
        refine ps_p (o_pSet 29900 0) (.agg ((fieldC i (ks i)).toArray)) (exec_load_row 67 (.tmp 11) (by kernel_rfl) gt (by kernel_rfl) _ _ (0, 0) _ (h41) Tryd.underlying67 rfl (by kernel_rfl)) ?_
        refine ps_k (o_pSet 29900 1) (uN n) ?_
        refine ps_c (o_pSet 29900 2) 38 #[.agg ((fieldC i (ks i)).toArray), uN n] Tryd.func38 ((within_yes _ _ _ _ _ _ _ hin).mono ?_)
        rintro e V48 ⟨rfl, kV48⟩
        refine ⟨_, rfl, ?_⟩
        have h49 := kV48.bk h42
        have h50 := kV48.bk h43
        have h51 : FieldsAt V48 g gp ks := h44.keepsN kV48
        have h52 : NB ≤ V48.heap.size := Nat.le_trans h45 kV48.size
        have h53 := kV48.bk h41
        have K54 := K46.nn kV48
        have z55 := kV48.size
        refine ps_k (o_pSet 29900 3) (.bool false) ?_
        refine ps_end ?_
        refine then_n ?_
        refine sy_n (.tmp 36) (part_pSet 59802) (part_pSet 59803) ?_
        refine sy_sk ?_
        refine then_n ?_
        refine sy_sq (part_pSet 29902) (part_pSet 29903) ?_
        refine sy_reg ?_
        refine rg_plain 10 (opsAt (part_pSet 29902)) [0, 1, 2, 3] (by kernel_rfl) (by kernel_rfl) ?_
        refine ps_k (o_pSet 29902 0) (pT gt 4) ?_
        refine ps_p (o_pSet 29902 1) (.func (.func (parSet[i]?.getD 0)) #[] #[.pointer (some ⟨ks i, 0, none⟩)]) (exec_ld 65 (.tmp 38) gt 4 Tryd.underlying65 (rc (h53) (rfl))) ?_
        refine ps_k (o_pSet 29902 2) (uN n) ?_
        have hkg := ks_ne h51 h49 lt_i
        refine ps_callV (o_pSet 29902 3) (.tmp 39) (parSet[i]?.getD 0) #[] #[.pointer (some ⟨ks i, 0, none⟩)] #[uN n, .pointer (some ⟨ks i, 0, none⟩)] (by kernel_rfl) (by kernel_rfl) (by kernel_rfl) (by kernel_rfl) (by kernel_rfl) (set_enters i lt_i) ((set_ok p (Par.check_0 hc).1 i gp (ks i) n _ lt_i (FieldsAt.box h51 i lt_i) h49 hn40 hkg).mono ?_)
        rintro e V56 ⟨rfl, hbV56, kV56⟩
        refine ⟨_, rfl, ?_⟩
        have h57 := kV56.bo h50 (by omega)
        have h58 : NB ≤ V56.heap.size := Nat.le_trans h52 kV56.size
        have h59 := kV56.bo h53 (by omega)
        have K60 := K54.no kV56 (by omega)
        have z61 := kV56.size
        refine ps_end ?_
        refine then_n ?_
        refine sy_sq (part_pSet 59806) (part_pSet 59807) ?_
        refine sy_sq (part_pSet 119612) (part_pSet 119613) ?_
        refine sy_reg ?_
        refine rg_plain 11 (opsAt (part_pSet 119612)) [0, 1, 2, 3, 4, 5, 6] (by kernel_rfl) (by kernel_rfl) ?_
        by_cases hq0 : (pwith p i n).check.1 = 0
        · refine ps_p (o_pSet 119612 0) (.agg ((pwith p i n).cells)) (exec_load_row 24 (.tmp 3) (by kernel_rfl) gp (by kernel_rfl) _ _ (0, 0) _ (hbV56) Tryd.underlying24 rfl (by kernel_rfl)) ?_
          refine ps_c (o_pSet 119612 1) 9 #[.agg ((pwith p i n).cells)] Tryd.func9 ((pCheck_is (pwith p i n) _ _ hqo hq0).mono ?_)
          rintro e V62 ⟨rfl, kV62⟩
          refine ⟨_, rfl, ?_⟩
          have h63 := kV62.bk h57
          have h64 : NB ≤ V62.heap.size := Nat.le_trans h58 kV62.size
          have h65 := kV62.bk h59
          have h66 := kV62.bk hbV56
          have K67 := K60.nn kV62
          have z68 := kV62.size
          refine ps_k (o_pSet 119612 2) (.tuple #[.int .i64 0, .int .i64 (pwith p i n).check.2]) ?_
          refine ps_k (o_pSet 119612 3) (.int .i64 0) ?_
          refine ps_k (o_pSet 119612 4) (.int .i64 (pwith p i n).check.2) ?_
          refine ps_k (o_pSet 119612 5) (.int .i64 0) ?_
          refine ps_k (o_pSet 119612 6) (.int .i64 (pwith p i n).check.2) ?_
          refine ps_end ?_
          refine sy_a ⟨#[.agg p.cells, .string s, uN n, pT gp 0, undef, undef, pT go 0, u7, .int .i64 0, .int .i64 p.check.2, undef, pT gt 0, .int .i64 0, .int .i64 (pwith p i n).check.2, .tuple #[.int .i64 0, .int .i64 p.check.2], .agg (p.cells), .tuple #[.int .i64 0, .int .i64 p.check.2], .int .i64 0, .int .i64 p.check.2, .int .i64 0, .bool false, undef, undef, .slice (some ⟨g, 0, none⟩) 11 11, .int .i64 11, iN i, .bool true, pT g (i * 5), .agg (fieldC i (ks i)).toArray, pT gt 0, .string (parName[i]?.getD ⟨#[]⟩), .string s, .bool false, .agg ((fieldC i (ks i)).toArray), uN n, .bool true, .bool false, u37, pT gt 4, .func (.func (parSet[i]?.getD 0)) #[] #[.pointer (some ⟨ks i, 0, none⟩)], uN n, .tuple #[], .tuple #[.int .i64 0, .int .i64 (pwith p i n).check.2], .agg ((pwith p i n).cells), .tuple #[.int .i64 0, .int .i64 (pwith p i n).check.2], .int .i64 0, .int .i64 (pwith p i n).check.2, u47, u48, u49, u50, u51, u52, undef], []⟩ ?_
          refine then_n ?_
          refine sy_sq (part_pSet 239226) (part_pSet 239227) ?_
          refine sy_reg ?_
          refine rg_plain 12 (opsAt (part_pSet 239226)) [0, 1] (by kernel_rfl) (by kernel_rfl) ?_
          refine ps_k (o_pSet 239226 0) (.int .i64 0) ?_
          refine ps_k (o_pSet 239226 1) (.bool false) ?_
          refine ps_end ?_
          refine then_n ?_
          refine sy_n (.tmp 48) (part_pSet 478454) (part_pSet 478455) ?_
          refine sy_sk ?_
          refine then_n ?_
          refine sy_sq (part_pSet 119614) (part_pSet 119615) ?_
          refine sy_reg ?_
          refine rg_plain 14 (opsAt (part_pSet 119614)) [0, 1, 2] (by kernel_rfl) (by kernel_rfl) ?_
          refine ps_p (o_pSet 119614 0) (.agg ((pwith p i n).cells)) (exec_load_row 24 (.tmp 3) (by kernel_rfl) gp (by kernel_rfl) _ _ (0, 0) _ (h66) Tryd.underlying24 rfl (by kernel_rfl)) ?_
          obtain ⟨V69, eV69, kV69⟩ := rowset_step V62 go (((pwith p i n).cells))
          have h70 : V69.heap[go]? = some (.cells ((pwith p i n).cells) 24 (0, 0)) := eV69 ▸ setRow_heap _ _ _ _ _ _ h63
          refine ps_s (o_pSet 119614 1) (w' := V69) (by rw [← eV69]; exact exec_store_row 24 (.tmp 6) (.tmp 51) (by kernel_rfl) go (((pwith p i n).cells)) (by kernel_rfl) (by kernel_rfl) 24 (#[.int .i64 0, .int .i64 0, .int .i64 0, .int .i64 0, .int .i64 0, .int .i64 0, .int .i64 0, .int .u64 0, .int .u64 0, .int .i64 0, .int .u64 0]) h63 (by kernel_rfl) rfl (by kernel_rfl)) ?_
          clear eV69
          have h71 : NB ≤ V69.heap.size := Nat.le_trans h64 kV69.size
          have h72 := kV69.bo h65 (by omega)
          have h73 := kV69.bo h66 (by omega)
          have K74 := K67.no kV69 (by omega)
          have z75 := kV69.size
          refine ps_k (o_pSet 119614 2) (.int .i64 0) ?_
          refine ps_end ?_
          refine then_n ?_
          refine sy_ret (by kernel_rfl) ?_
          refine blk_r ?_
          refine then_r ?_
          refine then_r ?_
          refine blk_r ?_
          refine then_r ?_
          refine sy_out (.tuple #[.agg ((pwith p i n).cells), .int .i64 0]) rfl (results_row_tmp (p := 6) (q := 7) (ty := 24) (by kernel_rfl) _ _ go 24 ((pwith p i n).cells) (0, 0) _ (.int .i64 0) (by kernel_rfl) h70 Tryd.underlying24 rfl (by kernel_rfl) (by kernel_rfl)) ?_
          exact ⟨by rw [pset, if_pos hc, hf, if_neg (by omega), Int.toNat_natCast, if_pos hq0], K74⟩
        · refine ps_p (o_pSet 119612 0) (.agg ((pwith p i n).cells)) (exec_load_row 24 (.tmp 3) (by kernel_rfl) gp (by kernel_rfl) _ _ (0, 0) _ (hbV56) Tryd.underlying24 rfl (by kernel_rfl)) ?_
          refine ps_c (o_pSet 119612 1) 9 #[.agg ((pwith p i n).cells)] Tryd.func9 ((pCheck_is (pwith p i n) _ _ hqo rfl).mono ?_)
          rintro e V76 ⟨rfl, kV76⟩
          refine ⟨_, rfl, ?_⟩
          have h77 := kV76.bk h57
          have h78 : NB ≤ V76.heap.size := Nat.le_trans h58 kV76.size
          have h79 := kV76.bk h59
          have h80 := kV76.bk hbV56
          have K81 := K60.nn kV76
          have z82 := kV76.size
          refine ps_k (o_pSet 119612 2) (.tuple #[.int .i64 (pwith p i n).check.1, .int .i64 (pwith p i n).check.2]) ?_
          refine ps_k (o_pSet 119612 3) (.int .i64 (pwith p i n).check.1) ?_
          refine ps_k (o_pSet 119612 4) (.int .i64 (pwith p i n).check.2) ?_
          refine ps_k (o_pSet 119612 5) (.int .i64 (pwith p i n).check.1) ?_
          refine ps_k (o_pSet 119612 6) (.int .i64 (pwith p i n).check.2) ?_
          refine ps_end ?_
          refine sy_a ⟨#[.agg p.cells, .string s, uN n, pT gp 0, undef, undef, pT go 0, u7, .int .i64 0, .int .i64 p.check.2, undef, pT gt 0, .int .i64 (pwith p i n).check.1, .int .i64 (pwith p i n).check.2, .tuple #[.int .i64 0, .int .i64 p.check.2], .agg (p.cells), .tuple #[.int .i64 0, .int .i64 p.check.2], .int .i64 0, .int .i64 p.check.2, .int .i64 0, .bool false, undef, undef, .slice (some ⟨g, 0, none⟩) 11 11, .int .i64 11, iN i, .bool true, pT g (i * 5), .agg (fieldC i (ks i)).toArray, pT gt 0, .string (parName[i]?.getD ⟨#[]⟩), .string s, .bool false, .agg ((fieldC i (ks i)).toArray), uN n, .bool true, .bool false, u37, pT gt 4, .func (.func (parSet[i]?.getD 0)) #[] #[.pointer (some ⟨ks i, 0, none⟩)], uN n, .tuple #[], .tuple #[.int .i64 (pwith p i n).check.1, .int .i64 (pwith p i n).check.2], .agg ((pwith p i n).cells), .tuple #[.int .i64 (pwith p i n).check.1, .int .i64 (pwith p i n).check.2], .int .i64 (pwith p i n).check.1, .int .i64 (pwith p i n).check.2, u47, u48, u49, u50, u51, u52, undef], []⟩ ?_
          refine then_n ?_
          refine sy_sq (part_pSet 239226) (part_pSet 239227) ?_
          refine sy_reg ?_
          refine rg_plain 12 (opsAt (part_pSet 239226)) [0, 1] (by kernel_rfl) (by kernel_rfl) ?_
          refine ps_k (o_pSet 239226 0) (.int .i64 (pwith p i n).check.1) ?_
          refine ps_p (o_pSet 239226 1) (.bool true) (nqt (((pwith p i n).check.1) : Int) ((0) : Int) (by omega)) ?_
          refine ps_end ?_
          refine then_n ?_
          refine sy_ys (.tmp 48) (part_pSet 478454) (part_pSet 478455) ?_
          refine sy_sq (part_pSet 956908) (part_pSet 956909) ?_
          refine sy_reg ?_
          refine rg_plain 13 (opsAt (part_pSet 956908)) [0, 1, 2, 3] (by kernel_rfl) (by kernel_rfl) ?_
          refine ps_k (o_pSet 956908 0) (.agg parZ.cells) ?_
          refine ps_k (o_pSet 956908 1) (.int .i64 (pwith p i n).check.1) ?_
          obtain ⟨V83, eV83, kV83⟩ := rowset_step V76 go parZ.cells
          have h84 : V83.heap[go]? = some (.cells parZ.cells 24 (0, 0)) := eV83 ▸ setRow_heap _ _ _ _ _ _ h77
          refine ps_s (o_pSet 956908 2) (w' := V83) (by rw [← eV83]; exact exec_store_row 24 (.tmp 6) (.tmp 49) (by kernel_rfl) go parZ.cells (by kernel_rfl) (by kernel_rfl) 24 (#[.int .i64 0, .int .i64 0, .int .i64 0, .int .i64 0, .int .i64 0, .int .i64 0, .int .i64 0, .int .u64 0, .int .u64 0, .int .i64 0, .int .u64 0]) h77 (by kernel_rfl) rfl (by kernel_rfl)) ?_
          clear eV83
          have h85 : NB ≤ V83.heap.size := Nat.le_trans h78 kV83.size
          have h86 := kV83.bo h79 (by omega)
          have h87 := kV83.bo h80 (by omega)
          have K88 := K81.no kV83 (by omega)
          have z89 := kV83.size
          refine ps_k (o_pSet 956908 3) (.int .i64 (pwith p i n).check.1) ?_
          refine ps_end ?_
          refine then_n ?_
          refine sy_ret (by kernel_rfl) ?_
          refine then_r ?_
          refine blk_r ?_
          refine then_r ?_
          refine then_r ?_
          refine blk_r ?_
          refine then_r ?_
          refine sy_out (.tuple #[.agg parZ.cells, .int .i64 (pwith p i n).check.1]) rfl (results_row_tmp (p := 6) (q := 7) (ty := 24) (by kernel_rfl) _ _ go 24 parZ.cells (0, 0) _ (.int .i64 (pwith p i n).check.1) (by kernel_rfl) h84 Tryd.underlying24 rfl (by kernel_rfl) (by kernel_rfl)) ?_
          exact ⟨by rw [pset, if_pos hc, hf, if_neg (by omega), Int.toNat_natCast, if_neg hq0], K88⟩
      · have hq3 := pwith_out (Par.check_0 hc).1 lt_i hin
        refine ps_p (o_pSet 29900 0) (.agg ((fieldC i (ks i)).toArray)) (exec_load_row 67 (.tmp 11) (by kernel_rfl) gt (by kernel_rfl) _ _ (0, 0) _ (h41) Tryd.underlying67 rfl (by kernel_rfl)) ?_
        refine ps_k (o_pSet 29900 1) (uN n) ?_
        refine ps_c (o_pSet 29900 2) 38 #[.agg ((fieldC i (ks i)).toArray), uN n] Tryd.func38 ((within_no _ _ _ _ _ _ _ hin).mono ?_)
        rintro e V90 ⟨rfl, kV90⟩
        refine ⟨_, rfl, ?_⟩
        have h91 := kV90.bk h42
        have h92 := kV90.bk h43
        have h93 : FieldsAt V90 g gp ks := h44.keepsN kV90
        have h94 : NB ≤ V90.heap.size := Nat.le_trans h45 kV90.size
        have h95 := kV90.bk h41
        have K96 := K46.nn kV90
        have z97 := kV90.size
        refine ps_k (o_pSet 29900 3) (.bool true) ?_
        refine ps_end ?_
        refine then_n ?_
        refine sy_ys (.tmp 36) (part_pSet 59802) (part_pSet 59803) ?_
        refine sy_sq (part_pSet 119604) (part_pSet 119605) ?_
        refine sy_reg ?_
        refine rg_plain 9 (opsAt (part_pSet 119604)) [0, 1, 2] (by kernel_rfl) (by kernel_rfl) ?_
        refine ps_k (o_pSet 119604 0) (.agg parZ.cells) ?_
        obtain ⟨V98, eV98, kV98⟩ := rowset_step V90 go parZ.cells
        have h99 : V98.heap[go]? = some (.cells parZ.cells 24 (0, 0)) := eV98 ▸ setRow_heap _ _ _ _ _ _ h92
        refine ps_s (o_pSet 119604 1) (w' := V98) (by rw [← eV98]; exact exec_store_row 24 (.tmp 6) (.tmp 37) (by kernel_rfl) go parZ.cells (by kernel_rfl) (by kernel_rfl) 24 (#[.int .i64 0, .int .i64 0, .int .i64 0, .int .i64 0, .int .i64 0, .int .i64 0, .int .i64 0, .int .u64 0, .int .u64 0, .int .i64 0, .int .u64 0]) h92 (by kernel_rfl) rfl (by kernel_rfl)) ?_
        clear eV98
        have h100 := kV98.bo h91 (by omega)
        have h101 := kV98.bo h95 (by omega)
        have K102 := K96.no kV98 (by omega)
        have z103 := kV98.size
        refine ps_k (o_pSet 119604 2) (.int .i64 3) ?_
        refine ps_end ?_
        refine then_n ?_
        refine sy_ret (by kernel_rfl) ?_
        refine then_r ?_
        refine blk_r ?_
        refine then_r ?_
        refine then_r ?_
        refine blk_r ?_
        refine then_r ?_
        refine sy_out (.tuple #[.agg parZ.cells, .int .i64 3]) rfl (results_row_tmp (p := 6) (q := 7) (ty := 24) (by kernel_rfl) _ _ go 24 parZ.cells (0, 0) _ (.int .i64 3) (by kernel_rfl) h99 Tryd.underlying24 rfl (by kernel_rfl) (by kernel_rfl)) ?_
        exact ⟨by rw [pset, if_pos hc, hf, if_neg (by omega), Int.toNat_natCast, if_neg (by omega), hq3], K102⟩
    · skip
      refine sy_sq (part_pSet 232) (part_pSet 233) ?_
      refine sy_reg ?_
      refine rg_plain 5 (opsAt (part_pSet 232)) [0] (by kernel_rfl) (by kernel_rfl) ?_
      refine ps_p (o_pSet 232 0) (.bool true) (dct ((((i : Nat) : Int)) < ((11) : Int)) (by omega)) ?_
      refine ps_end ?_
      refine then_n ?_
      refine sy_sq (part_pSet 466) (part_pSet 467) ?_
      refine sy_ys (.tmp 26) (part_pSet 932) (part_pSet 933) ?_
      refine sy_sk ?_
      refine then_n ?_
      refine sy_sq (part_pSet 934) (part_pSet 935) ?_
      refine sy_bk 1 (part_pSet 1868) ?_
      refine sy_sq (part_pSet 3736) (part_pSet 3737) ?_
      refine sy_reg ?_
      refine rg_plain 6 (opsAt (part_pSet 3736)) [0, 1, 2, 3] (by kernel_rfl) (by kernel_rfl) ?_
      refine ps_p (o_pSet 3736 0) (pT g (i * 5)) (exec_cast (v := pT g (0 + i * 5)) (by simp) (exec_indexAt_slice 61 (.tmp 23) (.tmp 25) (by kernel_rfl) g 0 11 11 (by kernel_rfl) .i64 i (by kernel_rfl) _ 5 Tryd.underlying61 (by kernel_rfl) (by omega))) ?_
      refine ps_p (o_pSet 3736 1) (.agg (fieldC i (ks i)).toArray) (exec_load_mid 67 (.tmp 27) (by kernel_rfl) g (i * 5) (by kernel_rfl) (fieldC i (ks i)) _ (FieldsAt.mid h26 lt_i) Tryd.underlying67 rfl (by kernel_rfl)) ?_
      obtain ⟨V104, eV104, gt, egt, h105, kV104⟩ := alloc_step V23 (#[.string ⟨#[]⟩, .int .u64 0, .int .u64 0, .nilFunc, .nilFunc]) 67
      have n106 : gp < gt := egt ▸ lt_of_block h24
      have n107 : go < gt := egt ▸ lt_of_block h25
      have n108 : w.heap.size ≤ gt := egt ▸ K28.size
      refine ps_r (o_pSet 3736 2) (pT gt 0) (w' := V104) (by rw [← eV104, ← egt]; exact exec_alloc0 67 (by kernel_rfl) (.agg (#[.string ⟨#[]⟩, .int .u64 0, .int .u64 0, .nilFunc, .nilFunc])) (by kernel_rfl)) ?_
      clear eV104
      have h109 := kV104.bk h24
      have h110 := kV104.bk h25
      have h111 : FieldsAt V104 g gp ks := h26.keepsN kV104
      have h112 : NB ≤ V104.heap.size := Nat.le_trans h27 kV104.size
      have K113 := K28.nn kV104
      have z114 := kV104.size
      obtain ⟨V115, eV115, kV115⟩ := rowset_step V104 gt ((fieldC i (ks i)).toArray)
      have h116 : V115.heap[gt]? = some (.cells ((fieldC i (ks i)).toArray) 67 (0, 0)) := eV115 ▸ setRow_heap _ _ _ _ _ _ h105
      refine ps_s (o_pSet 3736 3) (w' := V115) (by rw [← eV115]; exact exec_store_row 67 (.tmp 11) (.tmp 28) (by kernel_rfl) gt ((fieldC i (ks i)).toArray) (by kernel_rfl) (by kernel_rfl) 67 (#[.string ⟨#[]⟩, .int .u64 0, .int .u64 0, .nilFunc, .nilFunc]) h105 (by kernel_rfl) rfl (by kernel_rfl)) ?_
      clear eV115
      have h117 := kV115.bo h109 (by omega)
      have h118 := kV115.bo h110 (by omega)
      have h119 : FieldsAt V115 g gp ks := FieldsAt.keepsB hF h111 kV115 (fun j hj e => by unfold Own.One at e; omega)
      have h120 : NB ≤ V115.heap.size := Nat.le_trans h112 kV115.size
      have K121 := K113.no kV115 (by omega)
      have z122 := kV115.size
      refine ps_end ?_
      refine then_n ?_
      refine sy_sq (part_pSet 7474) (part_pSet 7475) ?_
      refine sy_sq (part_pSet 14948) (part_pSet 14949) ?_
      refine sy_reg ?_
      refine rg_plain 7 (opsAt (part_pSet 14948)) [0, 1, 2, 3] (by kernel_rfl) (by kernel_rfl) ?_
      refine ps_k (o_pSet 14948 0) (pT gt 0) ?_
      refine ps_p (o_pSet 14948 1) (.string (parName[i]?.getD ⟨#[]⟩)) (exec_ld 9 (.tmp 29) gt 0 Tryd.underlying9 (rc (h116) (rfl))) ?_
      refine ps_k (o_pSet 14948 2) (.string s) ?_
      refine ps_p (o_pSet 14948 3) (.bool true) (exec_cast (congrArg Value.bool ((by simp [hxs]))) (exec_binop .neq 9 9 (.tmp 30) (.tmp 31) (by kernel_rfl) (.string (parName[i]?.getD ⟨#[]⟩)) (.string s) _ (by kernel_rfl) (by kernel_rfl) (by kernel_rfl) (str_neq _ s _))) ?_
      refine ps_end ?_
      refine then_n ?_
      refine sy_ys (.tmp 32) (part_pSet 29898) (part_pSet 29899) ?_
      refine sy_exit 1 (by kernel_rfl) ?_
      refine then_e ?_
      refine blk_e ?_
      refine then_n ?_
      refine sy_reg ?_
      refine rg_plain 15 (opsAt (part_pSet 935)) [0, 1] (by kernel_rfl) (by kernel_rfl) ?_
      refine ps_p (o_pSet 935 0) (iN (i + 1)) (exec_cast (congrArg (Value.int .i64) (wrapN (i + 1) (by omega))) (by kernel_rfl)) ?_
      refine ps_k (o_pSet 935 1) (iN (i + 1)) ?_
      refine ps_end ?_
      refine then_n ?_
      refine ⟨⟨i + 1, u7, (pT gt 0), u12, u13, (.bool true), (pT g (i * 5)), (.agg (fieldC i (ks i)).toArray), (pT gt 0), (.string (parName[i]?.getD ⟨#[]⟩)), (.string s), (.bool true), u33, u34, u35, u36, u37, u38, u39, u40, u41, u42, u43, u44, u45, u46, u47, u48, u49, u50, u51, (iN (i + 1)), by kernel_rfl, by omega, fun j hj => by by_cases e : j = i; (subst e; rw [name_i lt_i]; simpa using hxs); exact hs j (by omega), h117, h118, h119, h120, K121⟩, ?_⟩
      exact lt_meas (x := 11 - (i + 1)) (y := 11 - i) (by kernel_rfl) (by kernel_rfl) (by omega)
    · skip
      refine sy_sq (part_pSet 232) (part_pSet 233) ?_
      refine sy_reg ?_
      refine rg_plain 5 (opsAt (part_pSet 232)) [0] (by kernel_rfl) (by kernel_rfl) ?_
      refine ps_p (o_pSet 232 0) (.bool false) (dcf ((((i : Nat) : Int)) < ((11) : Int)) (by omega)) ?_
      refine ps_end ?_
      refine then_n ?_
      refine sy_sq (part_pSet 466) (part_pSet 467) ?_
      refine sy_n (.tmp 26) (part_pSet 932) (part_pSet 933) ?_
      refine sy_exit 0 (by kernel_rfl) ?_
      refine then_e ?_
      refine then_e ?_
      refine blk_e ?_
      refine then_n ?_
      refine sy_sq (part_pSet 30) (part_pSet 31) ?_
      refine sy_reg ?_
      refine rg_plain 16 (opsAt (part_pSet 30)) [0, 1, 2] (by kernel_rfl) (by kernel_rfl) ?_
      refine ps_k (o_pSet 30 0) (.agg parZ.cells) ?_
      obtain ⟨V123, eV123, kV123⟩ := rowset_step V23 go parZ.cells
      have h124 : V123.heap[go]? = some (.cells parZ.cells 24 (0, 0)) := eV123 ▸ setRow_heap _ _ _ _ _ _ h25
      refine ps_s (o_pSet 30 1) (w' := V123) (by rw [← eV123]; exact exec_store_row 24 (.tmp 6) (.tmp 53) (by kernel_rfl) go parZ.cells (by kernel_rfl) (by kernel_rfl) 24 (#[.int .i64 0, .int .i64 0, .int .i64 0, .int .i64 0, .int .i64 0, .int .i64 0, .int .i64 0, .int .u64 0, .int .u64 0, .int .i64 0, .int .u64 0]) h25 (by kernel_rfl) rfl (by kernel_rfl)) ?_
      clear eV123
      have h125 := kV123.bo h24 (by omega)
      have K126 := K28.no kV123 (by omega)
      have z127 := kV123.size
      refine ps_k (o_pSet 30 2) (.int .i64 10) ?_
      refine ps_end ?_
      refine then_n ?_
      refine sy_ret (by kernel_rfl) ?_
      refine sy_out (.tuple #[.agg parZ.cells, .int .i64 10]) rfl (results_row_tmp (p := 6) (q := 7) (ty := 24) (by kernel_rfl) _ _ go 24 parZ.cells (0, 0) _ (.int .i64 10) (by kernel_rfl) h124 Tryd.underlying24 rfl (by kernel_rfl) (by kernel_rfl)) ?_
      exact ⟨by rw [pset, if_pos hc, if_pos (pfind_none (fun j hj => hs j (by omega)))], K126⟩
theorem pSet_ok (p : Par) (s : ByteArray) (n : Nat) (w : World) (hp : p.Ok) : Calls Tryd.prog 13 #[.agg p.cells, .string s, .int .u64 ((n : Nat) : Int)] w (fun e w' => e = .returned (.tuple #[.agg (pset p s n).1.cells, .int .i64 (pset p s n).2]) ∧ Keeps Nob w w') := by
  by_cases hc : p.check.1 = 0
  · exact pSet_fine p s n w hp hc
  · exact pSet_bad p s n w hp hc
end Go.Proofs.YtpflmldmbpnllaaDoor
