import Derived.Test.YtpflmldmbpnllaaDoorParamsSetP2
namespace Go.Proofs.YtpflmldmbpnllaaDoor
set_option maxRecDepth 100000
set_option maxHeartbeats 4000000
open Go Go.RowKit Go.Own Go.Shelf
theorem FieldsAt.glt {w : World} {g b : Nat} {ks : Nat → Nat} (h : FieldsAt w g b ks) : g < w.heap.size := World.block_lt_of_cell? w ⟨g, 0 * 5 + 0, none⟩ ((h.cell 0 0 (by omega) (by omega)).trans rfl)
theorem FieldsAt.klt {w : World} {g b : Nat} {ks : Nat → Nat} (h : FieldsAt w g b ks) (i : Nat) (hi : i < 11) : ks i < w.heap.size := World.block_lt_of_cell? w _ (h.box i hi)
theorem FieldsAt.keeps {M : Nat → Prop} {w w' : World} {g b N : Nat} {ks : Nat → Nat} (h : FieldsAt w g b ks) (k : Keeps M w w') (hg : ¬ M g) (hk : ∀ i, i < 11 → ¬ M (ks i)) : FieldsAt w' g b ks :=
  ⟨fun i j hi hj => (k.cell h.glt hg).trans (h.cell i j hi hj), fun i hi => (k.cell (h.klt i hi) (hk i hi)).trans (h.box i hi)⟩
theorem FieldsAt.keepsB {M : Nat → Prop} {w0 w w' : World} {g b : Nat} {ks : Nat → Nat} (h0 : FieldsAt w0 g b ks) (h : FieldsAt w g b ks) (k : Keeps M w w') (hM : ∀ j, j < w0.heap.size → ¬ M j) : FieldsAt w' g b ks :=
  h.keeps (N := 0) k (hM _ h0.glt) (fun i hi => hM _ (h0.klt i hi))
theorem FieldsAt.keepsN {w w' : World} {g b : Nat} {ks : Nat → Nat} (h : FieldsAt w g b ks) (k : Keeps Nob w w') : FieldsAt w' g b ks := h.keeps (N := 0) k (fun x => x) (fun _ _ x => x)
def fieldC (i k : Nat) : List Value := [.string (parName[i]?.getD ⟨#[]⟩), .int .u64 (parLoU[i]?.getD 0), .int .u64 (parHiU[i]?.getD 0), .func (.func (parGet[i]?.getD 0)) #[] #[.pointer (some ⟨k, 0, none⟩)], .func (.func (parSet[i]?.getD 0)) #[] #[.pointer (some ⟨k, 0, none⟩)]]
theorem FieldsAt.mid {w : World} {g b : Nat} {ks : Nat → Nat} (h : FieldsAt w g b ks) {i : Nat} (hi : i < 11) : ∀ (j : Nat) (v : Value), (fieldC i (ks i))[j]? = some v → w.cell? ⟨g, i * 5 + j, none⟩ = some v := fun j v hj => by
  have hj5 : j < 5 := (List.getElem?_eq_some_iff.1 hj).1
  refine (h.cell i j hi hj5).trans ?_
  have h' : j = 0 ∨ j = 1 ∨ j = 2 ∨ j = 3 ∨ j = 4 := by omega
  rcases h' with rfl | rfl | rfl | rfl | rfl <;> exact hj
theorem str_info0 : (Tryd.prog.info? 9).map (fun i => (i.zero, i.size, i.bytes)) = some (some (.string ⟨#[]⟩), 1, 16) := by kernel_rfl
theorem names_take {i : Nat} (hi : i < 11) : Tx (parName.take i) ++ [.string (parName[i]?.getD ⟨#[]⟩)] = Tx (parName.take (i + 1)) := by
  have h : parName[i]? = some (parName[i]?.getD ⟨#[]⟩) := by rw [List.getElem?_eq_getElem (by show i < 11; exact hi)]; rfl
  rw [List.take_add_one]
  conv => rhs; rw [h]
  simp [Tx]
noncomputable def qc25_0 (n : Nat) : Code := partOf Tryd.f15 n
noncomputable abbrev qo25_0 (n k : Nat) : Oper := (opsAt (qc25_0 n)).getD k default
theorem pNames_ok (w : World) :
    Calls Tryd.prog 15 #[] w (fun e w' => ∃ v, e = .returned v ∧ Row w' 9 1 v 11 (Tx parName) ∧ NewFrom w.heap.size v ∧ Keeps Nob w w') := by
  obtain ⟨i0, hi0, hz0, hz1, hz2⟩ := info_parts str_info0
  have K0 : Keeps Nob w w := Keeps.refl _ _
  refine sy_enter (qc25_0 1) ⟨#[ud, ud, ud, ud, ud, ud, ud, ud, ud, ud, ud, ud, ud, ud, ud, ud, ud, ud, ud], []⟩ Tryd.func15 (by kernel_rfl) (by kernel_rfl) <| qr_ [0] <| pkq (.slice none 0 0) <| eqr_ [0] <| pkq (.slice none 0 0) <| eq_ <| qr_ [0, 1, 2, 3, 4] <| pkq (.agg parZ.cells) <| pbx 24 parZ.cells (.agg parZ.cells) fun V1 gp egp h2 kV1 => ?_
  have n3 : w.heap.size ≤ gp := egp ▸ K0.size
  have K4 := K0.nn kV1
  have z5 := kV1.size
  refine pcq 37 #[pT gp 0] Tryd.func37 ((fields_ok gp _).mono ?_)
  rintro e V6 ⟨g, ks, rfl, hF, hgl, kV6⟩
  obtain ⟨NB, hNB⟩ : ∃ n, V6.heap.size = n := ⟨_, rfl⟩
  have hNw : w.heap.size ≤ NB := hNB ▸ Nat.le_trans K4.size kV6.size
  refine ⟨_, rfl, ?_⟩
  have h7 := kV6.bk h2
  have K8 := K4.nn kV6
  have z9 := kV6.size
  refine ppq (.int .i64 11) (exec_len (.tmp 6) 61 _ (by kernel_rfl) Tryd.underlying61 (some ⟨g, 0, none⟩) 11 11 (by kernel_rfl)) <| pkq (.int .i64 0) <| et_ <| b_ 0 ?_
  refine sy_loop (qc25_0 116) (fun a V => ∃ (i : Nat) (v : Value) (u3 u9 u10 u11 u12 u13 u14 u15 u16 u17 : Value), (a = ⟨#[.slice none 0 0, v, ud, u3, .agg parZ.cells, pT gp 0, .slice (some ⟨g, 0, none⟩) 11 11, .int .i64 11, iN i, u9, u10, u11, u12, u13, u14, u15, u16, u17, ud], []⟩) ∧ (i ≤ 11) ∧ (V.heap[gp]? = some (.cells parZ.cells 24 (0, 0))) ∧ (FieldsAt V g gp ks) ∧ (Row V 9 1 v i (Tx (parName.take i))) ∧ (NB ≤ V.heap.size) ∧ (Keeps Nob w V) ∧ (NewFrom NB v)) (fun a _ => 11 - (intOf (a.tmps.getD 8 undef)).toNat) (by kernel_rfl) ?_ ?_
  · exact ⟨0, .slice none 0 0, undef, undef, undef, undef, undef, undef, undef, undef, undef, undef, by kernel_rfl, by omega, h7, hF, (World.ownsRow_nil _ _ _ _), (Nat.le_of_eq hNB.symm), K8, (NewFrom.nil _)⟩
  · rintro a V10 ⟨i, v, u3, u9, u10, u11, u12, u13, u14, u15, u16, u17, rfl, hi, h11, h12, h13, h14, K15, hnw⟩
    by_cases lt_i : i < 11
    · skip
      refine qr_ [0] <| ppq (.bool true) (dct ((((i : Nat) : Int)) < ((11) : Int)) (by omega)) <| eq_ <| y_ <| s_ <| tq_ <| b_ 1 <| qr_ [0, 1, 2, 3] <| ppq (pT g (i * 5)) (exec_cast (v := pT g (0 + i * 5)) (by simp) (exec_indexAt_slice 61 (.tmp 6) (.tmp 8) (by kernel_rfl) g 0 11 11 (by kernel_rfl) .i64 i (by kernel_rfl) _ 5 Tryd.underlying61 (by kernel_rfl) (by omega))) <| ppq (.agg (fieldC i (ks i)).toArray) (exec_load_mid 67 (.tmp 10) (by kernel_rfl) g (i * 5) (by kernel_rfl) (fieldC i (ks i)) _ (FieldsAt.mid h12 lt_i) Tryd.underlying67 rfl (by kernel_rfl)) <| pal 67 (#[.string ⟨#[]⟩, .int .u64 0, .int .u64 0, .nilFunc, .nilFunc]) (.agg (#[.string ⟨#[]⟩, .int .u64 0, .int .u64 0, .nilFunc, .nilFunc])) fun V16 gt egt h17 kV16 => ?_
      have n18 : gp < gt := egt ▸ lt_of_block h11
      have n19 : w.heap.size ≤ gt := egt ▸ K15.size
      have h20 := kV16.bk h11
      have h21 : FieldsAt V16 g gp ks := h12.keepsN kV16
      have h22 : Row V16 9 1 v i (Tx (parName.take i)) := h13.keeps kV16 (fun _ _ x => x)
      have h23 : NB ≤ V16.heap.size := Nat.le_trans h14 kV16.size
      have K24 := K15.nn kV16
      have z25 := kV16.size
      refine pst 67 gt ((fieldC i (ks i)).toArray) h17 (by kernel_rfl) rfl (by kernel_rfl) fun V26 h27 kV26 => ?_
      have h28 := kV26.bO h20
      have h29 : FieldsAt V26 g gp ks := FieldsAt.keepsB hF h21 kV26 (fun j hj e => by unfold Own.One at e; omega)
      have h30 : Row V26 9 1 v i (Tx (parName.take i)) := h22.keeps kV26 (fun j hj e => Row.ne h22 h17 (by decide) ((show j = gt from e) ▸ hj))
      have h31 : NB ≤ V26.heap.size := Nat.le_trans h23 kV26.size
      have K32 := K24.nO kV26
      have z33 := kV26.size
      refine er_ [0, 1, 2, 3, 4, 5] <| pkq (v) <| pkq (pT gt 0) <| ppq (.string (parName[i]?.getD ⟨#[]⟩)) (ldc 9 gt 0 (rc (h27) (rfl))) ?_
      obtain ⟨V34, eV34, gl, egl, h35, kV34⟩ := alloc_step V26 (#[.string (parName[i]?.getD ⟨#[]⟩)]) 9
      have n36 : gp < gl := egl ▸ lt_of_block h28
      have n37 : gt < gl := egl ▸ lt_of_block h27
      have n38 : w.heap.size ≤ gl := egl ▸ K32.size
      refine prq (.slice (some ⟨gl, 0, none⟩) 1 1) (w' := V34) (by rw [← eV34, ← egl]; kernel_rfl) ?_
      have h39 := kV34.bk h28
      have h40 : FieldsAt V34 g gp ks := h29.keepsN kV34
      have h41 : Row V34 9 1 v i (Tx (parName.take i)) := h30.keeps kV34 (fun _ _ x => x)
      have h42 : NB ≤ V34.heap.size := Nat.le_trans h31 kV34.size
      have K44 := K32.nn kV34
      have z45 := kV34.size
      obtain ⟨v46, V47, hr48, h49, hg50, hn51, ha52⟩ := run_append_any (P := Tryd.prog) (w := V34) 33 (Oper.type (qo25_0 3737 4)) 9 i0 (.string ⟨#[]⟩) 1 16 Tryd.underlying33 hi0 hz0 hz1 hz2 rfl (by decide) v i (Tx (parName.take i)) h41 (.slice (some ⟨gl, 0, none⟩) 1 1) 1 ([.string (parName[i]?.getD ⟨#[]⟩)]) (src_block h35 1 1 rfl (by simp [Value.oneCell'])) (by unfold maxLen; omega) (by omega)
      have kV47 : Keeps (fun j => v.ownBlock = some j) V34 V47 := Keeps.rowAdd hg50
      have hw53 : NewFrom NB v46 := hnw.next h42 ha52
      refine prq v46 (w' := V47) (exec_append (.tmp 12) (.tmp 15) 33 (by kernel_rfl) v (.slice (some ⟨gl, 0, none⟩) 1 1) (by kernel_rfl) (by kernel_rfl) hr48) ?_
      have h54 : Row V47 9 1 v46 (i + 1) (Tx (parName.take (i + 1))) := (names_take lt_i ▸ h49)
      have h55 : V47.heap[gp]? = some (.cells parZ.cells 24 (0, 0)) := (kV47.block gp (lt_of_block h39) (fun e => Row.ne h41 h39 (by decide) e)).trans h39
      have h56 : FieldsAt V47 g gp ks := FieldsAt.keepsB hF h40 kV47 (fun j hj e => by have := hnw j e; omega)
      have h57 : NB ≤ V47.heap.size := Nat.le_trans h42 kV47.size
      have K59 : Keeps Nob w V47 := K44.then kV47 (fun i hi hm => absurd hi (by have := hnw i hm; omega))
      have z60 := kV47.size
      refine pkq (v46) <| ps_end <| blk_n <| tr_ [0, 1] <| ppq (iN (i + 1)) (exec_cast (congrArg (Value.int .i64) (wrapN (i + 1) (by omega))) (by kernel_rfl)) <| pkq (iN (i + 1)) <| et_ ?_
      refine ⟨⟨i + 1, v46, (pT gt 0), (.bool true), (pT g (i * 5)), (.agg (fieldC i (ks i)).toArray), v, (pT gt 0), (.string (parName[i]?.getD ⟨#[]⟩)), (.slice (some ⟨gl, 0, none⟩) 1 1), v46, (iN (i + 1)), by kernel_rfl, by omega, h55, h56, h54, h57, K59, hw53⟩, ?_⟩
      exact lt_meas (x := 11 - (i + 1)) (y := 11 - i) (by kernel_rfl) (by kernel_rfl) (by omega)
    · have eq_i : i = 11 := by omega
      refine qr_ [0] <| ppq (.bool false) (dcf ((((i : Nat) : Int)) < ((11) : Int)) (by omega)) <| eq_ <| n_ <| sy_exit 0 (by kernel_rfl) <| then_e <| then_e <| blk_e <| tqr_ [0, 1] <| pkq (v) <| pkq (v) <| eu_ <| so_ (v) ?_
      exact ⟨v, rfl, by have e := h13; rw [eq_i] at e; exact e, fun j hj => Nat.le_trans hNw (hnw j hj), K15⟩
theorem name_i {i : Nat} (hi : i < 11) : parName[i]? = some (parName[i]?.getD ⟨#[]⟩) := by rw [List.getElem?_eq_getElem (by show i < 11; exact hi)]; rfl
theorem Par.l_nn {p : Par} (h : ∀ j, j < 11 → p.good j) (i : Nat) (hi : i < 11) : max (p.l[i]?.getD 0) 0 = p.l[i]?.getD 0 := by
  have h1 := Par.r_in h i hi; omega
theorem cell_par {w : World} {b : Nat} {p : Par} (h : w.heap[b]? = some (.cells p.cells 24 (0, 0))) (i : Nat) : ∀ x, p.cells[i]? = some x → w.cell? ⟨b, i, none⟩ = some x := fun x hx => (cell_of_row _ _ _ _ _ _ h).trans hx
noncomputable def qc25_2 (n : Nat) : Code := partOf Tryd.f11 n
noncomputable abbrev qo25_2 (n k : Nat) : Oper := (opsAt (qc25_2 n)).getD k default
theorem pGet_bad (p : Par) (s : ByteArray) (w : World) (hp : p.Ok) (hc : ¬ p.check.1 = 0) :
    Calls Tryd.prog 11 #[.agg p.cells, .string s] w (fun e w' => e = .returned (.tuple #[.int .u64 (pget p s).1, .int .i64 (pget p s).2]) ∧ Keeps Nob w w') := by
  have K0 : Keeps Nob w w := Keeps.refl _ _
  refine sy_enter (qc25_2 1) ⟨#[.agg p.cells, .string s, ud, ud, ud, ud, ud, ud, ud, ud, ud, ud, ud, ud, ud, ud, ud, ud, ud, ud, ud, ud, ud, ud, ud, ud, ud, ud, ud, ud, ud, ud, ud, ud, ud, ud, ud, ud], []⟩ Tryd.func11 (by kernel_rfl) (by kernel_rfl) <| qr_ [0, 1, 2] <| pbx 24 p.cells (.agg p.cells) fun V1 gp egp h2 kV1 => ?_
  have n3 : w.heap.size ≤ gp := egp ▸ K0.size
  have K4 := K0.nn kV1
  have z5 := kV1.size
  refine pkq (.int .u64 0) <| pkq (.int .i64 0) <| eq_ <| qr_ [0, 1, 2, 3, 4, 5, 6] <| ppq (.agg (p.cells)) (ldr 24 gp (h2) (by kernel_rfl)) ?_
  refine pcq 9 #[.agg (p.cells)] Tryd.func9 ((pCheck_is p _ _ hp rfl).mono ?_)
  rintro e V6 ⟨rfl, kV6⟩
  refine ⟨_, rfl, ?_⟩
  have K8 := K4.nn kV6
  have z9 := kV6.size
  refine pkq (.tuple #[.int .i64 p.check.1, .int .i64 p.check.2]) <| pkq (.int .i64 p.check.1) <| pkq (.int .i64 p.check.2) <| pkq (.int .i64 p.check.1) <| pkq (.int .i64 p.check.2) <| eqr_ [0, 1] <| pkq (.int .i64 p.check.1) <| ppq (.bool true) (nqt ((p.check.1) : Int) ((0) : Int) (by omega)) <| ey_ <| qr_ [0, 1, 2] <| pkq (.int .i64 p.check.1) <| pkq (.int .u64 0) <| pkq (.int .i64 p.check.1) <| eu_ ?_
  refine then_r <| so_ (.tuple #[.int .u64 0, .int .i64 p.check.1]) ?_
  exact ⟨by rw [pget, if_neg hc], K8⟩
theorem pGet_fine (p : Par) (s : ByteArray) (w : World) (hp : p.Ok) (hc : p.check.1 = 0) :
    Calls Tryd.prog 11 #[.agg p.cells, .string s] w (fun e w' => e = .returned (.tuple #[.int .u64 (pget p s).1, .int .i64 (pget p s).2]) ∧ Keeps Nob w w') := by
  have K0 : Keeps Nob w w := Keeps.refl _ _
  refine sy_enter (qc25_2 1) ⟨#[.agg p.cells, .string s, ud, ud, ud, ud, ud, ud, ud, ud, ud, ud, ud, ud, ud, ud, ud, ud, ud, ud, ud, ud, ud, ud, ud, ud, ud, ud, ud, ud, ud, ud, ud, ud, ud, ud, ud, ud], []⟩ Tryd.func11 (by kernel_rfl) (by kernel_rfl) <| qr_ [0, 1, 2] <| pbx 24 p.cells (.agg p.cells) fun V1 gp egp h2 kV1 => ?_
  have n3 : w.heap.size ≤ gp := egp ▸ K0.size
  have K4 := K0.nn kV1
  have z5 := kV1.size
  refine pkq (.int .u64 0) <| pkq (.int .i64 0) <| eq_ <| qr_ [0, 1, 2, 3, 4, 5, 6] <| ppq (.agg (p.cells)) (ldr 24 gp (h2) (by kernel_rfl)) ?_
  refine pcq 9 #[.agg (p.cells)] Tryd.func9 ((pCheck_is p 0 _ hp hc).mono ?_)
  rintro e V6 ⟨rfl, kV6⟩
  refine ⟨_, rfl, ?_⟩
  have h7 := kV6.bk h2
  have K8 := K4.nn kV6
  have z9 := kV6.size
  refine pkq (.tuple #[.int .i64 0, .int .i64 p.check.2]) <| pkq (.int .i64 0) <| pkq (.int .i64 p.check.2) <| pkq (.int .i64 0) <| pkq (.int .i64 p.check.2) <| eqr_ [0, 1] <| pkq (.int .i64 0) <| pkq (.bool false) <| en_ <| s_ <| tq_ <| qr_ [0, 1, 2] ?_
  refine pcq 37 #[pT gp 0] Tryd.func37 ((fields_ok gp _).mono ?_)
  rintro e V10 ⟨g, ks, rfl, hF, hgl, kV10⟩
  obtain ⟨NB, hNB⟩ : ∃ n, V10.heap.size = n := ⟨_, rfl⟩
  have hgp5 := lt_of_block h7
  refine ⟨_, rfl, ?_⟩
  have h11 := kV10.bk h7
  have K12 := K8.nn kV10
  have z13 := kV10.size
  refine ppq (.int .i64 11) (exec_len (.tmp 20) 61 _ (by kernel_rfl) Tryd.underlying61 (some ⟨g, 0, none⟩) 11 11 (by kernel_rfl)) <| pkq (.int .i64 0) <| et_ <| b_ 0 ?_
  refine sy_loop (qc25_2 116) (fun a V => ∃ (i : Nat) (u4 u5 u9 u10 u11 u23 u24 u25 u26 u27 u28 u29 u30 u31 u32 u33 u34 u35 u36 u37 : Value), (a = ⟨#[.agg p.cells, .string s, pT gp 0, ud, u4, u5, .int .i64 0, .int .i64 p.check.2, ud, u9, u10, u11, .tuple #[.int .i64 0, .int .i64 p.check.2], .agg (p.cells), .tuple #[.int .i64 0, .int .i64 p.check.2], .int .i64 0, .int .i64 p.check.2, .int .i64 0, .bool false, ud, .slice (some ⟨g, 0, none⟩) 11 11, .int .i64 11, iN i, u23, u24, u25, u26, u27, u28, u29, u30, u31, u32, u33, u34, u35, u36, u37], []⟩) ∧ (i ≤ 11) ∧ (∀ j, j < i → parName[j]? ≠ some s) ∧ (V.heap[gp]? = some (.cells p.cells 24 (0, 0))) ∧ (FieldsAt V g gp ks) ∧ (NB ≤ V.heap.size) ∧ (Keeps Nob w V)) (fun a _ => 11 - (intOf (a.tmps.getD 22 undef)).toNat) (by kernel_rfl) ?_ ?_
  · exact ⟨0, (.int .u64 0), (.int .i64 0), undef, undef, undef, undef, undef, undef, undef, undef, undef, undef, undef, undef, undef, undef, undef, undef, undef, undef, by kernel_rfl, by omega, fun j h => absurd h (by omega), h11, hF, (Nat.le_of_eq hNB.symm), K12⟩
  · rintro a V14 ⟨i, u4, u5, u9, u10, u11, u23, u24, u25, u26, u27, u28, u29, u30, u31, u32, u33, u34, u35, u36, u37, rfl, hi, hs, h15, h16, h17, K18⟩
    rcases (show (i < 11 ∧ parName[i]?.getD ⟨#[]⟩ = s) ∨ (i < 11 ∧ ¬ parName[i]?.getD ⟨#[]⟩ = s) ∨ i = 11 by
        by_cases h : i < 11
        · by_cases e : parName[i]?.getD ⟨#[]⟩ = s
          · exact .inl ⟨h, e⟩
          · exact .inr (.inl ⟨h, e⟩)
        · exact .inr (.inr (by omega))) with ⟨lt_i, hxs⟩ | ⟨lt_i, hxs⟩ | eq_i
    · skip
      refine qr_ [0] <| ppq (.bool true) (dct ((((i : Nat) : Int)) < ((11) : Int)) (by omega)) <| eq_ <| y_ <| s_ <| tq_ <| b_ 1 <| qr_ [0, 1, 2, 3] <| ppq (pT g (i * 5)) (exec_cast (v := pT g (0 + i * 5)) (by simp) (exec_indexAt_slice 61 (.tmp 20) (.tmp 22) (by kernel_rfl) g 0 11 11 (by kernel_rfl) .i64 i (by kernel_rfl) _ 5 Tryd.underlying61 (by kernel_rfl) (by omega))) <| ppq (.agg (fieldC i (ks i)).toArray) (exec_load_mid 67 (.tmp 24) (by kernel_rfl) g (i * 5) (by kernel_rfl) (fieldC i (ks i)) _ (FieldsAt.mid h16 lt_i) Tryd.underlying67 rfl (by kernel_rfl)) <| pal 67 (#[.string ⟨#[]⟩, .int .u64 0, .int .u64 0, .nilFunc, .nilFunc]) (.agg (#[.string ⟨#[]⟩, .int .u64 0, .int .u64 0, .nilFunc, .nilFunc])) fun V19 gt egt h20 kV19 => ?_
      have n21 : gp < gt := egt ▸ lt_of_block h15
      have n22 : w.heap.size ≤ gt := egt ▸ K18.size
      have h23 := kV19.bk h15
      have h24 : FieldsAt V19 g gp ks := h16.keepsN kV19
      have h25 : NB ≤ V19.heap.size := Nat.le_trans h17 kV19.size
      have K26 := K18.nn kV19
      have z27 := kV19.size
      refine pst 67 gt ((fieldC i (ks i)).toArray) h20 (by kernel_rfl) rfl (by kernel_rfl) fun V28 h29 kV28 => ?_
      have h30 := kV28.bO h23
      have h31 : FieldsAt V28 g gp ks := FieldsAt.keepsB hF h24 kV28 (fun j hj e => by unfold Own.One at e; omega)
      have h32 : NB ≤ V28.heap.size := Nat.le_trans h25 kV28.size
      have K33 := K26.nO kV28
      have z34 := kV28.size
      refine eqr_ [0, 1, 2, 3] <| pkq (pT gt 0) <| ppq (.string (parName[i]?.getD ⟨#[]⟩)) (ldc 9 gt 0 (rc (h29) (rfl))) <| pkq (.string s) <| ppq (.bool true) (exec_cast (congrArg Value.bool (decide_eq_true hxs)) (exec_binop .eql 9 9 (.tmp 27) (.tmp 28) (by kernel_rfl) (.string (parName[i]?.getD ⟨#[]⟩)) (.string s) _ (by kernel_rfl) (by kernel_rfl) (by kernel_rfl) (str_eql _ s _))) <| ey_ <| qr_ [0, 1, 2, 3, 4, 5, 6, 7] <| pkq (pT gt 3) <| ppq (.func (.func (parGet[i]?.getD 0)) #[] #[.pointer (some ⟨ks i, 0, none⟩)]) (ldc 64 gt 3 (rc (h29) (rfl))) ?_
      refine ps_callV (qo25_2 29900 2) (.tmp 32) (parGet[i]?.getD 0) #[] #[.pointer (some ⟨ks i, 0, none⟩)] #[.pointer (some ⟨ks i, 0, none⟩)] (by kernel_rfl) (by kernel_rfl) (by kernel_rfl) (by kernel_rfl) (by kernel_rfl) (get_enters i lt_i) (((Par.l_nn (Par.check_0 hc).1 i lt_i ▸ get_ok p hp i gp (ks i) lt_i _ (FieldsAt.box h31 i lt_i) (cell_par h30 i))).mono ?_)
      rintro e V35 ⟨rfl, kV35⟩
      refine ⟨_, rfl, ?_⟩
      have h37 : FieldsAt V35 g gp ks := h31.keepsN kV35
      have h38 : NB ≤ V35.heap.size := Nat.le_trans h32 kV35.size
      have K40 := K33.nn kV35
      have z41 := kV35.size
      refine pkq (.tuple #[.int .u64 (p.l[i]?.getD 0), .bool (decide (0 ≤ p.l[i]?.getD 0))]) <| pkq (.int .u64 (p.l[i]?.getD 0)) <| pkq (.bool (decide (0 ≤ p.l[i]?.getD 0))) <| pkq (.int .u64 (p.l[i]?.getD 0)) <| pkq (.bool (decide (0 ≤ p.l[i]?.getD 0))) <| eqr_ [0, 1, 2] <| pkq (.int .u64 (p.l[i]?.getD 0)) <| pkq (.int .u64 (p.l[i]?.getD 0)) <| pkq (.int .i64 0) <| eu_ <| blk_r <| then_r <| then_r <| blk_r ?_
      refine then_r <| so_ (.tuple #[.int .u64 (p.l[i]?.getD 0), .int .i64 0]) ?_
      have hf := pfind_hit hs (hxs ▸ name_i lt_i)
      exact ⟨by rw [pget, if_pos hc, hf, if_neg (by omega), Int.toNat_natCast], K40⟩
    · skip
      refine qr_ [0] <| ppq (.bool true) (dct ((((i : Nat) : Int)) < ((11) : Int)) (by omega)) <| eq_ <| y_ <| s_ <| tq_ <| b_ 1 <| qr_ [0, 1, 2, 3] <| ppq (pT g (i * 5)) (exec_cast (v := pT g (0 + i * 5)) (by simp) (exec_indexAt_slice 61 (.tmp 20) (.tmp 22) (by kernel_rfl) g 0 11 11 (by kernel_rfl) .i64 i (by kernel_rfl) _ 5 Tryd.underlying61 (by kernel_rfl) (by omega))) <| ppq (.agg (fieldC i (ks i)).toArray) (exec_load_mid 67 (.tmp 24) (by kernel_rfl) g (i * 5) (by kernel_rfl) (fieldC i (ks i)) _ (FieldsAt.mid h16 lt_i) Tryd.underlying67 rfl (by kernel_rfl)) <| pal 67 (#[.string ⟨#[]⟩, .int .u64 0, .int .u64 0, .nilFunc, .nilFunc]) (.agg (#[.string ⟨#[]⟩, .int .u64 0, .int .u64 0, .nilFunc, .nilFunc])) fun V42 gt egt h43 kV42 => ?_
      have n44 : gp < gt := egt ▸ lt_of_block h15
      have n45 : w.heap.size ≤ gt := egt ▸ K18.size
      have h46 := kV42.bk h15
      have h47 : FieldsAt V42 g gp ks := h16.keepsN kV42
      have h48 : NB ≤ V42.heap.size := Nat.le_trans h17 kV42.size
      have K49 := K18.nn kV42
      have z50 := kV42.size
      refine pst 67 gt ((fieldC i (ks i)).toArray) h43 (by kernel_rfl) rfl (by kernel_rfl) fun V51 h52 kV51 => ?_
      have h53 := kV51.bO h46
      have h54 : FieldsAt V51 g gp ks := FieldsAt.keepsB hF h47 kV51 (fun j hj e => by unfold Own.One at e; omega)
      have h55 : NB ≤ V51.heap.size := Nat.le_trans h48 kV51.size
      have K56 := K49.nO kV51
      have z57 := kV51.size
      refine eqr_ [0, 1, 2, 3] <| pkq (pT gt 0) <| ppq (.string (parName[i]?.getD ⟨#[]⟩)) (ldc 9 gt 0 (rc (h52) (rfl))) <| pkq (.string s) <| ppq (.bool false) (exec_cast (congrArg Value.bool (decide_eq_false hxs)) (exec_binop .eql 9 9 (.tmp 27) (.tmp 28) (by kernel_rfl) (.string (parName[i]?.getD ⟨#[]⟩)) (.string s) _ (by kernel_rfl) (by kernel_rfl) (by kernel_rfl) (str_eql _ s _))) <| en_ <| s_ <| blk_n <| tr_ [0, 1] <| ppq (iN (i + 1)) (exec_cast (congrArg (Value.int .i64) (wrapN (i + 1) (by omega))) (by kernel_rfl)) <| pkq (iN (i + 1)) <| et_ ?_
      refine ⟨⟨i + 1, u4, u5, (pT gt 0), u10, u11, (.bool true), (pT g (i * 5)), (.agg (fieldC i (ks i)).toArray), (pT gt 0), (.string (parName[i]?.getD ⟨#[]⟩)), (.string s), (.bool false), u30, u31, u32, u33, u34, u35, u36, (iN (i + 1)), by kernel_rfl, by omega, fun j hj => by by_cases e : j = i; (subst e; rw [name_i lt_i]; simpa using hxs); exact hs j (by omega), h53, h54, h55, K56⟩, ?_⟩
      exact lt_meas (x := 11 - (i + 1)) (y := 11 - i) (by kernel_rfl) (by kernel_rfl) (by omega)
    · skip
      refine qr_ [0] <| ppq (.bool false) (dcf ((((i : Nat) : Int)) < ((11) : Int)) (by omega)) <| eq_ <| n_ <| sy_exit 0 (by kernel_rfl) <| then_e <| then_e <| blk_e <| tqr_ [0, 1] <| pkq (.int .u64 0) <| pkq (.int .i64 10) <| eu_ <| so_ (.tuple #[.int .u64 0, .int .i64 10]) ?_
      exact ⟨by rw [pget, if_pos hc, if_pos (pfind_none (fun j hj => hs j (by omega)))], K18⟩
theorem pGet_ok (p : Par) (s : ByteArray) (w : World) (hp : p.Ok) : Calls Tryd.prog 11 #[.agg p.cells, .string s] w (fun e w' => e = .returned (.tuple #[.int .u64 (pget p s).1, .int .i64 (pget p s).2]) ∧ Keeps Nob w w') := by
  by_cases hc : p.check.1 = 0
  · exact pGet_fine p s w hp hc
  · exact pGet_bad p s w hp hc
noncomputable def qc25_3 (n : Nat) : Code := partOf Tryd.f83 n
theorem pof2_ok (b k i : Nat) (n x : Int) (cs : Array Value) (w : World) (hbox : w.cell? ⟨k, 0, none⟩ = some (.pointer (some ⟨b, i, none⟩))) (hb : w.heap[b]? = some (.cells cs 24 (0, 0))) (hx : cs[i]? = some (.int .i64 x)) (hn0 : 0 ≤ n) (hn1 : n ≤ 9223372036854775807) (hkb : k ≠ b) :
    Calls Tryd.prog 83 #[.int .u64 n, .pointer (some ⟨k, 0, none⟩)] w (fun e w' => e = .returned (.tuple #[]) ∧ w'.heap[b]? = some (.cells (cs.setIfInBounds i (.int .i64 n)) 24 (0, 0)) ∧ Keeps (One b) w w') := by
  have K0 : Keeps (One b) w w := Keeps.refl _ _
  refine sy_enter (qc25_3 1) ⟨#[.int .u64 n, pT k 0, ud, ud, ud, ud, ud], []⟩ Tryd.func83 (by kernel_rfl) (by kernel_rfl) <| r_ [0, 1, 2, 3, 4] <| ppq (pT b i) (exec_load_cell 103 (.tmp 1) (by kernel_rfl) ⟨k, 0, none⟩ (by kernel_rfl) _ _ Tryd.underlying103 rfl hbox) <| pkq (.int .u64 n) <| prq (.int .i64 n) (w' := w) (exec_convert 22 3 (.tmp 4) (by kernel_rfl) _ (by kernel_rfl) (conv_u64 _ _ hn0 hn1)) <| pkq (pT b i) <| pce 3 b i (.int .i64 n) (cs.setIfInBounds i (.int .i64 n)) hb (rc (hb) (hx)) (rfl) fun V1 h2 kV1 => ?_
  have h3 : V1.cell? ⟨k, 0, none⟩ = some (.pointer (some ⟨b, i, none⟩)) := (kV1.cell (World.block_lt_of_cell? _ _ hbox) (fun e => hkb e)).trans hbox
  have K4 : Keeps (One b) w V1 := K0.then kV1 (fun i hi hm => by unfold Own.One at hm; subst hm; exact rfl)
  have z5 := kV1.size
  refine ps_end <| sy_fall (.tuple #[]) rfl (by kernel_rfl) ?_
  exact ⟨rfl, h2, K4⟩
noncomputable def qc25_1 (n : Nat) : Code := partOf Tryd.f85 n
theorem pword2_ok (b k i : Nat) (n x : Int) (cs : Array Value) (w : World) (hbox : w.cell? ⟨k, 0, none⟩ = some (.pointer (some ⟨b, i, none⟩))) (hb : w.heap[b]? = some (.cells cs 24 (0, 0))) (hx : cs[i]? = some (.int .u64 x)) (hn0 : 0 ≤ n) (hn1 : n ≤ 9223372036854775807) (hkb : k ≠ b) :
    Calls Tryd.prog 85 #[.int .u64 n, .pointer (some ⟨k, 0, none⟩)] w (fun e w' => e = .returned (.tuple #[]) ∧ w'.heap[b]? = some (.cells (cs.setIfInBounds i (.int .u64 n)) 24 (0, 0)) ∧ Keeps (One b) w w') := by
  have K0 : Keeps (One b) w w := Keeps.refl _ _
  refine sy_enter (qc25_1 1) ⟨#[.int .u64 n, pT k 0, ud, ud, ud, ud], []⟩ Tryd.func85 (by kernel_rfl) (by kernel_rfl) <| r_ [0, 1, 2, 3] <| ppq (pT b i) (exec_load_cell 105 (.tmp 1) (by kernel_rfl) ⟨k, 0, none⟩ (by kernel_rfl) _ _ Tryd.underlying105 rfl hbox) <| pkq (.int .u64 n) <| pkq (pT b i) <| pce 22 b i (.int .u64 n) (cs.setIfInBounds i (.int .u64 n)) hb (rc (hb) (hx)) (rfl) fun V1 h2 kV1 => ?_
  have h3 : V1.cell? ⟨k, 0, none⟩ = some (.pointer (some ⟨b, i, none⟩)) := (kV1.cell (World.block_lt_of_cell? _ _ hbox) (fun e => hkb e)).trans hbox
  have K4 : Keeps (One b) w V1 := K0.then kV1 (fun i hi hm => by unfold Own.One at hm; subst hm; exact rfl)
  have z5 := kV1.size
  refine ps_end <| sy_fall (.tuple #[]) rfl (by kernel_rfl) ?_
  exact ⟨rfl, h2, K4⟩
theorem str_neq (a b : ByteArray) (w : World) : (binOp .neq 9 (.string a) (.string b)).run Tryd.prog w = .ok (.bool (!decide (a = b))) w := by
  have h := str_eql a b w
  rw [binOp_string_eql] at h
  rw [binOp_string_neq]
  have h2 : (a.toList == b.toList) = decide (a = b) := by
    have : (Result.ok (.bool (a.toList == b.toList)) w : Result Value) = .ok (.bool (decide (a = b))) w := h
    simpa using this
  rw [← h2]; rfl
theorem parOfL_l {l : List Int} (h : l.length = 11) : (parOfL l).l = l := (eleven h).symm
theorem pwith_l (p : Par) (i n : Nat) : (pwith p i n).l = p.r.set i (min (n : Int) 1099511627776) := parOfL_l (by rw [List.length_set]; rfl)
theorem U_eq (i : Nat) : parLoU[i]?.getD 0 = parLo[i]?.getD 0 ∧ parHiU[i]?.getD 0 = parHi[i]?.getD 0 := ⟨rfl, rfl⟩
theorem pwith_out {p : Par} (h : ∀ j, j < 11 → p.good j) {i n : Nat} (hi : i < 11) (ho : ¬ (parLoU[i]?.getD 0 ≤ (n : Int) ∧ (n : Int) ≤ parHiU[i]?.getD 0)) : (pwith p i n).check.1 = 3 := by
  have hb : ¬ (pwith p i n).good i := fun hg => ho <| by
    unfold Par.good at hg
    rw [pwith_l, List.getElem?_set_self (by show i < p.r.length; exact hi)] at hg
    simp only [Option.getD_some] at hg
    have := parHi_le i; have := U_eq i
    omega
  rw [(pwith p i n).check_bad i hi (fun j hj => by
    unfold Par.good
    rw [pwith_l, List.getElem?_set_ne (by omega)]
    exact (p.good_r j (by omega)).1 (h j (by omega))) hb]
theorem set_eq {p : Par} (h : ∀ j, j < 11 → p.good j) {i n : Nat} (hn : (n : Int) ≤ 1099511627776) : (min p.base 1099511627776 = p.base ∧ min p.mult 1099511627776 = p.mult ∧ min p.rew 1099511627776 = p.rew) ∧ min (n : Int) 1099511627776 = n := by
  have h7 := (h 7 (by omega)).2; have h8 := (h 8 (by omega)).2; have h10 := (h 10 (by omega)).2
  have e7 : p.base ≤ 1000000000 := h7
  have e8 : p.mult ≤ 1000 := h8
  have e10 : p.rew ≤ 1000000000 := h10
  omega
theorem set_ok (p : Par) (h : ∀ j, j < 11 → p.good j) (i b k n : Nat) (w : World) (hi : i < 11) (hbox : w.cell? ⟨k, 0, none⟩ = some (.pointer (some ⟨b, i, none⟩))) (hb : w.heap[b]? = some (.cells p.cells 24 (0, 0))) (hn : (n : Int) ≤ 1099511627776) (hkb : k ≠ b) :
    Calls Tryd.prog (parSet[i]?.getD 0) #[.int .u64 ((n : Nat) : Int), .pointer (some ⟨k, 0, none⟩)] w (fun e w' => e = .returned (.tuple #[]) ∧ w'.heap[b]? = some (.cells (pwith p i n).cells 24 (0, 0)) ∧ Keeps (One b) w w') := by
  obtain ⟨⟨e7, e8, e10⟩, en⟩ := set_eq (i := i) h hn
  have h' : i = 0 ∨ i = 1 ∨ i = 2 ∨ i = 3 ∨ i = 4 ∨ i = 5 ∨ i = 6 ∨ i = 7 ∨ i = 8 ∨ i = 9 ∨ i = 10 := by omega
  rcases h' with rfl | rfl | rfl | rfl | rfl | rfl | rfl | rfl | rfl | rfl | rfl
  all_goals
    first
    | refine (pof2_ok b k _ n _ _ w hbox hb rfl (by omega) (by omega) hkb).mono fun e w' ⟨h1, h2, h3⟩ => ⟨h1, h2.trans (congrArg (fun c => some (Obj.cells c 24 (0, 0))) ?_), h3⟩
    | refine (pword2_ok b k _ n _ _ w hbox hb rfl (by omega) (by omega) hkb).mono fun e w' ⟨h1, h2, h3⟩ => ⟨h1, h2.trans (congrArg (fun c => some (Obj.cells c 24 (0, 0))) ?_), h3⟩
    unfold pwith Par.r
    rw [e7, e8, e10, en]
    rfl
theorem set_enters (i : Nat) (hi : i < 11) : ∀ args w, (callFunc (parSet[i]?.getD 0) args).run Tryd.prog w = .ok (.enter (parSet[i]?.getD 0) args) w := by
  have h' : i = 0 ∨ i = 1 ∨ i = 2 ∨ i = 3 ∨ i = 4 ∨ i = 5 ∨ i = 6 ∨ i = 7 ∨ i = 8 ∨ i = 9 ∨ i = 10 := by omega
  have e1 : ∀ args w, (callFunc 83 args).run Tryd.prog w = .ok (.enter 83 args) w := enters_of Tryd.func83 (by kernel_rfl) rfl
  have e2 : ∀ args w, (callFunc 85 args).run Tryd.prog w = .ok (.enter 85 args) w := enters_of Tryd.func85 (by kernel_rfl) rfl
  rcases h' with rfl | rfl | rfl | rfl | rfl | rfl | rfl | rfl | rfl | rfl | rfl <;> first | exact e1 | exact e2
theorem within_yes (nm f g : Value) (lo hi n : Int) (w : World) (hb : lo ≤ n ∧ n ≤ hi) : Calls Tryd.prog 38 #[.agg #[nm, .int .u64 lo, .int .u64 hi, f, g], .int .u64 n] w fun e w' => e = .returned (.bool true) ∧ Keeps Nob w w' := by
  have := within_ok nm f g lo hi n w
  rwa [decide_eq_true hb.1, decide_eq_true hb.2] at this
theorem within_no (nm f g : Value) (lo hi n : Int) (w : World) (hb : ¬ (lo ≤ n ∧ n ≤ hi)) : Calls Tryd.prog 38 #[.agg #[nm, .int .u64 lo, .int .u64 hi, f, g], .int .u64 n] w fun e w' => e = .returned (.bool false) ∧ Keeps Nob w w' := by
  have := within_ok nm f g lo hi n w
  have e : (decide (lo ≤ n) && decide (n ≤ hi)) = false := by simpa using hb
  rwa [e] at this
theorem ks_ne {w : World} {g b i : Nat} {ks : Nat → Nat} {p : Par} (h : FieldsAt w g b ks) (hb : w.heap[b]? = some (.cells p.cells 24 (0, 0))) (hi : i < 11) : ks i ≠ b := fun e => by
  have h1 := h.box i hi
  rw [e, cell_of_row _ _ 0 _ _ _ hb] at h1
  cases h1
noncomputable def qc25_4 (n : Nat) : Code := partOf Tryd.f13 n
noncomputable abbrev qo25_4 (n k : Nat) : Oper := (opsAt (qc25_4 n)).getD k default
theorem pSet_bad (p : Par) (s : ByteArray) (n : Nat) (w : World) (hp : p.Ok) (hc : ¬ p.check.1 = 0) :
    Calls Tryd.prog 13 #[.agg p.cells, .string s, .int .u64 ((n : Nat) : Int)] w (fun e w' => e = .returned (.tuple #[.agg (pset p s n).1.cells, .int .i64 (pset p s n).2]) ∧ Keeps Nob w w') := by
  have K0 : Keeps Nob w w := Keeps.refl _ _
  refine sy_enter (qc25_4 1) ⟨#[.agg p.cells, .string s, uN n, ud, ud, ud, ud, ud, ud, ud, ud, ud, ud, ud, ud, ud, ud, ud, ud, ud, ud, ud, ud, ud, ud, ud, ud, ud, ud, ud, ud, ud, ud, ud, ud, ud, ud, ud, ud, ud, ud, ud, ud, ud, ud, ud, ud, ud, ud, ud, ud, ud, ud, ud], []⟩ Tryd.func13 (by kernel_rfl) (by kernel_rfl) <| qr_ [0, 1, 2] <| pbx 24 p.cells (.agg p.cells) fun V1 gp egp h2 kV1 => ?_
  have n3 : w.heap.size ≤ gp := egp ▸ K0.size
  have K4 := K0.nn kV1
  have z5 := kV1.size
  refine pal 24 (#[.int .i64 0, .int .i64 0, .int .i64 0, .int .i64 0, .int .i64 0, .int .i64 0, .int .i64 0, .int .u64 0, .int .u64 0, .int .i64 0, .int .u64 0]) (.agg (#[.int .i64 0, .int .i64 0, .int .i64 0, .int .i64 0, .int .i64 0, .int .i64 0, .int .i64 0, .int .u64 0, .int .u64 0, .int .i64 0, .int .u64 0])) fun V6 go ego h7 kV6 => ?_
  have n8 : gp < go := ego ▸ lt_of_block h2
  have n9 : w.heap.size ≤ go := ego ▸ K4.size
  have h10 := kV6.bk h2
  have K11 := K4.nn kV6
  have z12 := kV6.size
  refine pkq (.int .i64 0) <| eq_ <| qr_ [0, 1, 2, 3, 4, 5, 6] <| ppq (.agg (p.cells)) (ldr 24 gp (h10) (by kernel_rfl)) ?_
  refine pcq 9 #[.agg (p.cells)] Tryd.func9 ((pCheck_is p _ _ hp rfl).mono ?_)
  rintro e V13 ⟨rfl, kV13⟩
  refine ⟨_, rfl, ?_⟩
  have h15 := kV13.bk h7
  have K16 := K11.nn kV13
  have z17 := kV13.size
  refine pkq (.tuple #[.int .i64 p.check.1, .int .i64 p.check.2]) <| pkq (.int .i64 p.check.1) <| pkq (.int .i64 p.check.2) <| pkq (.int .i64 p.check.1) <| pkq (.int .i64 p.check.2) <| eqr_ [0, 1] <| pkq (.int .i64 p.check.1) <| ppq (.bool true) (nqt ((p.check.1) : Int) ((0) : Int) (by omega)) <| ey_ <| qr_ [0, 1, 2, 3] <| pkq (.agg parZ.cells) <| pkq (.int .i64 p.check.1) <| pst 24 go parZ.cells h15 (by kernel_rfl) rfl (by kernel_rfl) fun V18 h19 kV18 => ?_
  have K21 := K16.nO kV18
  have z22 := kV18.size
  refine pkq (.int .i64 p.check.1) <| eu_ <| then_r <| sy_out (.tuple #[.agg parZ.cells, .int .i64 p.check.1]) rfl (results_row_tmp (p := 6) (q := 7) (ty := 24) (by kernel_rfl) _ _ go 24 parZ.cells (0, 0) _ (.int .i64 p.check.1) (by kernel_rfl) h19 Tryd.underlying24 rfl (by kernel_rfl) (by kernel_rfl)) ?_
  exact ⟨by rw [pset, if_neg hc], K21⟩
theorem pSet_fine (p : Par) (s : ByteArray) (n : Nat) (w : World) (hp : p.Ok) (hc : p.check.1 = 0) :
    Calls Tryd.prog 13 #[.agg p.cells, .string s, .int .u64 ((n : Nat) : Int)] w (fun e w' => e = .returned (.tuple #[.agg (pset p s n).1.cells, .int .i64 (pset p s n).2]) ∧ Keeps Nob w w') := by
  have K0 : Keeps Nob w w := Keeps.refl _ _
  refine sy_enter (qc25_4 1) ⟨#[.agg p.cells, .string s, uN n, ud, ud, ud, ud, ud, ud, ud, ud, ud, ud, ud, ud, ud, ud, ud, ud, ud, ud, ud, ud, ud, ud, ud, ud, ud, ud, ud, ud, ud, ud, ud, ud, ud, ud, ud, ud, ud, ud, ud, ud, ud, ud, ud, ud, ud, ud, ud, ud, ud, ud, ud], []⟩ Tryd.func13 (by kernel_rfl) (by kernel_rfl) <| qr_ [0, 1, 2] <| pbx 24 p.cells (.agg p.cells) fun V1 gp egp h2 kV1 => ?_
  have n3 : w.heap.size ≤ gp := egp ▸ K0.size
  have K4 := K0.nn kV1
  have z5 := kV1.size
  refine pal 24 (#[.int .i64 0, .int .i64 0, .int .i64 0, .int .i64 0, .int .i64 0, .int .i64 0, .int .i64 0, .int .u64 0, .int .u64 0, .int .i64 0, .int .u64 0]) (.agg (#[.int .i64 0, .int .i64 0, .int .i64 0, .int .i64 0, .int .i64 0, .int .i64 0, .int .i64 0, .int .u64 0, .int .u64 0, .int .i64 0, .int .u64 0])) fun V6 go ego h7 kV6 => ?_
  have n8 : gp < go := ego ▸ lt_of_block h2
  have n9 : w.heap.size ≤ go := ego ▸ K4.size
  have h10 := kV6.bk h2
  have K11 := K4.nn kV6
  have z12 := kV6.size
  refine pkq (.int .i64 0) <| eq_ <| qr_ [0, 1, 2, 3, 4, 5, 6] <| ppq (.agg (p.cells)) (ldr 24 gp (h10) (by kernel_rfl)) ?_
  refine pcq 9 #[.agg (p.cells)] Tryd.func9 ((pCheck_is p 0 _ hp hc).mono ?_)
  rintro e V13 ⟨rfl, kV13⟩
  refine ⟨_, rfl, ?_⟩
  have h14 := kV13.bk h10
  have h15 := kV13.bk h7
  have K16 := K11.nn kV13
  have z17 := kV13.size
  refine pkq (.tuple #[.int .i64 0, .int .i64 p.check.2]) <| pkq (.int .i64 0) <| pkq (.int .i64 p.check.2) <| pkq (.int .i64 0) <| pkq (.int .i64 p.check.2) <| eqr_ [0, 1] <| pkq (.int .i64 0) <| pkq (.bool false) <| en_ <| s_ <| tq_ <| qr_ [0, 1, 2] ?_
  refine pcq 37 #[pT gp 0] Tryd.func37 ((fields_ok gp _).mono ?_)
  rintro e V18 ⟨g, ks, rfl, hF, hgl, kV18⟩
  obtain ⟨NB, hNB⟩ : ∃ n, V18.heap.size = n := ⟨_, rfl⟩
  have hgp5 := lt_of_block h14
  have hgo5 := lt_of_block h15
  refine ⟨_, rfl, ?_⟩
  have h19 := kV18.bk h14
  have h20 := kV18.bk h15
  have K21 := K16.nn kV18
  have z22 := kV18.size
  refine ppq (.int .i64 11) (exec_len (.tmp 23) 61 _ (by kernel_rfl) Tryd.underlying61 (some ⟨g, 0, none⟩) 11 11 (by kernel_rfl)) <| pkq (.int .i64 0) <| et_ <| b_ 0 ?_
  refine sy_loop (qc25_4 116) (fun a V => ∃ (i : Nat) (u7 u11 u12 u13 u26 u27 u28 u29 u30 u31 u32 u33 u34 u35 u36 u37 u38 u39 u40 u41 u42 u43 u44 u45 u46 u47 u48 u49 u50 u51 u52 : Value), (a = ⟨#[.agg p.cells, .string s, uN n, pT gp 0, ud, ud, pT go 0, u7, .int .i64 0, .int .i64 p.check.2, ud, u11, u12, u13, .tuple #[.int .i64 0, .int .i64 p.check.2], .agg (p.cells), .tuple #[.int .i64 0, .int .i64 p.check.2], .int .i64 0, .int .i64 p.check.2, .int .i64 0, .bool false, ud, ud, .slice (some ⟨g, 0, none⟩) 11 11, .int .i64 11, iN i, u26, u27, u28, u29, u30, u31, u32, u33, u34, u35, u36, u37, u38, u39, u40, u41, u42, u43, u44, u45, u46, u47, u48, u49, u50, u51, u52, ud], []⟩) ∧ (i ≤ 11) ∧ (∀ j, j < i → parName[j]? ≠ some s) ∧ (V.heap[gp]? = some (.cells p.cells 24 (0, 0))) ∧ (V.heap[go]? = some (.cells (#[.int .i64 0, .int .i64 0, .int .i64 0, .int .i64 0, .int .i64 0, .int .i64 0, .int .i64 0, .int .u64 0, .int .u64 0, .int .i64 0, .int .u64 0]) 24 (0, 0))) ∧ (FieldsAt V g gp ks) ∧ (NB ≤ V.heap.size) ∧ (Keeps Nob w V)) (fun a _ => 11 - (intOf (a.tmps.getD 25 undef)).toNat) (by kernel_rfl) ?_ ?_
  · exact ⟨0, (.int .i64 0), undef, undef, undef, undef, undef, undef, undef, undef, undef, undef, undef, undef, undef, undef, undef, undef, undef, undef, undef, undef, undef, undef, undef, undef, undef, undef, undef, undef, undef, undef, by kernel_rfl, by omega, fun j h => absurd h (by omega), h19, h20, hF, (Nat.le_of_eq hNB.symm), K21⟩
  · rintro a V23 ⟨i, u7, u11, u12, u13, u26, u27, u28, u29, u30, u31, u32, u33, u34, u35, u36, u37, u38, u39, u40, u41, u42, u43, u44, u45, u46, u47, u48, u49, u50, u51, u52, rfl, hi, hs, h24, h25, h26, h27, K28⟩
    rcases (show (i < 11 ∧ parName[i]?.getD ⟨#[]⟩ = s) ∨ (i < 11 ∧ ¬ parName[i]?.getD ⟨#[]⟩ = s) ∨ i = 11 by
        by_cases h : i < 11
        · by_cases e : parName[i]?.getD ⟨#[]⟩ = s
          · exact .inl ⟨h, e⟩
          · exact .inr (.inl ⟨h, e⟩)
        · exact .inr (.inr (by omega))) with ⟨lt_i, hxs⟩ | ⟨lt_i, hxs⟩ | eq_i
    · have hf := pfind_hit hs (hxs ▸ name_i lt_i)
      have hqo := pwith_Ok (Par.check_0 hc).1 i n
      refine qr_ [0] <| ppq (.bool true) (dct ((((i : Nat) : Int)) < ((11) : Int)) (by omega)) <| eq_ <| y_ <| s_ <| tq_ <| b_ 1 <| qr_ [0, 1, 2, 3] <| ppq (pT g (i * 5)) (exec_cast (v := pT g (0 + i * 5)) (by simp) (exec_indexAt_slice 61 (.tmp 23) (.tmp 25) (by kernel_rfl) g 0 11 11 (by kernel_rfl) .i64 i (by kernel_rfl) _ 5 Tryd.underlying61 (by kernel_rfl) (by omega))) <| ppq (.agg (fieldC i (ks i)).toArray) (exec_load_mid 67 (.tmp 27) (by kernel_rfl) g (i * 5) (by kernel_rfl) (fieldC i (ks i)) _ (FieldsAt.mid h26 lt_i) Tryd.underlying67 rfl (by kernel_rfl)) <| pal 67 (#[.string ⟨#[]⟩, .int .u64 0, .int .u64 0, .nilFunc, .nilFunc]) (.agg (#[.string ⟨#[]⟩, .int .u64 0, .int .u64 0, .nilFunc, .nilFunc])) fun V29 gt egt h30 kV29 => ?_
      have n31 : gp < gt := egt ▸ lt_of_block h24
      have n32 : go < gt := egt ▸ lt_of_block h25
      have n33 : w.heap.size ≤ gt := egt ▸ K28.size
      have h34 := kV29.bk h24
      have h35 := kV29.bk h25
      have h36 : FieldsAt V29 g gp ks := h26.keepsN kV29
      have h37 : NB ≤ V29.heap.size := Nat.le_trans h27 kV29.size
      have K38 := K28.nn kV29
      have z39 := kV29.size
      refine pst 67 gt ((fieldC i (ks i)).toArray) h30 (by kernel_rfl) rfl (by kernel_rfl) fun V40 h41 kV40 => ?_
      have h42 := kV40.bO h34
      have h43 := kV40.bO h35
      have h44 : FieldsAt V40 g gp ks := FieldsAt.keepsB hF h36 kV40 (fun j hj e => by unfold Own.One at e; omega)
      have h45 : NB ≤ V40.heap.size := Nat.le_trans h37 kV40.size
      have K46 := K38.nO kV40
      have z47 := kV40.size
      refine eq_ <| qr_ [0, 1, 2, 3] <| pkq (pT gt 0) <| ppq (.string (parName[i]?.getD ⟨#[]⟩)) (ldc 9 gt 0 (rc (h41) (rfl))) <| pkq (.string s) <| ppq (.bool false) (exec_cast (congrArg Value.bool ((by simp [hxs]))) (exec_binop .neq 9 9 (.tmp 30) (.tmp 31) (by kernel_rfl) (.string (parName[i]?.getD ⟨#[]⟩)) (.string s) _ (by kernel_rfl) (by kernel_rfl) (by kernel_rfl) (str_neq _ s _))) <| en_ <| s_ <| tq_ <| qr_ [0, 1, 2, 3] ?_
      by_cases hin : parLoU[i]?.getD 0 ≤ (n : Int) ∧ (n : Int) ≤ parHiU[i]?.getD 0
      · have hn40 : (n : Int) ≤ 1099511627776 := by have := parHi_le i; have := U_eq i; omega
        refine ppq (.agg ((fieldC i (ks i)).toArray)) (ldr 67 gt (h41) (by kernel_rfl)) <| pkq (uN n) ?_
        refine pcq 38 #[.agg ((fieldC i (ks i)).toArray), uN n] Tryd.func38 ((within_yes _ _ _ _ _ _ _ hin).mono ?_)
        rintro e V48 ⟨rfl, kV48⟩
        refine ⟨_, rfl, ?_⟩
        have h49 := kV48.bk h42
        have h50 := kV48.bk h43
        have h51 : FieldsAt V48 g gp ks := h44.keepsN kV48
        have h52 : NB ≤ V48.heap.size := Nat.le_trans h45 kV48.size
        have h53 := kV48.bk h41
        have K54 := K46.nn kV48
        have z55 := kV48.size
        refine pkq (.bool false) <| en_ <| s_ <| tqr_ [0, 1, 2, 3] <| pkq (pT gt 4) <| ppq (.func (.func (parSet[i]?.getD 0)) #[] #[.pointer (some ⟨ks i, 0, none⟩)]) (ldc 65 gt 4 (rc (h53) (rfl))) <| pkq (uN n) ?_
        have hkg := ks_ne h51 h49 lt_i
        refine ps_callV (qo25_4 29902 3) (.tmp 39) (parSet[i]?.getD 0) #[] #[.pointer (some ⟨ks i, 0, none⟩)] #[uN n, .pointer (some ⟨ks i, 0, none⟩)] (by kernel_rfl) (by kernel_rfl) (by kernel_rfl) (by kernel_rfl) (by kernel_rfl) (set_enters i lt_i) ((set_ok p (Par.check_0 hc).1 i gp (ks i) n _ lt_i (FieldsAt.box h51 i lt_i) h49 hn40 hkg).mono ?_)
        rintro e V56 ⟨rfl, hbV56, kV56⟩
        refine ⟨_, rfl, ?_⟩
        have h57 := kV56.bO h50
        have h58 : NB ≤ V56.heap.size := Nat.le_trans h52 kV56.size
        have K60 := K54.nO kV56
        have z61 := kV56.size
        refine eq_ <| qr_ [0, 1, 2, 3, 4, 5, 6] ?_
        by_cases hq0 : (pwith p i n).check.1 = 0
        · refine ppq (.agg ((pwith p i n).cells)) (ldr 24 gp (hbV56) (by kernel_rfl)) ?_
          refine pcq 9 #[.agg ((pwith p i n).cells)] Tryd.func9 ((pCheck_is (pwith p i n) _ _ hqo hq0).mono ?_)
          rintro e V62 ⟨rfl, kV62⟩
          refine ⟨_, rfl, ?_⟩
          have h63 := kV62.bk h57
          have h64 : NB ≤ V62.heap.size := Nat.le_trans h58 kV62.size
          have h66 := kV62.bk hbV56
          have K67 := K60.nn kV62
          have z68 := kV62.size
          refine pkq (.tuple #[.int .i64 0, .int .i64 (pwith p i n).check.2]) <| pkq (.int .i64 0) <| pkq (.int .i64 (pwith p i n).check.2) <| pkq (.int .i64 0) <| pkq (.int .i64 (pwith p i n).check.2) <| ps_end <| sy_a ⟨#[.agg p.cells, .string s, uN n, pT gp 0, ud, ud, pT go 0, u7, .int .i64 0, .int .i64 p.check.2, ud, pT gt 0, .int .i64 0, .int .i64 (pwith p i n).check.2, .tuple #[.int .i64 0, .int .i64 p.check.2], .agg (p.cells), .tuple #[.int .i64 0, .int .i64 p.check.2], .int .i64 0, .int .i64 p.check.2, .int .i64 0, .bool false, ud, ud, .slice (some ⟨g, 0, none⟩) 11 11, .int .i64 11, iN i, .bool true, pT g (i * 5), .agg (fieldC i (ks i)).toArray, pT gt 0, .string (parName[i]?.getD ⟨#[]⟩), .string s, .bool false, .agg ((fieldC i (ks i)).toArray), uN n, .bool true, .bool false, u37, pT gt 4, .func (.func (parSet[i]?.getD 0)) #[] #[.pointer (some ⟨ks i, 0, none⟩)], uN n, .tuple #[], .tuple #[.int .i64 0, .int .i64 (pwith p i n).check.2], .agg ((pwith p i n).cells), .tuple #[.int .i64 0, .int .i64 (pwith p i n).check.2], .int .i64 0, .int .i64 (pwith p i n).check.2, u47, u48, u49, u50, u51, u52, ud], []⟩ <| tqr_ [0, 1] <| pkq (.int .i64 0) <| pkq (.bool false) <| en_ <| s_ <| tqr_ [0, 1, 2] <| ppq (.agg ((pwith p i n).cells)) (ldr 24 gp (h66) (by kernel_rfl)) ?_
          refine pst 24 go (((pwith p i n).cells)) h63 (by kernel_rfl) rfl (by kernel_rfl) fun V69 h70 kV69 => ?_
          have h71 : NB ≤ V69.heap.size := Nat.le_trans h64 kV69.size
          have K74 := K67.nO kV69
          have z75 := kV69.size
          refine pkq (.int .i64 0) <| eu_ <| blk_r <| then_r <| then_r <| blk_r <| then_r <| sy_out (.tuple #[.agg ((pwith p i n).cells), .int .i64 0]) rfl (results_row_tmp (p := 6) (q := 7) (ty := 24) (by kernel_rfl) _ _ go 24 ((pwith p i n).cells) (0, 0) _ (.int .i64 0) (by kernel_rfl) h70 Tryd.underlying24 rfl (by kernel_rfl) (by kernel_rfl)) ?_
          exact ⟨by rw [pset, if_pos hc, hf, if_neg (by omega), Int.toNat_natCast, if_pos hq0], K74⟩
        · refine ppq (.agg ((pwith p i n).cells)) (ldr 24 gp (hbV56) (by kernel_rfl)) ?_
          refine pcq 9 #[.agg ((pwith p i n).cells)] Tryd.func9 ((pCheck_is (pwith p i n) _ _ hqo rfl).mono ?_)
          rintro e V76 ⟨rfl, kV76⟩
          refine ⟨_, rfl, ?_⟩
          have h77 := kV76.bk h57
          have h78 : NB ≤ V76.heap.size := Nat.le_trans h58 kV76.size
          have K81 := K60.nn kV76
          have z82 := kV76.size
          refine pkq (.tuple #[.int .i64 (pwith p i n).check.1, .int .i64 (pwith p i n).check.2]) <| pkq (.int .i64 (pwith p i n).check.1) <| pkq (.int .i64 (pwith p i n).check.2) <| pkq (.int .i64 (pwith p i n).check.1) <| pkq (.int .i64 (pwith p i n).check.2) <| ps_end <| sy_a ⟨#[.agg p.cells, .string s, uN n, pT gp 0, ud, ud, pT go 0, u7, .int .i64 0, .int .i64 p.check.2, ud, pT gt 0, .int .i64 (pwith p i n).check.1, .int .i64 (pwith p i n).check.2, .tuple #[.int .i64 0, .int .i64 p.check.2], .agg (p.cells), .tuple #[.int .i64 0, .int .i64 p.check.2], .int .i64 0, .int .i64 p.check.2, .int .i64 0, .bool false, ud, ud, .slice (some ⟨g, 0, none⟩) 11 11, .int .i64 11, iN i, .bool true, pT g (i * 5), .agg (fieldC i (ks i)).toArray, pT gt 0, .string (parName[i]?.getD ⟨#[]⟩), .string s, .bool false, .agg ((fieldC i (ks i)).toArray), uN n, .bool true, .bool false, u37, pT gt 4, .func (.func (parSet[i]?.getD 0)) #[] #[.pointer (some ⟨ks i, 0, none⟩)], uN n, .tuple #[], .tuple #[.int .i64 (pwith p i n).check.1, .int .i64 (pwith p i n).check.2], .agg ((pwith p i n).cells), .tuple #[.int .i64 (pwith p i n).check.1, .int .i64 (pwith p i n).check.2], .int .i64 (pwith p i n).check.1, .int .i64 (pwith p i n).check.2, u47, u48, u49, u50, u51, u52, ud], []⟩ <| tqr_ [0, 1] <| pkq (.int .i64 (pwith p i n).check.1) <| ppq (.bool true) (nqt (((pwith p i n).check.1) : Int) ((0) : Int) (by omega)) <| ey_ <| qr_ [0, 1, 2, 3] <| pkq (.agg parZ.cells) <| pkq (.int .i64 (pwith p i n).check.1) ?_
          refine pst 24 go parZ.cells h77 (by kernel_rfl) rfl (by kernel_rfl) fun V83 h84 kV83 => ?_
          have h85 : NB ≤ V83.heap.size := Nat.le_trans h78 kV83.size
          have K88 := K81.nO kV83
          have z89 := kV83.size
          refine pkq (.int .i64 (pwith p i n).check.1) <| eu_ <| then_r <| blk_r <| then_r <| then_r <| blk_r <| then_r <| sy_out (.tuple #[.agg parZ.cells, .int .i64 (pwith p i n).check.1]) rfl (results_row_tmp (p := 6) (q := 7) (ty := 24) (by kernel_rfl) _ _ go 24 parZ.cells (0, 0) _ (.int .i64 (pwith p i n).check.1) (by kernel_rfl) h84 Tryd.underlying24 rfl (by kernel_rfl) (by kernel_rfl)) ?_
          exact ⟨by rw [pset, if_pos hc, hf, if_neg (by omega), Int.toNat_natCast, if_neg hq0], K88⟩
      · have hq3 := pwith_out (Par.check_0 hc).1 lt_i hin
        refine ppq (.agg ((fieldC i (ks i)).toArray)) (ldr 67 gt (h41) (by kernel_rfl)) <| pkq (uN n) ?_
        refine pcq 38 #[.agg ((fieldC i (ks i)).toArray), uN n] Tryd.func38 ((within_no _ _ _ _ _ _ _ hin).mono ?_)
        rintro e V90 ⟨rfl, kV90⟩
        refine ⟨_, rfl, ?_⟩
        have h92 := kV90.bk h43
        have h93 : FieldsAt V90 g gp ks := h44.keepsN kV90
        have h94 : NB ≤ V90.heap.size := Nat.le_trans h45 kV90.size
        have K96 := K46.nn kV90
        have z97 := kV90.size
        refine pkq (.bool true) <| ey_ <| qr_ [0, 1, 2] <| pkq (.agg parZ.cells) <| pst 24 go parZ.cells h92 (by kernel_rfl) rfl (by kernel_rfl) fun V98 h99 kV98 => ?_
        have K102 := K96.nO kV98
        have z103 := kV98.size
        refine pkq (.int .i64 3) <| eu_ <| then_r <| blk_r <| then_r <| then_r <| blk_r <| then_r <| sy_out (.tuple #[.agg parZ.cells, .int .i64 3]) rfl (results_row_tmp (p := 6) (q := 7) (ty := 24) (by kernel_rfl) _ _ go 24 parZ.cells (0, 0) _ (.int .i64 3) (by kernel_rfl) h99 Tryd.underlying24 rfl (by kernel_rfl) (by kernel_rfl)) ?_
        exact ⟨by rw [pset, if_pos hc, hf, if_neg (by omega), Int.toNat_natCast, if_neg (by omega), hq3], K102⟩
    · skip
      refine qr_ [0] <| ppq (.bool true) (dct ((((i : Nat) : Int)) < ((11) : Int)) (by omega)) <| eq_ <| y_ <| s_ <| tq_ <| b_ 1 <| qr_ [0, 1, 2, 3] <| ppq (pT g (i * 5)) (exec_cast (v := pT g (0 + i * 5)) (by simp) (exec_indexAt_slice 61 (.tmp 23) (.tmp 25) (by kernel_rfl) g 0 11 11 (by kernel_rfl) .i64 i (by kernel_rfl) _ 5 Tryd.underlying61 (by kernel_rfl) (by omega))) <| ppq (.agg (fieldC i (ks i)).toArray) (exec_load_mid 67 (.tmp 27) (by kernel_rfl) g (i * 5) (by kernel_rfl) (fieldC i (ks i)) _ (FieldsAt.mid h26 lt_i) Tryd.underlying67 rfl (by kernel_rfl)) <| pal 67 (#[.string ⟨#[]⟩, .int .u64 0, .int .u64 0, .nilFunc, .nilFunc]) (.agg (#[.string ⟨#[]⟩, .int .u64 0, .int .u64 0, .nilFunc, .nilFunc])) fun V104 gt egt h105 kV104 => ?_
      have n106 : gp < gt := egt ▸ lt_of_block h24
      have n107 : go < gt := egt ▸ lt_of_block h25
      have n108 : w.heap.size ≤ gt := egt ▸ K28.size
      have h109 := kV104.bk h24
      have h110 := kV104.bk h25
      have h111 : FieldsAt V104 g gp ks := h26.keepsN kV104
      have h112 : NB ≤ V104.heap.size := Nat.le_trans h27 kV104.size
      have K113 := K28.nn kV104
      have z114 := kV104.size
      refine pst 67 gt ((fieldC i (ks i)).toArray) h105 (by kernel_rfl) rfl (by kernel_rfl) fun V115 h116 kV115 => ?_
      have h117 := kV115.bO h109
      have h118 := kV115.bO h110
      have h119 : FieldsAt V115 g gp ks := FieldsAt.keepsB hF h111 kV115 (fun j hj e => by unfold Own.One at e; omega)
      have h120 : NB ≤ V115.heap.size := Nat.le_trans h112 kV115.size
      have K121 := K113.nO kV115
      have z122 := kV115.size
      refine eq_ <| qr_ [0, 1, 2, 3] <| pkq (pT gt 0) <| ppq (.string (parName[i]?.getD ⟨#[]⟩)) (ldc 9 gt 0 (rc (h116) (rfl))) <| pkq (.string s) <| ppq (.bool true) (exec_cast (congrArg Value.bool ((by simp [hxs]))) (exec_binop .neq 9 9 (.tmp 30) (.tmp 31) (by kernel_rfl) (.string (parName[i]?.getD ⟨#[]⟩)) (.string s) _ (by kernel_rfl) (by kernel_rfl) (by kernel_rfl) (str_neq _ s _))) <| ey_ <| sy_exit 1 (by kernel_rfl) <| then_e <| blk_e <| tr_ [0, 1] <| ppq (iN (i + 1)) (exec_cast (congrArg (Value.int .i64) (wrapN (i + 1) (by omega))) (by kernel_rfl)) <| pkq (iN (i + 1)) <| et_ ?_
      refine ⟨⟨i + 1, u7, (pT gt 0), u12, u13, (.bool true), (pT g (i * 5)), (.agg (fieldC i (ks i)).toArray), (pT gt 0), (.string (parName[i]?.getD ⟨#[]⟩)), (.string s), (.bool true), u33, u34, u35, u36, u37, u38, u39, u40, u41, u42, u43, u44, u45, u46, u47, u48, u49, u50, u51, (iN (i + 1)), by kernel_rfl, by omega, fun j hj => by by_cases e : j = i; (subst e; rw [name_i lt_i]; simpa using hxs); exact hs j (by omega), h117, h118, h119, h120, K121⟩, ?_⟩
      exact lt_meas (x := 11 - (i + 1)) (y := 11 - i) (by kernel_rfl) (by kernel_rfl) (by omega)
    · skip
      refine qr_ [0] <| ppq (.bool false) (dcf ((((i : Nat) : Int)) < ((11) : Int)) (by omega)) <| eq_ <| n_ <| sy_exit 0 (by kernel_rfl) <| then_e <| then_e <| blk_e <| tqr_ [0, 1, 2] <| pkq (.agg parZ.cells) <| pst 24 go parZ.cells h25 (by kernel_rfl) rfl (by kernel_rfl) fun V123 h124 kV123 => ?_
      have K126 := K28.nO kV123
      have z127 := kV123.size
      refine pkq (.int .i64 10) <| eu_ <| sy_out (.tuple #[.agg parZ.cells, .int .i64 10]) rfl (results_row_tmp (p := 6) (q := 7) (ty := 24) (by kernel_rfl) _ _ go 24 parZ.cells (0, 0) _ (.int .i64 10) (by kernel_rfl) h124 Tryd.underlying24 rfl (by kernel_rfl) (by kernel_rfl)) ?_
      exact ⟨by rw [pset, if_pos hc, if_pos (pfind_none (fun j hj => hs j (by omega)))], K126⟩
theorem pSet_ok (p : Par) (s : ByteArray) (n : Nat) (w : World) (hp : p.Ok) : Calls Tryd.prog 13 #[.agg p.cells, .string s, .int .u64 ((n : Nat) : Int)] w (fun e w' => e = .returned (.tuple #[.agg (pset p s n).1.cells, .int .i64 (pset p s n).2]) ∧ Keeps Nob w w') := by
  by_cases hc : p.check.1 = 0
  · exact pSet_fine p s n w hp hc
  · exact pSet_bad p s n w hp hc
end Go.Proofs.YtpflmldmbpnllaaDoor
namespace Go.Own.Cod
set_option maxRecDepth 100000
set_option maxHeartbeats 4000000
/-- The bytes of a number (at most so many). -/
def encF : Nat → Nat → List UInt8
  | 0, _ => []
  | f + 1, n => if n < 128 then [UInt8.ofNat n] else UInt8.ofNat (n % 128 + 128) :: encF f (n / 128)
def enc (n : Nat) : List UInt8 := encF 10 n
/-- Which number bytes begin with, its length, an error (0: none): from the byte at place i on, n having come so far. -/
def numF : List UInt8 → Nat → Nat → Nat × Nat × Int
  | [], _, _ => (0, 0, 6)
  | c :: r, i, n => if (i = 9 ∧ 1 < c.toNat) ∨ (0 < i ∧ c.toNat = 0) then (0, 0, 5) else if c.toNat < 128 then (n + c.toNat % 128 * 128 ^ i, i + 1, 0) else numF r (i + 1) (n + c.toNat % 128 * 128 ^ i)
def num (l : List UInt8) : Nat × Nat × Int := numF l 0 0
theorem toNat_ofNat (n : Nat) (h : n < 256) : (UInt8.ofNat n).toNat = n := by simp; omega
theorem encF_more (f n : Nat) (h : 128 ≤ n) : encF (f + 1) n = UInt8.ofNat (n % 128 + 128) :: encF f (n / 128) := by
  rw [encF, if_neg (by omega)]
theorem encF_last (f n : Nat) (h : n < 128) : encF (f + 1) n = [UInt8.ofNat n] := by
  rw [encF, if_pos h]
theorem small_step (k m : Nat) (hk : k ≤ 9) (h : m < 2 ^ (64 - 7 * k)) (hm : 128 ≤ m) : k < 9 ∧ m / 128 < 2 ^ (64 - 7 * (k + 1)) := by
  have hk9 : k < 9 := by
    rcases Nat.lt_or_ge k 9 with h9 | h9
    · exact h9
    · obtain rfl : k = 9 := by omega
      simp at h; omega
  refine ⟨hk9, ?_⟩
  apply Nat.div_lt_of_lt_mul
  have : 64 - 7 * k = (64 - 7 * (k + 1)) + 7 := by omega
  rw [this, Nat.pow_add] at h
  omega
theorem encF_pos (f n : Nat) : 0 < (encF (f + 1) n).length := by
  rw [encF]; split <;> simp
theorem encF_length (f n : Nat) : (encF f n).length ≤ f := by
  induction f generalizing n with
  | zero => simp [encF]
  | succ f ih =>
    rw [encF]; split
    · simp
    · simp; exact ih _
theorem enc_pos (n : Nat) : 0 < (enc n).length := encF_pos _ _
theorem enc_length (n : Nat) : (enc n).length ≤ 10 := encF_length _ _
/-- What is read as a number has just that number's bytes. -/
theorem numF_one (f : Nat) : ∀ (l : List UInt8) (i n x k : Nat), f + i = 10 → i ≤ 9 → numF l i n = (x, k, 0) → ∃ m, m < 2 ^ (64 - 7 * i) ∧ (0 < i → 0 < m) ∧ x = n + m * 128 ^ i ∧ k = i + (encF f m).length ∧ ∃ r, l = encF f m ++ r := by
  induction f with
  | zero => intro l i n x k h hi; omega
  | succ f ih =>
    intro l i n x k h hi hn
    match l with
    | [] => simp [numF] at hn
    | c :: r =>
      have hcl : c.toNat < 256 := c.toNat_lt
      rw [numF] at hn
      split at hn
      · simp at hn
      · rename_i h1
        split at hn
        · rename_i h2
          simp only [Prod.mk.injEq, and_true] at hn
          refine ⟨c.toNat, ?_, fun hp => by omega, ?_, ?_, r, ?_⟩
          · rcases Nat.lt_or_ge i 9 with h9 | h9
            · have : 2 ^ 7 ≤ 2 ^ (64 - 7 * i) := Nat.pow_le_pow_right (by omega) (by omega)
              omega
            · obtain rfl : i = 9 := by omega
              simp; omega
          · rw [Nat.mod_eq_of_lt h2] at hn; exact hn.1.symm
          · rw [encF_last f _ h2]; simp; omega
          · rw [encF_last f _ h2]; simp
        · rename_i h2
          have hi9 : i < 9 := by omega
          obtain ⟨m, hm, hp, hx, hk, r', hr⟩ := ih r (i + 1) _ x k (by omega) (by omega) hn
          have hp := hp (by omega)
          refine ⟨c.toNat % 128 + m * 128, ?_, fun _ => by omega, ?_, ?_, r', ?_⟩
          · have e : 64 - 7 * i = (64 - 7 * (i + 1)) + 7 := by omega
            rw [e, Nat.pow_add]
            have : m + 1 ≤ 2 ^ (64 - 7 * (i + 1)) := hm
            have := Nat.mul_le_mul_right (2 ^ 7) this
            omega
          · rw [hx, Nat.pow_succ, Nat.mul_comm (128 ^ i) 128, ← Nat.mul_assoc, Nat.add_assoc, ← Nat.add_mul]
          · rw [encF_more f _ (by omega), hk, show (c.toNat % 128 + m * 128) / 128 = m by omega]; simp; omega
          · rw [encF_more f _ (by omega), show (c.toNat % 128 + m * 128) / 128 = m by omega, hr]
            simp only [List.cons_append, List.cons.injEq, and_true]
            apply UInt8.toNat_inj.1
            rw [toNat_ofNat _ (by omega)]; omega
theorem num_one (l : List UInt8) (x k : Nat) (h : num l = (x, k, 0)) : x < 2 ^ 64 ∧ k = (enc x).length ∧ ∃ r, l = enc x ++ r := by
  obtain ⟨m, hm, _, hx, hk, r, hr⟩ := numF_one 10 l 0 0 x k (by omega) (by omega) h
  simp only [Nat.pow_zero, Nat.mul_one, Nat.zero_add] at hx hk
  subst hx
  exact ⟨by simpa using hm, hk, r, hr⟩
theorem num_ok (l : List UInt8) (h : (num l).2.2 = 0) : (num l).1 < 2 ^ 64 ∧ 0 < (num l).2.1 ∧ (num l).2.1 ≤ l.length ∧ (num l).2.1 ≤ 10 ∧ l.take (num l).2.1 = enc (num l).1 := by
  obtain ⟨h1, h2, r, h3⟩ := num_one l (num l).1 (num l).2.1 (by rw [← h])
  generalize (num l).1 = x at *
  generalize (num l).2.1 = k at *
  have h4 := enc_pos x
  have h5 := enc_length x
  subst h2
  subst h3
  exact ⟨h1, by omega, by simp, by omega, by simp⟩
end Go.Own.Cod
namespace Go.Proofs.YtpflmldmbpnllaaDoor
set_option maxRecDepth 100000
set_option maxHeartbeats 4000000
open Go Go.RowKit Go.Own Go.Shelf
attribute [local go_sem] Oper.semAt_some
theorem mf_run0 : ∀ (fn : Fn) (first cap : Array Value) (w : World), (Instr.makeFunc fn first cap).run Tryd.prog w = .ok (.func fn first cap) w := fun _ _ _ _ => rfl
theorem digits_ok (n : Int) (w : World) :
    Calls Tryd.prog 70 #[.int .u64 n] w fun e w' => e = .returned (.func (.func 92) #[] #[.pointer (some ⟨w.heap.size, 0, none⟩)]) ∧ w.alloc (.cells #[.int .u64 n] 22) = w' := by
  have hmf := mf_run0
  go_enter Tryd.func70, Tryd.ntmps70
  go_wp2
  go_ret
  exact ⟨rfl, rfl⟩
/-- The iterator's own state: what is left of the number. -/
def DigS (n : Nat) (Bn : Nat) (k : Nat) (w : World) : Prop :=
  ∃ pre m, m = n / 128 ^ k ∧ pre.length = k ∧ Cod.enc n = pre ++ Cod.encF (10 - k) m ∧ k ≤ 9 ∧ m < 2 ^ (64 - 7 * k) ∧ w.cell? ⟨Bn, 0, none⟩ = some (.int .u64 (m : Int)) ∧ w.frozen? ⟨Bn, 0, none⟩ = false
theorem or128_fin : ∀ r : Fin 256, bits .or .u8 ((r.val : Nat) : Int) 128 = ((r.val % 128 + 128 : Nat) : Int) := by decide +kernel
theorem or128 (m : Nat) : bits .or .u8 ((m : Int) % 256) 128 = ((m % 128 + 128 : Nat) : Int) := by
  have h := or128_fin ⟨m % 256, Nat.mod_lt _ (by omega)⟩
  have e1 : ((m % 256 : Nat) : Int) = (m : Int) % 256 := by omega
  have e2 : m % 256 % 128 = m % 128 := by omega
  simp only [e1, e2] at h
  exact h
theorem digits_seq (n : Nat) (hn : 1 ≤ n) (Bn : Nat) (x : Nat) (hx : x < 2 ^ 64) :
    SeqOwn Fence.wide n Tryd.prog 92 #[.pointer (some ⟨Bn, 0, none⟩)] (fun x : UInt8 => #[.int .u8 (x.toNat : Int)]) (Cod.enc x) (One Bn) (DigS x Bn) := by
  intro l J Jx W0 hJ hJx hY h0 hS0
  have HY := Lib.hid hY; clear hY
  refine callsIn_of_wp Tryd.func92 rfl trivial ?_ rfl
  simp only [Tryd.ntmps92, List.size_toArray, List.length_cons, List.length_nil, Nat.reduceAdd, Nat.reduceSub, Array.replicate_succ, Array.replicate_zero, List.push_toArray, List.append_toArray, List.nil_append, List.cons_append]
  gi_wp2_with fail
  gi_loopg [3] 10 (fun g e wr => ∃ k : Nat, k ≤ 9 ∧ g = 10 - k ∧ J k wr ∧ DigS x Bn k wr)
  case atStart => exact ⟨0, by omega, by omega, h0, hS0⟩
  case round =>
    obtain ⟨k, hk, hg, hj, hs⟩ := hrel
    have hs' := hs
    obtain ⟨pre, m, hmd, hp, he, _, hm, hc, hf⟩ := hs'
    have HD := Lib.hid hmd
    have HS := Lib.hid hs
    have HE := Lib.hid he
    have HM := Lib.hid hm
    have HP := Lib.hid hp
    have HX := Lib.hid hx
    clear he hm hp hs hS0 hx hmd
    by_cases hlt : m < 128
    · have hget : (Cod.enc x)[k]? = some (UInt8.ofNat m) ∧ (Cod.enc x).length = k + 1 := by
        have h1 : 10 - k = (9 - k) + 1 := by omega
        have h2 := HE.out
        rw [h1, Cod.encF_last _ _ (by omega)] at h2
        rw [h2, List.getElem?_append_right (by have := HP.out; omega), HP.out]; simp [HP.out]
      have HL := Lib.hid hget.2
      obtain ⟨fn, tmps, assign, body, hy, hR⟩ := HY.out k _ wr hget.1 hj HS.out
      rw [Cod.toNat_ofNat _ (by omega)] at hy
      have hb : ((m : Int) % 256) = (m : Int) := by omega
      have hd : decide (128 ≤ (m : Int)) = false := by simp; omega
      clear hget
      gi_wp2_with fail
      refine hR.mono ?_
      rintro e W3 (⟨rfl, hj3, hs3⟩ | ⟨rfl, hx3⟩)
      · gi_wp2
        go_end0
        exact ⟨⟨_, rfl⟩, .inl (by rw [HL.out]; exact hj3)⟩
      · gi_wp2
        go_end0
        exact ⟨⟨_, rfl⟩, .inr hx3⟩
    · have hget : (Cod.enc x)[k]? = some (UInt8.ofNat (m % 128 + 128)) := by
        have h1 : 10 - k = (9 - k) + 1 := by omega
        have h2 := HE.out
        rw [h1, Cod.encF_more _ _ (by omega)] at h2
        rw [h2, List.getElem?_append_right (by have := HP.out; omega), HP.out]; simp
      obtain ⟨fn, tmps, assign, body, hy, hR⟩ := HY.out k _ wr hget hj HS.out
      rw [Cod.toNat_ofNat _ (by omega)] at hy
      have hb := or128 m
      generalize hz : m % 128 + 128 = z at hy hb
      clear hz hget
      gi_wp2_with fail
      refine hR.mono ?_
      rintro e W3 (⟨rfl, hj3, hs3⟩ | ⟨rfl, hx3⟩)
      · obtain ⟨pre3, m3, hmd3, _, _, _, _, hc3, hf3⟩ := hs3
        obtain rfl : m3 = m := hmd3.trans HD.out.symm
        have HE1 : Hid (Cod.enc x = (pre ++ [UInt8.ofNat (m3 % 128 + 128)]) ++ Cod.encF (10 - (k + 1)) (m3 / 128)) := Lib.hid (by
          have h1 : 10 - k = (9 - k) + 1 := by omega
          have h2 := HE.out
          rw [h1, Cod.encF_more _ _ (by omega)] at h2
          rw [h2, show 10 - (k + 1) = 9 - k by omega]; simp)
        have HM1 := Lib.hid (Cod.small_step k m3 hk HM.out (by omega))
        clear hmd3 hc hf
        gi_wp2_with fail
        have hk9 := HM1.out.1
        gi_roundg (10 - (k + 1))
        case measure => omega
        case rel => exact ⟨k + 1, by omega, rfl, hJ _ _ _ hj3 ((Keeps.refl _ _).setOne _), pre ++ [UInt8.ofNat (m3 % 128 + 128)], m3 / 128, by rw [HD.out, Nat.pow_succ, Nat.div_div_eq_div_mul], by simp [HP.out], HE1.out, by omega, HM1.out.2, (World.cell?_setCell_same _ _ _ hc3).trans (by simp), by simpa using hf3⟩
      · gi_wp2
        refine bodyPost_ret (results_none rfl _ _ _) rfl ?_
        exact ⟨⟨_, rfl⟩, .inr hx3⟩
end Go.Proofs.YtpflmldmbpnllaaDoor
namespace Go.Proofs.YtpflmldmbpnllaaDoor
set_option maxRecDepth 100000
set_option maxHeartbeats 4000000
open Go Go.RowKit Go.Own Go.Shelf
attribute [local go_sem] Oper.semAt_some
theorem u8_info : (Tryd.prog.info? 5).map (fun i => (i.zero, i.size, i.bytes)) = some (some (.int .u8 0), 1, 1) := by kernel_rfl
/-- What is collected so far lies in a variable. -/
structure Coll (w0 : World) (Bn b : Nat) (xs : List UInt8) (k : Nat) (V : World) : Prop where
  ex : ∃ v, V.heap[b]? = some (.cells #[v] 39 (0, 0)) ∧ Row V 5 1 v k (B (xs.take k)) ∧ (∀ j, v.ownBlock = some j → w0.heap.size ≤ j) ∧ (v = .slice none 0 0 ↔ k = 0)
  keeps : Keeps (One Bn) w0 V
theorem appendSeq_ok (Bn : Nat) (x : Nat) (hx : x < 2 ^ 64) (w : World) (hc : w.cell? ⟨Bn, 0, none⟩ = some (.int .u64 (x : Int))) (hf : w.frozen? ⟨Bn, 0, none⟩ = false) :
    Calls Tryd.prog 91 #[.slice none 0 0, .func (.func 92) #[] #[.pointer (some ⟨Bn, 0, none⟩)]] w fun e w' => ∃ v, e = .returned v ∧ Row w' 5 1 v (Cod.enc x).length (B (Cod.enc x)) ∧ (∀ j, v.ownBlock = some j → w.heap.size ≤ j) ∧ v ≠ .slice none 0 0 ∧ Keeps (One Bn) w w' := by
  obtain ⟨i0, hi, hz0, hz1, hz2⟩ := info_parts u8_info
  have hBn : Bn < w.heap.size := World.block_lt_of_cell? w _ hc
  have HX := Lib.hid hx
  refine calls_marks 3 Tryd.func91 rfl ?_
  simp only [Tryd.ntmps91, List.size_toArray, List.length_cons, List.length_nil, Nat.reduceAdd, Nat.reduceSub, Array.replicate_succ, Array.replicate_zero, List.push_toArray, List.append_toArray, List.nil_append, List.cons_append]
  go_wp2_with fail
  have hk : Keeps (One Bn) w (w.alloc (.cells #[.slice none 0 0] 39)) := (Keeps.refl _ _).alloc _
  have hb : (w.alloc (.cells #[.slice none 0 0] 39)).heap[w.heap.size]? = some (.cells #[.slice none 0 0] 39 (0, 0)) := World.alloc_heap_new _ _
  have g0 : (w.alloc (.cells #[.slice none 0 0] 39)).cell? ⟨Bn, 0, none⟩ = some (.int .u64 (x : Int)) := by
    rw [World.cell?_alloc_lt _ _ _ hBn]; exact hc
  have f0 : (w.alloc (.cells #[.slice none 0 0] 39)).frozen? ⟨Bn, 0, none⟩ = false := by
    refine (World.frozen?_of_block (w := w) ?_).trans hf
    exact Below.heap_alloc _ _ _ hBn
  have hs : (w.alloc (.cells #[.slice none 0 0] 39)).heap.size = w.heap.size + 1 := by simp
  clear hc hf hx
  generalize w.alloc (.cells #[.slice none 0 0] 39) = W1 at *
  refine wp_range1 3 (gf := 92) (lb := #[.pointer (some ⟨Bn, 0, none⟩)]) rfl (enters_of Tryd.func92 (by kernel_rfl) rfl) (encs := fun x : UInt8 => #[.int .u8 (x.toNat : Int)]) (fun _ => rfl)
    (Mi := One Bn) (fun j hj => by have : j = Bn := hj; omega) (digits_seq 5 (by omega) Bn x HX.out) ?hS ?hS0
    (fun k V => k ≤ (Cod.enc x).length ∧ Coll w Bn w.heap.size (Cod.enc x) k V) (fun _ _ => False) ?hI (fun _ _ _ h => h.elim) ?h0 ?f ?assign ?body ?done ?stop
  case hS0 => exact ⟨[], x, by simp, rfl, rfl, by omega, by simpa using HX.out, g0, f0⟩
  case hS =>
    rintro k A V ⟨pre, m, a1, a2, a3, a4, a5, a6, a7⟩ t
    exact ⟨pre, m, a1, a2, a3, a4, a5, t.cell a6 (fun x => x), (t.frozen a6 (fun x => x)).trans a7⟩
  case h0 => exact ⟨Nat.zero_le _, ⟨⟨.slice none 0 0, hb, ⟨rfl, .inl ⟨rfl, rfl⟩⟩, (fun j hj => by cases hj), ⟨fun _ => rfl, fun _ => rfl⟩⟩, hk⟩⟩
  case hI =>
    rintro k A V ⟨hk, ⟨v, h1, h2, h3, h4⟩, h5⟩ t
    refine ⟨hk, ⟨v, ?_, ?_, h3, h4⟩, t.keeps h5 (by omega)⟩
    · exact t.same _ _ h1 (fun (h : w.heap.size = Bn) => by omega) (.inr rfl)
    · refine h2.heap fun j hj => ?_
      obtain ⟨cs, hcs⟩ := h2.elem hj
      rw [hcs]
      exact t.same _ _ hcs (fun (h : j = Bn) => by have := h3 j hj; omega) (.inr rfl)
  case assign =>
    intro l k y V K hx hi hs hK
    gi_wp2
    exact hK
  case body =>
    rintro l k y V hl hr hx ⟨hkl, ⟨v, h1, h2, h3, h4⟩, h5⟩ hs
    have hlt : k < (Cod.enc x).length := (List.getElem?_eq_some_iff.1 hx).1
    have hlen := Cod.enc_length x
    have hne := h2.ne h1 (by decide)
    have c1 := cell_of_one h1
    have f1 := free_of_one h1
    have hbl := lt_of_block h1
    have htake : (Cod.enc x).take (k + 1) = (Cod.enc x).take k ++ [y] := by
      rw [List.take_add_one, hx]; rfl
    have HT := Lib.hid htake
    have H4 := Lib.hid h4
    have HX := Lib.hid hx
    have HS := Lib.hid hs
    clear htake h4 hx hs
    have hown := h2.keeps ((Keeps.refl Nob V).alloc (.cells #[.int .u8 (y.toNat : Int)] 5)) (fun _ _ x => x)
    have hsrc := Src.new V 1 1 [.int .u8 (y.toNat : Int)] 5 rfl (by simp [Value.oneCell']) 1
    gi_wp2_with (gi_at_builtin; refine own_append2_in rfl _ _ 39 rfl 5 i0 (.int .u8 0) 1 1 Tryd.underlying39 hi hz0 hz1 hz2 rfl (by decide) v k _ rfl hown _ 1 _ rfl hsrc (by unfold maxLen; omega) (by omega) ?_; intro v' w1 hown' hgrow hnil hat; obtain ⟨g', cap', rfl, hg'⟩ := hown'.spell (by omega); have hb1 : w1.heap[w.heap.size]? = some (.cells #[v] 39 (0, 0)) := (hgrow.block _ (by simp; omega) (fun e => hne e.symm)).trans ((Below.heap_alloc _ _ _ hbl).trans h1); have c2 := cell_of_one hb1; have f2 := free_of_one hb1)
    have hkA : KeepsOthers V (V.alloc (.cells #[.int .u8 (y.toNat : Int)] 5)) := KeepsOthers.alloc _ _
    have hkB := hkA.trans ((hown.others hgrow).trans (KeepsOthers.setCell w1 ⟨w.heap.size, 0, none⟩ (.slice (some ⟨g', 0, none⟩) (k + 1) cap')))
    have hKp : Keeps (fun j => v.ownBlock = some j) V w1 := ((Keeps.refl _ _).alloc _).grown hgrow (fun j hj _ => hj)
    have hgne : g' ≠ w.heap.size := fun e => hown'.ne hb1 (by decide) (by rw [e]; rfl)
    have hKw : Keeps (One Bn) w w1 := h5.then hKp (fun i hi hm => by have := h3 i hm; omega)
    obtain ⟨pre, m, b1, b2, b3, b4, b5, b6, b7⟩ := HS.out
    have hvB : v.ownBlock ≠ some Bn := fun e => by have := h3 _ e; omega
    have hBV : Bn < V.heap.size := World.block_lt_of_cell? V _ b6
    have e6 := (hKp.cell (i := 0) hBV hvB).trans b6
    have e7 := (hKp.frozen (i := 0) hBV hvB).trans b7
    refine ⟨hkB.from _, ⟨hlt, ⟨⟨_, one_setCell hb1, ?_, ?_, ⟨(fun h => by cases h), (fun h => by omega)⟩⟩, hKw.setCell_new (p := ⟨w.heap.size, 0, none⟩) (Nat.le_refl _) _⟩⟩, pre, m, b1, b2, b3, b4, b5, ?_, ?_⟩
    · rw [HT.out, B_append]
      exact ownsRow_setCell_other hown' (by simp [Value.ownBlock]; exact hgne) _
    · intro j hj
      rcases hat j hj with h | ⟨h, _⟩
      · exact h3 j h
      · simp at h; omega
    · rw [World.cell?_setCell_other _ _ _ _ (fun e => by simp at e <;> omega)]; exact e6
    · simpa using e7
  case done =>
    rintro D V hD ⟨_, ⟨v, h1, h2, h3, h4⟩, h5⟩ hK
    rw [List.take_of_length_le (Nat.le_refl _)] at h2
    have hpos := Cod.enc_pos x
    obtain ⟨g, cap, rfl, hg⟩ := h2.spell hpos
    have c1 := cell_of_one h1
    have H2 := Lib.hid h2
    clear h2 h4
    go_wp2
    refine marks_ret hK (v := .slice (some ⟨g, 0, none⟩) (Cod.enc x).length cap) (by simp [results, Tryd.results91, go_sem]) ?_
    have ht : Turn W1.heap.size Nob V (V.putObj D (.deferred none)) := Turn.put _ _ _ _ hD hK rfl
    refine ⟨_, rfl, H2.out.heap fun j hj => ?_, h3, by simp, ht.keepsN h5 (by omega)⟩
    obtain ⟨cs, hcs⟩ := H2.out.elem hj
    rw [hcs]
    exact ht.same _ _ hcs (fun h => h) (.inr rfl)
  case stop =>
    rintro D c V hD hx hK
    exact hx.elim
theorem collect_ok (Bn : Nat) (x : Nat) (hx : x < 2 ^ 64) (w : World) (hc : w.cell? ⟨Bn, 0, none⟩ = some (.int .u64 (x : Int))) (hf : w.frozen? ⟨Bn, 0, none⟩ = false) :
    Calls Tryd.prog 69 #[.func (.func 92) #[] #[.pointer (some ⟨Bn, 0, none⟩)]] w fun e w' => ∃ v, e = .returned v ∧ Row w' 5 1 v (Cod.enc x).length (B (Cod.enc x)) ∧ (∀ j, v.ownBlock = some j → w.heap.size ≤ j) ∧ v ≠ .slice none 0 0 ∧ Keeps (One Bn) w w' := by
  have HA := Lib.hid (appendSeq_ok Bn x hx w hc hf)
  clear hx hc hf
  go_enter Tryd.func69, Tryd.ntmps69
  go_wp2_with (go_at_call 91; refine HA.out.mono ?_; rintro e w' ⟨v, rfl, h1, h2, h3, h4⟩; have H1 := Lib.hid h1; have H2 := Lib.hid h2; have H3 := Lib.hid h3; clear h1 h2 h3)
  go_ret
  exact ⟨_, rfl, H1.out, H2.out, H3.out, h4⟩
/-- The bytes of a number, in new memory. -/
theorem cPut_ok (x : Nat) (hx : x < 2 ^ 64) (w : World) :
    Calls Tryd.prog 47 #[.int .u64 (x : Int)] w fun e w' => ∃ v, e = .returned v ∧ Row w' 5 1 v (Cod.enc x).length (B (Cod.enc x)) ∧ (∀ j, v.ownBlock = some j → w.heap.size ≤ j) ∧ v ≠ .slice none 0 0 ∧ Keeps Nob w w' := by
  have HX := Lib.hid hx
  have c1 : (w.alloc (.cells #[.int .u64 (x : Int)] 22)).cell? ⟨w.heap.size, 0, none⟩ = some (.int .u64 (x : Int)) := (World.cell?_alloc_at _ _ _ _ rfl).trans rfl
  have f1 : (w.alloc (.cells #[.int .u64 (x : Int)] 22)).frozen? ⟨w.heap.size, 0, none⟩ = false := by simp [go_sem]
  have HA := Lib.hid (collect_ok w.heap.size x hx _ c1 f1)
  clear hx c1 f1
  go_enter Tryd.func47, Tryd.ntmps47
  go_wp2_with (first
    | (go_at_call 70; refine (digits_ok _ _).mono ?_; rintro e w' ⟨rfl, rfl⟩)
    | (go_at_call 69; refine HA.out.mono ?_; rintro e w' ⟨v, rfl, h1, h2, h3, h4⟩; have H1 := Lib.hid h1; have H2 := Lib.hid h2; have H3 := Lib.hid h3; clear h1 h2 h3))
  go_ret
  refine ⟨_, rfl, H1.out, fun j hj => ?_, H3.out, ((Keeps.refl Nob w).alloc _).then h4 (fun i hi (e : i = w.heap.size) => by omega)⟩
  have := H2.out j hj
  simp at this; omega
end Go.Proofs.YtpflmldmbpnllaaDoor
namespace Go.Proofs.YtpflmldmbpnllaaDoor
set_option maxRecDepth 100000
set_option maxHeartbeats 4000000
open Go Go.RowKit Go.Own
theorem u8_info0 : (Tryd.prog.info? 5).map (fun i => (i.zero, i.size, i.bytes)) = some (some (.int .u8 0), 1, 1) := by kernel_rfl
/-- The empty slice that a copy begins with. -/
theorem Row.empty (w : World) (t : TypeId) : Row (w.alloc (.cells #[] t)) t 1 (.slice (some ⟨w.heap.size, 0, none⟩) 0 0) 0 [] :=
  ⟨rfl, .inr ⟨_, _, _, rfl, Nat.zero_le _, heap_alloc_new _ _, Nat.le_refl _, by unfold maxLen; omega, rfl, rfl⟩⟩
end Go.Proofs.YtpflmldmbpnllaaDoor
namespace Go.Proofs.YtpflmldmbpnllaaDoor
set_option maxRecDepth 100000
set_option maxHeartbeats 4000000
open Go Go.RowKit Go.Own Go.Shelf
def pbI (p : Par) (i : Nat) : List UInt8 := (p.l.take i).flatMap fun x => Cod.enc x.toNat
def pby (p : Par) : List UInt8 := p.l.flatMap fun x => Cod.enc x.toNat
theorem pbI_all (p : Par) : pbI p 11 = pby p := rfl
theorem pbI_succ (p : Par) {i : Nat} (hi : i < 11) : pbI p (i + 1) = pbI p i ++ Cod.enc (p.l[i]?.getD 0).toNat := by
  have h : p.l[i]? = some (p.l[i]?.getD 0) := by rw [List.getElem?_eq_getElem (by show i < 11; exact hi)]; rfl
  unfold pbI; rw [List.take_add_one]
  conv => lhs; rw [h]
  simp
theorem pbI_le (p : Par) (i : Nat) (hi : i ≤ 11) : (pbI p i).length ≤ 10 * i := by
  induction i with
  | zero => simp [pbI]
  | succ i ih => rw [pbI_succ p (by omega), List.length_append]; have := Cod.enc_length (p.l[i]?.getD 0).toNat; have := ih (by omega); omega
theorem pby_cast {p : Par} {i : Nat} {w : World} {v : Value} (hi : i < 11) (h : Row w 5 1 v ((pbI p i).length + (Cod.enc (p.l[i]?.getD 0).toNat).length) (B (pbI p i) ++ B (Cod.enc (p.l[i]?.getD 0).toNat))) : Row w 5 1 v (pbI p (i + 1)).length (B (pbI p (i + 1))) := by
  rw [pbI_succ p hi, List.length_append]
  have e : B (pbI p i ++ Cod.enc (p.l[i]?.getD 0).toNat) = B (pbI p i) ++ B (Cod.enc (p.l[i]?.getD 0).toNat) := by simp [B]
  rw [e]; exact h
theorem Par.l_nat {p : Par} (h : ∀ j, j < 11 → p.good j) (i : Nat) (hi : i < 11) : max (p.l[i]?.getD 0) 0 = (((p.l[i]?.getD 0).toNat : Nat) : Int) ∧ (p.l[i]?.getD 0).toNat < 2 ^ 64 := by
  have h1 := Par.r_in h i hi; omega
def ptold (p : Par) : List UInt8 × Int := if p.check.1 = 0 then (pby p, 0) else ([], p.check.1)
noncomputable def qc30_0 (n : Nat) : Code := partOf Tryd.f23 n
noncomputable abbrev qo30_0 (n k : Nat) : Oper := (opsAt (qc30_0 n)).getD k default
theorem pBytes_ok (p : Par) (w : World) (hp : p.Ok) (hc : p.check.1 = 0) :
    Calls Tryd.prog 23 #[.agg p.cells] w (fun e w' => ∃ X, e = .returned (.tuple #[X, .int .i64 (ptold p).2]) ∧ Row w' 5 1 X (ptold p).1.length (B (ptold p).1) ∧ NewFrom w.heap.size X ∧ Keeps Nob w w') := by
  obtain ⟨i0, hi0, hz0, hz1, hz2⟩ := info_parts u8_info0
  have K0 : Keeps Nob w w := Keeps.refl _ _
  refine sy_enter (qc30_0 1) ⟨#[.agg p.cells, ud, ud, ud, ud, ud, ud, ud, ud, ud, ud, ud, ud, ud, ud, ud, ud, ud, ud, ud, ud, ud, ud, ud, ud, ud, ud, ud, ud, ud, ud, ud, ud, ud, ud, ud, ud], []⟩ Tryd.func23 (by kernel_rfl) (by kernel_rfl) <| qr_ [0, 1, 2] <| pbx 24 p.cells (.agg p.cells) fun V1 gp egp h2 kV1 => ?_
  have n3 : w.heap.size ≤ gp := egp ▸ K0.size
  have K4 := K0.nn kV1
  have z5 := kV1.size
  refine pkq (.slice none 0 0) <| pkq (.int .i64 0) <| eq_ <| qr_ [0, 1, 2, 3, 4, 5, 6] <| ppq (.agg (p.cells)) (ldr 24 gp (h2) (by kernel_rfl)) ?_
  refine pcq 9 #[.agg (p.cells)] Tryd.func9 ((pCheck_is p 0 _ hp hc).mono ?_)
  rintro e V6 ⟨rfl, kV6⟩
  refine ⟨_, rfl, ?_⟩
  have h7 := kV6.bk h2
  have K8 := K4.nn kV6
  have z9 := kV6.size
  refine pkq (.tuple #[.int .i64 0, .int .i64 p.check.2]) <| pkq (.int .i64 0) <| pkq (.int .i64 p.check.2) <| pkq (.int .i64 0) <| pkq (.int .i64 p.check.2) <| eqr_ [0, 1] <| pkq (.int .i64 0) <| pkq (.bool false) <| en_ <| s_ <| tqr_ [0] <| pkq (.slice none 0 0) <| eq_ <| qr_ [0, 1, 2] ?_
  refine pcq 37 #[pT gp 0] Tryd.func37 ((fields_ok gp _).mono ?_)
  rintro e V10 ⟨g, ks, rfl, hF, hgl, kV10⟩
  obtain ⟨NB, hNB⟩ : ∃ n, V10.heap.size = n := ⟨_, rfl⟩
  have hNw : w.heap.size ≤ NB := hNB ▸ Nat.le_trans K8.size kV10.size
  have hgp5 := lt_of_block h7
  refine ⟨_, rfl, ?_⟩
  have h11 := kV10.bk h7
  have K12 := K8.nn kV10
  have z13 := kV10.size
  refine ppq (.int .i64 11) (exec_len (.tmp 19) 61 _ (by kernel_rfl) Tryd.underlying61 (some ⟨g, 0, none⟩) 11 11 (by kernel_rfl)) <| pkq (.int .i64 0) <| et_ <| b_ 0 ?_
  refine sy_loop (qc30_0 244) (fun a V => ∃ (i : Nat) (v : Value) (u8 u9 u10 u22 u23 u24 u25 u26 u27 u28 u29 u30 u31 u32 u33 u34 u35 : Value), (a = ⟨#[.agg p.cells, pT gp 0, .slice none 0 0, .int .i64 0, .int .i64 0, .int .i64 p.check.2, v, ud, u8, u9, u10, .tuple #[.int .i64 0, .int .i64 p.check.2], .agg (p.cells), .tuple #[.int .i64 0, .int .i64 p.check.2], .int .i64 0, .int .i64 p.check.2, .int .i64 0, .bool false, ud, .slice (some ⟨g, 0, none⟩) 11 11, .int .i64 11, iN i, u22, u23, u24, u25, u26, u27, u28, u29, u30, u31, u32, u33, u34, u35, ud], []⟩) ∧ (i ≤ 11) ∧ (V.heap[gp]? = some (.cells p.cells 24 (0, 0))) ∧ (FieldsAt V g gp ks) ∧ (NB ≤ V.heap.size) ∧ (Row V 5 1 v ((pbI p i).length) (B (pbI p i))) ∧ (Keeps Nob w V) ∧ (NewFrom NB v)) (fun a _ => 11 - (intOf (a.tmps.getD 21 undef)).toNat) (by kernel_rfl) ?_ ?_
  · exact ⟨0, .slice none 0 0, undef, undef, undef, undef, undef, undef, undef, undef, undef, undef, undef, undef, undef, undef, undef, undef, undef, by kernel_rfl, by omega, h11, hF, (Nat.le_of_eq hNB.symm), (World.ownsRow_nil _ _ _ _), K12, (NewFrom.nil _)⟩
  · rintro a V14 ⟨i, v, u8, u9, u10, u22, u23, u24, u25, u26, u27, u28, u29, u30, u31, u32, u33, u34, u35, rfl, hi, h15, h16, h17, h18, K19, hnw⟩
    by_cases lt_i : i < 11
    · skip
      refine qr_ [0] <| ppq (.bool true) (dct ((((i : Nat) : Int)) < ((11) : Int)) (by omega)) <| eq_ <| y_ <| s_ <| tq_ <| b_ 1 <| qr_ [0, 1, 2, 3] <| ppq (pT g (i * 5)) (exec_cast (v := pT g (0 + i * 5)) (by simp) (exec_indexAt_slice 61 (.tmp 19) (.tmp 21) (by kernel_rfl) g 0 11 11 (by kernel_rfl) .i64 i (by kernel_rfl) _ 5 Tryd.underlying61 (by kernel_rfl) (by omega))) <| ppq (.agg (fieldC i (ks i)).toArray) (exec_load_mid 67 (.tmp 23) (by kernel_rfl) g (i * 5) (by kernel_rfl) (fieldC i (ks i)) _ (FieldsAt.mid h16 lt_i) Tryd.underlying67 rfl (by kernel_rfl)) <| pal 67 (#[.string ⟨#[]⟩, .int .u64 0, .int .u64 0, .nilFunc, .nilFunc]) (.agg (#[.string ⟨#[]⟩, .int .u64 0, .int .u64 0, .nilFunc, .nilFunc])) fun V20 gt egt h21 kV20 => ?_
      have n22 : gp < gt := egt ▸ lt_of_block h15
      have n23 : w.heap.size ≤ gt := egt ▸ K19.size
      have h24 := kV20.bk h15
      have h25 : FieldsAt V20 g gp ks := h16.keepsN kV20
      have h26 : NB ≤ V20.heap.size := Nat.le_trans h17 kV20.size
      have h27 : Row V20 5 1 v ((pbI p i).length) (B (pbI p i)) := h18.keeps kV20 (fun _ _ x => x)
      have K28 := K19.nn kV20
      have z29 := kV20.size
      refine pst 67 gt ((fieldC i (ks i)).toArray) h21 (by kernel_rfl) rfl (by kernel_rfl) fun V30 h31 kV30 => ?_
      have h32 := kV30.bO h24
      have h33 : FieldsAt V30 g gp ks := FieldsAt.keepsB hF h25 kV30 (fun j hj e => by unfold Own.One at e; omega)
      have h34 : NB ≤ V30.heap.size := Nat.le_trans h26 kV30.size
      have h35 : Row V30 5 1 v ((pbI p i).length) (B (pbI p i)) := h27.keeps kV30 (fun j hj e => Row.ne h27 h21 (by decide) ((show j = gt from e) ▸ hj))
      have K36 := K28.nO kV30
      have z37 := kV30.size
      refine eqr_ [0, 1, 2, 3, 4, 5, 6, 7] <| pkq (pT gt 3) <| ppq (.func (.func (parGet[i]?.getD 0)) #[] #[.pointer (some ⟨ks i, 0, none⟩)]) (ldc 64 gt 3 (rc (h31) (rfl))) ?_
      refine ps_callV (qo30_0 15666 2) (.tmp 27) (parGet[i]?.getD 0) #[] #[.pointer (some ⟨ks i, 0, none⟩)] #[.pointer (some ⟨ks i, 0, none⟩)] (by kernel_rfl) (by kernel_rfl) (by kernel_rfl) (by kernel_rfl) (by kernel_rfl) (get_enters i lt_i) ((((Par.l_nat (Par.check_0 hc).1 i lt_i).1 ▸ get_ok p hp i gp (ks i) lt_i _ (FieldsAt.box h33 i lt_i) (cell_par h32 i))).mono ?_)
      rintro e V38 ⟨rfl, kV38⟩
      refine ⟨_, rfl, ?_⟩
      have h39 := kV38.bk h32
      have h40 : FieldsAt V38 g gp ks := h33.keepsN kV38
      have h41 : NB ≤ V38.heap.size := Nat.le_trans h34 kV38.size
      have h42 : Row V38 5 1 v ((pbI p i).length) (B (pbI p i)) := h35.keeps kV38 (fun _ _ x => x)
      have K44 := K36.nn kV38
      have z45 := kV38.size
      refine pkq (.tuple #[uN ((p.l[i]?.getD 0).toNat), .bool (decide (0 ≤ p.l[i]?.getD 0))]) <| pkq (uN ((p.l[i]?.getD 0).toNat)) <| pkq (.bool (decide (0 ≤ p.l[i]?.getD 0))) <| pkq (uN ((p.l[i]?.getD 0).toNat)) <| pkq (.bool (decide (0 ≤ p.l[i]?.getD 0))) <| er_ [0, 1, 2, 3, 4] <| pkq (v) <| pkq (uN ((p.l[i]?.getD 0).toNat)) ?_
      refine pcq 47 #[uN ((p.l[i]?.getD 0).toNat)] Tryd.func47 ((cPut_ok (p.l[i]?.getD 0).toNat (Par.l_nat (Par.check_0 hc).1 i lt_i).2 _).mono ?_)
      rintro e V46 ⟨X, rfl, hX, hXn, -, kV46⟩
      have hpl := pbI_le p i hi
      have hel := Cod.enc_length (p.l[i]?.getD 0).toNat
      refine ⟨_, rfl, ?_⟩
      have h47 := kV46.bk h39
      have h48 : FieldsAt V46 g gp ks := h40.keepsN kV46
      have h49 : NB ≤ V46.heap.size := Nat.le_trans h41 kV46.size
      have h50 : Row V46 5 1 v ((pbI p i).length) (B (pbI p i)) := h42.keeps kV46 (fun _ _ x => x)
      have K52 := K44.nn kV46
      have z53 := kV46.size
      obtain ⟨v54, V55, hr56, h57, hg58, hn59, ha60⟩ := run_append_any (P := Tryd.prog) (w := V46) 39 (Oper.type (qo30_0 15667 3)) 5 i0 (.int .u8 0) 1 1 Tryd.underlying39 hi0 hz0 hz1 hz2 rfl (by decide) v ((pbI p i).length) (B (pbI p i)) h50 X ((Cod.enc (p.l[i]?.getD 0).toNat).length) (B (Cod.enc (p.l[i]?.getD 0).toNat)) (BytesAt.src (Row.bytes hX)) (by unfold maxLen; omega) (by omega)
      have kV55 : Keeps (fun j => v.ownBlock = some j) V46 V55 := Keeps.rowAdd hg58
      have hw61 : NewFrom NB v54 := hnw.next h49 ha60
      refine prq v54 (w' := V55) (exec_append (.tmp 31) (.tmp 33) 39 (by kernel_rfl) v X (by kernel_rfl) (by kernel_rfl) hr56) ?_
      have h62 : Row V55 5 1 v54 ((pbI p (i + 1)).length) (B (pbI p (i + 1))) := (pby_cast lt_i h57)
      have h63 : V55.heap[gp]? = some (.cells p.cells 24 (0, 0)) := (kV55.block gp (lt_of_block h47) (fun e => Row.ne h50 h47 (by decide) e)).trans h47
      have h64 : FieldsAt V55 g gp ks := FieldsAt.keepsB hF h48 kV55 (fun j hj e => by have := hnw j e; omega)
      have h65 : NB ≤ V55.heap.size := Nat.le_trans h49 kV55.size
      have K67 : Keeps Nob w V55 := K52.then kV55 (fun i hi hm => absurd hi (by have := hnw i hm; omega))
      have z68 := kV55.size
      refine pkq (v54) <| ps_end <| blk_n <| tr_ [0, 1] <| ppq (iN (i + 1)) (exec_cast (congrArg (Value.int .i64) (wrapN (i + 1) (by omega))) (by kernel_rfl)) <| pkq (iN (i + 1)) <| et_ ?_
      refine ⟨⟨i + 1, v54, (pT gt 0), (uN ((p.l[i]?.getD 0).toNat)), (.bool (decide (0 ≤ p.l[i]?.getD 0))), (.bool true), (pT g (i * 5)), (.agg (fieldC i (ks i)).toArray), (.tuple #[uN ((p.l[i]?.getD 0).toNat), .bool (decide (0 ≤ p.l[i]?.getD 0))]), (pT gt 3), (.func (.func (parGet[i]?.getD 0)) #[] #[.pointer (some ⟨ks i, 0, none⟩)]), (.tuple #[uN ((p.l[i]?.getD 0).toNat), .bool (decide (0 ≤ p.l[i]?.getD 0))]), (uN ((p.l[i]?.getD 0).toNat)), (.bool (decide (0 ≤ p.l[i]?.getD 0))), v, (uN ((p.l[i]?.getD 0).toNat)), X, v54, (iN (i + 1)), by kernel_rfl, by omega, h63, h64, h65, h62, K67, hw61⟩, ?_⟩
      exact lt_meas (x := 11 - (i + 1)) (y := 11 - i) (by kernel_rfl) (by kernel_rfl) (by omega)
    · have eq_i : i = 11 := by omega
      refine qr_ [0] <| ppq (.bool false) (dcf ((((i : Nat) : Int)) < ((11) : Int)) (by omega)) <| eq_ <| n_ <| sy_exit 0 (by kernel_rfl) <| then_e <| then_e <| blk_e <| tqr_ [0, 1, 2] <| pkq (v) <| pkq (v) <| pkq (.int .i64 0) <| eu_ <| so_ (.tuple #[v, .int .i64 0]) ?_
      exact ⟨v, by rw [ptold, if_pos hc], by have e := h18; rw [eq_i, pbI_all] at e; rw [ptold, if_pos hc]; exact e, fun j hj => Nat.le_trans hNw (hnw j hj), K19⟩
end Go.Proofs.YtpflmldmbpnllaaDoor
namespace Go.Proofs
set_option maxRecDepth 100000
set_option maxHeartbeats 4000000
open Go.Shelf
def Tryd.lays169_ren : Go.Shelf.Ren := ⟨fun | 169 => 45 | n => n, fun | 70 => 72 | 9 => 9 | 0 => 0 | 72 => 74 | 37 => 39 | 127 => 106 | 3 => 3 | 5 => 5 | n => n, fun | n => n⟩
theorem Tryd.lays169 : Go.Proofs.Lays.n169 Tryd.prog Tryd.lays169_ren := {
  mixed := by kernel_rfl
  f169 := Tryd.func45.trans (congrArg some (by kernel_rfl))
  t0 := Tryd.underlying0
  a0 := Tryd.isAgg0
  z0 := Tryd.sizeOf0
  v0 := Tryd.zeroValue0
  t3 := Tryd.underlying3
  a3 := Tryd.isAgg3
  z3 := Tryd.sizeOf3
  v3 := Tryd.zeroValue3
  t9 := Tryd.underlying9
  a9 := Tryd.isAgg9
  z9 := Tryd.sizeOf9
  v9 := Tryd.zeroValue9
  t37 := Tryd.underlying39
  a37 := Tryd.isAgg39
  z37 := Tryd.sizeOf39
  v37 := Tryd.zeroValue39
  t70 := Tryd.underlying72
  a70 := Tryd.isAgg72
  z70 := Tryd.sizeOf72
  v70 := Tryd.zeroValue72
  t72 := Tryd.underlying74
  a72 := Tryd.isAgg74
  z72 := Tryd.sizeOf74
  v72 := Tryd.zeroValue74
  t127 := Tryd.underlying106
  a127 := Tryd.isAgg106
  z127 := Tryd.sizeOf106
  v127 := Tryd.zeroValue106 }
theorem Tryd.Builder_Extra_169 : Builder.Extra Tryd.prog Tryd.lays169_ren := {
  sizeBuilder := by kernel_rfl
  liesBuilder := by kernel_rfl
  t5 := Tryd.underlying5
  a5 := Tryd.isAgg5
  z5 := Tryd.sizeOf5
  v5 := Tryd.zeroValue5
  infoByte := by kernel_rfl
  cellsByte := by kernel_rfl
  sizeByte := by kernel_rfl
  neB5 := by decide }
open Go.RowKit in
/-- (*strings.Builder).String: "String returns the accumulated string.": WHATEVER THE BUILDER HOLDS. (LAID: no walk: one application.) -/
theorem Tryd.Builder_String_any (B b : Nat) (l : List UInt8) (w : World) (h : Lib.IsBuilder 74 5 B b (Lib.byteCells l) w) (hBw : B ≤ w.heap.size) :
    Calls Tryd.prog 45 #[.pointer (some ⟨b, 0, none⟩)] w fun e w' => e = .returned (.string ⟨l.toArray⟩) ∧ Below B w w' := Any.Builder_String_any Tryd.lays169 Tryd.Builder_Extra_169 B b l w h hBw
def Tryd.lays103_ren : Go.Shelf.Ren := ⟨fun | 103 => 73 | 210 => 97 | 206 => 106 | n => n, fun | 9 => 9 | 4 => 4 | 24 => 87 | 3 => 3 | n => n, fun | n => n⟩
theorem Tryd.lays103 : Go.Proofs.Lays.n103 Tryd.prog Tryd.lays103_ren := {
  mixed := by kernel_rfl
  f103 := Tryd.func73.trans (congrArg some (by kernel_rfl))
  f206 := Tryd.func106.trans (congrArg some (by kernel_rfl))
  f210 := Tryd.func97.trans (congrArg some (by kernel_rfl))
  t3 := Tryd.underlying3
  a3 := Tryd.isAgg3
  z3 := Tryd.sizeOf3
  v3 := Tryd.zeroValue3
  t4 := Tryd.underlying4
  a4 := Tryd.isAgg4
  z4 := Tryd.sizeOf4
  v4 := Tryd.zeroValue4
  t9 := Tryd.underlying9
  a9 := Tryd.isAgg9
  z9 := Tryd.sizeOf9
  v9 := Tryd.zeroValue9
  t24 := Tryd.underlying87
  a24 := Tryd.isAgg87
  z24 := Tryd.sizeOf87
  v24 := Tryd.zeroValue87 }
open Go.RowKit in
/-- strings.CutPrefix: "CutPrefix returns s without the provided leading prefix string and reports whether it found the prefix. If s doesn't start with prefix, CutPrefix returns s, false. If prefix is the empty string, CutPrefix returns s, true.": IT RETURNS '(Lib.trimPrefix s p, Lib.hasPrefix s p)'; the world is as it was. (LAID: no walk: one application.) -/
theorem Tryd.strings_CutPrefix (s p : ByteArray) (w : World) :
    Calls Tryd.prog 73 #[.string s, .string p] w fun e w' => e = .returned (.tuple #[.string ⟨(Lib.trimPrefix s.data.toList p.data.toList).toArray⟩, .bool (Lib.hasPrefix s.data.toList p.data.toList)]) ∧ w' = w := Any.strings_CutPrefix Tryd.lays103 s p w
def Tryd.lays104_ren : Go.Shelf.Ren := ⟨fun | 104 => 50 | 211 => 72 | 207 => 96 | n => n, fun | 9 => 9 | 4 => 4 | 24 => 87 | 3 => 3 | n => n, fun | n => n⟩
theorem Tryd.lays104 : Go.Proofs.Lays.n104 Tryd.prog Tryd.lays104_ren := {
  mixed := by kernel_rfl
  f104 := Tryd.func50.trans (congrArg some (by kernel_rfl))
  f207 := Tryd.func96.trans (congrArg some (by kernel_rfl))
  f211 := Tryd.func72.trans (congrArg some (by kernel_rfl))
  t3 := Tryd.underlying3
  a3 := Tryd.isAgg3
  z3 := Tryd.sizeOf3
  v3 := Tryd.zeroValue3
  t4 := Tryd.underlying4
  a4 := Tryd.isAgg4
  z4 := Tryd.sizeOf4
  v4 := Tryd.zeroValue4
  t9 := Tryd.underlying9
  a9 := Tryd.isAgg9
  z9 := Tryd.sizeOf9
  v9 := Tryd.zeroValue9
  t24 := Tryd.underlying87
  a24 := Tryd.isAgg87
  z24 := Tryd.sizeOf87
  v24 := Tryd.zeroValue87 }
open Go.RowKit in
/-- strings.CutSuffix: "CutSuffix returns s without the provided ending suffix string and reports whether it found the suffix. If s doesn't end with suffix, CutSuffix returns s, false. If suffix is the empty string, CutSuffix returns s, true.": IT RETURNS '(Lib.trimSuffix s p, Lib.hasSuffix s p)'; the world is as it was. (LAID: no walk: one application.) -/
theorem Tryd.strings_CutSuffix (s p : ByteArray) (w : World) (hs : s.size ≤ 9223372036854775807) :
    Calls Tryd.prog 50 #[.string s, .string p] w fun e w' => e = .returned (.tuple #[.string ⟨(Lib.trimSuffix s.data.toList p.data.toList).toArray⟩, .bool (Lib.hasSuffix s.data.toList p.data.toList)]) ∧ w' = w := Any.strings_CutSuffix Tryd.lays104 s p w hs
def Tryd.lays283_ren : Go.Shelf.Ren := ⟨fun | 283 => 87 | n => n, fun | 3 => 3 | 9 => 9 | 4 => 4 | n => n, fun | n => n⟩
theorem Tryd.lays283 : Go.Proofs.Lays.n283 Tryd.prog Tryd.lays283_ren := {
  mixed := by kernel_rfl
  f283 := Tryd.func87.trans (congrArg some (by kernel_rfl))
  t3 := Tryd.underlying3
  a3 := Tryd.isAgg3
  z3 := Tryd.sizeOf3
  v3 := Tryd.zeroValue3
  t4 := Tryd.underlying4
  a4 := Tryd.isAgg4
  z4 := Tryd.sizeOf4
  v4 := Tryd.zeroValue4
  t9 := Tryd.underlying9
  a9 := Tryd.isAgg9
  z9 := Tryd.sizeOf9
  v9 := Tryd.zeroValue9 }
open Go.Lib in
/-- internal/strconv.small: "small returns the string for an i with 0 <= i < nSmalls.": i's decimal numeral. The world is as it was. (LAID: no walk: one application.) -/
theorem Tryd.internal_strconv_small (i : Nat) (h : i < 100) (w : World) :
    Calls Tryd.prog 87 #[.int .i64 i] w fun e w' => e = .returned (.string ⟨(Lib.decDigits i).toArray⟩) ∧ w' = w := Any.internal_strconv_small Tryd.lays283 i h w
def Tryd.laysM284_ren : Go.Shelf.Ren := ⟨fun | 284 => 88 | 129 => 100 | 317 => 99 | 318 => 101 | n => n, fun | 53 => 22 | 3 => 3 | 212 => 142 | 0 => 0 | 4 => 4 | 46 => 131 | 5 => 5 | 9 => 9 | n => n, fun | 17 => 0 | n => n⟩
theorem Tryd.laysM284 : Go.Proofs.LaysM.n284 Tryd.prog Tryd.laysM284_ren := {
  mixed := by kernel_rfl
  f129 := Tryd.func100.trans (congrArg some (by kernel_rfl))
  f284 := Tryd.func88.trans (congrArg some (by kernel_rfl))
  f317 := Tryd.func99.trans (congrArg some (by kernel_rfl))
  f318 := Tryd.func101.trans (congrArg some (by kernel_rfl))
  t0 := Tryd.underlying0
  a0 := Tryd.isAgg0
  z0 := Tryd.sizeOf0
  v0 := Tryd.zeroValue0
  t3 := Tryd.underlying3
  a3 := Tryd.isAgg3
  z3 := Tryd.sizeOf3
  v3 := Tryd.zeroValue3
  t4 := Tryd.underlying4
  a4 := Tryd.isAgg4
  z4 := Tryd.sizeOf4
  v4 := Tryd.zeroValue4
  t5 := Tryd.underlying5
  a5 := Tryd.isAgg5
  z5 := Tryd.sizeOf5
  v5 := Tryd.zeroValue5
  t9 := Tryd.underlying9
  a9 := Tryd.isAgg9
  z9 := Tryd.sizeOf9
  v9 := Tryd.zeroValue9
  t46 := Tryd.underlying131
  a46 := Tryd.isAgg131
  z46 := Tryd.sizeOf131
  v46 := Tryd.zeroValue131
  t53 := Tryd.underlying22
  a53 := Tryd.isAgg22
  z53 := Tryd.sizeOf22
  v53 := Tryd.zeroValue22
  t212 := Tryd.underlying142
  a212 := Tryd.isAgg142
  z212 := Tryd.sizeOf142
  v212 := Tryd.zeroValue142
  g17 := by kernel_rfl
  i0 := by kernel_rfl
  i3 := by kernel_rfl
  i4 := by kernel_rfl
  i5 := by kernel_rfl
  i9 := by kernel_rfl
  i46 := by kernel_rfl
  i53 := by kernel_rfl
  i212 := by kernel_rfl
  m17 := by kernel_rfl }
open Go.Lib in
/-- internal/strconv.numDigits, at a d that is not 0: THE NUMBER OF d's DECIMAL DIGITS. The world is as it was. (LAID: no walk: one application.) -/
theorem Tryd.internal_strconv_numDigits (u : Nat) (h1 : 1 ≤ u) (h2 : u < 18446744073709551616) (w : World) (htab : Lib.TabIs Tryd.prog w "internal/strconv.uint64pow10" .u64 Lib.pow10Tab) :
    Calls Tryd.prog 88 #[.int .u64 u] w fun e w' => e = .returned (.int .i64 (Lib.nDigits u)) ∧ w' = w := Any.internal_strconv_numDigits Tryd.laysM284 u h1 h2 w htab
def Tryd.lays285_ren : Go.Shelf.Ren := ⟨fun | 285 => 89 | n => n, fun | 37 => 39 | 53 => 22 | 3 => 3 | 4 => 4 | 51 => 143 | 9 => 9 | 5 => 5 | 0 => 0 | n => n, fun | n => n⟩
theorem Tryd.lays285 : Go.Proofs.Lays.n285 Tryd.prog Tryd.lays285_ren := {
  mixed := by kernel_rfl
  f285 := Tryd.func89.trans (congrArg some (by kernel_rfl))
  t0 := Tryd.underlying0
  a0 := Tryd.isAgg0
  z0 := Tryd.sizeOf0
  v0 := Tryd.zeroValue0
  t3 := Tryd.underlying3
  a3 := Tryd.isAgg3
  z3 := Tryd.sizeOf3
  v3 := Tryd.zeroValue3
  t4 := Tryd.underlying4
  a4 := Tryd.isAgg4
  z4 := Tryd.sizeOf4
  v4 := Tryd.zeroValue4
  t5 := Tryd.underlying5
  a5 := Tryd.isAgg5
  z5 := Tryd.sizeOf5
  v5 := Tryd.zeroValue5
  t9 := Tryd.underlying9
  a9 := Tryd.isAgg9
  z9 := Tryd.sizeOf9
  v9 := Tryd.zeroValue9
  t37 := Tryd.underlying39
  a37 := Tryd.isAgg39
  z37 := Tryd.sizeOf39
  v37 := Tryd.zeroValue39
  t51 := Tryd.underlying143
  a51 := Tryd.isAgg143
  z51 := Tryd.sizeOf143
  v51 := Tryd.zeroValue143
  t53 := Tryd.underlying22
  a53 := Tryd.isAgg22
  z53 := Tryd.sizeOf22
  v53 := Tryd.zeroValue22 }
open Go.RowKit Go.Sort Go.Lib in
/-- internal/strconv.formatBase10: "formatBase10 formats the decimal representation of u into a. The caller is responsible for ensuring that a is big enough to hold u. If a is too big, leading zeros will be filled in as needed.": THE ROW HOLDS u's DIGITS ('FmtInv .. 0 ..': every place t holds 'dg u (len - 1 - t)'); all else is as it was but for the count of draws. (LAID: no walk: one application.) -/
theorem Tryd.internal_strconv_formatBase10 (blk off cap : Nat) (u : Nat) (d : Array UInt8) (w : World) (hH : Holds (fun (b : UInt8) => Value.int .u8 (b.toNat : Int)) w blk off d) (hu : u < 10 ^ d.size) (hu64 : u < 18446744073709551616) (hsz : d.size < 4611686018427387904) :
    Calls Tryd.prog 89 #[.slice (some ⟨blk, off, none⟩) d.size cap, .int .u64 u] w fun e w' =>
      e = .returned (.tuple #[]) ∧ ∃ (n v' : Nat) (dk : Array UInt8), w' = (putRow (fun (b : UInt8) => Value.int .u8 (b.toNat : Int)) w blk off dk).drewN n ∧ FmtInv d.size u 0 v' dk := Any.internal_strconv_formatBase10 Tryd.lays285 blk off cap u d w hH hu hu64 hsz
def Tryd.lays143_ren : Go.Shelf.Ren := ⟨fun | 143 => 95 | 219 => 105 | 217 => 109 | 225 => 110 | 224 => 111 | 267 => 112 | 266 => 113 | 314 => 114 | n => n, fun | 9 => 9 | 3 => 3 | 4 => 4 | 5 => 5 | 46 => 131 | 146 => 155 | 51 => 143 | n => n, fun | 1 => 3 | n => n⟩
theorem Tryd.lays143 : Go.Proofs.Lays.n143 Tryd.prog Tryd.lays143_ren := {
  mixed := by kernel_rfl
  f143 := Tryd.func95.trans (congrArg some (by kernel_rfl))
  f217 := Tryd.func109.trans (congrArg some (by kernel_rfl))
  f219 := Tryd.func105.trans (congrArg some (by kernel_rfl))
  f224 := Tryd.func111.trans (congrArg some (by kernel_rfl))
  f225 := Tryd.func110.trans (congrArg some (by kernel_rfl))
  f266 := Tryd.func113.trans (congrArg some (by kernel_rfl))
  f267 := Tryd.func112.trans (congrArg some (by kernel_rfl))
  f314 := Tryd.func114.trans (congrArg some (by kernel_rfl))
  t3 := Tryd.underlying3
  a3 := Tryd.isAgg3
  z3 := Tryd.sizeOf3
  v3 := Tryd.zeroValue3
  t4 := Tryd.underlying4
  a4 := Tryd.isAgg4
  z4 := Tryd.sizeOf4
  v4 := Tryd.zeroValue4
  t5 := Tryd.underlying5
  a5 := Tryd.isAgg5
  z5 := Tryd.sizeOf5
  v5 := Tryd.zeroValue5
  t9 := Tryd.underlying9
  a9 := Tryd.isAgg9
  z9 := Tryd.sizeOf9
  v9 := Tryd.zeroValue9
  t46 := Tryd.underlying131
  a46 := Tryd.isAgg131
  z46 := Tryd.sizeOf131
  v46 := Tryd.zeroValue131
  t51 := Tryd.underlying143
  a51 := Tryd.isAgg143
  z51 := Tryd.sizeOf143
  v51 := Tryd.zeroValue143
  t146 := Tryd.underlying155
  a146 := Tryd.isAgg155
  z146 := Tryd.sizeOf155
  v146 := Tryd.zeroValue155
  g1 := by kernel_rfl }
open Go.RowKit Go.Lib in
/-- strings.Index: "Index returns the index of the first instance of substr in s, or -1 if substr is not present in s.": AT A substr OF ONE BYTE c: IT RETURNS 'Lib.indexByte s c'; the world is as it was. (LAID: no walk: one application.) -/
theorem Tryd.strings_Index_one (s : ByteArray) (c : UInt8) (w : World) :
    Calls Tryd.prog 95 #[.string s, .string ⟨#[c]⟩] w fun e w' => e = .returned (.int .i64 (Lib.indexByte s.data.toList c)) ∧ w' = w := Any.strings_Index_one Tryd.lays143 s c w
end Go.Proofs
namespace Go.Own
set_option maxRecDepth 100000
set_option maxHeartbeats 4000000
open Go Go.RowKit Go.Shelf
section
variable {P : Program} {o : Oper} {ρ : Operand → Value} {w : World}
theorem exec_extern (f : FuncId) (x : Operand) (ts : Array TypeId) (ho : o.op = .call { callee := .value (.func f), args := #[x], argTypes := ts }) (v r : Value) (hx : ρ x = v) (hf : ρ (.func f) = .func (.func f) #[] #[]) (hr : (callFunc f #[v]).run P w = .ok (.value r) w) : (execOp ρ o).run P w = .ok (.value r) w := by
  unfold execOp
  simp only [ho, resolve, List.map_toArray, List.map_cons, List.map_nil, hx, hf, Sem.run_bind, Deferred.ofValue, Sem.run_pure, Result.andThen_ok, invoke, Array.append_empty, Array.empty_append, hr]
theorem exec_slice_arrh (t : TypeId) (x y : Operand) (ho : o.op = .slice t x none (some y) none) (b of : Nat) (hx : ρ x = .pointer (some ⟨b, of, none⟩)) (kd : IntKind) (k : Nat) (hy : ρ y = .int kd (k : Int)) (n : Nat) (e : TypeId) (hu : P.underlying t = some (.array n e))
    (hs : (P.info? e).map (·.size) = some 1) (hk : k ≤ n) (hk0 : 0 < n) : (execOp ρ o).run P w = .ok (.value (.slice (some ⟨b, of, none⟩) k n)) w := by
  obtain ⟨i, hi, h1⟩ := Option.map_eq_some_iff.1 hs
  have h2 : (0 : Int) ≤ (k : Int) ∧ (k : Int) ≤ (n : Int) := by omega
  unfold execOp
  simp only [ho, hx, hy, Option.map_some, Option.map_none, Instr.sliceAt, Sem.run_bind, run_underlying hu, Instr.sureAddr, Instr.sliceBounds, Instr.sliceBound, asIntOf, Sem.run_pure, Result.andThen_ok, if_pos h2]
  rw [show (sizeOf e).run P w = .ok 1 w by simp [go_sem, sizeOf, typeInfo, hi, h1]]
  simp only [Result.andThen_ok, Int.toNat_natCast, Nat.mul_one]
  rw [if_neg (by omega)]
  simp [Addr.add_lit]
end
theorem keeps_putRow {α : Type} [Inhabited α] (enc : α → Value) (w : World) (blk off : Nat) (d : Array α) : Keeps (One blk) w (Sort.putRow enc w blk off d) := by
  refine ⟨rfl, rfl, rfl, by simp [Sort.putRow, Sort.mapBlock], fun k hk hm => ?_⟩
  simp only [Sort.putRow, Sort.mapBlock]
  rw [Array.getElem?_modify, if_neg (fun e => hm e.symm)]
end Go.Own
namespace Go.Proofs.YtpflmldmbpnllaaDoor
set_option maxRecDepth 100000
set_option maxHeartbeats 4000000
open Go Go.RowKit Go.Own Go.Shelf
theorem strCells_B (s : ByteArray) : Lib.strCells s = B s.data.toList := rfl
theorem bd_info0 : (Tryd.prog.info? 74).map (·.size) = some 2 := by kernel_rfl
theorem bd_lies : liesAt Tryd.prog Tryd.prog.depth 74 (2 / Tryd.prog.cellsOf 74) 0 74 1 = true := by kernel_rfl
theorem bd_shape {w : World} {b : Nat} {a v : Value} (h : w.heap[b]? = some (.cells #[a, v] 74 (0, 0))) : w.shape? b = some (74, 2) := by simp [World.shape?, h]
theorem noEsc_run (v : Value) (w : World) : (callFunc 86 #[v]).run Tryd.prog w = .ok (.value v) w := by
  rw [run_callFunc_extern Tryd.func86 (by kernel_rfl) (by kernel_rfl) (by kernel_rfl) (e := Extern.AbiNoEscape.same) (by kernel_rfl), Lib.run_noEscape]; rfl
theorem u8_info0d : (Tryd.prog.info? 5).map (fun i => (i.zero, i.size, i.bytes)) = some (some (.int .u8 0), 1, 1) := by kernel_rfl
abbrev z24 : Array Value := #[.int .u8 0, .int .u8 0, .int .u8 0, .int .u8 0, .int .u8 0, .int .u8 0, .int .u8 0, .int .u8 0, .int .u8 0, .int .u8 0, .int .u8 0, .int .u8 0, .int .u8 0, .int .u8 0, .int .u8 0, .int .u8 0, .int .u8 0, .int .u8 0, .int .u8 0, .int .u8 0, .int .u8 0, .int .u8 0, .int .u8 0, .int .u8 0]
theorem holds_24 {w : World} {g nd : Nat} (h : w.heap[g]? = some (.cells z24 124 (0, 0))) (hn : nd ≤ 24) : Sort.Holds (fun (b : UInt8) => Value.int .u8 (b.toNat : Int)) w g 0 (Array.replicate nd 0) := by
  intro j hj
  rw [Array.size_replicate] at hj
  have hj24 : j < 24 := by omega
  refine ⟨?_, frozen_of_row _ _ _ _ _ h⟩
  rw [Nat.zero_add]
  have e : (Array.replicate nd (0 : UInt8))[j]! = 0 := by rw [getElem!_pos _ j (by simpa using hj)]; simp
  rw [e]
  refine (cell_of_row _ _ _ _ _ _ h).trans ?_
  have hz : z24 = Array.replicate 24 (Value.int .u8 0) := rfl
  rw [hz, Array.getElem?_replicate, if_pos hj24]; rfl
/-- The digits are written into a row of noughts. -/
theorem isFB_ok (g u : Nat) (w : World) (h : w.heap[g]? = some (.cells z24 124 (0, 0))) (h1 : 1 ≤ u) (h2 : u < 18446744073709551616) (hn : Lib.nDigits u ≤ 20) :
    Calls Tryd.prog 89 #[.slice (some ⟨g, 0, none⟩) (Lib.nDigits u) 24, .int .u64 ((u : Nat) : Int)] w fun e w' => e = .returned (.tuple #[]) ∧ (∀ j (hj : j < (Lib.decDigits u).length), w'.cell? ⟨g, 0 + j, none⟩ = some (.int .u8 ((Lib.decDigits u)[j].toNat : Int))) ∧ Keeps (One g) w w' := by
  have hH := holds_24 (nd := Lib.nDigits u) h (by omega)
  have hc := Tryd.internal_strconv_formatBase10 g 0 24 u (Array.replicate (Lib.nDigits u) 0) w hH (by rw [Array.size_replicate]; exact Lib.lt_pow_nDigits u) h2 (by rw [Array.size_replicate]; omega)
  rw [Array.size_replicate] at hc
  refine hc.mono ?_
  rintro e w' ⟨rfl, n, v', dk, rfl, hF⟩
  refine ⟨rfl, fun j hj => ?_, ?_⟩
  · rw [Lib.row_is_numeral hF j hj, World.cell?_drewN]
    exact Sort.cell?_putRow (fun (b : UInt8) => Value.int .u8 (b.toNat : Int)) _ g 0 _ dk hH (by rw [hF.size, Array.size_replicate]) j (by rw [hF.size]; rw [Lib.decDigits_length] at hj; exact hj)
  · exact (keeps_putRow _ _ _ _ _).drewN n
theorem dig_conv {w : World} {g u : Nat} (h : ∀ j (hj : j < (Lib.decDigits u).length), w.cell? ⟨g, 0 + j, none⟩ = some (.int .u8 ((Lib.decDigits u)[j].toNat : Int))) : (convert 39 9 (.slice (some ⟨g, 0, none⟩) (Lib.nDigits u) 24)).run Tryd.prog w = .ok (.string ⟨(Lib.decDigits u).toArray⟩) w := by
  have := run_convert_bytes_back (P := Tryd.prog) w 39 9 5 ⟨g, 0, none⟩ 24 (Lib.decDigits u) Tryd.underlying39 Tryd.underlying5 Tryd.underlying9 (fun j hj => by rw [Lib.add_plain]; exact h j hj)
  rw [Lib.decDigits_length] at this
  exact this
abbrev PowTab (w : World) : Prop := Lib.TabIs Tryd.prog w "internal/strconv.uint64pow10" .u64 Lib.pow10Tab
theorem u64_i64 {n : Nat} (h : n < 100) (w : World) : (convert 22 3 (.int .u64 ((n : Nat) : Int))).run Tryd.prog w = .ok (.int .i64 ((n : Nat) : Int)) w := conv_u64 _ _ (by omega) (by omega)
noncomputable def qc32_4 (n : Nat) : Code := partOf Tryd.f67 n
theorem bdCC_fresh (b : Nat) (v : Value) (w : World) (hb : w.heap[b]? = some (.cells #[.pointer none, v] 74 (0, 0))) :
    Calls Tryd.prog 67 #[.pointer (some ⟨b, 0, none⟩)] w (fun e w' => e = .returned (.tuple #[]) ∧ w'.heap[b]? = some (.cells #[.pointer (some ⟨b, 0, none⟩), v] 74 (0, 0)) ∧ Keeps (One b) w w') := by
  obtain ⟨j, hj, hj2⟩ := Option.map_eq_some_iff.1 bd_info0
  have K0 : Keeps ((One b)) w w := Keeps.refl _ _
  refine sy_enter (qc32_4 1) ⟨#[pT b 0, ud, ud, ud, ud, ud, ud, ud, ud, ud, ud, ud, ud, ud, ud, ud, ud, ud, ud, ud], []⟩ Tryd.func67 (by kernel_rfl) (by kernel_rfl) <| qr_ [0, 1, 2, 3, 4] <| pkq (pT b 0) <| pkq (pT b 0) <| pkq (pT b 0) <| ppq (.pointer none) (ldk 72 b 0 hb) <| pkq (.bool true) <| ey_ <| r_ [0, 1, 2, 3, 4, 5, 6, 7] <| pkq (pT b 0) <| pkq (pT b 0) <| prq (pT b 0) (w' := w) (exec_convert 72 122 (.tmp 8) (by kernel_rfl) _ (by kernel_rfl) (Lib.run_to_unsafe _ ⟨b, 0, none⟩ Tryd.underlying72 Tryd.underlying122 hj (by rw [hj2]; decide) (bd_shape hb) (Nat.zero_lt_succ 1))) <| ppq (pT b 0) (exec_extern 86 (.tmp 9) #[122] (by kernel_rfl) (pT b 0) (pT b 0) (by kernel_rfl) (by kernel_rfl) (noEsc_run _ _)) <| prq (pT b 0) (w' := w) (exec_convert 122 72 (.tmp 10) (by kernel_rfl) _ (by kernel_rfl) (Lib.run_from_unsafe _ ⟨b, 0, none⟩ Tryd.underlying122 Tryd.underlying72 hj (bd_shape hb) bd_lies)) ?_
  refine pkq (pT b 0) <| pkq (pT b 0) <| pce 72 b 0 (pT b 0) (#[.pointer (some ⟨b, 0, none⟩), v]) hb (rc (hb) (by kernel_rfl)) (by kernel_rfl) (u := .pointer none) fun V1 h2 kV1 => ?_
  have K3 : Keeps ((One b)) w V1 := K0.then kV1 (fun i hi hm => by unfold Own.One at hm; subst hm; exact rfl)
  have z4 := kV1.size
  refine ps_end <| sy_fall (.tuple #[]) rfl (by kernel_rfl) ?_
  exact ⟨rfl, h2, K3⟩
theorem bdCC_used (b : Nat) (v : Value) (w : World) (hb : w.heap[b]? = some (.cells #[.pointer (some ⟨b, 0, none⟩), v] 74 (0, 0))) :
    Calls Tryd.prog 67 #[.pointer (some ⟨b, 0, none⟩)] w (fun e w' => e = .returned (.tuple #[]) ∧ w'.heap[b]? = some (.cells #[.pointer (some ⟨b, 0, none⟩), v] 74 (0, 0)) ∧ Keeps (One b) w w') := by
  obtain ⟨j, hj, hj2⟩ := Option.map_eq_some_iff.1 bd_info0
  have K0 : Keeps ((One b)) w w := Keeps.refl _ _
  refine sy_enter (qc32_4 1) ⟨#[pT b 0, ud, ud, ud, ud, ud, ud, ud, ud, ud, ud, ud, ud, ud, ud, ud, ud, ud, ud, ud], []⟩ Tryd.func67 (by kernel_rfl) (by kernel_rfl) <| qr_ [0, 1, 2, 3, 4] <| pkq (pT b 0) <| pkq (pT b 0) <| pkq (pT b 0) <| ppq (pT b 0) (ldk 72 b 0 hb) <| pkq (.bool false) <| en_ <| qr_ [0, 1, 2, 3, 4, 5] <| pkq (pT b 0) <| pkq (pT b 0) <| pkq (pT b 0) <| ppq (pT b 0) (ldk 72 b 0 hb) <| pkq (pT b 0) ?_
  refine ppq (.bool false) (exec_binop .neq 72 72 (.tmp 17) (.tmp 18) (by kernel_rfl) (pT b 0) (pT b 0) _ (by kernel_rfl) (by kernel_rfl) (by kernel_rfl) (Lib.run_neq_ptr_same _ ⟨b, 0, none⟩ Tryd.underlying72 hj)) <| en_ <| s_ <| sy_fall (.tuple #[]) rfl (by kernel_rfl) ?_
  exact ⟨rfl, hb, K0⟩
theorem bdCC_ok (b : Nat) (a v : Value) (w : World) (hb : w.heap[b]? = some (.cells #[a, v] 74 (0, 0))) (ha : a = .pointer none ∨ a = .pointer (some ⟨b, 0, none⟩)) : Calls Tryd.prog 67 #[.pointer (some ⟨b, 0, none⟩)] w (fun e w' => e = .returned (.tuple #[]) ∧ w'.heap[b]? = some (.cells #[.pointer (some ⟨b, 0, none⟩), v] 74 (0, 0)) ∧ Keeps (One b) w w') := by
  rcases ha with rfl | rfl
  · exact bdCC_fresh b v w hb
  · exact bdCC_used b v w hb
theorem exec_app2 {P : Program} {o : Oper} {ρ : Operand → Value} {w : World} (s x : Operand) (t tn : TypeId) (ho : o.op = .call { callee := .builtin .append, args := #[s, x], argTypes := #[t, tn] }) (vs vx : Value) (hs : ρ s = vs) (hx : ρ x = vx) {v' : Value} {w' : World}
    (hr : (Builtin.append_ #[t, tn] o.type #[vs, vx]).run P w = .ok v' w') : (execOp ρ o).run P w = .ok (.value v') w' := by
  unfold execOp
  simp only [ho, resolve, invoke, builtin, Sem.run_bind, Sem.run_pure, Result.andThen_ok, List.map_toArray, List.map_cons, List.map_nil, hs, hx, hr]
/-- Where the new row lies: in the old one's block, or above. -/
theorem app_at {w w' : World} {t u ty e : TypeId} {i : TypeInfo} {v v' : Value} {n : Nat} {xs : List Value} {s : ByteArray} (hown : Row w e 1 v n xs) (hr : (Builtin.append_ #[t, u] ty #[v, .string s]).run Tryd.prog w = .ok v' w') (ht : Tryd.prog.underlying t = some (.slice e)) (hu : Tryd.prog.underlying u = some .string) (hi : Tryd.prog.info? e = some i) (hz : i.zero = some (.int .u8 0)) (hsize : i.size = 1) (hby : i.bytes = 1) (h63 : n + s.size ≤ maxLen) (hbytes : n + s.size ≤ 140737488355328) :
    ∀ j, v'.ownBlock = some j → v.ownBlock = some j ∨ w.heap.size ≤ j := by
  intro j hj
  by_cases hv : v.ownBlock = some j
  · exact .inl hv
  · refine .inr (Nat.le_of_not_lt fun hlt => ?_)
    -- the row taken from its own block's number, or from the world's size
    rcases hown.2 with ⟨rfl, h0⟩ | ⟨g, cap, cur, rfl, hb, hg, h1, h2, h3, h4⟩
    · obtain ⟨v2, w2, hr2, ho2, _, _⟩ := Lib.run_append_own_string (P := Tryd.prog) (w := w) w.heap.size t u ty e i ht hu hi hz hsize hby (.slice none 0 0) n xs ⟨hown.1, .inl ⟨rfl, h0⟩⟩ s h63 hbytes (Nat.le_refl _)
      rw [hr] at hr2
      simp only [Result.ok.injEq] at hr2
      obtain ⟨rfl, rfl⟩ := hr2
      rcases ho2.2 with ⟨rfl, _⟩ | ⟨g2, _, _, rfl, hb2, _⟩
      · cases hj
      · have e : g2 = j := Option.some.inj hj
        omega
    · by_cases hroom : n + s.size ≤ cap
      · have hr2 := Lib.run_append_room_string (P := Tryd.prog) w t u ty e i ht hu hi hsize g n cap cur hg s hroom (by omega)
        rw [hr] at hr2
        simp only [Result.ok.injEq] at hr2
        obtain ⟨rfl, _⟩ := hr2
        exact hv hj
      · have hr2 := Lib.run_append_grow_string (P := Tryd.prog) w t u ty e i (.int .u8 0) ht hu hi hz ⟨g, 0, none⟩ n cap xs (by rw [hsize]; simpa using hown.1) (fun j u hj => World.ownsRow.cells hown (g := g) rfl j u hj) s (by omega) (by unfold maxLen at h63; omega) (by rw [hby]; exact growslice_fits (by omega) (by omega))
        rw [hr] at hr2
        simp only [Result.ok.injEq] at hr2
        obtain ⟨rfl, _⟩ := hr2
        have e : w.heap.size = j := Option.some.inj hj
        omega
noncomputable def qc32_3 (n : Nat) : Code := partOf Tryd.f42 n
noncomputable abbrev qo32_3 (n k : Nat) : Oper := (opsAt (qc32_3 n)).getD k default
theorem bdWS_ok (b B1 : Nat) (a v : Value) (l : List UInt8) (s : ByteArray) (w : World) (hb : w.heap[b]? = some (.cells #[a, v] 74 (0, 0))) (ha : a = .pointer none ∨ a = .pointer (some ⟨b, 0, none⟩)) (hrow : Row w 5 1 v l.length (B l)) (hnew : NewFrom B1 v) (hB1 : B1 ≤ w.heap.size) (hlen : l.length + s.size ≤ 100000) :
    Calls Tryd.prog 42 #[.pointer (some ⟨b, 0, none⟩), .string s] w (fun e w' => ∃ v', e = .returned (.tuple #[.int .i64 (s.size : Int), .nilIface]) ∧ w'.heap[b]? = some (.cells #[.pointer (some ⟨b, 0, none⟩), v'] 74 (0, 0)) ∧ Row w' 5 1 v' (l.length + s.size) (B l ++ Lib.strCells s) ∧ NewFrom B1 v' ∧ Keeps (fun j => j = b ∨ B1 ≤ j) w w') := by
  obtain ⟨i0, hi0, hz0, hz1, hz2⟩ := info_parts u8_info0d
  have K0 : Keeps ((fun j => j = b ∨ B1 ≤ j)) w w := Keeps.refl _ _
  refine sy_enter (qc32_3 1) ⟨#[pT b 0, .string s, ud, ud, ud, ud, ud, ud, ud, ud, ud, ud, ud, ud, ud, ud, ud, ud, ud], []⟩ Tryd.func42 (by kernel_rfl) (by kernel_rfl) <| qr_ [0, 1] <| pkq (.int .i64 0) <| pkq (.nilIface) <| eqr_ [0, 1] <| pkq (pT b 0) ?_
  refine pcq 67 #[pT b 0] Tryd.func67 ((bdCC_ok b a v _ hb ha).mono ?_)
  rintro e V1 ⟨rfl, h2, kV1⟩
  refine ⟨_, rfl, ?_⟩
  have h3 : Row V1 5 1 v l.length (B l) := hrow.keeps kV1 (fun j hj e => Row.ne hrow hb (by decide) ((show j = b from e) ▸ hj))
  have K4 : Keeps ((fun j => j = b ∨ B1 ≤ j)) w V1 := K0.then kV1 (fun i hi hm => by unfold Own.One at hm; subst hm; exact (.inl rfl))
  have z5 := kV1.size
  refine eqr_ [0, 1, 2, 3, 4, 5, 6, 7, 8, 9] <| pkq (pT b 0) <| pkq (pT b 0) <| pkq (pT b 0) <| pkq (pT b 1) <| ppq (v) (ldk 39 b 1 h2) <| pkq (.string s) ?_
  obtain ⟨v6, V7, hr8, h9, hg10, hn11⟩ := Lib.run_append_own_string (P := Tryd.prog) (w := V1) 0 39 9 (Oper.type (qo32_3 14 6)) 5 i0 Tryd.underlying39 Tryd.underlying9 hi0 hz0 hz1 hz2 v l.length (B l) h3 s (by unfold maxLen; omega) (by omega) (Nat.zero_le _)
  have kV7 : Keeps (fun j => v.ownBlock = some j) V1 V7 := Keeps.rowAdd hg10
  have ha12 : ∀ j, v6.ownBlock = some j → v.ownBlock = some j ∨ V1.heap.size ≤ j := app_at h3 hr8 Tryd.underlying39 Tryd.underlying9 hi0 hz0 hz1 hz2 (by unfold maxLen; omega) (by omega)
  refine prq v6 (w' := V7) (exec_app2 (.tmp 12) (.tmp 13) 39 9 (by kernel_rfl) v (.string s) (by kernel_rfl) (by kernel_rfl) hr8) ?_
  have hw13 : NewFrom B1 v6 := fun j hj => (ha12 j hj).elim (hnew j) (fun h => Nat.le_trans hB1 (Nat.le_trans K4.size h))
  have h14 : Row V7 5 1 v6 (l.length + s.size) (B l ++ Lib.strCells s) := h9
  have h15 : V7.heap[b]? = some (.cells (#[.pointer (some ⟨b, 0, none⟩), v]) 74 (0, 0)) := (kV7.block b (lt_of_block h2) (fun e => Row.ne h3 h2 (by decide) e)).trans h2
  have K16 : Keeps ((fun j => j = b ∨ B1 ≤ j)) w V7 := K4.then kV7 (fun i hi hm => .inr (hnew i hm))
  have z17 := kV7.size
  refine pkq (pT b 0) <| pkq (pT b 1) ?_
  obtain ⟨V18, eV18, kV18⟩ := cell_step V7 b 1 v6
  have h19 : V18.heap[b]? = some (.cells (#[.pointer (some ⟨b, 0, none⟩), v6]) 74 (0, 0)) := eV18 ▸ ((heap_setCell_same _ b 1 _ _ v6 h15).trans (congrArg (fun c => some (Obj.cells c 74 (0, 0))) (show (#[.pointer (some ⟨b, 0, none⟩), v] : Array Value).setIfInBounds 1 v6 = #[.pointer (some ⟨b, 0, none⟩), v6] from by kernel_rfl)))
  refine pzq (w' := V18) (by rw [← eV18]; exact exec_store_cell 39 (.tmp 16) (.tmp 14) (by kernel_rfl) b 1 (by kernel_rfl) v6 (by kernel_rfl) (by kernel_rfl) (Row.cells1 h14) v (rc (h15) (by kernel_rfl)) (frozen_of_row _ _ _ _ _ h15) (Row.one h14)) ?_
  clear eV18
  have h20 : Row V18 5 1 v6 (l.length + s.size) (B l ++ Lib.strCells s) := h14.keeps kV18 (fun j hj e => Row.ne h14 h15 (by decide) ((show j = b from e) ▸ hj))
  have K21 : Keeps ((fun j => j = b ∨ B1 ≤ j)) w V18 := K16.then kV18 (fun i hi hm => by unfold Own.One at hm; subst hm; exact (.inl rfl))
  have z22 := kV18.size
  refine eqr_ [0, 1, 2, 3] <| pkq (.string s) <| ppq (.int .i64 (s.size : Int)) (exec_len_str (.tmp 17) 9 (by kernel_rfl) Tryd.underlying9 s (by kernel_rfl)) <| pkq (.int .i64 (s.size : Int)) <| pkq (.nilIface) <| eu_ <| so_ (.tuple #[.int .i64 (s.size : Int), .nilIface]) ?_
  exact ⟨v6, rfl, h19, h20, hw13, K21⟩
noncomputable def qc32_2 (n : Nat) : Code := partOf Tryd.f43 n
noncomputable abbrev qo32_2 (n k : Nat) : Oper := (opsAt (qc32_2 n)).getD k default
theorem bdWB_ok (b B1 : Nat) (a v : Value) (l : List UInt8) (c : UInt8) (w : World) (hb : w.heap[b]? = some (.cells #[a, v] 74 (0, 0))) (ha : a = .pointer none ∨ a = .pointer (some ⟨b, 0, none⟩)) (hrow : Row w 5 1 v l.length (B l)) (hnew : NewFrom B1 v) (hB1 : B1 ≤ w.heap.size) (hlen : l.length + 1 ≤ 100000) :
    Calls Tryd.prog 43 #[.pointer (some ⟨b, 0, none⟩), .int .u8 ((c.toNat : Nat) : Int)] w (fun e w' => ∃ v', e = .returned (.nilIface) ∧ w'.heap[b]? = some (.cells #[.pointer (some ⟨b, 0, none⟩), v'] 74 (0, 0)) ∧ Row w' 5 1 v' (l.length + 1) (B l ++ B [c]) ∧ NewFrom B1 v' ∧ Keeps (fun j => j = b ∨ B1 ≤ j) w w') := by
  obtain ⟨i0, hi0, hz0, hz1, hz2⟩ := info_parts u8_info0d
  have K0 : Keeps ((fun j => j = b ∨ B1 ≤ j)) w w := Keeps.refl _ _
  refine sy_enter (qc32_2 1) ⟨#[pT b 0, cN c.toNat, ud, ud, ud, ud, ud, ud, ud, ud, ud, ud, ud, ud, ud, ud, ud], []⟩ Tryd.func43 (by kernel_rfl) (by kernel_rfl) <| qr_ [0] <| pkq (.nilIface) <| eqr_ [0, 1] <| pkq (pT b 0) ?_
  refine pcq 67 #[pT b 0] Tryd.func67 ((bdCC_ok b a v _ hb ha).mono ?_)
  rintro e V1 ⟨rfl, h2, kV1⟩
  refine ⟨_, rfl, ?_⟩
  have h3 : Row V1 5 1 v l.length (B l) := hrow.keeps kV1 (fun j hj e => Row.ne hrow hb (by decide) ((show j = b from e) ▸ hj))
  have K4 : Keeps ((fun j => j = b ∨ B1 ≤ j)) w V1 := K0.then kV1 (fun i hi hm => by unfold Own.One at hm; subst hm; exact (.inl rfl))
  have z5 := kV1.size
  refine eqr_ [0, 1, 2, 3, 4, 5, 6, 7, 8, 9, 10] <| pkq (pT b 0) <| pkq (pT b 0) <| pkq (pT b 0) <| pkq (pT b 1) <| ppq (v) (ldk 39 b 1 h2) <| pkq (cN c.toNat) ?_
  obtain ⟨V6, eV6, gl, egl, h7, kV6⟩ := alloc_step V1 (#[.int .u8 ((c.toNat : Nat) : Int)]) 5
  have n8 : b < gl := egl ▸ lt_of_block h2
  have n9 : w.heap.size ≤ gl := egl ▸ K4.size
  refine prq (.slice (some ⟨gl, 0, none⟩) 1 1) (w' := V6) (by rw [← eV6, ← egl]; kernel_rfl) ?_
  have h10 : Row V6 5 1 v l.length (B l) := h3.keeps kV6 (fun _ _ x => x)
  have h11 := kV6.bk h2
  have K12 := K4.nn kV6
  have z13 := kV6.size
  obtain ⟨v14, V15, hr16, h17, hg18, hn19, ha20⟩ := run_append_any (P := Tryd.prog) (w := V6) 39 (Oper.type (qo32_2 14 7)) 5 i0 (.int .u8 0) 1 1 Tryd.underlying39 hi0 hz0 hz1 hz2 rfl (by decide) v l.length (B l) h10 (.slice (some ⟨gl, 0, none⟩) 1 1) 1 (B [c]) (src_block h7 1 1 rfl (by rfl)) (by unfold maxLen; omega) (by omega)
  have kV15 : Keeps (fun j => v.ownBlock = some j) V6 V15 := Keeps.rowAdd hg18
  have hw21 : NewFrom B1 v14 := hnew.next (Nat.le_trans hB1 K12.size) ha20
  refine prq v14 (w' := V15) (exec_append (.tmp 11) (.tmp 13) 39 (by kernel_rfl) v (.slice (some ⟨gl, 0, none⟩) 1 1) (by kernel_rfl) (by kernel_rfl) hr16) ?_
  have h22 : Row V15 5 1 v14 (l.length + 1) (B l ++ B [c]) := h17
  have h23 : V15.heap[b]? = some (.cells (#[.pointer (some ⟨b, 0, none⟩), v]) 74 (0, 0)) := (kV15.block b (lt_of_block h11) (fun e => Row.ne h10 h11 (by decide) e)).trans h11
  have K24 : Keeps ((fun j => j = b ∨ B1 ≤ j)) w V15 := K12.then kV15 (fun i hi hm => .inr (hnew i hm))
  have z25 := kV15.size
  refine pkq (pT b 0) <| pkq (pT b 1) ?_
  obtain ⟨V26, eV26, kV26⟩ := cell_step V15 b 1 v14
  have h27 : V26.heap[b]? = some (.cells (#[.pointer (some ⟨b, 0, none⟩), v14]) 74 (0, 0)) := eV26 ▸ ((heap_setCell_same _ b 1 _ _ v14 h23).trans (congrArg (fun c => some (Obj.cells c 74 (0, 0))) (show (#[.pointer (some ⟨b, 0, none⟩), v] : Array Value).setIfInBounds 1 v14 = #[.pointer (some ⟨b, 0, none⟩), v14] from by kernel_rfl)))
  refine pzq (w' := V26) (by rw [← eV26]; exact exec_store_cell 39 (.tmp 16) (.tmp 14) (by kernel_rfl) b 1 (by kernel_rfl) v14 (by kernel_rfl) (by kernel_rfl) (Row.cells1 h22) v (rc (h23) (by kernel_rfl)) (frozen_of_row _ _ _ _ _ h23) (Row.one h22)) ?_
  clear eV26
  have h28 : Row V26 5 1 v14 (l.length + 1) (B l ++ B [c]) := h22.keeps kV26 (fun j hj e => Row.ne h22 h23 (by decide) ((show j = b from e) ▸ hj))
  have K29 : Keeps ((fun j => j = b ∨ B1 ≤ j)) w V26 := K24.then kV26 (fun i hi hm => by unfold Own.One at hm; subst hm; exact (.inl rfl))
  have z30 := kV26.size
  refine eqr_ [0] <| pkq (.nilIface) <| eu_ <| so_ (.nilIface) ?_
  exact ⟨v14, rfl, h27, h28, hw21, K29⟩
theorem isSmall_ok (n : Nat) (h : n < 100) (w : World) : Calls Tryd.prog 87 #[.int .i64 ((n : Nat) : Int)] w fun e w' => e = .returned (.string ⟨(Lib.decDigits n).toArray⟩) ∧ w = w' := (Tryd.internal_strconv_small n h w).mono fun e w' h => ⟨h.1, h.2.symm⟩
theorem isND_ok (n : Nat) (h1 : 1 ≤ n) (h2 : n < 18446744073709551616) (w : World) (ht : Lib.TabIs Tryd.prog w "internal/strconv.uint64pow10" .u64 Lib.pow10Tab) : Calls Tryd.prog 88 #[.int .u64 ((n : Nat) : Int)] w fun e w' => e = .returned (.int .i64 ((Lib.nDigits n : Nat) : Int)) ∧ w = w' := (Tryd.internal_strconv_numDigits n h1 h2 w ht).mono fun e w' h => ⟨h.1, h.2.symm⟩
theorem PowTab.keeps {w w' : World} (h : PowTab w) (k : Keeps Nob w w') : PowTab w' := by
  unfold PowTab Lib.TabIs World.var? at *
  cases hg : Tryd.prog.globalNamed "internal/strconv.uint64pow10" with
  | none => simp [hg] at h
  | some g =>
    simp only [hg, Option.bind_some] at h ⊢
    have hlt : g < w.heap.size := by
      rcases Nat.lt_or_ge g w.heap.size with h' | h'
      · exact h'
      · rw [Array.getElem?_eq_none h'] at h; simp at h
    rw [k.block g hlt (fun x => x)]
    exact h
noncomputable def qc32_0 (n : Nat) : Code := partOf Tryd.f68 n
theorem ifmtU_ok (n : Nat) (w : World) (hn : n < 18446744073709551616) (htab : PowTab w) :
    Calls Tryd.prog 68 #[.int .u64 ((n : Nat) : Int), .int .i64 10] w (fun e w' => e = .returned (.string ⟨(Lib.decDigits n).toArray⟩) ∧ Keeps Nob w w') := by
  have K0 : Keeps Nob w w := Keeps.refl _ _
  refine sy_enter (qc32_0 1) ⟨#[uN n, .int .i64 10, ud, ud, ud, ud, ud, ud, ud, ud, ud, ud, ud, ud, ud, ud, ud, ud, ud, ud, ud, ud, ud, ud, ud, ud, ud, ud, ud, ud, ud, ud], []⟩ Tryd.func68 (by kernel_rfl) (by kernel_rfl) <| qr_ [0] <| pkq (.string { data := #[] }) <| eq_ <| qr_ [0, 1] <| pkq (.int .i64 10) <| pkq (.bool true) <| ey_ <| q_ <| qr_ [0, 1] <| pkq (uN n) ?_
  by_cases c0 : n < 100
  · refine ppq (.bool true) (exec_cast (congrArg Value.bool (show decide (((n : Nat) : Int) < (100 : Int)) = true from decide_eq_true (by omega))) (by kernel_rfl)) <| ey_ <| qr_ [0, 1, 2, 3] <| pkq (uN n) <| prq (iN n) (w' := w) (exec_convert 22 3 (.tmp 13) (by kernel_rfl) _ (by kernel_rfl) (u64_i64 c0 _)) ?_
    refine pcq 87 #[iN n] Tryd.func87 ((isSmall_ok n c0 _).mono ?_)
    rintro e w1 ⟨rfl, rfl⟩
    refine ⟨_, rfl, ?_⟩
    refine pkq (.string ⟨(Lib.decDigits n).toArray⟩) <| eu_ <| then_r <| then_r <| so_ (.string ⟨(Lib.decDigits n).toArray⟩) ?_
    exact ⟨rfl, K0⟩
  · have hnd : Lib.nDigits n ≤ 20 := by have := Lib.numDigits_eq n (by omega) hn; split at this <;> omega
    refine ppq (.bool false) (exec_cast (congrArg Value.bool (show decide (((n : Nat) : Int) < (100 : Int)) = false from decide_eq_false (by omega))) (by kernel_rfl)) <| en_ <| s_ <| tqr_ [0] <| pal 124 (#[.int .u8 0, .int .u8 0, .int .u8 0, .int .u8 0, .int .u8 0, .int .u8 0, .int .u8 0, .int .u8 0, .int .u8 0, .int .u8 0, .int .u8 0, .int .u8 0, .int .u8 0, .int .u8 0, .int .u8 0, .int .u8 0, .int .u8 0, .int .u8 0, .int .u8 0, .int .u8 0, .int .u8 0, .int .u8 0, .int .u8 0, .int .u8 0]) (.agg (#[.int .u8 0, .int .u8 0, .int .u8 0, .int .u8 0, .int .u8 0, .int .u8 0, .int .u8 0, .int .u8 0, .int .u8 0, .int .u8 0, .int .u8 0, .int .u8 0, .int .u8 0, .int .u8 0, .int .u8 0, .int .u8 0, .int .u8 0, .int .u8 0, .int .u8 0, .int .u8 0, .int .u8 0, .int .u8 0, .int .u8 0, .int .u8 0])) fun V1 ga ega h2 kV1 => ?_
    have n3 : w.heap.size ≤ ga := ega ▸ K0.size
    have K4 := K0.nn kV1
    have z5 := kV1.size
    refine eqr_ [0, 1, 2] <| pkq (uN n) ?_
    refine pcq 88 #[uN n] Tryd.func88 ((isND_ok n (by omega) hn _ (PowTab.keeps htab K4)).mono ?_)
    rintro e w1 ⟨rfl, rfl⟩
    refine ⟨_, rfl, ?_⟩
    refine pkq (iN (Lib.nDigits n)) <| eqr_ [0, 1, 2, 3] <| pkq (iN (Lib.nDigits n)) <| ppq (.slice (some ⟨ga, 0, none⟩) (Lib.nDigits n) 24) (exec_slice_arrh 124 (.tmp 5) (.tmp 18) (by kernel_rfl) ga 0 (by kernel_rfl) .i64 (Lib.nDigits n) (by kernel_rfl) 24 5 Tryd.underlying124 (by kernel_rfl) (by omega) (by decide)) <| pkq (uN n) ?_
    refine pcq 89 #[.slice (some ⟨ga, 0, none⟩) (Lib.nDigits n) 24, uN n] Tryd.func89 ((isFB_ok ga n _ h2 (by omega) hn hnd).mono ?_)
    rintro e V6 ⟨rfl, hdig, kV6⟩
    refine ⟨_, rfl, ?_⟩
    have K7 := K4.nO kV6
    have z8 := kV6.size
    refine eqr_ [0, 1, 2, 3] <| pkq (iN (Lib.nDigits n)) <| ppq (.slice (some ⟨ga, 0, none⟩) (Lib.nDigits n) 24) (exec_slice_arrh 124 (.tmp 5) (.tmp 22) (by kernel_rfl) ga 0 (by kernel_rfl) .i64 (Lib.nDigits n) (by kernel_rfl) 24 5 Tryd.underlying124 (by kernel_rfl) (by omega) (by decide)) <| prq (.string ⟨(Lib.decDigits n).toArray⟩) (w' := V6) (exec_convert 39 9 (.tmp 23) (by kernel_rfl) _ (by kernel_rfl) (dig_conv hdig)) <| pkq (.string ⟨(Lib.decDigits n).toArray⟩) <| eu_ <| then_r <| so_ (.string ⟨(Lib.decDigits n).toArray⟩) ?_
    exact ⟨rfl, K7⟩
noncomputable def qc32_1 (n : Nat) : Code := partOf Tryd.f44 n
theorem fmtU_ok (n : Nat) (w : World) (hn : n < 18446744073709551616) (htab : PowTab w) :
    Calls Tryd.prog 44 #[.int .u64 ((n : Nat) : Int), .int .i64 10] w (fun e w' => e = .returned (.string ⟨(Lib.decDigits n).toArray⟩) ∧ Keeps Nob w w') := by
  have K0 : Keeps Nob w w := Keeps.refl _ _
  refine sy_enter (qc32_1 1) ⟨#[uN n, .int .i64 10, ud, ud, ud, ud, ud, ud], []⟩ Tryd.func44 (by kernel_rfl) (by kernel_rfl) <| qr_ [0] <| pkq (.string { data := #[] }) <| eqr_ [0, 1, 2, 3] <| pkq (uN n) <| pkq (.int .i64 10) ?_
  refine pcq 68 #[uN n, .int .i64 10] Tryd.func68 ((ifmtU_ok n _ hn htab).mono ?_)
  rintro e V1 ⟨rfl, kV1⟩
  refine ⟨_, rfl, ?_⟩
  have K2 := K0.nn kV1
  have z3 := kV1.size
  refine pkq (.string ⟨(Lib.decDigits n).toArray⟩) <| eu_ <| so_ (.string ⟨(Lib.decDigits n).toArray⟩) ?_
  exact ⟨rfl, K2⟩
end Go.Proofs.YtpflmldmbpnllaaDoor
namespace Go.Proofs.YtpflmldmbpnllaaDoor
set_option maxRecDepth 100000
set_option maxHeartbeats 4000000
open Go Go.RowKit Go.Own Go.Shelf
/-- A line: a name, a blank, a number, a line's end. -/
def pline (p : Par) (i : Nat) : List UInt8 := (parName[i]?.getD ⟨#[]⟩).data.toList ++ [32] ++ Lib.decDigits (p.l[i]?.getD 0).toNat ++ [10]
def ptI (p : Par) (i : Nat) : List UInt8 := (List.range i).flatMap (pline p)
def ptx (p : Par) : ByteArray := ⟨(ptI p 11).toArray⟩
theorem ptI_succ (p : Par) (i : Nat) : ptI p (i + 1) = ptI p i ++ pline p i := by unfold ptI; rw [List.range_succ, List.flatMap_append]; simp
theorem name_le {i : Nat} (hi : i < 11) : (parName[i]?.getD ⟨#[]⟩).data.toList.length ≤ 10 := by
  have h : i = 0 ∨ i = 1 ∨ i = 2 ∨ i = 3 ∨ i = 4 ∨ i = 5 ∨ i = 6 ∨ i = 7 ∨ i = 8 ∨ i = 9 ∨ i = 10 := by omega
  rcases h with rfl | rfl | rfl | rfl | rfl | rfl | rfl | rfl | rfl | rfl | rfl <;> decide
theorem dig_le {n : Nat} (h : n < 2 ^ 64) : (Lib.decDigits n).length ≤ 20 := by
  by_cases h0 : n = 0
  · subst h0; decide +kernel
  · rw [Lib.decDigits_length]; have := Lib.numDigits_eq n (by omega) (by omega); split at this <;> omega
theorem pline_le {p : Par} (h : ∀ j, j < 11 → p.good j) {i : Nat} (hi : i < 11) : (pline p i).length ≤ 32 := by
  have h1 := name_le hi; have h2 := dig_le (Par.l_nat h i hi).2
  unfold pline; simp only [List.length_append, List.length_cons, List.length_nil]; omega
theorem ptI_le {p : Par} (h : ∀ j, j < 11 → p.good j) (i : Nat) (hi : i ≤ 11) : (ptI p i).length ≤ 32 * i := by
  induction i with
  | zero => simp [ptI]
  | succ i ih => rw [ptI_succ, List.length_append]; have := pline_le h (show i < 11 by omega); have := ih (by omega); omega
theorem row_str {w : World} {T : TypeId} {v : Value} {l : List UInt8} {s : ByteArray} (h : Row w T 1 v (l.length + s.size) (B l ++ Lib.strCells s)) : Row w T 1 v (l ++ s.data.toList).length (B (l ++ s.data.toList)) := by
  have e : B (l ++ s.data.toList) = B l ++ Lib.strCells s := by rw [strCells_B]; simp [B]
  rw [e, List.length_append, Array.length_toList]; exact h
theorem row_byte {w : World} {T : TypeId} {v : Value} {l : List UInt8} {c : UInt8} (h : Row w T 1 v (l.length + 1) (B l ++ B [c])) : Row w T 1 v (l ++ [c]).length (B (l ++ [c])) := by
  have e : B (l ++ [c]) = B l ++ B [c] := by simp [B]
  rw [e, List.length_append]; exact h
theorem FieldsAt.not_b {w : World} {g gp b : Nat} {ks : Nat → Nat} {a v : Value} (h : FieldsAt w g gp ks) (hb : w.heap[b]? = some (.cells #[a, v] 74 (0, 0))) (ha : a = .pointer none ∨ a = .pointer (some ⟨b, 0, none⟩)) (hgp : gp ≠ b) : g ≠ b ∧ ∀ i, i < 11 → ks i ≠ b := by
  have hc : w.cell? ⟨b, 0, none⟩ = some a := cell_of_row _ _ _ _ _ _ hb
  refine ⟨fun e => ?_, fun i hi e => ?_⟩
  · have := h.cell 0 0 (by omega) (by omega)
    rw [e] at this
    rw [show (⟨b, 0 * 5 + 0, none⟩ : Addr) = ⟨b, 0, none⟩ from rfl, hc] at this
    have h2 : some a = some (Value.string (parName[0]?.getD ⟨#[]⟩)) := this
    rcases ha with rfl | rfl <;> cases h2
  · have := h.box i hi
    rw [e, hc] at this
    rcases ha with rfl | rfl
    · cases this
    · simp only [Option.some.injEq, Value.pointer.injEq, Addr.mk.injEq] at this; exact hgp this.1.symm
theorem isBuilder_of {w : World} {b NB : Nat} {v : Value} {l : List UInt8} (hb : w.heap[b]? = some (.cells #[.pointer (some ⟨b, 0, none⟩), v] 74 (0, 0))) (hr : Row w 5 1 v l.length (B l)) (hn : NewFrom NB v) (hbn : b < NB) : Lib.IsBuilder 74 5 b b (Lib.byteCells l) w := by
  have hlen : (Lib.byteCells l).length = l.length := by simp [Lib.byteCells]
  refine .inr ⟨Nat.le_refl _, v, hb, ?_, fun e => by have := hn b e; omega⟩
  rw [hlen]
  obtain ⟨h1, h2⟩ := hr
  refine ⟨h1, h2.elim .inl fun ⟨g, cap, cur, e, _, h⟩ => .inr ⟨g, cap, cur, e, by have := hn g (by rw [e]; rfl); omega, h⟩⟩
theorem bdStr_ok (b NB : Nat) (v : Value) (p : Par) (w : World) (hb : w.heap[b]? = some (.cells #[.pointer (some ⟨b, 0, none⟩), v] 74 (0, 0))) (hr : Row w 5 1 v (ptI p 11).length (B (ptI p 11))) (hn : NewFrom NB v) (hbn : b < NB) : Calls Tryd.prog 45 #[.pointer (some ⟨b, 0, none⟩)] w fun e w' => e = .returned (.string (ptx p)) ∧ Keeps (fun j => b ≤ j) w w' :=
  (Tryd.Builder_String_any b b (ptI p 11) w (isBuilder_of hb hr hn hbn) (Nat.le_of_lt (lt_of_block hb))).mono fun e w' h => ⟨h.1, Keeps.of_below h.2 (fun k _ hk => hk)⟩
noncomputable def qc33_0 (n : Nat) : Code := partOf Tryd.f21 n
noncomputable abbrev qo33_0 (n k : Nat) : Oper := (opsAt (qc33_0 n)).getD k default
theorem pText_ok (p : Par) (w : World) (hp : p.Ok) (hc : p.check.1 = 0) (htab : PowTab w) :
    Calls Tryd.prog 21 #[.agg p.cells] w (fun e w' => e = .returned (.tuple #[.string (ptx p), .int .i64 0]) ∧ Keeps Nob w w') := by
  have hg := (Par.check_0 hc).1
  have K0 : Keeps Nob w w := Keeps.refl _ _
  refine sy_enter (qc33_0 1) ⟨#[.agg p.cells, ud, ud, ud, ud, ud, ud, ud, ud, ud, ud, ud, ud, ud, ud, ud, ud, ud, ud, ud, ud, ud, ud, ud, ud, ud, ud, ud, ud, ud, ud, ud, ud, ud, ud, ud, ud, ud, ud, ud, ud], []⟩ Tryd.func21 (by kernel_rfl) (by kernel_rfl) <| qr_ [0, 1, 2] <| pbx 24 p.cells (.agg p.cells) fun V1 gp egp h2 kV1 => ?_
  have n3 : w.heap.size ≤ gp := egp ▸ K0.size
  have K4 := K0.nn kV1
  have z5 := kV1.size
  refine pkq (.string { data := #[] }) <| pkq (.int .i64 0) <| eq_ <| qr_ [0, 1, 2, 3, 4, 5, 6] <| ppq (.agg (p.cells)) (ldr 24 gp (h2) (by kernel_rfl)) ?_
  refine pcq 9 #[.agg (p.cells)] Tryd.func9 ((pCheck_is p 0 _ hp hc).mono ?_)
  rintro e V6 ⟨rfl, kV6⟩
  refine ⟨_, rfl, ?_⟩
  have h7 := kV6.bk h2
  have K8 := K4.nn kV6
  have z9 := kV6.size
  refine pkq (.tuple #[.int .i64 0, .int .i64 p.check.2]) <| pkq (.int .i64 0) <| pkq (.int .i64 p.check.2) <| pkq (.int .i64 0) <| pkq (.int .i64 p.check.2) <| eqr_ [0, 1] <| pkq (.int .i64 0) <| pkq (.bool false) <| en_ <| s_ <| tqr_ [0] <| pal 74 (#[.pointer none, .slice none 0 0]) (.agg (#[.pointer none, .slice none 0 0])) fun V10 b eb h11 kV10 => ?_
  have n12 : gp < b := eb ▸ lt_of_block h7
  have n13 : w.heap.size ≤ b := eb ▸ K8.size
  have h14 := kV10.bk h7
  have K15 := K8.nn kV10
  have z16 := kV10.size
  refine eq_ <| qr_ [0, 1, 2] ?_
  refine pcq 37 #[pT gp 0] Tryd.func37 ((fields_ok gp _).mono ?_)
  rintro e V17 ⟨g, ks, rfl, hF, hgl, kV17⟩
  obtain ⟨NB, hNB⟩ : ∃ n, V17.heap.size = n := ⟨_, rfl⟩
  have hNw : w.heap.size ≤ NB := hNB ▸ Nat.le_trans K15.size kV17.size
  have hgp5 := lt_of_block h14
  have hb5 := lt_of_block h11
  have hgpb : gp ≠ b := by omega
  have hnb := FieldsAt.not_b hF (kV17.bk h11) (.inl rfl) hgpb
  have hgN : gp < NB := by have := kV17.size; omega
  have hbN : b < NB := by have := kV17.size; omega
  refine ⟨_, rfl, ?_⟩
  have h18 := kV17.bk h14
  have h19 := kV17.bk h11
  have K20 := K15.nn kV17
  have z21 := kV17.size
  refine ppq (.int .i64 11) (exec_len (.tmp 19) 61 _ (by kernel_rfl) Tryd.underlying61 (some ⟨g, 0, none⟩) 11 11 (by kernel_rfl)) <| pkq (.int .i64 0) <| et_ <| b_ 0 ?_
  refine sy_loop (qc33_0 244) (fun a V => ∃ (i : Nat) (ba : Value) (v : Value) (u8 u9 u10 u22 u23 u24 u25 u26 u27 u28 u29 u30 u31 u32 u33 u34 u35 u36 u37 u38 u39 : Value), (a = ⟨#[.agg p.cells, pT gp 0, .string { data := #[] }, .int .i64 0, .int .i64 0, .int .i64 p.check.2, pT b 0, ud, u8, u9, u10, .tuple #[.int .i64 0, .int .i64 p.check.2], .agg (p.cells), .tuple #[.int .i64 0, .int .i64 p.check.2], .int .i64 0, .int .i64 p.check.2, .int .i64 0, .bool false, ud, .slice (some ⟨g, 0, none⟩) 11 11, .int .i64 11, iN i, u22, u23, u24, u25, u26, u27, u28, u29, u30, u31, u32, u33, u34, u35, u36, u37, u38, u39, ud], []⟩) ∧ (i ≤ 11) ∧ ((ba = .pointer none ∨ ba = pT b 0) ∧ (0 < i → ba = pT b 0)) ∧ (V.heap[gp]? = some (.cells p.cells 24 (0, 0))) ∧ (V.heap[b]? = some (.cells (#[ba, v]) 74 (0, 0))) ∧ (FieldsAt V g gp ks) ∧ (NB ≤ V.heap.size) ∧ (Row V 5 1 v ((ptI p i).length) (B (ptI p i))) ∧ (Keeps Nob w V) ∧ (NewFrom NB v)) (fun a _ => 11 - (intOf (a.tmps.getD 21 undef)).toNat) (by kernel_rfl) ?_ ?_
  · exact ⟨0, .pointer none, .slice none 0 0, undef, undef, undef, undef, undef, undef, undef, undef, undef, undef, undef, undef, undef, undef, undef, undef, undef, undef, undef, undef, undef, by kernel_rfl, by omega, ⟨.inl rfl, fun h => absurd h (by omega)⟩, h18, h19, hF, (Nat.le_of_eq hNB.symm), (World.ownsRow_nil _ _ _ _), K20, (NewFrom.nil _)⟩
  · rintro a V22 ⟨i, ba, v, u8, u9, u10, u22, u23, u24, u25, u26, u27, u28, u29, u30, u31, u32, u33, u34, u35, u36, u37, u38, u39, rfl, hi, ha, h23, h24, h25, h26, h27, K28, hnw⟩
    by_cases lt_i : i < 11
    · obtain ⟨ha, ha2⟩ := ha
      have hle := ptI_le hg i hi
      have hnl := name_le lt_i
      have hdl := dig_le (Par.l_nat hg i lt_i).2
      obtain ⟨nm, hnm⟩ : ∃ nm, parName[i]?.getD ⟨#[]⟩ = nm := ⟨_, rfl⟩
      rw [hnm] at hnl
      have hns : nm.size = nm.data.toList.length := rfl
      have hline : ptI p (i + 1) = ptI p i ++ nm.data.toList ++ [32] ++ Lib.decDigits (p.l[i]?.getD 0).toNat ++ [10] := by rw [ptI_succ, pline, hnm]; simp only [List.append_assoc]
      refine qr_ [0] <| ppq (.bool true) (dct ((((i : Nat) : Int)) < ((11) : Int)) (by omega)) <| eq_ <| y_ <| s_ <| tq_ <| b_ 1 <| qr_ [0, 1, 2, 3] <| ppq (pT g (i * 5)) (exec_cast (v := pT g (0 + i * 5)) (by simp) (exec_indexAt_slice 61 (.tmp 19) (.tmp 21) (by kernel_rfl) g 0 11 11 (by kernel_rfl) .i64 i (by kernel_rfl) _ 5 Tryd.underlying61 (by kernel_rfl) (by omega))) <| ppq (.agg (fieldC i (ks i)).toArray) (exec_load_mid 67 (.tmp 23) (by kernel_rfl) g (i * 5) (by kernel_rfl) (fieldC i (ks i)) _ (FieldsAt.mid h25 lt_i) Tryd.underlying67 rfl (by kernel_rfl)) <| pal 67 (#[.string ⟨#[]⟩, .int .u64 0, .int .u64 0, .nilFunc, .nilFunc]) (.agg (#[.string ⟨#[]⟩, .int .u64 0, .int .u64 0, .nilFunc, .nilFunc])) fun V29 gt egt h30 kV29 => ?_
      have n31 : gp < gt := egt ▸ lt_of_block h23
      have n32 : b < gt := egt ▸ lt_of_block h24
      have n33 : w.heap.size ≤ gt := egt ▸ K28.size
      have h34 := kV29.bk h23
      have h35 := kV29.bk h24
      have h36 : FieldsAt V29 g gp ks := h25.keepsN kV29
      have h37 : NB ≤ V29.heap.size := Nat.le_trans h26 kV29.size
      have h38 : Row V29 5 1 v ((ptI p i).length) (B (ptI p i)) := h27.keeps kV29 (fun _ _ x => x)
      have K39 := K28.nn kV29
      have z40 := kV29.size
      refine pst 67 gt ((fieldC i (ks i)).toArray) h30 (by kernel_rfl) rfl (by kernel_rfl) fun V41 h42 kV41 => ?_
      have h43 := kV41.bO h34
      have h44 := kV41.bO h35
      have h45 : FieldsAt V41 g gp ks := FieldsAt.keepsB hF h36 kV41 (fun j hj e => by unfold Own.One at e; omega)
      have h46 : NB ≤ V41.heap.size := Nat.le_trans h37 kV41.size
      have h47 : Row V41 5 1 v ((ptI p i).length) (B (ptI p i)) := h38.keeps kV41 (fun j hj e => Row.ne h38 h30 (by decide) ((show j = gt from e) ▸ hj))
      have K48 := K39.nO kV41
      have z49 := kV41.size
      refine eqr_ [0, 1, 2, 3, 4, 5, 6, 7] <| pkq (pT gt 3) <| ppq (.func (.func (parGet[i]?.getD 0)) #[] #[.pointer (some ⟨ks i, 0, none⟩)]) (ldc 64 gt 3 (rc (h42) (rfl))) ?_
      refine ps_callV (qo33_0 15666 2) (.tmp 27) (parGet[i]?.getD 0) #[] #[.pointer (some ⟨ks i, 0, none⟩)] #[.pointer (some ⟨ks i, 0, none⟩)] (by kernel_rfl) (by kernel_rfl) (by kernel_rfl) (by kernel_rfl) (by kernel_rfl) (get_enters i lt_i) ((((Par.l_nat hg i lt_i).1 ▸ get_ok p hp i gp (ks i) lt_i _ (FieldsAt.box h45 i lt_i) (cell_par h43 i))).mono ?_)
      rintro e V50 ⟨rfl, kV50⟩
      refine ⟨_, rfl, ?_⟩
      have h51 := kV50.bk h43
      have h52 := kV50.bk h44
      have h53 : FieldsAt V50 g gp ks := h45.keepsN kV50
      have h54 : NB ≤ V50.heap.size := Nat.le_trans h46 kV50.size
      have h55 : Row V50 5 1 v ((ptI p i).length) (B (ptI p i)) := h47.keeps kV50 (fun _ _ x => x)
      have h56 := kV50.bk h42
      have K57 := K48.nn kV50
      have z58 := kV50.size
      refine pkq (.tuple #[uN ((p.l[i]?.getD 0).toNat), .bool (decide (0 ≤ p.l[i]?.getD 0))]) <| pkq (uN ((p.l[i]?.getD 0).toNat)) <| pkq (.bool (decide (0 ≤ p.l[i]?.getD 0))) <| pkq (uN ((p.l[i]?.getD 0).toNat)) <| pkq (.bool (decide (0 ≤ p.l[i]?.getD 0))) <| eqr_ [0, 1, 2] <| pkq (pT gt 0) <| ppq (.string nm) (ldc 9 gt 0 (rc h56 (show (fieldC i (ks i)).toArray[0]? = some (.string nm) from congrArg (fun x => some (Value.string x)) hnm))) ?_
      refine pcq 42 #[pT b 0, .string nm] Tryd.func42 ((bdWS_ok b NB ba v (ptI p i) nm _ h52 ha h55 hnw h54 (by omega)).mono ?_)
      rintro e V59 ⟨v63, rfl, hb60, hr61, hw62, kV59⟩
      have hr61x := row_str hr61
      refine ⟨_, rfl, ?_⟩
      have h64 : V59.heap[gp]? = some (.cells p.cells 24 (0, 0)) := (kV59.block gp (lt_of_block h51) (fun e => (by rcases e with e | e <;> omega))).trans h51
      have h65 : FieldsAt V59 g gp ks := FieldsAt.keeps (N := 0) h53 kV59 (fun e => by rcases e with e | e; exact hnb.1 e; have := FieldsAt.glt hF; omega) (fun i hi e => by rcases e with e | e; exact hnb.2 i hi e; have := FieldsAt.klt hF i hi; omega)
      have h66 : NB ≤ V59.heap.size := Nat.le_trans h54 kV59.size
      have K67 : Keeps Nob w V59 := K57.then kV59 (fun i hi hm => absurd hi (by rcases hm with e | e <;> omega))
      have z68 := kV59.size
      refine eqr_ [0] ?_
      refine pcq 43 #[pT b 0, .int .u8 32] Tryd.func43 ((bdWB_ok b NB _ v63 (ptI p i ++ nm.data.toList) 32 _ hb60 (.inr rfl) hr61x hw62 h66 (by simp only [List.length_append]; omega)).mono ?_)
      rintro e V69 ⟨v73, rfl, hb70, hr71, hw72, kV69⟩
      have hr71x := row_byte hr71
      refine ⟨_, rfl, ?_⟩
      have h74 : V69.heap[gp]? = some (.cells p.cells 24 (0, 0)) := (kV69.block gp (lt_of_block h64) (fun e => (by rcases e with e | e <;> omega))).trans h64
      have h75 : FieldsAt V69 g gp ks := FieldsAt.keeps (N := 0) h65 kV69 (fun e => by rcases e with e | e; exact hnb.1 e; have := FieldsAt.glt hF; omega) (fun i hi e => by rcases e with e | e; exact hnb.2 i hi e; have := FieldsAt.klt hF i hi; omega)
      have h76 : NB ≤ V69.heap.size := Nat.le_trans h66 kV69.size
      have K77 : Keeps Nob w V69 := K67.then kV69 (fun i hi hm => absurd hi (by rcases hm with e | e <;> omega))
      have z78 := kV69.size
      refine eqr_ [0, 1, 2] <| pkq (uN ((p.l[i]?.getD 0).toNat)) ?_
      refine pcq 44 #[uN ((p.l[i]?.getD 0).toNat), .int .i64 10] Tryd.func44 ((fmtU_ok _ _ (Par.l_nat hg i lt_i).2 (PowTab.keeps htab K77)).mono ?_)
      rintro e V79 ⟨rfl, kV79⟩
      refine ⟨_, rfl, ?_⟩
      have h80 := kV79.bk h74
      have h81 : FieldsAt V79 g gp ks := h75.keepsN kV79
      have h82 : NB ≤ V79.heap.size := Nat.le_trans h76 kV79.size
      have h83 := kV79.bk hb70
      have h84 : Row V79 5 1 v73 ((ptI p i ++ nm.data.toList ++ [32]).length) (B (ptI p i ++ nm.data.toList ++ [32])) := hr71x.keeps kV79 (fun _ _ x => x)
      have K85 := K77.nn kV79
      have z86 := kV79.size
      refine pcq 42 #[pT b 0, .string ⟨(Lib.decDigits (p.l[i]?.getD 0).toNat).toArray⟩] Tryd.func42 ((bdWS_ok b NB _ v73 (ptI p i ++ nm.data.toList ++ [32]) ⟨(Lib.decDigits (p.l[i]?.getD 0).toNat).toArray⟩ _ h83 (.inr rfl) h84 hw72 h82 (by simp only [List.length_append, List.length_cons, List.length_nil]; have e : (⟨(Lib.decDigits (p.l[i]?.getD 0).toNat).toArray⟩ : ByteArray).size = (Lib.decDigits (p.l[i]?.getD 0).toNat).length := rfl; omega)).mono ?_)
      rintro e V87 ⟨v91, rfl, hb88, hr89, hw90, kV87⟩
      have hr89x := row_str hr89
      refine ⟨_, rfl, ?_⟩
      have h92 : V87.heap[gp]? = some (.cells p.cells 24 (0, 0)) := (kV87.block gp (lt_of_block h80) (fun e => (by rcases e with e | e <;> omega))).trans h80
      have h93 : FieldsAt V87 g gp ks := FieldsAt.keeps (N := 0) h81 kV87 (fun e => by rcases e with e | e; exact hnb.1 e; have := FieldsAt.glt hF; omega) (fun i hi e => by rcases e with e | e; exact hnb.2 i hi e; have := FieldsAt.klt hF i hi; omega)
      have h94 : NB ≤ V87.heap.size := Nat.le_trans h82 kV87.size
      have K95 : Keeps Nob w V87 := K85.then kV87 (fun i hi hm => absurd hi (by rcases hm with e | e <;> omega))
      have z96 := kV87.size
      refine er_ [0] ?_
      refine pcq 43 #[pT b 0, .int .u8 10] Tryd.func43 ((bdWB_ok b NB _ v91 (ptI p i ++ nm.data.toList ++ [32] ++ Lib.decDigits (p.l[i]?.getD 0).toNat) 10 _ hb88 (.inr rfl) hr89x hw90 h94 (by simp only [List.length_append, List.length_cons, List.length_nil]; omega)).mono ?_)
      rintro e V97 ⟨v101, rfl, hb98, hr99, hw100, kV97⟩
      have hr99x : Row V97 5 1 v101 (ptI p (i + 1)).length (B (ptI p (i + 1))) := by have hh := row_byte hr99; rw [← hline] at hh; exact hh
      refine ⟨_, rfl, ?_⟩
      have h102 : V97.heap[gp]? = some (.cells p.cells 24 (0, 0)) := (kV97.block gp (lt_of_block h92) (fun e => (by rcases e with e | e <;> omega))).trans h92
      have h103 : FieldsAt V97 g gp ks := FieldsAt.keeps (N := 0) h93 kV97 (fun e => by rcases e with e | e; exact hnb.1 e; have := FieldsAt.glt hF; omega) (fun i hi e => by rcases e with e | e; exact hnb.2 i hi e; have := FieldsAt.klt hF i hi; omega)
      have h104 : NB ≤ V97.heap.size := Nat.le_trans h94 kV97.size
      have K105 : Keeps Nob w V97 := K95.then kV97 (fun i hi hm => absurd hi (by rcases hm with e | e <;> omega))
      have z106 := kV97.size
      refine ps_end <| blk_n <| tr_ [0, 1] <| ppq (iN (i + 1)) (exec_cast (congrArg (Value.int .i64) (wrapN (i + 1) (by omega))) (by kernel_rfl)) <| pkq (iN (i + 1)) <| et_ ?_
      refine ⟨⟨i + 1, pT b 0, v101, (pT gt 0), (uN ((p.l[i]?.getD 0).toNat)), (.bool (decide (0 ≤ p.l[i]?.getD 0))), (.bool true), (pT g (i * 5)), (.agg (fieldC i (ks i)).toArray), (.tuple #[uN ((p.l[i]?.getD 0).toNat), .bool (decide (0 ≤ p.l[i]?.getD 0))]), (pT gt 3), (.func (.func (parGet[i]?.getD 0)) #[] #[.pointer (some ⟨ks i, 0, none⟩)]), (.tuple #[uN ((p.l[i]?.getD 0).toNat), .bool (decide (0 ≤ p.l[i]?.getD 0))]), (uN ((p.l[i]?.getD 0).toNat)), (.bool (decide (0 ≤ p.l[i]?.getD 0))), (pT gt 0), (.string nm), (.tuple #[.int .i64 ((nm : ByteArray).size : Int), .nilIface]), .nilIface, (uN ((p.l[i]?.getD 0).toNat)), (.string ⟨(Lib.decDigits (p.l[i]?.getD 0).toNat).toArray⟩), (.tuple #[.int .i64 ((⟨(Lib.decDigits (p.l[i]?.getD 0).toNat).toArray⟩ : ByteArray).size : Int), .nilIface]), .nilIface, (iN (i + 1)), by kernel_rfl, by omega, ⟨.inr rfl, fun _ => rfl⟩, h102, hb98, h103, h104, hr99x, K105, hw100⟩, ?_⟩
      exact lt_meas (x := 11 - (i + 1)) (y := 11 - i) (by kernel_rfl) (by kernel_rfl) (by omega)
    · have eq_i : i = 11 := by omega
      have ha3 := ha.2 (by omega)
      subst ha3
      refine qr_ [0] <| ppq (.bool false) (dcf ((((i : Nat) : Int)) < ((11) : Int)) (by omega)) <| eq_ <| n_ <| sy_exit 0 (by kernel_rfl) <| then_e <| then_e <| blk_e <| tqr_ [0, 1, 2] ?_
      refine pcq 45 #[pT b 0] Tryd.func45 ((bdStr_ok b NB v p _ (h24) (by have e := h27; rw [eq_i] at e; exact e) hnw hbN).mono ?_)
      rintro e V107 ⟨rfl, kV107⟩
      refine ⟨_, rfl, ?_⟩
      have K108 : Keeps Nob w V107 := K28.then kV107 (fun i hi hm => absurd hi (by have hm2 : b ≤ i := hm; omega))
      have z109 := kV107.size
      refine pkq (.string (ptx p)) <| pkq (.int .i64 0) <| eu_ <| so_ (.tuple #[.string (ptx p), .int .i64 0]) ?_
      exact ⟨rfl, K108⟩
end Go.Proofs.YtpflmldmbpnllaaDoor
namespace Go.Proofs.YtpflmldmbpnllaaDoor
set_option maxRecDepth 100000
set_option maxHeartbeats 4000000
open Go Go.RowKit Go.Own Go.Shelf
end Go.Proofs.YtpflmldmbpnllaaDoor
namespace Go.Proofs.YtpflmldmbpnllaaDoor
set_option maxRecDepth 100000
set_option maxHeartbeats 4000000
open Go Go.RowKit Go.Own Go.Shelf
instance : DecidableEq Par := fun p q => if h : p.l = q.l then .isTrue (by
  simp only [Par.l, List.cons.injEq, and_true] at h
  obtain ⟨a0, a1, a2, a3, a4, a5, a6, a7, a8, a9, a10⟩ := p
  obtain ⟨b0, b1, b2, b3, b4, b5, b6, b7, b8, b9, b10⟩ := q
  simp only at h
  obtain ⟨rfl, rfl, rfl, rfl, rfl, rfl, rfl, rfl, rfl, rfl, rfl⟩ := h
  rfl) else .isFalse (fun e => h (by rw [e]))
theorem feq_int {d : Nat} {f : Field} {fs : List Field} {xs ys : Array Value} {k : IntKind} {a b : Int} (w : World) (hf : f.name ≠ "_") (ht : Tryd.prog.underlying f.type = some (.int k)) (hp : Tryd.prog.plainKey f.type = true) (hx : xs[f.offset]? = some (.int k a)) (hy : ys[f.offset]? = some (.int k b)) :
    (Op.eqFields (d + 1) xs ys (f :: fs)).run Tryd.prog w = if a = b then (Op.eqFields (d + 1) xs ys fs).run Tryd.prog w else .ok false w := by
  conv => lhs; unfold Op.eqFields
  rw [if_pos hf]
  simp only [Sem.run_bind, run_part_plain w hp hx, run_part_plain w hp hy, Result.andThen_ok, run_equalIn_int w d f.type k k a b ht]
  by_cases h : a = b
  · simp [h]
  · simp [h]
theorem par_guard : Tryd.prog.eqGuardType Tryd.prog.depth 24 = false := by kernel_rfl
theorem par_equal (p q : Par) (w : World) : (Op.equalIn 10000 24 (.agg p.cells) (.agg q.cells)).run Tryd.prog w = .ok (decide (p = q)) w := by
  rw [run_equalIn_struct w 9999 24 _ _ (by kernel_rfl) (by kernel_rfl)]
  simp only [Program.fieldsOf, Tryd.underlying24]
  rw [feq_int (d := 9998) (k := .i64) (a := p.unb) (b := q.unb) w (by decide) Tryd.underlying3 (by kernel_rfl) rfl rfl, feq_int (d := 9998) (k := .i64) (a := p.mage) (b := q.mage) w (by decide) Tryd.underlying3 (by kernel_rfl) rfl rfl, feq_int (d := 9998) (k := .i64) (a := p.elen) (b := q.elen) w (by decide) Tryd.underlying3 (by kernel_rfl) rfl rfl, feq_int (d := 9998) (k := .i64) (a := p.win) (b := q.win) w (by decide) Tryd.underlying3 (by kernel_rfl) rfl rfl, feq_int (d := 9998) (k := .i64) (a := p.ent) (b := q.ent) w (by decide) Tryd.underlying3 (by kernel_rfl) rfl rfl, feq_int (d := 9998) (k := .i64) (a := p.act) (b := q.act) w (by decide) Tryd.underlying3 (by kernel_rfl) rfl rfl, feq_int (d := 9998) (k := .i64) (a := p.jail) (b := q.jail) w (by decide) Tryd.underlying3 (by kernel_rfl) rfl rfl, feq_int (d := 9998) (k := .u64) (a := p.base) (b := q.base) w (by decide) Tryd.underlying22 (by kernel_rfl) rfl rfl, feq_int (d := 9998) (k := .u64) (a := p.mult) (b := q.mult) w (by decide) Tryd.underlying22 (by kernel_rfl) rfl rfl, feq_int (d := 9998) (k := .i64) (a := p.corr) (b := q.corr) w (by decide) Tryd.underlying3 (by kernel_rfl) rfl rfl, feq_int (d := 9998) (k := .u64) (a := p.rew) (b := q.rew) w (by decide) Tryd.underlying22 (by kernel_rfl) rfl rfl]
  simp only [Op.eqFields, Sem.run_pure]
  obtain ⟨a0, a1, a2, a3, a4, a5, a6, a7, a8, a9, a10⟩ := p
  obtain ⟨b0, b1, b2, b3, b4, b5, b6, b7, b8, b9, b10⟩ := q
  simp only [Par.mk.injEq]
  by_cases h0 : a0 = b0
  · by_cases h1 : a1 = b1
    · by_cases h2 : a2 = b2
      · by_cases h3 : a3 = b3
        · by_cases h4 : a4 = b4
          · by_cases h5 : a5 = b5
            · by_cases h6 : a6 = b6
              · by_cases h7 : a7 = b7
                · by_cases h8 : a8 = b8
                  · by_cases h9 : a9 = b9
                    · by_cases h10 : a10 = b10 <;> simp [h0, h1, h2, h3, h4, h5, h6, h7, h8, h9, h10]
                    · simp [h9]
                  · simp [h8]
                · simp [h7]
              · simp [h6]
            · simp [h5]
          · simp [h4]
        · simp [h3]
      · simp [h2]
    · simp [h1]
  · simp [h0]
theorem par_eq (p q : Par) (w : World) : (binOp .eql 24 (.agg p.cells) (.agg q.cells)).run Tryd.prog w = .ok (.bool (decide (p = q))) w := by rw [run_eql_struct, par_equal]; rfl
theorem parDef_Ok : parDef.Ok := by constructor <;> (simp only [parDef, i64ok, u64ok]; omega)
theorem parZ_Ok : parZ.Ok := by constructor <;> (simp only [parZ, i64ok, u64ok]; omega)
theorem parDef_c : parDef.check = (0, 0) := by kernel_rfl
theorem parZ_c : parZ.check = (3, 0) := by kernel_rfl
theorem parDef_g : pget parDef ⟨#[98, 97, 115, 101]⟩ = (50000000, 0) := by kernel_rfl
theorem parDef_t : (ptold parDef).1.length = 17 ∧ (ptold parDef).2 = 0 := by constructor <;> kernel_rfl
theorem parDef_x : (ptx parDef).size = 132 := by decide +kernel
theorem pGet_is (p : Par) (s : ByteArray) (x y : Int) (w : World) (hp : p.Ok) (h : pget p s = (x, y)) : Calls Tryd.prog 11 #[.agg p.cells, .string s] w (fun e w' => e = .returned (.tuple #[.int .u64 x, .int .i64 y]) ∧ Keeps Nob w w') := by
  have := pGet_ok p s w hp
  rw [h] at this; exact this
theorem pBytes_def (w : World) : Calls Tryd.prog 23 #[.agg parDef.cells] w (fun e w' => ∃ g cap, e = .returned (.tuple #[.slice (some ⟨g, 0, none⟩) 17 cap, .int .i64 0]) ∧ Keeps Nob w w') :=
  (pBytes_ok parDef w parDef_Ok (by rw [parDef_c])).mono fun e w' ⟨X, h1, h2, h3, h4⟩ => by
    obtain ⟨g, cap, e2, _⟩ := Row.spell h2 (by rw [parDef_t.1]; omega)
    rw [parDef_t.1] at e2
    exact ⟨g, cap, by rw [h1, parDef_t.2, e2], h4⟩
noncomputable def qc35_3 (n : Nat) : Code := partOf Tryd.f8 n
theorem lpawake_ok (w : World) (htab : PowTab w) :
    Calls Tryd.prog 8 #[] w (fun e w' => e = .returned (.bool true) ∧ Keeps Nob w w') := by
  obtain ⟨tx, htx⟩ : ∃ t, ptx parDef = t := ⟨_, rfl⟩
  have htz : ((tx.size : Nat) : Int) = 132 := by rw [← htx, parDef_x]; rfl
  have K0 : Keeps Nob w w := Keeps.refl _ _
  refine sy_enter (qc35_3 1) ⟨#[ud, ud, ud, ud, ud, ud, ud, ud, ud, ud, ud, ud, ud, ud, ud, ud, ud, ud, ud, ud, ud, ud, ud, ud, ud, ud, ud, ud, ud, ud, ud, ud, ud, ud, ud, ud, ud, ud, ud, ud, ud, ud, ud, ud, ud, ud, ud, ud, ud, ud, ud, ud, ud, ud, ud, ud, ud, ud, ud, ud, ud], []⟩ Tryd.func8 (by kernel_rfl) (by kernel_rfl) <| sy_seq (qc35_3 2) (qc35_3 3) (by kernel_rfl) <| r_ [0] <| ps_run ((opsAt (qc35_3 2)).getD 0 default) (.bool false) (w' := w) (by kernel_rfl) (by kernel_rfl) (by kernel_rfl) <| et_ <| sy_seq (qc35_3 6) (qc35_3 7) (by kernel_rfl) <| r_ [0, 1, 2] ?_
  refine ps_call ((opsAt (qc35_3 6)).getD 0 default) 18 #[] (by kernel_rfl) (by kernel_rfl) (by kernel_rfl) (by kernel_rfl) (enters_of Tryd.func18 (by kernel_rfl) rfl) ((pDefault_ok _).mono ?_)
  rintro e V1 ⟨rfl, kV1⟩
  refine ⟨_, rfl, ?_⟩
  have K2 := K0.nn kV1
  have z3 := kV1.size
  obtain ⟨V4, eV4, gp, egp, h5, kV4⟩ := alloc_step V1 (#[.int .i64 0, .int .i64 0, .int .i64 0, .int .i64 0, .int .i64 0, .int .i64 0, .int .i64 0, .int .u64 0, .int .u64 0, .int .i64 0, .int .u64 0]) 24
  have n6 : w.heap.size ≤ gp := egp ▸ K2.size
  refine ps_run ((opsAt (qc35_3 6)).getD 1 default) (.pointer (some ⟨gp, 0, none⟩)) (w' := V4) (by kernel_rfl) (by kernel_rfl) (by rw [← eV4, ← egp]; exact exec_alloc0 24 (by kernel_rfl) (.agg (#[.int .i64 0, .int .i64 0, .int .i64 0, .int .i64 0, .int .i64 0, .int .i64 0, .int .i64 0, .int .u64 0, .int .u64 0, .int .i64 0, .int .u64 0])) (by kernel_rfl)) ?_
  clear eV4
  have K7 := K2.nn kV4
  have z8 := kV4.size
  obtain ⟨V9, eV9, kV9⟩ := rowset_step V4 gp parDef.cells
  have h10 : V9.heap[gp]? = some (.cells parDef.cells 24 (0, 0)) := eV9 ▸ setRow_heap _ _ _ _ _ _ h5
  refine ps_skip ((opsAt (qc35_3 6)).getD 2 default) (w' := V9) (by kernel_rfl) (by kernel_rfl) (by rw [← eV9]; exact exec_store_row 24 (.tmp 1) (.tmp 8) (by kernel_rfl) gp parDef.cells (by kernel_rfl) (by kernel_rfl) 24 (#[.int .i64 0, .int .i64 0, .int .i64 0, .int .i64 0, .int .i64 0, .int .i64 0, .int .i64 0, .int .u64 0, .int .u64 0, .int .i64 0, .int .u64 0]) h5 (by kernel_rfl) rfl (by kernel_rfl)) ?_
  clear eV9
  have K11 := K7.nO kV9
  have z12 := kV9.size
  refine et_ <| sy_seq (qc35_3 14) (qc35_3 15) (by kernel_rfl) <| r_ [0, 1, 2, 3, 4, 5, 6] <| ps_run ((opsAt (qc35_3 14)).getD 0 default) (.agg (parDef.cells)) (w' := V9) (by kernel_rfl) (by kernel_rfl) (ldr 24 gp (h10) (by kernel_rfl)) ?_
  refine ps_call ((opsAt (qc35_3 14)).getD 1 default) 11 #[.agg (parDef.cells), .string { data := #[98, 97, 115, 101] }] (by kernel_rfl) (by kernel_rfl) (by kernel_rfl) (by kernel_rfl) (enters_of Tryd.func11 (by kernel_rfl) rfl) ((pGet_is parDef _ _ _ _ parDef_Ok parDef_g).mono ?_)
  rintro e V13 ⟨rfl, kV13⟩
  refine ⟨_, rfl, ?_⟩
  have h14 := kV13.bk h10
  have K15 := K11.nn kV13
  have z16 := kV13.size
  refine ps_run ((opsAt (qc35_3 14)).getD 2 default) (.tuple #[.int .u64 50000000, .int .i64 0]) (w' := V13) (by kernel_rfl) (by kernel_rfl) (by kernel_rfl) <| ps_run ((opsAt (qc35_3 14)).getD 3 default) (.int .u64 50000000) (w' := V13) (by kernel_rfl) (by kernel_rfl) (by kernel_rfl) <| ps_run ((opsAt (qc35_3 14)).getD 4 default) (.int .i64 0) (w' := V13) (by kernel_rfl) (by kernel_rfl) (by kernel_rfl) <| ps_run ((opsAt (qc35_3 14)).getD 5 default) (.int .u64 50000000) (w' := V13) (by kernel_rfl) (by kernel_rfl) (by kernel_rfl) <| ps_run ((opsAt (qc35_3 14)).getD 6 default) (.int .i64 0) (w' := V13) (by kernel_rfl) (by kernel_rfl) (by kernel_rfl) <| et_ <| sy_seq (qc35_3 30) (qc35_3 31) (by kernel_rfl) <| r_ [0, 1, 2, 3, 4, 5, 6] <| ps_run ((opsAt (qc35_3 30)).getD 0 default) (.agg (parDef.cells)) (w' := V13) (by kernel_rfl) (by kernel_rfl) (ldr 24 gp (h14) (by kernel_rfl)) ?_
  refine ps_call ((opsAt (qc35_3 30)).getD 1 default) 21 #[.agg (parDef.cells)] (by kernel_rfl) (by kernel_rfl) (by kernel_rfl) (by kernel_rfl) (enters_of Tryd.func21 (by kernel_rfl) rfl) ((htx ▸ pText_ok parDef _ parDef_Ok (by rw [parDef_c]) (PowTab.keeps htab K15)).mono ?_)
  rintro e V17 ⟨rfl, kV17⟩
  refine ⟨_, rfl, ?_⟩
  have h18 := kV17.bk h14
  have K19 := K15.nn kV17
  have z20 := kV17.size
  refine ps_run ((opsAt (qc35_3 30)).getD 2 default) (.tuple #[.string tx, .int .i64 0]) (w' := V17) (by kernel_rfl) (by kernel_rfl) (by kernel_rfl) <| ps_run ((opsAt (qc35_3 30)).getD 3 default) (.string tx) (w' := V17) (by kernel_rfl) (by kernel_rfl) (by kernel_rfl) <| ps_run ((opsAt (qc35_3 30)).getD 4 default) (.int .i64 0) (w' := V17) (by kernel_rfl) (by kernel_rfl) (by kernel_rfl) <| ps_run ((opsAt (qc35_3 30)).getD 5 default) (.string tx) (w' := V17) (by kernel_rfl) (by kernel_rfl) (by kernel_rfl) <| ps_run ((opsAt (qc35_3 30)).getD 6 default) (.int .i64 0) (w' := V17) (by kernel_rfl) (by kernel_rfl) (by kernel_rfl) <| et_ <| sy_seq (qc35_3 62) (qc35_3 63) (by kernel_rfl) <| r_ [0, 1, 2, 3, 4, 5, 6] <| ps_run ((opsAt (qc35_3 62)).getD 0 default) (.agg (parDef.cells)) (w' := V17) (by kernel_rfl) (by kernel_rfl) (ldr 24 gp (h18) (by kernel_rfl)) ?_
  refine ps_call ((opsAt (qc35_3 62)).getD 1 default) 23 #[.agg (parDef.cells)] (by kernel_rfl) (by kernel_rfl) (by kernel_rfl) (by kernel_rfl) (enters_of Tryd.func23 (by kernel_rfl) rfl) ((pBytes_def _).mono ?_)
  rintro e V21 ⟨gb, capb, rfl, kV21⟩
  refine ⟨_, rfl, ?_⟩
  have h22 := kV21.bk h18
  have K23 := K19.nn kV21
  have z24 := kV21.size
  refine ps_run ((opsAt (qc35_3 62)).getD 2 default) (.tuple #[.slice (some ⟨gb, 0, none⟩) 17 capb, .int .i64 0]) (w' := V21) (by kernel_rfl) (by kernel_rfl) (by kernel_rfl) <| ps_run ((opsAt (qc35_3 62)).getD 3 default) (.slice (some ⟨gb, 0, none⟩) 17 capb) (w' := V21) (by kernel_rfl) (by kernel_rfl) (by kernel_rfl) <| ps_run ((opsAt (qc35_3 62)).getD 4 default) (.int .i64 0) (w' := V21) (by kernel_rfl) (by kernel_rfl) (by kernel_rfl) <| ps_run ((opsAt (qc35_3 62)).getD 5 default) (.slice (some ⟨gb, 0, none⟩) 17 capb) (w' := V21) (by kernel_rfl) (by kernel_rfl) (by kernel_rfl) <| ps_run ((opsAt (qc35_3 62)).getD 6 default) (.int .i64 0) (w' := V21) (by kernel_rfl) (by kernel_rfl) (by kernel_rfl) <| ps_end <| sy_act ⟨#[.bool false, .pointer (some ⟨gp, 0, none⟩), .int .u64 50000000, .int .i64 0, .string tx, .int .i64 0, .slice (some ⟨gb, 0, none⟩) 17 capb, .int .i64 0, .agg parDef.cells, .tuple #[.int .u64 50000000, .int .i64 0], .agg (parDef.cells), .tuple #[.int .u64 50000000, .int .i64 0], .int .u64 50000000, .int .i64 0, .tuple #[.string tx, .int .i64 0], .agg (parDef.cells), .tuple #[.string tx, .int .i64 0], .string tx, .int .i64 0, .tuple #[.slice (some ⟨gb, 0, none⟩) 17 capb, .int .i64 0], .agg (parDef.cells), .tuple #[.slice (some ⟨gb, 0, none⟩) 17 capb, .int .i64 0], .slice (some ⟨gb, 0, none⟩) 17 capb, .int .i64 0, ud, ud, ud, ud, ud, ud, ud, ud, ud, ud, ud, ud, ud, ud, ud, ud, ud, ud, ud, ud, ud, ud, ud, ud, ud, ud, ud, ud, ud, ud, ud, ud, ud, ud, ud, ud, ud], []⟩ (by kernel_rfl) <| then_n <| sy_seq (qc35_3 126) (qc35_3 127) (by kernel_rfl) <| r_ [0, 1, 2, 3, 4, 5, 6, 7, 8, 9, 10, 11, 12, 13, 14, 15, 16, 17, 18, 19, 20, 21, 22, 23, 24, 25, 26, 27, 28, 29, 30, 31, 32, 33, 34, 35, 36, 37] <| ps_run ((opsAt (qc35_3 126)).getD 0 default) (.agg (parDef.cells)) (w' := V21) (by kernel_rfl) (by kernel_rfl) (ldr 24 gp (h22) (by kernel_rfl)) ?_
  refine ps_call ((opsAt (qc35_3 126)).getD 1 default) 31 #[.agg (parDef.cells), .int .i64 0, .int .i64 0] (by kernel_rfl) (by kernel_rfl) (by kernel_rfl) (by kernel_rfl) (enters_of Tryd.func31 (by kernel_rfl) rfl) ((lpchecks_ok parDef 0 0 _ parDef_Ok (by rw [parDef_c]) (by rw [parDef_c])).mono ?_)
  rintro e V25 ⟨rfl, kV25⟩
  refine ⟨_, rfl, ?_⟩
  have h26 := kV25.bk h22
  have K27 := K23.nn kV25
  have z28 := kV25.size
  refine ps_run ((opsAt (qc35_3 126)).getD 2 default) (.bool true) (w' := V25) (by kernel_rfl) (by kernel_rfl) (by kernel_rfl) <| ps_run ((opsAt (qc35_3 126)).getD 3 default) (.int .u64 50000000) (w' := V25) (by kernel_rfl) (by kernel_rfl) (by kernel_rfl) <| ps_run ((opsAt (qc35_3 126)).getD 4 default) (.bool true) (w' := V25) (by kernel_rfl) (by kernel_rfl) (by kernel_rfl) <| ps_run ((opsAt (qc35_3 126)).getD 5 default) (.bool true) (w' := V25) (by kernel_rfl) (by kernel_rfl) (by kernel_rfl) <| ps_run ((opsAt (qc35_3 126)).getD 6 default) (.bool true) (w' := V25) (by kernel_rfl) (by kernel_rfl) (by kernel_rfl) <| ps_run ((opsAt (qc35_3 126)).getD 7 default) (.int .i64 0) (w' := V25) (by kernel_rfl) (by kernel_rfl) (by kernel_rfl) <| ps_run ((opsAt (qc35_3 126)).getD 8 default) (.bool true) (w' := V25) (by kernel_rfl) (by kernel_rfl) (by kernel_rfl) <| ps_run ((opsAt (qc35_3 126)).getD 9 default) (.bool true) (w' := V25) (by kernel_rfl) (by kernel_rfl) (by kernel_rfl) <| ps_run ((opsAt (qc35_3 126)).getD 10 default) (.bool true) (w' := V25) (by kernel_rfl) (by kernel_rfl) (by kernel_rfl) <| ps_run ((opsAt (qc35_3 126)).getD 11 default) (.string tx) (w' := V25) (by kernel_rfl) (by kernel_rfl) (by kernel_rfl) <| ps_run ((opsAt (qc35_3 126)).getD 12 default) (.int .i64 132) (w' := V25) (by kernel_rfl) (by kernel_rfl) (exec_cast (congrArg (Value.int .i64) htz) (exec_len_str (.tmp 35) 9 (by kernel_rfl) Tryd.underlying9 tx (by kernel_rfl))) <| ps_run ((opsAt (qc35_3 126)).getD 13 default) (.bool true) (w' := V25) (by kernel_rfl) (by kernel_rfl) (by kernel_rfl) <| ps_run ((opsAt (qc35_3 126)).getD 14 default) (.bool true) (w' := V25) (by kernel_rfl) (by kernel_rfl) (by kernel_rfl) <| ps_run ((opsAt (qc35_3 126)).getD 15 default) (.bool true) (w' := V25) (by kernel_rfl) (by kernel_rfl) (by kernel_rfl) ?_
  refine ps_run ((opsAt (qc35_3 126)).getD 16 default) (.int .i64 0) (w' := V25) (by kernel_rfl) (by kernel_rfl) (by kernel_rfl) <| ps_run ((opsAt (qc35_3 126)).getD 17 default) (.bool true) (w' := V25) (by kernel_rfl) (by kernel_rfl) (by kernel_rfl) <| ps_run ((opsAt (qc35_3 126)).getD 18 default) (.bool true) (w' := V25) (by kernel_rfl) (by kernel_rfl) (by kernel_rfl) <| ps_run ((opsAt (qc35_3 126)).getD 19 default) (.bool true) (w' := V25) (by kernel_rfl) (by kernel_rfl) (by kernel_rfl) <| ps_run ((opsAt (qc35_3 126)).getD 20 default) (.slice (some ⟨gb, 0, none⟩) 17 capb) (w' := V25) (by kernel_rfl) (by kernel_rfl) (by kernel_rfl) <| ps_run ((opsAt (qc35_3 126)).getD 21 default) (.int .i64 17) (w' := V25) (by kernel_rfl) (by kernel_rfl) (exec_len (.tmp 44) 39 _ (by kernel_rfl) Tryd.underlying39 (some ⟨gb, 0, none⟩) 17 capb (by kernel_rfl)) <| ps_run ((opsAt (qc35_3 126)).getD 22 default) (.bool true) (w' := V25) (by kernel_rfl) (by kernel_rfl) (by kernel_rfl) <| ps_run ((opsAt (qc35_3 126)).getD 23 default) (.bool true) (w' := V25) (by kernel_rfl) (by kernel_rfl) (by kernel_rfl) <| ps_run ((opsAt (qc35_3 126)).getD 24 default) (.bool true) (w' := V25) (by kernel_rfl) (by kernel_rfl) (by kernel_rfl) <| ps_run ((opsAt (qc35_3 126)).getD 25 default) (.int .i64 0) (w' := V25) (by kernel_rfl) (by kernel_rfl) (by kernel_rfl) <| ps_run ((opsAt (qc35_3 126)).getD 26 default) (.bool true) (w' := V25) (by kernel_rfl) (by kernel_rfl) (by kernel_rfl) <| ps_run ((opsAt (qc35_3 126)).getD 27 default) (.bool true) (w' := V25) (by kernel_rfl) (by kernel_rfl) (by kernel_rfl) <| ps_run ((opsAt (qc35_3 126)).getD 28 default) (.bool true) (w' := V25) (by kernel_rfl) (by kernel_rfl) (by kernel_rfl) <| ps_run ((opsAt (qc35_3 126)).getD 29 default) (.pointer (some ⟨gp, 0, none⟩)) (w' := V25) (by kernel_rfl) (by kernel_rfl) (by kernel_rfl) ?_
  refine ps_run ((opsAt (qc35_3 126)).getD 30 default) (.int .i64 100) (w' := V25) (by kernel_rfl) (by kernel_rfl) (exec_load_cell 3 (.tmp 53) (by kernel_rfl) ⟨gp, 0, none⟩ (by kernel_rfl) _ _ Tryd.underlying3 rfl ((cell_of_row _ _ _ _ _ _ (h26)).trans (rfl))) <| ps_run ((opsAt (qc35_3 126)).getD 31 default) (.bool true) (w' := V25) (by kernel_rfl) (by kernel_rfl) (by kernel_rfl) <| ps_run ((opsAt (qc35_3 126)).getD 32 default) (.bool true) (w' := V25) (by kernel_rfl) (by kernel_rfl) (by kernel_rfl) <| ps_run ((opsAt (qc35_3 126)).getD 33 default) (.bool true) (w' := V25) (by kernel_rfl) (by kernel_rfl) (by kernel_rfl) <| ps_run ((opsAt (qc35_3 126)).getD 34 default) (.agg parZ.cells) (w' := V25) (by kernel_rfl) (by kernel_rfl) (by kernel_rfl) ?_
  refine ps_call ((opsAt (qc35_3 126)).getD 35 default) 31 #[.agg parZ.cells, .int .i64 3, .int .i64 0] (by kernel_rfl) (by kernel_rfl) (by kernel_rfl) (by kernel_rfl) (enters_of Tryd.func31 (by kernel_rfl) rfl) ((lpchecks_ok parZ 3 0 _ parZ_Ok (by rw [parZ_c]) (by rw [parZ_c])).mono ?_)
  rintro e V29 ⟨rfl, kV29⟩
  refine ⟨_, rfl, ?_⟩
  have K31 := K27.nn kV29
  have z32 := kV29.size
  refine ps_run ((opsAt (qc35_3 126)).getD 36 default) (.bool true) (w' := V29) (by kernel_rfl) (by kernel_rfl) (by kernel_rfl) <| ps_run ((opsAt (qc35_3 126)).getD 37 default) (.bool true) (w' := V29) (by kernel_rfl) (by kernel_rfl) (by kernel_rfl) <| ps_end <| sy_act ⟨#[.bool true, .pointer (some ⟨gp, 0, none⟩), .int .u64 50000000, .int .i64 0, .string tx, .int .i64 0, .slice (some ⟨gb, 0, none⟩) 17 capb, .int .i64 0, .agg parDef.cells, .tuple #[.int .u64 50000000, .int .i64 0], .agg (parDef.cells), .tuple #[.int .u64 50000000, .int .i64 0], .int .u64 50000000, .int .i64 0, .tuple #[.string tx, .int .i64 0], .agg (parDef.cells), .tuple #[.string tx, .int .i64 0], .string tx, .int .i64 0, .tuple #[.slice (some ⟨gb, 0, none⟩) 17 capb, .int .i64 0], .agg (parDef.cells), .tuple #[.slice (some ⟨gb, 0, none⟩) 17 capb, .int .i64 0], .slice (some ⟨gb, 0, none⟩) 17 capb, .int .i64 0, .agg (parDef.cells), .bool true, .bool true, .int .u64 50000000, .bool true, .bool true, .bool true, .int .i64 0, .bool true, .bool true, .bool true, .string tx, .int .i64 132, .bool true, .bool true, .bool true, .int .i64 0, .bool true, .bool true, .bool true, .slice (some ⟨gb, 0, none⟩) 17 capb, .int .i64 17, .bool true, .bool true, .bool true, .int .i64 0, .bool true, .bool true, .bool true, .pointer (some ⟨gp, 0, none⟩), .int .i64 100, .bool true, .bool true, .bool true, .agg parZ.cells, .bool true, .bool true], []⟩ (by kernel_rfl) <| then_n <| u_ <| so_ (.bool true) ?_
  exact ⟨rfl, K31⟩
end Go.Proofs.YtpflmldmbpnllaaDoor
namespace Go.Proofs.YtpflmldmbpnllaaDoor
set_option maxRecDepth 100000
set_option maxHeartbeats 4000000
open Go Go.RowKit Go.Own Go.Shelf
section
variable {P : Program} {o : Oper} {ρ : Operand → Value} {w : World}
theorem ext_take (l : List UInt8) (k : Nat) : (⟨l.toArray⟩ : ByteArray).extract 0 k = ⟨(l.take k).toArray⟩ := by
  rw [ByteArray.extract_mk]; simp
theorem ext_drop (l : List UInt8) (k : Nat) : (⟨l.toArray⟩ : ByteArray).extract k (⟨l.toArray⟩ : ByteArray).size = ⟨(l.drop k).toArray⟩ := by
  rw [ByteArray.extract_mk]
  have : (⟨l.toArray⟩ : ByteArray).size = l.length := by simp [ByteArray.size]
  rw [this]
  congr 1
  apply Array.toList_inj.1
  simp [List.take_of_length_le]
theorem exec_slice_to (t : TypeId) (x y : Operand) (ho : o.op = .slice t x none (some y) none) (l : List UInt8) (hx : ρ x = .string ⟨l.toArray⟩) (kd : IntKind) (k : Nat) (hy : ρ y = .int kd (k : Int)) (hu : P.underlying t = some .string) (hk : k ≤ l.length) :
    (execOp ρ o).run P w = .ok (.value (.string ⟨(l.take k).toArray⟩)) w := by
  have h := run_slice_string_h (P := P) (w := w) (t := t) (s := ⟨l.toArray⟩) hu kd (k : Int) (by omega) (by simp [ByteArray.size]; omega)
  unfold execOp
  simp only [ho, hx, Option.map_some, Option.map_none, hy, Instr.sliceAt, Sem.run_bind, run_underlying hu, h, Result.andThen_ok, Sem.run_pure, Int.toNat_natCast, ext_take]
theorem exec_slice_from (t : TypeId) (x y : Operand) (ho : o.op = .slice t x (some y) none none) (l : List UInt8) (hx : ρ x = .string ⟨l.toArray⟩) (kd : IntKind) (k : Nat) (hy : ρ y = .int kd (k : Int)) (hu : P.underlying t = some .string) (hk : k ≤ l.length) :
    (execOp ρ o).run P w = .ok (.value (.string ⟨(l.drop k).toArray⟩)) w := by
  have h := run_slice_string_l (P := P) (w := w) (t := t) (s := ⟨l.toArray⟩) hu kd (k : Int) (by omega) (by simp [ByteArray.size]; omega)
  unfold execOp
  simp only [ho, hx, Option.map_some, Option.map_none, hy, Instr.sliceAt, Sem.run_bind, run_underlying hu, h, Result.andThen_ok, Sem.run_pure, Int.toNat_natCast, ext_drop]
end
/-- A digit. -/
def isd (c : UInt8) : Bool := decide (48 ≤ c.toNat ∧ c.toNat ≤ 57)
def dval (l : List UInt8) : Nat := l.foldl (fun n c => 10 * n + (c.toNat - 48)) 0
theorem dval_snoc (l : List UInt8) (c : UInt8) : dval (l ++ [c]) = 10 * dval l + (c.toNat - 48) := by simp [dval, List.foldl_append]
theorem take_snoc {l : List UInt8} {k : Nat} {c : UInt8} (h : l[k]? = some c) : l.take (k + 1) = l.take k ++ [c] := by rw [List.take_add_one, h]; rfl
theorem dval_take {l : List UInt8} {k : Nat} {c : UInt8} (h : l[k]? = some c) : dval (l.take (k + 1)) = 10 * dval (l.take k) + (c.toNat - 48) := by rw [take_snoc h, dval_snoc]
theorem dval_lt : ∀ (n : Nat) (l : List UInt8), l.length = n → l.all isd = true → dval l < 10 ^ n
  | 0, l, h, _ => by rw [List.eq_nil_of_length_eq_zero h]; decide
  | n + 1, l, h, hd => by
    obtain ⟨m, c, rfl⟩ : ∃ m c, l = m ++ [c] := ⟨l.dropLast, l.getLast (by intro e; rw [e] at h; simp at h), (List.dropLast_concat_getLast _).symm⟩
    rw [List.length_append] at h
    simp only [List.all_append, List.all_cons, List.all_nil, Bool.and_true, Bool.and_eq_true] at hd
    have := dval_lt n m (by simpa using h) hd.1
    have h2 := hd.2
    simp only [isd, decide_eq_true_eq] at h2
    rw [dval_snoc, Nat.pow_succ]; omega
/-- Digits that may be a number. -/
def pgood (l : List UInt8) : Bool := decide (1 ≤ l.length) && decide (l.length ≤ 10) && (decide (l.length ≤ 1) || !(l[0]?.getD 0 == 48)) && l.all isd
def pnum (l : List UInt8) : Nat × Bool := if pgood l then (dval l, true) else (0, false)
theorem pnum_short {l : List UInt8} (h : l.length < 1) : pnum l = (0, false) := by unfold pnum pgood; rw [if_neg]; simp; omega
theorem pnum_long {l : List UInt8} (h : 10 < l.length) : pnum l = (0, false) := by unfold pnum pgood; rw [if_neg]; simp; omega
theorem pnum_zero {l : List UInt8} {c : UInt8} (h : 1 < l.length) (h0 : l[0]? = some c) (hc : c.toNat = 48) : pnum l = (0, false) := by
  have : c = 48 := by apply UInt8.toNat_inj.1; rw [hc]; rfl
  subst this
  unfold pnum pgood; rw [if_neg]; simp [h0]; omega
theorem pnum_bad {l : List UInt8} {k : Nat} {c : UInt8} (h : l[k]? = some c) (hc : ¬ (48 ≤ c.toNat ∧ c.toNat ≤ 57)) : pnum l = (0, false) := by
  unfold pnum pgood; rw [if_neg]
  intro hg
  simp only [Bool.and_eq_true] at hg
  have := List.all_eq_true.1 hg.2 c (List.mem_of_getElem? h)
  simp only [isd, decide_eq_true_eq] at this
  exact hc this
theorem pnum_good {l : List UInt8} (h1 : ¬ l.length < 1) (h2 : ¬ 10 < l.length) (h3 : l.length ≤ 1 ∨ ∃ c : UInt8, l[0]? = some c ∧ c.toNat ≠ 48) (h4 : l.all isd = true) : pnum l = (dval l, true) := by
  unfold pnum; rw [if_pos]
  unfold pgood
  simp only [Bool.and_eq_true, Bool.or_eq_true, decide_eq_true_eq]
  refine ⟨⟨⟨by omega, by omega⟩, ?_⟩, h4⟩
  rcases h3 with h3 | ⟨c, h3, h5⟩
  · exact .inl h3
  · refine .inr ?_
    rw [h3]
    simp only [Option.getD_some, Bool.not_eq_true', beq_eq_false_iff_ne]
    intro e; rw [e] at h5; exact h5 rfl
theorem all_take {l : List UInt8} {k : Nat} {c : UInt8} (h : l[k]? = some c) (hd : (l.take k).all isd = true) (hc : 48 ≤ c.toNat ∧ c.toNat ≤ 57) : (l.take (k + 1)).all isd = true := by
  rw [take_snoc h, List.all_append, hd]; simp [isd, hc]
theorem dval10 {l : List UInt8} {k : Nat} (hk : k ≤ 10) (hl : k ≤ l.length) (hd : (l.take k).all isd = true) : dval (l.take k) < 10 ^ k := dval_lt k _ (by simp; omega) hd
theorem pow10_le {k : Nat} (h : k ≤ 10) : 10 ^ k ≤ 10000000000 := Nat.le_trans (Nat.pow_le_pow_right (by omega) h) (by decide)
theorem wrap_u8_sub {x : Nat} (h : 48 ≤ x) (h2 : x ≤ 57) : IntKind.u8.wrap (((x : Nat) : Int) - 48) = ((x - 48 : Nat) : Int) := by
  have h' : x = 48 ∨ x = 49 ∨ x = 50 ∨ x = 51 ∨ x = 52 ∨ x = 53 ∨ x = 54 ∨ x = 55 ∨ x = 56 ∨ x = 57 := by omega
  rcases h' with rfl | rfl | rfl | rfl | rfl | rfl | rfl | rfl | rfl | rfl <;> decide
theorem conv_u8_u64 {x : Nat} (h : x ≤ 9) (w : World) : (convert 5 22 (.int .u8 ((x : Nat) : Int))).run Tryd.prog w = .ok (.int .u64 ((x : Nat) : Int)) w := by
  simp only [convert, Tryd.underlying5, Tryd.underlying22]
  have : IntKind.u64.wrap ((x : Nat) : Int) = ((x : Nat) : Int) := by
    unfold IntKind.wrap; simp [IntKind.signed, IntKind.bits]; omega
  simp [Conv.intToInt, this]
theorem wrap_u64_n (n : Nat) (h : n < 18446744073709551616) : IntKind.u64.wrap ((n : Nat) : Int) = ((n : Nat) : Int) := by
  unfold IntKind.wrap; simp [IntKind.signed, IntKind.bits]; omega
/-- Where the first line feed is. -/
def feedAt : List UInt8 → Option Nat
  | [] => none
  | c :: r => if c = 10 then some 0 else (feedAt r).map (· + 1)
/-- The number of field i in its line; nothing: there is none. -/
def pln (i : Nat) (l : List UInt8) : Nat × Bool := let h := (parName[i]?.getD ⟨#[]⟩).data.toList ++ [32]; if Lib.hasPrefix l h then pnum (l.drop h.length) else (0, false)
/-- What is wrong with field i's line, 'vs' being the numbers ahead of it. -/
def perr (i : Nat) (vs : List Int) (l : List UInt8) : Int :=
  if (pln i l).2 = false then 5 else if ¬ (parLo[i]?.getD 0 ≤ ((pln i l).1 : Int) ∧ ((pln i l).1 : Int) ≤ parHi[i]?.getD 0) then 3 else if i = 1 ∧ vs[0]?.getD 0 < ((pln i l).1 : Int) then 9 else 0
/-- What a text's rest tells, 'vs' being the numbers read; k fields to go. -/
def pgo : Nat → List Int → List UInt8 → Par × Int × Int
  | 0, vs, l => if l = [] then (parOfL vs, 0, 0) else (parZ, 4, 11)
  | k + 1, vs, l => match feedAt l with
    | none => (parZ, 6, (vs.length : Int))
    | some j => if perr vs.length vs (l.take j) = 0 then pgo k (vs ++ [((pln vs.length (l.take j)).1 : Int)]) (l.drop (j + 1)) else (parZ, perr vs.length vs (l.take j), (vs.length : Int))
def pparse (l : List UInt8) : Par × Int × Int := pgo 11 [] l
end Go.Proofs.YtpflmldmbpnllaaDoor
namespace Go.Proofs.YtpflmldmbpnllaaDoor
set_option maxRecDepth 100000
set_option maxHeartbeats 4000000
open Go Go.RowKit Go.Own Go.Shelf
def feedV (l : List UInt8) : Int := match feedAt l with | some j => (j : Int) | none => -1
noncomputable def qc37_1 (n : Nat) : Code := partOf Tryd.f74 n
theorem num_cases (l : List UInt8) (k : Nat) (hk : k ≤ l.length) : (∃ c : UInt8, k < l.length ∧ l[k]? = some c ∧ c.toNat < 48) ∨ (∃ c : UInt8, k < l.length ∧ l[k]? = some c ∧ 57 < c.toNat) ∨ (∃ c : UInt8, k < l.length ∧ l[k]? = some c ∧ (48 ≤ c.toNat ∧ c.toNat ≤ 57)) ∨ k = l.length := by
  by_cases h : k < l.length
  · obtain ⟨c, hc⟩ : ∃ c, l[k]? = some c := ⟨_, List.getElem?_eq_getElem h⟩
    by_cases h1 : c.toNat < 48
    · exact .inl ⟨c, h, hc, h1⟩
    · by_cases h2 : 57 < c.toNat
      · exact .inr (.inl ⟨c, h, hc, h2⟩)
      · exact .inr (.inr (.inl ⟨c, h, hc, by omega⟩))
  · exact .inr (.inr (.inr (by omega)))
theorem pnumber_short (l : List UInt8) (w : World) (h : l.length < 1) :
    Calls Tryd.prog 74 #[.string ⟨l.toArray⟩] w (fun e w' => e = .returned (.tuple #[.int .u64 (((pnum l).1 : Nat) : Int), .bool (pnum l).2]) ∧ Keeps Nob w w') := by
  have hres := pnum_short h
  have K0 : Keeps Nob w w := Keeps.refl _ _
  refine sy_enter (qc37_1 1) ⟨#[.string ⟨l.toArray⟩, ud, ud, ud, ud, ud, ud, ud, ud, ud, ud, ud, ud, ud, ud, ud, ud, ud, ud, ud, ud, ud, ud, ud, ud, ud, ud, ud, ud, ud, ud, ud, ud, ud, ud, ud, ud, ud, ud, ud, ud, ud, ud, ud, ud, ud, ud, ud, ud], []⟩ Tryd.func74 (by kernel_rfl) (by kernel_rfl) <| sy_seq (qc37_1 2) (qc37_1 3) (by kernel_rfl) <| r_ [0, 1] <| ps_run ((opsAt (qc37_1 2)).getD 0 default) (.int .u64 0) (w' := w) (by kernel_rfl) (by kernel_rfl) (by kernel_rfl) <| ps_run ((opsAt (qc37_1 2)).getD 1 default) (.bool false) (w' := w) (by kernel_rfl) (by kernel_rfl) (by kernel_rfl) <| et_ <| sy_seq (qc37_1 6) (qc37_1 7) (by kernel_rfl) <| sy_seq (qc37_1 12) (qc37_1 13) (by kernel_rfl) <| r_ [0, 1, 2, 3, 4, 5, 6, 7, 8, 9, 10, 11, 12, 13, 14, 15, 16, 17] <| ps_run ((opsAt (qc37_1 12)).getD 0 default) (.string ⟨l.toArray⟩) (w' := w) (by kernel_rfl) (by kernel_rfl) (by kernel_rfl) <| ps_run ((opsAt (qc37_1 12)).getD 1 default) (.int .i64 ((l.length : Nat) : Int)) (w' := w) (by kernel_rfl) (by kernel_rfl) (exec_len_str (.tmp 6) 112 (by kernel_rfl) Tryd.underlying112 ⟨l.toArray⟩ (by kernel_rfl)) <| ps_run ((opsAt (qc37_1 12)).getD 2 default) (.bool true) (w' := w) (by kernel_rfl) (by kernel_rfl) (dct ((((l.length : Nat) : Int)) < ((1) : Int)) (by omega)) <| ps_run ((opsAt (qc37_1 12)).getD 3 default) (.bool true) (w' := w) (by kernel_rfl) (by kernel_rfl) (by kernel_rfl) <| ps_no ((opsAt (qc37_1 12)).getD 4 default) (by kernel_rfl) (by kernel_rfl) ?_
  refine ps_no ((opsAt (qc37_1 12)).getD 5 default) (by kernel_rfl) (by kernel_rfl) <| ps_no ((opsAt (qc37_1 12)).getD 6 default) (by kernel_rfl) (by kernel_rfl) <| ps_run ((opsAt (qc37_1 12)).getD 7 default) (.bool true) (w' := w) (by kernel_rfl) (by kernel_rfl) (by kernel_rfl) <| ps_run ((opsAt (qc37_1 12)).getD 8 default) (.bool true) (w' := w) (by kernel_rfl) (by kernel_rfl) (by kernel_rfl) <| ps_no ((opsAt (qc37_1 12)).getD 9 default) (by kernel_rfl) (by kernel_rfl) <| ps_no ((opsAt (qc37_1 12)).getD 10 default) (by kernel_rfl) (by kernel_rfl) <| ps_no ((opsAt (qc37_1 12)).getD 11 default) (by kernel_rfl) (by kernel_rfl) <| ps_no ((opsAt (qc37_1 12)).getD 12 default) (by kernel_rfl) (by kernel_rfl) <| ps_no ((opsAt (qc37_1 12)).getD 13 default) (by kernel_rfl) (by kernel_rfl) <| ps_no ((opsAt (qc37_1 12)).getD 14 default) (by kernel_rfl) (by kernel_rfl) <| ps_no ((opsAt (qc37_1 12)).getD 15 default) (by kernel_rfl) (by kernel_rfl) <| ps_no ((opsAt (qc37_1 12)).getD 16 default) (by kernel_rfl) (by kernel_rfl) <| ps_run ((opsAt (qc37_1 12)).getD 17 default) (.bool true) (w' := w) (by kernel_rfl) (by kernel_rfl) (by kernel_rfl) <| et_ ?_
  refine sy_yes (.tmp 23) (qc37_1 26) (qc37_1 27) (by kernel_rfl) (by kernel_rfl) <| sy_seq (qc37_1 52) (qc37_1 53) (by kernel_rfl) <| r_ [0, 1] <| ps_run ((opsAt (qc37_1 52)).getD 0 default) (.int .u64 0) (w' := w) (by kernel_rfl) (by kernel_rfl) (by kernel_rfl) <| ps_run ((opsAt (qc37_1 52)).getD 1 default) (.bool false) (w' := w) (by kernel_rfl) (by kernel_rfl) (by kernel_rfl) <| eu_ <| then_r <| so_ (.tuple #[.int .u64 0, .bool false]) ?_
  exact ⟨by rw [hres]; rfl, K0⟩
theorem pnumber_long (l : List UInt8) (w : World) (h : 10 < l.length) :
    Calls Tryd.prog 74 #[.string ⟨l.toArray⟩] w (fun e w' => e = .returned (.tuple #[.int .u64 (((pnum l).1 : Nat) : Int), .bool (pnum l).2]) ∧ Keeps Nob w w') := by
  have hres := pnum_long h
  have K0 : Keeps Nob w w := Keeps.refl _ _
  refine sy_enter (qc37_1 1) ⟨#[.string ⟨l.toArray⟩, ud, ud, ud, ud, ud, ud, ud, ud, ud, ud, ud, ud, ud, ud, ud, ud, ud, ud, ud, ud, ud, ud, ud, ud, ud, ud, ud, ud, ud, ud, ud, ud, ud, ud, ud, ud, ud, ud, ud, ud, ud, ud, ud, ud, ud, ud, ud, ud], []⟩ Tryd.func74 (by kernel_rfl) (by kernel_rfl) <| sy_seq (qc37_1 2) (qc37_1 3) (by kernel_rfl) <| r_ [0, 1] <| ps_run ((opsAt (qc37_1 2)).getD 0 default) (.int .u64 0) (w' := w) (by kernel_rfl) (by kernel_rfl) (by kernel_rfl) <| ps_run ((opsAt (qc37_1 2)).getD 1 default) (.bool false) (w' := w) (by kernel_rfl) (by kernel_rfl) (by kernel_rfl) <| et_ <| sy_seq (qc37_1 6) (qc37_1 7) (by kernel_rfl) <| sy_seq (qc37_1 12) (qc37_1 13) (by kernel_rfl) <| r_ [0, 1, 2, 3, 4, 5, 6, 7, 8, 9, 10, 11, 12, 13, 14, 15, 16, 17] <| ps_run ((opsAt (qc37_1 12)).getD 0 default) (.string ⟨l.toArray⟩) (w' := w) (by kernel_rfl) (by kernel_rfl) (by kernel_rfl) <| ps_run ((opsAt (qc37_1 12)).getD 1 default) (.int .i64 ((l.length : Nat) : Int)) (w' := w) (by kernel_rfl) (by kernel_rfl) (exec_len_str (.tmp 6) 112 (by kernel_rfl) Tryd.underlying112 ⟨l.toArray⟩ (by kernel_rfl)) <| ps_run ((opsAt (qc37_1 12)).getD 2 default) (.bool false) (w' := w) (by kernel_rfl) (by kernel_rfl) (dcf ((((l.length : Nat) : Int)) < ((1) : Int)) (by omega)) <| ps_run ((opsAt (qc37_1 12)).getD 3 default) (.bool false) (w' := w) (by kernel_rfl) (by kernel_rfl) (by kernel_rfl) <| ps_run ((opsAt (qc37_1 12)).getD 4 default) (.string ⟨l.toArray⟩) (w' := w) (by kernel_rfl) (by kernel_rfl) (by kernel_rfl) ?_
  refine ps_run ((opsAt (qc37_1 12)).getD 5 default) (.int .i64 ((l.length : Nat) : Int)) (w' := w) (by kernel_rfl) (by kernel_rfl) (exec_len_str (.tmp 10) 112 (by kernel_rfl) Tryd.underlying112 ⟨l.toArray⟩ (by kernel_rfl)) <| ps_run ((opsAt (qc37_1 12)).getD 6 default) (.bool true) (w' := w) (by kernel_rfl) (by kernel_rfl) (dct ((((l.length : Nat) : Int)) > ((10) : Int)) (by omega)) <| ps_run ((opsAt (qc37_1 12)).getD 7 default) (.bool true) (w' := w) (by kernel_rfl) (by kernel_rfl) (by kernel_rfl) <| ps_run ((opsAt (qc37_1 12)).getD 8 default) (.bool true) (w' := w) (by kernel_rfl) (by kernel_rfl) (by kernel_rfl) <| ps_no ((opsAt (qc37_1 12)).getD 9 default) (by kernel_rfl) (by kernel_rfl) <| ps_no ((opsAt (qc37_1 12)).getD 10 default) (by kernel_rfl) (by kernel_rfl) <| ps_no ((opsAt (qc37_1 12)).getD 11 default) (by kernel_rfl) (by kernel_rfl) <| ps_no ((opsAt (qc37_1 12)).getD 12 default) (by kernel_rfl) (by kernel_rfl) <| ps_no ((opsAt (qc37_1 12)).getD 13 default) (by kernel_rfl) (by kernel_rfl) <| ps_no ((opsAt (qc37_1 12)).getD 14 default) (by kernel_rfl) (by kernel_rfl) <| ps_no ((opsAt (qc37_1 12)).getD 15 default) (by kernel_rfl) (by kernel_rfl) <| ps_no ((opsAt (qc37_1 12)).getD 16 default) (by kernel_rfl) (by kernel_rfl) <| ps_run ((opsAt (qc37_1 12)).getD 17 default) (.bool true) (w' := w) (by kernel_rfl) (by kernel_rfl) (by kernel_rfl) <| et_ ?_
  refine sy_yes (.tmp 23) (qc37_1 26) (qc37_1 27) (by kernel_rfl) (by kernel_rfl) <| sy_seq (qc37_1 52) (qc37_1 53) (by kernel_rfl) <| r_ [0, 1] <| ps_run ((opsAt (qc37_1 52)).getD 0 default) (.int .u64 0) (w' := w) (by kernel_rfl) (by kernel_rfl) (by kernel_rfl) <| ps_run ((opsAt (qc37_1 52)).getD 1 default) (.bool false) (w' := w) (by kernel_rfl) (by kernel_rfl) (by kernel_rfl) <| eu_ <| then_r <| so_ (.tuple #[.int .u64 0, .bool false]) ?_
  exact ⟨by rw [hres]; rfl, K0⟩
theorem pnumber_zero (l : List UInt8) (w : World) (c0 : UInt8) (h0 : l[0]? = some c0) (hc0 : c0.toNat = 48) (h1 : 1 < l.length) (h10 : l.length ≤ 10) :
    Calls Tryd.prog 74 #[.string ⟨l.toArray⟩] w (fun e w' => e = .returned (.tuple #[.int .u64 (((pnum l).1 : Nat) : Int), .bool (pnum l).2]) ∧ Keeps Nob w w') := by
  have hres := pnum_zero h1 h0 hc0
  have K0 : Keeps Nob w w := Keeps.refl _ _
  refine sy_enter (qc37_1 1) ⟨#[.string ⟨l.toArray⟩, ud, ud, ud, ud, ud, ud, ud, ud, ud, ud, ud, ud, ud, ud, ud, ud, ud, ud, ud, ud, ud, ud, ud, ud, ud, ud, ud, ud, ud, ud, ud, ud, ud, ud, ud, ud, ud, ud, ud, ud, ud, ud, ud, ud, ud, ud, ud, ud], []⟩ Tryd.func74 (by kernel_rfl) (by kernel_rfl) <| sy_seq (qc37_1 2) (qc37_1 3) (by kernel_rfl) <| r_ [0, 1] <| ps_run ((opsAt (qc37_1 2)).getD 0 default) (.int .u64 0) (w' := w) (by kernel_rfl) (by kernel_rfl) (by kernel_rfl) <| ps_run ((opsAt (qc37_1 2)).getD 1 default) (.bool false) (w' := w) (by kernel_rfl) (by kernel_rfl) (by kernel_rfl) <| et_ <| sy_seq (qc37_1 6) (qc37_1 7) (by kernel_rfl) <| sy_seq (qc37_1 12) (qc37_1 13) (by kernel_rfl) <| r_ [0, 1, 2, 3, 4, 5, 6, 7, 8, 9, 10, 11, 12, 13, 14, 15, 16, 17] <| ps_run ((opsAt (qc37_1 12)).getD 0 default) (.string ⟨l.toArray⟩) (w' := w) (by kernel_rfl) (by kernel_rfl) (by kernel_rfl) <| ps_run ((opsAt (qc37_1 12)).getD 1 default) (.int .i64 ((l.length : Nat) : Int)) (w' := w) (by kernel_rfl) (by kernel_rfl) (exec_len_str (.tmp 6) 112 (by kernel_rfl) Tryd.underlying112 ⟨l.toArray⟩ (by kernel_rfl)) <| ps_run ((opsAt (qc37_1 12)).getD 2 default) (.bool false) (w' := w) (by kernel_rfl) (by kernel_rfl) (dcf ((((l.length : Nat) : Int)) < ((1) : Int)) (by omega)) <| ps_run ((opsAt (qc37_1 12)).getD 3 default) (.bool false) (w' := w) (by kernel_rfl) (by kernel_rfl) (by kernel_rfl) <| ps_run ((opsAt (qc37_1 12)).getD 4 default) (.string ⟨l.toArray⟩) (w' := w) (by kernel_rfl) (by kernel_rfl) (by kernel_rfl) ?_
  refine ps_run ((opsAt (qc37_1 12)).getD 5 default) (.int .i64 ((l.length : Nat) : Int)) (w' := w) (by kernel_rfl) (by kernel_rfl) (exec_len_str (.tmp 10) 112 (by kernel_rfl) Tryd.underlying112 ⟨l.toArray⟩ (by kernel_rfl)) <| ps_run ((opsAt (qc37_1 12)).getD 6 default) (.bool false) (w' := w) (by kernel_rfl) (by kernel_rfl) (dcf ((((l.length : Nat) : Int)) > ((10) : Int)) (by omega)) <| ps_run ((opsAt (qc37_1 12)).getD 7 default) (.bool false) (w' := w) (by kernel_rfl) (by kernel_rfl) (by kernel_rfl) <| ps_run ((opsAt (qc37_1 12)).getD 8 default) (.bool false) (w' := w) (by kernel_rfl) (by kernel_rfl) (by kernel_rfl) <| ps_run ((opsAt (qc37_1 12)).getD 9 default) (.string ⟨l.toArray⟩) (w' := w) (by kernel_rfl) (by kernel_rfl) (by kernel_rfl) <| ps_run ((opsAt (qc37_1 12)).getD 10 default) (.int .u8 ((c0.toNat : Nat) : Int)) (w' := w) (by kernel_rfl) (by kernel_rfl) (exec_index_str 112 (.tmp 15) (.const (.int .i64 0)) (by kernel_rfl) l (by kernel_rfl) .i64 0 (by kernel_rfl) Tryd.underlying112 c0 h0) <| ps_run ((opsAt (qc37_1 12)).getD 11 default) (.bool true) (w' := w) (by kernel_rfl) (by kernel_rfl) (eqt (((c0.toNat : Nat) : Int)) ((48) : Int) (by omega)) <| ps_run ((opsAt (qc37_1 12)).getD 12 default) (.bool true) (w' := w) (by kernel_rfl) (by kernel_rfl) (by kernel_rfl) <| ps_run ((opsAt (qc37_1 12)).getD 13 default) (.string ⟨l.toArray⟩) (w' := w) (by kernel_rfl) (by kernel_rfl) (by kernel_rfl) <| ps_run ((opsAt (qc37_1 12)).getD 14 default) (.int .i64 ((l.length : Nat) : Int)) (w' := w) (by kernel_rfl) (by kernel_rfl) (exec_len_str (.tmp 19) 112 (by kernel_rfl) Tryd.underlying112 ⟨l.toArray⟩ (by kernel_rfl)) <| ps_run ((opsAt (qc37_1 12)).getD 15 default) (.bool true) (w' := w) (by kernel_rfl) (by kernel_rfl) (dct ((((l.length : Nat) : Int)) > ((1) : Int)) (by omega)) <| ps_run ((opsAt (qc37_1 12)).getD 16 default) (.bool true) (w' := w) (by kernel_rfl) (by kernel_rfl) (by kernel_rfl) <| ps_run ((opsAt (qc37_1 12)).getD 17 default) (.bool true) (w' := w) (by kernel_rfl) (by kernel_rfl) (by kernel_rfl) <| et_ ?_
  refine sy_yes (.tmp 23) (qc37_1 26) (qc37_1 27) (by kernel_rfl) (by kernel_rfl) <| sy_seq (qc37_1 52) (qc37_1 53) (by kernel_rfl) <| r_ [0, 1] <| ps_run ((opsAt (qc37_1 52)).getD 0 default) (.int .u64 0) (w' := w) (by kernel_rfl) (by kernel_rfl) (by kernel_rfl) <| ps_run ((opsAt (qc37_1 52)).getD 1 default) (.bool false) (w' := w) (by kernel_rfl) (by kernel_rfl) (by kernel_rfl) <| eu_ <| then_r <| so_ (.tuple #[.int .u64 0, .bool false]) ?_
  exact ⟨by rw [hres]; rfl, K0⟩
theorem pnumber_one (l : List UInt8) (w : World) (c0 : UInt8) (h0 : l[0]? = some c0) (hc0 : c0.toNat = 48) (h1 : l.length = 1) :
    Calls Tryd.prog 74 #[.string ⟨l.toArray⟩] w (fun e w' => e = .returned (.tuple #[.int .u64 (((pnum l).1 : Nat) : Int), .bool (pnum l).2]) ∧ Keeps Nob w w') := by
  have h10 : l.length ≤ 10 := by omega
  have hz : l.length ≤ 1 ∨ ∃ c : UInt8, l[0]? = some c ∧ c.toNat ≠ 48 := .inl (by omega)
  have K0 : Keeps Nob w w := Keeps.refl _ _
  refine sy_enter (qc37_1 1) ⟨#[.string ⟨l.toArray⟩, ud, ud, ud, ud, ud, ud, ud, ud, ud, ud, ud, ud, ud, ud, ud, ud, ud, ud, ud, ud, ud, ud, ud, ud, ud, ud, ud, ud, ud, ud, ud, ud, ud, ud, ud, ud, ud, ud, ud, ud, ud, ud, ud, ud, ud, ud, ud, ud], []⟩ Tryd.func74 (by kernel_rfl) (by kernel_rfl) <| sy_seq (qc37_1 2) (qc37_1 3) (by kernel_rfl) <| r_ [0, 1] <| ps_run ((opsAt (qc37_1 2)).getD 0 default) (.int .u64 0) (w' := w) (by kernel_rfl) (by kernel_rfl) (by kernel_rfl) <| ps_run ((opsAt (qc37_1 2)).getD 1 default) (.bool false) (w' := w) (by kernel_rfl) (by kernel_rfl) (by kernel_rfl) <| et_ <| sy_seq (qc37_1 6) (qc37_1 7) (by kernel_rfl) <| sy_seq (qc37_1 12) (qc37_1 13) (by kernel_rfl) <| r_ [0, 1, 2, 3, 4, 5, 6, 7, 8, 9, 10, 11, 12, 13, 14, 15, 16, 17] <| ps_run ((opsAt (qc37_1 12)).getD 0 default) (.string ⟨l.toArray⟩) (w' := w) (by kernel_rfl) (by kernel_rfl) (by kernel_rfl) <| ps_run ((opsAt (qc37_1 12)).getD 1 default) (.int .i64 ((l.length : Nat) : Int)) (w' := w) (by kernel_rfl) (by kernel_rfl) (exec_len_str (.tmp 6) 112 (by kernel_rfl) Tryd.underlying112 ⟨l.toArray⟩ (by kernel_rfl)) <| ps_run ((opsAt (qc37_1 12)).getD 2 default) (.bool false) (w' := w) (by kernel_rfl) (by kernel_rfl) (dcf ((((l.length : Nat) : Int)) < ((1) : Int)) (by omega)) <| ps_run ((opsAt (qc37_1 12)).getD 3 default) (.bool false) (w' := w) (by kernel_rfl) (by kernel_rfl) (by kernel_rfl) <| ps_run ((opsAt (qc37_1 12)).getD 4 default) (.string ⟨l.toArray⟩) (w' := w) (by kernel_rfl) (by kernel_rfl) (by kernel_rfl) ?_
  refine ps_run ((opsAt (qc37_1 12)).getD 5 default) (.int .i64 ((l.length : Nat) : Int)) (w' := w) (by kernel_rfl) (by kernel_rfl) (exec_len_str (.tmp 10) 112 (by kernel_rfl) Tryd.underlying112 ⟨l.toArray⟩ (by kernel_rfl)) <| ps_run ((opsAt (qc37_1 12)).getD 6 default) (.bool false) (w' := w) (by kernel_rfl) (by kernel_rfl) (dcf ((((l.length : Nat) : Int)) > ((10) : Int)) (by omega)) <| ps_run ((opsAt (qc37_1 12)).getD 7 default) (.bool false) (w' := w) (by kernel_rfl) (by kernel_rfl) (by kernel_rfl) <| ps_run ((opsAt (qc37_1 12)).getD 8 default) (.bool false) (w' := w) (by kernel_rfl) (by kernel_rfl) (by kernel_rfl) <| ps_run ((opsAt (qc37_1 12)).getD 9 default) (.string ⟨l.toArray⟩) (w' := w) (by kernel_rfl) (by kernel_rfl) (by kernel_rfl) <| ps_run ((opsAt (qc37_1 12)).getD 10 default) (.int .u8 ((c0.toNat : Nat) : Int)) (w' := w) (by kernel_rfl) (by kernel_rfl) (exec_index_str 112 (.tmp 15) (.const (.int .i64 0)) (by kernel_rfl) l (by kernel_rfl) .i64 0 (by kernel_rfl) Tryd.underlying112 c0 h0) <| ps_run ((opsAt (qc37_1 12)).getD 11 default) (.bool true) (w' := w) (by kernel_rfl) (by kernel_rfl) (eqt (((c0.toNat : Nat) : Int)) ((48) : Int) (by omega)) <| ps_run ((opsAt (qc37_1 12)).getD 12 default) (.bool true) (w' := w) (by kernel_rfl) (by kernel_rfl) (by kernel_rfl) <| ps_run ((opsAt (qc37_1 12)).getD 13 default) (.string ⟨l.toArray⟩) (w' := w) (by kernel_rfl) (by kernel_rfl) (by kernel_rfl) <| ps_run ((opsAt (qc37_1 12)).getD 14 default) (.int .i64 ((l.length : Nat) : Int)) (w' := w) (by kernel_rfl) (by kernel_rfl) (exec_len_str (.tmp 19) 112 (by kernel_rfl) Tryd.underlying112 ⟨l.toArray⟩ (by kernel_rfl)) <| ps_run ((opsAt (qc37_1 12)).getD 15 default) (.bool false) (w' := w) (by kernel_rfl) (by kernel_rfl) (dcf ((((l.length : Nat) : Int)) > ((1) : Int)) (by omega)) <| ps_run ((opsAt (qc37_1 12)).getD 16 default) (.bool false) (w' := w) (by kernel_rfl) (by kernel_rfl) (by kernel_rfl) <| ps_run ((opsAt (qc37_1 12)).getD 17 default) (.bool false) (w' := w) (by kernel_rfl) (by kernel_rfl) (by kernel_rfl) <| et_ ?_
  refine sy_no (.tmp 23) (qc37_1 26) (qc37_1 27) (by kernel_rfl) (by kernel_rfl) <| sy_skip (by kernel_rfl) <| then_n <| sy_seq (qc37_1 14) (qc37_1 15) (by kernel_rfl) <| r_ [0] <| ps_run ((opsAt (qc37_1 14)).getD 0 default) (.int .u64 0) (w' := w) (by kernel_rfl) (by kernel_rfl) (by kernel_rfl) <| et_ <| sy_seq (qc37_1 30) (qc37_1 31) (by kernel_rfl) <| sy_seq (qc37_1 60) (qc37_1 61) (by kernel_rfl) <| r_ [0, 1, 2] <| ps_run ((opsAt (qc37_1 60)).getD 0 default) (.string ⟨l.toArray⟩) (w' := w) (by kernel_rfl) (by kernel_rfl) (by kernel_rfl) <| ps_run ((opsAt (qc37_1 60)).getD 1 default) (.int .i64 ((l.length : Nat) : Int)) (w' := w) (by kernel_rfl) (by kernel_rfl) (exec_len_str (.tmp 24) 112 (by kernel_rfl) Tryd.underlying112 ⟨l.toArray⟩ (by kernel_rfl)) <| ps_run ((opsAt (qc37_1 60)).getD 2 default) (.int .i64 0) (w' := w) (by kernel_rfl) (by kernel_rfl) (by kernel_rfl) <| ps_end ?_
  refine sy_act ⟨#[.string ⟨l.toArray⟩, ud, .int .u64 0, .bool false, .int .u64 0, ud, .string ⟨l.toArray⟩, .int .i64 ((l.length : Nat) : Int), .bool false, .bool false, .string ⟨l.toArray⟩, .int .i64 ((l.length : Nat) : Int), .bool false, .bool false, .bool false, .string ⟨l.toArray⟩, .int .u8 ((c0.toNat : Nat) : Int), .bool true, .bool true, .string ⟨l.toArray⟩, .int .i64 ((l.length : Nat) : Int), .bool false, .bool false, .bool false, .string ⟨l.toArray⟩, .int .i64 ((l.length : Nat) : Int), .int .i64 0, ud, ud, ud, ud, ud, ud, ud, ud, ud, ud, ud, ud, ud, ud, ud, ud, ud, ud, ud, ud, ud, ud], []⟩ (by kernel_rfl) <| then_n <| sy_block 0 (qc37_1 122) (by kernel_rfl) ?_
  refine sy_loop (qc37_1 244) (fun a V => ∃ (k : Nat) (u2 u3 u5 u27 u28 u29 u30 u31 u32 u33 u34 u35 u36 u37 u38 u39 u40 u41 u42 u43 u44 u45 u46 u47 : Value), (a = ⟨#[.string ⟨l.toArray⟩, ud, u2, u3, .int .u64 ((dval (l.take k) : Nat) : Int), u5, .string ⟨l.toArray⟩, .int .i64 ((l.length : Nat) : Int), .bool false, .bool false, .string ⟨l.toArray⟩, .int .i64 ((l.length : Nat) : Int), .bool false, .bool false, .bool false, .string ⟨l.toArray⟩, .int .u8 ((c0.toNat : Nat) : Int), .bool true, .bool true, .string ⟨l.toArray⟩, .int .i64 ((l.length : Nat) : Int), .bool false, .bool false, .bool false, .string ⟨l.toArray⟩, .int .i64 ((l.length : Nat) : Int), .int .i64 ((k : Nat) : Int), u27, u28, u29, u30, u31, u32, u33, u34, u35, u36, u37, u38, u39, u40, u41, u42, u43, u44, u45, u46, u47, ud], []⟩) ∧ (k ≤ l.length) ∧ ((l.take k).all isd = true) ∧ (Keeps Nob w V)) (fun a _ => l.length - (intOf (a.tmps.getD 26 undef)).toNat) (by kernel_rfl) ?_ ?_
  · exact ⟨0, (.int .u64 0), (.bool false), undef, undef, undef, undef, undef, undef, undef, undef, undef, undef, undef, undef, undef, undef, undef, undef, undef, undef, undef, undef, undef, undef, by kernel_rfl, Nat.zero_le _, rfl, K0⟩
  · rintro a V1 ⟨k, u2, u3, u5, u27, u28, u29, u30, u31, u32, u33, u34, u35, u36, u37, u38, u39, u40, u41, u42, u43, u44, u45, u46, u47, rfl, hk, hall, K2⟩
    rcases num_cases l k hk with ⟨c, lt_k, hc, hd⟩ | ⟨c, lt_k, hc, hd⟩ | ⟨c, lt_k, hc, hd⟩ | eq_k
    · have hres := pnum_bad hc (by omega)
      refine sy_seq (qc37_1 488) (qc37_1 489) (by kernel_rfl) <| r_ [0] <| ps_run ((opsAt (qc37_1 488)).getD 0 default) (.bool true) (w' := V1) (by kernel_rfl) (by kernel_rfl) (dct ((((k : Nat) : Int)) < (((l.length : Nat) : Int))) (by omega)) <| et_ <| sy_seq (qc37_1 978) (qc37_1 979) (by kernel_rfl) <| sy_yes (.tmp 27) (qc37_1 1956) (qc37_1 1957) (by kernel_rfl) (by kernel_rfl) <| sy_skip (by kernel_rfl) <| then_n <| sy_seq (qc37_1 1958) (qc37_1 1959) (by kernel_rfl) <| sy_block 1 (qc37_1 3916) (by kernel_rfl) <| sy_seq (qc37_1 7832) (qc37_1 7833) (by kernel_rfl) <| r_ [0, 1] <| ps_run ((opsAt (qc37_1 7832)).getD 0 default) (.int .i64 ((k : Nat) : Int)) (w' := V1) (by kernel_rfl) (by kernel_rfl) (by kernel_rfl) <| ps_run ((opsAt (qc37_1 7832)).getD 1 default) (.int .i64 ((k : Nat) : Int)) (w' := V1) (by kernel_rfl) (by kernel_rfl) (by kernel_rfl) ?_
      refine et_ <| sy_seq (qc37_1 15666) (qc37_1 15667) (by kernel_rfl) <| sy_seq (qc37_1 31332) (qc37_1 31333) (by kernel_rfl) <| r_ [0, 1, 2, 3, 4, 5, 6, 7, 8, 9] <| ps_run ((opsAt (qc37_1 31332)).getD 0 default) (.string ⟨l.toArray⟩) (w' := V1) (by kernel_rfl) (by kernel_rfl) (by kernel_rfl) <| ps_run ((opsAt (qc37_1 31332)).getD 1 default) (.int .i64 ((k : Nat) : Int)) (w' := V1) (by kernel_rfl) (by kernel_rfl) (by kernel_rfl) <| ps_run ((opsAt (qc37_1 31332)).getD 2 default) (.int .u8 ((c.toNat : Nat) : Int)) (w' := V1) (by kernel_rfl) (by kernel_rfl) (exec_index_str 112 (.tmp 29) (.tmp 30) (by kernel_rfl) l (by kernel_rfl) .i64 k (by kernel_rfl) Tryd.underlying112 c hc) <| ps_run ((opsAt (qc37_1 31332)).getD 3 default) (.bool true) (w' := V1) (by kernel_rfl) (by kernel_rfl) (dct ((((c.toNat : Nat) : Int)) < ((48) : Int)) (by omega)) <| ps_run ((opsAt (qc37_1 31332)).getD 4 default) (.bool true) (w' := V1) (by kernel_rfl) (by kernel_rfl) (by kernel_rfl) <| ps_no ((opsAt (qc37_1 31332)).getD 5 default) (by kernel_rfl) (by kernel_rfl) <| ps_no ((opsAt (qc37_1 31332)).getD 6 default) (by kernel_rfl) (by kernel_rfl) <| ps_no ((opsAt (qc37_1 31332)).getD 7 default) (by kernel_rfl) (by kernel_rfl) <| ps_no ((opsAt (qc37_1 31332)).getD 8 default) (by kernel_rfl) (by kernel_rfl) <| ps_run ((opsAt (qc37_1 31332)).getD 9 default) (.bool true) (w' := V1) (by kernel_rfl) (by kernel_rfl) (by kernel_rfl) ?_
      refine et_ <| sy_yes (.tmp 38) (qc37_1 62666) (qc37_1 62667) (by kernel_rfl) (by kernel_rfl) <| sy_seq (qc37_1 125332) (qc37_1 125333) (by kernel_rfl) <| r_ [0, 1] <| ps_run ((opsAt (qc37_1 125332)).getD 0 default) (.int .u64 0) (w' := V1) (by kernel_rfl) (by kernel_rfl) (by kernel_rfl) <| ps_run ((opsAt (qc37_1 125332)).getD 1 default) (.bool false) (w' := V1) (by kernel_rfl) (by kernel_rfl) (by kernel_rfl) <| eu_ <| then_r <| blk_r <| then_r <| then_r <| blk_r <| then_r <| so_ (.tuple #[.int .u64 0, .bool false]) ?_
      exact ⟨by first | (rw [hres]; done) | (rw [hres]; rfl) | (rw [hres, etk]), K2⟩
    · have hres := pnum_bad hc (by omega)
      refine sy_seq (qc37_1 488) (qc37_1 489) (by kernel_rfl) <| r_ [0] <| ps_run ((opsAt (qc37_1 488)).getD 0 default) (.bool true) (w' := V1) (by kernel_rfl) (by kernel_rfl) (dct ((((k : Nat) : Int)) < (((l.length : Nat) : Int))) (by omega)) <| et_ <| sy_seq (qc37_1 978) (qc37_1 979) (by kernel_rfl) <| sy_yes (.tmp 27) (qc37_1 1956) (qc37_1 1957) (by kernel_rfl) (by kernel_rfl) <| sy_skip (by kernel_rfl) <| then_n <| sy_seq (qc37_1 1958) (qc37_1 1959) (by kernel_rfl) <| sy_block 1 (qc37_1 3916) (by kernel_rfl) <| sy_seq (qc37_1 7832) (qc37_1 7833) (by kernel_rfl) <| r_ [0, 1] <| ps_run ((opsAt (qc37_1 7832)).getD 0 default) (.int .i64 ((k : Nat) : Int)) (w' := V1) (by kernel_rfl) (by kernel_rfl) (by kernel_rfl) <| ps_run ((opsAt (qc37_1 7832)).getD 1 default) (.int .i64 ((k : Nat) : Int)) (w' := V1) (by kernel_rfl) (by kernel_rfl) (by kernel_rfl) ?_
      refine et_ <| sy_seq (qc37_1 15666) (qc37_1 15667) (by kernel_rfl) <| sy_seq (qc37_1 31332) (qc37_1 31333) (by kernel_rfl) <| r_ [0, 1, 2, 3, 4, 5, 6, 7, 8, 9] <| ps_run ((opsAt (qc37_1 31332)).getD 0 default) (.string ⟨l.toArray⟩) (w' := V1) (by kernel_rfl) (by kernel_rfl) (by kernel_rfl) <| ps_run ((opsAt (qc37_1 31332)).getD 1 default) (.int .i64 ((k : Nat) : Int)) (w' := V1) (by kernel_rfl) (by kernel_rfl) (by kernel_rfl) <| ps_run ((opsAt (qc37_1 31332)).getD 2 default) (.int .u8 ((c.toNat : Nat) : Int)) (w' := V1) (by kernel_rfl) (by kernel_rfl) (exec_index_str 112 (.tmp 29) (.tmp 30) (by kernel_rfl) l (by kernel_rfl) .i64 k (by kernel_rfl) Tryd.underlying112 c hc) <| ps_run ((opsAt (qc37_1 31332)).getD 3 default) (.bool false) (w' := V1) (by kernel_rfl) (by kernel_rfl) (dcf ((((c.toNat : Nat) : Int)) < ((48) : Int)) (by omega)) <| ps_run ((opsAt (qc37_1 31332)).getD 4 default) (.bool false) (w' := V1) (by kernel_rfl) (by kernel_rfl) (by kernel_rfl) <| ps_run ((opsAt (qc37_1 31332)).getD 5 default) (.string ⟨l.toArray⟩) (w' := V1) (by kernel_rfl) (by kernel_rfl) (by kernel_rfl) <| ps_run ((opsAt (qc37_1 31332)).getD 6 default) (.int .i64 ((k : Nat) : Int)) (w' := V1) (by kernel_rfl) (by kernel_rfl) (by kernel_rfl) <| ps_run ((opsAt (qc37_1 31332)).getD 7 default) (.int .u8 ((c.toNat : Nat) : Int)) (w' := V1) (by kernel_rfl) (by kernel_rfl) (exec_index_str 112 (.tmp 34) (.tmp 35) (by kernel_rfl) l (by kernel_rfl) .i64 k (by kernel_rfl) Tryd.underlying112 c hc) <| ps_run ((opsAt (qc37_1 31332)).getD 8 default) (.bool true) (w' := V1) (by kernel_rfl) (by kernel_rfl) (dct ((((c.toNat : Nat) : Int)) > ((57) : Int)) (by omega)) <| ps_run ((opsAt (qc37_1 31332)).getD 9 default) (.bool true) (w' := V1) (by kernel_rfl) (by kernel_rfl) (by kernel_rfl) ?_
      refine et_ <| sy_yes (.tmp 38) (qc37_1 62666) (qc37_1 62667) (by kernel_rfl) (by kernel_rfl) <| sy_seq (qc37_1 125332) (qc37_1 125333) (by kernel_rfl) <| r_ [0, 1] <| ps_run ((opsAt (qc37_1 125332)).getD 0 default) (.int .u64 0) (w' := V1) (by kernel_rfl) (by kernel_rfl) (by kernel_rfl) <| ps_run ((opsAt (qc37_1 125332)).getD 1 default) (.bool false) (w' := V1) (by kernel_rfl) (by kernel_rfl) (by kernel_rfl) <| eu_ <| then_r <| blk_r <| then_r <| then_r <| blk_r <| then_r <| so_ (.tuple #[.int .u64 0, .bool false]) ?_
      exact ⟨by first | (rw [hres]; done) | (rw [hres]; rfl) | (rw [hres, etk]), K2⟩
    · have hv := dval10 (Nat.le_trans hk h10) hk hall
      have hp := pow10_le (Nat.le_trans hk h10)
      refine sy_seq (qc37_1 488) (qc37_1 489) (by kernel_rfl) <| r_ [0] <| ps_run ((opsAt (qc37_1 488)).getD 0 default) (.bool true) (w' := V1) (by kernel_rfl) (by kernel_rfl) (dct ((((k : Nat) : Int)) < (((l.length : Nat) : Int))) (by omega)) <| et_ <| sy_seq (qc37_1 978) (qc37_1 979) (by kernel_rfl) <| sy_yes (.tmp 27) (qc37_1 1956) (qc37_1 1957) (by kernel_rfl) (by kernel_rfl) <| sy_skip (by kernel_rfl) <| then_n <| sy_seq (qc37_1 1958) (qc37_1 1959) (by kernel_rfl) <| sy_block 1 (qc37_1 3916) (by kernel_rfl) <| sy_seq (qc37_1 7832) (qc37_1 7833) (by kernel_rfl) <| r_ [0, 1] <| ps_run ((opsAt (qc37_1 7832)).getD 0 default) (.int .i64 ((k : Nat) : Int)) (w' := V1) (by kernel_rfl) (by kernel_rfl) (by kernel_rfl) <| ps_run ((opsAt (qc37_1 7832)).getD 1 default) (.int .i64 ((k : Nat) : Int)) (w' := V1) (by kernel_rfl) (by kernel_rfl) (by kernel_rfl) ?_
      refine et_ <| sy_seq (qc37_1 15666) (qc37_1 15667) (by kernel_rfl) <| sy_seq (qc37_1 31332) (qc37_1 31333) (by kernel_rfl) <| r_ [0, 1, 2, 3, 4, 5, 6, 7, 8, 9] <| ps_run ((opsAt (qc37_1 31332)).getD 0 default) (.string ⟨l.toArray⟩) (w' := V1) (by kernel_rfl) (by kernel_rfl) (by kernel_rfl) <| ps_run ((opsAt (qc37_1 31332)).getD 1 default) (.int .i64 ((k : Nat) : Int)) (w' := V1) (by kernel_rfl) (by kernel_rfl) (by kernel_rfl) <| ps_run ((opsAt (qc37_1 31332)).getD 2 default) (.int .u8 ((c.toNat : Nat) : Int)) (w' := V1) (by kernel_rfl) (by kernel_rfl) (exec_index_str 112 (.tmp 29) (.tmp 30) (by kernel_rfl) l (by kernel_rfl) .i64 k (by kernel_rfl) Tryd.underlying112 c hc) <| ps_run ((opsAt (qc37_1 31332)).getD 3 default) (.bool false) (w' := V1) (by kernel_rfl) (by kernel_rfl) (dcf ((((c.toNat : Nat) : Int)) < ((48) : Int)) (by omega)) <| ps_run ((opsAt (qc37_1 31332)).getD 4 default) (.bool false) (w' := V1) (by kernel_rfl) (by kernel_rfl) (by kernel_rfl) <| ps_run ((opsAt (qc37_1 31332)).getD 5 default) (.string ⟨l.toArray⟩) (w' := V1) (by kernel_rfl) (by kernel_rfl) (by kernel_rfl) <| ps_run ((opsAt (qc37_1 31332)).getD 6 default) (.int .i64 ((k : Nat) : Int)) (w' := V1) (by kernel_rfl) (by kernel_rfl) (by kernel_rfl) <| ps_run ((opsAt (qc37_1 31332)).getD 7 default) (.int .u8 ((c.toNat : Nat) : Int)) (w' := V1) (by kernel_rfl) (by kernel_rfl) (exec_index_str 112 (.tmp 34) (.tmp 35) (by kernel_rfl) l (by kernel_rfl) .i64 k (by kernel_rfl) Tryd.underlying112 c hc) <| ps_run ((opsAt (qc37_1 31332)).getD 8 default) (.bool false) (w' := V1) (by kernel_rfl) (by kernel_rfl) (dcf ((((c.toNat : Nat) : Int)) > ((57) : Int)) (by omega)) <| ps_run ((opsAt (qc37_1 31332)).getD 9 default) (.bool false) (w' := V1) (by kernel_rfl) (by kernel_rfl) (by kernel_rfl) ?_
      refine et_ <| sy_no (.tmp 38) (qc37_1 62666) (qc37_1 62667) (by kernel_rfl) (by kernel_rfl) <| sy_skip (by kernel_rfl) <| tr_ [0, 1, 2, 3, 4, 5, 6, 7, 8] <| ps_run ((opsAt (qc37_1 15667)).getD 0 default) (.int .u64 ((dval (l.take k) : Nat) : Int)) (w' := V1) (by kernel_rfl) (by kernel_rfl) (by kernel_rfl) <| ps_run ((opsAt (qc37_1 15667)).getD 1 default) (.int .u64 ((10 * dval (l.take k) : Nat) : Int)) (w' := V1) (by kernel_rfl) (by kernel_rfl) (exec_cast (congrArg (Value.int .u64) (wrap_u64_n (10 * dval (l.take k)) (by omega))) (by kernel_rfl)) <| ps_run ((opsAt (qc37_1 15667)).getD 2 default) (.string ⟨l.toArray⟩) (w' := V1) (by kernel_rfl) (by kernel_rfl) (by kernel_rfl) <| ps_run ((opsAt (qc37_1 15667)).getD 3 default) (.int .i64 ((k : Nat) : Int)) (w' := V1) (by kernel_rfl) (by kernel_rfl) (by kernel_rfl) <| ps_run ((opsAt (qc37_1 15667)).getD 4 default) (.int .u8 ((c.toNat : Nat) : Int)) (w' := V1) (by kernel_rfl) (by kernel_rfl) (exec_index_str 112 (.tmp 41) (.tmp 42) (by kernel_rfl) l (by kernel_rfl) .i64 k (by kernel_rfl) Tryd.underlying112 c hc) <| ps_run ((opsAt (qc37_1 15667)).getD 5 default) (.int .u8 ((c.toNat - 48 : Nat) : Int)) (w' := V1) (by kernel_rfl) (by kernel_rfl) (exec_cast (congrArg (Value.int .u8) (wrap_u8_sub hd.1 hd.2)) (by kernel_rfl)) <| ps_run ((opsAt (qc37_1 15667)).getD 6 default) (.int .u64 ((c.toNat - 48 : Nat) : Int)) (w' := V1) (by kernel_rfl) (by kernel_rfl) (exec_convert 5 22 (.tmp 44) (by kernel_rfl) _ (by kernel_rfl) (conv_u8_u64 (by omega) _)) <| ps_run ((opsAt (qc37_1 15667)).getD 7 default) (.int .u64 ((dval (l.take (k + 1)) : Nat) : Int)) (w' := V1) (by kernel_rfl) (by kernel_rfl) (exec_cast (congrArg (fun n : Nat => Value.int .u64 ((n : Nat) : Int)) (dval_take hc).symm) (exec_cast (congrArg (Value.int .u64) (wrap_u64_n (10 * dval (l.take k) + (c.toNat - 48)) (by omega))) (by kernel_rfl))) <| ps_run ((opsAt (qc37_1 15667)).getD 8 default) (.int .u64 ((dval (l.take (k + 1)) : Nat) : Int)) (w' := V1) (by kernel_rfl) (by kernel_rfl) (by kernel_rfl) <| ps_end ?_
      refine blk_n <| tr_ [0, 1] <| ps_run ((opsAt (qc37_1 1959)).getD 0 default) (.int .i64 ((k + 1 : Nat) : Int)) (w' := V1) (by kernel_rfl) (by kernel_rfl) (exec_cast (congrArg (Value.int .i64) (wrapN (k + 1) (by omega))) (by kernel_rfl)) <| ps_run ((opsAt (qc37_1 1959)).getD 1 default) (.int .i64 ((k + 1 : Nat) : Int)) (w' := V1) (by kernel_rfl) (by kernel_rfl) (by kernel_rfl) <| ps_end <| sy_act ⟨#[.string ⟨l.toArray⟩, ud, u2, u3, .int .u64 ((dval (l.take (k + 1)) : Nat) : Int), .int .i64 ((k : Nat) : Int), .string ⟨l.toArray⟩, .int .i64 ((l.length : Nat) : Int), .bool false, .bool false, .string ⟨l.toArray⟩, .int .i64 ((l.length : Nat) : Int), .bool false, .bool false, .bool false, .string ⟨l.toArray⟩, .int .u8 ((c0.toNat : Nat) : Int), .bool true, .bool true, .string ⟨l.toArray⟩, .int .i64 ((l.length : Nat) : Int), .bool false, .bool false, .bool false, .string ⟨l.toArray⟩, .int .i64 ((l.length : Nat) : Int), .int .i64 ((k + 1 : Nat) : Int), .bool true, .int .i64 ((k : Nat) : Int), .string ⟨l.toArray⟩, .int .i64 ((k : Nat) : Int), .int .u8 ((c.toNat : Nat) : Int), .bool false, .bool false, .string ⟨l.toArray⟩, .int .i64 ((k : Nat) : Int), .int .u8 ((c.toNat : Nat) : Int), .bool false, .bool false, .int .u64 ((dval (l.take k) : Nat) : Int), .int .u64 ((10 * dval (l.take k) : Nat) : Int), .string ⟨l.toArray⟩, .int .i64 ((k : Nat) : Int), .int .u8 ((c.toNat : Nat) : Int), .int .u8 ((c.toNat - 48 : Nat) : Int), .int .u64 ((c.toNat - 48 : Nat) : Int), .int .u64 ((dval (l.take (k + 1)) : Nat) : Int), .int .i64 ((k + 1 : Nat) : Int), ud], []⟩ (by kernel_rfl) <| then_n ?_
      refine ⟨⟨k + 1, u2, u3, (.int .i64 ((k : Nat) : Int)), (.bool true), (.int .i64 ((k : Nat) : Int)), (.string ⟨l.toArray⟩), (.int .i64 ((k : Nat) : Int)), (.int .u8 ((c.toNat : Nat) : Int)), (.bool false), (.bool false), (.string ⟨l.toArray⟩), (.int .i64 ((k : Nat) : Int)), (.int .u8 ((c.toNat : Nat) : Int)), (.bool false), (.bool false), (.int .u64 ((dval (l.take k) : Nat) : Int)), (.int .u64 ((10 * dval (l.take k) : Nat) : Int)), (.string ⟨l.toArray⟩), (.int .i64 ((k : Nat) : Int)), (.int .u8 ((c.toNat : Nat) : Int)), (.int .u8 ((c.toNat - 48 : Nat) : Int)), (.int .u64 ((c.toNat - 48 : Nat) : Int)), (.int .u64 ((dval (l.take (k + 1)) : Nat) : Int)), (.int .i64 ((k + 1 : Nat) : Int)), by kernel_rfl, by omega, all_take hc hall hd, K2⟩, ?_⟩
      exact lt_meas (x := l.length - (k + 1)) (y := l.length - k) (by kernel_rfl) (by kernel_rfl) (by omega)
    · have hres := pnum_good (l := l) (by omega) (by omega) hz (by rw [List.take_of_length_le (by omega)] at hall; exact hall)
      have etk : l.take k = l := List.take_of_length_le (by omega)
      refine sy_seq (qc37_1 488) (qc37_1 489) (by kernel_rfl) <| r_ [0] <| ps_run ((opsAt (qc37_1 488)).getD 0 default) (.bool false) (w' := V1) (by kernel_rfl) (by kernel_rfl) (dcf ((((k : Nat) : Int)) < (((l.length : Nat) : Int))) (by omega)) <| et_ <| sy_seq (qc37_1 978) (qc37_1 979) (by kernel_rfl) <| sy_no (.tmp 27) (qc37_1 1956) (qc37_1 1957) (by kernel_rfl) (by kernel_rfl) <| sy_exit 0 (by kernel_rfl) <| then_e <| then_e <| blk_e <| then_n <| sy_seq (qc37_1 62) (qc37_1 63) (by kernel_rfl) <| r_ [0, 1, 2] <| ps_run ((opsAt (qc37_1 62)).getD 0 default) (.int .u64 ((dval (l.take k) : Nat) : Int)) (w' := V1) (by kernel_rfl) (by kernel_rfl) (by kernel_rfl) ?_
      refine ps_run ((opsAt (qc37_1 62)).getD 1 default) (.int .u64 ((dval (l.take k) : Nat) : Int)) (w' := V1) (by kernel_rfl) (by kernel_rfl) (by kernel_rfl) <| ps_run ((opsAt (qc37_1 62)).getD 2 default) (.bool true) (w' := V1) (by kernel_rfl) (by kernel_rfl) (by kernel_rfl) <| eu_ <| so_ (.tuple #[.int .u64 ((dval (l.take k) : Nat) : Int), .bool true]) ?_
      exact ⟨by first | (rw [hres]; done) | (rw [hres]; rfl) | (rw [hres, etk]), K2⟩
theorem pnumber_go (l : List UInt8) (w : World) (c0 : UInt8) (h0 : l[0]? = some c0) (hc0 : c0.toNat ≠ 48) (h10 : l.length ≤ 10) :
    Calls Tryd.prog 74 #[.string ⟨l.toArray⟩] w (fun e w' => e = .returned (.tuple #[.int .u64 (((pnum l).1 : Nat) : Int), .bool (pnum l).2]) ∧ Keeps Nob w w') := by
  have h1 : 0 < l.length := (List.getElem?_eq_some_iff.1 h0).1
  have hz : l.length ≤ 1 ∨ ∃ c : UInt8, l[0]? = some c ∧ c.toNat ≠ 48 := .inr ⟨c0, h0, hc0⟩
  have K0 : Keeps Nob w w := Keeps.refl _ _
  refine sy_enter (qc37_1 1) ⟨#[.string ⟨l.toArray⟩, ud, ud, ud, ud, ud, ud, ud, ud, ud, ud, ud, ud, ud, ud, ud, ud, ud, ud, ud, ud, ud, ud, ud, ud, ud, ud, ud, ud, ud, ud, ud, ud, ud, ud, ud, ud, ud, ud, ud, ud, ud, ud, ud, ud, ud, ud, ud, ud], []⟩ Tryd.func74 (by kernel_rfl) (by kernel_rfl) <| sy_seq (qc37_1 2) (qc37_1 3) (by kernel_rfl) <| r_ [0, 1] <| ps_run ((opsAt (qc37_1 2)).getD 0 default) (.int .u64 0) (w' := w) (by kernel_rfl) (by kernel_rfl) (by kernel_rfl) <| ps_run ((opsAt (qc37_1 2)).getD 1 default) (.bool false) (w' := w) (by kernel_rfl) (by kernel_rfl) (by kernel_rfl) <| et_ <| sy_seq (qc37_1 6) (qc37_1 7) (by kernel_rfl) <| sy_seq (qc37_1 12) (qc37_1 13) (by kernel_rfl) <| r_ [0, 1, 2, 3, 4, 5, 6, 7, 8, 9, 10, 11, 12, 13, 14, 15, 16, 17] <| ps_run ((opsAt (qc37_1 12)).getD 0 default) (.string ⟨l.toArray⟩) (w' := w) (by kernel_rfl) (by kernel_rfl) (by kernel_rfl) <| ps_run ((opsAt (qc37_1 12)).getD 1 default) (.int .i64 ((l.length : Nat) : Int)) (w' := w) (by kernel_rfl) (by kernel_rfl) (exec_len_str (.tmp 6) 112 (by kernel_rfl) Tryd.underlying112 ⟨l.toArray⟩ (by kernel_rfl)) <| ps_run ((opsAt (qc37_1 12)).getD 2 default) (.bool false) (w' := w) (by kernel_rfl) (by kernel_rfl) (dcf ((((l.length : Nat) : Int)) < ((1) : Int)) (by omega)) <| ps_run ((opsAt (qc37_1 12)).getD 3 default) (.bool false) (w' := w) (by kernel_rfl) (by kernel_rfl) (by kernel_rfl) <| ps_run ((opsAt (qc37_1 12)).getD 4 default) (.string ⟨l.toArray⟩) (w' := w) (by kernel_rfl) (by kernel_rfl) (by kernel_rfl) ?_
  refine ps_run ((opsAt (qc37_1 12)).getD 5 default) (.int .i64 ((l.length : Nat) : Int)) (w' := w) (by kernel_rfl) (by kernel_rfl) (exec_len_str (.tmp 10) 112 (by kernel_rfl) Tryd.underlying112 ⟨l.toArray⟩ (by kernel_rfl)) <| ps_run ((opsAt (qc37_1 12)).getD 6 default) (.bool false) (w' := w) (by kernel_rfl) (by kernel_rfl) (dcf ((((l.length : Nat) : Int)) > ((10) : Int)) (by omega)) <| ps_run ((opsAt (qc37_1 12)).getD 7 default) (.bool false) (w' := w) (by kernel_rfl) (by kernel_rfl) (by kernel_rfl) <| ps_run ((opsAt (qc37_1 12)).getD 8 default) (.bool false) (w' := w) (by kernel_rfl) (by kernel_rfl) (by kernel_rfl) <| ps_run ((opsAt (qc37_1 12)).getD 9 default) (.string ⟨l.toArray⟩) (w' := w) (by kernel_rfl) (by kernel_rfl) (by kernel_rfl) <| ps_run ((opsAt (qc37_1 12)).getD 10 default) (.int .u8 ((c0.toNat : Nat) : Int)) (w' := w) (by kernel_rfl) (by kernel_rfl) (exec_index_str 112 (.tmp 15) (.const (.int .i64 0)) (by kernel_rfl) l (by kernel_rfl) .i64 0 (by kernel_rfl) Tryd.underlying112 c0 h0) <| ps_run ((opsAt (qc37_1 12)).getD 11 default) (.bool false) (w' := w) (by kernel_rfl) (by kernel_rfl) (eqf (((c0.toNat : Nat) : Int)) ((48) : Int) (by omega)) <| ps_run ((opsAt (qc37_1 12)).getD 12 default) (.bool false) (w' := w) (by kernel_rfl) (by kernel_rfl) (by kernel_rfl) <| ps_no ((opsAt (qc37_1 12)).getD 13 default) (by kernel_rfl) (by kernel_rfl) <| ps_no ((opsAt (qc37_1 12)).getD 14 default) (by kernel_rfl) (by kernel_rfl) <| ps_no ((opsAt (qc37_1 12)).getD 15 default) (by kernel_rfl) (by kernel_rfl) <| ps_run ((opsAt (qc37_1 12)).getD 16 default) (.bool false) (w' := w) (by kernel_rfl) (by kernel_rfl) (by kernel_rfl) <| ps_run ((opsAt (qc37_1 12)).getD 17 default) (.bool false) (w' := w) (by kernel_rfl) (by kernel_rfl) (by kernel_rfl) <| et_ ?_
  refine sy_no (.tmp 23) (qc37_1 26) (qc37_1 27) (by kernel_rfl) (by kernel_rfl) <| sy_skip (by kernel_rfl) <| then_n <| sy_seq (qc37_1 14) (qc37_1 15) (by kernel_rfl) <| r_ [0] <| ps_run ((opsAt (qc37_1 14)).getD 0 default) (.int .u64 0) (w' := w) (by kernel_rfl) (by kernel_rfl) (by kernel_rfl) <| et_ <| sy_seq (qc37_1 30) (qc37_1 31) (by kernel_rfl) <| sy_seq (qc37_1 60) (qc37_1 61) (by kernel_rfl) <| r_ [0, 1, 2] <| ps_run ((opsAt (qc37_1 60)).getD 0 default) (.string ⟨l.toArray⟩) (w' := w) (by kernel_rfl) (by kernel_rfl) (by kernel_rfl) <| ps_run ((opsAt (qc37_1 60)).getD 1 default) (.int .i64 ((l.length : Nat) : Int)) (w' := w) (by kernel_rfl) (by kernel_rfl) (exec_len_str (.tmp 24) 112 (by kernel_rfl) Tryd.underlying112 ⟨l.toArray⟩ (by kernel_rfl)) <| ps_run ((opsAt (qc37_1 60)).getD 2 default) (.int .i64 0) (w' := w) (by kernel_rfl) (by kernel_rfl) (by kernel_rfl) <| ps_end ?_
  refine sy_act ⟨#[.string ⟨l.toArray⟩, ud, .int .u64 0, .bool false, .int .u64 0, ud, .string ⟨l.toArray⟩, .int .i64 ((l.length : Nat) : Int), .bool false, .bool false, .string ⟨l.toArray⟩, .int .i64 ((l.length : Nat) : Int), .bool false, .bool false, .bool false, .string ⟨l.toArray⟩, .int .u8 ((c0.toNat : Nat) : Int), .bool false, .bool false, ud, ud, ud, .bool false, .bool false, .string ⟨l.toArray⟩, .int .i64 ((l.length : Nat) : Int), .int .i64 0, ud, ud, ud, ud, ud, ud, ud, ud, ud, ud, ud, ud, ud, ud, ud, ud, ud, ud, ud, ud, ud, ud], []⟩ (by kernel_rfl) <| then_n <| sy_block 0 (qc37_1 122) (by kernel_rfl) ?_
  refine sy_loop (qc37_1 244) (fun a V => ∃ (k : Nat) (u2 u3 u5 u27 u28 u29 u30 u31 u32 u33 u34 u35 u36 u37 u38 u39 u40 u41 u42 u43 u44 u45 u46 u47 : Value), (a = ⟨#[.string ⟨l.toArray⟩, ud, u2, u3, .int .u64 ((dval (l.take k) : Nat) : Int), u5, .string ⟨l.toArray⟩, .int .i64 ((l.length : Nat) : Int), .bool false, .bool false, .string ⟨l.toArray⟩, .int .i64 ((l.length : Nat) : Int), .bool false, .bool false, .bool false, .string ⟨l.toArray⟩, .int .u8 ((c0.toNat : Nat) : Int), .bool false, .bool false, ud, ud, ud, .bool false, .bool false, .string ⟨l.toArray⟩, .int .i64 ((l.length : Nat) : Int), .int .i64 ((k : Nat) : Int), u27, u28, u29, u30, u31, u32, u33, u34, u35, u36, u37, u38, u39, u40, u41, u42, u43, u44, u45, u46, u47, ud], []⟩) ∧ (k ≤ l.length) ∧ ((l.take k).all isd = true) ∧ (Keeps Nob w V)) (fun a _ => l.length - (intOf (a.tmps.getD 26 undef)).toNat) (by kernel_rfl) ?_ ?_
  · exact ⟨0, (.int .u64 0), (.bool false), undef, undef, undef, undef, undef, undef, undef, undef, undef, undef, undef, undef, undef, undef, undef, undef, undef, undef, undef, undef, undef, undef, by kernel_rfl, Nat.zero_le _, rfl, K0⟩
  · rintro a V3 ⟨k, u2, u3, u5, u27, u28, u29, u30, u31, u32, u33, u34, u35, u36, u37, u38, u39, u40, u41, u42, u43, u44, u45, u46, u47, rfl, hk, hall, K4⟩
    rcases num_cases l k hk with ⟨c, lt_k, hc, hd⟩ | ⟨c, lt_k, hc, hd⟩ | ⟨c, lt_k, hc, hd⟩ | eq_k
    · have hres := pnum_bad hc (by omega)
      refine sy_seq (qc37_1 488) (qc37_1 489) (by kernel_rfl) <| r_ [0] <| ps_run ((opsAt (qc37_1 488)).getD 0 default) (.bool true) (w' := V3) (by kernel_rfl) (by kernel_rfl) (dct ((((k : Nat) : Int)) < (((l.length : Nat) : Int))) (by omega)) <| et_ <| sy_seq (qc37_1 978) (qc37_1 979) (by kernel_rfl) <| sy_yes (.tmp 27) (qc37_1 1956) (qc37_1 1957) (by kernel_rfl) (by kernel_rfl) <| sy_skip (by kernel_rfl) <| then_n <| sy_seq (qc37_1 1958) (qc37_1 1959) (by kernel_rfl) <| sy_block 1 (qc37_1 3916) (by kernel_rfl) <| sy_seq (qc37_1 7832) (qc37_1 7833) (by kernel_rfl) <| r_ [0, 1] <| ps_run ((opsAt (qc37_1 7832)).getD 0 default) (.int .i64 ((k : Nat) : Int)) (w' := V3) (by kernel_rfl) (by kernel_rfl) (by kernel_rfl) <| ps_run ((opsAt (qc37_1 7832)).getD 1 default) (.int .i64 ((k : Nat) : Int)) (w' := V3) (by kernel_rfl) (by kernel_rfl) (by kernel_rfl) ?_
      refine et_ <| sy_seq (qc37_1 15666) (qc37_1 15667) (by kernel_rfl) <| sy_seq (qc37_1 31332) (qc37_1 31333) (by kernel_rfl) <| r_ [0, 1, 2, 3, 4, 5, 6, 7, 8, 9] <| ps_run ((opsAt (qc37_1 31332)).getD 0 default) (.string ⟨l.toArray⟩) (w' := V3) (by kernel_rfl) (by kernel_rfl) (by kernel_rfl) <| ps_run ((opsAt (qc37_1 31332)).getD 1 default) (.int .i64 ((k : Nat) : Int)) (w' := V3) (by kernel_rfl) (by kernel_rfl) (by kernel_rfl) <| ps_run ((opsAt (qc37_1 31332)).getD 2 default) (.int .u8 ((c.toNat : Nat) : Int)) (w' := V3) (by kernel_rfl) (by kernel_rfl) (exec_index_str 112 (.tmp 29) (.tmp 30) (by kernel_rfl) l (by kernel_rfl) .i64 k (by kernel_rfl) Tryd.underlying112 c hc) <| ps_run ((opsAt (qc37_1 31332)).getD 3 default) (.bool true) (w' := V3) (by kernel_rfl) (by kernel_rfl) (dct ((((c.toNat : Nat) : Int)) < ((48) : Int)) (by omega)) <| ps_run ((opsAt (qc37_1 31332)).getD 4 default) (.bool true) (w' := V3) (by kernel_rfl) (by kernel_rfl) (by kernel_rfl) <| ps_no ((opsAt (qc37_1 31332)).getD 5 default) (by kernel_rfl) (by kernel_rfl) <| ps_no ((opsAt (qc37_1 31332)).getD 6 default) (by kernel_rfl) (by kernel_rfl) <| ps_no ((opsAt (qc37_1 31332)).getD 7 default) (by kernel_rfl) (by kernel_rfl) <| ps_no ((opsAt (qc37_1 31332)).getD 8 default) (by kernel_rfl) (by kernel_rfl) <| ps_run ((opsAt (qc37_1 31332)).getD 9 default) (.bool true) (w' := V3) (by kernel_rfl) (by kernel_rfl) (by kernel_rfl) ?_
      refine et_ <| sy_yes (.tmp 38) (qc37_1 62666) (qc37_1 62667) (by kernel_rfl) (by kernel_rfl) <| sy_seq (qc37_1 125332) (qc37_1 125333) (by kernel_rfl) <| r_ [0, 1] <| ps_run ((opsAt (qc37_1 125332)).getD 0 default) (.int .u64 0) (w' := V3) (by kernel_rfl) (by kernel_rfl) (by kernel_rfl) <| ps_run ((opsAt (qc37_1 125332)).getD 1 default) (.bool false) (w' := V3) (by kernel_rfl) (by kernel_rfl) (by kernel_rfl) <| eu_ <| then_r <| blk_r <| then_r <| then_r <| blk_r <| then_r <| so_ (.tuple #[.int .u64 0, .bool false]) ?_
      exact ⟨by first | (rw [hres]; done) | (rw [hres]; rfl) | (rw [hres, etk]), K4⟩
    · have hres := pnum_bad hc (by omega)
      refine sy_seq (qc37_1 488) (qc37_1 489) (by kernel_rfl) <| r_ [0] <| ps_run ((opsAt (qc37_1 488)).getD 0 default) (.bool true) (w' := V3) (by kernel_rfl) (by kernel_rfl) (dct ((((k : Nat) : Int)) < (((l.length : Nat) : Int))) (by omega)) <| et_ <| sy_seq (qc37_1 978) (qc37_1 979) (by kernel_rfl) <| sy_yes (.tmp 27) (qc37_1 1956) (qc37_1 1957) (by kernel_rfl) (by kernel_rfl) <| sy_skip (by kernel_rfl) <| then_n <| sy_seq (qc37_1 1958) (qc37_1 1959) (by kernel_rfl) <| sy_block 1 (qc37_1 3916) (by kernel_rfl) <| sy_seq (qc37_1 7832) (qc37_1 7833) (by kernel_rfl) <| r_ [0, 1] <| ps_run ((opsAt (qc37_1 7832)).getD 0 default) (.int .i64 ((k : Nat) : Int)) (w' := V3) (by kernel_rfl) (by kernel_rfl) (by kernel_rfl) <| ps_run ((opsAt (qc37_1 7832)).getD 1 default) (.int .i64 ((k : Nat) : Int)) (w' := V3) (by kernel_rfl) (by kernel_rfl) (by kernel_rfl) ?_
      refine et_ <| sy_seq (qc37_1 15666) (qc37_1 15667) (by kernel_rfl) <| sy_seq (qc37_1 31332) (qc37_1 31333) (by kernel_rfl) <| r_ [0, 1, 2, 3, 4, 5, 6, 7, 8, 9] <| ps_run ((opsAt (qc37_1 31332)).getD 0 default) (.string ⟨l.toArray⟩) (w' := V3) (by kernel_rfl) (by kernel_rfl) (by kernel_rfl) <| ps_run ((opsAt (qc37_1 31332)).getD 1 default) (.int .i64 ((k : Nat) : Int)) (w' := V3) (by kernel_rfl) (by kernel_rfl) (by kernel_rfl) <| ps_run ((opsAt (qc37_1 31332)).getD 2 default) (.int .u8 ((c.toNat : Nat) : Int)) (w' := V3) (by kernel_rfl) (by kernel_rfl) (exec_index_str 112 (.tmp 29) (.tmp 30) (by kernel_rfl) l (by kernel_rfl) .i64 k (by kernel_rfl) Tryd.underlying112 c hc) <| ps_run ((opsAt (qc37_1 31332)).getD 3 default) (.bool false) (w' := V3) (by kernel_rfl) (by kernel_rfl) (dcf ((((c.toNat : Nat) : Int)) < ((48) : Int)) (by omega)) <| ps_run ((opsAt (qc37_1 31332)).getD 4 default) (.bool false) (w' := V3) (by kernel_rfl) (by kernel_rfl) (by kernel_rfl) <| ps_run ((opsAt (qc37_1 31332)).getD 5 default) (.string ⟨l.toArray⟩) (w' := V3) (by kernel_rfl) (by kernel_rfl) (by kernel_rfl) <| ps_run ((opsAt (qc37_1 31332)).getD 6 default) (.int .i64 ((k : Nat) : Int)) (w' := V3) (by kernel_rfl) (by kernel_rfl) (by kernel_rfl) <| ps_run ((opsAt (qc37_1 31332)).getD 7 default) (.int .u8 ((c.toNat : Nat) : Int)) (w' := V3) (by kernel_rfl) (by kernel_rfl) (exec_index_str 112 (.tmp 34) (.tmp 35) (by kernel_rfl) l (by kernel_rfl) .i64 k (by kernel_rfl) Tryd.underlying112 c hc) <| ps_run ((opsAt (qc37_1 31332)).getD 8 default) (.bool true) (w' := V3) (by kernel_rfl) (by kernel_rfl) (dct ((((c.toNat : Nat) : Int)) > ((57) : Int)) (by omega)) <| ps_run ((opsAt (qc37_1 31332)).getD 9 default) (.bool true) (w' := V3) (by kernel_rfl) (by kernel_rfl) (by kernel_rfl) ?_
      refine et_ <| sy_yes (.tmp 38) (qc37_1 62666) (qc37_1 62667) (by kernel_rfl) (by kernel_rfl) <| sy_seq (qc37_1 125332) (qc37_1 125333) (by kernel_rfl) <| r_ [0, 1] <| ps_run ((opsAt (qc37_1 125332)).getD 0 default) (.int .u64 0) (w' := V3) (by kernel_rfl) (by kernel_rfl) (by kernel_rfl) <| ps_run ((opsAt (qc37_1 125332)).getD 1 default) (.bool false) (w' := V3) (by kernel_rfl) (by kernel_rfl) (by kernel_rfl) <| eu_ <| then_r <| blk_r <| then_r <| then_r <| blk_r <| then_r <| so_ (.tuple #[.int .u64 0, .bool false]) ?_
      exact ⟨by first | (rw [hres]; done) | (rw [hres]; rfl) | (rw [hres, etk]), K4⟩
    · have hv := dval10 (Nat.le_trans hk h10) hk hall
      have hp := pow10_le (Nat.le_trans hk h10)
      refine sy_seq (qc37_1 488) (qc37_1 489) (by kernel_rfl) <| r_ [0] <| ps_run ((opsAt (qc37_1 488)).getD 0 default) (.bool true) (w' := V3) (by kernel_rfl) (by kernel_rfl) (dct ((((k : Nat) : Int)) < (((l.length : Nat) : Int))) (by omega)) <| et_ <| sy_seq (qc37_1 978) (qc37_1 979) (by kernel_rfl) <| sy_yes (.tmp 27) (qc37_1 1956) (qc37_1 1957) (by kernel_rfl) (by kernel_rfl) <| sy_skip (by kernel_rfl) <| then_n <| sy_seq (qc37_1 1958) (qc37_1 1959) (by kernel_rfl) <| sy_block 1 (qc37_1 3916) (by kernel_rfl) <| sy_seq (qc37_1 7832) (qc37_1 7833) (by kernel_rfl) <| r_ [0, 1] <| ps_run ((opsAt (qc37_1 7832)).getD 0 default) (.int .i64 ((k : Nat) : Int)) (w' := V3) (by kernel_rfl) (by kernel_rfl) (by kernel_rfl) <| ps_run ((opsAt (qc37_1 7832)).getD 1 default) (.int .i64 ((k : Nat) : Int)) (w' := V3) (by kernel_rfl) (by kernel_rfl) (by kernel_rfl) ?_
      refine et_ <| sy_seq (qc37_1 15666) (qc37_1 15667) (by kernel_rfl) <| sy_seq (qc37_1 31332) (qc37_1 31333) (by kernel_rfl) <| r_ [0, 1, 2, 3, 4, 5, 6, 7, 8, 9] <| ps_run ((opsAt (qc37_1 31332)).getD 0 default) (.string ⟨l.toArray⟩) (w' := V3) (by kernel_rfl) (by kernel_rfl) (by kernel_rfl) <| ps_run ((opsAt (qc37_1 31332)).getD 1 default) (.int .i64 ((k : Nat) : Int)) (w' := V3) (by kernel_rfl) (by kernel_rfl) (by kernel_rfl) <| ps_run ((opsAt (qc37_1 31332)).getD 2 default) (.int .u8 ((c.toNat : Nat) : Int)) (w' := V3) (by kernel_rfl) (by kernel_rfl) (exec_index_str 112 (.tmp 29) (.tmp 30) (by kernel_rfl) l (by kernel_rfl) .i64 k (by kernel_rfl) Tryd.underlying112 c hc) <| ps_run ((opsAt (qc37_1 31332)).getD 3 default) (.bool false) (w' := V3) (by kernel_rfl) (by kernel_rfl) (dcf ((((c.toNat : Nat) : Int)) < ((48) : Int)) (by omega)) <| ps_run ((opsAt (qc37_1 31332)).getD 4 default) (.bool false) (w' := V3) (by kernel_rfl) (by kernel_rfl) (by kernel_rfl) <| ps_run ((opsAt (qc37_1 31332)).getD 5 default) (.string ⟨l.toArray⟩) (w' := V3) (by kernel_rfl) (by kernel_rfl) (by kernel_rfl) <| ps_run ((opsAt (qc37_1 31332)).getD 6 default) (.int .i64 ((k : Nat) : Int)) (w' := V3) (by kernel_rfl) (by kernel_rfl) (by kernel_rfl) <| ps_run ((opsAt (qc37_1 31332)).getD 7 default) (.int .u8 ((c.toNat : Nat) : Int)) (w' := V3) (by kernel_rfl) (by kernel_rfl) (exec_index_str 112 (.tmp 34) (.tmp 35) (by kernel_rfl) l (by kernel_rfl) .i64 k (by kernel_rfl) Tryd.underlying112 c hc) <| ps_run ((opsAt (qc37_1 31332)).getD 8 default) (.bool false) (w' := V3) (by kernel_rfl) (by kernel_rfl) (dcf ((((c.toNat : Nat) : Int)) > ((57) : Int)) (by omega)) <| ps_run ((opsAt (qc37_1 31332)).getD 9 default) (.bool false) (w' := V3) (by kernel_rfl) (by kernel_rfl) (by kernel_rfl) ?_
      refine et_ <| sy_no (.tmp 38) (qc37_1 62666) (qc37_1 62667) (by kernel_rfl) (by kernel_rfl) <| sy_skip (by kernel_rfl) <| tr_ [0, 1, 2, 3, 4, 5, 6, 7, 8] <| ps_run ((opsAt (qc37_1 15667)).getD 0 default) (.int .u64 ((dval (l.take k) : Nat) : Int)) (w' := V3) (by kernel_rfl) (by kernel_rfl) (by kernel_rfl) <| ps_run ((opsAt (qc37_1 15667)).getD 1 default) (.int .u64 ((10 * dval (l.take k) : Nat) : Int)) (w' := V3) (by kernel_rfl) (by kernel_rfl) (exec_cast (congrArg (Value.int .u64) (wrap_u64_n (10 * dval (l.take k)) (by omega))) (by kernel_rfl)) <| ps_run ((opsAt (qc37_1 15667)).getD 2 default) (.string ⟨l.toArray⟩) (w' := V3) (by kernel_rfl) (by kernel_rfl) (by kernel_rfl) <| ps_run ((opsAt (qc37_1 15667)).getD 3 default) (.int .i64 ((k : Nat) : Int)) (w' := V3) (by kernel_rfl) (by kernel_rfl) (by kernel_rfl) <| ps_run ((opsAt (qc37_1 15667)).getD 4 default) (.int .u8 ((c.toNat : Nat) : Int)) (w' := V3) (by kernel_rfl) (by kernel_rfl) (exec_index_str 112 (.tmp 41) (.tmp 42) (by kernel_rfl) l (by kernel_rfl) .i64 k (by kernel_rfl) Tryd.underlying112 c hc) <| ps_run ((opsAt (qc37_1 15667)).getD 5 default) (.int .u8 ((c.toNat - 48 : Nat) : Int)) (w' := V3) (by kernel_rfl) (by kernel_rfl) (exec_cast (congrArg (Value.int .u8) (wrap_u8_sub hd.1 hd.2)) (by kernel_rfl)) <| ps_run ((opsAt (qc37_1 15667)).getD 6 default) (.int .u64 ((c.toNat - 48 : Nat) : Int)) (w' := V3) (by kernel_rfl) (by kernel_rfl) (exec_convert 5 22 (.tmp 44) (by kernel_rfl) _ (by kernel_rfl) (conv_u8_u64 (by omega) _)) <| ps_run ((opsAt (qc37_1 15667)).getD 7 default) (.int .u64 ((dval (l.take (k + 1)) : Nat) : Int)) (w' := V3) (by kernel_rfl) (by kernel_rfl) (exec_cast (congrArg (fun n : Nat => Value.int .u64 ((n : Nat) : Int)) (dval_take hc).symm) (exec_cast (congrArg (Value.int .u64) (wrap_u64_n (10 * dval (l.take k) + (c.toNat - 48)) (by omega))) (by kernel_rfl))) <| ps_run ((opsAt (qc37_1 15667)).getD 8 default) (.int .u64 ((dval (l.take (k + 1)) : Nat) : Int)) (w' := V3) (by kernel_rfl) (by kernel_rfl) (by kernel_rfl) <| ps_end ?_
      refine blk_n <| tr_ [0, 1] <| ps_run ((opsAt (qc37_1 1959)).getD 0 default) (.int .i64 ((k + 1 : Nat) : Int)) (w' := V3) (by kernel_rfl) (by kernel_rfl) (exec_cast (congrArg (Value.int .i64) (wrapN (k + 1) (by omega))) (by kernel_rfl)) <| ps_run ((opsAt (qc37_1 1959)).getD 1 default) (.int .i64 ((k + 1 : Nat) : Int)) (w' := V3) (by kernel_rfl) (by kernel_rfl) (by kernel_rfl) <| ps_end <| sy_act ⟨#[.string ⟨l.toArray⟩, ud, u2, u3, .int .u64 ((dval (l.take (k + 1)) : Nat) : Int), .int .i64 ((k : Nat) : Int), .string ⟨l.toArray⟩, .int .i64 ((l.length : Nat) : Int), .bool false, .bool false, .string ⟨l.toArray⟩, .int .i64 ((l.length : Nat) : Int), .bool false, .bool false, .bool false, .string ⟨l.toArray⟩, .int .u8 ((c0.toNat : Nat) : Int), .bool false, .bool false, ud, ud, ud, .bool false, .bool false, .string ⟨l.toArray⟩, .int .i64 ((l.length : Nat) : Int), .int .i64 ((k + 1 : Nat) : Int), .bool true, .int .i64 ((k : Nat) : Int), .string ⟨l.toArray⟩, .int .i64 ((k : Nat) : Int), .int .u8 ((c.toNat : Nat) : Int), .bool false, .bool false, .string ⟨l.toArray⟩, .int .i64 ((k : Nat) : Int), .int .u8 ((c.toNat : Nat) : Int), .bool false, .bool false, .int .u64 ((dval (l.take k) : Nat) : Int), .int .u64 ((10 * dval (l.take k) : Nat) : Int), .string ⟨l.toArray⟩, .int .i64 ((k : Nat) : Int), .int .u8 ((c.toNat : Nat) : Int), .int .u8 ((c.toNat - 48 : Nat) : Int), .int .u64 ((c.toNat - 48 : Nat) : Int), .int .u64 ((dval (l.take (k + 1)) : Nat) : Int), .int .i64 ((k + 1 : Nat) : Int), ud], []⟩ (by kernel_rfl) <| then_n ?_
      refine ⟨⟨k + 1, u2, u3, (.int .i64 ((k : Nat) : Int)), (.bool true), (.int .i64 ((k : Nat) : Int)), (.string ⟨l.toArray⟩), (.int .i64 ((k : Nat) : Int)), (.int .u8 ((c.toNat : Nat) : Int)), (.bool false), (.bool false), (.string ⟨l.toArray⟩), (.int .i64 ((k : Nat) : Int)), (.int .u8 ((c.toNat : Nat) : Int)), (.bool false), (.bool false), (.int .u64 ((dval (l.take k) : Nat) : Int)), (.int .u64 ((10 * dval (l.take k) : Nat) : Int)), (.string ⟨l.toArray⟩), (.int .i64 ((k : Nat) : Int)), (.int .u8 ((c.toNat : Nat) : Int)), (.int .u8 ((c.toNat - 48 : Nat) : Int)), (.int .u64 ((c.toNat - 48 : Nat) : Int)), (.int .u64 ((dval (l.take (k + 1)) : Nat) : Int)), (.int .i64 ((k + 1 : Nat) : Int)), by kernel_rfl, by omega, all_take hc hall hd, K4⟩, ?_⟩
      exact lt_meas (x := l.length - (k + 1)) (y := l.length - k) (by kernel_rfl) (by kernel_rfl) (by omega)
    · have hres := pnum_good (l := l) (by omega) (by omega) hz (by rw [List.take_of_length_le (by omega)] at hall; exact hall)
      have etk : l.take k = l := List.take_of_length_le (by omega)
      refine sy_seq (qc37_1 488) (qc37_1 489) (by kernel_rfl) <| r_ [0] <| ps_run ((opsAt (qc37_1 488)).getD 0 default) (.bool false) (w' := V3) (by kernel_rfl) (by kernel_rfl) (dcf ((((k : Nat) : Int)) < (((l.length : Nat) : Int))) (by omega)) <| et_ <| sy_seq (qc37_1 978) (qc37_1 979) (by kernel_rfl) <| sy_no (.tmp 27) (qc37_1 1956) (qc37_1 1957) (by kernel_rfl) (by kernel_rfl) <| sy_exit 0 (by kernel_rfl) <| then_e <| then_e <| blk_e <| then_n <| sy_seq (qc37_1 62) (qc37_1 63) (by kernel_rfl) <| r_ [0, 1, 2] <| ps_run ((opsAt (qc37_1 62)).getD 0 default) (.int .u64 ((dval (l.take k) : Nat) : Int)) (w' := V3) (by kernel_rfl) (by kernel_rfl) (by kernel_rfl) ?_
      refine ps_run ((opsAt (qc37_1 62)).getD 1 default) (.int .u64 ((dval (l.take k) : Nat) : Int)) (w' := V3) (by kernel_rfl) (by kernel_rfl) (by kernel_rfl) <| ps_run ((opsAt (qc37_1 62)).getD 2 default) (.bool true) (w' := V3) (by kernel_rfl) (by kernel_rfl) (by kernel_rfl) <| eu_ <| so_ (.tuple #[.int .u64 ((dval (l.take k) : Nat) : Int), .bool true]) ?_
      exact ⟨by first | (rw [hres]; done) | (rw [hres]; rfl) | (rw [hres, etk]), K4⟩
theorem pnumber_ok (l : List UInt8) (w : World) : Calls Tryd.prog 74 #[.string ⟨l.toArray⟩] w (fun e w' => e = .returned (.tuple #[.int .u64 (((pnum l).1 : Nat) : Int), .bool (pnum l).2]) ∧ Keeps Nob w w') := by
  by_cases h1 : l.length < 1
  · exact pnumber_short l w h1
  · by_cases h2 : 10 < l.length
    · exact pnumber_long l w h2
    · obtain ⟨c, hc⟩ : ∃ c, l[0]? = some c := ⟨_, List.getElem?_eq_getElem (by omega)⟩
      by_cases h3 : c.toNat = 48
      · by_cases h4 : 1 < l.length
        · exact pnumber_zero l w c hc h3 h4 (by omega)
        · exact pnumber_one l w c hc h3 (by omega)
      · exact pnumber_go l w c hc h3 (by omega)
end Go.Proofs.YtpflmldmbpnllaaDoor
