/-
  Params: their text (printed by par5.py). Conditions: none.
-/
import Derived.Test.YtpflmldmbpnllaaDoorPmD
namespace Go.Proofs.YtpflmldmbpnllaaDoor
open Go Go.RowKit Go.Own Go.Shelf
/-- A line: a name, a blank, a number, a line's end. -/
def pline (p : Par) (i : Nat) : List UInt8 := (parName[i]?.getD ⟨#[]⟩).data.toList ++ [32] ++ Lib.decDigits (p.l[i]?.getD 0).toNat ++ [10]
def ptI (p : Par) (i : Nat) : List UInt8 := (List.range i).flatMap (pline p)
def ptx (p : Par) : ByteArray := ⟨(ptI p 11).toArray⟩
theorem ptI_succ (p : Par) (i : Nat) : ptI p (i + 1) = ptI p i ++ pline p i := by unfold ptI; rw [List.range_succ, List.flatMap_append]; simp
theorem name_le {i : Nat} (hi : i < 11) : (parName[i]?.getD ⟨#[]⟩).data.toList.length ≤ 10 := by
  have h : i = 0 ∨ i = 1 ∨ i = 2 ∨ i = 3 ∨ i = 4 ∨ i = 5 ∨ i = 6 ∨ i = 7 ∨ i = 8 ∨ i = 9 ∨ i = 10 := by omega
  rcases h with rfl | rfl | rfl | rfl | rfl | rfl | rfl | rfl | rfl | rfl | rfl <;> decide
theorem dig_le {n : Nat} (h : n < 2 ^ 64) : (Lib.decDigits n).length ≤ 20 := by
  by_cases h0 : n = 0
  · subst h0; decide +kernel
  · rw [Lib.decDigits_length]; have := Lib.numDigits_eq n (by omega) (by omega); split at this <;> omega
theorem pline_le {p : Par} (h : ∀ j, j < 11 → p.good j) {i : Nat} (hi : i < 11) : (pline p i).length ≤ 32 := by
  have h1 := name_le hi; have h2 := dig_le (Par.l_nat h i hi).2
  unfold pline; simp only [List.length_append, List.length_cons, List.length_nil]; omega
theorem ptI_le {p : Par} (h : ∀ j, j < 11 → p.good j) (i : Nat) (hi : i ≤ 11) : (ptI p i).length ≤ 32 * i := by
  induction i with
  | zero => simp [ptI]
  | succ i ih => rw [ptI_succ, List.length_append]; have := pline_le h (show i < 11 by omega); have := ih (by omega); omega
theorem row_str {w : World} {T : TypeId} {v : Value} {l : List UInt8} {s : ByteArray} (h : Row w T 1 v (l.length + s.size) (B l ++ Lib.strCells s)) : Row w T 1 v (l ++ s.data.toList).length (B (l ++ s.data.toList)) := by
  have e : B (l ++ s.data.toList) = B l ++ Lib.strCells s := by rw [strCells_B]; simp [B]
  rw [e, List.length_append, Array.length_toList]; exact h
theorem row_byte {w : World} {T : TypeId} {v : Value} {l : List UInt8} {c : UInt8} (h : Row w T 1 v (l.length + 1) (B l ++ B [c])) : Row w T 1 v (l ++ [c]).length (B (l ++ [c])) := by
  have e : B (l ++ [c]) = B l ++ B [c] := by simp [B]
  rw [e, List.length_append]; exact h
theorem FieldsAt.not_b {w : World} {g gp b : Nat} {ks : Nat → Nat} {a v : Value} (h : FieldsAt w g gp ks) (hb : w.heap[b]? = some (.cells #[a, v] 74 (0, 0))) (ha : a = .pointer none ∨ a = .pointer (some ⟨b, 0, none⟩)) (hgp : gp ≠ b) : g ≠ b ∧ ∀ i, i < 11 → ks i ≠ b := by
  have hc : w.cell? ⟨b, 0, none⟩ = some a := cell_of_row _ _ _ _ _ _ hb
  refine ⟨fun e => ?_, fun i hi e => ?_⟩
  · have := h.cell 0 0 (by omega) (by omega)
    rw [e] at this
    rw [show (⟨b, 0 * 5 + 0, none⟩ : Addr) = ⟨b, 0, none⟩ from rfl, hc] at this
    have h2 : some a = some (Value.string (parName[0]?.getD ⟨#[]⟩)) := this
    rcases ha with rfl | rfl <;> cases h2
  · have := h.box i hi
    rw [e, hc] at this
    rcases ha with rfl | rfl
    · cases this
    · simp only [Option.some.injEq, Value.pointer.injEq, Addr.mk.injEq] at this; exact hgp this.1.symm
theorem isBuilder_of {w : World} {b NB : Nat} {v : Value} {l : List UInt8} (hb : w.heap[b]? = some (.cells #[.pointer (some ⟨b, 0, none⟩), v] 74 (0, 0))) (hr : Row w 5 1 v l.length (B l)) (hn : NewFrom NB v) (hbn : b < NB) : Lib.IsBuilder 74 5 b b (Lib.byteCells l) w := by
  have hlen : (Lib.byteCells l).length = l.length := by simp [Lib.byteCells]
  refine .inr ⟨Nat.le_refl _, v, hb, ?_, fun e => by have := hn b e; omega⟩
  rw [hlen]
  obtain ⟨h1, h2⟩ := hr
  refine ⟨h1, h2.elim .inl fun ⟨g, cap, cur, e, _, h⟩ => .inr ⟨g, cap, cur, e, by have := hn g (by rw [e]; rfl); omega, h⟩⟩
theorem parName_some {i : Nat} (hi : i < 11) : True := trivial

theorem bdStr_ok (b NB : Nat) (v : Value) (p : Par) (w : World) (hb : w.heap[b]? = some (.cells #[.pointer (some ⟨b, 0, none⟩), v] 74 (0, 0))) (hr : Row w 5 1 v (ptI p 11).length (B (ptI p 11))) (hn : NewFrom NB v) (hbn : b < NB) : Calls Tryd.prog 45 #[.pointer (some ⟨b, 0, none⟩)] w fun e w' => e = .returned (.string (ptx p)) ∧ Keeps (fun j => b ≤ j) w w' :=
  (Tryd.Builder_String_any b b (ptI p 11) w (isBuilder_of hb hr hn hbn) (Nat.le_of_lt (lt_of_block hb))).mono fun e w' h => ⟨h.1, Keeps.of_below h.2 (fun k _ hk => hk)⟩
noncomputable def part_pText (n : Nat) : Code := partOf Tryd.f21 n
noncomputable abbrev o_pText (n k : Nat) : Oper := (opsAt (part_pText n)).getD k default
set_option maxRecDepth 100000 in
set_option maxHeartbeats 4000000 in
theorem pText_bad (p : Par) (w : World) (hp : p.Ok) (hc : ¬ p.check.1 = 0) :
    Calls Tryd.prog 21 #[.agg p.cells] w (fun e w' => e = .returned (.tuple #[.string ⟨#[]⟩, .int .i64 p.check.1]) ∧ Keeps Nob w w') := by
  have K0 : Keeps Nob w w := Keeps.refl _ _
  refine sy_enter (part_pText 1) ⟨#[.agg p.cells, undef, undef, undef, undef, undef, undef, undef, undef, undef, undef, undef, undef, undef, undef, undef, undef, undef, undef, undef, undef, undef, undef, undef, undef, undef, undef, undef, undef, undef, undef, undef, undef, undef, undef, undef, undef, undef, undef, undef, undef], []⟩ Tryd.func21 (by kernel_rfl) (by kernel_rfl) ?_
  refine sy_sq (part_pText 2) (part_pText 3) ?_
  refine sy_reg ?_
  refine rg_plain 0 (opsAt (part_pText 2)) [0, 1, 2] (by kernel_rfl) (by kernel_rfl) ?_
  obtain ⟨V1, eV1, gp, egp, h2, kV1⟩ := alloc_step w p.cells 24
  have n3 : w.heap.size ≤ gp := egp ▸ K0.size
  refine ps_r (o_pText 2 0) (pT gp 0) (w' := V1) (by rw [← eV1, ← egp]; exact exec_box 24 (.tmp 0) (by kernel_rfl) (.agg p.cells) (by kernel_rfl)) ?_
  clear eV1
  have K4 := K0.nn kV1
  have z5 := kV1.size
  refine ps_k (o_pText 2 1) (.string { data := #[] }) ?_
  refine ps_k (o_pText 2 2) (.int .i64 0) ?_
  refine ps_end ?_
  refine then_n ?_
  refine sy_sq (part_pText 6) (part_pText 7) ?_
  refine sy_sq (part_pText 12) (part_pText 13) ?_
  refine sy_reg ?_
  refine rg_plain 1 (opsAt (part_pText 12)) [0, 1, 2, 3, 4, 5, 6] (by kernel_rfl) (by kernel_rfl) ?_
  refine ps_p (o_pText 12 0) (.agg (p.cells)) (exec_load_row 24 (.tmp 1) (by kernel_rfl) gp (by kernel_rfl) _ _ (0, 0) _ (h2) Tryd.underlying24 rfl (by kernel_rfl)) ?_
  refine ps_c (o_pText 12 1) 9 #[.agg (p.cells)] Tryd.func9 ((pCheck_is p _ _ hp rfl).mono ?_)
  rintro e V6 ⟨rfl, kV6⟩
  refine ⟨_, rfl, ?_⟩
  have h7 := kV6.bk h2
  have K8 := K4.nn kV6
  have z9 := kV6.size
  refine ps_k (o_pText 12 2) (.tuple #[.int .i64 p.check.1, .int .i64 p.check.2]) ?_
  refine ps_k (o_pText 12 3) (.int .i64 p.check.1) ?_
  refine ps_k (o_pText 12 4) (.int .i64 p.check.2) ?_
  refine ps_k (o_pText 12 5) (.int .i64 p.check.1) ?_
  refine ps_k (o_pText 12 6) (.int .i64 p.check.2) ?_
  refine ps_end ?_
  refine then_n ?_
  refine sy_sq (part_pText 26) (part_pText 27) ?_
  refine sy_reg ?_
  refine rg_plain 2 (opsAt (part_pText 26)) [0, 1] (by kernel_rfl) (by kernel_rfl) ?_
  refine ps_k (o_pText 26 0) (.int .i64 p.check.1) ?_
  refine ps_p (o_pText 26 1) (.bool true) (nqt ((p.check.1) : Int) ((0) : Int) (by omega)) ?_
  refine ps_end ?_
  refine then_n ?_
  refine sy_ys (.tmp 17) (part_pText 54) (part_pText 55) ?_
  refine sy_sq (part_pText 108) (part_pText 109) ?_
  refine sy_reg ?_
  refine rg_plain 3 (opsAt (part_pText 108)) [0, 1, 2] (by kernel_rfl) (by kernel_rfl) ?_
  refine ps_k (o_pText 108 0) (.int .i64 p.check.1) ?_
  refine ps_k (o_pText 108 1) (.string { data := #[] }) ?_
  refine ps_k (o_pText 108 2) (.int .i64 p.check.1) ?_
  refine ps_end ?_
  refine then_n ?_
  refine sy_ret (by kernel_rfl) ?_
  refine then_r ?_
  refine sy_out (.tuple #[.string { data := #[] }, .int .i64 p.check.1]) rfl (by kernel_rfl) ?_
  exact ⟨rfl, K8⟩
set_option maxRecDepth 100000 in
set_option maxHeartbeats 4000000 in
theorem pText_ok (p : Par) (w : World) (hp : p.Ok) (hc : p.check.1 = 0) (htab : PowTab w) :
    Calls Tryd.prog 21 #[.agg p.cells] w (fun e w' => e = .returned (.tuple #[.string (ptx p), .int .i64 0]) ∧ Keeps Nob w w') := by
  have hg := (Par.check_0 hc).1
  have K0 : Keeps Nob w w := Keeps.refl _ _
  refine sy_enter (part_pText 1) ⟨#[.agg p.cells, undef, undef, undef, undef, undef, undef, undef, undef, undef, undef, undef, undef, undef, undef, undef, undef, undef, undef, undef, undef, undef, undef, undef, undef, undef, undef, undef, undef, undef, undef, undef, undef, undef, undef, undef, undef, undef, undef, undef, undef], []⟩ Tryd.func21 (by kernel_rfl) (by kernel_rfl) ?_
  refine sy_sq (part_pText 2) (part_pText 3) ?_
  refine sy_reg ?_
  refine rg_plain 0 (opsAt (part_pText 2)) [0, 1, 2] (by kernel_rfl) (by kernel_rfl) ?_
  obtain ⟨V1, eV1, gp, egp, h2, kV1⟩ := alloc_step w p.cells 24
  have n3 : w.heap.size ≤ gp := egp ▸ K0.size
  refine ps_r (o_pText 2 0) (pT gp 0) (w' := V1) (by rw [← eV1, ← egp]; exact exec_box 24 (.tmp 0) (by kernel_rfl) (.agg p.cells) (by kernel_rfl)) ?_
  clear eV1
  have K4 := K0.nn kV1
  have z5 := kV1.size
  refine ps_k (o_pText 2 1) (.string { data := #[] }) ?_
  refine ps_k (o_pText 2 2) (.int .i64 0) ?_
  refine ps_end ?_
  refine then_n ?_
  refine sy_sq (part_pText 6) (part_pText 7) ?_
  refine sy_sq (part_pText 12) (part_pText 13) ?_
  refine sy_reg ?_
  refine rg_plain 1 (opsAt (part_pText 12)) [0, 1, 2, 3, 4, 5, 6] (by kernel_rfl) (by kernel_rfl) ?_
  refine ps_p (o_pText 12 0) (.agg (p.cells)) (exec_load_row 24 (.tmp 1) (by kernel_rfl) gp (by kernel_rfl) _ _ (0, 0) _ (h2) Tryd.underlying24 rfl (by kernel_rfl)) ?_
  refine ps_c (o_pText 12 1) 9 #[.agg (p.cells)] Tryd.func9 ((pCheck_is p 0 _ hp hc).mono ?_)
  rintro e V6 ⟨rfl, kV6⟩
  refine ⟨_, rfl, ?_⟩
  have h7 := kV6.bk h2
  have K8 := K4.nn kV6
  have z9 := kV6.size
  refine ps_k (o_pText 12 2) (.tuple #[.int .i64 0, .int .i64 p.check.2]) ?_
  refine ps_k (o_pText 12 3) (.int .i64 0) ?_
  refine ps_k (o_pText 12 4) (.int .i64 p.check.2) ?_
  refine ps_k (o_pText 12 5) (.int .i64 0) ?_
  refine ps_k (o_pText 12 6) (.int .i64 p.check.2) ?_
  refine ps_end ?_
  refine then_n ?_
  refine sy_sq (part_pText 26) (part_pText 27) ?_
  refine sy_reg ?_
  refine rg_plain 2 (opsAt (part_pText 26)) [0, 1] (by kernel_rfl) (by kernel_rfl) ?_
  refine ps_k (o_pText 26 0) (.int .i64 0) ?_
  refine ps_k (o_pText 26 1) (.bool false) ?_
  refine ps_end ?_
  refine then_n ?_
  refine sy_n (.tmp 17) (part_pText 54) (part_pText 55) ?_
  refine sy_sk ?_
  refine then_n ?_
  refine sy_sq (part_pText 14) (part_pText 15) ?_
  refine sy_reg ?_
  refine rg_plain 4 (opsAt (part_pText 14)) [0] (by kernel_rfl) (by kernel_rfl) ?_
  obtain ⟨V10, eV10, b, eb, h11, kV10⟩ := alloc_step V6 (#[.pointer none, .slice none 0 0]) 74
  have n12 : gp < b := eb ▸ lt_of_block h7
  have n13 : w.heap.size ≤ b := eb ▸ K8.size
  refine ps_r (o_pText 14 0) (pT b 0) (w' := V10) (by rw [← eV10, ← eb]; exact exec_alloc0 74 (by kernel_rfl) (.agg (#[.pointer none, .slice none 0 0])) (by kernel_rfl)) ?_
  clear eV10
  have h14 := kV10.bk h7
  have K15 := K8.nn kV10
  have z16 := kV10.size
  refine ps_end ?_
  refine then_n ?_
  refine sy_sq (part_pText 30) (part_pText 31) ?_
  refine sy_sq (part_pText 60) (part_pText 61) ?_
  refine sy_reg ?_
  refine rg_plain 5 (opsAt (part_pText 60)) [0, 1, 2] (by kernel_rfl) (by kernel_rfl) ?_
  refine ps_c (o_pText 60 0) 37 #[pT gp 0] Tryd.func37 ((fields_ok gp _).mono ?_)
  rintro e V17 ⟨g, ks, rfl, hF, hgl, kV17⟩
  obtain ⟨NB, hNB⟩ : ∃ n, V17.heap.size = n := ⟨_, rfl⟩
  have hNw : w.heap.size ≤ NB := hNB ▸ Nat.le_trans K15.size kV17.size
  have hgp5 := lt_of_block h14
  have hb5 := lt_of_block h11
  have hgpb : gp ≠ b := by omega
  have hnb := FieldsAt.not_b hF (kV17.bk h11) (.inl rfl) hgpb
  have hgN : gp < NB := by have := kV17.size; omega
  have hbN : b < NB := by have := kV17.size; omega
  refine ⟨_, rfl, ?_⟩
  have h18 := kV17.bk h14
  have h19 := kV17.bk h11
  have K20 := K15.nn kV17
  have z21 := kV17.size
  refine ps_p (o_pText 60 1) (.int .i64 11) (exec_len (.tmp 19) 61 _ (by kernel_rfl) Tryd.underlying61 (some ⟨g, 0, none⟩) 11 11 (by kernel_rfl)) ?_
  refine ps_k (o_pText 60 2) (.int .i64 0) ?_
  refine ps_end ?_
  refine then_n ?_
  refine sy_bk 0 (part_pText 122) ?_
  refine sy_loop (part_pText 244) (fun a V => ∃ (i : Nat) (ba : Value) (v : Value) (u8 u9 u10 u22 u23 u24 u25 u26 u27 u28 u29 u30 u31 u32 u33 u34 u35 u36 u37 u38 u39 : Value), (a = ⟨#[.agg p.cells, pT gp 0, .string { data := #[] }, .int .i64 0, .int .i64 0, .int .i64 p.check.2, pT b 0, undef, u8, u9, u10, .tuple #[.int .i64 0, .int .i64 p.check.2], .agg (p.cells), .tuple #[.int .i64 0, .int .i64 p.check.2], .int .i64 0, .int .i64 p.check.2, .int .i64 0, .bool false, undef, .slice (some ⟨g, 0, none⟩) 11 11, .int .i64 11, iN i, u22, u23, u24, u25, u26, u27, u28, u29, u30, u31, u32, u33, u34, u35, u36, u37, u38, u39, undef], []⟩) ∧ (i ≤ 11) ∧ ((ba = .pointer none ∨ ba = pT b 0) ∧ (0 < i → ba = pT b 0)) ∧ (V.heap[gp]? = some (.cells p.cells 24 (0, 0))) ∧ (V.heap[b]? = some (.cells (#[ba, v]) 74 (0, 0))) ∧ (FieldsAt V g gp ks) ∧ (NB ≤ V.heap.size) ∧ (Row V 5 1 v ((ptI p i).length) (B (ptI p i))) ∧ (Keeps Nob w V) ∧ (NewFrom NB v)) (fun a _ => 11 - (intOf (a.tmps.getD 21 undef)).toNat) (by kernel_rfl) ?_ ?_
  · exact ⟨0, .pointer none, .slice none 0 0, undef, undef, undef, undef, undef, undef, undef, undef, undef, undef, undef, undef, undef, undef, undef, undef, undef, undef, undef, undef, undef, by kernel_rfl, by omega, ⟨.inl rfl, fun h => absurd h (by omega)⟩, h18, h19, hF, (Nat.le_of_eq hNB.symm), (World.ownsRow_nil _ _ _ _), K20, (NewFrom.nil _)⟩
  · rintro a V22 ⟨i, ba, v, u8, u9, u10, u22, u23, u24, u25, u26, u27, u28, u29, u30, u31, u32, u33, u34, u35, u36, u37, u38, u39, rfl, hi, ha, h23, h24, h25, h26, h27, K28, hnw⟩
    by_cases lt_i : i < 11
    · obtain ⟨ha, ha2⟩ := ha
      have hle := ptI_le hg i hi
      have hnl := name_le lt_i
      have hdl := dig_le (Par.l_nat hg i lt_i).2
      obtain ⟨nm, hnm⟩ : ∃ nm, parName[i]?.getD ⟨#[]⟩ = nm := ⟨_, rfl⟩
      rw [hnm] at hnl
      have hns : nm.size = nm.data.toList.length := rfl
      have hline : ptI p (i + 1) = ptI p i ++ nm.data.toList ++ [32] ++ Lib.decDigits (p.l[i]?.getD 0).toNat ++ [10] := by rw [ptI_succ, pline, hnm]; simp only [List.append_assoc]
      refine sy_sq (part_pText 488) (part_pText 489) ?_
      refine sy_reg ?_
      refine rg_plain 6 (opsAt (part_pText 488)) [0] (by kernel_rfl) (by kernel_rfl) ?_
      refine ps_p (o_pText 488 0) (.bool true) (dct ((((i : Nat) : Int)) < ((11) : Int)) (by omega)) ?_
      refine ps_end ?_
      refine then_n ?_
      refine sy_sq (part_pText 978) (part_pText 979) ?_
      refine sy_ys (.tmp 22) (part_pText 1956) (part_pText 1957) ?_
      refine sy_sk ?_
      refine then_n ?_
      refine sy_sq (part_pText 1958) (part_pText 1959) ?_
      refine sy_bk 1 (part_pText 3916) ?_
      refine sy_sq (part_pText 7832) (part_pText 7833) ?_
      refine sy_reg ?_
      refine rg_plain 7 (opsAt (part_pText 7832)) [0, 1, 2, 3] (by kernel_rfl) (by kernel_rfl) ?_
      refine ps_p (o_pText 7832 0) (pT g (i * 5)) (exec_cast (v := pT g (0 + i * 5)) (by simp) (exec_indexAt_slice 61 (.tmp 19) (.tmp 21) (by kernel_rfl) g 0 11 11 (by kernel_rfl) .i64 i (by kernel_rfl) _ 5 Tryd.underlying61 (by kernel_rfl) (by omega))) ?_
      refine ps_p (o_pText 7832 1) (.agg (fieldC i (ks i)).toArray) (exec_load_mid 67 (.tmp 23) (by kernel_rfl) g (i * 5) (by kernel_rfl) (fieldC i (ks i)) _ (FieldsAt.mid h25 lt_i) Tryd.underlying67 rfl (by kernel_rfl)) ?_
      obtain ⟨V29, eV29, gt, egt, h30, kV29⟩ := alloc_step V22 (#[.string ⟨#[]⟩, .int .u64 0, .int .u64 0, .nilFunc, .nilFunc]) 67
      have n31 : gp < gt := egt ▸ lt_of_block h23
      have n32 : b < gt := egt ▸ lt_of_block h24
      have n33 : w.heap.size ≤ gt := egt ▸ K28.size
      refine ps_r (o_pText 7832 2) (pT gt 0) (w' := V29) (by rw [← eV29, ← egt]; exact exec_alloc0 67 (by kernel_rfl) (.agg (#[.string ⟨#[]⟩, .int .u64 0, .int .u64 0, .nilFunc, .nilFunc])) (by kernel_rfl)) ?_
      clear eV29
      have h34 := kV29.bk h23
      have h35 := kV29.bk h24
      have h36 : FieldsAt V29 g gp ks := h25.keepsN kV29
      have h37 : NB ≤ V29.heap.size := Nat.le_trans h26 kV29.size
      have h38 : Row V29 5 1 v ((ptI p i).length) (B (ptI p i)) := h27.keeps kV29 (fun _ _ x => x)
      have K39 := K28.nn kV29
      have z40 := kV29.size
      obtain ⟨V41, eV41, kV41⟩ := rowset_step V29 gt ((fieldC i (ks i)).toArray)
      have h42 : V41.heap[gt]? = some (.cells ((fieldC i (ks i)).toArray) 67 (0, 0)) := eV41 ▸ setRow_heap _ _ _ _ _ _ h30
      refine ps_s (o_pText 7832 3) (w' := V41) (by rw [← eV41]; exact exec_store_row 67 (.tmp 8) (.tmp 24) (by kernel_rfl) gt ((fieldC i (ks i)).toArray) (by kernel_rfl) (by kernel_rfl) 67 (#[.string ⟨#[]⟩, .int .u64 0, .int .u64 0, .nilFunc, .nilFunc]) h30 (by kernel_rfl) rfl (by kernel_rfl)) ?_
      clear eV41
      have h43 := kV41.bo h34 (by omega)
      have h44 := kV41.bo h35 (by omega)
      have h45 : FieldsAt V41 g gp ks := FieldsAt.keepsB hF h36 kV41 (fun j hj e => by unfold Own.One at e; omega)
      have h46 : NB ≤ V41.heap.size := Nat.le_trans h37 kV41.size
      have h47 : Row V41 5 1 v ((ptI p i).length) (B (ptI p i)) := h38.keeps kV41 (fun j hj e => Row.ne h38 h30 (by decide) ((show j = gt from e) ▸ hj))
      have K48 := K39.no kV41 (by omega)
      have z49 := kV41.size
      refine ps_end ?_
      refine then_n ?_
      refine sy_sq (part_pText 15666) (part_pText 15667) ?_
      refine sy_reg ?_
      refine rg_plain 8 (opsAt (part_pText 15666)) [0, 1, 2, 3, 4, 5, 6, 7] (by kernel_rfl) (by kernel_rfl) ?_
      refine ps_k (o_pText 15666 0) (pT gt 3) ?_
      refine ps_p (o_pText 15666 1) (.func (.func (parGet[i]?.getD 0)) #[] #[.pointer (some ⟨ks i, 0, none⟩)]) (exec_ld 64 (.tmp 26) gt 3 Tryd.underlying64 (rc (h42) (rfl))) ?_
      refine ps_callV (o_pText 15666 2) (.tmp 27) (parGet[i]?.getD 0) #[] #[.pointer (some ⟨ks i, 0, none⟩)] #[.pointer (some ⟨ks i, 0, none⟩)] (by kernel_rfl) (by kernel_rfl) (by kernel_rfl) (by kernel_rfl) (by kernel_rfl) (get_enters i lt_i) ((((Par.l_nat hg i lt_i).1 ▸ get_ok p hp i gp (ks i) lt_i _ (FieldsAt.box h45 i lt_i) (cell_par h43 i))).mono ?_)
      rintro e V50 ⟨rfl, kV50⟩
      refine ⟨_, rfl, ?_⟩
      have h51 := kV50.bk h43
      have h52 := kV50.bk h44
      have h53 : FieldsAt V50 g gp ks := h45.keepsN kV50
      have h54 : NB ≤ V50.heap.size := Nat.le_trans h46 kV50.size
      have h55 : Row V50 5 1 v ((ptI p i).length) (B (ptI p i)) := h47.keeps kV50 (fun _ _ x => x)
      have h56 := kV50.bk h42
      have K57 := K48.nn kV50
      have z58 := kV50.size
      refine ps_k (o_pText 15666 3) (.tuple #[uN ((p.l[i]?.getD 0).toNat), .bool (decide (0 ≤ p.l[i]?.getD 0))]) ?_
      refine ps_k (o_pText 15666 4) (uN ((p.l[i]?.getD 0).toNat)) ?_
      refine ps_k (o_pText 15666 5) (.bool (decide (0 ≤ p.l[i]?.getD 0))) ?_
      refine ps_k (o_pText 15666 6) (uN ((p.l[i]?.getD 0).toNat)) ?_
      refine ps_k (o_pText 15666 7) (.bool (decide (0 ≤ p.l[i]?.getD 0))) ?_
      refine ps_end ?_
      refine then_n ?_
      refine sy_sq (part_pText 31334) (part_pText 31335) ?_
      refine sy_reg ?_
      refine rg_plain 9 (opsAt (part_pText 31334)) [0, 1, 2] (by kernel_rfl) (by kernel_rfl) ?_
      refine ps_k (o_pText 31334 0) (pT gt 0) ?_
      refine ps_p (o_pText 31334 1) (.string nm) (exec_ld 9 (.tmp 31) gt 0 Tryd.underlying9 (rc h56 (show (fieldC i (ks i)).toArray[0]? = some (.string nm) from congrArg (fun x => some (Value.string x)) hnm))) ?_
      refine ps_c (o_pText 31334 2) 42 #[pT b 0, .string nm] Tryd.func42 ((bdWS_ok b NB ba v (ptI p i) nm _ h52 ha h55 hnw h54 (by omega)).mono ?_)
      rintro e V59 ⟨v63, rfl, hb60, hr61, hw62, kV59⟩
      have hr61x := row_str hr61
      refine ⟨_, rfl, ?_⟩
      have h64 : V59.heap[gp]? = some (.cells p.cells 24 (0, 0)) := (kV59.block gp (lt_of_block h51) (fun e => (by rcases e with e | e <;> omega))).trans h51
      have h65 : FieldsAt V59 g gp ks := FieldsAt.keeps (N := 0) h53 kV59 (fun e => by rcases e with e | e; exact hnb.1 e; have := FieldsAt.glt hF; omega) (fun i hi e => by rcases e with e | e; exact hnb.2 i hi e; have := FieldsAt.klt hF i hi; omega)
      have h66 : NB ≤ V59.heap.size := Nat.le_trans h54 kV59.size
      have K67 : Keeps Nob w V59 := K57.then kV59 (fun i hi hm => absurd hi (by rcases hm with e | e <;> omega))
      have z68 := kV59.size
      refine ps_end ?_
      refine then_n ?_
      refine sy_sq (part_pText 62670) (part_pText 62671) ?_
      refine sy_reg ?_
      refine rg_plain 10 (opsAt (part_pText 62670)) [0] (by kernel_rfl) (by kernel_rfl) ?_
      refine ps_c (o_pText 62670 0) 43 #[pT b 0, .int .u8 32] Tryd.func43 ((bdWB_ok b NB _ v63 (ptI p i ++ nm.data.toList) 32 _ hb60 (.inr rfl) hr61x hw62 h66 (by simp only [List.length_append]; omega)).mono ?_)
      rintro e V69 ⟨v73, rfl, hb70, hr71, hw72, kV69⟩
      have hr71x := row_byte hr71
      refine ⟨_, rfl, ?_⟩
      have h74 : V69.heap[gp]? = some (.cells p.cells 24 (0, 0)) := (kV69.block gp (lt_of_block h64) (fun e => (by rcases e with e | e <;> omega))).trans h64
      have h75 : FieldsAt V69 g gp ks := FieldsAt.keeps (N := 0) h65 kV69 (fun e => by rcases e with e | e; exact hnb.1 e; have := FieldsAt.glt hF; omega) (fun i hi e => by rcases e with e | e; exact hnb.2 i hi e; have := FieldsAt.klt hF i hi; omega)
      have h76 : NB ≤ V69.heap.size := Nat.le_trans h66 kV69.size
      have K77 : Keeps Nob w V69 := K67.then kV69 (fun i hi hm => absurd hi (by rcases hm with e | e <;> omega))
      have z78 := kV69.size
      refine ps_end ?_
      refine then_n ?_
      refine sy_sq (part_pText 125342) (part_pText 125343) ?_
      refine sy_reg ?_
      refine rg_plain 11 (opsAt (part_pText 125342)) [0, 1, 2] (by kernel_rfl) (by kernel_rfl) ?_
      refine ps_k (o_pText 125342 0) (uN ((p.l[i]?.getD 0).toNat)) ?_
      refine ps_c (o_pText 125342 1) 44 #[uN ((p.l[i]?.getD 0).toNat), .int .i64 10] Tryd.func44 ((fmtU_ok _ _ (Par.l_nat hg i lt_i).2 (PowTab.keeps htab K77)).mono ?_)
      rintro e V79 ⟨rfl, kV79⟩
      refine ⟨_, rfl, ?_⟩
      have h80 := kV79.bk h74
      have h81 : FieldsAt V79 g gp ks := h75.keepsN kV79
      have h82 : NB ≤ V79.heap.size := Nat.le_trans h76 kV79.size
      have h83 := kV79.bk hb70
      have h84 : Row V79 5 1 v73 ((ptI p i ++ nm.data.toList ++ [32]).length) (B (ptI p i ++ nm.data.toList ++ [32])) := hr71x.keeps kV79 (fun _ _ x => x)
      have K85 := K77.nn kV79
      have z86 := kV79.size
      refine ps_c (o_pText 125342 2) 42 #[pT b 0, .string ⟨(Lib.decDigits (p.l[i]?.getD 0).toNat).toArray⟩] Tryd.func42 ((bdWS_ok b NB _ v73 (ptI p i ++ nm.data.toList ++ [32]) ⟨(Lib.decDigits (p.l[i]?.getD 0).toNat).toArray⟩ _ h83 (.inr rfl) h84 hw72 h82 (by simp only [List.length_append, List.length_cons, List.length_nil]; have e : (⟨(Lib.decDigits (p.l[i]?.getD 0).toNat).toArray⟩ : ByteArray).size = (Lib.decDigits (p.l[i]?.getD 0).toNat).length := rfl; omega)).mono ?_)
      rintro e V87 ⟨v91, rfl, hb88, hr89, hw90, kV87⟩
      have hr89x := row_str hr89
      refine ⟨_, rfl, ?_⟩
      have h92 : V87.heap[gp]? = some (.cells p.cells 24 (0, 0)) := (kV87.block gp (lt_of_block h80) (fun e => (by rcases e with e | e <;> omega))).trans h80
      have h93 : FieldsAt V87 g gp ks := FieldsAt.keeps (N := 0) h81 kV87 (fun e => by rcases e with e | e; exact hnb.1 e; have := FieldsAt.glt hF; omega) (fun i hi e => by rcases e with e | e; exact hnb.2 i hi e; have := FieldsAt.klt hF i hi; omega)
      have h94 : NB ≤ V87.heap.size := Nat.le_trans h82 kV87.size
      have K95 : Keeps Nob w V87 := K85.then kV87 (fun i hi hm => absurd hi (by rcases hm with e | e <;> omega))
      have z96 := kV87.size
      refine ps_end ?_
      refine then_n ?_
      refine sy_reg ?_
      refine rg_plain 12 (opsAt (part_pText 125343)) [0] (by kernel_rfl) (by kernel_rfl) ?_
      refine ps_c (o_pText 125343 0) 43 #[pT b 0, .int .u8 10] Tryd.func43 ((bdWB_ok b NB _ v91 (ptI p i ++ nm.data.toList ++ [32] ++ Lib.decDigits (p.l[i]?.getD 0).toNat) 10 _ hb88 (.inr rfl) hr89x hw90 h94 (by simp only [List.length_append, List.length_cons, List.length_nil]; omega)).mono ?_)
      rintro e V97 ⟨v101, rfl, hb98, hr99, hw100, kV97⟩
      have hr99x : Row V97 5 1 v101 (ptI p (i + 1)).length (B (ptI p (i + 1))) := by have hh := row_byte hr99; rw [← hline] at hh; exact hh
      refine ⟨_, rfl, ?_⟩
      have h102 : V97.heap[gp]? = some (.cells p.cells 24 (0, 0)) := (kV97.block gp (lt_of_block h92) (fun e => (by rcases e with e | e <;> omega))).trans h92
      have h103 : FieldsAt V97 g gp ks := FieldsAt.keeps (N := 0) h93 kV97 (fun e => by rcases e with e | e; exact hnb.1 e; have := FieldsAt.glt hF; omega) (fun i hi e => by rcases e with e | e; exact hnb.2 i hi e; have := FieldsAt.klt hF i hi; omega)
      have h104 : NB ≤ V97.heap.size := Nat.le_trans h94 kV97.size
      have K105 : Keeps Nob w V97 := K95.then kV97 (fun i hi hm => absurd hi (by rcases hm with e | e <;> omega))
      have z106 := kV97.size
      refine ps_end ?_
      refine blk_n ?_
      refine then_n ?_
      refine sy_reg ?_
      refine rg_plain 13 (opsAt (part_pText 1959)) [0, 1] (by kernel_rfl) (by kernel_rfl) ?_
      refine ps_p (o_pText 1959 0) (iN (i + 1)) (exec_cast (congrArg (Value.int .i64) (wrapN (i + 1) (by omega))) (by kernel_rfl)) ?_
      refine ps_k (o_pText 1959 1) (iN (i + 1)) ?_
      refine ps_end ?_
      refine then_n ?_
      refine ⟨⟨i + 1, pT b 0, v101, (pT gt 0), (uN ((p.l[i]?.getD 0).toNat)), (.bool (decide (0 ≤ p.l[i]?.getD 0))), (.bool true), (pT g (i * 5)), (.agg (fieldC i (ks i)).toArray), (.tuple #[uN ((p.l[i]?.getD 0).toNat), .bool (decide (0 ≤ p.l[i]?.getD 0))]), (pT gt 3), (.func (.func (parGet[i]?.getD 0)) #[] #[.pointer (some ⟨ks i, 0, none⟩)]), (.tuple #[uN ((p.l[i]?.getD 0).toNat), .bool (decide (0 ≤ p.l[i]?.getD 0))]), (uN ((p.l[i]?.getD 0).toNat)), (.bool (decide (0 ≤ p.l[i]?.getD 0))), (pT gt 0), (.string nm), (.tuple #[.int .i64 ((nm : ByteArray).size : Int), .nilIface]), .nilIface, (uN ((p.l[i]?.getD 0).toNat)), (.string ⟨(Lib.decDigits (p.l[i]?.getD 0).toNat).toArray⟩), (.tuple #[.int .i64 ((⟨(Lib.decDigits (p.l[i]?.getD 0).toNat).toArray⟩ : ByteArray).size : Int), .nilIface]), .nilIface, (iN (i + 1)), by kernel_rfl, by omega, ⟨.inr rfl, fun _ => rfl⟩, h102, hb98, h103, h104, hr99x, K105, hw100⟩, ?_⟩
      exact lt_meas (x := 11 - (i + 1)) (y := 11 - i) (by kernel_rfl) (by kernel_rfl) (by omega)
    · have eq_i : i = 11 := by omega
      have ha3 := ha.2 (by omega)
      subst ha3
      refine sy_sq (part_pText 488) (part_pText 489) ?_
      refine sy_reg ?_
      refine rg_plain 6 (opsAt (part_pText 488)) [0] (by kernel_rfl) (by kernel_rfl) ?_
      refine ps_p (o_pText 488 0) (.bool false) (dcf ((((i : Nat) : Int)) < ((11) : Int)) (by omega)) ?_
      refine ps_end ?_
      refine then_n ?_
      refine sy_sq (part_pText 978) (part_pText 979) ?_
      refine sy_n (.tmp 22) (part_pText 1956) (part_pText 1957) ?_
      refine sy_exit 0 (by kernel_rfl) ?_
      refine then_e ?_
      refine then_e ?_
      refine blk_e ?_
      refine then_n ?_
      refine sy_sq (part_pText 62) (part_pText 63) ?_
      refine sy_reg ?_
      refine rg_plain 14 (opsAt (part_pText 62)) [0, 1, 2] (by kernel_rfl) (by kernel_rfl) ?_
      refine ps_c (o_pText 62 0) 45 #[pT b 0] Tryd.func45 ((bdStr_ok b NB v p _ (h24) (by have e := h27; rw [eq_i] at e; exact e) hnw hbN).mono ?_)
      rintro e V107 ⟨rfl, kV107⟩
      refine ⟨_, rfl, ?_⟩
      have K108 : Keeps Nob w V107 := K28.then kV107 (fun i hi hm => absurd hi (by have hm2 : b ≤ i := hm; omega))
      have z109 := kV107.size
      refine ps_k (o_pText 62 1) (.string (ptx p)) ?_
      refine ps_k (o_pText 62 2) (.int .i64 0) ?_
      refine ps_end ?_
      refine then_n ?_
      refine sy_ret (by kernel_rfl) ?_
      refine sy_out (.tuple #[.string (ptx p), .int .i64 0]) rfl (by kernel_rfl) ?_
      exact ⟨rfl, K108⟩
end Go.Proofs.YtpflmldmbpnllaaDoor
