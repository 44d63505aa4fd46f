/-
  Params: their bytes (printed by par3.py). Conditions: none.
-/
import Derived.Test.YtpflmldmbpnllaaDoorPmB
import Derived.Test.YtpflmldmbpnllaaDoorCodC
import Derived.Test.YtpflmldmbpnllaaDoorKitB
namespace Go.Proofs.YtpflmldmbpnllaaDoor
open Go Go.RowKit Go.Own Go.Shelf
def pbI (p : Par) (i : Nat) : List UInt8 := (p.l.take i).flatMap fun x => Cod.enc x.toNat
def pby (p : Par) : List UInt8 := p.l.flatMap fun x => Cod.enc x.toNat
theorem pbI_all (p : Par) : pbI p 11 = pby p := rfl
theorem pbI_succ (p : Par) {i : Nat} (hi : i < 11) : pbI p (i + 1) = pbI p i ++ Cod.enc (p.l[i]?.getD 0).toNat := by
  have h : p.l[i]? = some (p.l[i]?.getD 0) := by rw [List.getElem?_eq_getElem (by show i < 11; exact hi)]; rfl
  unfold pbI; rw [List.take_add_one]
  conv => lhs; rw [h]
  simp
theorem pbI_le (p : Par) (i : Nat) (hi : i ≤ 11) : (pbI p i).length ≤ 10 * i := by
  induction i with
  | zero => simp [pbI]
  | succ i ih => rw [pbI_succ p (by omega), List.length_append]; have := Cod.enc_length (p.l[i]?.getD 0).toNat; have := ih (by omega); omega
theorem pby_cast {p : Par} {i : Nat} {w : World} {v : Value} (hi : i < 11) (h : Row w 5 1 v ((pbI p i).length + (Cod.enc (p.l[i]?.getD 0).toNat).length) (B (pbI p i) ++ B (Cod.enc (p.l[i]?.getD 0).toNat))) : Row w 5 1 v (pbI p (i + 1)).length (B (pbI p (i + 1))) := by
  rw [pbI_succ p hi, List.length_append]
  have e : B (pbI p i ++ Cod.enc (p.l[i]?.getD 0).toNat) = B (pbI p i) ++ B (Cod.enc (p.l[i]?.getD 0).toNat) := by simp [B]
  rw [e]; exact h
theorem Par.l_nat {p : Par} (h : ∀ j, j < 11 → p.good j) (i : Nat) (hi : i < 11) : max (p.l[i]?.getD 0) 0 = (((p.l[i]?.getD 0).toNat : Nat) : Int) ∧ (p.l[i]?.getD 0).toNat < 2 ^ 64 := by
  have h1 := Par.r_in h i hi; omega
def ptold (p : Par) : List UInt8 × Int := if p.check.1 = 0 then (pby p, 0) else ([], p.check.1)

noncomputable def part_pBytes (n : Nat) : Code := partOf Tryd.f23 n
noncomputable abbrev o_pBytes (n k : Nat) : Oper := (opsAt (part_pBytes n)).getD k default
set_option maxRecDepth 100000 in
set_option maxHeartbeats 4000000 in
theorem pBytes_bad (p : Par) (w : World) (hp : p.Ok) (hc : ¬ p.check.1 = 0) :
    Calls Tryd.prog 23 #[.agg p.cells] w (fun e w' => ∃ X, e = .returned (.tuple #[X, .int .i64 (ptold p).2]) ∧ Row w' 5 1 X (ptold p).1.length (B (ptold p).1) ∧ NewFrom w.heap.size X ∧ Keeps Nob w w') := by
  have K0 : Keeps Nob w w := Keeps.refl _ _
  refine sy_enter (part_pBytes 1) ⟨#[.agg p.cells, undef, undef, undef, undef, undef, undef, undef, undef, undef, undef, undef, undef, undef, undef, undef, undef, undef, undef, undef, undef, undef, undef, undef, undef, undef, undef, undef, undef, undef, undef, undef, undef, undef, undef, undef, undef], []⟩ Tryd.func23 (by kernel_rfl) (by kernel_rfl) ?_
  refine sy_sq (part_pBytes 2) (part_pBytes 3) ?_
  refine sy_reg ?_
  refine rg_plain 0 (opsAt (part_pBytes 2)) [0, 1, 2] (by kernel_rfl) (by kernel_rfl) ?_
  obtain ⟨V1, eV1, gp, egp, h2, kV1⟩ := alloc_step w p.cells 24
  have n3 : w.heap.size ≤ gp := egp ▸ K0.size
  refine ps_r (o_pBytes 2 0) (pT gp 0) (w' := V1) (by rw [← eV1, ← egp]; exact exec_box 24 (.tmp 0) (by kernel_rfl) (.agg p.cells) (by kernel_rfl)) ?_
  clear eV1
  have K4 := K0.nn kV1
  have z5 := kV1.size
  refine ps_k (o_pBytes 2 1) (.slice none 0 0) ?_
  refine ps_k (o_pBytes 2 2) (.int .i64 0) ?_
  refine ps_end ?_
  refine then_n ?_
  refine sy_sq (part_pBytes 6) (part_pBytes 7) ?_
  refine sy_sq (part_pBytes 12) (part_pBytes 13) ?_
  refine sy_reg ?_
  refine rg_plain 1 (opsAt (part_pBytes 12)) [0, 1, 2, 3, 4, 5, 6] (by kernel_rfl) (by kernel_rfl) ?_
  refine ps_p (o_pBytes 12 0) (.agg (p.cells)) (exec_load_row 24 (.tmp 1) (by kernel_rfl) gp (by kernel_rfl) _ _ (0, 0) _ (h2) Tryd.underlying24 rfl (by kernel_rfl)) ?_
  refine ps_c (o_pBytes 12 1) 9 #[.agg (p.cells)] Tryd.func9 ((pCheck_is p _ _ hp rfl).mono ?_)
  rintro e V6 ⟨rfl, kV6⟩
  refine ⟨_, rfl, ?_⟩
  have h7 := kV6.bk h2
  have K8 := K4.nn kV6
  have z9 := kV6.size
  refine ps_k (o_pBytes 12 2) (.tuple #[.int .i64 p.check.1, .int .i64 p.check.2]) ?_
  refine ps_k (o_pBytes 12 3) (.int .i64 p.check.1) ?_
  refine ps_k (o_pBytes 12 4) (.int .i64 p.check.2) ?_
  refine ps_k (o_pBytes 12 5) (.int .i64 p.check.1) ?_
  refine ps_k (o_pBytes 12 6) (.int .i64 p.check.2) ?_
  refine ps_end ?_
  refine then_n ?_
  refine sy_sq (part_pBytes 26) (part_pBytes 27) ?_
  refine sy_reg ?_
  refine rg_plain 2 (opsAt (part_pBytes 26)) [0, 1] (by kernel_rfl) (by kernel_rfl) ?_
  refine ps_k (o_pBytes 26 0) (.int .i64 p.check.1) ?_
  refine ps_p (o_pBytes 26 1) (.bool true) (nqt ((p.check.1) : Int) ((0) : Int) (by omega)) ?_
  refine ps_end ?_
  refine then_n ?_
  refine sy_ys (.tmp 17) (part_pBytes 54) (part_pBytes 55) ?_
  refine sy_sq (part_pBytes 108) (part_pBytes 109) ?_
  refine sy_reg ?_
  refine rg_plain 3 (opsAt (part_pBytes 108)) [0, 1, 2] (by kernel_rfl) (by kernel_rfl) ?_
  refine ps_k (o_pBytes 108 0) (.int .i64 p.check.1) ?_
  refine ps_k (o_pBytes 108 1) (.slice none 0 0) ?_
  refine ps_k (o_pBytes 108 2) (.int .i64 p.check.1) ?_
  refine ps_end ?_
  refine then_n ?_
  refine sy_ret (by kernel_rfl) ?_
  refine then_r ?_
  refine sy_out (.tuple #[.slice none 0 0, .int .i64 p.check.1]) rfl (by kernel_rfl) ?_
  exact ⟨_, by rw [ptold, if_neg hc], by rw [ptold, if_neg hc]; exact World.ownsRow_nil _ _ _ _, NewFrom.nil _, K8⟩
set_option maxRecDepth 100000 in
set_option maxHeartbeats 4000000 in
theorem pBytes_ok (p : Par) (w : World) (hp : p.Ok) (hc : p.check.1 = 0) :
    Calls Tryd.prog 23 #[.agg p.cells] w (fun e w' => ∃ X, e = .returned (.tuple #[X, .int .i64 (ptold p).2]) ∧ Row w' 5 1 X (ptold p).1.length (B (ptold p).1) ∧ NewFrom w.heap.size X ∧ Keeps Nob w w') := by
  obtain ⟨i0, hi0, hz0, hz1, hz2⟩ := info_parts u8_info0
  have K0 : Keeps Nob w w := Keeps.refl _ _
  refine sy_enter (part_pBytes 1) ⟨#[.agg p.cells, undef, undef, undef, undef, undef, undef, undef, undef, undef, undef, undef, undef, undef, undef, undef, undef, undef, undef, undef, undef, undef, undef, undef, undef, undef, undef, undef, undef, undef, undef, undef, undef, undef, undef, undef, undef], []⟩ Tryd.func23 (by kernel_rfl) (by kernel_rfl) ?_
  refine sy_sq (part_pBytes 2) (part_pBytes 3) ?_
  refine sy_reg ?_
  refine rg_plain 0 (opsAt (part_pBytes 2)) [0, 1, 2] (by kernel_rfl) (by kernel_rfl) ?_
  obtain ⟨V1, eV1, gp, egp, h2, kV1⟩ := alloc_step w p.cells 24
  have n3 : w.heap.size ≤ gp := egp ▸ K0.size
  refine ps_r (o_pBytes 2 0) (pT gp 0) (w' := V1) (by rw [← eV1, ← egp]; exact exec_box 24 (.tmp 0) (by kernel_rfl) (.agg p.cells) (by kernel_rfl)) ?_
  clear eV1
  have K4 := K0.nn kV1
  have z5 := kV1.size
  refine ps_k (o_pBytes 2 1) (.slice none 0 0) ?_
  refine ps_k (o_pBytes 2 2) (.int .i64 0) ?_
  refine ps_end ?_
  refine then_n ?_
  refine sy_sq (part_pBytes 6) (part_pBytes 7) ?_
  refine sy_sq (part_pBytes 12) (part_pBytes 13) ?_
  refine sy_reg ?_
  refine rg_plain 1 (opsAt (part_pBytes 12)) [0, 1, 2, 3, 4, 5, 6] (by kernel_rfl) (by kernel_rfl) ?_
  refine ps_p (o_pBytes 12 0) (.agg (p.cells)) (exec_load_row 24 (.tmp 1) (by kernel_rfl) gp (by kernel_rfl) _ _ (0, 0) _ (h2) Tryd.underlying24 rfl (by kernel_rfl)) ?_
  refine ps_c (o_pBytes 12 1) 9 #[.agg (p.cells)] Tryd.func9 ((pCheck_is p 0 _ hp hc).mono ?_)
  rintro e V6 ⟨rfl, kV6⟩
  refine ⟨_, rfl, ?_⟩
  have h7 := kV6.bk h2
  have K8 := K4.nn kV6
  have z9 := kV6.size
  refine ps_k (o_pBytes 12 2) (.tuple #[.int .i64 0, .int .i64 p.check.2]) ?_
  refine ps_k (o_pBytes 12 3) (.int .i64 0) ?_
  refine ps_k (o_pBytes 12 4) (.int .i64 p.check.2) ?_
  refine ps_k (o_pBytes 12 5) (.int .i64 0) ?_
  refine ps_k (o_pBytes 12 6) (.int .i64 p.check.2) ?_
  refine ps_end ?_
  refine then_n ?_
  refine sy_sq (part_pBytes 26) (part_pBytes 27) ?_
  refine sy_reg ?_
  refine rg_plain 2 (opsAt (part_pBytes 26)) [0, 1] (by kernel_rfl) (by kernel_rfl) ?_
  refine ps_k (o_pBytes 26 0) (.int .i64 0) ?_
  refine ps_k (o_pBytes 26 1) (.bool false) ?_
  refine ps_end ?_
  refine then_n ?_
  refine sy_n (.tmp 17) (part_pBytes 54) (part_pBytes 55) ?_
  refine sy_sk ?_
  refine then_n ?_
  refine sy_sq (part_pBytes 14) (part_pBytes 15) ?_
  refine sy_reg ?_
  refine rg_plain 4 (opsAt (part_pBytes 14)) [0] (by kernel_rfl) (by kernel_rfl) ?_
  refine ps_k (o_pBytes 14 0) (.slice none 0 0) ?_
  refine ps_end ?_
  refine then_n ?_
  refine sy_sq (part_pBytes 30) (part_pBytes 31) ?_
  refine sy_sq (part_pBytes 60) (part_pBytes 61) ?_
  refine sy_reg ?_
  refine rg_plain 5 (opsAt (part_pBytes 60)) [0, 1, 2] (by kernel_rfl) (by kernel_rfl) ?_
  refine ps_c (o_pBytes 60 0) 37 #[pT gp 0] Tryd.func37 ((fields_ok gp _).mono ?_)
  rintro e V10 ⟨g, ks, rfl, hF, hgl, kV10⟩
  obtain ⟨NB, hNB⟩ : ∃ n, V10.heap.size = n := ⟨_, rfl⟩
  have hNw : w.heap.size ≤ NB := hNB ▸ Nat.le_trans K8.size kV10.size
  have hgp5 := lt_of_block h7
  refine ⟨_, rfl, ?_⟩
  have h11 := kV10.bk h7
  have K12 := K8.nn kV10
  have z13 := kV10.size
  refine ps_p (o_pBytes 60 1) (.int .i64 11) (exec_len (.tmp 19) 61 _ (by kernel_rfl) Tryd.underlying61 (some ⟨g, 0, none⟩) 11 11 (by kernel_rfl)) ?_
  refine ps_k (o_pBytes 60 2) (.int .i64 0) ?_
  refine ps_end ?_
  refine then_n ?_
  refine sy_bk 0 (part_pBytes 122) ?_
  refine sy_loop (part_pBytes 244) (fun a V => ∃ (i : Nat) (v : Value) (u8 u9 u10 u22 u23 u24 u25 u26 u27 u28 u29 u30 u31 u32 u33 u34 u35 : Value), (a = ⟨#[.agg p.cells, pT gp 0, .slice none 0 0, .int .i64 0, .int .i64 0, .int .i64 p.check.2, v, undef, u8, u9, u10, .tuple #[.int .i64 0, .int .i64 p.check.2], .agg (p.cells), .tuple #[.int .i64 0, .int .i64 p.check.2], .int .i64 0, .int .i64 p.check.2, .int .i64 0, .bool false, undef, .slice (some ⟨g, 0, none⟩) 11 11, .int .i64 11, iN i, u22, u23, u24, u25, u26, u27, u28, u29, u30, u31, u32, u33, u34, u35, undef], []⟩) ∧ (i ≤ 11) ∧ (V.heap[gp]? = some (.cells p.cells 24 (0, 0))) ∧ (FieldsAt V g gp ks) ∧ (NB ≤ V.heap.size) ∧ (Row V 5 1 v ((pbI p i).length) (B (pbI p i))) ∧ (Keeps Nob w V) ∧ (NewFrom NB v)) (fun a _ => 11 - (intOf (a.tmps.getD 21 undef)).toNat) (by kernel_rfl) ?_ ?_
  · exact ⟨0, .slice none 0 0, undef, undef, undef, undef, undef, undef, undef, undef, undef, undef, undef, undef, undef, undef, undef, undef, undef, by kernel_rfl, by omega, h11, hF, (Nat.le_of_eq hNB.symm), (World.ownsRow_nil _ _ _ _), K12, (NewFrom.nil _)⟩
  · rintro a V14 ⟨i, v, u8, u9, u10, u22, u23, u24, u25, u26, u27, u28, u29, u30, u31, u32, u33, u34, u35, rfl, hi, h15, h16, h17, h18, K19, hnw⟩
    by_cases lt_i : i < 11
    · skip
      refine sy_sq (part_pBytes 488) (part_pBytes 489) ?_
      refine sy_reg ?_
      refine rg_plain 6 (opsAt (part_pBytes 488)) [0] (by kernel_rfl) (by kernel_rfl) ?_
      refine ps_p (o_pBytes 488 0) (.bool true) (dct ((((i : Nat) : Int)) < ((11) : Int)) (by omega)) ?_
      refine ps_end ?_
      refine then_n ?_
      refine sy_sq (part_pBytes 978) (part_pBytes 979) ?_
      refine sy_ys (.tmp 22) (part_pBytes 1956) (part_pBytes 1957) ?_
      refine sy_sk ?_
      refine then_n ?_
      refine sy_sq (part_pBytes 1958) (part_pBytes 1959) ?_
      refine sy_bk 1 (part_pBytes 3916) ?_
      refine sy_sq (part_pBytes 7832) (part_pBytes 7833) ?_
      refine sy_reg ?_
      refine rg_plain 7 (opsAt (part_pBytes 7832)) [0, 1, 2, 3] (by kernel_rfl) (by kernel_rfl) ?_
      refine ps_p (o_pBytes 7832 0) (pT g (i * 5)) (exec_cast (v := pT g (0 + i * 5)) (by simp) (exec_indexAt_slice 61 (.tmp 19) (.tmp 21) (by kernel_rfl) g 0 11 11 (by kernel_rfl) .i64 i (by kernel_rfl) _ 5 Tryd.underlying61 (by kernel_rfl) (by omega))) ?_
      refine ps_p (o_pBytes 7832 1) (.agg (fieldC i (ks i)).toArray) (exec_load_mid 67 (.tmp 23) (by kernel_rfl) g (i * 5) (by kernel_rfl) (fieldC i (ks i)) _ (FieldsAt.mid h16 lt_i) Tryd.underlying67 rfl (by kernel_rfl)) ?_
      obtain ⟨V20, eV20, gt, egt, h21, kV20⟩ := alloc_step V14 (#[.string ⟨#[]⟩, .int .u64 0, .int .u64 0, .nilFunc, .nilFunc]) 67
      have n22 : gp < gt := egt ▸ lt_of_block h15
      have n23 : w.heap.size ≤ gt := egt ▸ K19.size
      refine ps_r (o_pBytes 7832 2) (pT gt 0) (w' := V20) (by rw [← eV20, ← egt]; exact exec_alloc0 67 (by kernel_rfl) (.agg (#[.string ⟨#[]⟩, .int .u64 0, .int .u64 0, .nilFunc, .nilFunc])) (by kernel_rfl)) ?_
      clear eV20
      have h24 := kV20.bk h15
      have h25 : FieldsAt V20 g gp ks := h16.keepsN kV20
      have h26 : NB ≤ V20.heap.size := Nat.le_trans h17 kV20.size
      have h27 : Row V20 5 1 v ((pbI p i).length) (B (pbI p i)) := h18.keeps kV20 (fun _ _ x => x)
      have K28 := K19.nn kV20
      have z29 := kV20.size
      obtain ⟨V30, eV30, kV30⟩ := rowset_step V20 gt ((fieldC i (ks i)).toArray)
      have h31 : V30.heap[gt]? = some (.cells ((fieldC i (ks i)).toArray) 67 (0, 0)) := eV30 ▸ setRow_heap _ _ _ _ _ _ h21
      refine ps_s (o_pBytes 7832 3) (w' := V30) (by rw [← eV30]; exact exec_store_row 67 (.tmp 8) (.tmp 24) (by kernel_rfl) gt ((fieldC i (ks i)).toArray) (by kernel_rfl) (by kernel_rfl) 67 (#[.string ⟨#[]⟩, .int .u64 0, .int .u64 0, .nilFunc, .nilFunc]) h21 (by kernel_rfl) rfl (by kernel_rfl)) ?_
      clear eV30
      have h32 := kV30.bo h24 (by omega)
      have h33 : FieldsAt V30 g gp ks := FieldsAt.keepsB hF h25 kV30 (fun j hj e => by unfold Own.One at e; omega)
      have h34 : NB ≤ V30.heap.size := Nat.le_trans h26 kV30.size
      have h35 : Row V30 5 1 v ((pbI p i).length) (B (pbI p i)) := h27.keeps kV30 (fun j hj e => Row.ne h27 h21 (by decide) ((show j = gt from e) ▸ hj))
      have K36 := K28.no kV30 (by omega)
      have z37 := kV30.size
      refine ps_end ?_
      refine then_n ?_
      refine sy_sq (part_pBytes 15666) (part_pBytes 15667) ?_
      refine sy_reg ?_
      refine rg_plain 8 (opsAt (part_pBytes 15666)) [0, 1, 2, 3, 4, 5, 6, 7] (by kernel_rfl) (by kernel_rfl) ?_
      refine ps_k (o_pBytes 15666 0) (pT gt 3) ?_
      refine ps_p (o_pBytes 15666 1) (.func (.func (parGet[i]?.getD 0)) #[] #[.pointer (some ⟨ks i, 0, none⟩)]) (exec_ld 64 (.tmp 26) gt 3 Tryd.underlying64 (rc (h31) (rfl))) ?_
      refine ps_callV (o_pBytes 15666 2) (.tmp 27) (parGet[i]?.getD 0) #[] #[.pointer (some ⟨ks i, 0, none⟩)] #[.pointer (some ⟨ks i, 0, none⟩)] (by kernel_rfl) (by kernel_rfl) (by kernel_rfl) (by kernel_rfl) (by kernel_rfl) (get_enters i lt_i) ((((Par.l_nat (Par.check_0 hc).1 i lt_i).1 ▸ get_ok p hp i gp (ks i) lt_i _ (FieldsAt.box h33 i lt_i) (cell_par h32 i))).mono ?_)
      rintro e V38 ⟨rfl, kV38⟩
      refine ⟨_, rfl, ?_⟩
      have h39 := kV38.bk h32
      have h40 : FieldsAt V38 g gp ks := h33.keepsN kV38
      have h41 : NB ≤ V38.heap.size := Nat.le_trans h34 kV38.size
      have h42 : Row V38 5 1 v ((pbI p i).length) (B (pbI p i)) := h35.keeps kV38 (fun _ _ x => x)
      have h43 := kV38.bk h31
      have K44 := K36.nn kV38
      have z45 := kV38.size
      refine ps_k (o_pBytes 15666 3) (.tuple #[uN ((p.l[i]?.getD 0).toNat), .bool (decide (0 ≤ p.l[i]?.getD 0))]) ?_
      refine ps_k (o_pBytes 15666 4) (uN ((p.l[i]?.getD 0).toNat)) ?_
      refine ps_k (o_pBytes 15666 5) (.bool (decide (0 ≤ p.l[i]?.getD 0))) ?_
      refine ps_k (o_pBytes 15666 6) (uN ((p.l[i]?.getD 0).toNat)) ?_
      refine ps_k (o_pBytes 15666 7) (.bool (decide (0 ≤ p.l[i]?.getD 0))) ?_
      refine ps_end ?_
      refine then_n ?_
      refine sy_reg ?_
      refine rg_plain 9 (opsAt (part_pBytes 15667)) [0, 1, 2, 3, 4] (by kernel_rfl) (by kernel_rfl) ?_
      refine ps_k (o_pBytes 15667 0) (v) ?_
      refine ps_k (o_pBytes 15667 1) (uN ((p.l[i]?.getD 0).toNat)) ?_
      refine ps_c (o_pBytes 15667 2) 47 #[uN ((p.l[i]?.getD 0).toNat)] Tryd.func47 ((cPut_ok (p.l[i]?.getD 0).toNat (Par.l_nat (Par.check_0 hc).1 i lt_i).2 _).mono ?_)
      rintro e V46 ⟨X, rfl, hX, hXn, -, kV46⟩
      have hpl := pbI_le p i hi
      have hel := Cod.enc_length (p.l[i]?.getD 0).toNat
      refine ⟨_, rfl, ?_⟩
      have h47 := kV46.bk h39
      have h48 : FieldsAt V46 g gp ks := h40.keepsN kV46
      have h49 : NB ≤ V46.heap.size := Nat.le_trans h41 kV46.size
      have h50 : Row V46 5 1 v ((pbI p i).length) (B (pbI p i)) := h42.keeps kV46 (fun _ _ x => x)
      have h51 := kV46.bk h43
      have K52 := K44.nn kV46
      have z53 := kV46.size
      obtain ⟨v54, V55, hr56, h57, hg58, hn59, ha60⟩ := run_append_any (P := Tryd.prog) (w := V46) 39 (Oper.type (o_pBytes 15667 3)) 5 i0 (.int .u8 0) 1 1 Tryd.underlying39 hi0 hz0 hz1 hz2 rfl (by decide) v ((pbI p i).length) (B (pbI p i)) h50 X ((Cod.enc (p.l[i]?.getD 0).toNat).length) (B (Cod.enc (p.l[i]?.getD 0).toNat)) (BytesAt.src (Row.bytes hX)) (by unfold maxLen; omega) (by omega)
      have kV55 : Keeps (fun j => v.ownBlock = some j) V46 V55 := Keeps.rowAdd hg58
      have hw61 : NewFrom NB v54 := hnw.next h49 ha60
      refine ps_r (o_pBytes 15667 3) v54 (w' := V55) (exec_append (.tmp 31) (.tmp 33) 39 (by kernel_rfl) v X (by kernel_rfl) (by kernel_rfl) hr56) ?_
      have h62 : Row V55 5 1 v54 ((pbI p (i + 1)).length) (B (pbI p (i + 1))) := (pby_cast lt_i h57)
      have h63 : V55.heap[gp]? = some (.cells p.cells 24 (0, 0)) := (kV55.block gp (lt_of_block h47) (fun e => Row.ne h50 h47 (by decide) e)).trans h47
      have h64 : FieldsAt V55 g gp ks := FieldsAt.keepsB hF h48 kV55 (fun j hj e => by have := hnw j e; omega)
      have h65 : NB ≤ V55.heap.size := Nat.le_trans h49 kV55.size
      have h66 : V55.heap[gt]? = some (.cells ((fieldC i (ks i)).toArray) 67 (0, 0)) := (kV55.block gt (lt_of_block h51) (fun e => Row.ne h50 h51 (by decide) e)).trans h51
      have K67 : Keeps Nob w V55 := K52.then kV55 (fun i hi hm => absurd hi (by have := hnw i hm; omega))
      have z68 := kV55.size
      refine ps_k (o_pBytes 15667 4) (v54) ?_
      refine ps_end ?_
      refine blk_n ?_
      refine then_n ?_
      refine sy_reg ?_
      refine rg_plain 10 (opsAt (part_pBytes 1959)) [0, 1] (by kernel_rfl) (by kernel_rfl) ?_
      refine ps_p (o_pBytes 1959 0) (iN (i + 1)) (exec_cast (congrArg (Value.int .i64) (wrapN (i + 1) (by omega))) (by kernel_rfl)) ?_
      refine ps_k (o_pBytes 1959 1) (iN (i + 1)) ?_
      refine ps_end ?_
      refine then_n ?_
      refine ⟨⟨i + 1, v54, (pT gt 0), (uN ((p.l[i]?.getD 0).toNat)), (.bool (decide (0 ≤ p.l[i]?.getD 0))), (.bool true), (pT g (i * 5)), (.agg (fieldC i (ks i)).toArray), (.tuple #[uN ((p.l[i]?.getD 0).toNat), .bool (decide (0 ≤ p.l[i]?.getD 0))]), (pT gt 3), (.func (.func (parGet[i]?.getD 0)) #[] #[.pointer (some ⟨ks i, 0, none⟩)]), (.tuple #[uN ((p.l[i]?.getD 0).toNat), .bool (decide (0 ≤ p.l[i]?.getD 0))]), (uN ((p.l[i]?.getD 0).toNat)), (.bool (decide (0 ≤ p.l[i]?.getD 0))), v, (uN ((p.l[i]?.getD 0).toNat)), X, v54, (iN (i + 1)), by kernel_rfl, by omega, h63, h64, h65, h62, K67, hw61⟩, ?_⟩
      exact lt_meas (x := 11 - (i + 1)) (y := 11 - i) (by kernel_rfl) (by kernel_rfl) (by omega)
    · have eq_i : i = 11 := by omega
      refine sy_sq (part_pBytes 488) (part_pBytes 489) ?_
      refine sy_reg ?_
      refine rg_plain 6 (opsAt (part_pBytes 488)) [0] (by kernel_rfl) (by kernel_rfl) ?_
      refine ps_p (o_pBytes 488 0) (.bool false) (dcf ((((i : Nat) : Int)) < ((11) : Int)) (by omega)) ?_
      refine ps_end ?_
      refine then_n ?_
      refine sy_sq (part_pBytes 978) (part_pBytes 979) ?_
      refine sy_n (.tmp 22) (part_pBytes 1956) (part_pBytes 1957) ?_
      refine sy_exit 0 (by kernel_rfl) ?_
      refine then_e ?_
      refine then_e ?_
      refine blk_e ?_
      refine then_n ?_
      refine sy_sq (part_pBytes 62) (part_pBytes 63) ?_
      refine sy_reg ?_
      refine rg_plain 11 (opsAt (part_pBytes 62)) [0, 1, 2] (by kernel_rfl) (by kernel_rfl) ?_
      refine ps_k (o_pBytes 62 0) (v) ?_
      refine ps_k (o_pBytes 62 1) (v) ?_
      refine ps_k (o_pBytes 62 2) (.int .i64 0) ?_
      refine ps_end ?_
      refine then_n ?_
      refine sy_ret (by kernel_rfl) ?_
      refine sy_out (.tuple #[v, .int .i64 0]) rfl (by kernel_rfl) ?_
      exact ⟨v, by rw [ptold, if_pos hc], by have e := h18; rw [eq_i, pbI_all] at e; rw [ptold, if_pos hc]; exact e, fun j hj => Nat.le_trans hNw (hnw j hj), K19⟩
end Go.Proofs.YtpflmldmbpnllaaDoor
