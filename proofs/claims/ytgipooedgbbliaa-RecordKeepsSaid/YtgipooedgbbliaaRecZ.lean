/-
  Records: are just those votes there that were put, and are not left behind (printed by rec12.py). Conditions: none.
-/
import Derived.Test.YtgipooedgbbliaaRecY
namespace Go.Proofs.Ytgipooedgbbliaa
open Go Go.RowKit Go.Own Go.Shelf

noncomputable def part_lthere (n : Nat) : Code := partOf Try.f29 n
noncomputable abbrev o_lthere (n k : Nat) : Oper := (opsAt (part_lthere n)).getD k default
set_option maxRecDepth 100000 in
set_option maxHeartbeats 4000000 in
theorem lthere_ok (w0 : World) (r : Nat) (s : RSpec) (va vp : Value) (wa : List Att) (wp : List Pro) (w : World) (H : RSt w0 w r 1 s) (Hla : AttsAt w va wa) (Hlp : ProsAt w vp wp) (HI : KInv wa wp s) :
    Calls Try.prog 29 #[.pointer (some ⟨r, 0, none⟩), .agg #[va, vp], .int .i64 ((s.la : Nat) : Int), .int .i64 ((s.lb : Nat) : Int)] w (fun e w' => e = .returned (.bool true) ∧ Keeps Nob w w') := by
  obtain ⟨ola, olb, hla, hlb, hha, hhb, hl1, hl2⟩ := H.ok
  have hpa := HI.pa.length_eq
  have hpp := HI.pp.length_eq
  have hwl := Hla.len_le
  have hwp := Hlp.len_le
  have hra_ : s.all.Pairwise (fun a b => a.t < b.t) := items_rise hha
  have hrb_ : s.allB.Pairwise (fun a b => a.h < b.h) := items_rise hhb
  have K0 : Keeps Nob w w := Keeps.refl _ _
  refine sy_enter (part_lthere 1) ⟨#[pT r 0, .agg #[va, vp], iN s.la, iN s.lb, undef, undef, undef, undef, undef, undef, undef, undef, undef, undef, undef, undef, undef, undef, undef, undef, undef, undef, undef, undef, undef, undef, undef, undef, undef, undef, undef, undef, undef, undef, undef, undef, undef, undef, undef, undef, undef, undef, undef, undef, undef, undef, undef, undef, undef, undef, undef, undef, undef, undef, undef, undef, undef, undef, undef, undef, undef, undef, undef, undef, undef, undef, undef, undef, undef, undef, undef, undef, undef, undef, undef, undef, undef, undef, undef, undef, undef, undef, undef, undef, undef, undef, undef, undef, undef, undef, undef, undef, undef, undef, undef, undef, undef, undef, undef, undef, undef, undef, undef, undef, undef, undef, undef, undef, undef, undef, undef, undef, undef, undef, undef, undef, undef, undef, undef, undef, undef, undef, undef, undef, undef, undef, undef, undef, undef, undef, undef, undef, undef, undef, undef, undef, undef, undef, undef, undef, undef, undef, undef, undef, undef, undef, undef, undef, undef, undef, undef, undef, undef, undef, undef, undef, undef, undef, undef, undef, undef, undef, undef, undef, undef, undef, undef, undef, undef], []⟩ Try.func29 (by kernel_rfl) (by kernel_rfl) ?_
  refine sy_sq (part_lthere 2) (part_lthere 3) ?_
  refine sy_reg ?_
  refine rg_plain 0 (opsAt (part_lthere 2)) [0, 1] (by kernel_rfl) (by kernel_rfl) ?_
  obtain ⟨V1, eV1, hb, ehb, h2, kV1⟩ := alloc_step w (#[va, vp]) 66
  have n3 : w.heap.size ≤ hb := ehb ▸ K0.size
  refine ps_r (o_lthere 2 0) (pT hb 0) (w' := V1) (by rw [← eV1, ← ehb]; exact exec_box 66 (.tmp 1) (by kernel_rfl) (.agg #[va, vp]) (by kernel_rfl)) ?_
  clear eV1
  have K4 := K0.nn kV1
  have z5 := kV1.size
  refine ps_k (o_lthere 2 1) (.bool false) ?_
  refine ps_end ?_
  refine then_n ?_
  refine sy_sq (part_lthere 6) (part_lthere 7) ?_
  refine sy_reg ?_
  refine rg_plain 1 (opsAt (part_lthere 6)) [0, 1] (by kernel_rfl) (by kernel_rfl) ?_
  refine ps_k (o_lthere 6 0) (.int .i64 0) ?_
  refine ps_k (o_lthere 6 1) (.int .i64 0) ?_
  refine ps_end ?_
  refine then_n ?_
  refine sy_sq (part_lthere 14) (part_lthere 15) ?_
  refine sy_sq (part_lthere 28) (part_lthere 29) ?_
  refine sy_reg ?_
  refine rg_plain 2 (opsAt (part_lthere 28)) [0] (by kernel_rfl) (by kernel_rfl) ?_
  refine ps_k (o_lthere 28 0) (.int .i64 0) ?_
  refine ps_end ?_
  refine then_n ?_
  refine sy_bk 0 (part_lthere 58) ?_
  refine sy_loop (part_lthere 116) (fun a V => ∃ (i : Nat) (c : Nat) (u8 u12 u13 u21 u22 u23 u24 u25 u26 u27 u28 u29 u30 u31 u32 u33 u34 u35 u36 u37 u38 u39 u40 u41 u42 u43 u44 u45 u46 u47 u48 u49 u50 u51 u52 u53 u54 u55 u56 u57 u58 u59 u60 u61 u62 u63 : Value), (a = ⟨#[pT r 0, .agg #[va, vp], iN s.la, iN s.lb, undef, pT hb 0, undef, undef, u8, iN c, .int .i64 0, iN i, u12, u13, undef, undef, undef, undef, undef, undef, undef, u21, u22, u23, u24, u25, u26, u27, u28, u29, u30, u31, u32, u33, u34, u35, u36, u37, u38, u39, u40, u41, u42, u43, u44, u45, u46, u47, u48, u49, u50, u51, u52, u53, u54, u55, u56, u57, u58, u59, u60, u61, u62, u63, undef, undef, undef, undef, undef, undef, undef, undef, undef, undef, undef, undef, undef, undef, undef, undef, undef, undef, undef, undef, undef, undef, undef, undef, undef, undef, undef, undef, undef, undef, undef, undef, undef, undef, undef, undef, undef, undef, undef, undef, undef, undef, undef, undef, undef, undef, undef, undef, undef, undef, undef, undef, undef, undef, undef, undef, undef, undef, undef, undef, undef, undef, undef, undef, undef, undef, undef, undef, undef, undef, undef, undef, undef, undef, undef, undef, undef, undef, undef, undef, undef, undef, undef, undef, undef, undef, undef, undef, undef, undef, undef, undef, undef, undef, undef, undef, undef, undef, undef, undef, undef, undef, undef, undef, undef], []⟩) ∧ (i ≤ wa.length) ∧ (c = (((wa.take i).filter (keepA s.la)).length)) ∧ (V.heap[hb]? = some (.cells (#[va, vp]) 66 (0, 0))) ∧ (Keeps Nob w V)) (fun a _ => wa.length - (intOf (a.tmps.getD 11 undef)).toNat) (by kernel_rfl) ?_ ?_
  · exact ⟨0, 0, (.bool false), undef, undef, undef, undef, undef, undef, undef, undef, undef, undef, undef, undef, undef, undef, undef, undef, undef, undef, undef, undef, undef, undef, undef, undef, undef, undef, undef, undef, undef, undef, undef, undef, undef, undef, undef, undef, undef, undef, undef, undef, undef, undef, undef, undef, undef, by kernel_rfl, Nat.zero_le _, rfl, h2, K4⟩
  · rintro a V6 ⟨i, c, u8, u12, u13, u21, u22, u23, u24, u25, u26, u27, u28, u29, u30, u31, u32, u33, u34, u35, u36, u37, u38, u39, u40, u41, u42, u43, u44, u45, u46, u47, u48, u49, u50, u51, u52, u53, u54, u55, u56, u57, u58, u59, u60, u61, u62, u63, rfl, hi, hci, h7, K8⟩
    rcases (show (∃ x, wa[i]? = some x ∧ i < wa.length ∧ keepA s.la x = true ∧ (s.la : Int) ≤ x.t ∧ s.VA x.t = some x) ∨ (∃ x, wa[i]? = some x ∧ i < wa.length ∧ keepA s.la x = false ∧ ¬ (s.la : Int) ≤ x.t ∧ s.VA x.t = none) ∨ i = wa.length by
      by_cases h : i < wa.length
      · rcases HI.at_ hha (List.getElem_mem h) with h1 | h1
        · exact .inl ⟨_, List.getElem?_eq_getElem h, h, h1⟩
        · exact .inr (.inl ⟨_, List.getElem?_eq_getElem h, h, h1⟩)
      · exact .inr (.inr (by omega))) with ⟨x, hx, lt_i, hkp, hle, hv_⟩ | ⟨x, hx, lt_i, hkp, hle, hv_⟩ | ei
    · have hxo := HI.oka x (List.mem_of_getElem? hx)
      obtain ⟨b_xla, o_xla, c_xla, hv_xla, hb_xla, _⟩ := ((Hla.keepsN K8)).at_ i _ hx
      skip
      have hcl : (((wa.take i).filter (keepA s.la)).length) ≤ i := Nat.le_trans (List.length_filter_le _ _) (by rw [List.length_take]; omega)
      refine sy_sq (part_lthere 232) (part_lthere 233) ?_
      refine sy_sq (part_lthere 464) (part_lthere 465) ?_
      refine sy_reg ?_
      refine rg_plain 3 (opsAt (part_lthere 464)) [0, 1, 2, 3, 4] (by kernel_rfl) (by kernel_rfl) ?_
      refine ps_k (o_lthere 464 0) (iN i) ?_
      refine ps_k (o_lthere 464 1) (pT hb 0) ?_
      refine ps_p (o_lthere 464 2) (va) (exec_ld 59 (.tmp 22) hb 0 Try.underlying59 (rc (h7) (by kernel_rfl))) ?_
      refine ps_p (o_lthere 464 3) (iN wa.length) (exec_len_sl (.tmp 23) 59 28 (by kernel_rfl) Try.underlying59 (by kernel_rfl) (Hla.keepsN K8)) ?_
      refine ps_p (o_lthere 464 4) (.bool true) (dct ((((i : Nat) : Int)) < (((wa.length : Nat) : Int))) (by omega)) ?_
      refine ps_end ?_
      refine then_n ?_
      refine sy_ys (.tmp 25) (part_lthere 930) (part_lthere 931) ?_
      refine sy_sk ?_
      refine then_n ?_
      refine sy_sq (part_lthere 466) (part_lthere 467) ?_
      refine sy_bk 1 (part_lthere 932) ?_
      refine sy_sq (part_lthere 1864) (part_lthere 1865) ?_
      refine sy_reg ?_
      refine rg_plain 5 (opsAt (part_lthere 1864)) [0, 1, 2, 3, 4, 5, 6, 7, 8, 9, 10, 11, 12, 13] (by kernel_rfl) (by kernel_rfl) ?_
      refine ps_k (o_lthere 1864 0) (pT r 0) ?_
      refine ps_k (o_lthere 1864 1) (pT hb 0) ?_
      refine ps_p (o_lthere 1864 2) (va) (exec_ld 59 (.tmp 30) hb 0 Try.underlying59 (rc (h7) (by kernel_rfl))) ?_
      refine ps_k (o_lthere 1864 3) (iN i) ?_
      refine ps_p (o_lthere 1864 4) (pT b_xla (o_xla + i * 36)) (exec_indexAt_slice 59 (.tmp 31) (.tmp 32) (by kernel_rfl) b_xla o_xla wa.length c_xla (Eq.trans (b := va) (by kernel_rfl) hv_xla) .i64 i (by kernel_rfl) _ 36 Try.underlying59 (by kernel_rfl) (by omega)) ?_
      refine ps_k (o_lthere 1864 5) (pT b_xla (o_xla + i * 36 + 2)) ?_
      refine ps_p (o_lthere 1864 6) (.int .i64 x.t) (exec_ld 3 (.tmp 34) b_xla (o_xla + i * 36 + 2) Try.underlying3 (Sl.cell (Hla.keepsN K8) hx hv_xla Att.cl_2)) ?_
      refine ps_c (o_lthere 1864 7) 8 #[pT r 0, .int .i64 x.t] Try.func8 (((show Calls Try.prog 8 #[pT r 0, .int .i64 x.t] V6 (fun e w' => e = .returned (.tuple #[.agg (Att.c x), .bool true]) ∧ Keeps Nob V6 w') from by have h := RSt.at_ (H.keepsN K8) x.t; rw [hv_] at h; exact h)).mono ?_)
      rintro e V9 ⟨rfl, kV9⟩
      refine ⟨_, rfl, ?_⟩
      have h10 := kV9.bk h7
      have K11 := K8.nn kV9
      have z12 := kV9.size
      refine ps_k (o_lthere 1864 8) (.tuple #[.agg (Att.c x), .bool true]) ?_
      refine ps_k (o_lthere 1864 9) (.agg (Att.c x)) ?_
      refine ps_k (o_lthere 1864 10) (.bool true) ?_
      obtain ⟨V13, eV13, z1, ez1, h14, kV13⟩ := alloc_step V9 (#[.int .i64 0, .int .i64 0, .int .i64 0, .int .u8 0, .int .u8 0, .int .u8 0, .int .u8 0, .int .u8 0, .int .u8 0, .int .u8 0, .int .u8 0, .int .u8 0, .int .u8 0, .int .u8 0, .int .u8 0, .int .u8 0, .int .u8 0, .int .u8 0, .int .u8 0, .int .u8 0, .int .u8 0, .int .u8 0, .int .u8 0, .int .u8 0, .int .u8 0, .int .u8 0, .int .u8 0, .int .u8 0, .int .u8 0, .int .u8 0, .int .u8 0, .int .u8 0, .int .u8 0, .int .u8 0, .int .u8 0, .int .u64 0]) 28
      have n15 : hb < z1 := ez1 ▸ lt_of_block h10
      have n16 : w.heap.size ≤ z1 := ez1 ▸ K11.size
      refine ps_r (o_lthere 1864 11) (pT z1 0) (w' := V13) (by rw [← eV13, ← ez1]; exact exec_alloc0 28 (by kernel_rfl) (.agg (#[.int .i64 0, .int .i64 0, .int .i64 0, .int .u8 0, .int .u8 0, .int .u8 0, .int .u8 0, .int .u8 0, .int .u8 0, .int .u8 0, .int .u8 0, .int .u8 0, .int .u8 0, .int .u8 0, .int .u8 0, .int .u8 0, .int .u8 0, .int .u8 0, .int .u8 0, .int .u8 0, .int .u8 0, .int .u8 0, .int .u8 0, .int .u8 0, .int .u8 0, .int .u8 0, .int .u8 0, .int .u8 0, .int .u8 0, .int .u8 0, .int .u8 0, .int .u8 0, .int .u8 0, .int .u8 0, .int .u8 0, .int .u64 0])) (by kernel_rfl)) ?_
      clear eV13
      have h17 := kV13.bk h10
      have K18 := K11.nn kV13
      have z19 := kV13.size
      obtain ⟨V20, eV20, kV20⟩ := rowset_step V13 z1 ((Att.c x))
      have h21 : V20.heap[z1]? = some (.cells (Att.c x) 28 (0, 0)) := eV20 ▸ setRow_heap _ _ _ _ _ _ h14
      refine ps_s (o_lthere 1864 12) (w' := V20) (by rw [← eV20]; exact exec_store_row 28 (.tmp 12) (.tmp 37) (by kernel_rfl) z1 ((Att.c x)) (by kernel_rfl) (by kernel_rfl) 28 (#[.int .i64 0, .int .i64 0, .int .i64 0, .int .u8 0, .int .u8 0, .int .u8 0, .int .u8 0, .int .u8 0, .int .u8 0, .int .u8 0, .int .u8 0, .int .u8 0, .int .u8 0, .int .u8 0, .int .u8 0, .int .u8 0, .int .u8 0, .int .u8 0, .int .u8 0, .int .u8 0, .int .u8 0, .int .u8 0, .int .u8 0, .int .u8 0, .int .u8 0, .int .u8 0, .int .u8 0, .int .u8 0, .int .u8 0, .int .u8 0, .int .u8 0, .int .u8 0, .int .u8 0, .int .u8 0, .int .u8 0, .int .u64 0]) h14 (by rw [Att.c_size _ hxo.r]; kernel_rfl) (by rw [Att.c_size _ hxo.r]; rfl) (Att.c_one _)) ?_
      clear eV20
      have h22 := kV20.bo h17 (by omega)
      have K23 := K18.no kV20 (by omega)
      have z24 := kV20.size
      refine ps_k (o_lthere 1864 13) (.bool true) ?_
      refine ps_end ?_
      refine then_n ?_
      refine sy_sq (part_lthere 3730) (part_lthere 3731) ?_
      refine sy_sq (part_lthere 7460) (part_lthere 7461) ?_
      refine sy_np ?_
      refine sy_reg ?_
      refine an_begin 6 22 (opsAt (part_lthere 7460)) (fun W => (W.heap[hb]? = some (.cells (#[va, vp]) 66 (0, 0))) ∧ (AttsAt W va wa) ∧ (W.heap[z1]? = some (.cells (Att.c x) 28 (0, 0)))) #[false, false, false, false, false, false, false, false, false, false, false, false, false, false, false, false, false, false, false, false, false, false] (by kernel_rfl) (by kernel_rfl) (by kernel_rfl) (by kernel_rfl) ?_
      obtain ⟨V25, eV25, kV25⟩ := drew_step V20
      rw [eV25]
      clear eV25
      have h26 := kV25.bk h22
      have h27 := kV25.bk h21
      have K28 := K23.nn kV25
      have z29 := kV25.size
      refine an_k 0 (o_lthere 7460 0) (pT hb 0) ⟨h26, (Hla.keepsN K28), h27⟩ ?_
      refine an_v 1 (o_lthere 7460 1) (va) (fun W hS => exec_ld 59 (.tmp 39) hb 0 Try.underlying59 (rc (hS.1) (by kernel_rfl))) ⟨h26, (Hla.keepsN K28), h27⟩ ?_
      refine an_k 2 (o_lthere 7460 2) (iN i) ⟨h26, (Hla.keepsN K28), h27⟩ ?_
      refine an_v 3 (o_lthere 7460 3) (pT b_xla (o_xla + i * 36)) (fun W hS => exec_indexAt_slice 59 (.tmp 40) (.tmp 41) (by kernel_rfl) b_xla o_xla wa.length c_xla (Eq.trans (b := va) (by kernel_rfl) hv_xla) .i64 i (by kernel_rfl) _ 36 Try.underlying59 (by kernel_rfl) (by omega)) ⟨h26, (Hla.keepsN K28), h27⟩ ?_
      refine an_k 4 (o_lthere 7460 4) (pT b_xla (o_xla + i * 36 + 2)) ⟨h26, (Hla.keepsN K28), h27⟩ ?_
      refine an_v 5 (o_lthere 7460 5) (.int .i64 x.t) (fun W hS => exec_ld 3 (.tmp 43) b_xla (o_xla + i * 36 + 2) Try.underlying3 (Sl.cell hS.2.1 hx hv_xla Att.cl_2)) ⟨h26, (Hla.keepsN K28), h27⟩ ?_
      refine an_k 6 (o_lthere 7460 6) (iN s.la) ⟨h26, (Hla.keepsN K28), h27⟩ ?_
      refine an_v 7 (o_lthere 7460 7) (.bool true) (fun W hS => dct (((x.t) : Int) ≥ (((s.la : Nat) : Int))) (by omega)) ⟨h26, (Hla.keepsN K28), h27⟩ ?_
      refine an_k 8 (o_lthere 7460 8) (.bool true) ⟨h26, (Hla.keepsN K28), h27⟩ ?_
      refine an_k 9 (o_lthere 7460 9) (.bool false) ⟨h26, (Hla.keepsN K28), h27⟩ ?_
      refine an_k 10 (o_lthere 7460 10) (.bool false) ⟨h26, (Hla.keepsN K28), h27⟩ ?_
      refine an_k 11 (o_lthere 7460 11) (.bool true) ⟨h26, (Hla.keepsN K28), h27⟩ ?_
      refine an_k 12 (o_lthere 7460 12) (.bool true) ⟨h26, (Hla.keepsN K28), h27⟩ ?_
      refine an_v 13 (o_lthere 7460 13) (.agg (Att.c x)) (fun W hS => exec_load_row 28 (.tmp 12) (by kernel_rfl) z1 (by kernel_rfl) _ _ (0, 0) _ (hS.2.2) Try.underlying28 rfl (by rw [Att.c_size _ hxo.r]; kernel_rfl)) ⟨h26, (Hla.keepsN K28), h27⟩ ?_
      refine an_k 14 (o_lthere 7460 14) (pT hb 0) ⟨h26, (Hla.keepsN K28), h27⟩ ?_
      refine an_v 15 (o_lthere 7460 15) (va) (fun W hS => exec_ld 59 (.tmp 53) hb 0 Try.underlying59 (rc (hS.1) (by kernel_rfl))) ⟨h26, (Hla.keepsN K28), h27⟩ ?_
      refine an_k 16 (o_lthere 7460 16) (iN i) ⟨h26, (Hla.keepsN K28), h27⟩ ?_
      refine an_v 17 (o_lthere 7460 17) (pT b_xla (o_xla + i * 36)) (fun W hS => exec_indexAt_slice 59 (.tmp 54) (.tmp 55) (by kernel_rfl) b_xla o_xla wa.length c_xla (Eq.trans (b := va) (by kernel_rfl) hv_xla) .i64 i (by kernel_rfl) _ 36 Try.underlying59 (by kernel_rfl) (by omega)) ⟨h26, (Hla.keepsN K28), h27⟩ ?_
      refine an_v 18 (o_lthere 7460 18) (.agg (Att.c x)) (fun W hS => exec_load_mid 28 (.tmp 56) (by kernel_rfl) b_xla (o_xla + i * 36) (by kernel_rfl) (Att.cl x) _ (Sl.range hS.2.1 hx hv_xla) Try.underlying28 rfl (by rw [Att.cl_len hxo]; kernel_rfl)) ⟨h26, (Hla.keepsN K28), h27⟩ ?_
      refine an_v 19 (o_lthere 7460 19) (.bool false) (fun W hS => exec_cast (congrArg Value.bool (by simp)) (exec_binop .neq 28 28 (.tmp 52) (.tmp 57) (by kernel_rfl) (.agg (Att.c x)) (.agg (Att.c x)) _ (by kernel_rfl) (by kernel_rfl) (run_eqGuard_agg _ _ _ _ _ _ _ att_guard) (att_ne _ _ hxo.r hxo.r _))) ⟨h26, (Hla.keepsN K28), h27⟩ ?_
      refine an_k 20 (o_lthere 7460 20) (.bool false) ⟨h26, (Hla.keepsN K28), h27⟩ ?_
      refine an_k 21 (o_lthere 7460 21) (.bool false) ⟨h26, (Hla.keepsN K28), h27⟩ ?_
      refine an_end (by kernel_rfl) ?_
      refine sy_a ⟨#[pT r 0, .agg #[va, vp], iN s.la, iN s.lb, undef, pT hb 0, undef, undef, u8, iN c, .int .i64 0, iN i, pT z1 0, .bool true, undef, undef, undef, undef, undef, undef, undef, iN i, pT hb 0, va, iN wa.length, .bool true, u26, u27, .tuple #[.agg (Att.c x), .bool true], pT r 0, pT hb 0, va, iN i, pT b_xla (o_xla + i * 36), pT b_xla (o_xla + i * 36 + 2), .int .i64 x.t, .tuple #[.agg (Att.c x), .bool true], .agg (Att.c x), .bool true, pT hb 0, va, iN i, pT b_xla (o_xla + i * 36), pT b_xla (o_xla + i * 36 + 2), .int .i64 x.t, iN s.la, .bool true, .bool true, .bool false, .bool false, .bool true, .bool true, .agg (Att.c x), pT hb 0, va, iN i, pT b_xla (o_xla + i * 36), .agg (Att.c x), .bool false, .bool false, .bool false, u61, u62, u63, undef, undef, undef, undef, undef, undef, undef, undef, undef, undef, undef, undef, undef, undef, undef, undef, undef, undef, undef, undef, undef, undef, undef, undef, undef, undef, undef, undef, undef, undef, undef, undef, undef, undef, undef, undef, undef, undef, undef, undef, undef, undef, undef, undef, undef, undef, undef, undef, undef, undef, undef, undef, undef, undef, undef, undef, undef, undef, undef, undef, undef, undef, undef, undef, undef, undef, undef, undef, undef, undef, undef, undef, undef, undef, undef, undef, undef, undef, undef, undef, undef, undef, undef, undef, undef, undef, undef, undef, undef, undef, undef, undef, undef, undef, undef, undef, undef, undef, undef, undef, undef, undef, undef, undef, undef], []⟩ ?_
      refine then_n ?_
      refine sy_n (.tmp 60) (part_lthere 14922) (part_lthere 14923) ?_
      refine sy_sk ?_
      refine then_n ?_
      refine sy_sq (part_lthere 7462) (part_lthere 7463) ?_
      refine sy_reg ?_
      refine rg_plain 8 (opsAt (part_lthere 7462)) [0] (by kernel_rfl) (by kernel_rfl) ?_
      refine ps_k (o_lthere 7462 0) (.bool true) ?_
      refine ps_end ?_
      refine then_n ?_
      refine sy_ys (.tmp 61) (part_lthere 14926) (part_lthere 14927) ?_
      refine sy_reg ?_
      refine rg_plain 9 (opsAt (part_lthere 14926)) [0, 1, 2] (by kernel_rfl) (by kernel_rfl) ?_
      refine ps_k (o_lthere 14926 0) (iN c) ?_
      refine ps_p (o_lthere 14926 1) (iN (c + 1)) (exec_cast (congrArg (Value.int .i64) (wrapN (c + 1) (by omega))) (by kernel_rfl)) ?_
      refine ps_k (o_lthere 14926 2) (iN (c + 1)) ?_
      refine ps_end ?_
      refine blk_n ?_
      refine then_n ?_
      refine sy_reg ?_
      refine rg_plain 4 (opsAt (part_lthere 467)) [0, 1, 2] (by kernel_rfl) (by kernel_rfl) ?_
      refine ps_k (o_lthere 467 0) (iN i) ?_
      refine ps_p (o_lthere 467 1) (iN (i + 1)) (exec_cast (congrArg (Value.int .i64) (wrapN (i + 1) (by omega))) (by kernel_rfl)) ?_
      refine ps_k (o_lthere 467 2) (iN (i + 1)) ?_
      refine ps_end ?_
      refine then_n ?_
      refine ⟨⟨i + 1, c + 1, u8, (pT z1 0), (.bool true), (iN i), (pT hb 0), va, (iN wa.length), (.bool true), (iN i), (iN (i + 1)), (.tuple #[.agg (Att.c x), .bool true]), (pT r 0), (pT hb 0), va, (iN i), (pT b_xla (o_xla + i * 36)), (pT b_xla (o_xla + i * 36 + 2)), (.int .i64 x.t), (.tuple #[.agg (Att.c x), .bool true]), (.agg (Att.c x)), (.bool true), (pT hb 0), va, (iN i), (pT b_xla (o_xla + i * 36)), (pT b_xla (o_xla + i * 36 + 2)), (.int .i64 x.t), (iN s.la), (.bool true), (.bool true), (.bool false), (.bool false), (.bool true), (.bool true), (.agg (Att.c x)), (pT hb 0), va, (iN i), (pT b_xla (o_xla + i * 36)), (.agg (Att.c x)), (.bool false), (.bool false), (.bool false), (.bool true), (iN c), (iN (c + 1)), by kernel_rfl, by omega, (by first | (rw [filY hx hkp]; omega) | (rw [filN hx hkp]; omega)), h26, K28⟩, ?_⟩
      exact lt_meas (x := wa.length - (i + 1)) (y := wa.length - i) (by kernel_rfl) (by kernel_rfl) (by omega)
    · have hxo := HI.oka x (List.mem_of_getElem? hx)
      obtain ⟨b_xla, o_xla, c_xla, hv_xla, hb_xla, _⟩ := ((Hla.keepsN K8)).at_ i _ hx
      skip
      refine sy_sq (part_lthere 232) (part_lthere 233) ?_
      refine sy_sq (part_lthere 464) (part_lthere 465) ?_
      refine sy_reg ?_
      refine rg_plain 3 (opsAt (part_lthere 464)) [0, 1, 2, 3, 4] (by kernel_rfl) (by kernel_rfl) ?_
      refine ps_k (o_lthere 464 0) (iN i) ?_
      refine ps_k (o_lthere 464 1) (pT hb 0) ?_
      refine ps_p (o_lthere 464 2) (va) (exec_ld 59 (.tmp 22) hb 0 Try.underlying59 (rc (h7) (by kernel_rfl))) ?_
      refine ps_p (o_lthere 464 3) (iN wa.length) (exec_len_sl (.tmp 23) 59 28 (by kernel_rfl) Try.underlying59 (by kernel_rfl) (Hla.keepsN K8)) ?_
      refine ps_p (o_lthere 464 4) (.bool true) (dct ((((i : Nat) : Int)) < (((wa.length : Nat) : Int))) (by omega)) ?_
      refine ps_end ?_
      refine then_n ?_
      refine sy_ys (.tmp 25) (part_lthere 930) (part_lthere 931) ?_
      refine sy_sk ?_
      refine then_n ?_
      refine sy_sq (part_lthere 466) (part_lthere 467) ?_
      refine sy_bk 1 (part_lthere 932) ?_
      refine sy_sq (part_lthere 1864) (part_lthere 1865) ?_
      refine sy_reg ?_
      refine rg_plain 5 (opsAt (part_lthere 1864)) [0, 1, 2, 3, 4, 5, 6, 7, 8, 9, 10, 11, 12, 13] (by kernel_rfl) (by kernel_rfl) ?_
      refine ps_k (o_lthere 1864 0) (pT r 0) ?_
      refine ps_k (o_lthere 1864 1) (pT hb 0) ?_
      refine ps_p (o_lthere 1864 2) (va) (exec_ld 59 (.tmp 30) hb 0 Try.underlying59 (rc (h7) (by kernel_rfl))) ?_
      refine ps_k (o_lthere 1864 3) (iN i) ?_
      refine ps_p (o_lthere 1864 4) (pT b_xla (o_xla + i * 36)) (exec_indexAt_slice 59 (.tmp 31) (.tmp 32) (by kernel_rfl) b_xla o_xla wa.length c_xla (Eq.trans (b := va) (by kernel_rfl) hv_xla) .i64 i (by kernel_rfl) _ 36 Try.underlying59 (by kernel_rfl) (by omega)) ?_
      refine ps_k (o_lthere 1864 5) (pT b_xla (o_xla + i * 36 + 2)) ?_
      refine ps_p (o_lthere 1864 6) (.int .i64 x.t) (exec_ld 3 (.tmp 34) b_xla (o_xla + i * 36 + 2) Try.underlying3 (Sl.cell (Hla.keepsN K8) hx hv_xla Att.cl_2)) ?_
      refine ps_c (o_lthere 1864 7) 8 #[pT r 0, .int .i64 x.t] Try.func8 (((show Calls Try.prog 8 #[pT r 0, .int .i64 x.t] V6 (fun e w' => e = .returned (.tuple #[.agg (Att.c zAtt), .bool false]) ∧ Keeps Nob V6 w') from by have h := RSt.at_ (H.keepsN K8) x.t; rw [hv_] at h; exact h)).mono ?_)
      rintro e V30 ⟨rfl, kV30⟩
      refine ⟨_, rfl, ?_⟩
      have h31 := kV30.bk h7
      have K32 := K8.nn kV30
      have z33 := kV30.size
      refine ps_k (o_lthere 1864 8) (.tuple #[.agg (Att.c zAtt), .bool false]) ?_
      refine ps_k (o_lthere 1864 9) (.agg (Att.c zAtt)) ?_
      refine ps_k (o_lthere 1864 10) (.bool false) ?_
      obtain ⟨V34, eV34, z1, ez1, h35, kV34⟩ := alloc_step V30 (#[.int .i64 0, .int .i64 0, .int .i64 0, .int .u8 0, .int .u8 0, .int .u8 0, .int .u8 0, .int .u8 0, .int .u8 0, .int .u8 0, .int .u8 0, .int .u8 0, .int .u8 0, .int .u8 0, .int .u8 0, .int .u8 0, .int .u8 0, .int .u8 0, .int .u8 0, .int .u8 0, .int .u8 0, .int .u8 0, .int .u8 0, .int .u8 0, .int .u8 0, .int .u8 0, .int .u8 0, .int .u8 0, .int .u8 0, .int .u8 0, .int .u8 0, .int .u8 0, .int .u8 0, .int .u8 0, .int .u8 0, .int .u64 0]) 28
      have n36 : hb < z1 := ez1 ▸ lt_of_block h31
      have n37 : w.heap.size ≤ z1 := ez1 ▸ K32.size
      refine ps_r (o_lthere 1864 11) (pT z1 0) (w' := V34) (by rw [← eV34, ← ez1]; exact exec_alloc0 28 (by kernel_rfl) (.agg (#[.int .i64 0, .int .i64 0, .int .i64 0, .int .u8 0, .int .u8 0, .int .u8 0, .int .u8 0, .int .u8 0, .int .u8 0, .int .u8 0, .int .u8 0, .int .u8 0, .int .u8 0, .int .u8 0, .int .u8 0, .int .u8 0, .int .u8 0, .int .u8 0, .int .u8 0, .int .u8 0, .int .u8 0, .int .u8 0, .int .u8 0, .int .u8 0, .int .u8 0, .int .u8 0, .int .u8 0, .int .u8 0, .int .u8 0, .int .u8 0, .int .u8 0, .int .u8 0, .int .u8 0, .int .u8 0, .int .u8 0, .int .u64 0])) (by kernel_rfl)) ?_
      clear eV34
      have h38 := kV34.bk h31
      have K39 := K32.nn kV34
      have z40 := kV34.size
      obtain ⟨V41, eV41, kV41⟩ := rowset_step V34 z1 ((Att.c zAtt))
      have h42 : V41.heap[z1]? = some (.cells (Att.c zAtt) 28 (0, 0)) := eV41 ▸ setRow_heap _ _ _ _ _ _ h35
      refine ps_s (o_lthere 1864 12) (w' := V41) (by rw [← eV41]; exact exec_store_row 28 (.tmp 12) (.tmp 37) (by kernel_rfl) z1 ((Att.c zAtt)) (by kernel_rfl) (by kernel_rfl) 28 (#[.int .i64 0, .int .i64 0, .int .i64 0, .int .u8 0, .int .u8 0, .int .u8 0, .int .u8 0, .int .u8 0, .int .u8 0, .int .u8 0, .int .u8 0, .int .u8 0, .int .u8 0, .int .u8 0, .int .u8 0, .int .u8 0, .int .u8 0, .int .u8 0, .int .u8 0, .int .u8 0, .int .u8 0, .int .u8 0, .int .u8 0, .int .u8 0, .int .u8 0, .int .u8 0, .int .u8 0, .int .u8 0, .int .u8 0, .int .u8 0, .int .u8 0, .int .u8 0, .int .u8 0, .int .u8 0, .int .u8 0, .int .u64 0]) h35 (by rw [Att.c_size _ zAtt_ok.r]; kernel_rfl) (by rw [Att.c_size _ zAtt_ok.r]; rfl) (Att.c_one _)) ?_
      clear eV41
      have h43 := kV41.bo h38 (by omega)
      have K44 := K39.no kV41 (by omega)
      have z45 := kV41.size
      refine ps_k (o_lthere 1864 13) (.bool false) ?_
      refine ps_end ?_
      refine then_n ?_
      refine sy_sq (part_lthere 3730) (part_lthere 3731) ?_
      refine sy_sq (part_lthere 7460) (part_lthere 7461) ?_
      refine sy_np ?_
      refine sy_reg ?_
      refine an_begin 6 22 (opsAt (part_lthere 7460)) (fun W => (W.heap[hb]? = some (.cells (#[va, vp]) 66 (0, 0))) ∧ (AttsAt W va wa) ∧ (W.heap[z1]? = some (.cells (Att.c zAtt) 28 (0, 0)))) #[false, false, false, false, false, false, false, false, false, false, false, false, false, false, false, false, false, false, false, false, false, false] (by kernel_rfl) (by kernel_rfl) (by kernel_rfl) (by kernel_rfl) ?_
      obtain ⟨V46, eV46, kV46⟩ := drew_step V41
      rw [eV46]
      clear eV46
      have h47 := kV46.bk h43
      have h48 := kV46.bk h42
      have K49 := K44.nn kV46
      have z50 := kV46.size
      refine an_k 0 (o_lthere 7460 0) (pT hb 0) ⟨h47, (Hla.keepsN K49), h48⟩ ?_
      refine an_v 1 (o_lthere 7460 1) (va) (fun W hS => exec_ld 59 (.tmp 39) hb 0 Try.underlying59 (rc (hS.1) (by kernel_rfl))) ⟨h47, (Hla.keepsN K49), h48⟩ ?_
      refine an_k 2 (o_lthere 7460 2) (iN i) ⟨h47, (Hla.keepsN K49), h48⟩ ?_
      refine an_v 3 (o_lthere 7460 3) (pT b_xla (o_xla + i * 36)) (fun W hS => exec_indexAt_slice 59 (.tmp 40) (.tmp 41) (by kernel_rfl) b_xla o_xla wa.length c_xla (Eq.trans (b := va) (by kernel_rfl) hv_xla) .i64 i (by kernel_rfl) _ 36 Try.underlying59 (by kernel_rfl) (by omega)) ⟨h47, (Hla.keepsN K49), h48⟩ ?_
      refine an_k 4 (o_lthere 7460 4) (pT b_xla (o_xla + i * 36 + 2)) ⟨h47, (Hla.keepsN K49), h48⟩ ?_
      refine an_v 5 (o_lthere 7460 5) (.int .i64 x.t) (fun W hS => exec_ld 3 (.tmp 43) b_xla (o_xla + i * 36 + 2) Try.underlying3 (Sl.cell hS.2.1 hx hv_xla Att.cl_2)) ⟨h47, (Hla.keepsN K49), h48⟩ ?_
      refine an_k 6 (o_lthere 7460 6) (iN s.la) ⟨h47, (Hla.keepsN K49), h48⟩ ?_
      refine an_v 7 (o_lthere 7460 7) (.bool false) (fun W hS => dcf (((x.t) : Int) ≥ (((s.la : Nat) : Int))) (by omega)) ⟨h47, (Hla.keepsN K49), h48⟩ ?_
      refine an_k 8 (o_lthere 7460 8) (.bool false) ⟨h47, (Hla.keepsN K49), h48⟩ ?_
      refine an_k 9 (o_lthere 7460 9) (.bool false) ⟨h47, (Hla.keepsN K49), h48⟩ ?_
      refine an_k 10 (o_lthere 7460 10) (.bool false) ⟨h47, (Hla.keepsN K49), h48⟩ ?_
      refine an_k 11 (o_lthere 7460 11) (.bool false) ⟨h47, (Hla.keepsN K49), h48⟩ ?_
      refine an_k 12 (o_lthere 7460 12) (.bool false) ⟨h47, (Hla.keepsN K49), h48⟩ ?_
      refine an_n 13 (o_lthere 7460 13) ⟨h47, (Hla.keepsN K49), h48⟩ ?_
      refine an_n 14 (o_lthere 7460 14) ⟨h47, (Hla.keepsN K49), h48⟩ ?_
      refine an_n 15 (o_lthere 7460 15) ⟨h47, (Hla.keepsN K49), h48⟩ ?_
      refine an_n 16 (o_lthere 7460 16) ⟨h47, (Hla.keepsN K49), h48⟩ ?_
      refine an_n 17 (o_lthere 7460 17) ⟨h47, (Hla.keepsN K49), h48⟩ ?_
      refine an_n 18 (o_lthere 7460 18) ⟨h47, (Hla.keepsN K49), h48⟩ ?_
      refine an_n 19 (o_lthere 7460 19) ⟨h47, (Hla.keepsN K49), h48⟩ ?_
      refine an_k 20 (o_lthere 7460 20) (.bool false) ⟨h47, (Hla.keepsN K49), h48⟩ ?_
      refine an_k 21 (o_lthere 7460 21) (.bool false) ⟨h47, (Hla.keepsN K49), h48⟩ ?_
      refine an_end (by kernel_rfl) ?_
      refine sy_a ⟨#[pT r 0, .agg #[va, vp], iN s.la, iN s.lb, undef, pT hb 0, undef, undef, u8, iN c, .int .i64 0, iN i, pT z1 0, .bool false, undef, undef, undef, undef, undef, undef, undef, iN i, pT hb 0, va, iN wa.length, .bool true, u26, u27, .tuple #[.agg (Att.c zAtt), .bool false], pT r 0, pT hb 0, va, iN i, pT b_xla (o_xla + i * 36), pT b_xla (o_xla + i * 36 + 2), .int .i64 x.t, .tuple #[.agg (Att.c zAtt), .bool false], .agg (Att.c zAtt), .bool false, pT hb 0, va, iN i, pT b_xla (o_xla + i * 36), pT b_xla (o_xla + i * 36 + 2), .int .i64 x.t, iN s.la, .bool false, .bool false, .bool false, .bool false, .bool false, .bool false, undef, undef, undef, undef, undef, undef, undef, .bool false, .bool false, u61, u62, u63, undef, undef, undef, undef, undef, undef, undef, undef, undef, undef, undef, undef, undef, undef, undef, undef, undef, undef, undef, undef, undef, undef, undef, undef, undef, undef, undef, undef, undef, undef, undef, undef, undef, undef, undef, undef, undef, undef, undef, undef, undef, undef, undef, undef, undef, undef, undef, undef, undef, undef, undef, undef, undef, undef, undef, undef, undef, undef, undef, undef, undef, undef, undef, undef, undef, undef, undef, undef, undef, undef, undef, undef, undef, undef, undef, undef, undef, undef, undef, undef, undef, undef, undef, undef, undef, undef, undef, undef, undef, undef, undef, undef, undef, undef, undef, undef, undef, undef, undef, undef, undef, undef, undef, undef, undef], []⟩ ?_
      refine then_n ?_
      refine sy_n (.tmp 60) (part_lthere 14922) (part_lthere 14923) ?_
      refine sy_sk ?_
      refine then_n ?_
      refine sy_sq (part_lthere 7462) (part_lthere 7463) ?_
      refine sy_reg ?_
      refine rg_plain 8 (opsAt (part_lthere 7462)) [0] (by kernel_rfl) (by kernel_rfl) ?_
      refine ps_k (o_lthere 7462 0) (.bool false) ?_
      refine ps_end ?_
      refine then_n ?_
      refine sy_n (.tmp 61) (part_lthere 14926) (part_lthere 14927) ?_
      refine sy_sk ?_
      refine blk_n ?_
      refine then_n ?_
      refine sy_reg ?_
      refine rg_plain 4 (opsAt (part_lthere 467)) [0, 1, 2] (by kernel_rfl) (by kernel_rfl) ?_
      refine ps_k (o_lthere 467 0) (iN i) ?_
      refine ps_p (o_lthere 467 1) (iN (i + 1)) (exec_cast (congrArg (Value.int .i64) (wrapN (i + 1) (by omega))) (by kernel_rfl)) ?_
      refine ps_k (o_lthere 467 2) (iN (i + 1)) ?_
      refine ps_end ?_
      refine then_n ?_
      refine ⟨⟨i + 1, c, u8, (pT z1 0), (.bool false), (iN i), (pT hb 0), va, (iN wa.length), (.bool true), (iN i), (iN (i + 1)), (.tuple #[.agg (Att.c zAtt), .bool false]), (pT r 0), (pT hb 0), va, (iN i), (pT b_xla (o_xla + i * 36)), (pT b_xla (o_xla + i * 36 + 2)), (.int .i64 x.t), (.tuple #[.agg (Att.c zAtt), .bool false]), (.agg (Att.c zAtt)), (.bool false), (pT hb 0), va, (iN i), (pT b_xla (o_xla + i * 36)), (pT b_xla (o_xla + i * 36 + 2)), (.int .i64 x.t), (iN s.la), (.bool false), (.bool false), (.bool false), (.bool false), (.bool false), (.bool false), undef, undef, undef, undef, undef, undef, undef, (.bool false), (.bool false), (.bool false), u62, u63, by kernel_rfl, by omega, (by first | (rw [filY hx hkp]; omega) | (rw [filN hx hkp]; omega)), h47, K49⟩, ?_⟩
      exact lt_meas (x := wa.length - (i + 1)) (y := wa.length - i) (by kernel_rfl) (by kernel_rfl) (by omega)
    · have hfin_i : c = (wa.filter (keepA s.la)).length := by rw [hci, ei, List.take_of_length_le (Nat.le_refl _)]
      refine sy_sq (part_lthere 232) (part_lthere 233) ?_
      refine sy_sq (part_lthere 464) (part_lthere 465) ?_
      refine sy_reg ?_
      refine rg_plain 3 (opsAt (part_lthere 464)) [0, 1, 2, 3, 4] (by kernel_rfl) (by kernel_rfl) ?_
      refine ps_k (o_lthere 464 0) (iN i) ?_
      refine ps_k (o_lthere 464 1) (pT hb 0) ?_
      refine ps_p (o_lthere 464 2) (va) (exec_ld 59 (.tmp 22) hb 0 Try.underlying59 (rc (h7) (by kernel_rfl))) ?_
      refine ps_p (o_lthere 464 3) (iN wa.length) (exec_len_sl (.tmp 23) 59 28 (by kernel_rfl) Try.underlying59 (by kernel_rfl) (Hla.keepsN K8)) ?_
      refine ps_p (o_lthere 464 4) (.bool false) (dcf ((((i : Nat) : Int)) < (((wa.length : Nat) : Int))) (by omega)) ?_
      refine ps_end ?_
      refine then_n ?_
      refine sy_n (.tmp 25) (part_lthere 930) (part_lthere 931) ?_
      refine sy_exit 0 (by kernel_rfl) ?_
      refine then_e ?_
      refine then_e ?_
      refine blk_e ?_
      refine then_n ?_
      refine sy_sq (part_lthere 30) (part_lthere 31) ?_
      refine sy_sq (part_lthere 60) (part_lthere 61) ?_
      refine sy_reg ?_
      refine rg_plain 10 (opsAt (part_lthere 60)) [0] (by kernel_rfl) (by kernel_rfl) ?_
      refine ps_k (o_lthere 60 0) (.int .i64 0) ?_
      refine ps_end ?_
      refine then_n ?_
      refine sy_bk 2 (part_lthere 122) ?_
      refine sy_loop (part_lthere 244) (fun a V => ∃ (k : Nat) (d : Nat) (u8 u15 u16 u64 u65 u66 u67 u68 u69 u70 u71 u72 u73 u74 u75 u76 u77 u78 u79 u80 u81 u82 u83 u84 u85 u86 u87 u88 u89 u90 u91 u92 u93 u94 u95 u96 u97 u98 u99 u100 u101 u102 u103 u104 u105 u106 : Value), (a = ⟨#[pT r 0, .agg #[va, vp], iN s.la, iN s.lb, undef, pT hb 0, undef, undef, u8, iN c, iN d, iN i, u12, u13, iN k, u15, u16, undef, undef, undef, undef, iN i, pT hb 0, va, iN wa.length, .bool false, u26, u27, u28, u29, u30, u31, u32, u33, u34, u35, u36, u37, u38, u39, u40, u41, u42, u43, u44, u45, u46, u47, u48, u49, u50, u51, u52, u53, u54, u55, u56, u57, u58, u59, u60, u61, u62, u63, u64, u65, u66, u67, u68, u69, u70, u71, u72, u73, u74, u75, u76, u77, u78, u79, u80, u81, u82, u83, u84, u85, u86, u87, u88, u89, u90, u91, u92, u93, u94, u95, u96, u97, u98, u99, u100, u101, u102, u103, u104, u105, u106, undef, undef, undef, undef, undef, undef, undef, undef, undef, undef, undef, undef, undef, undef, undef, undef, undef, undef, undef, undef, undef, undef, undef, undef, undef, undef, undef, undef, undef, undef, undef, undef, undef, undef, undef, undef, undef, undef, undef, undef, undef, undef, undef, undef, undef, undef, undef, undef, undef, undef, undef, undef, undef, undef, undef, undef, undef, undef, undef, undef, undef, undef], []⟩) ∧ (k ≤ wp.length) ∧ (d = (((wp.take k).filter (keepB s.lb)).length)) ∧ (V.heap[hb]? = some (.cells (#[va, vp]) 66 (0, 0))) ∧ (Keeps Nob w V)) (fun a _ => wp.length - (intOf (a.tmps.getD 14 undef)).toNat) (by kernel_rfl) ?_ ?_
      · exact ⟨0, 0, u8, undef, undef, undef, undef, undef, undef, undef, undef, undef, undef, undef, undef, undef, undef, undef, undef, undef, undef, undef, undef, undef, undef, undef, undef, undef, undef, undef, undef, undef, undef, undef, undef, undef, undef, undef, undef, undef, undef, undef, undef, undef, undef, undef, undef, undef, by kernel_rfl, Nat.zero_le _, rfl, h7, K8⟩
      · rintro a V51 ⟨k, d, u8, u15, u16, u64, u65, u66, u67, u68, u69, u70, u71, u72, u73, u74, u75, u76, u77, u78, u79, u80, u81, u82, u83, u84, u85, u86, u87, u88, u89, u90, u91, u92, u93, u94, u95, u96, u97, u98, u99, u100, u101, u102, u103, u104, u105, u106, rfl, hk, hck, h52, K53⟩
        rcases (show (∃ x, wp[k]? = some x ∧ k < wp.length ∧ keepB s.lb x = true ∧ (s.lb : Int) ≤ x.h ∧ s.VB x.h = some x) ∨ (∃ x, wp[k]? = some x ∧ k < wp.length ∧ keepB s.lb x = false ∧ ¬ (s.lb : Int) ≤ x.h ∧ s.VB x.h = none) ∨ k = wp.length by
          by_cases h : k < wp.length
          · rcases HI.atB hhb (List.getElem_mem h) with h1 | h1
            · exact .inl ⟨_, List.getElem?_eq_getElem h, h, h1⟩
            · exact .inr (.inl ⟨_, List.getElem?_eq_getElem h, h, h1⟩)
          · exact .inr (.inr (by omega))) with ⟨x, hx, lt_i, hkp, hle, hv_⟩ | ⟨x, hx, lt_i, hkp, hle, hv_⟩ | ek
        · have hxo := HI.okp x (List.mem_of_getElem? hx)
          obtain ⟨b_xlp, o_xlp, c_xlp, hv_xlp, hb_xlp, _⟩ := ((Hlp.keepsN K53)).at_ k _ hx
          skip
          have hcl : (((wp.take k).filter (keepB s.lb)).length) ≤ k := Nat.le_trans (List.length_filter_le _ _) (by rw [List.length_take]; omega)
          refine sy_sq (part_lthere 488) (part_lthere 489) ?_
          refine sy_sq (part_lthere 976) (part_lthere 977) ?_
          refine sy_reg ?_
          refine rg_plain 11 (opsAt (part_lthere 976)) [0, 1, 2, 3, 4] (by kernel_rfl) (by kernel_rfl) ?_
          refine ps_k (o_lthere 976 0) (iN k) ?_
          refine ps_k (o_lthere 976 1) (pT hb 1) ?_
          refine ps_p (o_lthere 976 2) (vp) (exec_ld 61 (.tmp 65) hb 1 Try.underlying61 (rc (h52) (by kernel_rfl))) ?_
          refine ps_p (o_lthere 976 3) (iN wp.length) (exec_len_sl (.tmp 66) 61 35 (by kernel_rfl) Try.underlying61 (by kernel_rfl) (Hlp.keepsN K53)) ?_
          refine ps_p (o_lthere 976 4) (.bool true) (dct ((((k : Nat) : Int)) < (((wp.length : Nat) : Int))) (by omega)) ?_
          refine ps_end ?_
          refine then_n ?_
          refine sy_ys (.tmp 68) (part_lthere 1954) (part_lthere 1955) ?_
          refine sy_sk ?_
          refine then_n ?_
          refine sy_sq (part_lthere 978) (part_lthere 979) ?_
          refine sy_bk 3 (part_lthere 1956) ?_
          refine sy_sq (part_lthere 3912) (part_lthere 3913) ?_
          refine sy_reg ?_
          refine rg_plain 13 (opsAt (part_lthere 3912)) [0, 1, 2, 3, 4, 5, 6, 7, 8, 9, 10, 11, 12, 13] (by kernel_rfl) (by kernel_rfl) ?_
          refine ps_k (o_lthere 3912 0) (pT r 0) ?_
          refine ps_k (o_lthere 3912 1) (pT hb 1) ?_
          refine ps_p (o_lthere 3912 2) (vp) (exec_ld 61 (.tmp 73) hb 1 Try.underlying61 (rc (h52) (by kernel_rfl))) ?_
          refine ps_k (o_lthere 3912 3) (iN k) ?_
          refine ps_p (o_lthere 3912 4) (pT b_xlp (o_xlp + k * 35)) (exec_indexAt_slice 61 (.tmp 74) (.tmp 75) (by kernel_rfl) b_xlp o_xlp wp.length c_xlp (Eq.trans (b := vp) (by kernel_rfl) hv_xlp) .i64 k (by kernel_rfl) _ 35 Try.underlying61 (by kernel_rfl) (by omega)) ?_
          refine ps_k (o_lthere 3912 5) (pT b_xlp (o_xlp + k * 35 + 1)) ?_
          refine ps_p (o_lthere 3912 6) (.int .i64 x.h) (exec_ld 3 (.tmp 77) b_xlp (o_xlp + k * 35 + 1) Try.underlying3 (Sl.cell (Hlp.keepsN K53) hx hv_xlp Pro.cl_1)) ?_
          refine ps_c (o_lthere 3912 7) 11 #[pT r 0, .int .i64 x.h] Try.func11 (((show Calls Try.prog 11 #[pT r 0, .int .i64 x.h] V51 (fun e w' => e = .returned (.tuple #[.agg (Pro.c x), .bool true]) ∧ Keeps Nob V51 w') from by have h := RSt.block (H.keepsN K53) x.h; rw [hv_] at h; exact h)).mono ?_)
          rintro e V54 ⟨rfl, kV54⟩
          refine ⟨_, rfl, ?_⟩
          have h55 := kV54.bk h52
          have K56 := K53.nn kV54
          have z57 := kV54.size
          refine ps_k (o_lthere 3912 8) (.tuple #[.agg (Pro.c x), .bool true]) ?_
          refine ps_k (o_lthere 3912 9) (.agg (Pro.c x)) ?_
          refine ps_k (o_lthere 3912 10) (.bool true) ?_
          obtain ⟨V58, eV58, z2, ez2, h59, kV58⟩ := alloc_step V54 (#[.int .i64 0, .int .i64 0, .int .u8 0, .int .u8 0, .int .u8 0, .int .u8 0, .int .u8 0, .int .u8 0, .int .u8 0, .int .u8 0, .int .u8 0, .int .u8 0, .int .u8 0, .int .u8 0, .int .u8 0, .int .u8 0, .int .u8 0, .int .u8 0, .int .u8 0, .int .u8 0, .int .u8 0, .int .u8 0, .int .u8 0, .int .u8 0, .int .u8 0, .int .u8 0, .int .u8 0, .int .u8 0, .int .u8 0, .int .u8 0, .int .u8 0, .int .u8 0, .int .u8 0, .int .u8 0, .int .u64 0]) 35
          have n60 : hb < z2 := ez2 ▸ lt_of_block h55
          have n61 : w.heap.size ≤ z2 := ez2 ▸ K56.size
          refine ps_r (o_lthere 3912 11) (pT z2 0) (w' := V58) (by rw [← eV58, ← ez2]; exact exec_alloc0 35 (by kernel_rfl) (.agg (#[.int .i64 0, .int .i64 0, .int .u8 0, .int .u8 0, .int .u8 0, .int .u8 0, .int .u8 0, .int .u8 0, .int .u8 0, .int .u8 0, .int .u8 0, .int .u8 0, .int .u8 0, .int .u8 0, .int .u8 0, .int .u8 0, .int .u8 0, .int .u8 0, .int .u8 0, .int .u8 0, .int .u8 0, .int .u8 0, .int .u8 0, .int .u8 0, .int .u8 0, .int .u8 0, .int .u8 0, .int .u8 0, .int .u8 0, .int .u8 0, .int .u8 0, .int .u8 0, .int .u8 0, .int .u8 0, .int .u64 0])) (by kernel_rfl)) ?_
          clear eV58
          have h62 := kV58.bk h55
          have K63 := K56.nn kV58
          have z64 := kV58.size
          obtain ⟨V65, eV65, kV65⟩ := rowset_step V58 z2 ((Pro.c x))
          have h66 : V65.heap[z2]? = some (.cells (Pro.c x) 35 (0, 0)) := eV65 ▸ setRow_heap _ _ _ _ _ _ h59
          refine ps_s (o_lthere 3912 12) (w' := V65) (by rw [← eV65]; exact exec_store_row 35 (.tmp 15) (.tmp 80) (by kernel_rfl) z2 ((Pro.c x)) (by kernel_rfl) (by kernel_rfl) 35 (#[.int .i64 0, .int .i64 0, .int .u8 0, .int .u8 0, .int .u8 0, .int .u8 0, .int .u8 0, .int .u8 0, .int .u8 0, .int .u8 0, .int .u8 0, .int .u8 0, .int .u8 0, .int .u8 0, .int .u8 0, .int .u8 0, .int .u8 0, .int .u8 0, .int .u8 0, .int .u8 0, .int .u8 0, .int .u8 0, .int .u8 0, .int .u8 0, .int .u8 0, .int .u8 0, .int .u8 0, .int .u8 0, .int .u8 0, .int .u8 0, .int .u8 0, .int .u8 0, .int .u8 0, .int .u8 0, .int .u64 0]) h59 (by rw [Pro.c_size _ hxo.r]; kernel_rfl) (by rw [Pro.c_size _ hxo.r]; rfl) (Pro.c_one _)) ?_
          clear eV65
          have h67 := kV65.bo h62 (by omega)
          have K68 := K63.no kV65 (by omega)
          have z69 := kV65.size
          refine ps_k (o_lthere 3912 13) (.bool true) ?_
          refine ps_end ?_
          refine then_n ?_
          refine sy_sq (part_lthere 7826) (part_lthere 7827) ?_
          refine sy_sq (part_lthere 15652) (part_lthere 15653) ?_
          refine sy_np ?_
          refine sy_reg ?_
          refine an_begin 14 22 (opsAt (part_lthere 15652)) (fun W => (W.heap[hb]? = some (.cells (#[va, vp]) 66 (0, 0))) ∧ (ProsAt W vp wp) ∧ (W.heap[z2]? = some (.cells (Pro.c x) 35 (0, 0)))) #[false, false, false, false, false, false, false, false, false, false, false, false, false, false, false, false, false, false, false, false, false, false] (by kernel_rfl) (by kernel_rfl) (by kernel_rfl) (by kernel_rfl) ?_
          obtain ⟨V70, eV70, kV70⟩ := drew_step V65
          rw [eV70]
          clear eV70
          have h71 := kV70.bk h67
          have h72 := kV70.bk h66
          have K73 := K68.nn kV70
          have z74 := kV70.size
          refine an_k 0 (o_lthere 15652 0) (pT hb 1) ⟨h71, (Hlp.keepsN K73), h72⟩ ?_
          refine an_v 1 (o_lthere 15652 1) (vp) (fun W hS => exec_ld 61 (.tmp 82) hb 1 Try.underlying61 (rc (hS.1) (by kernel_rfl))) ⟨h71, (Hlp.keepsN K73), h72⟩ ?_
          refine an_k 2 (o_lthere 15652 2) (iN k) ⟨h71, (Hlp.keepsN K73), h72⟩ ?_
          refine an_v 3 (o_lthere 15652 3) (pT b_xlp (o_xlp + k * 35)) (fun W hS => exec_indexAt_slice 61 (.tmp 83) (.tmp 84) (by kernel_rfl) b_xlp o_xlp wp.length c_xlp (Eq.trans (b := vp) (by kernel_rfl) hv_xlp) .i64 k (by kernel_rfl) _ 35 Try.underlying61 (by kernel_rfl) (by omega)) ⟨h71, (Hlp.keepsN K73), h72⟩ ?_
          refine an_k 4 (o_lthere 15652 4) (pT b_xlp (o_xlp + k * 35 + 1)) ⟨h71, (Hlp.keepsN K73), h72⟩ ?_
          refine an_v 5 (o_lthere 15652 5) (.int .i64 x.h) (fun W hS => exec_ld 3 (.tmp 86) b_xlp (o_xlp + k * 35 + 1) Try.underlying3 (Sl.cell hS.2.1 hx hv_xlp Pro.cl_1)) ⟨h71, (Hlp.keepsN K73), h72⟩ ?_
          refine an_k 6 (o_lthere 15652 6) (iN s.lb) ⟨h71, (Hlp.keepsN K73), h72⟩ ?_
          refine an_v 7 (o_lthere 15652 7) (.bool true) (fun W hS => dct (((x.h) : Int) ≥ (((s.lb : Nat) : Int))) (by omega)) ⟨h71, (Hlp.keepsN K73), h72⟩ ?_
          refine an_k 8 (o_lthere 15652 8) (.bool true) ⟨h71, (Hlp.keepsN K73), h72⟩ ?_
          refine an_k 9 (o_lthere 15652 9) (.bool false) ⟨h71, (Hlp.keepsN K73), h72⟩ ?_
          refine an_k 10 (o_lthere 15652 10) (.bool false) ⟨h71, (Hlp.keepsN K73), h72⟩ ?_
          refine an_k 11 (o_lthere 15652 11) (.bool true) ⟨h71, (Hlp.keepsN K73), h72⟩ ?_
          refine an_k 12 (o_lthere 15652 12) (.bool true) ⟨h71, (Hlp.keepsN K73), h72⟩ ?_
          refine an_v 13 (o_lthere 15652 13) (.agg (Pro.c x)) (fun W hS => exec_load_row 35 (.tmp 15) (by kernel_rfl) z2 (by kernel_rfl) _ _ (0, 0) _ (hS.2.2) Try.underlying35 rfl (by rw [Pro.c_size _ hxo.r]; kernel_rfl)) ⟨h71, (Hlp.keepsN K73), h72⟩ ?_
          refine an_k 14 (o_lthere 15652 14) (pT hb 1) ⟨h71, (Hlp.keepsN K73), h72⟩ ?_
          refine an_v 15 (o_lthere 15652 15) (vp) (fun W hS => exec_ld 61 (.tmp 96) hb 1 Try.underlying61 (rc (hS.1) (by kernel_rfl))) ⟨h71, (Hlp.keepsN K73), h72⟩ ?_
          refine an_k 16 (o_lthere 15652 16) (iN k) ⟨h71, (Hlp.keepsN K73), h72⟩ ?_
          refine an_v 17 (o_lthere 15652 17) (pT b_xlp (o_xlp + k * 35)) (fun W hS => exec_indexAt_slice 61 (.tmp 97) (.tmp 98) (by kernel_rfl) b_xlp o_xlp wp.length c_xlp (Eq.trans (b := vp) (by kernel_rfl) hv_xlp) .i64 k (by kernel_rfl) _ 35 Try.underlying61 (by kernel_rfl) (by omega)) ⟨h71, (Hlp.keepsN K73), h72⟩ ?_
          refine an_v 18 (o_lthere 15652 18) (.agg (Pro.c x)) (fun W hS => exec_load_mid 35 (.tmp 99) (by kernel_rfl) b_xlp (o_xlp + k * 35) (by kernel_rfl) (Pro.cl x) _ (Sl.range hS.2.1 hx hv_xlp) Try.underlying35 rfl (by rw [Pro.cl_len hxo]; kernel_rfl)) ⟨h71, (Hlp.keepsN K73), h72⟩ ?_
          refine an_v 19 (o_lthere 15652 19) (.bool false) (fun W hS => exec_cast (congrArg Value.bool (by simp)) (exec_binop .neq 35 35 (.tmp 95) (.tmp 100) (by kernel_rfl) (.agg (Pro.c x)) (.agg (Pro.c x)) _ (by kernel_rfl) (by kernel_rfl) (run_eqGuard_agg _ _ _ _ _ _ _ pro_guard) (pro_ne _ _ hxo.r hxo.r _))) ⟨h71, (Hlp.keepsN K73), h72⟩ ?_
          refine an_k 20 (o_lthere 15652 20) (.bool false) ⟨h71, (Hlp.keepsN K73), h72⟩ ?_
          refine an_k 21 (o_lthere 15652 21) (.bool false) ⟨h71, (Hlp.keepsN K73), h72⟩ ?_
          refine an_end (by kernel_rfl) ?_
          refine sy_a ⟨#[pT r 0, .agg #[va, vp], iN s.la, iN s.lb, undef, pT hb 0, undef, undef, u8, iN c, iN d, iN i, u12, u13, iN k, pT z2 0, .bool true, undef, undef, undef, undef, iN i, pT hb 0, va, iN wa.length, .bool false, u26, u27, u28, u29, u30, u31, u32, u33, u34, u35, u36, u37, u38, u39, u40, u41, u42, u43, u44, u45, u46, u47, u48, u49, u50, u51, u52, u53, u54, u55, u56, u57, u58, u59, u60, u61, u62, u63, iN k, pT hb 1, vp, iN wp.length, .bool true, u69, u70, .tuple #[.agg (Pro.c x), .bool true], pT r 0, pT hb 1, vp, iN k, pT b_xlp (o_xlp + k * 35), pT b_xlp (o_xlp + k * 35 + 1), .int .i64 x.h, .tuple #[.agg (Pro.c x), .bool true], .agg (Pro.c x), .bool true, pT hb 1, vp, iN k, pT b_xlp (o_xlp + k * 35), pT b_xlp (o_xlp + k * 35 + 1), .int .i64 x.h, iN s.lb, .bool true, .bool true, .bool false, .bool false, .bool true, .bool true, .agg (Pro.c x), pT hb 1, vp, iN k, pT b_xlp (o_xlp + k * 35), .agg (Pro.c x), .bool false, .bool false, .bool false, u104, u105, u106, undef, undef, undef, undef, undef, undef, undef, undef, undef, undef, undef, undef, undef, undef, undef, undef, undef, undef, undef, undef, undef, undef, undef, undef, undef, undef, undef, undef, undef, undef, undef, undef, undef, undef, undef, undef, undef, undef, undef, undef, undef, undef, undef, undef, undef, undef, undef, undef, undef, undef, undef, undef, undef, undef, undef, undef, undef, undef, undef, undef, undef, undef], []⟩ ?_
          refine then_n ?_
          refine sy_n (.tmp 103) (part_lthere 31306) (part_lthere 31307) ?_
          refine sy_sk ?_
          refine then_n ?_
          refine sy_sq (part_lthere 15654) (part_lthere 15655) ?_
          refine sy_reg ?_
          refine rg_plain 16 (opsAt (part_lthere 15654)) [0] (by kernel_rfl) (by kernel_rfl) ?_
          refine ps_k (o_lthere 15654 0) (.bool true) ?_
          refine ps_end ?_
          refine then_n ?_
          refine sy_ys (.tmp 104) (part_lthere 31310) (part_lthere 31311) ?_
          refine sy_reg ?_
          refine rg_plain 17 (opsAt (part_lthere 31310)) [0, 1, 2] (by kernel_rfl) (by kernel_rfl) ?_
          refine ps_k (o_lthere 31310 0) (iN d) ?_
          refine ps_p (o_lthere 31310 1) (iN (d + 1)) (exec_cast (congrArg (Value.int .i64) (wrapN (d + 1) (by omega))) (by kernel_rfl)) ?_
          refine ps_k (o_lthere 31310 2) (iN (d + 1)) ?_
          refine ps_end ?_
          refine blk_n ?_
          refine then_n ?_
          refine sy_reg ?_
          refine rg_plain 12 (opsAt (part_lthere 979)) [0, 1, 2] (by kernel_rfl) (by kernel_rfl) ?_
          refine ps_k (o_lthere 979 0) (iN k) ?_
          refine ps_p (o_lthere 979 1) (iN (k + 1)) (exec_cast (congrArg (Value.int .i64) (wrapN (k + 1) (by omega))) (by kernel_rfl)) ?_
          refine ps_k (o_lthere 979 2) (iN (k + 1)) ?_
          refine ps_end ?_
          refine then_n ?_
          refine ⟨⟨k + 1, d + 1, u8, (pT z2 0), (.bool true), (iN k), (pT hb 1), vp, (iN wp.length), (.bool true), (iN k), (iN (k + 1)), (.tuple #[.agg (Pro.c x), .bool true]), (pT r 0), (pT hb 1), vp, (iN k), (pT b_xlp (o_xlp + k * 35)), (pT b_xlp (o_xlp + k * 35 + 1)), (.int .i64 x.h), (.tuple #[.agg (Pro.c x), .bool true]), (.agg (Pro.c x)), (.bool true), (pT hb 1), vp, (iN k), (pT b_xlp (o_xlp + k * 35)), (pT b_xlp (o_xlp + k * 35 + 1)), (.int .i64 x.h), (iN s.lb), (.bool true), (.bool true), (.bool false), (.bool false), (.bool true), (.bool true), (.agg (Pro.c x)), (pT hb 1), vp, (iN k), (pT b_xlp (o_xlp + k * 35)), (.agg (Pro.c x)), (.bool false), (.bool false), (.bool false), (.bool true), (iN d), (iN (d + 1)), by kernel_rfl, by omega, (by first | (rw [filY hx hkp]; omega) | (rw [filN hx hkp]; omega)), h71, K73⟩, ?_⟩
          exact lt_meas (x := wp.length - (k + 1)) (y := wp.length - k) (by kernel_rfl) (by kernel_rfl) (by omega)
        · have hxo := HI.okp x (List.mem_of_getElem? hx)
          obtain ⟨b_xlp, o_xlp, c_xlp, hv_xlp, hb_xlp, _⟩ := ((Hlp.keepsN K53)).at_ k _ hx
          skip
          refine sy_sq (part_lthere 488) (part_lthere 489) ?_
          refine sy_sq (part_lthere 976) (part_lthere 977) ?_
          refine sy_reg ?_
          refine rg_plain 11 (opsAt (part_lthere 976)) [0, 1, 2, 3, 4] (by kernel_rfl) (by kernel_rfl) ?_
          refine ps_k (o_lthere 976 0) (iN k) ?_
          refine ps_k (o_lthere 976 1) (pT hb 1) ?_
          refine ps_p (o_lthere 976 2) (vp) (exec_ld 61 (.tmp 65) hb 1 Try.underlying61 (rc (h52) (by kernel_rfl))) ?_
          refine ps_p (o_lthere 976 3) (iN wp.length) (exec_len_sl (.tmp 66) 61 35 (by kernel_rfl) Try.underlying61 (by kernel_rfl) (Hlp.keepsN K53)) ?_
          refine ps_p (o_lthere 976 4) (.bool true) (dct ((((k : Nat) : Int)) < (((wp.length : Nat) : Int))) (by omega)) ?_
          refine ps_end ?_
          refine then_n ?_
          refine sy_ys (.tmp 68) (part_lthere 1954) (part_lthere 1955) ?_
          refine sy_sk ?_
          refine then_n ?_
          refine sy_sq (part_lthere 978) (part_lthere 979) ?_
          refine sy_bk 3 (part_lthere 1956) ?_
          refine sy_sq (part_lthere 3912) (part_lthere 3913) ?_
          refine sy_reg ?_
          refine rg_plain 13 (opsAt (part_lthere 3912)) [0, 1, 2, 3, 4, 5, 6, 7, 8, 9, 10, 11, 12, 13] (by kernel_rfl) (by kernel_rfl) ?_
          refine ps_k (o_lthere 3912 0) (pT r 0) ?_
          refine ps_k (o_lthere 3912 1) (pT hb 1) ?_
          refine ps_p (o_lthere 3912 2) (vp) (exec_ld 61 (.tmp 73) hb 1 Try.underlying61 (rc (h52) (by kernel_rfl))) ?_
          refine ps_k (o_lthere 3912 3) (iN k) ?_
          refine ps_p (o_lthere 3912 4) (pT b_xlp (o_xlp + k * 35)) (exec_indexAt_slice 61 (.tmp 74) (.tmp 75) (by kernel_rfl) b_xlp o_xlp wp.length c_xlp (Eq.trans (b := vp) (by kernel_rfl) hv_xlp) .i64 k (by kernel_rfl) _ 35 Try.underlying61 (by kernel_rfl) (by omega)) ?_
          refine ps_k (o_lthere 3912 5) (pT b_xlp (o_xlp + k * 35 + 1)) ?_
          refine ps_p (o_lthere 3912 6) (.int .i64 x.h) (exec_ld 3 (.tmp 77) b_xlp (o_xlp + k * 35 + 1) Try.underlying3 (Sl.cell (Hlp.keepsN K53) hx hv_xlp Pro.cl_1)) ?_
          refine ps_c (o_lthere 3912 7) 11 #[pT r 0, .int .i64 x.h] Try.func11 (((show Calls Try.prog 11 #[pT r 0, .int .i64 x.h] V51 (fun e w' => e = .returned (.tuple #[.agg (Pro.c zPro), .bool false]) ∧ Keeps Nob V51 w') from by have h := RSt.block (H.keepsN K53) x.h; rw [hv_] at h; exact h)).mono ?_)
          rintro e V75 ⟨rfl, kV75⟩
          refine ⟨_, rfl, ?_⟩
          have h76 := kV75.bk h52
          have K77 := K53.nn kV75
          have z78 := kV75.size
          refine ps_k (o_lthere 3912 8) (.tuple #[.agg (Pro.c zPro), .bool false]) ?_
          refine ps_k (o_lthere 3912 9) (.agg (Pro.c zPro)) ?_
          refine ps_k (o_lthere 3912 10) (.bool false) ?_
          obtain ⟨V79, eV79, z2, ez2, h80, kV79⟩ := alloc_step V75 (#[.int .i64 0, .int .i64 0, .int .u8 0, .int .u8 0, .int .u8 0, .int .u8 0, .int .u8 0, .int .u8 0, .int .u8 0, .int .u8 0, .int .u8 0, .int .u8 0, .int .u8 0, .int .u8 0, .int .u8 0, .int .u8 0, .int .u8 0, .int .u8 0, .int .u8 0, .int .u8 0, .int .u8 0, .int .u8 0, .int .u8 0, .int .u8 0, .int .u8 0, .int .u8 0, .int .u8 0, .int .u8 0, .int .u8 0, .int .u8 0, .int .u8 0, .int .u8 0, .int .u8 0, .int .u8 0, .int .u64 0]) 35
          have n81 : hb < z2 := ez2 ▸ lt_of_block h76
          have n82 : w.heap.size ≤ z2 := ez2 ▸ K77.size
          refine ps_r (o_lthere 3912 11) (pT z2 0) (w' := V79) (by rw [← eV79, ← ez2]; exact exec_alloc0 35 (by kernel_rfl) (.agg (#[.int .i64 0, .int .i64 0, .int .u8 0, .int .u8 0, .int .u8 0, .int .u8 0, .int .u8 0, .int .u8 0, .int .u8 0, .int .u8 0, .int .u8 0, .int .u8 0, .int .u8 0, .int .u8 0, .int .u8 0, .int .u8 0, .int .u8 0, .int .u8 0, .int .u8 0, .int .u8 0, .int .u8 0, .int .u8 0, .int .u8 0, .int .u8 0, .int .u8 0, .int .u8 0, .int .u8 0, .int .u8 0, .int .u8 0, .int .u8 0, .int .u8 0, .int .u8 0, .int .u8 0, .int .u8 0, .int .u64 0])) (by kernel_rfl)) ?_
          clear eV79
          have h83 := kV79.bk h76
          have K84 := K77.nn kV79
          have z85 := kV79.size
          obtain ⟨V86, eV86, kV86⟩ := rowset_step V79 z2 ((Pro.c zPro))
          have h87 : V86.heap[z2]? = some (.cells (Pro.c zPro) 35 (0, 0)) := eV86 ▸ setRow_heap _ _ _ _ _ _ h80
          refine ps_s (o_lthere 3912 12) (w' := V86) (by rw [← eV86]; exact exec_store_row 35 (.tmp 15) (.tmp 80) (by kernel_rfl) z2 ((Pro.c zPro)) (by kernel_rfl) (by kernel_rfl) 35 (#[.int .i64 0, .int .i64 0, .int .u8 0, .int .u8 0, .int .u8 0, .int .u8 0, .int .u8 0, .int .u8 0, .int .u8 0, .int .u8 0, .int .u8 0, .int .u8 0, .int .u8 0, .int .u8 0, .int .u8 0, .int .u8 0, .int .u8 0, .int .u8 0, .int .u8 0, .int .u8 0, .int .u8 0, .int .u8 0, .int .u8 0, .int .u8 0, .int .u8 0, .int .u8 0, .int .u8 0, .int .u8 0, .int .u8 0, .int .u8 0, .int .u8 0, .int .u8 0, .int .u8 0, .int .u8 0, .int .u64 0]) h80 (by rw [Pro.c_size _ zPro_ok.r]; kernel_rfl) (by rw [Pro.c_size _ zPro_ok.r]; rfl) (Pro.c_one _)) ?_
          clear eV86
          have h88 := kV86.bo h83 (by omega)
          have K89 := K84.no kV86 (by omega)
          have z90 := kV86.size
          refine ps_k (o_lthere 3912 13) (.bool false) ?_
          refine ps_end ?_
          refine then_n ?_
          refine sy_sq (part_lthere 7826) (part_lthere 7827) ?_
          refine sy_sq (part_lthere 15652) (part_lthere 15653) ?_
          refine sy_np ?_
          refine sy_reg ?_
          refine an_begin 14 22 (opsAt (part_lthere 15652)) (fun W => (W.heap[hb]? = some (.cells (#[va, vp]) 66 (0, 0))) ∧ (ProsAt W vp wp) ∧ (W.heap[z2]? = some (.cells (Pro.c zPro) 35 (0, 0)))) #[false, false, false, false, false, false, false, false, false, false, false, false, false, false, false, false, false, false, false, false, false, false] (by kernel_rfl) (by kernel_rfl) (by kernel_rfl) (by kernel_rfl) ?_
          obtain ⟨V91, eV91, kV91⟩ := drew_step V86
          rw [eV91]
          clear eV91
          have h92 := kV91.bk h88
          have h93 := kV91.bk h87
          have K94 := K89.nn kV91
          have z95 := kV91.size
          refine an_k 0 (o_lthere 15652 0) (pT hb 1) ⟨h92, (Hlp.keepsN K94), h93⟩ ?_
          refine an_v 1 (o_lthere 15652 1) (vp) (fun W hS => exec_ld 61 (.tmp 82) hb 1 Try.underlying61 (rc (hS.1) (by kernel_rfl))) ⟨h92, (Hlp.keepsN K94), h93⟩ ?_
          refine an_k 2 (o_lthere 15652 2) (iN k) ⟨h92, (Hlp.keepsN K94), h93⟩ ?_
          refine an_v 3 (o_lthere 15652 3) (pT b_xlp (o_xlp + k * 35)) (fun W hS => exec_indexAt_slice 61 (.tmp 83) (.tmp 84) (by kernel_rfl) b_xlp o_xlp wp.length c_xlp (Eq.trans (b := vp) (by kernel_rfl) hv_xlp) .i64 k (by kernel_rfl) _ 35 Try.underlying61 (by kernel_rfl) (by omega)) ⟨h92, (Hlp.keepsN K94), h93⟩ ?_
          refine an_k 4 (o_lthere 15652 4) (pT b_xlp (o_xlp + k * 35 + 1)) ⟨h92, (Hlp.keepsN K94), h93⟩ ?_
          refine an_v 5 (o_lthere 15652 5) (.int .i64 x.h) (fun W hS => exec_ld 3 (.tmp 86) b_xlp (o_xlp + k * 35 + 1) Try.underlying3 (Sl.cell hS.2.1 hx hv_xlp Pro.cl_1)) ⟨h92, (Hlp.keepsN K94), h93⟩ ?_
          refine an_k 6 (o_lthere 15652 6) (iN s.lb) ⟨h92, (Hlp.keepsN K94), h93⟩ ?_
          refine an_v 7 (o_lthere 15652 7) (.bool false) (fun W hS => dcf (((x.h) : Int) ≥ (((s.lb : Nat) : Int))) (by omega)) ⟨h92, (Hlp.keepsN K94), h93⟩ ?_
          refine an_k 8 (o_lthere 15652 8) (.bool false) ⟨h92, (Hlp.keepsN K94), h93⟩ ?_
          refine an_k 9 (o_lthere 15652 9) (.bool false) ⟨h92, (Hlp.keepsN K94), h93⟩ ?_
          refine an_k 10 (o_lthere 15652 10) (.bool false) ⟨h92, (Hlp.keepsN K94), h93⟩ ?_
          refine an_k 11 (o_lthere 15652 11) (.bool false) ⟨h92, (Hlp.keepsN K94), h93⟩ ?_
          refine an_k 12 (o_lthere 15652 12) (.bool false) ⟨h92, (Hlp.keepsN K94), h93⟩ ?_
          refine an_n 13 (o_lthere 15652 13) ⟨h92, (Hlp.keepsN K94), h93⟩ ?_
          refine an_n 14 (o_lthere 15652 14) ⟨h92, (Hlp.keepsN K94), h93⟩ ?_
          refine an_n 15 (o_lthere 15652 15) ⟨h92, (Hlp.keepsN K94), h93⟩ ?_
          refine an_n 16 (o_lthere 15652 16) ⟨h92, (Hlp.keepsN K94), h93⟩ ?_
          refine an_n 17 (o_lthere 15652 17) ⟨h92, (Hlp.keepsN K94), h93⟩ ?_
          refine an_n 18 (o_lthere 15652 18) ⟨h92, (Hlp.keepsN K94), h93⟩ ?_
          refine an_n 19 (o_lthere 15652 19) ⟨h92, (Hlp.keepsN K94), h93⟩ ?_
          refine an_k 20 (o_lthere 15652 20) (.bool false) ⟨h92, (Hlp.keepsN K94), h93⟩ ?_
          refine an_k 21 (o_lthere 15652 21) (.bool false) ⟨h92, (Hlp.keepsN K94), h93⟩ ?_
          refine an_end (by kernel_rfl) ?_
          refine sy_a ⟨#[pT r 0, .agg #[va, vp], iN s.la, iN s.lb, undef, pT hb 0, undef, undef, u8, iN c, iN d, iN i, u12, u13, iN k, pT z2 0, .bool false, undef, undef, undef, undef, iN i, pT hb 0, va, iN wa.length, .bool false, u26, u27, u28, u29, u30, u31, u32, u33, u34, u35, u36, u37, u38, u39, u40, u41, u42, u43, u44, u45, u46, u47, u48, u49, u50, u51, u52, u53, u54, u55, u56, u57, u58, u59, u60, u61, u62, u63, iN k, pT hb 1, vp, iN wp.length, .bool true, u69, u70, .tuple #[.agg (Pro.c zPro), .bool false], pT r 0, pT hb 1, vp, iN k, pT b_xlp (o_xlp + k * 35), pT b_xlp (o_xlp + k * 35 + 1), .int .i64 x.h, .tuple #[.agg (Pro.c zPro), .bool false], .agg (Pro.c zPro), .bool false, pT hb 1, vp, iN k, pT b_xlp (o_xlp + k * 35), pT b_xlp (o_xlp + k * 35 + 1), .int .i64 x.h, iN s.lb, .bool false, .bool false, .bool false, .bool false, .bool false, .bool false, undef, undef, undef, undef, undef, undef, undef, .bool false, .bool false, u104, u105, u106, undef, undef, undef, undef, undef, undef, undef, undef, undef, undef, undef, undef, undef, undef, undef, undef, undef, undef, undef, undef, undef, undef, undef, undef, undef, undef, undef, undef, undef, undef, undef, undef, undef, undef, undef, undef, undef, undef, undef, undef, undef, undef, undef, undef, undef, undef, undef, undef, undef, undef, undef, undef, undef, undef, undef, undef, undef, undef, undef, undef, undef, undef], []⟩ ?_
          refine then_n ?_
          refine sy_n (.tmp 103) (part_lthere 31306) (part_lthere 31307) ?_
          refine sy_sk ?_
          refine then_n ?_
          refine sy_sq (part_lthere 15654) (part_lthere 15655) ?_
          refine sy_reg ?_
          refine rg_plain 16 (opsAt (part_lthere 15654)) [0] (by kernel_rfl) (by kernel_rfl) ?_
          refine ps_k (o_lthere 15654 0) (.bool false) ?_
          refine ps_end ?_
          refine then_n ?_
          refine sy_n (.tmp 104) (part_lthere 31310) (part_lthere 31311) ?_
          refine sy_sk ?_
          refine blk_n ?_
          refine then_n ?_
          refine sy_reg ?_
          refine rg_plain 12 (opsAt (part_lthere 979)) [0, 1, 2] (by kernel_rfl) (by kernel_rfl) ?_
          refine ps_k (o_lthere 979 0) (iN k) ?_
          refine ps_p (o_lthere 979 1) (iN (k + 1)) (exec_cast (congrArg (Value.int .i64) (wrapN (k + 1) (by omega))) (by kernel_rfl)) ?_
          refine ps_k (o_lthere 979 2) (iN (k + 1)) ?_
          refine ps_end ?_
          refine then_n ?_
          refine ⟨⟨k + 1, d, u8, (pT z2 0), (.bool false), (iN k), (pT hb 1), vp, (iN wp.length), (.bool true), (iN k), (iN (k + 1)), (.tuple #[.agg (Pro.c zPro), .bool false]), (pT r 0), (pT hb 1), vp, (iN k), (pT b_xlp (o_xlp + k * 35)), (pT b_xlp (o_xlp + k * 35 + 1)), (.int .i64 x.h), (.tuple #[.agg (Pro.c zPro), .bool false]), (.agg (Pro.c zPro)), (.bool false), (pT hb 1), vp, (iN k), (pT b_xlp (o_xlp + k * 35)), (pT b_xlp (o_xlp + k * 35 + 1)), (.int .i64 x.h), (iN s.lb), (.bool false), (.bool false), (.bool false), (.bool false), (.bool false), (.bool false), undef, undef, undef, undef, undef, undef, undef, (.bool false), (.bool false), (.bool false), u105, u106, by kernel_rfl, by omega, (by first | (rw [filY hx hkp]; omega) | (rw [filN hx hkp]; omega)), h92, K94⟩, ?_⟩
          exact lt_meas (x := wp.length - (k + 1)) (y := wp.length - k) (by kernel_rfl) (by kernel_rfl) (by omega)
        · have hfin_k : d = (wp.filter (keepB s.lb)).length := by rw [hck, ek, List.take_of_length_le (Nat.le_refl _)]
          refine sy_sq (part_lthere 488) (part_lthere 489) ?_
          refine sy_sq (part_lthere 976) (part_lthere 977) ?_
          refine sy_reg ?_
          refine rg_plain 11 (opsAt (part_lthere 976)) [0, 1, 2, 3, 4] (by kernel_rfl) (by kernel_rfl) ?_
          refine ps_k (o_lthere 976 0) (iN k) ?_
          refine ps_k (o_lthere 976 1) (pT hb 1) ?_
          refine ps_p (o_lthere 976 2) (vp) (exec_ld 61 (.tmp 65) hb 1 Try.underlying61 (rc (h52) (by kernel_rfl))) ?_
          refine ps_p (o_lthere 976 3) (iN wp.length) (exec_len_sl (.tmp 66) 61 35 (by kernel_rfl) Try.underlying61 (by kernel_rfl) (Hlp.keepsN K53)) ?_
          refine ps_p (o_lthere 976 4) (.bool false) (dcf ((((k : Nat) : Int)) < (((wp.length : Nat) : Int))) (by omega)) ?_
          refine ps_end ?_
          refine then_n ?_
          refine sy_n (.tmp 68) (part_lthere 1954) (part_lthere 1955) ?_
          refine sy_exit 2 (by kernel_rfl) ?_
          refine then_e ?_
          refine then_e ?_
          refine blk_e ?_
          refine then_n ?_
          refine sy_sq (part_lthere 62) (part_lthere 63) ?_
          refine sy_reg ?_
          refine rg_plain 18 (opsAt (part_lthere 62)) [0, 1, 2, 3, 4, 5] (by kernel_rfl) (by kernel_rfl) ?_
          refine ps_k (o_lthere 62 0) (pT r 0) ?_
          refine ps_c (o_lthere 62 1) 24 #[pT r 0] Try.func24 ((RSt.all (H.keepsN K53)).mono ?_)
          rintro e V96 ⟨vx, rfl, hvx, nvx, kV96⟩
          refine ⟨_, rfl, ?_⟩
          have h97 := kV96.bk h52
          have K98 := K53.nn kV96
          have z99 := kV96.size
          refine ps_k (o_lthere 62 2) (pT r 0) ?_
          refine ps_c (o_lthere 62 3) 25 #[pT r 0] Try.func25 ((RSt.blocks (H.keepsN K98)).mono ?_)
          rintro e V100 ⟨vy, rfl, hvy, nvy, kV100⟩
          refine ⟨_, rfl, ?_⟩
          have h101 := kV100.bk h97
          have h102 : Row V100 28 36 vx s.all.length (s.all.flatMap Att.cl) := (hvx).keeps kV100 (fun _ _ x => x)
          have K103 := K98.nn kV100
          have z104 := kV100.size
          refine ps_k (o_lthere 62 4) (vx) ?_
          refine ps_k (o_lthere 62 5) (vy) ?_
          refine ps_end ?_
          refine then_n ?_
          refine sy_sq (part_lthere 126) (part_lthere 127) ?_
          refine sy_sq (part_lthere 252) (part_lthere 253) ?_
          refine sy_reg ?_
          refine rg_plain 19 (opsAt (part_lthere 252)) [0] (by kernel_rfl) (by kernel_rfl) ?_
          refine ps_k (o_lthere 252 0) (.int .i64 1) ?_
          refine ps_end ?_
          refine then_n ?_
          refine sy_bk 4 (part_lthere 506) ?_
          refine sy_loop (part_lthere 1012) (fun a V => ∃ (m : Nat) (u8 u111 u112 u113 u114 u115 u116 u117 u118 u119 u120 u121 u122 u123 u124 u125 u126 u127 u128 : Value), (a = ⟨#[pT r 0, .agg #[va, vp], iN s.la, iN s.lb, undef, pT hb 0, undef, undef, u8, iN c, iN d, iN i, u12, u13, iN k, u15, u16, vx, vy, iN (m + 1), undef, iN i, pT hb 0, va, iN wa.length, .bool false, u26, u27, u28, u29, u30, u31, u32, u33, u34, u35, u36, u37, u38, u39, u40, u41, u42, u43, u44, u45, u46, u47, u48, u49, u50, u51, u52, u53, u54, u55, u56, u57, u58, u59, u60, u61, u62, u63, iN k, pT hb 1, vp, iN wp.length, .bool false, u69, u70, u71, u72, u73, u74, u75, u76, u77, u78, u79, u80, u81, u82, u83, u84, u85, u86, u87, u88, u89, u90, u91, u92, u93, u94, u95, u96, u97, u98, u99, u100, u101, u102, u103, u104, u105, u106, pT r 0, vx, pT r 0, vy, u111, u112, u113, u114, u115, u116, u117, u118, u119, u120, u121, u122, u123, u124, u125, u126, u127, u128, undef, undef, undef, undef, undef, undef, undef, undef, undef, undef, undef, undef, undef, undef, undef, undef, undef, undef, undef, undef, undef, undef, undef, undef, undef, undef, undef, undef, undef, undef, undef, undef, undef, undef, undef, undef, undef, undef, undef, undef], []⟩) ∧ (V.heap[hb]? = some (.cells (#[va, vp]) 66 (0, 0))) ∧ (Row V 28 36 vx s.all.length (s.all.flatMap Att.cl)) ∧ (Row V 35 35 vy s.allB.length (s.allB.flatMap Pro.cl)) ∧ (Keeps Nob w V)) (fun a _ => s.all.length + 1 - (intOf (a.tmps.getD 19 undef)).toNat) (by kernel_rfl) ?_ ?_
          · exact ⟨0, u8, undef, undef, undef, undef, undef, undef, undef, undef, undef, undef, undef, undef, undef, undef, undef, undef, undef, undef, by kernel_rfl, h101, h102, hvy, K103⟩
          · rintro a V105 ⟨m, u8, u111, u112, u113, u114, u115, u116, u117, u118, u119, u120, u121, u122, u123, u124, u125, u126, u127, u128, rfl, h106, h107, h108, K109⟩
            by_cases lt_m : m + 1 < s.all.length
            · obtain ⟨x, hx⟩ : ∃ x, s.all[m]? = some x := ⟨_, List.getElem?_eq_getElem (by omega)⟩
              obtain ⟨y, hy⟩ : ∃ y, s.all[m + 1]? = some y := ⟨_, List.getElem?_eq_getElem lt_m⟩
              have hlt_ : x.t < y.t := rise_get hra_ (Nat.lt_succ_self m) hx hy
              obtain ⟨b_p, o_p, c_p, hv_p, hb_p, _⟩ := (Row.sl h107 rfl (fun y hy => Att.cl_len (ola y hy))).at_ (m + 1) _ hy
              obtain ⟨b_q, o_q, c_q, hv_q, hb_q, _⟩ := (Row.sl h107 rfl (fun y hy => Att.cl_len (ola y hy))).at_ m _ hx
              refine sy_sq (part_lthere 2024) (part_lthere 2025) ?_
              refine sy_sq (part_lthere 4048) (part_lthere 4049) ?_
              refine sy_reg ?_
              refine rg_plain 20 (opsAt (part_lthere 4048)) [0, 1, 2, 3] (by kernel_rfl) (by kernel_rfl) ?_
              refine ps_k (o_lthere 4048 0) (iN (m + 1)) ?_
              refine ps_k (o_lthere 4048 1) (vx) ?_
              refine ps_p (o_lthere 4048 2) (iN s.all.length) (exec_len_sl (.tmp 112) 59 28 (by kernel_rfl) Try.underlying59 (by kernel_rfl) (Row.sl h107 rfl (fun y hy => Att.cl_len (ola y hy)))) ?_
              refine ps_p (o_lthere 4048 3) (.bool true) (dct ((((m + 1 : Nat) : Int)) < (((s.all.length : Nat) : Int))) (by omega)) ?_
              refine ps_end ?_
              refine then_n ?_
              refine sy_ys (.tmp 114) (part_lthere 8098) (part_lthere 8099) ?_
              refine sy_sk ?_
              refine then_n ?_
              refine sy_sq (part_lthere 4050) (part_lthere 4051) ?_
              refine sy_bk 5 (part_lthere 8100) ?_
              refine sy_sq (part_lthere 16200) (part_lthere 16201) ?_
              refine sy_np ?_
              refine sy_reg ?_
              refine an_begin 22 12 (opsAt (part_lthere 16200)) (fun W => (Row W 28 36 vx s.all.length (s.all.flatMap Att.cl))) #[false, false, false, false, false, false, false, false, false, false, false, false] (by kernel_rfl) (by kernel_rfl) (by kernel_rfl) (by kernel_rfl) ?_
              obtain ⟨V110, eV110, kV110⟩ := drew_step V105
              rw [eV110]
              clear eV110
              have h111 := kV110.bk h106
              have h112 : Row V110 28 36 vx s.all.length (s.all.flatMap Att.cl) := (h107).keeps kV110 (fun _ _ x => x)
              have h113 : Row V110 35 35 vy s.allB.length (s.allB.flatMap Pro.cl) := (h108).keeps kV110 (fun _ _ x => x)
              have K114 := K109.nn kV110
              have z115 := kV110.size
              refine an_k 0 (o_lthere 16200 0) (vx) h112 ?_
              refine an_k 1 (o_lthere 16200 1) (iN (m + 1)) h112 ?_
              refine an_v 2 (o_lthere 16200 2) (.pointer (some ⟨b_p, o_p + (m + 1) * 36, none⟩)) (fun W hS => exec_indexAt_slice 59 (.tmp 117) (.tmp 118) (by kernel_rfl) b_p o_p s.all.length c_p (Eq.trans (b := vx) (by kernel_rfl) hv_p) .i64 (m + 1) (by kernel_rfl) _ 36 Try.underlying59 (by kernel_rfl) (by omega)) h112 ?_
              refine an_k 3 (o_lthere 16200 3) (.pointer (some ⟨b_p, o_p + (m + 1) * 36 + 2, none⟩)) h112 ?_
              refine an_v 4 (o_lthere 16200 4) (.int .i64 y.t) (fun W hS => exec_ld 3 (.tmp 120) b_p (o_p + (m + 1) * 36 + 2) Try.underlying3 (Sl.cell (Row.sl hS rfl (fun y hy => Att.cl_len (ola y hy))) hy hv_p Att.cl_2)) h112 ?_
              refine an_k 5 (o_lthere 16200 5) (vx) h112 ?_
              refine an_k 6 (o_lthere 16200 6) (iN (m + 1)) h112 ?_
              refine an_v 7 (o_lthere 16200 7) (iN m) (fun W hS => exec_cast (congrArg (Value.int .i64) (wrapI (((m + 1 : Nat) : Int) - 1) _ (by omega) (by omega) (by omega))) (by kernel_rfl)) h112 ?_
              refine an_v 8 (o_lthere 16200 8) (pT b_q (o_q + m * 36)) (fun W hS => exec_indexAt_slice 59 (.tmp 122) (.tmp 124) (by kernel_rfl) b_q o_q s.all.length c_q (Eq.trans (b := vx) (by kernel_rfl) hv_q) .i64 m (by kernel_rfl) _ 36 Try.underlying59 (by kernel_rfl) (by omega)) h112 ?_
              refine an_k 9 (o_lthere 16200 9) (pT b_q (o_q + m * 36 + 2)) h112 ?_
              refine an_v 10 (o_lthere 16200 10) (.int .i64 x.t) (fun W hS => exec_ld 3 (.tmp 126) b_q (o_q + m * 36 + 2) Try.underlying3 (Sl.cell (Row.sl hS rfl (fun y hy => Att.cl_len (ola y hy))) hx hv_q Att.cl_2)) h112 ?_
              refine an_v 11 (o_lthere 16200 11) (.bool false) (fun W hS => dcf (((y.t) : Int) ≤ ((x.t) : Int)) (by omega)) h112 ?_
              refine an_end (by kernel_rfl) ?_
              refine then_n ?_
              refine sy_n (.tmp 128) (part_lthere 32402) (part_lthere 32403) ?_
              refine sy_sk ?_
              refine blk_n ?_
              refine then_n ?_
              refine sy_reg ?_
              refine rg_plain 21 (opsAt (part_lthere 4051)) [0, 1, 2] (by kernel_rfl) (by kernel_rfl) ?_
              refine ps_k (o_lthere 4051 0) (iN (m + 1)) ?_
              refine ps_p (o_lthere 4051 1) (iN ((m + 1) + 1)) (exec_cast (congrArg (Value.int .i64) (wrapN ((m + 1) + 1) (by omega))) (by kernel_rfl)) ?_
              refine ps_k (o_lthere 4051 2) (iN ((m + 1) + 1)) ?_
              refine ps_end ?_
              refine then_n ?_
              refine ⟨⟨m + 1, u8, (iN (m + 1)), vx, (iN s.all.length), (.bool true), (iN (m + 1)), (iN ((m + 1) + 1)), vx, (iN (m + 1)), (.pointer (some ⟨b_p, o_p + (m + 1) * 36, none⟩)), (.pointer (some ⟨b_p, o_p + (m + 1) * 36 + 2, none⟩)), (.int .i64 y.t), vx, (iN (m + 1)), (iN m), (pT b_q (o_q + m * 36)), (pT b_q (o_q + m * 36 + 2)), (.int .i64 x.t), (.bool false), by kernel_rfl, h111, h112, h113, K114⟩, ?_⟩
              exact lt_meas (x := s.all.length + 1 - (m + 1 + 1)) (y := s.all.length + 1 - (m + 1)) (by kernel_rfl) (by kernel_rfl) (by omega)
            · skip
              refine sy_sq (part_lthere 2024) (part_lthere 2025) ?_
              refine sy_sq (part_lthere 4048) (part_lthere 4049) ?_
              refine sy_reg ?_
              refine rg_plain 20 (opsAt (part_lthere 4048)) [0, 1, 2, 3] (by kernel_rfl) (by kernel_rfl) ?_
              refine ps_k (o_lthere 4048 0) (iN (m + 1)) ?_
              refine ps_k (o_lthere 4048 1) (vx) ?_
              refine ps_p (o_lthere 4048 2) (iN s.all.length) (exec_len_sl (.tmp 112) 59 28 (by kernel_rfl) Try.underlying59 (by kernel_rfl) (Row.sl h107 rfl (fun y hy => Att.cl_len (ola y hy)))) ?_
              refine ps_p (o_lthere 4048 3) (.bool false) (dcf ((((m + 1 : Nat) : Int)) < (((s.all.length : Nat) : Int))) (by omega)) ?_
              refine ps_end ?_
              refine then_n ?_
              refine sy_n (.tmp 114) (part_lthere 8098) (part_lthere 8099) ?_
              refine sy_exit 4 (by kernel_rfl) ?_
              refine then_e ?_
              refine then_e ?_
              refine blk_e ?_
              refine then_n ?_
              refine sy_sq (part_lthere 254) (part_lthere 255) ?_
              refine sy_sq (part_lthere 508) (part_lthere 509) ?_
              refine sy_reg ?_
              refine rg_plain 24 (opsAt (part_lthere 508)) [0] (by kernel_rfl) (by kernel_rfl) ?_
              refine ps_k (o_lthere 508 0) (.int .i64 1) ?_
              refine ps_end ?_
              refine then_n ?_
              refine sy_bk 6 (part_lthere 1018) ?_
              refine sy_loop (part_lthere 2036) (fun a V => ∃ (n : Nat) (u8 u129 u130 u131 u132 u133 u134 u135 u136 u137 u138 u139 u140 u141 u142 u143 u144 u145 u146 : Value), (a = ⟨#[pT r 0, .agg #[va, vp], iN s.la, iN s.lb, undef, pT hb 0, undef, undef, u8, iN c, iN d, iN i, u12, u13, iN k, u15, u16, vx, vy, iN (m + 1), iN (n + 1), iN i, pT hb 0, va, iN wa.length, .bool false, u26, u27, u28, u29, u30, u31, u32, u33, u34, u35, u36, u37, u38, u39, u40, u41, u42, u43, u44, u45, u46, u47, u48, u49, u50, u51, u52, u53, u54, u55, u56, u57, u58, u59, u60, u61, u62, u63, iN k, pT hb 1, vp, iN wp.length, .bool false, u69, u70, u71, u72, u73, u74, u75, u76, u77, u78, u79, u80, u81, u82, u83, u84, u85, u86, u87, u88, u89, u90, u91, u92, u93, u94, u95, u96, u97, u98, u99, u100, u101, u102, u103, u104, u105, u106, pT r 0, vx, pT r 0, vy, iN (m + 1), vx, iN s.all.length, .bool false, u115, u116, u117, u118, u119, u120, u121, u122, u123, u124, u125, u126, u127, u128, u129, u130, u131, u132, u133, u134, u135, u136, u137, u138, u139, u140, u141, u142, u143, u144, u145, u146, undef, undef, undef, undef, undef, undef, undef, undef, undef, undef, undef, undef, undef, undef, undef, undef, undef, undef, undef, undef, undef, undef], []⟩) ∧ (V.heap[hb]? = some (.cells (#[va, vp]) 66 (0, 0))) ∧ (Row V 28 36 vx s.all.length (s.all.flatMap Att.cl)) ∧ (Row V 35 35 vy s.allB.length (s.allB.flatMap Pro.cl)) ∧ (Keeps Nob w V)) (fun a _ => s.allB.length + 1 - (intOf (a.tmps.getD 20 undef)).toNat) (by kernel_rfl) ?_ ?_
              · exact ⟨0, u8, undef, undef, undef, undef, undef, undef, undef, undef, undef, undef, undef, undef, undef, undef, undef, undef, undef, undef, by kernel_rfl, h106, h107, h108, K109⟩
              · rintro a V116 ⟨n, u8, u129, u130, u131, u132, u133, u134, u135, u136, u137, u138, u139, u140, u141, u142, u143, u144, u145, u146, rfl, h117, h118, h119, K120⟩
                by_cases lt_n : n + 1 < s.allB.length
                · obtain ⟨x, hx⟩ : ∃ x, s.allB[n]? = some x := ⟨_, List.getElem?_eq_getElem (by omega)⟩
                  obtain ⟨y, hy⟩ : ∃ y, s.allB[n + 1]? = some y := ⟨_, List.getElem?_eq_getElem lt_n⟩
                  have hlt_ : x.h < y.h := rise_get hrb_ (Nat.lt_succ_self n) hx hy
                  obtain ⟨b_p, o_p, c_p, hv_p, hb_p, _⟩ := (Row.sl h119 rfl (fun y hy => Pro.cl_len (olb y hy))).at_ (n + 1) _ hy
                  obtain ⟨b_q, o_q, c_q, hv_q, hb_q, _⟩ := (Row.sl h119 rfl (fun y hy => Pro.cl_len (olb y hy))).at_ n _ hx
                  refine sy_sq (part_lthere 4072) (part_lthere 4073) ?_
                  refine sy_sq (part_lthere 8144) (part_lthere 8145) ?_
                  refine sy_reg ?_
                  refine rg_plain 25 (opsAt (part_lthere 8144)) [0, 1, 2, 3] (by kernel_rfl) (by kernel_rfl) ?_
                  refine ps_k (o_lthere 8144 0) (iN (n + 1)) ?_
                  refine ps_k (o_lthere 8144 1) (vy) ?_
                  refine ps_p (o_lthere 8144 2) (iN s.allB.length) (exec_len_sl (.tmp 130) 61 35 (by kernel_rfl) Try.underlying61 (by kernel_rfl) (Row.sl h119 rfl (fun y hy => Pro.cl_len (olb y hy)))) ?_
                  refine ps_p (o_lthere 8144 3) (.bool true) (dct ((((n + 1 : Nat) : Int)) < (((s.allB.length : Nat) : Int))) (by omega)) ?_
                  refine ps_end ?_
                  refine then_n ?_
                  refine sy_ys (.tmp 132) (part_lthere 16290) (part_lthere 16291) ?_
                  refine sy_sk ?_
                  refine then_n ?_
                  refine sy_sq (part_lthere 8146) (part_lthere 8147) ?_
                  refine sy_bk 7 (part_lthere 16292) ?_
                  refine sy_sq (part_lthere 32584) (part_lthere 32585) ?_
                  refine sy_np ?_
                  refine sy_reg ?_
                  refine an_begin 27 12 (opsAt (part_lthere 32584)) (fun W => (Row W 35 35 vy s.allB.length (s.allB.flatMap Pro.cl))) #[false, false, false, false, false, false, false, false, false, false, false, false] (by kernel_rfl) (by kernel_rfl) (by kernel_rfl) (by kernel_rfl) ?_
                  obtain ⟨V121, eV121, kV121⟩ := drew_step V116
                  rw [eV121]
                  clear eV121
                  have h122 := kV121.bk h117
                  have h123 : Row V121 28 36 vx s.all.length (s.all.flatMap Att.cl) := (h118).keeps kV121 (fun _ _ x => x)
                  have h124 : Row V121 35 35 vy s.allB.length (s.allB.flatMap Pro.cl) := (h119).keeps kV121 (fun _ _ x => x)
                  have K125 := K120.nn kV121
                  have z126 := kV121.size
                  refine an_k 0 (o_lthere 32584 0) (vy) h124 ?_
                  refine an_k 1 (o_lthere 32584 1) (iN (n + 1)) h124 ?_
                  refine an_v 2 (o_lthere 32584 2) (.pointer (some ⟨b_p, o_p + (n + 1) * 35, none⟩)) (fun W hS => exec_indexAt_slice 61 (.tmp 135) (.tmp 136) (by kernel_rfl) b_p o_p s.allB.length c_p (Eq.trans (b := vy) (by kernel_rfl) hv_p) .i64 (n + 1) (by kernel_rfl) _ 35 Try.underlying61 (by kernel_rfl) (by omega)) h124 ?_
                  refine an_k 3 (o_lthere 32584 3) (.pointer (some ⟨b_p, o_p + (n + 1) * 35 + 1, none⟩)) h124 ?_
                  refine an_v 4 (o_lthere 32584 4) (.int .i64 y.h) (fun W hS => exec_ld 3 (.tmp 138) b_p (o_p + (n + 1) * 35 + 1) Try.underlying3 (Sl.cell (Row.sl hS rfl (fun y hy => Pro.cl_len (olb y hy))) hy hv_p Pro.cl_1)) h124 ?_
                  refine an_k 5 (o_lthere 32584 5) (vy) h124 ?_
                  refine an_k 6 (o_lthere 32584 6) (iN (n + 1)) h124 ?_
                  refine an_v 7 (o_lthere 32584 7) (iN n) (fun W hS => exec_cast (congrArg (Value.int .i64) (wrapI (((n + 1 : Nat) : Int) - 1) _ (by omega) (by omega) (by omega))) (by kernel_rfl)) h124 ?_
                  refine an_v 8 (o_lthere 32584 8) (pT b_q (o_q + n * 35)) (fun W hS => exec_indexAt_slice 61 (.tmp 140) (.tmp 142) (by kernel_rfl) b_q o_q s.allB.length c_q (Eq.trans (b := vy) (by kernel_rfl) hv_q) .i64 n (by kernel_rfl) _ 35 Try.underlying61 (by kernel_rfl) (by omega)) h124 ?_
                  refine an_k 9 (o_lthere 32584 9) (pT b_q (o_q + n * 35 + 1)) h124 ?_
                  refine an_v 10 (o_lthere 32584 10) (.int .i64 x.h) (fun W hS => exec_ld 3 (.tmp 144) b_q (o_q + n * 35 + 1) Try.underlying3 (Sl.cell (Row.sl hS rfl (fun y hy => Pro.cl_len (olb y hy))) hx hv_q Pro.cl_1)) h124 ?_
                  refine an_v 11 (o_lthere 32584 11) (.bool false) (fun W hS => dcf (((y.h) : Int) ≤ ((x.h) : Int)) (by omega)) h124 ?_
                  refine an_end (by kernel_rfl) ?_
                  refine then_n ?_
                  refine sy_n (.tmp 146) (part_lthere 65170) (part_lthere 65171) ?_
                  refine sy_sk ?_
                  refine blk_n ?_
                  refine then_n ?_
                  refine sy_reg ?_
                  refine rg_plain 26 (opsAt (part_lthere 8147)) [0, 1, 2] (by kernel_rfl) (by kernel_rfl) ?_
                  refine ps_k (o_lthere 8147 0) (iN (n + 1)) ?_
                  refine ps_p (o_lthere 8147 1) (iN ((n + 1) + 1)) (exec_cast (congrArg (Value.int .i64) (wrapN ((n + 1) + 1) (by omega))) (by kernel_rfl)) ?_
                  refine ps_k (o_lthere 8147 2) (iN ((n + 1) + 1)) ?_
                  refine ps_end ?_
                  refine then_n ?_
                  refine ⟨⟨n + 1, u8, (iN (n + 1)), vy, (iN s.allB.length), (.bool true), (iN (n + 1)), (iN ((n + 1) + 1)), vy, (iN (n + 1)), (.pointer (some ⟨b_p, o_p + (n + 1) * 35, none⟩)), (.pointer (some ⟨b_p, o_p + (n + 1) * 35 + 1, none⟩)), (.int .i64 y.h), vy, (iN (n + 1)), (iN n), (pT b_q (o_q + n * 35)), (pT b_q (o_q + n * 35 + 1)), (.int .i64 x.h), (.bool false), by kernel_rfl, h122, h123, h124, K125⟩, ?_⟩
                  exact lt_meas (x := s.allB.length + 1 - (n + 1 + 1)) (y := s.allB.length + 1 - (n + 1)) (by kernel_rfl) (by kernel_rfl) (by omega)
                · skip
                  refine sy_sq (part_lthere 4072) (part_lthere 4073) ?_
                  refine sy_sq (part_lthere 8144) (part_lthere 8145) ?_
                  refine sy_reg ?_
                  refine rg_plain 25 (opsAt (part_lthere 8144)) [0, 1, 2, 3] (by kernel_rfl) (by kernel_rfl) ?_
                  refine ps_k (o_lthere 8144 0) (iN (n + 1)) ?_
                  refine ps_k (o_lthere 8144 1) (vy) ?_
                  refine ps_p (o_lthere 8144 2) (iN s.allB.length) (exec_len_sl (.tmp 130) 61 35 (by kernel_rfl) Try.underlying61 (by kernel_rfl) (Row.sl h119 rfl (fun y hy => Pro.cl_len (olb y hy)))) ?_
                  refine ps_p (o_lthere 8144 3) (.bool false) (dcf ((((n + 1 : Nat) : Int)) < (((s.allB.length : Nat) : Int))) (by omega)) ?_
                  refine ps_end ?_
                  refine then_n ?_
                  refine sy_n (.tmp 132) (part_lthere 16290) (part_lthere 16291) ?_
                  refine sy_exit 6 (by kernel_rfl) ?_
                  refine then_e ?_
                  refine then_e ?_
                  refine blk_e ?_
                  refine then_n ?_
                  refine sy_sq (part_lthere 510) (part_lthere 511) ?_
                  refine sy_reg ?_
                  refine rg_plain 29 (opsAt (part_lthere 510)) [0, 1, 2, 3, 4, 5, 6, 7, 8, 9, 10, 11, 12, 13, 14, 15, 16, 17, 18, 19, 20, 21, 22] (by kernel_rfl) (by kernel_rfl) ?_
                  refine ps_k (o_lthere 510 0) (iN c) ?_
                  refine ps_k (o_lthere 510 1) (vx) ?_
                  refine ps_p (o_lthere 510 2) (iN s.all.length) (exec_len_sl (.tmp 148) 59 28 (by kernel_rfl) Try.underlying59 (by kernel_rfl) (Row.sl h118 rfl (fun y hy => Att.cl_len (ola y hy)))) ?_
                  refine ps_p (o_lthere 510 3) (.bool true) (eqt (((c : Nat) : Int)) (((s.all.length : Nat) : Int)) (by omega)) ?_
                  refine ps_k (o_lthere 510 4) (.bool true) ?_
                  refine ps_k (o_lthere 510 5) (iN d) ?_
                  refine ps_k (o_lthere 510 6) (vy) ?_
                  refine ps_p (o_lthere 510 7) (iN s.allB.length) (exec_len_sl (.tmp 153) 61 35 (by kernel_rfl) Try.underlying61 (by kernel_rfl) (Row.sl h119 rfl (fun y hy => Pro.cl_len (olb y hy)))) ?_
                  refine ps_p (o_lthere 510 8) (.bool true) (eqt (((d : Nat) : Int)) (((s.allB.length : Nat) : Int)) (by omega)) ?_
                  refine ps_k (o_lthere 510 9) (.bool true) ?_
                  refine ps_k (o_lthere 510 10) (.bool true) ?_
                  refine ps_k (o_lthere 510 11) (pT r 0) ?_
                  refine ps_c (o_lthere 510 12) 15 #[pT r 0] Try.func15 ((RSt.low (H.keepsN K120)).mono ?_)
                  rintro e w1 ⟨rfl, rfl⟩
                  refine ⟨_, rfl, ?_⟩
                  refine ps_k (o_lthere 510 13) (iN s.la) ?_
                  refine ps_p (o_lthere 510 14) (.bool true) (eqt (((s.la : Nat) : Int)) (((s.la : Nat) : Int)) (by omega)) ?_
                  refine ps_k (o_lthere 510 15) (.bool true) ?_
                  refine ps_k (o_lthere 510 16) (.bool true) ?_
                  refine ps_k (o_lthere 510 17) (pT r 0) ?_
                  refine ps_c (o_lthere 510 18) 16 #[pT r 0] Try.func16 ((RSt.floor (H.keepsN K120)).mono ?_)
                  rintro e w1 ⟨rfl, rfl⟩
                  refine ⟨_, rfl, ?_⟩
                  refine ps_k (o_lthere 510 19) (iN s.lb) ?_
                  refine ps_p (o_lthere 510 20) (.bool true) (eqt (((s.lb : Nat) : Int)) (((s.lb : Nat) : Int)) (by omega)) ?_
                  refine ps_k (o_lthere 510 21) (.bool true) ?_
                  refine ps_k (o_lthere 510 22) (.bool true) ?_
                  refine ps_end ?_
                  refine sy_a ⟨#[pT r 0, .agg #[va, vp], iN s.la, iN s.lb, undef, pT hb 0, undef, undef, .bool true, iN c, iN d, iN i, u12, u13, iN k, u15, u16, vx, vy, iN (m + 1), iN (n + 1), iN i, pT hb 0, va, iN wa.length, .bool false, u26, u27, u28, u29, u30, u31, u32, u33, u34, u35, u36, u37, u38, u39, u40, u41, u42, u43, u44, u45, u46, u47, u48, u49, u50, u51, u52, u53, u54, u55, u56, u57, u58, u59, u60, u61, u62, u63, iN k, pT hb 1, vp, iN wp.length, .bool false, u69, u70, u71, u72, u73, u74, u75, u76, u77, u78, u79, u80, u81, u82, u83, u84, u85, u86, u87, u88, u89, u90, u91, u92, u93, u94, u95, u96, u97, u98, u99, u100, u101, u102, u103, u104, u105, u106, pT r 0, vx, pT r 0, vy, iN (m + 1), vx, iN s.all.length, .bool false, u115, u116, u117, u118, u119, u120, u121, u122, u123, u124, u125, u126, u127, u128, iN (n + 1), vy, iN s.allB.length, .bool false, u133, u134, u135, u136, u137, u138, u139, u140, u141, u142, u143, u144, u145, u146, iN c, vx, iN s.all.length, .bool true, .bool true, iN d, vy, iN s.allB.length, .bool true, .bool true, .bool true, pT r 0, iN s.la, iN s.la, .bool true, .bool true, .bool true, pT r 0, iN s.lb, iN s.lb, .bool true, .bool true], []⟩ ?_
                  refine then_n ?_
                  refine sy_ret (by kernel_rfl) ?_
                  refine sy_out (.bool true) rfl (by kernel_rfl) ?_
                  exact ⟨rfl, K120⟩
end Go.Proofs.Ytgipooedgbbliaa
