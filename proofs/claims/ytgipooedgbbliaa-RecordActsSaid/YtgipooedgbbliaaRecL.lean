/-
  Records: the document's record (printed by rec6.py). Conditions: none.
-/
import Derived.Test.YtgipooedgbbliaaRecK
namespace Go.Proofs.Ytgipooedgbbliaa
open Go Go.RowKit Go.Own Go.Shelf

noncomputable def part_qrPutBlock (n : Nat) : Code := partOf Try.f48 n
noncomputable abbrev o_qrPutBlock (n k : Nat) : Oper := (opsAt (part_qrPutBlock n)).getD k default
def qrPutBlockErr (d : DRec) (y : Pro) : Int := if y.err ≠ 0 then y.err else if y.v ≠ d.v then 2 else if y.h < d.f then 16 else if d.f + d.span ≤ y.h then 17 else if (findK (·.h) d.b y.h).isSome then 8 else 0
set_option maxRecDepth 100000 in
set_option maxHeartbeats 4000000 in
theorem qrPutBlock_bad (q base : Nat) (d : DRec) (y : Pro) (w : World) (H : RefAt w q base d) (ha : y.Ok) (hbd : i64b (d.f + d.span)) (hne : qrPutBlockErr d y ≠ 0) :
    Calls Try.prog 48 #[.pointer (some ⟨q, 0, none⟩), .agg (Pro.c y)] w (fun e w' => e = .returned (.int .i64 (qrPutBlockErr d y)) ∧ Keeps Nob w w') := by
  have H0 := H
  obtain ⟨⟨va, vb, hq, hra, hna, hrb, hnb⟩, hoa, hob⟩ := H
  have hsa : AttsAt w va d.a := Row.sl hra rfl (fun x hx => Att.cl_len (hoa x hx))
  have hsb : ProsAt w vb d.b := Row.sl hrb rfl (fun x hx => Pro.cl_len (hob x hx))
  have hal := hsa.len_le
  have hbl := hsb.len_le
  have ltq := lt_of_block hq
  obtain ⟨A_, c_, hA_, hc1, hc2, hc3⟩ := hsb.form
  subst hA_
  have hzo : Pro.Ok ((findK (·.h) d.b y.h).getD zPro) := getK_ok hob zPro_ok
  have K0 : Keeps Nob w w := Keeps.refl _ _
  refine sy_enter (part_qrPutBlock 1) ⟨#[pT q 0, .agg (Pro.c y), undef, undef, undef, undef, undef, undef, undef, undef, undef, undef, undef, undef, undef, undef, undef, undef, undef, undef, undef, undef, undef, undef, undef, undef, undef, undef, undef, undef, undef, undef, undef, undef, undef, undef, undef, undef, undef, undef, undef, undef, undef, undef, undef, undef, undef, undef, undef, undef, undef, undef, undef, undef, undef, undef, undef, undef, undef, undef, undef, undef, undef, undef, undef, undef, undef, undef, undef, undef, undef, undef, undef, undef, undef, undef, undef, undef, undef, undef, undef, undef, undef, undef, undef, undef, undef, undef, undef, undef, undef, undef, undef, undef, undef, undef, undef], []⟩ Try.func48 (by kernel_rfl) (by kernel_rfl) ?_
  refine sy_sq (part_qrPutBlock 2) (part_qrPutBlock 3) ?_
  refine sy_reg ?_
  refine rg_plain 0 (opsAt (part_qrPutBlock 2)) [0, 1] (by kernel_rfl) (by kernel_rfl) ?_
  obtain ⟨V1, eV1, p, ep, h2, kV1⟩ := alloc_step w ((Pro.c y)) 35
  have n3 : q < p := ep ▸ lt_of_block hq
  have n4 : w.heap.size ≤ p := ep ▸ K0.size
  refine ps_r (o_qrPutBlock 2 0) (pT p 0) (w' := V1) (by rw [← eV1, ← ep]; exact exec_box 35 (.tmp 1) (by kernel_rfl) (.agg (Pro.c y)) (by kernel_rfl)) ?_
  clear eV1
  have h5 := kV1.bk hq
  have K6 := K0.nn kV1
  have z7 := kV1.size
  refine ps_k (o_qrPutBlock 2 1) (.int .i64 0) ?_
  refine ps_end ?_
  refine then_n ?_
  refine sy_sq (part_qrPutBlock 6) (part_qrPutBlock 7) ?_
  refine sy_sq (part_qrPutBlock 12) (part_qrPutBlock 13) ?_
  refine sy_reg ?_
  refine rg_plain 1 (opsAt (part_qrPutBlock 12)) [0, 1, 2] (by kernel_rfl) (by kernel_rfl) ?_
  refine ps_p (o_qrPutBlock 12 0) (.agg (Pro.c y)) (exec_load_row 35 (.tmp 3) (by kernel_rfl) p (by kernel_rfl) _ _ (0, 0) _ (h2) Try.underlying35 rfl (by rw [Pro.c_size _ ha.r]; kernel_rfl)) ?_
  refine ps_c (o_qrPutBlock 12 1) 64 #[.agg (Pro.c y)] Try.func64 ((rvCheckBlock_ok y _ ha.r).mono ?_)
  rintro e V8 ⟨rfl, kV8⟩
  refine ⟨_, rfl, ?_⟩
  have h9 := kV8.bk h5
  have h10 := kV8.bk h2
  have K11 := K6.nn kV8
  have z12 := kV8.size
  refine ps_k (o_qrPutBlock 12 2) (.int .i64 y.err) ?_
  refine ps_end ?_
  refine then_n ?_
  refine sy_sq (part_qrPutBlock 26) (part_qrPutBlock 27) ?_
  by_cases g0_ : y.err ≠ 0
  · have g0 := g0_
    have hE : qrPutBlockErr d y = y.err := by unfold qrPutBlockErr; rw [if_pos g0]
    refine sy_reg ?_
    refine rg_plain 2 (opsAt (part_qrPutBlock 26)) [0, 1] (by kernel_rfl) (by kernel_rfl) ?_
    refine ps_k (o_qrPutBlock 26 0) (.int .i64 y.err) ?_
    refine ps_p (o_qrPutBlock 26 1) (.bool true) (nqt ((y.err) : Int) ((0) : Int) (by omega)) ?_
    refine ps_end ?_
    refine then_n ?_
    refine sy_ys (.tmp 13) (part_qrPutBlock 54) (part_qrPutBlock 55) ?_
    refine sy_sq (part_qrPutBlock 108) (part_qrPutBlock 109) ?_
    refine sy_reg ?_
    refine rg_plain 3 (opsAt (part_qrPutBlock 108)) [0, 1] (by kernel_rfl) (by kernel_rfl) ?_
    refine ps_k (o_qrPutBlock 108 0) (.int .i64 y.err) ?_
    refine ps_k (o_qrPutBlock 108 1) (.int .i64 y.err) ?_
    refine ps_end ?_
    refine then_n ?_
    refine sy_ret (by kernel_rfl) ?_
    refine then_r ?_
    refine sy_out (.int .i64 y.err) rfl (by kernel_rfl) ?_
    exact ⟨by rw [hE], K11⟩
  · have g0 : y.err = 0 := by omega
    refine sy_reg ?_
    refine rg_plain 2 (opsAt (part_qrPutBlock 26)) [0, 1] (by kernel_rfl) (by kernel_rfl) ?_
    refine ps_k (o_qrPutBlock 26 0) (.int .i64 y.err) ?_
    refine ps_p (o_qrPutBlock 26 1) (.bool false) (nqf ((y.err) : Int) ((0) : Int) (by omega)) ?_
    refine ps_end ?_
    refine then_n ?_
    refine sy_n (.tmp 13) (part_qrPutBlock 54) (part_qrPutBlock 55) ?_
    refine sy_sk ?_
    refine then_n ?_
    refine sy_sq (part_qrPutBlock 14) (part_qrPutBlock 15) ?_
    refine sy_reg ?_
    refine rg_plain 4 (opsAt (part_qrPutBlock 14)) [0, 1, 2, 3, 4, 5, 6, 7, 8, 9] (by kernel_rfl) (by kernel_rfl) ?_
    refine ps_k (o_qrPutBlock 14 0) (pT q 0) ?_
    refine ps_k (o_qrPutBlock 14 1) (pT p 1) ?_
    refine ps_p (o_qrPutBlock 14 2) (.int .i64 y.h) (exec_ld 3 (.tmp 17) p 1 Try.underlying3 (rc (h10) (Pro.c_1 _))) ?_
    refine ps_c (o_qrPutBlock 14 3) 51 #[pT q 0, .int .i64 y.h] Try.func51 ((qrBlock_ok q base d y.h _ (H0.keepsN K11)).mono ?_)
    rintro e V13 ⟨rfl, kV13⟩
    refine ⟨_, rfl, ?_⟩
    have h14 := kV13.bk h9
    have h15 := kV13.bk h10
    have K16 := K11.nn kV13
    have z17 := kV13.size
    refine ps_k (o_qrPutBlock 14 4) (.tuple #[.agg (Pro.c ((findK (·.h) d.b y.h).getD zPro)), .bool ((findK (·.h) d.b y.h).isSome)]) ?_
    refine ps_k (o_qrPutBlock 14 5) (.agg (Pro.c ((findK (·.h) d.b y.h).getD zPro))) ?_
    refine ps_k (o_qrPutBlock 14 6) (.bool ((findK (·.h) d.b y.h).isSome)) ?_
    obtain ⟨V18, eV18, z, ez, h19, kV18⟩ := alloc_step V13 (#[.int .i64 0, .int .i64 0, .int .u8 0, .int .u8 0, .int .u8 0, .int .u8 0, .int .u8 0, .int .u8 0, .int .u8 0, .int .u8 0, .int .u8 0, .int .u8 0, .int .u8 0, .int .u8 0, .int .u8 0, .int .u8 0, .int .u8 0, .int .u8 0, .int .u8 0, .int .u8 0, .int .u8 0, .int .u8 0, .int .u8 0, .int .u8 0, .int .u8 0, .int .u8 0, .int .u8 0, .int .u8 0, .int .u8 0, .int .u8 0, .int .u8 0, .int .u8 0, .int .u8 0, .int .u8 0, .int .u64 0]) 35
    have n20 : q < z := ez ▸ lt_of_block h14
    have n21 : p < z := ez ▸ lt_of_block h15
    have n22 : w.heap.size ≤ z := ez ▸ K16.size
    refine ps_r (o_qrPutBlock 14 7) (pT z 0) (w' := V18) (by rw [← eV18, ← ez]; exact exec_alloc0 35 (by kernel_rfl) (.agg (#[.int .i64 0, .int .i64 0, .int .u8 0, .int .u8 0, .int .u8 0, .int .u8 0, .int .u8 0, .int .u8 0, .int .u8 0, .int .u8 0, .int .u8 0, .int .u8 0, .int .u8 0, .int .u8 0, .int .u8 0, .int .u8 0, .int .u8 0, .int .u8 0, .int .u8 0, .int .u8 0, .int .u8 0, .int .u8 0, .int .u8 0, .int .u8 0, .int .u8 0, .int .u8 0, .int .u8 0, .int .u8 0, .int .u8 0, .int .u8 0, .int .u8 0, .int .u8 0, .int .u8 0, .int .u8 0, .int .u64 0])) (by kernel_rfl)) ?_
    clear eV18
    have h23 := kV18.bk h14
    have h24 := kV18.bk h15
    have K25 := K16.nn kV18
    have z26 := kV18.size
    obtain ⟨V27, eV27, kV27⟩ := rowset_step V18 z ((Pro.c ((findK (·.h) d.b y.h).getD zPro)))
    have h28 : V27.heap[z]? = some (.cells (Pro.c ((findK (·.h) d.b y.h).getD zPro)) 35 (0, 0)) := eV27 ▸ setRow_heap _ _ _ _ _ _ h19
    refine ps_s (o_qrPutBlock 14 8) (w' := V27) (by rw [← eV27]; exact exec_store_row 35 (.tmp 6) (.tmp 20) (by kernel_rfl) z ((Pro.c ((findK (·.h) d.b y.h).getD zPro))) (by kernel_rfl) (by kernel_rfl) 35 (#[.int .i64 0, .int .i64 0, .int .u8 0, .int .u8 0, .int .u8 0, .int .u8 0, .int .u8 0, .int .u8 0, .int .u8 0, .int .u8 0, .int .u8 0, .int .u8 0, .int .u8 0, .int .u8 0, .int .u8 0, .int .u8 0, .int .u8 0, .int .u8 0, .int .u8 0, .int .u8 0, .int .u8 0, .int .u8 0, .int .u8 0, .int .u8 0, .int .u8 0, .int .u8 0, .int .u8 0, .int .u8 0, .int .u8 0, .int .u8 0, .int .u8 0, .int .u8 0, .int .u8 0, .int .u8 0, .int .u64 0]) h19 (by rw [Pro.c_size _ hzo.r]; kernel_rfl) (by rw [Pro.c_size _ hzo.r]; rfl) (Pro.c_one _)) ?_
    clear eV27
    have h29 := kV27.bo h23 (by omega)
    have h30 := kV27.bo h24 (by omega)
    have K31 := K25.no kV27 (by omega)
    have z32 := kV27.size
    refine ps_k (o_qrPutBlock 14 9) (.bool ((findK (·.h) d.b y.h).isSome)) ?_
    refine ps_end ?_
    refine then_n ?_
    refine sy_sq (part_qrPutBlock 30) (part_qrPutBlock 31) ?_
    refine sy_bk 0 (part_qrPutBlock 60) ?_
    refine sy_sq (part_qrPutBlock 120) (part_qrPutBlock 121) ?_
    by_cases g1_ : y.v ≠ d.v
    · have g1 := g1_
      have hE : qrPutBlockErr d y = 2 := by unfold qrPutBlockErr; rw [if_neg (by omega), if_pos g1]
      refine sy_np ?_
      refine sy_reg ?_
      refine an_begin 5 8 (opsAt (part_qrPutBlock 120)) (fun W => (W.heap[p]? = some (.cells (Pro.c y) 35 (0, 0))) ∧ (W.heap[q]? = some (.cells (#[.int .i64 d.v, .int .i64 d.win, .int .i64 d.span, .int .i64 d.l, .int .i64 d.f, va, .slice A_ d.b.length c_]) 90 (0, 0)))) #[false, false, false, false, false, false, false, false] (by kernel_rfl) (by kernel_rfl) (by kernel_rfl) (by kernel_rfl) ?_
      obtain ⟨V33, eV33, kV33⟩ := drew_step V27
      rw [eV33]
      clear eV33
      have h34 := kV33.bk h29
      have h35 := kV33.bk h30
      have h36 := kV33.bk h28
      have K37 := K31.nn kV33
      have z38 := kV33.size
      refine an_k 0 (o_qrPutBlock 120 0) (pT p 0) ⟨h35, h34⟩ ?_
      refine an_v 1 (o_qrPutBlock 120 1) (.int .i64 y.v) (fun W hS => exec_ld 3 (.tmp 23) p 0 Try.underlying3 (rc (hS.1) (Pro.c_0 _))) ⟨h35, h34⟩ ?_
      refine an_k 2 (o_qrPutBlock 120 2) (pT q 0) ⟨h35, h34⟩ ?_
      refine an_k 3 (o_qrPutBlock 120 3) (pT q 0) ⟨h35, h34⟩ ?_
      refine an_k 4 (o_qrPutBlock 120 4) (pT q 0) ⟨h35, h34⟩ ?_
      refine an_v 5 (o_qrPutBlock 120 5) (.int .i64 d.v) (fun W hS => exec_ld 3 (.tmp 27) q 0 Try.underlying3 (rc (hS.2) (by kernel_rfl))) ⟨h35, h34⟩ ?_
      refine an_v 6 (o_qrPutBlock 120 6) (.bool true) (fun W hS => nqt ((y.v) : Int) ((d.v) : Int) (by omega)) ⟨h35, h34⟩ ?_
      refine an_o 7 ?_
      refine on_r (o_qrPutBlock 120 7) (.bool true) (w' := V33) (by kernel_rfl) ?_
      refine ⟨⟨h35, h34⟩, ?_⟩
      refine an_end (by kernel_rfl) ?_
      refine sy_a ⟨#[pT q 0, .agg (Pro.c y), undef, pT p 0, .int .i64 0, .int .i64 y.err, pT z 0, .bool ((findK (·.h) d.b y.h).isSome), undef, undef, .agg (Pro.c y), .int .i64 y.err, .int .i64 y.err, .bool false, undef, .tuple #[.agg (Pro.c ((findK (·.h) d.b y.h).getD zPro)), .bool ((findK (·.h) d.b y.h).isSome)], pT q 0, pT p 1, .int .i64 y.h, .tuple #[.agg (Pro.c ((findK (·.h) d.b y.h).getD zPro)), .bool ((findK (·.h) d.b y.h).isSome)], .agg (Pro.c ((findK (·.h) d.b y.h).getD zPro)), .bool ((findK (·.h) d.b y.h).isSome), .bool true, pT p 0, .int .i64 y.v, pT q 0, pT q 0, pT q 0, .int .i64 d.v, .bool true, undef, undef, undef, undef, undef, undef, undef, undef, undef, undef, undef, undef, undef, undef, undef, undef, undef, undef, undef, undef, undef, undef, undef, undef, undef, undef, undef, undef, undef, undef, undef, undef, undef, undef, undef, undef, undef, undef, undef, undef, undef, undef, undef, undef, undef, undef, undef, undef, undef, undef, undef, undef, undef, undef, undef, undef, undef, undef, undef, undef, undef, undef, undef, undef, undef, undef, undef], []⟩ ?_
      refine then_n ?_
      refine sy_ys (.tmp 22) (part_qrPutBlock 242) (part_qrPutBlock 243) ?_
      refine sy_sq (part_qrPutBlock 484) (part_qrPutBlock 485) ?_
      refine sy_reg ?_
      refine rg_plain 6 (opsAt (part_qrPutBlock 484)) [0] (by kernel_rfl) (by kernel_rfl) ?_
      refine ps_k (o_qrPutBlock 484 0) (.int .i64 2) ?_
      refine ps_end ?_
      refine then_n ?_
      refine sy_ret (by kernel_rfl) ?_
      refine blk_r ?_
      refine then_r ?_
      refine sy_out (.int .i64 2) rfl (by kernel_rfl) ?_
      exact ⟨by rw [hE], K37⟩
    · have g1 : y.v = d.v := by omega
      refine sy_np ?_
      refine sy_reg ?_
      refine an_begin 5 8 (opsAt (part_qrPutBlock 120)) (fun W => (W.heap[p]? = some (.cells (Pro.c y) 35 (0, 0))) ∧ (W.heap[q]? = some (.cells (#[.int .i64 d.v, .int .i64 d.win, .int .i64 d.span, .int .i64 d.l, .int .i64 d.f, va, .slice A_ d.b.length c_]) 90 (0, 0)))) #[false, false, false, false, false, false, false, false] (by kernel_rfl) (by kernel_rfl) (by kernel_rfl) (by kernel_rfl) ?_
      obtain ⟨V39, eV39, kV39⟩ := drew_step V27
      rw [eV39]
      clear eV39
      have h40 := kV39.bk h29
      have h41 := kV39.bk h30
      have h42 := kV39.bk h28
      have K43 := K31.nn kV39
      have z44 := kV39.size
      refine an_k 0 (o_qrPutBlock 120 0) (pT p 0) ⟨h41, h40⟩ ?_
      refine an_v 1 (o_qrPutBlock 120 1) (.int .i64 y.v) (fun W hS => exec_ld 3 (.tmp 23) p 0 Try.underlying3 (rc (hS.1) (Pro.c_0 _))) ⟨h41, h40⟩ ?_
      refine an_k 2 (o_qrPutBlock 120 2) (pT q 0) ⟨h41, h40⟩ ?_
      refine an_k 3 (o_qrPutBlock 120 3) (pT q 0) ⟨h41, h40⟩ ?_
      refine an_k 4 (o_qrPutBlock 120 4) (pT q 0) ⟨h41, h40⟩ ?_
      refine an_v 5 (o_qrPutBlock 120 5) (.int .i64 d.v) (fun W hS => exec_ld 3 (.tmp 27) q 0 Try.underlying3 (rc (hS.2) (by kernel_rfl))) ⟨h41, h40⟩ ?_
      refine an_v 6 (o_qrPutBlock 120 6) (.bool false) (fun W hS => nqf ((y.v) : Int) ((d.v) : Int) (by omega)) ⟨h41, h40⟩ ?_
      refine an_o 7 ?_
      refine on_r (o_qrPutBlock 120 7) (.bool false) (w' := V39) (by kernel_rfl) ?_
      refine ⟨⟨h41, h40⟩, ?_⟩
      refine an_end (by kernel_rfl) ?_
      refine sy_a ⟨#[pT q 0, .agg (Pro.c y), undef, pT p 0, .int .i64 0, .int .i64 y.err, pT z 0, .bool ((findK (·.h) d.b y.h).isSome), undef, undef, .agg (Pro.c y), .int .i64 y.err, .int .i64 y.err, .bool false, undef, .tuple #[.agg (Pro.c ((findK (·.h) d.b y.h).getD zPro)), .bool ((findK (·.h) d.b y.h).isSome)], pT q 0, pT p 1, .int .i64 y.h, .tuple #[.agg (Pro.c ((findK (·.h) d.b y.h).getD zPro)), .bool ((findK (·.h) d.b y.h).isSome)], .agg (Pro.c ((findK (·.h) d.b y.h).getD zPro)), .bool ((findK (·.h) d.b y.h).isSome), .bool false, pT p 0, .int .i64 y.v, pT q 0, pT q 0, pT q 0, .int .i64 d.v, .bool false, undef, undef, undef, undef, undef, undef, undef, undef, undef, undef, undef, undef, undef, undef, undef, undef, undef, undef, undef, undef, undef, undef, undef, undef, undef, undef, undef, undef, undef, undef, undef, undef, undef, undef, undef, undef, undef, undef, undef, undef, undef, undef, undef, undef, undef, undef, undef, undef, undef, undef, undef, undef, undef, undef, undef, undef, undef, undef, undef, undef, undef, undef, undef, undef, undef, undef, undef], []⟩ ?_
      refine then_n ?_
      refine sy_n (.tmp 22) (part_qrPutBlock 242) (part_qrPutBlock 243) ?_
      refine sy_sq (part_qrPutBlock 486) (part_qrPutBlock 487) ?_
      by_cases g2_ : y.h < d.f
      · have g2 := g2_
        have hE : qrPutBlockErr d y = 16 := by unfold qrPutBlockErr; rw [if_neg (by omega), if_neg (by omega), if_pos g2]
        refine sy_np ?_
        refine sy_reg ?_
        refine an_begin 7 8 (opsAt (part_qrPutBlock 486)) (fun W => (W.heap[p]? = some (.cells (Pro.c y) 35 (0, 0))) ∧ (W.heap[q]? = some (.cells (#[.int .i64 d.v, .int .i64 d.win, .int .i64 d.span, .int .i64 d.l, .int .i64 d.f, va, .slice A_ d.b.length c_]) 90 (0, 0)))) #[false, false, false, false, false, false, false, false] (by kernel_rfl) (by kernel_rfl) (by kernel_rfl) (by kernel_rfl) ?_
        obtain ⟨V45, eV45, kV45⟩ := drew_step V39
        rw [eV45]
        clear eV45
        have h46 := kV45.bk h40
        have h47 := kV45.bk h41
        have h48 := kV45.bk h42
        have K49 := K43.nn kV45
        have z50 := kV45.size
        refine an_k 0 (o_qrPutBlock 486 0) (pT p 1) ⟨h47, h46⟩ ?_
        refine an_v 1 (o_qrPutBlock 486 1) (.int .i64 y.h) (fun W hS => exec_ld 3 (.tmp 31) p 1 Try.underlying3 (rc (hS.1) (Pro.c_1 _))) ⟨h47, h46⟩ ?_
        refine an_k 2 (o_qrPutBlock 486 2) (pT q 0) ⟨h47, h46⟩ ?_
        refine an_k 3 (o_qrPutBlock 486 3) (pT q 0) ⟨h47, h46⟩ ?_
        refine an_k 4 (o_qrPutBlock 486 4) (pT q 4) ⟨h47, h46⟩ ?_
        refine an_v 5 (o_qrPutBlock 486 5) (.int .i64 d.f) (fun W hS => exec_ld 3 (.tmp 35) q 4 Try.underlying3 (rc (hS.2) (by kernel_rfl))) ⟨h47, h46⟩ ?_
        refine an_v 6 (o_qrPutBlock 486 6) (.bool true) (fun W hS => dct (((y.h) : Int) < ((d.f) : Int)) (by omega)) ⟨h47, h46⟩ ?_
        refine an_o 7 ?_
        refine on_r (o_qrPutBlock 486 7) (.bool true) (w' := V45) (by kernel_rfl) ?_
        refine ⟨⟨h47, h46⟩, ?_⟩
        refine an_end (by kernel_rfl) ?_
        refine then_n ?_
        refine sy_ys (.tmp 30) (part_qrPutBlock 974) (part_qrPutBlock 975) ?_
        refine sy_sq (part_qrPutBlock 1948) (part_qrPutBlock 1949) ?_
        refine sy_reg ?_
        refine rg_plain 8 (opsAt (part_qrPutBlock 1948)) [0] (by kernel_rfl) (by kernel_rfl) ?_
        refine ps_k (o_qrPutBlock 1948 0) (.int .i64 16) ?_
        refine ps_end ?_
        refine then_n ?_
        refine sy_ret (by kernel_rfl) ?_
        refine blk_r ?_
        refine then_r ?_
        refine sy_out (.int .i64 16) rfl (by kernel_rfl) ?_
        exact ⟨by rw [hE], K49⟩
      · have g2 : ¬ y.h < d.f := by omega
        refine sy_np ?_
        refine sy_reg ?_
        refine an_begin 7 8 (opsAt (part_qrPutBlock 486)) (fun W => (W.heap[p]? = some (.cells (Pro.c y) 35 (0, 0))) ∧ (W.heap[q]? = some (.cells (#[.int .i64 d.v, .int .i64 d.win, .int .i64 d.span, .int .i64 d.l, .int .i64 d.f, va, .slice A_ d.b.length c_]) 90 (0, 0)))) #[false, false, false, false, false, false, false, false] (by kernel_rfl) (by kernel_rfl) (by kernel_rfl) (by kernel_rfl) ?_
        obtain ⟨V51, eV51, kV51⟩ := drew_step V39
        rw [eV51]
        clear eV51
        have h52 := kV51.bk h40
        have h53 := kV51.bk h41
        have h54 := kV51.bk h42
        have K55 := K43.nn kV51
        have z56 := kV51.size
        refine an_k 0 (o_qrPutBlock 486 0) (pT p 1) ⟨h53, h52⟩ ?_
        refine an_v 1 (o_qrPutBlock 486 1) (.int .i64 y.h) (fun W hS => exec_ld 3 (.tmp 31) p 1 Try.underlying3 (rc (hS.1) (Pro.c_1 _))) ⟨h53, h52⟩ ?_
        refine an_k 2 (o_qrPutBlock 486 2) (pT q 0) ⟨h53, h52⟩ ?_
        refine an_k 3 (o_qrPutBlock 486 3) (pT q 0) ⟨h53, h52⟩ ?_
        refine an_k 4 (o_qrPutBlock 486 4) (pT q 4) ⟨h53, h52⟩ ?_
        refine an_v 5 (o_qrPutBlock 486 5) (.int .i64 d.f) (fun W hS => exec_ld 3 (.tmp 35) q 4 Try.underlying3 (rc (hS.2) (by kernel_rfl))) ⟨h53, h52⟩ ?_
        refine an_v 6 (o_qrPutBlock 486 6) (.bool false) (fun W hS => dcf (((y.h) : Int) < ((d.f) : Int)) (by omega)) ⟨h53, h52⟩ ?_
        refine an_o 7 ?_
        refine on_r (o_qrPutBlock 486 7) (.bool false) (w' := V51) (by kernel_rfl) ?_
        refine ⟨⟨h53, h52⟩, ?_⟩
        refine an_end (by kernel_rfl) ?_
        refine then_n ?_
        refine sy_n (.tmp 30) (part_qrPutBlock 974) (part_qrPutBlock 975) ?_
        refine sy_sq (part_qrPutBlock 1950) (part_qrPutBlock 1951) ?_
        by_cases g3_ : d.f + d.span ≤ y.h
        · have g3 := g3_
          have hE : qrPutBlockErr d y = 17 := by unfold qrPutBlockErr; rw [if_neg (by omega), if_neg (by omega), if_neg g2, if_pos g3]
          refine sy_np ?_
          refine sy_reg ?_
          refine an_begin 9 13 (opsAt (part_qrPutBlock 1950)) (fun W => (W.heap[p]? = some (.cells (Pro.c y) 35 (0, 0))) ∧ (W.heap[q]? = some (.cells (#[.int .i64 d.v, .int .i64 d.win, .int .i64 d.span, .int .i64 d.l, .int .i64 d.f, va, .slice A_ d.b.length c_]) 90 (0, 0)))) #[false, false, false, false, false, false, false, false, false, false, false, false, false] (by kernel_rfl) (by kernel_rfl) (by kernel_rfl) (by kernel_rfl) ?_
          obtain ⟨V57, eV57, kV57⟩ := drew_step V51
          rw [eV57]
          clear eV57
          have h58 := kV57.bk h52
          have h59 := kV57.bk h53
          have h60 := kV57.bk h54
          have K61 := K55.nn kV57
          have z62 := kV57.size
          refine an_k 0 (o_qrPutBlock 1950 0) (pT p 1) ⟨h59, h58⟩ ?_
          refine an_v 1 (o_qrPutBlock 1950 1) (.int .i64 y.h) (fun W hS => exec_ld 3 (.tmp 39) p 1 Try.underlying3 (rc (hS.1) (Pro.c_1 _))) ⟨h59, h58⟩ ?_
          refine an_k 2 (o_qrPutBlock 1950 2) (pT q 0) ⟨h59, h58⟩ ?_
          refine an_k 3 (o_qrPutBlock 1950 3) (pT q 0) ⟨h59, h58⟩ ?_
          refine an_k 4 (o_qrPutBlock 1950 4) (pT q 4) ⟨h59, h58⟩ ?_
          refine an_v 5 (o_qrPutBlock 1950 5) (.int .i64 d.f) (fun W hS => exec_ld 3 (.tmp 43) q 4 Try.underlying3 (rc (hS.2) (by kernel_rfl))) ⟨h59, h58⟩ ?_
          refine an_k 6 (o_qrPutBlock 1950 6) (pT q 0) ⟨h59, h58⟩ ?_
          refine an_k 7 (o_qrPutBlock 1950 7) (pT q 0) ⟨h59, h58⟩ ?_
          refine an_k 8 (o_qrPutBlock 1950 8) (pT q 2) ⟨h59, h58⟩ ?_
          refine an_v 9 (o_qrPutBlock 1950 9) (.int .i64 d.span) (fun W hS => exec_ld 3 (.tmp 47) q 2 Try.underlying3 (rc (hS.2) (by kernel_rfl))) ⟨h59, h58⟩ ?_
          refine an_v 10 (o_qrPutBlock 1950 10) (.int .i64 (d.f + d.span)) (fun W hS => exec_cast (congrArg (Value.int .i64) (wrapI (d.f + d.span) (d.f + d.span) rfl (by omega) (by omega))) (by kernel_rfl)) ⟨h59, h58⟩ ?_
          refine an_v 11 (o_qrPutBlock 1950 11) (.bool true) (fun W hS => dct (((y.h) : Int) ≥ ((d.f + d.span) : Int)) (by omega)) ⟨h59, h58⟩ ?_
          refine an_o 12 ?_
          refine on_r (o_qrPutBlock 1950 12) (.bool true) (w' := V57) (by kernel_rfl) ?_
          refine ⟨⟨h59, h58⟩, ?_⟩
          refine an_end (by kernel_rfl) ?_
          refine then_n ?_
          refine sy_ys (.tmp 38) (part_qrPutBlock 3902) (part_qrPutBlock 3903) ?_
          refine sy_sq (part_qrPutBlock 7804) (part_qrPutBlock 7805) ?_
          refine sy_reg ?_
          refine rg_plain 10 (opsAt (part_qrPutBlock 7804)) [0] (by kernel_rfl) (by kernel_rfl) ?_
          refine ps_k (o_qrPutBlock 7804 0) (.int .i64 17) ?_
          refine ps_end ?_
          refine then_n ?_
          refine sy_ret (by kernel_rfl) ?_
          refine blk_r ?_
          refine then_r ?_
          refine sy_out (.int .i64 17) rfl (by kernel_rfl) ?_
          exact ⟨by rw [hE], K61⟩
        · have g3 : ¬ d.f + d.span ≤ y.h := by omega
          refine sy_np ?_
          refine sy_reg ?_
          refine an_begin 9 13 (opsAt (part_qrPutBlock 1950)) (fun W => (W.heap[p]? = some (.cells (Pro.c y) 35 (0, 0))) ∧ (W.heap[q]? = some (.cells (#[.int .i64 d.v, .int .i64 d.win, .int .i64 d.span, .int .i64 d.l, .int .i64 d.f, va, .slice A_ d.b.length c_]) 90 (0, 0)))) #[false, false, false, false, false, false, false, false, false, false, false, false, false] (by kernel_rfl) (by kernel_rfl) (by kernel_rfl) (by kernel_rfl) ?_
          obtain ⟨V63, eV63, kV63⟩ := drew_step V51
          rw [eV63]
          clear eV63
          have h64 := kV63.bk h52
          have h65 := kV63.bk h53
          have h66 := kV63.bk h54
          have K67 := K55.nn kV63
          have z68 := kV63.size
          refine an_k 0 (o_qrPutBlock 1950 0) (pT p 1) ⟨h65, h64⟩ ?_
          refine an_v 1 (o_qrPutBlock 1950 1) (.int .i64 y.h) (fun W hS => exec_ld 3 (.tmp 39) p 1 Try.underlying3 (rc (hS.1) (Pro.c_1 _))) ⟨h65, h64⟩ ?_
          refine an_k 2 (o_qrPutBlock 1950 2) (pT q 0) ⟨h65, h64⟩ ?_
          refine an_k 3 (o_qrPutBlock 1950 3) (pT q 0) ⟨h65, h64⟩ ?_
          refine an_k 4 (o_qrPutBlock 1950 4) (pT q 4) ⟨h65, h64⟩ ?_
          refine an_v 5 (o_qrPutBlock 1950 5) (.int .i64 d.f) (fun W hS => exec_ld 3 (.tmp 43) q 4 Try.underlying3 (rc (hS.2) (by kernel_rfl))) ⟨h65, h64⟩ ?_
          refine an_k 6 (o_qrPutBlock 1950 6) (pT q 0) ⟨h65, h64⟩ ?_
          refine an_k 7 (o_qrPutBlock 1950 7) (pT q 0) ⟨h65, h64⟩ ?_
          refine an_k 8 (o_qrPutBlock 1950 8) (pT q 2) ⟨h65, h64⟩ ?_
          refine an_v 9 (o_qrPutBlock 1950 9) (.int .i64 d.span) (fun W hS => exec_ld 3 (.tmp 47) q 2 Try.underlying3 (rc (hS.2) (by kernel_rfl))) ⟨h65, h64⟩ ?_
          refine an_v 10 (o_qrPutBlock 1950 10) (.int .i64 (d.f + d.span)) (fun W hS => exec_cast (congrArg (Value.int .i64) (wrapI (d.f + d.span) (d.f + d.span) rfl (by omega) (by omega))) (by kernel_rfl)) ⟨h65, h64⟩ ?_
          refine an_v 11 (o_qrPutBlock 1950 11) (.bool false) (fun W hS => dcf (((y.h) : Int) ≥ ((d.f + d.span) : Int)) (by omega)) ⟨h65, h64⟩ ?_
          refine an_o 12 ?_
          refine on_r (o_qrPutBlock 1950 12) (.bool false) (w' := V63) (by kernel_rfl) ?_
          refine ⟨⟨h65, h64⟩, ?_⟩
          refine an_end (by kernel_rfl) ?_
          refine then_n ?_
          refine sy_n (.tmp 38) (part_qrPutBlock 3902) (part_qrPutBlock 3903) ?_
          refine sy_sq (part_qrPutBlock 7806) (part_qrPutBlock 7807) ?_
          rcases Bool.eq_false_or_eq_true (findK (·.h) d.b y.h).isSome with hIS | hIS
          · have hE : qrPutBlockErr d y = 8 := by unfold qrPutBlockErr; rw [if_neg (by omega), if_neg (by omega), if_neg g2, if_neg g3, if_pos hIS]
            refine sy_reg ?_
            refine rg_plain 11 (opsAt (part_qrPutBlock 7806)) [0, 1] (by kernel_rfl) (by kernel_rfl) ?_
            refine ps_p (o_qrPutBlock 7806 0) (.bool true) (exec_cast (congrArg Value.bool hIS) (by kernel_rfl)) ?_
            refine ps_k (o_qrPutBlock 7806 1) (.bool true) ?_
            refine ps_end ?_
            refine then_n ?_
            refine sy_ys (.tmp 51) (part_qrPutBlock 15614) (part_qrPutBlock 15615) ?_
            refine sy_sq (part_qrPutBlock 31228) (part_qrPutBlock 31229) ?_
            refine sy_reg ?_
            refine rg_plain 12 (opsAt (part_qrPutBlock 31228)) [0] (by kernel_rfl) (by kernel_rfl) ?_
            refine ps_k (o_qrPutBlock 31228 0) (.int .i64 8) ?_
            refine ps_end ?_
            refine sy_a ⟨#[pT q 0, .agg (Pro.c y), undef, pT p 0, .int .i64 8, .int .i64 y.err, pT z 0, .bool ((findK (·.h) d.b y.h).isSome), undef, undef, .agg (Pro.c y), .int .i64 y.err, .int .i64 y.err, .bool false, undef, .tuple #[.agg (Pro.c ((findK (·.h) d.b y.h).getD zPro)), .bool ((findK (·.h) d.b y.h).isSome)], pT q 0, pT p 1, .int .i64 y.h, .tuple #[.agg (Pro.c ((findK (·.h) d.b y.h).getD zPro)), .bool ((findK (·.h) d.b y.h).isSome)], .agg (Pro.c ((findK (·.h) d.b y.h).getD zPro)), .bool ((findK (·.h) d.b y.h).isSome), .bool false, pT p 0, .int .i64 y.v, pT q 0, pT q 0, pT q 0, .int .i64 d.v, .bool false, .bool false, pT p 1, .int .i64 y.h, pT q 0, pT q 0, pT q 4, .int .i64 d.f, .bool false, .bool false, pT p 1, .int .i64 y.h, pT q 0, pT q 0, pT q 4, .int .i64 d.f, pT q 0, pT q 0, pT q 2, .int .i64 d.span, .int .i64 (d.f + d.span), .bool false, .bool true, .bool true, undef, undef, undef, undef, undef, undef, undef, undef, undef, undef, undef, undef, undef, undef, undef, undef, undef, undef, undef, undef, undef, undef, undef, undef, undef, undef, undef, undef, undef, undef, undef, undef, undef, undef, undef, undef, undef, undef, undef, undef, undef, undef, undef, undef], []⟩ ?_
            refine then_n ?_
            refine sy_ret (by kernel_rfl) ?_
            refine blk_r ?_
            refine then_r ?_
            refine sy_out (.int .i64 8) rfl (by kernel_rfl) ?_
            exact ⟨by rw [hE], K67⟩
          · exact absurd (by unfold qrPutBlockErr; rw [if_neg (by omega), if_neg (by omega), if_neg g2, if_neg g3, hIS]; rfl) hne
set_option maxRecDepth 100000 in
set_option maxHeartbeats 4000000 in
theorem qrPutBlock_fine (q base : Nat) (d : DRec) (y : Pro) (w : World) (H : RefAt w q base d) (ha : y.Ok) (hbd : i64b (d.f + d.span)) (g0 : y.err = 0) (g1 : y.v = d.v) (g2 : ¬ y.h < d.f) (g3 : ¬ d.f + d.span ≤ y.h) (hIS : (findK (·.h) d.b y.h).isSome = false) (hbase : base ≤ w.heap.size) (hmax : d.b.length ≤ 300000) :
    Calls Try.prog 48 #[.pointer (some ⟨q, 0, none⟩), .agg (Pro.c y)] w (fun e w' => e = .returned (.int .i64 0) ∧ RefAt w' q base { d with b := (insK (·.h) d.b y) } ∧ Keeps (One q) w w') := by
  have H0 := H
  obtain ⟨⟨va, vb, hq, hra, hna, hrb, hnb⟩, hoa, hob⟩ := H
  have hsa : AttsAt w va d.a := Row.sl hra rfl (fun x hx => Att.cl_len (hoa x hx))
  have hsb : ProsAt w vb d.b := Row.sl hrb rfl (fun x hx => Pro.cl_len (hob x hx))
  have hal := hsa.len_le
  have hbl := hsb.len_le
  have ltq := lt_of_block hq
  obtain ⟨A_, c_, hA_, hc1, hc2, hc3⟩ := hsb.form
  subst hA_
  have hzo : Pro.Ok ((findK (·.h) d.b y.h).getD zPro) := getK_ok hob zPro_ok
  obtain ⟨i0, hi0, hz0, hz1, hz2⟩ := info_parts pro_info0
  have K0 : Keeps ((One q)) w w := Keeps.refl _ _
  refine sy_enter (part_qrPutBlock 1) ⟨#[pT q 0, .agg (Pro.c y), undef, undef, undef, undef, undef, undef, undef, undef, undef, undef, undef, undef, undef, undef, undef, undef, undef, undef, undef, undef, undef, undef, undef, undef, undef, undef, undef, undef, undef, undef, undef, undef, undef, undef, undef, undef, undef, undef, undef, undef, undef, undef, undef, undef, undef, undef, undef, undef, undef, undef, undef, undef, undef, undef, undef, undef, undef, undef, undef, undef, undef, undef, undef, undef, undef, undef, undef, undef, undef, undef, undef, undef, undef, undef, undef, undef, undef, undef, undef, undef, undef, undef, undef, undef, undef, undef, undef, undef, undef, undef, undef, undef, undef, undef, undef], []⟩ Try.func48 (by kernel_rfl) (by kernel_rfl) ?_
  refine sy_sq (part_qrPutBlock 2) (part_qrPutBlock 3) ?_
  refine sy_reg ?_
  refine rg_plain 0 (opsAt (part_qrPutBlock 2)) [0, 1] (by kernel_rfl) (by kernel_rfl) ?_
  obtain ⟨V69, eV69, p, ep, h70, kV69⟩ := alloc_step w ((Pro.c y)) 35
  have n71 : q < p := ep ▸ lt_of_block hq
  have n72 : w.heap.size ≤ p := ep ▸ K0.size
  refine ps_r (o_qrPutBlock 2 0) (pT p 0) (w' := V69) (by rw [← eV69, ← ep]; exact exec_box 35 (.tmp 1) (by kernel_rfl) (.agg (Pro.c y)) (by kernel_rfl)) ?_
  clear eV69
  have h73 := kV69.bk hq
  have h74 : RefAt V69 q base d := H0.keepsN kV69
  have K75 := K0.nn kV69
  have z76 := kV69.size
  refine ps_k (o_qrPutBlock 2 1) (.int .i64 0) ?_
  refine ps_end ?_
  refine then_n ?_
  refine sy_sq (part_qrPutBlock 6) (part_qrPutBlock 7) ?_
  refine sy_sq (part_qrPutBlock 12) (part_qrPutBlock 13) ?_
  refine sy_reg ?_
  refine rg_plain 1 (opsAt (part_qrPutBlock 12)) [0, 1, 2] (by kernel_rfl) (by kernel_rfl) ?_
  refine ps_p (o_qrPutBlock 12 0) (.agg (Pro.c y)) (exec_load_row 35 (.tmp 3) (by kernel_rfl) p (by kernel_rfl) _ _ (0, 0) _ (h70) Try.underlying35 rfl (by rw [Pro.c_size _ ha.r]; kernel_rfl)) ?_
  refine ps_c (o_qrPutBlock 12 1) 64 #[.agg (Pro.c y)] Try.func64 ((rvCheckBlock_ok y _ ha.r).mono ?_)
  rintro e V77 ⟨rfl, kV77⟩
  refine ⟨_, rfl, ?_⟩
  have h78 := kV77.bk h73
  have h79 : RefAt V77 q base d := h74.keepsN kV77
  have h80 := kV77.bk h70
  have K81 := K75.nn kV77
  have z82 := kV77.size
  refine ps_k (o_qrPutBlock 12 2) (.int .i64 y.err) ?_
  refine ps_end ?_
  refine then_n ?_
  refine sy_sq (part_qrPutBlock 26) (part_qrPutBlock 27) ?_
  refine sy_reg ?_
  refine rg_plain 2 (opsAt (part_qrPutBlock 26)) [0, 1] (by kernel_rfl) (by kernel_rfl) ?_
  refine ps_k (o_qrPutBlock 26 0) (.int .i64 y.err) ?_
  refine ps_p (o_qrPutBlock 26 1) (.bool false) (nqf ((y.err) : Int) ((0) : Int) (by omega)) ?_
  refine ps_end ?_
  refine then_n ?_
  refine sy_n (.tmp 13) (part_qrPutBlock 54) (part_qrPutBlock 55) ?_
  refine sy_sk ?_
  refine then_n ?_
  refine sy_sq (part_qrPutBlock 14) (part_qrPutBlock 15) ?_
  refine sy_reg ?_
  refine rg_plain 4 (opsAt (part_qrPutBlock 14)) [0, 1, 2, 3, 4, 5, 6, 7, 8, 9] (by kernel_rfl) (by kernel_rfl) ?_
  refine ps_k (o_qrPutBlock 14 0) (pT q 0) ?_
  refine ps_k (o_qrPutBlock 14 1) (pT p 1) ?_
  refine ps_p (o_qrPutBlock 14 2) (.int .i64 y.h) (exec_ld 3 (.tmp 17) p 1 Try.underlying3 (rc (h80) (Pro.c_1 _))) ?_
  refine ps_c (o_qrPutBlock 14 3) 51 #[pT q 0, .int .i64 y.h] Try.func51 (((hIS ▸ qrBlock_ok q base d y.h _ h79)).mono ?_)
  rintro e V83 ⟨rfl, kV83⟩
  refine ⟨_, rfl, ?_⟩
  have h84 := kV83.bk h78
  have h85 := kV83.bk h80
  have K86 := K81.nn kV83
  have z87 := kV83.size
  refine ps_k (o_qrPutBlock 14 4) (.tuple #[.agg (Pro.c ((findK (·.h) d.b y.h).getD zPro)), .bool false]) ?_
  refine ps_k (o_qrPutBlock 14 5) (.agg (Pro.c ((findK (·.h) d.b y.h).getD zPro))) ?_
  refine ps_k (o_qrPutBlock 14 6) (.bool false) ?_
  obtain ⟨V88, eV88, z, ez, h89, kV88⟩ := alloc_step V83 (#[.int .i64 0, .int .i64 0, .int .u8 0, .int .u8 0, .int .u8 0, .int .u8 0, .int .u8 0, .int .u8 0, .int .u8 0, .int .u8 0, .int .u8 0, .int .u8 0, .int .u8 0, .int .u8 0, .int .u8 0, .int .u8 0, .int .u8 0, .int .u8 0, .int .u8 0, .int .u8 0, .int .u8 0, .int .u8 0, .int .u8 0, .int .u8 0, .int .u8 0, .int .u8 0, .int .u8 0, .int .u8 0, .int .u8 0, .int .u8 0, .int .u8 0, .int .u8 0, .int .u8 0, .int .u8 0, .int .u64 0]) 35
  have n90 : q < z := ez ▸ lt_of_block h84
  have n91 : p < z := ez ▸ lt_of_block h85
  have n92 : w.heap.size ≤ z := ez ▸ K86.size
  refine ps_r (o_qrPutBlock 14 7) (pT z 0) (w' := V88) (by rw [← eV88, ← ez]; exact exec_alloc0 35 (by kernel_rfl) (.agg (#[.int .i64 0, .int .i64 0, .int .u8 0, .int .u8 0, .int .u8 0, .int .u8 0, .int .u8 0, .int .u8 0, .int .u8 0, .int .u8 0, .int .u8 0, .int .u8 0, .int .u8 0, .int .u8 0, .int .u8 0, .int .u8 0, .int .u8 0, .int .u8 0, .int .u8 0, .int .u8 0, .int .u8 0, .int .u8 0, .int .u8 0, .int .u8 0, .int .u8 0, .int .u8 0, .int .u8 0, .int .u8 0, .int .u8 0, .int .u8 0, .int .u8 0, .int .u8 0, .int .u8 0, .int .u8 0, .int .u64 0])) (by kernel_rfl)) ?_
  clear eV88
  have h93 := kV88.bk h84
  have h94 := kV88.bk h85
  have K95 := K86.nn kV88
  have z96 := kV88.size
  obtain ⟨V97, eV97, kV97⟩ := rowset_step V88 z ((Pro.c ((findK (·.h) d.b y.h).getD zPro)))
  have h98 : V97.heap[z]? = some (.cells (Pro.c ((findK (·.h) d.b y.h).getD zPro)) 35 (0, 0)) := eV97 ▸ setRow_heap _ _ _ _ _ _ h89
  refine ps_s (o_qrPutBlock 14 8) (w' := V97) (by rw [← eV97]; exact exec_store_row 35 (.tmp 6) (.tmp 20) (by kernel_rfl) z ((Pro.c ((findK (·.h) d.b y.h).getD zPro))) (by kernel_rfl) (by kernel_rfl) 35 (#[.int .i64 0, .int .i64 0, .int .u8 0, .int .u8 0, .int .u8 0, .int .u8 0, .int .u8 0, .int .u8 0, .int .u8 0, .int .u8 0, .int .u8 0, .int .u8 0, .int .u8 0, .int .u8 0, .int .u8 0, .int .u8 0, .int .u8 0, .int .u8 0, .int .u8 0, .int .u8 0, .int .u8 0, .int .u8 0, .int .u8 0, .int .u8 0, .int .u8 0, .int .u8 0, .int .u8 0, .int .u8 0, .int .u8 0, .int .u8 0, .int .u8 0, .int .u8 0, .int .u8 0, .int .u8 0, .int .u64 0]) h89 (by rw [Pro.c_size _ hzo.r]; kernel_rfl) (by rw [Pro.c_size _ hzo.r]; rfl) (Pro.c_one _)) ?_
  clear eV97
  have h99 := kV97.bo h93 (by omega)
  have h100 := kV97.bo h94 (by omega)
  have K101 := K95.no kV97 (by omega)
  have z102 := kV97.size
  refine ps_k (o_qrPutBlock 14 9) (.bool false) ?_
  refine ps_end ?_
  refine then_n ?_
  refine sy_sq (part_qrPutBlock 30) (part_qrPutBlock 31) ?_
  refine sy_bk 0 (part_qrPutBlock 60) ?_
  refine sy_sq (part_qrPutBlock 120) (part_qrPutBlock 121) ?_
  refine sy_np ?_
  refine sy_reg ?_
  refine an_begin 5 8 (opsAt (part_qrPutBlock 120)) (fun W => (W.heap[p]? = some (.cells (Pro.c y) 35 (0, 0))) ∧ (W.heap[q]? = some (.cells (#[.int .i64 d.v, .int .i64 d.win, .int .i64 d.span, .int .i64 d.l, .int .i64 d.f, va, .slice A_ d.b.length c_]) 90 (0, 0)))) #[false, false, false, false, false, false, false, false] (by kernel_rfl) (by kernel_rfl) (by kernel_rfl) (by kernel_rfl) ?_
  obtain ⟨V103, eV103, kV103⟩ := drew_step V97
  rw [eV103]
  clear eV103
  have h104 := kV103.bk h99
  have h105 := kV103.bk h100
  have h106 := kV103.bk h98
  have K107 := K101.nn kV103
  have z108 := kV103.size
  refine an_k 0 (o_qrPutBlock 120 0) (pT p 0) ⟨h105, h104⟩ ?_
  refine an_v 1 (o_qrPutBlock 120 1) (.int .i64 y.v) (fun W hS => exec_ld 3 (.tmp 23) p 0 Try.underlying3 (rc (hS.1) (Pro.c_0 _))) ⟨h105, h104⟩ ?_
  refine an_k 2 (o_qrPutBlock 120 2) (pT q 0) ⟨h105, h104⟩ ?_
  refine an_k 3 (o_qrPutBlock 120 3) (pT q 0) ⟨h105, h104⟩ ?_
  refine an_k 4 (o_qrPutBlock 120 4) (pT q 0) ⟨h105, h104⟩ ?_
  refine an_v 5 (o_qrPutBlock 120 5) (.int .i64 d.v) (fun W hS => exec_ld 3 (.tmp 27) q 0 Try.underlying3 (rc (hS.2) (by kernel_rfl))) ⟨h105, h104⟩ ?_
  refine an_v 6 (o_qrPutBlock 120 6) (.bool false) (fun W hS => nqf ((y.v) : Int) ((d.v) : Int) (by omega)) ⟨h105, h104⟩ ?_
  refine an_o 7 ?_
  refine on_r (o_qrPutBlock 120 7) (.bool false) (w' := V103) (by kernel_rfl) ?_
  refine ⟨⟨h105, h104⟩, ?_⟩
  refine an_end (by kernel_rfl) ?_
  refine sy_a ⟨#[pT q 0, .agg (Pro.c y), undef, pT p 0, .int .i64 0, .int .i64 y.err, pT z 0, .bool false, undef, undef, .agg (Pro.c y), .int .i64 y.err, .int .i64 y.err, .bool false, undef, .tuple #[.agg (Pro.c ((findK (·.h) d.b y.h).getD zPro)), .bool false], pT q 0, pT p 1, .int .i64 y.h, .tuple #[.agg (Pro.c ((findK (·.h) d.b y.h).getD zPro)), .bool false], .agg (Pro.c ((findK (·.h) d.b y.h).getD zPro)), .bool false, .bool false, pT p 0, .int .i64 y.v, pT q 0, pT q 0, pT q 0, .int .i64 d.v, .bool false, undef, undef, undef, undef, undef, undef, undef, undef, undef, undef, undef, undef, undef, undef, undef, undef, undef, undef, undef, undef, undef, undef, undef, undef, undef, undef, undef, undef, undef, undef, undef, undef, undef, undef, undef, undef, undef, undef, undef, undef, undef, undef, undef, undef, undef, undef, undef, undef, undef, undef, undef, undef, undef, undef, undef, undef, undef, undef, undef, undef, undef, undef, undef, undef, undef, undef, undef], []⟩ ?_
  refine then_n ?_
  refine sy_n (.tmp 22) (part_qrPutBlock 242) (part_qrPutBlock 243) ?_
  refine sy_sq (part_qrPutBlock 486) (part_qrPutBlock 487) ?_
  refine sy_np ?_
  refine sy_reg ?_
  refine an_begin 7 8 (opsAt (part_qrPutBlock 486)) (fun W => (W.heap[p]? = some (.cells (Pro.c y) 35 (0, 0))) ∧ (W.heap[q]? = some (.cells (#[.int .i64 d.v, .int .i64 d.win, .int .i64 d.span, .int .i64 d.l, .int .i64 d.f, va, .slice A_ d.b.length c_]) 90 (0, 0)))) #[false, false, false, false, false, false, false, false] (by kernel_rfl) (by kernel_rfl) (by kernel_rfl) (by kernel_rfl) ?_
  obtain ⟨V109, eV109, kV109⟩ := drew_step V103
  rw [eV109]
  clear eV109
  have h110 := kV109.bk h104
  have h111 := kV109.bk h105
  have h112 := kV109.bk h106
  have K113 := K107.nn kV109
  have z114 := kV109.size
  refine an_k 0 (o_qrPutBlock 486 0) (pT p 1) ⟨h111, h110⟩ ?_
  refine an_v 1 (o_qrPutBlock 486 1) (.int .i64 y.h) (fun W hS => exec_ld 3 (.tmp 31) p 1 Try.underlying3 (rc (hS.1) (Pro.c_1 _))) ⟨h111, h110⟩ ?_
  refine an_k 2 (o_qrPutBlock 486 2) (pT q 0) ⟨h111, h110⟩ ?_
  refine an_k 3 (o_qrPutBlock 486 3) (pT q 0) ⟨h111, h110⟩ ?_
  refine an_k 4 (o_qrPutBlock 486 4) (pT q 4) ⟨h111, h110⟩ ?_
  refine an_v 5 (o_qrPutBlock 486 5) (.int .i64 d.f) (fun W hS => exec_ld 3 (.tmp 35) q 4 Try.underlying3 (rc (hS.2) (by kernel_rfl))) ⟨h111, h110⟩ ?_
  refine an_v 6 (o_qrPutBlock 486 6) (.bool false) (fun W hS => dcf (((y.h) : Int) < ((d.f) : Int)) (by omega)) ⟨h111, h110⟩ ?_
  refine an_o 7 ?_
  refine on_r (o_qrPutBlock 486 7) (.bool false) (w' := V109) (by kernel_rfl) ?_
  refine ⟨⟨h111, h110⟩, ?_⟩
  refine an_end (by kernel_rfl) ?_
  refine then_n ?_
  refine sy_n (.tmp 30) (part_qrPutBlock 974) (part_qrPutBlock 975) ?_
  refine sy_sq (part_qrPutBlock 1950) (part_qrPutBlock 1951) ?_
  refine sy_np ?_
  refine sy_reg ?_
  refine an_begin 9 13 (opsAt (part_qrPutBlock 1950)) (fun W => (W.heap[p]? = some (.cells (Pro.c y) 35 (0, 0))) ∧ (W.heap[q]? = some (.cells (#[.int .i64 d.v, .int .i64 d.win, .int .i64 d.span, .int .i64 d.l, .int .i64 d.f, va, .slice A_ d.b.length c_]) 90 (0, 0)))) #[false, false, false, false, false, false, false, false, false, false, false, false, false] (by kernel_rfl) (by kernel_rfl) (by kernel_rfl) (by kernel_rfl) ?_
  obtain ⟨V115, eV115, kV115⟩ := drew_step V109
  rw [eV115]
  clear eV115
  have h116 := kV115.bk h110
  have h117 := kV115.bk h111
  have h118 := kV115.bk h112
  have K119 := K113.nn kV115
  have z120 := kV115.size
  refine an_k 0 (o_qrPutBlock 1950 0) (pT p 1) ⟨h117, h116⟩ ?_
  refine an_v 1 (o_qrPutBlock 1950 1) (.int .i64 y.h) (fun W hS => exec_ld 3 (.tmp 39) p 1 Try.underlying3 (rc (hS.1) (Pro.c_1 _))) ⟨h117, h116⟩ ?_
  refine an_k 2 (o_qrPutBlock 1950 2) (pT q 0) ⟨h117, h116⟩ ?_
  refine an_k 3 (o_qrPutBlock 1950 3) (pT q 0) ⟨h117, h116⟩ ?_
  refine an_k 4 (o_qrPutBlock 1950 4) (pT q 4) ⟨h117, h116⟩ ?_
  refine an_v 5 (o_qrPutBlock 1950 5) (.int .i64 d.f) (fun W hS => exec_ld 3 (.tmp 43) q 4 Try.underlying3 (rc (hS.2) (by kernel_rfl))) ⟨h117, h116⟩ ?_
  refine an_k 6 (o_qrPutBlock 1950 6) (pT q 0) ⟨h117, h116⟩ ?_
  refine an_k 7 (o_qrPutBlock 1950 7) (pT q 0) ⟨h117, h116⟩ ?_
  refine an_k 8 (o_qrPutBlock 1950 8) (pT q 2) ⟨h117, h116⟩ ?_
  refine an_v 9 (o_qrPutBlock 1950 9) (.int .i64 d.span) (fun W hS => exec_ld 3 (.tmp 47) q 2 Try.underlying3 (rc (hS.2) (by kernel_rfl))) ⟨h117, h116⟩ ?_
  refine an_v 10 (o_qrPutBlock 1950 10) (.int .i64 (d.f + d.span)) (fun W hS => exec_cast (congrArg (Value.int .i64) (wrapI (d.f + d.span) (d.f + d.span) rfl (by omega) (by omega))) (by kernel_rfl)) ⟨h117, h116⟩ ?_
  refine an_v 11 (o_qrPutBlock 1950 11) (.bool false) (fun W hS => dcf (((y.h) : Int) ≥ ((d.f + d.span) : Int)) (by omega)) ⟨h117, h116⟩ ?_
  refine an_o 12 ?_
  refine on_r (o_qrPutBlock 1950 12) (.bool false) (w' := V115) (by kernel_rfl) ?_
  refine ⟨⟨h117, h116⟩, ?_⟩
  refine an_end (by kernel_rfl) ?_
  refine then_n ?_
  refine sy_n (.tmp 38) (part_qrPutBlock 3902) (part_qrPutBlock 3903) ?_
  refine sy_sq (part_qrPutBlock 7806) (part_qrPutBlock 7807) ?_
  refine sy_reg ?_
  refine rg_plain 11 (opsAt (part_qrPutBlock 7806)) [0, 1] (by kernel_rfl) (by kernel_rfl) ?_
  refine ps_k (o_qrPutBlock 7806 0) (.bool false) ?_
  refine ps_k (o_qrPutBlock 7806 1) (.bool false) ?_
  refine ps_end ?_
  refine then_n ?_
  refine sy_n (.tmp 51) (part_qrPutBlock 15614) (part_qrPutBlock 15615) ?_
  refine sy_sk ?_
  refine blk_n ?_
  refine then_n ?_
  refine sy_sq (part_qrPutBlock 62) (part_qrPutBlock 63) ?_
  refine sy_reg ?_
  refine rg_plain 13 (opsAt (part_qrPutBlock 62)) [0] (by kernel_rfl) (by kernel_rfl) ?_
  refine ps_k (o_qrPutBlock 62 0) (.int .i64 0) ?_
  refine ps_end ?_
  refine sy_a ⟨#[pT q 0, .agg (Pro.c y), undef, pT p 0, .int .i64 0, .int .i64 y.err, pT z 0, .bool false, .int .i64 0, undef, .agg (Pro.c y), .int .i64 y.err, .int .i64 y.err, .bool false, undef, .tuple #[.agg (Pro.c ((findK (·.h) d.b y.h).getD zPro)), .bool false], pT q 0, pT p 1, .int .i64 y.h, .tuple #[.agg (Pro.c ((findK (·.h) d.b y.h).getD zPro)), .bool false], .agg (Pro.c ((findK (·.h) d.b y.h).getD zPro)), .bool false, .bool false, pT p 0, .int .i64 y.v, pT q 0, pT q 0, pT q 0, .int .i64 d.v, .bool false, .bool false, pT p 1, .int .i64 y.h, pT q 0, pT q 0, pT q 4, .int .i64 d.f, .bool false, .bool false, pT p 1, .int .i64 y.h, pT q 0, pT q 0, pT q 4, .int .i64 d.f, pT q 0, pT q 0, pT q 2, .int .i64 d.span, .int .i64 (d.f + d.span), .bool false, .bool false, .bool false, undef, undef, undef, undef, undef, undef, undef, undef, undef, undef, undef, undef, undef, undef, undef, undef, undef, undef, undef, undef, undef, undef, undef, undef, undef, undef, undef, undef, undef, undef, undef, undef, undef, undef, undef, undef, undef, undef, undef, undef, undef, undef, undef, undef], []⟩ ?_
  refine then_n ?_
  refine sy_sq (part_qrPutBlock 126) (part_qrPutBlock 127) ?_
  refine sy_bk 1 (part_qrPutBlock 252) ?_
  refine sy_loop (part_qrPutBlock 504) (fun a V => ∃ (k : Nat) (u53 u54 u55 u56 u57 u58 u59 u60 u61 u62 u63 u64 u65 u66 u67 u68 u69 u70 u71 u72 u73 u74 : Value), (a = ⟨#[pT q 0, .agg (Pro.c y), undef, pT p 0, .int .i64 0, .int .i64 y.err, pT z 0, .bool false, iN k, undef, .agg (Pro.c y), .int .i64 y.err, .int .i64 y.err, .bool false, undef, .tuple #[.agg (Pro.c ((findK (·.h) d.b y.h).getD zPro)), .bool false], pT q 0, pT p 1, .int .i64 y.h, .tuple #[.agg (Pro.c ((findK (·.h) d.b y.h).getD zPro)), .bool false], .agg (Pro.c ((findK (·.h) d.b y.h).getD zPro)), .bool false, .bool false, pT p 0, .int .i64 y.v, pT q 0, pT q 0, pT q 0, .int .i64 d.v, .bool false, .bool false, pT p 1, .int .i64 y.h, pT q 0, pT q 0, pT q 4, .int .i64 d.f, .bool false, .bool false, pT p 1, .int .i64 y.h, pT q 0, pT q 0, pT q 4, .int .i64 d.f, pT q 0, pT q 0, pT q 2, .int .i64 d.span, .int .i64 (d.f + d.span), .bool false, .bool false, .bool false, u53, u54, u55, u56, u57, u58, u59, u60, u61, u62, u63, u64, u65, u66, u67, u68, u69, u70, u71, u72, u73, u74, undef, undef, undef, undef, undef, undef, undef, undef, undef, undef, undef, undef, undef, undef, undef, undef, undef, undef, undef, undef, undef, undef], []⟩) ∧ (k ≤ d.b.length) ∧ (∀ (j : Nat) (b : Pro), j < k → d.b[j]? = some b → b.h < y.h) ∧ (V.heap[q]? = some (.cells (#[.int .i64 d.v, .int .i64 d.win, .int .i64 d.span, .int .i64 d.l, .int .i64 d.f, va, .slice A_ d.b.length c_]) 90 (0, 0))) ∧ (V.heap[p]? = some (.cells (Pro.c y) 35 (0, 0))) ∧ (Keeps ((One q)) w V)) (fun a _ => d.b.length - (intOf (a.tmps.getD 8 undef)).toNat) (by kernel_rfl) ?_ ?_
  · exact ⟨0, undef, undef, undef, undef, undef, undef, undef, undef, undef, undef, undef, undef, undef, undef, undef, undef, undef, undef, undef, undef, undef, undef, by kernel_rfl, Nat.zero_le _, (fun _ _ h => by omega), h116, h117, K119⟩
  · rintro a V121 ⟨k, u53, u54, u55, u56, u57, u58, u59, u60, u61, u62, u63, u64, u65, u66, u67, u68, u69, u70, u71, u72, u73, u74, rfl, hk, hlt_, h122, h123, K124⟩
    rcases ins_cases d.b (·.h) y.h k hk with ⟨x, hlt, hx, hxe⟩ | ⟨x, hlt, hx, hxe⟩ | hlt
    · obtain ⟨b_x, o_x, c_x, hv_x, hb_x, _⟩ := ((hsb.keeps K124 (fun j hj _ e => Row.ne hrb hq (by decide) ((show j = q from e) ▸ hj)))).at_ k _ hx
      refine sy_sq (part_qrPutBlock 1008) (part_qrPutBlock 1009) ?_
      refine sy_sq (part_qrPutBlock 2016) (part_qrPutBlock 2017) ?_
      refine sy_np ?_
      refine sy_reg ?_
      refine an_begin 14 20 (opsAt (part_qrPutBlock 2016)) (fun W => (W.heap[q]? = some (.cells (#[.int .i64 d.v, .int .i64 d.win, .int .i64 d.span, .int .i64 d.l, .int .i64 d.f, va, .slice A_ d.b.length c_]) 90 (0, 0))) ∧ (ProsAt W (.slice A_ d.b.length c_) d.b) ∧ (W.heap[p]? = some (.cells (Pro.c y) 35 (0, 0)))) #[false, false, false, false, false, false, false, false, false, false, false, false, false, false, false, false, false, false, false, false] (by kernel_rfl) (by kernel_rfl) (by kernel_rfl) (by kernel_rfl) ?_
      obtain ⟨V125, eV125, kV125⟩ := drew_step V121
      rw [eV125]
      clear eV125
      have h126 := kV125.bk h122
      have h127 := kV125.bk h123
      have K128 := K124.nn kV125
      have z129 := kV125.size
      refine an_k 0 (o_qrPutBlock 2016 0) (iN k) ⟨h126, (hsb.keeps K128 (fun j hj _ e => Row.ne hrb hq (by decide) ((show j = q from e) ▸ hj))), h127⟩ ?_
      refine an_k 1 (o_qrPutBlock 2016 1) (pT q 0) ⟨h126, (hsb.keeps K128 (fun j hj _ e => Row.ne hrb hq (by decide) ((show j = q from e) ▸ hj))), h127⟩ ?_
      refine an_k 2 (o_qrPutBlock 2016 2) (pT q 0) ⟨h126, (hsb.keeps K128 (fun j hj _ e => Row.ne hrb hq (by decide) ((show j = q from e) ▸ hj))), h127⟩ ?_
      refine an_k 3 (o_qrPutBlock 2016 3) (pT q 6) ⟨h126, (hsb.keeps K128 (fun j hj _ e => Row.ne hrb hq (by decide) ((show j = q from e) ▸ hj))), h127⟩ ?_
      refine an_v 4 (o_qrPutBlock 2016 4) (.slice A_ d.b.length c_) (fun W hS => exec_ld 61 (.tmp 56) q 6 Try.underlying61 (rc (hS.1) (by kernel_rfl))) ⟨h126, (hsb.keeps K128 (fun j hj _ e => Row.ne hrb hq (by decide) ((show j = q from e) ▸ hj))), h127⟩ ?_
      refine an_v 5 (o_qrPutBlock 2016 5) (iN d.b.length) (fun W hS => exec_len_sl (.tmp 57) 61 35 (by kernel_rfl) Try.underlying61 (by kernel_rfl) hS.2.1) ⟨h126, (hsb.keeps K128 (fun j hj _ e => Row.ne hrb hq (by decide) ((show j = q from e) ▸ hj))), h127⟩ ?_
      refine an_v 6 (o_qrPutBlock 2016 6) (.bool true) (fun W hS => dct ((((k : Nat) : Int)) < (((d.b.length : Nat) : Int))) (by omega)) ⟨h126, (hsb.keeps K128 (fun j hj _ e => Row.ne hrb hq (by decide) ((show j = q from e) ▸ hj))), h127⟩ ?_
      refine an_k 7 (o_qrPutBlock 2016 7) (.bool true) ⟨h126, (hsb.keeps K128 (fun j hj _ e => Row.ne hrb hq (by decide) ((show j = q from e) ▸ hj))), h127⟩ ?_
      refine an_k 8 (o_qrPutBlock 2016 8) (pT q 0) ⟨h126, (hsb.keeps K128 (fun j hj _ e => Row.ne hrb hq (by decide) ((show j = q from e) ▸ hj))), h127⟩ ?_
      refine an_k 9 (o_qrPutBlock 2016 9) (pT q 0) ⟨h126, (hsb.keeps K128 (fun j hj _ e => Row.ne hrb hq (by decide) ((show j = q from e) ▸ hj))), h127⟩ ?_
      refine an_k 10 (o_qrPutBlock 2016 10) (pT q 6) ⟨h126, (hsb.keeps K128 (fun j hj _ e => Row.ne hrb hq (by decide) ((show j = q from e) ▸ hj))), h127⟩ ?_
      refine an_v 11 (o_qrPutBlock 2016 11) (.slice A_ d.b.length c_) (fun W hS => exec_ld 61 (.tmp 63) q 6 Try.underlying61 (rc (hS.1) (by kernel_rfl))) ⟨h126, (hsb.keeps K128 (fun j hj _ e => Row.ne hrb hq (by decide) ((show j = q from e) ▸ hj))), h127⟩ ?_
      refine an_k 12 (o_qrPutBlock 2016 12) (iN k) ⟨h126, (hsb.keeps K128 (fun j hj _ e => Row.ne hrb hq (by decide) ((show j = q from e) ▸ hj))), h127⟩ ?_
      refine an_v 13 (o_qrPutBlock 2016 13) (pT b_x (o_x + k * 35)) (fun W hS => exec_indexAt_slice 61 (.tmp 64) (.tmp 65) (by kernel_rfl) b_x o_x d.b.length c_x (Eq.trans (b := (.slice A_ d.b.length c_)) (by kernel_rfl) hv_x) .i64 k (by kernel_rfl) _ 35 Try.underlying61 (by kernel_rfl) (by omega)) ⟨h126, (hsb.keeps K128 (fun j hj _ e => Row.ne hrb hq (by decide) ((show j = q from e) ▸ hj))), h127⟩ ?_
      refine an_k 14 (o_qrPutBlock 2016 14) (pT b_x (o_x + k * 35 + 1)) ⟨h126, (hsb.keeps K128 (fun j hj _ e => Row.ne hrb hq (by decide) ((show j = q from e) ▸ hj))), h127⟩ ?_
      refine an_v 15 (o_qrPutBlock 2016 15) (.int .i64 x.h) (fun W hS => exec_ld 3 (.tmp 67) b_x (o_x + k * 35 + 1) Try.underlying3 (Sl.cell hS.2.1 hx hv_x Pro.cl_1)) ⟨h126, (hsb.keeps K128 (fun j hj _ e => Row.ne hrb hq (by decide) ((show j = q from e) ▸ hj))), h127⟩ ?_
      refine an_k 16 (o_qrPutBlock 2016 16) (pT p 1) ⟨h126, (hsb.keeps K128 (fun j hj _ e => Row.ne hrb hq (by decide) ((show j = q from e) ▸ hj))), h127⟩ ?_
      refine an_v 17 (o_qrPutBlock 2016 17) (.int .i64 y.h) (fun W hS => exec_ld 3 (.tmp 69) p 1 Try.underlying3 (rc (hS.2.2) (Pro.c_1 _))) ⟨h126, (hsb.keeps K128 (fun j hj _ e => Row.ne hrb hq (by decide) ((show j = q from e) ▸ hj))), h127⟩ ?_
      refine an_v 18 (o_qrPutBlock 2016 18) (.bool true) (fun W hS => dct (((x.h) : Int) < ((y.h) : Int)) (by omega)) ⟨h126, (hsb.keeps K128 (fun j hj _ e => Row.ne hrb hq (by decide) ((show j = q from e) ▸ hj))), h127⟩ ?_
      refine an_k 19 (o_qrPutBlock 2016 19) (.bool true) ⟨h126, (hsb.keeps K128 (fun j hj _ e => Row.ne hrb hq (by decide) ((show j = q from e) ▸ hj))), h127⟩ ?_
      refine an_end (by kernel_rfl) ?_
      refine then_n ?_
      refine sy_ys (.tmp 72) (part_qrPutBlock 4034) (part_qrPutBlock 4035) ?_
      refine sy_sk ?_
      refine then_n ?_
      refine sy_bk 2 (part_qrPutBlock 2018) ?_
      refine sy_reg ?_
      refine rg_plain 15 (opsAt (part_qrPutBlock 2018)) [0, 1, 2] (by kernel_rfl) (by kernel_rfl) ?_
      refine ps_k (o_qrPutBlock 2018 0) (iN k) ?_
      refine ps_p (o_qrPutBlock 2018 1) (iN (k + 1)) (exec_cast (congrArg (Value.int .i64) (wrapN (k + 1) (by omega))) (by kernel_rfl)) ?_
      refine ps_k (o_qrPutBlock 2018 2) (iN (k + 1)) ?_
      refine ps_end ?_
      refine blk_n ?_
      refine then_n ?_
      refine ⟨⟨k + 1, (iN k), (pT q 0), (pT q 0), (pT q 6), (.slice A_ d.b.length c_), (iN d.b.length), (.bool true), (.bool true), (pT q 0), (pT q 0), (pT q 6), (.slice A_ d.b.length c_), (iN k), (pT b_x (o_x + k * 35)), (pT b_x (o_x + k * 35 + 1)), (.int .i64 x.h), (pT p 1), (.int .i64 y.h), (.bool true), (.bool true), (iN k), (iN (k + 1)), by kernel_rfl, by omega, (fun j b hj hb => by by_cases e : j = k; subst e; rw [hx] at hb; cases hb; exact hxe; exact hlt_ j b (by omega) hb), h126, h127, K128⟩, ?_⟩
      exact lt_meas (x := d.b.length - (k + 1)) (y := d.b.length - k) (by kernel_rfl) (by kernel_rfl) (by omega)
    · obtain ⟨b_x, o_x, c_x, hv_x, hb_x, _⟩ := ((hsb.keeps K124 (fun j hj _ e => Row.ne hrb hq (by decide) ((show j = q from e) ▸ hj)))).at_ k _ hx
      have hdl : (d.b.drop k).length ≤ d.b.length := by rw [List.length_drop]; omega
      have hend : k = d.b.length ∨ ∃ b, d.b[k]? = some b ∧ ¬ b.h < y.h := .inr ⟨x, hx, hxe⟩
      refine sy_sq (part_qrPutBlock 1008) (part_qrPutBlock 1009) ?_
      refine sy_sq (part_qrPutBlock 2016) (part_qrPutBlock 2017) ?_
      refine sy_np ?_
      refine sy_reg ?_
      refine an_begin 14 20 (opsAt (part_qrPutBlock 2016)) (fun W => (W.heap[q]? = some (.cells (#[.int .i64 d.v, .int .i64 d.win, .int .i64 d.span, .int .i64 d.l, .int .i64 d.f, va, .slice A_ d.b.length c_]) 90 (0, 0))) ∧ (ProsAt W (.slice A_ d.b.length c_) d.b) ∧ (W.heap[p]? = some (.cells (Pro.c y) 35 (0, 0)))) #[false, false, false, false, false, false, false, false, false, false, false, false, false, false, false, false, false, false, false, false] (by kernel_rfl) (by kernel_rfl) (by kernel_rfl) (by kernel_rfl) ?_
      obtain ⟨V130, eV130, kV130⟩ := drew_step V121
      rw [eV130]
      clear eV130
      have h131 := kV130.bk h122
      have h132 := kV130.bk h123
      have K133 := K124.nn kV130
      have z134 := kV130.size
      refine an_k 0 (o_qrPutBlock 2016 0) (iN k) ⟨h131, (hsb.keeps K133 (fun j hj _ e => Row.ne hrb hq (by decide) ((show j = q from e) ▸ hj))), h132⟩ ?_
      refine an_k 1 (o_qrPutBlock 2016 1) (pT q 0) ⟨h131, (hsb.keeps K133 (fun j hj _ e => Row.ne hrb hq (by decide) ((show j = q from e) ▸ hj))), h132⟩ ?_
      refine an_k 2 (o_qrPutBlock 2016 2) (pT q 0) ⟨h131, (hsb.keeps K133 (fun j hj _ e => Row.ne hrb hq (by decide) ((show j = q from e) ▸ hj))), h132⟩ ?_
      refine an_k 3 (o_qrPutBlock 2016 3) (pT q 6) ⟨h131, (hsb.keeps K133 (fun j hj _ e => Row.ne hrb hq (by decide) ((show j = q from e) ▸ hj))), h132⟩ ?_
      refine an_v 4 (o_qrPutBlock 2016 4) (.slice A_ d.b.length c_) (fun W hS => exec_ld 61 (.tmp 56) q 6 Try.underlying61 (rc (hS.1) (by kernel_rfl))) ⟨h131, (hsb.keeps K133 (fun j hj _ e => Row.ne hrb hq (by decide) ((show j = q from e) ▸ hj))), h132⟩ ?_
      refine an_v 5 (o_qrPutBlock 2016 5) (iN d.b.length) (fun W hS => exec_len_sl (.tmp 57) 61 35 (by kernel_rfl) Try.underlying61 (by kernel_rfl) hS.2.1) ⟨h131, (hsb.keeps K133 (fun j hj _ e => Row.ne hrb hq (by decide) ((show j = q from e) ▸ hj))), h132⟩ ?_
      refine an_v 6 (o_qrPutBlock 2016 6) (.bool true) (fun W hS => dct ((((k : Nat) : Int)) < (((d.b.length : Nat) : Int))) (by omega)) ⟨h131, (hsb.keeps K133 (fun j hj _ e => Row.ne hrb hq (by decide) ((show j = q from e) ▸ hj))), h132⟩ ?_
      refine an_k 7 (o_qrPutBlock 2016 7) (.bool true) ⟨h131, (hsb.keeps K133 (fun j hj _ e => Row.ne hrb hq (by decide) ((show j = q from e) ▸ hj))), h132⟩ ?_
      refine an_k 8 (o_qrPutBlock 2016 8) (pT q 0) ⟨h131, (hsb.keeps K133 (fun j hj _ e => Row.ne hrb hq (by decide) ((show j = q from e) ▸ hj))), h132⟩ ?_
      refine an_k 9 (o_qrPutBlock 2016 9) (pT q 0) ⟨h131, (hsb.keeps K133 (fun j hj _ e => Row.ne hrb hq (by decide) ((show j = q from e) ▸ hj))), h132⟩ ?_
      refine an_k 10 (o_qrPutBlock 2016 10) (pT q 6) ⟨h131, (hsb.keeps K133 (fun j hj _ e => Row.ne hrb hq (by decide) ((show j = q from e) ▸ hj))), h132⟩ ?_
      refine an_v 11 (o_qrPutBlock 2016 11) (.slice A_ d.b.length c_) (fun W hS => exec_ld 61 (.tmp 63) q 6 Try.underlying61 (rc (hS.1) (by kernel_rfl))) ⟨h131, (hsb.keeps K133 (fun j hj _ e => Row.ne hrb hq (by decide) ((show j = q from e) ▸ hj))), h132⟩ ?_
      refine an_k 12 (o_qrPutBlock 2016 12) (iN k) ⟨h131, (hsb.keeps K133 (fun j hj _ e => Row.ne hrb hq (by decide) ((show j = q from e) ▸ hj))), h132⟩ ?_
      refine an_v 13 (o_qrPutBlock 2016 13) (pT b_x (o_x + k * 35)) (fun W hS => exec_indexAt_slice 61 (.tmp 64) (.tmp 65) (by kernel_rfl) b_x o_x d.b.length c_x (Eq.trans (b := (.slice A_ d.b.length c_)) (by kernel_rfl) hv_x) .i64 k (by kernel_rfl) _ 35 Try.underlying61 (by kernel_rfl) (by omega)) ⟨h131, (hsb.keeps K133 (fun j hj _ e => Row.ne hrb hq (by decide) ((show j = q from e) ▸ hj))), h132⟩ ?_
      refine an_k 14 (o_qrPutBlock 2016 14) (pT b_x (o_x + k * 35 + 1)) ⟨h131, (hsb.keeps K133 (fun j hj _ e => Row.ne hrb hq (by decide) ((show j = q from e) ▸ hj))), h132⟩ ?_
      refine an_v 15 (o_qrPutBlock 2016 15) (.int .i64 x.h) (fun W hS => exec_ld 3 (.tmp 67) b_x (o_x + k * 35 + 1) Try.underlying3 (Sl.cell hS.2.1 hx hv_x Pro.cl_1)) ⟨h131, (hsb.keeps K133 (fun j hj _ e => Row.ne hrb hq (by decide) ((show j = q from e) ▸ hj))), h132⟩ ?_
      refine an_k 16 (o_qrPutBlock 2016 16) (pT p 1) ⟨h131, (hsb.keeps K133 (fun j hj _ e => Row.ne hrb hq (by decide) ((show j = q from e) ▸ hj))), h132⟩ ?_
      refine an_v 17 (o_qrPutBlock 2016 17) (.int .i64 y.h) (fun W hS => exec_ld 3 (.tmp 69) p 1 Try.underlying3 (rc (hS.2.2) (Pro.c_1 _))) ⟨h131, (hsb.keeps K133 (fun j hj _ e => Row.ne hrb hq (by decide) ((show j = q from e) ▸ hj))), h132⟩ ?_
      refine an_v 18 (o_qrPutBlock 2016 18) (.bool false) (fun W hS => dcf (((x.h) : Int) < ((y.h) : Int)) (by omega)) ⟨h131, (hsb.keeps K133 (fun j hj _ e => Row.ne hrb hq (by decide) ((show j = q from e) ▸ hj))), h132⟩ ?_
      refine an_k 19 (o_qrPutBlock 2016 19) (.bool false) ⟨h131, (hsb.keeps K133 (fun j hj _ e => Row.ne hrb hq (by decide) ((show j = q from e) ▸ hj))), h132⟩ ?_
      refine an_end (by kernel_rfl) ?_
      refine then_n ?_
      refine sy_n (.tmp 72) (part_qrPutBlock 4034) (part_qrPutBlock 4035) ?_
      refine sy_exit 1 (by kernel_rfl) ?_
      refine then_e ?_
      refine then_e ?_
      refine blk_e ?_
      refine then_n ?_
      refine sy_sq (part_qrPutBlock 254) (part_qrPutBlock 255) ?_
      refine sy_reg ?_
      refine rg_plain 16 (opsAt (part_qrPutBlock 254)) [0, 1, 2, 3, 4, 5, 6, 7, 8] (by kernel_rfl) (by kernel_rfl) ?_
      obtain ⟨V135, eV135, eb, eeb, h136, kV135⟩ := alloc_step V130 #[] 35
      have n137 : q < eb := eeb ▸ lt_of_block h131
      have n138 : p < eb := eeb ▸ lt_of_block h132
      have n139 : w.heap.size ≤ eb := eeb ▸ K133.size
      refine ps_r (o_qrPutBlock 254 0) (.slice (some ⟨eb, 0, none⟩) 0 0) (w' := V135) (by rw [← eV135, ← eeb]; kernel_rfl) ?_
      have h140 := kV135.bk h131
      have h141 := kV135.bk h132
      have K142 := K133.nn kV135
      have z143 := kV135.size
      refine ps_k (o_qrPutBlock 254 1) (pT q 0) ?_
      refine ps_k (o_qrPutBlock 254 2) (pT q 0) ?_
      refine ps_k (o_qrPutBlock 254 3) (pT q 6) ?_
      refine ps_p (o_qrPutBlock 254 4) (.slice A_ d.b.length c_) (exec_ld 61 (.tmp 78) q 6 Try.underlying61 (rc (h140) (by kernel_rfl))) ?_
      refine ps_k (o_qrPutBlock 254 5) (iN k) ?_
      refine ps_p (o_qrPutBlock 254 6) (.slice A_ k c_) (exec_slice_toW 61 (.tmp 79) (.tmp 80) (by kernel_rfl) A_ d.b.length c_ (by kernel_rfl) .i64 k (by kernel_rfl) 35 Try.underlying61 35 (by kernel_rfl) (by omega)) ?_
      have h144 : Row V135 35 35 (.slice (some ⟨eb, 0, none⟩) 0 0) 0 [] := row_empty h136 rfl (by decide)
      have hw145 : NewFrom (p + 1) (.slice (some ⟨eb, 0, none⟩) 0 0) := NewFrom.ptr (by omega) _ _
      obtain ⟨v146, V147, hr148, h149, hg150, hn151, ha152⟩ := run_append_any (P := Try.prog) (w := V135) 61 (Oper.type (o_qrPutBlock 254 7)) 35 i0 (.agg zPro.c) 35 56 Try.underlying61 hi0 hz0 hz1 hz2 rfl (by decide) (.slice (some ⟨eb, 0, none⟩) 0 0) 0 [] h144 (.slice A_ k c_) k ((d.b.take k).flatMap Pro.cl) ((by have h := Sl.src (Sl.take (hsb.keeps K142 (fun j hj _ e => Row.ne hrb hq (by decide) ((show j = q from e) ▸ hj))) k (by omega) _ _ _ rfl) (fun x hx => Pro.cl_len (hob x ((List.take_subset _ _ hx)))) (by decide) (fun x _ => Pro.cl_one); rwa [List.length_take_of_le (by omega)] at h)) (by unfold maxLen; omega) (by omega)
      have kV147 : Keeps (fun j => (.slice (some ⟨eb, 0, none⟩) 0 0 : Value).ownBlock = some j) V135 V147 := Keeps.rowAdd hg150
      have hw153 : NewFrom (p + 1) v146 := hw145.next (lt_of_block h141) ha152
      refine ps_r (o_qrPutBlock 254 7) v146 (w' := V147) (exec_append (.tmp 75) (.tmp 81) 61 (by kernel_rfl) (.slice (some ⟨eb, 0, none⟩) 0 0) (.slice A_ k c_) (by kernel_rfl) (by kernel_rfl) hr148) ?_
      have h154 : Row V147 35 35 v146 k ((d.b.take k).flatMap Pro.cl) := (by rw [Nat.zero_add, List.nil_append] at h149; exact h149)
      have h155 : V147.heap[q]? = some (.cells (#[.int .i64 d.v, .int .i64 d.win, .int .i64 d.span, .int .i64 d.l, .int .i64 d.f, va, .slice A_ d.b.length c_]) 90 (0, 0)) := (kV147.block q (lt_of_block h140) (fun e => by have := hw145 _ e; omega)).trans h140
      have h156 : V147.heap[p]? = some (.cells (Pro.c y) 35 (0, 0)) := (kV147.block p (lt_of_block h141) (fun e => by have := hw145 _ e; omega)).trans h141
      have K157 : Keeps ((One q)) w V147 := K142.then kV147 (fun i hi hm => absurd hi (by have := hw145 i hm; omega))
      have z158 := kV147.size
      refine ps_k (o_qrPutBlock 254 8) (v146) ?_
      refine ps_end ?_
      refine sy_a ⟨#[pT q 0, .agg (Pro.c y), undef, pT p 0, .int .i64 0, .int .i64 y.err, pT z 0, .bool false, iN k, v146, .agg (Pro.c y), .int .i64 y.err, .int .i64 y.err, .bool false, undef, .tuple #[.agg (Pro.c ((findK (·.h) d.b y.h).getD zPro)), .bool false], pT q 0, pT p 1, .int .i64 y.h, .tuple #[.agg (Pro.c ((findK (·.h) d.b y.h).getD zPro)), .bool false], .agg (Pro.c ((findK (·.h) d.b y.h).getD zPro)), .bool false, .bool false, pT p 0, .int .i64 y.v, pT q 0, pT q 0, pT q 0, .int .i64 d.v, .bool false, .bool false, pT p 1, .int .i64 y.h, pT q 0, pT q 0, pT q 4, .int .i64 d.f, .bool false, .bool false, pT p 1, .int .i64 y.h, pT q 0, pT q 0, pT q 4, .int .i64 d.f, pT q 0, pT q 0, pT q 2, .int .i64 d.span, .int .i64 (d.f + d.span), .bool false, .bool false, .bool false, iN k, pT q 0, pT q 0, pT q 6, .slice A_ d.b.length c_, iN d.b.length, .bool true, .bool true, pT q 0, pT q 0, pT q 6, .slice A_ d.b.length c_, iN k, pT b_x (o_x + k * 35), pT b_x (o_x + k * 35 + 1), .int .i64 x.h, pT p 1, .int .i64 y.h, .bool false, .bool false, u73, u74, .slice (some ⟨eb, 0, none⟩) 0 0, pT q 0, pT q 0, pT q 6, .slice A_ d.b.length c_, iN k, .slice A_ k c_, v146, undef, undef, undef, undef, undef, undef, undef, undef, undef, undef, undef, undef, undef, undef], []⟩ ?_
      refine then_n ?_
      refine sy_sq (part_qrPutBlock 510) (part_qrPutBlock 511) ?_
      refine sy_np ?_
      refine sy_reg ?_
      refine an_begin 17 15 (opsAt (part_qrPutBlock 510)) (fun W => (ProsAt W (.slice A_ d.b.length c_) d.b) ∧ (W.heap[p]? = some (.cells (Pro.c y) 35 (0, 0)))) #[false, false, false, false, false, false, false, false, false, false, false, false, false, false, false] (by kernel_rfl) (by kernel_rfl) (by kernel_rfl) (by kernel_rfl) ?_
      obtain ⟨V159, eV159, kV159⟩ := drew_step V147
      rw [eV159]
      clear eV159
      have h160 := kV159.bk h155
      have h161 := kV159.bk h156
      have h162 : Row V159 35 35 v146 k ((d.b.take k).flatMap Pro.cl) := h154.keeps kV159 (fun _ _ x => x)
      have K163 := K157.nn kV159
      have z164 := kV159.size
      refine an_k 0 (o_qrPutBlock 510 0) (pT q 0) ⟨(hsb.keeps K163 (fun j hj _ e => Row.ne hrb hq (by decide) ((show j = q from e) ▸ hj))), h161⟩ ?_
      refine an_k 1 (o_qrPutBlock 510 1) (v146) ⟨(hsb.keeps K163 (fun j hj _ e => Row.ne hrb hq (by decide) ((show j = q from e) ▸ hj))), h161⟩ ?_
      refine an_v 2 (o_qrPutBlock 510 2) (.agg (Pro.c y)) (fun W hS => exec_load_row 35 (.tmp 3) (by kernel_rfl) p (by kernel_rfl) _ _ (0, 0) _ (hS.2) Try.underlying35 rfl (by rw [Pro.c_size _ ha.r]; kernel_rfl)) ⟨(hsb.keeps K163 (fun j hj _ e => Row.ne hrb hq (by decide) ((show j = q from e) ▸ hj))), h161⟩ ?_
      refine an_k 5 (o_qrPutBlock 510 5) (pT q 0) ⟨(hsb.keeps K163 (fun j hj _ e => Row.ne hrb hq (by decide) ((show j = q from e) ▸ hj))), h161⟩ ?_
      refine an_k 6 (o_qrPutBlock 510 6) (pT q 0) ⟨(hsb.keeps K163 (fun j hj _ e => Row.ne hrb hq (by decide) ((show j = q from e) ▸ hj))), h161⟩ ?_
      refine an_k 7 (o_qrPutBlock 510 7) (pT q 6) ⟨(hsb.keeps K163 (fun j hj _ e => Row.ne hrb hq (by decide) ((show j = q from e) ▸ hj))), h161⟩ ?_
      refine an_k 9 (o_qrPutBlock 510 9) (iN k) ⟨(hsb.keeps K163 (fun j hj _ e => Row.ne hrb hq (by decide) ((show j = q from e) ▸ hj))), h161⟩ ?_
      refine an_two 3 8 (by kernel_rfl) ?_ ?_
      · obtain ⟨V165, eV165, lit, elit, h166, kV165⟩ := alloc_step V159 (Pro.c y) 35
        refine on_r (o_qrPutBlock 510 3) (.slice (some ⟨lit, 0, none⟩) 1 1) (w' := V165) (by rw [← eV165, ← elit]; exact exec_build1 61 35 (.tmp 85) (by kernel_rfl) (.agg (Pro.c y)) (by kernel_rfl) i0 _ Try.underlying61 hi0 hz0 35 hz1 (by decide) (by decide) (Pro.c_size y ha.r)) ?_
        clear eV165
        have h167 := kV165.bk h160
        have h168 := kV165.bk h161
        have h169 : Row V165 35 35 v146 k ((d.b.take k).flatMap Pro.cl) := h162.keeps kV165 (fun _ _ x => x)
        have K170 := K163.nn kV165
        have z171 := kV165.size
        refine ⟨⟨(hsb.keeps K170 (fun j hj _ e => Row.ne hrb hq (by decide) ((show j = q from e) ▸ hj))), h168⟩, ?_⟩
        refine an_two 4 8 (by kernel_rfl) ?_ ?_
        · obtain ⟨v172, V173, hr174, h175, hg176, hn177, ha178⟩ := run_append_any (P := Try.prog) (w := V165) 61 (Oper.type (o_qrPutBlock 510 4)) 35 i0 (.agg zPro.c) 35 56 Try.underlying61 hi0 hz0 hz1 hz2 rfl (by decide) v146 k ((d.b.take k).flatMap Pro.cl) h169 (.slice (some ⟨lit, 0, none⟩) 1 1) 1 (Pro.cl y) (src_pro ha h166) (by unfold maxLen; omega) (by omega)
          have kV173 : Keeps (fun j => v146.ownBlock = some j) V165 V173 := Keeps.rowAdd hg176
          have hw179 : NewFrom (p + 1) v172 := hw153.next (lt_of_block h168) ha178
          refine on_r (o_qrPutBlock 510 4) v172 (w' := V173) (exec_append (.tmp 84) (.tmp 86) 61 (by kernel_rfl) v146 (.slice (some ⟨lit, 0, none⟩) 1 1) (by kernel_rfl) (by kernel_rfl) hr174) ?_
          have h180 : Row V173 35 35 v172 (k + 1) ((d.b.take k).flatMap Pro.cl ++ Pro.cl y) := h175
          have h181 : V173.heap[q]? = some (.cells (#[.int .i64 d.v, .int .i64 d.win, .int .i64 d.span, .int .i64 d.l, .int .i64 d.f, va, .slice A_ d.b.length c_]) 90 (0, 0)) := (kV173.block q (lt_of_block h167) (fun e => by have := hw153 _ e; omega)).trans h167
          have h182 : V173.heap[p]? = some (.cells (Pro.c y) 35 (0, 0)) := (kV173.block p (lt_of_block h168) (fun e => by have := hw153 _ e; omega)).trans h168
          have K183 : Keeps ((One q)) w V173 := K170.then kV173 (fun i hi hm => absurd hi (by have := hw153 i hm; omega))
          have z184 := kV173.size
          refine ⟨⟨(hsb.keeps K183 (fun j hj _ e => Row.ne hrb hq (by decide) ((show j = q from e) ▸ hj))), h182⟩, ?_⟩
          refine an_o 8 ?_
          refine on_r (o_qrPutBlock 510 8) (.slice A_ d.b.length c_) (w' := V173) (exec_ld 61 (.tmp 90) q 6 Try.underlying61 (rc (h181) (by kernel_rfl))) ?_
          refine ⟨⟨(hsb.keeps K183 (fun j hj _ e => Row.ne hrb hq (by decide) ((show j = q from e) ▸ hj))), h182⟩, ?_⟩
          refine an_v 10 (o_qrPutBlock 510 10) (cutW A_ d.b.length c_ 35 k) (fun W hS => exec_slice_fromW 61 (.tmp 91) (.tmp 92) (by kernel_rfl) A_ d.b.length c_ (by kernel_rfl) .i64 k (by kernel_rfl) 35 Try.underlying61 35 (by kernel_rfl) (by omega)) ⟨(hsb.keeps K183 (fun j hj _ e => Row.ne hrb hq (by decide) ((show j = q from e) ▸ hj))), h182⟩ ?_
          refine an_o 11 ?_
          obtain ⟨v185, V186, hr187, h188, hg189, hn190, ha191⟩ := run_append_any (P := Try.prog) (w := V173) 61 (Oper.type (o_qrPutBlock 510 11)) 35 i0 (.agg zPro.c) 35 56 Try.underlying61 hi0 hz0 hz1 hz2 rfl (by decide) v172 (k + 1) ((d.b.take k).flatMap Pro.cl ++ Pro.cl y) h180 (cutW A_ d.b.length c_ 35 k) ((d.b.drop k).length) ((d.b.drop k).flatMap Pro.cl) (Sl.src (Sl.drop (hsb.keeps K183 (fun j hj _ e => Row.ne hrb hq (by decide) ((show j = q from e) ▸ hj))) k (by omega) _ _ _ rfl) (fun x hx => Pro.cl_len (hob x ((List.drop_subset _ _ hx)))) (by decide) (fun x _ => Pro.cl_one)) (by unfold maxLen; omega) (by omega)
          have kV186 : Keeps (fun j => v172.ownBlock = some j) V173 V186 := Keeps.rowAdd hg189
          have hw192 : NewFrom (p + 1) v185 := hw179.next (lt_of_block h182) ha191
          refine on_r (o_qrPutBlock 510 11) v185 (w' := V186) (exec_append (.tmp 87) (.tmp 93) 61 (by kernel_rfl) v172 (cutW A_ d.b.length c_ 35 k) (by kernel_rfl) (by kernel_rfl) hr187) ?_
          have h193 : Row V186 35 35 v185 ((k + 1) + ((d.b.drop k).length)) (((d.b.take k).flatMap Pro.cl ++ Pro.cl y) ++ ((d.b.drop k).flatMap Pro.cl)) := h188
          have h194 : V186.heap[q]? = some (.cells (#[.int .i64 d.v, .int .i64 d.win, .int .i64 d.span, .int .i64 d.l, .int .i64 d.f, va, .slice A_ d.b.length c_]) 90 (0, 0)) := (kV186.block q (lt_of_block h181) (fun e => by have := hw179 _ e; omega)).trans h181
          have h195 : V186.heap[p]? = some (.cells (Pro.c y) 35 (0, 0)) := (kV186.block p (lt_of_block h182) (fun e => by have := hw179 _ e; omega)).trans h182
          have K196 : Keeps ((One q)) w V186 := K183.then kV186 (fun i hi hm => absurd hi (by have := hw179 i hm; omega))
          have z197 := kV186.size
          refine ⟨⟨(hsb.keeps K196 (fun j hj _ e => Row.ne hrb hq (by decide) ((show j = q from e) ▸ hj))), h195⟩, ?_⟩
          refine an_k 12 (o_qrPutBlock 510 12) (pT q 0) ⟨(hsb.keeps K196 (fun j hj _ e => Row.ne hrb hq (by decide) ((show j = q from e) ▸ hj))), h195⟩ ?_
          refine an_k 13 (o_qrPutBlock 510 13) (pT q 6) ⟨(hsb.keeps K196 (fun j hj _ e => Row.ne hrb hq (by decide) ((show j = q from e) ▸ hj))), h195⟩ ?_
          refine an_o 14 ?_
          obtain ⟨V198, eV198, kV198⟩ := cell_step V186 q 6 v185
          have h199 : V198.heap[q]? = some (.cells (#[.int .i64 d.v, .int .i64 d.win, .int .i64 d.span, .int .i64 d.l, .int .i64 d.f, va, v185]) 90 (0, 0)) := eV198 ▸ ((heap_setCell_same _ q 6 _ _ v185 h194).trans (congrArg (fun c => some (Obj.cells c 90 (0, 0))) (show (#[.int .i64 d.v, .int .i64 d.win, .int .i64 d.span, .int .i64 d.l, .int .i64 d.f, va, .slice A_ d.b.length c_] : Array Value).setIfInBounds 6 v185 = #[.int .i64 d.v, .int .i64 d.win, .int .i64 d.span, .int .i64 d.l, .int .i64 d.f, va, v185] from by kernel_rfl)))
          refine on_s (o_qrPutBlock 510 14) (w' := V198) (by rw [← eV198]; exact exec_store_cell 61 (.tmp 96) (.tmp 94) (by kernel_rfl) q 6 (by kernel_rfl) v185 (by kernel_rfl) (by kernel_rfl) (Row.cells1 h193) (.slice A_ d.b.length c_) (rc (h194) (by kernel_rfl)) (frozen_of_row _ _ _ _ _ h194) (Row.one h193)) ?_
          clear eV198
          have h200 := kV198.bo h195 (by omega)
          have h201 : Row V198 35 35 v185 ((k + 1) + ((d.b.drop k).length)) (((d.b.take k).flatMap Pro.cl ++ Pro.cl y) ++ ((d.b.drop k).flatMap Pro.cl)) := h193.keeps kV198 (fun j hj e => Row.ne h193 h194 (by decide) ((show j = q from e) ▸ hj))
          have K202 : Keeps ((One q)) w V198 := K196.then kV198 (fun i hi hm => by unfold Own.One at hm; subst hm; exact rfl)
          have z203 := kV198.size
          refine ⟨⟨(hsb.keeps K202 (fun j hj _ e => Row.ne hrb hq (by decide) ((show j = q from e) ▸ hj))), h200⟩, ?_⟩
          refine an_end (by kernel_rfl) ?_
          refine then_n ?_
          refine sy_sq (part_qrPutBlock 1022) (part_qrPutBlock 1023) ?_
          refine sy_reg ?_
          refine rg_plain 18 (opsAt (part_qrPutBlock 1022)) [0] (by kernel_rfl) (by kernel_rfl) ?_
          refine ps_k (o_qrPutBlock 1022 0) (.int .i64 0) ?_
          refine ps_end ?_
          refine then_n ?_
          refine sy_ret (by kernel_rfl) ?_
          refine sy_out (.int .i64 0) rfl (by kernel_rfl) ?_
          exact ⟨rfl, ⟨⟨va, v185, h199, hra.keeps K202 (fun j hj e => Row.ne hra hq (by decide) ((show j = q from e) ▸ hj)), hna, ins_row h201 hk (insK_at hk hlt_ hend), (fun j hj => by have := hw192 j hj; omega)⟩, hoa, (fun x hx => (mem_insK hx).elim (fun e => e ▸ ha) (hob x))⟩, K202⟩
        · refine on_r (o_qrPutBlock 510 8) (.slice A_ d.b.length c_) (w' := V165) (exec_ld 61 (.tmp 90) q 6 Try.underlying61 (rc (h167) (by kernel_rfl))) ?_
          refine ⟨⟨(hsb.keeps K170 (fun j hj _ e => Row.ne hrb hq (by decide) ((show j = q from e) ▸ hj))), h168⟩, ?_⟩
          refine an_v 10 (o_qrPutBlock 510 10) (cutW A_ d.b.length c_ 35 k) (fun W hS => exec_slice_fromW 61 (.tmp 91) (.tmp 92) (by kernel_rfl) A_ d.b.length c_ (by kernel_rfl) .i64 k (by kernel_rfl) 35 Try.underlying61 35 (by kernel_rfl) (by omega)) ⟨(hsb.keeps K170 (fun j hj _ e => Row.ne hrb hq (by decide) ((show j = q from e) ▸ hj))), h168⟩ ?_
          refine an_o 4 ?_
          obtain ⟨v204, V205, hr206, h207, hg208, hn209, ha210⟩ := run_append_any (P := Try.prog) (w := V165) 61 (Oper.type (o_qrPutBlock 510 4)) 35 i0 (.agg zPro.c) 35 56 Try.underlying61 hi0 hz0 hz1 hz2 rfl (by decide) v146 k ((d.b.take k).flatMap Pro.cl) h169 (.slice (some ⟨lit, 0, none⟩) 1 1) 1 (Pro.cl y) (src_pro ha h166) (by unfold maxLen; omega) (by omega)
          have kV205 : Keeps (fun j => v146.ownBlock = some j) V165 V205 := Keeps.rowAdd hg208
          have hw211 : NewFrom (p + 1) v204 := hw153.next (lt_of_block h168) ha210
          refine on_r (o_qrPutBlock 510 4) v204 (w' := V205) (exec_append (.tmp 84) (.tmp 86) 61 (by kernel_rfl) v146 (.slice (some ⟨lit, 0, none⟩) 1 1) (by kernel_rfl) (by kernel_rfl) hr206) ?_
          have h212 : Row V205 35 35 v204 (k + 1) ((d.b.take k).flatMap Pro.cl ++ Pro.cl y) := h207
          have h213 : V205.heap[q]? = some (.cells (#[.int .i64 d.v, .int .i64 d.win, .int .i64 d.span, .int .i64 d.l, .int .i64 d.f, va, .slice A_ d.b.length c_]) 90 (0, 0)) := (kV205.block q (lt_of_block h167) (fun e => by have := hw153 _ e; omega)).trans h167
          have h214 : V205.heap[p]? = some (.cells (Pro.c y) 35 (0, 0)) := (kV205.block p (lt_of_block h168) (fun e => by have := hw153 _ e; omega)).trans h168
          have K215 : Keeps ((One q)) w V205 := K170.then kV205 (fun i hi hm => absurd hi (by have := hw153 i hm; omega))
          have z216 := kV205.size
          refine ⟨⟨(hsb.keeps K215 (fun j hj _ e => Row.ne hrb hq (by decide) ((show j = q from e) ▸ hj))), h214⟩, ?_⟩
          refine an_o 11 ?_
          obtain ⟨v217, V218, hr219, h220, hg221, hn222, ha223⟩ := run_append_any (P := Try.prog) (w := V205) 61 (Oper.type (o_qrPutBlock 510 11)) 35 i0 (.agg zPro.c) 35 56 Try.underlying61 hi0 hz0 hz1 hz2 rfl (by decide) v204 (k + 1) ((d.b.take k).flatMap Pro.cl ++ Pro.cl y) h212 (cutW A_ d.b.length c_ 35 k) ((d.b.drop k).length) ((d.b.drop k).flatMap Pro.cl) (Sl.src (Sl.drop (hsb.keeps K215 (fun j hj _ e => Row.ne hrb hq (by decide) ((show j = q from e) ▸ hj))) k (by omega) _ _ _ rfl) (fun x hx => Pro.cl_len (hob x ((List.drop_subset _ _ hx)))) (by decide) (fun x _ => Pro.cl_one)) (by unfold maxLen; omega) (by omega)
          have kV218 : Keeps (fun j => v204.ownBlock = some j) V205 V218 := Keeps.rowAdd hg221
          have hw224 : NewFrom (p + 1) v217 := hw211.next (lt_of_block h214) ha223
          refine on_r (o_qrPutBlock 510 11) v217 (w' := V218) (exec_append (.tmp 87) (.tmp 93) 61 (by kernel_rfl) v204 (cutW A_ d.b.length c_ 35 k) (by kernel_rfl) (by kernel_rfl) hr219) ?_
          have h225 : Row V218 35 35 v217 ((k + 1) + ((d.b.drop k).length)) (((d.b.take k).flatMap Pro.cl ++ Pro.cl y) ++ ((d.b.drop k).flatMap Pro.cl)) := h220
          have h226 : V218.heap[q]? = some (.cells (#[.int .i64 d.v, .int .i64 d.win, .int .i64 d.span, .int .i64 d.l, .int .i64 d.f, va, .slice A_ d.b.length c_]) 90 (0, 0)) := (kV218.block q (lt_of_block h213) (fun e => by have := hw211 _ e; omega)).trans h213
          have h227 : V218.heap[p]? = some (.cells (Pro.c y) 35 (0, 0)) := (kV218.block p (lt_of_block h214) (fun e => by have := hw211 _ e; omega)).trans h214
          have K228 : Keeps ((One q)) w V218 := K215.then kV218 (fun i hi hm => absurd hi (by have := hw211 i hm; omega))
          have z229 := kV218.size
          refine ⟨⟨(hsb.keeps K228 (fun j hj _ e => Row.ne hrb hq (by decide) ((show j = q from e) ▸ hj))), h227⟩, ?_⟩
          refine an_k 12 (o_qrPutBlock 510 12) (pT q 0) ⟨(hsb.keeps K228 (fun j hj _ e => Row.ne hrb hq (by decide) ((show j = q from e) ▸ hj))), h227⟩ ?_
          refine an_k 13 (o_qrPutBlock 510 13) (pT q 6) ⟨(hsb.keeps K228 (fun j hj _ e => Row.ne hrb hq (by decide) ((show j = q from e) ▸ hj))), h227⟩ ?_
          refine an_o 14 ?_
          obtain ⟨V230, eV230, kV230⟩ := cell_step V218 q 6 v217
          have h231 : V230.heap[q]? = some (.cells (#[.int .i64 d.v, .int .i64 d.win, .int .i64 d.span, .int .i64 d.l, .int .i64 d.f, va, v217]) 90 (0, 0)) := eV230 ▸ ((heap_setCell_same _ q 6 _ _ v217 h226).trans (congrArg (fun c => some (Obj.cells c 90 (0, 0))) (show (#[.int .i64 d.v, .int .i64 d.win, .int .i64 d.span, .int .i64 d.l, .int .i64 d.f, va, .slice A_ d.b.length c_] : Array Value).setIfInBounds 6 v217 = #[.int .i64 d.v, .int .i64 d.win, .int .i64 d.span, .int .i64 d.l, .int .i64 d.f, va, v217] from by kernel_rfl)))
          refine on_s (o_qrPutBlock 510 14) (w' := V230) (by rw [← eV230]; exact exec_store_cell 61 (.tmp 96) (.tmp 94) (by kernel_rfl) q 6 (by kernel_rfl) v217 (by kernel_rfl) (by kernel_rfl) (Row.cells1 h225) (.slice A_ d.b.length c_) (rc (h226) (by kernel_rfl)) (frozen_of_row _ _ _ _ _ h226) (Row.one h225)) ?_
          clear eV230
          have h232 := kV230.bo h227 (by omega)
          have h233 : Row V230 35 35 v217 ((k + 1) + ((d.b.drop k).length)) (((d.b.take k).flatMap Pro.cl ++ Pro.cl y) ++ ((d.b.drop k).flatMap Pro.cl)) := h225.keeps kV230 (fun j hj e => Row.ne h225 h226 (by decide) ((show j = q from e) ▸ hj))
          have K234 : Keeps ((One q)) w V230 := K228.then kV230 (fun i hi hm => by unfold Own.One at hm; subst hm; exact rfl)
          have z235 := kV230.size
          refine ⟨⟨(hsb.keeps K234 (fun j hj _ e => Row.ne hrb hq (by decide) ((show j = q from e) ▸ hj))), h232⟩, ?_⟩
          refine an_end (by kernel_rfl) ?_
          refine then_n ?_
          refine sy_sq (part_qrPutBlock 1022) (part_qrPutBlock 1023) ?_
          refine sy_reg ?_
          refine rg_plain 18 (opsAt (part_qrPutBlock 1022)) [0] (by kernel_rfl) (by kernel_rfl) ?_
          refine ps_k (o_qrPutBlock 1022 0) (.int .i64 0) ?_
          refine ps_end ?_
          refine then_n ?_
          refine sy_ret (by kernel_rfl) ?_
          refine sy_out (.int .i64 0) rfl (by kernel_rfl) ?_
          exact ⟨rfl, ⟨⟨va, v217, h231, hra.keeps K234 (fun j hj e => Row.ne hra hq (by decide) ((show j = q from e) ▸ hj)), hna, ins_row h233 hk (insK_at hk hlt_ hend), (fun j hj => by have := hw224 j hj; omega)⟩, hoa, (fun x hx => (mem_insK hx).elim (fun e => e ▸ ha) (hob x))⟩, K234⟩
      · refine on_r (o_qrPutBlock 510 8) (.slice A_ d.b.length c_) (w' := V159) (exec_ld 61 (.tmp 90) q 6 Try.underlying61 (rc (h160) (by kernel_rfl))) ?_
        refine ⟨⟨(hsb.keeps K163 (fun j hj _ e => Row.ne hrb hq (by decide) ((show j = q from e) ▸ hj))), h161⟩, ?_⟩
        refine an_v 10 (o_qrPutBlock 510 10) (cutW A_ d.b.length c_ 35 k) (fun W hS => exec_slice_fromW 61 (.tmp 91) (.tmp 92) (by kernel_rfl) A_ d.b.length c_ (by kernel_rfl) .i64 k (by kernel_rfl) 35 Try.underlying61 35 (by kernel_rfl) (by omega)) ⟨(hsb.keeps K163 (fun j hj _ e => Row.ne hrb hq (by decide) ((show j = q from e) ▸ hj))), h161⟩ ?_
        refine an_o 3 ?_
        obtain ⟨V236, eV236, lit, elit, h237, kV236⟩ := alloc_step V159 (Pro.c y) 35
        refine on_r (o_qrPutBlock 510 3) (.slice (some ⟨lit, 0, none⟩) 1 1) (w' := V236) (by rw [← eV236, ← elit]; exact exec_build1 61 35 (.tmp 85) (by kernel_rfl) (.agg (Pro.c y)) (by kernel_rfl) i0 _ Try.underlying61 hi0 hz0 35 hz1 (by decide) (by decide) (Pro.c_size y ha.r)) ?_
        clear eV236
        have h238 := kV236.bk h160
        have h239 := kV236.bk h161
        have h240 : Row V236 35 35 v146 k ((d.b.take k).flatMap Pro.cl) := h162.keeps kV236 (fun _ _ x => x)
        have K241 := K163.nn kV236
        have z242 := kV236.size
        refine ⟨⟨(hsb.keeps K241 (fun j hj _ e => Row.ne hrb hq (by decide) ((show j = q from e) ▸ hj))), h239⟩, ?_⟩
        refine an_o 4 ?_
        obtain ⟨v243, V244, hr245, h246, hg247, hn248, ha249⟩ := run_append_any (P := Try.prog) (w := V236) 61 (Oper.type (o_qrPutBlock 510 4)) 35 i0 (.agg zPro.c) 35 56 Try.underlying61 hi0 hz0 hz1 hz2 rfl (by decide) v146 k ((d.b.take k).flatMap Pro.cl) h240 (.slice (some ⟨lit, 0, none⟩) 1 1) 1 (Pro.cl y) (src_pro ha h237) (by unfold maxLen; omega) (by omega)
        have kV244 : Keeps (fun j => v146.ownBlock = some j) V236 V244 := Keeps.rowAdd hg247
        have hw250 : NewFrom (p + 1) v243 := hw153.next (lt_of_block h239) ha249
        refine on_r (o_qrPutBlock 510 4) v243 (w' := V244) (exec_append (.tmp 84) (.tmp 86) 61 (by kernel_rfl) v146 (.slice (some ⟨lit, 0, none⟩) 1 1) (by kernel_rfl) (by kernel_rfl) hr245) ?_
        have h251 : Row V244 35 35 v243 (k + 1) ((d.b.take k).flatMap Pro.cl ++ Pro.cl y) := h246
        have h252 : V244.heap[q]? = some (.cells (#[.int .i64 d.v, .int .i64 d.win, .int .i64 d.span, .int .i64 d.l, .int .i64 d.f, va, .slice A_ d.b.length c_]) 90 (0, 0)) := (kV244.block q (lt_of_block h238) (fun e => by have := hw153 _ e; omega)).trans h238
        have h253 : V244.heap[p]? = some (.cells (Pro.c y) 35 (0, 0)) := (kV244.block p (lt_of_block h239) (fun e => by have := hw153 _ e; omega)).trans h239
        have K254 : Keeps ((One q)) w V244 := K241.then kV244 (fun i hi hm => absurd hi (by have := hw153 i hm; omega))
        have z255 := kV244.size
        refine ⟨⟨(hsb.keeps K254 (fun j hj _ e => Row.ne hrb hq (by decide) ((show j = q from e) ▸ hj))), h253⟩, ?_⟩
        refine an_o 11 ?_
        obtain ⟨v256, V257, hr258, h259, hg260, hn261, ha262⟩ := run_append_any (P := Try.prog) (w := V244) 61 (Oper.type (o_qrPutBlock 510 11)) 35 i0 (.agg zPro.c) 35 56 Try.underlying61 hi0 hz0 hz1 hz2 rfl (by decide) v243 (k + 1) ((d.b.take k).flatMap Pro.cl ++ Pro.cl y) h251 (cutW A_ d.b.length c_ 35 k) ((d.b.drop k).length) ((d.b.drop k).flatMap Pro.cl) (Sl.src (Sl.drop (hsb.keeps K254 (fun j hj _ e => Row.ne hrb hq (by decide) ((show j = q from e) ▸ hj))) k (by omega) _ _ _ rfl) (fun x hx => Pro.cl_len (hob x ((List.drop_subset _ _ hx)))) (by decide) (fun x _ => Pro.cl_one)) (by unfold maxLen; omega) (by omega)
        have kV257 : Keeps (fun j => v243.ownBlock = some j) V244 V257 := Keeps.rowAdd hg260
        have hw263 : NewFrom (p + 1) v256 := hw250.next (lt_of_block h253) ha262
        refine on_r (o_qrPutBlock 510 11) v256 (w' := V257) (exec_append (.tmp 87) (.tmp 93) 61 (by kernel_rfl) v243 (cutW A_ d.b.length c_ 35 k) (by kernel_rfl) (by kernel_rfl) hr258) ?_
        have h264 : Row V257 35 35 v256 ((k + 1) + ((d.b.drop k).length)) (((d.b.take k).flatMap Pro.cl ++ Pro.cl y) ++ ((d.b.drop k).flatMap Pro.cl)) := h259
        have h265 : V257.heap[q]? = some (.cells (#[.int .i64 d.v, .int .i64 d.win, .int .i64 d.span, .int .i64 d.l, .int .i64 d.f, va, .slice A_ d.b.length c_]) 90 (0, 0)) := (kV257.block q (lt_of_block h252) (fun e => by have := hw250 _ e; omega)).trans h252
        have h266 : V257.heap[p]? = some (.cells (Pro.c y) 35 (0, 0)) := (kV257.block p (lt_of_block h253) (fun e => by have := hw250 _ e; omega)).trans h253
        have K267 : Keeps ((One q)) w V257 := K254.then kV257 (fun i hi hm => absurd hi (by have := hw250 i hm; omega))
        have z268 := kV257.size
        refine ⟨⟨(hsb.keeps K267 (fun j hj _ e => Row.ne hrb hq (by decide) ((show j = q from e) ▸ hj))), h266⟩, ?_⟩
        refine an_k 12 (o_qrPutBlock 510 12) (pT q 0) ⟨(hsb.keeps K267 (fun j hj _ e => Row.ne hrb hq (by decide) ((show j = q from e) ▸ hj))), h266⟩ ?_
        refine an_k 13 (o_qrPutBlock 510 13) (pT q 6) ⟨(hsb.keeps K267 (fun j hj _ e => Row.ne hrb hq (by decide) ((show j = q from e) ▸ hj))), h266⟩ ?_
        refine an_o 14 ?_
        obtain ⟨V269, eV269, kV269⟩ := cell_step V257 q 6 v256
        have h270 : V269.heap[q]? = some (.cells (#[.int .i64 d.v, .int .i64 d.win, .int .i64 d.span, .int .i64 d.l, .int .i64 d.f, va, v256]) 90 (0, 0)) := eV269 ▸ ((heap_setCell_same _ q 6 _ _ v256 h265).trans (congrArg (fun c => some (Obj.cells c 90 (0, 0))) (show (#[.int .i64 d.v, .int .i64 d.win, .int .i64 d.span, .int .i64 d.l, .int .i64 d.f, va, .slice A_ d.b.length c_] : Array Value).setIfInBounds 6 v256 = #[.int .i64 d.v, .int .i64 d.win, .int .i64 d.span, .int .i64 d.l, .int .i64 d.f, va, v256] from by kernel_rfl)))
        refine on_s (o_qrPutBlock 510 14) (w' := V269) (by rw [← eV269]; exact exec_store_cell 61 (.tmp 96) (.tmp 94) (by kernel_rfl) q 6 (by kernel_rfl) v256 (by kernel_rfl) (by kernel_rfl) (Row.cells1 h264) (.slice A_ d.b.length c_) (rc (h265) (by kernel_rfl)) (frozen_of_row _ _ _ _ _ h265) (Row.one h264)) ?_
        clear eV269
        have h271 := kV269.bo h266 (by omega)
        have h272 : Row V269 35 35 v256 ((k + 1) + ((d.b.drop k).length)) (((d.b.take k).flatMap Pro.cl ++ Pro.cl y) ++ ((d.b.drop k).flatMap Pro.cl)) := h264.keeps kV269 (fun j hj e => Row.ne h264 h265 (by decide) ((show j = q from e) ▸ hj))
        have K273 : Keeps ((One q)) w V269 := K267.then kV269 (fun i hi hm => by unfold Own.One at hm; subst hm; exact rfl)
        have z274 := kV269.size
        refine ⟨⟨(hsb.keeps K273 (fun j hj _ e => Row.ne hrb hq (by decide) ((show j = q from e) ▸ hj))), h271⟩, ?_⟩
        refine an_end (by kernel_rfl) ?_
        refine then_n ?_
        refine sy_sq (part_qrPutBlock 1022) (part_qrPutBlock 1023) ?_
        refine sy_reg ?_
        refine rg_plain 18 (opsAt (part_qrPutBlock 1022)) [0] (by kernel_rfl) (by kernel_rfl) ?_
        refine ps_k (o_qrPutBlock 1022 0) (.int .i64 0) ?_
        refine ps_end ?_
        refine then_n ?_
        refine sy_ret (by kernel_rfl) ?_
        refine sy_out (.int .i64 0) rfl (by kernel_rfl) ?_
        exact ⟨rfl, ⟨⟨va, v256, h270, hra.keeps K273 (fun j hj e => Row.ne hra hq (by decide) ((show j = q from e) ▸ hj)), hna, ins_row h272 hk (insK_at hk hlt_ hend), (fun j hj => by have := hw263 j hj; omega)⟩, hoa, (fun x hx => (mem_insK hx).elim (fun e => e ▸ ha) (hob x))⟩, K273⟩
    · have hdl : (d.b.drop k).length ≤ d.b.length := by rw [List.length_drop]; omega
      have hend : k = d.b.length ∨ ∃ b, d.b[k]? = some b ∧ ¬ b.h < y.h := .inl hlt
      refine sy_sq (part_qrPutBlock 1008) (part_qrPutBlock 1009) ?_
      refine sy_sq (part_qrPutBlock 2016) (part_qrPutBlock 2017) ?_
      refine sy_np ?_
      refine sy_reg ?_
      refine an_begin 14 20 (opsAt (part_qrPutBlock 2016)) (fun W => (W.heap[q]? = some (.cells (#[.int .i64 d.v, .int .i64 d.win, .int .i64 d.span, .int .i64 d.l, .int .i64 d.f, va, .slice A_ d.b.length c_]) 90 (0, 0))) ∧ (ProsAt W (.slice A_ d.b.length c_) d.b) ∧ (W.heap[p]? = some (.cells (Pro.c y) 35 (0, 0)))) #[false, false, false, false, false, false, false, false, false, false, false, false, false, false, false, false, false, false, false, false] (by kernel_rfl) (by kernel_rfl) (by kernel_rfl) (by kernel_rfl) ?_
      obtain ⟨V275, eV275, kV275⟩ := drew_step V121
      rw [eV275]
      clear eV275
      have h276 := kV275.bk h122
      have h277 := kV275.bk h123
      have K278 := K124.nn kV275
      have z279 := kV275.size
      refine an_k 0 (o_qrPutBlock 2016 0) (iN k) ⟨h276, (hsb.keeps K278 (fun j hj _ e => Row.ne hrb hq (by decide) ((show j = q from e) ▸ hj))), h277⟩ ?_
      refine an_k 1 (o_qrPutBlock 2016 1) (pT q 0) ⟨h276, (hsb.keeps K278 (fun j hj _ e => Row.ne hrb hq (by decide) ((show j = q from e) ▸ hj))), h277⟩ ?_
      refine an_k 2 (o_qrPutBlock 2016 2) (pT q 0) ⟨h276, (hsb.keeps K278 (fun j hj _ e => Row.ne hrb hq (by decide) ((show j = q from e) ▸ hj))), h277⟩ ?_
      refine an_k 3 (o_qrPutBlock 2016 3) (pT q 6) ⟨h276, (hsb.keeps K278 (fun j hj _ e => Row.ne hrb hq (by decide) ((show j = q from e) ▸ hj))), h277⟩ ?_
      refine an_v 4 (o_qrPutBlock 2016 4) (.slice A_ d.b.length c_) (fun W hS => exec_ld 61 (.tmp 56) q 6 Try.underlying61 (rc (hS.1) (by kernel_rfl))) ⟨h276, (hsb.keeps K278 (fun j hj _ e => Row.ne hrb hq (by decide) ((show j = q from e) ▸ hj))), h277⟩ ?_
      refine an_v 5 (o_qrPutBlock 2016 5) (iN d.b.length) (fun W hS => exec_len_sl (.tmp 57) 61 35 (by kernel_rfl) Try.underlying61 (by kernel_rfl) hS.2.1) ⟨h276, (hsb.keeps K278 (fun j hj _ e => Row.ne hrb hq (by decide) ((show j = q from e) ▸ hj))), h277⟩ ?_
      refine an_v 6 (o_qrPutBlock 2016 6) (.bool false) (fun W hS => dcf ((((k : Nat) : Int)) < (((d.b.length : Nat) : Int))) (by omega)) ⟨h276, (hsb.keeps K278 (fun j hj _ e => Row.ne hrb hq (by decide) ((show j = q from e) ▸ hj))), h277⟩ ?_
      refine an_k 7 (o_qrPutBlock 2016 7) (.bool false) ⟨h276, (hsb.keeps K278 (fun j hj _ e => Row.ne hrb hq (by decide) ((show j = q from e) ▸ hj))), h277⟩ ?_
      refine an_n 8 (o_qrPutBlock 2016 8) ⟨h276, (hsb.keeps K278 (fun j hj _ e => Row.ne hrb hq (by decide) ((show j = q from e) ▸ hj))), h277⟩ ?_
      refine an_n 9 (o_qrPutBlock 2016 9) ⟨h276, (hsb.keeps K278 (fun j hj _ e => Row.ne hrb hq (by decide) ((show j = q from e) ▸ hj))), h277⟩ ?_
      refine an_n 10 (o_qrPutBlock 2016 10) ⟨h276, (hsb.keeps K278 (fun j hj _ e => Row.ne hrb hq (by decide) ((show j = q from e) ▸ hj))), h277⟩ ?_
      refine an_n 11 (o_qrPutBlock 2016 11) ⟨h276, (hsb.keeps K278 (fun j hj _ e => Row.ne hrb hq (by decide) ((show j = q from e) ▸ hj))), h277⟩ ?_
      refine an_n 12 (o_qrPutBlock 2016 12) ⟨h276, (hsb.keeps K278 (fun j hj _ e => Row.ne hrb hq (by decide) ((show j = q from e) ▸ hj))), h277⟩ ?_
      refine an_n 13 (o_qrPutBlock 2016 13) ⟨h276, (hsb.keeps K278 (fun j hj _ e => Row.ne hrb hq (by decide) ((show j = q from e) ▸ hj))), h277⟩ ?_
      refine an_n 14 (o_qrPutBlock 2016 14) ⟨h276, (hsb.keeps K278 (fun j hj _ e => Row.ne hrb hq (by decide) ((show j = q from e) ▸ hj))), h277⟩ ?_
      refine an_n 15 (o_qrPutBlock 2016 15) ⟨h276, (hsb.keeps K278 (fun j hj _ e => Row.ne hrb hq (by decide) ((show j = q from e) ▸ hj))), h277⟩ ?_
      refine an_n 16 (o_qrPutBlock 2016 16) ⟨h276, (hsb.keeps K278 (fun j hj _ e => Row.ne hrb hq (by decide) ((show j = q from e) ▸ hj))), h277⟩ ?_
      refine an_n 17 (o_qrPutBlock 2016 17) ⟨h276, (hsb.keeps K278 (fun j hj _ e => Row.ne hrb hq (by decide) ((show j = q from e) ▸ hj))), h277⟩ ?_
      refine an_n 18 (o_qrPutBlock 2016 18) ⟨h276, (hsb.keeps K278 (fun j hj _ e => Row.ne hrb hq (by decide) ((show j = q from e) ▸ hj))), h277⟩ ?_
      refine an_k 19 (o_qrPutBlock 2016 19) (.bool false) ⟨h276, (hsb.keeps K278 (fun j hj _ e => Row.ne hrb hq (by decide) ((show j = q from e) ▸ hj))), h277⟩ ?_
      refine an_end (by kernel_rfl) ?_
      refine then_n ?_
      refine sy_n (.tmp 72) (part_qrPutBlock 4034) (part_qrPutBlock 4035) ?_
      refine sy_exit 1 (by kernel_rfl) ?_
      refine then_e ?_
      refine then_e ?_
      refine blk_e ?_
      refine then_n ?_
      refine sy_sq (part_qrPutBlock 254) (part_qrPutBlock 255) ?_
      refine sy_reg ?_
      refine rg_plain 16 (opsAt (part_qrPutBlock 254)) [0, 1, 2, 3, 4, 5, 6, 7, 8] (by kernel_rfl) (by kernel_rfl) ?_
      obtain ⟨V280, eV280, eb, eeb, h281, kV280⟩ := alloc_step V275 #[] 35
      have n282 : q < eb := eeb ▸ lt_of_block h276
      have n283 : p < eb := eeb ▸ lt_of_block h277
      have n284 : w.heap.size ≤ eb := eeb ▸ K278.size
      refine ps_r (o_qrPutBlock 254 0) (.slice (some ⟨eb, 0, none⟩) 0 0) (w' := V280) (by rw [← eV280, ← eeb]; kernel_rfl) ?_
      have h285 := kV280.bk h276
      have h286 := kV280.bk h277
      have K287 := K278.nn kV280
      have z288 := kV280.size
      refine ps_k (o_qrPutBlock 254 1) (pT q 0) ?_
      refine ps_k (o_qrPutBlock 254 2) (pT q 0) ?_
      refine ps_k (o_qrPutBlock 254 3) (pT q 6) ?_
      refine ps_p (o_qrPutBlock 254 4) (.slice A_ d.b.length c_) (exec_ld 61 (.tmp 78) q 6 Try.underlying61 (rc (h285) (by kernel_rfl))) ?_
      refine ps_k (o_qrPutBlock 254 5) (iN k) ?_
      refine ps_p (o_qrPutBlock 254 6) (.slice A_ k c_) (exec_slice_toW 61 (.tmp 79) (.tmp 80) (by kernel_rfl) A_ d.b.length c_ (by kernel_rfl) .i64 k (by kernel_rfl) 35 Try.underlying61 35 (by kernel_rfl) (by omega)) ?_
      have h289 : Row V280 35 35 (.slice (some ⟨eb, 0, none⟩) 0 0) 0 [] := row_empty h281 rfl (by decide)
      have hw290 : NewFrom (p + 1) (.slice (some ⟨eb, 0, none⟩) 0 0) := NewFrom.ptr (by omega) _ _
      obtain ⟨v291, V292, hr293, h294, hg295, hn296, ha297⟩ := run_append_any (P := Try.prog) (w := V280) 61 (Oper.type (o_qrPutBlock 254 7)) 35 i0 (.agg zPro.c) 35 56 Try.underlying61 hi0 hz0 hz1 hz2 rfl (by decide) (.slice (some ⟨eb, 0, none⟩) 0 0) 0 [] h289 (.slice A_ k c_) k ((d.b.take k).flatMap Pro.cl) ((by have h := Sl.src (Sl.take (hsb.keeps K287 (fun j hj _ e => Row.ne hrb hq (by decide) ((show j = q from e) ▸ hj))) k (by omega) _ _ _ rfl) (fun x hx => Pro.cl_len (hob x ((List.take_subset _ _ hx)))) (by decide) (fun x _ => Pro.cl_one); rwa [List.length_take_of_le (by omega)] at h)) (by unfold maxLen; omega) (by omega)
      have kV292 : Keeps (fun j => (.slice (some ⟨eb, 0, none⟩) 0 0 : Value).ownBlock = some j) V280 V292 := Keeps.rowAdd hg295
      have hw298 : NewFrom (p + 1) v291 := hw290.next (lt_of_block h286) ha297
      refine ps_r (o_qrPutBlock 254 7) v291 (w' := V292) (exec_append (.tmp 75) (.tmp 81) 61 (by kernel_rfl) (.slice (some ⟨eb, 0, none⟩) 0 0) (.slice A_ k c_) (by kernel_rfl) (by kernel_rfl) hr293) ?_
      have h299 : Row V292 35 35 v291 k ((d.b.take k).flatMap Pro.cl) := (by rw [Nat.zero_add, List.nil_append] at h294; exact h294)
      have h300 : V292.heap[q]? = some (.cells (#[.int .i64 d.v, .int .i64 d.win, .int .i64 d.span, .int .i64 d.l, .int .i64 d.f, va, .slice A_ d.b.length c_]) 90 (0, 0)) := (kV292.block q (lt_of_block h285) (fun e => by have := hw290 _ e; omega)).trans h285
      have h301 : V292.heap[p]? = some (.cells (Pro.c y) 35 (0, 0)) := (kV292.block p (lt_of_block h286) (fun e => by have := hw290 _ e; omega)).trans h286
      have K302 : Keeps ((One q)) w V292 := K287.then kV292 (fun i hi hm => absurd hi (by have := hw290 i hm; omega))
      have z303 := kV292.size
      refine ps_k (o_qrPutBlock 254 8) (v291) ?_
      refine ps_end ?_
      refine sy_a ⟨#[pT q 0, .agg (Pro.c y), undef, pT p 0, .int .i64 0, .int .i64 y.err, pT z 0, .bool false, iN k, v291, .agg (Pro.c y), .int .i64 y.err, .int .i64 y.err, .bool false, undef, .tuple #[.agg (Pro.c ((findK (·.h) d.b y.h).getD zPro)), .bool false], pT q 0, pT p 1, .int .i64 y.h, .tuple #[.agg (Pro.c ((findK (·.h) d.b y.h).getD zPro)), .bool false], .agg (Pro.c ((findK (·.h) d.b y.h).getD zPro)), .bool false, .bool false, pT p 0, .int .i64 y.v, pT q 0, pT q 0, pT q 0, .int .i64 d.v, .bool false, .bool false, pT p 1, .int .i64 y.h, pT q 0, pT q 0, pT q 4, .int .i64 d.f, .bool false, .bool false, pT p 1, .int .i64 y.h, pT q 0, pT q 0, pT q 4, .int .i64 d.f, pT q 0, pT q 0, pT q 2, .int .i64 d.span, .int .i64 (d.f + d.span), .bool false, .bool false, .bool false, iN k, pT q 0, pT q 0, pT q 6, .slice A_ d.b.length c_, iN d.b.length, .bool false, .bool false, undef, undef, undef, undef, undef, undef, undef, undef, undef, undef, undef, .bool false, u73, u74, .slice (some ⟨eb, 0, none⟩) 0 0, pT q 0, pT q 0, pT q 6, .slice A_ d.b.length c_, iN k, .slice A_ k c_, v291, undef, undef, undef, undef, undef, undef, undef, undef, undef, undef, undef, undef, undef, undef], []⟩ ?_
      refine then_n ?_
      refine sy_sq (part_qrPutBlock 510) (part_qrPutBlock 511) ?_
      refine sy_np ?_
      refine sy_reg ?_
      refine an_begin 17 15 (opsAt (part_qrPutBlock 510)) (fun W => (ProsAt W (.slice A_ d.b.length c_) d.b) ∧ (W.heap[p]? = some (.cells (Pro.c y) 35 (0, 0)))) #[false, false, false, false, false, false, false, false, false, false, false, false, false, false, false] (by kernel_rfl) (by kernel_rfl) (by kernel_rfl) (by kernel_rfl) ?_
      obtain ⟨V304, eV304, kV304⟩ := drew_step V292
      rw [eV304]
      clear eV304
      have h305 := kV304.bk h300
      have h306 := kV304.bk h301
      have h307 : Row V304 35 35 v291 k ((d.b.take k).flatMap Pro.cl) := h299.keeps kV304 (fun _ _ x => x)
      have K308 := K302.nn kV304
      have z309 := kV304.size
      refine an_k 0 (o_qrPutBlock 510 0) (pT q 0) ⟨(hsb.keeps K308 (fun j hj _ e => Row.ne hrb hq (by decide) ((show j = q from e) ▸ hj))), h306⟩ ?_
      refine an_k 1 (o_qrPutBlock 510 1) (v291) ⟨(hsb.keeps K308 (fun j hj _ e => Row.ne hrb hq (by decide) ((show j = q from e) ▸ hj))), h306⟩ ?_
      refine an_v 2 (o_qrPutBlock 510 2) (.agg (Pro.c y)) (fun W hS => exec_load_row 35 (.tmp 3) (by kernel_rfl) p (by kernel_rfl) _ _ (0, 0) _ (hS.2) Try.underlying35 rfl (by rw [Pro.c_size _ ha.r]; kernel_rfl)) ⟨(hsb.keeps K308 (fun j hj _ e => Row.ne hrb hq (by decide) ((show j = q from e) ▸ hj))), h306⟩ ?_
      refine an_k 5 (o_qrPutBlock 510 5) (pT q 0) ⟨(hsb.keeps K308 (fun j hj _ e => Row.ne hrb hq (by decide) ((show j = q from e) ▸ hj))), h306⟩ ?_
      refine an_k 6 (o_qrPutBlock 510 6) (pT q 0) ⟨(hsb.keeps K308 (fun j hj _ e => Row.ne hrb hq (by decide) ((show j = q from e) ▸ hj))), h306⟩ ?_
      refine an_k 7 (o_qrPutBlock 510 7) (pT q 6) ⟨(hsb.keeps K308 (fun j hj _ e => Row.ne hrb hq (by decide) ((show j = q from e) ▸ hj))), h306⟩ ?_
      refine an_k 9 (o_qrPutBlock 510 9) (iN k) ⟨(hsb.keeps K308 (fun j hj _ e => Row.ne hrb hq (by decide) ((show j = q from e) ▸ hj))), h306⟩ ?_
      refine an_two 3 8 (by kernel_rfl) ?_ ?_
      · obtain ⟨V310, eV310, lit, elit, h311, kV310⟩ := alloc_step V304 (Pro.c y) 35
        refine on_r (o_qrPutBlock 510 3) (.slice (some ⟨lit, 0, none⟩) 1 1) (w' := V310) (by rw [← eV310, ← elit]; exact exec_build1 61 35 (.tmp 85) (by kernel_rfl) (.agg (Pro.c y)) (by kernel_rfl) i0 _ Try.underlying61 hi0 hz0 35 hz1 (by decide) (by decide) (Pro.c_size y ha.r)) ?_
        clear eV310
        have h312 := kV310.bk h305
        have h313 := kV310.bk h306
        have h314 : Row V310 35 35 v291 k ((d.b.take k).flatMap Pro.cl) := h307.keeps kV310 (fun _ _ x => x)
        have K315 := K308.nn kV310
        have z316 := kV310.size
        refine ⟨⟨(hsb.keeps K315 (fun j hj _ e => Row.ne hrb hq (by decide) ((show j = q from e) ▸ hj))), h313⟩, ?_⟩
        refine an_two 4 8 (by kernel_rfl) ?_ ?_
        · obtain ⟨v317, V318, hr319, h320, hg321, hn322, ha323⟩ := run_append_any (P := Try.prog) (w := V310) 61 (Oper.type (o_qrPutBlock 510 4)) 35 i0 (.agg zPro.c) 35 56 Try.underlying61 hi0 hz0 hz1 hz2 rfl (by decide) v291 k ((d.b.take k).flatMap Pro.cl) h314 (.slice (some ⟨lit, 0, none⟩) 1 1) 1 (Pro.cl y) (src_pro ha h311) (by unfold maxLen; omega) (by omega)
          have kV318 : Keeps (fun j => v291.ownBlock = some j) V310 V318 := Keeps.rowAdd hg321
          have hw324 : NewFrom (p + 1) v317 := hw298.next (lt_of_block h313) ha323
          refine on_r (o_qrPutBlock 510 4) v317 (w' := V318) (exec_append (.tmp 84) (.tmp 86) 61 (by kernel_rfl) v291 (.slice (some ⟨lit, 0, none⟩) 1 1) (by kernel_rfl) (by kernel_rfl) hr319) ?_
          have h325 : Row V318 35 35 v317 (k + 1) ((d.b.take k).flatMap Pro.cl ++ Pro.cl y) := h320
          have h326 : V318.heap[q]? = some (.cells (#[.int .i64 d.v, .int .i64 d.win, .int .i64 d.span, .int .i64 d.l, .int .i64 d.f, va, .slice A_ d.b.length c_]) 90 (0, 0)) := (kV318.block q (lt_of_block h312) (fun e => by have := hw298 _ e; omega)).trans h312
          have h327 : V318.heap[p]? = some (.cells (Pro.c y) 35 (0, 0)) := (kV318.block p (lt_of_block h313) (fun e => by have := hw298 _ e; omega)).trans h313
          have K328 : Keeps ((One q)) w V318 := K315.then kV318 (fun i hi hm => absurd hi (by have := hw298 i hm; omega))
          have z329 := kV318.size
          refine ⟨⟨(hsb.keeps K328 (fun j hj _ e => Row.ne hrb hq (by decide) ((show j = q from e) ▸ hj))), h327⟩, ?_⟩
          refine an_o 8 ?_
          refine on_r (o_qrPutBlock 510 8) (.slice A_ d.b.length c_) (w' := V318) (exec_ld 61 (.tmp 90) q 6 Try.underlying61 (rc (h326) (by kernel_rfl))) ?_
          refine ⟨⟨(hsb.keeps K328 (fun j hj _ e => Row.ne hrb hq (by decide) ((show j = q from e) ▸ hj))), h327⟩, ?_⟩
          refine an_v 10 (o_qrPutBlock 510 10) (cutW A_ d.b.length c_ 35 k) (fun W hS => exec_slice_fromW 61 (.tmp 91) (.tmp 92) (by kernel_rfl) A_ d.b.length c_ (by kernel_rfl) .i64 k (by kernel_rfl) 35 Try.underlying61 35 (by kernel_rfl) (by omega)) ⟨(hsb.keeps K328 (fun j hj _ e => Row.ne hrb hq (by decide) ((show j = q from e) ▸ hj))), h327⟩ ?_
          refine an_o 11 ?_
          obtain ⟨v330, V331, hr332, h333, hg334, hn335, ha336⟩ := run_append_any (P := Try.prog) (w := V318) 61 (Oper.type (o_qrPutBlock 510 11)) 35 i0 (.agg zPro.c) 35 56 Try.underlying61 hi0 hz0 hz1 hz2 rfl (by decide) v317 (k + 1) ((d.b.take k).flatMap Pro.cl ++ Pro.cl y) h325 (cutW A_ d.b.length c_ 35 k) ((d.b.drop k).length) ((d.b.drop k).flatMap Pro.cl) (Sl.src (Sl.drop (hsb.keeps K328 (fun j hj _ e => Row.ne hrb hq (by decide) ((show j = q from e) ▸ hj))) k (by omega) _ _ _ rfl) (fun x hx => Pro.cl_len (hob x ((List.drop_subset _ _ hx)))) (by decide) (fun x _ => Pro.cl_one)) (by unfold maxLen; omega) (by omega)
          have kV331 : Keeps (fun j => v317.ownBlock = some j) V318 V331 := Keeps.rowAdd hg334
          have hw337 : NewFrom (p + 1) v330 := hw324.next (lt_of_block h327) ha336
          refine on_r (o_qrPutBlock 510 11) v330 (w' := V331) (exec_append (.tmp 87) (.tmp 93) 61 (by kernel_rfl) v317 (cutW A_ d.b.length c_ 35 k) (by kernel_rfl) (by kernel_rfl) hr332) ?_
          have h338 : Row V331 35 35 v330 ((k + 1) + ((d.b.drop k).length)) (((d.b.take k).flatMap Pro.cl ++ Pro.cl y) ++ ((d.b.drop k).flatMap Pro.cl)) := h333
          have h339 : V331.heap[q]? = some (.cells (#[.int .i64 d.v, .int .i64 d.win, .int .i64 d.span, .int .i64 d.l, .int .i64 d.f, va, .slice A_ d.b.length c_]) 90 (0, 0)) := (kV331.block q (lt_of_block h326) (fun e => by have := hw324 _ e; omega)).trans h326
          have h340 : V331.heap[p]? = some (.cells (Pro.c y) 35 (0, 0)) := (kV331.block p (lt_of_block h327) (fun e => by have := hw324 _ e; omega)).trans h327
          have K341 : Keeps ((One q)) w V331 := K328.then kV331 (fun i hi hm => absurd hi (by have := hw324 i hm; omega))
          have z342 := kV331.size
          refine ⟨⟨(hsb.keeps K341 (fun j hj _ e => Row.ne hrb hq (by decide) ((show j = q from e) ▸ hj))), h340⟩, ?_⟩
          refine an_k 12 (o_qrPutBlock 510 12) (pT q 0) ⟨(hsb.keeps K341 (fun j hj _ e => Row.ne hrb hq (by decide) ((show j = q from e) ▸ hj))), h340⟩ ?_
          refine an_k 13 (o_qrPutBlock 510 13) (pT q 6) ⟨(hsb.keeps K341 (fun j hj _ e => Row.ne hrb hq (by decide) ((show j = q from e) ▸ hj))), h340⟩ ?_
          refine an_o 14 ?_
          obtain ⟨V343, eV343, kV343⟩ := cell_step V331 q 6 v330
          have h344 : V343.heap[q]? = some (.cells (#[.int .i64 d.v, .int .i64 d.win, .int .i64 d.span, .int .i64 d.l, .int .i64 d.f, va, v330]) 90 (0, 0)) := eV343 ▸ ((heap_setCell_same _ q 6 _ _ v330 h339).trans (congrArg (fun c => some (Obj.cells c 90 (0, 0))) (show (#[.int .i64 d.v, .int .i64 d.win, .int .i64 d.span, .int .i64 d.l, .int .i64 d.f, va, .slice A_ d.b.length c_] : Array Value).setIfInBounds 6 v330 = #[.int .i64 d.v, .int .i64 d.win, .int .i64 d.span, .int .i64 d.l, .int .i64 d.f, va, v330] from by kernel_rfl)))
          refine on_s (o_qrPutBlock 510 14) (w' := V343) (by rw [← eV343]; exact exec_store_cell 61 (.tmp 96) (.tmp 94) (by kernel_rfl) q 6 (by kernel_rfl) v330 (by kernel_rfl) (by kernel_rfl) (Row.cells1 h338) (.slice A_ d.b.length c_) (rc (h339) (by kernel_rfl)) (frozen_of_row _ _ _ _ _ h339) (Row.one h338)) ?_
          clear eV343
          have h345 := kV343.bo h340 (by omega)
          have h346 : Row V343 35 35 v330 ((k + 1) + ((d.b.drop k).length)) (((d.b.take k).flatMap Pro.cl ++ Pro.cl y) ++ ((d.b.drop k).flatMap Pro.cl)) := h338.keeps kV343 (fun j hj e => Row.ne h338 h339 (by decide) ((show j = q from e) ▸ hj))
          have K347 : Keeps ((One q)) w V343 := K341.then kV343 (fun i hi hm => by unfold Own.One at hm; subst hm; exact rfl)
          have z348 := kV343.size
          refine ⟨⟨(hsb.keeps K347 (fun j hj _ e => Row.ne hrb hq (by decide) ((show j = q from e) ▸ hj))), h345⟩, ?_⟩
          refine an_end (by kernel_rfl) ?_
          refine then_n ?_
          refine sy_sq (part_qrPutBlock 1022) (part_qrPutBlock 1023) ?_
          refine sy_reg ?_
          refine rg_plain 18 (opsAt (part_qrPutBlock 1022)) [0] (by kernel_rfl) (by kernel_rfl) ?_
          refine ps_k (o_qrPutBlock 1022 0) (.int .i64 0) ?_
          refine ps_end ?_
          refine then_n ?_
          refine sy_ret (by kernel_rfl) ?_
          refine sy_out (.int .i64 0) rfl (by kernel_rfl) ?_
          exact ⟨rfl, ⟨⟨va, v330, h344, hra.keeps K347 (fun j hj e => Row.ne hra hq (by decide) ((show j = q from e) ▸ hj)), hna, ins_row h346 hk (insK_at hk hlt_ hend), (fun j hj => by have := hw337 j hj; omega)⟩, hoa, (fun x hx => (mem_insK hx).elim (fun e => e ▸ ha) (hob x))⟩, K347⟩
        · refine on_r (o_qrPutBlock 510 8) (.slice A_ d.b.length c_) (w' := V310) (exec_ld 61 (.tmp 90) q 6 Try.underlying61 (rc (h312) (by kernel_rfl))) ?_
          refine ⟨⟨(hsb.keeps K315 (fun j hj _ e => Row.ne hrb hq (by decide) ((show j = q from e) ▸ hj))), h313⟩, ?_⟩
          refine an_v 10 (o_qrPutBlock 510 10) (cutW A_ d.b.length c_ 35 k) (fun W hS => exec_slice_fromW 61 (.tmp 91) (.tmp 92) (by kernel_rfl) A_ d.b.length c_ (by kernel_rfl) .i64 k (by kernel_rfl) 35 Try.underlying61 35 (by kernel_rfl) (by omega)) ⟨(hsb.keeps K315 (fun j hj _ e => Row.ne hrb hq (by decide) ((show j = q from e) ▸ hj))), h313⟩ ?_
          refine an_o 4 ?_
          obtain ⟨v349, V350, hr351, h352, hg353, hn354, ha355⟩ := run_append_any (P := Try.prog) (w := V310) 61 (Oper.type (o_qrPutBlock 510 4)) 35 i0 (.agg zPro.c) 35 56 Try.underlying61 hi0 hz0 hz1 hz2 rfl (by decide) v291 k ((d.b.take k).flatMap Pro.cl) h314 (.slice (some ⟨lit, 0, none⟩) 1 1) 1 (Pro.cl y) (src_pro ha h311) (by unfold maxLen; omega) (by omega)
          have kV350 : Keeps (fun j => v291.ownBlock = some j) V310 V350 := Keeps.rowAdd hg353
          have hw356 : NewFrom (p + 1) v349 := hw298.next (lt_of_block h313) ha355
          refine on_r (o_qrPutBlock 510 4) v349 (w' := V350) (exec_append (.tmp 84) (.tmp 86) 61 (by kernel_rfl) v291 (.slice (some ⟨lit, 0, none⟩) 1 1) (by kernel_rfl) (by kernel_rfl) hr351) ?_
          have h357 : Row V350 35 35 v349 (k + 1) ((d.b.take k).flatMap Pro.cl ++ Pro.cl y) := h352
          have h358 : V350.heap[q]? = some (.cells (#[.int .i64 d.v, .int .i64 d.win, .int .i64 d.span, .int .i64 d.l, .int .i64 d.f, va, .slice A_ d.b.length c_]) 90 (0, 0)) := (kV350.block q (lt_of_block h312) (fun e => by have := hw298 _ e; omega)).trans h312
          have h359 : V350.heap[p]? = some (.cells (Pro.c y) 35 (0, 0)) := (kV350.block p (lt_of_block h313) (fun e => by have := hw298 _ e; omega)).trans h313
          have K360 : Keeps ((One q)) w V350 := K315.then kV350 (fun i hi hm => absurd hi (by have := hw298 i hm; omega))
          have z361 := kV350.size
          refine ⟨⟨(hsb.keeps K360 (fun j hj _ e => Row.ne hrb hq (by decide) ((show j = q from e) ▸ hj))), h359⟩, ?_⟩
          refine an_o 11 ?_
          obtain ⟨v362, V363, hr364, h365, hg366, hn367, ha368⟩ := run_append_any (P := Try.prog) (w := V350) 61 (Oper.type (o_qrPutBlock 510 11)) 35 i0 (.agg zPro.c) 35 56 Try.underlying61 hi0 hz0 hz1 hz2 rfl (by decide) v349 (k + 1) ((d.b.take k).flatMap Pro.cl ++ Pro.cl y) h357 (cutW A_ d.b.length c_ 35 k) ((d.b.drop k).length) ((d.b.drop k).flatMap Pro.cl) (Sl.src (Sl.drop (hsb.keeps K360 (fun j hj _ e => Row.ne hrb hq (by decide) ((show j = q from e) ▸ hj))) k (by omega) _ _ _ rfl) (fun x hx => Pro.cl_len (hob x ((List.drop_subset _ _ hx)))) (by decide) (fun x _ => Pro.cl_one)) (by unfold maxLen; omega) (by omega)
          have kV363 : Keeps (fun j => v349.ownBlock = some j) V350 V363 := Keeps.rowAdd hg366
          have hw369 : NewFrom (p + 1) v362 := hw356.next (lt_of_block h359) ha368
          refine on_r (o_qrPutBlock 510 11) v362 (w' := V363) (exec_append (.tmp 87) (.tmp 93) 61 (by kernel_rfl) v349 (cutW A_ d.b.length c_ 35 k) (by kernel_rfl) (by kernel_rfl) hr364) ?_
          have h370 : Row V363 35 35 v362 ((k + 1) + ((d.b.drop k).length)) (((d.b.take k).flatMap Pro.cl ++ Pro.cl y) ++ ((d.b.drop k).flatMap Pro.cl)) := h365
          have h371 : V363.heap[q]? = some (.cells (#[.int .i64 d.v, .int .i64 d.win, .int .i64 d.span, .int .i64 d.l, .int .i64 d.f, va, .slice A_ d.b.length c_]) 90 (0, 0)) := (kV363.block q (lt_of_block h358) (fun e => by have := hw356 _ e; omega)).trans h358
          have h372 : V363.heap[p]? = some (.cells (Pro.c y) 35 (0, 0)) := (kV363.block p (lt_of_block h359) (fun e => by have := hw356 _ e; omega)).trans h359
          have K373 : Keeps ((One q)) w V363 := K360.then kV363 (fun i hi hm => absurd hi (by have := hw356 i hm; omega))
          have z374 := kV363.size
          refine ⟨⟨(hsb.keeps K373 (fun j hj _ e => Row.ne hrb hq (by decide) ((show j = q from e) ▸ hj))), h372⟩, ?_⟩
          refine an_k 12 (o_qrPutBlock 510 12) (pT q 0) ⟨(hsb.keeps K373 (fun j hj _ e => Row.ne hrb hq (by decide) ((show j = q from e) ▸ hj))), h372⟩ ?_
          refine an_k 13 (o_qrPutBlock 510 13) (pT q 6) ⟨(hsb.keeps K373 (fun j hj _ e => Row.ne hrb hq (by decide) ((show j = q from e) ▸ hj))), h372⟩ ?_
          refine an_o 14 ?_
          obtain ⟨V375, eV375, kV375⟩ := cell_step V363 q 6 v362
          have h376 : V375.heap[q]? = some (.cells (#[.int .i64 d.v, .int .i64 d.win, .int .i64 d.span, .int .i64 d.l, .int .i64 d.f, va, v362]) 90 (0, 0)) := eV375 ▸ ((heap_setCell_same _ q 6 _ _ v362 h371).trans (congrArg (fun c => some (Obj.cells c 90 (0, 0))) (show (#[.int .i64 d.v, .int .i64 d.win, .int .i64 d.span, .int .i64 d.l, .int .i64 d.f, va, .slice A_ d.b.length c_] : Array Value).setIfInBounds 6 v362 = #[.int .i64 d.v, .int .i64 d.win, .int .i64 d.span, .int .i64 d.l, .int .i64 d.f, va, v362] from by kernel_rfl)))
          refine on_s (o_qrPutBlock 510 14) (w' := V375) (by rw [← eV375]; exact exec_store_cell 61 (.tmp 96) (.tmp 94) (by kernel_rfl) q 6 (by kernel_rfl) v362 (by kernel_rfl) (by kernel_rfl) (Row.cells1 h370) (.slice A_ d.b.length c_) (rc (h371) (by kernel_rfl)) (frozen_of_row _ _ _ _ _ h371) (Row.one h370)) ?_
          clear eV375
          have h377 := kV375.bo h372 (by omega)
          have h378 : Row V375 35 35 v362 ((k + 1) + ((d.b.drop k).length)) (((d.b.take k).flatMap Pro.cl ++ Pro.cl y) ++ ((d.b.drop k).flatMap Pro.cl)) := h370.keeps kV375 (fun j hj e => Row.ne h370 h371 (by decide) ((show j = q from e) ▸ hj))
          have K379 : Keeps ((One q)) w V375 := K373.then kV375 (fun i hi hm => by unfold Own.One at hm; subst hm; exact rfl)
          have z380 := kV375.size
          refine ⟨⟨(hsb.keeps K379 (fun j hj _ e => Row.ne hrb hq (by decide) ((show j = q from e) ▸ hj))), h377⟩, ?_⟩
          refine an_end (by kernel_rfl) ?_
          refine then_n ?_
          refine sy_sq (part_qrPutBlock 1022) (part_qrPutBlock 1023) ?_
          refine sy_reg ?_
          refine rg_plain 18 (opsAt (part_qrPutBlock 1022)) [0] (by kernel_rfl) (by kernel_rfl) ?_
          refine ps_k (o_qrPutBlock 1022 0) (.int .i64 0) ?_
          refine ps_end ?_
          refine then_n ?_
          refine sy_ret (by kernel_rfl) ?_
          refine sy_out (.int .i64 0) rfl (by kernel_rfl) ?_
          exact ⟨rfl, ⟨⟨va, v362, h376, hra.keeps K379 (fun j hj e => Row.ne hra hq (by decide) ((show j = q from e) ▸ hj)), hna, ins_row h378 hk (insK_at hk hlt_ hend), (fun j hj => by have := hw369 j hj; omega)⟩, hoa, (fun x hx => (mem_insK hx).elim (fun e => e ▸ ha) (hob x))⟩, K379⟩
      · refine on_r (o_qrPutBlock 510 8) (.slice A_ d.b.length c_) (w' := V304) (exec_ld 61 (.tmp 90) q 6 Try.underlying61 (rc (h305) (by kernel_rfl))) ?_
        refine ⟨⟨(hsb.keeps K308 (fun j hj _ e => Row.ne hrb hq (by decide) ((show j = q from e) ▸ hj))), h306⟩, ?_⟩
        refine an_v 10 (o_qrPutBlock 510 10) (cutW A_ d.b.length c_ 35 k) (fun W hS => exec_slice_fromW 61 (.tmp 91) (.tmp 92) (by kernel_rfl) A_ d.b.length c_ (by kernel_rfl) .i64 k (by kernel_rfl) 35 Try.underlying61 35 (by kernel_rfl) (by omega)) ⟨(hsb.keeps K308 (fun j hj _ e => Row.ne hrb hq (by decide) ((show j = q from e) ▸ hj))), h306⟩ ?_
        refine an_o 3 ?_
        obtain ⟨V381, eV381, lit, elit, h382, kV381⟩ := alloc_step V304 (Pro.c y) 35
        refine on_r (o_qrPutBlock 510 3) (.slice (some ⟨lit, 0, none⟩) 1 1) (w' := V381) (by rw [← eV381, ← elit]; exact exec_build1 61 35 (.tmp 85) (by kernel_rfl) (.agg (Pro.c y)) (by kernel_rfl) i0 _ Try.underlying61 hi0 hz0 35 hz1 (by decide) (by decide) (Pro.c_size y ha.r)) ?_
        clear eV381
        have h383 := kV381.bk h305
        have h384 := kV381.bk h306
        have h385 : Row V381 35 35 v291 k ((d.b.take k).flatMap Pro.cl) := h307.keeps kV381 (fun _ _ x => x)
        have K386 := K308.nn kV381
        have z387 := kV381.size
        refine ⟨⟨(hsb.keeps K386 (fun j hj _ e => Row.ne hrb hq (by decide) ((show j = q from e) ▸ hj))), h384⟩, ?_⟩
        refine an_o 4 ?_
        obtain ⟨v388, V389, hr390, h391, hg392, hn393, ha394⟩ := run_append_any (P := Try.prog) (w := V381) 61 (Oper.type (o_qrPutBlock 510 4)) 35 i0 (.agg zPro.c) 35 56 Try.underlying61 hi0 hz0 hz1 hz2 rfl (by decide) v291 k ((d.b.take k).flatMap Pro.cl) h385 (.slice (some ⟨lit, 0, none⟩) 1 1) 1 (Pro.cl y) (src_pro ha h382) (by unfold maxLen; omega) (by omega)
        have kV389 : Keeps (fun j => v291.ownBlock = some j) V381 V389 := Keeps.rowAdd hg392
        have hw395 : NewFrom (p + 1) v388 := hw298.next (lt_of_block h384) ha394
        refine on_r (o_qrPutBlock 510 4) v388 (w' := V389) (exec_append (.tmp 84) (.tmp 86) 61 (by kernel_rfl) v291 (.slice (some ⟨lit, 0, none⟩) 1 1) (by kernel_rfl) (by kernel_rfl) hr390) ?_
        have h396 : Row V389 35 35 v388 (k + 1) ((d.b.take k).flatMap Pro.cl ++ Pro.cl y) := h391
        have h397 : V389.heap[q]? = some (.cells (#[.int .i64 d.v, .int .i64 d.win, .int .i64 d.span, .int .i64 d.l, .int .i64 d.f, va, .slice A_ d.b.length c_]) 90 (0, 0)) := (kV389.block q (lt_of_block h383) (fun e => by have := hw298 _ e; omega)).trans h383
        have h398 : V389.heap[p]? = some (.cells (Pro.c y) 35 (0, 0)) := (kV389.block p (lt_of_block h384) (fun e => by have := hw298 _ e; omega)).trans h384
        have K399 : Keeps ((One q)) w V389 := K386.then kV389 (fun i hi hm => absurd hi (by have := hw298 i hm; omega))
        have z400 := kV389.size
        refine ⟨⟨(hsb.keeps K399 (fun j hj _ e => Row.ne hrb hq (by decide) ((show j = q from e) ▸ hj))), h398⟩, ?_⟩
        refine an_o 11 ?_
        obtain ⟨v401, V402, hr403, h404, hg405, hn406, ha407⟩ := run_append_any (P := Try.prog) (w := V389) 61 (Oper.type (o_qrPutBlock 510 11)) 35 i0 (.agg zPro.c) 35 56 Try.underlying61 hi0 hz0 hz1 hz2 rfl (by decide) v388 (k + 1) ((d.b.take k).flatMap Pro.cl ++ Pro.cl y) h396 (cutW A_ d.b.length c_ 35 k) ((d.b.drop k).length) ((d.b.drop k).flatMap Pro.cl) (Sl.src (Sl.drop (hsb.keeps K399 (fun j hj _ e => Row.ne hrb hq (by decide) ((show j = q from e) ▸ hj))) k (by omega) _ _ _ rfl) (fun x hx => Pro.cl_len (hob x ((List.drop_subset _ _ hx)))) (by decide) (fun x _ => Pro.cl_one)) (by unfold maxLen; omega) (by omega)
        have kV402 : Keeps (fun j => v388.ownBlock = some j) V389 V402 := Keeps.rowAdd hg405
        have hw408 : NewFrom (p + 1) v401 := hw395.next (lt_of_block h398) ha407
        refine on_r (o_qrPutBlock 510 11) v401 (w' := V402) (exec_append (.tmp 87) (.tmp 93) 61 (by kernel_rfl) v388 (cutW A_ d.b.length c_ 35 k) (by kernel_rfl) (by kernel_rfl) hr403) ?_
        have h409 : Row V402 35 35 v401 ((k + 1) + ((d.b.drop k).length)) (((d.b.take k).flatMap Pro.cl ++ Pro.cl y) ++ ((d.b.drop k).flatMap Pro.cl)) := h404
        have h410 : V402.heap[q]? = some (.cells (#[.int .i64 d.v, .int .i64 d.win, .int .i64 d.span, .int .i64 d.l, .int .i64 d.f, va, .slice A_ d.b.length c_]) 90 (0, 0)) := (kV402.block q (lt_of_block h397) (fun e => by have := hw395 _ e; omega)).trans h397
        have h411 : V402.heap[p]? = some (.cells (Pro.c y) 35 (0, 0)) := (kV402.block p (lt_of_block h398) (fun e => by have := hw395 _ e; omega)).trans h398
        have K412 : Keeps ((One q)) w V402 := K399.then kV402 (fun i hi hm => absurd hi (by have := hw395 i hm; omega))
        have z413 := kV402.size
        refine ⟨⟨(hsb.keeps K412 (fun j hj _ e => Row.ne hrb hq (by decide) ((show j = q from e) ▸ hj))), h411⟩, ?_⟩
        refine an_k 12 (o_qrPutBlock 510 12) (pT q 0) ⟨(hsb.keeps K412 (fun j hj _ e => Row.ne hrb hq (by decide) ((show j = q from e) ▸ hj))), h411⟩ ?_
        refine an_k 13 (o_qrPutBlock 510 13) (pT q 6) ⟨(hsb.keeps K412 (fun j hj _ e => Row.ne hrb hq (by decide) ((show j = q from e) ▸ hj))), h411⟩ ?_
        refine an_o 14 ?_
        obtain ⟨V414, eV414, kV414⟩ := cell_step V402 q 6 v401
        have h415 : V414.heap[q]? = some (.cells (#[.int .i64 d.v, .int .i64 d.win, .int .i64 d.span, .int .i64 d.l, .int .i64 d.f, va, v401]) 90 (0, 0)) := eV414 ▸ ((heap_setCell_same _ q 6 _ _ v401 h410).trans (congrArg (fun c => some (Obj.cells c 90 (0, 0))) (show (#[.int .i64 d.v, .int .i64 d.win, .int .i64 d.span, .int .i64 d.l, .int .i64 d.f, va, .slice A_ d.b.length c_] : Array Value).setIfInBounds 6 v401 = #[.int .i64 d.v, .int .i64 d.win, .int .i64 d.span, .int .i64 d.l, .int .i64 d.f, va, v401] from by kernel_rfl)))
        refine on_s (o_qrPutBlock 510 14) (w' := V414) (by rw [← eV414]; exact exec_store_cell 61 (.tmp 96) (.tmp 94) (by kernel_rfl) q 6 (by kernel_rfl) v401 (by kernel_rfl) (by kernel_rfl) (Row.cells1 h409) (.slice A_ d.b.length c_) (rc (h410) (by kernel_rfl)) (frozen_of_row _ _ _ _ _ h410) (Row.one h409)) ?_
        clear eV414
        have h416 := kV414.bo h411 (by omega)
        have h417 : Row V414 35 35 v401 ((k + 1) + ((d.b.drop k).length)) (((d.b.take k).flatMap Pro.cl ++ Pro.cl y) ++ ((d.b.drop k).flatMap Pro.cl)) := h409.keeps kV414 (fun j hj e => Row.ne h409 h410 (by decide) ((show j = q from e) ▸ hj))
        have K418 : Keeps ((One q)) w V414 := K412.then kV414 (fun i hi hm => by unfold Own.One at hm; subst hm; exact rfl)
        have z419 := kV414.size
        refine ⟨⟨(hsb.keeps K418 (fun j hj _ e => Row.ne hrb hq (by decide) ((show j = q from e) ▸ hj))), h416⟩, ?_⟩
        refine an_end (by kernel_rfl) ?_
        refine then_n ?_
        refine sy_sq (part_qrPutBlock 1022) (part_qrPutBlock 1023) ?_
        refine sy_reg ?_
        refine rg_plain 18 (opsAt (part_qrPutBlock 1022)) [0] (by kernel_rfl) (by kernel_rfl) ?_
        refine ps_k (o_qrPutBlock 1022 0) (.int .i64 0) ?_
        refine ps_end ?_
        refine then_n ?_
        refine sy_ret (by kernel_rfl) ?_
        refine sy_out (.int .i64 0) rfl (by kernel_rfl) ?_
        exact ⟨rfl, ⟨⟨va, v401, h415, hra.keeps K418 (fun j hj e => Row.ne hra hq (by decide) ((show j = q from e) ▸ hj)), hna, ins_row h417 hk (insK_at hk hlt_ hend), (fun j hj => by have := hw408 j hj; omega)⟩, hoa, (fun x hx => (mem_insK hx).elim (fun e => e ▸ ha) (hob x))⟩, K418⟩
theorem qrPutBlock_ok (q base : Nat) (d : DRec) (y : Pro) (w : World) (H : RefAt w q base d) (ha : y.Ok) (hbd : i64b (d.f + d.span)) (hbase : base ≤ w.heap.size) (hmax : d.b.length ≤ 300000) : Calls Try.prog 48 #[.pointer (some ⟨q, 0, none⟩), .agg (Pro.c y)] w fun e w' => e = .returned (.int .i64 (qrPutBlockErr d y)) ∧ RefAt w' q base (if qrPutBlockErr d y = 0 then { d with b := (insK (·.h) d.b y) } else d) ∧ Keeps (One q) w w' := by
  by_cases h0 : qrPutBlockErr d y = 0
  · have h1 := h0
    unfold qrPutBlockErr at h1
    by_cases g0 : y.err = 0
    · rw [if_neg (by omega)] at h1
      by_cases g1 : y.v = d.v
      · rw [if_neg (by omega)] at h1
        by_cases g2 : y.h < d.f
        · rw [if_pos g2] at h1; omega
        · rw [if_neg g2] at h1
          by_cases g3 : d.f + d.span ≤ y.h
          · rw [if_pos g3] at h1; omega
          · rw [if_neg g3] at h1
            cases hIS : (findK (·.h) d.b y.h).isSome with
            | true => rw [hIS] at h1; simp at h1
            | false => rw [h0, if_pos rfl]; exact qrPutBlock_fine q base d y w H ha hbd g0 g1 g2 g3 hIS hbase hmax
      · rw [if_pos g1] at h1; omega
    · rw [if_pos g0] at h1; omega
  · rw [if_neg h0]; exact (qrPutBlock_bad q base d y w H ha hbd h0).mono fun e w' ⟨he, k⟩ => ⟨he, H.keepsN k, k.mono (fun _ _ x => x.elim)⟩
end Go.Proofs.Ytgipooedgbbliaa
