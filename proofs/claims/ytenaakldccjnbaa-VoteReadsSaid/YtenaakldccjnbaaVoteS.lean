/-
  Votes: read, by the document (printed by vote9.py). Conditions: none.
-/
import Derived.Test.YtenaakldccjnbaaVoteR
import Derived.Test.YtenaakldccjnbaaVoteEq
import Derived.Test.YtenaakldccjnbaaCodT
namespace Go.Proofs.Ytenaakldccjnbaa
open Go Go.RowKit Go.Own Go.Shelf
theorem rrU_nat (b : Nat) (v : Value) (l : List UInt8) (s : RS) (w : World) (h : RrAt w b v l s) : Calls Try.prog 51 #[.pointer (some ⟨b, 0, none⟩)] w fun e w' => e = .returned (.int .u64 (((rdU l s).1.toNat : Nat) : Int)) ∧ RrAt w' b v l (rdU l s).2 ∧ Keeps (One b) w w' := by
  rw [← rdU_nn]; exact rrU_ok b v l s w h
theorem fin_zero {s : RS} {l : List UInt8} (h : (s.fin l).1 = 0) : (s.fin l).2 = 0 := by
  unfold RS.fin at h ⊢
  by_cases h0 : s.err = 0
  · rw [if_pos h0] at h ⊢
    by_cases h1 : s.pos < l.length
    · rw [if_pos h1] at h; cases h
    · rw [if_neg h1]
  · rw [if_neg h0] at h; exact absurd h h0

noncomputable def part_rvRead (n : Nat) : Code := partOf Try.f12 n
noncomputable abbrev o_rvRead (n k : Nat) : Oper := (opsAt (part_rvRead n)).getD k default
set_option maxRecDepth 100000 in
set_option maxHeartbeats 4000000 in
theorem rvRead_ok (v0 : Value) (l : List UInt8) (w : World) (hx : BytesAt w v0 l) (hl : l.length ≤ 100000000) (hz : (aF l).1 = 0) :
    Calls Try.prog 12 #[v0] w (fun e w' => e = .returned (.tuple #[.agg (Att.c (aRes l)), .agg #[.int .i64 (aF l).1, .int .i64 (aF l).2]]) ∧ Keeps Nob w w') := by
  have K0 : Keeps Nob w w := Keeps.refl _ _
  refine sy_enter (part_rvRead 1) ⟨#[v0, undef, undef, undef, undef, undef, undef, undef, undef, undef, undef, undef, undef, undef, undef, undef, undef, undef, undef, undef, undef, undef, undef, undef, undef, undef, undef, undef, undef, undef, undef, undef, undef, undef, undef], []⟩ Try.func12 (by kernel_rfl) (by kernel_rfl) ?_
  refine sy_sq (part_rvRead 2) (part_rvRead 3) ?_
  refine sy_reg ?_
  refine rg_plain 0 (opsAt (part_rvRead 2)) [0, 1] (by kernel_rfl) (by kernel_rfl) ?_
  obtain ⟨V1, eV1, ga, ega, h2, kV1⟩ := alloc_step w (#[.int .i64 0, .int .i64 0, .int .i64 0, .int .u8 0, .int .u8 0, .int .u8 0, .int .u8 0, .int .u8 0, .int .u8 0, .int .u8 0, .int .u8 0, .int .u8 0, .int .u8 0, .int .u8 0, .int .u8 0, .int .u8 0, .int .u8 0, .int .u8 0, .int .u8 0, .int .u8 0, .int .u8 0, .int .u8 0, .int .u8 0, .int .u8 0, .int .u8 0, .int .u8 0, .int .u8 0, .int .u8 0, .int .u8 0, .int .u8 0, .int .u8 0, .int .u8 0, .int .u8 0, .int .u8 0, .int .u8 0, .int .u64 0]) 29
  have n3 : w.heap.size ≤ ga := ega ▸ K0.size
  refine ps_r (o_rvRead 2 0) (pT ga 0) (w' := V1) (by rw [← eV1, ← ega]; exact exec_alloc0 29 (by kernel_rfl) (.agg (#[.int .i64 0, .int .i64 0, .int .i64 0, .int .u8 0, .int .u8 0, .int .u8 0, .int .u8 0, .int .u8 0, .int .u8 0, .int .u8 0, .int .u8 0, .int .u8 0, .int .u8 0, .int .u8 0, .int .u8 0, .int .u8 0, .int .u8 0, .int .u8 0, .int .u8 0, .int .u8 0, .int .u8 0, .int .u8 0, .int .u8 0, .int .u8 0, .int .u8 0, .int .u8 0, .int .u8 0, .int .u8 0, .int .u8 0, .int .u8 0, .int .u8 0, .int .u8 0, .int .u8 0, .int .u8 0, .int .u8 0, .int .u64 0])) (by kernel_rfl)) ?_
  clear eV1
  have K4 := K0.nn kV1
  have z5 := kV1.size
  obtain ⟨V6, eV6, gf, egf, h7, kV6⟩ := alloc_step V1 (#[.int .i64 0, .int .i64 0]) 32
  have n8 : ga < gf := egf ▸ lt_of_block h2
  have n9 : w.heap.size ≤ gf := egf ▸ K4.size
  refine ps_r (o_rvRead 2 1) (pT gf 0) (w' := V6) (by rw [← eV6, ← egf]; exact exec_alloc0 32 (by kernel_rfl) (.agg (#[.int .i64 0, .int .i64 0])) (by kernel_rfl)) ?_
  clear eV6
  have h10 := kV6.bk h2
  have K11 := K4.nn kV6
  have z12 := kV6.size
  refine ps_end ?_
  refine then_n ?_
  refine sy_sq (part_rvRead 6) (part_rvRead 7) ?_
  refine sy_reg ?_
  refine rg_plain 1 (opsAt (part_rvRead 6)) [0, 1, 2] (by kernel_rfl) (by kernel_rfl) ?_
  refine ps_k (o_rvRead 6 0) (v0) ?_
  have hlg := lt_of_block h10
  have hlf := lt_of_block h7
  have hKs := K11.size
  refine ps_c (o_rvRead 6 1) 48 #[v0] Try.func48 ((rrNew_ok v0 l _ (hx.keepsN K11) hl).mono ?_)
  rintro e V13 ⟨b, rv, rfl, hR0, hb0, hov, kV13⟩
  have hbl := hR0.lt
  refine ⟨_, rfl, ?_⟩
  have h14 := kV13.bk h10
  have h15 := kV13.bk h7
  have K16 := K11.nn kV13
  have z17 := kV13.size
  refine ps_k (o_rvRead 6 2) (pT b 0) ?_
  refine ps_end ?_
  refine then_n ?_
  refine sy_sq (part_rvRead 14) (part_rvRead 15) ?_
  refine sy_reg ?_
  refine rg_plain 2 (opsAt (part_rvRead 14)) [0, 1] (by kernel_rfl) (by kernel_rfl) ?_
  refine ps_k (o_rvRead 14 0) (pT b 0) ?_
  refine ps_c (o_rvRead 14 1) 49 #[pT b 0, .int .i64 1, .int .i64 1] Try.func49 ((rrN_ok b rv l ⟨0, 0⟩ 1 1 _ hR0 (by decide) (by decide)).mono ?_)
  rintro e V18 ⟨rfl, hV18, kV18⟩
  have hR1 : RrAt V18 b rv l (aS1 l) := hV18
  refine ⟨_, rfl, ?_⟩
  have h19 := kV18.bo h14 (by omega)
  have h20 := kV18.bo h15 (by omega)
  have K21 := K16.no kV18 (by omega)
  have z22 := kV18.size
  refine ps_end ?_
  refine then_n ?_
  refine sy_sq (part_rvRead 30) (part_rvRead 31) ?_
  refine sy_reg ?_
  refine rg_plain 3 (opsAt (part_rvRead 30)) [0] (by kernel_rfl) (by kernel_rfl) ?_
  obtain ⟨V23, eV23, gx, egx, h24, kV23⟩ := alloc_step V18 (#[.int .i64 0, .int .i64 0, .int .i64 0, .int .u8 0, .int .u8 0, .int .u8 0, .int .u8 0, .int .u8 0, .int .u8 0, .int .u8 0, .int .u8 0, .int .u8 0, .int .u8 0, .int .u8 0, .int .u8 0, .int .u8 0, .int .u8 0, .int .u8 0, .int .u8 0, .int .u8 0, .int .u8 0, .int .u8 0, .int .u8 0, .int .u8 0, .int .u8 0, .int .u8 0, .int .u8 0, .int .u8 0, .int .u8 0, .int .u8 0, .int .u8 0, .int .u8 0, .int .u8 0, .int .u8 0, .int .u8 0, .int .u64 0]) 29
  have n25 : ga < gx := egx ▸ lt_of_block h19
  have n26 : gf < gx := egx ▸ lt_of_block h20
  have n27 : w.heap.size ≤ gx := egx ▸ K21.size
  refine ps_r (o_rvRead 30 0) (pT gx 0) (w' := V23) (by rw [← eV23, ← egx]; exact exec_alloc0 29 (by kernel_rfl) (.agg (#[.int .i64 0, .int .i64 0, .int .i64 0, .int .u8 0, .int .u8 0, .int .u8 0, .int .u8 0, .int .u8 0, .int .u8 0, .int .u8 0, .int .u8 0, .int .u8 0, .int .u8 0, .int .u8 0, .int .u8 0, .int .u8 0, .int .u8 0, .int .u8 0, .int .u8 0, .int .u8 0, .int .u8 0, .int .u8 0, .int .u8 0, .int .u8 0, .int .u8 0, .int .u8 0, .int .u8 0, .int .u8 0, .int .u8 0, .int .u8 0, .int .u8 0, .int .u8 0, .int .u8 0, .int .u8 0, .int .u8 0, .int .u64 0])) (by kernel_rfl)) ?_
  clear eV23
  have h28 := kV23.bk h19
  have h29 := kV23.bk h20
  have h30 : RrAt V23 b rv l (aS1 l) := hR1.keeps kV23 (fun x => x) (fun _ _ x => x)
  have K31 := K21.nn kV23
  have z32 := kV23.size
  refine ps_end ?_
  refine then_n ?_
  refine sy_sq (part_rvRead 62) (part_rvRead 63) ?_
  have h33 : V23.heap[gx]? = some (.cells (Att.c attZero) 29 (0, 0)) := h24.trans (by kernel_rfl)
  refine sy_reg ?_
  refine rg_plain 4 (opsAt (part_rvRead 62)) [0, 1, 2, 3] (by kernel_rfl) (by kernel_rfl) ?_
  refine ps_k (o_rvRead 62 0) (pT b 0) ?_
  refine ps_c (o_rvRead 62 1) 49 #[pT b 0, .int .i64 0, .int .i64 31] Try.func49 ((rrN_ok b rv l (aS1 l) 0 31 _ h30 (by decide) (by decide)).mono ?_)
  rintro e V34 ⟨rfl, hV34, kV34⟩
  have hR2 : RrAt V34 b rv l (aV l).2 := hV34
  refine ⟨_, rfl, ?_⟩
  have h35 := kV34.bo h28 (by omega)
  have h36 := kV34.bo h29 (by omega)
  have h37 := kV34.bo h33 (by omega)
  have K38 := K31.no kV34 (by omega)
  have z39 := kV34.size
  refine ps_k (o_rvRead 62 2) (pT gx 0) ?_
  obtain ⟨V40, eV40, kV40⟩ := cell_step V34 gx 0 (.int .i64 (aV l).1)
  have h41 : V40.heap[gx]? = some (.cells (Att.c ⟨(aV l).1, attZero.s, attZero.t, attZero.r, attZero.g⟩) 29 (0, 0)) := eV40 ▸ ((heap_setCell_same _ gx 0 _ _ (.int .i64 (aV l).1) h37).trans (congrArg (fun c => some (Obj.cells c 29 (0, 0))) (show (Att.c attZero : Array Value).setIfInBounds 0 (.int .i64 (aV l).1) = Att.c ⟨(aV l).1, attZero.s, attZero.t, attZero.r, attZero.g⟩ from Att.c_set0 _ _)))
  refine ps_s (o_rvRead 62 3) (w' := V40) (by rw [← eV40]; exact exec_store_cell 3 (.tmp 13) (.tmp 12) (by kernel_rfl) gx 0 (by kernel_rfl) (.int .i64 (aV l).1) (by kernel_rfl) (by kernel_rfl) (by kernel_rfl) (.int .i64 attZero.v) (rc (h37) (Att.c_0 _)) (frozen_of_row _ _ _ _ _ h37) (by kernel_rfl)) ?_
  clear eV40
  have h42 := kV40.bo h35 (by omega)
  have h43 := kV40.bo h36 (by omega)
  have h44 : RrAt V40 b rv l (aV l).2 := hR2.keeps kV40 (by unfold Own.One; omega) (fun j hj e => by have := hov j hj; unfold Own.One at e; omega)
  have K45 := K38.no kV40 (by omega)
  have z46 := kV40.size
  refine ps_end ?_
  refine then_n ?_
  refine sy_sq (part_rvRead 126) (part_rvRead 127) ?_
  refine sy_reg ?_
  refine rg_plain 5 (opsAt (part_rvRead 126)) [0, 1, 2, 3] (by kernel_rfl) (by kernel_rfl) ?_
  refine ps_k (o_rvRead 126 0) (pT b 0) ?_
  refine ps_c (o_rvRead 126 1) 49 #[pT b 0, .int .i64 0, .int .i64 4294967296] Try.func49 ((rrN_ok b rv l (aV l).2 0 4294967296 _ h44 (by decide) (by decide)).mono ?_)
  rintro e V47 ⟨rfl, hV47, kV47⟩
  have hR3 : RrAt V47 b rv l (aS l).2 := hV47
  refine ⟨_, rfl, ?_⟩
  have h48 := kV47.bo h42 (by omega)
  have h49 := kV47.bo h43 (by omega)
  have h50 := kV47.bo h41 (by omega)
  have K51 := K45.no kV47 (by omega)
  have z52 := kV47.size
  refine ps_k (o_rvRead 126 2) (pT gx 1) ?_
  obtain ⟨V53, eV53, kV53⟩ := cell_step V47 gx 1 (.int .i64 (aS l).1)
  have h54 : V53.heap[gx]? = some (.cells (Att.c ⟨(aV l).1, (aS l).1, attZero.t, attZero.r, attZero.g⟩) 29 (0, 0)) := eV53 ▸ ((heap_setCell_same _ gx 1 _ _ (.int .i64 (aS l).1) h50).trans (congrArg (fun c => some (Obj.cells c 29 (0, 0))) (show (Att.c ⟨(aV l).1, attZero.s, attZero.t, attZero.r, attZero.g⟩ : Array Value).setIfInBounds 1 (.int .i64 (aS l).1) = Att.c ⟨(aV l).1, (aS l).1, attZero.t, attZero.r, attZero.g⟩ from Att.c_set1 _ _)))
  refine ps_s (o_rvRead 126 3) (w' := V53) (by rw [← eV53]; exact exec_store_cell 3 (.tmp 16) (.tmp 15) (by kernel_rfl) gx 1 (by kernel_rfl) (.int .i64 (aS l).1) (by kernel_rfl) (by kernel_rfl) (by kernel_rfl) (.int .i64 attZero.s) (rc (h50) (Att.c_1 _)) (frozen_of_row _ _ _ _ _ h50) (by kernel_rfl)) ?_
  clear eV53
  have h55 := kV53.bo h48 (by omega)
  have h56 := kV53.bo h49 (by omega)
  have h57 : RrAt V53 b rv l (aS l).2 := hR3.keeps kV53 (by unfold Own.One; omega) (fun j hj e => by have := hov j hj; unfold Own.One at e; omega)
  have K58 := K51.no kV53 (by omega)
  have z59 := kV53.size
  refine ps_end ?_
  refine then_n ?_
  refine sy_sq (part_rvRead 254) (part_rvRead 255) ?_
  refine sy_reg ?_
  refine rg_plain 6 (opsAt (part_rvRead 254)) [0, 1, 2, 3] (by kernel_rfl) (by kernel_rfl) ?_
  refine ps_k (o_rvRead 254 0) (pT b 0) ?_
  refine ps_c (o_rvRead 254 1) 49 #[pT b 0, .int .i64 0, .int .i64 4294967296] Try.func49 ((rrN_ok b rv l (aS l).2 0 4294967296 _ h57 (by decide) (by decide)).mono ?_)
  rintro e V60 ⟨rfl, hV60, kV60⟩
  have hR4 : RrAt V60 b rv l (aT l).2 := hV60
  refine ⟨_, rfl, ?_⟩
  have h61 := kV60.bo h55 (by omega)
  have h62 := kV60.bo h56 (by omega)
  have h63 := kV60.bo h54 (by omega)
  have K64 := K58.no kV60 (by omega)
  have z65 := kV60.size
  refine ps_k (o_rvRead 254 2) (pT gx 2) ?_
  obtain ⟨V66, eV66, kV66⟩ := cell_step V60 gx 2 (.int .i64 (aT l).1)
  have h67 : V66.heap[gx]? = some (.cells (Att.c ⟨(aV l).1, (aS l).1, (aT l).1, attZero.r, attZero.g⟩) 29 (0, 0)) := eV66 ▸ ((heap_setCell_same _ gx 2 _ _ (.int .i64 (aT l).1) h63).trans (congrArg (fun c => some (Obj.cells c 29 (0, 0))) (show (Att.c ⟨(aV l).1, (aS l).1, attZero.t, attZero.r, attZero.g⟩ : Array Value).setIfInBounds 2 (.int .i64 (aT l).1) = Att.c ⟨(aV l).1, (aS l).1, (aT l).1, attZero.r, attZero.g⟩ from Att.c_set2 _ _)))
  refine ps_s (o_rvRead 254 3) (w' := V66) (by rw [← eV66]; exact exec_store_cell 3 (.tmp 19) (.tmp 18) (by kernel_rfl) gx 2 (by kernel_rfl) (.int .i64 (aT l).1) (by kernel_rfl) (by kernel_rfl) (by kernel_rfl) (.int .i64 attZero.t) (rc (h63) (Att.c_2 _)) (frozen_of_row _ _ _ _ _ h63) (by kernel_rfl)) ?_
  clear eV66
  have h68 := kV66.bo h61 (by omega)
  have h69 := kV66.bo h62 (by omega)
  have h70 : RrAt V66 b rv l (aT l).2 := hR4.keeps kV66 (by unfold Own.One; omega) (fun j hj e => by have := hov j hj; unfold Own.One at e; omega)
  have K71 := K64.no kV66 (by omega)
  have z72 := kV66.size
  refine ps_end ?_
  refine then_n ?_
  refine sy_sq (part_rvRead 510) (part_rvRead 511) ?_
  refine sy_reg ?_
  refine rg_plain 7 (opsAt (part_rvRead 510)) [0, 1, 2, 3] (by kernel_rfl) (by kernel_rfl) ?_
  refine ps_k (o_rvRead 510 0) (pT b 0) ?_
  refine ps_c (o_rvRead 510 1) 50 #[pT b 0] Try.func50 ((rrHash_ok b rv l (aT l).2 _ h70 hl).mono ?_)
  rintro e V73 ⟨rfl, hV73, kV73⟩
  have hR5 : RrAt V73 b rv l (aR l).2 := hV73
  refine ⟨_, rfl, ?_⟩
  have h74 := kV73.bo h68 (by omega)
  have h75 := kV73.bo h69 (by omega)
  have h76 := kV73.bo h67 (by omega)
  have K77 := K71.no kV73 (by omega)
  have z78 := kV73.size
  refine ps_k (o_rvRead 510 2) (pT gx 3) ?_
  obtain ⟨V79, eV79⟩ : ∃ V, V73.setCells gx 3 (B (aR l).1).toArray.toList = V := ⟨_, rfl⟩
  have kV79 : Keeps (One gx) V73 V79 := eV79 ▸ Keeps.setCells _ _ _ _
  have h80 : V79.heap[gx]? = some (.cells (Att.c ⟨(aV l).1, (aS l).1, (aT l).1, (aR l).1, attZero.g⟩) 29 (0, 0)) := eV79 ▸ (heap_setCells gx _ _ 3 _ _ h76 (by rw [Att.c_size _ rfl]; simp [B_length, (aR_len l)])).trans (congrArg (fun c => some (Obj.cells c 29 (0, 0))) (Att.c_seth _ (aR l).1 rfl (aR_len l)))
  refine ps_s (o_rvRead 510 3) (w' := V79) (by rw [← eV79]; exact exec_store_mid 26 (.tmp 22) (.tmp 21) (by kernel_rfl) gx 3 (by kernel_rfl) (B (aR l).1).toArray (by kernel_rfl) _ _ h76 (by rw [Att.c_size _ rfl]; simp [B_length, (aR_len l)]) (by rw [Bz_size, (aR_len l)]; kernel_rfl) (by rw [List.all_toArray]; exact List.all_eq_true.2 (B_one _))) ?_
  clear eV79
  have h81 := kV79.bo h74 (by omega)
  have h82 := kV79.bo h75 (by omega)
  have h83 : RrAt V79 b rv l (aR l).2 := hR5.keeps kV79 (by unfold Own.One; omega) (fun j hj e => by have := hov j hj; unfold Own.One at e; omega)
  have K84 := K77.no kV79 (by omega)
  have z85 := kV79.size
  refine ps_end ?_
  refine sy_a ⟨#[v0, undef, pT ga 0, pT gf 0, pT b 0, pT gx 0, undef, v0, pT b 0, pT b 0, .int .i64 (rdN l ⟨0, 0⟩ 1 1).1, pT b 0, .int .i64 (aV l).1, pT gx 0, pT b 0, .int .i64 (aS l).1, pT gx 1, pT b 0, .int .i64 (aT l).1, pT gx 2, pT b 0, .agg (B (aR l).1).toArray, pT gx 3, undef, undef, undef, undef, undef, undef, undef, undef, undef, undef, undef, undef], []⟩ ?_
  refine then_n ?_
  refine sy_sq (part_rvRead 1022) (part_rvRead 1023) ?_
  refine sy_reg ?_
  refine rg_plain 8 (opsAt (part_rvRead 1022)) [0, 1, 2, 3] (by kernel_rfl) (by kernel_rfl) ?_
  refine ps_k (o_rvRead 1022 0) (pT b 0) ?_
  refine ps_c (o_rvRead 1022 1) 51 #[pT b 0] Try.func51 ((rrU_nat b rv l (aR l).2 _ h83).mono ?_)
  rintro e V86 ⟨rfl, hV86, kV86⟩
  have hR6 : RrAt V86 b rv l (aG l).2 := hV86
  refine ⟨_, rfl, ?_⟩
  have h87 := kV86.bo h81 (by omega)
  have h88 := kV86.bo h82 (by omega)
  have h89 := kV86.bo h80 (by omega)
  have K90 := K84.no kV86 (by omega)
  have z91 := kV86.size
  refine ps_k (o_rvRead 1022 2) (pT gx 35) ?_
  obtain ⟨V92, eV92, kV92⟩ := cell_step V86 gx 35 (.int .u64 (((aG l).1.toNat : Nat) : Int))
  have h93 : V92.heap[gx]? = some (.cells (Att.c ⟨(aV l).1, (aS l).1, (aT l).1, (aR l).1, (aG l).1.toNat⟩) 29 (0, 0)) := eV92 ▸ ((heap_setCell_same _ gx 35 _ _ (.int .u64 (((aG l).1.toNat : Nat) : Int)) h89).trans (congrArg (fun c => some (Obj.cells c 29 (0, 0))) (show (Att.c ⟨(aV l).1, (aS l).1, (aT l).1, (aR l).1, attZero.g⟩ : Array Value).setIfInBounds 35 (.int .u64 (((aG l).1.toNat : Nat) : Int)) = Att.c ⟨(aV l).1, (aS l).1, (aT l).1, (aR l).1, (aG l).1.toNat⟩ from Att.c_settag _ _ (aR_len l))))
  refine ps_s (o_rvRead 1022 3) (w' := V92) (by rw [← eV92]; exact exec_store_cell 27 (.tmp 25) (.tmp 24) (by kernel_rfl) gx 35 (by kernel_rfl) (uN ((aG l).1.toNat)) (by kernel_rfl) (by kernel_rfl) (by kernel_rfl) (uN attZero.g) (rc (h89) (Att.c_tag _ (aR_len l))) (frozen_of_row _ _ _ _ _ h89) (by kernel_rfl)) ?_
  clear eV92
  have h94 := kV92.bo h87 (by omega)
  have h95 := kV92.bo h88 (by omega)
  have h96 : RrAt V92 b rv l (aG l).2 := hR6.keeps kV92 (by unfold Own.One; omega) (fun j hj e => by have := hov j hj; unfold Own.One at e; omega)
  have K97 := K90.no kV92 (by omega)
  have z98 := kV92.size
  refine ps_end ?_
  refine then_n ?_
  refine sy_sq (part_rvRead 2046) (part_rvRead 2047) ?_
  refine sy_sq (part_rvRead 4092) (part_rvRead 4093) ?_
  refine sy_reg ?_
  refine rg_plain 9 (opsAt (part_rvRead 4092)) [0, 1, 2, 3] (by kernel_rfl) (by kernel_rfl) ?_
  refine ps_k (o_rvRead 4092 0) (pT b 0) ?_
  refine ps_c (o_rvRead 4092 1) 52 #[pT b 0] Try.func52 ((rrEnd_ok b rv l (aG l).2 _ h96).mono ?_)
  rintro e V99 ⟨rfl, kV99⟩
  refine ⟨_, rfl, ?_⟩
  have h100 := kV99.bk h94
  have h101 := kV99.bk h95
  have h102 := kV99.bk h93
  have K103 := K97.nn kV99
  have z104 := kV99.size
  obtain ⟨V105, eV105, gy, egy, h106, kV105⟩ := alloc_step V99 (#[.int .i64 0, .int .i64 0]) 32
  have n107 : ga < gy := egy ▸ lt_of_block h100
  have n108 : gf < gy := egy ▸ lt_of_block h101
  have n109 : gx < gy := egy ▸ lt_of_block h102
  have n110 : w.heap.size ≤ gy := egy ▸ K103.size
  refine ps_r (o_rvRead 4092 2) (pT gy 0) (w' := V105) (by rw [← eV105, ← egy]; exact exec_alloc0 32 (by kernel_rfl) (.agg (#[.int .i64 0, .int .i64 0])) (by kernel_rfl)) ?_
  clear eV105
  have h111 := kV105.bk h100
  have h112 := kV105.bk h101
  have h113 := kV105.bk h102
  have K114 := K103.nn kV105
  have z115 := kV105.size
  obtain ⟨V116, eV116, kV116⟩ := rowset_step V105 gy (#[.int .i64 (aF l).1, .int .i64 (aF l).2])
  have h117 : V116.heap[gy]? = some (.cells (#[.int .i64 (aF l).1, .int .i64 (aF l).2]) 32 (0, 0)) := eV116 ▸ setRow_heap _ _ _ _ _ _ h106
  refine ps_s (o_rvRead 4092 3) (w' := V116) (by rw [← eV116]; exact exec_store_row 32 (.tmp 6) (.tmp 27) (by kernel_rfl) gy (#[.int .i64 (aF l).1, .int .i64 (aF l).2]) (by kernel_rfl) (by kernel_rfl) 32 (#[.int .i64 0, .int .i64 0]) h106 (by kernel_rfl) rfl (by kernel_rfl)) ?_
  clear eV116
  have h118 := kV116.bo h111 (by omega)
  have h119 := kV116.bo h112 (by omega)
  have h120 := kV116.bo h113 (by omega)
  have K121 := K114.no kV116 (by omega)
  have z122 := kV116.size
  refine ps_end ?_
  refine then_n ?_
  refine sy_sq (part_rvRead 8186) (part_rvRead 8187) ?_
  refine sy_reg ?_
  refine rg_plain 10 (opsAt (part_rvRead 8186)) [0, 1, 2] (by kernel_rfl) (by kernel_rfl) ?_
  refine ps_p (o_rvRead 8186 0) (.agg #[.int .i64 (aF l).1, .int .i64 (aF l).2]) (exec_load_row 32 (.tmp 6) (by kernel_rfl) gy (by kernel_rfl) _ _ (0, 0) _ (h117) Try.underlying32 rfl (by kernel_rfl)) ?_
  refine ps_k (o_rvRead 8186 1) (.agg #[.int .i64 0, .int .i64 0]) ?_
  refine ps_p (o_rvRead 8186 2) (.bool false) (exec_cast (congrArg Value.bool (fault_ok ⟨hz, fin_zero hz⟩)) (exec_binop .neq 32 32 (.tmp 28) (.tmp 29) (by kernel_rfl) (.agg #[.int .i64 (aF l).1, .int .i64 (aF l).2]) (.agg #[.int .i64 0, .int .i64 0]) _ (by kernel_rfl) (by kernel_rfl) (run_eqGuard_agg _ _ _ _ _ _ _ fault_guard) (fault_ne _ _ _ _ _))) ?_
  refine ps_end ?_
  refine then_n ?_
  refine sy_n (.tmp 30) (part_rvRead 16374) (part_rvRead 16375) ?_
  refine sy_sk ?_
  refine then_n ?_
  refine sy_sq (part_rvRead 4094) (part_rvRead 4095) ?_
  refine sy_reg ?_
  refine rg_plain 12 (opsAt (part_rvRead 4094)) [0, 1, 2, 3] (by kernel_rfl) (by kernel_rfl) ?_
  refine ps_p (o_rvRead 4094 0) (.agg (Att.c ⟨(aV l).1, (aS l).1, (aT l).1, (aR l).1, (aG l).1.toNat⟩)) (exec_load_row 29 (.tmp 5) (by kernel_rfl) gx (by kernel_rfl) _ _ (0, 0) _ (h120) Try.underlying29 rfl (by rw [Att.c_size _ (aR_len l)]; kernel_rfl)) ?_
  refine ps_k (o_rvRead 4094 1) (.agg #[.int .i64 0, .int .i64 0]) ?_
  obtain ⟨V123, eV123, kV123⟩ := rowset_step V116 ga ((Att.c ⟨(aV l).1, (aS l).1, (aT l).1, (aR l).1, (aG l).1.toNat⟩))
  have h124 : V123.heap[ga]? = some (.cells (Att.c (aAtt l)) 29 (0, 0)) := eV123 ▸ setRow_heap _ _ _ _ _ _ h118
  refine ps_s (o_rvRead 4094 2) (w' := V123) (by rw [← eV123]; exact exec_store_row 29 (.tmp 2) (.tmp 33) (by kernel_rfl) ga ((Att.c ⟨(aV l).1, (aS l).1, (aT l).1, (aR l).1, (aG l).1.toNat⟩)) (by kernel_rfl) (by kernel_rfl) 29 (#[.int .i64 0, .int .i64 0, .int .i64 0, .int .u8 0, .int .u8 0, .int .u8 0, .int .u8 0, .int .u8 0, .int .u8 0, .int .u8 0, .int .u8 0, .int .u8 0, .int .u8 0, .int .u8 0, .int .u8 0, .int .u8 0, .int .u8 0, .int .u8 0, .int .u8 0, .int .u8 0, .int .u8 0, .int .u8 0, .int .u8 0, .int .u8 0, .int .u8 0, .int .u8 0, .int .u8 0, .int .u8 0, .int .u8 0, .int .u8 0, .int .u8 0, .int .u8 0, .int .u8 0, .int .u8 0, .int .u8 0, .int .u64 0]) h118 (by rw [Att.c_size _ (aR_len l)]; kernel_rfl) (by rw [Att.c_size _ (aR_len l)]; rfl) (Att.c_one _)) ?_
  clear eV123
  have h125 := kV123.bo h119 (by omega)
  have h126 := kV123.bo h120 (by omega)
  have h127 := kV123.bo h117 (by omega)
  have K128 := K121.no kV123 (by omega)
  have z129 := kV123.size
  obtain ⟨V130, eV130, kV130⟩ := rowset_step V123 gf (#[.int .i64 0, .int .i64 0])
  have h131 : V130.heap[gf]? = some (.cells (#[.int .i64 0, .int .i64 0]) 32 (0, 0)) := eV130 ▸ setRow_heap _ _ _ _ _ _ h125
  refine ps_s (o_rvRead 4094 3) (w' := V130) (by rw [← eV130]; exact exec_store_row 32 (.tmp 3) (.tmp 34) (by kernel_rfl) gf (#[.int .i64 0, .int .i64 0]) (by kernel_rfl) (by kernel_rfl) 32 (#[.int .i64 0, .int .i64 0]) h125 (by kernel_rfl) rfl (by kernel_rfl)) ?_
  clear eV130
  have h132 := kV130.bo h126 (by omega)
  have h133 := kV130.bo h127 (by omega)
  have h134 := kV130.bo h124 (by omega)
  have K135 := K128.no kV130 (by omega)
  have z136 := kV130.size
  refine ps_end ?_
  refine then_n ?_
  refine sy_ret (by kernel_rfl) ?_
  refine sy_out (.tuple #[.agg (Att.c (aAtt l)), .agg #[.int .i64 0, .int .i64 0]]) rfl (results_rows2 (p := 2) (q := 3) (ty := 29) (tz := 32) (by kernel_rfl) _ _ ga gf 29 32 (Att.c (aAtt l)) (#[.int .i64 0, .int .i64 0]) (0, 0) (0, 0) _ _ (by kernel_rfl) h134 Try.underlying29 rfl (by rw [Att.c_size _ (aR_len l)]; kernel_rfl) (by kernel_rfl) h131 Try.underlying32 rfl (by kernel_rfl)) ?_
  exact ⟨by rw [show (aRes l) = (aAtt l) from if_pos hz, hz, show (aF l).2 = 0 from fin_zero hz], K135⟩
set_option maxRecDepth 100000 in
set_option maxHeartbeats 4000000 in
theorem rvRead_no (v0 : Value) (l : List UInt8) (w : World) (hx : BytesAt w v0 l) (hl : l.length ≤ 100000000) (hz : ¬ (aF l).1 = 0) :
    Calls Try.prog 12 #[v0] w (fun e w' => e = .returned (.tuple #[.agg (Att.c (aRes l)), .agg #[.int .i64 (aF l).1, .int .i64 (aF l).2]]) ∧ Keeps Nob w w') := by
  have K0 : Keeps Nob w w := Keeps.refl _ _
  refine sy_enter (part_rvRead 1) ⟨#[v0, undef, undef, undef, undef, undef, undef, undef, undef, undef, undef, undef, undef, undef, undef, undef, undef, undef, undef, undef, undef, undef, undef, undef, undef, undef, undef, undef, undef, undef, undef, undef, undef, undef, undef], []⟩ Try.func12 (by kernel_rfl) (by kernel_rfl) ?_
  refine sy_sq (part_rvRead 2) (part_rvRead 3) ?_
  refine sy_reg ?_
  refine rg_plain 0 (opsAt (part_rvRead 2)) [0, 1] (by kernel_rfl) (by kernel_rfl) ?_
  obtain ⟨V1, eV1, ga, ega, h2, kV1⟩ := alloc_step w (#[.int .i64 0, .int .i64 0, .int .i64 0, .int .u8 0, .int .u8 0, .int .u8 0, .int .u8 0, .int .u8 0, .int .u8 0, .int .u8 0, .int .u8 0, .int .u8 0, .int .u8 0, .int .u8 0, .int .u8 0, .int .u8 0, .int .u8 0, .int .u8 0, .int .u8 0, .int .u8 0, .int .u8 0, .int .u8 0, .int .u8 0, .int .u8 0, .int .u8 0, .int .u8 0, .int .u8 0, .int .u8 0, .int .u8 0, .int .u8 0, .int .u8 0, .int .u8 0, .int .u8 0, .int .u8 0, .int .u8 0, .int .u64 0]) 29
  have n3 : w.heap.size ≤ ga := ega ▸ K0.size
  refine ps_r (o_rvRead 2 0) (pT ga 0) (w' := V1) (by rw [← eV1, ← ega]; exact exec_alloc0 29 (by kernel_rfl) (.agg (#[.int .i64 0, .int .i64 0, .int .i64 0, .int .u8 0, .int .u8 0, .int .u8 0, .int .u8 0, .int .u8 0, .int .u8 0, .int .u8 0, .int .u8 0, .int .u8 0, .int .u8 0, .int .u8 0, .int .u8 0, .int .u8 0, .int .u8 0, .int .u8 0, .int .u8 0, .int .u8 0, .int .u8 0, .int .u8 0, .int .u8 0, .int .u8 0, .int .u8 0, .int .u8 0, .int .u8 0, .int .u8 0, .int .u8 0, .int .u8 0, .int .u8 0, .int .u8 0, .int .u8 0, .int .u8 0, .int .u8 0, .int .u64 0])) (by kernel_rfl)) ?_
  clear eV1
  have K4 := K0.nn kV1
  have z5 := kV1.size
  obtain ⟨V6, eV6, gf, egf, h7, kV6⟩ := alloc_step V1 (#[.int .i64 0, .int .i64 0]) 32
  have n8 : ga < gf := egf ▸ lt_of_block h2
  have n9 : w.heap.size ≤ gf := egf ▸ K4.size
  refine ps_r (o_rvRead 2 1) (pT gf 0) (w' := V6) (by rw [← eV6, ← egf]; exact exec_alloc0 32 (by kernel_rfl) (.agg (#[.int .i64 0, .int .i64 0])) (by kernel_rfl)) ?_
  clear eV6
  have h10 := kV6.bk h2
  have K11 := K4.nn kV6
  have z12 := kV6.size
  refine ps_end ?_
  refine then_n ?_
  refine sy_sq (part_rvRead 6) (part_rvRead 7) ?_
  refine sy_reg ?_
  refine rg_plain 1 (opsAt (part_rvRead 6)) [0, 1, 2] (by kernel_rfl) (by kernel_rfl) ?_
  refine ps_k (o_rvRead 6 0) (v0) ?_
  have hlg := lt_of_block h10
  have hlf := lt_of_block h7
  have hKs := K11.size
  refine ps_c (o_rvRead 6 1) 48 #[v0] Try.func48 ((rrNew_ok v0 l _ (hx.keepsN K11) hl).mono ?_)
  rintro e V13 ⟨b, rv, rfl, hR0, hb0, hov, kV13⟩
  have hbl := hR0.lt
  refine ⟨_, rfl, ?_⟩
  have h14 := kV13.bk h10
  have h15 := kV13.bk h7
  have K16 := K11.nn kV13
  have z17 := kV13.size
  refine ps_k (o_rvRead 6 2) (pT b 0) ?_
  refine ps_end ?_
  refine then_n ?_
  refine sy_sq (part_rvRead 14) (part_rvRead 15) ?_
  refine sy_reg ?_
  refine rg_plain 2 (opsAt (part_rvRead 14)) [0, 1] (by kernel_rfl) (by kernel_rfl) ?_
  refine ps_k (o_rvRead 14 0) (pT b 0) ?_
  refine ps_c (o_rvRead 14 1) 49 #[pT b 0, .int .i64 1, .int .i64 1] Try.func49 ((rrN_ok b rv l ⟨0, 0⟩ 1 1 _ hR0 (by decide) (by decide)).mono ?_)
  rintro e V18 ⟨rfl, hV18, kV18⟩
  have hR1 : RrAt V18 b rv l (aS1 l) := hV18
  refine ⟨_, rfl, ?_⟩
  have h19 := kV18.bo h14 (by omega)
  have h20 := kV18.bo h15 (by omega)
  have K21 := K16.no kV18 (by omega)
  have z22 := kV18.size
  refine ps_end ?_
  refine then_n ?_
  refine sy_sq (part_rvRead 30) (part_rvRead 31) ?_
  refine sy_reg ?_
  refine rg_plain 3 (opsAt (part_rvRead 30)) [0] (by kernel_rfl) (by kernel_rfl) ?_
  obtain ⟨V23, eV23, gx, egx, h24, kV23⟩ := alloc_step V18 (#[.int .i64 0, .int .i64 0, .int .i64 0, .int .u8 0, .int .u8 0, .int .u8 0, .int .u8 0, .int .u8 0, .int .u8 0, .int .u8 0, .int .u8 0, .int .u8 0, .int .u8 0, .int .u8 0, .int .u8 0, .int .u8 0, .int .u8 0, .int .u8 0, .int .u8 0, .int .u8 0, .int .u8 0, .int .u8 0, .int .u8 0, .int .u8 0, .int .u8 0, .int .u8 0, .int .u8 0, .int .u8 0, .int .u8 0, .int .u8 0, .int .u8 0, .int .u8 0, .int .u8 0, .int .u8 0, .int .u8 0, .int .u64 0]) 29
  have n25 : ga < gx := egx ▸ lt_of_block h19
  have n26 : gf < gx := egx ▸ lt_of_block h20
  have n27 : w.heap.size ≤ gx := egx ▸ K21.size
  refine ps_r (o_rvRead 30 0) (pT gx 0) (w' := V23) (by rw [← eV23, ← egx]; exact exec_alloc0 29 (by kernel_rfl) (.agg (#[.int .i64 0, .int .i64 0, .int .i64 0, .int .u8 0, .int .u8 0, .int .u8 0, .int .u8 0, .int .u8 0, .int .u8 0, .int .u8 0, .int .u8 0, .int .u8 0, .int .u8 0, .int .u8 0, .int .u8 0, .int .u8 0, .int .u8 0, .int .u8 0, .int .u8 0, .int .u8 0, .int .u8 0, .int .u8 0, .int .u8 0, .int .u8 0, .int .u8 0, .int .u8 0, .int .u8 0, .int .u8 0, .int .u8 0, .int .u8 0, .int .u8 0, .int .u8 0, .int .u8 0, .int .u8 0, .int .u8 0, .int .u64 0])) (by kernel_rfl)) ?_
  clear eV23
  have h28 := kV23.bk h19
  have h29 := kV23.bk h20
  have h30 : RrAt V23 b rv l (aS1 l) := hR1.keeps kV23 (fun x => x) (fun _ _ x => x)
  have K31 := K21.nn kV23
  have z32 := kV23.size
  refine ps_end ?_
  refine then_n ?_
  refine sy_sq (part_rvRead 62) (part_rvRead 63) ?_
  have h33 : V23.heap[gx]? = some (.cells (Att.c attZero) 29 (0, 0)) := h24.trans (by kernel_rfl)
  refine sy_reg ?_
  refine rg_plain 4 (opsAt (part_rvRead 62)) [0, 1, 2, 3] (by kernel_rfl) (by kernel_rfl) ?_
  refine ps_k (o_rvRead 62 0) (pT b 0) ?_
  refine ps_c (o_rvRead 62 1) 49 #[pT b 0, .int .i64 0, .int .i64 31] Try.func49 ((rrN_ok b rv l (aS1 l) 0 31 _ h30 (by decide) (by decide)).mono ?_)
  rintro e V34 ⟨rfl, hV34, kV34⟩
  have hR2 : RrAt V34 b rv l (aV l).2 := hV34
  refine ⟨_, rfl, ?_⟩
  have h35 := kV34.bo h28 (by omega)
  have h36 := kV34.bo h29 (by omega)
  have h37 := kV34.bo h33 (by omega)
  have K38 := K31.no kV34 (by omega)
  have z39 := kV34.size
  refine ps_k (o_rvRead 62 2) (pT gx 0) ?_
  obtain ⟨V40, eV40, kV40⟩ := cell_step V34 gx 0 (.int .i64 (aV l).1)
  have h41 : V40.heap[gx]? = some (.cells (Att.c ⟨(aV l).1, attZero.s, attZero.t, attZero.r, attZero.g⟩) 29 (0, 0)) := eV40 ▸ ((heap_setCell_same _ gx 0 _ _ (.int .i64 (aV l).1) h37).trans (congrArg (fun c => some (Obj.cells c 29 (0, 0))) (show (Att.c attZero : Array Value).setIfInBounds 0 (.int .i64 (aV l).1) = Att.c ⟨(aV l).1, attZero.s, attZero.t, attZero.r, attZero.g⟩ from Att.c_set0 _ _)))
  refine ps_s (o_rvRead 62 3) (w' := V40) (by rw [← eV40]; exact exec_store_cell 3 (.tmp 13) (.tmp 12) (by kernel_rfl) gx 0 (by kernel_rfl) (.int .i64 (aV l).1) (by kernel_rfl) (by kernel_rfl) (by kernel_rfl) (.int .i64 attZero.v) (rc (h37) (Att.c_0 _)) (frozen_of_row _ _ _ _ _ h37) (by kernel_rfl)) ?_
  clear eV40
  have h42 := kV40.bo h35 (by omega)
  have h43 := kV40.bo h36 (by omega)
  have h44 : RrAt V40 b rv l (aV l).2 := hR2.keeps kV40 (by unfold Own.One; omega) (fun j hj e => by have := hov j hj; unfold Own.One at e; omega)
  have K45 := K38.no kV40 (by omega)
  have z46 := kV40.size
  refine ps_end ?_
  refine then_n ?_
  refine sy_sq (part_rvRead 126) (part_rvRead 127) ?_
  refine sy_reg ?_
  refine rg_plain 5 (opsAt (part_rvRead 126)) [0, 1, 2, 3] (by kernel_rfl) (by kernel_rfl) ?_
  refine ps_k (o_rvRead 126 0) (pT b 0) ?_
  refine ps_c (o_rvRead 126 1) 49 #[pT b 0, .int .i64 0, .int .i64 4294967296] Try.func49 ((rrN_ok b rv l (aV l).2 0 4294967296 _ h44 (by decide) (by decide)).mono ?_)
  rintro e V47 ⟨rfl, hV47, kV47⟩
  have hR3 : RrAt V47 b rv l (aS l).2 := hV47
  refine ⟨_, rfl, ?_⟩
  have h48 := kV47.bo h42 (by omega)
  have h49 := kV47.bo h43 (by omega)
  have h50 := kV47.bo h41 (by omega)
  have K51 := K45.no kV47 (by omega)
  have z52 := kV47.size
  refine ps_k (o_rvRead 126 2) (pT gx 1) ?_
  obtain ⟨V53, eV53, kV53⟩ := cell_step V47 gx 1 (.int .i64 (aS l).1)
  have h54 : V53.heap[gx]? = some (.cells (Att.c ⟨(aV l).1, (aS l).1, attZero.t, attZero.r, attZero.g⟩) 29 (0, 0)) := eV53 ▸ ((heap_setCell_same _ gx 1 _ _ (.int .i64 (aS l).1) h50).trans (congrArg (fun c => some (Obj.cells c 29 (0, 0))) (show (Att.c ⟨(aV l).1, attZero.s, attZero.t, attZero.r, attZero.g⟩ : Array Value).setIfInBounds 1 (.int .i64 (aS l).1) = Att.c ⟨(aV l).1, (aS l).1, attZero.t, attZero.r, attZero.g⟩ from Att.c_set1 _ _)))
  refine ps_s (o_rvRead 126 3) (w' := V53) (by rw [← eV53]; exact exec_store_cell 3 (.tmp 16) (.tmp 15) (by kernel_rfl) gx 1 (by kernel_rfl) (.int .i64 (aS l).1) (by kernel_rfl) (by kernel_rfl) (by kernel_rfl) (.int .i64 attZero.s) (rc (h50) (Att.c_1 _)) (frozen_of_row _ _ _ _ _ h50) (by kernel_rfl)) ?_
  clear eV53
  have h55 := kV53.bo h48 (by omega)
  have h56 := kV53.bo h49 (by omega)
  have h57 : RrAt V53 b rv l (aS l).2 := hR3.keeps kV53 (by unfold Own.One; omega) (fun j hj e => by have := hov j hj; unfold Own.One at e; omega)
  have K58 := K51.no kV53 (by omega)
  have z59 := kV53.size
  refine ps_end ?_
  refine then_n ?_
  refine sy_sq (part_rvRead 254) (part_rvRead 255) ?_
  refine sy_reg ?_
  refine rg_plain 6 (opsAt (part_rvRead 254)) [0, 1, 2, 3] (by kernel_rfl) (by kernel_rfl) ?_
  refine ps_k (o_rvRead 254 0) (pT b 0) ?_
  refine ps_c (o_rvRead 254 1) 49 #[pT b 0, .int .i64 0, .int .i64 4294967296] Try.func49 ((rrN_ok b rv l (aS l).2 0 4294967296 _ h57 (by decide) (by decide)).mono ?_)
  rintro e V60 ⟨rfl, hV60, kV60⟩
  have hR4 : RrAt V60 b rv l (aT l).2 := hV60
  refine ⟨_, rfl, ?_⟩
  have h61 := kV60.bo h55 (by omega)
  have h62 := kV60.bo h56 (by omega)
  have h63 := kV60.bo h54 (by omega)
  have K64 := K58.no kV60 (by omega)
  have z65 := kV60.size
  refine ps_k (o_rvRead 254 2) (pT gx 2) ?_
  obtain ⟨V66, eV66, kV66⟩ := cell_step V60 gx 2 (.int .i64 (aT l).1)
  have h67 : V66.heap[gx]? = some (.cells (Att.c ⟨(aV l).1, (aS l).1, (aT l).1, attZero.r, attZero.g⟩) 29 (0, 0)) := eV66 ▸ ((heap_setCell_same _ gx 2 _ _ (.int .i64 (aT l).1) h63).trans (congrArg (fun c => some (Obj.cells c 29 (0, 0))) (show (Att.c ⟨(aV l).1, (aS l).1, attZero.t, attZero.r, attZero.g⟩ : Array Value).setIfInBounds 2 (.int .i64 (aT l).1) = Att.c ⟨(aV l).1, (aS l).1, (aT l).1, attZero.r, attZero.g⟩ from Att.c_set2 _ _)))
  refine ps_s (o_rvRead 254 3) (w' := V66) (by rw [← eV66]; exact exec_store_cell 3 (.tmp 19) (.tmp 18) (by kernel_rfl) gx 2 (by kernel_rfl) (.int .i64 (aT l).1) (by kernel_rfl) (by kernel_rfl) (by kernel_rfl) (.int .i64 attZero.t) (rc (h63) (Att.c_2 _)) (frozen_of_row _ _ _ _ _ h63) (by kernel_rfl)) ?_
  clear eV66
  have h68 := kV66.bo h61 (by omega)
  have h69 := kV66.bo h62 (by omega)
  have h70 : RrAt V66 b rv l (aT l).2 := hR4.keeps kV66 (by unfold Own.One; omega) (fun j hj e => by have := hov j hj; unfold Own.One at e; omega)
  have K71 := K64.no kV66 (by omega)
  have z72 := kV66.size
  refine ps_end ?_
  refine then_n ?_
  refine sy_sq (part_rvRead 510) (part_rvRead 511) ?_
  refine sy_reg ?_
  refine rg_plain 7 (opsAt (part_rvRead 510)) [0, 1, 2, 3] (by kernel_rfl) (by kernel_rfl) ?_
  refine ps_k (o_rvRead 510 0) (pT b 0) ?_
  refine ps_c (o_rvRead 510 1) 50 #[pT b 0] Try.func50 ((rrHash_ok b rv l (aT l).2 _ h70 hl).mono ?_)
  rintro e V73 ⟨rfl, hV73, kV73⟩
  have hR5 : RrAt V73 b rv l (aR l).2 := hV73
  refine ⟨_, rfl, ?_⟩
  have h74 := kV73.bo h68 (by omega)
  have h75 := kV73.bo h69 (by omega)
  have h76 := kV73.bo h67 (by omega)
  have K77 := K71.no kV73 (by omega)
  have z78 := kV73.size
  refine ps_k (o_rvRead 510 2) (pT gx 3) ?_
  obtain ⟨V79, eV79⟩ : ∃ V, V73.setCells gx 3 (B (aR l).1).toArray.toList = V := ⟨_, rfl⟩
  have kV79 : Keeps (One gx) V73 V79 := eV79 ▸ Keeps.setCells _ _ _ _
  have h80 : V79.heap[gx]? = some (.cells (Att.c ⟨(aV l).1, (aS l).1, (aT l).1, (aR l).1, attZero.g⟩) 29 (0, 0)) := eV79 ▸ (heap_setCells gx _ _ 3 _ _ h76 (by rw [Att.c_size _ rfl]; simp [B_length, (aR_len l)])).trans (congrArg (fun c => some (Obj.cells c 29 (0, 0))) (Att.c_seth _ (aR l).1 rfl (aR_len l)))
  refine ps_s (o_rvRead 510 3) (w' := V79) (by rw [← eV79]; exact exec_store_mid 26 (.tmp 22) (.tmp 21) (by kernel_rfl) gx 3 (by kernel_rfl) (B (aR l).1).toArray (by kernel_rfl) _ _ h76 (by rw [Att.c_size _ rfl]; simp [B_length, (aR_len l)]) (by rw [Bz_size, (aR_len l)]; kernel_rfl) (by rw [List.all_toArray]; exact List.all_eq_true.2 (B_one _))) ?_
  clear eV79
  have h81 := kV79.bo h74 (by omega)
  have h82 := kV79.bo h75 (by omega)
  have h83 : RrAt V79 b rv l (aR l).2 := hR5.keeps kV79 (by unfold Own.One; omega) (fun j hj e => by have := hov j hj; unfold Own.One at e; omega)
  have K84 := K77.no kV79 (by omega)
  have z85 := kV79.size
  refine ps_end ?_
  refine sy_a ⟨#[v0, undef, pT ga 0, pT gf 0, pT b 0, pT gx 0, undef, v0, pT b 0, pT b 0, .int .i64 (rdN l ⟨0, 0⟩ 1 1).1, pT b 0, .int .i64 (aV l).1, pT gx 0, pT b 0, .int .i64 (aS l).1, pT gx 1, pT b 0, .int .i64 (aT l).1, pT gx 2, pT b 0, .agg (B (aR l).1).toArray, pT gx 3, undef, undef, undef, undef, undef, undef, undef, undef, undef, undef, undef, undef], []⟩ ?_
  refine then_n ?_
  refine sy_sq (part_rvRead 1022) (part_rvRead 1023) ?_
  refine sy_reg ?_
  refine rg_plain 8 (opsAt (part_rvRead 1022)) [0, 1, 2, 3] (by kernel_rfl) (by kernel_rfl) ?_
  refine ps_k (o_rvRead 1022 0) (pT b 0) ?_
  refine ps_c (o_rvRead 1022 1) 51 #[pT b 0] Try.func51 ((rrU_nat b rv l (aR l).2 _ h83).mono ?_)
  rintro e V86 ⟨rfl, hV86, kV86⟩
  have hR6 : RrAt V86 b rv l (aG l).2 := hV86
  refine ⟨_, rfl, ?_⟩
  have h87 := kV86.bo h81 (by omega)
  have h88 := kV86.bo h82 (by omega)
  have h89 := kV86.bo h80 (by omega)
  have K90 := K84.no kV86 (by omega)
  have z91 := kV86.size
  refine ps_k (o_rvRead 1022 2) (pT gx 35) ?_
  obtain ⟨V92, eV92, kV92⟩ := cell_step V86 gx 35 (.int .u64 (((aG l).1.toNat : Nat) : Int))
  have h93 : V92.heap[gx]? = some (.cells (Att.c ⟨(aV l).1, (aS l).1, (aT l).1, (aR l).1, (aG l).1.toNat⟩) 29 (0, 0)) := eV92 ▸ ((heap_setCell_same _ gx 35 _ _ (.int .u64 (((aG l).1.toNat : Nat) : Int)) h89).trans (congrArg (fun c => some (Obj.cells c 29 (0, 0))) (show (Att.c ⟨(aV l).1, (aS l).1, (aT l).1, (aR l).1, attZero.g⟩ : Array Value).setIfInBounds 35 (.int .u64 (((aG l).1.toNat : Nat) : Int)) = Att.c ⟨(aV l).1, (aS l).1, (aT l).1, (aR l).1, (aG l).1.toNat⟩ from Att.c_settag _ _ (aR_len l))))
  refine ps_s (o_rvRead 1022 3) (w' := V92) (by rw [← eV92]; exact exec_store_cell 27 (.tmp 25) (.tmp 24) (by kernel_rfl) gx 35 (by kernel_rfl) (uN ((aG l).1.toNat)) (by kernel_rfl) (by kernel_rfl) (by kernel_rfl) (uN attZero.g) (rc (h89) (Att.c_tag _ (aR_len l))) (frozen_of_row _ _ _ _ _ h89) (by kernel_rfl)) ?_
  clear eV92
  have h94 := kV92.bo h87 (by omega)
  have h95 := kV92.bo h88 (by omega)
  have h96 : RrAt V92 b rv l (aG l).2 := hR6.keeps kV92 (by unfold Own.One; omega) (fun j hj e => by have := hov j hj; unfold Own.One at e; omega)
  have K97 := K90.no kV92 (by omega)
  have z98 := kV92.size
  refine ps_end ?_
  refine then_n ?_
  refine sy_sq (part_rvRead 2046) (part_rvRead 2047) ?_
  refine sy_sq (part_rvRead 4092) (part_rvRead 4093) ?_
  refine sy_reg ?_
  refine rg_plain 9 (opsAt (part_rvRead 4092)) [0, 1, 2, 3] (by kernel_rfl) (by kernel_rfl) ?_
  refine ps_k (o_rvRead 4092 0) (pT b 0) ?_
  refine ps_c (o_rvRead 4092 1) 52 #[pT b 0] Try.func52 ((rrEnd_ok b rv l (aG l).2 _ h96).mono ?_)
  rintro e V99 ⟨rfl, kV99⟩
  refine ⟨_, rfl, ?_⟩
  have h100 := kV99.bk h94
  have h101 := kV99.bk h95
  have h102 := kV99.bk h93
  have K103 := K97.nn kV99
  have z104 := kV99.size
  obtain ⟨V105, eV105, gy, egy, h106, kV105⟩ := alloc_step V99 (#[.int .i64 0, .int .i64 0]) 32
  have n107 : ga < gy := egy ▸ lt_of_block h100
  have n108 : gf < gy := egy ▸ lt_of_block h101
  have n109 : gx < gy := egy ▸ lt_of_block h102
  have n110 : w.heap.size ≤ gy := egy ▸ K103.size
  refine ps_r (o_rvRead 4092 2) (pT gy 0) (w' := V105) (by rw [← eV105, ← egy]; exact exec_alloc0 32 (by kernel_rfl) (.agg (#[.int .i64 0, .int .i64 0])) (by kernel_rfl)) ?_
  clear eV105
  have h111 := kV105.bk h100
  have h112 := kV105.bk h101
  have h113 := kV105.bk h102
  have K114 := K103.nn kV105
  have z115 := kV105.size
  obtain ⟨V116, eV116, kV116⟩ := rowset_step V105 gy (#[.int .i64 (aF l).1, .int .i64 (aF l).2])
  have h117 : V116.heap[gy]? = some (.cells (#[.int .i64 (aF l).1, .int .i64 (aF l).2]) 32 (0, 0)) := eV116 ▸ setRow_heap _ _ _ _ _ _ h106
  refine ps_s (o_rvRead 4092 3) (w' := V116) (by rw [← eV116]; exact exec_store_row 32 (.tmp 6) (.tmp 27) (by kernel_rfl) gy (#[.int .i64 (aF l).1, .int .i64 (aF l).2]) (by kernel_rfl) (by kernel_rfl) 32 (#[.int .i64 0, .int .i64 0]) h106 (by kernel_rfl) rfl (by kernel_rfl)) ?_
  clear eV116
  have h118 := kV116.bo h111 (by omega)
  have h119 := kV116.bo h112 (by omega)
  have h120 := kV116.bo h113 (by omega)
  have K121 := K114.no kV116 (by omega)
  have z122 := kV116.size
  refine ps_end ?_
  refine then_n ?_
  refine sy_sq (part_rvRead 8186) (part_rvRead 8187) ?_
  refine sy_reg ?_
  refine rg_plain 10 (opsAt (part_rvRead 8186)) [0, 1, 2] (by kernel_rfl) (by kernel_rfl) ?_
  refine ps_p (o_rvRead 8186 0) (.agg #[.int .i64 (aF l).1, .int .i64 (aF l).2]) (exec_load_row 32 (.tmp 6) (by kernel_rfl) gy (by kernel_rfl) _ _ (0, 0) _ (h117) Try.underlying32 rfl (by kernel_rfl)) ?_
  refine ps_k (o_rvRead 8186 1) (.agg #[.int .i64 0, .int .i64 0]) ?_
  refine ps_p (o_rvRead 8186 2) (.bool true) (exec_cast (congrArg Value.bool (fault_no hz)) (exec_binop .neq 32 32 (.tmp 28) (.tmp 29) (by kernel_rfl) (.agg #[.int .i64 (aF l).1, .int .i64 (aF l).2]) (.agg #[.int .i64 0, .int .i64 0]) _ (by kernel_rfl) (by kernel_rfl) (run_eqGuard_agg _ _ _ _ _ _ _ fault_guard) (fault_ne _ _ _ _ _))) ?_
  refine ps_end ?_
  refine then_n ?_
  refine sy_ys (.tmp 30) (part_rvRead 16374) (part_rvRead 16375) ?_
  refine sy_sq (part_rvRead 32748) (part_rvRead 32749) ?_
  refine sy_np ?_
  refine sy_reg ?_
  refine an_begin 11 4 (opsAt (part_rvRead 32748)) (fun W => (W.heap[gy]? = some (.cells (#[.int .i64 (aF l).1, .int .i64 (aF l).2]) 32 (0, 0)))) #[false, false, false, false] (by kernel_rfl) (by kernel_rfl) (by kernel_rfl) (by kernel_rfl) ?_
  obtain ⟨V123, eV123, kV123⟩ := drew_step V116
  rw [eV123]
  clear eV123
  have h124 := kV123.bk h118
  have h125 := kV123.bk h119
  have h126 := kV123.bk h120
  have h127 := kV123.bk h117
  have K128 := K121.nn kV123
  have z129 := kV123.size
  refine an_k 0 (o_rvRead 32748 0) (.agg (Att.c attZero)) h127 ?_
  refine an_v 1 (o_rvRead 32748 1) (.agg #[.int .i64 (aF l).1, .int .i64 (aF l).2]) (fun W hS => exec_load_row 32 (.tmp 6) (by kernel_rfl) gy (by kernel_rfl) _ _ (0, 0) _ (hS) Try.underlying32 rfl (by kernel_rfl)) h127 ?_
  refine an_o 2 ?_
  obtain ⟨V130, eV130, kV130⟩ := rowset_step V123 ga ((Att.c attZero))
  have h131 : V130.heap[ga]? = some (.cells (Att.c attZero) 29 (0, 0)) := eV130 ▸ setRow_heap _ _ _ _ _ _ h124
  refine on_s (o_rvRead 32748 2) (w' := V130) (by rw [← eV130]; exact exec_store_row 29 (.tmp 2) (.tmp 31) (by kernel_rfl) ga ((Att.c attZero)) (by kernel_rfl) (by kernel_rfl) 29 (#[.int .i64 0, .int .i64 0, .int .i64 0, .int .u8 0, .int .u8 0, .int .u8 0, .int .u8 0, .int .u8 0, .int .u8 0, .int .u8 0, .int .u8 0, .int .u8 0, .int .u8 0, .int .u8 0, .int .u8 0, .int .u8 0, .int .u8 0, .int .u8 0, .int .u8 0, .int .u8 0, .int .u8 0, .int .u8 0, .int .u8 0, .int .u8 0, .int .u8 0, .int .u8 0, .int .u8 0, .int .u8 0, .int .u8 0, .int .u8 0, .int .u8 0, .int .u8 0, .int .u8 0, .int .u8 0, .int .u8 0, .int .u64 0]) h124 (by rw [Att.c_size _ (show attZero.r.length = 32 from rfl)]; kernel_rfl) (by rw [Att.c_size _ (show attZero.r.length = 32 from rfl)]; rfl) (Att.c_one _)) ?_
  clear eV130
  have h132 := kV130.bo h125 (by omega)
  have h133 := kV130.bo h126 (by omega)
  have h134 := kV130.bo h127 (by omega)
  have K135 := K128.no kV130 (by omega)
  have z136 := kV130.size
  refine ⟨h134, ?_⟩
  refine an_o 3 ?_
  obtain ⟨V137, eV137, kV137⟩ := rowset_step V130 gf (#[.int .i64 (aF l).1, .int .i64 (aF l).2])
  have h138 : V137.heap[gf]? = some (.cells (#[.int .i64 (aF l).1, .int .i64 (aF l).2]) 32 (0, 0)) := eV137 ▸ setRow_heap _ _ _ _ _ _ h132
  refine on_s (o_rvRead 32748 3) (w' := V137) (by rw [← eV137]; exact exec_store_row 32 (.tmp 3) (.tmp 32) (by kernel_rfl) gf (#[.int .i64 (aF l).1, .int .i64 (aF l).2]) (by kernel_rfl) (by kernel_rfl) 32 (#[.int .i64 0, .int .i64 0]) h132 (by kernel_rfl) rfl (by kernel_rfl)) ?_
  clear eV137
  have h139 := kV137.bo h133 (by omega)
  have h140 := kV137.bo h134 (by omega)
  have h141 := kV137.bo h131 (by omega)
  have K142 := K135.no kV137 (by omega)
  have z143 := kV137.size
  refine ⟨h140, ?_⟩
  refine an_end (by kernel_rfl) ?_
  refine then_n ?_
  refine sy_ret (by kernel_rfl) ?_
  refine then_r ?_
  refine sy_out (.tuple #[.agg (Att.c attZero), .agg #[.int .i64 (aF l).1, .int .i64 (aF l).2]]) rfl (results_rows2 (p := 2) (q := 3) (ty := 29) (tz := 32) (by kernel_rfl) _ _ ga gf 29 32 (Att.c attZero) (#[.int .i64 (aF l).1, .int .i64 (aF l).2]) (0, 0) (0, 0) _ _ (by kernel_rfl) h141 Try.underlying29 rfl (by rw [Att.c_size _ rfl]; kernel_rfl) (by kernel_rfl) h138 Try.underlying32 rfl (by kernel_rfl)) ?_
  exact ⟨by rw [show (aRes l) = attZero from if_neg hz], K142⟩
theorem rvRead_any (v0 : Value) (l : List UInt8) (w : World) (hx : BytesAt w v0 l) (hl : l.length ≤ 100000000) : Calls Try.prog 12 #[v0] w (fun e w' => e = .returned (.tuple #[.agg (Att.c (aRes l)), .agg #[.int .i64 (aF l).1, .int .i64 (aF l).2]]) ∧ Keeps Nob w w') := by
  by_cases hz : (aF l).1 = 0
  · exact rvRead_ok v0 l w hx hl hz
  · exact rvRead_no v0 l w hx hl hz
noncomputable def part_rvReadBlock (n : Nat) : Code := partOf Try.f14 n
noncomputable abbrev o_rvReadBlock (n k : Nat) : Oper := (opsAt (part_rvReadBlock n)).getD k default
set_option maxRecDepth 100000 in
set_option maxHeartbeats 4000000 in
theorem rvReadBlock_ok (v0 : Value) (l : List UInt8) (w : World) (hx : BytesAt w v0 l) (hl : l.length ≤ 100000000) (hz : (pF l).1 = 0) :
    Calls Try.prog 14 #[v0] w (fun e w' => e = .returned (.tuple #[.agg (Pro.c (pRes l)), .agg #[.int .i64 (pF l).1, .int .i64 (pF l).2]]) ∧ Keeps Nob w w') := by
  have K0 : Keeps Nob w w := Keeps.refl _ _
  refine sy_enter (part_rvReadBlock 1) ⟨#[v0, undef, undef, undef, undef, undef, undef, undef, undef, undef, undef, undef, undef, undef, undef, undef, undef, undef, undef, undef, undef, undef, undef, undef, undef, undef, undef, undef, undef, undef, undef, undef], []⟩ Try.func14 (by kernel_rfl) (by kernel_rfl) ?_
  refine sy_sq (part_rvReadBlock 2) (part_rvReadBlock 3) ?_
  refine sy_reg ?_
  refine rg_plain 0 (opsAt (part_rvReadBlock 2)) [0, 1] (by kernel_rfl) (by kernel_rfl) ?_
  obtain ⟨V1, eV1, ga, ega, h2, kV1⟩ := alloc_step w (#[.int .i64 0, .int .i64 0, .int .u8 0, .int .u8 0, .int .u8 0, .int .u8 0, .int .u8 0, .int .u8 0, .int .u8 0, .int .u8 0, .int .u8 0, .int .u8 0, .int .u8 0, .int .u8 0, .int .u8 0, .int .u8 0, .int .u8 0, .int .u8 0, .int .u8 0, .int .u8 0, .int .u8 0, .int .u8 0, .int .u8 0, .int .u8 0, .int .u8 0, .int .u8 0, .int .u8 0, .int .u8 0, .int .u8 0, .int .u8 0, .int .u8 0, .int .u8 0, .int .u8 0, .int .u8 0, .int .u64 0]) 36
  have n3 : w.heap.size ≤ ga := ega ▸ K0.size
  refine ps_r (o_rvReadBlock 2 0) (pT ga 0) (w' := V1) (by rw [← eV1, ← ega]; exact exec_alloc0 36 (by kernel_rfl) (.agg (#[.int .i64 0, .int .i64 0, .int .u8 0, .int .u8 0, .int .u8 0, .int .u8 0, .int .u8 0, .int .u8 0, .int .u8 0, .int .u8 0, .int .u8 0, .int .u8 0, .int .u8 0, .int .u8 0, .int .u8 0, .int .u8 0, .int .u8 0, .int .u8 0, .int .u8 0, .int .u8 0, .int .u8 0, .int .u8 0, .int .u8 0, .int .u8 0, .int .u8 0, .int .u8 0, .int .u8 0, .int .u8 0, .int .u8 0, .int .u8 0, .int .u8 0, .int .u8 0, .int .u8 0, .int .u8 0, .int .u64 0])) (by kernel_rfl)) ?_
  clear eV1
  have K4 := K0.nn kV1
  have z5 := kV1.size
  obtain ⟨V6, eV6, gf, egf, h7, kV6⟩ := alloc_step V1 (#[.int .i64 0, .int .i64 0]) 32
  have n8 : ga < gf := egf ▸ lt_of_block h2
  have n9 : w.heap.size ≤ gf := egf ▸ K4.size
  refine ps_r (o_rvReadBlock 2 1) (pT gf 0) (w' := V6) (by rw [← eV6, ← egf]; exact exec_alloc0 32 (by kernel_rfl) (.agg (#[.int .i64 0, .int .i64 0])) (by kernel_rfl)) ?_
  clear eV6
  have h10 := kV6.bk h2
  have K11 := K4.nn kV6
  have z12 := kV6.size
  refine ps_end ?_
  refine then_n ?_
  refine sy_sq (part_rvReadBlock 6) (part_rvReadBlock 7) ?_
  refine sy_reg ?_
  refine rg_plain 1 (opsAt (part_rvReadBlock 6)) [0, 1, 2] (by kernel_rfl) (by kernel_rfl) ?_
  refine ps_k (o_rvReadBlock 6 0) (v0) ?_
  have hlg := lt_of_block h10
  have hlf := lt_of_block h7
  have hKs := K11.size
  refine ps_c (o_rvReadBlock 6 1) 48 #[v0] Try.func48 ((rrNew_ok v0 l _ (hx.keepsN K11) hl).mono ?_)
  rintro e V13 ⟨b, rv, rfl, hR0, hb0, hov, kV13⟩
  have hbl := hR0.lt
  refine ⟨_, rfl, ?_⟩
  have h14 := kV13.bk h10
  have h15 := kV13.bk h7
  have K16 := K11.nn kV13
  have z17 := kV13.size
  refine ps_k (o_rvReadBlock 6 2) (pT b 0) ?_
  refine ps_end ?_
  refine then_n ?_
  refine sy_sq (part_rvReadBlock 14) (part_rvReadBlock 15) ?_
  refine sy_reg ?_
  refine rg_plain 2 (opsAt (part_rvReadBlock 14)) [0, 1] (by kernel_rfl) (by kernel_rfl) ?_
  refine ps_k (o_rvReadBlock 14 0) (pT b 0) ?_
  refine ps_c (o_rvReadBlock 14 1) 49 #[pT b 0, .int .i64 2, .int .i64 2] Try.func49 ((rrN_ok b rv l ⟨0, 0⟩ 2 2 _ hR0 (by decide) (by decide)).mono ?_)
  rintro e V18 ⟨rfl, hV18, kV18⟩
  have hR1 : RrAt V18 b rv l (pS1 l) := hV18
  refine ⟨_, rfl, ?_⟩
  have h19 := kV18.bo h14 (by omega)
  have h20 := kV18.bo h15 (by omega)
  have K21 := K16.no kV18 (by omega)
  have z22 := kV18.size
  refine ps_end ?_
  refine then_n ?_
  refine sy_sq (part_rvReadBlock 30) (part_rvReadBlock 31) ?_
  refine sy_reg ?_
  refine rg_plain 3 (opsAt (part_rvReadBlock 30)) [0] (by kernel_rfl) (by kernel_rfl) ?_
  obtain ⟨V23, eV23, gx, egx, h24, kV23⟩ := alloc_step V18 (#[.int .i64 0, .int .i64 0, .int .u8 0, .int .u8 0, .int .u8 0, .int .u8 0, .int .u8 0, .int .u8 0, .int .u8 0, .int .u8 0, .int .u8 0, .int .u8 0, .int .u8 0, .int .u8 0, .int .u8 0, .int .u8 0, .int .u8 0, .int .u8 0, .int .u8 0, .int .u8 0, .int .u8 0, .int .u8 0, .int .u8 0, .int .u8 0, .int .u8 0, .int .u8 0, .int .u8 0, .int .u8 0, .int .u8 0, .int .u8 0, .int .u8 0, .int .u8 0, .int .u8 0, .int .u8 0, .int .u64 0]) 36
  have n25 : ga < gx := egx ▸ lt_of_block h19
  have n26 : gf < gx := egx ▸ lt_of_block h20
  have n27 : w.heap.size ≤ gx := egx ▸ K21.size
  refine ps_r (o_rvReadBlock 30 0) (pT gx 0) (w' := V23) (by rw [← eV23, ← egx]; exact exec_alloc0 36 (by kernel_rfl) (.agg (#[.int .i64 0, .int .i64 0, .int .u8 0, .int .u8 0, .int .u8 0, .int .u8 0, .int .u8 0, .int .u8 0, .int .u8 0, .int .u8 0, .int .u8 0, .int .u8 0, .int .u8 0, .int .u8 0, .int .u8 0, .int .u8 0, .int .u8 0, .int .u8 0, .int .u8 0, .int .u8 0, .int .u8 0, .int .u8 0, .int .u8 0, .int .u8 0, .int .u8 0, .int .u8 0, .int .u8 0, .int .u8 0, .int .u8 0, .int .u8 0, .int .u8 0, .int .u8 0, .int .u8 0, .int .u8 0, .int .u64 0])) (by kernel_rfl)) ?_
  clear eV23
  have h28 := kV23.bk h19
  have h29 := kV23.bk h20
  have h30 : RrAt V23 b rv l (pS1 l) := hR1.keeps kV23 (fun x => x) (fun _ _ x => x)
  have K31 := K21.nn kV23
  have z32 := kV23.size
  refine ps_end ?_
  refine then_n ?_
  refine sy_sq (part_rvReadBlock 62) (part_rvReadBlock 63) ?_
  have h33 : V23.heap[gx]? = some (.cells (Pro.c proZero) 36 (0, 0)) := h24.trans (by kernel_rfl)
  refine sy_reg ?_
  refine rg_plain 4 (opsAt (part_rvReadBlock 62)) [0, 1, 2, 3] (by kernel_rfl) (by kernel_rfl) ?_
  refine ps_k (o_rvReadBlock 62 0) (pT b 0) ?_
  refine ps_c (o_rvReadBlock 62 1) 49 #[pT b 0, .int .i64 0, .int .i64 31] Try.func49 ((rrN_ok b rv l (pS1 l) 0 31 _ h30 (by decide) (by decide)).mono ?_)
  rintro e V34 ⟨rfl, hV34, kV34⟩
  have hR2 : RrAt V34 b rv l (pV l).2 := hV34
  refine ⟨_, rfl, ?_⟩
  have h35 := kV34.bo h28 (by omega)
  have h36 := kV34.bo h29 (by omega)
  have h37 := kV34.bo h33 (by omega)
  have K38 := K31.no kV34 (by omega)
  have z39 := kV34.size
  refine ps_k (o_rvReadBlock 62 2) (pT gx 0) ?_
  obtain ⟨V40, eV40, kV40⟩ := cell_step V34 gx 0 (.int .i64 (pV l).1)
  have h41 : V40.heap[gx]? = some (.cells (Pro.c ⟨(pV l).1, proZero.h, proZero.r, proZero.g⟩) 36 (0, 0)) := eV40 ▸ ((heap_setCell_same _ gx 0 _ _ (.int .i64 (pV l).1) h37).trans (congrArg (fun c => some (Obj.cells c 36 (0, 0))) (show (Pro.c proZero : Array Value).setIfInBounds 0 (.int .i64 (pV l).1) = Pro.c ⟨(pV l).1, proZero.h, proZero.r, proZero.g⟩ from Pro.c_set0 _ _)))
  refine ps_s (o_rvReadBlock 62 3) (w' := V40) (by rw [← eV40]; exact exec_store_cell 3 (.tmp 13) (.tmp 12) (by kernel_rfl) gx 0 (by kernel_rfl) (.int .i64 (pV l).1) (by kernel_rfl) (by kernel_rfl) (by kernel_rfl) (.int .i64 proZero.v) (rc (h37) (Pro.c_0 _)) (frozen_of_row _ _ _ _ _ h37) (by kernel_rfl)) ?_
  clear eV40
  have h42 := kV40.bo h35 (by omega)
  have h43 := kV40.bo h36 (by omega)
  have h44 : RrAt V40 b rv l (pV l).2 := hR2.keeps kV40 (by unfold Own.One; omega) (fun j hj e => by have := hov j hj; unfold Own.One at e; omega)
  have K45 := K38.no kV40 (by omega)
  have z46 := kV40.size
  refine ps_end ?_
  refine then_n ?_
  refine sy_sq (part_rvReadBlock 126) (part_rvReadBlock 127) ?_
  refine sy_reg ?_
  refine rg_plain 5 (opsAt (part_rvReadBlock 126)) [0, 1, 2, 3] (by kernel_rfl) (by kernel_rfl) ?_
  refine ps_k (o_rvReadBlock 126 0) (pT b 0) ?_
  refine ps_c (o_rvReadBlock 126 1) 49 #[pT b 0, .int .i64 1, .int .i64 4294967296] Try.func49 ((rrN_ok b rv l (pV l).2 1 4294967296 _ h44 (by decide) (by decide)).mono ?_)
  rintro e V47 ⟨rfl, hV47, kV47⟩
  have hR3 : RrAt V47 b rv l (pH l).2 := hV47
  refine ⟨_, rfl, ?_⟩
  have h48 := kV47.bo h42 (by omega)
  have h49 := kV47.bo h43 (by omega)
  have h50 := kV47.bo h41 (by omega)
  have K51 := K45.no kV47 (by omega)
  have z52 := kV47.size
  refine ps_k (o_rvReadBlock 126 2) (pT gx 1) ?_
  obtain ⟨V53, eV53, kV53⟩ := cell_step V47 gx 1 (.int .i64 (pH l).1)
  have h54 : V53.heap[gx]? = some (.cells (Pro.c ⟨(pV l).1, (pH l).1, proZero.r, proZero.g⟩) 36 (0, 0)) := eV53 ▸ ((heap_setCell_same _ gx 1 _ _ (.int .i64 (pH l).1) h50).trans (congrArg (fun c => some (Obj.cells c 36 (0, 0))) (show (Pro.c ⟨(pV l).1, proZero.h, proZero.r, proZero.g⟩ : Array Value).setIfInBounds 1 (.int .i64 (pH l).1) = Pro.c ⟨(pV l).1, (pH l).1, proZero.r, proZero.g⟩ from Pro.c_set1 _ _)))
  refine ps_s (o_rvReadBlock 126 3) (w' := V53) (by rw [← eV53]; exact exec_store_cell 3 (.tmp 16) (.tmp 15) (by kernel_rfl) gx 1 (by kernel_rfl) (.int .i64 (pH l).1) (by kernel_rfl) (by kernel_rfl) (by kernel_rfl) (.int .i64 proZero.h) (rc (h50) (Pro.c_1 _)) (frozen_of_row _ _ _ _ _ h50) (by kernel_rfl)) ?_
  clear eV53
  have h55 := kV53.bo h48 (by omega)
  have h56 := kV53.bo h49 (by omega)
  have h57 : RrAt V53 b rv l (pH l).2 := hR3.keeps kV53 (by unfold Own.One; omega) (fun j hj e => by have := hov j hj; unfold Own.One at e; omega)
  have K58 := K51.no kV53 (by omega)
  have z59 := kV53.size
  refine ps_end ?_
  refine then_n ?_
  refine sy_sq (part_rvReadBlock 254) (part_rvReadBlock 255) ?_
  refine sy_reg ?_
  refine rg_plain 6 (opsAt (part_rvReadBlock 254)) [0, 1, 2, 3] (by kernel_rfl) (by kernel_rfl) ?_
  refine ps_k (o_rvReadBlock 254 0) (pT b 0) ?_
  refine ps_c (o_rvReadBlock 254 1) 50 #[pT b 0] Try.func50 ((rrHash_ok b rv l (pH l).2 _ h57 hl).mono ?_)
  rintro e V60 ⟨rfl, hV60, kV60⟩
  have hR4 : RrAt V60 b rv l (pR l).2 := hV60
  refine ⟨_, rfl, ?_⟩
  have h61 := kV60.bo h55 (by omega)
  have h62 := kV60.bo h56 (by omega)
  have h63 := kV60.bo h54 (by omega)
  have K64 := K58.no kV60 (by omega)
  have z65 := kV60.size
  refine ps_k (o_rvReadBlock 254 2) (pT gx 2) ?_
  obtain ⟨V66, eV66⟩ : ∃ V, V60.setCells gx 2 (B (pR l).1).toArray.toList = V := ⟨_, rfl⟩
  have kV66 : Keeps (One gx) V60 V66 := eV66 ▸ Keeps.setCells _ _ _ _
  have h67 : V66.heap[gx]? = some (.cells (Pro.c ⟨(pV l).1, (pH l).1, (pR l).1, proZero.g⟩) 36 (0, 0)) := eV66 ▸ (heap_setCells gx _ _ 2 _ _ h63 (by rw [Pro.c_size _ rfl]; simp [B_length, (pR_len l)])).trans (congrArg (fun c => some (Obj.cells c 36 (0, 0))) (Pro.c_seth _ (pR l).1 rfl (pR_len l)))
  refine ps_s (o_rvReadBlock 254 3) (w' := V66) (by rw [← eV66]; exact exec_store_mid 26 (.tmp 19) (.tmp 18) (by kernel_rfl) gx 2 (by kernel_rfl) (B (pR l).1).toArray (by kernel_rfl) _ _ h63 (by rw [Pro.c_size _ rfl]; simp [B_length, (pR_len l)]) (by rw [Bz_size, (pR_len l)]; kernel_rfl) (by rw [List.all_toArray]; exact List.all_eq_true.2 (B_one _))) ?_
  clear eV66
  have h68 := kV66.bo h61 (by omega)
  have h69 := kV66.bo h62 (by omega)
  have h70 : RrAt V66 b rv l (pR l).2 := hR4.keeps kV66 (by unfold Own.One; omega) (fun j hj e => by have := hov j hj; unfold Own.One at e; omega)
  have K71 := K64.no kV66 (by omega)
  have z72 := kV66.size
  refine ps_end ?_
  refine then_n ?_
  refine sy_sq (part_rvReadBlock 510) (part_rvReadBlock 511) ?_
  refine sy_reg ?_
  refine rg_plain 7 (opsAt (part_rvReadBlock 510)) [0, 1, 2, 3] (by kernel_rfl) (by kernel_rfl) ?_
  refine ps_k (o_rvReadBlock 510 0) (pT b 0) ?_
  refine ps_c (o_rvReadBlock 510 1) 51 #[pT b 0] Try.func51 ((rrU_nat b rv l (pR l).2 _ h70).mono ?_)
  rintro e V73 ⟨rfl, hV73, kV73⟩
  have hR5 : RrAt V73 b rv l (pG l).2 := hV73
  refine ⟨_, rfl, ?_⟩
  have h74 := kV73.bo h68 (by omega)
  have h75 := kV73.bo h69 (by omega)
  have h76 := kV73.bo h67 (by omega)
  have K77 := K71.no kV73 (by omega)
  have z78 := kV73.size
  refine ps_k (o_rvReadBlock 510 2) (pT gx 34) ?_
  obtain ⟨V79, eV79, kV79⟩ := cell_step V73 gx 34 (.int .u64 (((pG l).1.toNat : Nat) : Int))
  have h80 : V79.heap[gx]? = some (.cells (Pro.c ⟨(pV l).1, (pH l).1, (pR l).1, (pG l).1.toNat⟩) 36 (0, 0)) := eV79 ▸ ((heap_setCell_same _ gx 34 _ _ (.int .u64 (((pG l).1.toNat : Nat) : Int)) h76).trans (congrArg (fun c => some (Obj.cells c 36 (0, 0))) (show (Pro.c ⟨(pV l).1, (pH l).1, (pR l).1, proZero.g⟩ : Array Value).setIfInBounds 34 (.int .u64 (((pG l).1.toNat : Nat) : Int)) = Pro.c ⟨(pV l).1, (pH l).1, (pR l).1, (pG l).1.toNat⟩ from Pro.c_settag _ _ (pR_len l))))
  refine ps_s (o_rvReadBlock 510 3) (w' := V79) (by rw [← eV79]; exact exec_store_cell 27 (.tmp 22) (.tmp 21) (by kernel_rfl) gx 34 (by kernel_rfl) (uN ((pG l).1.toNat)) (by kernel_rfl) (by kernel_rfl) (by kernel_rfl) (uN proZero.g) (rc (h76) (Pro.c_tag _ (pR_len l))) (frozen_of_row _ _ _ _ _ h76) (by kernel_rfl)) ?_
  clear eV79
  have h81 := kV79.bo h74 (by omega)
  have h82 := kV79.bo h75 (by omega)
  have h83 : RrAt V79 b rv l (pG l).2 := hR5.keeps kV79 (by unfold Own.One; omega) (fun j hj e => by have := hov j hj; unfold Own.One at e; omega)
  have K84 := K77.no kV79 (by omega)
  have z85 := kV79.size
  refine ps_end ?_
  refine sy_a ⟨#[v0, undef, pT ga 0, pT gf 0, pT b 0, pT gx 0, undef, v0, pT b 0, pT b 0, .int .i64 (rdN l ⟨0, 0⟩ 2 2).1, pT b 0, .int .i64 (pV l).1, pT gx 0, pT b 0, .int .i64 (pH l).1, pT gx 1, pT b 0, .agg (B (pR l).1).toArray, pT gx 2, pT b 0, uN ((pG l).1.toNat), pT gx 34, undef, undef, undef, undef, undef, undef, undef, undef, undef], []⟩ ?_
  refine then_n ?_
  refine sy_sq (part_rvReadBlock 1022) (part_rvReadBlock 1023) ?_
  refine sy_sq (part_rvReadBlock 2044) (part_rvReadBlock 2045) ?_
  refine sy_reg ?_
  refine rg_plain 8 (opsAt (part_rvReadBlock 2044)) [0, 1, 2, 3] (by kernel_rfl) (by kernel_rfl) ?_
  refine ps_k (o_rvReadBlock 2044 0) (pT b 0) ?_
  refine ps_c (o_rvReadBlock 2044 1) 52 #[pT b 0] Try.func52 ((rrEnd_ok b rv l (pG l).2 _ h83).mono ?_)
  rintro e V86 ⟨rfl, kV86⟩
  refine ⟨_, rfl, ?_⟩
  have h87 := kV86.bk h81
  have h88 := kV86.bk h82
  have h89 := kV86.bk h80
  have K90 := K84.nn kV86
  have z91 := kV86.size
  obtain ⟨V92, eV92, gy, egy, h93, kV92⟩ := alloc_step V86 (#[.int .i64 0, .int .i64 0]) 32
  have n94 : ga < gy := egy ▸ lt_of_block h87
  have n95 : gf < gy := egy ▸ lt_of_block h88
  have n96 : gx < gy := egy ▸ lt_of_block h89
  have n97 : w.heap.size ≤ gy := egy ▸ K90.size
  refine ps_r (o_rvReadBlock 2044 2) (pT gy 0) (w' := V92) (by rw [← eV92, ← egy]; exact exec_alloc0 32 (by kernel_rfl) (.agg (#[.int .i64 0, .int .i64 0])) (by kernel_rfl)) ?_
  clear eV92
  have h98 := kV92.bk h87
  have h99 := kV92.bk h88
  have h100 := kV92.bk h89
  have K101 := K90.nn kV92
  have z102 := kV92.size
  obtain ⟨V103, eV103, kV103⟩ := rowset_step V92 gy (#[.int .i64 (pF l).1, .int .i64 (pF l).2])
  have h104 : V103.heap[gy]? = some (.cells (#[.int .i64 (pF l).1, .int .i64 (pF l).2]) 32 (0, 0)) := eV103 ▸ setRow_heap _ _ _ _ _ _ h93
  refine ps_s (o_rvReadBlock 2044 3) (w' := V103) (by rw [← eV103]; exact exec_store_row 32 (.tmp 6) (.tmp 24) (by kernel_rfl) gy (#[.int .i64 (pF l).1, .int .i64 (pF l).2]) (by kernel_rfl) (by kernel_rfl) 32 (#[.int .i64 0, .int .i64 0]) h93 (by kernel_rfl) rfl (by kernel_rfl)) ?_
  clear eV103
  have h105 := kV103.bo h98 (by omega)
  have h106 := kV103.bo h99 (by omega)
  have h107 := kV103.bo h100 (by omega)
  have K108 := K101.no kV103 (by omega)
  have z109 := kV103.size
  refine ps_end ?_
  refine then_n ?_
  refine sy_sq (part_rvReadBlock 4090) (part_rvReadBlock 4091) ?_
  refine sy_reg ?_
  refine rg_plain 9 (opsAt (part_rvReadBlock 4090)) [0, 1, 2] (by kernel_rfl) (by kernel_rfl) ?_
  refine ps_p (o_rvReadBlock 4090 0) (.agg #[.int .i64 (pF l).1, .int .i64 (pF l).2]) (exec_load_row 32 (.tmp 6) (by kernel_rfl) gy (by kernel_rfl) _ _ (0, 0) _ (h104) Try.underlying32 rfl (by kernel_rfl)) ?_
  refine ps_k (o_rvReadBlock 4090 1) (.agg #[.int .i64 0, .int .i64 0]) ?_
  refine ps_p (o_rvReadBlock 4090 2) (.bool false) (exec_cast (congrArg Value.bool (fault_ok ⟨hz, fin_zero hz⟩)) (exec_binop .neq 32 32 (.tmp 25) (.tmp 26) (by kernel_rfl) (.agg #[.int .i64 (pF l).1, .int .i64 (pF l).2]) (.agg #[.int .i64 0, .int .i64 0]) _ (by kernel_rfl) (by kernel_rfl) (run_eqGuard_agg _ _ _ _ _ _ _ fault_guard) (fault_ne _ _ _ _ _))) ?_
  refine ps_end ?_
  refine then_n ?_
  refine sy_n (.tmp 27) (part_rvReadBlock 8182) (part_rvReadBlock 8183) ?_
  refine sy_sk ?_
  refine then_n ?_
  refine sy_sq (part_rvReadBlock 2046) (part_rvReadBlock 2047) ?_
  refine sy_reg ?_
  refine rg_plain 11 (opsAt (part_rvReadBlock 2046)) [0, 1, 2, 3] (by kernel_rfl) (by kernel_rfl) ?_
  refine ps_p (o_rvReadBlock 2046 0) (.agg (Pro.c ⟨(pV l).1, (pH l).1, (pR l).1, (pG l).1.toNat⟩)) (exec_load_row 36 (.tmp 5) (by kernel_rfl) gx (by kernel_rfl) _ _ (0, 0) _ (h107) Try.underlying36 rfl (by rw [Pro.c_size _ (pR_len l)]; kernel_rfl)) ?_
  refine ps_k (o_rvReadBlock 2046 1) (.agg #[.int .i64 0, .int .i64 0]) ?_
  obtain ⟨V110, eV110, kV110⟩ := rowset_step V103 ga ((Pro.c ⟨(pV l).1, (pH l).1, (pR l).1, (pG l).1.toNat⟩))
  have h111 : V110.heap[ga]? = some (.cells (Pro.c (pPro l)) 36 (0, 0)) := eV110 ▸ setRow_heap _ _ _ _ _ _ h105
  refine ps_s (o_rvReadBlock 2046 2) (w' := V110) (by rw [← eV110]; exact exec_store_row 36 (.tmp 2) (.tmp 30) (by kernel_rfl) ga ((Pro.c ⟨(pV l).1, (pH l).1, (pR l).1, (pG l).1.toNat⟩)) (by kernel_rfl) (by kernel_rfl) 36 (#[.int .i64 0, .int .i64 0, .int .u8 0, .int .u8 0, .int .u8 0, .int .u8 0, .int .u8 0, .int .u8 0, .int .u8 0, .int .u8 0, .int .u8 0, .int .u8 0, .int .u8 0, .int .u8 0, .int .u8 0, .int .u8 0, .int .u8 0, .int .u8 0, .int .u8 0, .int .u8 0, .int .u8 0, .int .u8 0, .int .u8 0, .int .u8 0, .int .u8 0, .int .u8 0, .int .u8 0, .int .u8 0, .int .u8 0, .int .u8 0, .int .u8 0, .int .u8 0, .int .u8 0, .int .u8 0, .int .u64 0]) h105 (by rw [Pro.c_size _ (pR_len l)]; kernel_rfl) (by rw [Pro.c_size _ (pR_len l)]; rfl) (Pro.c_one _)) ?_
  clear eV110
  have h112 := kV110.bo h106 (by omega)
  have h113 := kV110.bo h107 (by omega)
  have h114 := kV110.bo h104 (by omega)
  have K115 := K108.no kV110 (by omega)
  have z116 := kV110.size
  obtain ⟨V117, eV117, kV117⟩ := rowset_step V110 gf (#[.int .i64 0, .int .i64 0])
  have h118 : V117.heap[gf]? = some (.cells (#[.int .i64 0, .int .i64 0]) 32 (0, 0)) := eV117 ▸ setRow_heap _ _ _ _ _ _ h112
  refine ps_s (o_rvReadBlock 2046 3) (w' := V117) (by rw [← eV117]; exact exec_store_row 32 (.tmp 3) (.tmp 31) (by kernel_rfl) gf (#[.int .i64 0, .int .i64 0]) (by kernel_rfl) (by kernel_rfl) 32 (#[.int .i64 0, .int .i64 0]) h112 (by kernel_rfl) rfl (by kernel_rfl)) ?_
  clear eV117
  have h119 := kV117.bo h113 (by omega)
  have h120 := kV117.bo h114 (by omega)
  have h121 := kV117.bo h111 (by omega)
  have K122 := K115.no kV117 (by omega)
  have z123 := kV117.size
  refine ps_end ?_
  refine then_n ?_
  refine sy_ret (by kernel_rfl) ?_
  refine sy_out (.tuple #[.agg (Pro.c (pPro l)), .agg #[.int .i64 0, .int .i64 0]]) rfl (results_rows2 (p := 2) (q := 3) (ty := 36) (tz := 32) (by kernel_rfl) _ _ ga gf 36 32 (Pro.c (pPro l)) (#[.int .i64 0, .int .i64 0]) (0, 0) (0, 0) _ _ (by kernel_rfl) h121 Try.underlying36 rfl (by rw [Pro.c_size _ (pR_len l)]; kernel_rfl) (by kernel_rfl) h118 Try.underlying32 rfl (by kernel_rfl)) ?_
  exact ⟨by rw [show (pRes l) = (pPro l) from if_pos hz, hz, show (pF l).2 = 0 from fin_zero hz], K122⟩
set_option maxRecDepth 100000 in
set_option maxHeartbeats 4000000 in
theorem rvReadBlock_no (v0 : Value) (l : List UInt8) (w : World) (hx : BytesAt w v0 l) (hl : l.length ≤ 100000000) (hz : ¬ (pF l).1 = 0) :
    Calls Try.prog 14 #[v0] w (fun e w' => e = .returned (.tuple #[.agg (Pro.c (pRes l)), .agg #[.int .i64 (pF l).1, .int .i64 (pF l).2]]) ∧ Keeps Nob w w') := by
  have K0 : Keeps Nob w w := Keeps.refl _ _
  refine sy_enter (part_rvReadBlock 1) ⟨#[v0, undef, undef, undef, undef, undef, undef, undef, undef, undef, undef, undef, undef, undef, undef, undef, undef, undef, undef, undef, undef, undef, undef, undef, undef, undef, undef, undef, undef, undef, undef, undef], []⟩ Try.func14 (by kernel_rfl) (by kernel_rfl) ?_
  refine sy_sq (part_rvReadBlock 2) (part_rvReadBlock 3) ?_
  refine sy_reg ?_
  refine rg_plain 0 (opsAt (part_rvReadBlock 2)) [0, 1] (by kernel_rfl) (by kernel_rfl) ?_
  obtain ⟨V1, eV1, ga, ega, h2, kV1⟩ := alloc_step w (#[.int .i64 0, .int .i64 0, .int .u8 0, .int .u8 0, .int .u8 0, .int .u8 0, .int .u8 0, .int .u8 0, .int .u8 0, .int .u8 0, .int .u8 0, .int .u8 0, .int .u8 0, .int .u8 0, .int .u8 0, .int .u8 0, .int .u8 0, .int .u8 0, .int .u8 0, .int .u8 0, .int .u8 0, .int .u8 0, .int .u8 0, .int .u8 0, .int .u8 0, .int .u8 0, .int .u8 0, .int .u8 0, .int .u8 0, .int .u8 0, .int .u8 0, .int .u8 0, .int .u8 0, .int .u8 0, .int .u64 0]) 36
  have n3 : w.heap.size ≤ ga := ega ▸ K0.size
  refine ps_r (o_rvReadBlock 2 0) (pT ga 0) (w' := V1) (by rw [← eV1, ← ega]; exact exec_alloc0 36 (by kernel_rfl) (.agg (#[.int .i64 0, .int .i64 0, .int .u8 0, .int .u8 0, .int .u8 0, .int .u8 0, .int .u8 0, .int .u8 0, .int .u8 0, .int .u8 0, .int .u8 0, .int .u8 0, .int .u8 0, .int .u8 0, .int .u8 0, .int .u8 0, .int .u8 0, .int .u8 0, .int .u8 0, .int .u8 0, .int .u8 0, .int .u8 0, .int .u8 0, .int .u8 0, .int .u8 0, .int .u8 0, .int .u8 0, .int .u8 0, .int .u8 0, .int .u8 0, .int .u8 0, .int .u8 0, .int .u8 0, .int .u8 0, .int .u64 0])) (by kernel_rfl)) ?_
  clear eV1
  have K4 := K0.nn kV1
  have z5 := kV1.size
  obtain ⟨V6, eV6, gf, egf, h7, kV6⟩ := alloc_step V1 (#[.int .i64 0, .int .i64 0]) 32
  have n8 : ga < gf := egf ▸ lt_of_block h2
  have n9 : w.heap.size ≤ gf := egf ▸ K4.size
  refine ps_r (o_rvReadBlock 2 1) (pT gf 0) (w' := V6) (by rw [← eV6, ← egf]; exact exec_alloc0 32 (by kernel_rfl) (.agg (#[.int .i64 0, .int .i64 0])) (by kernel_rfl)) ?_
  clear eV6
  have h10 := kV6.bk h2
  have K11 := K4.nn kV6
  have z12 := kV6.size
  refine ps_end ?_
  refine then_n ?_
  refine sy_sq (part_rvReadBlock 6) (part_rvReadBlock 7) ?_
  refine sy_reg ?_
  refine rg_plain 1 (opsAt (part_rvReadBlock 6)) [0, 1, 2] (by kernel_rfl) (by kernel_rfl) ?_
  refine ps_k (o_rvReadBlock 6 0) (v0) ?_
  have hlg := lt_of_block h10
  have hlf := lt_of_block h7
  have hKs := K11.size
  refine ps_c (o_rvReadBlock 6 1) 48 #[v0] Try.func48 ((rrNew_ok v0 l _ (hx.keepsN K11) hl).mono ?_)
  rintro e V13 ⟨b, rv, rfl, hR0, hb0, hov, kV13⟩
  have hbl := hR0.lt
  refine ⟨_, rfl, ?_⟩
  have h14 := kV13.bk h10
  have h15 := kV13.bk h7
  have K16 := K11.nn kV13
  have z17 := kV13.size
  refine ps_k (o_rvReadBlock 6 2) (pT b 0) ?_
  refine ps_end ?_
  refine then_n ?_
  refine sy_sq (part_rvReadBlock 14) (part_rvReadBlock 15) ?_
  refine sy_reg ?_
  refine rg_plain 2 (opsAt (part_rvReadBlock 14)) [0, 1] (by kernel_rfl) (by kernel_rfl) ?_
  refine ps_k (o_rvReadBlock 14 0) (pT b 0) ?_
  refine ps_c (o_rvReadBlock 14 1) 49 #[pT b 0, .int .i64 2, .int .i64 2] Try.func49 ((rrN_ok b rv l ⟨0, 0⟩ 2 2 _ hR0 (by decide) (by decide)).mono ?_)
  rintro e V18 ⟨rfl, hV18, kV18⟩
  have hR1 : RrAt V18 b rv l (pS1 l) := hV18
  refine ⟨_, rfl, ?_⟩
  have h19 := kV18.bo h14 (by omega)
  have h20 := kV18.bo h15 (by omega)
  have K21 := K16.no kV18 (by omega)
  have z22 := kV18.size
  refine ps_end ?_
  refine then_n ?_
  refine sy_sq (part_rvReadBlock 30) (part_rvReadBlock 31) ?_
  refine sy_reg ?_
  refine rg_plain 3 (opsAt (part_rvReadBlock 30)) [0] (by kernel_rfl) (by kernel_rfl) ?_
  obtain ⟨V23, eV23, gx, egx, h24, kV23⟩ := alloc_step V18 (#[.int .i64 0, .int .i64 0, .int .u8 0, .int .u8 0, .int .u8 0, .int .u8 0, .int .u8 0, .int .u8 0, .int .u8 0, .int .u8 0, .int .u8 0, .int .u8 0, .int .u8 0, .int .u8 0, .int .u8 0, .int .u8 0, .int .u8 0, .int .u8 0, .int .u8 0, .int .u8 0, .int .u8 0, .int .u8 0, .int .u8 0, .int .u8 0, .int .u8 0, .int .u8 0, .int .u8 0, .int .u8 0, .int .u8 0, .int .u8 0, .int .u8 0, .int .u8 0, .int .u8 0, .int .u8 0, .int .u64 0]) 36
  have n25 : ga < gx := egx ▸ lt_of_block h19
  have n26 : gf < gx := egx ▸ lt_of_block h20
  have n27 : w.heap.size ≤ gx := egx ▸ K21.size
  refine ps_r (o_rvReadBlock 30 0) (pT gx 0) (w' := V23) (by rw [← eV23, ← egx]; exact exec_alloc0 36 (by kernel_rfl) (.agg (#[.int .i64 0, .int .i64 0, .int .u8 0, .int .u8 0, .int .u8 0, .int .u8 0, .int .u8 0, .int .u8 0, .int .u8 0, .int .u8 0, .int .u8 0, .int .u8 0, .int .u8 0, .int .u8 0, .int .u8 0, .int .u8 0, .int .u8 0, .int .u8 0, .int .u8 0, .int .u8 0, .int .u8 0, .int .u8 0, .int .u8 0, .int .u8 0, .int .u8 0, .int .u8 0, .int .u8 0, .int .u8 0, .int .u8 0, .int .u8 0, .int .u8 0, .int .u8 0, .int .u8 0, .int .u8 0, .int .u64 0])) (by kernel_rfl)) ?_
  clear eV23
  have h28 := kV23.bk h19
  have h29 := kV23.bk h20
  have h30 : RrAt V23 b rv l (pS1 l) := hR1.keeps kV23 (fun x => x) (fun _ _ x => x)
  have K31 := K21.nn kV23
  have z32 := kV23.size
  refine ps_end ?_
  refine then_n ?_
  refine sy_sq (part_rvReadBlock 62) (part_rvReadBlock 63) ?_
  have h33 : V23.heap[gx]? = some (.cells (Pro.c proZero) 36 (0, 0)) := h24.trans (by kernel_rfl)
  refine sy_reg ?_
  refine rg_plain 4 (opsAt (part_rvReadBlock 62)) [0, 1, 2, 3] (by kernel_rfl) (by kernel_rfl) ?_
  refine ps_k (o_rvReadBlock 62 0) (pT b 0) ?_
  refine ps_c (o_rvReadBlock 62 1) 49 #[pT b 0, .int .i64 0, .int .i64 31] Try.func49 ((rrN_ok b rv l (pS1 l) 0 31 _ h30 (by decide) (by decide)).mono ?_)
  rintro e V34 ⟨rfl, hV34, kV34⟩
  have hR2 : RrAt V34 b rv l (pV l).2 := hV34
  refine ⟨_, rfl, ?_⟩
  have h35 := kV34.bo h28 (by omega)
  have h36 := kV34.bo h29 (by omega)
  have h37 := kV34.bo h33 (by omega)
  have K38 := K31.no kV34 (by omega)
  have z39 := kV34.size
  refine ps_k (o_rvReadBlock 62 2) (pT gx 0) ?_
  obtain ⟨V40, eV40, kV40⟩ := cell_step V34 gx 0 (.int .i64 (pV l).1)
  have h41 : V40.heap[gx]? = some (.cells (Pro.c ⟨(pV l).1, proZero.h, proZero.r, proZero.g⟩) 36 (0, 0)) := eV40 ▸ ((heap_setCell_same _ gx 0 _ _ (.int .i64 (pV l).1) h37).trans (congrArg (fun c => some (Obj.cells c 36 (0, 0))) (show (Pro.c proZero : Array Value).setIfInBounds 0 (.int .i64 (pV l).1) = Pro.c ⟨(pV l).1, proZero.h, proZero.r, proZero.g⟩ from Pro.c_set0 _ _)))
  refine ps_s (o_rvReadBlock 62 3) (w' := V40) (by rw [← eV40]; exact exec_store_cell 3 (.tmp 13) (.tmp 12) (by kernel_rfl) gx 0 (by kernel_rfl) (.int .i64 (pV l).1) (by kernel_rfl) (by kernel_rfl) (by kernel_rfl) (.int .i64 proZero.v) (rc (h37) (Pro.c_0 _)) (frozen_of_row _ _ _ _ _ h37) (by kernel_rfl)) ?_
  clear eV40
  have h42 := kV40.bo h35 (by omega)
  have h43 := kV40.bo h36 (by omega)
  have h44 : RrAt V40 b rv l (pV l).2 := hR2.keeps kV40 (by unfold Own.One; omega) (fun j hj e => by have := hov j hj; unfold Own.One at e; omega)
  have K45 := K38.no kV40 (by omega)
  have z46 := kV40.size
  refine ps_end ?_
  refine then_n ?_
  refine sy_sq (part_rvReadBlock 126) (part_rvReadBlock 127) ?_
  refine sy_reg ?_
  refine rg_plain 5 (opsAt (part_rvReadBlock 126)) [0, 1, 2, 3] (by kernel_rfl) (by kernel_rfl) ?_
  refine ps_k (o_rvReadBlock 126 0) (pT b 0) ?_
  refine ps_c (o_rvReadBlock 126 1) 49 #[pT b 0, .int .i64 1, .int .i64 4294967296] Try.func49 ((rrN_ok b rv l (pV l).2 1 4294967296 _ h44 (by decide) (by decide)).mono ?_)
  rintro e V47 ⟨rfl, hV47, kV47⟩
  have hR3 : RrAt V47 b rv l (pH l).2 := hV47
  refine ⟨_, rfl, ?_⟩
  have h48 := kV47.bo h42 (by omega)
  have h49 := kV47.bo h43 (by omega)
  have h50 := kV47.bo h41 (by omega)
  have K51 := K45.no kV47 (by omega)
  have z52 := kV47.size
  refine ps_k (o_rvReadBlock 126 2) (pT gx 1) ?_
  obtain ⟨V53, eV53, kV53⟩ := cell_step V47 gx 1 (.int .i64 (pH l).1)
  have h54 : V53.heap[gx]? = some (.cells (Pro.c ⟨(pV l).1, (pH l).1, proZero.r, proZero.g⟩) 36 (0, 0)) := eV53 ▸ ((heap_setCell_same _ gx 1 _ _ (.int .i64 (pH l).1) h50).trans (congrArg (fun c => some (Obj.cells c 36 (0, 0))) (show (Pro.c ⟨(pV l).1, proZero.h, proZero.r, proZero.g⟩ : Array Value).setIfInBounds 1 (.int .i64 (pH l).1) = Pro.c ⟨(pV l).1, (pH l).1, proZero.r, proZero.g⟩ from Pro.c_set1 _ _)))
  refine ps_s (o_rvReadBlock 126 3) (w' := V53) (by rw [← eV53]; exact exec_store_cell 3 (.tmp 16) (.tmp 15) (by kernel_rfl) gx 1 (by kernel_rfl) (.int .i64 (pH l).1) (by kernel_rfl) (by kernel_rfl) (by kernel_rfl) (.int .i64 proZero.h) (rc (h50) (Pro.c_1 _)) (frozen_of_row _ _ _ _ _ h50) (by kernel_rfl)) ?_
  clear eV53
  have h55 := kV53.bo h48 (by omega)
  have h56 := kV53.bo h49 (by omega)
  have h57 : RrAt V53 b rv l (pH l).2 := hR3.keeps kV53 (by unfold Own.One; omega) (fun j hj e => by have := hov j hj; unfold Own.One at e; omega)
  have K58 := K51.no kV53 (by omega)
  have z59 := kV53.size
  refine ps_end ?_
  refine then_n ?_
  refine sy_sq (part_rvReadBlock 254) (part_rvReadBlock 255) ?_
  refine sy_reg ?_
  refine rg_plain 6 (opsAt (part_rvReadBlock 254)) [0, 1, 2, 3] (by kernel_rfl) (by kernel_rfl) ?_
  refine ps_k (o_rvReadBlock 254 0) (pT b 0) ?_
  refine ps_c (o_rvReadBlock 254 1) 50 #[pT b 0] Try.func50 ((rrHash_ok b rv l (pH l).2 _ h57 hl).mono ?_)
  rintro e V60 ⟨rfl, hV60, kV60⟩
  have hR4 : RrAt V60 b rv l (pR l).2 := hV60
  refine ⟨_, rfl, ?_⟩
  have h61 := kV60.bo h55 (by omega)
  have h62 := kV60.bo h56 (by omega)
  have h63 := kV60.bo h54 (by omega)
  have K64 := K58.no kV60 (by omega)
  have z65 := kV60.size
  refine ps_k (o_rvReadBlock 254 2) (pT gx 2) ?_
  obtain ⟨V66, eV66⟩ : ∃ V, V60.setCells gx 2 (B (pR l).1).toArray.toList = V := ⟨_, rfl⟩
  have kV66 : Keeps (One gx) V60 V66 := eV66 ▸ Keeps.setCells _ _ _ _
  have h67 : V66.heap[gx]? = some (.cells (Pro.c ⟨(pV l).1, (pH l).1, (pR l).1, proZero.g⟩) 36 (0, 0)) := eV66 ▸ (heap_setCells gx _ _ 2 _ _ h63 (by rw [Pro.c_size _ rfl]; simp [B_length, (pR_len l)])).trans (congrArg (fun c => some (Obj.cells c 36 (0, 0))) (Pro.c_seth _ (pR l).1 rfl (pR_len l)))
  refine ps_s (o_rvReadBlock 254 3) (w' := V66) (by rw [← eV66]; exact exec_store_mid 26 (.tmp 19) (.tmp 18) (by kernel_rfl) gx 2 (by kernel_rfl) (B (pR l).1).toArray (by kernel_rfl) _ _ h63 (by rw [Pro.c_size _ rfl]; simp [B_length, (pR_len l)]) (by rw [Bz_size, (pR_len l)]; kernel_rfl) (by rw [List.all_toArray]; exact List.all_eq_true.2 (B_one _))) ?_
  clear eV66
  have h68 := kV66.bo h61 (by omega)
  have h69 := kV66.bo h62 (by omega)
  have h70 : RrAt V66 b rv l (pR l).2 := hR4.keeps kV66 (by unfold Own.One; omega) (fun j hj e => by have := hov j hj; unfold Own.One at e; omega)
  have K71 := K64.no kV66 (by omega)
  have z72 := kV66.size
  refine ps_end ?_
  refine then_n ?_
  refine sy_sq (part_rvReadBlock 510) (part_rvReadBlock 511) ?_
  refine sy_reg ?_
  refine rg_plain 7 (opsAt (part_rvReadBlock 510)) [0, 1, 2, 3] (by kernel_rfl) (by kernel_rfl) ?_
  refine ps_k (o_rvReadBlock 510 0) (pT b 0) ?_
  refine ps_c (o_rvReadBlock 510 1) 51 #[pT b 0] Try.func51 ((rrU_nat b rv l (pR l).2 _ h70).mono ?_)
  rintro e V73 ⟨rfl, hV73, kV73⟩
  have hR5 : RrAt V73 b rv l (pG l).2 := hV73
  refine ⟨_, rfl, ?_⟩
  have h74 := kV73.bo h68 (by omega)
  have h75 := kV73.bo h69 (by omega)
  have h76 := kV73.bo h67 (by omega)
  have K77 := K71.no kV73 (by omega)
  have z78 := kV73.size
  refine ps_k (o_rvReadBlock 510 2) (pT gx 34) ?_
  obtain ⟨V79, eV79, kV79⟩ := cell_step V73 gx 34 (.int .u64 (((pG l).1.toNat : Nat) : Int))
  have h80 : V79.heap[gx]? = some (.cells (Pro.c ⟨(pV l).1, (pH l).1, (pR l).1, (pG l).1.toNat⟩) 36 (0, 0)) := eV79 ▸ ((heap_setCell_same _ gx 34 _ _ (.int .u64 (((pG l).1.toNat : Nat) : Int)) h76).trans (congrArg (fun c => some (Obj.cells c 36 (0, 0))) (show (Pro.c ⟨(pV l).1, (pH l).1, (pR l).1, proZero.g⟩ : Array Value).setIfInBounds 34 (.int .u64 (((pG l).1.toNat : Nat) : Int)) = Pro.c ⟨(pV l).1, (pH l).1, (pR l).1, (pG l).1.toNat⟩ from Pro.c_settag _ _ (pR_len l))))
  refine ps_s (o_rvReadBlock 510 3) (w' := V79) (by rw [← eV79]; exact exec_store_cell 27 (.tmp 22) (.tmp 21) (by kernel_rfl) gx 34 (by kernel_rfl) (uN ((pG l).1.toNat)) (by kernel_rfl) (by kernel_rfl) (by kernel_rfl) (uN proZero.g) (rc (h76) (Pro.c_tag _ (pR_len l))) (frozen_of_row _ _ _ _ _ h76) (by kernel_rfl)) ?_
  clear eV79
  have h81 := kV79.bo h74 (by omega)
  have h82 := kV79.bo h75 (by omega)
  have h83 : RrAt V79 b rv l (pG l).2 := hR5.keeps kV79 (by unfold Own.One; omega) (fun j hj e => by have := hov j hj; unfold Own.One at e; omega)
  have K84 := K77.no kV79 (by omega)
  have z85 := kV79.size
  refine ps_end ?_
  refine sy_a ⟨#[v0, undef, pT ga 0, pT gf 0, pT b 0, pT gx 0, undef, v0, pT b 0, pT b 0, .int .i64 (rdN l ⟨0, 0⟩ 2 2).1, pT b 0, .int .i64 (pV l).1, pT gx 0, pT b 0, .int .i64 (pH l).1, pT gx 1, pT b 0, .agg (B (pR l).1).toArray, pT gx 2, pT b 0, uN ((pG l).1.toNat), pT gx 34, undef, undef, undef, undef, undef, undef, undef, undef, undef], []⟩ ?_
  refine then_n ?_
  refine sy_sq (part_rvReadBlock 1022) (part_rvReadBlock 1023) ?_
  refine sy_sq (part_rvReadBlock 2044) (part_rvReadBlock 2045) ?_
  refine sy_reg ?_
  refine rg_plain 8 (opsAt (part_rvReadBlock 2044)) [0, 1, 2, 3] (by kernel_rfl) (by kernel_rfl) ?_
  refine ps_k (o_rvReadBlock 2044 0) (pT b 0) ?_
  refine ps_c (o_rvReadBlock 2044 1) 52 #[pT b 0] Try.func52 ((rrEnd_ok b rv l (pG l).2 _ h83).mono ?_)
  rintro e V86 ⟨rfl, kV86⟩
  refine ⟨_, rfl, ?_⟩
  have h87 := kV86.bk h81
  have h88 := kV86.bk h82
  have h89 := kV86.bk h80
  have K90 := K84.nn kV86
  have z91 := kV86.size
  obtain ⟨V92, eV92, gy, egy, h93, kV92⟩ := alloc_step V86 (#[.int .i64 0, .int .i64 0]) 32
  have n94 : ga < gy := egy ▸ lt_of_block h87
  have n95 : gf < gy := egy ▸ lt_of_block h88
  have n96 : gx < gy := egy ▸ lt_of_block h89
  have n97 : w.heap.size ≤ gy := egy ▸ K90.size
  refine ps_r (o_rvReadBlock 2044 2) (pT gy 0) (w' := V92) (by rw [← eV92, ← egy]; exact exec_alloc0 32 (by kernel_rfl) (.agg (#[.int .i64 0, .int .i64 0])) (by kernel_rfl)) ?_
  clear eV92
  have h98 := kV92.bk h87
  have h99 := kV92.bk h88
  have h100 := kV92.bk h89
  have K101 := K90.nn kV92
  have z102 := kV92.size
  obtain ⟨V103, eV103, kV103⟩ := rowset_step V92 gy (#[.int .i64 (pF l).1, .int .i64 (pF l).2])
  have h104 : V103.heap[gy]? = some (.cells (#[.int .i64 (pF l).1, .int .i64 (pF l).2]) 32 (0, 0)) := eV103 ▸ setRow_heap _ _ _ _ _ _ h93
  refine ps_s (o_rvReadBlock 2044 3) (w' := V103) (by rw [← eV103]; exact exec_store_row 32 (.tmp 6) (.tmp 24) (by kernel_rfl) gy (#[.int .i64 (pF l).1, .int .i64 (pF l).2]) (by kernel_rfl) (by kernel_rfl) 32 (#[.int .i64 0, .int .i64 0]) h93 (by kernel_rfl) rfl (by kernel_rfl)) ?_
  clear eV103
  have h105 := kV103.bo h98 (by omega)
  have h106 := kV103.bo h99 (by omega)
  have h107 := kV103.bo h100 (by omega)
  have K108 := K101.no kV103 (by omega)
  have z109 := kV103.size
  refine ps_end ?_
  refine then_n ?_
  refine sy_sq (part_rvReadBlock 4090) (part_rvReadBlock 4091) ?_
  refine sy_reg ?_
  refine rg_plain 9 (opsAt (part_rvReadBlock 4090)) [0, 1, 2] (by kernel_rfl) (by kernel_rfl) ?_
  refine ps_p (o_rvReadBlock 4090 0) (.agg #[.int .i64 (pF l).1, .int .i64 (pF l).2]) (exec_load_row 32 (.tmp 6) (by kernel_rfl) gy (by kernel_rfl) _ _ (0, 0) _ (h104) Try.underlying32 rfl (by kernel_rfl)) ?_
  refine ps_k (o_rvReadBlock 4090 1) (.agg #[.int .i64 0, .int .i64 0]) ?_
  refine ps_p (o_rvReadBlock 4090 2) (.bool true) (exec_cast (congrArg Value.bool (fault_no hz)) (exec_binop .neq 32 32 (.tmp 25) (.tmp 26) (by kernel_rfl) (.agg #[.int .i64 (pF l).1, .int .i64 (pF l).2]) (.agg #[.int .i64 0, .int .i64 0]) _ (by kernel_rfl) (by kernel_rfl) (run_eqGuard_agg _ _ _ _ _ _ _ fault_guard) (fault_ne _ _ _ _ _))) ?_
  refine ps_end ?_
  refine then_n ?_
  refine sy_ys (.tmp 27) (part_rvReadBlock 8182) (part_rvReadBlock 8183) ?_
  refine sy_sq (part_rvReadBlock 16364) (part_rvReadBlock 16365) ?_
  refine sy_np ?_
  refine sy_reg ?_
  refine an_begin 10 4 (opsAt (part_rvReadBlock 16364)) (fun W => (W.heap[gy]? = some (.cells (#[.int .i64 (pF l).1, .int .i64 (pF l).2]) 32 (0, 0)))) #[false, false, false, false] (by kernel_rfl) (by kernel_rfl) (by kernel_rfl) (by kernel_rfl) ?_
  obtain ⟨V110, eV110, kV110⟩ := drew_step V103
  rw [eV110]
  clear eV110
  have h111 := kV110.bk h105
  have h112 := kV110.bk h106
  have h113 := kV110.bk h107
  have h114 := kV110.bk h104
  have K115 := K108.nn kV110
  have z116 := kV110.size
  refine an_k 0 (o_rvReadBlock 16364 0) (.agg (Pro.c proZero)) h114 ?_
  refine an_v 1 (o_rvReadBlock 16364 1) (.agg #[.int .i64 (pF l).1, .int .i64 (pF l).2]) (fun W hS => exec_load_row 32 (.tmp 6) (by kernel_rfl) gy (by kernel_rfl) _ _ (0, 0) _ (hS) Try.underlying32 rfl (by kernel_rfl)) h114 ?_
  refine an_o 2 ?_
  obtain ⟨V117, eV117, kV117⟩ := rowset_step V110 ga ((Pro.c proZero))
  have h118 : V117.heap[ga]? = some (.cells (Pro.c proZero) 36 (0, 0)) := eV117 ▸ setRow_heap _ _ _ _ _ _ h111
  refine on_s (o_rvReadBlock 16364 2) (w' := V117) (by rw [← eV117]; exact exec_store_row 36 (.tmp 2) (.tmp 28) (by kernel_rfl) ga ((Pro.c proZero)) (by kernel_rfl) (by kernel_rfl) 36 (#[.int .i64 0, .int .i64 0, .int .u8 0, .int .u8 0, .int .u8 0, .int .u8 0, .int .u8 0, .int .u8 0, .int .u8 0, .int .u8 0, .int .u8 0, .int .u8 0, .int .u8 0, .int .u8 0, .int .u8 0, .int .u8 0, .int .u8 0, .int .u8 0, .int .u8 0, .int .u8 0, .int .u8 0, .int .u8 0, .int .u8 0, .int .u8 0, .int .u8 0, .int .u8 0, .int .u8 0, .int .u8 0, .int .u8 0, .int .u8 0, .int .u8 0, .int .u8 0, .int .u8 0, .int .u8 0, .int .u64 0]) h111 (by rw [Pro.c_size _ (show proZero.r.length = 32 from rfl)]; kernel_rfl) (by rw [Pro.c_size _ (show proZero.r.length = 32 from rfl)]; rfl) (Pro.c_one _)) ?_
  clear eV117
  have h119 := kV117.bo h112 (by omega)
  have h120 := kV117.bo h113 (by omega)
  have h121 := kV117.bo h114 (by omega)
  have K122 := K115.no kV117 (by omega)
  have z123 := kV117.size
  refine ⟨h121, ?_⟩
  refine an_o 3 ?_
  obtain ⟨V124, eV124, kV124⟩ := rowset_step V117 gf (#[.int .i64 (pF l).1, .int .i64 (pF l).2])
  have h125 : V124.heap[gf]? = some (.cells (#[.int .i64 (pF l).1, .int .i64 (pF l).2]) 32 (0, 0)) := eV124 ▸ setRow_heap _ _ _ _ _ _ h119
  refine on_s (o_rvReadBlock 16364 3) (w' := V124) (by rw [← eV124]; exact exec_store_row 32 (.tmp 3) (.tmp 29) (by kernel_rfl) gf (#[.int .i64 (pF l).1, .int .i64 (pF l).2]) (by kernel_rfl) (by kernel_rfl) 32 (#[.int .i64 0, .int .i64 0]) h119 (by kernel_rfl) rfl (by kernel_rfl)) ?_
  clear eV124
  have h126 := kV124.bo h120 (by omega)
  have h127 := kV124.bo h121 (by omega)
  have h128 := kV124.bo h118 (by omega)
  have K129 := K122.no kV124 (by omega)
  have z130 := kV124.size
  refine ⟨h127, ?_⟩
  refine an_end (by kernel_rfl) ?_
  refine then_n ?_
  refine sy_ret (by kernel_rfl) ?_
  refine then_r ?_
  refine sy_out (.tuple #[.agg (Pro.c proZero), .agg #[.int .i64 (pF l).1, .int .i64 (pF l).2]]) rfl (results_rows2 (p := 2) (q := 3) (ty := 36) (tz := 32) (by kernel_rfl) _ _ ga gf 36 32 (Pro.c proZero) (#[.int .i64 (pF l).1, .int .i64 (pF l).2]) (0, 0) (0, 0) _ _ (by kernel_rfl) h128 Try.underlying36 rfl (by rw [Pro.c_size _ rfl]; kernel_rfl) (by kernel_rfl) h125 Try.underlying32 rfl (by kernel_rfl)) ?_
  exact ⟨by rw [show (pRes l) = proZero from if_neg hz], K129⟩
theorem rvReadBlock_any (v0 : Value) (l : List UInt8) (w : World) (hx : BytesAt w v0 l) (hl : l.length ≤ 100000000) : Calls Try.prog 14 #[v0] w (fun e w' => e = .returned (.tuple #[.agg (Pro.c (pRes l)), .agg #[.int .i64 (pF l).1, .int .i64 (pF l).2]]) ∧ Keeps Nob w w') := by
  by_cases hz : (pF l).1 = 0
  · exact rvReadBlock_ok v0 l w hx hl hz
  · exact rvReadBlock_no v0 l w hx hl hz
end Go.Proofs.Ytenaakldccjnbaa
