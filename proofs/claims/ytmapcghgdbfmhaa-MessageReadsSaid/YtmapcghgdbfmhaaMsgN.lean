/-
  Messages: which bytes are, by the document (printed by msg10.py). Conditions: none.
-/
import Derived.Test.YtmapcghgdbfmhaaMsgE2
import Derived.Test.YtmapcghgdbfmhaaMsgI
import Derived.Test.YtmapcghgdbfmhaaCodT
namespace Go.Proofs.Ytmapcghgdbfmhaa
open Go Go.RowKit Go.Own Go.Shelf
def atV (l : List UInt8) (s : RS) : Int × RS := rdN l (rdN l s 1 1).2 0 31
def atS (l : List UInt8) (s : RS) : Int × RS := rdN l (atV l s).2 0 4294967296
def atT (l : List UInt8) (s : RS) : Int × RS := rdN l (atS l s).2 0 4294967296
def atR (l : List UInt8) (s : RS) : List UInt8 × RS := rdH l (atT l s).2
def atG (l : List UInt8) (s : RS) : Int × RS := rdU l (atR l s).2
def attM (l : List UInt8) (s : RS) : Att := ⟨(atV l s).1, (atS l s).1, (atT l s).1, (atR l s).1, (atG l s).1.toNat⟩
def prV (l : List UInt8) (s : RS) : Int × RS := rdN l (rdN l s 2 2).2 0 31
def prH (l : List UInt8) (s : RS) : Int × RS := rdN l (prV l s).2 1 4294967296
def prR (l : List UInt8) (s : RS) : List UInt8 × RS := rdH l (prH l s).2
def prG (l : List UInt8) (s : RS) : Int × RS := rdU l (prR l s).2
def proM (l : List UInt8) (s : RS) : Pro := ⟨(prV l s).1, (prH l s).1, (prR l s).1, (prG l s).1.toNat⟩
def stV (l : List UInt8) (s : RS) : Int × RS := rdN l s 0 31
def stS (l : List UInt8) (s : RS) : Int × RS := rdN l (stV l s).2 1 4294967296
def stP (l : List UInt8) (s : RS) : Int × RS := rdN l (stS l s).2 0 32
def stF (l : List UInt8) (s : RS) : Int × RS := rdN l (stP l s).2 0 4294967296
def stM (l : List UInt8) (s : RS) : Msg := { msgZ with sv := (stV l s).1, ss := (stS l s).1, sp := (stP l s).1 - 1, sf := (stF l s).1 }
theorem attM_len (l : List UInt8) (s : RS) : (attM l s).r.length = 32 := rdH_len _ _
theorem proM_len (l : List UInt8) (s : RS) : (proM l s).r.length = 32 := rdH_len _ _
theorem rrU_nat (b : Nat) (v : Value) (l : List UInt8) (s : RS) (w : World) (h : RrAt w b v l s) : Calls Try.prog 66 #[.pointer (some ⟨b, 0, none⟩)] w fun e w' => e = .returned (.int .u64 (((rdU l s).1.toNat : Nat) : Int)) ∧ RrAt w' b v l (rdU l s).2 ∧ Keeps (One b) w w' := by
  exact (rrU_ok b v l s w h).mono fun e w' ⟨h1, h2⟩ => ⟨by rw [h1, rdU_nn], h2⟩
theorem rd_n0 (l : List UInt8) (m : Msg) (s : RS) (x : NF) (lo hi : Int) (h : 0 ≤ lo) : rdIt l (m, s) (.n x lo hi) = (x.set m (rdN l s lo hi).1, (rdN l s lo hi).2) := by
  show (x.set m ((rdN l s (lo - min lo 0) (hi - min lo 0)).1 + min lo 0), (rdN l s (lo - min lo 0) (hi - min lo 0)).2) = _
  rw [show min lo 0 = 0 by omega, Int.sub_zero, Int.sub_zero, Int.add_zero]
theorem rd_sp (l : List UInt8) (m : Msg) (s : RS) : rdIt l (m, s) (.n .sp (-1) 31) = (NF.set m ((rdN l s 0 32).1 - 1) .sp, (rdN l s 0 32).2) := rfl
theorem att_rd (l : List UInt8) (m : Msg) (s : RS) : (voteM .av .as_ .at_ .ar .ag).foldl (rdIt l) (m, s) = (putA m (attM l s), (atG l s).2) := by
  simp only [voteM, List.foldl_cons, List.foldl_nil]
  rw [show rdIt l (m, s) (.k 1) = (m, (rdN l s 1 1).2) from rfl, rd_n0 l _ _ .av 0 31 (by decide), rd_n0 l _ _ .as_ 0 4294967296 (by decide), rd_n0 l _ _ .at_ 0 4294967296 (by decide)]; simp only [rdIt, NF.set, AF.set, HF.set, putA, putB, attM, atV, atS, atT, atR, atG]
theorem att_rd' (l : List UInt8) (m : Msg) (s : RS) : (voteM .bv .bs .bt .br .bg).foldl (rdIt l) (m, s) = (putB m (attM l s), (atG l s).2) := by
  simp only [voteM, List.foldl_cons, List.foldl_nil]
  rw [show rdIt l (m, s) (.k 1) = (m, (rdN l s 1 1).2) from rfl, rd_n0 l _ _ .bv 0 31 (by decide), rd_n0 l _ _ .bs 0 4294967296 (by decide), rd_n0 l _ _ .bt 0 4294967296 (by decide)]; simp only [rdIt, NF.set, AF.set, HF.set, putA, putB, attM, atV, atS, atT, atR, atG]
theorem pro_rd (l : List UInt8) (m : Msg) (s : RS) : (blockM .pv .ph .pr .pg).foldl (rdIt l) (m, s) = (putP m (proM l s), (prG l s).2) := by
  simp only [blockM, List.foldl_cons, List.foldl_nil]
  rw [show rdIt l (m, s) (.k 2) = (m, (rdN l s 2 2).2) from rfl, rd_n0 l _ _ .pv 0 31 (by decide), rd_n0 l _ _ .ph 1 4294967296 (by decide)]; simp only [rdIt, NF.set, AF.set, HF.set, putP, putQ, proM, prV, prH, prR, prG]
theorem pro_rd' (l : List UInt8) (m : Msg) (s : RS) : (blockM .qv .qh .qr .qg).foldl (rdIt l) (m, s) = (putQ m (proM l s), (prG l s).2) := by
  simp only [blockM, List.foldl_cons, List.foldl_nil]
  rw [show rdIt l (m, s) (.k 2) = (m, (rdN l s 2 2).2) from rfl, rd_n0 l _ _ .qv 0 31 (by decide), rd_n0 l _ _ .qh 1 4294967296 (by decide)]; simp only [rdIt, NF.set, AF.set, HF.set, putP, putQ, proM, prV, prH, prR, prG]
theorem lot_rd (l : List UInt8) (m : Msg) (s : RS) : lotM.foldl (rdIt l) (m, s) = (putS m (stM l s), (stF l s).2) := by
  simp only [lotM, List.foldl_cons, List.foldl_nil]
  rw [rd_n0 l _ _ .sv 0 31 (by decide), rd_n0 l _ _ .ss 1 4294967296 (by decide), rd_sp, rd_n0 l _ _ .sf 0 4294967296 (by decide)]; simp only [NF.set, putS, stM, stV, stS, stP, stF]
/-- What is read behind From. -/
def restR (l : List UInt8) (k : Nat) (ms : Msg × RS) : Msg × RS :=
  if k = 8 then (evM (rdIt l ms (.n .pf 1 3)).1.pf).foldl (rdIt l) (rdIt l ms (.n .pf 1 3)) else ((kM k).drop 1).foldl (rdIt l) ms

noncomputable def part_rmattestation (n : Nat) : Code := partOf Try.f69 n
noncomputable abbrev o_rmattestation (n k : Nat) : Oper := (opsAt (part_rmattestation n)).getD k default
set_option maxRecDepth 100000 in
set_option maxHeartbeats 4000000 in
theorem rmattestation_ok (b : Nat) (rv : Value) (l : List UInt8) (s : RS) (w : World) (hR : RrAt w b rv l s) (hov : ∀ j, rv.ownBlock = some j → j < w.heap.size) (hl : l.length ≤ 100000000) :
    Calls Try.prog 69 #[.pointer (some ⟨b, 0, none⟩)] w (fun e w' => e = .returned (.agg (Att.c (attM l s))) ∧ RrAt w' b rv l (atG l s).2 ∧ Keeps (One b) w w') := by
  have hbl := hR.lt
  have K0 : Keeps (One b) w w := Keeps.refl _ _
  refine sy_enter (part_rmattestation 1) ⟨#[pT b 0, undef, undef, undef, undef, undef, undef, undef, undef, undef, undef, undef, undef, undef, undef, undef, undef, undef, undef, undef, undef, undef], []⟩ Try.func69 (by kernel_rfl) (by kernel_rfl) ?_
  refine sy_sq (part_rmattestation 2) (part_rmattestation 3) ?_
  refine sy_reg ?_
  refine rg_plain 0 (opsAt (part_rmattestation 2)) [0] (by kernel_rfl) (by kernel_rfl) ?_
  obtain ⟨V1, eV1, ga, ega, h2, kV1⟩ := alloc_step w (#[.int .i64 0, .int .i64 0, .int .i64 0, .int .u8 0, .int .u8 0, .int .u8 0, .int .u8 0, .int .u8 0, .int .u8 0, .int .u8 0, .int .u8 0, .int .u8 0, .int .u8 0, .int .u8 0, .int .u8 0, .int .u8 0, .int .u8 0, .int .u8 0, .int .u8 0, .int .u8 0, .int .u8 0, .int .u8 0, .int .u8 0, .int .u8 0, .int .u8 0, .int .u8 0, .int .u8 0, .int .u8 0, .int .u8 0, .int .u8 0, .int .u8 0, .int .u8 0, .int .u8 0, .int .u8 0, .int .u8 0, .int .u64 0]) 31
  have n3 : w.heap.size ≤ ga := ega ▸ K0.size
  refine ps_r (o_rmattestation 2 0) (pT ga 0) (w' := V1) (by rw [← eV1, ← ega]; exact exec_alloc0 31 (by kernel_rfl) (.agg (#[.int .i64 0, .int .i64 0, .int .i64 0, .int .u8 0, .int .u8 0, .int .u8 0, .int .u8 0, .int .u8 0, .int .u8 0, .int .u8 0, .int .u8 0, .int .u8 0, .int .u8 0, .int .u8 0, .int .u8 0, .int .u8 0, .int .u8 0, .int .u8 0, .int .u8 0, .int .u8 0, .int .u8 0, .int .u8 0, .int .u8 0, .int .u8 0, .int .u8 0, .int .u8 0, .int .u8 0, .int .u8 0, .int .u8 0, .int .u8 0, .int .u8 0, .int .u8 0, .int .u8 0, .int .u8 0, .int .u8 0, .int .u64 0])) (by kernel_rfl)) ?_
  clear eV1
  have h4 : RrAt V1 b rv l s := hR.keeps kV1 (fun x => x) (fun _ _ x => x)
  have K5 := K0.nn kV1
  have z6 := kV1.size
  refine ps_end ?_
  refine then_n ?_
  refine sy_sq (part_rmattestation 6) (part_rmattestation 7) ?_
  refine sy_reg ?_
  refine rg_plain 1 (opsAt (part_rmattestation 6)) [0, 1] (by kernel_rfl) (by kernel_rfl) ?_
  refine ps_k (o_rmattestation 6 0) (pT b 0) ?_
  refine ps_c (o_rmattestation 6 1) 44 #[pT b 0, .int .i64 1, .int .i64 1] Try.func44 ((rrN_ok b rv l s 1 1 _ h4 (by decide) (by decide)).mono ?_)
  rintro e V7 ⟨rfl, hR8, kV7⟩
  refine ⟨_, rfl, ?_⟩
  have h9 := kV7.bo h2 (by omega)
  have K10 : Keeps (One b) w V7 := K5.then kV7 (fun i hi hm => by unfold Own.One at hm; subst hm; exact rfl)
  have z11 := kV7.size
  refine ps_end ?_
  refine then_n ?_
  refine sy_sq (part_rmattestation 14) (part_rmattestation 15) ?_
  refine sy_reg ?_
  refine rg_plain 2 (opsAt (part_rmattestation 14)) [0] (by kernel_rfl) (by kernel_rfl) ?_
  obtain ⟨V12, eV12, gx, egx, h13, kV12⟩ := alloc_step V7 (#[.int .i64 0, .int .i64 0, .int .i64 0, .int .u8 0, .int .u8 0, .int .u8 0, .int .u8 0, .int .u8 0, .int .u8 0, .int .u8 0, .int .u8 0, .int .u8 0, .int .u8 0, .int .u8 0, .int .u8 0, .int .u8 0, .int .u8 0, .int .u8 0, .int .u8 0, .int .u8 0, .int .u8 0, .int .u8 0, .int .u8 0, .int .u8 0, .int .u8 0, .int .u8 0, .int .u8 0, .int .u8 0, .int .u8 0, .int .u8 0, .int .u8 0, .int .u8 0, .int .u8 0, .int .u8 0, .int .u8 0, .int .u64 0]) 31
  have n14 : ga < gx := egx ▸ lt_of_block h9
  have n15 : w.heap.size ≤ gx := egx ▸ K10.size
  refine ps_r (o_rmattestation 14 0) (pT gx 0) (w' := V12) (by rw [← eV12, ← egx]; exact exec_alloc0 31 (by kernel_rfl) (.agg (#[.int .i64 0, .int .i64 0, .int .i64 0, .int .u8 0, .int .u8 0, .int .u8 0, .int .u8 0, .int .u8 0, .int .u8 0, .int .u8 0, .int .u8 0, .int .u8 0, .int .u8 0, .int .u8 0, .int .u8 0, .int .u8 0, .int .u8 0, .int .u8 0, .int .u8 0, .int .u8 0, .int .u8 0, .int .u8 0, .int .u8 0, .int .u8 0, .int .u8 0, .int .u8 0, .int .u8 0, .int .u8 0, .int .u8 0, .int .u8 0, .int .u8 0, .int .u8 0, .int .u8 0, .int .u8 0, .int .u8 0, .int .u64 0])) (by kernel_rfl)) ?_
  clear eV12
  have h16 := kV12.bk h9
  have h17 : RrAt V12 b rv l ((rdN l s 1 1).2) := hR8.keeps kV12 (fun x => x) (fun _ _ x => x)
  have K18 := K10.nn kV12
  have z19 := kV12.size
  refine ps_end ?_
  refine then_n ?_
  have h20 : V12.heap[gx]? = some (.cells (Att.c (⟨0, 0, 0, zeroH, 0⟩ : Att)) 31 (0, 0)) := h13.trans (by kernel_rfl)
  refine sy_sq (part_rmattestation 30) (part_rmattestation 31) ?_
  refine sy_reg ?_
  refine rg_plain 3 (opsAt (part_rmattestation 30)) [0, 1, 2, 3] (by kernel_rfl) (by kernel_rfl) ?_
  refine ps_k (o_rmattestation 30 0) (pT b 0) ?_
  refine ps_c (o_rmattestation 30 1) 44 #[pT b 0, .int .i64 0, .int .i64 31] Try.func44 ((rrN_ok b rv l ((rdN l s 1 1).2) 0 31 _ h17 (by decide) (by decide)).mono ?_)
  rintro e V21 ⟨rfl, hR22, kV21⟩
  refine ⟨_, rfl, ?_⟩
  have h23 := kV21.bo h16 (by omega)
  have h24 := kV21.bo h20 (by omega)
  have K25 : Keeps (One b) w V21 := K18.then kV21 (fun i hi hm => by unfold Own.One at hm; subst hm; exact rfl)
  have z26 := kV21.size
  refine ps_k (o_rmattestation 30 2) (pT gx 0) ?_
  obtain ⟨V27, eV27, kV27⟩ := cell_step V21 gx 0 (.int .i64 (rdN l ((rdN l s 1 1).2) 0 31).1)
  have h28 : V27.heap[gx]? = some (.cells (Att.c ⟨(rdN l ((rdN l s 1 1).2) 0 31).1, 0, 0, zeroH, 0⟩) 31 (0, 0)) := eV27 ▸ ((heap_setCell_same _ gx 0 _ _ (.int .i64 (rdN l ((rdN l s 1 1).2) 0 31).1) h24).trans (congrArg (fun c => some (Obj.cells c 31 (0, 0))) (show (Att.c (⟨0, 0, 0, zeroH, 0⟩ : Att) : Array Value).setIfInBounds 0 (.int .i64 (rdN l ((rdN l s 1 1).2) 0 31).1) = Att.c ⟨(rdN l ((rdN l s 1 1).2) 0 31).1, 0, 0, zeroH, 0⟩ from Att.c_set0 _ _)))
  refine ps_s (o_rmattestation 30 3) (w' := V27) (by rw [← eV27]; exact exec_store_cell 3 (.tmp 8) (.tmp 7) (by kernel_rfl) gx 0 (by kernel_rfl) (.int .i64 (rdN l ((rdN l s 1 1).2) 0 31).1) (by kernel_rfl) (by kernel_rfl) (by kernel_rfl) (.int .i64 0) (rc (h24) (Att.c_0 _)) (frozen_of_row _ _ _ _ _ h24) (by kernel_rfl)) ?_
  clear eV27
  have h29 := kV27.bo h23 (by omega)
  have h30 : RrAt V27 b rv l ((rdN l ((rdN l s 1 1).2) 0 31).2) := hR22.keeps kV27 (by unfold Own.One; omega) (fun j hj e => by have := hov j hj; unfold Own.One at e; omega)
  have K31 := K25.no kV27 (by omega)
  have z32 := kV27.size
  refine ps_end ?_
  refine then_n ?_
  refine sy_sq (part_rmattestation 62) (part_rmattestation 63) ?_
  refine sy_reg ?_
  refine rg_plain 4 (opsAt (part_rmattestation 62)) [0, 1, 2, 3] (by kernel_rfl) (by kernel_rfl) ?_
  refine ps_k (o_rmattestation 62 0) (pT b 0) ?_
  refine ps_c (o_rmattestation 62 1) 44 #[pT b 0, .int .i64 0, .int .i64 4294967296] Try.func44 ((rrN_ok b rv l ((rdN l ((rdN l s 1 1).2) 0 31).2) 0 4294967296 _ h30 (by decide) (by decide)).mono ?_)
  rintro e V33 ⟨rfl, hR34, kV33⟩
  refine ⟨_, rfl, ?_⟩
  have h35 := kV33.bo h29 (by omega)
  have h36 := kV33.bo h28 (by omega)
  have K37 : Keeps (One b) w V33 := K31.then kV33 (fun i hi hm => by unfold Own.One at hm; subst hm; exact rfl)
  have z38 := kV33.size
  refine ps_k (o_rmattestation 62 2) (pT gx 1) ?_
  obtain ⟨V39, eV39, kV39⟩ := cell_step V33 gx 1 (.int .i64 (rdN l ((rdN l ((rdN l s 1 1).2) 0 31).2) 0 4294967296).1)
  have h40 : V39.heap[gx]? = some (.cells (Att.c ⟨(rdN l ((rdN l s 1 1).2) 0 31).1, (rdN l ((rdN l ((rdN l s 1 1).2) 0 31).2) 0 4294967296).1, 0, zeroH, 0⟩) 31 (0, 0)) := eV39 ▸ ((heap_setCell_same _ gx 1 _ _ (.int .i64 (rdN l ((rdN l ((rdN l s 1 1).2) 0 31).2) 0 4294967296).1) h36).trans (congrArg (fun c => some (Obj.cells c 31 (0, 0))) (show (Att.c ⟨(rdN l ((rdN l s 1 1).2) 0 31).1, 0, 0, zeroH, 0⟩ : Array Value).setIfInBounds 1 (.int .i64 (rdN l ((rdN l ((rdN l s 1 1).2) 0 31).2) 0 4294967296).1) = Att.c ⟨(rdN l ((rdN l s 1 1).2) 0 31).1, (rdN l ((rdN l ((rdN l s 1 1).2) 0 31).2) 0 4294967296).1, 0, zeroH, 0⟩ from Att.c_set1 _ _)))
  refine ps_s (o_rmattestation 62 3) (w' := V39) (by rw [← eV39]; exact exec_store_cell 3 (.tmp 11) (.tmp 10) (by kernel_rfl) gx 1 (by kernel_rfl) (.int .i64 (rdN l ((rdN l ((rdN l s 1 1).2) 0 31).2) 0 4294967296).1) (by kernel_rfl) (by kernel_rfl) (by kernel_rfl) (.int .i64 0) (rc (h36) (Att.c_1 _)) (frozen_of_row _ _ _ _ _ h36) (by kernel_rfl)) ?_
  clear eV39
  have h41 := kV39.bo h35 (by omega)
  have h42 : RrAt V39 b rv l ((rdN l ((rdN l ((rdN l s 1 1).2) 0 31).2) 0 4294967296).2) := hR34.keeps kV39 (by unfold Own.One; omega) (fun j hj e => by have := hov j hj; unfold Own.One at e; omega)
  have K43 := K37.no kV39 (by omega)
  have z44 := kV39.size
  refine ps_end ?_
  refine then_n ?_
  refine sy_sq (part_rmattestation 126) (part_rmattestation 127) ?_
  refine sy_reg ?_
  refine rg_plain 5 (opsAt (part_rmattestation 126)) [0, 1, 2, 3] (by kernel_rfl) (by kernel_rfl) ?_
  refine ps_k (o_rmattestation 126 0) (pT b 0) ?_
  refine ps_c (o_rmattestation 126 1) 44 #[pT b 0, .int .i64 0, .int .i64 4294967296] Try.func44 ((rrN_ok b rv l ((rdN l ((rdN l ((rdN l s 1 1).2) 0 31).2) 0 4294967296).2) 0 4294967296 _ h42 (by decide) (by decide)).mono ?_)
  rintro e V45 ⟨rfl, hR46, kV45⟩
  refine ⟨_, rfl, ?_⟩
  have h47 := kV45.bo h41 (by omega)
  have h48 := kV45.bo h40 (by omega)
  have K49 : Keeps (One b) w V45 := K43.then kV45 (fun i hi hm => by unfold Own.One at hm; subst hm; exact rfl)
  have z50 := kV45.size
  refine ps_k (o_rmattestation 126 2) (pT gx 2) ?_
  obtain ⟨V51, eV51, kV51⟩ := cell_step V45 gx 2 (.int .i64 (rdN l ((rdN l ((rdN l ((rdN l s 1 1).2) 0 31).2) 0 4294967296).2) 0 4294967296).1)
  have h52 : V51.heap[gx]? = some (.cells (Att.c ⟨(rdN l ((rdN l s 1 1).2) 0 31).1, (rdN l ((rdN l ((rdN l s 1 1).2) 0 31).2) 0 4294967296).1, (rdN l ((rdN l ((rdN l ((rdN l s 1 1).2) 0 31).2) 0 4294967296).2) 0 4294967296).1, zeroH, 0⟩) 31 (0, 0)) := eV51 ▸ ((heap_setCell_same _ gx 2 _ _ (.int .i64 (rdN l ((rdN l ((rdN l ((rdN l s 1 1).2) 0 31).2) 0 4294967296).2) 0 4294967296).1) h48).trans (congrArg (fun c => some (Obj.cells c 31 (0, 0))) (show (Att.c ⟨(rdN l ((rdN l s 1 1).2) 0 31).1, (rdN l ((rdN l ((rdN l s 1 1).2) 0 31).2) 0 4294967296).1, 0, zeroH, 0⟩ : Array Value).setIfInBounds 2 (.int .i64 (rdN l ((rdN l ((rdN l ((rdN l s 1 1).2) 0 31).2) 0 4294967296).2) 0 4294967296).1) = Att.c ⟨(rdN l ((rdN l s 1 1).2) 0 31).1, (rdN l ((rdN l ((rdN l s 1 1).2) 0 31).2) 0 4294967296).1, (rdN l ((rdN l ((rdN l ((rdN l s 1 1).2) 0 31).2) 0 4294967296).2) 0 4294967296).1, zeroH, 0⟩ from Att.c_set2 _ _)))
  refine ps_s (o_rmattestation 126 3) (w' := V51) (by rw [← eV51]; exact exec_store_cell 3 (.tmp 14) (.tmp 13) (by kernel_rfl) gx 2 (by kernel_rfl) (.int .i64 (rdN l ((rdN l ((rdN l ((rdN l s 1 1).2) 0 31).2) 0 4294967296).2) 0 4294967296).1) (by kernel_rfl) (by kernel_rfl) (by kernel_rfl) (.int .i64 0) (rc (h48) (Att.c_2 _)) (frozen_of_row _ _ _ _ _ h48) (by kernel_rfl)) ?_
  clear eV51
  have h53 := kV51.bo h47 (by omega)
  have h54 : RrAt V51 b rv l ((rdN l ((rdN l ((rdN l ((rdN l s 1 1).2) 0 31).2) 0 4294967296).2) 0 4294967296).2) := hR46.keeps kV51 (by unfold Own.One; omega) (fun j hj e => by have := hov j hj; unfold Own.One at e; omega)
  have K55 := K49.no kV51 (by omega)
  have z56 := kV51.size
  refine ps_end ?_
  refine then_n ?_
  refine sy_sq (part_rmattestation 254) (part_rmattestation 255) ?_
  refine sy_reg ?_
  refine rg_plain 6 (opsAt (part_rmattestation 254)) [0, 1, 2, 3] (by kernel_rfl) (by kernel_rfl) ?_
  refine ps_k (o_rmattestation 254 0) (pT b 0) ?_
  refine ps_c (o_rmattestation 254 1) 100 #[pT b 0] Try.func100 ((rrHash_ok b rv l ((rdN l ((rdN l ((rdN l ((rdN l s 1 1).2) 0 31).2) 0 4294967296).2) 0 4294967296).2) _ h54 hl).mono ?_)
  rintro e V57 ⟨rfl, hR58, kV57⟩
  refine ⟨_, rfl, ?_⟩
  have h59 := kV57.bo h53 (by omega)
  have h60 := kV57.bo h52 (by omega)
  have K61 : Keeps (One b) w V57 := K55.then kV57 (fun i hi hm => by unfold Own.One at hm; subst hm; exact rfl)
  have z62 := kV57.size
  refine ps_k (o_rmattestation 254 2) (pT gx 3) ?_
  obtain ⟨V63, eV63⟩ : ∃ V, V57.setCells gx 3 (B (rdH l ((rdN l ((rdN l ((rdN l ((rdN l s 1 1).2) 0 31).2) 0 4294967296).2) 0 4294967296).2)).1).toArray.toList = V := ⟨_, rfl⟩
  have kV63 : Keeps (One gx) V57 V63 := eV63 ▸ Keeps.setCells _ _ _ _
  have h64 : V63.heap[gx]? = some (.cells (Att.c ⟨(rdN l ((rdN l s 1 1).2) 0 31).1, (rdN l ((rdN l ((rdN l s 1 1).2) 0 31).2) 0 4294967296).1, (rdN l ((rdN l ((rdN l ((rdN l s 1 1).2) 0 31).2) 0 4294967296).2) 0 4294967296).1, (rdH l ((rdN l ((rdN l ((rdN l ((rdN l s 1 1).2) 0 31).2) 0 4294967296).2) 0 4294967296).2)).1, 0⟩) 31 (0, 0)) := eV63 ▸ (heap_setCells gx _ _ 3 _ _ h60 (by rw [Att.c_size _ rfl]; simp [B_length, rdH_len])).trans (congrArg (fun c => some (Obj.cells c 31 (0, 0))) (Att.c_seth _ (rdH l ((rdN l ((rdN l ((rdN l ((rdN l s 1 1).2) 0 31).2) 0 4294967296).2) 0 4294967296).2)).1 rfl (rdH_len _ _)))
  refine ps_s (o_rmattestation 254 3) (w' := V63) (by rw [← eV63]; exact exec_store_mid 29 (.tmp 17) (.tmp 16) (by kernel_rfl) gx 3 (by kernel_rfl) (B (rdH l ((rdN l ((rdN l ((rdN l ((rdN l s 1 1).2) 0 31).2) 0 4294967296).2) 0 4294967296).2)).1).toArray (by kernel_rfl) _ _ h60 (by rw [Att.c_size _ rfl]; simp [B_length, rdH_len]) (by rw [Bz_size, show ((rdH l ((rdN l ((rdN l ((rdN l ((rdN l s 1 1).2) 0 31).2) 0 4294967296).2) 0 4294967296).2)).1).length = 32 from (rdH_len _ _)]; kernel_rfl) (by rw [List.all_toArray]; exact List.all_eq_true.2 (B_one _))) ?_
  clear eV63
  have h65 := kV63.bo h59 (by omega)
  have h66 : RrAt V63 b rv l ((rdH l ((rdN l ((rdN l ((rdN l ((rdN l s 1 1).2) 0 31).2) 0 4294967296).2) 0 4294967296).2)).2) := hR58.keeps kV63 (by unfold Own.One; omega) (fun j hj e => by have := hov j hj; unfold Own.One at e; omega)
  have K67 := K61.no kV63 (by omega)
  have z68 := kV63.size
  refine ps_end ?_
  refine then_n ?_
  refine sy_sq (part_rmattestation 510) (part_rmattestation 511) ?_
  refine sy_reg ?_
  refine rg_plain 7 (opsAt (part_rmattestation 510)) [0, 1, 2, 3] (by kernel_rfl) (by kernel_rfl) ?_
  refine ps_k (o_rmattestation 510 0) (pT b 0) ?_
  refine ps_c (o_rmattestation 510 1) 66 #[pT b 0] Try.func66 ((rrU_nat b rv l ((rdH l ((rdN l ((rdN l ((rdN l ((rdN l s 1 1).2) 0 31).2) 0 4294967296).2) 0 4294967296).2)).2) _ h66).mono ?_)
  rintro e V69 ⟨rfl, hR70, kV69⟩
  refine ⟨_, rfl, ?_⟩
  have h71 := kV69.bo h65 (by omega)
  have h72 := kV69.bo h64 (by omega)
  have K73 : Keeps (One b) w V69 := K67.then kV69 (fun i hi hm => by unfold Own.One at hm; subst hm; exact rfl)
  have z74 := kV69.size
  refine ps_k (o_rmattestation 510 2) (pT gx 35) ?_
  obtain ⟨V75, eV75, kV75⟩ := cell_step V69 gx 35 (.int .u64 (((rdU l ((rdH l ((rdN l ((rdN l ((rdN l ((rdN l s 1 1).2) 0 31).2) 0 4294967296).2) 0 4294967296).2)).2)).1.toNat : Nat) : Int))
  have h76 : V75.heap[gx]? = some (.cells (Att.c ⟨(rdN l ((rdN l s 1 1).2) 0 31).1, (rdN l ((rdN l ((rdN l s 1 1).2) 0 31).2) 0 4294967296).1, (rdN l ((rdN l ((rdN l ((rdN l s 1 1).2) 0 31).2) 0 4294967296).2) 0 4294967296).1, (rdH l ((rdN l ((rdN l ((rdN l ((rdN l s 1 1).2) 0 31).2) 0 4294967296).2) 0 4294967296).2)).1, (rdU l ((rdH l ((rdN l ((rdN l ((rdN l ((rdN l s 1 1).2) 0 31).2) 0 4294967296).2) 0 4294967296).2)).2)).1.toNat⟩) 31 (0, 0)) := eV75 ▸ ((heap_setCell_same _ gx 35 _ _ (.int .u64 (((rdU l ((rdH l ((rdN l ((rdN l ((rdN l ((rdN l s 1 1).2) 0 31).2) 0 4294967296).2) 0 4294967296).2)).2)).1.toNat : Nat) : Int)) h72).trans (congrArg (fun c => some (Obj.cells c 31 (0, 0))) (show (Att.c ⟨(rdN l ((rdN l s 1 1).2) 0 31).1, (rdN l ((rdN l ((rdN l s 1 1).2) 0 31).2) 0 4294967296).1, (rdN l ((rdN l ((rdN l ((rdN l s 1 1).2) 0 31).2) 0 4294967296).2) 0 4294967296).1, (rdH l ((rdN l ((rdN l ((rdN l ((rdN l s 1 1).2) 0 31).2) 0 4294967296).2) 0 4294967296).2)).1, 0⟩ : Array Value).setIfInBounds 35 (.int .u64 (((rdU l ((rdH l ((rdN l ((rdN l ((rdN l ((rdN l s 1 1).2) 0 31).2) 0 4294967296).2) 0 4294967296).2)).2)).1.toNat : Nat) : Int)) = Att.c ⟨(rdN l ((rdN l s 1 1).2) 0 31).1, (rdN l ((rdN l ((rdN l s 1 1).2) 0 31).2) 0 4294967296).1, (rdN l ((rdN l ((rdN l ((rdN l s 1 1).2) 0 31).2) 0 4294967296).2) 0 4294967296).1, (rdH l ((rdN l ((rdN l ((rdN l ((rdN l s 1 1).2) 0 31).2) 0 4294967296).2) 0 4294967296).2)).1, (rdU l ((rdH l ((rdN l ((rdN l ((rdN l ((rdN l s 1 1).2) 0 31).2) 0 4294967296).2) 0 4294967296).2)).2)).1.toNat⟩ from Att.c_settag (⟨(rdN l ((rdN l s 1 1).2) 0 31).1, (rdN l ((rdN l ((rdN l s 1 1).2) 0 31).2) 0 4294967296).1, (rdN l ((rdN l ((rdN l ((rdN l s 1 1).2) 0 31).2) 0 4294967296).2) 0 4294967296).1, (rdH l ((rdN l ((rdN l ((rdN l ((rdN l s 1 1).2) 0 31).2) 0 4294967296).2) 0 4294967296).2)).1, 0⟩) _ (rdH_len _ _))))
  refine ps_s (o_rmattestation 510 3) (w' := V75) (by rw [← eV75]; exact exec_store_cell 25 (.tmp 20) (.tmp 19) (by kernel_rfl) gx 35 (by kernel_rfl) (uN ((rdU l ((rdH l ((rdN l ((rdN l ((rdN l ((rdN l s 1 1).2) 0 31).2) 0 4294967296).2) 0 4294967296).2)).2)).1.toNat)) (by kernel_rfl) (by kernel_rfl) (by kernel_rfl) (.int .u64 0) (rc (h72) (Att.c_tag (⟨(rdN l ((rdN l s 1 1).2) 0 31).1, (rdN l ((rdN l ((rdN l s 1 1).2) 0 31).2) 0 4294967296).1, (rdN l ((rdN l ((rdN l ((rdN l s 1 1).2) 0 31).2) 0 4294967296).2) 0 4294967296).1, (rdH l ((rdN l ((rdN l ((rdN l ((rdN l s 1 1).2) 0 31).2) 0 4294967296).2) 0 4294967296).2)).1, 0⟩) (rdH_len _ _))) (frozen_of_row _ _ _ _ _ h72) (by kernel_rfl)) ?_
  clear eV75
  have h77 := kV75.bo h71 (by omega)
  have h78 : RrAt V75 b rv l ((rdU l ((rdH l ((rdN l ((rdN l ((rdN l ((rdN l s 1 1).2) 0 31).2) 0 4294967296).2) 0 4294967296).2)).2)).2) := hR70.keeps kV75 (by unfold Own.One; omega) (fun j hj e => by have := hov j hj; unfold Own.One at e; omega)
  have K79 := K73.no kV75 (by omega)
  have z80 := kV75.size
  refine ps_end ?_
  refine sy_a ⟨#[pT b 0, undef, pT ga 0, pT gx 0, pT b 0, .int .i64 (rdN l s 1 1).1, pT b 0, .int .i64 (rdN l ((rdN l s 1 1).2) 0 31).1, pT gx 0, pT b 0, .int .i64 (rdN l ((rdN l ((rdN l s 1 1).2) 0 31).2) 0 4294967296).1, pT gx 1, pT b 0, .int .i64 (rdN l ((rdN l ((rdN l ((rdN l s 1 1).2) 0 31).2) 0 4294967296).2) 0 4294967296).1, pT gx 2, pT b 0, .agg (B (rdH l ((rdN l ((rdN l ((rdN l ((rdN l s 1 1).2) 0 31).2) 0 4294967296).2) 0 4294967296).2)).1).toArray, pT gx 3, pT b 0, uN ((rdU l ((rdH l ((rdN l ((rdN l ((rdN l ((rdN l s 1 1).2) 0 31).2) 0 4294967296).2) 0 4294967296).2)).2)).1.toNat), pT gx 35, undef], []⟩ ?_
  refine then_n ?_
  refine sy_sq (part_rmattestation 1022) (part_rmattestation 1023) ?_
  refine sy_reg ?_
  refine rg_plain 8 (opsAt (part_rmattestation 1022)) [0, 1] (by kernel_rfl) (by kernel_rfl) ?_
  refine ps_p (o_rmattestation 1022 0) (.agg (Att.c ⟨(rdN l ((rdN l s 1 1).2) 0 31).1, (rdN l ((rdN l ((rdN l s 1 1).2) 0 31).2) 0 4294967296).1, (rdN l ((rdN l ((rdN l ((rdN l s 1 1).2) 0 31).2) 0 4294967296).2) 0 4294967296).1, (rdH l ((rdN l ((rdN l ((rdN l ((rdN l s 1 1).2) 0 31).2) 0 4294967296).2) 0 4294967296).2)).1, (rdU l ((rdH l ((rdN l ((rdN l ((rdN l ((rdN l s 1 1).2) 0 31).2) 0 4294967296).2) 0 4294967296).2)).2)).1.toNat⟩)) (exec_load_row 31 (.tmp 3) (by kernel_rfl) gx (by kernel_rfl) _ _ (0, 0) _ (h76) Try.underlying31 rfl (by rw [Att.c_size (⟨(rdN l ((rdN l s 1 1).2) 0 31).1, (rdN l ((rdN l ((rdN l s 1 1).2) 0 31).2) 0 4294967296).1, (rdN l ((rdN l ((rdN l ((rdN l s 1 1).2) 0 31).2) 0 4294967296).2) 0 4294967296).1, (rdH l ((rdN l ((rdN l ((rdN l ((rdN l s 1 1).2) 0 31).2) 0 4294967296).2) 0 4294967296).2)).1, (rdU l ((rdH l ((rdN l ((rdN l ((rdN l ((rdN l s 1 1).2) 0 31).2) 0 4294967296).2) 0 4294967296).2)).2)).1.toNat⟩) (rdH_len _ _)]; kernel_rfl)) ?_
  obtain ⟨V81, eV81, kV81⟩ := rowset_step V75 ga ((Att.c ⟨(rdN l ((rdN l s 1 1).2) 0 31).1, (rdN l ((rdN l ((rdN l s 1 1).2) 0 31).2) 0 4294967296).1, (rdN l ((rdN l ((rdN l ((rdN l s 1 1).2) 0 31).2) 0 4294967296).2) 0 4294967296).1, (rdH l ((rdN l ((rdN l ((rdN l ((rdN l s 1 1).2) 0 31).2) 0 4294967296).2) 0 4294967296).2)).1, (rdU l ((rdH l ((rdN l ((rdN l ((rdN l ((rdN l s 1 1).2) 0 31).2) 0 4294967296).2) 0 4294967296).2)).2)).1.toNat⟩))
  have h82 : V81.heap[ga]? = some (.cells (Att.c ⟨(rdN l ((rdN l s 1 1).2) 0 31).1, (rdN l ((rdN l ((rdN l s 1 1).2) 0 31).2) 0 4294967296).1, (rdN l ((rdN l ((rdN l ((rdN l s 1 1).2) 0 31).2) 0 4294967296).2) 0 4294967296).1, (rdH l ((rdN l ((rdN l ((rdN l ((rdN l s 1 1).2) 0 31).2) 0 4294967296).2) 0 4294967296).2)).1, (rdU l ((rdH l ((rdN l ((rdN l ((rdN l ((rdN l s 1 1).2) 0 31).2) 0 4294967296).2) 0 4294967296).2)).2)).1.toNat⟩) 31 (0, 0)) := eV81 ▸ setRow_heap _ _ _ _ _ _ h77
  refine ps_s (o_rmattestation 1022 1) (w' := V81) (by rw [← eV81]; exact exec_store_row 31 (.tmp 2) (.tmp 21) (by kernel_rfl) ga ((Att.c ⟨(rdN l ((rdN l s 1 1).2) 0 31).1, (rdN l ((rdN l ((rdN l s 1 1).2) 0 31).2) 0 4294967296).1, (rdN l ((rdN l ((rdN l ((rdN l s 1 1).2) 0 31).2) 0 4294967296).2) 0 4294967296).1, (rdH l ((rdN l ((rdN l ((rdN l ((rdN l s 1 1).2) 0 31).2) 0 4294967296).2) 0 4294967296).2)).1, (rdU l ((rdH l ((rdN l ((rdN l ((rdN l ((rdN l s 1 1).2) 0 31).2) 0 4294967296).2) 0 4294967296).2)).2)).1.toNat⟩)) (by kernel_rfl) (by kernel_rfl) 31 (#[.int .i64 0, .int .i64 0, .int .i64 0, .int .u8 0, .int .u8 0, .int .u8 0, .int .u8 0, .int .u8 0, .int .u8 0, .int .u8 0, .int .u8 0, .int .u8 0, .int .u8 0, .int .u8 0, .int .u8 0, .int .u8 0, .int .u8 0, .int .u8 0, .int .u8 0, .int .u8 0, .int .u8 0, .int .u8 0, .int .u8 0, .int .u8 0, .int .u8 0, .int .u8 0, .int .u8 0, .int .u8 0, .int .u8 0, .int .u8 0, .int .u8 0, .int .u8 0, .int .u8 0, .int .u8 0, .int .u8 0, .int .u64 0]) h77 (by rw [Att.c_size _ (rdH_len _ _)]; kernel_rfl) (by rw [Att.c_size _ (rdH_len _ _)]; rfl) (Att.c_one _)) ?_
  clear eV81
  have h83 : RrAt V81 b rv l ((rdU l ((rdH l ((rdN l ((rdN l ((rdN l ((rdN l s 1 1).2) 0 31).2) 0 4294967296).2) 0 4294967296).2)).2)).2) := h78.keeps kV81 (by unfold Own.One; omega) (fun j hj e => by have := hov j hj; unfold Own.One at e; omega)
  have h84 := kV81.bo h76 (by omega)
  have K85 := K79.no kV81 (by omega)
  have z86 := kV81.size
  refine ps_end ?_
  refine then_n ?_
  refine sy_ret (by kernel_rfl) ?_
  refine sy_out (.agg (Att.c ⟨(rdN l ((rdN l s 1 1).2) 0 31).1, (rdN l ((rdN l ((rdN l s 1 1).2) 0 31).2) 0 4294967296).1, (rdN l ((rdN l ((rdN l ((rdN l s 1 1).2) 0 31).2) 0 4294967296).2) 0 4294967296).1, (rdH l ((rdN l ((rdN l ((rdN l ((rdN l s 1 1).2) 0 31).2) 0 4294967296).2) 0 4294967296).2)).1, (rdU l ((rdH l ((rdN l ((rdN l ((rdN l ((rdN l s 1 1).2) 0 31).2) 0 4294967296).2) 0 4294967296).2)).2)).1.toNat⟩)) rfl (results_cell_row (p := 2) (ty := 31) (by kernel_rfl) _ _ ga 31 (Att.c ⟨(rdN l ((rdN l s 1 1).2) 0 31).1, (rdN l ((rdN l ((rdN l s 1 1).2) 0 31).2) 0 4294967296).1, (rdN l ((rdN l ((rdN l ((rdN l s 1 1).2) 0 31).2) 0 4294967296).2) 0 4294967296).1, (rdH l ((rdN l ((rdN l ((rdN l ((rdN l s 1 1).2) 0 31).2) 0 4294967296).2) 0 4294967296).2)).1, (rdU l ((rdH l ((rdN l ((rdN l ((rdN l ((rdN l s 1 1).2) 0 31).2) 0 4294967296).2) 0 4294967296).2)).2)).1.toNat⟩) (0, 0) _ (by kernel_rfl) h82 Try.underlying31 rfl (by rw [Att.c_size (⟨(rdN l ((rdN l s 1 1).2) 0 31).1, (rdN l ((rdN l ((rdN l s 1 1).2) 0 31).2) 0 4294967296).1, (rdN l ((rdN l ((rdN l ((rdN l s 1 1).2) 0 31).2) 0 4294967296).2) 0 4294967296).1, (rdH l ((rdN l ((rdN l ((rdN l ((rdN l s 1 1).2) 0 31).2) 0 4294967296).2) 0 4294967296).2)).1, (rdU l ((rdH l ((rdN l ((rdN l ((rdN l ((rdN l s 1 1).2) 0 31).2) 0 4294967296).2) 0 4294967296).2)).2)).1.toNat⟩) (rdH_len _ _)]; kernel_rfl)) ?_
  exact ⟨rfl, h83, K85⟩
noncomputable def part_rmproposal (n : Nat) : Code := partOf Try.f70 n
noncomputable abbrev o_rmproposal (n k : Nat) : Oper := (opsAt (part_rmproposal n)).getD k default
set_option maxRecDepth 100000 in
set_option maxHeartbeats 4000000 in
theorem rmproposal_ok (b : Nat) (rv : Value) (l : List UInt8) (s : RS) (w : World) (hR : RrAt w b rv l s) (hov : ∀ j, rv.ownBlock = some j → j < w.heap.size) (hl : l.length ≤ 100000000) :
    Calls Try.prog 70 #[.pointer (some ⟨b, 0, none⟩)] w (fun e w' => e = .returned (.agg (Pro.c (proM l s))) ∧ RrAt w' b rv l (prG l s).2 ∧ Keeps (One b) w w') := by
  have hbl := hR.lt
  have K0 : Keeps (One b) w w := Keeps.refl _ _
  refine sy_enter (part_rmproposal 1) ⟨#[pT b 0, undef, undef, undef, undef, undef, undef, undef, undef, undef, undef, undef, undef, undef, undef, undef, undef, undef, undef], []⟩ Try.func70 (by kernel_rfl) (by kernel_rfl) ?_
  refine sy_sq (part_rmproposal 2) (part_rmproposal 3) ?_
  refine sy_reg ?_
  refine rg_plain 0 (opsAt (part_rmproposal 2)) [0] (by kernel_rfl) (by kernel_rfl) ?_
  obtain ⟨V1, eV1, ga, ega, h2, kV1⟩ := alloc_step w (#[.int .i64 0, .int .i64 0, .int .u8 0, .int .u8 0, .int .u8 0, .int .u8 0, .int .u8 0, .int .u8 0, .int .u8 0, .int .u8 0, .int .u8 0, .int .u8 0, .int .u8 0, .int .u8 0, .int .u8 0, .int .u8 0, .int .u8 0, .int .u8 0, .int .u8 0, .int .u8 0, .int .u8 0, .int .u8 0, .int .u8 0, .int .u8 0, .int .u8 0, .int .u8 0, .int .u8 0, .int .u8 0, .int .u8 0, .int .u8 0, .int .u8 0, .int .u8 0, .int .u8 0, .int .u8 0, .int .u64 0]) 33
  have n3 : w.heap.size ≤ ga := ega ▸ K0.size
  refine ps_r (o_rmproposal 2 0) (pT ga 0) (w' := V1) (by rw [← eV1, ← ega]; exact exec_alloc0 33 (by kernel_rfl) (.agg (#[.int .i64 0, .int .i64 0, .int .u8 0, .int .u8 0, .int .u8 0, .int .u8 0, .int .u8 0, .int .u8 0, .int .u8 0, .int .u8 0, .int .u8 0, .int .u8 0, .int .u8 0, .int .u8 0, .int .u8 0, .int .u8 0, .int .u8 0, .int .u8 0, .int .u8 0, .int .u8 0, .int .u8 0, .int .u8 0, .int .u8 0, .int .u8 0, .int .u8 0, .int .u8 0, .int .u8 0, .int .u8 0, .int .u8 0, .int .u8 0, .int .u8 0, .int .u8 0, .int .u8 0, .int .u8 0, .int .u64 0])) (by kernel_rfl)) ?_
  clear eV1
  have h4 : RrAt V1 b rv l s := hR.keeps kV1 (fun x => x) (fun _ _ x => x)
  have K5 := K0.nn kV1
  have z6 := kV1.size
  refine ps_end ?_
  refine then_n ?_
  refine sy_sq (part_rmproposal 6) (part_rmproposal 7) ?_
  refine sy_reg ?_
  refine rg_plain 1 (opsAt (part_rmproposal 6)) [0, 1] (by kernel_rfl) (by kernel_rfl) ?_
  refine ps_k (o_rmproposal 6 0) (pT b 0) ?_
  refine ps_c (o_rmproposal 6 1) 44 #[pT b 0, .int .i64 2, .int .i64 2] Try.func44 ((rrN_ok b rv l s 2 2 _ h4 (by decide) (by decide)).mono ?_)
  rintro e V7 ⟨rfl, hR8, kV7⟩
  refine ⟨_, rfl, ?_⟩
  have h9 := kV7.bo h2 (by omega)
  have K10 : Keeps (One b) w V7 := K5.then kV7 (fun i hi hm => by unfold Own.One at hm; subst hm; exact rfl)
  have z11 := kV7.size
  refine ps_end ?_
  refine then_n ?_
  refine sy_sq (part_rmproposal 14) (part_rmproposal 15) ?_
  refine sy_reg ?_
  refine rg_plain 2 (opsAt (part_rmproposal 14)) [0] (by kernel_rfl) (by kernel_rfl) ?_
  obtain ⟨V12, eV12, gx, egx, h13, kV12⟩ := alloc_step V7 (#[.int .i64 0, .int .i64 0, .int .u8 0, .int .u8 0, .int .u8 0, .int .u8 0, .int .u8 0, .int .u8 0, .int .u8 0, .int .u8 0, .int .u8 0, .int .u8 0, .int .u8 0, .int .u8 0, .int .u8 0, .int .u8 0, .int .u8 0, .int .u8 0, .int .u8 0, .int .u8 0, .int .u8 0, .int .u8 0, .int .u8 0, .int .u8 0, .int .u8 0, .int .u8 0, .int .u8 0, .int .u8 0, .int .u8 0, .int .u8 0, .int .u8 0, .int .u8 0, .int .u8 0, .int .u8 0, .int .u64 0]) 33
  have n14 : ga < gx := egx ▸ lt_of_block h9
  have n15 : w.heap.size ≤ gx := egx ▸ K10.size
  refine ps_r (o_rmproposal 14 0) (pT gx 0) (w' := V12) (by rw [← eV12, ← egx]; exact exec_alloc0 33 (by kernel_rfl) (.agg (#[.int .i64 0, .int .i64 0, .int .u8 0, .int .u8 0, .int .u8 0, .int .u8 0, .int .u8 0, .int .u8 0, .int .u8 0, .int .u8 0, .int .u8 0, .int .u8 0, .int .u8 0, .int .u8 0, .int .u8 0, .int .u8 0, .int .u8 0, .int .u8 0, .int .u8 0, .int .u8 0, .int .u8 0, .int .u8 0, .int .u8 0, .int .u8 0, .int .u8 0, .int .u8 0, .int .u8 0, .int .u8 0, .int .u8 0, .int .u8 0, .int .u8 0, .int .u8 0, .int .u8 0, .int .u8 0, .int .u64 0])) (by kernel_rfl)) ?_
  clear eV12
  have h16 := kV12.bk h9
  have h17 : RrAt V12 b rv l ((rdN l s 2 2).2) := hR8.keeps kV12 (fun x => x) (fun _ _ x => x)
  have K18 := K10.nn kV12
  have z19 := kV12.size
  refine ps_end ?_
  refine then_n ?_
  have h20 : V12.heap[gx]? = some (.cells (Pro.c (⟨0, 0, zeroH, 0⟩ : Pro)) 33 (0, 0)) := h13.trans (by kernel_rfl)
  refine sy_sq (part_rmproposal 30) (part_rmproposal 31) ?_
  refine sy_reg ?_
  refine rg_plain 3 (opsAt (part_rmproposal 30)) [0, 1, 2, 3] (by kernel_rfl) (by kernel_rfl) ?_
  refine ps_k (o_rmproposal 30 0) (pT b 0) ?_
  refine ps_c (o_rmproposal 30 1) 44 #[pT b 0, .int .i64 0, .int .i64 31] Try.func44 ((rrN_ok b rv l ((rdN l s 2 2).2) 0 31 _ h17 (by decide) (by decide)).mono ?_)
  rintro e V21 ⟨rfl, hR22, kV21⟩
  refine ⟨_, rfl, ?_⟩
  have h23 := kV21.bo h16 (by omega)
  have h24 := kV21.bo h20 (by omega)
  have K25 : Keeps (One b) w V21 := K18.then kV21 (fun i hi hm => by unfold Own.One at hm; subst hm; exact rfl)
  have z26 := kV21.size
  refine ps_k (o_rmproposal 30 2) (pT gx 0) ?_
  obtain ⟨V27, eV27, kV27⟩ := cell_step V21 gx 0 (.int .i64 (rdN l ((rdN l s 2 2).2) 0 31).1)
  have h28 : V27.heap[gx]? = some (.cells (Pro.c ⟨(rdN l ((rdN l s 2 2).2) 0 31).1, 0, zeroH, 0⟩) 33 (0, 0)) := eV27 ▸ ((heap_setCell_same _ gx 0 _ _ (.int .i64 (rdN l ((rdN l s 2 2).2) 0 31).1) h24).trans (congrArg (fun c => some (Obj.cells c 33 (0, 0))) (show (Pro.c (⟨0, 0, zeroH, 0⟩ : Pro) : Array Value).setIfInBounds 0 (.int .i64 (rdN l ((rdN l s 2 2).2) 0 31).1) = Pro.c ⟨(rdN l ((rdN l s 2 2).2) 0 31).1, 0, zeroH, 0⟩ from Pro.c_set0 _ _)))
  refine ps_s (o_rmproposal 30 3) (w' := V27) (by rw [← eV27]; exact exec_store_cell 3 (.tmp 8) (.tmp 7) (by kernel_rfl) gx 0 (by kernel_rfl) (.int .i64 (rdN l ((rdN l s 2 2).2) 0 31).1) (by kernel_rfl) (by kernel_rfl) (by kernel_rfl) (.int .i64 0) (rc (h24) (Pro.c_0 _)) (frozen_of_row _ _ _ _ _ h24) (by kernel_rfl)) ?_
  clear eV27
  have h29 := kV27.bo h23 (by omega)
  have h30 : RrAt V27 b rv l ((rdN l ((rdN l s 2 2).2) 0 31).2) := hR22.keeps kV27 (by unfold Own.One; omega) (fun j hj e => by have := hov j hj; unfold Own.One at e; omega)
  have K31 := K25.no kV27 (by omega)
  have z32 := kV27.size
  refine ps_end ?_
  refine then_n ?_
  refine sy_sq (part_rmproposal 62) (part_rmproposal 63) ?_
  refine sy_reg ?_
  refine rg_plain 4 (opsAt (part_rmproposal 62)) [0, 1, 2, 3] (by kernel_rfl) (by kernel_rfl) ?_
  refine ps_k (o_rmproposal 62 0) (pT b 0) ?_
  refine ps_c (o_rmproposal 62 1) 44 #[pT b 0, .int .i64 1, .int .i64 4294967296] Try.func44 ((rrN_ok b rv l ((rdN l ((rdN l s 2 2).2) 0 31).2) 1 4294967296 _ h30 (by decide) (by decide)).mono ?_)
  rintro e V33 ⟨rfl, hR34, kV33⟩
  refine ⟨_, rfl, ?_⟩
  have h35 := kV33.bo h29 (by omega)
  have h36 := kV33.bo h28 (by omega)
  have K37 : Keeps (One b) w V33 := K31.then kV33 (fun i hi hm => by unfold Own.One at hm; subst hm; exact rfl)
  have z38 := kV33.size
  refine ps_k (o_rmproposal 62 2) (pT gx 1) ?_
  obtain ⟨V39, eV39, kV39⟩ := cell_step V33 gx 1 (.int .i64 (rdN l ((rdN l ((rdN l s 2 2).2) 0 31).2) 1 4294967296).1)
  have h40 : V39.heap[gx]? = some (.cells (Pro.c ⟨(rdN l ((rdN l s 2 2).2) 0 31).1, (rdN l ((rdN l ((rdN l s 2 2).2) 0 31).2) 1 4294967296).1, zeroH, 0⟩) 33 (0, 0)) := eV39 ▸ ((heap_setCell_same _ gx 1 _ _ (.int .i64 (rdN l ((rdN l ((rdN l s 2 2).2) 0 31).2) 1 4294967296).1) h36).trans (congrArg (fun c => some (Obj.cells c 33 (0, 0))) (show (Pro.c ⟨(rdN l ((rdN l s 2 2).2) 0 31).1, 0, zeroH, 0⟩ : Array Value).setIfInBounds 1 (.int .i64 (rdN l ((rdN l ((rdN l s 2 2).2) 0 31).2) 1 4294967296).1) = Pro.c ⟨(rdN l ((rdN l s 2 2).2) 0 31).1, (rdN l ((rdN l ((rdN l s 2 2).2) 0 31).2) 1 4294967296).1, zeroH, 0⟩ from Pro.c_set1 _ _)))
  refine ps_s (o_rmproposal 62 3) (w' := V39) (by rw [← eV39]; exact exec_store_cell 3 (.tmp 11) (.tmp 10) (by kernel_rfl) gx 1 (by kernel_rfl) (.int .i64 (rdN l ((rdN l ((rdN l s 2 2).2) 0 31).2) 1 4294967296).1) (by kernel_rfl) (by kernel_rfl) (by kernel_rfl) (.int .i64 0) (rc (h36) (Pro.c_1 _)) (frozen_of_row _ _ _ _ _ h36) (by kernel_rfl)) ?_
  clear eV39
  have h41 := kV39.bo h35 (by omega)
  have h42 : RrAt V39 b rv l ((rdN l ((rdN l ((rdN l s 2 2).2) 0 31).2) 1 4294967296).2) := hR34.keeps kV39 (by unfold Own.One; omega) (fun j hj e => by have := hov j hj; unfold Own.One at e; omega)
  have K43 := K37.no kV39 (by omega)
  have z44 := kV39.size
  refine ps_end ?_
  refine then_n ?_
  refine sy_sq (part_rmproposal 126) (part_rmproposal 127) ?_
  refine sy_reg ?_
  refine rg_plain 5 (opsAt (part_rmproposal 126)) [0, 1, 2, 3] (by kernel_rfl) (by kernel_rfl) ?_
  refine ps_k (o_rmproposal 126 0) (pT b 0) ?_
  refine ps_c (o_rmproposal 126 1) 100 #[pT b 0] Try.func100 ((rrHash_ok b rv l ((rdN l ((rdN l ((rdN l s 2 2).2) 0 31).2) 1 4294967296).2) _ h42 hl).mono ?_)
  rintro e V45 ⟨rfl, hR46, kV45⟩
  refine ⟨_, rfl, ?_⟩
  have h47 := kV45.bo h41 (by omega)
  have h48 := kV45.bo h40 (by omega)
  have K49 : Keeps (One b) w V45 := K43.then kV45 (fun i hi hm => by unfold Own.One at hm; subst hm; exact rfl)
  have z50 := kV45.size
  refine ps_k (o_rmproposal 126 2) (pT gx 2) ?_
  obtain ⟨V51, eV51⟩ : ∃ V, V45.setCells gx 2 (B (rdH l ((rdN l ((rdN l ((rdN l s 2 2).2) 0 31).2) 1 4294967296).2)).1).toArray.toList = V := ⟨_, rfl⟩
  have kV51 : Keeps (One gx) V45 V51 := eV51 ▸ Keeps.setCells _ _ _ _
  have h52 : V51.heap[gx]? = some (.cells (Pro.c ⟨(rdN l ((rdN l s 2 2).2) 0 31).1, (rdN l ((rdN l ((rdN l s 2 2).2) 0 31).2) 1 4294967296).1, (rdH l ((rdN l ((rdN l ((rdN l s 2 2).2) 0 31).2) 1 4294967296).2)).1, 0⟩) 33 (0, 0)) := eV51 ▸ (heap_setCells gx _ _ 2 _ _ h48 (by rw [Pro.c_size _ rfl]; simp [B_length, rdH_len])).trans (congrArg (fun c => some (Obj.cells c 33 (0, 0))) (Pro.c_seth _ (rdH l ((rdN l ((rdN l ((rdN l s 2 2).2) 0 31).2) 1 4294967296).2)).1 rfl (rdH_len _ _)))
  refine ps_s (o_rmproposal 126 3) (w' := V51) (by rw [← eV51]; exact exec_store_mid 29 (.tmp 14) (.tmp 13) (by kernel_rfl) gx 2 (by kernel_rfl) (B (rdH l ((rdN l ((rdN l ((rdN l s 2 2).2) 0 31).2) 1 4294967296).2)).1).toArray (by kernel_rfl) _ _ h48 (by rw [Pro.c_size _ rfl]; simp [B_length, rdH_len]) (by rw [Bz_size, show ((rdH l ((rdN l ((rdN l ((rdN l s 2 2).2) 0 31).2) 1 4294967296).2)).1).length = 32 from (rdH_len _ _)]; kernel_rfl) (by rw [List.all_toArray]; exact List.all_eq_true.2 (B_one _))) ?_
  clear eV51
  have h53 := kV51.bo h47 (by omega)
  have h54 : RrAt V51 b rv l ((rdH l ((rdN l ((rdN l ((rdN l s 2 2).2) 0 31).2) 1 4294967296).2)).2) := hR46.keeps kV51 (by unfold Own.One; omega) (fun j hj e => by have := hov j hj; unfold Own.One at e; omega)
  have K55 := K49.no kV51 (by omega)
  have z56 := kV51.size
  refine ps_end ?_
  refine then_n ?_
  refine sy_sq (part_rmproposal 254) (part_rmproposal 255) ?_
  refine sy_reg ?_
  refine rg_plain 6 (opsAt (part_rmproposal 254)) [0, 1, 2, 3] (by kernel_rfl) (by kernel_rfl) ?_
  refine ps_k (o_rmproposal 254 0) (pT b 0) ?_
  refine ps_c (o_rmproposal 254 1) 66 #[pT b 0] Try.func66 ((rrU_nat b rv l ((rdH l ((rdN l ((rdN l ((rdN l s 2 2).2) 0 31).2) 1 4294967296).2)).2) _ h54).mono ?_)
  rintro e V57 ⟨rfl, hR58, kV57⟩
  refine ⟨_, rfl, ?_⟩
  have h59 := kV57.bo h53 (by omega)
  have h60 := kV57.bo h52 (by omega)
  have K61 : Keeps (One b) w V57 := K55.then kV57 (fun i hi hm => by unfold Own.One at hm; subst hm; exact rfl)
  have z62 := kV57.size
  refine ps_k (o_rmproposal 254 2) (pT gx 34) ?_
  obtain ⟨V63, eV63, kV63⟩ := cell_step V57 gx 34 (.int .u64 (((rdU l ((rdH l ((rdN l ((rdN l ((rdN l s 2 2).2) 0 31).2) 1 4294967296).2)).2)).1.toNat : Nat) : Int))
  have h64 : V63.heap[gx]? = some (.cells (Pro.c ⟨(rdN l ((rdN l s 2 2).2) 0 31).1, (rdN l ((rdN l ((rdN l s 2 2).2) 0 31).2) 1 4294967296).1, (rdH l ((rdN l ((rdN l ((rdN l s 2 2).2) 0 31).2) 1 4294967296).2)).1, (rdU l ((rdH l ((rdN l ((rdN l ((rdN l s 2 2).2) 0 31).2) 1 4294967296).2)).2)).1.toNat⟩) 33 (0, 0)) := eV63 ▸ ((heap_setCell_same _ gx 34 _ _ (.int .u64 (((rdU l ((rdH l ((rdN l ((rdN l ((rdN l s 2 2).2) 0 31).2) 1 4294967296).2)).2)).1.toNat : Nat) : Int)) h60).trans (congrArg (fun c => some (Obj.cells c 33 (0, 0))) (show (Pro.c ⟨(rdN l ((rdN l s 2 2).2) 0 31).1, (rdN l ((rdN l ((rdN l s 2 2).2) 0 31).2) 1 4294967296).1, (rdH l ((rdN l ((rdN l ((rdN l s 2 2).2) 0 31).2) 1 4294967296).2)).1, 0⟩ : Array Value).setIfInBounds 34 (.int .u64 (((rdU l ((rdH l ((rdN l ((rdN l ((rdN l s 2 2).2) 0 31).2) 1 4294967296).2)).2)).1.toNat : Nat) : Int)) = Pro.c ⟨(rdN l ((rdN l s 2 2).2) 0 31).1, (rdN l ((rdN l ((rdN l s 2 2).2) 0 31).2) 1 4294967296).1, (rdH l ((rdN l ((rdN l ((rdN l s 2 2).2) 0 31).2) 1 4294967296).2)).1, (rdU l ((rdH l ((rdN l ((rdN l ((rdN l s 2 2).2) 0 31).2) 1 4294967296).2)).2)).1.toNat⟩ from Pro.c_settag (⟨(rdN l ((rdN l s 2 2).2) 0 31).1, (rdN l ((rdN l ((rdN l s 2 2).2) 0 31).2) 1 4294967296).1, (rdH l ((rdN l ((rdN l ((rdN l s 2 2).2) 0 31).2) 1 4294967296).2)).1, 0⟩) _ (rdH_len _ _))))
  refine ps_s (o_rmproposal 254 3) (w' := V63) (by rw [← eV63]; exact exec_store_cell 25 (.tmp 17) (.tmp 16) (by kernel_rfl) gx 34 (by kernel_rfl) (uN ((rdU l ((rdH l ((rdN l ((rdN l ((rdN l s 2 2).2) 0 31).2) 1 4294967296).2)).2)).1.toNat)) (by kernel_rfl) (by kernel_rfl) (by kernel_rfl) (.int .u64 0) (rc (h60) (Pro.c_tag (⟨(rdN l ((rdN l s 2 2).2) 0 31).1, (rdN l ((rdN l ((rdN l s 2 2).2) 0 31).2) 1 4294967296).1, (rdH l ((rdN l ((rdN l ((rdN l s 2 2).2) 0 31).2) 1 4294967296).2)).1, 0⟩) (rdH_len _ _))) (frozen_of_row _ _ _ _ _ h60) (by kernel_rfl)) ?_
  clear eV63
  have h65 := kV63.bo h59 (by omega)
  have h66 : RrAt V63 b rv l ((rdU l ((rdH l ((rdN l ((rdN l ((rdN l s 2 2).2) 0 31).2) 1 4294967296).2)).2)).2) := hR58.keeps kV63 (by unfold Own.One; omega) (fun j hj e => by have := hov j hj; unfold Own.One at e; omega)
  have K67 := K61.no kV63 (by omega)
  have z68 := kV63.size
  refine ps_end ?_
  refine then_n ?_
  refine sy_sq (part_rmproposal 510) (part_rmproposal 511) ?_
  refine sy_reg ?_
  refine rg_plain 7 (opsAt (part_rmproposal 510)) [0, 1] (by kernel_rfl) (by kernel_rfl) ?_
  refine ps_p (o_rmproposal 510 0) (.agg (Pro.c ⟨(rdN l ((rdN l s 2 2).2) 0 31).1, (rdN l ((rdN l ((rdN l s 2 2).2) 0 31).2) 1 4294967296).1, (rdH l ((rdN l ((rdN l ((rdN l s 2 2).2) 0 31).2) 1 4294967296).2)).1, (rdU l ((rdH l ((rdN l ((rdN l ((rdN l s 2 2).2) 0 31).2) 1 4294967296).2)).2)).1.toNat⟩)) (exec_load_row 33 (.tmp 3) (by kernel_rfl) gx (by kernel_rfl) _ _ (0, 0) _ (h64) Try.underlying33 rfl (by rw [Pro.c_size (⟨(rdN l ((rdN l s 2 2).2) 0 31).1, (rdN l ((rdN l ((rdN l s 2 2).2) 0 31).2) 1 4294967296).1, (rdH l ((rdN l ((rdN l ((rdN l s 2 2).2) 0 31).2) 1 4294967296).2)).1, (rdU l ((rdH l ((rdN l ((rdN l ((rdN l s 2 2).2) 0 31).2) 1 4294967296).2)).2)).1.toNat⟩) (rdH_len _ _)]; kernel_rfl)) ?_
  obtain ⟨V69, eV69, kV69⟩ := rowset_step V63 ga ((Pro.c ⟨(rdN l ((rdN l s 2 2).2) 0 31).1, (rdN l ((rdN l ((rdN l s 2 2).2) 0 31).2) 1 4294967296).1, (rdH l ((rdN l ((rdN l ((rdN l s 2 2).2) 0 31).2) 1 4294967296).2)).1, (rdU l ((rdH l ((rdN l ((rdN l ((rdN l s 2 2).2) 0 31).2) 1 4294967296).2)).2)).1.toNat⟩))
  have h70 : V69.heap[ga]? = some (.cells (Pro.c ⟨(rdN l ((rdN l s 2 2).2) 0 31).1, (rdN l ((rdN l ((rdN l s 2 2).2) 0 31).2) 1 4294967296).1, (rdH l ((rdN l ((rdN l ((rdN l s 2 2).2) 0 31).2) 1 4294967296).2)).1, (rdU l ((rdH l ((rdN l ((rdN l ((rdN l s 2 2).2) 0 31).2) 1 4294967296).2)).2)).1.toNat⟩) 33 (0, 0)) := eV69 ▸ setRow_heap _ _ _ _ _ _ h65
  refine ps_s (o_rmproposal 510 1) (w' := V69) (by rw [← eV69]; exact exec_store_row 33 (.tmp 2) (.tmp 18) (by kernel_rfl) ga ((Pro.c ⟨(rdN l ((rdN l s 2 2).2) 0 31).1, (rdN l ((rdN l ((rdN l s 2 2).2) 0 31).2) 1 4294967296).1, (rdH l ((rdN l ((rdN l ((rdN l s 2 2).2) 0 31).2) 1 4294967296).2)).1, (rdU l ((rdH l ((rdN l ((rdN l ((rdN l s 2 2).2) 0 31).2) 1 4294967296).2)).2)).1.toNat⟩)) (by kernel_rfl) (by kernel_rfl) 33 (#[.int .i64 0, .int .i64 0, .int .u8 0, .int .u8 0, .int .u8 0, .int .u8 0, .int .u8 0, .int .u8 0, .int .u8 0, .int .u8 0, .int .u8 0, .int .u8 0, .int .u8 0, .int .u8 0, .int .u8 0, .int .u8 0, .int .u8 0, .int .u8 0, .int .u8 0, .int .u8 0, .int .u8 0, .int .u8 0, .int .u8 0, .int .u8 0, .int .u8 0, .int .u8 0, .int .u8 0, .int .u8 0, .int .u8 0, .int .u8 0, .int .u8 0, .int .u8 0, .int .u8 0, .int .u8 0, .int .u64 0]) h65 (by rw [Pro.c_size _ (rdH_len _ _)]; kernel_rfl) (by rw [Pro.c_size _ (rdH_len _ _)]; rfl) (Pro.c_one _)) ?_
  clear eV69
  have h71 : RrAt V69 b rv l ((rdU l ((rdH l ((rdN l ((rdN l ((rdN l s 2 2).2) 0 31).2) 1 4294967296).2)).2)).2) := h66.keeps kV69 (by unfold Own.One; omega) (fun j hj e => by have := hov j hj; unfold Own.One at e; omega)
  have h72 := kV69.bo h64 (by omega)
  have K73 := K67.no kV69 (by omega)
  have z74 := kV69.size
  refine ps_end ?_
  refine then_n ?_
  refine sy_ret (by kernel_rfl) ?_
  refine sy_out (.agg (Pro.c ⟨(rdN l ((rdN l s 2 2).2) 0 31).1, (rdN l ((rdN l ((rdN l s 2 2).2) 0 31).2) 1 4294967296).1, (rdH l ((rdN l ((rdN l ((rdN l s 2 2).2) 0 31).2) 1 4294967296).2)).1, (rdU l ((rdH l ((rdN l ((rdN l ((rdN l s 2 2).2) 0 31).2) 1 4294967296).2)).2)).1.toNat⟩)) rfl (results_cell_row (p := 2) (ty := 33) (by kernel_rfl) _ _ ga 33 (Pro.c ⟨(rdN l ((rdN l s 2 2).2) 0 31).1, (rdN l ((rdN l ((rdN l s 2 2).2) 0 31).2) 1 4294967296).1, (rdH l ((rdN l ((rdN l ((rdN l s 2 2).2) 0 31).2) 1 4294967296).2)).1, (rdU l ((rdH l ((rdN l ((rdN l ((rdN l s 2 2).2) 0 31).2) 1 4294967296).2)).2)).1.toNat⟩) (0, 0) _ (by kernel_rfl) h70 Try.underlying33 rfl (by rw [Pro.c_size (⟨(rdN l ((rdN l s 2 2).2) 0 31).1, (rdN l ((rdN l ((rdN l s 2 2).2) 0 31).2) 1 4294967296).1, (rdH l ((rdN l ((rdN l ((rdN l s 2 2).2) 0 31).2) 1 4294967296).2)).1, (rdU l ((rdH l ((rdN l ((rdN l ((rdN l s 2 2).2) 0 31).2) 1 4294967296).2)).2)).1.toNat⟩) (rdH_len _ _)]; kernel_rfl)) ?_
  exact ⟨rfl, h71, K73⟩
noncomputable def part_rmstampOf (n : Nat) : Code := partOf Try.f68 n
noncomputable abbrev o_rmstampOf (n k : Nat) : Oper := (opsAt (part_rmstampOf n)).getD k default
set_option maxRecDepth 100000 in
set_option maxHeartbeats 4000000 in
theorem rmstampOf_ok (b : Nat) (rv : Value) (l : List UInt8) (s : RS) (w : World) (hR : RrAt w b rv l s) (hov : ∀ j, rv.ownBlock = some j → j < w.heap.size) :
    Calls Try.prog 68 #[.pointer (some ⟨b, 0, none⟩)] w (fun e w' => e = .returned (.agg (Msg.st (stM l s))) ∧ RrAt w' b rv l (stF l s).2 ∧ Keeps (One b) w w') := by
  have hbl := hR.lt
  have K0 : Keeps (One b) w w := Keeps.refl _ _
  refine sy_enter (part_rmstampOf 1) ⟨#[pT b 0, undef, undef, undef, undef, undef, undef, undef, undef, undef, undef, undef, undef, undef, undef, undef, undef, undef], []⟩ Try.func68 (by kernel_rfl) (by kernel_rfl) ?_
  refine sy_sq (part_rmstampOf 2) (part_rmstampOf 3) ?_
  refine sy_reg ?_
  refine rg_plain 0 (opsAt (part_rmstampOf 2)) [0] (by kernel_rfl) (by kernel_rfl) ?_
  obtain ⟨V1, eV1, ga, ega, h2, kV1⟩ := alloc_step w (#[.int .i64 0, .int .i64 0, .int .i64 0, .int .i64 0]) 27
  have n3 : w.heap.size ≤ ga := ega ▸ K0.size
  refine ps_r (o_rmstampOf 2 0) (pT ga 0) (w' := V1) (by rw [← eV1, ← ega]; exact exec_alloc0 27 (by kernel_rfl) (.agg (#[.int .i64 0, .int .i64 0, .int .i64 0, .int .i64 0])) (by kernel_rfl)) ?_
  clear eV1
  have h4 : RrAt V1 b rv l s := hR.keeps kV1 (fun x => x) (fun _ _ x => x)
  have K5 := K0.nn kV1
  have z6 := kV1.size
  refine ps_end ?_
  refine then_n ?_
  refine sy_sq (part_rmstampOf 6) (part_rmstampOf 7) ?_
  refine sy_reg ?_
  refine rg_plain 1 (opsAt (part_rmstampOf 6)) [0] (by kernel_rfl) (by kernel_rfl) ?_
  obtain ⟨V7, eV7, gx, egx, h8, kV7⟩ := alloc_step V1 (#[.int .i64 0, .int .i64 0, .int .i64 0, .int .i64 0]) 27
  have n9 : ga < gx := egx ▸ lt_of_block h2
  have n10 : w.heap.size ≤ gx := egx ▸ K5.size
  refine ps_r (o_rmstampOf 6 0) (pT gx 0) (w' := V7) (by rw [← eV7, ← egx]; exact exec_alloc0 27 (by kernel_rfl) (.agg (#[.int .i64 0, .int .i64 0, .int .i64 0, .int .i64 0])) (by kernel_rfl)) ?_
  clear eV7
  have h11 : RrAt V7 b rv l s := h4.keeps kV7 (fun x => x) (fun _ _ x => x)
  have h12 := kV7.bk h2
  have K13 := K5.nn kV7
  have z14 := kV7.size
  refine ps_end ?_
  refine then_n ?_
  refine sy_sq (part_rmstampOf 14) (part_rmstampOf 15) ?_
  refine sy_reg ?_
  refine rg_plain 2 (opsAt (part_rmstampOf 14)) [0, 1, 2, 3] (by kernel_rfl) (by kernel_rfl) ?_
  refine ps_k (o_rmstampOf 14 0) (pT b 0) ?_
  refine ps_c (o_rmstampOf 14 1) 44 #[pT b 0, .int .i64 0, .int .i64 31] Try.func44 ((rrN_ok b rv l s 0 31 _ h11 (by decide) (by decide)).mono ?_)
  rintro e V15 ⟨rfl, hR16, kV15⟩
  refine ⟨_, rfl, ?_⟩
  have h17 := kV15.bo h12 (by omega)
  have h18 := kV15.bo h8 (by omega)
  have K19 : Keeps (One b) w V15 := K13.then kV15 (fun i hi hm => by unfold Own.One at hm; subst hm; exact rfl)
  have z20 := kV15.size
  refine ps_k (o_rmstampOf 14 2) (pT gx 0) ?_
  obtain ⟨V21, eV21, kV21⟩ := cell_step V15 gx 0 (.int .i64 (rdN l s 0 31).1)
  have h22 : V21.heap[gx]? = some (.cells (#[.int .i64 (rdN l s 0 31).1, .int .i64 0, .int .i64 0, .int .i64 0]) 27 (0, 0)) := eV21 ▸ ((heap_setCell_same _ gx 0 _ _ (.int .i64 (rdN l s 0 31).1) h18).trans (congrArg (fun c => some (Obj.cells c 27 (0, 0))) (show (#[.int .i64 0, .int .i64 0, .int .i64 0, .int .i64 0] : Array Value).setIfInBounds 0 (.int .i64 (rdN l s 0 31).1) = #[.int .i64 (rdN l s 0 31).1, .int .i64 0, .int .i64 0, .int .i64 0] from by kernel_rfl)))
  refine ps_s (o_rmstampOf 14 3) (w' := V21) (by rw [← eV21]; exact exec_store_cell 3 (.tmp 6) (.tmp 5) (by kernel_rfl) gx 0 (by kernel_rfl) (.int .i64 (rdN l s 0 31).1) (by kernel_rfl) (by kernel_rfl) (by kernel_rfl) (.int .i64 0) (rc (h18) (by kernel_rfl)) (frozen_of_row _ _ _ _ _ h18) (by kernel_rfl)) ?_
  clear eV21
  have h23 := kV21.bo h17 (by omega)
  have h24 : RrAt V21 b rv l ((rdN l s 0 31).2) := hR16.keeps kV21 (by unfold Own.One; omega) (fun j hj e => by have := hov j hj; unfold Own.One at e; omega)
  have K25 := K19.no kV21 (by omega)
  have z26 := kV21.size
  refine ps_end ?_
  refine then_n ?_
  refine sy_sq (part_rmstampOf 30) (part_rmstampOf 31) ?_
  refine sy_reg ?_
  refine rg_plain 3 (opsAt (part_rmstampOf 30)) [0, 1, 2, 3] (by kernel_rfl) (by kernel_rfl) ?_
  refine ps_k (o_rmstampOf 30 0) (pT b 0) ?_
  refine ps_c (o_rmstampOf 30 1) 44 #[pT b 0, .int .i64 1, .int .i64 4294967296] Try.func44 ((rrN_ok b rv l ((rdN l s 0 31).2) 1 4294967296 _ h24 (by decide) (by decide)).mono ?_)
  rintro e V27 ⟨rfl, hR28, kV27⟩
  refine ⟨_, rfl, ?_⟩
  have h29 := kV27.bo h23 (by omega)
  have h30 := kV27.bo h22 (by omega)
  have K31 : Keeps (One b) w V27 := K25.then kV27 (fun i hi hm => by unfold Own.One at hm; subst hm; exact rfl)
  have z32 := kV27.size
  refine ps_k (o_rmstampOf 30 2) (pT gx 1) ?_
  obtain ⟨V33, eV33, kV33⟩ := cell_step V27 gx 1 (.int .i64 (rdN l ((rdN l s 0 31).2) 1 4294967296).1)
  have h34 : V33.heap[gx]? = some (.cells (#[.int .i64 (rdN l s 0 31).1, .int .i64 (rdN l ((rdN l s 0 31).2) 1 4294967296).1, .int .i64 0, .int .i64 0]) 27 (0, 0)) := eV33 ▸ ((heap_setCell_same _ gx 1 _ _ (.int .i64 (rdN l ((rdN l s 0 31).2) 1 4294967296).1) h30).trans (congrArg (fun c => some (Obj.cells c 27 (0, 0))) (show (#[.int .i64 (rdN l s 0 31).1, .int .i64 0, .int .i64 0, .int .i64 0] : Array Value).setIfInBounds 1 (.int .i64 (rdN l ((rdN l s 0 31).2) 1 4294967296).1) = #[.int .i64 (rdN l s 0 31).1, .int .i64 (rdN l ((rdN l s 0 31).2) 1 4294967296).1, .int .i64 0, .int .i64 0] from by kernel_rfl)))
  refine ps_s (o_rmstampOf 30 3) (w' := V33) (by rw [← eV33]; exact exec_store_cell 3 (.tmp 9) (.tmp 8) (by kernel_rfl) gx 1 (by kernel_rfl) (.int .i64 (rdN l ((rdN l s 0 31).2) 1 4294967296).1) (by kernel_rfl) (by kernel_rfl) (by kernel_rfl) (.int .i64 0) (rc (h30) (by kernel_rfl)) (frozen_of_row _ _ _ _ _ h30) (by kernel_rfl)) ?_
  clear eV33
  have h35 := kV33.bo h29 (by omega)
  have h36 : RrAt V33 b rv l ((rdN l ((rdN l s 0 31).2) 1 4294967296).2) := hR28.keeps kV33 (by unfold Own.One; omega) (fun j hj e => by have := hov j hj; unfold Own.One at e; omega)
  have K37 := K31.no kV33 (by omega)
  have z38 := kV33.size
  refine ps_end ?_
  refine then_n ?_
  refine sy_sq (part_rmstampOf 62) (part_rmstampOf 63) ?_
  refine sy_reg ?_
  refine rg_plain 4 (opsAt (part_rmstampOf 62)) [0, 1, 2, 3, 4] (by kernel_rfl) (by kernel_rfl) ?_
  refine ps_k (o_rmstampOf 62 0) (pT b 0) ?_
  refine ps_c (o_rmstampOf 62 1) 44 #[pT b 0, .int .i64 0, .int .i64 32] Try.func44 ((rrN_ok b rv l ((rdN l ((rdN l s 0 31).2) 1 4294967296).2) 0 32 _ h36 (by decide) (by decide)).mono ?_)
  rintro e V39 ⟨rfl, hR40, kV39⟩
  refine ⟨_, rfl, ?_⟩
  have h41 := kV39.bo h35 (by omega)
  have h42 := kV39.bo h34 (by omega)
  have K43 : Keeps (One b) w V39 := K37.then kV39 (fun i hi hm => by unfold Own.One at hm; subst hm; exact rfl)
  have z44 := kV39.size
  refine ps_p (o_rmstampOf 62 2) (.int .i64 ((rdN l ((rdN l ((rdN l s 0 31).2) 1 4294967296).2) 0 32).1 - 1)) (exec_cast (congrArg (Value.int .i64) (wrapI _ _ rfl (by have := rdN_le l (stS l s).2 0 32; unfold stS stV at this; omega) (by have := rdN_le l (stS l s).2 0 32; unfold stS stV at this; omega))) (by kernel_rfl)) ?_
  refine ps_k (o_rmstampOf 62 3) (pT gx 2) ?_
  obtain ⟨V45, eV45, kV45⟩ := cell_step V39 gx 2 (.int .i64 ((rdN l ((rdN l ((rdN l s 0 31).2) 1 4294967296).2) 0 32).1 - 1))
  have h46 : V45.heap[gx]? = some (.cells (#[.int .i64 (rdN l s 0 31).1, .int .i64 (rdN l ((rdN l s 0 31).2) 1 4294967296).1, .int .i64 ((rdN l ((rdN l ((rdN l s 0 31).2) 1 4294967296).2) 0 32).1 - 1), .int .i64 0]) 27 (0, 0)) := eV45 ▸ ((heap_setCell_same _ gx 2 _ _ (.int .i64 ((rdN l ((rdN l ((rdN l s 0 31).2) 1 4294967296).2) 0 32).1 - 1)) h42).trans (congrArg (fun c => some (Obj.cells c 27 (0, 0))) (show (#[.int .i64 (rdN l s 0 31).1, .int .i64 (rdN l ((rdN l s 0 31).2) 1 4294967296).1, .int .i64 0, .int .i64 0] : Array Value).setIfInBounds 2 (.int .i64 ((rdN l ((rdN l ((rdN l s 0 31).2) 1 4294967296).2) 0 32).1 - 1)) = #[.int .i64 (rdN l s 0 31).1, .int .i64 (rdN l ((rdN l s 0 31).2) 1 4294967296).1, .int .i64 ((rdN l ((rdN l ((rdN l s 0 31).2) 1 4294967296).2) 0 32).1 - 1), .int .i64 0] from by kernel_rfl)))
  refine ps_s (o_rmstampOf 62 4) (w' := V45) (by rw [← eV45]; exact exec_store_cell 3 (.tmp 13) (.tmp 12) (by kernel_rfl) gx 2 (by kernel_rfl) (.int .i64 ((rdN l ((rdN l ((rdN l s 0 31).2) 1 4294967296).2) 0 32).1 - 1)) (by kernel_rfl) (by kernel_rfl) (by kernel_rfl) (.int .i64 0) (rc (h42) (by kernel_rfl)) (frozen_of_row _ _ _ _ _ h42) (by kernel_rfl)) ?_
  clear eV45
  have h47 := kV45.bo h41 (by omega)
  have h48 : RrAt V45 b rv l ((rdN l ((rdN l ((rdN l s 0 31).2) 1 4294967296).2) 0 32).2) := hR40.keeps kV45 (by unfold Own.One; omega) (fun j hj e => by have := hov j hj; unfold Own.One at e; omega)
  have K49 := K43.no kV45 (by omega)
  have z50 := kV45.size
  refine ps_end ?_
  refine then_n ?_
  refine sy_sq (part_rmstampOf 126) (part_rmstampOf 127) ?_
  refine sy_reg ?_
  refine rg_plain 5 (opsAt (part_rmstampOf 126)) [0, 1, 2, 3] (by kernel_rfl) (by kernel_rfl) ?_
  refine ps_k (o_rmstampOf 126 0) (pT b 0) ?_
  refine ps_c (o_rmstampOf 126 1) 44 #[pT b 0, .int .i64 0, .int .i64 4294967296] Try.func44 ((rrN_ok b rv l ((rdN l ((rdN l ((rdN l s 0 31).2) 1 4294967296).2) 0 32).2) 0 4294967296 _ h48 (by decide) (by decide)).mono ?_)
  rintro e V51 ⟨rfl, hR52, kV51⟩
  refine ⟨_, rfl, ?_⟩
  have h53 := kV51.bo h47 (by omega)
  have h54 := kV51.bo h46 (by omega)
  have K55 : Keeps (One b) w V51 := K49.then kV51 (fun i hi hm => by unfold Own.One at hm; subst hm; exact rfl)
  have z56 := kV51.size
  refine ps_k (o_rmstampOf 126 2) (pT gx 3) ?_
  obtain ⟨V57, eV57, kV57⟩ := cell_step V51 gx 3 (.int .i64 (rdN l ((rdN l ((rdN l ((rdN l s 0 31).2) 1 4294967296).2) 0 32).2) 0 4294967296).1)
  have h58 : V57.heap[gx]? = some (.cells (#[.int .i64 (rdN l s 0 31).1, .int .i64 (rdN l ((rdN l s 0 31).2) 1 4294967296).1, .int .i64 ((rdN l ((rdN l ((rdN l s 0 31).2) 1 4294967296).2) 0 32).1 - 1), .int .i64 (rdN l ((rdN l ((rdN l ((rdN l s 0 31).2) 1 4294967296).2) 0 32).2) 0 4294967296).1]) 27 (0, 0)) := eV57 ▸ ((heap_setCell_same _ gx 3 _ _ (.int .i64 (rdN l ((rdN l ((rdN l ((rdN l s 0 31).2) 1 4294967296).2) 0 32).2) 0 4294967296).1) h54).trans (congrArg (fun c => some (Obj.cells c 27 (0, 0))) (show (#[.int .i64 (rdN l s 0 31).1, .int .i64 (rdN l ((rdN l s 0 31).2) 1 4294967296).1, .int .i64 ((rdN l ((rdN l ((rdN l s 0 31).2) 1 4294967296).2) 0 32).1 - 1), .int .i64 0] : Array Value).setIfInBounds 3 (.int .i64 (rdN l ((rdN l ((rdN l ((rdN l s 0 31).2) 1 4294967296).2) 0 32).2) 0 4294967296).1) = #[.int .i64 (rdN l s 0 31).1, .int .i64 (rdN l ((rdN l s 0 31).2) 1 4294967296).1, .int .i64 ((rdN l ((rdN l ((rdN l s 0 31).2) 1 4294967296).2) 0 32).1 - 1), .int .i64 (rdN l ((rdN l ((rdN l ((rdN l s 0 31).2) 1 4294967296).2) 0 32).2) 0 4294967296).1] from by kernel_rfl)))
  refine ps_s (o_rmstampOf 126 3) (w' := V57) (by rw [← eV57]; exact exec_store_cell 3 (.tmp 16) (.tmp 15) (by kernel_rfl) gx 3 (by kernel_rfl) (.int .i64 (rdN l ((rdN l ((rdN l ((rdN l s 0 31).2) 1 4294967296).2) 0 32).2) 0 4294967296).1) (by kernel_rfl) (by kernel_rfl) (by kernel_rfl) (.int .i64 0) (rc (h54) (by kernel_rfl)) (frozen_of_row _ _ _ _ _ h54) (by kernel_rfl)) ?_
  clear eV57
  have h59 := kV57.bo h53 (by omega)
  have h60 : RrAt V57 b rv l ((rdN l ((rdN l ((rdN l ((rdN l s 0 31).2) 1 4294967296).2) 0 32).2) 0 4294967296).2) := hR52.keeps kV57 (by unfold Own.One; omega) (fun j hj e => by have := hov j hj; unfold Own.One at e; omega)
  have K61 := K55.no kV57 (by omega)
  have z62 := kV57.size
  refine ps_end ?_
  refine then_n ?_
  refine sy_sq (part_rmstampOf 254) (part_rmstampOf 255) ?_
  refine sy_reg ?_
  refine rg_plain 6 (opsAt (part_rmstampOf 254)) [0, 1] (by kernel_rfl) (by kernel_rfl) ?_
  refine ps_p (o_rmstampOf 254 0) (.agg #[.int .i64 (rdN l s 0 31).1, .int .i64 (rdN l ((rdN l s 0 31).2) 1 4294967296).1, .int .i64 ((rdN l ((rdN l ((rdN l s 0 31).2) 1 4294967296).2) 0 32).1 - 1), .int .i64 (rdN l ((rdN l ((rdN l ((rdN l s 0 31).2) 1 4294967296).2) 0 32).2) 0 4294967296).1]) (exec_load_row 27 (.tmp 3) (by kernel_rfl) gx (by kernel_rfl) _ _ (0, 0) _ (h58) Try.underlying27 rfl (by kernel_rfl)) ?_
  obtain ⟨V63, eV63, kV63⟩ := rowset_step V57 ga (#[.int .i64 (rdN l s 0 31).1, .int .i64 (rdN l ((rdN l s 0 31).2) 1 4294967296).1, .int .i64 ((rdN l ((rdN l ((rdN l s 0 31).2) 1 4294967296).2) 0 32).1 - 1), .int .i64 (rdN l ((rdN l ((rdN l ((rdN l s 0 31).2) 1 4294967296).2) 0 32).2) 0 4294967296).1])
  have h64 : V63.heap[ga]? = some (.cells (#[.int .i64 (rdN l s 0 31).1, .int .i64 (rdN l ((rdN l s 0 31).2) 1 4294967296).1, .int .i64 ((rdN l ((rdN l ((rdN l s 0 31).2) 1 4294967296).2) 0 32).1 - 1), .int .i64 (rdN l ((rdN l ((rdN l ((rdN l s 0 31).2) 1 4294967296).2) 0 32).2) 0 4294967296).1]) 27 (0, 0)) := eV63 ▸ setRow_heap _ _ _ _ _ _ h59
  refine ps_s (o_rmstampOf 254 1) (w' := V63) (by rw [← eV63]; exact exec_store_row 27 (.tmp 2) (.tmp 17) (by kernel_rfl) ga (#[.int .i64 (rdN l s 0 31).1, .int .i64 (rdN l ((rdN l s 0 31).2) 1 4294967296).1, .int .i64 ((rdN l ((rdN l ((rdN l s 0 31).2) 1 4294967296).2) 0 32).1 - 1), .int .i64 (rdN l ((rdN l ((rdN l ((rdN l s 0 31).2) 1 4294967296).2) 0 32).2) 0 4294967296).1]) (by kernel_rfl) (by kernel_rfl) 27 (#[.int .i64 0, .int .i64 0, .int .i64 0, .int .i64 0]) h59 (by kernel_rfl) (by kernel_rfl) (by kernel_rfl)) ?_
  clear eV63
  have h65 : RrAt V63 b rv l ((rdN l ((rdN l ((rdN l ((rdN l s 0 31).2) 1 4294967296).2) 0 32).2) 0 4294967296).2) := h60.keeps kV63 (by unfold Own.One; omega) (fun j hj e => by have := hov j hj; unfold Own.One at e; omega)
  have h66 := kV63.bo h58 (by omega)
  have K67 := K61.no kV63 (by omega)
  have z68 := kV63.size
  refine ps_end ?_
  refine then_n ?_
  refine sy_ret (by kernel_rfl) ?_
  refine sy_out (.agg (#[.int .i64 (rdN l s 0 31).1, .int .i64 (rdN l ((rdN l s 0 31).2) 1 4294967296).1, .int .i64 ((rdN l ((rdN l ((rdN l s 0 31).2) 1 4294967296).2) 0 32).1 - 1), .int .i64 (rdN l ((rdN l ((rdN l ((rdN l s 0 31).2) 1 4294967296).2) 0 32).2) 0 4294967296).1])) rfl (results_cell_row (p := 2) (ty := 27) (by kernel_rfl) _ _ ga 27 (#[.int .i64 (rdN l s 0 31).1, .int .i64 (rdN l ((rdN l s 0 31).2) 1 4294967296).1, .int .i64 ((rdN l ((rdN l ((rdN l s 0 31).2) 1 4294967296).2) 0 32).1 - 1), .int .i64 (rdN l ((rdN l ((rdN l ((rdN l s 0 31).2) 1 4294967296).2) 0 32).2) 0 4294967296).1]) (0, 0) _ (by kernel_rfl) h64 Try.underlying27 rfl (by kernel_rfl)) ?_
  exact ⟨rfl, h65, K67⟩
noncomputable def part_rmrest (n : Nat) : Code := partOf Try.f45 n
noncomputable abbrev o_rmrest (n k : Nat) : Oper := (opsAt (part_rmrest n)).getD k default
set_option maxRecDepth 100000 in
set_option maxHeartbeats 4000000 in
theorem rmrest_0_ (b : Nat) (rv : Value) (l : List UInt8) (s : RS) (m : Msg) (w : World) (hr : m.R) (hk : m.k = 0) (hR : RrAt w b rv l s) (hov : ∀ j, rv.ownBlock = some j → j < w.heap.size) (hl : l.length ≤ 100000000) :
    Calls Try.prog 45 #[.pointer (some ⟨b, 0, none⟩), .agg (Msg.c m)] w (fun e w' => e = .returned (.agg (Msg.c m)) ∧ RrAt w' b rv l s ∧ Keeps (One b) w w') := by
  have hbl := hR.lt
  have K0 : Keeps (One b) w w := Keeps.refl _ _
  refine sy_enter (part_rmrest 1) ⟨#[pT b 0, .agg (Msg.c m), undef, undef, undef, undef, undef, undef, undef, undef, undef, undef, undef, undef, undef, undef, undef, undef, undef, undef, undef, undef, undef, undef, undef, undef, undef, undef, undef, undef, undef, undef, undef, undef, undef, undef, undef, undef, undef, undef, undef, undef, undef, undef, undef, undef, undef, undef, undef, undef, undef, undef, undef, undef, undef, undef, undef, undef, undef, undef, undef, undef, undef, undef, undef, undef, undef, undef, undef, undef, undef, undef, undef, undef, undef, undef, undef, undef, undef, undef, undef, undef, undef, undef, undef, undef], []⟩ Try.func45 (by kernel_rfl) (by kernel_rfl) ?_
  refine sy_sq (part_rmrest 2) (part_rmrest 3) ?_
  refine sy_reg ?_
  refine rg_plain 0 (opsAt (part_rmrest 2)) [0, 1] (by kernel_rfl) (by kernel_rfl) ?_
  obtain ⟨V1, eV1, gm, egm, h2, kV1⟩ := alloc_step w ((Msg.c m)) 35
  have n3 : w.heap.size ≤ gm := egm ▸ K0.size
  refine ps_r (o_rmrest 2 0) (pT gm 0) (w' := V1) (by rw [← eV1, ← egm]; exact exec_box 35 (.tmp 1) (by kernel_rfl) (.agg (Msg.c m)) (by kernel_rfl)) ?_
  clear eV1
  have h4 : RrAt V1 b rv l s := hR.keeps kV1 (fun x => x) (fun _ _ x => x)
  have K5 := K0.nn kV1
  have z6 := kV1.size
  obtain ⟨V7, eV7, ga, ega, h8, kV7⟩ := alloc_step V1 ((Msg.c msgZ)) 35
  have n9 : gm < ga := ega ▸ lt_of_block h2
  have n10 : w.heap.size ≤ ga := ega ▸ K5.size
  refine ps_r (o_rmrest 2 1) (pT ga 0) (w' := V7) (by rw [← eV7, ← ega]; exact exec_alloc0 35 (by kernel_rfl) (.agg ((Msg.c msgZ))) (by kernel_rfl)) ?_
  clear eV7
  have h11 : RrAt V7 b rv l s := h4.keeps kV7 (fun x => x) (fun _ _ x => x)
  have h12 := kV7.bk h2
  have K13 := K5.nn kV7
  have z14 := kV7.size
  refine ps_end ?_
  refine then_n ?_
  refine sy_sq (part_rmrest 6) (part_rmrest 7) ?_
  refine sy_sq (part_rmrest 12) (part_rmrest 13) ?_
  refine sy_reg ?_
  refine rg_plain 1 (opsAt (part_rmrest 12)) [0, 1] (by kernel_rfl) (by kernel_rfl) ?_
  refine ps_k (o_rmrest 12 0) (pT gm 0) ?_
  refine ps_p (o_rmrest 12 1) (.int .i64 m.k) (exec_ld 3 (.tmp 5) gm 0 Try.underlying3 (rc (h12) (Msg.get_n hr NF.k))) ?_
  refine ps_end ?_
  refine then_n ?_
  refine sy_bk 0 (part_rmrest 26) ?_
  refine sy_sq (part_rmrest 52) (part_rmrest 53) ?_
  refine sy_reg ?_
  refine rg_plain 2 (opsAt (part_rmrest 52)) [0, 1] (by kernel_rfl) (by kernel_rfl) ?_
  refine ps_p (o_rmrest 52 0) (.bool false) (eqf ((m.k) : Int) ((1) : Int) (by omega)) ?_
  refine ps_k (o_rmrest 52 1) (.bool false) ?_
  refine ps_end ?_
  refine then_n ?_
  refine sy_n (.tmp 7) (part_rmrest 106) (part_rmrest 107) ?_
  refine sy_sq (part_rmrest 214) (part_rmrest 215) ?_
  refine sy_reg ?_
  refine rg_plain 5 (opsAt (part_rmrest 214)) [0, 1] (by kernel_rfl) (by kernel_rfl) ?_
  refine ps_p (o_rmrest 214 0) (.bool false) (eqf ((m.k) : Int) ((2) : Int) (by omega)) ?_
  refine ps_k (o_rmrest 214 1) (.bool false) ?_
  refine ps_end ?_
  refine then_n ?_
  refine sy_n (.tmp 15) (part_rmrest 430) (part_rmrest 431) ?_
  refine sy_sq (part_rmrest 862) (part_rmrest 863) ?_
  refine sy_reg ?_
  refine rg_plain 8 (opsAt (part_rmrest 862)) [0, 1] (by kernel_rfl) (by kernel_rfl) ?_
  refine ps_p (o_rmrest 862 0) (.bool false) (eqf ((m.k) : Int) ((3) : Int) (by omega)) ?_
  refine ps_k (o_rmrest 862 1) (.bool false) ?_
  refine ps_end ?_
  refine then_n ?_
  refine sy_n (.tmp 23) (part_rmrest 1726) (part_rmrest 1727) ?_
  refine sy_sq (part_rmrest 3454) (part_rmrest 3455) ?_
  refine sy_reg ?_
  refine rg_plain 11 (opsAt (part_rmrest 3454)) [0, 1] (by kernel_rfl) (by kernel_rfl) ?_
  refine ps_p (o_rmrest 3454 0) (.bool false) (eqf ((m.k) : Int) ((4) : Int) (by omega)) ?_
  refine ps_k (o_rmrest 3454 1) (.bool false) ?_
  refine ps_end ?_
  refine then_n ?_
  refine sy_n (.tmp 31) (part_rmrest 6910) (part_rmrest 6911) ?_
  refine sy_sq (part_rmrest 13822) (part_rmrest 13823) ?_
  refine sy_reg ?_
  refine rg_plain 14 (opsAt (part_rmrest 13822)) [0, 1] (by kernel_rfl) (by kernel_rfl) ?_
  refine ps_p (o_rmrest 13822 0) (.bool false) (eqf ((m.k) : Int) ((5) : Int) (by omega)) ?_
  refine ps_k (o_rmrest 13822 1) (.bool false) ?_
  refine ps_end ?_
  refine then_n ?_
  refine sy_n (.tmp 39) (part_rmrest 27646) (part_rmrest 27647) ?_
  refine sy_sq (part_rmrest 55294) (part_rmrest 55295) ?_
  refine sy_reg ?_
  refine rg_plain 18 (opsAt (part_rmrest 55294)) [0, 1] (by kernel_rfl) (by kernel_rfl) ?_
  refine ps_p (o_rmrest 55294 0) (.bool false) (eqf ((m.k) : Int) ((6) : Int) (by omega)) ?_
  refine ps_k (o_rmrest 55294 1) (.bool false) ?_
  refine ps_end ?_
  refine then_n ?_
  refine sy_n (.tmp 50) (part_rmrest 110590) (part_rmrest 110591) ?_
  refine sy_sq (part_rmrest 221182) (part_rmrest 221183) ?_
  refine sy_reg ?_
  refine rg_plain 20 (opsAt (part_rmrest 221182)) [0, 1] (by kernel_rfl) (by kernel_rfl) ?_
  refine ps_p (o_rmrest 221182 0) (.bool false) (eqf ((m.k) : Int) ((7) : Int) (by omega)) ?_
  refine ps_k (o_rmrest 221182 1) (.bool false) ?_
  refine ps_end ?_
  refine then_n ?_
  refine sy_n (.tmp 55) (part_rmrest 442366) (part_rmrest 442367) ?_
  refine sy_sq (part_rmrest 884734) (part_rmrest 884735) ?_
  refine sy_reg ?_
  refine rg_plain 22 (opsAt (part_rmrest 884734)) [0, 1] (by kernel_rfl) (by kernel_rfl) ?_
  refine ps_p (o_rmrest 884734 0) (.bool false) (eqf ((m.k) : Int) ((8) : Int) (by omega)) ?_
  refine ps_k (o_rmrest 884734 1) (.bool false) ?_
  refine ps_end ?_
  refine then_n ?_
  refine sy_n (.tmp 60) (part_rmrest 1769470) (part_rmrest 1769471) ?_
  refine sy_sq (part_rmrest 3538942) (part_rmrest 3538943) ?_
  refine sy_reg ?_
  refine rg_plain 29 (opsAt (part_rmrest 3538942)) [0, 1] (by kernel_rfl) (by kernel_rfl) ?_
  refine ps_p (o_rmrest 3538942 0) (.bool false) (eqf ((m.k) : Int) ((9) : Int) (by omega)) ?_
  refine ps_k (o_rmrest 3538942 1) (.bool false) ?_
  refine ps_end ?_
  refine then_n ?_
  refine sy_n (.tmp 80) (part_rmrest 7077886) (part_rmrest 7077887) ?_
  refine sy_sk ?_
  refine blk_n ?_
  refine then_n ?_
  refine sy_sq (part_rmrest 14) (part_rmrest 15) ?_
  refine sy_reg ?_
  refine rg_plain 31 (opsAt (part_rmrest 14)) [0, 1] (by kernel_rfl) (by kernel_rfl) ?_
  refine ps_p (o_rmrest 14 0) (.agg (Msg.c m)) (exec_load_row 35 (.tmp 3) (by kernel_rfl) gm (by kernel_rfl) _ _ (0, 0) _ (h12) Try.underlying35 rfl (by rw [Msg.c_size hr]; kernel_rfl)) ?_
  obtain ⟨V15, eV15, kV15⟩ := rowset_step V7 ga ((Msg.c m))
  have h16 : V15.heap[ga]? = some (.cells (Msg.c m) 35 (0, 0)) := eV15 ▸ setRow_heap _ _ _ _ _ _ h8
  refine ps_s (o_rmrest 14 1) (w' := V15) (by rw [← eV15]; exact exec_store_row 35 (.tmp 4) (.tmp 85) (by kernel_rfl) ga ((Msg.c m)) (by kernel_rfl) (by kernel_rfl) 35 ((Msg.c msgZ)) h8 (by rw [Msg.c_size hr]; kernel_rfl) (by rw [Msg.c_size hr]; exact (Msg.c_size msgZ_R).symm) (Msg.c_one _)) ?_
  clear eV15
  have h17 : RrAt V15 b rv l s := h11.keeps kV15 (by unfold Own.One; omega) (fun j hj e => by have := hov j hj; unfold Own.One at e; omega)
  have h18 := kV15.bo h12 (by omega)
  have K19 := K13.no kV15 (by omega)
  have z20 := kV15.size
  refine ps_end ?_
  refine sy_a ⟨#[pT b 0, .agg (Msg.c m), undef, pT gm 0, pT ga 0, pT gm 0, .int .i64 m.k, .bool false, .bool false, undef, undef, undef, undef, undef, undef, .bool false, .bool false, undef, undef, undef, undef, undef, undef, .bool false, .bool false, undef, undef, undef, undef, undef, undef, .bool false, .bool false, undef, undef, undef, undef, undef, undef, .bool false, .bool false, undef, undef, undef, undef, undef, undef, undef, undef, undef, .bool false, .bool false, undef, undef, undef, .bool false, .bool false, undef, undef, undef, .bool false, .bool false, undef, undef, undef, undef, undef, undef, undef, undef, undef, undef, undef, undef, undef, undef, undef, undef, undef, undef, .bool false, .bool false, undef, undef, undef, .agg (Msg.c m)], []⟩ ?_
  refine then_n ?_
  refine sy_ret (by kernel_rfl) ?_
  refine sy_out (.agg (Msg.c m)) rfl (results_cell_row (p := 4) (ty := 35) (by kernel_rfl) _ _ ga 35 (Msg.c m) (0, 0) _ (by kernel_rfl) h16 Try.underlying35 rfl (by rw [Msg.c_size hr]; kernel_rfl)) ?_
  exact ⟨rfl, h17, K19⟩
theorem rest_0 (l : List UInt8) (m : Msg) (s : RS) : restR l 0 (m, s) = (m, s) := by
  unfold restR; rw [if_neg (by decide)]
  skip
  rfl
set_option maxRecDepth 100000 in
set_option maxHeartbeats 4000000 in
theorem rmrest_1_ (b : Nat) (rv : Value) (l : List UInt8) (s : RS) (m : Msg) (w : World) (hr : m.R) (hk : m.k = 1) (hR : RrAt w b rv l s) (hov : ∀ j, rv.ownBlock = some j → j < w.heap.size) (hl : l.length ≤ 100000000) :
    Calls Try.prog 45 #[.pointer (some ⟨b, 0, none⟩), .agg (Msg.c m)] w (fun e w' => e = .returned (.agg (Msg.c ((AF.set (NF.set m ((rdN l s 0 63).1) .t) ((rdU l ((rdN l s 0 63).2)).1.toNat) .am)))) ∧ RrAt w' b rv l ((rdU l ((rdN l s 0 63).2)).2) ∧ Keeps (One b) w w') := by
  have hbl := hR.lt
  have K0 : Keeps (One b) w w := Keeps.refl _ _
  refine sy_enter (part_rmrest 1) ⟨#[pT b 0, .agg (Msg.c m), undef, undef, undef, undef, undef, undef, undef, undef, undef, undef, undef, undef, undef, undef, undef, undef, undef, undef, undef, undef, undef, undef, undef, undef, undef, undef, undef, undef, undef, undef, undef, undef, undef, undef, undef, undef, undef, undef, undef, undef, undef, undef, undef, undef, undef, undef, undef, undef, undef, undef, undef, undef, undef, undef, undef, undef, undef, undef, undef, undef, undef, undef, undef, undef, undef, undef, undef, undef, undef, undef, undef, undef, undef, undef, undef, undef, undef, undef, undef, undef, undef, undef, undef, undef], []⟩ Try.func45 (by kernel_rfl) (by kernel_rfl) ?_
  refine sy_sq (part_rmrest 2) (part_rmrest 3) ?_
  refine sy_reg ?_
  refine rg_plain 0 (opsAt (part_rmrest 2)) [0, 1] (by kernel_rfl) (by kernel_rfl) ?_
  obtain ⟨V1, eV1, gm, egm, h2, kV1⟩ := alloc_step w ((Msg.c m)) 35
  have n3 : w.heap.size ≤ gm := egm ▸ K0.size
  refine ps_r (o_rmrest 2 0) (pT gm 0) (w' := V1) (by rw [← eV1, ← egm]; exact exec_box 35 (.tmp 1) (by kernel_rfl) (.agg (Msg.c m)) (by kernel_rfl)) ?_
  clear eV1
  have h4 : RrAt V1 b rv l s := hR.keeps kV1 (fun x => x) (fun _ _ x => x)
  have K5 := K0.nn kV1
  have z6 := kV1.size
  obtain ⟨V7, eV7, ga, ega, h8, kV7⟩ := alloc_step V1 ((Msg.c msgZ)) 35
  have n9 : gm < ga := ega ▸ lt_of_block h2
  have n10 : w.heap.size ≤ ga := ega ▸ K5.size
  refine ps_r (o_rmrest 2 1) (pT ga 0) (w' := V7) (by rw [← eV7, ← ega]; exact exec_alloc0 35 (by kernel_rfl) (.agg ((Msg.c msgZ))) (by kernel_rfl)) ?_
  clear eV7
  have h11 : RrAt V7 b rv l s := h4.keeps kV7 (fun x => x) (fun _ _ x => x)
  have h12 := kV7.bk h2
  have K13 := K5.nn kV7
  have z14 := kV7.size
  refine ps_end ?_
  refine then_n ?_
  refine sy_sq (part_rmrest 6) (part_rmrest 7) ?_
  refine sy_sq (part_rmrest 12) (part_rmrest 13) ?_
  refine sy_reg ?_
  refine rg_plain 1 (opsAt (part_rmrest 12)) [0, 1] (by kernel_rfl) (by kernel_rfl) ?_
  refine ps_k (o_rmrest 12 0) (pT gm 0) ?_
  refine ps_p (o_rmrest 12 1) (.int .i64 m.k) (exec_ld 3 (.tmp 5) gm 0 Try.underlying3 (rc (h12) (Msg.get_n hr NF.k))) ?_
  refine ps_end ?_
  refine then_n ?_
  refine sy_bk 0 (part_rmrest 26) ?_
  refine sy_sq (part_rmrest 52) (part_rmrest 53) ?_
  refine sy_reg ?_
  refine rg_plain 2 (opsAt (part_rmrest 52)) [0, 1] (by kernel_rfl) (by kernel_rfl) ?_
  refine ps_p (o_rmrest 52 0) (.bool true) (eqt ((m.k) : Int) ((1) : Int) (by omega)) ?_
  refine ps_k (o_rmrest 52 1) (.bool true) ?_
  refine ps_end ?_
  refine then_n ?_
  refine sy_ys (.tmp 7) (part_rmrest 106) (part_rmrest 107) ?_
  refine sy_sq (part_rmrest 212) (part_rmrest 213) ?_
  refine sy_reg ?_
  refine rg_plain 3 (opsAt (part_rmrest 212)) [0, 1, 2, 3] (by kernel_rfl) (by kernel_rfl) ?_
  refine ps_k (o_rmrest 212 0) (pT b 0) ?_
  refine ps_c (o_rmrest 212 1) 44 #[pT b 0, .int .i64 0, .int .i64 63] Try.func44 ((rrN_ok b rv l s 0 63 _ h11 (by decide) (by decide)).mono ?_)
  rintro e V15 ⟨rfl, hR16, kV15⟩
  refine ⟨_, rfl, ?_⟩
  have h17 := kV15.bo h12 (by omega)
  have h18 := kV15.bo h8 (by omega)
  have K19 : Keeps (One b) w V15 := K13.then kV15 (fun i hi hm => by unfold Own.One at hm; subst hm; exact rfl)
  have z20 := kV15.size
  refine ps_k (o_rmrest 212 2) (pT gm 3) ?_
  obtain ⟨V21, eV21, kV21⟩ := cell_step V15 gm 3 (.int .i64 (rdN l s 0 63).1)
  have h22 : V21.heap[gm]? = some (.cells (Msg.c (NF.set m ((rdN l s 0 63).1) .t)) 35 (0, 0)) := eV21 ▸ ((heap_setCell_same _ gm 3 _ _ (.int .i64 (rdN l s 0 63).1) h17).trans (congrArg (fun c => some (Obj.cells c 35 (0, 0))) (show (Msg.c m : Array Value).setIfInBounds 3 (.int .i64 (rdN l s 0 63).1) = Msg.c (NF.set m ((rdN l s 0 63).1) .t) from Msg.set_n hr NF.t _)))
  refine ps_s (o_rmrest 212 3) (w' := V21) (by rw [← eV21]; exact exec_store_cell 3 (.tmp 11) (.tmp 10) (by kernel_rfl) gm 3 (by kernel_rfl) (.int .i64 (rdN l s 0 63).1) (by kernel_rfl) (by kernel_rfl) (by kernel_rfl) (.int .i64 m.t) (rc (h17) (Msg.get_n hr NF.t)) (frozen_of_row _ _ _ _ _ h17) (by kernel_rfl)) ?_
  clear eV21
  have h23 := kV21.bo h18 (by omega)
  have h24 : RrAt V21 b rv l ((rdN l s 0 63).2) := hR16.keeps kV21 (by unfold Own.One; omega) (fun j hj e => by have := hov j hj; unfold Own.One at e; omega)
  have K25 := K19.no kV21 (by omega)
  have z26 := kV21.size
  refine ps_end ?_
  refine then_n ?_
  refine sy_reg ?_
  refine rg_plain 4 (opsAt (part_rmrest 213)) [0, 1, 2, 3] (by kernel_rfl) (by kernel_rfl) ?_
  refine ps_k (o_rmrest 213 0) (pT b 0) ?_
  refine ps_c (o_rmrest 213 1) 66 #[pT b 0] Try.func66 ((rrU_nat b rv l ((rdN l s 0 63).2) _ h24).mono ?_)
  rintro e V27 ⟨rfl, hR28, kV27⟩
  refine ⟨_, rfl, ?_⟩
  have h29 := kV27.bo h23 (by omega)
  have h30 := kV27.bo h22 (by omega)
  have K31 : Keeps (One b) w V27 := K25.then kV27 (fun i hi hm => by unfold Own.One at hm; subst hm; exact rfl)
  have z32 := kV27.size
  refine ps_k (o_rmrest 213 2) (pT gm 4) ?_
  obtain ⟨V33, eV33, kV33⟩ := cell_step V27 gm 4 (.int .u64 (((rdU l ((rdN l s 0 63).2)).1.toNat : Nat) : Int))
  have h34 : V33.heap[gm]? = some (.cells (Msg.c (AF.set (NF.set m ((rdN l s 0 63).1) .t) ((rdU l ((rdN l s 0 63).2)).1.toNat) .am)) 35 (0, 0)) := eV33 ▸ ((heap_setCell_same _ gm 4 _ _ (.int .u64 (((rdU l ((rdN l s 0 63).2)).1.toNat : Nat) : Int)) h30).trans (congrArg (fun c => some (Obj.cells c 35 (0, 0))) (show (Msg.c (NF.set m ((rdN l s 0 63).1) .t) : Array Value).setIfInBounds 4 (.int .u64 (((rdU l ((rdN l s 0 63).2)).1.toNat : Nat) : Int)) = Msg.c (AF.set (NF.set m ((rdN l s 0 63).1) .t) ((rdU l ((rdN l s 0 63).2)).1.toNat) .am) from Msg.set_a (NF.R hr) AF.am _)))
  refine ps_s (o_rmrest 213 3) (w' := V33) (by rw [← eV33]; exact exec_store_cell 25 (.tmp 14) (.tmp 13) (by kernel_rfl) gm 4 (by kernel_rfl) (uN ((rdU l ((rdN l s 0 63).2)).1.toNat)) (by kernel_rfl) (by kernel_rfl) (by kernel_rfl) (uN ((NF.set m ((rdN l s 0 63).1) .t).am)) (rc (h30) (Msg.get_a (NF.R hr) AF.am)) (frozen_of_row _ _ _ _ _ h30) (by kernel_rfl)) ?_
  clear eV33
  have h35 := kV33.bo h29 (by omega)
  have h36 : RrAt V33 b rv l ((rdU l ((rdN l s 0 63).2)).2) := hR28.keeps kV33 (by unfold Own.One; omega) (fun j hj e => by have := hov j hj; unfold Own.One at e; omega)
  have K37 := K31.no kV33 (by omega)
  have z38 := kV33.size
  refine ps_end ?_
  refine blk_n ?_
  refine then_n ?_
  refine sy_sq (part_rmrest 14) (part_rmrest 15) ?_
  refine sy_reg ?_
  refine rg_plain 31 (opsAt (part_rmrest 14)) [0, 1] (by kernel_rfl) (by kernel_rfl) ?_
  refine ps_p (o_rmrest 14 0) (.agg (Msg.c (AF.set (NF.set m ((rdN l s 0 63).1) .t) ((rdU l ((rdN l s 0 63).2)).1.toNat) .am))) (exec_load_row 35 (.tmp 3) (by kernel_rfl) gm (by kernel_rfl) _ _ (0, 0) _ (h34) Try.underlying35 rfl (by rw [Msg.c_size (AF.R (NF.R hr))]; kernel_rfl)) ?_
  obtain ⟨V39, eV39, kV39⟩ := rowset_step V33 ga ((Msg.c (AF.set (NF.set m ((rdN l s 0 63).1) .t) ((rdU l ((rdN l s 0 63).2)).1.toNat) .am)))
  have h40 : V39.heap[ga]? = some (.cells (Msg.c (AF.set (NF.set m ((rdN l s 0 63).1) .t) ((rdU l ((rdN l s 0 63).2)).1.toNat) .am)) 35 (0, 0)) := eV39 ▸ setRow_heap _ _ _ _ _ _ h35
  refine ps_s (o_rmrest 14 1) (w' := V39) (by rw [← eV39]; exact exec_store_row 35 (.tmp 4) (.tmp 85) (by kernel_rfl) ga ((Msg.c (AF.set (NF.set m ((rdN l s 0 63).1) .t) ((rdU l ((rdN l s 0 63).2)).1.toNat) .am))) (by kernel_rfl) (by kernel_rfl) 35 ((Msg.c msgZ)) h35 (by rw [Msg.c_size (AF.R (NF.R hr))]; kernel_rfl) (by rw [Msg.c_size (AF.R (NF.R hr))]; exact (Msg.c_size msgZ_R).symm) (Msg.c_one _)) ?_
  clear eV39
  have h41 : RrAt V39 b rv l ((rdU l ((rdN l s 0 63).2)).2) := h36.keeps kV39 (by unfold Own.One; omega) (fun j hj e => by have := hov j hj; unfold Own.One at e; omega)
  have h42 := kV39.bo h34 (by omega)
  have K43 := K37.no kV39 (by omega)
  have z44 := kV39.size
  refine ps_end ?_
  refine then_n ?_
  refine sy_ret (by kernel_rfl) ?_
  refine sy_out (.agg (Msg.c (AF.set (NF.set m ((rdN l s 0 63).1) .t) ((rdU l ((rdN l s 0 63).2)).1.toNat) .am))) rfl (results_cell_row (p := 4) (ty := 35) (by kernel_rfl) _ _ ga 35 (Msg.c (AF.set (NF.set m ((rdN l s 0 63).1) .t) ((rdU l ((rdN l s 0 63).2)).1.toNat) .am)) (0, 0) _ (by kernel_rfl) h40 Try.underlying35 rfl (by rw [Msg.c_size (AF.R (NF.R hr))]; kernel_rfl)) ?_
  exact ⟨rfl, h41, K43⟩
theorem rest_1 (l : List UInt8) (m : Msg) (s : RS) : restR l 1 (m, s) = ((AF.set (NF.set m ((rdN l s 0 63).1) .t) ((rdU l ((rdN l s 0 63).2)).1.toNat) .am), (rdU l ((rdN l s 0 63).2)).2) := by
  unfold restR; rw [if_neg (by decide)]
  show rdIt l (rdIt l (m, s) (.n .t 0 63)) (.a .am) = _
  rw [rd_n0 _ _ _ _ _ _ (by decide)]; rfl
set_option maxRecDepth 100000 in
set_option maxHeartbeats 4000000 in
theorem rmrest_2_ (b : Nat) (rv : Value) (l : List UInt8) (s : RS) (m : Msg) (w : World) (hr : m.R) (hk : m.k = 2) (hR : RrAt w b rv l s) (hov : ∀ j, rv.ownBlock = some j → j < w.heap.size) (hl : l.length ≤ 100000000) :
    Calls Try.prog 45 #[.pointer (some ⟨b, 0, none⟩), .agg (Msg.c m)] w (fun e w' => e = .returned (.agg (Msg.c ((AF.set (AF.set m ((rdU l s).1.toNat) .mn) ((rdU l ((rdU l s).2)).1.toNat) .am)))) ∧ RrAt w' b rv l ((rdU l ((rdU l s).2)).2) ∧ Keeps (One b) w w') := by
  have hbl := hR.lt
  have K0 : Keeps (One b) w w := Keeps.refl _ _
  refine sy_enter (part_rmrest 1) ⟨#[pT b 0, .agg (Msg.c m), undef, undef, undef, undef, undef, undef, undef, undef, undef, undef, undef, undef, undef, undef, undef, undef, undef, undef, undef, undef, undef, undef, undef, undef, undef, undef, undef, undef, undef, undef, undef, undef, undef, undef, undef, undef, undef, undef, undef, undef, undef, undef, undef, undef, undef, undef, undef, undef, undef, undef, undef, undef, undef, undef, undef, undef, undef, undef, undef, undef, undef, undef, undef, undef, undef, undef, undef, undef, undef, undef, undef, undef, undef, undef, undef, undef, undef, undef, undef, undef, undef, undef, undef, undef], []⟩ Try.func45 (by kernel_rfl) (by kernel_rfl) ?_
  refine sy_sq (part_rmrest 2) (part_rmrest 3) ?_
  refine sy_reg ?_
  refine rg_plain 0 (opsAt (part_rmrest 2)) [0, 1] (by kernel_rfl) (by kernel_rfl) ?_
  obtain ⟨V1, eV1, gm, egm, h2, kV1⟩ := alloc_step w ((Msg.c m)) 35
  have n3 : w.heap.size ≤ gm := egm ▸ K0.size
  refine ps_r (o_rmrest 2 0) (pT gm 0) (w' := V1) (by rw [← eV1, ← egm]; exact exec_box 35 (.tmp 1) (by kernel_rfl) (.agg (Msg.c m)) (by kernel_rfl)) ?_
  clear eV1
  have h4 : RrAt V1 b rv l s := hR.keeps kV1 (fun x => x) (fun _ _ x => x)
  have K5 := K0.nn kV1
  have z6 := kV1.size
  obtain ⟨V7, eV7, ga, ega, h8, kV7⟩ := alloc_step V1 ((Msg.c msgZ)) 35
  have n9 : gm < ga := ega ▸ lt_of_block h2
  have n10 : w.heap.size ≤ ga := ega ▸ K5.size
  refine ps_r (o_rmrest 2 1) (pT ga 0) (w' := V7) (by rw [← eV7, ← ega]; exact exec_alloc0 35 (by kernel_rfl) (.agg ((Msg.c msgZ))) (by kernel_rfl)) ?_
  clear eV7
  have h11 : RrAt V7 b rv l s := h4.keeps kV7 (fun x => x) (fun _ _ x => x)
  have h12 := kV7.bk h2
  have K13 := K5.nn kV7
  have z14 := kV7.size
  refine ps_end ?_
  refine then_n ?_
  refine sy_sq (part_rmrest 6) (part_rmrest 7) ?_
  refine sy_sq (part_rmrest 12) (part_rmrest 13) ?_
  refine sy_reg ?_
  refine rg_plain 1 (opsAt (part_rmrest 12)) [0, 1] (by kernel_rfl) (by kernel_rfl) ?_
  refine ps_k (o_rmrest 12 0) (pT gm 0) ?_
  refine ps_p (o_rmrest 12 1) (.int .i64 m.k) (exec_ld 3 (.tmp 5) gm 0 Try.underlying3 (rc (h12) (Msg.get_n hr NF.k))) ?_
  refine ps_end ?_
  refine then_n ?_
  refine sy_bk 0 (part_rmrest 26) ?_
  refine sy_sq (part_rmrest 52) (part_rmrest 53) ?_
  refine sy_reg ?_
  refine rg_plain 2 (opsAt (part_rmrest 52)) [0, 1] (by kernel_rfl) (by kernel_rfl) ?_
  refine ps_p (o_rmrest 52 0) (.bool false) (eqf ((m.k) : Int) ((1) : Int) (by omega)) ?_
  refine ps_k (o_rmrest 52 1) (.bool false) ?_
  refine ps_end ?_
  refine then_n ?_
  refine sy_n (.tmp 7) (part_rmrest 106) (part_rmrest 107) ?_
  refine sy_sq (part_rmrest 214) (part_rmrest 215) ?_
  refine sy_reg ?_
  refine rg_plain 5 (opsAt (part_rmrest 214)) [0, 1] (by kernel_rfl) (by kernel_rfl) ?_
  refine ps_p (o_rmrest 214 0) (.bool true) (eqt ((m.k) : Int) ((2) : Int) (by omega)) ?_
  refine ps_k (o_rmrest 214 1) (.bool true) ?_
  refine ps_end ?_
  refine then_n ?_
  refine sy_ys (.tmp 15) (part_rmrest 430) (part_rmrest 431) ?_
  refine sy_sq (part_rmrest 860) (part_rmrest 861) ?_
  refine sy_reg ?_
  refine rg_plain 6 (opsAt (part_rmrest 860)) [0, 1, 2, 3] (by kernel_rfl) (by kernel_rfl) ?_
  refine ps_k (o_rmrest 860 0) (pT b 0) ?_
  refine ps_c (o_rmrest 860 1) 66 #[pT b 0] Try.func66 ((rrU_nat b rv l s _ h11).mono ?_)
  rintro e V15 ⟨rfl, hR16, kV15⟩
  refine ⟨_, rfl, ?_⟩
  have h17 := kV15.bo h12 (by omega)
  have h18 := kV15.bo h8 (by omega)
  have K19 : Keeps (One b) w V15 := K13.then kV15 (fun i hi hm => by unfold Own.One at hm; subst hm; exact rfl)
  have z20 := kV15.size
  refine ps_k (o_rmrest 860 2) (pT gm 5) ?_
  obtain ⟨V21, eV21, kV21⟩ := cell_step V15 gm 5 (.int .u64 (((rdU l s).1.toNat : Nat) : Int))
  have h22 : V21.heap[gm]? = some (.cells (Msg.c (AF.set m ((rdU l s).1.toNat) .mn)) 35 (0, 0)) := eV21 ▸ ((heap_setCell_same _ gm 5 _ _ (.int .u64 (((rdU l s).1.toNat : Nat) : Int)) h17).trans (congrArg (fun c => some (Obj.cells c 35 (0, 0))) (show (Msg.c m : Array Value).setIfInBounds 5 (.int .u64 (((rdU l s).1.toNat : Nat) : Int)) = Msg.c (AF.set m ((rdU l s).1.toNat) .mn) from Msg.set_a hr AF.mn _)))
  refine ps_s (o_rmrest 860 3) (w' := V21) (by rw [← eV21]; exact exec_store_cell 25 (.tmp 19) (.tmp 18) (by kernel_rfl) gm 5 (by kernel_rfl) (uN ((rdU l s).1.toNat)) (by kernel_rfl) (by kernel_rfl) (by kernel_rfl) (uN m.mn) (rc (h17) (Msg.get_a hr AF.mn)) (frozen_of_row _ _ _ _ _ h17) (by kernel_rfl)) ?_
  clear eV21
  have h23 := kV21.bo h18 (by omega)
  have h24 : RrAt V21 b rv l ((rdU l s).2) := hR16.keeps kV21 (by unfold Own.One; omega) (fun j hj e => by have := hov j hj; unfold Own.One at e; omega)
  have K25 := K19.no kV21 (by omega)
  have z26 := kV21.size
  refine ps_end ?_
  refine then_n ?_
  refine sy_reg ?_
  refine rg_plain 7 (opsAt (part_rmrest 861)) [0, 1, 2, 3] (by kernel_rfl) (by kernel_rfl) ?_
  refine ps_k (o_rmrest 861 0) (pT b 0) ?_
  refine ps_c (o_rmrest 861 1) 66 #[pT b 0] Try.func66 ((rrU_nat b rv l ((rdU l s).2) _ h24).mono ?_)
  rintro e V27 ⟨rfl, hR28, kV27⟩
  refine ⟨_, rfl, ?_⟩
  have h29 := kV27.bo h23 (by omega)
  have h30 := kV27.bo h22 (by omega)
  have K31 : Keeps (One b) w V27 := K25.then kV27 (fun i hi hm => by unfold Own.One at hm; subst hm; exact rfl)
  have z32 := kV27.size
  refine ps_k (o_rmrest 861 2) (pT gm 4) ?_
  obtain ⟨V33, eV33, kV33⟩ := cell_step V27 gm 4 (.int .u64 (((rdU l ((rdU l s).2)).1.toNat : Nat) : Int))
  have h34 : V33.heap[gm]? = some (.cells (Msg.c (AF.set (AF.set m ((rdU l s).1.toNat) .mn) ((rdU l ((rdU l s).2)).1.toNat) .am)) 35 (0, 0)) := eV33 ▸ ((heap_setCell_same _ gm 4 _ _ (.int .u64 (((rdU l ((rdU l s).2)).1.toNat : Nat) : Int)) h30).trans (congrArg (fun c => some (Obj.cells c 35 (0, 0))) (show (Msg.c (AF.set m ((rdU l s).1.toNat) .mn) : Array Value).setIfInBounds 4 (.int .u64 (((rdU l ((rdU l s).2)).1.toNat : Nat) : Int)) = Msg.c (AF.set (AF.set m ((rdU l s).1.toNat) .mn) ((rdU l ((rdU l s).2)).1.toNat) .am) from Msg.set_a (AF.R hr) AF.am _)))
  refine ps_s (o_rmrest 861 3) (w' := V33) (by rw [← eV33]; exact exec_store_cell 25 (.tmp 22) (.tmp 21) (by kernel_rfl) gm 4 (by kernel_rfl) (uN ((rdU l ((rdU l s).2)).1.toNat)) (by kernel_rfl) (by kernel_rfl) (by kernel_rfl) (uN ((AF.set m ((rdU l s).1.toNat) .mn).am)) (rc (h30) (Msg.get_a (AF.R hr) AF.am)) (frozen_of_row _ _ _ _ _ h30) (by kernel_rfl)) ?_
  clear eV33
  have h35 := kV33.bo h29 (by omega)
  have h36 : RrAt V33 b rv l ((rdU l ((rdU l s).2)).2) := hR28.keeps kV33 (by unfold Own.One; omega) (fun j hj e => by have := hov j hj; unfold Own.One at e; omega)
  have K37 := K31.no kV33 (by omega)
  have z38 := kV33.size
  refine ps_end ?_
  refine blk_n ?_
  refine then_n ?_
  refine sy_sq (part_rmrest 14) (part_rmrest 15) ?_
  refine sy_reg ?_
  refine rg_plain 31 (opsAt (part_rmrest 14)) [0, 1] (by kernel_rfl) (by kernel_rfl) ?_
  refine ps_p (o_rmrest 14 0) (.agg (Msg.c (AF.set (AF.set m ((rdU l s).1.toNat) .mn) ((rdU l ((rdU l s).2)).1.toNat) .am))) (exec_load_row 35 (.tmp 3) (by kernel_rfl) gm (by kernel_rfl) _ _ (0, 0) _ (h34) Try.underlying35 rfl (by rw [Msg.c_size (AF.R (AF.R hr))]; kernel_rfl)) ?_
  obtain ⟨V39, eV39, kV39⟩ := rowset_step V33 ga ((Msg.c (AF.set (AF.set m ((rdU l s).1.toNat) .mn) ((rdU l ((rdU l s).2)).1.toNat) .am)))
  have h40 : V39.heap[ga]? = some (.cells (Msg.c (AF.set (AF.set m ((rdU l s).1.toNat) .mn) ((rdU l ((rdU l s).2)).1.toNat) .am)) 35 (0, 0)) := eV39 ▸ setRow_heap _ _ _ _ _ _ h35
  refine ps_s (o_rmrest 14 1) (w' := V39) (by rw [← eV39]; exact exec_store_row 35 (.tmp 4) (.tmp 85) (by kernel_rfl) ga ((Msg.c (AF.set (AF.set m ((rdU l s).1.toNat) .mn) ((rdU l ((rdU l s).2)).1.toNat) .am))) (by kernel_rfl) (by kernel_rfl) 35 ((Msg.c msgZ)) h35 (by rw [Msg.c_size (AF.R (AF.R hr))]; kernel_rfl) (by rw [Msg.c_size (AF.R (AF.R hr))]; exact (Msg.c_size msgZ_R).symm) (Msg.c_one _)) ?_
  clear eV39
  have h41 : RrAt V39 b rv l ((rdU l ((rdU l s).2)).2) := h36.keeps kV39 (by unfold Own.One; omega) (fun j hj e => by have := hov j hj; unfold Own.One at e; omega)
  have h42 := kV39.bo h34 (by omega)
  have K43 := K37.no kV39 (by omega)
  have z44 := kV39.size
  refine ps_end ?_
  refine then_n ?_
  refine sy_ret (by kernel_rfl) ?_
  refine sy_out (.agg (Msg.c (AF.set (AF.set m ((rdU l s).1.toNat) .mn) ((rdU l ((rdU l s).2)).1.toNat) .am))) rfl (results_cell_row (p := 4) (ty := 35) (by kernel_rfl) _ _ ga 35 (Msg.c (AF.set (AF.set m ((rdU l s).1.toNat) .mn) ((rdU l ((rdU l s).2)).1.toNat) .am)) (0, 0) _ (by kernel_rfl) h40 Try.underlying35 rfl (by rw [Msg.c_size (AF.R (AF.R hr))]; kernel_rfl)) ?_
  exact ⟨rfl, h41, K43⟩
theorem rest_2 (l : List UInt8) (m : Msg) (s : RS) : restR l 2 (m, s) = ((AF.set (AF.set m ((rdU l s).1.toNat) .mn) ((rdU l ((rdU l s).2)).1.toNat) .am), (rdU l ((rdU l s).2)).2) := by
  unfold restR; rw [if_neg (by decide)]
  skip
  rfl
set_option maxRecDepth 100000 in
set_option maxHeartbeats 4000000 in
theorem rmrest_3_ (b : Nat) (rv : Value) (l : List UInt8) (s : RS) (m : Msg) (w : World) (hr : m.R) (hk : m.k = 3) (hR : RrAt w b rv l s) (hov : ∀ j, rv.ownBlock = some j → j < w.heap.size) (hl : l.length ≤ 100000000) :
    Calls Try.prog 45 #[.pointer (some ⟨b, 0, none⟩), .agg (Msg.c m)] w (fun e w' => e = .returned (.agg (Msg.c ((AF.set (NF.set m ((rdN l s 0 31).1) .vl) ((rdU l ((rdN l s 0 31).2)).1.toNat) .am)))) ∧ RrAt w' b rv l ((rdU l ((rdN l s 0 31).2)).2) ∧ Keeps (One b) w w') := by
  have hbl := hR.lt
  have K0 : Keeps (One b) w w := Keeps.refl _ _
  refine sy_enter (part_rmrest 1) ⟨#[pT b 0, .agg (Msg.c m), undef, undef, undef, undef, undef, undef, undef, undef, undef, undef, undef, undef, undef, undef, undef, undef, undef, undef, undef, undef, undef, undef, undef, undef, undef, undef, undef, undef, undef, undef, undef, undef, undef, undef, undef, undef, undef, undef, undef, undef, undef, undef, undef, undef, undef, undef, undef, undef, undef, undef, undef, undef, undef, undef, undef, undef, undef, undef, undef, undef, undef, undef, undef, undef, undef, undef, undef, undef, undef, undef, undef, undef, undef, undef, undef, undef, undef, undef, undef, undef, undef, undef, undef, undef], []⟩ Try.func45 (by kernel_rfl) (by kernel_rfl) ?_
  refine sy_sq (part_rmrest 2) (part_rmrest 3) ?_
  refine sy_reg ?_
  refine rg_plain 0 (opsAt (part_rmrest 2)) [0, 1] (by kernel_rfl) (by kernel_rfl) ?_
  obtain ⟨V1, eV1, gm, egm, h2, kV1⟩ := alloc_step w ((Msg.c m)) 35
  have n3 : w.heap.size ≤ gm := egm ▸ K0.size
  refine ps_r (o_rmrest 2 0) (pT gm 0) (w' := V1) (by rw [← eV1, ← egm]; exact exec_box 35 (.tmp 1) (by kernel_rfl) (.agg (Msg.c m)) (by kernel_rfl)) ?_
  clear eV1
  have h4 : RrAt V1 b rv l s := hR.keeps kV1 (fun x => x) (fun _ _ x => x)
  have K5 := K0.nn kV1
  have z6 := kV1.size
  obtain ⟨V7, eV7, ga, ega, h8, kV7⟩ := alloc_step V1 ((Msg.c msgZ)) 35
  have n9 : gm < ga := ega ▸ lt_of_block h2
  have n10 : w.heap.size ≤ ga := ega ▸ K5.size
  refine ps_r (o_rmrest 2 1) (pT ga 0) (w' := V7) (by rw [← eV7, ← ega]; exact exec_alloc0 35 (by kernel_rfl) (.agg ((Msg.c msgZ))) (by kernel_rfl)) ?_
  clear eV7
  have h11 : RrAt V7 b rv l s := h4.keeps kV7 (fun x => x) (fun _ _ x => x)
  have h12 := kV7.bk h2
  have K13 := K5.nn kV7
  have z14 := kV7.size
  refine ps_end ?_
  refine then_n ?_
  refine sy_sq (part_rmrest 6) (part_rmrest 7) ?_
  refine sy_sq (part_rmrest 12) (part_rmrest 13) ?_
  refine sy_reg ?_
  refine rg_plain 1 (opsAt (part_rmrest 12)) [0, 1] (by kernel_rfl) (by kernel_rfl) ?_
  refine ps_k (o_rmrest 12 0) (pT gm 0) ?_
  refine ps_p (o_rmrest 12 1) (.int .i64 m.k) (exec_ld 3 (.tmp 5) gm 0 Try.underlying3 (rc (h12) (Msg.get_n hr NF.k))) ?_
  refine ps_end ?_
  refine then_n ?_
  refine sy_bk 0 (part_rmrest 26) ?_
  refine sy_sq (part_rmrest 52) (part_rmrest 53) ?_
  refine sy_reg ?_
  refine rg_plain 2 (opsAt (part_rmrest 52)) [0, 1] (by kernel_rfl) (by kernel_rfl) ?_
  refine ps_p (o_rmrest 52 0) (.bool false) (eqf ((m.k) : Int) ((1) : Int) (by omega)) ?_
  refine ps_k (o_rmrest 52 1) (.bool false) ?_
  refine ps_end ?_
  refine then_n ?_
  refine sy_n (.tmp 7) (part_rmrest 106) (part_rmrest 107) ?_
  refine sy_sq (part_rmrest 214) (part_rmrest 215) ?_
  refine sy_reg ?_
  refine rg_plain 5 (opsAt (part_rmrest 214)) [0, 1] (by kernel_rfl) (by kernel_rfl) ?_
  refine ps_p (o_rmrest 214 0) (.bool false) (eqf ((m.k) : Int) ((2) : Int) (by omega)) ?_
  refine ps_k (o_rmrest 214 1) (.bool false) ?_
  refine ps_end ?_
  refine then_n ?_
  refine sy_n (.tmp 15) (part_rmrest 430) (part_rmrest 431) ?_
  refine sy_sq (part_rmrest 862) (part_rmrest 863) ?_
  refine sy_reg ?_
  refine rg_plain 8 (opsAt (part_rmrest 862)) [0, 1] (by kernel_rfl) (by kernel_rfl) ?_
  refine ps_p (o_rmrest 862 0) (.bool true) (eqt ((m.k) : Int) ((3) : Int) (by omega)) ?_
  refine ps_k (o_rmrest 862 1) (.bool true) ?_
  refine ps_end ?_
  refine then_n ?_
  refine sy_ys (.tmp 23) (part_rmrest 1726) (part_rmrest 1727) ?_
  refine sy_sq (part_rmrest 3452) (part_rmrest 3453) ?_
  refine sy_reg ?_
  refine rg_plain 9 (opsAt (part_rmrest 3452)) [0, 1, 2, 3] (by kernel_rfl) (by kernel_rfl) ?_
  refine ps_k (o_rmrest 3452 0) (pT b 0) ?_
  refine ps_c (o_rmrest 3452 1) 44 #[pT b 0, .int .i64 0, .int .i64 31] Try.func44 ((rrN_ok b rv l s 0 31 _ h11 (by decide) (by decide)).mono ?_)
  rintro e V15 ⟨rfl, hR16, kV15⟩
  refine ⟨_, rfl, ?_⟩
  have h17 := kV15.bo h12 (by omega)
  have h18 := kV15.bo h8 (by omega)
  have K19 : Keeps (One b) w V15 := K13.then kV15 (fun i hi hm => by unfold Own.One at hm; subst hm; exact rfl)
  have z20 := kV15.size
  refine ps_k (o_rmrest 3452 2) (pT gm 2) ?_
  obtain ⟨V21, eV21, kV21⟩ := cell_step V15 gm 2 (.int .i64 (rdN l s 0 31).1)
  have h22 : V21.heap[gm]? = some (.cells (Msg.c (NF.set m ((rdN l s 0 31).1) .vl)) 35 (0, 0)) := eV21 ▸ ((heap_setCell_same _ gm 2 _ _ (.int .i64 (rdN l s 0 31).1) h17).trans (congrArg (fun c => some (Obj.cells c 35 (0, 0))) (show (Msg.c m : Array Value).setIfInBounds 2 (.int .i64 (rdN l s 0 31).1) = Msg.c (NF.set m ((rdN l s 0 31).1) .vl) from Msg.set_n hr NF.vl _)))
  refine ps_s (o_rmrest 3452 3) (w' := V21) (by rw [← eV21]; exact exec_store_cell 3 (.tmp 27) (.tmp 26) (by kernel_rfl) gm 2 (by kernel_rfl) (.int .i64 (rdN l s 0 31).1) (by kernel_rfl) (by kernel_rfl) (by kernel_rfl) (.int .i64 m.vl) (rc (h17) (Msg.get_n hr NF.vl)) (frozen_of_row _ _ _ _ _ h17) (by kernel_rfl)) ?_
  clear eV21
  have h23 := kV21.bo h18 (by omega)
  have h24 : RrAt V21 b rv l ((rdN l s 0 31).2) := hR16.keeps kV21 (by unfold Own.One; omega) (fun j hj e => by have := hov j hj; unfold Own.One at e; omega)
  have K25 := K19.no kV21 (by omega)
  have z26 := kV21.size
  refine ps_end ?_
  refine then_n ?_
  refine sy_reg ?_
  refine rg_plain 10 (opsAt (part_rmrest 3453)) [0, 1, 2, 3] (by kernel_rfl) (by kernel_rfl) ?_
  refine ps_k (o_rmrest 3453 0) (pT b 0) ?_
  refine ps_c (o_rmrest 3453 1) 66 #[pT b 0] Try.func66 ((rrU_nat b rv l ((rdN l s 0 31).2) _ h24).mono ?_)
  rintro e V27 ⟨rfl, hR28, kV27⟩
  refine ⟨_, rfl, ?_⟩
  have h29 := kV27.bo h23 (by omega)
  have h30 := kV27.bo h22 (by omega)
  have K31 : Keeps (One b) w V27 := K25.then kV27 (fun i hi hm => by unfold Own.One at hm; subst hm; exact rfl)
  have z32 := kV27.size
  refine ps_k (o_rmrest 3453 2) (pT gm 4) ?_
  obtain ⟨V33, eV33, kV33⟩ := cell_step V27 gm 4 (.int .u64 (((rdU l ((rdN l s 0 31).2)).1.toNat : Nat) : Int))
  have h34 : V33.heap[gm]? = some (.cells (Msg.c (AF.set (NF.set m ((rdN l s 0 31).1) .vl) ((rdU l ((rdN l s 0 31).2)).1.toNat) .am)) 35 (0, 0)) := eV33 ▸ ((heap_setCell_same _ gm 4 _ _ (.int .u64 (((rdU l ((rdN l s 0 31).2)).1.toNat : Nat) : Int)) h30).trans (congrArg (fun c => some (Obj.cells c 35 (0, 0))) (show (Msg.c (NF.set m ((rdN l s 0 31).1) .vl) : Array Value).setIfInBounds 4 (.int .u64 (((rdU l ((rdN l s 0 31).2)).1.toNat : Nat) : Int)) = Msg.c (AF.set (NF.set m ((rdN l s 0 31).1) .vl) ((rdU l ((rdN l s 0 31).2)).1.toNat) .am) from Msg.set_a (NF.R hr) AF.am _)))
  refine ps_s (o_rmrest 3453 3) (w' := V33) (by rw [← eV33]; exact exec_store_cell 25 (.tmp 30) (.tmp 29) (by kernel_rfl) gm 4 (by kernel_rfl) (uN ((rdU l ((rdN l s 0 31).2)).1.toNat)) (by kernel_rfl) (by kernel_rfl) (by kernel_rfl) (uN ((NF.set m ((rdN l s 0 31).1) .vl).am)) (rc (h30) (Msg.get_a (NF.R hr) AF.am)) (frozen_of_row _ _ _ _ _ h30) (by kernel_rfl)) ?_
  clear eV33
  have h35 := kV33.bo h29 (by omega)
  have h36 : RrAt V33 b rv l ((rdU l ((rdN l s 0 31).2)).2) := hR28.keeps kV33 (by unfold Own.One; omega) (fun j hj e => by have := hov j hj; unfold Own.One at e; omega)
  have K37 := K31.no kV33 (by omega)
  have z38 := kV33.size
  refine ps_end ?_
  refine blk_n ?_
  refine then_n ?_
  refine sy_sq (part_rmrest 14) (part_rmrest 15) ?_
  refine sy_reg ?_
  refine rg_plain 31 (opsAt (part_rmrest 14)) [0, 1] (by kernel_rfl) (by kernel_rfl) ?_
  refine ps_p (o_rmrest 14 0) (.agg (Msg.c (AF.set (NF.set m ((rdN l s 0 31).1) .vl) ((rdU l ((rdN l s 0 31).2)).1.toNat) .am))) (exec_load_row 35 (.tmp 3) (by kernel_rfl) gm (by kernel_rfl) _ _ (0, 0) _ (h34) Try.underlying35 rfl (by rw [Msg.c_size (AF.R (NF.R hr))]; kernel_rfl)) ?_
  obtain ⟨V39, eV39, kV39⟩ := rowset_step V33 ga ((Msg.c (AF.set (NF.set m ((rdN l s 0 31).1) .vl) ((rdU l ((rdN l s 0 31).2)).1.toNat) .am)))
  have h40 : V39.heap[ga]? = some (.cells (Msg.c (AF.set (NF.set m ((rdN l s 0 31).1) .vl) ((rdU l ((rdN l s 0 31).2)).1.toNat) .am)) 35 (0, 0)) := eV39 ▸ setRow_heap _ _ _ _ _ _ h35
  refine ps_s (o_rmrest 14 1) (w' := V39) (by rw [← eV39]; exact exec_store_row 35 (.tmp 4) (.tmp 85) (by kernel_rfl) ga ((Msg.c (AF.set (NF.set m ((rdN l s 0 31).1) .vl) ((rdU l ((rdN l s 0 31).2)).1.toNat) .am))) (by kernel_rfl) (by kernel_rfl) 35 ((Msg.c msgZ)) h35 (by rw [Msg.c_size (AF.R (NF.R hr))]; kernel_rfl) (by rw [Msg.c_size (AF.R (NF.R hr))]; exact (Msg.c_size msgZ_R).symm) (Msg.c_one _)) ?_
  clear eV39
  have h41 : RrAt V39 b rv l ((rdU l ((rdN l s 0 31).2)).2) := h36.keeps kV39 (by unfold Own.One; omega) (fun j hj e => by have := hov j hj; unfold Own.One at e; omega)
  have h42 := kV39.bo h34 (by omega)
  have K43 := K37.no kV39 (by omega)
  have z44 := kV39.size
  refine ps_end ?_
  refine then_n ?_
  refine sy_ret (by kernel_rfl) ?_
  refine sy_out (.agg (Msg.c (AF.set (NF.set m ((rdN l s 0 31).1) .vl) ((rdU l ((rdN l s 0 31).2)).1.toNat) .am))) rfl (results_cell_row (p := 4) (ty := 35) (by kernel_rfl) _ _ ga 35 (Msg.c (AF.set (NF.set m ((rdN l s 0 31).1) .vl) ((rdU l ((rdN l s 0 31).2)).1.toNat) .am)) (0, 0) _ (by kernel_rfl) h40 Try.underlying35 rfl (by rw [Msg.c_size (AF.R (NF.R hr))]; kernel_rfl)) ?_
  exact ⟨rfl, h41, K43⟩
theorem rest_3 (l : List UInt8) (m : Msg) (s : RS) : restR l 3 (m, s) = ((AF.set (NF.set m ((rdN l s 0 31).1) .vl) ((rdU l ((rdN l s 0 31).2)).1.toNat) .am), (rdU l ((rdN l s 0 31).2)).2) := by
  unfold restR; rw [if_neg (by decide)]
  show rdIt l (rdIt l (m, s) (.n .vl 0 31)) (.a .am) = _
  rw [rd_n0 _ _ _ _ _ _ (by decide)]; rfl
set_option maxRecDepth 100000 in
set_option maxHeartbeats 4000000 in
theorem rmrest_4_ (b : Nat) (rv : Value) (l : List UInt8) (s : RS) (m : Msg) (w : World) (hr : m.R) (hk : m.k = 4) (hR : RrAt w b rv l s) (hov : ∀ j, rv.ownBlock = some j → j < w.heap.size) (hl : l.length ≤ 100000000) :
    Calls Try.prog 45 #[.pointer (some ⟨b, 0, none⟩), .agg (Msg.c m)] w (fun e w' => e = .returned (.agg (Msg.c ((AF.set (putS m ((stM l s))) ((rdU l ((stF l s).2)).1.toNat) .am)))) ∧ RrAt w' b rv l ((rdU l ((stF l s).2)).2) ∧ Keeps (One b) w w') := by
  have hbl := hR.lt
  have K0 : Keeps (One b) w w := Keeps.refl _ _
  refine sy_enter (part_rmrest 1) ⟨#[pT b 0, .agg (Msg.c m), undef, undef, undef, undef, undef, undef, undef, undef, undef, undef, undef, undef, undef, undef, undef, undef, undef, undef, undef, undef, undef, undef, undef, undef, undef, undef, undef, undef, undef, undef, undef, undef, undef, undef, undef, undef, undef, undef, undef, undef, undef, undef, undef, undef, undef, undef, undef, undef, undef, undef, undef, undef, undef, undef, undef, undef, undef, undef, undef, undef, undef, undef, undef, undef, undef, undef, undef, undef, undef, undef, undef, undef, undef, undef, undef, undef, undef, undef, undef, undef, undef, undef, undef, undef], []⟩ Try.func45 (by kernel_rfl) (by kernel_rfl) ?_
  refine sy_sq (part_rmrest 2) (part_rmrest 3) ?_
  refine sy_reg ?_
  refine rg_plain 0 (opsAt (part_rmrest 2)) [0, 1] (by kernel_rfl) (by kernel_rfl) ?_
  obtain ⟨V1, eV1, gm, egm, h2, kV1⟩ := alloc_step w ((Msg.c m)) 35
  have n3 : w.heap.size ≤ gm := egm ▸ K0.size
  refine ps_r (o_rmrest 2 0) (pT gm 0) (w' := V1) (by rw [← eV1, ← egm]; exact exec_box 35 (.tmp 1) (by kernel_rfl) (.agg (Msg.c m)) (by kernel_rfl)) ?_
  clear eV1
  have h4 : RrAt V1 b rv l s := hR.keeps kV1 (fun x => x) (fun _ _ x => x)
  have K5 := K0.nn kV1
  have z6 := kV1.size
  obtain ⟨V7, eV7, ga, ega, h8, kV7⟩ := alloc_step V1 ((Msg.c msgZ)) 35
  have n9 : gm < ga := ega ▸ lt_of_block h2
  have n10 : w.heap.size ≤ ga := ega ▸ K5.size
  refine ps_r (o_rmrest 2 1) (pT ga 0) (w' := V7) (by rw [← eV7, ← ega]; exact exec_alloc0 35 (by kernel_rfl) (.agg ((Msg.c msgZ))) (by kernel_rfl)) ?_
  clear eV7
  have h11 : RrAt V7 b rv l s := h4.keeps kV7 (fun x => x) (fun _ _ x => x)
  have h12 := kV7.bk h2
  have K13 := K5.nn kV7
  have z14 := kV7.size
  refine ps_end ?_
  refine then_n ?_
  refine sy_sq (part_rmrest 6) (part_rmrest 7) ?_
  refine sy_sq (part_rmrest 12) (part_rmrest 13) ?_
  refine sy_reg ?_
  refine rg_plain 1 (opsAt (part_rmrest 12)) [0, 1] (by kernel_rfl) (by kernel_rfl) ?_
  refine ps_k (o_rmrest 12 0) (pT gm 0) ?_
  refine ps_p (o_rmrest 12 1) (.int .i64 m.k) (exec_ld 3 (.tmp 5) gm 0 Try.underlying3 (rc (h12) (Msg.get_n hr NF.k))) ?_
  refine ps_end ?_
  refine then_n ?_
  refine sy_bk 0 (part_rmrest 26) ?_
  refine sy_sq (part_rmrest 52) (part_rmrest 53) ?_
  refine sy_reg ?_
  refine rg_plain 2 (opsAt (part_rmrest 52)) [0, 1] (by kernel_rfl) (by kernel_rfl) ?_
  refine ps_p (o_rmrest 52 0) (.bool false) (eqf ((m.k) : Int) ((1) : Int) (by omega)) ?_
  refine ps_k (o_rmrest 52 1) (.bool false) ?_
  refine ps_end ?_
  refine then_n ?_
  refine sy_n (.tmp 7) (part_rmrest 106) (part_rmrest 107) ?_
  refine sy_sq (part_rmrest 214) (part_rmrest 215) ?_
  refine sy_reg ?_
  refine rg_plain 5 (opsAt (part_rmrest 214)) [0, 1] (by kernel_rfl) (by kernel_rfl) ?_
  refine ps_p (o_rmrest 214 0) (.bool false) (eqf ((m.k) : Int) ((2) : Int) (by omega)) ?_
  refine ps_k (o_rmrest 214 1) (.bool false) ?_
  refine ps_end ?_
  refine then_n ?_
  refine sy_n (.tmp 15) (part_rmrest 430) (part_rmrest 431) ?_
  refine sy_sq (part_rmrest 862) (part_rmrest 863) ?_
  refine sy_reg ?_
  refine rg_plain 8 (opsAt (part_rmrest 862)) [0, 1] (by kernel_rfl) (by kernel_rfl) ?_
  refine ps_p (o_rmrest 862 0) (.bool false) (eqf ((m.k) : Int) ((3) : Int) (by omega)) ?_
  refine ps_k (o_rmrest 862 1) (.bool false) ?_
  refine ps_end ?_
  refine then_n ?_
  refine sy_n (.tmp 23) (part_rmrest 1726) (part_rmrest 1727) ?_
  refine sy_sq (part_rmrest 3454) (part_rmrest 3455) ?_
  refine sy_reg ?_
  refine rg_plain 11 (opsAt (part_rmrest 3454)) [0, 1] (by kernel_rfl) (by kernel_rfl) ?_
  refine ps_p (o_rmrest 3454 0) (.bool true) (eqt ((m.k) : Int) ((4) : Int) (by omega)) ?_
  refine ps_k (o_rmrest 3454 1) (.bool true) ?_
  refine ps_end ?_
  refine then_n ?_
  refine sy_ys (.tmp 31) (part_rmrest 6910) (part_rmrest 6911) ?_
  refine sy_sq (part_rmrest 13820) (part_rmrest 13821) ?_
  refine sy_reg ?_
  refine rg_plain 12 (opsAt (part_rmrest 13820)) [0, 1, 2, 3] (by kernel_rfl) (by kernel_rfl) ?_
  refine ps_k (o_rmrest 13820 0) (pT b 0) ?_
  refine ps_c (o_rmrest 13820 1) 68 #[pT b 0] Try.func68 ((rmstampOf_ok b rv l s _ h11 (fun j hj => by have := hov j hj; omega)).mono ?_)
  rintro e V15 ⟨rfl, hR16, kV15⟩
  refine ⟨_, rfl, ?_⟩
  have h17 := kV15.bo h12 (by omega)
  have h18 := kV15.bo h8 (by omega)
  have K19 : Keeps (One b) w V15 := K13.then kV15 (fun i hi hm => by unfold Own.One at hm; subst hm; exact rfl)
  have z20 := kV15.size
  refine ps_k (o_rmrest 13820 2) (pT gm 6) ?_
  obtain ⟨V21, eV21⟩ : ∃ V, V15.setCells gm 6 (Msg.st ((stM l s))).toList = V := ⟨_, rfl⟩
  have kV21 : Keeps (One gm) V15 V21 := eV21 ▸ Keeps.setCells _ _ _ _
  have h22 : V21.heap[gm]? = some (.cells (Msg.c (putS m ((stM l s)))) 35 (0, 0)) := eV21 ▸ (heap_setCells gm _ _ 6 _ _ h17 (show 6 + (Msg.st ((stM l s))).toList.length ≤ _ by rw [(show (Msg.st ((stM l s))).toList.length = 4 from rfl), Msg.c_size hr]; decide)).trans (congrArg (fun c => some (Obj.cells c 35 (0, 0))) (Msg.set_S hr _))
  refine ps_s (o_rmrest 13820 3) (w' := V21) (by rw [← eV21]; exact exec_store_mid 27 (.tmp 35) (.tmp 34) (by kernel_rfl) gm 6 (by kernel_rfl) (Msg.st ((stM l s))) (by kernel_rfl) _ _ h17 (show 6 + (Msg.st ((stM l s))).toList.length ≤ _ by rw [(show (Msg.st ((stM l s))).toList.length = 4 from rfl), Msg.c_size hr]; decide) (by kernel_rfl) (by kernel_rfl)) ?_
  clear eV21
  have h23 := kV21.bo h18 (by omega)
  have h24 : RrAt V21 b rv l ((stF l s).2) := hR16.keeps kV21 (by unfold Own.One; omega) (fun j hj e => by have := hov j hj; unfold Own.One at e; omega)
  have K25 := K19.no kV21 (by omega)
  have z26 := kV21.size
  refine ps_end ?_
  refine then_n ?_
  refine sy_reg ?_
  refine rg_plain 13 (opsAt (part_rmrest 13821)) [0, 1, 2, 3] (by kernel_rfl) (by kernel_rfl) ?_
  refine ps_k (o_rmrest 13821 0) (pT b 0) ?_
  refine ps_c (o_rmrest 13821 1) 66 #[pT b 0] Try.func66 ((rrU_nat b rv l ((stF l s).2) _ h24).mono ?_)
  rintro e V27 ⟨rfl, hR28, kV27⟩
  refine ⟨_, rfl, ?_⟩
  have h29 := kV27.bo h23 (by omega)
  have h30 := kV27.bo h22 (by omega)
  have K31 : Keeps (One b) w V27 := K25.then kV27 (fun i hi hm => by unfold Own.One at hm; subst hm; exact rfl)
  have z32 := kV27.size
  refine ps_k (o_rmrest 13821 2) (pT gm 4) ?_
  obtain ⟨V33, eV33, kV33⟩ := cell_step V27 gm 4 (.int .u64 (((rdU l ((stF l s).2)).1.toNat : Nat) : Int))
  have h34 : V33.heap[gm]? = some (.cells (Msg.c (AF.set (putS m ((stM l s))) ((rdU l ((stF l s).2)).1.toNat) .am)) 35 (0, 0)) := eV33 ▸ ((heap_setCell_same _ gm 4 _ _ (.int .u64 (((rdU l ((stF l s).2)).1.toNat : Nat) : Int)) h30).trans (congrArg (fun c => some (Obj.cells c 35 (0, 0))) (show (Msg.c (putS m ((stM l s))) : Array Value).setIfInBounds 4 (.int .u64 (((rdU l ((stF l s).2)).1.toNat : Nat) : Int)) = Msg.c (AF.set (putS m ((stM l s))) ((rdU l ((stF l s).2)).1.toNat) .am) from Msg.set_a (putS_R hr) AF.am _)))
  refine ps_s (o_rmrest 13821 3) (w' := V33) (by rw [← eV33]; exact exec_store_cell 25 (.tmp 38) (.tmp 37) (by kernel_rfl) gm 4 (by kernel_rfl) (uN ((rdU l ((stF l s).2)).1.toNat)) (by kernel_rfl) (by kernel_rfl) (by kernel_rfl) (uN ((putS m ((stM l s))).am)) (rc (h30) (Msg.get_a (putS_R hr) AF.am)) (frozen_of_row _ _ _ _ _ h30) (by kernel_rfl)) ?_
  clear eV33
  have h35 := kV33.bo h29 (by omega)
  have h36 : RrAt V33 b rv l ((rdU l ((stF l s).2)).2) := hR28.keeps kV33 (by unfold Own.One; omega) (fun j hj e => by have := hov j hj; unfold Own.One at e; omega)
  have K37 := K31.no kV33 (by omega)
  have z38 := kV33.size
  refine ps_end ?_
  refine blk_n ?_
  refine then_n ?_
  refine sy_sq (part_rmrest 14) (part_rmrest 15) ?_
  refine sy_reg ?_
  refine rg_plain 31 (opsAt (part_rmrest 14)) [0, 1] (by kernel_rfl) (by kernel_rfl) ?_
  refine ps_p (o_rmrest 14 0) (.agg (Msg.c (AF.set (putS m ((stM l s))) ((rdU l ((stF l s).2)).1.toNat) .am))) (exec_load_row 35 (.tmp 3) (by kernel_rfl) gm (by kernel_rfl) _ _ (0, 0) _ (h34) Try.underlying35 rfl (by rw [Msg.c_size (AF.R (putS_R hr))]; kernel_rfl)) ?_
  obtain ⟨V39, eV39, kV39⟩ := rowset_step V33 ga ((Msg.c (AF.set (putS m ((stM l s))) ((rdU l ((stF l s).2)).1.toNat) .am)))
  have h40 : V39.heap[ga]? = some (.cells (Msg.c (AF.set (putS m ((stM l s))) ((rdU l ((stF l s).2)).1.toNat) .am)) 35 (0, 0)) := eV39 ▸ setRow_heap _ _ _ _ _ _ h35
  refine ps_s (o_rmrest 14 1) (w' := V39) (by rw [← eV39]; exact exec_store_row 35 (.tmp 4) (.tmp 85) (by kernel_rfl) ga ((Msg.c (AF.set (putS m ((stM l s))) ((rdU l ((stF l s).2)).1.toNat) .am))) (by kernel_rfl) (by kernel_rfl) 35 ((Msg.c msgZ)) h35 (by rw [Msg.c_size (AF.R (putS_R hr))]; kernel_rfl) (by rw [Msg.c_size (AF.R (putS_R hr))]; exact (Msg.c_size msgZ_R).symm) (Msg.c_one _)) ?_
  clear eV39
  have h41 : RrAt V39 b rv l ((rdU l ((stF l s).2)).2) := h36.keeps kV39 (by unfold Own.One; omega) (fun j hj e => by have := hov j hj; unfold Own.One at e; omega)
  have h42 := kV39.bo h34 (by omega)
  have K43 := K37.no kV39 (by omega)
  have z44 := kV39.size
  refine ps_end ?_
  refine then_n ?_
  refine sy_ret (by kernel_rfl) ?_
  refine sy_out (.agg (Msg.c (AF.set (putS m ((stM l s))) ((rdU l ((stF l s).2)).1.toNat) .am))) rfl (results_cell_row (p := 4) (ty := 35) (by kernel_rfl) _ _ ga 35 (Msg.c (AF.set (putS m ((stM l s))) ((rdU l ((stF l s).2)).1.toNat) .am)) (0, 0) _ (by kernel_rfl) h40 Try.underlying35 rfl (by rw [Msg.c_size (AF.R (putS_R hr))]; kernel_rfl)) ?_
  exact ⟨rfl, h41, K43⟩
theorem rest_4 (l : List UInt8) (m : Msg) (s : RS) : restR l 4 (m, s) = ((AF.set (putS m ((stM l s))) ((rdU l ((stF l s).2)).1.toNat) .am), (rdU l ((stF l s).2)).2) := by
  unfold restR; rw [if_neg (by decide)]
  show (lotM ++ ([.a .am] : List MIt)).foldl (rdIt l) (m, s) = _
  rw [List.foldl_append]
  rw [lot_rd]; rfl
set_option maxRecDepth 100000 in
set_option maxHeartbeats 4000000 in
theorem rmrest_5_ (b : Nat) (rv : Value) (l : List UInt8) (s : RS) (m : Msg) (w : World) (hr : m.R) (hk : m.k = 5) (hR : RrAt w b rv l s) (hov : ∀ j, rv.ownBlock = some j → j < w.heap.size) (hl : l.length ≤ 100000000) :
    Calls Try.prog 45 #[.pointer (some ⟨b, 0, none⟩), .agg (Msg.c m)] w (fun e w' => e = .returned (.agg (Msg.c ((NF.set (AF.set (putS m ((stM l s))) ((rdU l ((stF l s).2)).1.toNat) .am) ((rdN l ((rdU l ((stF l s).2)).2) 0 31).1) .t)))) ∧ RrAt w' b rv l ((rdN l ((rdU l ((stF l s).2)).2) 0 31).2) ∧ Keeps (One b) w w') := by
  have hbl := hR.lt
  have K0 : Keeps (One b) w w := Keeps.refl _ _
  refine sy_enter (part_rmrest 1) ⟨#[pT b 0, .agg (Msg.c m), undef, undef, undef, undef, undef, undef, undef, undef, undef, undef, undef, undef, undef, undef, undef, undef, undef, undef, undef, undef, undef, undef, undef, undef, undef, undef, undef, undef, undef, undef, undef, undef, undef, undef, undef, undef, undef, undef, undef, undef, undef, undef, undef, undef, undef, undef, undef, undef, undef, undef, undef, undef, undef, undef, undef, undef, undef, undef, undef, undef, undef, undef, undef, undef, undef, undef, undef, undef, undef, undef, undef, undef, undef, undef, undef, undef, undef, undef, undef, undef, undef, undef, undef, undef], []⟩ Try.func45 (by kernel_rfl) (by kernel_rfl) ?_
  refine sy_sq (part_rmrest 2) (part_rmrest 3) ?_
  refine sy_reg ?_
  refine rg_plain 0 (opsAt (part_rmrest 2)) [0, 1] (by kernel_rfl) (by kernel_rfl) ?_
  obtain ⟨V1, eV1, gm, egm, h2, kV1⟩ := alloc_step w ((Msg.c m)) 35
  have n3 : w.heap.size ≤ gm := egm ▸ K0.size
  refine ps_r (o_rmrest 2 0) (pT gm 0) (w' := V1) (by rw [← eV1, ← egm]; exact exec_box 35 (.tmp 1) (by kernel_rfl) (.agg (Msg.c m)) (by kernel_rfl)) ?_
  clear eV1
  have h4 : RrAt V1 b rv l s := hR.keeps kV1 (fun x => x) (fun _ _ x => x)
  have K5 := K0.nn kV1
  have z6 := kV1.size
  obtain ⟨V7, eV7, ga, ega, h8, kV7⟩ := alloc_step V1 ((Msg.c msgZ)) 35
  have n9 : gm < ga := ega ▸ lt_of_block h2
  have n10 : w.heap.size ≤ ga := ega ▸ K5.size
  refine ps_r (o_rmrest 2 1) (pT ga 0) (w' := V7) (by rw [← eV7, ← ega]; exact exec_alloc0 35 (by kernel_rfl) (.agg ((Msg.c msgZ))) (by kernel_rfl)) ?_
  clear eV7
  have h11 : RrAt V7 b rv l s := h4.keeps kV7 (fun x => x) (fun _ _ x => x)
  have h12 := kV7.bk h2
  have K13 := K5.nn kV7
  have z14 := kV7.size
  refine ps_end ?_
  refine then_n ?_
  refine sy_sq (part_rmrest 6) (part_rmrest 7) ?_
  refine sy_sq (part_rmrest 12) (part_rmrest 13) ?_
  refine sy_reg ?_
  refine rg_plain 1 (opsAt (part_rmrest 12)) [0, 1] (by kernel_rfl) (by kernel_rfl) ?_
  refine ps_k (o_rmrest 12 0) (pT gm 0) ?_
  refine ps_p (o_rmrest 12 1) (.int .i64 m.k) (exec_ld 3 (.tmp 5) gm 0 Try.underlying3 (rc (h12) (Msg.get_n hr NF.k))) ?_
  refine ps_end ?_
  refine then_n ?_
  refine sy_bk 0 (part_rmrest 26) ?_
  refine sy_sq (part_rmrest 52) (part_rmrest 53) ?_
  refine sy_reg ?_
  refine rg_plain 2 (opsAt (part_rmrest 52)) [0, 1] (by kernel_rfl) (by kernel_rfl) ?_
  refine ps_p (o_rmrest 52 0) (.bool false) (eqf ((m.k) : Int) ((1) : Int) (by omega)) ?_
  refine ps_k (o_rmrest 52 1) (.bool false) ?_
  refine ps_end ?_
  refine then_n ?_
  refine sy_n (.tmp 7) (part_rmrest 106) (part_rmrest 107) ?_
  refine sy_sq (part_rmrest 214) (part_rmrest 215) ?_
  refine sy_reg ?_
  refine rg_plain 5 (opsAt (part_rmrest 214)) [0, 1] (by kernel_rfl) (by kernel_rfl) ?_
  refine ps_p (o_rmrest 214 0) (.bool false) (eqf ((m.k) : Int) ((2) : Int) (by omega)) ?_
  refine ps_k (o_rmrest 214 1) (.bool false) ?_
  refine ps_end ?_
  refine then_n ?_
  refine sy_n (.tmp 15) (part_rmrest 430) (part_rmrest 431) ?_
  refine sy_sq (part_rmrest 862) (part_rmrest 863) ?_
  refine sy_reg ?_
  refine rg_plain 8 (opsAt (part_rmrest 862)) [0, 1] (by kernel_rfl) (by kernel_rfl) ?_
  refine ps_p (o_rmrest 862 0) (.bool false) (eqf ((m.k) : Int) ((3) : Int) (by omega)) ?_
  refine ps_k (o_rmrest 862 1) (.bool false) ?_
  refine ps_end ?_
  refine then_n ?_
  refine sy_n (.tmp 23) (part_rmrest 1726) (part_rmrest 1727) ?_
  refine sy_sq (part_rmrest 3454) (part_rmrest 3455) ?_
  refine sy_reg ?_
  refine rg_plain 11 (opsAt (part_rmrest 3454)) [0, 1] (by kernel_rfl) (by kernel_rfl) ?_
  refine ps_p (o_rmrest 3454 0) (.bool false) (eqf ((m.k) : Int) ((4) : Int) (by omega)) ?_
  refine ps_k (o_rmrest 3454 1) (.bool false) ?_
  refine ps_end ?_
  refine then_n ?_
  refine sy_n (.tmp 31) (part_rmrest 6910) (part_rmrest 6911) ?_
  refine sy_sq (part_rmrest 13822) (part_rmrest 13823) ?_
  refine sy_reg ?_
  refine rg_plain 14 (opsAt (part_rmrest 13822)) [0, 1] (by kernel_rfl) (by kernel_rfl) ?_
  refine ps_p (o_rmrest 13822 0) (.bool true) (eqt ((m.k) : Int) ((5) : Int) (by omega)) ?_
  refine ps_k (o_rmrest 13822 1) (.bool true) ?_
  refine ps_end ?_
  refine then_n ?_
  refine sy_ys (.tmp 39) (part_rmrest 27646) (part_rmrest 27647) ?_
  refine sy_sq (part_rmrest 55292) (part_rmrest 55293) ?_
  refine sy_reg ?_
  refine rg_plain 15 (opsAt (part_rmrest 55292)) [0, 1, 2, 3] (by kernel_rfl) (by kernel_rfl) ?_
  refine ps_k (o_rmrest 55292 0) (pT b 0) ?_
  refine ps_c (o_rmrest 55292 1) 68 #[pT b 0] Try.func68 ((rmstampOf_ok b rv l s _ h11 (fun j hj => by have := hov j hj; omega)).mono ?_)
  rintro e V15 ⟨rfl, hR16, kV15⟩
  refine ⟨_, rfl, ?_⟩
  have h17 := kV15.bo h12 (by omega)
  have h18 := kV15.bo h8 (by omega)
  have K19 : Keeps (One b) w V15 := K13.then kV15 (fun i hi hm => by unfold Own.One at hm; subst hm; exact rfl)
  have z20 := kV15.size
  refine ps_k (o_rmrest 55292 2) (pT gm 6) ?_
  obtain ⟨V21, eV21⟩ : ∃ V, V15.setCells gm 6 (Msg.st ((stM l s))).toList = V := ⟨_, rfl⟩
  have kV21 : Keeps (One gm) V15 V21 := eV21 ▸ Keeps.setCells _ _ _ _
  have h22 : V21.heap[gm]? = some (.cells (Msg.c (putS m ((stM l s)))) 35 (0, 0)) := eV21 ▸ (heap_setCells gm _ _ 6 _ _ h17 (show 6 + (Msg.st ((stM l s))).toList.length ≤ _ by rw [(show (Msg.st ((stM l s))).toList.length = 4 from rfl), Msg.c_size hr]; decide)).trans (congrArg (fun c => some (Obj.cells c 35 (0, 0))) (Msg.set_S hr _))
  refine ps_s (o_rmrest 55292 3) (w' := V21) (by rw [← eV21]; exact exec_store_mid 27 (.tmp 43) (.tmp 42) (by kernel_rfl) gm 6 (by kernel_rfl) (Msg.st ((stM l s))) (by kernel_rfl) _ _ h17 (show 6 + (Msg.st ((stM l s))).toList.length ≤ _ by rw [(show (Msg.st ((stM l s))).toList.length = 4 from rfl), Msg.c_size hr]; decide) (by kernel_rfl) (by kernel_rfl)) ?_
  clear eV21
  have h23 := kV21.bo h18 (by omega)
  have h24 : RrAt V21 b rv l ((stF l s).2) := hR16.keeps kV21 (by unfold Own.One; omega) (fun j hj e => by have := hov j hj; unfold Own.One at e; omega)
  have K25 := K19.no kV21 (by omega)
  have z26 := kV21.size
  refine ps_end ?_
  refine then_n ?_
  refine sy_sq (part_rmrest 110586) (part_rmrest 110587) ?_
  refine sy_reg ?_
  refine rg_plain 16 (opsAt (part_rmrest 110586)) [0, 1, 2, 3] (by kernel_rfl) (by kernel_rfl) ?_
  refine ps_k (o_rmrest 110586 0) (pT b 0) ?_
  refine ps_c (o_rmrest 110586 1) 66 #[pT b 0] Try.func66 ((rrU_nat b rv l ((stF l s).2) _ h24).mono ?_)
  rintro e V27 ⟨rfl, hR28, kV27⟩
  refine ⟨_, rfl, ?_⟩
  have h29 := kV27.bo h23 (by omega)
  have h30 := kV27.bo h22 (by omega)
  have K31 : Keeps (One b) w V27 := K25.then kV27 (fun i hi hm => by unfold Own.One at hm; subst hm; exact rfl)
  have z32 := kV27.size
  refine ps_k (o_rmrest 110586 2) (pT gm 4) ?_
  obtain ⟨V33, eV33, kV33⟩ := cell_step V27 gm 4 (.int .u64 (((rdU l ((stF l s).2)).1.toNat : Nat) : Int))
  have h34 : V33.heap[gm]? = some (.cells (Msg.c (AF.set (putS m ((stM l s))) ((rdU l ((stF l s).2)).1.toNat) .am)) 35 (0, 0)) := eV33 ▸ ((heap_setCell_same _ gm 4 _ _ (.int .u64 (((rdU l ((stF l s).2)).1.toNat : Nat) : Int)) h30).trans (congrArg (fun c => some (Obj.cells c 35 (0, 0))) (show (Msg.c (putS m ((stM l s))) : Array Value).setIfInBounds 4 (.int .u64 (((rdU l ((stF l s).2)).1.toNat : Nat) : Int)) = Msg.c (AF.set (putS m ((stM l s))) ((rdU l ((stF l s).2)).1.toNat) .am) from Msg.set_a (putS_R hr) AF.am _)))
  refine ps_s (o_rmrest 110586 3) (w' := V33) (by rw [← eV33]; exact exec_store_cell 25 (.tmp 46) (.tmp 45) (by kernel_rfl) gm 4 (by kernel_rfl) (uN ((rdU l ((stF l s).2)).1.toNat)) (by kernel_rfl) (by kernel_rfl) (by kernel_rfl) (uN ((putS m ((stM l s))).am)) (rc (h30) (Msg.get_a (putS_R hr) AF.am)) (frozen_of_row _ _ _ _ _ h30) (by kernel_rfl)) ?_
  clear eV33
  have h35 := kV33.bo h29 (by omega)
  have h36 : RrAt V33 b rv l ((rdU l ((stF l s).2)).2) := hR28.keeps kV33 (by unfold Own.One; omega) (fun j hj e => by have := hov j hj; unfold Own.One at e; omega)
  have K37 := K31.no kV33 (by omega)
  have z38 := kV33.size
  refine ps_end ?_
  refine then_n ?_
  refine sy_reg ?_
  refine rg_plain 17 (opsAt (part_rmrest 110587)) [0, 1, 2, 3] (by kernel_rfl) (by kernel_rfl) ?_
  refine ps_k (o_rmrest 110587 0) (pT b 0) ?_
  refine ps_c (o_rmrest 110587 1) 44 #[pT b 0, .int .i64 0, .int .i64 31] Try.func44 ((rrN_ok b rv l ((rdU l ((stF l s).2)).2) 0 31 _ h36 (by decide) (by decide)).mono ?_)
  rintro e V39 ⟨rfl, hR40, kV39⟩
  refine ⟨_, rfl, ?_⟩
  have h41 := kV39.bo h35 (by omega)
  have h42 := kV39.bo h34 (by omega)
  have K43 : Keeps (One b) w V39 := K37.then kV39 (fun i hi hm => by unfold Own.One at hm; subst hm; exact rfl)
  have z44 := kV39.size
  refine ps_k (o_rmrest 110587 2) (pT gm 3) ?_
  obtain ⟨V45, eV45, kV45⟩ := cell_step V39 gm 3 (.int .i64 (rdN l ((rdU l ((stF l s).2)).2) 0 31).1)
  have h46 : V45.heap[gm]? = some (.cells (Msg.c (NF.set (AF.set (putS m ((stM l s))) ((rdU l ((stF l s).2)).1.toNat) .am) ((rdN l ((rdU l ((stF l s).2)).2) 0 31).1) .t)) 35 (0, 0)) := eV45 ▸ ((heap_setCell_same _ gm 3 _ _ (.int .i64 (rdN l ((rdU l ((stF l s).2)).2) 0 31).1) h42).trans (congrArg (fun c => some (Obj.cells c 35 (0, 0))) (show (Msg.c (AF.set (putS m ((stM l s))) ((rdU l ((stF l s).2)).1.toNat) .am) : Array Value).setIfInBounds 3 (.int .i64 (rdN l ((rdU l ((stF l s).2)).2) 0 31).1) = Msg.c (NF.set (AF.set (putS m ((stM l s))) ((rdU l ((stF l s).2)).1.toNat) .am) ((rdN l ((rdU l ((stF l s).2)).2) 0 31).1) .t) from Msg.set_n (AF.R (putS_R hr)) NF.t _)))
  refine ps_s (o_rmrest 110587 3) (w' := V45) (by rw [← eV45]; exact exec_store_cell 3 (.tmp 49) (.tmp 48) (by kernel_rfl) gm 3 (by kernel_rfl) (.int .i64 (rdN l ((rdU l ((stF l s).2)).2) 0 31).1) (by kernel_rfl) (by kernel_rfl) (by kernel_rfl) (.int .i64 ((AF.set (putS m ((stM l s))) ((rdU l ((stF l s).2)).1.toNat) .am).t)) (rc (h42) (Msg.get_n (AF.R (putS_R hr)) NF.t)) (frozen_of_row _ _ _ _ _ h42) (by kernel_rfl)) ?_
  clear eV45
  have h47 := kV45.bo h41 (by omega)
  have h48 : RrAt V45 b rv l ((rdN l ((rdU l ((stF l s).2)).2) 0 31).2) := hR40.keeps kV45 (by unfold Own.One; omega) (fun j hj e => by have := hov j hj; unfold Own.One at e; omega)
  have K49 := K43.no kV45 (by omega)
  have z50 := kV45.size
  refine ps_end ?_
  refine sy_a ⟨#[pT b 0, .agg (Msg.c m), undef, pT gm 0, pT ga 0, pT gm 0, .int .i64 m.k, .bool false, .bool false, undef, undef, undef, undef, undef, undef, .bool false, .bool false, undef, undef, undef, undef, undef, undef, .bool false, .bool false, undef, undef, undef, undef, undef, undef, .bool false, .bool false, undef, undef, undef, undef, undef, undef, .bool true, .bool true, pT b 0, .agg (Msg.st (stM l s)), pT gm 6, pT b 0, uN ((rdU l ((stF l s).2)).1.toNat), pT gm 4, pT b 0, .int .i64 (rdN l ((rdU l ((stF l s).2)).2) 0 31).1, pT gm 3, undef, undef, undef, undef, undef, undef, undef, undef, undef, undef, undef, undef, undef, undef, undef, undef, undef, undef, undef, undef, undef, undef, undef, undef, undef, undef, undef, undef, undef, undef, undef, undef, undef, undef, undef, undef], []⟩ ?_
  refine blk_n ?_
  refine then_n ?_
  refine sy_sq (part_rmrest 14) (part_rmrest 15) ?_
  refine sy_reg ?_
  refine rg_plain 31 (opsAt (part_rmrest 14)) [0, 1] (by kernel_rfl) (by kernel_rfl) ?_
  refine ps_p (o_rmrest 14 0) (.agg (Msg.c (NF.set (AF.set (putS m ((stM l s))) ((rdU l ((stF l s).2)).1.toNat) .am) ((rdN l ((rdU l ((stF l s).2)).2) 0 31).1) .t))) (exec_load_row 35 (.tmp 3) (by kernel_rfl) gm (by kernel_rfl) _ _ (0, 0) _ (h46) Try.underlying35 rfl (by rw [Msg.c_size (NF.R (AF.R (putS_R hr)))]; kernel_rfl)) ?_
  obtain ⟨V51, eV51, kV51⟩ := rowset_step V45 ga ((Msg.c (NF.set (AF.set (putS m ((stM l s))) ((rdU l ((stF l s).2)).1.toNat) .am) ((rdN l ((rdU l ((stF l s).2)).2) 0 31).1) .t)))
  have h52 : V51.heap[ga]? = some (.cells (Msg.c (NF.set (AF.set (putS m ((stM l s))) ((rdU l ((stF l s).2)).1.toNat) .am) ((rdN l ((rdU l ((stF l s).2)).2) 0 31).1) .t)) 35 (0, 0)) := eV51 ▸ setRow_heap _ _ _ _ _ _ h47
  refine ps_s (o_rmrest 14 1) (w' := V51) (by rw [← eV51]; exact exec_store_row 35 (.tmp 4) (.tmp 85) (by kernel_rfl) ga ((Msg.c (NF.set (AF.set (putS m ((stM l s))) ((rdU l ((stF l s).2)).1.toNat) .am) ((rdN l ((rdU l ((stF l s).2)).2) 0 31).1) .t))) (by kernel_rfl) (by kernel_rfl) 35 ((Msg.c msgZ)) h47 (by rw [Msg.c_size (NF.R (AF.R (putS_R hr)))]; kernel_rfl) (by rw [Msg.c_size (NF.R (AF.R (putS_R hr)))]; exact (Msg.c_size msgZ_R).symm) (Msg.c_one _)) ?_
  clear eV51
  have h53 : RrAt V51 b rv l ((rdN l ((rdU l ((stF l s).2)).2) 0 31).2) := h48.keeps kV51 (by unfold Own.One; omega) (fun j hj e => by have := hov j hj; unfold Own.One at e; omega)
  have h54 := kV51.bo h46 (by omega)
  have K55 := K49.no kV51 (by omega)
  have z56 := kV51.size
  refine ps_end ?_
  refine then_n ?_
  refine sy_ret (by kernel_rfl) ?_
  refine sy_out (.agg (Msg.c (NF.set (AF.set (putS m ((stM l s))) ((rdU l ((stF l s).2)).1.toNat) .am) ((rdN l ((rdU l ((stF l s).2)).2) 0 31).1) .t))) rfl (results_cell_row (p := 4) (ty := 35) (by kernel_rfl) _ _ ga 35 (Msg.c (NF.set (AF.set (putS m ((stM l s))) ((rdU l ((stF l s).2)).1.toNat) .am) ((rdN l ((rdU l ((stF l s).2)).2) 0 31).1) .t)) (0, 0) _ (by kernel_rfl) h52 Try.underlying35 rfl (by rw [Msg.c_size (NF.R (AF.R (putS_R hr)))]; kernel_rfl)) ?_
  exact ⟨rfl, h53, K55⟩
theorem rest_5 (l : List UInt8) (m : Msg) (s : RS) : restR l 5 (m, s) = ((NF.set (AF.set (putS m ((stM l s))) ((rdU l ((stF l s).2)).1.toNat) .am) ((rdN l ((rdU l ((stF l s).2)).2) 0 31).1) .t), (rdN l ((rdU l ((stF l s).2)).2) 0 31).2) := by
  unfold restR; rw [if_neg (by decide)]
  show (lotM ++ ([.a .am, .n .t 0 31] : List MIt)).foldl (rdIt l) (m, s) = _
  rw [List.foldl_append]
  rw [lot_rd]; simp only [List.foldl_cons, List.foldl_nil]; rw [show ∀ ms : Msg × RS, rdIt l ms (.a .am) = (AF.set ms.1 (rdU l ms.2).1.toNat .am, (rdU l ms.2).2) from fun _ => rfl, rd_n0 _ _ _ _ _ _ (by decide)]
set_option maxRecDepth 100000 in
set_option maxHeartbeats 4000000 in
theorem rmrest_6_ (b : Nat) (rv : Value) (l : List UInt8) (s : RS) (m : Msg) (w : World) (hr : m.R) (hk : m.k = 6) (hR : RrAt w b rv l s) (hov : ∀ j, rv.ownBlock = some j → j < w.heap.size) (hl : l.length ≤ 100000000) :
    Calls Try.prog 45 #[.pointer (some ⟨b, 0, none⟩), .agg (Msg.c m)] w (fun e w' => e = .returned (.agg (Msg.c ((putA m ((attM l s)))))) ∧ RrAt w' b rv l ((atG l s).2) ∧ Keeps (One b) w w') := by
  have hbl := hR.lt
  have K0 : Keeps (One b) w w := Keeps.refl _ _
  refine sy_enter (part_rmrest 1) ⟨#[pT b 0, .agg (Msg.c m), undef, undef, undef, undef, undef, undef, undef, undef, undef, undef, undef, undef, undef, undef, undef, undef, undef, undef, undef, undef, undef, undef, undef, undef, undef, undef, undef, undef, undef, undef, undef, undef, undef, undef, undef, undef, undef, undef, undef, undef, undef, undef, undef, undef, undef, undef, undef, undef, undef, undef, undef, undef, undef, undef, undef, undef, undef, undef, undef, undef, undef, undef, undef, undef, undef, undef, undef, undef, undef, undef, undef, undef, undef, undef, undef, undef, undef, undef, undef, undef, undef, undef, undef, undef], []⟩ Try.func45 (by kernel_rfl) (by kernel_rfl) ?_
  refine sy_sq (part_rmrest 2) (part_rmrest 3) ?_
  refine sy_reg ?_
  refine rg_plain 0 (opsAt (part_rmrest 2)) [0, 1] (by kernel_rfl) (by kernel_rfl) ?_
  obtain ⟨V1, eV1, gm, egm, h2, kV1⟩ := alloc_step w ((Msg.c m)) 35
  have n3 : w.heap.size ≤ gm := egm ▸ K0.size
  refine ps_r (o_rmrest 2 0) (pT gm 0) (w' := V1) (by rw [← eV1, ← egm]; exact exec_box 35 (.tmp 1) (by kernel_rfl) (.agg (Msg.c m)) (by kernel_rfl)) ?_
  clear eV1
  have h4 : RrAt V1 b rv l s := hR.keeps kV1 (fun x => x) (fun _ _ x => x)
  have K5 := K0.nn kV1
  have z6 := kV1.size
  obtain ⟨V7, eV7, ga, ega, h8, kV7⟩ := alloc_step V1 ((Msg.c msgZ)) 35
  have n9 : gm < ga := ega ▸ lt_of_block h2
  have n10 : w.heap.size ≤ ga := ega ▸ K5.size
  refine ps_r (o_rmrest 2 1) (pT ga 0) (w' := V7) (by rw [← eV7, ← ega]; exact exec_alloc0 35 (by kernel_rfl) (.agg ((Msg.c msgZ))) (by kernel_rfl)) ?_
  clear eV7
  have h11 : RrAt V7 b rv l s := h4.keeps kV7 (fun x => x) (fun _ _ x => x)
  have h12 := kV7.bk h2
  have K13 := K5.nn kV7
  have z14 := kV7.size
  refine ps_end ?_
  refine then_n ?_
  refine sy_sq (part_rmrest 6) (part_rmrest 7) ?_
  refine sy_sq (part_rmrest 12) (part_rmrest 13) ?_
  refine sy_reg ?_
  refine rg_plain 1 (opsAt (part_rmrest 12)) [0, 1] (by kernel_rfl) (by kernel_rfl) ?_
  refine ps_k (o_rmrest 12 0) (pT gm 0) ?_
  refine ps_p (o_rmrest 12 1) (.int .i64 m.k) (exec_ld 3 (.tmp 5) gm 0 Try.underlying3 (rc (h12) (Msg.get_n hr NF.k))) ?_
  refine ps_end ?_
  refine then_n ?_
  refine sy_bk 0 (part_rmrest 26) ?_
  refine sy_sq (part_rmrest 52) (part_rmrest 53) ?_
  refine sy_reg ?_
  refine rg_plain 2 (opsAt (part_rmrest 52)) [0, 1] (by kernel_rfl) (by kernel_rfl) ?_
  refine ps_p (o_rmrest 52 0) (.bool false) (eqf ((m.k) : Int) ((1) : Int) (by omega)) ?_
  refine ps_k (o_rmrest 52 1) (.bool false) ?_
  refine ps_end ?_
  refine then_n ?_
  refine sy_n (.tmp 7) (part_rmrest 106) (part_rmrest 107) ?_
  refine sy_sq (part_rmrest 214) (part_rmrest 215) ?_
  refine sy_reg ?_
  refine rg_plain 5 (opsAt (part_rmrest 214)) [0, 1] (by kernel_rfl) (by kernel_rfl) ?_
  refine ps_p (o_rmrest 214 0) (.bool false) (eqf ((m.k) : Int) ((2) : Int) (by omega)) ?_
  refine ps_k (o_rmrest 214 1) (.bool false) ?_
  refine ps_end ?_
  refine then_n ?_
  refine sy_n (.tmp 15) (part_rmrest 430) (part_rmrest 431) ?_
  refine sy_sq (part_rmrest 862) (part_rmrest 863) ?_
  refine sy_reg ?_
  refine rg_plain 8 (opsAt (part_rmrest 862)) [0, 1] (by kernel_rfl) (by kernel_rfl) ?_
  refine ps_p (o_rmrest 862 0) (.bool false) (eqf ((m.k) : Int) ((3) : Int) (by omega)) ?_
  refine ps_k (o_rmrest 862 1) (.bool false) ?_
  refine ps_end ?_
  refine then_n ?_
  refine sy_n (.tmp 23) (part_rmrest 1726) (part_rmrest 1727) ?_
  refine sy_sq (part_rmrest 3454) (part_rmrest 3455) ?_
  refine sy_reg ?_
  refine rg_plain 11 (opsAt (part_rmrest 3454)) [0, 1] (by kernel_rfl) (by kernel_rfl) ?_
  refine ps_p (o_rmrest 3454 0) (.bool false) (eqf ((m.k) : Int) ((4) : Int) (by omega)) ?_
  refine ps_k (o_rmrest 3454 1) (.bool false) ?_
  refine ps_end ?_
  refine then_n ?_
  refine sy_n (.tmp 31) (part_rmrest 6910) (part_rmrest 6911) ?_
  refine sy_sq (part_rmrest 13822) (part_rmrest 13823) ?_
  refine sy_reg ?_
  refine rg_plain 14 (opsAt (part_rmrest 13822)) [0, 1] (by kernel_rfl) (by kernel_rfl) ?_
  refine ps_p (o_rmrest 13822 0) (.bool false) (eqf ((m.k) : Int) ((5) : Int) (by omega)) ?_
  refine ps_k (o_rmrest 13822 1) (.bool false) ?_
  refine ps_end ?_
  refine then_n ?_
  refine sy_n (.tmp 39) (part_rmrest 27646) (part_rmrest 27647) ?_
  refine sy_sq (part_rmrest 55294) (part_rmrest 55295) ?_
  refine sy_reg ?_
  refine rg_plain 18 (opsAt (part_rmrest 55294)) [0, 1] (by kernel_rfl) (by kernel_rfl) ?_
  refine ps_p (o_rmrest 55294 0) (.bool true) (eqt ((m.k) : Int) ((6) : Int) (by omega)) ?_
  refine ps_k (o_rmrest 55294 1) (.bool true) ?_
  refine ps_end ?_
  refine then_n ?_
  refine sy_ys (.tmp 50) (part_rmrest 110590) (part_rmrest 110591) ?_
  refine sy_reg ?_
  refine rg_plain 19 (opsAt (part_rmrest 110590)) [0, 1, 2, 3] (by kernel_rfl) (by kernel_rfl) ?_
  refine ps_k (o_rmrest 110590 0) (pT b 0) ?_
  refine ps_c (o_rmrest 110590 1) 69 #[pT b 0] Try.func69 ((rmattestation_ok b rv l s _ h11 (fun j hj => by have := hov j hj; omega) hl).mono ?_)
  rintro e V15 ⟨rfl, hR16, kV15⟩
  refine ⟨_, rfl, ?_⟩
  have h17 := kV15.bo h12 (by omega)
  have h18 := kV15.bo h8 (by omega)
  have K19 : Keeps (One b) w V15 := K13.then kV15 (fun i hi hm => by unfold Own.One at hm; subst hm; exact rfl)
  have z20 := kV15.size
  refine ps_k (o_rmrest 110590 2) (pT gm 12) ?_
  obtain ⟨V21, eV21⟩ : ∃ V, V15.setCells gm 12 (Att.c ((attM l s))).toList = V := ⟨_, rfl⟩
  have kV21 : Keeps (One gm) V15 V21 := eV21 ▸ Keeps.setCells _ _ _ _
  have h22 : V21.heap[gm]? = some (.cells (Msg.c (putA m ((attM l s)))) 35 (0, 0)) := eV21 ▸ (heap_setCells gm _ _ 12 _ _ h17 (show 12 + (Att.c ((attM l s))).toList.length ≤ _ by rw [(show (Att.c ((attM l s))).toList.length = 36 from Att.tl (attM_len _ _)), Msg.c_size hr]; decide)).trans (congrArg (fun c => some (Obj.cells c 35 (0, 0))) (Msg.set_A hr _ (attM_len _ _)))
  refine ps_s (o_rmrest 110590 3) (w' := V21) (by rw [← eV21]; exact exec_store_mid 31 (.tmp 54) (.tmp 53) (by kernel_rfl) gm 12 (by kernel_rfl) (Att.c ((attM l s))) (by kernel_rfl) _ _ h17 (show 12 + (Att.c ((attM l s))).toList.length ≤ _ by rw [(show (Att.c ((attM l s))).toList.length = 36 from Att.tl (attM_len _ _)), Msg.c_size hr]; decide) (by rw [Att.c_size _ (attM_len _ _)]; kernel_rfl) (Att.c_one _)) ?_
  clear eV21
  have h23 := kV21.bo h18 (by omega)
  have h24 : RrAt V21 b rv l ((atG l s).2) := hR16.keeps kV21 (by unfold Own.One; omega) (fun j hj e => by have := hov j hj; unfold Own.One at e; omega)
  have K25 := K19.no kV21 (by omega)
  have z26 := kV21.size
  refine ps_end ?_
  refine blk_n ?_
  refine then_n ?_
  refine sy_sq (part_rmrest 14) (part_rmrest 15) ?_
  refine sy_reg ?_
  refine rg_plain 31 (opsAt (part_rmrest 14)) [0, 1] (by kernel_rfl) (by kernel_rfl) ?_
  refine ps_p (o_rmrest 14 0) (.agg (Msg.c (putA m ((attM l s))))) (exec_load_row 35 (.tmp 3) (by kernel_rfl) gm (by kernel_rfl) _ _ (0, 0) _ (h22) Try.underlying35 rfl (by rw [Msg.c_size (putA_R hr (attM_len _ _))]; kernel_rfl)) ?_
  obtain ⟨V27, eV27, kV27⟩ := rowset_step V21 ga ((Msg.c (putA m ((attM l s)))))
  have h28 : V27.heap[ga]? = some (.cells (Msg.c (putA m ((attM l s)))) 35 (0, 0)) := eV27 ▸ setRow_heap _ _ _ _ _ _ h23
  refine ps_s (o_rmrest 14 1) (w' := V27) (by rw [← eV27]; exact exec_store_row 35 (.tmp 4) (.tmp 85) (by kernel_rfl) ga ((Msg.c (putA m ((attM l s))))) (by kernel_rfl) (by kernel_rfl) 35 ((Msg.c msgZ)) h23 (by rw [Msg.c_size (putA_R hr (attM_len _ _))]; kernel_rfl) (by rw [Msg.c_size (putA_R hr (attM_len _ _))]; exact (Msg.c_size msgZ_R).symm) (Msg.c_one _)) ?_
  clear eV27
  have h29 : RrAt V27 b rv l ((atG l s).2) := h24.keeps kV27 (by unfold Own.One; omega) (fun j hj e => by have := hov j hj; unfold Own.One at e; omega)
  have h30 := kV27.bo h22 (by omega)
  have K31 := K25.no kV27 (by omega)
  have z32 := kV27.size
  refine ps_end ?_
  refine then_n ?_
  refine sy_ret (by kernel_rfl) ?_
  refine sy_out (.agg (Msg.c (putA m ((attM l s))))) rfl (results_cell_row (p := 4) (ty := 35) (by kernel_rfl) _ _ ga 35 (Msg.c (putA m ((attM l s)))) (0, 0) _ (by kernel_rfl) h28 Try.underlying35 rfl (by rw [Msg.c_size (putA_R hr (attM_len _ _))]; kernel_rfl)) ?_
  exact ⟨rfl, h29, K31⟩
theorem rest_6 (l : List UInt8) (m : Msg) (s : RS) : restR l 6 (m, s) = ((putA m ((attM l s))), (atG l s).2) := by
  unfold restR; rw [if_neg (by decide)]
  show (voteM .av .as_ .at_ .ar .ag).foldl (rdIt l) (m, s) = _
  rw [att_rd]
set_option maxRecDepth 100000 in
set_option maxHeartbeats 4000000 in
theorem rmrest_7_ (b : Nat) (rv : Value) (l : List UInt8) (s : RS) (m : Msg) (w : World) (hr : m.R) (hk : m.k = 7) (hR : RrAt w b rv l s) (hov : ∀ j, rv.ownBlock = some j → j < w.heap.size) (hl : l.length ≤ 100000000) :
    Calls Try.prog 45 #[.pointer (some ⟨b, 0, none⟩), .agg (Msg.c m)] w (fun e w' => e = .returned (.agg (Msg.c ((putP m ((proM l s)))))) ∧ RrAt w' b rv l ((prG l s).2) ∧ Keeps (One b) w w') := by
  have hbl := hR.lt
  have K0 : Keeps (One b) w w := Keeps.refl _ _
  refine sy_enter (part_rmrest 1) ⟨#[pT b 0, .agg (Msg.c m), undef, undef, undef, undef, undef, undef, undef, undef, undef, undef, undef, undef, undef, undef, undef, undef, undef, undef, undef, undef, undef, undef, undef, undef, undef, undef, undef, undef, undef, undef, undef, undef, undef, undef, undef, undef, undef, undef, undef, undef, undef, undef, undef, undef, undef, undef, undef, undef, undef, undef, undef, undef, undef, undef, undef, undef, undef, undef, undef, undef, undef, undef, undef, undef, undef, undef, undef, undef, undef, undef, undef, undef, undef, undef, undef, undef, undef, undef, undef, undef, undef, undef, undef, undef], []⟩ Try.func45 (by kernel_rfl) (by kernel_rfl) ?_
  refine sy_sq (part_rmrest 2) (part_rmrest 3) ?_
  refine sy_reg ?_
  refine rg_plain 0 (opsAt (part_rmrest 2)) [0, 1] (by kernel_rfl) (by kernel_rfl) ?_
  obtain ⟨V1, eV1, gm, egm, h2, kV1⟩ := alloc_step w ((Msg.c m)) 35
  have n3 : w.heap.size ≤ gm := egm ▸ K0.size
  refine ps_r (o_rmrest 2 0) (pT gm 0) (w' := V1) (by rw [← eV1, ← egm]; exact exec_box 35 (.tmp 1) (by kernel_rfl) (.agg (Msg.c m)) (by kernel_rfl)) ?_
  clear eV1
  have h4 : RrAt V1 b rv l s := hR.keeps kV1 (fun x => x) (fun _ _ x => x)
  have K5 := K0.nn kV1
  have z6 := kV1.size
  obtain ⟨V7, eV7, ga, ega, h8, kV7⟩ := alloc_step V1 ((Msg.c msgZ)) 35
  have n9 : gm < ga := ega ▸ lt_of_block h2
  have n10 : w.heap.size ≤ ga := ega ▸ K5.size
  refine ps_r (o_rmrest 2 1) (pT ga 0) (w' := V7) (by rw [← eV7, ← ega]; exact exec_alloc0 35 (by kernel_rfl) (.agg ((Msg.c msgZ))) (by kernel_rfl)) ?_
  clear eV7
  have h11 : RrAt V7 b rv l s := h4.keeps kV7 (fun x => x) (fun _ _ x => x)
  have h12 := kV7.bk h2
  have K13 := K5.nn kV7
  have z14 := kV7.size
  refine ps_end ?_
  refine then_n ?_
  refine sy_sq (part_rmrest 6) (part_rmrest 7) ?_
  refine sy_sq (part_rmrest 12) (part_rmrest 13) ?_
  refine sy_reg ?_
  refine rg_plain 1 (opsAt (part_rmrest 12)) [0, 1] (by kernel_rfl) (by kernel_rfl) ?_
  refine ps_k (o_rmrest 12 0) (pT gm 0) ?_
  refine ps_p (o_rmrest 12 1) (.int .i64 m.k) (exec_ld 3 (.tmp 5) gm 0 Try.underlying3 (rc (h12) (Msg.get_n hr NF.k))) ?_
  refine ps_end ?_
  refine then_n ?_
  refine sy_bk 0 (part_rmrest 26) ?_
  refine sy_sq (part_rmrest 52) (part_rmrest 53) ?_
  refine sy_reg ?_
  refine rg_plain 2 (opsAt (part_rmrest 52)) [0, 1] (by kernel_rfl) (by kernel_rfl) ?_
  refine ps_p (o_rmrest 52 0) (.bool false) (eqf ((m.k) : Int) ((1) : Int) (by omega)) ?_
  refine ps_k (o_rmrest 52 1) (.bool false) ?_
  refine ps_end ?_
  refine then_n ?_
  refine sy_n (.tmp 7) (part_rmrest 106) (part_rmrest 107) ?_
  refine sy_sq (part_rmrest 214) (part_rmrest 215) ?_
  refine sy_reg ?_
  refine rg_plain 5 (opsAt (part_rmrest 214)) [0, 1] (by kernel_rfl) (by kernel_rfl) ?_
  refine ps_p (o_rmrest 214 0) (.bool false) (eqf ((m.k) : Int) ((2) : Int) (by omega)) ?_
  refine ps_k (o_rmrest 214 1) (.bool false) ?_
  refine ps_end ?_
  refine then_n ?_
  refine sy_n (.tmp 15) (part_rmrest 430) (part_rmrest 431) ?_
  refine sy_sq (part_rmrest 862) (part_rmrest 863) ?_
  refine sy_reg ?_
  refine rg_plain 8 (opsAt (part_rmrest 862)) [0, 1] (by kernel_rfl) (by kernel_rfl) ?_
  refine ps_p (o_rmrest 862 0) (.bool false) (eqf ((m.k) : Int) ((3) : Int) (by omega)) ?_
  refine ps_k (o_rmrest 862 1) (.bool false) ?_
  refine ps_end ?_
  refine then_n ?_
  refine sy_n (.tmp 23) (part_rmrest 1726) (part_rmrest 1727) ?_
  refine sy_sq (part_rmrest 3454) (part_rmrest 3455) ?_
  refine sy_reg ?_
  refine rg_plain 11 (opsAt (part_rmrest 3454)) [0, 1] (by kernel_rfl) (by kernel_rfl) ?_
  refine ps_p (o_rmrest 3454 0) (.bool false) (eqf ((m.k) : Int) ((4) : Int) (by omega)) ?_
  refine ps_k (o_rmrest 3454 1) (.bool false) ?_
  refine ps_end ?_
  refine then_n ?_
  refine sy_n (.tmp 31) (part_rmrest 6910) (part_rmrest 6911) ?_
  refine sy_sq (part_rmrest 13822) (part_rmrest 13823) ?_
  refine sy_reg ?_
  refine rg_plain 14 (opsAt (part_rmrest 13822)) [0, 1] (by kernel_rfl) (by kernel_rfl) ?_
  refine ps_p (o_rmrest 13822 0) (.bool false) (eqf ((m.k) : Int) ((5) : Int) (by omega)) ?_
  refine ps_k (o_rmrest 13822 1) (.bool false) ?_
  refine ps_end ?_
  refine then_n ?_
  refine sy_n (.tmp 39) (part_rmrest 27646) (part_rmrest 27647) ?_
  refine sy_sq (part_rmrest 55294) (part_rmrest 55295) ?_
  refine sy_reg ?_
  refine rg_plain 18 (opsAt (part_rmrest 55294)) [0, 1] (by kernel_rfl) (by kernel_rfl) ?_
  refine ps_p (o_rmrest 55294 0) (.bool false) (eqf ((m.k) : Int) ((6) : Int) (by omega)) ?_
  refine ps_k (o_rmrest 55294 1) (.bool false) ?_
  refine ps_end ?_
  refine then_n ?_
  refine sy_n (.tmp 50) (part_rmrest 110590) (part_rmrest 110591) ?_
  refine sy_sq (part_rmrest 221182) (part_rmrest 221183) ?_
  refine sy_reg ?_
  refine rg_plain 20 (opsAt (part_rmrest 221182)) [0, 1] (by kernel_rfl) (by kernel_rfl) ?_
  refine ps_p (o_rmrest 221182 0) (.bool true) (eqt ((m.k) : Int) ((7) : Int) (by omega)) ?_
  refine ps_k (o_rmrest 221182 1) (.bool true) ?_
  refine ps_end ?_
  refine then_n ?_
  refine sy_ys (.tmp 55) (part_rmrest 442366) (part_rmrest 442367) ?_
  refine sy_reg ?_
  refine rg_plain 21 (opsAt (part_rmrest 442366)) [0, 1, 2, 3] (by kernel_rfl) (by kernel_rfl) ?_
  refine ps_k (o_rmrest 442366 0) (pT b 0) ?_
  refine ps_c (o_rmrest 442366 1) 70 #[pT b 0] Try.func70 ((rmproposal_ok b rv l s _ h11 (fun j hj => by have := hov j hj; omega) hl).mono ?_)
  rintro e V15 ⟨rfl, hR16, kV15⟩
  refine ⟨_, rfl, ?_⟩
  have h17 := kV15.bo h12 (by omega)
  have h18 := kV15.bo h8 (by omega)
  have K19 : Keeps (One b) w V15 := K13.then kV15 (fun i hi hm => by unfold Own.One at hm; subst hm; exact rfl)
  have z20 := kV15.size
  refine ps_k (o_rmrest 442366 2) (pT gm 84) ?_
  obtain ⟨V21, eV21⟩ : ∃ V, V15.setCells gm 84 (Pro.c ((proM l s))).toList = V := ⟨_, rfl⟩
  have kV21 : Keeps (One gm) V15 V21 := eV21 ▸ Keeps.setCells _ _ _ _
  have h22 : V21.heap[gm]? = some (.cells (Msg.c (putP m ((proM l s)))) 35 (0, 0)) := eV21 ▸ (heap_setCells gm _ _ 84 _ _ h17 (show 84 + (Pro.c ((proM l s))).toList.length ≤ _ by rw [(show (Pro.c ((proM l s))).toList.length = 35 from Pro.tl (proM_len _ _)), Msg.c_size hr]; decide)).trans (congrArg (fun c => some (Obj.cells c 35 (0, 0))) (Msg.set_P hr _ (proM_len _ _)))
  refine ps_s (o_rmrest 442366 3) (w' := V21) (by rw [← eV21]; exact exec_store_mid 33 (.tmp 59) (.tmp 58) (by kernel_rfl) gm 84 (by kernel_rfl) (Pro.c ((proM l s))) (by kernel_rfl) _ _ h17 (show 84 + (Pro.c ((proM l s))).toList.length ≤ _ by rw [(show (Pro.c ((proM l s))).toList.length = 35 from Pro.tl (proM_len _ _)), Msg.c_size hr]; decide) (by rw [Pro.c_size _ (proM_len _ _)]; kernel_rfl) (Pro.c_one _)) ?_
  clear eV21
  have h23 := kV21.bo h18 (by omega)
  have h24 : RrAt V21 b rv l ((prG l s).2) := hR16.keeps kV21 (by unfold Own.One; omega) (fun j hj e => by have := hov j hj; unfold Own.One at e; omega)
  have K25 := K19.no kV21 (by omega)
  have z26 := kV21.size
  refine ps_end ?_
  refine blk_n ?_
  refine then_n ?_
  refine sy_sq (part_rmrest 14) (part_rmrest 15) ?_
  refine sy_reg ?_
  refine rg_plain 31 (opsAt (part_rmrest 14)) [0, 1] (by kernel_rfl) (by kernel_rfl) ?_
  refine ps_p (o_rmrest 14 0) (.agg (Msg.c (putP m ((proM l s))))) (exec_load_row 35 (.tmp 3) (by kernel_rfl) gm (by kernel_rfl) _ _ (0, 0) _ (h22) Try.underlying35 rfl (by rw [Msg.c_size (putP_R hr (proM_len _ _))]; kernel_rfl)) ?_
  obtain ⟨V27, eV27, kV27⟩ := rowset_step V21 ga ((Msg.c (putP m ((proM l s)))))
  have h28 : V27.heap[ga]? = some (.cells (Msg.c (putP m ((proM l s)))) 35 (0, 0)) := eV27 ▸ setRow_heap _ _ _ _ _ _ h23
  refine ps_s (o_rmrest 14 1) (w' := V27) (by rw [← eV27]; exact exec_store_row 35 (.tmp 4) (.tmp 85) (by kernel_rfl) ga ((Msg.c (putP m ((proM l s))))) (by kernel_rfl) (by kernel_rfl) 35 ((Msg.c msgZ)) h23 (by rw [Msg.c_size (putP_R hr (proM_len _ _))]; kernel_rfl) (by rw [Msg.c_size (putP_R hr (proM_len _ _))]; exact (Msg.c_size msgZ_R).symm) (Msg.c_one _)) ?_
  clear eV27
  have h29 : RrAt V27 b rv l ((prG l s).2) := h24.keeps kV27 (by unfold Own.One; omega) (fun j hj e => by have := hov j hj; unfold Own.One at e; omega)
  have h30 := kV27.bo h22 (by omega)
  have K31 := K25.no kV27 (by omega)
  have z32 := kV27.size
  refine ps_end ?_
  refine sy_a ⟨#[pT b 0, .agg (Msg.c m), undef, pT gm 0, pT ga 0, pT gm 0, .int .i64 m.k, .bool false, .bool false, undef, undef, undef, undef, undef, undef, .bool false, .bool false, undef, undef, undef, undef, undef, undef, .bool false, .bool false, undef, undef, undef, undef, undef, undef, .bool false, .bool false, undef, undef, undef, undef, undef, undef, .bool false, .bool false, undef, undef, undef, undef, undef, undef, undef, undef, undef, .bool false, .bool false, undef, undef, undef, .bool true, .bool true, pT b 0, .agg (Pro.c (proM l s)), pT gm 84, undef, undef, undef, undef, undef, undef, undef, undef, undef, undef, undef, undef, undef, undef, undef, undef, undef, undef, undef, undef, undef, undef, undef, undef, undef, .agg (Msg.c (putP m ((proM l s))))], []⟩ ?_
  refine then_n ?_
  refine sy_ret (by kernel_rfl) ?_
  refine sy_out (.agg (Msg.c (putP m ((proM l s))))) rfl (results_cell_row (p := 4) (ty := 35) (by kernel_rfl) _ _ ga 35 (Msg.c (putP m ((proM l s)))) (0, 0) _ (by kernel_rfl) h28 Try.underlying35 rfl (by rw [Msg.c_size (putP_R hr (proM_len _ _))]; kernel_rfl)) ?_
  exact ⟨rfl, h29, K31⟩
theorem rest_7 (l : List UInt8) (m : Msg) (s : RS) : restR l 7 (m, s) = ((putP m ((proM l s))), (prG l s).2) := by
  unfold restR; rw [if_neg (by decide)]
  show (blockM .pv .ph .pr .pg).foldl (rdIt l) (m, s) = _
  rw [pro_rd]
set_option maxRecDepth 100000 in
set_option maxHeartbeats 4000000 in
theorem rmrest_8t_ (b : Nat) (rv : Value) (l : List UInt8) (s : RS) (m : Msg) (w : World) (hr : m.R) (hk : m.k = 8) (hR : RrAt w b rv l s) (hov : ∀ j, rv.ownBlock = some j → j < w.heap.size) (hl : l.length ≤ 100000000) (hp : (rdN l s 1 3).1 = 3) :
    Calls Try.prog 45 #[.pointer (some ⟨b, 0, none⟩), .agg (Msg.c m)] w (fun e w' => e = .returned (.agg (Msg.c ((putQ (putP (NF.set m ((rdN l s 1 3).1) .pf) ((proM l ((rdN l s 1 3).2)))) ((proM l ((prG l ((rdN l s 1 3).2)).2))))))) ∧ RrAt w' b rv l ((prG l ((prG l ((rdN l s 1 3).2)).2)).2) ∧ Keeps (One b) w w') := by
  have hbl := hR.lt
  have K0 : Keeps (One b) w w := Keeps.refl _ _
  refine sy_enter (part_rmrest 1) ⟨#[pT b 0, .agg (Msg.c m), undef, undef, undef, undef, undef, undef, undef, undef, undef, undef, undef, undef, undef, undef, undef, undef, undef, undef, undef, undef, undef, undef, undef, undef, undef, undef, undef, undef, undef, undef, undef, undef, undef, undef, undef, undef, undef, undef, undef, undef, undef, undef, undef, undef, undef, undef, undef, undef, undef, undef, undef, undef, undef, undef, undef, undef, undef, undef, undef, undef, undef, undef, undef, undef, undef, undef, undef, undef, undef, undef, undef, undef, undef, undef, undef, undef, undef, undef, undef, undef, undef, undef, undef, undef], []⟩ Try.func45 (by kernel_rfl) (by kernel_rfl) ?_
  refine sy_sq (part_rmrest 2) (part_rmrest 3) ?_
  refine sy_reg ?_
  refine rg_plain 0 (opsAt (part_rmrest 2)) [0, 1] (by kernel_rfl) (by kernel_rfl) ?_
  obtain ⟨V1, eV1, gm, egm, h2, kV1⟩ := alloc_step w ((Msg.c m)) 35
  have n3 : w.heap.size ≤ gm := egm ▸ K0.size
  refine ps_r (o_rmrest 2 0) (pT gm 0) (w' := V1) (by rw [← eV1, ← egm]; exact exec_box 35 (.tmp 1) (by kernel_rfl) (.agg (Msg.c m)) (by kernel_rfl)) ?_
  clear eV1
  have h4 : RrAt V1 b rv l s := hR.keeps kV1 (fun x => x) (fun _ _ x => x)
  have K5 := K0.nn kV1
  have z6 := kV1.size
  obtain ⟨V7, eV7, ga, ega, h8, kV7⟩ := alloc_step V1 ((Msg.c msgZ)) 35
  have n9 : gm < ga := ega ▸ lt_of_block h2
  have n10 : w.heap.size ≤ ga := ega ▸ K5.size
  refine ps_r (o_rmrest 2 1) (pT ga 0) (w' := V7) (by rw [← eV7, ← ega]; exact exec_alloc0 35 (by kernel_rfl) (.agg ((Msg.c msgZ))) (by kernel_rfl)) ?_
  clear eV7
  have h11 : RrAt V7 b rv l s := h4.keeps kV7 (fun x => x) (fun _ _ x => x)
  have h12 := kV7.bk h2
  have K13 := K5.nn kV7
  have z14 := kV7.size
  refine ps_end ?_
  refine then_n ?_
  refine sy_sq (part_rmrest 6) (part_rmrest 7) ?_
  refine sy_sq (part_rmrest 12) (part_rmrest 13) ?_
  refine sy_reg ?_
  refine rg_plain 1 (opsAt (part_rmrest 12)) [0, 1] (by kernel_rfl) (by kernel_rfl) ?_
  refine ps_k (o_rmrest 12 0) (pT gm 0) ?_
  refine ps_p (o_rmrest 12 1) (.int .i64 m.k) (exec_ld 3 (.tmp 5) gm 0 Try.underlying3 (rc (h12) (Msg.get_n hr NF.k))) ?_
  refine ps_end ?_
  refine then_n ?_
  refine sy_bk 0 (part_rmrest 26) ?_
  refine sy_sq (part_rmrest 52) (part_rmrest 53) ?_
  refine sy_reg ?_
  refine rg_plain 2 (opsAt (part_rmrest 52)) [0, 1] (by kernel_rfl) (by kernel_rfl) ?_
  refine ps_p (o_rmrest 52 0) (.bool false) (eqf ((m.k) : Int) ((1) : Int) (by omega)) ?_
  refine ps_k (o_rmrest 52 1) (.bool false) ?_
  refine ps_end ?_
  refine then_n ?_
  refine sy_n (.tmp 7) (part_rmrest 106) (part_rmrest 107) ?_
  refine sy_sq (part_rmrest 214) (part_rmrest 215) ?_
  refine sy_reg ?_
  refine rg_plain 5 (opsAt (part_rmrest 214)) [0, 1] (by kernel_rfl) (by kernel_rfl) ?_
  refine ps_p (o_rmrest 214 0) (.bool false) (eqf ((m.k) : Int) ((2) : Int) (by omega)) ?_
  refine ps_k (o_rmrest 214 1) (.bool false) ?_
  refine ps_end ?_
  refine then_n ?_
  refine sy_n (.tmp 15) (part_rmrest 430) (part_rmrest 431) ?_
  refine sy_sq (part_rmrest 862) (part_rmrest 863) ?_
  refine sy_reg ?_
  refine rg_plain 8 (opsAt (part_rmrest 862)) [0, 1] (by kernel_rfl) (by kernel_rfl) ?_
  refine ps_p (o_rmrest 862 0) (.bool false) (eqf ((m.k) : Int) ((3) : Int) (by omega)) ?_
  refine ps_k (o_rmrest 862 1) (.bool false) ?_
  refine ps_end ?_
  refine then_n ?_
  refine sy_n (.tmp 23) (part_rmrest 1726) (part_rmrest 1727) ?_
  refine sy_sq (part_rmrest 3454) (part_rmrest 3455) ?_
  refine sy_reg ?_
  refine rg_plain 11 (opsAt (part_rmrest 3454)) [0, 1] (by kernel_rfl) (by kernel_rfl) ?_
  refine ps_p (o_rmrest 3454 0) (.bool false) (eqf ((m.k) : Int) ((4) : Int) (by omega)) ?_
  refine ps_k (o_rmrest 3454 1) (.bool false) ?_
  refine ps_end ?_
  refine then_n ?_
  refine sy_n (.tmp 31) (part_rmrest 6910) (part_rmrest 6911) ?_
  refine sy_sq (part_rmrest 13822) (part_rmrest 13823) ?_
  refine sy_reg ?_
  refine rg_plain 14 (opsAt (part_rmrest 13822)) [0, 1] (by kernel_rfl) (by kernel_rfl) ?_
  refine ps_p (o_rmrest 13822 0) (.bool false) (eqf ((m.k) : Int) ((5) : Int) (by omega)) ?_
  refine ps_k (o_rmrest 13822 1) (.bool false) ?_
  refine ps_end ?_
  refine then_n ?_
  refine sy_n (.tmp 39) (part_rmrest 27646) (part_rmrest 27647) ?_
  refine sy_sq (part_rmrest 55294) (part_rmrest 55295) ?_
  refine sy_reg ?_
  refine rg_plain 18 (opsAt (part_rmrest 55294)) [0, 1] (by kernel_rfl) (by kernel_rfl) ?_
  refine ps_p (o_rmrest 55294 0) (.bool false) (eqf ((m.k) : Int) ((6) : Int) (by omega)) ?_
  refine ps_k (o_rmrest 55294 1) (.bool false) ?_
  refine ps_end ?_
  refine then_n ?_
  refine sy_n (.tmp 50) (part_rmrest 110590) (part_rmrest 110591) ?_
  refine sy_sq (part_rmrest 221182) (part_rmrest 221183) ?_
  refine sy_reg ?_
  refine rg_plain 20 (opsAt (part_rmrest 221182)) [0, 1] (by kernel_rfl) (by kernel_rfl) ?_
  refine ps_p (o_rmrest 221182 0) (.bool false) (eqf ((m.k) : Int) ((7) : Int) (by omega)) ?_
  refine ps_k (o_rmrest 221182 1) (.bool false) ?_
  refine ps_end ?_
  refine then_n ?_
  refine sy_n (.tmp 55) (part_rmrest 442366) (part_rmrest 442367) ?_
  refine sy_sq (part_rmrest 884734) (part_rmrest 884735) ?_
  refine sy_reg ?_
  refine rg_plain 22 (opsAt (part_rmrest 884734)) [0, 1] (by kernel_rfl) (by kernel_rfl) ?_
  refine ps_p (o_rmrest 884734 0) (.bool true) (eqt ((m.k) : Int) ((8) : Int) (by omega)) ?_
  refine ps_k (o_rmrest 884734 1) (.bool true) ?_
  refine ps_end ?_
  refine then_n ?_
  refine sy_ys (.tmp 60) (part_rmrest 1769470) (part_rmrest 1769471) ?_
  refine sy_sq (part_rmrest 3538940) (part_rmrest 3538941) ?_
  refine sy_reg ?_
  refine rg_plain 23 (opsAt (part_rmrest 3538940)) [0, 1, 2, 3] (by kernel_rfl) (by kernel_rfl) ?_
  refine ps_k (o_rmrest 3538940 0) (pT b 0) ?_
  refine ps_c (o_rmrest 3538940 1) 44 #[pT b 0, .int .i64 1, .int .i64 3] Try.func44 ((rrN_ok b rv l s 1 3 _ h11 (by decide) (by decide)).mono ?_)
  rintro e V15 ⟨rfl, hR16, kV15⟩
  refine ⟨_, rfl, ?_⟩
  have h17 := kV15.bo h12 (by omega)
  have h18 := kV15.bo h8 (by omega)
  have K19 : Keeps (One b) w V15 := K13.then kV15 (fun i hi hm => by unfold Own.One at hm; subst hm; exact rfl)
  have z20 := kV15.size
  refine ps_k (o_rmrest 3538940 2) (pT gm 11) ?_
  obtain ⟨V21, eV21, kV21⟩ := cell_step V15 gm 11 (.int .i64 (rdN l s 1 3).1)
  have h22 : V21.heap[gm]? = some (.cells (Msg.c (NF.set m ((rdN l s 1 3).1) .pf)) 35 (0, 0)) := eV21 ▸ ((heap_setCell_same _ gm 11 _ _ (.int .i64 (rdN l s 1 3).1) h17).trans (congrArg (fun c => some (Obj.cells c 35 (0, 0))) (show (Msg.c m : Array Value).setIfInBounds 11 (.int .i64 (rdN l s 1 3).1) = Msg.c (NF.set m ((rdN l s 1 3).1) .pf) from Msg.set_n hr NF.pf _)))
  refine ps_s (o_rmrest 3538940 3) (w' := V21) (by rw [← eV21]; exact exec_store_cell 3 (.tmp 64) (.tmp 63) (by kernel_rfl) gm 11 (by kernel_rfl) (.int .i64 (rdN l s 1 3).1) (by kernel_rfl) (by kernel_rfl) (by kernel_rfl) (.int .i64 m.pf) (rc (h17) (Msg.get_n hr NF.pf)) (frozen_of_row _ _ _ _ _ h17) (by kernel_rfl)) ?_
  clear eV21
  have h23 := kV21.bo h18 (by omega)
  have h24 : RrAt V21 b rv l ((rdN l s 1 3).2) := hR16.keeps kV21 (by unfold Own.One; omega) (fun j hj e => by have := hov j hj; unfold Own.One at e; omega)
  have K25 := K19.no kV21 (by omega)
  have z26 := kV21.size
  refine ps_end ?_
  refine sy_a ⟨#[pT b 0, .agg (Msg.c m), undef, pT gm 0, pT ga 0, pT gm 0, .int .i64 m.k, .bool false, .bool false, undef, undef, undef, undef, undef, undef, .bool false, .bool false, undef, undef, undef, undef, undef, undef, .bool false, .bool false, undef, undef, undef, undef, undef, undef, .bool false, .bool false, undef, undef, undef, undef, undef, undef, .bool false, .bool false, undef, undef, undef, undef, undef, undef, undef, undef, undef, .bool false, .bool false, undef, undef, undef, .bool false, .bool false, undef, undef, undef, .bool true, .bool true, pT b 0, .int .i64 (rdN l s 1 3).1, pT gm 11, undef, undef, undef, undef, undef, undef, undef, undef, undef, undef, undef, undef, undef, undef, undef, undef, undef, undef, undef, undef, undef], []⟩ ?_
  refine then_n ?_
  refine sy_sq (part_rmrest 7077882) (part_rmrest 7077883) ?_
  refine sy_reg ?_
  refine rg_plain 24 (opsAt (part_rmrest 7077882)) [0, 1, 2] (by kernel_rfl) (by kernel_rfl) ?_
  refine ps_k (o_rmrest 7077882 0) (pT gm 11) ?_
  refine ps_p (o_rmrest 7077882 1) (.int .i64 ((rdN l s 1 3).1)) (exec_ld 3 (.tmp 65) gm 11 Try.underlying3 (rc (h22) (Msg.get_n (NF.R hr) NF.pf))) ?_
  refine ps_p (o_rmrest 7077882 2) (.bool true) (eqt (((rdN l s 1 3).1) : Int) ((3) : Int) (by omega)) ?_
  refine ps_end ?_
  refine then_n ?_
  refine sy_ys (.tmp 67) (part_rmrest 14155766) (part_rmrest 14155767) ?_
  refine sy_sq (part_rmrest 28311532) (part_rmrest 28311533) ?_
  refine sy_reg ?_
  refine rg_plain 25 (opsAt (part_rmrest 28311532)) [0, 1, 2, 3] (by kernel_rfl) (by kernel_rfl) ?_
  refine ps_k (o_rmrest 28311532 0) (pT b 0) ?_
  refine ps_c (o_rmrest 28311532 1) 70 #[pT b 0] Try.func70 ((rmproposal_ok b rv l ((rdN l s 1 3).2) _ h24 (fun j hj => by have := hov j hj; omega) hl).mono ?_)
  rintro e V27 ⟨rfl, hR28, kV27⟩
  refine ⟨_, rfl, ?_⟩
  have h29 := kV27.bo h23 (by omega)
  have h30 := kV27.bo h22 (by omega)
  have K31 : Keeps (One b) w V27 := K25.then kV27 (fun i hi hm => by unfold Own.One at hm; subst hm; exact rfl)
  have z32 := kV27.size
  refine ps_k (o_rmrest 28311532 2) (pT gm 84) ?_
  obtain ⟨V33, eV33⟩ : ∃ V, V27.setCells gm 84 (Pro.c ((proM l ((rdN l s 1 3).2)))).toList = V := ⟨_, rfl⟩
  have kV33 : Keeps (One gm) V27 V33 := eV33 ▸ Keeps.setCells _ _ _ _
  have h34 : V33.heap[gm]? = some (.cells (Msg.c (putP (NF.set m ((rdN l s 1 3).1) .pf) ((proM l ((rdN l s 1 3).2))))) 35 (0, 0)) := eV33 ▸ (heap_setCells gm _ _ 84 _ _ h30 (show 84 + (Pro.c ((proM l ((rdN l s 1 3).2)))).toList.length ≤ _ by rw [(show (Pro.c ((proM l ((rdN l s 1 3).2)))).toList.length = 35 from Pro.tl (proM_len _ _)), Msg.c_size (NF.R hr)]; decide)).trans (congrArg (fun c => some (Obj.cells c 35 (0, 0))) (Msg.set_P (NF.R hr) _ (proM_len _ _)))
  refine ps_s (o_rmrest 28311532 3) (w' := V33) (by rw [← eV33]; exact exec_store_mid 33 (.tmp 70) (.tmp 69) (by kernel_rfl) gm 84 (by kernel_rfl) (Pro.c ((proM l ((rdN l s 1 3).2)))) (by kernel_rfl) _ _ h30 (show 84 + (Pro.c ((proM l ((rdN l s 1 3).2)))).toList.length ≤ _ by rw [(show (Pro.c ((proM l ((rdN l s 1 3).2)))).toList.length = 35 from Pro.tl (proM_len _ _)), Msg.c_size (NF.R hr)]; decide) (by rw [Pro.c_size _ (proM_len _ _)]; kernel_rfl) (Pro.c_one _)) ?_
  clear eV33
  have h35 := kV33.bo h29 (by omega)
  have h36 : RrAt V33 b rv l ((prG l ((rdN l s 1 3).2)).2) := hR28.keeps kV33 (by unfold Own.One; omega) (fun j hj e => by have := hov j hj; unfold Own.One at e; omega)
  have K37 := K31.no kV33 (by omega)
  have z38 := kV33.size
  refine ps_end ?_
  refine then_n ?_
  refine sy_reg ?_
  refine rg_plain 26 (opsAt (part_rmrest 28311533)) [0, 1, 2, 3] (by kernel_rfl) (by kernel_rfl) ?_
  refine ps_k (o_rmrest 28311533 0) (pT b 0) ?_
  refine ps_c (o_rmrest 28311533 1) 70 #[pT b 0] Try.func70 ((rmproposal_ok b rv l ((prG l ((rdN l s 1 3).2)).2) _ h36 (fun j hj => by have := hov j hj; omega) hl).mono ?_)
  rintro e V39 ⟨rfl, hR40, kV39⟩
  refine ⟨_, rfl, ?_⟩
  have h41 := kV39.bo h35 (by omega)
  have h42 := kV39.bo h34 (by omega)
  have K43 : Keeps (One b) w V39 := K37.then kV39 (fun i hi hm => by unfold Own.One at hm; subst hm; exact rfl)
  have z44 := kV39.size
  refine ps_k (o_rmrest 28311533 2) (pT gm 119) ?_
  obtain ⟨V45, eV45⟩ : ∃ V, V39.setCells gm 119 (Pro.c ((proM l ((prG l ((rdN l s 1 3).2)).2)))).toList = V := ⟨_, rfl⟩
  have kV45 : Keeps (One gm) V39 V45 := eV45 ▸ Keeps.setCells _ _ _ _
  have h46 : V45.heap[gm]? = some (.cells (Msg.c (putQ (putP (NF.set m ((rdN l s 1 3).1) .pf) ((proM l ((rdN l s 1 3).2)))) ((proM l ((prG l ((rdN l s 1 3).2)).2))))) 35 (0, 0)) := eV45 ▸ (heap_setCells gm _ _ 119 _ _ h42 (show 119 + (Pro.c ((proM l ((prG l ((rdN l s 1 3).2)).2)))).toList.length ≤ _ by rw [(show (Pro.c ((proM l ((prG l ((rdN l s 1 3).2)).2)))).toList.length = 35 from Pro.tl (proM_len _ _)), Msg.c_size (putP_R (NF.R hr) (proM_len _ _))]; decide)).trans (congrArg (fun c => some (Obj.cells c 35 (0, 0))) (Msg.set_Q (putP_R (NF.R hr) (proM_len _ _)) _ (proM_len _ _)))
  refine ps_s (o_rmrest 28311533 3) (w' := V45) (by rw [← eV45]; exact exec_store_mid 33 (.tmp 73) (.tmp 72) (by kernel_rfl) gm 119 (by kernel_rfl) (Pro.c ((proM l ((prG l ((rdN l s 1 3).2)).2)))) (by kernel_rfl) _ _ h42 (show 119 + (Pro.c ((proM l ((prG l ((rdN l s 1 3).2)).2)))).toList.length ≤ _ by rw [(show (Pro.c ((proM l ((prG l ((rdN l s 1 3).2)).2)))).toList.length = 35 from Pro.tl (proM_len _ _)), Msg.c_size (putP_R (NF.R hr) (proM_len _ _))]; decide) (by rw [Pro.c_size _ (proM_len _ _)]; kernel_rfl) (Pro.c_one _)) ?_
  clear eV45
  have h47 := kV45.bo h41 (by omega)
  have h48 : RrAt V45 b rv l ((prG l ((prG l ((rdN l s 1 3).2)).2)).2) := hR40.keeps kV45 (by unfold Own.One; omega) (fun j hj e => by have := hov j hj; unfold Own.One at e; omega)
  have K49 := K43.no kV45 (by omega)
  have z50 := kV45.size
  refine ps_end ?_
  refine blk_n ?_
  refine then_n ?_
  refine sy_sq (part_rmrest 14) (part_rmrest 15) ?_
  refine sy_reg ?_
  refine rg_plain 31 (opsAt (part_rmrest 14)) [0, 1] (by kernel_rfl) (by kernel_rfl) ?_
  refine ps_p (o_rmrest 14 0) (.agg (Msg.c (putQ (putP (NF.set m ((rdN l s 1 3).1) .pf) ((proM l ((rdN l s 1 3).2)))) ((proM l ((prG l ((rdN l s 1 3).2)).2)))))) (exec_load_row 35 (.tmp 3) (by kernel_rfl) gm (by kernel_rfl) _ _ (0, 0) _ (h46) Try.underlying35 rfl (by rw [Msg.c_size (putQ_R (putP_R (NF.R hr) (proM_len _ _)) (proM_len _ _))]; kernel_rfl)) ?_
  obtain ⟨V51, eV51, kV51⟩ := rowset_step V45 ga ((Msg.c (putQ (putP (NF.set m ((rdN l s 1 3).1) .pf) ((proM l ((rdN l s 1 3).2)))) ((proM l ((prG l ((rdN l s 1 3).2)).2))))))
  have h52 : V51.heap[ga]? = some (.cells (Msg.c (putQ (putP (NF.set m ((rdN l s 1 3).1) .pf) ((proM l ((rdN l s 1 3).2)))) ((proM l ((prG l ((rdN l s 1 3).2)).2))))) 35 (0, 0)) := eV51 ▸ setRow_heap _ _ _ _ _ _ h47
  refine ps_s (o_rmrest 14 1) (w' := V51) (by rw [← eV51]; exact exec_store_row 35 (.tmp 4) (.tmp 85) (by kernel_rfl) ga ((Msg.c (putQ (putP (NF.set m ((rdN l s 1 3).1) .pf) ((proM l ((rdN l s 1 3).2)))) ((proM l ((prG l ((rdN l s 1 3).2)).2)))))) (by kernel_rfl) (by kernel_rfl) 35 ((Msg.c msgZ)) h47 (by rw [Msg.c_size (putQ_R (putP_R (NF.R hr) (proM_len _ _)) (proM_len _ _))]; kernel_rfl) (by rw [Msg.c_size (putQ_R (putP_R (NF.R hr) (proM_len _ _)) (proM_len _ _))]; exact (Msg.c_size msgZ_R).symm) (Msg.c_one _)) ?_
  clear eV51
  have h53 : RrAt V51 b rv l ((prG l ((prG l ((rdN l s 1 3).2)).2)).2) := h48.keeps kV51 (by unfold Own.One; omega) (fun j hj e => by have := hov j hj; unfold Own.One at e; omega)
  have h54 := kV51.bo h46 (by omega)
  have K55 := K49.no kV51 (by omega)
  have z56 := kV51.size
  refine ps_end ?_
  refine then_n ?_
  refine sy_ret (by kernel_rfl) ?_
  refine sy_out (.agg (Msg.c (putQ (putP (NF.set m ((rdN l s 1 3).1) .pf) ((proM l ((rdN l s 1 3).2)))) ((proM l ((prG l ((rdN l s 1 3).2)).2)))))) rfl (results_cell_row (p := 4) (ty := 35) (by kernel_rfl) _ _ ga 35 (Msg.c (putQ (putP (NF.set m ((rdN l s 1 3).1) .pf) ((proM l ((rdN l s 1 3).2)))) ((proM l ((prG l ((rdN l s 1 3).2)).2))))) (0, 0) _ (by kernel_rfl) h52 Try.underlying35 rfl (by rw [Msg.c_size (putQ_R (putP_R (NF.R hr) (proM_len _ _)) (proM_len _ _))]; kernel_rfl)) ?_
  exact ⟨rfl, h53, K55⟩
theorem rest_8t (l : List UInt8) (m : Msg) (s : RS) (hp : (rdN l s 1 3).1 = 3) : restR l 8 (m, s) = ((putQ (putP (NF.set m ((rdN l s 1 3).1) .pf) ((proM l ((rdN l s 1 3).2)))) ((proM l ((prG l ((rdN l s 1 3).2)).2)))), (prG l ((prG l ((rdN l s 1 3).2)).2)).2) := by
  unfold restR; rw [if_pos rfl, rd_n0 _ _ _ _ _ _ (by decide)]
  dsimp only [NF.set]
  rw [show evM (rdN l s 1 3).1 = _ from if_pos hp, List.foldl_append, pro_rd, pro_rd']
set_option maxRecDepth 100000 in
set_option maxHeartbeats 4000000 in
theorem rmrest_8f_ (b : Nat) (rv : Value) (l : List UInt8) (s : RS) (m : Msg) (w : World) (hr : m.R) (hk : m.k = 8) (hR : RrAt w b rv l s) (hov : ∀ j, rv.ownBlock = some j → j < w.heap.size) (hl : l.length ≤ 100000000) (hp : ¬ (rdN l s 1 3).1 = 3) :
    Calls Try.prog 45 #[.pointer (some ⟨b, 0, none⟩), .agg (Msg.c m)] w (fun e w' => e = .returned (.agg (Msg.c ((putB (putA (NF.set m ((rdN l s 1 3).1) .pf) ((attM l ((rdN l s 1 3).2)))) ((attM l ((atG l ((rdN l s 1 3).2)).2))))))) ∧ RrAt w' b rv l ((atG l ((atG l ((rdN l s 1 3).2)).2)).2) ∧ Keeps (One b) w w') := by
  have hbl := hR.lt
  have K0 : Keeps (One b) w w := Keeps.refl _ _
  refine sy_enter (part_rmrest 1) ⟨#[pT b 0, .agg (Msg.c m), undef, undef, undef, undef, undef, undef, undef, undef, undef, undef, undef, undef, undef, undef, undef, undef, undef, undef, undef, undef, undef, undef, undef, undef, undef, undef, undef, undef, undef, undef, undef, undef, undef, undef, undef, undef, undef, undef, undef, undef, undef, undef, undef, undef, undef, undef, undef, undef, undef, undef, undef, undef, undef, undef, undef, undef, undef, undef, undef, undef, undef, undef, undef, undef, undef, undef, undef, undef, undef, undef, undef, undef, undef, undef, undef, undef, undef, undef, undef, undef, undef, undef, undef, undef], []⟩ Try.func45 (by kernel_rfl) (by kernel_rfl) ?_
  refine sy_sq (part_rmrest 2) (part_rmrest 3) ?_
  refine sy_reg ?_
  refine rg_plain 0 (opsAt (part_rmrest 2)) [0, 1] (by kernel_rfl) (by kernel_rfl) ?_
  obtain ⟨V1, eV1, gm, egm, h2, kV1⟩ := alloc_step w ((Msg.c m)) 35
  have n3 : w.heap.size ≤ gm := egm ▸ K0.size
  refine ps_r (o_rmrest 2 0) (pT gm 0) (w' := V1) (by rw [← eV1, ← egm]; exact exec_box 35 (.tmp 1) (by kernel_rfl) (.agg (Msg.c m)) (by kernel_rfl)) ?_
  clear eV1
  have h4 : RrAt V1 b rv l s := hR.keeps kV1 (fun x => x) (fun _ _ x => x)
  have K5 := K0.nn kV1
  have z6 := kV1.size
  obtain ⟨V7, eV7, ga, ega, h8, kV7⟩ := alloc_step V1 ((Msg.c msgZ)) 35
  have n9 : gm < ga := ega ▸ lt_of_block h2
  have n10 : w.heap.size ≤ ga := ega ▸ K5.size
  refine ps_r (o_rmrest 2 1) (pT ga 0) (w' := V7) (by rw [← eV7, ← ega]; exact exec_alloc0 35 (by kernel_rfl) (.agg ((Msg.c msgZ))) (by kernel_rfl)) ?_
  clear eV7
  have h11 : RrAt V7 b rv l s := h4.keeps kV7 (fun x => x) (fun _ _ x => x)
  have h12 := kV7.bk h2
  have K13 := K5.nn kV7
  have z14 := kV7.size
  refine ps_end ?_
  refine then_n ?_
  refine sy_sq (part_rmrest 6) (part_rmrest 7) ?_
  refine sy_sq (part_rmrest 12) (part_rmrest 13) ?_
  refine sy_reg ?_
  refine rg_plain 1 (opsAt (part_rmrest 12)) [0, 1] (by kernel_rfl) (by kernel_rfl) ?_
  refine ps_k (o_rmrest 12 0) (pT gm 0) ?_
  refine ps_p (o_rmrest 12 1) (.int .i64 m.k) (exec_ld 3 (.tmp 5) gm 0 Try.underlying3 (rc (h12) (Msg.get_n hr NF.k))) ?_
  refine ps_end ?_
  refine then_n ?_
  refine sy_bk 0 (part_rmrest 26) ?_
  refine sy_sq (part_rmrest 52) (part_rmrest 53) ?_
  refine sy_reg ?_
  refine rg_plain 2 (opsAt (part_rmrest 52)) [0, 1] (by kernel_rfl) (by kernel_rfl) ?_
  refine ps_p (o_rmrest 52 0) (.bool false) (eqf ((m.k) : Int) ((1) : Int) (by omega)) ?_
  refine ps_k (o_rmrest 52 1) (.bool false) ?_
  refine ps_end ?_
  refine then_n ?_
  refine sy_n (.tmp 7) (part_rmrest 106) (part_rmrest 107) ?_
  refine sy_sq (part_rmrest 214) (part_rmrest 215) ?_
  refine sy_reg ?_
  refine rg_plain 5 (opsAt (part_rmrest 214)) [0, 1] (by kernel_rfl) (by kernel_rfl) ?_
  refine ps_p (o_rmrest 214 0) (.bool false) (eqf ((m.k) : Int) ((2) : Int) (by omega)) ?_
  refine ps_k (o_rmrest 214 1) (.bool false) ?_
  refine ps_end ?_
  refine then_n ?_
  refine sy_n (.tmp 15) (part_rmrest 430) (part_rmrest 431) ?_
  refine sy_sq (part_rmrest 862) (part_rmrest 863) ?_
  refine sy_reg ?_
  refine rg_plain 8 (opsAt (part_rmrest 862)) [0, 1] (by kernel_rfl) (by kernel_rfl) ?_
  refine ps_p (o_rmrest 862 0) (.bool false) (eqf ((m.k) : Int) ((3) : Int) (by omega)) ?_
  refine ps_k (o_rmrest 862 1) (.bool false) ?_
  refine ps_end ?_
  refine then_n ?_
  refine sy_n (.tmp 23) (part_rmrest 1726) (part_rmrest 1727) ?_
  refine sy_sq (part_rmrest 3454) (part_rmrest 3455) ?_
  refine sy_reg ?_
  refine rg_plain 11 (opsAt (part_rmrest 3454)) [0, 1] (by kernel_rfl) (by kernel_rfl) ?_
  refine ps_p (o_rmrest 3454 0) (.bool false) (eqf ((m.k) : Int) ((4) : Int) (by omega)) ?_
  refine ps_k (o_rmrest 3454 1) (.bool false) ?_
  refine ps_end ?_
  refine then_n ?_
  refine sy_n (.tmp 31) (part_rmrest 6910) (part_rmrest 6911) ?_
  refine sy_sq (part_rmrest 13822) (part_rmrest 13823) ?_
  refine sy_reg ?_
  refine rg_plain 14 (opsAt (part_rmrest 13822)) [0, 1] (by kernel_rfl) (by kernel_rfl) ?_
  refine ps_p (o_rmrest 13822 0) (.bool false) (eqf ((m.k) : Int) ((5) : Int) (by omega)) ?_
  refine ps_k (o_rmrest 13822 1) (.bool false) ?_
  refine ps_end ?_
  refine then_n ?_
  refine sy_n (.tmp 39) (part_rmrest 27646) (part_rmrest 27647) ?_
  refine sy_sq (part_rmrest 55294) (part_rmrest 55295) ?_
  refine sy_reg ?_
  refine rg_plain 18 (opsAt (part_rmrest 55294)) [0, 1] (by kernel_rfl) (by kernel_rfl) ?_
  refine ps_p (o_rmrest 55294 0) (.bool false) (eqf ((m.k) : Int) ((6) : Int) (by omega)) ?_
  refine ps_k (o_rmrest 55294 1) (.bool false) ?_
  refine ps_end ?_
  refine then_n ?_
  refine sy_n (.tmp 50) (part_rmrest 110590) (part_rmrest 110591) ?_
  refine sy_sq (part_rmrest 221182) (part_rmrest 221183) ?_
  refine sy_reg ?_
  refine rg_plain 20 (opsAt (part_rmrest 221182)) [0, 1] (by kernel_rfl) (by kernel_rfl) ?_
  refine ps_p (o_rmrest 221182 0) (.bool false) (eqf ((m.k) : Int) ((7) : Int) (by omega)) ?_
  refine ps_k (o_rmrest 221182 1) (.bool false) ?_
  refine ps_end ?_
  refine then_n ?_
  refine sy_n (.tmp 55) (part_rmrest 442366) (part_rmrest 442367) ?_
  refine sy_sq (part_rmrest 884734) (part_rmrest 884735) ?_
  refine sy_reg ?_
  refine rg_plain 22 (opsAt (part_rmrest 884734)) [0, 1] (by kernel_rfl) (by kernel_rfl) ?_
  refine ps_p (o_rmrest 884734 0) (.bool true) (eqt ((m.k) : Int) ((8) : Int) (by omega)) ?_
  refine ps_k (o_rmrest 884734 1) (.bool true) ?_
  refine ps_end ?_
  refine then_n ?_
  refine sy_ys (.tmp 60) (part_rmrest 1769470) (part_rmrest 1769471) ?_
  refine sy_sq (part_rmrest 3538940) (part_rmrest 3538941) ?_
  refine sy_reg ?_
  refine rg_plain 23 (opsAt (part_rmrest 3538940)) [0, 1, 2, 3] (by kernel_rfl) (by kernel_rfl) ?_
  refine ps_k (o_rmrest 3538940 0) (pT b 0) ?_
  refine ps_c (o_rmrest 3538940 1) 44 #[pT b 0, .int .i64 1, .int .i64 3] Try.func44 ((rrN_ok b rv l s 1 3 _ h11 (by decide) (by decide)).mono ?_)
  rintro e V15 ⟨rfl, hR16, kV15⟩
  refine ⟨_, rfl, ?_⟩
  have h17 := kV15.bo h12 (by omega)
  have h18 := kV15.bo h8 (by omega)
  have K19 : Keeps (One b) w V15 := K13.then kV15 (fun i hi hm => by unfold Own.One at hm; subst hm; exact rfl)
  have z20 := kV15.size
  refine ps_k (o_rmrest 3538940 2) (pT gm 11) ?_
  obtain ⟨V21, eV21, kV21⟩ := cell_step V15 gm 11 (.int .i64 (rdN l s 1 3).1)
  have h22 : V21.heap[gm]? = some (.cells (Msg.c (NF.set m ((rdN l s 1 3).1) .pf)) 35 (0, 0)) := eV21 ▸ ((heap_setCell_same _ gm 11 _ _ (.int .i64 (rdN l s 1 3).1) h17).trans (congrArg (fun c => some (Obj.cells c 35 (0, 0))) (show (Msg.c m : Array Value).setIfInBounds 11 (.int .i64 (rdN l s 1 3).1) = Msg.c (NF.set m ((rdN l s 1 3).1) .pf) from Msg.set_n hr NF.pf _)))
  refine ps_s (o_rmrest 3538940 3) (w' := V21) (by rw [← eV21]; exact exec_store_cell 3 (.tmp 64) (.tmp 63) (by kernel_rfl) gm 11 (by kernel_rfl) (.int .i64 (rdN l s 1 3).1) (by kernel_rfl) (by kernel_rfl) (by kernel_rfl) (.int .i64 m.pf) (rc (h17) (Msg.get_n hr NF.pf)) (frozen_of_row _ _ _ _ _ h17) (by kernel_rfl)) ?_
  clear eV21
  have h23 := kV21.bo h18 (by omega)
  have h24 : RrAt V21 b rv l ((rdN l s 1 3).2) := hR16.keeps kV21 (by unfold Own.One; omega) (fun j hj e => by have := hov j hj; unfold Own.One at e; omega)
  have K25 := K19.no kV21 (by omega)
  have z26 := kV21.size
  refine ps_end ?_
  refine sy_a ⟨#[pT b 0, .agg (Msg.c m), undef, pT gm 0, pT ga 0, pT gm 0, .int .i64 m.k, .bool false, .bool false, undef, undef, undef, undef, undef, undef, .bool false, .bool false, undef, undef, undef, undef, undef, undef, .bool false, .bool false, undef, undef, undef, undef, undef, undef, .bool false, .bool false, undef, undef, undef, undef, undef, undef, .bool false, .bool false, undef, undef, undef, undef, undef, undef, undef, undef, undef, .bool false, .bool false, undef, undef, undef, .bool false, .bool false, undef, undef, undef, .bool true, .bool true, pT b 0, .int .i64 (rdN l s 1 3).1, pT gm 11, undef, undef, undef, undef, undef, undef, undef, undef, undef, undef, undef, undef, undef, undef, undef, undef, undef, undef, undef, undef, undef], []⟩ ?_
  refine then_n ?_
  refine sy_sq (part_rmrest 7077882) (part_rmrest 7077883) ?_
  refine sy_reg ?_
  refine rg_plain 24 (opsAt (part_rmrest 7077882)) [0, 1, 2] (by kernel_rfl) (by kernel_rfl) ?_
  refine ps_k (o_rmrest 7077882 0) (pT gm 11) ?_
  refine ps_p (o_rmrest 7077882 1) (.int .i64 ((rdN l s 1 3).1)) (exec_ld 3 (.tmp 65) gm 11 Try.underlying3 (rc (h22) (Msg.get_n (NF.R hr) NF.pf))) ?_
  refine ps_p (o_rmrest 7077882 2) (.bool false) (eqf (((rdN l s 1 3).1) : Int) ((3) : Int) (by omega)) ?_
  refine ps_end ?_
  refine then_n ?_
  refine sy_n (.tmp 67) (part_rmrest 14155766) (part_rmrest 14155767) ?_
  refine sy_sq (part_rmrest 28311534) (part_rmrest 28311535) ?_
  refine sy_reg ?_
  refine rg_plain 27 (opsAt (part_rmrest 28311534)) [0, 1, 2, 3] (by kernel_rfl) (by kernel_rfl) ?_
  refine ps_k (o_rmrest 28311534 0) (pT b 0) ?_
  refine ps_c (o_rmrest 28311534 1) 69 #[pT b 0] Try.func69 ((rmattestation_ok b rv l ((rdN l s 1 3).2) _ h24 (fun j hj => by have := hov j hj; omega) hl).mono ?_)
  rintro e V27 ⟨rfl, hR28, kV27⟩
  refine ⟨_, rfl, ?_⟩
  have h29 := kV27.bo h23 (by omega)
  have h30 := kV27.bo h22 (by omega)
  have K31 : Keeps (One b) w V27 := K25.then kV27 (fun i hi hm => by unfold Own.One at hm; subst hm; exact rfl)
  have z32 := kV27.size
  refine ps_k (o_rmrest 28311534 2) (pT gm 12) ?_
  obtain ⟨V33, eV33⟩ : ∃ V, V27.setCells gm 12 (Att.c ((attM l ((rdN l s 1 3).2)))).toList = V := ⟨_, rfl⟩
  have kV33 : Keeps (One gm) V27 V33 := eV33 ▸ Keeps.setCells _ _ _ _
  have h34 : V33.heap[gm]? = some (.cells (Msg.c (putA (NF.set m ((rdN l s 1 3).1) .pf) ((attM l ((rdN l s 1 3).2))))) 35 (0, 0)) := eV33 ▸ (heap_setCells gm _ _ 12 _ _ h30 (show 12 + (Att.c ((attM l ((rdN l s 1 3).2)))).toList.length ≤ _ by rw [(show (Att.c ((attM l ((rdN l s 1 3).2)))).toList.length = 36 from Att.tl (attM_len _ _)), Msg.c_size (NF.R hr)]; decide)).trans (congrArg (fun c => some (Obj.cells c 35 (0, 0))) (Msg.set_A (NF.R hr) _ (attM_len _ _)))
  refine ps_s (o_rmrest 28311534 3) (w' := V33) (by rw [← eV33]; exact exec_store_mid 31 (.tmp 76) (.tmp 75) (by kernel_rfl) gm 12 (by kernel_rfl) (Att.c ((attM l ((rdN l s 1 3).2)))) (by kernel_rfl) _ _ h30 (show 12 + (Att.c ((attM l ((rdN l s 1 3).2)))).toList.length ≤ _ by rw [(show (Att.c ((attM l ((rdN l s 1 3).2)))).toList.length = 36 from Att.tl (attM_len _ _)), Msg.c_size (NF.R hr)]; decide) (by rw [Att.c_size _ (attM_len _ _)]; kernel_rfl) (Att.c_one _)) ?_
  clear eV33
  have h35 := kV33.bo h29 (by omega)
  have h36 : RrAt V33 b rv l ((atG l ((rdN l s 1 3).2)).2) := hR28.keeps kV33 (by unfold Own.One; omega) (fun j hj e => by have := hov j hj; unfold Own.One at e; omega)
  have K37 := K31.no kV33 (by omega)
  have z38 := kV33.size
  refine ps_end ?_
  refine then_n ?_
  refine sy_reg ?_
  refine rg_plain 28 (opsAt (part_rmrest 28311535)) [0, 1, 2, 3] (by kernel_rfl) (by kernel_rfl) ?_
  refine ps_k (o_rmrest 28311535 0) (pT b 0) ?_
  refine ps_c (o_rmrest 28311535 1) 69 #[pT b 0] Try.func69 ((rmattestation_ok b rv l ((atG l ((rdN l s 1 3).2)).2) _ h36 (fun j hj => by have := hov j hj; omega) hl).mono ?_)
  rintro e V39 ⟨rfl, hR40, kV39⟩
  refine ⟨_, rfl, ?_⟩
  have h41 := kV39.bo h35 (by omega)
  have h42 := kV39.bo h34 (by omega)
  have K43 : Keeps (One b) w V39 := K37.then kV39 (fun i hi hm => by unfold Own.One at hm; subst hm; exact rfl)
  have z44 := kV39.size
  refine ps_k (o_rmrest 28311535 2) (pT gm 48) ?_
  obtain ⟨V45, eV45⟩ : ∃ V, V39.setCells gm 48 (Att.c ((attM l ((atG l ((rdN l s 1 3).2)).2)))).toList = V := ⟨_, rfl⟩
  have kV45 : Keeps (One gm) V39 V45 := eV45 ▸ Keeps.setCells _ _ _ _
  have h46 : V45.heap[gm]? = some (.cells (Msg.c (putB (putA (NF.set m ((rdN l s 1 3).1) .pf) ((attM l ((rdN l s 1 3).2)))) ((attM l ((atG l ((rdN l s 1 3).2)).2))))) 35 (0, 0)) := eV45 ▸ (heap_setCells gm _ _ 48 _ _ h42 (show 48 + (Att.c ((attM l ((atG l ((rdN l s 1 3).2)).2)))).toList.length ≤ _ by rw [(show (Att.c ((attM l ((atG l ((rdN l s 1 3).2)).2)))).toList.length = 36 from Att.tl (attM_len _ _)), Msg.c_size (putA_R (NF.R hr) (attM_len _ _))]; decide)).trans (congrArg (fun c => some (Obj.cells c 35 (0, 0))) (Msg.set_B (putA_R (NF.R hr) (attM_len _ _)) _ (attM_len _ _)))
  refine ps_s (o_rmrest 28311535 3) (w' := V45) (by rw [← eV45]; exact exec_store_mid 31 (.tmp 79) (.tmp 78) (by kernel_rfl) gm 48 (by kernel_rfl) (Att.c ((attM l ((atG l ((rdN l s 1 3).2)).2)))) (by kernel_rfl) _ _ h42 (show 48 + (Att.c ((attM l ((atG l ((rdN l s 1 3).2)).2)))).toList.length ≤ _ by rw [(show (Att.c ((attM l ((atG l ((rdN l s 1 3).2)).2)))).toList.length = 36 from Att.tl (attM_len _ _)), Msg.c_size (putA_R (NF.R hr) (attM_len _ _))]; decide) (by rw [Att.c_size _ (attM_len _ _)]; kernel_rfl) (Att.c_one _)) ?_
  clear eV45
  have h47 := kV45.bo h41 (by omega)
  have h48 : RrAt V45 b rv l ((atG l ((atG l ((rdN l s 1 3).2)).2)).2) := hR40.keeps kV45 (by unfold Own.One; omega) (fun j hj e => by have := hov j hj; unfold Own.One at e; omega)
  have K49 := K43.no kV45 (by omega)
  have z50 := kV45.size
  refine ps_end ?_
  refine blk_n ?_
  refine then_n ?_
  refine sy_sq (part_rmrest 14) (part_rmrest 15) ?_
  refine sy_reg ?_
  refine rg_plain 31 (opsAt (part_rmrest 14)) [0, 1] (by kernel_rfl) (by kernel_rfl) ?_
  refine ps_p (o_rmrest 14 0) (.agg (Msg.c (putB (putA (NF.set m ((rdN l s 1 3).1) .pf) ((attM l ((rdN l s 1 3).2)))) ((attM l ((atG l ((rdN l s 1 3).2)).2)))))) (exec_load_row 35 (.tmp 3) (by kernel_rfl) gm (by kernel_rfl) _ _ (0, 0) _ (h46) Try.underlying35 rfl (by rw [Msg.c_size (putB_R (putA_R (NF.R hr) (attM_len _ _)) (attM_len _ _))]; kernel_rfl)) ?_
  obtain ⟨V51, eV51, kV51⟩ := rowset_step V45 ga ((Msg.c (putB (putA (NF.set m ((rdN l s 1 3).1) .pf) ((attM l ((rdN l s 1 3).2)))) ((attM l ((atG l ((rdN l s 1 3).2)).2))))))
  have h52 : V51.heap[ga]? = some (.cells (Msg.c (putB (putA (NF.set m ((rdN l s 1 3).1) .pf) ((attM l ((rdN l s 1 3).2)))) ((attM l ((atG l ((rdN l s 1 3).2)).2))))) 35 (0, 0)) := eV51 ▸ setRow_heap _ _ _ _ _ _ h47
  refine ps_s (o_rmrest 14 1) (w' := V51) (by rw [← eV51]; exact exec_store_row 35 (.tmp 4) (.tmp 85) (by kernel_rfl) ga ((Msg.c (putB (putA (NF.set m ((rdN l s 1 3).1) .pf) ((attM l ((rdN l s 1 3).2)))) ((attM l ((atG l ((rdN l s 1 3).2)).2)))))) (by kernel_rfl) (by kernel_rfl) 35 ((Msg.c msgZ)) h47 (by rw [Msg.c_size (putB_R (putA_R (NF.R hr) (attM_len _ _)) (attM_len _ _))]; kernel_rfl) (by rw [Msg.c_size (putB_R (putA_R (NF.R hr) (attM_len _ _)) (attM_len _ _))]; exact (Msg.c_size msgZ_R).symm) (Msg.c_one _)) ?_
  clear eV51
  have h53 : RrAt V51 b rv l ((atG l ((atG l ((rdN l s 1 3).2)).2)).2) := h48.keeps kV51 (by unfold Own.One; omega) (fun j hj e => by have := hov j hj; unfold Own.One at e; omega)
  have h54 := kV51.bo h46 (by omega)
  have K55 := K49.no kV51 (by omega)
  have z56 := kV51.size
  refine ps_end ?_
  refine then_n ?_
  refine sy_ret (by kernel_rfl) ?_
  refine sy_out (.agg (Msg.c (putB (putA (NF.set m ((rdN l s 1 3).1) .pf) ((attM l ((rdN l s 1 3).2)))) ((attM l ((atG l ((rdN l s 1 3).2)).2)))))) rfl (results_cell_row (p := 4) (ty := 35) (by kernel_rfl) _ _ ga 35 (Msg.c (putB (putA (NF.set m ((rdN l s 1 3).1) .pf) ((attM l ((rdN l s 1 3).2)))) ((attM l ((atG l ((rdN l s 1 3).2)).2))))) (0, 0) _ (by kernel_rfl) h52 Try.underlying35 rfl (by rw [Msg.c_size (putB_R (putA_R (NF.R hr) (attM_len _ _)) (attM_len _ _))]; kernel_rfl)) ?_
  exact ⟨rfl, h53, K55⟩
theorem rest_8f (l : List UInt8) (m : Msg) (s : RS) (hp : ¬ (rdN l s 1 3).1 = 3) : restR l 8 (m, s) = ((putB (putA (NF.set m ((rdN l s 1 3).1) .pf) ((attM l ((rdN l s 1 3).2)))) ((attM l ((atG l ((rdN l s 1 3).2)).2)))), (atG l ((atG l ((rdN l s 1 3).2)).2)).2) := by
  unfold restR; rw [if_pos rfl, rd_n0 _ _ _ _ _ _ (by decide)]
  dsimp only [NF.set]
  rw [show evM (rdN l s 1 3).1 = _ from if_neg hp, List.foldl_append, att_rd, att_rd']
set_option maxRecDepth 100000 in
set_option maxHeartbeats 4000000 in
theorem rmrest_9_ (b : Nat) (rv : Value) (l : List UInt8) (s : RS) (m : Msg) (w : World) (hr : m.R) (hk : m.k = 9) (hR : RrAt w b rv l s) (hov : ∀ j, rv.ownBlock = some j → j < w.heap.size) (hl : l.length ≤ 100000000) :
    Calls Try.prog 45 #[.pointer (some ⟨b, 0, none⟩), .agg (Msg.c m)] w (fun e w' => e = .returned (.agg (Msg.c ((NF.set m ((rdN l s 0 31).1) .vl)))) ∧ RrAt w' b rv l ((rdN l s 0 31).2) ∧ Keeps (One b) w w') := by
  have hbl := hR.lt
  have K0 : Keeps (One b) w w := Keeps.refl _ _
  refine sy_enter (part_rmrest 1) ⟨#[pT b 0, .agg (Msg.c m), undef, undef, undef, undef, undef, undef, undef, undef, undef, undef, undef, undef, undef, undef, undef, undef, undef, undef, undef, undef, undef, undef, undef, undef, undef, undef, undef, undef, undef, undef, undef, undef, undef, undef, undef, undef, undef, undef, undef, undef, undef, undef, undef, undef, undef, undef, undef, undef, undef, undef, undef, undef, undef, undef, undef, undef, undef, undef, undef, undef, undef, undef, undef, undef, undef, undef, undef, undef, undef, undef, undef, undef, undef, undef, undef, undef, undef, undef, undef, undef, undef, undef, undef, undef], []⟩ Try.func45 (by kernel_rfl) (by kernel_rfl) ?_
  refine sy_sq (part_rmrest 2) (part_rmrest 3) ?_
  refine sy_reg ?_
  refine rg_plain 0 (opsAt (part_rmrest 2)) [0, 1] (by kernel_rfl) (by kernel_rfl) ?_
  obtain ⟨V1, eV1, gm, egm, h2, kV1⟩ := alloc_step w ((Msg.c m)) 35
  have n3 : w.heap.size ≤ gm := egm ▸ K0.size
  refine ps_r (o_rmrest 2 0) (pT gm 0) (w' := V1) (by rw [← eV1, ← egm]; exact exec_box 35 (.tmp 1) (by kernel_rfl) (.agg (Msg.c m)) (by kernel_rfl)) ?_
  clear eV1
  have h4 : RrAt V1 b rv l s := hR.keeps kV1 (fun x => x) (fun _ _ x => x)
  have K5 := K0.nn kV1
  have z6 := kV1.size
  obtain ⟨V7, eV7, ga, ega, h8, kV7⟩ := alloc_step V1 ((Msg.c msgZ)) 35
  have n9 : gm < ga := ega ▸ lt_of_block h2
  have n10 : w.heap.size ≤ ga := ega ▸ K5.size
  refine ps_r (o_rmrest 2 1) (pT ga 0) (w' := V7) (by rw [← eV7, ← ega]; exact exec_alloc0 35 (by kernel_rfl) (.agg ((Msg.c msgZ))) (by kernel_rfl)) ?_
  clear eV7
  have h11 : RrAt V7 b rv l s := h4.keeps kV7 (fun x => x) (fun _ _ x => x)
  have h12 := kV7.bk h2
  have K13 := K5.nn kV7
  have z14 := kV7.size
  refine ps_end ?_
  refine then_n ?_
  refine sy_sq (part_rmrest 6) (part_rmrest 7) ?_
  refine sy_sq (part_rmrest 12) (part_rmrest 13) ?_
  refine sy_reg ?_
  refine rg_plain 1 (opsAt (part_rmrest 12)) [0, 1] (by kernel_rfl) (by kernel_rfl) ?_
  refine ps_k (o_rmrest 12 0) (pT gm 0) ?_
  refine ps_p (o_rmrest 12 1) (.int .i64 m.k) (exec_ld 3 (.tmp 5) gm 0 Try.underlying3 (rc (h12) (Msg.get_n hr NF.k))) ?_
  refine ps_end ?_
  refine then_n ?_
  refine sy_bk 0 (part_rmrest 26) ?_
  refine sy_sq (part_rmrest 52) (part_rmrest 53) ?_
  refine sy_reg ?_
  refine rg_plain 2 (opsAt (part_rmrest 52)) [0, 1] (by kernel_rfl) (by kernel_rfl) ?_
  refine ps_p (o_rmrest 52 0) (.bool false) (eqf ((m.k) : Int) ((1) : Int) (by omega)) ?_
  refine ps_k (o_rmrest 52 1) (.bool false) ?_
  refine ps_end ?_
  refine then_n ?_
  refine sy_n (.tmp 7) (part_rmrest 106) (part_rmrest 107) ?_
  refine sy_sq (part_rmrest 214) (part_rmrest 215) ?_
  refine sy_reg ?_
  refine rg_plain 5 (opsAt (part_rmrest 214)) [0, 1] (by kernel_rfl) (by kernel_rfl) ?_
  refine ps_p (o_rmrest 214 0) (.bool false) (eqf ((m.k) : Int) ((2) : Int) (by omega)) ?_
  refine ps_k (o_rmrest 214 1) (.bool false) ?_
  refine ps_end ?_
  refine then_n ?_
  refine sy_n (.tmp 15) (part_rmrest 430) (part_rmrest 431) ?_
  refine sy_sq (part_rmrest 862) (part_rmrest 863) ?_
  refine sy_reg ?_
  refine rg_plain 8 (opsAt (part_rmrest 862)) [0, 1] (by kernel_rfl) (by kernel_rfl) ?_
  refine ps_p (o_rmrest 862 0) (.bool false) (eqf ((m.k) : Int) ((3) : Int) (by omega)) ?_
  refine ps_k (o_rmrest 862 1) (.bool false) ?_
  refine ps_end ?_
  refine then_n ?_
  refine sy_n (.tmp 23) (part_rmrest 1726) (part_rmrest 1727) ?_
  refine sy_sq (part_rmrest 3454) (part_rmrest 3455) ?_
  refine sy_reg ?_
  refine rg_plain 11 (opsAt (part_rmrest 3454)) [0, 1] (by kernel_rfl) (by kernel_rfl) ?_
  refine ps_p (o_rmrest 3454 0) (.bool false) (eqf ((m.k) : Int) ((4) : Int) (by omega)) ?_
  refine ps_k (o_rmrest 3454 1) (.bool false) ?_
  refine ps_end ?_
  refine then_n ?_
  refine sy_n (.tmp 31) (part_rmrest 6910) (part_rmrest 6911) ?_
  refine sy_sq (part_rmrest 13822) (part_rmrest 13823) ?_
  refine sy_reg ?_
  refine rg_plain 14 (opsAt (part_rmrest 13822)) [0, 1] (by kernel_rfl) (by kernel_rfl) ?_
  refine ps_p (o_rmrest 13822 0) (.bool false) (eqf ((m.k) : Int) ((5) : Int) (by omega)) ?_
  refine ps_k (o_rmrest 13822 1) (.bool false) ?_
  refine ps_end ?_
  refine then_n ?_
  refine sy_n (.tmp 39) (part_rmrest 27646) (part_rmrest 27647) ?_
  refine sy_sq (part_rmrest 55294) (part_rmrest 55295) ?_
  refine sy_reg ?_
  refine rg_plain 18 (opsAt (part_rmrest 55294)) [0, 1] (by kernel_rfl) (by kernel_rfl) ?_
  refine ps_p (o_rmrest 55294 0) (.bool false) (eqf ((m.k) : Int) ((6) : Int) (by omega)) ?_
  refine ps_k (o_rmrest 55294 1) (.bool false) ?_
  refine ps_end ?_
  refine then_n ?_
  refine sy_n (.tmp 50) (part_rmrest 110590) (part_rmrest 110591) ?_
  refine sy_sq (part_rmrest 221182) (part_rmrest 221183) ?_
  refine sy_reg ?_
  refine rg_plain 20 (opsAt (part_rmrest 221182)) [0, 1] (by kernel_rfl) (by kernel_rfl) ?_
  refine ps_p (o_rmrest 221182 0) (.bool false) (eqf ((m.k) : Int) ((7) : Int) (by omega)) ?_
  refine ps_k (o_rmrest 221182 1) (.bool false) ?_
  refine ps_end ?_
  refine then_n ?_
  refine sy_n (.tmp 55) (part_rmrest 442366) (part_rmrest 442367) ?_
  refine sy_sq (part_rmrest 884734) (part_rmrest 884735) ?_
  refine sy_reg ?_
  refine rg_plain 22 (opsAt (part_rmrest 884734)) [0, 1] (by kernel_rfl) (by kernel_rfl) ?_
  refine ps_p (o_rmrest 884734 0) (.bool false) (eqf ((m.k) : Int) ((8) : Int) (by omega)) ?_
  refine ps_k (o_rmrest 884734 1) (.bool false) ?_
  refine ps_end ?_
  refine then_n ?_
  refine sy_n (.tmp 60) (part_rmrest 1769470) (part_rmrest 1769471) ?_
  refine sy_sq (part_rmrest 3538942) (part_rmrest 3538943) ?_
  refine sy_reg ?_
  refine rg_plain 29 (opsAt (part_rmrest 3538942)) [0, 1] (by kernel_rfl) (by kernel_rfl) ?_
  refine ps_p (o_rmrest 3538942 0) (.bool true) (eqt ((m.k) : Int) ((9) : Int) (by omega)) ?_
  refine ps_k (o_rmrest 3538942 1) (.bool true) ?_
  refine ps_end ?_
  refine then_n ?_
  refine sy_ys (.tmp 80) (part_rmrest 7077886) (part_rmrest 7077887) ?_
  refine sy_reg ?_
  refine rg_plain 30 (opsAt (part_rmrest 7077886)) [0, 1, 2, 3] (by kernel_rfl) (by kernel_rfl) ?_
  refine ps_k (o_rmrest 7077886 0) (pT b 0) ?_
  refine ps_c (o_rmrest 7077886 1) 44 #[pT b 0, .int .i64 0, .int .i64 31] Try.func44 ((rrN_ok b rv l s 0 31 _ h11 (by decide) (by decide)).mono ?_)
  rintro e V15 ⟨rfl, hR16, kV15⟩
  refine ⟨_, rfl, ?_⟩
  have h17 := kV15.bo h12 (by omega)
  have h18 := kV15.bo h8 (by omega)
  have K19 : Keeps (One b) w V15 := K13.then kV15 (fun i hi hm => by unfold Own.One at hm; subst hm; exact rfl)
  have z20 := kV15.size
  refine ps_k (o_rmrest 7077886 2) (pT gm 2) ?_
  obtain ⟨V21, eV21, kV21⟩ := cell_step V15 gm 2 (.int .i64 (rdN l s 0 31).1)
  have h22 : V21.heap[gm]? = some (.cells (Msg.c (NF.set m ((rdN l s 0 31).1) .vl)) 35 (0, 0)) := eV21 ▸ ((heap_setCell_same _ gm 2 _ _ (.int .i64 (rdN l s 0 31).1) h17).trans (congrArg (fun c => some (Obj.cells c 35 (0, 0))) (show (Msg.c m : Array Value).setIfInBounds 2 (.int .i64 (rdN l s 0 31).1) = Msg.c (NF.set m ((rdN l s 0 31).1) .vl) from Msg.set_n hr NF.vl _)))
  refine ps_s (o_rmrest 7077886 3) (w' := V21) (by rw [← eV21]; exact exec_store_cell 3 (.tmp 84) (.tmp 83) (by kernel_rfl) gm 2 (by kernel_rfl) (.int .i64 (rdN l s 0 31).1) (by kernel_rfl) (by kernel_rfl) (by kernel_rfl) (.int .i64 m.vl) (rc (h17) (Msg.get_n hr NF.vl)) (frozen_of_row _ _ _ _ _ h17) (by kernel_rfl)) ?_
  clear eV21
  have h23 := kV21.bo h18 (by omega)
  have h24 : RrAt V21 b rv l ((rdN l s 0 31).2) := hR16.keeps kV21 (by unfold Own.One; omega) (fun j hj e => by have := hov j hj; unfold Own.One at e; omega)
  have K25 := K19.no kV21 (by omega)
  have z26 := kV21.size
  refine ps_end ?_
  refine sy_a ⟨#[pT b 0, .agg (Msg.c m), undef, pT gm 0, pT ga 0, pT gm 0, .int .i64 m.k, .bool false, .bool false, undef, undef, undef, undef, undef, undef, .bool false, .bool false, undef, undef, undef, undef, undef, undef, .bool false, .bool false, undef, undef, undef, undef, undef, undef, .bool false, .bool false, undef, undef, undef, undef, undef, undef, .bool false, .bool false, undef, undef, undef, undef, undef, undef, undef, undef, undef, .bool false, .bool false, undef, undef, undef, .bool false, .bool false, undef, undef, undef, .bool false, .bool false, undef, undef, undef, undef, undef, undef, undef, undef, undef, undef, undef, undef, undef, undef, undef, undef, undef, undef, .bool true, .bool true, pT b 0, .int .i64 (rdN l s 0 31).1, pT gm 2, undef], []⟩ ?_
  refine blk_n ?_
  refine then_n ?_
  refine sy_sq (part_rmrest 14) (part_rmrest 15) ?_
  refine sy_reg ?_
  refine rg_plain 31 (opsAt (part_rmrest 14)) [0, 1] (by kernel_rfl) (by kernel_rfl) ?_
  refine ps_p (o_rmrest 14 0) (.agg (Msg.c (NF.set m ((rdN l s 0 31).1) .vl))) (exec_load_row 35 (.tmp 3) (by kernel_rfl) gm (by kernel_rfl) _ _ (0, 0) _ (h22) Try.underlying35 rfl (by rw [Msg.c_size (NF.R hr)]; kernel_rfl)) ?_
  obtain ⟨V27, eV27, kV27⟩ := rowset_step V21 ga ((Msg.c (NF.set m ((rdN l s 0 31).1) .vl)))
  have h28 : V27.heap[ga]? = some (.cells (Msg.c (NF.set m ((rdN l s 0 31).1) .vl)) 35 (0, 0)) := eV27 ▸ setRow_heap _ _ _ _ _ _ h23
  refine ps_s (o_rmrest 14 1) (w' := V27) (by rw [← eV27]; exact exec_store_row 35 (.tmp 4) (.tmp 85) (by kernel_rfl) ga ((Msg.c (NF.set m ((rdN l s 0 31).1) .vl))) (by kernel_rfl) (by kernel_rfl) 35 ((Msg.c msgZ)) h23 (by rw [Msg.c_size (NF.R hr)]; kernel_rfl) (by rw [Msg.c_size (NF.R hr)]; exact (Msg.c_size msgZ_R).symm) (Msg.c_one _)) ?_
  clear eV27
  have h29 : RrAt V27 b rv l ((rdN l s 0 31).2) := h24.keeps kV27 (by unfold Own.One; omega) (fun j hj e => by have := hov j hj; unfold Own.One at e; omega)
  have h30 := kV27.bo h22 (by omega)
  have K31 := K25.no kV27 (by omega)
  have z32 := kV27.size
  refine ps_end ?_
  refine then_n ?_
  refine sy_ret (by kernel_rfl) ?_
  refine sy_out (.agg (Msg.c (NF.set m ((rdN l s 0 31).1) .vl))) rfl (results_cell_row (p := 4) (ty := 35) (by kernel_rfl) _ _ ga 35 (Msg.c (NF.set m ((rdN l s 0 31).1) .vl)) (0, 0) _ (by kernel_rfl) h28 Try.underlying35 rfl (by rw [Msg.c_size (NF.R hr)]; kernel_rfl)) ?_
  exact ⟨rfl, h29, K31⟩
theorem rest_9 (l : List UInt8) (m : Msg) (s : RS) : restR l 9 (m, s) = ((NF.set m ((rdN l s 0 31).1) .vl), (rdN l s 0 31).2) := by
  unfold restR; rw [if_neg (by decide)]
  show rdIt l (m, s) (.n .vl 0 31) = _
  rw [rd_n0 _ _ _ _ _ _ (by decide)]
set_option maxRecDepth 100000 in
set_option maxHeartbeats 4000000 in
theorem rmrest_10_ (b : Nat) (rv : Value) (l : List UInt8) (s : RS) (m : Msg) (w : World) (hr : m.R) (hk : m.k = 10) (hR : RrAt w b rv l s) (hov : ∀ j, rv.ownBlock = some j → j < w.heap.size) (hl : l.length ≤ 100000000) :
    Calls Try.prog 45 #[.pointer (some ⟨b, 0, none⟩), .agg (Msg.c m)] w (fun e w' => e = .returned (.agg (Msg.c m)) ∧ RrAt w' b rv l s ∧ Keeps (One b) w w') := by
  have hbl := hR.lt
  have K0 : Keeps (One b) w w := Keeps.refl _ _
  refine sy_enter (part_rmrest 1) ⟨#[pT b 0, .agg (Msg.c m), undef, undef, undef, undef, undef, undef, undef, undef, undef, undef, undef, undef, undef, undef, undef, undef, undef, undef, undef, undef, undef, undef, undef, undef, undef, undef, undef, undef, undef, undef, undef, undef, undef, undef, undef, undef, undef, undef, undef, undef, undef, undef, undef, undef, undef, undef, undef, undef, undef, undef, undef, undef, undef, undef, undef, undef, undef, undef, undef, undef, undef, undef, undef, undef, undef, undef, undef, undef, undef, undef, undef, undef, undef, undef, undef, undef, undef, undef, undef, undef, undef, undef, undef, undef], []⟩ Try.func45 (by kernel_rfl) (by kernel_rfl) ?_
  refine sy_sq (part_rmrest 2) (part_rmrest 3) ?_
  refine sy_reg ?_
  refine rg_plain 0 (opsAt (part_rmrest 2)) [0, 1] (by kernel_rfl) (by kernel_rfl) ?_
  obtain ⟨V1, eV1, gm, egm, h2, kV1⟩ := alloc_step w ((Msg.c m)) 35
  have n3 : w.heap.size ≤ gm := egm ▸ K0.size
  refine ps_r (o_rmrest 2 0) (pT gm 0) (w' := V1) (by rw [← eV1, ← egm]; exact exec_box 35 (.tmp 1) (by kernel_rfl) (.agg (Msg.c m)) (by kernel_rfl)) ?_
  clear eV1
  have h4 : RrAt V1 b rv l s := hR.keeps kV1 (fun x => x) (fun _ _ x => x)
  have K5 := K0.nn kV1
  have z6 := kV1.size
  obtain ⟨V7, eV7, ga, ega, h8, kV7⟩ := alloc_step V1 ((Msg.c msgZ)) 35
  have n9 : gm < ga := ega ▸ lt_of_block h2
  have n10 : w.heap.size ≤ ga := ega ▸ K5.size
  refine ps_r (o_rmrest 2 1) (pT ga 0) (w' := V7) (by rw [← eV7, ← ega]; exact exec_alloc0 35 (by kernel_rfl) (.agg ((Msg.c msgZ))) (by kernel_rfl)) ?_
  clear eV7
  have h11 : RrAt V7 b rv l s := h4.keeps kV7 (fun x => x) (fun _ _ x => x)
  have h12 := kV7.bk h2
  have K13 := K5.nn kV7
  have z14 := kV7.size
  refine ps_end ?_
  refine then_n ?_
  refine sy_sq (part_rmrest 6) (part_rmrest 7) ?_
  refine sy_sq (part_rmrest 12) (part_rmrest 13) ?_
  refine sy_reg ?_
  refine rg_plain 1 (opsAt (part_rmrest 12)) [0, 1] (by kernel_rfl) (by kernel_rfl) ?_
  refine ps_k (o_rmrest 12 0) (pT gm 0) ?_
  refine ps_p (o_rmrest 12 1) (.int .i64 m.k) (exec_ld 3 (.tmp 5) gm 0 Try.underlying3 (rc (h12) (Msg.get_n hr NF.k))) ?_
  refine ps_end ?_
  refine then_n ?_
  refine sy_bk 0 (part_rmrest 26) ?_
  refine sy_sq (part_rmrest 52) (part_rmrest 53) ?_
  refine sy_reg ?_
  refine rg_plain 2 (opsAt (part_rmrest 52)) [0, 1] (by kernel_rfl) (by kernel_rfl) ?_
  refine ps_p (o_rmrest 52 0) (.bool false) (eqf ((m.k) : Int) ((1) : Int) (by omega)) ?_
  refine ps_k (o_rmrest 52 1) (.bool false) ?_
  refine ps_end ?_
  refine then_n ?_
  refine sy_n (.tmp 7) (part_rmrest 106) (part_rmrest 107) ?_
  refine sy_sq (part_rmrest 214) (part_rmrest 215) ?_
  refine sy_reg ?_
  refine rg_plain 5 (opsAt (part_rmrest 214)) [0, 1] (by kernel_rfl) (by kernel_rfl) ?_
  refine ps_p (o_rmrest 214 0) (.bool false) (eqf ((m.k) : Int) ((2) : Int) (by omega)) ?_
  refine ps_k (o_rmrest 214 1) (.bool false) ?_
  refine ps_end ?_
  refine then_n ?_
  refine sy_n (.tmp 15) (part_rmrest 430) (part_rmrest 431) ?_
  refine sy_sq (part_rmrest 862) (part_rmrest 863) ?_
  refine sy_reg ?_
  refine rg_plain 8 (opsAt (part_rmrest 862)) [0, 1] (by kernel_rfl) (by kernel_rfl) ?_
  refine ps_p (o_rmrest 862 0) (.bool false) (eqf ((m.k) : Int) ((3) : Int) (by omega)) ?_
  refine ps_k (o_rmrest 862 1) (.bool false) ?_
  refine ps_end ?_
  refine then_n ?_
  refine sy_n (.tmp 23) (part_rmrest 1726) (part_rmrest 1727) ?_
  refine sy_sq (part_rmrest 3454) (part_rmrest 3455) ?_
  refine sy_reg ?_
  refine rg_plain 11 (opsAt (part_rmrest 3454)) [0, 1] (by kernel_rfl) (by kernel_rfl) ?_
  refine ps_p (o_rmrest 3454 0) (.bool false) (eqf ((m.k) : Int) ((4) : Int) (by omega)) ?_
  refine ps_k (o_rmrest 3454 1) (.bool false) ?_
  refine ps_end ?_
  refine then_n ?_
  refine sy_n (.tmp 31) (part_rmrest 6910) (part_rmrest 6911) ?_
  refine sy_sq (part_rmrest 13822) (part_rmrest 13823) ?_
  refine sy_reg ?_
  refine rg_plain 14 (opsAt (part_rmrest 13822)) [0, 1] (by kernel_rfl) (by kernel_rfl) ?_
  refine ps_p (o_rmrest 13822 0) (.bool false) (eqf ((m.k) : Int) ((5) : Int) (by omega)) ?_
  refine ps_k (o_rmrest 13822 1) (.bool false) ?_
  refine ps_end ?_
  refine then_n ?_
  refine sy_n (.tmp 39) (part_rmrest 27646) (part_rmrest 27647) ?_
  refine sy_sq (part_rmrest 55294) (part_rmrest 55295) ?_
  refine sy_reg ?_
  refine rg_plain 18 (opsAt (part_rmrest 55294)) [0, 1] (by kernel_rfl) (by kernel_rfl) ?_
  refine ps_p (o_rmrest 55294 0) (.bool false) (eqf ((m.k) : Int) ((6) : Int) (by omega)) ?_
  refine ps_k (o_rmrest 55294 1) (.bool false) ?_
  refine ps_end ?_
  refine then_n ?_
  refine sy_n (.tmp 50) (part_rmrest 110590) (part_rmrest 110591) ?_
  refine sy_sq (part_rmrest 221182) (part_rmrest 221183) ?_
  refine sy_reg ?_
  refine rg_plain 20 (opsAt (part_rmrest 221182)) [0, 1] (by kernel_rfl) (by kernel_rfl) ?_
  refine ps_p (o_rmrest 221182 0) (.bool false) (eqf ((m.k) : Int) ((7) : Int) (by omega)) ?_
  refine ps_k (o_rmrest 221182 1) (.bool false) ?_
  refine ps_end ?_
  refine then_n ?_
  refine sy_n (.tmp 55) (part_rmrest 442366) (part_rmrest 442367) ?_
  refine sy_sq (part_rmrest 884734) (part_rmrest 884735) ?_
  refine sy_reg ?_
  refine rg_plain 22 (opsAt (part_rmrest 884734)) [0, 1] (by kernel_rfl) (by kernel_rfl) ?_
  refine ps_p (o_rmrest 884734 0) (.bool false) (eqf ((m.k) : Int) ((8) : Int) (by omega)) ?_
  refine ps_k (o_rmrest 884734 1) (.bool false) ?_
  refine ps_end ?_
  refine then_n ?_
  refine sy_n (.tmp 60) (part_rmrest 1769470) (part_rmrest 1769471) ?_
  refine sy_sq (part_rmrest 3538942) (part_rmrest 3538943) ?_
  refine sy_reg ?_
  refine rg_plain 29 (opsAt (part_rmrest 3538942)) [0, 1] (by kernel_rfl) (by kernel_rfl) ?_
  refine ps_p (o_rmrest 3538942 0) (.bool false) (eqf ((m.k) : Int) ((9) : Int) (by omega)) ?_
  refine ps_k (o_rmrest 3538942 1) (.bool false) ?_
  refine ps_end ?_
  refine then_n ?_
  refine sy_n (.tmp 80) (part_rmrest 7077886) (part_rmrest 7077887) ?_
  refine sy_sk ?_
  refine blk_n ?_
  refine then_n ?_
  refine sy_sq (part_rmrest 14) (part_rmrest 15) ?_
  refine sy_reg ?_
  refine rg_plain 31 (opsAt (part_rmrest 14)) [0, 1] (by kernel_rfl) (by kernel_rfl) ?_
  refine ps_p (o_rmrest 14 0) (.agg (Msg.c m)) (exec_load_row 35 (.tmp 3) (by kernel_rfl) gm (by kernel_rfl) _ _ (0, 0) _ (h12) Try.underlying35 rfl (by rw [Msg.c_size hr]; kernel_rfl)) ?_
  obtain ⟨V15, eV15, kV15⟩ := rowset_step V7 ga ((Msg.c m))
  have h16 : V15.heap[ga]? = some (.cells (Msg.c m) 35 (0, 0)) := eV15 ▸ setRow_heap _ _ _ _ _ _ h8
  refine ps_s (o_rmrest 14 1) (w' := V15) (by rw [← eV15]; exact exec_store_row 35 (.tmp 4) (.tmp 85) (by kernel_rfl) ga ((Msg.c m)) (by kernel_rfl) (by kernel_rfl) 35 ((Msg.c msgZ)) h8 (by rw [Msg.c_size hr]; kernel_rfl) (by rw [Msg.c_size hr]; exact (Msg.c_size msgZ_R).symm) (Msg.c_one _)) ?_
  clear eV15
  have h17 : RrAt V15 b rv l s := h11.keeps kV15 (by unfold Own.One; omega) (fun j hj e => by have := hov j hj; unfold Own.One at e; omega)
  have h18 := kV15.bo h12 (by omega)
  have K19 := K13.no kV15 (by omega)
  have z20 := kV15.size
  refine ps_end ?_
  refine sy_a ⟨#[pT b 0, .agg (Msg.c m), undef, pT gm 0, pT ga 0, pT gm 0, .int .i64 m.k, .bool false, .bool false, undef, undef, undef, undef, undef, undef, .bool false, .bool false, undef, undef, undef, undef, undef, undef, .bool false, .bool false, undef, undef, undef, undef, undef, undef, .bool false, .bool false, undef, undef, undef, undef, undef, undef, .bool false, .bool false, undef, undef, undef, undef, undef, undef, undef, undef, undef, .bool false, .bool false, undef, undef, undef, .bool false, .bool false, undef, undef, undef, .bool false, .bool false, undef, undef, undef, undef, undef, undef, undef, undef, undef, undef, undef, undef, undef, undef, undef, undef, undef, undef, .bool false, .bool false, undef, undef, undef, .agg (Msg.c m)], []⟩ ?_
  refine then_n ?_
  refine sy_ret (by kernel_rfl) ?_
  refine sy_out (.agg (Msg.c m)) rfl (results_cell_row (p := 4) (ty := 35) (by kernel_rfl) _ _ ga 35 (Msg.c m) (0, 0) _ (by kernel_rfl) h16 Try.underlying35 rfl (by rw [Msg.c_size hr]; kernel_rfl)) ?_
  exact ⟨rfl, h17, K19⟩
theorem rest_10 (l : List UInt8) (m : Msg) (s : RS) : restR l 10 (m, s) = (m, s) := by
  unfold restR; rw [if_neg (by decide)]
  skip
  rfl
theorem rmrest_ok (b : Nat) (rv : Value) (l : List UInt8) (s : RS) (m : Msg) (w : World) (hr : m.R) (h0 : 0 ≤ m.k) (h1 : m.k ≤ 10) (hR : RrAt w b rv l s) (hov : ∀ j, rv.ownBlock = some j → j < w.heap.size) (hl : l.length ≤ 100000000) : Calls Try.prog 45 #[.pointer (some ⟨b, 0, none⟩), .agg (Msg.c m)] w (fun e w' => e = .returned (.agg (Msg.c (restR l m.k.toNat (m, s)).1)) ∧ RrAt w' b rv l (restR l m.k.toNat (m, s)).2 ∧ Keeps (One b) w w') := by
  rcases (show m.k = 0 ∨ m.k = 1 ∨ m.k = 2 ∨ m.k = 3 ∨ m.k = 4 ∨ m.k = 5 ∨ m.k = 6 ∨ m.k = 7 ∨ m.k = 8 ∨ m.k = 9 ∨ m.k = 10 by omega) with h | h | h | h | h | h | h | h | h | h | h
  · rw [h, show ((0 : Int).toNat) = 0 from rfl, rest_0 l m s]; exact rmrest_0_ b rv l s m w hr h hR hov hl
  · rw [h, show ((1 : Int).toNat) = 1 from rfl, rest_1 l m s]; exact rmrest_1_ b rv l s m w hr h hR hov hl
  · rw [h, show ((2 : Int).toNat) = 2 from rfl, rest_2 l m s]; exact rmrest_2_ b rv l s m w hr h hR hov hl
  · rw [h, show ((3 : Int).toNat) = 3 from rfl, rest_3 l m s]; exact rmrest_3_ b rv l s m w hr h hR hov hl
  · rw [h, show ((4 : Int).toNat) = 4 from rfl, rest_4 l m s]; exact rmrest_4_ b rv l s m w hr h hR hov hl
  · rw [h, show ((5 : Int).toNat) = 5 from rfl, rest_5 l m s]; exact rmrest_5_ b rv l s m w hr h hR hov hl
  · rw [h, show ((6 : Int).toNat) = 6 from rfl, rest_6 l m s]; exact rmrest_6_ b rv l s m w hr h hR hov hl
  · rw [h, show ((7 : Int).toNat) = 7 from rfl, rest_7 l m s]; exact rmrest_7_ b rv l s m w hr h hR hov hl
  · rw [h, show ((8 : Int).toNat) = 8 from rfl]
    by_cases hp : (rdN l s 1 3).1 = 3
    · rw [rest_8t l m s hp]; exact rmrest_8t_ b rv l s m w hr h hR hov hl hp
    · rw [rest_8f l m s hp]; exact rmrest_8f_ b rv l s m w hr h hR hov hl hp
  · rw [h, show ((9 : Int).toNat) = 9 from rfl, rest_9 l m s]; exact rmrest_9_ b rv l s m w hr h hR hov hl
  · rw [h, show ((10 : Int).toNat) = 10 from rfl, rest_10 l m s]; exact rmrest_10_ b rv l s m w hr h hR hov hl
def rmRS (l : List UInt8) : Msg × RS := if (mK l).1 = 11 then rdIt l (onlyK (mK l).1, (mK l).2) (.n .n 1 1000) else restR l (mK l).1.toNat (rdIt l (onlyK (mK l).1, (mK l).2) (.n .f 0 63))
theorem mK_le (l : List UInt8) : 0 ≤ (mK l).1 ∧ (mK l).1 ≤ 11 := by have := rdN_le l ⟨0, 0⟩ 1 11; unfold mK; omega
theorem read_stay {s : RS} {k : Nat} {e : Int} (h : ¬ s.err = 0) : s.read k e = s := by unfold RS.read; rw [if_neg h]
theorem kM_head (k : Nat) (h1 : 1 ≤ k) (h2 : k ≤ 10) (h8 : ¬ k = 8) : kM k = .n .f 0 63 :: (kM k).drop 1 := by
  rcases (show k = 1 ∨ k = 2 ∨ k = 3 ∨ k = 4 ∨ k = 5 ∨ k = 6 ∨ k = 7 ∨ k = 9 ∨ k = 10 by omega) with rfl | rfl | rfl | rfl | rfl | rfl | rfl | rfl | rfl <;> rfl
theorem rm_same (l : List UInt8) (h : 1 ≤ (mK l).1) : rmRS l = mRS l := by
  have hle := mK_le l
  unfold rmRS mRS
  rw [if_pos h]
  by_cases h11 : (mK l).1 = 11
  · rw [if_pos h11, h11]; rfl
  · rw [if_neg h11]
    unfold restR rdAll
    by_cases h8 : (mK l).1.toNat = 8
    · rw [if_pos h8, if_pos h8]
      congr 1
      congr 1
      have hz : (rdIt l (onlyK (mK l).1, (mK l).2) (.n .f 0 63)).1.pf = 0 := rfl
      rw [hz]
      by_cases hp : (rdIt l (rdIt l (onlyK (mK l).1, (mK l).2) (.n .f 0 63)) (.n .pf 1 3)).1.pf = 0
      · rw [if_neg (fun h => h hp), hp]
      · rw [if_pos hp]
    · rw [if_neg h8, if_neg h8]
      conv => rhs; rw [kM_head _ (by omega) (by omega) h8, List.foldl_cons]
theorem rm_fault (l : List UInt8) (h : ¬ 1 ≤ (mK l).1) : (rmRS l).2 = (mRS l).2 ∧ ¬ (mRS l).2.err = 0 := by
  have hle := mK_le l
  have h0 : (mK l).1 = 0 := by omega
  have he : ¬ (mK l).2.err = 0 := by
    intro hc
    unfold mK at hc h0
    unfold rdN RS.read at hc
    simp only at hc
    rw [if_pos trivial] at hc
    by_cases h2 : errN ((⟨0, 0⟩ : RS).num l) 1 11 = 0
    · have h3 := (errN_zero h2).2.2.2 (by decide)
      unfold rdN at h0
      rw [if_pos ⟨rfl, h2⟩] at h0
      simp only at h0
      omega
    · rw [if_neg h2] at hc; exact h2 hc
  have e2 : (mRS l).2 = (mK l).2 := by unfold mRS; rw [if_neg h]
  have e1 : (rmRS l).2 = (mK l).2 := by
    unfold rmRS; rw [if_neg (by omega), h0, show ((0 : Int).toNat) = 0 from rfl, rd_n0 _ _ _ _ _ _ (by decide), rest_0]
    exact read_stay he
  rw [e1, e2]; exact ⟨rfl, he⟩
theorem rm_rs (l : List UInt8) : (rmRS l).2 = (mRS l).2 := by
  by_cases h : 1 ≤ (mK l).1
  · rw [rm_same l h]
  · exact (rm_fault l h).1
theorem rm_msg (l : List UInt8) (hz : (mFin l).1 = 0) : (rmRS l).1 = (mRS l).1 := by
  by_cases h : 1 ≤ (mK l).1
  · rw [rm_same l h]
  · exfalso
    have := (rm_fault l h).2
    unfold mFin RS.fin at hz
    rw [if_neg this] at hz
    exact this hz
theorem rmRS_R (l : List UInt8) : (rmRS l).1.R := by
  unfold rmRS
  split
  · exact rd_R _ (onlyK_R _)
  · unfold restR
    split
    · exact rds_R _ _ _ (rd_R _ (rd_R _ (onlyK_R _)))
    · exact rds_R _ _ _ (rd_R _ (onlyK_R _))
noncomputable def part_rmRead (n : Nat) : Code := partOf Try.f12 n
noncomputable abbrev o_rmRead (n k : Nat) : Oper := (opsAt (part_rmRead n)).getD k default
set_option maxRecDepth 100000 in
set_option maxHeartbeats 4000000 in
theorem rmRead_tok (v0 : Value) (l : List UInt8) (w : World) (hx : BytesAt w v0 l) (hl : l.length ≤ 100000000) (hk : (mK l).1 = 11) (hz : (mFin l).1 = 0) :
    Calls Try.prog 12 #[v0] w (fun e w' => e = .returned (.tuple #[.agg (Msg.c (mRes l)), .agg #[.int .i64 (mFin l).1, .int .i64 (mFin l).2]]) ∧ Keeps Nob w w') := by
  have K0 : Keeps Nob w w := Keeps.refl _ _
  refine sy_enter (part_rmRead 1) ⟨#[v0, undef, undef, undef, undef, undef, undef, undef, undef, undef, undef, undef, undef, undef, undef, undef, undef, undef, undef, undef, undef, undef, undef, undef, undef, undef, undef, undef, undef, undef, undef, undef, undef], []⟩ Try.func12 (by kernel_rfl) (by kernel_rfl) ?_
  refine sy_sq (part_rmRead 2) (part_rmRead 3) ?_
  refine sy_reg ?_
  refine rg_plain 0 (opsAt (part_rmRead 2)) [0, 1] (by kernel_rfl) (by kernel_rfl) ?_
  obtain ⟨V1, eV1, ga, ega, h2, kV1⟩ := alloc_step w ((Msg.c msgZ)) 35
  have n3 : w.heap.size ≤ ga := ega ▸ K0.size
  refine ps_r (o_rmRead 2 0) (pT ga 0) (w' := V1) (by rw [← eV1, ← ega]; exact exec_alloc0 35 (by kernel_rfl) (.agg ((Msg.c msgZ))) (by kernel_rfl)) ?_
  clear eV1
  have K4 := K0.nn kV1
  have z5 := kV1.size
  obtain ⟨V6, eV6, gf, egf, h7, kV6⟩ := alloc_step V1 (#[.int .i64 0, .int .i64 0]) 38
  have n8 : ga < gf := egf ▸ lt_of_block h2
  have n9 : w.heap.size ≤ gf := egf ▸ K4.size
  refine ps_r (o_rmRead 2 1) (pT gf 0) (w' := V6) (by rw [← eV6, ← egf]; exact exec_alloc0 38 (by kernel_rfl) (.agg (#[.int .i64 0, .int .i64 0])) (by kernel_rfl)) ?_
  clear eV6
  have h10 := kV6.bk h2
  have K11 := K4.nn kV6
  have z12 := kV6.size
  refine ps_end ?_
  refine then_n ?_
  refine sy_sq (part_rmRead 6) (part_rmRead 7) ?_
  refine sy_reg ?_
  refine rg_plain 1 (opsAt (part_rmRead 6)) [0, 1, 2] (by kernel_rfl) (by kernel_rfl) ?_
  refine ps_k (o_rmRead 6 0) (v0) ?_
  have hlg := lt_of_block h10
  have hlf := lt_of_block h7
  have hKs := K11.size
  refine ps_c (o_rmRead 6 1) 43 #[v0] Try.func43 ((rrNew_ok v0 l _ (hx.keepsN K11) hl).mono ?_)
  rintro e V13 ⟨b, rv, rfl, hR0, hb0, hov, kV13⟩
  have hbl := hR0.lt
  refine ⟨_, rfl, ?_⟩
  have h14 := kV13.bk h10
  have h15 := kV13.bk h7
  have K16 := K11.nn kV13
  have z17 := kV13.size
  refine ps_k (o_rmRead 6 2) (pT b 0) ?_
  refine ps_end ?_
  refine then_n ?_
  refine sy_sq (part_rmRead 14) (part_rmRead 15) ?_
  refine sy_reg ?_
  refine rg_plain 2 (opsAt (part_rmRead 14)) [0, 1, 2, 3, 4] (by kernel_rfl) (by kernel_rfl) ?_
  refine ps_k (o_rmRead 14 0) (pT b 0) ?_
  refine ps_c (o_rmRead 14 1) 44 #[pT b 0, .int .i64 1, .int .i64 11] Try.func44 ((rrN_ok b rv l (⟨0, 0⟩) 1 11 _ hR0 (by decide) (by decide)).mono ?_)
  rintro e V18 ⟨rfl, hR19, kV18⟩
  have hR19' : RrAt V18 b rv l (mK l).2 := hR19
  refine ⟨_, rfl, ?_⟩
  have h20 := kV18.bo h14 (by omega)
  have h21 := kV18.bo h15 (by omega)
  have K22 := K16.no kV18 (by omega)
  have z23 := kV18.size
  refine ps_k (o_rmRead 14 2) (.agg (Msg.c (onlyK (mK l).1))) ?_
  obtain ⟨V24, eV24, gc, egc, h25, kV24⟩ := alloc_step V18 ((Msg.c msgZ)) 35
  have n26 : ga < gc := egc ▸ lt_of_block h20
  have n27 : gf < gc := egc ▸ lt_of_block h21
  have n28 : w.heap.size ≤ gc := egc ▸ K22.size
  refine ps_r (o_rmRead 14 3) (pT gc 0) (w' := V24) (by rw [← eV24, ← egc]; exact exec_alloc0 35 (by kernel_rfl) (.agg ((Msg.c msgZ))) (by kernel_rfl)) ?_
  clear eV24
  have h29 := kV24.bk h20
  have h30 := kV24.bk h21
  have h31 : RrAt V24 b rv l ((mK l).2) := hR19'.keeps kV24 (fun x => x) (fun _ _ x => x)
  have K32 := K22.nn kV24
  have z33 := kV24.size
  obtain ⟨V34, eV34, kV34⟩ := rowset_step V24 gc ((Msg.c (onlyK (mK l).1)))
  have h35 : V34.heap[gc]? = some (.cells (Msg.c ((onlyK (mK l).1))) 35 (0, 0)) := eV34 ▸ setRow_heap _ _ _ _ _ _ h25
  refine ps_s (o_rmRead 14 4) (w' := V34) (by rw [← eV34]; exact exec_store_row 35 (.tmp 5) (.tmp 11) (by kernel_rfl) gc ((Msg.c (onlyK (mK l).1))) (by kernel_rfl) (by kernel_rfl) 35 ((Msg.c msgZ)) h25 (by rw [Msg.c_size (onlyK_R _)]; kernel_rfl) (by rw [Msg.c_size (onlyK_R _)]; exact (Msg.c_size msgZ_R).symm) (Msg.c_one _)) ?_
  clear eV34
  have h36 := kV34.bo h29 (by omega)
  have h37 := kV34.bo h30 (by omega)
  have h38 : RrAt V34 b rv l ((mK l).2) := h31.keeps kV34 (by unfold Own.One; omega) (fun j hj e => by have := hov j hj; unfold Own.One at e; omega)
  have K39 := K32.no kV34 (by omega)
  have z40 := kV34.size
  refine ps_end ?_
  refine then_n ?_
  refine sy_sq (part_rmRead 30) (part_rmRead 31) ?_
  refine sy_sq (part_rmRead 60) (part_rmRead 61) ?_
  refine sy_reg ?_
  refine rg_plain 3 (opsAt (part_rmRead 60)) [0, 1, 2] (by kernel_rfl) (by kernel_rfl) ?_
  refine ps_k (o_rmRead 60 0) (pT gc 0) ?_
  refine ps_p (o_rmRead 60 1) (.int .i64 ((mK l).1)) (exec_ld 3 (.tmp 12) gc 0 Try.underlying3 (rc (h35) (Msg.get_n (onlyK_R _) NF.k))) ?_
  refine ps_p (o_rmRead 60 2) (.bool true) (eqt (((mK l).1) : Int) ((11) : Int) (by omega)) ?_
  refine ps_end ?_
  refine then_n ?_
  refine sy_ys (.tmp 14) (part_rmRead 122) (part_rmRead 123) ?_
  refine sy_reg ?_
  refine rg_plain 4 (opsAt (part_rmRead 122)) [0, 1, 2, 3] (by kernel_rfl) (by kernel_rfl) ?_
  refine ps_k (o_rmRead 122 0) (pT b 0) ?_
  refine ps_c (o_rmRead 122 1) 44 #[pT b 0, .int .i64 1, .int .i64 1000] Try.func44 ((rrN_ok b rv l ((mK l).2) 1 1000 _ h38 (by decide) (by decide)).mono ?_)
  rintro e V41 ⟨rfl, hR42, kV41⟩
  refine ⟨_, rfl, ?_⟩
  have h43 := kV41.bo h36 (by omega)
  have h44 := kV41.bo h37 (by omega)
  have h45 := kV41.bo h35 (by omega)
  have K46 := K39.no kV41 (by omega)
  have z47 := kV41.size
  refine ps_k (o_rmRead 122 2) (pT gc 10) ?_
  obtain ⟨V48, eV48, kV48⟩ := cell_step V41 gc 10 (.int .i64 (rdN l ((mK l).2) 1 1000).1)
  have h49 : V48.heap[gc]? = some (.cells (Msg.c (NF.set ((onlyK (mK l).1)) ((rdN l ((mK l).2) 1 1000).1) .n)) 35 (0, 0)) := eV48 ▸ ((heap_setCell_same _ gc 10 _ _ (.int .i64 (rdN l ((mK l).2) 1 1000).1) h45).trans (congrArg (fun c => some (Obj.cells c 35 (0, 0))) (show (Msg.c ((onlyK (mK l).1)) : Array Value).setIfInBounds 10 (.int .i64 (rdN l ((mK l).2) 1 1000).1) = Msg.c (NF.set ((onlyK (mK l).1)) ((rdN l ((mK l).2) 1 1000).1) .n) from Msg.set_n (onlyK_R _) NF.n _)))
  refine ps_s (o_rmRead 122 3) (w' := V48) (by rw [← eV48]; exact exec_store_cell 3 (.tmp 17) (.tmp 16) (by kernel_rfl) gc 10 (by kernel_rfl) (.int .i64 (rdN l ((mK l).2) 1 1000).1) (by kernel_rfl) (by kernel_rfl) (by kernel_rfl) (.int .i64 (((onlyK (mK l).1)).n)) (rc (h45) (Msg.get_n (onlyK_R _) NF.n)) (frozen_of_row _ _ _ _ _ h45) (by kernel_rfl)) ?_
  clear eV48
  have h50 := kV48.bo h43 (by omega)
  have h51 := kV48.bo h44 (by omega)
  have h52 : RrAt V48 b rv l ((rdN l ((mK l).2) 1 1000).2) := hR42.keeps kV48 (by unfold Own.One; omega) (fun j hj e => by have := hov j hj; unfold Own.One at e; omega)
  have K53 := K46.no kV48 (by omega)
  have z54 := kV48.size
  refine ps_end ?_
  refine then_n ?_
  have hrr : rmRS l = ((NF.set ((onlyK (mK l).1)) ((rdN l ((mK l).2) 1 1000).1) .n), (rdN l ((mK l).2) 1 1000).2) := by unfold rmRS; rw [if_pos hk, rd_n0 _ _ _ _ _ _ (by decide)]
  have h55 : V48.heap[gc]? = some (.cells (Msg.c ((rmRS l).1)) 35 (0, 0)) := by rw [hrr]; exact h49
  have h56 : RrAt V48 b rv l ((rmRS l).2) := by rw [hrr]; exact h52
  refine sy_sq (part_rmRead 62) (part_rmRead 63) ?_
  refine sy_sq (part_rmRead 124) (part_rmRead 125) ?_
  refine sy_reg ?_
  refine rg_plain 7 (opsAt (part_rmRead 124)) [0, 1, 2, 3] (by kernel_rfl) (by kernel_rfl) ?_
  refine ps_k (o_rmRead 124 0) (pT b 0) ?_
  have hRz : RrAt V48 b rv l (mRS l).2 := by rw [← rm_rs l]; exact h56
  refine ps_c (o_rmRead 124 1) 46 #[pT b 0] Try.func46 ((rrEnd_ok b rv l (mRS l).2 _ hRz).mono ?_)
  rintro e V57 ⟨rfl, kV57⟩
  refine ⟨_, rfl, ?_⟩
  have h58 := kV57.bk h50
  have h59 := kV57.bk h51
  have h60 := kV57.bk h55
  have K61 := K53.nn kV57
  have z62 := kV57.size
  obtain ⟨V63, eV63, gx, egx, h64, kV63⟩ := alloc_step V57 (#[.int .i64 0, .int .i64 0]) 38
  have n65 : ga < gx := egx ▸ lt_of_block h58
  have n66 : gf < gx := egx ▸ lt_of_block h59
  have n67 : gc < gx := egx ▸ lt_of_block h60
  have n68 : w.heap.size ≤ gx := egx ▸ K61.size
  refine ps_r (o_rmRead 124 2) (pT gx 0) (w' := V63) (by rw [← eV63, ← egx]; exact exec_alloc0 38 (by kernel_rfl) (.agg (#[.int .i64 0, .int .i64 0])) (by kernel_rfl)) ?_
  clear eV63
  have h69 := kV63.bk h58
  have h70 := kV63.bk h59
  have h71 := kV63.bk h60
  have K72 := K61.nn kV63
  have z73 := kV63.size
  obtain ⟨V74, eV74, kV74⟩ := rowset_step V63 gx (#[.int .i64 (mFin l).1, .int .i64 (mFin l).2])
  have h75 : V74.heap[gx]? = some (.cells (#[.int .i64 (mFin l).1, .int .i64 (mFin l).2]) 38 (0, 0)) := eV74 ▸ setRow_heap _ _ _ _ _ _ h64
  refine ps_s (o_rmRead 124 3) (w' := V74) (by rw [← eV74]; exact exec_store_row 38 (.tmp 6) (.tmp 25) (by kernel_rfl) gx (#[.int .i64 (mFin l).1, .int .i64 (mFin l).2]) (by kernel_rfl) (by kernel_rfl) 38 (#[.int .i64 0, .int .i64 0]) h64 (by kernel_rfl) rfl (by kernel_rfl)) ?_
  clear eV74
  have h76 := kV74.bo h69 (by omega)
  have h77 := kV74.bo h70 (by omega)
  have h78 := kV74.bo h71 (by omega)
  have K79 := K72.no kV74 (by omega)
  have z80 := kV74.size
  refine ps_end ?_
  refine then_n ?_
  refine sy_sq (part_rmRead 250) (part_rmRead 251) ?_
  refine sy_reg ?_
  refine rg_plain 8 (opsAt (part_rmRead 250)) [0, 1, 2] (by kernel_rfl) (by kernel_rfl) ?_
  refine ps_p (o_rmRead 250 0) (.agg #[.int .i64 (mFin l).1, .int .i64 (mFin l).2]) (exec_load_row 38 (.tmp 6) (by kernel_rfl) gx (by kernel_rfl) _ _ (0, 0) _ (h75) Try.underlying38 rfl (by kernel_rfl)) ?_
  refine ps_k (o_rmRead 250 1) (.agg #[.int .i64 0, .int .i64 0]) ?_
  refine ps_p (o_rmRead 250 2) (.bool false) (exec_cast (congrArg Value.bool (fault_ok ⟨hz, fin_zero hz⟩)) (exec_binop .neq 38 38 (.tmp 26) (.tmp 27) (by kernel_rfl) (.agg #[.int .i64 (mFin l).1, .int .i64 (mFin l).2]) (.agg #[.int .i64 0, .int .i64 0]) _ (by kernel_rfl) (by kernel_rfl) (run_eqGuard_agg _ _ _ _ _ _ _ fault_guard) (fault_ne _ _ _ _ _))) ?_
  refine ps_end ?_
  refine sy_a ⟨#[v0, undef, pT ga 0, pT gf 0, pT b 0, pT gc 0, pT gx 0, v0, pT b 0, pT b 0, .int .i64 (mK l).1, .agg (Msg.c (onlyK (mK l).1)), pT gc 0, .int .i64 ((mK l).1), .bool true, pT b 0, .int .i64 (rdN l ((mK l).2) 1 1000).1, pT gc 10, undef, undef, undef, undef, undef, undef, pT b 0, .agg #[.int .i64 (mFin l).1, .int .i64 (mFin l).2], .agg #[.int .i64 (mFin l).1, .int .i64 (mFin l).2], .agg #[.int .i64 0, .int .i64 0], .bool false, undef, undef, undef, undef], []⟩ ?_
  refine then_n ?_
  refine sy_n (.tmp 28) (part_rmRead 502) (part_rmRead 503) ?_
  refine sy_sk ?_
  refine then_n ?_
  refine sy_sq (part_rmRead 126) (part_rmRead 127) ?_
  refine sy_reg ?_
  refine rg_plain 10 (opsAt (part_rmRead 126)) [0, 1, 2, 3] (by kernel_rfl) (by kernel_rfl) ?_
  refine ps_p (o_rmRead 126 0) (.agg (Msg.c ((rmRS l).1))) (exec_load_row 35 (.tmp 5) (by kernel_rfl) gc (by kernel_rfl) _ _ (0, 0) _ (h78) Try.underlying35 rfl (by rw [Msg.c_size (rmRS_R l)]; kernel_rfl)) ?_
  refine ps_k (o_rmRead 126 1) (.agg #[.int .i64 0, .int .i64 0]) ?_
  obtain ⟨V81, eV81, kV81⟩ := rowset_step V74 ga ((Msg.c ((rmRS l).1)))
  have h82 : V81.heap[ga]? = some (.cells (Msg.c ((rmRS l).1)) 35 (0, 0)) := eV81 ▸ setRow_heap _ _ _ _ _ _ h76
  refine ps_s (o_rmRead 126 2) (w' := V81) (by rw [← eV81]; exact exec_store_row 35 (.tmp 2) (.tmp 31) (by kernel_rfl) ga ((Msg.c ((rmRS l).1))) (by kernel_rfl) (by kernel_rfl) 35 ((Msg.c msgZ)) h76 (by rw [Msg.c_size (rmRS_R l)]; kernel_rfl) (by rw [Msg.c_size (rmRS_R l)]; exact (Msg.c_size msgZ_R).symm) (Msg.c_one _)) ?_
  clear eV81
  have h83 := kV81.bo h77 (by omega)
  have h84 := kV81.bo h78 (by omega)
  have h85 := kV81.bo h75 (by omega)
  have K86 := K79.no kV81 (by omega)
  have z87 := kV81.size
  obtain ⟨V88, eV88, kV88⟩ := rowset_step V81 gf (#[.int .i64 0, .int .i64 0])
  have h89 : V88.heap[gf]? = some (.cells (#[.int .i64 0, .int .i64 0]) 38 (0, 0)) := eV88 ▸ setRow_heap _ _ _ _ _ _ h83
  refine ps_s (o_rmRead 126 3) (w' := V88) (by rw [← eV88]; exact exec_store_row 38 (.tmp 3) (.tmp 32) (by kernel_rfl) gf (#[.int .i64 0, .int .i64 0]) (by kernel_rfl) (by kernel_rfl) 38 (#[.int .i64 0, .int .i64 0]) h83 (by kernel_rfl) rfl (by kernel_rfl)) ?_
  clear eV88
  have h90 := kV88.bo h84 (by omega)
  have h91 := kV88.bo h85 (by omega)
  have h92 := kV88.bo h82 (by omega)
  have K93 := K86.no kV88 (by omega)
  have z94 := kV88.size
  refine ps_end ?_
  refine then_n ?_
  refine sy_ret (by kernel_rfl) ?_
  refine sy_out (.tuple #[.agg (Msg.c ((rmRS l).1)), .agg #[.int .i64 0, .int .i64 0]]) rfl (results_rows2 (p := 2) (q := 3) (ty := 35) (tz := 38) (by kernel_rfl) _ _ ga gf 35 38 (Msg.c ((rmRS l).1)) (#[.int .i64 0, .int .i64 0]) (0, 0) (0, 0) _ _ (by kernel_rfl) h92 Try.underlying35 rfl (by rw [Msg.c_size (rmRS_R l)]; kernel_rfl) (by kernel_rfl) h89 Try.underlying38 rfl (by kernel_rfl)) ?_
  exact ⟨by rw [mRes, if_pos hz, rm_msg l hz, hz, show (mFin l).2 = 0 from fin_zero hz], K93⟩
set_option maxRecDepth 100000 in
set_option maxHeartbeats 4000000 in
theorem rmRead_tbad (v0 : Value) (l : List UInt8) (w : World) (hx : BytesAt w v0 l) (hl : l.length ≤ 100000000) (hk : (mK l).1 = 11) (hz : ¬ (mFin l).1 = 0) :
    Calls Try.prog 12 #[v0] w (fun e w' => e = .returned (.tuple #[.agg (Msg.c (mRes l)), .agg #[.int .i64 (mFin l).1, .int .i64 (mFin l).2]]) ∧ Keeps Nob w w') := by
  have K0 : Keeps Nob w w := Keeps.refl _ _
  refine sy_enter (part_rmRead 1) ⟨#[v0, undef, undef, undef, undef, undef, undef, undef, undef, undef, undef, undef, undef, undef, undef, undef, undef, undef, undef, undef, undef, undef, undef, undef, undef, undef, undef, undef, undef, undef, undef, undef, undef], []⟩ Try.func12 (by kernel_rfl) (by kernel_rfl) ?_
  refine sy_sq (part_rmRead 2) (part_rmRead 3) ?_
  refine sy_reg ?_
  refine rg_plain 0 (opsAt (part_rmRead 2)) [0, 1] (by kernel_rfl) (by kernel_rfl) ?_
  obtain ⟨V1, eV1, ga, ega, h2, kV1⟩ := alloc_step w ((Msg.c msgZ)) 35
  have n3 : w.heap.size ≤ ga := ega ▸ K0.size
  refine ps_r (o_rmRead 2 0) (pT ga 0) (w' := V1) (by rw [← eV1, ← ega]; exact exec_alloc0 35 (by kernel_rfl) (.agg ((Msg.c msgZ))) (by kernel_rfl)) ?_
  clear eV1
  have K4 := K0.nn kV1
  have z5 := kV1.size
  obtain ⟨V6, eV6, gf, egf, h7, kV6⟩ := alloc_step V1 (#[.int .i64 0, .int .i64 0]) 38
  have n8 : ga < gf := egf ▸ lt_of_block h2
  have n9 : w.heap.size ≤ gf := egf ▸ K4.size
  refine ps_r (o_rmRead 2 1) (pT gf 0) (w' := V6) (by rw [← eV6, ← egf]; exact exec_alloc0 38 (by kernel_rfl) (.agg (#[.int .i64 0, .int .i64 0])) (by kernel_rfl)) ?_
  clear eV6
  have h10 := kV6.bk h2
  have K11 := K4.nn kV6
  have z12 := kV6.size
  refine ps_end ?_
  refine then_n ?_
  refine sy_sq (part_rmRead 6) (part_rmRead 7) ?_
  refine sy_reg ?_
  refine rg_plain 1 (opsAt (part_rmRead 6)) [0, 1, 2] (by kernel_rfl) (by kernel_rfl) ?_
  refine ps_k (o_rmRead 6 0) (v0) ?_
  have hlg := lt_of_block h10
  have hlf := lt_of_block h7
  have hKs := K11.size
  refine ps_c (o_rmRead 6 1) 43 #[v0] Try.func43 ((rrNew_ok v0 l _ (hx.keepsN K11) hl).mono ?_)
  rintro e V13 ⟨b, rv, rfl, hR0, hb0, hov, kV13⟩
  have hbl := hR0.lt
  refine ⟨_, rfl, ?_⟩
  have h14 := kV13.bk h10
  have h15 := kV13.bk h7
  have K16 := K11.nn kV13
  have z17 := kV13.size
  refine ps_k (o_rmRead 6 2) (pT b 0) ?_
  refine ps_end ?_
  refine then_n ?_
  refine sy_sq (part_rmRead 14) (part_rmRead 15) ?_
  refine sy_reg ?_
  refine rg_plain 2 (opsAt (part_rmRead 14)) [0, 1, 2, 3, 4] (by kernel_rfl) (by kernel_rfl) ?_
  refine ps_k (o_rmRead 14 0) (pT b 0) ?_
  refine ps_c (o_rmRead 14 1) 44 #[pT b 0, .int .i64 1, .int .i64 11] Try.func44 ((rrN_ok b rv l (⟨0, 0⟩) 1 11 _ hR0 (by decide) (by decide)).mono ?_)
  rintro e V18 ⟨rfl, hR19, kV18⟩
  have hR19' : RrAt V18 b rv l (mK l).2 := hR19
  refine ⟨_, rfl, ?_⟩
  have h20 := kV18.bo h14 (by omega)
  have h21 := kV18.bo h15 (by omega)
  have K22 := K16.no kV18 (by omega)
  have z23 := kV18.size
  refine ps_k (o_rmRead 14 2) (.agg (Msg.c (onlyK (mK l).1))) ?_
  obtain ⟨V24, eV24, gc, egc, h25, kV24⟩ := alloc_step V18 ((Msg.c msgZ)) 35
  have n26 : ga < gc := egc ▸ lt_of_block h20
  have n27 : gf < gc := egc ▸ lt_of_block h21
  have n28 : w.heap.size ≤ gc := egc ▸ K22.size
  refine ps_r (o_rmRead 14 3) (pT gc 0) (w' := V24) (by rw [← eV24, ← egc]; exact exec_alloc0 35 (by kernel_rfl) (.agg ((Msg.c msgZ))) (by kernel_rfl)) ?_
  clear eV24
  have h29 := kV24.bk h20
  have h30 := kV24.bk h21
  have h31 : RrAt V24 b rv l ((mK l).2) := hR19'.keeps kV24 (fun x => x) (fun _ _ x => x)
  have K32 := K22.nn kV24
  have z33 := kV24.size
  obtain ⟨V34, eV34, kV34⟩ := rowset_step V24 gc ((Msg.c (onlyK (mK l).1)))
  have h35 : V34.heap[gc]? = some (.cells (Msg.c ((onlyK (mK l).1))) 35 (0, 0)) := eV34 ▸ setRow_heap _ _ _ _ _ _ h25
  refine ps_s (o_rmRead 14 4) (w' := V34) (by rw [← eV34]; exact exec_store_row 35 (.tmp 5) (.tmp 11) (by kernel_rfl) gc ((Msg.c (onlyK (mK l).1))) (by kernel_rfl) (by kernel_rfl) 35 ((Msg.c msgZ)) h25 (by rw [Msg.c_size (onlyK_R _)]; kernel_rfl) (by rw [Msg.c_size (onlyK_R _)]; exact (Msg.c_size msgZ_R).symm) (Msg.c_one _)) ?_
  clear eV34
  have h36 := kV34.bo h29 (by omega)
  have h37 := kV34.bo h30 (by omega)
  have h38 : RrAt V34 b rv l ((mK l).2) := h31.keeps kV34 (by unfold Own.One; omega) (fun j hj e => by have := hov j hj; unfold Own.One at e; omega)
  have K39 := K32.no kV34 (by omega)
  have z40 := kV34.size
  refine ps_end ?_
  refine then_n ?_
  refine sy_sq (part_rmRead 30) (part_rmRead 31) ?_
  refine sy_sq (part_rmRead 60) (part_rmRead 61) ?_
  refine sy_reg ?_
  refine rg_plain 3 (opsAt (part_rmRead 60)) [0, 1, 2] (by kernel_rfl) (by kernel_rfl) ?_
  refine ps_k (o_rmRead 60 0) (pT gc 0) ?_
  refine ps_p (o_rmRead 60 1) (.int .i64 ((mK l).1)) (exec_ld 3 (.tmp 12) gc 0 Try.underlying3 (rc (h35) (Msg.get_n (onlyK_R _) NF.k))) ?_
  refine ps_p (o_rmRead 60 2) (.bool true) (eqt (((mK l).1) : Int) ((11) : Int) (by omega)) ?_
  refine ps_end ?_
  refine then_n ?_
  refine sy_ys (.tmp 14) (part_rmRead 122) (part_rmRead 123) ?_
  refine sy_reg ?_
  refine rg_plain 4 (opsAt (part_rmRead 122)) [0, 1, 2, 3] (by kernel_rfl) (by kernel_rfl) ?_
  refine ps_k (o_rmRead 122 0) (pT b 0) ?_
  refine ps_c (o_rmRead 122 1) 44 #[pT b 0, .int .i64 1, .int .i64 1000] Try.func44 ((rrN_ok b rv l ((mK l).2) 1 1000 _ h38 (by decide) (by decide)).mono ?_)
  rintro e V41 ⟨rfl, hR42, kV41⟩
  refine ⟨_, rfl, ?_⟩
  have h43 := kV41.bo h36 (by omega)
  have h44 := kV41.bo h37 (by omega)
  have h45 := kV41.bo h35 (by omega)
  have K46 := K39.no kV41 (by omega)
  have z47 := kV41.size
  refine ps_k (o_rmRead 122 2) (pT gc 10) ?_
  obtain ⟨V48, eV48, kV48⟩ := cell_step V41 gc 10 (.int .i64 (rdN l ((mK l).2) 1 1000).1)
  have h49 : V48.heap[gc]? = some (.cells (Msg.c (NF.set ((onlyK (mK l).1)) ((rdN l ((mK l).2) 1 1000).1) .n)) 35 (0, 0)) := eV48 ▸ ((heap_setCell_same _ gc 10 _ _ (.int .i64 (rdN l ((mK l).2) 1 1000).1) h45).trans (congrArg (fun c => some (Obj.cells c 35 (0, 0))) (show (Msg.c ((onlyK (mK l).1)) : Array Value).setIfInBounds 10 (.int .i64 (rdN l ((mK l).2) 1 1000).1) = Msg.c (NF.set ((onlyK (mK l).1)) ((rdN l ((mK l).2) 1 1000).1) .n) from Msg.set_n (onlyK_R _) NF.n _)))
  refine ps_s (o_rmRead 122 3) (w' := V48) (by rw [← eV48]; exact exec_store_cell 3 (.tmp 17) (.tmp 16) (by kernel_rfl) gc 10 (by kernel_rfl) (.int .i64 (rdN l ((mK l).2) 1 1000).1) (by kernel_rfl) (by kernel_rfl) (by kernel_rfl) (.int .i64 (((onlyK (mK l).1)).n)) (rc (h45) (Msg.get_n (onlyK_R _) NF.n)) (frozen_of_row _ _ _ _ _ h45) (by kernel_rfl)) ?_
  clear eV48
  have h50 := kV48.bo h43 (by omega)
  have h51 := kV48.bo h44 (by omega)
  have h52 : RrAt V48 b rv l ((rdN l ((mK l).2) 1 1000).2) := hR42.keeps kV48 (by unfold Own.One; omega) (fun j hj e => by have := hov j hj; unfold Own.One at e; omega)
  have K53 := K46.no kV48 (by omega)
  have z54 := kV48.size
  refine ps_end ?_
  refine then_n ?_
  have hrr : rmRS l = ((NF.set ((onlyK (mK l).1)) ((rdN l ((mK l).2) 1 1000).1) .n), (rdN l ((mK l).2) 1 1000).2) := by unfold rmRS; rw [if_pos hk, rd_n0 _ _ _ _ _ _ (by decide)]
  have h55 : V48.heap[gc]? = some (.cells (Msg.c ((rmRS l).1)) 35 (0, 0)) := by rw [hrr]; exact h49
  have h56 : RrAt V48 b rv l ((rmRS l).2) := by rw [hrr]; exact h52
  refine sy_sq (part_rmRead 62) (part_rmRead 63) ?_
  refine sy_sq (part_rmRead 124) (part_rmRead 125) ?_
  refine sy_reg ?_
  refine rg_plain 7 (opsAt (part_rmRead 124)) [0, 1, 2, 3] (by kernel_rfl) (by kernel_rfl) ?_
  refine ps_k (o_rmRead 124 0) (pT b 0) ?_
  have hRz : RrAt V48 b rv l (mRS l).2 := by rw [← rm_rs l]; exact h56
  refine ps_c (o_rmRead 124 1) 46 #[pT b 0] Try.func46 ((rrEnd_ok b rv l (mRS l).2 _ hRz).mono ?_)
  rintro e V57 ⟨rfl, kV57⟩
  refine ⟨_, rfl, ?_⟩
  have h58 := kV57.bk h50
  have h59 := kV57.bk h51
  have h60 := kV57.bk h55
  have K61 := K53.nn kV57
  have z62 := kV57.size
  obtain ⟨V63, eV63, gx, egx, h64, kV63⟩ := alloc_step V57 (#[.int .i64 0, .int .i64 0]) 38
  have n65 : ga < gx := egx ▸ lt_of_block h58
  have n66 : gf < gx := egx ▸ lt_of_block h59
  have n67 : gc < gx := egx ▸ lt_of_block h60
  have n68 : w.heap.size ≤ gx := egx ▸ K61.size
  refine ps_r (o_rmRead 124 2) (pT gx 0) (w' := V63) (by rw [← eV63, ← egx]; exact exec_alloc0 38 (by kernel_rfl) (.agg (#[.int .i64 0, .int .i64 0])) (by kernel_rfl)) ?_
  clear eV63
  have h69 := kV63.bk h58
  have h70 := kV63.bk h59
  have h71 := kV63.bk h60
  have K72 := K61.nn kV63
  have z73 := kV63.size
  obtain ⟨V74, eV74, kV74⟩ := rowset_step V63 gx (#[.int .i64 (mFin l).1, .int .i64 (mFin l).2])
  have h75 : V74.heap[gx]? = some (.cells (#[.int .i64 (mFin l).1, .int .i64 (mFin l).2]) 38 (0, 0)) := eV74 ▸ setRow_heap _ _ _ _ _ _ h64
  refine ps_s (o_rmRead 124 3) (w' := V74) (by rw [← eV74]; exact exec_store_row 38 (.tmp 6) (.tmp 25) (by kernel_rfl) gx (#[.int .i64 (mFin l).1, .int .i64 (mFin l).2]) (by kernel_rfl) (by kernel_rfl) 38 (#[.int .i64 0, .int .i64 0]) h64 (by kernel_rfl) rfl (by kernel_rfl)) ?_
  clear eV74
  have h76 := kV74.bo h69 (by omega)
  have h77 := kV74.bo h70 (by omega)
  have h78 := kV74.bo h71 (by omega)
  have K79 := K72.no kV74 (by omega)
  have z80 := kV74.size
  refine ps_end ?_
  refine then_n ?_
  refine sy_sq (part_rmRead 250) (part_rmRead 251) ?_
  refine sy_reg ?_
  refine rg_plain 8 (opsAt (part_rmRead 250)) [0, 1, 2] (by kernel_rfl) (by kernel_rfl) ?_
  refine ps_p (o_rmRead 250 0) (.agg #[.int .i64 (mFin l).1, .int .i64 (mFin l).2]) (exec_load_row 38 (.tmp 6) (by kernel_rfl) gx (by kernel_rfl) _ _ (0, 0) _ (h75) Try.underlying38 rfl (by kernel_rfl)) ?_
  refine ps_k (o_rmRead 250 1) (.agg #[.int .i64 0, .int .i64 0]) ?_
  refine ps_p (o_rmRead 250 2) (.bool true) (exec_cast (congrArg Value.bool (fault_no hz)) (exec_binop .neq 38 38 (.tmp 26) (.tmp 27) (by kernel_rfl) (.agg #[.int .i64 (mFin l).1, .int .i64 (mFin l).2]) (.agg #[.int .i64 0, .int .i64 0]) _ (by kernel_rfl) (by kernel_rfl) (run_eqGuard_agg _ _ _ _ _ _ _ fault_guard) (fault_ne _ _ _ _ _))) ?_
  refine ps_end ?_
  refine sy_a ⟨#[v0, undef, pT ga 0, pT gf 0, pT b 0, pT gc 0, pT gx 0, v0, pT b 0, pT b 0, .int .i64 (mK l).1, .agg (Msg.c (onlyK (mK l).1)), pT gc 0, .int .i64 ((mK l).1), .bool true, pT b 0, .int .i64 (rdN l ((mK l).2) 1 1000).1, pT gc 10, undef, undef, undef, undef, undef, undef, pT b 0, .agg #[.int .i64 (mFin l).1, .int .i64 (mFin l).2], .agg #[.int .i64 (mFin l).1, .int .i64 (mFin l).2], .agg #[.int .i64 0, .int .i64 0], .bool true, undef, undef, undef, undef], []⟩ ?_
  refine then_n ?_
  refine sy_ys (.tmp 28) (part_rmRead 502) (part_rmRead 503) ?_
  refine sy_sq (part_rmRead 1004) (part_rmRead 1005) ?_
  refine sy_np ?_
  refine sy_reg ?_
  refine an_begin 9 4 (opsAt (part_rmRead 1004)) (fun W => (W.heap[gx]? = some (.cells (#[.int .i64 (mFin l).1, .int .i64 (mFin l).2]) 38 (0, 0)))) #[false, false, false, false] (by kernel_rfl) (by kernel_rfl) (by kernel_rfl) (by kernel_rfl) ?_
  obtain ⟨V81, eV81, kV81⟩ := drew_step V74
  rw [eV81]
  clear eV81
  have h82 := kV81.bk h76
  have h83 := kV81.bk h77
  have h84 := kV81.bk h78
  have h85 := kV81.bk h75
  have K86 := K79.nn kV81
  have z87 := kV81.size
  refine an_k 0 (o_rmRead 1004 0) (.agg (Msg.c msgZ)) h85 ?_
  refine an_v 1 (o_rmRead 1004 1) (.agg #[.int .i64 (mFin l).1, .int .i64 (mFin l).2]) (fun W hS => exec_load_row 38 (.tmp 6) (by kernel_rfl) gx (by kernel_rfl) _ _ (0, 0) _ (hS) Try.underlying38 rfl (by kernel_rfl)) h85 ?_
  refine an_o 2 ?_
  obtain ⟨V88, eV88, kV88⟩ := rowset_step V81 ga ((Msg.c msgZ))
  have h89 : V88.heap[ga]? = some (.cells (Msg.c msgZ) 35 (0, 0)) := eV88 ▸ setRow_heap _ _ _ _ _ _ h82
  refine on_s (o_rmRead 1004 2) (w' := V88) (by rw [← eV88]; exact exec_store_row 35 (.tmp 2) (.tmp 29) (by kernel_rfl) ga ((Msg.c msgZ)) (by kernel_rfl) (by kernel_rfl) 35 ((Msg.c msgZ)) h82 (by rw [Msg.c_size msgZ_R]; kernel_rfl) rfl (Msg.c_one _)) ?_
  clear eV88
  have h90 := kV88.bo h83 (by omega)
  have h91 := kV88.bo h84 (by omega)
  have h92 := kV88.bo h85 (by omega)
  have K93 := K86.no kV88 (by omega)
  have z94 := kV88.size
  refine ⟨h92, ?_⟩
  refine an_o 3 ?_
  obtain ⟨V95, eV95, kV95⟩ := rowset_step V88 gf (#[.int .i64 (mFin l).1, .int .i64 (mFin l).2])
  have h96 : V95.heap[gf]? = some (.cells (#[.int .i64 (mFin l).1, .int .i64 (mFin l).2]) 38 (0, 0)) := eV95 ▸ setRow_heap _ _ _ _ _ _ h90
  refine on_s (o_rmRead 1004 3) (w' := V95) (by rw [← eV95]; exact exec_store_row 38 (.tmp 3) (.tmp 30) (by kernel_rfl) gf (#[.int .i64 (mFin l).1, .int .i64 (mFin l).2]) (by kernel_rfl) (by kernel_rfl) 38 (#[.int .i64 0, .int .i64 0]) h90 (by kernel_rfl) rfl (by kernel_rfl)) ?_
  clear eV95
  have h97 := kV95.bo h91 (by omega)
  have h98 := kV95.bo h92 (by omega)
  have h99 := kV95.bo h89 (by omega)
  have K100 := K93.no kV95 (by omega)
  have z101 := kV95.size
  refine ⟨h98, ?_⟩
  refine an_end (by kernel_rfl) ?_
  refine then_n ?_
  refine sy_ret (by kernel_rfl) ?_
  refine then_r ?_
  refine sy_out (.tuple #[.agg (Msg.c msgZ), .agg #[.int .i64 (mFin l).1, .int .i64 (mFin l).2]]) rfl (results_rows2 (p := 2) (q := 3) (ty := 35) (tz := 38) (by kernel_rfl) _ _ ga gf 35 38 (Msg.c msgZ) (#[.int .i64 (mFin l).1, .int .i64 (mFin l).2]) (0, 0) (0, 0) _ _ (by kernel_rfl) h99 Try.underlying35 rfl (by rw [Msg.c_size msgZ_R]; kernel_rfl) (by kernel_rfl) h96 Try.underlying38 rfl (by kernel_rfl)) ?_
  exact ⟨by rw [mRes, if_neg hz], K100⟩
set_option maxRecDepth 100000 in
set_option maxHeartbeats 4000000 in
theorem rmRead_eok (v0 : Value) (l : List UInt8) (w : World) (hx : BytesAt w v0 l) (hl : l.length ≤ 100000000) (hk : ¬ (mK l).1 = 11) (hz : (mFin l).1 = 0) :
    Calls Try.prog 12 #[v0] w (fun e w' => e = .returned (.tuple #[.agg (Msg.c (mRes l)), .agg #[.int .i64 (mFin l).1, .int .i64 (mFin l).2]]) ∧ Keeps Nob w w') := by
  have K0 : Keeps Nob w w := Keeps.refl _ _
  refine sy_enter (part_rmRead 1) ⟨#[v0, undef, undef, undef, undef, undef, undef, undef, undef, undef, undef, undef, undef, undef, undef, undef, undef, undef, undef, undef, undef, undef, undef, undef, undef, undef, undef, undef, undef, undef, undef, undef, undef], []⟩ Try.func12 (by kernel_rfl) (by kernel_rfl) ?_
  refine sy_sq (part_rmRead 2) (part_rmRead 3) ?_
  refine sy_reg ?_
  refine rg_plain 0 (opsAt (part_rmRead 2)) [0, 1] (by kernel_rfl) (by kernel_rfl) ?_
  obtain ⟨V1, eV1, ga, ega, h2, kV1⟩ := alloc_step w ((Msg.c msgZ)) 35
  have n3 : w.heap.size ≤ ga := ega ▸ K0.size
  refine ps_r (o_rmRead 2 0) (pT ga 0) (w' := V1) (by rw [← eV1, ← ega]; exact exec_alloc0 35 (by kernel_rfl) (.agg ((Msg.c msgZ))) (by kernel_rfl)) ?_
  clear eV1
  have K4 := K0.nn kV1
  have z5 := kV1.size
  obtain ⟨V6, eV6, gf, egf, h7, kV6⟩ := alloc_step V1 (#[.int .i64 0, .int .i64 0]) 38
  have n8 : ga < gf := egf ▸ lt_of_block h2
  have n9 : w.heap.size ≤ gf := egf ▸ K4.size
  refine ps_r (o_rmRead 2 1) (pT gf 0) (w' := V6) (by rw [← eV6, ← egf]; exact exec_alloc0 38 (by kernel_rfl) (.agg (#[.int .i64 0, .int .i64 0])) (by kernel_rfl)) ?_
  clear eV6
  have h10 := kV6.bk h2
  have K11 := K4.nn kV6
  have z12 := kV6.size
  refine ps_end ?_
  refine then_n ?_
  refine sy_sq (part_rmRead 6) (part_rmRead 7) ?_
  refine sy_reg ?_
  refine rg_plain 1 (opsAt (part_rmRead 6)) [0, 1, 2] (by kernel_rfl) (by kernel_rfl) ?_
  refine ps_k (o_rmRead 6 0) (v0) ?_
  have hlg := lt_of_block h10
  have hlf := lt_of_block h7
  have hKs := K11.size
  refine ps_c (o_rmRead 6 1) 43 #[v0] Try.func43 ((rrNew_ok v0 l _ (hx.keepsN K11) hl).mono ?_)
  rintro e V13 ⟨b, rv, rfl, hR0, hb0, hov, kV13⟩
  have hbl := hR0.lt
  refine ⟨_, rfl, ?_⟩
  have h14 := kV13.bk h10
  have h15 := kV13.bk h7
  have K16 := K11.nn kV13
  have z17 := kV13.size
  refine ps_k (o_rmRead 6 2) (pT b 0) ?_
  refine ps_end ?_
  refine then_n ?_
  refine sy_sq (part_rmRead 14) (part_rmRead 15) ?_
  refine sy_reg ?_
  refine rg_plain 2 (opsAt (part_rmRead 14)) [0, 1, 2, 3, 4] (by kernel_rfl) (by kernel_rfl) ?_
  refine ps_k (o_rmRead 14 0) (pT b 0) ?_
  refine ps_c (o_rmRead 14 1) 44 #[pT b 0, .int .i64 1, .int .i64 11] Try.func44 ((rrN_ok b rv l (⟨0, 0⟩) 1 11 _ hR0 (by decide) (by decide)).mono ?_)
  rintro e V18 ⟨rfl, hR19, kV18⟩
  have hR19' : RrAt V18 b rv l (mK l).2 := hR19
  refine ⟨_, rfl, ?_⟩
  have h20 := kV18.bo h14 (by omega)
  have h21 := kV18.bo h15 (by omega)
  have K22 := K16.no kV18 (by omega)
  have z23 := kV18.size
  refine ps_k (o_rmRead 14 2) (.agg (Msg.c (onlyK (mK l).1))) ?_
  obtain ⟨V24, eV24, gc, egc, h25, kV24⟩ := alloc_step V18 ((Msg.c msgZ)) 35
  have n26 : ga < gc := egc ▸ lt_of_block h20
  have n27 : gf < gc := egc ▸ lt_of_block h21
  have n28 : w.heap.size ≤ gc := egc ▸ K22.size
  refine ps_r (o_rmRead 14 3) (pT gc 0) (w' := V24) (by rw [← eV24, ← egc]; exact exec_alloc0 35 (by kernel_rfl) (.agg ((Msg.c msgZ))) (by kernel_rfl)) ?_
  clear eV24
  have h29 := kV24.bk h20
  have h30 := kV24.bk h21
  have h31 : RrAt V24 b rv l ((mK l).2) := hR19'.keeps kV24 (fun x => x) (fun _ _ x => x)
  have K32 := K22.nn kV24
  have z33 := kV24.size
  obtain ⟨V34, eV34, kV34⟩ := rowset_step V24 gc ((Msg.c (onlyK (mK l).1)))
  have h35 : V34.heap[gc]? = some (.cells (Msg.c ((onlyK (mK l).1))) 35 (0, 0)) := eV34 ▸ setRow_heap _ _ _ _ _ _ h25
  refine ps_s (o_rmRead 14 4) (w' := V34) (by rw [← eV34]; exact exec_store_row 35 (.tmp 5) (.tmp 11) (by kernel_rfl) gc ((Msg.c (onlyK (mK l).1))) (by kernel_rfl) (by kernel_rfl) 35 ((Msg.c msgZ)) h25 (by rw [Msg.c_size (onlyK_R _)]; kernel_rfl) (by rw [Msg.c_size (onlyK_R _)]; exact (Msg.c_size msgZ_R).symm) (Msg.c_one _)) ?_
  clear eV34
  have h36 := kV34.bo h29 (by omega)
  have h37 := kV34.bo h30 (by omega)
  have h38 : RrAt V34 b rv l ((mK l).2) := h31.keeps kV34 (by unfold Own.One; omega) (fun j hj e => by have := hov j hj; unfold Own.One at e; omega)
  have K39 := K32.no kV34 (by omega)
  have z40 := kV34.size
  refine ps_end ?_
  refine then_n ?_
  refine sy_sq (part_rmRead 30) (part_rmRead 31) ?_
  refine sy_sq (part_rmRead 60) (part_rmRead 61) ?_
  refine sy_reg ?_
  refine rg_plain 3 (opsAt (part_rmRead 60)) [0, 1, 2] (by kernel_rfl) (by kernel_rfl) ?_
  refine ps_k (o_rmRead 60 0) (pT gc 0) ?_
  refine ps_p (o_rmRead 60 1) (.int .i64 ((mK l).1)) (exec_ld 3 (.tmp 12) gc 0 Try.underlying3 (rc (h35) (Msg.get_n (onlyK_R _) NF.k))) ?_
  refine ps_p (o_rmRead 60 2) (.bool false) (eqf (((mK l).1) : Int) ((11) : Int) (by omega)) ?_
  refine ps_end ?_
  refine then_n ?_
  refine sy_n (.tmp 14) (part_rmRead 122) (part_rmRead 123) ?_
  refine sy_sq (part_rmRead 246) (part_rmRead 247) ?_
  refine sy_reg ?_
  refine rg_plain 5 (opsAt (part_rmRead 246)) [0, 1, 2, 3] (by kernel_rfl) (by kernel_rfl) ?_
  refine ps_k (o_rmRead 246 0) (pT b 0) ?_
  refine ps_c (o_rmRead 246 1) 44 #[pT b 0, .int .i64 0, .int .i64 63] Try.func44 ((rrN_ok b rv l ((mK l).2) 0 63 _ h38 (by decide) (by decide)).mono ?_)
  rintro e V41 ⟨rfl, hR42, kV41⟩
  refine ⟨_, rfl, ?_⟩
  have h43 := kV41.bo h36 (by omega)
  have h44 := kV41.bo h37 (by omega)
  have h45 := kV41.bo h35 (by omega)
  have K46 := K39.no kV41 (by omega)
  have z47 := kV41.size
  refine ps_k (o_rmRead 246 2) (pT gc 1) ?_
  obtain ⟨V48, eV48, kV48⟩ := cell_step V41 gc 1 (.int .i64 (rdN l ((mK l).2) 0 63).1)
  have h49 : V48.heap[gc]? = some (.cells (Msg.c (NF.set ((onlyK (mK l).1)) ((rdN l ((mK l).2) 0 63).1) .f)) 35 (0, 0)) := eV48 ▸ ((heap_setCell_same _ gc 1 _ _ (.int .i64 (rdN l ((mK l).2) 0 63).1) h45).trans (congrArg (fun c => some (Obj.cells c 35 (0, 0))) (show (Msg.c ((onlyK (mK l).1)) : Array Value).setIfInBounds 1 (.int .i64 (rdN l ((mK l).2) 0 63).1) = Msg.c (NF.set ((onlyK (mK l).1)) ((rdN l ((mK l).2) 0 63).1) .f) from Msg.set_n (onlyK_R _) NF.f _)))
  refine ps_s (o_rmRead 246 3) (w' := V48) (by rw [← eV48]; exact exec_store_cell 3 (.tmp 20) (.tmp 19) (by kernel_rfl) gc 1 (by kernel_rfl) (.int .i64 (rdN l ((mK l).2) 0 63).1) (by kernel_rfl) (by kernel_rfl) (by kernel_rfl) (.int .i64 (((onlyK (mK l).1)).f)) (rc (h45) (Msg.get_n (onlyK_R _) NF.f)) (frozen_of_row _ _ _ _ _ h45) (by kernel_rfl)) ?_
  clear eV48
  have h50 := kV48.bo h43 (by omega)
  have h51 := kV48.bo h44 (by omega)
  have h52 : RrAt V48 b rv l ((rdN l ((mK l).2) 0 63).2) := hR42.keeps kV48 (by unfold Own.One; omega) (fun j hj e => by have := hov j hj; unfold Own.One at e; omega)
  have K53 := K46.no kV48 (by omega)
  have z54 := kV48.size
  refine ps_end ?_
  refine then_n ?_
  refine sy_reg ?_
  refine rg_plain 6 (opsAt (part_rmRead 247)) [0, 1, 2, 3] (by kernel_rfl) (by kernel_rfl) ?_
  refine ps_k (o_rmRead 247 0) (pT b 0) ?_
  refine ps_p (o_rmRead 247 1) (.agg (Msg.c (NF.set ((onlyK (mK l).1)) ((rdN l ((mK l).2) 0 63).1) .f))) (exec_load_row 35 (.tmp 5) (by kernel_rfl) gc (by kernel_rfl) _ _ (0, 0) _ (h49) Try.underlying35 rfl (by rw [Msg.c_size (NF.R (onlyK_R _))]; kernel_rfl)) ?_
  refine ps_c (o_rmRead 247 2) 45 #[pT b 0, .agg (Msg.c (NF.set ((onlyK (mK l).1)) ((rdN l ((mK l).2) 0 63).1) .f))] Try.func45 ((rmrest_ok b rv l ((rdN l ((mK l).2) 0 63).2) (NF.set ((onlyK (mK l).1)) ((rdN l ((mK l).2) 0 63).1) .f) _ (NF.R (onlyK_R _)) (mK_le l).1 (by have := mK_le l; show (mK l).1 ≤ 10; omega) h52 (fun j hj => by have := hov j hj; omega) hl).mono ?_)
  rintro e V55 ⟨heV55, hR56, kV55⟩
  have hrr : restR l (mK l).1.toNat ((NF.set ((onlyK (mK l).1)) ((rdN l ((mK l).2) 0 63).1) .f), (rdN l ((mK l).2) 0 63).2) = rmRS l := by unfold rmRS; rw [if_neg hk, rd_n0 _ _ _ _ _ _ (by decide)]
  have heV55' : e = .returned (.agg (Msg.c (rmRS l).1)) := by rw [← hrr]; exact heV55
  subst heV55'
  have hR56' : RrAt V55 b rv l (rmRS l).2 := by rw [← hrr]; exact hR56
  refine ⟨_, rfl, ?_⟩
  have h57 := kV55.bo h50 (by omega)
  have h58 := kV55.bo h51 (by omega)
  have h59 := kV55.bo h49 (by omega)
  have K60 := K53.no kV55 (by omega)
  have z61 := kV55.size
  obtain ⟨V62, eV62, kV62⟩ := rowset_step V55 gc ((Msg.c (rmRS l).1))
  have h63 : V62.heap[gc]? = some (.cells (Msg.c ((rmRS l).1)) 35 (0, 0)) := eV62 ▸ setRow_heap _ _ _ _ _ _ h59
  refine ps_s (o_rmRead 247 3) (w' := V62) (by rw [← eV62]; exact exec_store_row 35 (.tmp 5) (.tmp 23) (by kernel_rfl) gc ((Msg.c (rmRS l).1)) (by kernel_rfl) (by kernel_rfl) 35 (Msg.c (NF.set ((onlyK (mK l).1)) ((rdN l ((mK l).2) 0 63).1) .f)) h59 (by rw [Msg.c_size (rmRS_R l)]; kernel_rfl) (by rw [Msg.c_size (rmRS_R l)]; exact (Msg.c_size (NF.R (onlyK_R _)))) (Msg.c_one _)) ?_
  clear eV62
  have h64 := kV62.bo h57 (by omega)
  have h65 := kV62.bo h58 (by omega)
  have h66 : RrAt V62 b rv l ((rmRS l).2) := hR56'.keeps kV62 (by unfold Own.One; omega) (fun j hj e => by have := hov j hj; unfold Own.One at e; omega)
  have K67 := K60.no kV62 (by omega)
  have z68 := kV62.size
  refine ps_end ?_
  refine then_n ?_
  refine sy_sq (part_rmRead 62) (part_rmRead 63) ?_
  refine sy_sq (part_rmRead 124) (part_rmRead 125) ?_
  refine sy_reg ?_
  refine rg_plain 7 (opsAt (part_rmRead 124)) [0, 1, 2, 3] (by kernel_rfl) (by kernel_rfl) ?_
  refine ps_k (o_rmRead 124 0) (pT b 0) ?_
  have hRz : RrAt V62 b rv l (mRS l).2 := by rw [← rm_rs l]; exact h66
  refine ps_c (o_rmRead 124 1) 46 #[pT b 0] Try.func46 ((rrEnd_ok b rv l (mRS l).2 _ hRz).mono ?_)
  rintro e V69 ⟨rfl, kV69⟩
  refine ⟨_, rfl, ?_⟩
  have h70 := kV69.bk h64
  have h71 := kV69.bk h65
  have h72 := kV69.bk h63
  have K73 := K67.nn kV69
  have z74 := kV69.size
  obtain ⟨V75, eV75, gx, egx, h76, kV75⟩ := alloc_step V69 (#[.int .i64 0, .int .i64 0]) 38
  have n77 : ga < gx := egx ▸ lt_of_block h70
  have n78 : gf < gx := egx ▸ lt_of_block h71
  have n79 : gc < gx := egx ▸ lt_of_block h72
  have n80 : w.heap.size ≤ gx := egx ▸ K73.size
  refine ps_r (o_rmRead 124 2) (pT gx 0) (w' := V75) (by rw [← eV75, ← egx]; exact exec_alloc0 38 (by kernel_rfl) (.agg (#[.int .i64 0, .int .i64 0])) (by kernel_rfl)) ?_
  clear eV75
  have h81 := kV75.bk h70
  have h82 := kV75.bk h71
  have h83 := kV75.bk h72
  have K84 := K73.nn kV75
  have z85 := kV75.size
  obtain ⟨V86, eV86, kV86⟩ := rowset_step V75 gx (#[.int .i64 (mFin l).1, .int .i64 (mFin l).2])
  have h87 : V86.heap[gx]? = some (.cells (#[.int .i64 (mFin l).1, .int .i64 (mFin l).2]) 38 (0, 0)) := eV86 ▸ setRow_heap _ _ _ _ _ _ h76
  refine ps_s (o_rmRead 124 3) (w' := V86) (by rw [← eV86]; exact exec_store_row 38 (.tmp 6) (.tmp 25) (by kernel_rfl) gx (#[.int .i64 (mFin l).1, .int .i64 (mFin l).2]) (by kernel_rfl) (by kernel_rfl) 38 (#[.int .i64 0, .int .i64 0]) h76 (by kernel_rfl) rfl (by kernel_rfl)) ?_
  clear eV86
  have h88 := kV86.bo h81 (by omega)
  have h89 := kV86.bo h82 (by omega)
  have h90 := kV86.bo h83 (by omega)
  have K91 := K84.no kV86 (by omega)
  have z92 := kV86.size
  refine ps_end ?_
  refine sy_a ⟨#[v0, undef, pT ga 0, pT gf 0, pT b 0, pT gc 0, pT gx 0, v0, pT b 0, pT b 0, .int .i64 (mK l).1, .agg (Msg.c (onlyK (mK l).1)), pT gc 0, .int .i64 ((mK l).1), .bool false, undef, undef, undef, pT b 0, .int .i64 (rdN l ((mK l).2) 0 63).1, pT gc 1, pT b 0, .agg (Msg.c (NF.set ((onlyK (mK l).1)) ((rdN l ((mK l).2) 0 63).1) .f)), .agg (Msg.c (rmRS l).1), pT b 0, .agg #[.int .i64 (mFin l).1, .int .i64 (mFin l).2], undef, undef, undef, undef, undef, undef, undef], []⟩ ?_
  refine then_n ?_
  refine sy_sq (part_rmRead 250) (part_rmRead 251) ?_
  refine sy_reg ?_
  refine rg_plain 8 (opsAt (part_rmRead 250)) [0, 1, 2] (by kernel_rfl) (by kernel_rfl) ?_
  refine ps_p (o_rmRead 250 0) (.agg #[.int .i64 (mFin l).1, .int .i64 (mFin l).2]) (exec_load_row 38 (.tmp 6) (by kernel_rfl) gx (by kernel_rfl) _ _ (0, 0) _ (h87) Try.underlying38 rfl (by kernel_rfl)) ?_
  refine ps_k (o_rmRead 250 1) (.agg #[.int .i64 0, .int .i64 0]) ?_
  refine ps_p (o_rmRead 250 2) (.bool false) (exec_cast (congrArg Value.bool (fault_ok ⟨hz, fin_zero hz⟩)) (exec_binop .neq 38 38 (.tmp 26) (.tmp 27) (by kernel_rfl) (.agg #[.int .i64 (mFin l).1, .int .i64 (mFin l).2]) (.agg #[.int .i64 0, .int .i64 0]) _ (by kernel_rfl) (by kernel_rfl) (run_eqGuard_agg _ _ _ _ _ _ _ fault_guard) (fault_ne _ _ _ _ _))) ?_
  refine ps_end ?_
  refine then_n ?_
  refine sy_n (.tmp 28) (part_rmRead 502) (part_rmRead 503) ?_
  refine sy_sk ?_
  refine then_n ?_
  refine sy_sq (part_rmRead 126) (part_rmRead 127) ?_
  refine sy_reg ?_
  refine rg_plain 10 (opsAt (part_rmRead 126)) [0, 1, 2, 3] (by kernel_rfl) (by kernel_rfl) ?_
  refine ps_p (o_rmRead 126 0) (.agg (Msg.c ((rmRS l).1))) (exec_load_row 35 (.tmp 5) (by kernel_rfl) gc (by kernel_rfl) _ _ (0, 0) _ (h90) Try.underlying35 rfl (by rw [Msg.c_size (rmRS_R l)]; kernel_rfl)) ?_
  refine ps_k (o_rmRead 126 1) (.agg #[.int .i64 0, .int .i64 0]) ?_
  obtain ⟨V93, eV93, kV93⟩ := rowset_step V86 ga ((Msg.c ((rmRS l).1)))
  have h94 : V93.heap[ga]? = some (.cells (Msg.c ((rmRS l).1)) 35 (0, 0)) := eV93 ▸ setRow_heap _ _ _ _ _ _ h88
  refine ps_s (o_rmRead 126 2) (w' := V93) (by rw [← eV93]; exact exec_store_row 35 (.tmp 2) (.tmp 31) (by kernel_rfl) ga ((Msg.c ((rmRS l).1))) (by kernel_rfl) (by kernel_rfl) 35 ((Msg.c msgZ)) h88 (by rw [Msg.c_size (rmRS_R l)]; kernel_rfl) (by rw [Msg.c_size (rmRS_R l)]; exact (Msg.c_size msgZ_R).symm) (Msg.c_one _)) ?_
  clear eV93
  have h95 := kV93.bo h89 (by omega)
  have h96 := kV93.bo h90 (by omega)
  have h97 := kV93.bo h87 (by omega)
  have K98 := K91.no kV93 (by omega)
  have z99 := kV93.size
  obtain ⟨V100, eV100, kV100⟩ := rowset_step V93 gf (#[.int .i64 0, .int .i64 0])
  have h101 : V100.heap[gf]? = some (.cells (#[.int .i64 0, .int .i64 0]) 38 (0, 0)) := eV100 ▸ setRow_heap _ _ _ _ _ _ h95
  refine ps_s (o_rmRead 126 3) (w' := V100) (by rw [← eV100]; exact exec_store_row 38 (.tmp 3) (.tmp 32) (by kernel_rfl) gf (#[.int .i64 0, .int .i64 0]) (by kernel_rfl) (by kernel_rfl) 38 (#[.int .i64 0, .int .i64 0]) h95 (by kernel_rfl) rfl (by kernel_rfl)) ?_
  clear eV100
  have h102 := kV100.bo h96 (by omega)
  have h103 := kV100.bo h97 (by omega)
  have h104 := kV100.bo h94 (by omega)
  have K105 := K98.no kV100 (by omega)
  have z106 := kV100.size
  refine ps_end ?_
  refine then_n ?_
  refine sy_ret (by kernel_rfl) ?_
  refine sy_out (.tuple #[.agg (Msg.c ((rmRS l).1)), .agg #[.int .i64 0, .int .i64 0]]) rfl (results_rows2 (p := 2) (q := 3) (ty := 35) (tz := 38) (by kernel_rfl) _ _ ga gf 35 38 (Msg.c ((rmRS l).1)) (#[.int .i64 0, .int .i64 0]) (0, 0) (0, 0) _ _ (by kernel_rfl) h104 Try.underlying35 rfl (by rw [Msg.c_size (rmRS_R l)]; kernel_rfl) (by kernel_rfl) h101 Try.underlying38 rfl (by kernel_rfl)) ?_
  exact ⟨by rw [mRes, if_pos hz, rm_msg l hz, hz, show (mFin l).2 = 0 from fin_zero hz], K105⟩
set_option maxRecDepth 100000 in
set_option maxHeartbeats 4000000 in
theorem rmRead_ebad (v0 : Value) (l : List UInt8) (w : World) (hx : BytesAt w v0 l) (hl : l.length ≤ 100000000) (hk : ¬ (mK l).1 = 11) (hz : ¬ (mFin l).1 = 0) :
    Calls Try.prog 12 #[v0] w (fun e w' => e = .returned (.tuple #[.agg (Msg.c (mRes l)), .agg #[.int .i64 (mFin l).1, .int .i64 (mFin l).2]]) ∧ Keeps Nob w w') := by
  have K0 : Keeps Nob w w := Keeps.refl _ _
  refine sy_enter (part_rmRead 1) ⟨#[v0, undef, undef, undef, undef, undef, undef, undef, undef, undef, undef, undef, undef, undef, undef, undef, undef, undef, undef, undef, undef, undef, undef, undef, undef, undef, undef, undef, undef, undef, undef, undef, undef], []⟩ Try.func12 (by kernel_rfl) (by kernel_rfl) ?_
  refine sy_sq (part_rmRead 2) (part_rmRead 3) ?_
  refine sy_reg ?_
  refine rg_plain 0 (opsAt (part_rmRead 2)) [0, 1] (by kernel_rfl) (by kernel_rfl) ?_
  obtain ⟨V1, eV1, ga, ega, h2, kV1⟩ := alloc_step w ((Msg.c msgZ)) 35
  have n3 : w.heap.size ≤ ga := ega ▸ K0.size
  refine ps_r (o_rmRead 2 0) (pT ga 0) (w' := V1) (by rw [← eV1, ← ega]; exact exec_alloc0 35 (by kernel_rfl) (.agg ((Msg.c msgZ))) (by kernel_rfl)) ?_
  clear eV1
  have K4 := K0.nn kV1
  have z5 := kV1.size
  obtain ⟨V6, eV6, gf, egf, h7, kV6⟩ := alloc_step V1 (#[.int .i64 0, .int .i64 0]) 38
  have n8 : ga < gf := egf ▸ lt_of_block h2
  have n9 : w.heap.size ≤ gf := egf ▸ K4.size
  refine ps_r (o_rmRead 2 1) (pT gf 0) (w' := V6) (by rw [← eV6, ← egf]; exact exec_alloc0 38 (by kernel_rfl) (.agg (#[.int .i64 0, .int .i64 0])) (by kernel_rfl)) ?_
  clear eV6
  have h10 := kV6.bk h2
  have K11 := K4.nn kV6
  have z12 := kV6.size
  refine ps_end ?_
  refine then_n ?_
  refine sy_sq (part_rmRead 6) (part_rmRead 7) ?_
  refine sy_reg ?_
  refine rg_plain 1 (opsAt (part_rmRead 6)) [0, 1, 2] (by kernel_rfl) (by kernel_rfl) ?_
  refine ps_k (o_rmRead 6 0) (v0) ?_
  have hlg := lt_of_block h10
  have hlf := lt_of_block h7
  have hKs := K11.size
  refine ps_c (o_rmRead 6 1) 43 #[v0] Try.func43 ((rrNew_ok v0 l _ (hx.keepsN K11) hl).mono ?_)
  rintro e V13 ⟨b, rv, rfl, hR0, hb0, hov, kV13⟩
  have hbl := hR0.lt
  refine ⟨_, rfl, ?_⟩
  have h14 := kV13.bk h10
  have h15 := kV13.bk h7
  have K16 := K11.nn kV13
  have z17 := kV13.size
  refine ps_k (o_rmRead 6 2) (pT b 0) ?_
  refine ps_end ?_
  refine then_n ?_
  refine sy_sq (part_rmRead 14) (part_rmRead 15) ?_
  refine sy_reg ?_
  refine rg_plain 2 (opsAt (part_rmRead 14)) [0, 1, 2, 3, 4] (by kernel_rfl) (by kernel_rfl) ?_
  refine ps_k (o_rmRead 14 0) (pT b 0) ?_
  refine ps_c (o_rmRead 14 1) 44 #[pT b 0, .int .i64 1, .int .i64 11] Try.func44 ((rrN_ok b rv l (⟨0, 0⟩) 1 11 _ hR0 (by decide) (by decide)).mono ?_)
  rintro e V18 ⟨rfl, hR19, kV18⟩
  have hR19' : RrAt V18 b rv l (mK l).2 := hR19
  refine ⟨_, rfl, ?_⟩
  have h20 := kV18.bo h14 (by omega)
  have h21 := kV18.bo h15 (by omega)
  have K22 := K16.no kV18 (by omega)
  have z23 := kV18.size
  refine ps_k (o_rmRead 14 2) (.agg (Msg.c (onlyK (mK l).1))) ?_
  obtain ⟨V24, eV24, gc, egc, h25, kV24⟩ := alloc_step V18 ((Msg.c msgZ)) 35
  have n26 : ga < gc := egc ▸ lt_of_block h20
  have n27 : gf < gc := egc ▸ lt_of_block h21
  have n28 : w.heap.size ≤ gc := egc ▸ K22.size
  refine ps_r (o_rmRead 14 3) (pT gc 0) (w' := V24) (by rw [← eV24, ← egc]; exact exec_alloc0 35 (by kernel_rfl) (.agg ((Msg.c msgZ))) (by kernel_rfl)) ?_
  clear eV24
  have h29 := kV24.bk h20
  have h30 := kV24.bk h21
  have h31 : RrAt V24 b rv l ((mK l).2) := hR19'.keeps kV24 (fun x => x) (fun _ _ x => x)
  have K32 := K22.nn kV24
  have z33 := kV24.size
  obtain ⟨V34, eV34, kV34⟩ := rowset_step V24 gc ((Msg.c (onlyK (mK l).1)))
  have h35 : V34.heap[gc]? = some (.cells (Msg.c ((onlyK (mK l).1))) 35 (0, 0)) := eV34 ▸ setRow_heap _ _ _ _ _ _ h25
  refine ps_s (o_rmRead 14 4) (w' := V34) (by rw [← eV34]; exact exec_store_row 35 (.tmp 5) (.tmp 11) (by kernel_rfl) gc ((Msg.c (onlyK (mK l).1))) (by kernel_rfl) (by kernel_rfl) 35 ((Msg.c msgZ)) h25 (by rw [Msg.c_size (onlyK_R _)]; kernel_rfl) (by rw [Msg.c_size (onlyK_R _)]; exact (Msg.c_size msgZ_R).symm) (Msg.c_one _)) ?_
  clear eV34
  have h36 := kV34.bo h29 (by omega)
  have h37 := kV34.bo h30 (by omega)
  have h38 : RrAt V34 b rv l ((mK l).2) := h31.keeps kV34 (by unfold Own.One; omega) (fun j hj e => by have := hov j hj; unfold Own.One at e; omega)
  have K39 := K32.no kV34 (by omega)
  have z40 := kV34.size
  refine ps_end ?_
  refine then_n ?_
  refine sy_sq (part_rmRead 30) (part_rmRead 31) ?_
  refine sy_sq (part_rmRead 60) (part_rmRead 61) ?_
  refine sy_reg ?_
  refine rg_plain 3 (opsAt (part_rmRead 60)) [0, 1, 2] (by kernel_rfl) (by kernel_rfl) ?_
  refine ps_k (o_rmRead 60 0) (pT gc 0) ?_
  refine ps_p (o_rmRead 60 1) (.int .i64 ((mK l).1)) (exec_ld 3 (.tmp 12) gc 0 Try.underlying3 (rc (h35) (Msg.get_n (onlyK_R _) NF.k))) ?_
  refine ps_p (o_rmRead 60 2) (.bool false) (eqf (((mK l).1) : Int) ((11) : Int) (by omega)) ?_
  refine ps_end ?_
  refine then_n ?_
  refine sy_n (.tmp 14) (part_rmRead 122) (part_rmRead 123) ?_
  refine sy_sq (part_rmRead 246) (part_rmRead 247) ?_
  refine sy_reg ?_
  refine rg_plain 5 (opsAt (part_rmRead 246)) [0, 1, 2, 3] (by kernel_rfl) (by kernel_rfl) ?_
  refine ps_k (o_rmRead 246 0) (pT b 0) ?_
  refine ps_c (o_rmRead 246 1) 44 #[pT b 0, .int .i64 0, .int .i64 63] Try.func44 ((rrN_ok b rv l ((mK l).2) 0 63 _ h38 (by decide) (by decide)).mono ?_)
  rintro e V41 ⟨rfl, hR42, kV41⟩
  refine ⟨_, rfl, ?_⟩
  have h43 := kV41.bo h36 (by omega)
  have h44 := kV41.bo h37 (by omega)
  have h45 := kV41.bo h35 (by omega)
  have K46 := K39.no kV41 (by omega)
  have z47 := kV41.size
  refine ps_k (o_rmRead 246 2) (pT gc 1) ?_
  obtain ⟨V48, eV48, kV48⟩ := cell_step V41 gc 1 (.int .i64 (rdN l ((mK l).2) 0 63).1)
  have h49 : V48.heap[gc]? = some (.cells (Msg.c (NF.set ((onlyK (mK l).1)) ((rdN l ((mK l).2) 0 63).1) .f)) 35 (0, 0)) := eV48 ▸ ((heap_setCell_same _ gc 1 _ _ (.int .i64 (rdN l ((mK l).2) 0 63).1) h45).trans (congrArg (fun c => some (Obj.cells c 35 (0, 0))) (show (Msg.c ((onlyK (mK l).1)) : Array Value).setIfInBounds 1 (.int .i64 (rdN l ((mK l).2) 0 63).1) = Msg.c (NF.set ((onlyK (mK l).1)) ((rdN l ((mK l).2) 0 63).1) .f) from Msg.set_n (onlyK_R _) NF.f _)))
  refine ps_s (o_rmRead 246 3) (w' := V48) (by rw [← eV48]; exact exec_store_cell 3 (.tmp 20) (.tmp 19) (by kernel_rfl) gc 1 (by kernel_rfl) (.int .i64 (rdN l ((mK l).2) 0 63).1) (by kernel_rfl) (by kernel_rfl) (by kernel_rfl) (.int .i64 (((onlyK (mK l).1)).f)) (rc (h45) (Msg.get_n (onlyK_R _) NF.f)) (frozen_of_row _ _ _ _ _ h45) (by kernel_rfl)) ?_
  clear eV48
  have h50 := kV48.bo h43 (by omega)
  have h51 := kV48.bo h44 (by omega)
  have h52 : RrAt V48 b rv l ((rdN l ((mK l).2) 0 63).2) := hR42.keeps kV48 (by unfold Own.One; omega) (fun j hj e => by have := hov j hj; unfold Own.One at e; omega)
  have K53 := K46.no kV48 (by omega)
  have z54 := kV48.size
  refine ps_end ?_
  refine then_n ?_
  refine sy_reg ?_
  refine rg_plain 6 (opsAt (part_rmRead 247)) [0, 1, 2, 3] (by kernel_rfl) (by kernel_rfl) ?_
  refine ps_k (o_rmRead 247 0) (pT b 0) ?_
  refine ps_p (o_rmRead 247 1) (.agg (Msg.c (NF.set ((onlyK (mK l).1)) ((rdN l ((mK l).2) 0 63).1) .f))) (exec_load_row 35 (.tmp 5) (by kernel_rfl) gc (by kernel_rfl) _ _ (0, 0) _ (h49) Try.underlying35 rfl (by rw [Msg.c_size (NF.R (onlyK_R _))]; kernel_rfl)) ?_
  refine ps_c (o_rmRead 247 2) 45 #[pT b 0, .agg (Msg.c (NF.set ((onlyK (mK l).1)) ((rdN l ((mK l).2) 0 63).1) .f))] Try.func45 ((rmrest_ok b rv l ((rdN l ((mK l).2) 0 63).2) (NF.set ((onlyK (mK l).1)) ((rdN l ((mK l).2) 0 63).1) .f) _ (NF.R (onlyK_R _)) (mK_le l).1 (by have := mK_le l; show (mK l).1 ≤ 10; omega) h52 (fun j hj => by have := hov j hj; omega) hl).mono ?_)
  rintro e V55 ⟨heV55, hR56, kV55⟩
  have hrr : restR l (mK l).1.toNat ((NF.set ((onlyK (mK l).1)) ((rdN l ((mK l).2) 0 63).1) .f), (rdN l ((mK l).2) 0 63).2) = rmRS l := by unfold rmRS; rw [if_neg hk, rd_n0 _ _ _ _ _ _ (by decide)]
  have heV55' : e = .returned (.agg (Msg.c (rmRS l).1)) := by rw [← hrr]; exact heV55
  subst heV55'
  have hR56' : RrAt V55 b rv l (rmRS l).2 := by rw [← hrr]; exact hR56
  refine ⟨_, rfl, ?_⟩
  have h57 := kV55.bo h50 (by omega)
  have h58 := kV55.bo h51 (by omega)
  have h59 := kV55.bo h49 (by omega)
  have K60 := K53.no kV55 (by omega)
  have z61 := kV55.size
  obtain ⟨V62, eV62, kV62⟩ := rowset_step V55 gc ((Msg.c (rmRS l).1))
  have h63 : V62.heap[gc]? = some (.cells (Msg.c ((rmRS l).1)) 35 (0, 0)) := eV62 ▸ setRow_heap _ _ _ _ _ _ h59
  refine ps_s (o_rmRead 247 3) (w' := V62) (by rw [← eV62]; exact exec_store_row 35 (.tmp 5) (.tmp 23) (by kernel_rfl) gc ((Msg.c (rmRS l).1)) (by kernel_rfl) (by kernel_rfl) 35 (Msg.c (NF.set ((onlyK (mK l).1)) ((rdN l ((mK l).2) 0 63).1) .f)) h59 (by rw [Msg.c_size (rmRS_R l)]; kernel_rfl) (by rw [Msg.c_size (rmRS_R l)]; exact (Msg.c_size (NF.R (onlyK_R _)))) (Msg.c_one _)) ?_
  clear eV62
  have h64 := kV62.bo h57 (by omega)
  have h65 := kV62.bo h58 (by omega)
  have h66 : RrAt V62 b rv l ((rmRS l).2) := hR56'.keeps kV62 (by unfold Own.One; omega) (fun j hj e => by have := hov j hj; unfold Own.One at e; omega)
  have K67 := K60.no kV62 (by omega)
  have z68 := kV62.size
  refine ps_end ?_
  refine then_n ?_
  refine sy_sq (part_rmRead 62) (part_rmRead 63) ?_
  refine sy_sq (part_rmRead 124) (part_rmRead 125) ?_
  refine sy_reg ?_
  refine rg_plain 7 (opsAt (part_rmRead 124)) [0, 1, 2, 3] (by kernel_rfl) (by kernel_rfl) ?_
  refine ps_k (o_rmRead 124 0) (pT b 0) ?_
  have hRz : RrAt V62 b rv l (mRS l).2 := by rw [← rm_rs l]; exact h66
  refine ps_c (o_rmRead 124 1) 46 #[pT b 0] Try.func46 ((rrEnd_ok b rv l (mRS l).2 _ hRz).mono ?_)
  rintro e V69 ⟨rfl, kV69⟩
  refine ⟨_, rfl, ?_⟩
  have h70 := kV69.bk h64
  have h71 := kV69.bk h65
  have h72 := kV69.bk h63
  have K73 := K67.nn kV69
  have z74 := kV69.size
  obtain ⟨V75, eV75, gx, egx, h76, kV75⟩ := alloc_step V69 (#[.int .i64 0, .int .i64 0]) 38
  have n77 : ga < gx := egx ▸ lt_of_block h70
  have n78 : gf < gx := egx ▸ lt_of_block h71
  have n79 : gc < gx := egx ▸ lt_of_block h72
  have n80 : w.heap.size ≤ gx := egx ▸ K73.size
  refine ps_r (o_rmRead 124 2) (pT gx 0) (w' := V75) (by rw [← eV75, ← egx]; exact exec_alloc0 38 (by kernel_rfl) (.agg (#[.int .i64 0, .int .i64 0])) (by kernel_rfl)) ?_
  clear eV75
  have h81 := kV75.bk h70
  have h82 := kV75.bk h71
  have h83 := kV75.bk h72
  have K84 := K73.nn kV75
  have z85 := kV75.size
  obtain ⟨V86, eV86, kV86⟩ := rowset_step V75 gx (#[.int .i64 (mFin l).1, .int .i64 (mFin l).2])
  have h87 : V86.heap[gx]? = some (.cells (#[.int .i64 (mFin l).1, .int .i64 (mFin l).2]) 38 (0, 0)) := eV86 ▸ setRow_heap _ _ _ _ _ _ h76
  refine ps_s (o_rmRead 124 3) (w' := V86) (by rw [← eV86]; exact exec_store_row 38 (.tmp 6) (.tmp 25) (by kernel_rfl) gx (#[.int .i64 (mFin l).1, .int .i64 (mFin l).2]) (by kernel_rfl) (by kernel_rfl) 38 (#[.int .i64 0, .int .i64 0]) h76 (by kernel_rfl) rfl (by kernel_rfl)) ?_
  clear eV86
  have h88 := kV86.bo h81 (by omega)
  have h89 := kV86.bo h82 (by omega)
  have h90 := kV86.bo h83 (by omega)
  have K91 := K84.no kV86 (by omega)
  have z92 := kV86.size
  refine ps_end ?_
  refine sy_a ⟨#[v0, undef, pT ga 0, pT gf 0, pT b 0, pT gc 0, pT gx 0, v0, pT b 0, pT b 0, .int .i64 (mK l).1, .agg (Msg.c (onlyK (mK l).1)), pT gc 0, .int .i64 ((mK l).1), .bool false, undef, undef, undef, pT b 0, .int .i64 (rdN l ((mK l).2) 0 63).1, pT gc 1, pT b 0, .agg (Msg.c (NF.set ((onlyK (mK l).1)) ((rdN l ((mK l).2) 0 63).1) .f)), .agg (Msg.c (rmRS l).1), pT b 0, .agg #[.int .i64 (mFin l).1, .int .i64 (mFin l).2], undef, undef, undef, undef, undef, undef, undef], []⟩ ?_
  refine then_n ?_
  refine sy_sq (part_rmRead 250) (part_rmRead 251) ?_
  refine sy_reg ?_
  refine rg_plain 8 (opsAt (part_rmRead 250)) [0, 1, 2] (by kernel_rfl) (by kernel_rfl) ?_
  refine ps_p (o_rmRead 250 0) (.agg #[.int .i64 (mFin l).1, .int .i64 (mFin l).2]) (exec_load_row 38 (.tmp 6) (by kernel_rfl) gx (by kernel_rfl) _ _ (0, 0) _ (h87) Try.underlying38 rfl (by kernel_rfl)) ?_
  refine ps_k (o_rmRead 250 1) (.agg #[.int .i64 0, .int .i64 0]) ?_
  refine ps_p (o_rmRead 250 2) (.bool true) (exec_cast (congrArg Value.bool (fault_no hz)) (exec_binop .neq 38 38 (.tmp 26) (.tmp 27) (by kernel_rfl) (.agg #[.int .i64 (mFin l).1, .int .i64 (mFin l).2]) (.agg #[.int .i64 0, .int .i64 0]) _ (by kernel_rfl) (by kernel_rfl) (run_eqGuard_agg _ _ _ _ _ _ _ fault_guard) (fault_ne _ _ _ _ _))) ?_
  refine ps_end ?_
  refine then_n ?_
  refine sy_ys (.tmp 28) (part_rmRead 502) (part_rmRead 503) ?_
  refine sy_sq (part_rmRead 1004) (part_rmRead 1005) ?_
  refine sy_np ?_
  refine sy_reg ?_
  refine an_begin 9 4 (opsAt (part_rmRead 1004)) (fun W => (W.heap[gx]? = some (.cells (#[.int .i64 (mFin l).1, .int .i64 (mFin l).2]) 38 (0, 0)))) #[false, false, false, false] (by kernel_rfl) (by kernel_rfl) (by kernel_rfl) (by kernel_rfl) ?_
  obtain ⟨V93, eV93, kV93⟩ := drew_step V86
  rw [eV93]
  clear eV93
  have h94 := kV93.bk h88
  have h95 := kV93.bk h89
  have h96 := kV93.bk h90
  have h97 := kV93.bk h87
  have K98 := K91.nn kV93
  have z99 := kV93.size
  refine an_k 0 (o_rmRead 1004 0) (.agg (Msg.c msgZ)) h97 ?_
  refine an_v 1 (o_rmRead 1004 1) (.agg #[.int .i64 (mFin l).1, .int .i64 (mFin l).2]) (fun W hS => exec_load_row 38 (.tmp 6) (by kernel_rfl) gx (by kernel_rfl) _ _ (0, 0) _ (hS) Try.underlying38 rfl (by kernel_rfl)) h97 ?_
  refine an_o 2 ?_
  obtain ⟨V100, eV100, kV100⟩ := rowset_step V93 ga ((Msg.c msgZ))
  have h101 : V100.heap[ga]? = some (.cells (Msg.c msgZ) 35 (0, 0)) := eV100 ▸ setRow_heap _ _ _ _ _ _ h94
  refine on_s (o_rmRead 1004 2) (w' := V100) (by rw [← eV100]; exact exec_store_row 35 (.tmp 2) (.tmp 29) (by kernel_rfl) ga ((Msg.c msgZ)) (by kernel_rfl) (by kernel_rfl) 35 ((Msg.c msgZ)) h94 (by rw [Msg.c_size msgZ_R]; kernel_rfl) rfl (Msg.c_one _)) ?_
  clear eV100
  have h102 := kV100.bo h95 (by omega)
  have h103 := kV100.bo h96 (by omega)
  have h104 := kV100.bo h97 (by omega)
  have K105 := K98.no kV100 (by omega)
  have z106 := kV100.size
  refine ⟨h104, ?_⟩
  refine an_o 3 ?_
  obtain ⟨V107, eV107, kV107⟩ := rowset_step V100 gf (#[.int .i64 (mFin l).1, .int .i64 (mFin l).2])
  have h108 : V107.heap[gf]? = some (.cells (#[.int .i64 (mFin l).1, .int .i64 (mFin l).2]) 38 (0, 0)) := eV107 ▸ setRow_heap _ _ _ _ _ _ h102
  refine on_s (o_rmRead 1004 3) (w' := V107) (by rw [← eV107]; exact exec_store_row 38 (.tmp 3) (.tmp 30) (by kernel_rfl) gf (#[.int .i64 (mFin l).1, .int .i64 (mFin l).2]) (by kernel_rfl) (by kernel_rfl) 38 (#[.int .i64 0, .int .i64 0]) h102 (by kernel_rfl) rfl (by kernel_rfl)) ?_
  clear eV107
  have h109 := kV107.bo h103 (by omega)
  have h110 := kV107.bo h104 (by omega)
  have h111 := kV107.bo h101 (by omega)
  have K112 := K105.no kV107 (by omega)
  have z113 := kV107.size
  refine ⟨h110, ?_⟩
  refine an_end (by kernel_rfl) ?_
  refine then_n ?_
  refine sy_ret (by kernel_rfl) ?_
  refine then_r ?_
  refine sy_out (.tuple #[.agg (Msg.c msgZ), .agg #[.int .i64 (mFin l).1, .int .i64 (mFin l).2]]) rfl (results_rows2 (p := 2) (q := 3) (ty := 35) (tz := 38) (by kernel_rfl) _ _ ga gf 35 38 (Msg.c msgZ) (#[.int .i64 (mFin l).1, .int .i64 (mFin l).2]) (0, 0) (0, 0) _ _ (by kernel_rfl) h111 Try.underlying35 rfl (by rw [Msg.c_size msgZ_R]; kernel_rfl) (by kernel_rfl) h108 Try.underlying38 rfl (by kernel_rfl)) ?_
  exact ⟨by rw [mRes, if_neg hz], K112⟩
theorem rmRead_any (v0 : Value) (l : List UInt8) (w : World) (hx : BytesAt w v0 l) (hl : l.length ≤ 100000000) : Calls Try.prog 12 #[v0] w (fun e w' => e = .returned (.tuple #[.agg (Msg.c (mRes l)), .agg #[.int .i64 (mFin l).1, .int .i64 (mFin l).2]]) ∧ Keeps Nob w w') := by
  by_cases hk : (mK l).1 = 11
  · by_cases hz : (mFin l).1 = 0
    · exact rmRead_tok v0 l w hx hl hk hz
    · exact rmRead_tbad v0 l w hx hl hk hz
  · by_cases hz : (mFin l).1 = 0
    · exact rmRead_eok v0 l w hx hl hk hz
    · exact rmRead_ebad v0 l w hx hl hk hz
end Go.Proofs.Ytmapcghgdbfmhaa
