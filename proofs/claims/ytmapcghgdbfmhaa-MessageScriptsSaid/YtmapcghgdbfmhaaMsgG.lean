/-
  Messages: why one may not be (printed by msg4.py). Conditions: none.
-/
import Derived.Test.YtmapcghgdbfmhaaMsgF
import Derived.Test.YtmapcghgdbfmhaaMsgE
namespace Go.Proofs.Ytmapcghgdbfmhaa
open Go Go.RowKit Go.Own Go.Shelf
def msgZ : Msg := ⟨0, 0, 0, 0, 0, 0, 0, 0, 0, 0, 0, 0, ⟨0, 0, 0, zeroH, 0⟩, ⟨0, 0, 0, zeroH, 0⟩, ⟨0, 0, zeroH, 0⟩, ⟨0, 0, zeroH, 0⟩⟩
def onlyK (k : Int) : Msg := { msgZ with k := k }
theorem msgZ_R : msgZ.R := ⟨rfl, rfl, rfl, rfl⟩
theorem onlyK_R (k : Int) : (onlyK k).R := ⟨rfl, rfl, rfl, rfl⟩
/-- The form is right: a kind, and a proof if it is evidence. -/
def Msg.form (m : Msg) : Prop := (1 ≤ m.k ∧ m.k ≤ 11) ∧ (m.k = 8 → 1 ≤ m.pf ∧ m.pf ≤ 3)
instance (m : Msg) : Decidable m.form := by unfold Msg.form; infer_instance
def Msg.chk (m : Msg) : Int := if m.form then (if m.items.all (chkIt m) = true then (if clrAll m = onlyK m.k then 0 else 2) else 3) else 5

noncomputable def part_mCheck1 (n : Nat) : Code := partOf Try.f52 n
noncomputable abbrev o_mCheck1 (n k : Nat) : Oper := (opsAt (part_mCheck1 n)).getD k default
set_option maxRecDepth 100000 in
set_option maxHeartbeats 4000000 in
theorem mCheck1_yes (ge : Nat) (x : Int) (w : World) (he : w.heap[ge]? = some (.cells #[.int .i64 x] 36 (0, 0))) :
    CallsD Try.prog 52 #[.pointer (some ⟨ge, 0, none⟩)] (.panicking [{ v := .iface 89 (.agg #[.int .i64 3]), recovered := false }]) w (fun e u' w' => u' = .panicking [{ v := .iface 89 (.agg #[.int .i64 3]), recovered := true }] ∧ (fun e w' => e = .returned (.tuple #[]) ∧ w'.heap[ge]? = some (.cells #[.int .i64 3] 36 (0, 0)) ∧ Keeps (One ge) w w') e w') := by
  have K0 : Keeps (One ge) w w := Keeps.refl _ _
  refine rec_yes (.iface 89 (.agg #[.int .i64 3])) 0 (part_mCheck1 3) (opsAt (part_mCheck1 2)) (o_mCheck1 2 0) (o_mCheck1 2 1) ⟨#[.pointer (some ⟨ge, 0, none⟩), undef, undef, undef, undef, undef, undef, undef, undef, undef, undef, undef, undef, undef, undef, undef], []⟩ ⟨#[.pointer (some ⟨ge, 0, none⟩), undef, undef, undef, .iface 89 (.agg #[.int .i64 3]), undef, undef, undef, undef, undef, undef, undef, undef, undef, undef, undef], []⟩ ⟨#[.pointer (some ⟨ge, 0, none⟩), .iface 89 (.agg #[.int .i64 3]), undef, undef, .iface 89 (.agg #[.int .i64 3]), undef, undef, undef, undef, undef, undef, undef, undef, undef, undef, undef], []⟩ (.iface 89 (.agg #[.int .i64 3])) Try.func52 (by kernel_rfl) (by kernel_rfl) (by kernel_rfl) (by kernel_rfl) (by kernel_rfl) (by kernel_rfl) (by kernel_rfl) (by kernel_rfl) (by kernel_rfl) ?_
  refine sy_sq (part_mCheck1 6) (part_mCheck1 7) ?_
  refine sy_reg ?_
  refine rg_plain 1 (opsAt (part_mCheck1 6)) [0, 1, 2, 3, 4, 5, 6, 7] (by kernel_rfl) (by kernel_rfl) ?_
  refine ps_k (o_mCheck1 6 0) (.iface 89 (.agg #[.int .i64 3])) ?_
  refine ps_k (o_mCheck1 6 1) (.tuple #[.agg #[.int .i64 3], .bool true]) ?_
  refine ps_k (o_mCheck1 6 2) (.tuple #[.agg #[.int .i64 3], .bool true]) ?_
  refine ps_k (o_mCheck1 6 3) (.agg #[.int .i64 3]) ?_
  refine ps_k (o_mCheck1 6 4) (.bool true) ?_
  obtain ⟨V1, eV1, g2, eg2, h3, kV1⟩ := alloc_step w (#[.int .i64 0]) 89
  have n4 : ge < g2 := eg2 ▸ lt_of_block he
  have n5 : w.heap.size ≤ g2 := eg2 ▸ K0.size
  refine ps_r (o_mCheck1 6 5) (pT g2 0) (w' := V1) (by rw [← eV1, ← eg2]; exact exec_alloc0 89 (by kernel_rfl) (.agg (#[.int .i64 0])) (by kernel_rfl)) ?_
  clear eV1
  have h6 := kV1.bk he
  have K7 := K0.nn kV1
  obtain ⟨V8, eV8, kV8⟩ := rowset_step V1 g2 (#[.int .i64 3])
  have h9 : V8.heap[g2]? = some (.cells (#[.int .i64 3]) 89 (0, 0)) := eV8 ▸ setRow_heap _ _ _ _ _ _ h3
  refine ps_s (o_mCheck1 6 6) (w' := V8) (by rw [← eV8]; exact exec_store_row 89 (.tmp 2) (.tmp 8) (by kernel_rfl) g2 (#[.int .i64 3]) (by kernel_rfl) (by kernel_rfl) 89 (#[.int .i64 0]) h3 (by kernel_rfl) (by kernel_rfl) (by kernel_rfl)) ?_
  clear eV8
  have h10 := kV8.bo h6 (by omega)
  have K11 := K7.no kV8 (by omega)
  refine ps_k (o_mCheck1 6 7) (.bool true) ?_
  refine ps_end ?_
  refine then_n ?_
  refine sy_sq (part_mCheck1 14) (part_mCheck1 15) ?_
  refine sy_reg ?_
  refine rg_plain 2 (opsAt (part_mCheck1 14)) [0] (by kernel_rfl) (by kernel_rfl) ?_
  refine ps_k (o_mCheck1 14 0) (.bool true) ?_
  refine ps_end ?_
  refine then_n ?_
  refine sy_ys (.tmp 10) (part_mCheck1 30) (part_mCheck1 31) ?_
  refine sy_reg ?_
  refine rg_plain 3 (opsAt (part_mCheck1 30)) [0, 1, 2] (by kernel_rfl) (by kernel_rfl) ?_
  refine ps_k (o_mCheck1 30 0) (pT g2 0) ?_
  refine ps_p (o_mCheck1 30 1) (.int .i64 3) (exec_ld 36 (.tmp 11) g2 0 Try.underlying36 (rc (h9) (by kernel_rfl))) ?_
  obtain ⟨V12, eV12, kV12⟩ := cell_step V8 ge 0 (.int .i64 3)
  have h13 : V12.heap[ge]? = some (.cells (#[.int .i64 3]) 36 (0, 0)) := eV12 ▸ ((heap_setCell_same _ ge 0 _ _ (.int .i64 3) h10).trans (congrArg (fun c => some (Obj.cells c 36 (0, 0))) (show (#[.int .i64 x] : Array Value).setIfInBounds 0 (.int .i64 3) = #[.int .i64 3] from by kernel_rfl)))
  refine ps_s (o_mCheck1 30 2) (w' := V12) (by rw [← eV12]; exact exec_store_cell 36 (.tmp 0) (.tmp 12) (by kernel_rfl) ge 0 (by kernel_rfl) (.int .i64 3) (by kernel_rfl) (by kernel_rfl) (by kernel_rfl) (.int .i64 x) (rc (h10) (by kernel_rfl)) (frozen_of_row _ _ _ _ _ h10) (by kernel_rfl)) ?_
  clear eV12
  have h14 := kV12.bo h9 (by omega)
  have K15 : Keeps (One ge) w V12 := K11.then kV12 (fun i hi hm => by unfold Own.One at hm; subst hm; exact rfl)
  refine ps_end ?_
  refine sy_fall (.tuple #[]) rfl (by kernel_rfl) ?_
  exact ⟨rfl, h13, K15⟩
set_option maxRecDepth 100000 in
set_option maxHeartbeats 4000000 in
theorem mCheck1_no (ge : Nat) (x : Int) (w : World) (he : w.heap[ge]? = some (.cells #[.int .i64 x] 36 (0, 0))) :
    CallsD Try.prog 52 #[.pointer (some ⟨ge, 0, none⟩)] (.returning) w (fun e u' w' => u' = .returning ∧ (fun e w' => e = .returned (.tuple #[]) ∧ w'.heap[ge]? = some (.cells #[.int .i64 x] 36 (0, 0)) ∧ Keeps (One ge) w w') e w') := by
  have K0 : Keeps (One ge) w w := Keeps.refl _ _
  refine rec_no 0 (part_mCheck1 3) (opsAt (part_mCheck1 2)) (o_mCheck1 2 0) (o_mCheck1 2 1) ⟨#[.pointer (some ⟨ge, 0, none⟩), undef, undef, undef, undef, undef, undef, undef, undef, undef, undef, undef, undef, undef, undef, undef], []⟩ ⟨#[.pointer (some ⟨ge, 0, none⟩), undef, undef, undef, .nilIface, undef, undef, undef, undef, undef, undef, undef, undef, undef, undef, undef], []⟩ ⟨#[.pointer (some ⟨ge, 0, none⟩), .nilIface, undef, undef, .nilIface, undef, undef, undef, undef, undef, undef, undef, undef, undef, undef, undef], []⟩ (.nilIface) Try.func52 (by kernel_rfl) (by kernel_rfl) (by kernel_rfl) (by kernel_rfl) (by kernel_rfl) (by kernel_rfl) (by kernel_rfl) (by kernel_rfl) (by kernel_rfl) ?_
  refine sy_sq (part_mCheck1 6) (part_mCheck1 7) ?_
  refine sy_reg ?_
  refine rg_plain 1 (opsAt (part_mCheck1 6)) [0, 1, 2, 3, 4, 5, 6, 7] (by kernel_rfl) (by kernel_rfl) ?_
  refine ps_k (o_mCheck1 6 0) (.nilIface) ?_
  refine ps_k (o_mCheck1 6 1) (.tuple #[.agg #[.int .i64 0], .bool false]) ?_
  refine ps_k (o_mCheck1 6 2) (.tuple #[.agg #[.int .i64 0], .bool false]) ?_
  refine ps_k (o_mCheck1 6 3) (.agg #[.int .i64 0]) ?_
  refine ps_k (o_mCheck1 6 4) (.bool false) ?_
  obtain ⟨V1, eV1, g2, eg2, h3, kV1⟩ := alloc_step w (#[.int .i64 0]) 89
  have n4 : ge < g2 := eg2 ▸ lt_of_block he
  have n5 : w.heap.size ≤ g2 := eg2 ▸ K0.size
  refine ps_r (o_mCheck1 6 5) (pT g2 0) (w' := V1) (by rw [← eV1, ← eg2]; exact exec_alloc0 89 (by kernel_rfl) (.agg (#[.int .i64 0])) (by kernel_rfl)) ?_
  clear eV1
  have h6 := kV1.bk he
  have K7 := K0.nn kV1
  obtain ⟨V8, eV8, kV8⟩ := rowset_step V1 g2 (#[.int .i64 0])
  have h9 : V8.heap[g2]? = some (.cells (#[.int .i64 0]) 89 (0, 0)) := eV8 ▸ setRow_heap _ _ _ _ _ _ h3
  refine ps_s (o_mCheck1 6 6) (w' := V8) (by rw [← eV8]; exact exec_store_row 89 (.tmp 2) (.tmp 8) (by kernel_rfl) g2 (#[.int .i64 0]) (by kernel_rfl) (by kernel_rfl) 89 (#[.int .i64 0]) h3 (by kernel_rfl) (by kernel_rfl) (by kernel_rfl)) ?_
  clear eV8
  have h10 := kV8.bo h6 (by omega)
  have K11 := K7.no kV8 (by omega)
  refine ps_k (o_mCheck1 6 7) (.bool false) ?_
  refine ps_end ?_
  refine then_n ?_
  refine sy_sq (part_mCheck1 14) (part_mCheck1 15) ?_
  refine sy_reg ?_
  refine rg_plain 2 (opsAt (part_mCheck1 14)) [0] (by kernel_rfl) (by kernel_rfl) ?_
  refine ps_k (o_mCheck1 14 0) (.bool false) ?_
  refine ps_end ?_
  refine then_n ?_
  refine sy_n (.tmp 10) (part_mCheck1 30) (part_mCheck1 31) ?_
  refine sy_sq (part_mCheck1 62) (part_mCheck1 63) ?_
  refine sy_reg ?_
  refine rg_plain 4 (opsAt (part_mCheck1 62)) [0, 1] (by kernel_rfl) (by kernel_rfl) ?_
  refine ps_k (o_mCheck1 62 0) (.nilIface) ?_
  refine ps_k (o_mCheck1 62 1) (.bool false) ?_
  refine ps_end ?_
  refine then_n ?_
  refine sy_n (.tmp 14) (part_mCheck1 126) (part_mCheck1 127) ?_
  refine sy_sk ?_
  refine sy_fall (.tuple #[]) rfl (by kernel_rfl) ?_
  exact ⟨rfl, h10, K11⟩
noncomputable def part_mCheck (n : Nat) : Code := partOf Try.f17 n
noncomputable abbrev o_mCheck (n k : Nat) : Oper := (opsAt (part_mCheck n)).getD k default
set_option maxRecDepth 100000 in
set_option maxHeartbeats 4000000 in
theorem mCheck_f1 (m : Msg) (w : World) (hr : m.R) (hk : ¬ (1 ≤ m.k ∧ m.k ≤ 11)) :
    Calls Try.prog 17 #[.agg (Msg.c m)] w (fun e w' => e = .returned (.int .i64 5) ∧ Keeps Nob w w') := by
  have K0 : Keeps Nob w w := Keeps.refl _ _
  refine sy_enterD (part_mCheck 1) ⟨#[.agg (Msg.c m), undef, undef, undef, undef, undef, undef, undef, undef, undef, undef, undef, undef, undef, undef, undef, undef, undef, undef, undef, undef, undef, undef, undef, undef, undef, undef, undef, undef, undef, undef, undef, undef, undef, undef, undef], []⟩ Try.func17 (by kernel_rfl) (by kernel_rfl) ?_
  refine sy_sq (part_mCheck 2) (part_mCheck 3) ?_
  refine sy_reg ?_
  refine rg_plain 0 (opsAt (part_mCheck 2)) [0, 1] (by kernel_rfl) (by kernel_rfl) ?_
  obtain ⟨V1, eV1, gm, egm, h2, kV1⟩ := alloc_step w ((Msg.c m)) 35
  have n3 : w.heap.size ≤ gm := egm ▸ K0.size
  refine ps_r (o_mCheck 2 0) (pT gm 0) (w' := V1) (by rw [← eV1, ← egm]; exact exec_box 35 (.tmp 0) (by kernel_rfl) (.agg (Msg.c m)) (by kernel_rfl)) ?_
  clear eV1
  have K4 := K0.nn kV1
  obtain ⟨V5, eV5, ge, ege, h6, kV5⟩ := alloc_step V1 (#[.int .i64 0]) 36
  have n7 : gm < ge := ege ▸ lt_of_block h2
  have n8 : w.heap.size ≤ ge := ege ▸ K4.size
  refine ps_r (o_mCheck 2 1) (pT ge 0) (w' := V5) (by rw [← eV5, ← ege]; exact exec_alloc0 36 (by kernel_rfl) (.int .i64 0) (by kernel_rfl)) ?_
  clear eV5
  have h9 := kV5.bk h2
  have K10 := K4.nn kV5
  refine ps_end ?_
  refine then_n ?_
  refine sy_sq (part_mCheck 6) (part_mCheck 7) ?_
  refine sy_sq (part_mCheck 12) (part_mCheck 13) ?_
  refine sy_reg ?_
  refine rg_plain 1 (opsAt (part_mCheck 12)) [0, 1, 2, 3, 4, 5, 6, 7, 8, 9, 10, 11, 12, 13, 14, 15, 16, 17, 18] (by kernel_rfl) (by kernel_rfl) ?_
  refine ps_k (o_mCheck 12 0) (pT gm 0) ?_
  refine ps_p (o_mCheck 12 1) (.int .i64 m.k) (exec_ld 3 (.tmp 4) gm 0 Try.underlying3 (rc (h9) (Msg.get_n hr NF.k))) ?_
  refine ps_c (o_mCheck 12 2) 40 #[.int .i64 m.k] Try.func40 ((mknown_no _ _ hk).mono ?_)
  rintro e w1 ⟨rfl, rfl⟩
  refine ⟨_, rfl, ?_⟩
  refine ps_k (o_mCheck 12 3) (.bool true) ?_
  refine ps_k (o_mCheck 12 4) (.bool true) ?_
  refine ps_n (o_mCheck 12 5) ?_
  refine ps_n (o_mCheck 12 6) ?_
  refine ps_n (o_mCheck 12 7) ?_
  refine ps_n (o_mCheck 12 8) ?_
  refine ps_n (o_mCheck 12 9) ?_
  refine ps_n (o_mCheck 12 10) ?_
  refine ps_n (o_mCheck 12 11) ?_
  refine ps_n (o_mCheck 12 12) ?_
  refine ps_n (o_mCheck 12 13) ?_
  refine ps_n (o_mCheck 12 14) ?_
  refine ps_n (o_mCheck 12 15) ?_
  refine ps_n (o_mCheck 12 16) ?_
  refine ps_n (o_mCheck 12 17) ?_
  refine ps_k (o_mCheck 12 18) (.bool true) ?_
  refine ps_end ?_
  refine then_n ?_
  refine sy_ys (.tmp 22) (part_mCheck 26) (part_mCheck 27) ?_
  refine sy_sq (part_mCheck 52) (part_mCheck 53) ?_
  refine sy_reg ?_
  refine rg_plain 2 (opsAt (part_mCheck 52)) [0] (by kernel_rfl) (by kernel_rfl) ?_
  obtain ⟨V11, eV11, kV11⟩ := cell_step V5 ge 0 (.int .i64 5)
  have h12 : V11.heap[ge]? = some (.cells (#[.int .i64 5]) 36 (0, 0)) := eV11 ▸ ((heap_setCell_same _ ge 0 _ _ (.int .i64 5) h6).trans (congrArg (fun c => some (Obj.cells c 36 (0, 0))) (show (#[.int .i64 0] : Array Value).setIfInBounds 0 (.int .i64 5) = #[.int .i64 5] from by kernel_rfl)))
  refine ps_s (o_mCheck 52 0) (w' := V11) (by rw [← eV11]; exact exec_store_cell 36 (.tmp 2) (.const (.int .i64 5)) (by kernel_rfl) ge 0 (by kernel_rfl) (.int .i64 5) (by kernel_rfl) (by kernel_rfl) (by kernel_rfl) (.int .i64 0) (rc (h6) (by kernel_rfl)) (frozen_of_row _ _ _ _ _ h6) (by kernel_rfl)) ?_
  clear eV11
  have h13 := kV11.bo h9 (by omega)
  have K14 := K10.no kV11 (by omega)
  refine ps_end ?_
  refine then_n ?_
  refine sy_ret (by kernel_rfl) ?_
  refine then_r ?_
  refine sy_outD0 (.int .i64 5) rfl (results_cell1 (p := 2) (ty := 36) (by kernel_rfl) _ _ ge 0 (.int .i64 5) _ (by kernel_rfl) Try.underlying36 rfl (rc (h12) (by kernel_rfl))) ?_
  exact ⟨rfl, K14⟩
set_option maxRecDepth 100000 in
set_option maxHeartbeats 4000000 in
theorem mCheck_f2 (m : Msg) (w : World) (hr : m.R) (hk : 1 ≤ m.k ∧ m.k ≤ 11) (h8 : m.k = 8) (hp : m.pf < 1) :
    Calls Try.prog 17 #[.agg (Msg.c m)] w (fun e w' => e = .returned (.int .i64 5) ∧ Keeps Nob w w') := by
  have K0 : Keeps Nob w w := Keeps.refl _ _
  refine sy_enterD (part_mCheck 1) ⟨#[.agg (Msg.c m), undef, undef, undef, undef, undef, undef, undef, undef, undef, undef, undef, undef, undef, undef, undef, undef, undef, undef, undef, undef, undef, undef, undef, undef, undef, undef, undef, undef, undef, undef, undef, undef, undef, undef, undef], []⟩ Try.func17 (by kernel_rfl) (by kernel_rfl) ?_
  refine sy_sq (part_mCheck 2) (part_mCheck 3) ?_
  refine sy_reg ?_
  refine rg_plain 0 (opsAt (part_mCheck 2)) [0, 1] (by kernel_rfl) (by kernel_rfl) ?_
  obtain ⟨V1, eV1, gm, egm, h2, kV1⟩ := alloc_step w ((Msg.c m)) 35
  have n3 : w.heap.size ≤ gm := egm ▸ K0.size
  refine ps_r (o_mCheck 2 0) (pT gm 0) (w' := V1) (by rw [← eV1, ← egm]; exact exec_box 35 (.tmp 0) (by kernel_rfl) (.agg (Msg.c m)) (by kernel_rfl)) ?_
  clear eV1
  have K4 := K0.nn kV1
  obtain ⟨V5, eV5, ge, ege, h6, kV5⟩ := alloc_step V1 (#[.int .i64 0]) 36
  have n7 : gm < ge := ege ▸ lt_of_block h2
  have n8 : w.heap.size ≤ ge := ege ▸ K4.size
  refine ps_r (o_mCheck 2 1) (pT ge 0) (w' := V5) (by rw [← eV5, ← ege]; exact exec_alloc0 36 (by kernel_rfl) (.int .i64 0) (by kernel_rfl)) ?_
  clear eV5
  have h9 := kV5.bk h2
  have K10 := K4.nn kV5
  refine ps_end ?_
  refine then_n ?_
  refine sy_sq (part_mCheck 6) (part_mCheck 7) ?_
  refine sy_sq (part_mCheck 12) (part_mCheck 13) ?_
  refine sy_reg ?_
  refine rg_plain 1 (opsAt (part_mCheck 12)) [0, 1, 2, 3, 4, 5, 6, 7, 8, 9, 10, 11, 12, 13, 14, 15, 16, 17, 18] (by kernel_rfl) (by kernel_rfl) ?_
  refine ps_k (o_mCheck 12 0) (pT gm 0) ?_
  refine ps_p (o_mCheck 12 1) (.int .i64 m.k) (exec_ld 3 (.tmp 4) gm 0 Try.underlying3 (rc (h9) (Msg.get_n hr NF.k))) ?_
  refine ps_c (o_mCheck 12 2) 40 #[.int .i64 m.k] Try.func40 ((mknown_yes _ _ hk.1 hk.2).mono ?_)
  rintro e w1 ⟨rfl, rfl⟩
  refine ⟨_, rfl, ?_⟩
  refine ps_k (o_mCheck 12 3) (.bool false) ?_
  refine ps_k (o_mCheck 12 4) (.bool false) ?_
  refine ps_k (o_mCheck 12 5) (pT gm 0) ?_
  refine ps_p (o_mCheck 12 6) (.int .i64 m.k) (exec_ld 3 (.tmp 9) gm 0 Try.underlying3 (rc (h9) (Msg.get_n hr NF.k))) ?_
  refine ps_p (o_mCheck 12 7) (.bool true) (eqt ((m.k) : Int) ((8) : Int) (by omega)) ?_
  refine ps_k (o_mCheck 12 8) (.bool true) ?_
  refine ps_k (o_mCheck 12 9) (pT gm 11) ?_
  refine ps_p (o_mCheck 12 10) (.int .i64 m.pf) (exec_ld 3 (.tmp 13) gm 11 Try.underlying3 (rc (h9) (Msg.get_n hr NF.pf))) ?_
  refine ps_p (o_mCheck 12 11) (.bool true) (dct (((m.pf) : Int) < ((1) : Int)) (by omega)) ?_
  refine ps_k (o_mCheck 12 12) (.bool true) ?_
  refine ps_n (o_mCheck 12 13) ?_
  refine ps_n (o_mCheck 12 14) ?_
  refine ps_n (o_mCheck 12 15) ?_
  refine ps_k (o_mCheck 12 16) (.bool true) ?_
  refine ps_k (o_mCheck 12 17) (.bool true) ?_
  refine ps_k (o_mCheck 12 18) (.bool true) ?_
  refine ps_end ?_
  refine then_n ?_
  refine sy_ys (.tmp 22) (part_mCheck 26) (part_mCheck 27) ?_
  refine sy_sq (part_mCheck 52) (part_mCheck 53) ?_
  refine sy_reg ?_
  refine rg_plain 2 (opsAt (part_mCheck 52)) [0] (by kernel_rfl) (by kernel_rfl) ?_
  obtain ⟨V11, eV11, kV11⟩ := cell_step V5 ge 0 (.int .i64 5)
  have h12 : V11.heap[ge]? = some (.cells (#[.int .i64 5]) 36 (0, 0)) := eV11 ▸ ((heap_setCell_same _ ge 0 _ _ (.int .i64 5) h6).trans (congrArg (fun c => some (Obj.cells c 36 (0, 0))) (show (#[.int .i64 0] : Array Value).setIfInBounds 0 (.int .i64 5) = #[.int .i64 5] from by kernel_rfl)))
  refine ps_s (o_mCheck 52 0) (w' := V11) (by rw [← eV11]; exact exec_store_cell 36 (.tmp 2) (.const (.int .i64 5)) (by kernel_rfl) ge 0 (by kernel_rfl) (.int .i64 5) (by kernel_rfl) (by kernel_rfl) (by kernel_rfl) (.int .i64 0) (rc (h6) (by kernel_rfl)) (frozen_of_row _ _ _ _ _ h6) (by kernel_rfl)) ?_
  clear eV11
  have h13 := kV11.bo h9 (by omega)
  have K14 := K10.no kV11 (by omega)
  refine ps_end ?_
  refine then_n ?_
  refine sy_ret (by kernel_rfl) ?_
  refine then_r ?_
  refine sy_outD0 (.int .i64 5) rfl (results_cell1 (p := 2) (ty := 36) (by kernel_rfl) _ _ ge 0 (.int .i64 5) _ (by kernel_rfl) Try.underlying36 rfl (rc (h12) (by kernel_rfl))) ?_
  exact ⟨rfl, K14⟩
set_option maxRecDepth 100000 in
set_option maxHeartbeats 4000000 in
theorem mCheck_f3 (m : Msg) (w : World) (hr : m.R) (hk : 1 ≤ m.k ∧ m.k ≤ 11) (h8 : m.k = 8) (hp : 1 ≤ m.pf) (hp2 : 3 < m.pf) :
    Calls Try.prog 17 #[.agg (Msg.c m)] w (fun e w' => e = .returned (.int .i64 5) ∧ Keeps Nob w w') := by
  have K0 : Keeps Nob w w := Keeps.refl _ _
  refine sy_enterD (part_mCheck 1) ⟨#[.agg (Msg.c m), undef, undef, undef, undef, undef, undef, undef, undef, undef, undef, undef, undef, undef, undef, undef, undef, undef, undef, undef, undef, undef, undef, undef, undef, undef, undef, undef, undef, undef, undef, undef, undef, undef, undef, undef], []⟩ Try.func17 (by kernel_rfl) (by kernel_rfl) ?_
  refine sy_sq (part_mCheck 2) (part_mCheck 3) ?_
  refine sy_reg ?_
  refine rg_plain 0 (opsAt (part_mCheck 2)) [0, 1] (by kernel_rfl) (by kernel_rfl) ?_
  obtain ⟨V1, eV1, gm, egm, h2, kV1⟩ := alloc_step w ((Msg.c m)) 35
  have n3 : w.heap.size ≤ gm := egm ▸ K0.size
  refine ps_r (o_mCheck 2 0) (pT gm 0) (w' := V1) (by rw [← eV1, ← egm]; exact exec_box 35 (.tmp 0) (by kernel_rfl) (.agg (Msg.c m)) (by kernel_rfl)) ?_
  clear eV1
  have K4 := K0.nn kV1
  obtain ⟨V5, eV5, ge, ege, h6, kV5⟩ := alloc_step V1 (#[.int .i64 0]) 36
  have n7 : gm < ge := ege ▸ lt_of_block h2
  have n8 : w.heap.size ≤ ge := ege ▸ K4.size
  refine ps_r (o_mCheck 2 1) (pT ge 0) (w' := V5) (by rw [← eV5, ← ege]; exact exec_alloc0 36 (by kernel_rfl) (.int .i64 0) (by kernel_rfl)) ?_
  clear eV5
  have h9 := kV5.bk h2
  have K10 := K4.nn kV5
  refine ps_end ?_
  refine then_n ?_
  refine sy_sq (part_mCheck 6) (part_mCheck 7) ?_
  refine sy_sq (part_mCheck 12) (part_mCheck 13) ?_
  refine sy_reg ?_
  refine rg_plain 1 (opsAt (part_mCheck 12)) [0, 1, 2, 3, 4, 5, 6, 7, 8, 9, 10, 11, 12, 13, 14, 15, 16, 17, 18] (by kernel_rfl) (by kernel_rfl) ?_
  refine ps_k (o_mCheck 12 0) (pT gm 0) ?_
  refine ps_p (o_mCheck 12 1) (.int .i64 m.k) (exec_ld 3 (.tmp 4) gm 0 Try.underlying3 (rc (h9) (Msg.get_n hr NF.k))) ?_
  refine ps_c (o_mCheck 12 2) 40 #[.int .i64 m.k] Try.func40 ((mknown_yes _ _ hk.1 hk.2).mono ?_)
  rintro e w1 ⟨rfl, rfl⟩
  refine ⟨_, rfl, ?_⟩
  refine ps_k (o_mCheck 12 3) (.bool false) ?_
  refine ps_k (o_mCheck 12 4) (.bool false) ?_
  refine ps_k (o_mCheck 12 5) (pT gm 0) ?_
  refine ps_p (o_mCheck 12 6) (.int .i64 m.k) (exec_ld 3 (.tmp 9) gm 0 Try.underlying3 (rc (h9) (Msg.get_n hr NF.k))) ?_
  refine ps_p (o_mCheck 12 7) (.bool true) (eqt ((m.k) : Int) ((8) : Int) (by omega)) ?_
  refine ps_k (o_mCheck 12 8) (.bool true) ?_
  refine ps_k (o_mCheck 12 9) (pT gm 11) ?_
  refine ps_p (o_mCheck 12 10) (.int .i64 m.pf) (exec_ld 3 (.tmp 13) gm 11 Try.underlying3 (rc (h9) (Msg.get_n hr NF.pf))) ?_
  refine ps_p (o_mCheck 12 11) (.bool false) (dcf (((m.pf) : Int) < ((1) : Int)) (by omega)) ?_
  refine ps_k (o_mCheck 12 12) (.bool false) ?_
  refine ps_k (o_mCheck 12 13) (pT gm 11) ?_
  refine ps_p (o_mCheck 12 14) (.int .i64 m.pf) (exec_ld 3 (.tmp 17) gm 11 Try.underlying3 (rc (h9) (Msg.get_n hr NF.pf))) ?_
  refine ps_p (o_mCheck 12 15) (.bool true) (dct (((m.pf) : Int) > ((3) : Int)) (by omega)) ?_
  refine ps_k (o_mCheck 12 16) (.bool true) ?_
  refine ps_k (o_mCheck 12 17) (.bool true) ?_
  refine ps_k (o_mCheck 12 18) (.bool true) ?_
  refine ps_end ?_
  refine then_n ?_
  refine sy_ys (.tmp 22) (part_mCheck 26) (part_mCheck 27) ?_
  refine sy_sq (part_mCheck 52) (part_mCheck 53) ?_
  refine sy_reg ?_
  refine rg_plain 2 (opsAt (part_mCheck 52)) [0] (by kernel_rfl) (by kernel_rfl) ?_
  obtain ⟨V11, eV11, kV11⟩ := cell_step V5 ge 0 (.int .i64 5)
  have h12 : V11.heap[ge]? = some (.cells (#[.int .i64 5]) 36 (0, 0)) := eV11 ▸ ((heap_setCell_same _ ge 0 _ _ (.int .i64 5) h6).trans (congrArg (fun c => some (Obj.cells c 36 (0, 0))) (show (#[.int .i64 0] : Array Value).setIfInBounds 0 (.int .i64 5) = #[.int .i64 5] from by kernel_rfl)))
  refine ps_s (o_mCheck 52 0) (w' := V11) (by rw [← eV11]; exact exec_store_cell 36 (.tmp 2) (.const (.int .i64 5)) (by kernel_rfl) ge 0 (by kernel_rfl) (.int .i64 5) (by kernel_rfl) (by kernel_rfl) (by kernel_rfl) (.int .i64 0) (rc (h6) (by kernel_rfl)) (frozen_of_row _ _ _ _ _ h6) (by kernel_rfl)) ?_
  clear eV11
  have h13 := kV11.bo h9 (by omega)
  have K14 := K10.no kV11 (by omega)
  refine ps_end ?_
  refine then_n ?_
  refine sy_ret (by kernel_rfl) ?_
  refine then_r ?_
  refine sy_outD0 (.int .i64 5) rfl (results_cell1 (p := 2) (ty := 36) (by kernel_rfl) _ _ ge 0 (.int .i64 5) _ (by kernel_rfl) Try.underlying36 rfl (rc (h12) (by kernel_rfl))) ?_
  exact ⟨rfl, K14⟩
set_option maxRecDepth 100000 in
set_option maxHeartbeats 4000000 in
theorem mCheck_panic (m : Msg) (w : World) (hr : m.R) (hf : m.form) (hn : m.items.all (chkIt m) = false) :
    Calls Try.prog 17 #[.agg (Msg.c m)] w (fun e w' => e = .returned (.int .i64 3) ∧ Keeps Nob w w') := by
  have hk := hf.1
  have hk1 : 1 ≤ m.k.toNat := by omega
  have hk2 : m.k.toNat ≤ 11 := by omega
  have hkc : ((m.k.toNat : Nat) : Int) = m.k := by omega
  have K0 : Keeps Nob w w := Keeps.refl _ _
  refine sy_enterD (part_mCheck 1) ⟨#[.agg (Msg.c m), undef, undef, undef, undef, undef, undef, undef, undef, undef, undef, undef, undef, undef, undef, undef, undef, undef, undef, undef, undef, undef, undef, undef, undef, undef, undef, undef, undef, undef, undef, undef, undef, undef, undef, undef], []⟩ Try.func17 (by kernel_rfl) (by kernel_rfl) ?_
  refine sy_sq (part_mCheck 2) (part_mCheck 3) ?_
  refine sy_reg ?_
  refine rg_plain 0 (opsAt (part_mCheck 2)) [0, 1] (by kernel_rfl) (by kernel_rfl) ?_
  obtain ⟨V1, eV1, gm, egm, h2, kV1⟩ := alloc_step w ((Msg.c m)) 35
  have n3 : w.heap.size ≤ gm := egm ▸ K0.size
  refine ps_r (o_mCheck 2 0) (pT gm 0) (w' := V1) (by rw [← eV1, ← egm]; exact exec_box 35 (.tmp 0) (by kernel_rfl) (.agg (Msg.c m)) (by kernel_rfl)) ?_
  clear eV1
  have K4 := K0.nn kV1
  obtain ⟨V5, eV5, ge, ege, h6, kV5⟩ := alloc_step V1 (#[.int .i64 0]) 36
  have n7 : gm < ge := ege ▸ lt_of_block h2
  have n8 : w.heap.size ≤ ge := ege ▸ K4.size
  refine ps_r (o_mCheck 2 1) (pT ge 0) (w' := V5) (by rw [← eV5, ← ege]; exact exec_alloc0 36 (by kernel_rfl) (.int .i64 0) (by kernel_rfl)) ?_
  clear eV5
  have h9 := kV5.bk h2
  have K10 := K4.nn kV5
  refine ps_end ?_
  refine then_n ?_
  refine sy_sq (part_mCheck 6) (part_mCheck 7) ?_
  refine sy_cut (fun aQ VQ => ∃ (u1_4 u1_5 u1_9 u1_10 u1_11 u1_12 u1_13 u1_14 u1_15 u1_16 u1_17 u1_18 u1_19 u1_20 : Value), (aQ = ⟨#[.agg (Msg.c m), .pointer (some ⟨gm, 0, none⟩), .pointer (some ⟨ge, 0, none⟩), undef, u1_4, u1_5, .bool true, .bool false, .bool false, u1_9, u1_10, u1_11, u1_12, u1_13, u1_14, u1_15, u1_16, u1_17, u1_18, u1_19, u1_20, .bool false, .bool false, undef, undef, undef, undef, undef, undef, undef, undef, undef, undef, undef, undef, undef], []⟩) ∧ (VQ.heap[gm]? = some (.cells (Msg.c m) 35 (0, 0))) ∧ (VQ.heap[ge]? = some (.cells (#[.int .i64 0]) 36 (0, 0))) ∧ (V5.heap.size ≤ VQ.heap.size) ∧ (Keeps Nob w VQ)) ?_ ?_
  · rcases (show m.k ≠ 8 ∨ (m.k = 8 ∧ 1 ≤ m.pf ∧ m.pf ≤ 3) by have := hf.2; omega) with h8 | ⟨h8, hp1, hp2⟩
    · skip
      refine sy_sq (part_mCheck 12) (part_mCheck 13) ?_
      refine sy_reg ?_
      refine rg_plain 1 (opsAt (part_mCheck 12)) [0, 1, 2, 3, 4, 5, 6, 7, 8, 9, 10, 11, 12, 13, 14, 15, 16, 17, 18] (by kernel_rfl) (by kernel_rfl) ?_
      refine ps_k (o_mCheck 12 0) (pT gm 0) ?_
      refine ps_p (o_mCheck 12 1) (.int .i64 m.k) (exec_ld 3 (.tmp 4) gm 0 Try.underlying3 (rc (h9) (Msg.get_n hr NF.k))) ?_
      refine ps_c (o_mCheck 12 2) 40 #[.int .i64 m.k] Try.func40 ((mknown_yes _ _ hk.1 hk.2).mono ?_)
      rintro e w1 ⟨rfl, rfl⟩
      refine ⟨_, rfl, ?_⟩
      refine ps_k (o_mCheck 12 3) (.bool false) ?_
      refine ps_k (o_mCheck 12 4) (.bool false) ?_
      refine ps_k (o_mCheck 12 5) (pT gm 0) ?_
      refine ps_p (o_mCheck 12 6) (.int .i64 m.k) (exec_ld 3 (.tmp 9) gm 0 Try.underlying3 (rc (h9) (Msg.get_n hr NF.k))) ?_
      refine ps_p (o_mCheck 12 7) (.bool false) (eqf ((m.k) : Int) ((8) : Int) (by omega)) ?_
      refine ps_k (o_mCheck 12 8) (.bool false) ?_
      refine ps_n (o_mCheck 12 9) ?_
      refine ps_n (o_mCheck 12 10) ?_
      refine ps_n (o_mCheck 12 11) ?_
      refine ps_n (o_mCheck 12 12) ?_
      refine ps_n (o_mCheck 12 13) ?_
      refine ps_n (o_mCheck 12 14) ?_
      refine ps_n (o_mCheck 12 15) ?_
      refine ps_n (o_mCheck 12 16) ?_
      refine ps_k (o_mCheck 12 17) (.bool false) ?_
      refine ps_k (o_mCheck 12 18) (.bool false) ?_
      refine ps_end ?_
      refine then_n ?_
      refine sy_n (.tmp 22) (part_mCheck 26) (part_mCheck 27) ?_
      refine sy_sk ?_
      exact ⟨rfl, .pointer (some ⟨gm, 0, none⟩), .int .i64 m.k, .pointer (some ⟨gm, 0, none⟩), .int .i64 m.k, .bool false, .bool false, undef, undef, undef, undef, undef, undef, undef, undef, by kernel_rfl, h9, h6, by omega, K10⟩
    · skip
      refine sy_sq (part_mCheck 12) (part_mCheck 13) ?_
      refine sy_reg ?_
      refine rg_plain 1 (opsAt (part_mCheck 12)) [0, 1, 2, 3, 4, 5, 6, 7, 8, 9, 10, 11, 12, 13, 14, 15, 16, 17, 18] (by kernel_rfl) (by kernel_rfl) ?_
      refine ps_k (o_mCheck 12 0) (pT gm 0) ?_
      refine ps_p (o_mCheck 12 1) (.int .i64 m.k) (exec_ld 3 (.tmp 4) gm 0 Try.underlying3 (rc (h9) (Msg.get_n hr NF.k))) ?_
      refine ps_c (o_mCheck 12 2) 40 #[.int .i64 m.k] Try.func40 ((mknown_yes _ _ hk.1 hk.2).mono ?_)
      rintro e w1 ⟨rfl, rfl⟩
      refine ⟨_, rfl, ?_⟩
      refine ps_k (o_mCheck 12 3) (.bool false) ?_
      refine ps_k (o_mCheck 12 4) (.bool false) ?_
      refine ps_k (o_mCheck 12 5) (pT gm 0) ?_
      refine ps_p (o_mCheck 12 6) (.int .i64 m.k) (exec_ld 3 (.tmp 9) gm 0 Try.underlying3 (rc (h9) (Msg.get_n hr NF.k))) ?_
      refine ps_p (o_mCheck 12 7) (.bool true) (eqt ((m.k) : Int) ((8) : Int) (by omega)) ?_
      refine ps_k (o_mCheck 12 8) (.bool true) ?_
      refine ps_k (o_mCheck 12 9) (pT gm 11) ?_
      refine ps_p (o_mCheck 12 10) (.int .i64 m.pf) (exec_ld 3 (.tmp 13) gm 11 Try.underlying3 (rc (h9) (Msg.get_n hr NF.pf))) ?_
      refine ps_p (o_mCheck 12 11) (.bool false) (dcf (((m.pf) : Int) < ((1) : Int)) (by omega)) ?_
      refine ps_k (o_mCheck 12 12) (.bool false) ?_
      refine ps_k (o_mCheck 12 13) (pT gm 11) ?_
      refine ps_p (o_mCheck 12 14) (.int .i64 m.pf) (exec_ld 3 (.tmp 17) gm 11 Try.underlying3 (rc (h9) (Msg.get_n hr NF.pf))) ?_
      refine ps_p (o_mCheck 12 15) (.bool false) (dcf (((m.pf) : Int) > ((3) : Int)) (by omega)) ?_
      refine ps_k (o_mCheck 12 16) (.bool false) ?_
      refine ps_k (o_mCheck 12 17) (.bool false) ?_
      refine ps_k (o_mCheck 12 18) (.bool false) ?_
      refine ps_end ?_
      refine then_n ?_
      refine sy_n (.tmp 22) (part_mCheck 26) (part_mCheck 27) ?_
      refine sy_sk ?_
      exact ⟨rfl, .pointer (some ⟨gm, 0, none⟩), .int .i64 m.k, .pointer (some ⟨gm, 0, none⟩), .int .i64 m.k, .bool true, .bool true, .pointer (some ⟨gm, 11, none⟩), .int .i64 m.pf, .bool false, .bool false, .pointer (some ⟨gm, 11, none⟩), .int .i64 m.pf, .bool false, .bool false, by kernel_rfl, h9, h6, by omega, K10⟩
  rintro aQ V11 ⟨u1_4, u1_5, u1_9, u1_10, u1_11, u1_12, u1_13, u1_14, u1_15, u1_16, u1_17, u1_18, u1_19, u1_20, rfl, h12, h13, z14, K15⟩
  refine then_n ?_
  refine sy_sq (part_mCheck 14) (part_mCheck 15) ?_
  refine sy_reg ?_
  refine rg_plain 3 (opsAt (part_mCheck 14)) [0, 1] (by kernel_rfl) (by kernel_rfl) ?_
  refine ps_k (o_mCheck 14 0) (.func (.func 52) #[] #[pT ge 0]) ?_
  refine ps_defer (o_mCheck 14 1) ⟨.fn (.func 52) #[.pointer (some ⟨ge, 0, none⟩)], #[]⟩ (by kernel_rfl) (by kernel_rfl) (by kernel_rfl) ?_
  refine ps_end ?_
  refine then_n ?_
  refine sy_sq (part_mCheck 30) (part_mCheck 31) ?_
  refine sy_reg ?_
  refine rg_plain 4 (opsAt (part_mCheck 30)) [0, 1, 2] (by kernel_rfl) (by kernel_rfl) ?_
  refine ps_p (o_mCheck 30 0) (.agg (Msg.c m)) (exec_load_row 35 (.tmp 1) (by kernel_rfl) gm (by kernel_rfl) _ _ (0, 0) _ (h12) Try.underlying35 rfl (by rw [Msg.c_size hr]; kernel_rfl)) ?_
  obtain ⟨V16, eV16, gc, egc, h17, kV16⟩ := alloc_step V11 ((Msg.c msgZ)) 70
  have n18 : gm < gc := egc ▸ lt_of_block h12
  have n19 : ge < gc := egc ▸ lt_of_block h13
  have n20 : w.heap.size ≤ gc := egc ▸ K15.size
  refine ps_r (o_mCheck 30 1) (pT gc 0) (w' := V16) (by rw [← eV16, ← egc]; exact exec_alloc0 70 (by kernel_rfl) (.agg ((Msg.c msgZ))) (by kernel_rfl)) ?_
  clear eV16
  have h21 := kV16.bk h12
  have h22 := kV16.bk h13
  have K23 := K15.nn kV16
  obtain ⟨V24, eV24, kV24⟩ := rowset_step V16 gc ((Msg.c m))
  have h25 : V24.heap[gc]? = some (.cells (Msg.c m) 70 (0, 0)) := eV24 ▸ setRow_heap _ _ _ _ _ _ h17
  refine ps_s (o_mCheck 30 2) (w' := V24) (by rw [← eV24]; exact exec_store_row 70 (.tmp 3) (.tmp 24) (by kernel_rfl) gc ((Msg.c m)) (by kernel_rfl) (by kernel_rfl) 70 ((Msg.c msgZ)) h17 (by rw [Msg.c_size hr]; kernel_rfl) (by rw [Msg.c_size hr]; exact (Msg.c_size msgZ_R).symm) (Msg.c_one _)) ?_
  clear eV24
  have h26 := kV24.bo h21 (by omega)
  have h27 := kV24.bo h22 (by omega)
  have K28 := K23.no kV24 (by omega)
  refine ps_end ?_
  refine then_n ?_
  refine sy_sq (part_mCheck 62) (part_mCheck 63) ?_
  refine sy_reg ?_
  refine rg_plain 5 (opsAt (part_mCheck 62)) [0, 1, 2] (by kernel_rfl) (by kernel_rfl) ?_
  refine ps_k (o_mCheck 62 0) (.agg #[]) ?_
  refine ps_k (o_mCheck 62 1) (.iface 92 (.agg #[])) ?_
  refine ps_P (o_mCheck 62 2) 41 #[.pointer (some ⟨gc, 0, none⟩), .iface 92 (.agg #[])] _ _ (run_callF (o_mCheck 62 2) 41 #[.pointer (some ⟨gc, 0, none⟩), .iface 92 (.agg #[])] (by kernel_rfl) rfl (by kernel_rfl) (enters_of Try.func41 (by kernel_rfl) rfl)) (mall_ok chkV chkV_ok gc m.k.toNat (fun _ => False) (fun c w' => c = [outP] ∧ Keeps Nob V24 w') _ _ _ hk1 hk2 h25 ((Msg.get_n hr NF.k).trans (congrArg (fun x => some (Value.int .i64 x)) hkc.symm)) (all_chk m hr m.k.toNat hkc.symm _ h25 (fun h w' k' => by rw [hn] at h; cases h) (fun h w' k' => ⟨rfl, k'⟩))) ?_ ?_
  · intro c w' h
    obtain ⟨rfl, kp⟩ := h
    have hge' := kp.bk h27
    refine sy_panicD 52 #[.pointer (some ⟨ge, 0, none⟩)] _ rfl (fun _ => enters_of Try.func52 (by kernel_rfl) rfl _ _) ((mCheck1_yes ge 0 _ hge').mono ?_)
    rintro e u V' ⟨rfl, he1, he2, k2⟩
    refine ⟨rfl, _, he1, .int .i64 3, results_cell1 (p := 2) (ty := 36) (by kernel_rfl) _ _ ge 0 (.int .i64 3) _ (by kernel_rfl) Try.underlying36 rfl (rc he2 (by kernel_rfl)), rfl, (K28.nn kp).no k2 (by omega)⟩
  rintro V29 h
  exact h.elim
set_option maxRecDepth 100000 in
set_option maxHeartbeats 4000000 in
theorem mCheck_arg (m : Msg) (w : World) (hr : m.R) (hf : m.form) (hn : m.items.all (chkIt m) = true) (hq : ¬ clrAll m = onlyK m.k) :
    Calls Try.prog 17 #[.agg (Msg.c m)] w (fun e w' => e = .returned (.int .i64 2) ∧ Keeps Nob w w') := by
  have hk := hf.1
  have hk1 : 1 ≤ m.k.toNat := by omega
  have hk2 : m.k.toNat ≤ 11 := by omega
  have hkc : ((m.k.toNat : Nat) : Int) = m.k := by omega
  have K0 : Keeps Nob w w := Keeps.refl _ _
  refine sy_enterD (part_mCheck 1) ⟨#[.agg (Msg.c m), undef, undef, undef, undef, undef, undef, undef, undef, undef, undef, undef, undef, undef, undef, undef, undef, undef, undef, undef, undef, undef, undef, undef, undef, undef, undef, undef, undef, undef, undef, undef, undef, undef, undef, undef], []⟩ Try.func17 (by kernel_rfl) (by kernel_rfl) ?_
  refine sy_sq (part_mCheck 2) (part_mCheck 3) ?_
  refine sy_reg ?_
  refine rg_plain 0 (opsAt (part_mCheck 2)) [0, 1] (by kernel_rfl) (by kernel_rfl) ?_
  obtain ⟨V1, eV1, gm, egm, h2, kV1⟩ := alloc_step w ((Msg.c m)) 35
  have n3 : w.heap.size ≤ gm := egm ▸ K0.size
  refine ps_r (o_mCheck 2 0) (pT gm 0) (w' := V1) (by rw [← eV1, ← egm]; exact exec_box 35 (.tmp 0) (by kernel_rfl) (.agg (Msg.c m)) (by kernel_rfl)) ?_
  clear eV1
  have K4 := K0.nn kV1
  obtain ⟨V5, eV5, ge, ege, h6, kV5⟩ := alloc_step V1 (#[.int .i64 0]) 36
  have n7 : gm < ge := ege ▸ lt_of_block h2
  have n8 : w.heap.size ≤ ge := ege ▸ K4.size
  refine ps_r (o_mCheck 2 1) (pT ge 0) (w' := V5) (by rw [← eV5, ← ege]; exact exec_alloc0 36 (by kernel_rfl) (.int .i64 0) (by kernel_rfl)) ?_
  clear eV5
  have h9 := kV5.bk h2
  have K10 := K4.nn kV5
  refine ps_end ?_
  refine then_n ?_
  refine sy_sq (part_mCheck 6) (part_mCheck 7) ?_
  refine sy_cut (fun aQ VQ => ∃ (u1_4 u1_5 u1_9 u1_10 u1_11 u1_12 u1_13 u1_14 u1_15 u1_16 u1_17 u1_18 u1_19 u1_20 : Value), (aQ = ⟨#[.agg (Msg.c m), .pointer (some ⟨gm, 0, none⟩), .pointer (some ⟨ge, 0, none⟩), undef, u1_4, u1_5, .bool true, .bool false, .bool false, u1_9, u1_10, u1_11, u1_12, u1_13, u1_14, u1_15, u1_16, u1_17, u1_18, u1_19, u1_20, .bool false, .bool false, undef, undef, undef, undef, undef, undef, undef, undef, undef, undef, undef, undef, undef], []⟩) ∧ (VQ.heap[gm]? = some (.cells (Msg.c m) 35 (0, 0))) ∧ (VQ.heap[ge]? = some (.cells (#[.int .i64 0]) 36 (0, 0))) ∧ (V5.heap.size ≤ VQ.heap.size) ∧ (Keeps Nob w VQ)) ?_ ?_
  · rcases (show m.k ≠ 8 ∨ (m.k = 8 ∧ 1 ≤ m.pf ∧ m.pf ≤ 3) by have := hf.2; omega) with h8 | ⟨h8, hp1, hp2⟩
    · skip
      refine sy_sq (part_mCheck 12) (part_mCheck 13) ?_
      refine sy_reg ?_
      refine rg_plain 1 (opsAt (part_mCheck 12)) [0, 1, 2, 3, 4, 5, 6, 7, 8, 9, 10, 11, 12, 13, 14, 15, 16, 17, 18] (by kernel_rfl) (by kernel_rfl) ?_
      refine ps_k (o_mCheck 12 0) (pT gm 0) ?_
      refine ps_p (o_mCheck 12 1) (.int .i64 m.k) (exec_ld 3 (.tmp 4) gm 0 Try.underlying3 (rc (h9) (Msg.get_n hr NF.k))) ?_
      refine ps_c (o_mCheck 12 2) 40 #[.int .i64 m.k] Try.func40 ((mknown_yes _ _ hk.1 hk.2).mono ?_)
      rintro e w1 ⟨rfl, rfl⟩
      refine ⟨_, rfl, ?_⟩
      refine ps_k (o_mCheck 12 3) (.bool false) ?_
      refine ps_k (o_mCheck 12 4) (.bool false) ?_
      refine ps_k (o_mCheck 12 5) (pT gm 0) ?_
      refine ps_p (o_mCheck 12 6) (.int .i64 m.k) (exec_ld 3 (.tmp 9) gm 0 Try.underlying3 (rc (h9) (Msg.get_n hr NF.k))) ?_
      refine ps_p (o_mCheck 12 7) (.bool false) (eqf ((m.k) : Int) ((8) : Int) (by omega)) ?_
      refine ps_k (o_mCheck 12 8) (.bool false) ?_
      refine ps_n (o_mCheck 12 9) ?_
      refine ps_n (o_mCheck 12 10) ?_
      refine ps_n (o_mCheck 12 11) ?_
      refine ps_n (o_mCheck 12 12) ?_
      refine ps_n (o_mCheck 12 13) ?_
      refine ps_n (o_mCheck 12 14) ?_
      refine ps_n (o_mCheck 12 15) ?_
      refine ps_n (o_mCheck 12 16) ?_
      refine ps_k (o_mCheck 12 17) (.bool false) ?_
      refine ps_k (o_mCheck 12 18) (.bool false) ?_
      refine ps_end ?_
      refine then_n ?_
      refine sy_n (.tmp 22) (part_mCheck 26) (part_mCheck 27) ?_
      refine sy_sk ?_
      exact ⟨rfl, .pointer (some ⟨gm, 0, none⟩), .int .i64 m.k, .pointer (some ⟨gm, 0, none⟩), .int .i64 m.k, .bool false, .bool false, undef, undef, undef, undef, undef, undef, undef, undef, by kernel_rfl, h9, h6, by omega, K10⟩
    · skip
      refine sy_sq (part_mCheck 12) (part_mCheck 13) ?_
      refine sy_reg ?_
      refine rg_plain 1 (opsAt (part_mCheck 12)) [0, 1, 2, 3, 4, 5, 6, 7, 8, 9, 10, 11, 12, 13, 14, 15, 16, 17, 18] (by kernel_rfl) (by kernel_rfl) ?_
      refine ps_k (o_mCheck 12 0) (pT gm 0) ?_
      refine ps_p (o_mCheck 12 1) (.int .i64 m.k) (exec_ld 3 (.tmp 4) gm 0 Try.underlying3 (rc (h9) (Msg.get_n hr NF.k))) ?_
      refine ps_c (o_mCheck 12 2) 40 #[.int .i64 m.k] Try.func40 ((mknown_yes _ _ hk.1 hk.2).mono ?_)
      rintro e w1 ⟨rfl, rfl⟩
      refine ⟨_, rfl, ?_⟩
      refine ps_k (o_mCheck 12 3) (.bool false) ?_
      refine ps_k (o_mCheck 12 4) (.bool false) ?_
      refine ps_k (o_mCheck 12 5) (pT gm 0) ?_
      refine ps_p (o_mCheck 12 6) (.int .i64 m.k) (exec_ld 3 (.tmp 9) gm 0 Try.underlying3 (rc (h9) (Msg.get_n hr NF.k))) ?_
      refine ps_p (o_mCheck 12 7) (.bool true) (eqt ((m.k) : Int) ((8) : Int) (by omega)) ?_
      refine ps_k (o_mCheck 12 8) (.bool true) ?_
      refine ps_k (o_mCheck 12 9) (pT gm 11) ?_
      refine ps_p (o_mCheck 12 10) (.int .i64 m.pf) (exec_ld 3 (.tmp 13) gm 11 Try.underlying3 (rc (h9) (Msg.get_n hr NF.pf))) ?_
      refine ps_p (o_mCheck 12 11) (.bool false) (dcf (((m.pf) : Int) < ((1) : Int)) (by omega)) ?_
      refine ps_k (o_mCheck 12 12) (.bool false) ?_
      refine ps_k (o_mCheck 12 13) (pT gm 11) ?_
      refine ps_p (o_mCheck 12 14) (.int .i64 m.pf) (exec_ld 3 (.tmp 17) gm 11 Try.underlying3 (rc (h9) (Msg.get_n hr NF.pf))) ?_
      refine ps_p (o_mCheck 12 15) (.bool false) (dcf (((m.pf) : Int) > ((3) : Int)) (by omega)) ?_
      refine ps_k (o_mCheck 12 16) (.bool false) ?_
      refine ps_k (o_mCheck 12 17) (.bool false) ?_
      refine ps_k (o_mCheck 12 18) (.bool false) ?_
      refine ps_end ?_
      refine then_n ?_
      refine sy_n (.tmp 22) (part_mCheck 26) (part_mCheck 27) ?_
      refine sy_sk ?_
      exact ⟨rfl, .pointer (some ⟨gm, 0, none⟩), .int .i64 m.k, .pointer (some ⟨gm, 0, none⟩), .int .i64 m.k, .bool true, .bool true, .pointer (some ⟨gm, 11, none⟩), .int .i64 m.pf, .bool false, .bool false, .pointer (some ⟨gm, 11, none⟩), .int .i64 m.pf, .bool false, .bool false, by kernel_rfl, h9, h6, by omega, K10⟩
  rintro aQ V11 ⟨u1_4, u1_5, u1_9, u1_10, u1_11, u1_12, u1_13, u1_14, u1_15, u1_16, u1_17, u1_18, u1_19, u1_20, rfl, h12, h13, z14, K15⟩
  refine then_n ?_
  refine sy_sq (part_mCheck 14) (part_mCheck 15) ?_
  refine sy_reg ?_
  refine rg_plain 3 (opsAt (part_mCheck 14)) [0, 1] (by kernel_rfl) (by kernel_rfl) ?_
  refine ps_k (o_mCheck 14 0) (.func (.func 52) #[] #[pT ge 0]) ?_
  refine ps_defer (o_mCheck 14 1) ⟨.fn (.func 52) #[.pointer (some ⟨ge, 0, none⟩)], #[]⟩ (by kernel_rfl) (by kernel_rfl) (by kernel_rfl) ?_
  refine ps_end ?_
  refine then_n ?_
  refine sy_sq (part_mCheck 30) (part_mCheck 31) ?_
  refine sy_reg ?_
  refine rg_plain 4 (opsAt (part_mCheck 30)) [0, 1, 2] (by kernel_rfl) (by kernel_rfl) ?_
  refine ps_p (o_mCheck 30 0) (.agg (Msg.c m)) (exec_load_row 35 (.tmp 1) (by kernel_rfl) gm (by kernel_rfl) _ _ (0, 0) _ (h12) Try.underlying35 rfl (by rw [Msg.c_size hr]; kernel_rfl)) ?_
  obtain ⟨V16, eV16, gc, egc, h17, kV16⟩ := alloc_step V11 ((Msg.c msgZ)) 70
  have n18 : gm < gc := egc ▸ lt_of_block h12
  have n19 : ge < gc := egc ▸ lt_of_block h13
  have n20 : w.heap.size ≤ gc := egc ▸ K15.size
  refine ps_r (o_mCheck 30 1) (pT gc 0) (w' := V16) (by rw [← eV16, ← egc]; exact exec_alloc0 70 (by kernel_rfl) (.agg ((Msg.c msgZ))) (by kernel_rfl)) ?_
  clear eV16
  have h21 := kV16.bk h12
  have h22 := kV16.bk h13
  have K23 := K15.nn kV16
  obtain ⟨V24, eV24, kV24⟩ := rowset_step V16 gc ((Msg.c m))
  have h25 : V24.heap[gc]? = some (.cells (Msg.c m) 70 (0, 0)) := eV24 ▸ setRow_heap _ _ _ _ _ _ h17
  refine ps_s (o_mCheck 30 2) (w' := V24) (by rw [← eV24]; exact exec_store_row 70 (.tmp 3) (.tmp 24) (by kernel_rfl) gc ((Msg.c m)) (by kernel_rfl) (by kernel_rfl) 70 ((Msg.c msgZ)) h17 (by rw [Msg.c_size hr]; kernel_rfl) (by rw [Msg.c_size hr]; exact (Msg.c_size msgZ_R).symm) (Msg.c_one _)) ?_
  clear eV24
  have h26 := kV24.bo h21 (by omega)
  have h27 := kV24.bo h22 (by omega)
  have K28 := K23.no kV24 (by omega)
  refine ps_end ?_
  refine then_n ?_
  refine sy_sq (part_mCheck 62) (part_mCheck 63) ?_
  refine sy_reg ?_
  refine rg_plain 5 (opsAt (part_mCheck 62)) [0, 1, 2] (by kernel_rfl) (by kernel_rfl) ?_
  refine ps_k (o_mCheck 62 0) (.agg #[]) ?_
  refine ps_k (o_mCheck 62 1) (.iface 92 (.agg #[])) ?_
  refine ps_P (o_mCheck 62 2) 41 #[.pointer (some ⟨gc, 0, none⟩), .iface 92 (.agg #[])] _ _ (run_callF (o_mCheck 62 2) 41 #[.pointer (some ⟨gc, 0, none⟩), .iface 92 (.agg #[])] (by kernel_rfl) rfl (by kernel_rfl) (enters_of Try.func41 (by kernel_rfl) rfl)) (mall_ok chkV chkV_ok gc m.k.toNat (fun w' => Keeps Nob V24 w') (fun _ _ => False) _ _ _ hk1 hk2 h25 ((Msg.get_n hr NF.k).trans (congrArg (fun x => some (Value.int .i64 x)) hkc.symm)) (all_chk m hr m.k.toNat hkc.symm _ h25 (fun h w' k' => k') (fun h w' k' => by rw [hn] at h; cases h))) (fun c w' h => h.elim) ?_
  rintro V29 kV29
  have h30 := kV29.bk h26
  have h31 := kV29.bk h27
  have h32 := kV29.bk h25
  have K33 := K28.nn kV29
  refine ps_end ?_
  refine then_n ?_
  refine sy_sq (part_mCheck 126) (part_mCheck 127) ?_
  refine sy_reg ?_
  refine rg_plain 6 (opsAt (part_mCheck 126)) [0, 1, 2] (by kernel_rfl) (by kernel_rfl) ?_
  refine ps_k (o_mCheck 126 0) (.agg #[]) ?_
  refine ps_k (o_mCheck 126 1) (.iface 93 (.agg #[])) ?_
  refine ps_P (o_mCheck 126 2) 41 #[.pointer (some ⟨gc, 0, none⟩), .iface 93 (.agg #[])] _ _ (run_callF (o_mCheck 126 2) 41 #[.pointer (some ⟨gc, 0, none⟩), .iface 93 (.agg #[])] (by kernel_rfl) rfl (by kernel_rfl) (enters_of Try.func41 (by kernel_rfl) rfl)) (mall_ok clrV clrV_ok gc m.k.toNat (fun w' => w'.heap[gc]? = some (.cells (Msg.c ((clrAll m))) 70 (0, 0)) ∧ Keeps (One gc) V29 w') (fun _ _ => False) _ _ _ hk1 hk2 h32 ((Msg.get_n hr NF.k).trans (congrArg (fun x => some (Value.int .i64 x)) hkc.symm)) (all_clr m hr m.k.toNat hkc.symm _ h32 (fun w' h k' => ⟨h, k'⟩))) (fun c w' h => h.elim) ?_
  rintro V34 ⟨hcV34, kV34⟩
  have h35 := kV34.bo h30 (by omega)
  have h36 := kV34.bo h31 (by omega)
  have K37 := K33.no kV34 (by omega)
  refine ps_end ?_
  refine then_n ?_
  refine sy_sq (part_mCheck 254) (part_mCheck 255) ?_
  refine sy_sq (part_mCheck 508) (part_mCheck 509) ?_
  refine sy_reg ?_
  refine rg_plain 7 (opsAt (part_mCheck 508)) [0, 1, 2, 3, 4] (by kernel_rfl) (by kernel_rfl) ?_
  refine ps_p (o_mCheck 508 0) (.agg (Msg.c ((clrAll m)))) (exec_load_row 70 (.tmp 3) (by kernel_rfl) gc (by kernel_rfl) _ _ (0, 0) _ (hcV34) Try.underlying70 rfl (by rw [Msg.c_size (clrAll_R hr)]; kernel_rfl)) ?_
  refine ps_k (o_mCheck 508 1) (pT gm 0) ?_
  refine ps_p (o_mCheck 508 2) (.int .i64 m.k) (exec_ld 3 (.tmp 32) gm 0 Try.underlying3 (rc (h35) (Msg.get_n hr NF.k))) ?_
  refine ps_k (o_mCheck 508 3) (.agg (Msg.c (onlyK m.k))) ?_
  refine ps_p (o_mCheck 508 4) (.bool true) (exec_cast (congrArg Value.bool (show (!decide (clrAll m = onlyK m.k)) = true by simp [hq])) (exec_binop .neq 70 70 (.tmp 31) (.tmp 34) (by kernel_rfl) (.agg (Msg.c (clrAll m))) (.agg (Msg.c (onlyK m.k))) _ (by kernel_rfl) (by kernel_rfl) (run_eqGuard_agg _ _ _ _ _ _ _ form_guard) (form_ne _ _ (clrAll_R hr) (onlyK_R _) _))) ?_
  refine ps_end ?_
  refine then_n ?_
  refine sy_ys (.tmp 35) (part_mCheck 1018) (part_mCheck 1019) ?_
  refine sy_sq (part_mCheck 2036) (part_mCheck 2037) ?_
  refine sy_reg ?_
  refine rg_plain 8 (opsAt (part_mCheck 2036)) [0] (by kernel_rfl) (by kernel_rfl) ?_
  obtain ⟨V38, eV38, kV38⟩ := cell_step V34 ge 0 (.int .i64 2)
  have h39 : V38.heap[ge]? = some (.cells (#[.int .i64 2]) 36 (0, 0)) := eV38 ▸ ((heap_setCell_same _ ge 0 _ _ (.int .i64 2) h36).trans (congrArg (fun c => some (Obj.cells c 36 (0, 0))) (show (#[.int .i64 0] : Array Value).setIfInBounds 0 (.int .i64 2) = #[.int .i64 2] from by kernel_rfl)))
  refine ps_s (o_mCheck 2036 0) (w' := V38) (by rw [← eV38]; exact exec_store_cell 36 (.tmp 2) (.const (.int .i64 2)) (by kernel_rfl) ge 0 (by kernel_rfl) (.int .i64 2) (by kernel_rfl) (by kernel_rfl) (by kernel_rfl) (.int .i64 0) (rc (h36) (by kernel_rfl)) (frozen_of_row _ _ _ _ _ h36) (by kernel_rfl)) ?_
  clear eV38
  have h40 := kV38.bo h35 (by omega)
  have h41 := kV38.bo hcV34 (by omega)
  have K42 := K37.no kV38 (by omega)
  refine ps_end ?_
  refine then_n ?_
  refine sy_ret (by kernel_rfl) ?_
  refine then_r ?_
  refine sy_outD 52 #[.pointer (some ⟨ge, 0, none⟩)] rfl (fun _ => enters_of Try.func52 (by kernel_rfl) rfl _ _) ((mCheck1_no ge 2 _ h39).mono ?_)
  rintro e u V43 ⟨rfl, rfl, heV43, kV43⟩
  have h44 := kV43.bo h40 (by omega)
  have h45 := kV43.bo h41 (by omega)
  have K46 := K42.no kV43 (by omega)
  refine ⟨rfl, _, rfl, .int .i64 2, results_cell1 (p := 2) (ty := 36) (by kernel_rfl) _ _ ge 0 (.int .i64 2) _ (by kernel_rfl) Try.underlying36 rfl (rc (heV43) (by kernel_rfl)), ?_⟩
  exact ⟨rfl, K46⟩
set_option maxRecDepth 100000 in
set_option maxHeartbeats 4000000 in
theorem mCheck_ok (m : Msg) (w : World) (hr : m.R) (hf : m.form) (hn : m.items.all (chkIt m) = true) (hq : clrAll m = onlyK m.k) :
    Calls Try.prog 17 #[.agg (Msg.c m)] w (fun e w' => e = .returned (.int .i64 0) ∧ Keeps Nob w w') := by
  have hk := hf.1
  have hk1 : 1 ≤ m.k.toNat := by omega
  have hk2 : m.k.toNat ≤ 11 := by omega
  have hkc : ((m.k.toNat : Nat) : Int) = m.k := by omega
  have K0 : Keeps Nob w w := Keeps.refl _ _
  refine sy_enterD (part_mCheck 1) ⟨#[.agg (Msg.c m), undef, undef, undef, undef, undef, undef, undef, undef, undef, undef, undef, undef, undef, undef, undef, undef, undef, undef, undef, undef, undef, undef, undef, undef, undef, undef, undef, undef, undef, undef, undef, undef, undef, undef, undef], []⟩ Try.func17 (by kernel_rfl) (by kernel_rfl) ?_
  refine sy_sq (part_mCheck 2) (part_mCheck 3) ?_
  refine sy_reg ?_
  refine rg_plain 0 (opsAt (part_mCheck 2)) [0, 1] (by kernel_rfl) (by kernel_rfl) ?_
  obtain ⟨V1, eV1, gm, egm, h2, kV1⟩ := alloc_step w ((Msg.c m)) 35
  have n3 : w.heap.size ≤ gm := egm ▸ K0.size
  refine ps_r (o_mCheck 2 0) (pT gm 0) (w' := V1) (by rw [← eV1, ← egm]; exact exec_box 35 (.tmp 0) (by kernel_rfl) (.agg (Msg.c m)) (by kernel_rfl)) ?_
  clear eV1
  have K4 := K0.nn kV1
  obtain ⟨V5, eV5, ge, ege, h6, kV5⟩ := alloc_step V1 (#[.int .i64 0]) 36
  have n7 : gm < ge := ege ▸ lt_of_block h2
  have n8 : w.heap.size ≤ ge := ege ▸ K4.size
  refine ps_r (o_mCheck 2 1) (pT ge 0) (w' := V5) (by rw [← eV5, ← ege]; exact exec_alloc0 36 (by kernel_rfl) (.int .i64 0) (by kernel_rfl)) ?_
  clear eV5
  have h9 := kV5.bk h2
  have K10 := K4.nn kV5
  refine ps_end ?_
  refine then_n ?_
  refine sy_sq (part_mCheck 6) (part_mCheck 7) ?_
  refine sy_cut (fun aQ VQ => ∃ (u1_4 u1_5 u1_9 u1_10 u1_11 u1_12 u1_13 u1_14 u1_15 u1_16 u1_17 u1_18 u1_19 u1_20 : Value), (aQ = ⟨#[.agg (Msg.c m), .pointer (some ⟨gm, 0, none⟩), .pointer (some ⟨ge, 0, none⟩), undef, u1_4, u1_5, .bool true, .bool false, .bool false, u1_9, u1_10, u1_11, u1_12, u1_13, u1_14, u1_15, u1_16, u1_17, u1_18, u1_19, u1_20, .bool false, .bool false, undef, undef, undef, undef, undef, undef, undef, undef, undef, undef, undef, undef, undef], []⟩) ∧ (VQ.heap[gm]? = some (.cells (Msg.c m) 35 (0, 0))) ∧ (VQ.heap[ge]? = some (.cells (#[.int .i64 0]) 36 (0, 0))) ∧ (V5.heap.size ≤ VQ.heap.size) ∧ (Keeps Nob w VQ)) ?_ ?_
  · rcases (show m.k ≠ 8 ∨ (m.k = 8 ∧ 1 ≤ m.pf ∧ m.pf ≤ 3) by have := hf.2; omega) with h8 | ⟨h8, hp1, hp2⟩
    · skip
      refine sy_sq (part_mCheck 12) (part_mCheck 13) ?_
      refine sy_reg ?_
      refine rg_plain 1 (opsAt (part_mCheck 12)) [0, 1, 2, 3, 4, 5, 6, 7, 8, 9, 10, 11, 12, 13, 14, 15, 16, 17, 18] (by kernel_rfl) (by kernel_rfl) ?_
      refine ps_k (o_mCheck 12 0) (pT gm 0) ?_
      refine ps_p (o_mCheck 12 1) (.int .i64 m.k) (exec_ld 3 (.tmp 4) gm 0 Try.underlying3 (rc (h9) (Msg.get_n hr NF.k))) ?_
      refine ps_c (o_mCheck 12 2) 40 #[.int .i64 m.k] Try.func40 ((mknown_yes _ _ hk.1 hk.2).mono ?_)
      rintro e w1 ⟨rfl, rfl⟩
      refine ⟨_, rfl, ?_⟩
      refine ps_k (o_mCheck 12 3) (.bool false) ?_
      refine ps_k (o_mCheck 12 4) (.bool false) ?_
      refine ps_k (o_mCheck 12 5) (pT gm 0) ?_
      refine ps_p (o_mCheck 12 6) (.int .i64 m.k) (exec_ld 3 (.tmp 9) gm 0 Try.underlying3 (rc (h9) (Msg.get_n hr NF.k))) ?_
      refine ps_p (o_mCheck 12 7) (.bool false) (eqf ((m.k) : Int) ((8) : Int) (by omega)) ?_
      refine ps_k (o_mCheck 12 8) (.bool false) ?_
      refine ps_n (o_mCheck 12 9) ?_
      refine ps_n (o_mCheck 12 10) ?_
      refine ps_n (o_mCheck 12 11) ?_
      refine ps_n (o_mCheck 12 12) ?_
      refine ps_n (o_mCheck 12 13) ?_
      refine ps_n (o_mCheck 12 14) ?_
      refine ps_n (o_mCheck 12 15) ?_
      refine ps_n (o_mCheck 12 16) ?_
      refine ps_k (o_mCheck 12 17) (.bool false) ?_
      refine ps_k (o_mCheck 12 18) (.bool false) ?_
      refine ps_end ?_
      refine then_n ?_
      refine sy_n (.tmp 22) (part_mCheck 26) (part_mCheck 27) ?_
      refine sy_sk ?_
      exact ⟨rfl, .pointer (some ⟨gm, 0, none⟩), .int .i64 m.k, .pointer (some ⟨gm, 0, none⟩), .int .i64 m.k, .bool false, .bool false, undef, undef, undef, undef, undef, undef, undef, undef, by kernel_rfl, h9, h6, by omega, K10⟩
    · skip
      refine sy_sq (part_mCheck 12) (part_mCheck 13) ?_
      refine sy_reg ?_
      refine rg_plain 1 (opsAt (part_mCheck 12)) [0, 1, 2, 3, 4, 5, 6, 7, 8, 9, 10, 11, 12, 13, 14, 15, 16, 17, 18] (by kernel_rfl) (by kernel_rfl) ?_
      refine ps_k (o_mCheck 12 0) (pT gm 0) ?_
      refine ps_p (o_mCheck 12 1) (.int .i64 m.k) (exec_ld 3 (.tmp 4) gm 0 Try.underlying3 (rc (h9) (Msg.get_n hr NF.k))) ?_
      refine ps_c (o_mCheck 12 2) 40 #[.int .i64 m.k] Try.func40 ((mknown_yes _ _ hk.1 hk.2).mono ?_)
      rintro e w1 ⟨rfl, rfl⟩
      refine ⟨_, rfl, ?_⟩
      refine ps_k (o_mCheck 12 3) (.bool false) ?_
      refine ps_k (o_mCheck 12 4) (.bool false) ?_
      refine ps_k (o_mCheck 12 5) (pT gm 0) ?_
      refine ps_p (o_mCheck 12 6) (.int .i64 m.k) (exec_ld 3 (.tmp 9) gm 0 Try.underlying3 (rc (h9) (Msg.get_n hr NF.k))) ?_
      refine ps_p (o_mCheck 12 7) (.bool true) (eqt ((m.k) : Int) ((8) : Int) (by omega)) ?_
      refine ps_k (o_mCheck 12 8) (.bool true) ?_
      refine ps_k (o_mCheck 12 9) (pT gm 11) ?_
      refine ps_p (o_mCheck 12 10) (.int .i64 m.pf) (exec_ld 3 (.tmp 13) gm 11 Try.underlying3 (rc (h9) (Msg.get_n hr NF.pf))) ?_
      refine ps_p (o_mCheck 12 11) (.bool false) (dcf (((m.pf) : Int) < ((1) : Int)) (by omega)) ?_
      refine ps_k (o_mCheck 12 12) (.bool false) ?_
      refine ps_k (o_mCheck 12 13) (pT gm 11) ?_
      refine ps_p (o_mCheck 12 14) (.int .i64 m.pf) (exec_ld 3 (.tmp 17) gm 11 Try.underlying3 (rc (h9) (Msg.get_n hr NF.pf))) ?_
      refine ps_p (o_mCheck 12 15) (.bool false) (dcf (((m.pf) : Int) > ((3) : Int)) (by omega)) ?_
      refine ps_k (o_mCheck 12 16) (.bool false) ?_
      refine ps_k (o_mCheck 12 17) (.bool false) ?_
      refine ps_k (o_mCheck 12 18) (.bool false) ?_
      refine ps_end ?_
      refine then_n ?_
      refine sy_n (.tmp 22) (part_mCheck 26) (part_mCheck 27) ?_
      refine sy_sk ?_
      exact ⟨rfl, .pointer (some ⟨gm, 0, none⟩), .int .i64 m.k, .pointer (some ⟨gm, 0, none⟩), .int .i64 m.k, .bool true, .bool true, .pointer (some ⟨gm, 11, none⟩), .int .i64 m.pf, .bool false, .bool false, .pointer (some ⟨gm, 11, none⟩), .int .i64 m.pf, .bool false, .bool false, by kernel_rfl, h9, h6, by omega, K10⟩
  rintro aQ V11 ⟨u1_4, u1_5, u1_9, u1_10, u1_11, u1_12, u1_13, u1_14, u1_15, u1_16, u1_17, u1_18, u1_19, u1_20, rfl, h12, h13, z14, K15⟩
  refine then_n ?_
  refine sy_sq (part_mCheck 14) (part_mCheck 15) ?_
  refine sy_reg ?_
  refine rg_plain 3 (opsAt (part_mCheck 14)) [0, 1] (by kernel_rfl) (by kernel_rfl) ?_
  refine ps_k (o_mCheck 14 0) (.func (.func 52) #[] #[pT ge 0]) ?_
  refine ps_defer (o_mCheck 14 1) ⟨.fn (.func 52) #[.pointer (some ⟨ge, 0, none⟩)], #[]⟩ (by kernel_rfl) (by kernel_rfl) (by kernel_rfl) ?_
  refine ps_end ?_
  refine then_n ?_
  refine sy_sq (part_mCheck 30) (part_mCheck 31) ?_
  refine sy_reg ?_
  refine rg_plain 4 (opsAt (part_mCheck 30)) [0, 1, 2] (by kernel_rfl) (by kernel_rfl) ?_
  refine ps_p (o_mCheck 30 0) (.agg (Msg.c m)) (exec_load_row 35 (.tmp 1) (by kernel_rfl) gm (by kernel_rfl) _ _ (0, 0) _ (h12) Try.underlying35 rfl (by rw [Msg.c_size hr]; kernel_rfl)) ?_
  obtain ⟨V16, eV16, gc, egc, h17, kV16⟩ := alloc_step V11 ((Msg.c msgZ)) 70
  have n18 : gm < gc := egc ▸ lt_of_block h12
  have n19 : ge < gc := egc ▸ lt_of_block h13
  have n20 : w.heap.size ≤ gc := egc ▸ K15.size
  refine ps_r (o_mCheck 30 1) (pT gc 0) (w' := V16) (by rw [← eV16, ← egc]; exact exec_alloc0 70 (by kernel_rfl) (.agg ((Msg.c msgZ))) (by kernel_rfl)) ?_
  clear eV16
  have h21 := kV16.bk h12
  have h22 := kV16.bk h13
  have K23 := K15.nn kV16
  obtain ⟨V24, eV24, kV24⟩ := rowset_step V16 gc ((Msg.c m))
  have h25 : V24.heap[gc]? = some (.cells (Msg.c m) 70 (0, 0)) := eV24 ▸ setRow_heap _ _ _ _ _ _ h17
  refine ps_s (o_mCheck 30 2) (w' := V24) (by rw [← eV24]; exact exec_store_row 70 (.tmp 3) (.tmp 24) (by kernel_rfl) gc ((Msg.c m)) (by kernel_rfl) (by kernel_rfl) 70 ((Msg.c msgZ)) h17 (by rw [Msg.c_size hr]; kernel_rfl) (by rw [Msg.c_size hr]; exact (Msg.c_size msgZ_R).symm) (Msg.c_one _)) ?_
  clear eV24
  have h26 := kV24.bo h21 (by omega)
  have h27 := kV24.bo h22 (by omega)
  have K28 := K23.no kV24 (by omega)
  refine ps_end ?_
  refine then_n ?_
  refine sy_sq (part_mCheck 62) (part_mCheck 63) ?_
  refine sy_reg ?_
  refine rg_plain 5 (opsAt (part_mCheck 62)) [0, 1, 2] (by kernel_rfl) (by kernel_rfl) ?_
  refine ps_k (o_mCheck 62 0) (.agg #[]) ?_
  refine ps_k (o_mCheck 62 1) (.iface 92 (.agg #[])) ?_
  refine ps_P (o_mCheck 62 2) 41 #[.pointer (some ⟨gc, 0, none⟩), .iface 92 (.agg #[])] _ _ (run_callF (o_mCheck 62 2) 41 #[.pointer (some ⟨gc, 0, none⟩), .iface 92 (.agg #[])] (by kernel_rfl) rfl (by kernel_rfl) (enters_of Try.func41 (by kernel_rfl) rfl)) (mall_ok chkV chkV_ok gc m.k.toNat (fun w' => Keeps Nob V24 w') (fun _ _ => False) _ _ _ hk1 hk2 h25 ((Msg.get_n hr NF.k).trans (congrArg (fun x => some (Value.int .i64 x)) hkc.symm)) (all_chk m hr m.k.toNat hkc.symm _ h25 (fun h w' k' => k') (fun h w' k' => by rw [hn] at h; cases h))) (fun c w' h => h.elim) ?_
  rintro V29 kV29
  have h30 := kV29.bk h26
  have h31 := kV29.bk h27
  have h32 := kV29.bk h25
  have K33 := K28.nn kV29
  refine ps_end ?_
  refine then_n ?_
  refine sy_sq (part_mCheck 126) (part_mCheck 127) ?_
  refine sy_reg ?_
  refine rg_plain 6 (opsAt (part_mCheck 126)) [0, 1, 2] (by kernel_rfl) (by kernel_rfl) ?_
  refine ps_k (o_mCheck 126 0) (.agg #[]) ?_
  refine ps_k (o_mCheck 126 1) (.iface 93 (.agg #[])) ?_
  refine ps_P (o_mCheck 126 2) 41 #[.pointer (some ⟨gc, 0, none⟩), .iface 93 (.agg #[])] _ _ (run_callF (o_mCheck 126 2) 41 #[.pointer (some ⟨gc, 0, none⟩), .iface 93 (.agg #[])] (by kernel_rfl) rfl (by kernel_rfl) (enters_of Try.func41 (by kernel_rfl) rfl)) (mall_ok clrV clrV_ok gc m.k.toNat (fun w' => w'.heap[gc]? = some (.cells (Msg.c ((clrAll m))) 70 (0, 0)) ∧ Keeps (One gc) V29 w') (fun _ _ => False) _ _ _ hk1 hk2 h32 ((Msg.get_n hr NF.k).trans (congrArg (fun x => some (Value.int .i64 x)) hkc.symm)) (all_clr m hr m.k.toNat hkc.symm _ h32 (fun w' h k' => ⟨h, k'⟩))) (fun c w' h => h.elim) ?_
  rintro V34 ⟨hcV34, kV34⟩
  have h35 := kV34.bo h30 (by omega)
  have h36 := kV34.bo h31 (by omega)
  have K37 := K33.no kV34 (by omega)
  refine ps_end ?_
  refine then_n ?_
  refine sy_sq (part_mCheck 254) (part_mCheck 255) ?_
  refine sy_sq (part_mCheck 508) (part_mCheck 509) ?_
  refine sy_reg ?_
  refine rg_plain 7 (opsAt (part_mCheck 508)) [0, 1, 2, 3, 4] (by kernel_rfl) (by kernel_rfl) ?_
  refine ps_p (o_mCheck 508 0) (.agg (Msg.c ((clrAll m)))) (exec_load_row 70 (.tmp 3) (by kernel_rfl) gc (by kernel_rfl) _ _ (0, 0) _ (hcV34) Try.underlying70 rfl (by rw [Msg.c_size (clrAll_R hr)]; kernel_rfl)) ?_
  refine ps_k (o_mCheck 508 1) (pT gm 0) ?_
  refine ps_p (o_mCheck 508 2) (.int .i64 m.k) (exec_ld 3 (.tmp 32) gm 0 Try.underlying3 (rc (h35) (Msg.get_n hr NF.k))) ?_
  refine ps_k (o_mCheck 508 3) (.agg (Msg.c (onlyK m.k))) ?_
  refine ps_p (o_mCheck 508 4) (.bool false) (exec_cast (congrArg Value.bool (show (!decide (clrAll m = onlyK m.k)) = false by simp [hq])) (exec_binop .neq 70 70 (.tmp 31) (.tmp 34) (by kernel_rfl) (.agg (Msg.c (clrAll m))) (.agg (Msg.c (onlyK m.k))) _ (by kernel_rfl) (by kernel_rfl) (run_eqGuard_agg _ _ _ _ _ _ _ form_guard) (form_ne _ _ (clrAll_R hr) (onlyK_R _) _))) ?_
  refine ps_end ?_
  refine then_n ?_
  refine sy_n (.tmp 35) (part_mCheck 1018) (part_mCheck 1019) ?_
  refine sy_sk ?_
  refine then_n ?_
  refine sy_sq (part_mCheck 510) (part_mCheck 511) ?_
  refine sy_reg ?_
  refine rg_plain 9 (opsAt (part_mCheck 510)) [0] (by kernel_rfl) (by kernel_rfl) ?_
  obtain ⟨V38, eV38, kV38⟩ := cell_step V34 ge 0 (.int .i64 0)
  have h39 : V38.heap[ge]? = some (.cells (#[.int .i64 0]) 36 (0, 0)) := eV38 ▸ ((heap_setCell_same _ ge 0 _ _ (.int .i64 0) h36).trans (congrArg (fun c => some (Obj.cells c 36 (0, 0))) (show (#[.int .i64 0] : Array Value).setIfInBounds 0 (.int .i64 0) = #[.int .i64 0] from by kernel_rfl)))
  refine ps_s (o_mCheck 510 0) (w' := V38) (by rw [← eV38]; exact exec_store_cell 36 (.tmp 2) (.const (.int .i64 0)) (by kernel_rfl) ge 0 (by kernel_rfl) (.int .i64 0) (by kernel_rfl) (by kernel_rfl) (by kernel_rfl) (.int .i64 0) (rc (h36) (by kernel_rfl)) (frozen_of_row _ _ _ _ _ h36) (by kernel_rfl)) ?_
  clear eV38
  have h40 := kV38.bo h35 (by omega)
  have h41 := kV38.bo hcV34 (by omega)
  have K42 := K37.no kV38 (by omega)
  refine ps_end ?_
  refine then_n ?_
  refine sy_ret (by kernel_rfl) ?_
  refine sy_outD 52 #[.pointer (some ⟨ge, 0, none⟩)] rfl (fun _ => enters_of Try.func52 (by kernel_rfl) rfl _ _) ((mCheck1_no ge 0 _ h39).mono ?_)
  rintro e u V43 ⟨rfl, rfl, heV43, kV43⟩
  have h44 := kV43.bo h40 (by omega)
  have h45 := kV43.bo h41 (by omega)
  have K46 := K42.no kV43 (by omega)
  refine ⟨rfl, _, rfl, .int .i64 0, results_cell1 (p := 2) (ty := 36) (by kernel_rfl) _ _ ge 0 (.int .i64 0) _ (by kernel_rfl) Try.underlying36 rfl (rc (heV43) (by kernel_rfl)), ?_⟩
  exact ⟨rfl, K46⟩
theorem mCheck_any (m : Msg) (w : World) (hr : m.R) : Calls Try.prog 17 #[.agg (Msg.c m)] w (fun e w' => e = .returned (.int .i64 m.chk) ∧ Keeps Nob w w') := by
  unfold Msg.chk
  by_cases hf : m.form
  · rw [if_pos hf]
    by_cases hn : m.items.all (chkIt m) = true
    · rw [if_pos hn]
      by_cases hq : clrAll m = onlyK m.k
      · rw [if_pos hq]; exact mCheck_ok m w hr hf hn hq
      · rw [if_neg hq]; exact mCheck_arg m w hr hf hn hq
    · rw [if_neg hn]; exact mCheck_panic m w hr hf (by simpa using hn)
  · rw [if_neg hf]
    by_cases hk : 1 ≤ m.k ∧ m.k ≤ 11
    · have h8 : m.k = 8 := by
        by_cases h : m.k = 8
        · exact h
        · exact absurd ⟨hk, fun e => absurd e h⟩ hf
      by_cases hp : 1 ≤ m.pf
      · by_cases hp2 : 3 < m.pf
        · exact mCheck_f3 m w hr hk h8 hp hp2
        · exact absurd ⟨hk, fun _ => ⟨hp, by omega⟩⟩ hf
      · exact mCheck_f2 m w hr hk h8 (by omega)
    · exact mCheck_f1 m w hr hk
end Go.Proofs.Ytmapcghgdbfmhaa
