/-
  Messages: those who go through their things (printed by msg2.py). Conditions: none.
-/
import Derived.Test.YtmapcghgdbfmhaaMsgB
import Derived.Test.YtmapcghgdbfmhaaCodSp
namespace Go.Proofs.Ytmapcghgdbfmhaa
open Go Go.RowKit Go.Own Go.Shelf
theorem exec_min {P : Program} {o : Oper} {ρ : Operand → Value} {w : World} (x y : Operand) (ts : Array TypeId) (ho : o.op = .call { callee := .builtin .min, args := #[x, y], argTypes := ts }) (k : IntKind) (a b : Int) (hx : ρ x = .int k a) (hy : ρ y = .int k b) :
    (execOp ρ o).run P w = .ok (.value (.int k (min a b))) w := by
  unfold execOp
  simp [ho, hx, hy, resolve, invoke, builtin, Builtin.min_, Builtin.min2]
  rw [Int.min_def]
  split <;> split <;> omega
theorem rdU_nn (l : List UInt8) (s : RS) : (((rdU l s).1.toNat : Nat) : Int) = (rdU l s).1 := by
  unfold rdU; dsimp only; split <;> simp
def outP : PanicEntry := { v := .iface 89 (.agg #[.int .i64 3]), recovered := false }
abbrev zeroH : List UInt8 := List.replicate 32 0

noncomputable def part_xcN (n : Nat) : Code := partOf Try.f150 n
noncomputable abbrev o_xcN (n k : Nat) : Oper := (opsAt (part_xcN n)).getD k default
set_option maxRecDepth 100000 in
set_option maxHeartbeats 4000000 in
theorem xcN_in (g o : Nat) (cs : Array Value) (T : TypeId) (n lo hi : Int) (w : World) (hb : w.heap[g]? = some (.cells cs T (0, 0))) (hc : cs[o]? = some (.int .i64 n)) (h1 : lo ≤ n) (h2 : n ≤ hi) :
    Calls Try.prog 150 #[.agg #[], .pointer (some ⟨g, o, none⟩), .int .i64 lo, .int .i64 hi] w (fun e w' => e = .returned (.tuple #[]) ∧ Keeps Nob w w') := by
  have K0 : Keeps Nob w w := Keeps.refl _ _
  refine sy_enter (part_xcN 1) ⟨#[.agg #[], pT g o, .int .i64 lo, .int .i64 hi, undef, undef, undef, undef, undef, undef, undef, undef, undef, undef, undef, undef, undef, undef, undef, undef, undef, undef], []⟩ Try.func150 (by kernel_rfl) (by kernel_rfl) ?_
  refine sy_sq (part_xcN 2) (part_xcN 3) ?_
  refine sy_reg ?_
  refine rg_plain 0 (opsAt (part_xcN 2)) [0] (by kernel_rfl) (by kernel_rfl) ?_
  obtain ⟨V1, eV1, bx, ebx, h2, kV1⟩ := alloc_step w #[] 92
  have n3 : g < bx := ebx ▸ lt_of_block hb
  have n4 : w.heap.size ≤ bx := ebx ▸ K0.size
  refine ps_r (o_xcN 2 0) (pT bx 0) (w' := V1) (by rw [← eV1, ← ebx]; exact exec_box 92 (.tmp 0) (by kernel_rfl) (.agg #[]) (by kernel_rfl)) ?_
  clear eV1
  have h5 := kV1.bk hb
  have K6 := K0.nn kV1
  refine ps_end ?_
  refine then_n ?_
  refine sy_sq (part_xcN 6) (part_xcN 7) ?_
  refine sy_reg ?_
  refine rg_plain 1 (opsAt (part_xcN 6)) [0, 1, 2, 3, 4, 5, 6, 7, 8, 9, 10, 11] (by kernel_rfl) (by kernel_rfl) ?_
  refine ps_k (o_xcN 6 0) (pT g o) ?_
  refine ps_k (o_xcN 6 1) (pT g o) ?_
  refine ps_p (o_xcN 6 2) (.int .i64 n) (exec_ld 3 (.tmp 9) g o Try.underlying3 (rc (h5) (hc))) ?_
  refine ps_k (o_xcN 6 3) (.int .i64 lo) ?_
  refine ps_p (o_xcN 6 4) (.bool false) (dcf (((n) : Int) < ((lo) : Int)) (by omega)) ?_
  refine ps_k (o_xcN 6 5) (.bool false) ?_
  refine ps_k (o_xcN 6 6) (pT g o) ?_
  refine ps_k (o_xcN 6 7) (pT g o) ?_
  refine ps_p (o_xcN 6 8) (.int .i64 n) (exec_ld 3 (.tmp 15) g o Try.underlying3 (rc (h5) (hc))) ?_
  refine ps_k (o_xcN 6 9) (.int .i64 hi) ?_
  refine ps_p (o_xcN 6 10) (.bool false) (dcf (((n) : Int) > ((hi) : Int)) (by omega)) ?_
  refine ps_k (o_xcN 6 11) (.bool false) ?_
  refine ps_end ?_
  refine then_n ?_
  refine sy_n (.tmp 19) (part_xcN 14) (part_xcN 15) ?_
  refine sy_sk ?_
  refine sy_fall (.tuple #[]) rfl (by kernel_rfl) ?_
  exact ⟨rfl, K6⟩
set_option maxRecDepth 100000 in
set_option maxHeartbeats 4000000 in
theorem xcN_lo (g o : Nat) (cs : Array Value) (T : TypeId) (n lo hi : Int) (w : World) (hb : w.heap[g]? = some (.cells cs T (0, 0))) (hc : cs[o]? = some (.int .i64 n)) (h1 : n < lo) :
    Calls Try.prog 150 #[.agg #[], .pointer (some ⟨g, o, none⟩), .int .i64 lo, .int .i64 hi] w (fun e w' => e = .panicked [outP] ∧ Keeps Nob w w') := by
  have K0 : Keeps Nob w w := Keeps.refl _ _
  refine sy_enter (part_xcN 1) ⟨#[.agg #[], pT g o, .int .i64 lo, .int .i64 hi, undef, undef, undef, undef, undef, undef, undef, undef, undef, undef, undef, undef, undef, undef, undef, undef, undef, undef], []⟩ Try.func150 (by kernel_rfl) (by kernel_rfl) ?_
  refine sy_sq (part_xcN 2) (part_xcN 3) ?_
  refine sy_reg ?_
  refine rg_plain 0 (opsAt (part_xcN 2)) [0] (by kernel_rfl) (by kernel_rfl) ?_
  obtain ⟨V1, eV1, bx, ebx, h2, kV1⟩ := alloc_step w #[] 92
  have n3 : g < bx := ebx ▸ lt_of_block hb
  have n4 : w.heap.size ≤ bx := ebx ▸ K0.size
  refine ps_r (o_xcN 2 0) (pT bx 0) (w' := V1) (by rw [← eV1, ← ebx]; exact exec_box 92 (.tmp 0) (by kernel_rfl) (.agg #[]) (by kernel_rfl)) ?_
  clear eV1
  have h5 := kV1.bk hb
  have K6 := K0.nn kV1
  refine ps_end ?_
  refine then_n ?_
  refine sy_sq (part_xcN 6) (part_xcN 7) ?_
  refine sy_reg ?_
  refine rg_plain 1 (opsAt (part_xcN 6)) [0, 1, 2, 3, 4, 5, 6, 7, 8, 9, 10, 11] (by kernel_rfl) (by kernel_rfl) ?_
  refine ps_k (o_xcN 6 0) (pT g o) ?_
  refine ps_k (o_xcN 6 1) (pT g o) ?_
  refine ps_p (o_xcN 6 2) (.int .i64 n) (exec_ld 3 (.tmp 9) g o Try.underlying3 (rc (h5) (hc))) ?_
  refine ps_k (o_xcN 6 3) (.int .i64 lo) ?_
  refine ps_p (o_xcN 6 4) (.bool true) (dct (((n) : Int) < ((lo) : Int)) (by omega)) ?_
  refine ps_k (o_xcN 6 5) (.bool true) ?_
  refine ps_n (o_xcN 6 6) ?_
  refine ps_n (o_xcN 6 7) ?_
  refine ps_n (o_xcN 6 8) ?_
  refine ps_n (o_xcN 6 9) ?_
  refine ps_n (o_xcN 6 10) ?_
  refine ps_k (o_xcN 6 11) (.bool true) ?_
  refine ps_end ?_
  refine then_n ?_
  refine sy_ys (.tmp 19) (part_xcN 14) (part_xcN 15) ?_
  refine sy_reg ?_
  refine rg_plain 2 (opsAt (part_xcN 14)) [0, 1, 2] (by kernel_rfl) (by kernel_rfl) ?_
  refine ps_k (o_xcN 14 0) (.agg #[.int .i64 3]) ?_
  refine ps_k (o_xcN 14 1) (.iface 89 (.agg #[.int .i64 3])) ?_
  refine ps_panic (o_xcN 14 2) (.tmp 21) 89 ((.agg #[.int .i64 3])) (by kernel_rfl) (by kernel_rfl) (by kernel_rfl) (by kernel_rfl) ?_
  exact ⟨rfl, rfl, K6⟩
set_option maxRecDepth 100000 in
set_option maxHeartbeats 4000000 in
theorem xcN_hi (g o : Nat) (cs : Array Value) (T : TypeId) (n lo hi : Int) (w : World) (hb : w.heap[g]? = some (.cells cs T (0, 0))) (hc : cs[o]? = some (.int .i64 n)) (h1 : ¬ n < lo) (h2 : hi < n) :
    Calls Try.prog 150 #[.agg #[], .pointer (some ⟨g, o, none⟩), .int .i64 lo, .int .i64 hi] w (fun e w' => e = .panicked [outP] ∧ Keeps Nob w w') := by
  have K0 : Keeps Nob w w := Keeps.refl _ _
  refine sy_enter (part_xcN 1) ⟨#[.agg #[], pT g o, .int .i64 lo, .int .i64 hi, undef, undef, undef, undef, undef, undef, undef, undef, undef, undef, undef, undef, undef, undef, undef, undef, undef, undef], []⟩ Try.func150 (by kernel_rfl) (by kernel_rfl) ?_
  refine sy_sq (part_xcN 2) (part_xcN 3) ?_
  refine sy_reg ?_
  refine rg_plain 0 (opsAt (part_xcN 2)) [0] (by kernel_rfl) (by kernel_rfl) ?_
  obtain ⟨V1, eV1, bx, ebx, h2, kV1⟩ := alloc_step w #[] 92
  have n3 : g < bx := ebx ▸ lt_of_block hb
  have n4 : w.heap.size ≤ bx := ebx ▸ K0.size
  refine ps_r (o_xcN 2 0) (pT bx 0) (w' := V1) (by rw [← eV1, ← ebx]; exact exec_box 92 (.tmp 0) (by kernel_rfl) (.agg #[]) (by kernel_rfl)) ?_
  clear eV1
  have h5 := kV1.bk hb
  have K6 := K0.nn kV1
  refine ps_end ?_
  refine then_n ?_
  refine sy_sq (part_xcN 6) (part_xcN 7) ?_
  refine sy_reg ?_
  refine rg_plain 1 (opsAt (part_xcN 6)) [0, 1, 2, 3, 4, 5, 6, 7, 8, 9, 10, 11] (by kernel_rfl) (by kernel_rfl) ?_
  refine ps_k (o_xcN 6 0) (pT g o) ?_
  refine ps_k (o_xcN 6 1) (pT g o) ?_
  refine ps_p (o_xcN 6 2) (.int .i64 n) (exec_ld 3 (.tmp 9) g o Try.underlying3 (rc (h5) (hc))) ?_
  refine ps_k (o_xcN 6 3) (.int .i64 lo) ?_
  refine ps_p (o_xcN 6 4) (.bool false) (dcf (((n) : Int) < ((lo) : Int)) (by omega)) ?_
  refine ps_k (o_xcN 6 5) (.bool false) ?_
  refine ps_k (o_xcN 6 6) (pT g o) ?_
  refine ps_k (o_xcN 6 7) (pT g o) ?_
  refine ps_p (o_xcN 6 8) (.int .i64 n) (exec_ld 3 (.tmp 15) g o Try.underlying3 (rc (h5) (hc))) ?_
  refine ps_k (o_xcN 6 9) (.int .i64 hi) ?_
  refine ps_p (o_xcN 6 10) (.bool true) (dct (((n) : Int) > ((hi) : Int)) (by omega)) ?_
  refine ps_k (o_xcN 6 11) (.bool true) ?_
  refine ps_end ?_
  refine then_n ?_
  refine sy_ys (.tmp 19) (part_xcN 14) (part_xcN 15) ?_
  refine sy_reg ?_
  refine rg_plain 2 (opsAt (part_xcN 14)) [0, 1, 2] (by kernel_rfl) (by kernel_rfl) ?_
  refine ps_k (o_xcN 14 0) (.agg #[.int .i64 3]) ?_
  refine ps_k (o_xcN 14 1) (.iface 89 (.agg #[.int .i64 3])) ?_
  refine ps_panic (o_xcN 14 2) (.tmp 21) 89 ((.agg #[.int .i64 3])) (by kernel_rfl) (by kernel_rfl) (by kernel_rfl) (by kernel_rfl) ?_
  exact ⟨rfl, rfl, K6⟩
theorem xcN_out (g o : Nat) (cs : Array Value) (T : TypeId) (n lo hi : Int) (w : World) (hb : w.heap[g]? = some (.cells cs T (0, 0))) (hc : cs[o]? = some (.int .i64 n)) (h : ¬ (lo ≤ n ∧ n ≤ hi)) : Calls Try.prog 150 #[.agg #[], .pointer (some ⟨g, o, none⟩), .int .i64 lo, .int .i64 hi] w (fun e w' => e = .panicked [outP] ∧ Keeps Nob w w') := by
  by_cases hl : n < lo
  · exact xcN_lo g o cs T n lo hi w hb hc hl
  · exact xcN_hi g o cs T n lo hi w hb hc hl (by omega)
noncomputable def part_xcA (n : Nat) : Code := partOf Try.f148 n
noncomputable abbrev o_xcA (n k : Nat) : Oper := (opsAt (part_xcA n)).getD k default
set_option maxRecDepth 100000 in
set_option maxHeartbeats 4000000 in
theorem xcA_ok (v : Value) (w : World) :
    Calls Try.prog 148 #[.agg #[], v] w (fun e w' => e = .returned (.tuple #[]) ∧ Keeps Nob w w') := by
  have K0 : Keeps Nob w w := Keeps.refl _ _
  refine sy_enter (part_xcA 1) ⟨#[.agg #[], v, undef, undef], []⟩ Try.func148 (by kernel_rfl) (by kernel_rfl) ?_
  refine sy_reg ?_
  refine rg_plain 0 (opsAt (part_xcA 1)) [0] (by kernel_rfl) (by kernel_rfl) ?_
  obtain ⟨V1, eV1, bx, ebx, h2, kV1⟩ := alloc_step w #[] 92
  have n3 : w.heap.size ≤ bx := ebx ▸ K0.size
  refine ps_r (o_xcA 1 0) (pT bx 0) (w' := V1) (by rw [← eV1, ← ebx]; exact exec_box 92 (.tmp 0) (by kernel_rfl) (.agg #[]) (by kernel_rfl)) ?_
  clear eV1
  have K4 := K0.nn kV1
  refine ps_end ?_
  refine sy_fall (.tuple #[]) rfl (by kernel_rfl) ?_
  exact ⟨rfl, K4⟩
noncomputable def part_xcH (n : Nat) : Code := partOf Try.f149 n
noncomputable abbrev o_xcH (n k : Nat) : Oper := (opsAt (part_xcH n)).getD k default
set_option maxRecDepth 100000 in
set_option maxHeartbeats 4000000 in
theorem xcH_ok (v : Value) (w : World) :
    Calls Try.prog 149 #[.agg #[], v] w (fun e w' => e = .returned (.tuple #[]) ∧ Keeps Nob w w') := by
  have K0 : Keeps Nob w w := Keeps.refl _ _
  refine sy_enter (part_xcH 1) ⟨#[.agg #[], v, undef, undef], []⟩ Try.func149 (by kernel_rfl) (by kernel_rfl) ?_
  refine sy_reg ?_
  refine rg_plain 0 (opsAt (part_xcH 1)) [0] (by kernel_rfl) (by kernel_rfl) ?_
  obtain ⟨V1, eV1, bx, ebx, h2, kV1⟩ := alloc_step w #[] 92
  have n3 : w.heap.size ≤ bx := ebx ▸ K0.size
  refine ps_r (o_xcH 1 0) (pT bx 0) (w' := V1) (by rw [← eV1, ← ebx]; exact exec_box 92 (.tmp 0) (by kernel_rfl) (.agg #[]) (by kernel_rfl)) ?_
  clear eV1
  have K4 := K0.nn kV1
  refine ps_end ?_
  refine sy_fall (.tuple #[]) rfl (by kernel_rfl) ?_
  exact ⟨rfl, K4⟩
noncomputable def part_xlN (n : Nat) : Code := partOf Try.f153 n
noncomputable abbrev o_xlN (n k : Nat) : Oper := (opsAt (part_xlN n)).getD k default
set_option maxRecDepth 100000 in
set_option maxHeartbeats 4000000 in
theorem xlN_ok (g o : Nat) (cs : Array Value) (T : TypeId) (n : Int) (lo hi : Int) (w : World) (hb : w.heap[g]? = some (.cells cs T (0, 0))) (hc : cs[o]? = some (.int .i64 n)) :
    Calls Try.prog 153 #[.agg #[], .pointer (some ⟨g, o, none⟩), .int .i64 lo, .int .i64 hi] w (fun e w' => e = .returned (.tuple #[]) ∧ w'.heap[g]? = some (.cells (cs.setIfInBounds o (.int .i64 0)) T (0, 0)) ∧ Keeps (One g) w w') := by
  have hgl := lt_of_block hb
  have K0 : Keeps (One g) w w := Keeps.refl _ _
  refine sy_enter (part_xlN 1) ⟨#[.agg #[], pT g o, .int .i64 lo, .int .i64 hi, undef, undef, undef, undef, undef, undef], []⟩ Try.func153 (by kernel_rfl) (by kernel_rfl) ?_
  refine sy_sq (part_xlN 2) (part_xlN 3) ?_
  refine sy_reg ?_
  refine rg_plain 0 (opsAt (part_xlN 2)) [0] (by kernel_rfl) (by kernel_rfl) ?_
  obtain ⟨V1, eV1, bx, ebx, h2, kV1⟩ := alloc_step w #[] 93
  have n3 : g < bx := ebx ▸ lt_of_block hb
  have n4 : w.heap.size ≤ bx := ebx ▸ K0.size
  refine ps_r (o_xlN 2 0) (pT bx 0) (w' := V1) (by rw [← eV1, ← ebx]; exact exec_box 93 (.tmp 0) (by kernel_rfl) (.agg #[]) (by kernel_rfl)) ?_
  clear eV1
  have h5 := kV1.bk hb
  have K6 := K0.nn kV1
  refine ps_end ?_
  refine then_n ?_
  refine sy_reg ?_
  refine rg_plain 1 (opsAt (part_xlN 3)) [0, 1, 2] (by kernel_rfl) (by kernel_rfl) ?_
  refine ps_k (o_xlN 3 0) (pT g o) ?_
  refine ps_k (o_xlN 3 1) (pT g o) ?_
  obtain ⟨V7, eV7, kV7⟩ := cell_step V1 g o (.int .i64 0)
  have h8 : V7.heap[g]? = some (.cells (cs.setIfInBounds o (.int .i64 0)) T (0, 0)) := eV7 ▸ ((heap_setCell_same _ g o _ _ (.int .i64 0) h5).trans (congrArg (fun c => some (Obj.cells c T (0, 0))) (show (cs : Array Value).setIfInBounds o (.int .i64 0) = cs.setIfInBounds o (.int .i64 0) from rfl)))
  refine ps_s (o_xlN 3 2) (w' := V7) (by rw [← eV7]; exact exec_store_cell 3 (.tmp 9) (.const (.int .i64 0)) (by kernel_rfl) g o (by kernel_rfl) (.int .i64 0) (by kernel_rfl) (by kernel_rfl) (by kernel_rfl) (.int .i64 n) (rc (h5) (hc)) (frozen_of_row _ _ _ _ _ h5) (by kernel_rfl)) ?_
  clear eV7
  have h9 := kV7.bo h2 (by omega)
  have K10 : Keeps (One g) w V7 := K6.then kV7 (fun i hi hm => by unfold Own.One at hm; subst hm; exact rfl)
  refine ps_end ?_
  refine sy_fall (.tuple #[]) rfl (by kernel_rfl) ?_
  exact ⟨rfl, h8, K10⟩
noncomputable def part_xlA (n : Nat) : Code := partOf Try.f151 n
noncomputable abbrev o_xlA (n k : Nat) : Oper := (opsAt (part_xlA n)).getD k default
set_option maxRecDepth 100000 in
set_option maxHeartbeats 4000000 in
theorem xlA_ok (g o : Nat) (cs : Array Value) (T : TypeId) (n : Nat) (w : World) (hb : w.heap[g]? = some (.cells cs T (0, 0))) (hc : cs[o]? = some (.int .u64 ((n : Nat) : Int))) :
    Calls Try.prog 151 #[.agg #[], .pointer (some ⟨g, o, none⟩)] w (fun e w' => e = .returned (.tuple #[]) ∧ w'.heap[g]? = some (.cells (cs.setIfInBounds o (.int .u64 0)) T (0, 0)) ∧ Keeps (One g) w w') := by
  have hgl := lt_of_block hb
  have K0 : Keeps (One g) w w := Keeps.refl _ _
  refine sy_enter (part_xlA 1) ⟨#[.agg #[], pT g o, undef, undef, undef, undef], []⟩ Try.func151 (by kernel_rfl) (by kernel_rfl) ?_
  refine sy_sq (part_xlA 2) (part_xlA 3) ?_
  refine sy_reg ?_
  refine rg_plain 0 (opsAt (part_xlA 2)) [0] (by kernel_rfl) (by kernel_rfl) ?_
  obtain ⟨V1, eV1, bx, ebx, h2, kV1⟩ := alloc_step w #[] 93
  have n3 : g < bx := ebx ▸ lt_of_block hb
  have n4 : w.heap.size ≤ bx := ebx ▸ K0.size
  refine ps_r (o_xlA 2 0) (pT bx 0) (w' := V1) (by rw [← eV1, ← ebx]; exact exec_box 93 (.tmp 0) (by kernel_rfl) (.agg #[]) (by kernel_rfl)) ?_
  clear eV1
  have h5 := kV1.bk hb
  have K6 := K0.nn kV1
  refine ps_end ?_
  refine then_n ?_
  refine sy_reg ?_
  refine rg_plain 1 (opsAt (part_xlA 3)) [0, 1, 2] (by kernel_rfl) (by kernel_rfl) ?_
  refine ps_k (o_xlA 3 0) (pT g o) ?_
  refine ps_k (o_xlA 3 1) (pT g o) ?_
  obtain ⟨V7, eV7, kV7⟩ := cell_step V1 g o (.int .u64 0)
  have h8 : V7.heap[g]? = some (.cells (cs.setIfInBounds o (.int .u64 0)) T (0, 0)) := eV7 ▸ ((heap_setCell_same _ g o _ _ (.int .u64 0) h5).trans (congrArg (fun c => some (Obj.cells c T (0, 0))) (show (cs : Array Value).setIfInBounds o (.int .u64 0) = cs.setIfInBounds o (.int .u64 0) from rfl)))
  refine ps_s (o_xlA 3 2) (w' := V7) (by rw [← eV7]; exact exec_store_cell 25 (.tmp 5) (.const (.int .u64 0)) (by kernel_rfl) g o (by kernel_rfl) (.int .u64 0) (by kernel_rfl) (by kernel_rfl) (by kernel_rfl) (uN n) (rc (h5) (hc)) (frozen_of_row _ _ _ _ _ h5) (by kernel_rfl)) ?_
  clear eV7
  have h9 := kV7.bo h2 (by omega)
  have K10 : Keeps (One g) w V7 := K6.then kV7 (fun i hi hm => by unfold Own.One at hm; subst hm; exact rfl)
  refine ps_end ?_
  refine sy_fall (.tuple #[]) rfl (by kernel_rfl) ?_
  exact ⟨rfl, h8, K10⟩
noncomputable def part_xlH (n : Nat) : Code := partOf Try.f152 n
noncomputable abbrev o_xlH (n k : Nat) : Oper := (opsAt (part_xlH n)).getD k default
set_option maxRecDepth 100000 in
set_option maxHeartbeats 4000000 in
theorem xlH_ok (g o : Nat) (cs : Array Value) (T : TypeId) (w : World) (hb : w.heap[g]? = some (.cells cs T (0, 0))) (hsz : o + 32 ≤ cs.size) :
    Calls Try.prog 152 #[.agg #[], .pointer (some ⟨g, o, none⟩)] w (fun e w' => e = .returned (.tuple #[]) ∧ w'.heap[g]? = some (.cells (seg cs o (B zeroH)) T (0, 0)) ∧ Keeps (One g) w w') := by
  have hgl := lt_of_block hb
  have K0 : Keeps (One g) w w := Keeps.refl _ _
  refine sy_enter (part_xlH 1) ⟨#[.agg #[], pT g o, undef, undef, undef, undef, undef], []⟩ Try.func152 (by kernel_rfl) (by kernel_rfl) ?_
  refine sy_sq (part_xlH 2) (part_xlH 3) ?_
  refine sy_reg ?_
  refine rg_plain 0 (opsAt (part_xlH 2)) [0] (by kernel_rfl) (by kernel_rfl) ?_
  obtain ⟨V1, eV1, bx, ebx, h2, kV1⟩ := alloc_step w #[] 93
  have n3 : g < bx := ebx ▸ lt_of_block hb
  have n4 : w.heap.size ≤ bx := ebx ▸ K0.size
  refine ps_r (o_xlH 2 0) (pT bx 0) (w' := V1) (by rw [← eV1, ← ebx]; exact exec_box 93 (.tmp 0) (by kernel_rfl) (.agg #[]) (by kernel_rfl)) ?_
  clear eV1
  have h5 := kV1.bk hb
  have K6 := K0.nn kV1
  refine ps_end ?_
  refine then_n ?_
  refine sy_reg ?_
  refine rg_plain 1 (opsAt (part_xlH 3)) [0, 1, 2, 3] (by kernel_rfl) (by kernel_rfl) ?_
  refine ps_k (o_xlH 3 0) (pT g o) ?_
  refine ps_k (o_xlH 3 1) (.agg (B zeroH).toArray) ?_
  refine ps_k (o_xlH 3 2) (pT g o) ?_
  obtain ⟨V7, eV7⟩ : ∃ V, V1.setCells g o (B zeroH).toArray.toList = V := ⟨_, rfl⟩
  have kV7 : Keeps (One g) V1 V7 := eV7 ▸ Keeps.setCells _ _ _ _
  have h8 : V7.heap[g]? = some (.cells (seg cs o (B zeroH)) T (0, 0)) := eV7 ▸ heap_setCells g _ _ o _ _ h5 (show o + (B zeroH).length ≤ _ by rw [B_length, (show zeroH.length = 32 from rfl)]; exact hsz)
  refine ps_s (o_xlH 3 3) (w' := V7) (by rw [← eV7]; exact exec_store_mid 29 (.tmp 6) (.tmp 5) (by kernel_rfl) g o (by kernel_rfl) (B zeroH).toArray (by kernel_rfl) _ _ h5 (show o + (B zeroH).length ≤ _ by rw [B_length, (show zeroH.length = 32 from rfl)]; exact hsz) (by rw [Bz_size, (show zeroH.length = 32 from rfl)]; kernel_rfl) (by rw [List.all_toArray]; exact List.all_eq_true.2 (B_one _))) ?_
  clear eV7
  have h9 := kV7.bo h2 (by omega)
  have K10 : Keeps (One g) w V7 := K6.then kV7 (fun i hi hm => by unfold Own.One at hm; subst hm; exact rfl)
  refine ps_end ?_
  refine sy_fall (.tuple #[]) rfl (by kernel_rfl) ?_
  exact ⟨rfl, h8, K10⟩
noncomputable def part_xwN (n : Nat) : Code := partOf Try.f146 n
noncomputable abbrev o_xwN (n k : Nat) : Oper := (opsAt (part_xwN n)).getD k default
set_option maxRecDepth 100000 in
set_option maxHeartbeats 4000000 in
theorem xwN_ok (g o : Nat) (cs : Array Value) (T : TypeId) (b : Nat) (F0 : Nat → Prop) (s : WS) (n lo hi : Int) (hb1 : -1 ≤ lo) (hn1 : lo ≤ n) (hn2 : n ≤ 4611686018427387904) (w : World) (hb : w.heap[g]? = some (.cells cs T (0, 0))) (hc : cs[o]? = some (.int .i64 n)) (hR : Wr w F0 b s) (hgF : ¬ F0 g) :
    Calls Try.prog 146 #[.agg #[.pointer (some ⟨b, 0, none⟩)], .pointer (some ⟨g, o, none⟩), .int .i64 lo, .int .i64 hi] w (fun e w' => e = .returned (.tuple #[]) ∧ ∃ F1, Wr w' F1 b (s.add (Cod.enc (n - min lo 0).toNat)) ∧ Step w w' F0 F1) := by
  have K0 : Keeps F0 w w := Keeps.refl _ _
  refine sy_enter (part_xwN 1) ⟨#[.agg #[pT b 0], pT g o, .int .i64 lo, .int .i64 hi, undef, undef, undef, undef, undef, undef, undef, undef, undef, undef, undef, undef, undef], []⟩ Try.func146 (by kernel_rfl) (by kernel_rfl) ?_
  refine sy_sq (part_xwN 2) (part_xwN 3) ?_
  refine sy_reg ?_
  refine rg_plain 0 (opsAt (part_xwN 2)) [0] (by kernel_rfl) (by kernel_rfl) ?_
  obtain ⟨V1, eV1, bx, ebx, h2, kV1⟩ := alloc_step w (#[.pointer (some ⟨b, 0, none⟩)]) 84
  have n3 : g < bx := ebx ▸ lt_of_block hb
  have n4 : w.heap.size ≤ bx := ebx ▸ K0.size
  refine ps_r (o_xwN 2 0) (pT bx 0) (w' := V1) (by rw [← eV1, ← ebx]; exact exec_box 84 (.tmp 0) (by kernel_rfl) (.agg #[pT b 0]) (by kernel_rfl)) ?_
  clear eV1
  have h5 := kV1.bk hb
  have h6 : Wr V1 F0 b s := hR.keepsN kV1
  have K7 := K0.nn kV1
  refine ps_end ?_
  refine then_n ?_
  refine sy_reg ?_
  refine rg_still 1 8 (opsAt (part_xwN 3)) [o_xwN 3 0, o_xwN 3 1, o_xwN 3 2, o_xwN 3 3, o_xwN 3 4, o_xwN 3 5, o_xwN 3 6, o_xwN 3 7] [o_xwN 3 8] (by kernel_rfl) (by kernel_rfl) (by kernel_rfl) (by kernel_rfl) (by kernel_rfl) ?_
  obtain ⟨V9, eV9, kV9⟩ := drew_step V1
  rw [eV9]
  clear eV9
  have h10 := kV9.bk h5
  have h11 : Wr V9 F0 b s := h6.keepsN kV9
  have h12 := kV9.bk h2
  have K13 := K7.nn kV9
  refine st_k (o_xwN 3 0) (pT bx 0) ?_
  refine st_p (o_xwN 3 1) (pT b 0) (exec_ld 79 (.tmp 8) bx 0 Try.underlying79 (rc (h12) (by kernel_rfl))) ?_
  refine st_k (o_xwN 3 2) (pT g o) ?_
  refine st_k (o_xwN 3 3) (pT g o) ?_
  refine st_p (o_xwN 3 4) (.int .i64 n) (exec_ld 3 (.tmp 11) g o Try.underlying3 (rc (h10) (hc))) ?_
  refine st_k (o_xwN 3 5) (.int .i64 lo) ?_
  refine st_p (o_xwN 3 6) (.int .i64 (min lo 0)) (exec_min (.tmp 13) (.const (.int .i64 0)) #[3, 3] (by kernel_rfl) .i64 lo 0 (by kernel_rfl) (by kernel_rfl)) ?_
  refine st_p (o_xwN 3 7) (.int .i64 (n - (min lo 0))) (exec_cast (congrArg (Value.int .i64) (wrapI (n - (min lo 0)) (n - (min lo 0)) rfl (by omega) (by omega))) (by kernel_rfl)) ?_
  refine st_end ?_
  have hKs := K13.size
  refine ls_call (o_xwN 3 8) 48 #[.pointer (some ⟨b, 0, none⟩), .int .i64 (n - (min lo 0))] (by kernel_rfl) (by kernel_rfl) (by kernel_rfl) (enters_of Try.func48 (by kernel_rfl) rfl) ((Wr.n h11 (n - min lo 0) (by omega) (by omega)).mono ?_)
  rintro e V14 ⟨rfl, F1, hV14, hSV14⟩
  have hS := hSV14
  refine ⟨_, rfl, ?_⟩
  have h15 : V14.heap[g]? = some (.cells cs T (0, 0)) := (hSV14.1.block g (lt_of_block h10) (fun e => hgF (e : F0 g))).trans h10
  have K16 : Keeps F0 w V14 := K13.then hSV14.1 (fun i hi hm => hm)
  refine ls_end ?_
  refine sy_fall (.tuple #[]) rfl (by kernel_rfl) ?_
  exact ⟨rfl, F1, hV14, K16, fun j hj => (hS.2 j hj).imp id (fun x => ⟨Nat.le_trans hKs x.1, x.2⟩)⟩
noncomputable def part_xwA (n : Nat) : Code := partOf Try.f144 n
noncomputable abbrev o_xwA (n k : Nat) : Oper := (opsAt (part_xwA n)).getD k default
set_option maxRecDepth 100000 in
set_option maxHeartbeats 4000000 in
theorem xwA_ok (g o : Nat) (cs : Array Value) (T : TypeId) (b : Nat) (F0 : Nat → Prop) (s : WS) (n : Nat) (hn : n < 2 ^ 64) (w : World) (hb : w.heap[g]? = some (.cells cs T (0, 0))) (hc : cs[o]? = some (.int .u64 ((n : Nat) : Int))) (hR : Wr w F0 b s) (hgF : ¬ F0 g) :
    Calls Try.prog 144 #[.agg #[.pointer (some ⟨b, 0, none⟩)], .pointer (some ⟨g, o, none⟩)] w (fun e w' => e = .returned (.tuple #[]) ∧ ∃ F1, Wr w' F1 b (s.add (Cod.enc n)) ∧ Step w w' F0 F1) := by
  have K0 : Keeps F0 w w := Keeps.refl _ _
  refine sy_enter (part_xwA 1) ⟨#[.agg #[pT b 0], pT g o, undef, undef, undef, undef, undef, undef, undef, undef], []⟩ Try.func144 (by kernel_rfl) (by kernel_rfl) ?_
  refine sy_sq (part_xwA 2) (part_xwA 3) ?_
  refine sy_reg ?_
  refine rg_plain 0 (opsAt (part_xwA 2)) [0] (by kernel_rfl) (by kernel_rfl) ?_
  obtain ⟨V1, eV1, bx, ebx, h2, kV1⟩ := alloc_step w (#[.pointer (some ⟨b, 0, none⟩)]) 84
  have n3 : g < bx := ebx ▸ lt_of_block hb
  have n4 : w.heap.size ≤ bx := ebx ▸ K0.size
  refine ps_r (o_xwA 2 0) (pT bx 0) (w' := V1) (by rw [← eV1, ← ebx]; exact exec_box 84 (.tmp 0) (by kernel_rfl) (.agg #[pT b 0]) (by kernel_rfl)) ?_
  clear eV1
  have h5 := kV1.bk hb
  have h6 : Wr V1 F0 b s := hR.keepsN kV1
  have K7 := K0.nn kV1
  refine ps_end ?_
  refine then_n ?_
  refine sy_reg ?_
  refine rg_still 1 5 (opsAt (part_xwA 3)) [o_xwA 3 0, o_xwA 3 1, o_xwA 3 2, o_xwA 3 3, o_xwA 3 4] [o_xwA 3 5] (by kernel_rfl) (by kernel_rfl) (by kernel_rfl) (by kernel_rfl) (by kernel_rfl) ?_
  obtain ⟨V9, eV9, kV9⟩ := drew_step V1
  rw [eV9]
  clear eV9
  have h10 := kV9.bk h5
  have h11 : Wr V9 F0 b s := h6.keepsN kV9
  have h12 := kV9.bk h2
  have K13 := K7.nn kV9
  refine st_k (o_xwA 3 0) (pT bx 0) ?_
  refine st_p (o_xwA 3 1) (pT b 0) (exec_ld 79 (.tmp 4) bx 0 Try.underlying79 (rc (h12) (by kernel_rfl))) ?_
  refine st_k (o_xwA 3 2) (pT g o) ?_
  refine st_k (o_xwA 3 3) (pT g o) ?_
  refine st_p (o_xwA 3 4) (uN n) (exec_ld 25 (.tmp 7) g o Try.underlying25 (rc (h10) (hc))) ?_
  refine st_end ?_
  have hKs := K13.size
  refine ls_call (o_xwA 3 5) 72 #[.pointer (some ⟨b, 0, none⟩), .int .u64 ((n : Nat) : Int)] (by kernel_rfl) (by kernel_rfl) (by kernel_rfl) (enters_of Try.func72 (by kernel_rfl) rfl) ((Wr.u h11 n hn).mono ?_)
  rintro e V14 ⟨rfl, F1, hV14, hSV14⟩
  have hS := hSV14
  refine ⟨_, rfl, ?_⟩
  have h15 : V14.heap[g]? = some (.cells cs T (0, 0)) := (hSV14.1.block g (lt_of_block h10) (fun e => hgF (e : F0 g))).trans h10
  have K16 : Keeps F0 w V14 := K13.then hSV14.1 (fun i hi hm => hm)
  refine ls_end ?_
  refine sy_fall (.tuple #[]) rfl (by kernel_rfl) ?_
  exact ⟨rfl, F1, hV14, K16, fun j hj => (hS.2 j hj).imp id (fun x => ⟨Nat.le_trans hKs x.1, x.2⟩)⟩
noncomputable def part_xwH (n : Nat) : Code := partOf Try.f145 n
noncomputable abbrev o_xwH (n k : Nat) : Oper := (opsAt (part_xwH n)).getD k default
set_option maxRecDepth 100000 in
set_option maxHeartbeats 4000000 in
theorem xwH_ok (g o : Nat) (cs : Array Value) (T : TypeId) (b : Nat) (F0 : Nat → Prop) (s : WS) (x : List UInt8) (hx : x.length = 32) (w : World) (hb : w.heap[g]? = some (.cells cs T (0, 0))) (hc : ∀ (j : Nat) (u : Value), (B x)[j]? = some u → cs[o + j]? = some u) (hR : Wr w F0 b s) (hgF : ¬ F0 g) :
    Calls Try.prog 145 #[.agg #[.pointer (some ⟨b, 0, none⟩)], .pointer (some ⟨g, o, none⟩)] w (fun e w' => e = .returned (.tuple #[]) ∧ ∃ F1, Wr w' F1 b (s.add x) ∧ Step w w' F0 F1) := by
  have K0 : Keeps F0 w w := Keeps.refl _ _
  refine sy_enter (part_xwH 1) ⟨#[.agg #[pT b 0], pT g o, undef, undef, undef, undef, undef, undef, undef, undef], []⟩ Try.func145 (by kernel_rfl) (by kernel_rfl) ?_
  refine sy_sq (part_xwH 2) (part_xwH 3) ?_
  refine sy_reg ?_
  refine rg_plain 0 (opsAt (part_xwH 2)) [0] (by kernel_rfl) (by kernel_rfl) ?_
  obtain ⟨V1, eV1, bx, ebx, h2, kV1⟩ := alloc_step w (#[.pointer (some ⟨b, 0, none⟩)]) 84
  have n3 : g < bx := ebx ▸ lt_of_block hb
  have n4 : w.heap.size ≤ bx := ebx ▸ K0.size
  refine ps_r (o_xwH 2 0) (pT bx 0) (w' := V1) (by rw [← eV1, ← ebx]; exact exec_box 84 (.tmp 0) (by kernel_rfl) (.agg #[pT b 0]) (by kernel_rfl)) ?_
  clear eV1
  have h5 := kV1.bk hb
  have h6 : Wr V1 F0 b s := hR.keepsN kV1
  have K7 := K0.nn kV1
  refine ps_end ?_
  refine then_n ?_
  refine sy_reg ?_
  refine rg_still 1 5 (opsAt (part_xwH 3)) [o_xwH 3 0, o_xwH 3 1, o_xwH 3 2, o_xwH 3 3, o_xwH 3 4] [o_xwH 3 5] (by kernel_rfl) (by kernel_rfl) (by kernel_rfl) (by kernel_rfl) (by kernel_rfl) ?_
  obtain ⟨V9, eV9, kV9⟩ := drew_step V1
  rw [eV9]
  clear eV9
  have h10 := kV9.bk h5
  have h11 : Wr V9 F0 b s := h6.keepsN kV9
  have h12 := kV9.bk h2
  have K13 := K7.nn kV9
  refine st_k (o_xwH 3 0) (pT bx 0) ?_
  refine st_p (o_xwH 3 1) (pT b 0) (exec_ld 79 (.tmp 4) bx 0 Try.underlying79 (rc (h12) (by kernel_rfl))) ?_
  refine st_k (o_xwH 3 2) (pT g o) ?_
  refine st_k (o_xwH 3 3) (pT g o) ?_
  refine st_p (o_xwH 3 4) (.agg (B x).toArray) (exec_load_seg 29 (.tmp 7) (by kernel_rfl) g o (by kernel_rfl) (B x) _ _ _ h10 hc Try.underlying29 rfl (by rw [B_length, hx]; kernel_rfl)) ?_
  refine st_end ?_
  have hKs := K13.size
  refine ls_call (o_xwH 3 5) 147 #[.pointer (some ⟨b, 0, none⟩), .agg (B x).toArray] (by kernel_rfl) (by kernel_rfl) (by kernel_rfl) (enters_of Try.func147 (by kernel_rfl) rfl) ((Wr.hash h11 x hx).mono ?_)
  rintro e V14 ⟨rfl, F1, hV14, hSV14⟩
  have hS := hSV14
  refine ⟨_, rfl, ?_⟩
  have h15 : V14.heap[g]? = some (.cells cs T (0, 0)) := (hSV14.1.block g (lt_of_block h10) (fun e => hgF (e : F0 g))).trans h10
  have K16 : Keeps F0 w V14 := K13.then hSV14.1 (fun i hi hm => hm)
  refine ls_end ?_
  refine sy_fall (.tuple #[]) rfl (by kernel_rfl) ?_
  exact ⟨rfl, F1, hV14, K16, fun j hj => (hS.2 j hj).imp id (fun x => ⟨Nat.le_trans hKs x.1, x.2⟩)⟩
theorem rdN_le (l : List UInt8) (s : RS) (lo hi : Int) : 0 ≤ (rdN l s lo hi).1 ∧ ((rdN l s lo hi).1 ≤ hi ∨ (rdN l s lo hi).1 = 0) := by
  unfold rdN
  dsimp only
  split
  · rename_i h
    have := errN_zero h.2
    omega
  · omega
theorem Rd.u' {w : World} {F : Nat → Prop} {b : Nat} {l : List UInt8} {s : RS} (h : Rd w F b l s) : Calls Try.prog 138 #[.pointer (some ⟨b, 0, none⟩)] w (RPost w F b l (.int .u64 (((rdU l s).1.toNat : Nat) : Int)) (rdU l s).2) := by
  rw [rdU_nn]; exact h.u
theorem rdH_len (l : List UInt8) (s : RS) : (rdH l s).1.length = 32 := by
  unfold rdH; dsimp only; split
  · exact hashOf_length _
  · simp
noncomputable def part_xrN (n : Nat) : Code := partOf Try.f137 n
noncomputable abbrev o_xrN (n k : Nat) : Oper := (opsAt (part_xrN n)).getD k default
set_option maxRecDepth 100000 in
set_option maxHeartbeats 4000000 in
theorem xrN_ok (g o : Nat) (cs : Array Value) (T : TypeId) (b : Nat) (F0 : Nat → Prop) (l : List UInt8) (s : RS) (n lo hi : Int) (hb1 : -1 ≤ lo) (hb2 : hi ≤ 4611686018427387904) (hb3 : lo ≤ hi) (w : World) (hb : w.heap[g]? = some (.cells cs T (0, 0))) (hc : cs[o]? = some (.int .i64 n)) (hR : Rd w F0 b l s) (hgF : ¬ F0 g) :
    Calls Try.prog 137 #[.agg #[.pointer (some ⟨b, 0, none⟩)], .pointer (some ⟨g, o, none⟩), .int .i64 lo, .int .i64 hi] w (fun e w' => e = .returned (.tuple #[]) ∧ ∃ F1, Rd w' F1 b l (rdN l s (lo - min lo 0) (hi - min lo 0)).2 ∧ ¬ F1 g ∧ w'.heap[g]? = some (.cells (cs.setIfInBounds o (.int .i64 ((rdN l s (lo - min lo 0) (hi - min lo 0)).1 + min lo 0))) T (0, 0)) ∧ Step w w' (Or2 F0 (One g)) (Or2 F1 (One g))) := by
  have hle := rdN_le l s (lo - min lo 0) (hi - min lo 0)
  have K0 : Keeps (Or2 F0 (One g)) w w := Keeps.refl _ _
  refine sy_enter (part_xrN 1) ⟨#[.agg #[pT b 0], pT g o, .int .i64 lo, .int .i64 hi, undef, undef, undef, undef, undef, undef, undef, undef, undef, undef, undef, undef, undef, undef, undef, undef, undef, undef, undef, undef], []⟩ Try.func137 (by kernel_rfl) (by kernel_rfl) ?_
  refine sy_sq (part_xrN 2) (part_xrN 3) ?_
  refine sy_reg ?_
  refine rg_plain 0 (opsAt (part_xrN 2)) [0] (by kernel_rfl) (by kernel_rfl) ?_
  obtain ⟨V1, eV1, bx, ebx, h2, kV1⟩ := alloc_step w (#[.pointer (some ⟨b, 0, none⟩)]) 74
  have n3 : g < bx := ebx ▸ lt_of_block hb
  have n4 : w.heap.size ≤ bx := ebx ▸ K0.size
  refine ps_r (o_xrN 2 0) (pT bx 0) (w' := V1) (by rw [← eV1, ← ebx]; exact exec_box 74 (.tmp 0) (by kernel_rfl) (.agg #[pT b 0]) (by kernel_rfl)) ?_
  clear eV1
  have h5 := kV1.bk hb
  have h6 : Rd V1 F0 b l s := hR.keepsN kV1
  have K7 := K0.nn kV1
  refine ps_end ?_
  refine then_n ?_
  refine sy_sq (part_xrN 6) (part_xrN 7) ?_
  refine sy_reg ?_
  refine rg_plain 1 (opsAt (part_xrN 6)) [0, 1, 2] (by kernel_rfl) (by kernel_rfl) ?_
  refine ps_k (o_xrN 6 0) (.int .i64 lo) ?_
  refine ps_p (o_xrN 6 1) (.int .i64 (min lo 0)) (exec_min (.tmp 9) (.const (.int .i64 0)) #[3, 3] (by kernel_rfl) .i64 lo 0 (by kernel_rfl) (by kernel_rfl)) ?_
  refine ps_k (o_xrN 6 2) (.int .i64 (min lo 0)) ?_
  refine ps_end ?_
  refine then_n ?_
  refine sy_reg ?_
  refine rg_plain 2 (opsAt (part_xrN 7)) [0, 1, 2, 3, 4, 5, 6, 7, 8, 9, 10, 11, 12, 13] (by kernel_rfl) (by kernel_rfl) ?_
  refine ps_k (o_xrN 7 0) (pT g o) ?_
  refine ps_k (o_xrN 7 1) (pT bx 0) ?_
  refine ps_p (o_xrN 7 2) (pT b 0) (exec_ld 68 (.tmp 12) bx 0 Try.underlying68 (rc (h2) (by kernel_rfl))) ?_
  refine ps_k (o_xrN 7 3) (.int .i64 lo) ?_
  refine ps_k (o_xrN 7 4) (.int .i64 (min lo 0)) ?_
  refine ps_p (o_xrN 7 5) (.int .i64 (lo - (min lo 0))) (exec_cast (congrArg (Value.int .i64) (wrapI (lo - (min lo 0)) (lo - (min lo 0)) rfl (by omega) (by omega))) (by kernel_rfl)) ?_
  refine ps_k (o_xrN 7 6) (.int .i64 hi) ?_
  refine ps_k (o_xrN 7 7) (.int .i64 (min lo 0)) ?_
  refine ps_p (o_xrN 7 8) (.int .i64 (hi - (min lo 0))) (exec_cast (congrArg (Value.int .i64) (wrapI (hi - (min lo 0)) (hi - (min lo 0)) rfl (by omega) (by omega))) (by kernel_rfl)) ?_
  have hKs := K7.size
  have hgl := lt_of_block h5
  refine ps_c (o_xrN 7 9) 39 #[pT b 0, .int .i64 (lo - (min lo 0)), .int .i64 (hi - (min lo 0))] Try.func39 ((Rd.n h6 (lo - min lo 0) (hi - min lo 0) (by omega) (by omega)).mono ?_)
  rintro e V8 ⟨rfl, F1, hV8, hSV8⟩
  have hS := hSV8
  have hgF1 : ¬ F1 g := fun hj => (hS.2 g hj).elim hgF (fun x => by omega)
  refine ⟨_, rfl, ?_⟩
  have h9 : V8.heap[g]? = some (.cells cs T (0, 0)) := (hSV8.1.block g (lt_of_block h5) (fun e => hgF (e : F0 g))).trans h5
  have K10 : Keeps (Or2 F0 (One g)) w V8 := K7.then hSV8.1 (fun i hi hm => .inl hm)
  refine ps_k (o_xrN 7 10) (.int .i64 (min lo 0)) ?_
  refine ps_p (o_xrN 7 11) (.int .i64 (((rdN l s (lo - min lo 0) (hi - min lo 0)).1) + (min lo 0))) (exec_cast (congrArg (Value.int .i64) (wrapI (((rdN l s (lo - min lo 0) (hi - min lo 0)).1) + (min lo 0)) (((rdN l s (lo - min lo 0) (hi - min lo 0)).1) + (min lo 0)) rfl (by omega) (by omega))) (by kernel_rfl)) ?_
  refine ps_k (o_xrN 7 12) (pT g o) ?_
  obtain ⟨V11, eV11, kV11⟩ := cell_step V8 g o (.int .i64 (((rdN l s (lo - min lo 0) (hi - min lo 0)).1) + (min lo 0)))
  have h12 : V11.heap[g]? = some (.cells (cs.setIfInBounds o (.int .i64 (((rdN l s (lo - min lo 0) (hi - min lo 0)).1) + (min lo 0)))) T (0, 0)) := eV11 ▸ ((heap_setCell_same _ g o _ _ (.int .i64 (((rdN l s (lo - min lo 0) (hi - min lo 0)).1) + (min lo 0))) h9).trans (congrArg (fun c => some (Obj.cells c T (0, 0))) (show (cs : Array Value).setIfInBounds o (.int .i64 (((rdN l s (lo - min lo 0) (hi - min lo 0)).1) + (min lo 0))) = cs.setIfInBounds o (.int .i64 (((rdN l s (lo - min lo 0) (hi - min lo 0)).1) + (min lo 0))) from rfl)))
  refine ps_s (o_xrN 7 13) (w' := V11) (by rw [← eV11]; exact exec_store_cell 3 (.tmp 23) (.tmp 22) (by kernel_rfl) g o (by kernel_rfl) (.int .i64 (((rdN l s (lo - min lo 0) (hi - min lo 0)).1) + (min lo 0))) (by kernel_rfl) (by kernel_rfl) (by kernel_rfl) (.int .i64 n) (rc (h9) (hc)) (frozen_of_row _ _ _ _ _ h9) (by kernel_rfl)) ?_
  clear eV11
  have h13 : Rd V11 F1 b l (rdN l s (lo - min lo 0) (hi - min lo 0)).2 := hV8.keeps kV11 (fun j hj e => by unfold Own.One at e; subst e; exact hgF1 hj)
  have K14 : Keeps (Or2 F0 (One g)) w V11 := K10.then kV11 (fun i hi hm => .inr hm)
  refine ps_end ?_
  refine sy_fall (.tuple #[]) rfl (by kernel_rfl) ?_
  exact ⟨rfl, F1, h13, hgF1, h12, K14, fun j hj => hj.elim (fun h => (hS.2 j h).imp .inl (fun x => ⟨Nat.le_trans hKs x.1, Nat.lt_of_lt_of_le x.2 kV11.size⟩)) (fun h => .inl (.inr h))⟩
noncomputable def part_xrA (n : Nat) : Code := partOf Try.f135 n
noncomputable abbrev o_xrA (n k : Nat) : Oper := (opsAt (part_xrA n)).getD k default
set_option maxRecDepth 100000 in
set_option maxHeartbeats 4000000 in
theorem xrA_ok (g o : Nat) (cs : Array Value) (T : TypeId) (b : Nat) (F0 : Nat → Prop) (l : List UInt8) (s : RS) (n : Nat) (w : World) (hb : w.heap[g]? = some (.cells cs T (0, 0))) (hc : cs[o]? = some (.int .u64 ((n : Nat) : Int))) (hR : Rd w F0 b l s) (hgF : ¬ F0 g) :
    Calls Try.prog 135 #[.agg #[.pointer (some ⟨b, 0, none⟩)], .pointer (some ⟨g, o, none⟩)] w (fun e w' => e = .returned (.tuple #[]) ∧ ∃ F1, Rd w' F1 b l (rdU l s).2 ∧ ¬ F1 g ∧ w'.heap[g]? = some (.cells (cs.setIfInBounds o (.int .u64 (((rdU l s).1.toNat : Nat) : Int))) T (0, 0)) ∧ Step w w' (Or2 F0 (One g)) (Or2 F1 (One g))) := by
  have K0 : Keeps (Or2 F0 (One g)) w w := Keeps.refl _ _
  refine sy_enter (part_xrA 1) ⟨#[.agg #[pT b 0], pT g o, undef, undef, undef, undef, undef, undef, undef], []⟩ Try.func135 (by kernel_rfl) (by kernel_rfl) ?_
  refine sy_sq (part_xrA 2) (part_xrA 3) ?_
  refine sy_reg ?_
  refine rg_plain 0 (opsAt (part_xrA 2)) [0] (by kernel_rfl) (by kernel_rfl) ?_
  obtain ⟨V1, eV1, bx, ebx, h2, kV1⟩ := alloc_step w (#[.pointer (some ⟨b, 0, none⟩)]) 74
  have n3 : g < bx := ebx ▸ lt_of_block hb
  have n4 : w.heap.size ≤ bx := ebx ▸ K0.size
  refine ps_r (o_xrA 2 0) (pT bx 0) (w' := V1) (by rw [← eV1, ← ebx]; exact exec_box 74 (.tmp 0) (by kernel_rfl) (.agg #[pT b 0]) (by kernel_rfl)) ?_
  clear eV1
  have h5 := kV1.bk hb
  have h6 : Rd V1 F0 b l s := hR.keepsN kV1
  have K7 := K0.nn kV1
  refine ps_end ?_
  refine then_n ?_
  refine sy_reg ?_
  refine rg_plain 1 (opsAt (part_xrA 3)) [0, 1, 2, 3, 4, 5] (by kernel_rfl) (by kernel_rfl) ?_
  refine ps_k (o_xrA 3 0) (pT g o) ?_
  refine ps_k (o_xrA 3 1) (pT bx 0) ?_
  refine ps_p (o_xrA 3 2) (pT b 0) (exec_ld 68 (.tmp 5) bx 0 Try.underlying68 (rc (h2) (by kernel_rfl))) ?_
  have hKs := K7.size
  have hgl := lt_of_block h5
  refine ps_c (o_xrA 3 3) 138 #[pT b 0] Try.func138 ((Rd.u' h6).mono ?_)
  rintro e V8 ⟨rfl, F1, hV8, hSV8⟩
  have hS := hSV8
  have hgF1 : ¬ F1 g := fun hj => (hS.2 g hj).elim hgF (fun x => by omega)
  refine ⟨_, rfl, ?_⟩
  have h9 : V8.heap[g]? = some (.cells cs T (0, 0)) := (hSV8.1.block g (lt_of_block h5) (fun e => hgF (e : F0 g))).trans h5
  have K10 : Keeps (Or2 F0 (One g)) w V8 := K7.then hSV8.1 (fun i hi hm => .inl hm)
  refine ps_k (o_xrA 3 4) (pT g o) ?_
  obtain ⟨V11, eV11, kV11⟩ := cell_step V8 g o (.int .u64 (((rdU l s).1.toNat : Nat) : Int))
  have h12 : V11.heap[g]? = some (.cells (cs.setIfInBounds o (.int .u64 (((rdU l s).1.toNat : Nat) : Int))) T (0, 0)) := eV11 ▸ ((heap_setCell_same _ g o _ _ (.int .u64 (((rdU l s).1.toNat : Nat) : Int)) h9).trans (congrArg (fun c => some (Obj.cells c T (0, 0))) (show (cs : Array Value).setIfInBounds o (.int .u64 (((rdU l s).1.toNat : Nat) : Int)) = cs.setIfInBounds o (.int .u64 (((rdU l s).1.toNat : Nat) : Int)) from rfl)))
  refine ps_s (o_xrA 3 5) (w' := V11) (by rw [← eV11]; exact exec_store_cell 25 (.tmp 8) (.tmp 7) (by kernel_rfl) g o (by kernel_rfl) (uN ((rdU l s).1.toNat)) (by kernel_rfl) (by kernel_rfl) (by kernel_rfl) (uN n) (rc (h9) (hc)) (frozen_of_row _ _ _ _ _ h9) (by kernel_rfl)) ?_
  clear eV11
  have h13 : Rd V11 F1 b l (rdU l s).2 := hV8.keeps kV11 (fun j hj e => by unfold Own.One at e; subst e; exact hgF1 hj)
  have K14 : Keeps (Or2 F0 (One g)) w V11 := K10.then kV11 (fun i hi hm => .inr hm)
  refine ps_end ?_
  refine sy_fall (.tuple #[]) rfl (by kernel_rfl) ?_
  exact ⟨rfl, F1, h13, hgF1, h12, K14, fun j hj => hj.elim (fun h => (hS.2 j h).imp .inl (fun x => ⟨Nat.le_trans hKs x.1, Nat.lt_of_lt_of_le x.2 kV11.size⟩)) (fun h => .inl (.inr h))⟩
noncomputable def part_xrH (n : Nat) : Code := partOf Try.f136 n
noncomputable abbrev o_xrH (n k : Nat) : Oper := (opsAt (part_xrH n)).getD k default
set_option maxRecDepth 100000 in
set_option maxHeartbeats 4000000 in
theorem xrH_ok (g o : Nat) (cs : Array Value) (T : TypeId) (b : Nat) (F0 : Nat → Prop) (l : List UInt8) (s : RS) (hl : l.length ≤ 100000000) (hsz : o + 32 ≤ cs.size) (w : World) (hb : w.heap[g]? = some (.cells cs T (0, 0))) (hR : Rd w F0 b l s) (hgF : ¬ F0 g) :
    Calls Try.prog 136 #[.agg #[.pointer (some ⟨b, 0, none⟩)], .pointer (some ⟨g, o, none⟩)] w (fun e w' => e = .returned (.tuple #[]) ∧ ∃ F1, Rd w' F1 b l (rdH l s).2 ∧ ¬ F1 g ∧ w'.heap[g]? = some (.cells (seg cs o (B (rdH l s).1)) T (0, 0)) ∧ Step w w' (Or2 F0 (One g)) (Or2 F1 (One g))) := by
  have K0 : Keeps (Or2 F0 (One g)) w w := Keeps.refl _ _
  refine sy_enter (part_xrH 1) ⟨#[.agg #[pT b 0], pT g o, undef, undef, undef, undef, undef, undef, undef], []⟩ Try.func136 (by kernel_rfl) (by kernel_rfl) ?_
  refine sy_sq (part_xrH 2) (part_xrH 3) ?_
  refine sy_reg ?_
  refine rg_plain 0 (opsAt (part_xrH 2)) [0] (by kernel_rfl) (by kernel_rfl) ?_
  obtain ⟨V1, eV1, bx, ebx, h2, kV1⟩ := alloc_step w (#[.pointer (some ⟨b, 0, none⟩)]) 74
  have n3 : g < bx := ebx ▸ lt_of_block hb
  have n4 : w.heap.size ≤ bx := ebx ▸ K0.size
  refine ps_r (o_xrH 2 0) (pT bx 0) (w' := V1) (by rw [← eV1, ← ebx]; exact exec_box 74 (.tmp 0) (by kernel_rfl) (.agg #[pT b 0]) (by kernel_rfl)) ?_
  clear eV1
  have h5 := kV1.bk hb
  have h6 : Rd V1 F0 b l s := hR.keepsN kV1
  have K7 := K0.nn kV1
  refine ps_end ?_
  refine then_n ?_
  refine sy_reg ?_
  refine rg_plain 1 (opsAt (part_xrH 3)) [0, 1, 2, 3, 4, 5] (by kernel_rfl) (by kernel_rfl) ?_
  refine ps_k (o_xrH 3 0) (pT g o) ?_
  refine ps_k (o_xrH 3 1) (pT bx 0) ?_
  refine ps_p (o_xrH 3 2) (pT b 0) (exec_ld 68 (.tmp 5) bx 0 Try.underlying68 (rc (h2) (by kernel_rfl))) ?_
  have hKs := K7.size
  have hgl := lt_of_block h5
  refine ps_c (o_xrH 3 3) 139 #[pT b 0] Try.func139 ((Rd.hash h6 hl).mono ?_)
  rintro e V8 ⟨rfl, F1, hV8, hSV8⟩
  have hS := hSV8
  have hgF1 : ¬ F1 g := fun hj => (hS.2 g hj).elim hgF (fun x => by omega)
  refine ⟨_, rfl, ?_⟩
  have h9 : V8.heap[g]? = some (.cells cs T (0, 0)) := (hSV8.1.block g (lt_of_block h5) (fun e => hgF (e : F0 g))).trans h5
  have K10 : Keeps (Or2 F0 (One g)) w V8 := K7.then hSV8.1 (fun i hi hm => .inl hm)
  refine ps_k (o_xrH 3 4) (pT g o) ?_
  obtain ⟨V11, eV11⟩ : ∃ V, V8.setCells g o (B (rdH l s).1).toArray.toList = V := ⟨_, rfl⟩
  have kV11 : Keeps (One g) V8 V11 := eV11 ▸ Keeps.setCells _ _ _ _
  have h12 : V11.heap[g]? = some (.cells (seg cs o (B (rdH l s).1)) T (0, 0)) := eV11 ▸ heap_setCells g _ _ o _ _ h9 (show o + (B (rdH l s).1).length ≤ _ by rw [B_length, (rdH_len l s)]; exact hsz)
  refine ps_s (o_xrH 3 5) (w' := V11) (by rw [← eV11]; exact exec_store_mid 29 (.tmp 8) (.tmp 7) (by kernel_rfl) g o (by kernel_rfl) (B (rdH l s).1).toArray (by kernel_rfl) _ _ h9 (show o + (B (rdH l s).1).length ≤ _ by rw [B_length, (rdH_len l s)]; exact hsz) (by rw [Bz_size, (rdH_len l s)]; kernel_rfl) (by rw [List.all_toArray]; exact List.all_eq_true.2 (B_one _))) ?_
  clear eV11
  have h13 : Rd V11 F1 b l (rdH l s).2 := hV8.keeps kV11 (fun j hj e => by unfold Own.One at e; subst e; exact hgF1 hj)
  have K14 : Keeps (Or2 F0 (One g)) w V11 := K10.then kV11 (fun i hi hm => .inr hm)
  refine ps_end ?_
  refine sy_fall (.tuple #[]) rfl (by kernel_rfl) ?_
  exact ⟨rfl, F1, h13, hgF1, h12, K14, fun j hj => hj.elim (fun h => (hS.2 j h).imp .inl (fun x => ⟨Nat.le_trans hKs x.1, Nat.lt_of_lt_of_le x.2 kV11.size⟩)) (fun h => .inl (.inr h))⟩
end Go.Proofs.Ytmapcghgdbfmhaa
