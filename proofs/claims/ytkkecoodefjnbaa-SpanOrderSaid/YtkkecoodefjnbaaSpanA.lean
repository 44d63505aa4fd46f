import Derived.Test.YtkkecoodefjnbaaRange
import Derived.Test.YtkkecoodefjnbaaRows
import Derived.Deep.QuietTactic
import Derived.BigQuiet
import Derived.BigRegion
namespace Go.Proofs.Ytkkecoodefjnbaa
open Go Go.RowKit Go.Own

/-- The shape and the cells of a span: window W, epoch E, the ring r. -/
structure SpanAt (w : World) (b : Nat) (W E : Int) (r : Nat → Int × Value × Value) : Prop where
  shape : ∃ cs : Array Value, w.heap[b]? = some (.cells cs 60 (0, 0)) ∧ cs.size = 770 ∧ cs.all (·.oneCell') = true
  win : w.cell? ⟨b, 0, none⟩ = some (.int .i64 W)
  ep : w.cell? ⟨b, 1, none⟩ = some (.int .i64 E)
  c0 : ∀ i, i < 256 → w.cell? ⟨b, 2 + i * 3, none⟩ = some (.int .i64 (r i).1)
  c1 : ∀ i, i < 256 → w.cell? ⟨b, 2 + i * 3 + 1, none⟩ = some (r i).2.1
  c2 : ∀ i, i < 256 → w.cell? ⟨b, 2 + i * 3 + 2, none⟩ = some (r i).2.2

theorem SpanAt.unfrozen {w : World} {b : Nat} {W E : Int} {r : Nat → Int × Value × Value} (h : SpanAt w b W E r) (o : Nat) : w.frozen? ⟨b, o, none⟩ = false := by
  obtain ⟨cs, h1, _⟩ := h.shape
  simp [World.frozen?, h1]

set_option maxHeartbeats 400000 in
theorem span_none (b : Nat) (W : Int) (w : World) (h : w.cell? ⟨b, 0, none⟩ = some (.int .i64 W)) (hW : (W == 0) = false) :
    Calls Try.prog 31 #[.pointer (some ⟨b, 0, none⟩)] w fun e w' => e = .returned (.bool false) ∧ w = w' := by
  go_enter Try.func31, Try.ntmps31
  go_wp2
  go_ret
  exact ⟨rfl, rfl⟩

set_option maxHeartbeats 400000 in
theorem span_low (b : Nat) (W E : Int) (w : World) (h : w.cell? ⟨b, 0, none⟩ = some (.int .i64 W)) (h1 : w.cell? ⟨b, 1, none⟩ = some (.int .i64 E)) (hW : (W == 0) = false)
   (w0 : 1 ≤ W) (w1 : W ≤ 256) (e0 : 0 ≤ E) (e1 : E ≤ 4294967296) :
    Calls Try.prog 13 #[.pointer (some ⟨b, 0, none⟩)] w fun e w' => e = .returned (.int .i64 (max 0 (E - W + 1))) ∧ w.drew = w' := by
  go_enter Try.func13, Try.ntmps13
  go_wp2_with (go_at_call 31; refine (span_none b W _ h hW).mono ?_; rintro e w' ⟨rfl, rfl⟩)
  go_region
  go_wp2
  all_goals (go_ret; exact ⟨ret_int (by omega), rfl⟩)

set_option maxHeartbeats 400000 in
theorem place_in (p W : Int) (w : World) (w0 : 1 ≤ W) (w1 : W ≤ 256) (p0 : 0 ≤ p) (p1 : p ≤ 4294967296) :
    Calls Try.prog 39 #[.int .i64 p, .int .i64 W] w fun e w' => e = .returned (.int .i64 (p % W)) ∧ w = w' := by
  go_enter Try.func39, Try.ntmps39
  go_wp2
  go_ret
  exact ⟨rfl, rfl⟩

set_option maxHeartbeats 400000 in
theorem span_epoch (b : Nat) (W E : Int) (w : World) (h : w.cell? ⟨b, 0, none⟩ = some (.int .i64 W)) (h1 : w.cell? ⟨b, 1, none⟩ = some (.int .i64 E)) (hW : (W == 0) = false) :
    Calls Try.prog 15 #[.pointer (some ⟨b, 0, none⟩)] w fun e w' => e = .returned (.int .i64 E) ∧ w = w' := by
  go_enter Try.func15, Try.ntmps15
  go_wp2_with (go_at_call 31; refine (span_none b W _ h hW).mono ?_; rintro e w' ⟨rfl, rfl⟩)
  go_wp2
  go_ret
  exact ⟨rfl, rfl⟩

set_option maxHeartbeats 400000 in
theorem span_told_nil (w : World) :
    Calls Try.prog 37 #[.pointer none] w fun e w' => e = .returned (.tuple #[.int .i64 0, .bool false]) ∧ w = w' := by
  go_enter Try.func37, Try.ntmps37
  go_wp2
  go_ret2
  exact ⟨rfl, rfl⟩
set_option maxHeartbeats 400000 in
theorem span_told (k : Nat) (n : Int) (w : World) (h : w.cell? ⟨k, 0, none⟩ = some (.int .i64 n)) :
    Calls Try.prog 37 #[.pointer (some ⟨k, 0, none⟩)] w fun e w' => e = .returned (.tuple #[.int .i64 n, .bool true]) ∧ w = w' := by
  go_enter Try.func37, Try.ntmps37
  go_wp2
  go_ret2
  exact ⟨rfl, rfl⟩

set_option maxHeartbeats 400000 in
theorem span_new_no (n : Int) (w : World) (h : n < 1 ∨ 256 < n) :
    Calls Try.prog 16 #[.int .i64 n] w fun e w' => e = .returned (.tuple #[.pointer none, .int .i64 3]) ∧ w = w' := by
  rcases h with h | h
  · go_enter Try.func16, Try.ntmps16
    go_wp2
    go_ret2
    exact ⟨rfl, rfl⟩
  · have : ¬ n < 1 := by omega
    go_enter Try.func16, Try.ntmps16
    go_wp2
    go_ret2
    exact ⟨rfl, rfl⟩

/-- The cells of a new span. -/
def spanCell (v : Value) (j : Nat) : Value := if j = 0 then v else if j = 1 then .int .i64 0 else if j % 3 = 2 then .int .i64 0 else .pointer none
def spanCells (v : Value) : Array Value := ((List.range 770).map (spanCell v)).toArray
theorem spanCells_get (v : Value) (j : Nat) (h : j < 770) : (spanCells v)[j]? = some (spanCell v j) := by simp [spanCells, h]
theorem spanCells_one (v : Value) (h : v.oneCell' = true) : (spanCells v).all (·.oneCell') = true := by
  simp only [Array.all_eq_true_iff_forall_mem]
  intro x hx
  simp only [spanCells, List.mem_toArray, List.mem_map] at hx
  obtain ⟨j, _, rfl⟩ := hx
  unfold spanCell
  repeat' split
  all_goals first | exact h | rfl
theorem spanCells_size (v : Value) : (spanCells v).size = 770 := by simp [spanCells]
theorem span_build (n : Int) (w : World) : (Instr.build 60 #[(0, .int .i64 n)]).run Try.prog w = .ok (.agg (spanCells (.int .i64 n))) w := by kernel_rfl

set_option maxHeartbeats 1000000 in
theorem span_new (n : Int) (w : World) (h1 : 1 ≤ n) (h2 : n ≤ 256) :
    Calls Try.prog 16 #[.int .i64 n] w fun e w' => e = .returned (.tuple #[.pointer (some ⟨w.heap.size, 0, none⟩), .int .i64 0]) ∧ w' = w.alloc (.cells (spanCells (.int .i64 n)) 60) := by
  have hb := span_build n w
  go_enter Try.func16, Try.ntmps16
  go_wp2_with (first | (refine own_build rfl 60 _ rfl #[(0, .int .i64 n)] ?_ hb ?_; · simp [Act.eval]) | (refine own_box rfl 60 _ rfl ?_))
  go_ret2
  exact ⟨rfl, rfl⟩

set_option maxHeartbeats 400000 in
theorem span_at (b : Nat) (W E e : Int) (w : World) (r : Nat → Int × Value × Value) (h : SpanAt w b W E r) 
   (w0 : 1 ≤ W) (w1 : W ≤ 256) (e0 : 0 ≤ e) (e1 : e ≤ 4294967296) (hne : ((r (e % W).toNat).1 != e) = false) :
    Calls Try.prog 33 #[.pointer (some ⟨b, 0, none⟩), .int .i64 e] w fun v w' => v = .returned (.pointer (some ⟨b, 2 + (e % W).toNat * 3, none⟩)) ∧ ∃ n, w' = w.drewN n := by
  have hW : (W == 0) = false := by simp; omega
  have hc0 := h.win
  have hi2 : 0 ≤ e % W := Int.emod_nonneg _ (by omega)
  have hi3 : e % W < W := Int.emod_lt_of_pos _ (by omega)
  have hi : (e % W).toNat < 256 := by omega
  have hr := h.c0 _ hi
  go_enter Try.func33, Try.ntmps33
  go_wp2_with fail
  go_quiet ((go_at_call 39; exact Calls.quiet_eq (place_in e W _ w0 w1 e0 e1)))
  go_wp2
  go_ret
  exact ⟨rfl, _, rfl⟩
end Go.Proofs.Ytkkecoodefjnbaa
