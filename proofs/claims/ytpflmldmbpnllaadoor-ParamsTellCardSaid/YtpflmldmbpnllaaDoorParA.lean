/-
  Params: a field's makers and its readers. Conditions: none.
-/
import Derived.Test.YtpflmldmbpnllaaDoorBase
import Derived.Test.YtpflmldmbpnllaaDoorRows
import Derived.Deep.QuietTactic
import Derived.BigQuiet
import Derived.BigRegion
import Derived.RangeFuncRecord
import Derived.Deep.WholeRow
import Derived.Shelf.RegionOpen
import Derived.Lib.Hide
namespace Go.Proofs.YtpflmldmbpnllaaDoor
open Go Go.RowKit Go.Own Go.Shelf

/-- A field as it is made: name, bounds, reader, setter, and the box that both hold. -/
def fieldV (nm : Value) (lo hi : Int) (f g : Nat) (k : Nat) : Value :=
  .agg #[nm, .int .u64 lo, .int .u64 hi, .func (.func f) #[] #[.pointer (some ⟨k, 0, none⟩)], .func (.func g) #[] #[.pointer (some ⟨k, 0, none⟩)]]

theorem mf_run : ∀ (fn : Fn) (first cap : Array Value) (w : World), (Instr.makeFunc fn first cap).run Tryd.prog w = .ok (.func fn first cap) w := fun _ _ _ _ => rfl
theorem field_info : (Tryd.prog.info? 67).map (·.size) = some 5 := by kernel_rfl

set_option maxHeartbeats 1000000 in
theorem of_ok (nm : ByteArray) (lo hi : Int) (q : Addr) (w : World) :
    Calls Tryd.prog 65 #[.string nm, .int .u64 lo, .int .u64 hi, .pointer (some q)] w fun e w' => e = .returned (fieldV (.string nm) lo hi 82 83 w.heap.size) ∧ w'.cell? ⟨w.heap.size, 0, none⟩ = some (.pointer (some q)) ∧ w.heap.size < w'.heap.size ∧ Keeps Nob w w' := by
  have hmf := mf_run
  go_enter Tryd.func65, Tryd.ntmps65
  go_wp2_with (refine wpList_store_row rfl 67 _ _ rfl (w.heap.size + 1) #[.string nm, .int .u64 lo, .int .u64 hi, .func (.func 82) #[] #[.pointer (some ⟨w.heap.size, 0, none⟩)], .func (.func 83) #[] #[.pointer (some ⟨w.heap.size, 0, none⟩)]] rfl rfl 67 #[.string ⟨#[]⟩, .int .u64 0, .int .u64 0, .nilFunc, .nilFunc] (by rw [show w.heap.size + 1 = (w.alloc (.cells #[.pointer (some q)] 103)).heap.size by simp]; exact World.alloc_heap_new _ _) field_info rfl (by simp [Value.oneCell']) ?_)
  have k1 : Keeps Nob w (w.alloc (.cells #[.pointer (some q)] 103)) := (Keeps.refl _ _).alloc _
  have c1 : (w.alloc (.cells #[.pointer (some q)] 103)).cell? ⟨w.heap.size, 0, none⟩ = some (.pointer (some q)) := (World.cell?_alloc_at _ _ _ _ rfl).trans rfl
  have s1 : (w.alloc (.cells #[.pointer (some q)] 103)).heap.size = w.heap.size + 1 := by simp
  (try simp only [Exit.inBlock, Exit.then])
  refine bodyPost_ret (v := .agg #[.string nm, .int .u64 lo, .int .u64 hi, .func (.func 82) #[] #[.pointer (some ⟨w.heap.size, 0, none⟩)], .func (.func 83) #[] #[.pointer (some ⟨w.heap.size, 0, none⟩)]]) ?_ rfl ?_
  · exact results_cell_row rfl _ _ (w.heap.size + 1) 67 #[.string nm, .int .u64 lo, .int .u64 hi, .func (.func 82) #[] #[.pointer (some ⟨w.heap.size, 0, none⟩)], .func (.func 83) #[] #[.pointer (some ⟨w.heap.size, 0, none⟩)]] (0, 0) _ rfl (setRow_heap _ _ #[.string ⟨#[]⟩, .int .u64 0, .int .u64 0, .nilFunc, .nilFunc] _ _ _ (by rw [show w.heap.size + 1 = (w.alloc (.cells #[.pointer (some q)] 103)).heap.size by simp]; exact World.alloc_heap_new _ _)) Tryd.underlying67 rfl field_info
  have k2 : ∀ o cs, Keeps Nob (w.alloc (.cells #[.pointer (some q)] 103)) (((w.alloc (.cells #[.pointer (some q)] 103)).alloc o).setRow (w.heap.size + 1) cs) := fun o cs => ((Keeps.refl _ _).alloc _).setRow (fun x => absurd x (by omega)) cs
  exact ⟨rfl, ((k2 _ _).cell (by omega) (fun x => x)).trans c1, Nat.lt_of_lt_of_le (by omega) (k2 _ _).size, k1.trans (k2 _ _)⟩

set_option maxHeartbeats 1000000 in
theorem word_ok (nm : ByteArray) (hi : Int) (q : Addr) (w : World) :
    Calls Tryd.prog 66 #[.string nm, .int .u64 hi, .pointer (some q)] w fun e w' => e = .returned (fieldV (.string nm) 0 hi 84 85 w.heap.size) ∧ w'.cell? ⟨w.heap.size, 0, none⟩ = some (.pointer (some q)) ∧ w.heap.size < w'.heap.size ∧ Keeps Nob w w' := by
  have hmf := mf_run
  go_enter Tryd.func66, Tryd.ntmps66
  go_wp2_with (refine wpList_store_row rfl 67 _ _ rfl (w.heap.size + 1) #[.string nm, .int .u64 0, .int .u64 hi, .func (.func 84) #[] #[.pointer (some ⟨w.heap.size, 0, none⟩)], .func (.func 85) #[] #[.pointer (some ⟨w.heap.size, 0, none⟩)]] rfl rfl 67 #[.string ⟨#[]⟩, .int .u64 0, .int .u64 0, .nilFunc, .nilFunc] (by rw [show w.heap.size + 1 = (w.alloc (.cells #[.pointer (some q)] 105)).heap.size by simp]; exact World.alloc_heap_new _ _) field_info rfl (by simp [Value.oneCell']) ?_)
  have k1 : Keeps Nob w (w.alloc (.cells #[.pointer (some q)] 105)) := (Keeps.refl _ _).alloc _
  have c1 : (w.alloc (.cells #[.pointer (some q)] 105)).cell? ⟨w.heap.size, 0, none⟩ = some (.pointer (some q)) := (World.cell?_alloc_at _ _ _ _ rfl).trans rfl
  have s1 : (w.alloc (.cells #[.pointer (some q)] 105)).heap.size = w.heap.size + 1 := by simp
  (try simp only [Exit.inBlock, Exit.then])
  refine bodyPost_ret (v := .agg #[.string nm, .int .u64 0, .int .u64 hi, .func (.func 84) #[] #[.pointer (some ⟨w.heap.size, 0, none⟩)], .func (.func 85) #[] #[.pointer (some ⟨w.heap.size, 0, none⟩)]]) ?_ rfl ?_
  · exact results_cell_row rfl _ _ (w.heap.size + 1) 67 #[.string nm, .int .u64 0, .int .u64 hi, .func (.func 84) #[] #[.pointer (some ⟨w.heap.size, 0, none⟩)], .func (.func 85) #[] #[.pointer (some ⟨w.heap.size, 0, none⟩)]] (0, 0) _ rfl (setRow_heap _ _ #[.string ⟨#[]⟩, .int .u64 0, .int .u64 0, .nilFunc, .nilFunc] _ _ _ (by rw [show w.heap.size + 1 = (w.alloc (.cells #[.pointer (some q)] 105)).heap.size by simp]; exact World.alloc_heap_new _ _)) Tryd.underlying67 rfl field_info
  have k2 : ∀ o cs, Keeps Nob (w.alloc (.cells #[.pointer (some q)] 105)) (((w.alloc (.cells #[.pointer (some q)] 105)).alloc o).setRow (w.heap.size + 1) cs) := fun o cs => ((Keeps.refl _ _).alloc _).setRow (fun x => absurd x (by omega)) cs
  exact ⟨rfl, ((k2 _ _).cell (by omega) (fun x => x)).trans c1, Nat.lt_of_lt_of_le (by omega) (k2 _ _).size, k1.trans (k2 _ _)⟩

end Go.Proofs.YtpflmldmbpnllaaDoor
