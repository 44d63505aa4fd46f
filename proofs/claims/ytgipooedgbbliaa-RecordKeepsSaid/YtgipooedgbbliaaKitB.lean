/-
  The laws' own small functions over bytes. Conditions: none.
-/
import Derived.Test.YtgipooedgbbliaaBytes
import Derived.Test.YtgipooedgbbliaaRows
import Derived.Lib.Hide
import Derived.Laws.BitsAllLaws
import Derived.Deep.RegionHeld3
import Derived.Lib.SlBytesConst
namespace Go.Proofs.Ytgipooedgbbliaa
open Go Go.RowKit Go.Own

theorem u8_info0 : (Try.prog.info? 5).map (fun i => (i.zero, i.size, i.bytes)) = some (some (.int .u8 0), 1, 1) := by kernel_rfl

/-- The empty slice that a copy begins with. -/
theorem Row.empty (w : World) (t : TypeId) : Row (w.alloc (.cells #[] t)) t 1 (.slice (some ⟨w.heap.size, 0, none⟩) 0 0) 0 [] :=
  ⟨rfl, .inr ⟨_, _, _, rfl, Nat.zero_le _, heap_alloc_new _ _, Nat.le_refl _, by unfold maxLen; omega, rfl, rfl⟩⟩

def lentTail : List UInt8 := [201, 202, 203, 204]
/-- Bytes with room behind them, in a block of their own. -/
def Lent (w : World) (v : Value) (l : List UInt8) : Prop :=
  ∃ g cap, v = .slice (some ⟨g, 0, none⟩) l.length cap ∧ Row w 5 1 (.slice (some ⟨g, 0, none⟩) (l.length + 4) cap) (l.length + 4) (B (l ++ lentTail))
theorem Lent.bytes {w : World} {v : Value} {l : List UInt8} (h : Lent w v l) : BytesAt w v l := by
  obtain ⟨g, cap, rfl, hr⟩ := h
  have hb : BytesAt w (.slice (some ⟨g, 0, none⟩) (l.length + 4) cap) (l ++ lentTail) := by
    refine Row.bytes (e := 5) ?_
    rw [show (l ++ lentTail).length = l.length + 4 by simp [lentTail]]; exact hr
  have := hb.take l.length (by simp) _ _ _ rfl
  rwa [List.take_left] at this
theorem Lent.keeps {M : Nat → Prop} {w w' : World} {v : Value} {l : List UInt8} (h : Lent w v l) (k : Keeps M w w') (hm : ∀ j, v.ownBlock = some j → ¬ M j) : Lent w' v l := by
  obtain ⟨g, cap, rfl, hr⟩ := h
  exact ⟨g, cap, rfl, hr.keeps k (fun j hj => hm j (by simpa [Value.ownBlock] using hj))⟩

theorem tail_arr : ({ data := lentTail.toArray } : ByteArray) = ⟨#[201, 202, 203, 204]⟩ := rfl

theorem xor165 (c : UInt8) : bits .xor .u8 (c.toNat : Int) 165 = ((c ^^^ 165).toNat : Int) := by
  have h := u8_xor_nat c.toNat 165 c.toNat_lt (by decide)
  rw [UInt8.toNat_xor]
  exact h
theorem B_set (l : List UInt8) (k : Nat) (x : UInt8) : (B l).set k (.int .u8 (x.toNat : Int)) = B (l.set k x) := by simp [B, List.map_set]

end Go.Proofs.Ytgipooedgbbliaa
