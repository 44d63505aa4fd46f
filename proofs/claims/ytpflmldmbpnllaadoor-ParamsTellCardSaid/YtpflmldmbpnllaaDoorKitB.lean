/-
  The laws' own small functions over bytes. Conditions: none.
-/
import Derived.Test.YtpflmldmbpnllaaDoorBytes
import Derived.Test.YtpflmldmbpnllaaDoorRows
import Derived.Lib.Hide
import Derived.Laws.BitsAllLaws
import Derived.Deep.RegionHeld3
import Derived.Lib.SlBytesConst
namespace Go.Proofs.YtpflmldmbpnllaaDoor
open Go Go.RowKit Go.Own

theorem u8_info0 : (Tryd.prog.info? 5).map (fun i => (i.zero, i.size, i.bytes)) = some (some (.int .u8 0), 1, 1) := by kernel_rfl

set_option maxRecDepth 100000 in
set_option maxHeartbeats 1000000 in
theorem sameBytes_ok (a b : Value) (l m : List UInt8) (w : World) (ha : BytesAt w a l) (hb : BytesAt w b m) :
    Calls Tryd.prog 25 #[a, b] w fun e w' => e = .returned (.bool (l == m)) ∧ w = w' := by
  have h1 := ha.str (P := Tryd.prog) (src := 39) (dst := 9) (e := 5) Tryd.underlying39 Tryd.underlying5 Tryd.underlying9
  have h2 := hb.str (P := Tryd.prog) (src := 39) (dst := 9) (e := 5) Tryd.underlying39 Tryd.underlying5 Tryd.underlying9
  clear ha hb
  go_enter Tryd.func25, Tryd.ntmps25
  go_wp2_with fail
  go_ret
  exact ⟨rfl, rfl⟩

/-- The empty slice that a copy begins with. -/
theorem Row.empty (w : World) (t : TypeId) : Row (w.alloc (.cells #[] t)) t 1 (.slice (some ⟨w.heap.size, 0, none⟩) 0 0) 0 [] :=
  ⟨rfl, .inr ⟨_, _, _, rfl, Nat.zero_le _, heap_alloc_new _ _, Nat.le_refl _, by unfold maxLen; omega, rfl, rfl⟩⟩

set_option maxRecDepth 100000 in
set_option maxHeartbeats 1000000 in
theorem copyBytes_ok (a : Value) (l : List UInt8) (w : World) (ha : BytesAt w a l) (hl : l.length ≤ 100000000) :
    Calls Tryd.prog 28 #[a] w fun e w' => ∃ v, e = .returned v ∧ Row w' 5 1 v l.length (B l) ∧ (∀ j, v.ownBlock = some j → w.heap.size ≤ j) ∧ v ≠ .slice none 0 0 ∧ Keeps Nob w w' := by
  obtain ⟨i0, hi, hz0, hz1, hz2⟩ := info_parts u8_info0
  have hr := Row.empty w 5
  have hs := (ha.keepsN ((Keeps.refl Nob w).alloc (.cells #[] 5))).src
  have HA := Lib.hid ha
  clear ha
  go_enter Tryd.func28, Tryd.ntmps28
  go_wp2_with (at_builtin; refine own_append2 rfl _ _ 39 rfl 5 i0 (.int .u8 0) 1 1 Tryd.underlying39 hi hz0 hz1 hz2 rfl (by decide) (.slice (some ⟨w.heap.size, 0, none⟩) 0 0) 0 _ rfl hr a l.length (B l) rfl hs (by unfold maxLen; omega) (by omega) ?_; intro v' w1 hown' hgrow hnil hat; rw [Nat.zero_add, List.nil_append] at hown'; have H1 := Lib.hid hown'; have H2 := Lib.hid hnil; have H3 := Lib.hid hat; have H4 := Lib.hid hgrow; clear hown' hnil hat hgrow)
  go_ret
  refine ⟨_, rfl, H1.out, fun j hj => ?_, fun h => ?_, ((Keeps.refl Nob w).alloc _).grown H4.out (fun j hj hlt => by simp [Value.ownBlock] at hj; omega)⟩
  · rcases H3.out j hj with h | ⟨h, _⟩
    · simp [Value.ownBlock] at h; omega
    · simp at h; omega
  · have := (H2.out.1 h).1
    simp at this

def lentTail : List UInt8 := [201, 202, 203, 204]
/-- Bytes with room behind them, in a block of their own. -/
def Lent (w : World) (v : Value) (l : List UInt8) : Prop :=
  ∃ g cap, v = .slice (some ⟨g, 0, none⟩) l.length cap ∧ Row w 5 1 (.slice (some ⟨g, 0, none⟩) (l.length + 4) cap) (l.length + 4) (B (l ++ lentTail))
theorem Lent.bytes {w : World} {v : Value} {l : List UInt8} (h : Lent w v l) : BytesAt w v l := by
  obtain ⟨g, cap, rfl, hr⟩ := h
  have hb : BytesAt w (.slice (some ⟨g, 0, none⟩) (l.length + 4) cap) (l ++ lentTail) := by
    refine Row.bytes (e := 5) ?_
    rw [show (l ++ lentTail).length = l.length + 4 by simp [lentTail]]; exact hr
  have := hb.take l.length (by simp) _ _ _ rfl
  rwa [List.take_left] at this
theorem Lent.keeps {M : Nat → Prop} {w w' : World} {v : Value} {l : List UInt8} (h : Lent w v l) (k : Keeps M w w') (hm : ∀ j, v.ownBlock = some j → ¬ M j) : Lent w' v l := by
  obtain ⟨g, cap, rfl, hr⟩ := h
  exact ⟨g, cap, rfl, hr.keeps k (fun j hj => hm j (by simpa [Value.ownBlock] using hj))⟩

theorem tail_arr : ({ data := lentTail.toArray } : ByteArray) = ⟨#[201, 202, 203, 204]⟩ := rfl

theorem xor165 (c : UInt8) : bits .xor .u8 (c.toNat : Int) 165 = ((c ^^^ 165).toNat : Int) := by
  have h := u8_xor_nat c.toNat 165 c.toNat_lt (by decide)
  rw [UInt8.toNat_xor]
  exact h
theorem B_set (l : List UInt8) (k : Nat) (x : UInt8) : (B l).set k (.int .u8 (x.toNat : Int)) = B (l.set k x) := by simp [B, List.map_set]

end Go.Proofs.YtpflmldmbpnllaaDoor
