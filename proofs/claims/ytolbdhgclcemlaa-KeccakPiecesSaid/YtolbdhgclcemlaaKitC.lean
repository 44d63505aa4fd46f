/-
  The laws' own small functions over bytes: same, copied, written over. Conditions: none.
-/
import Derived.Test.YtolbdhgclcemlaaBytes
import Derived.Test.YtolbdhgclcemlaaRows
import Derived.Lib.Hide
import Derived.Laws.BitsAllLaws
import Derived.Deep.RegionHeld3
import Derived.Lib.SlBytesConst
namespace Go.Proofs.Ytolbdhgclcemlaa
open Go Go.RowKit Go.Own

theorem u8_info0 : (Try.prog.info? 5).map (fun i => (i.zero, i.size, i.bytes)) = some (some (.int .u8 0), 1, 1) := by kernel_rfl

set_option maxRecDepth 100000 in
set_option maxHeartbeats 1000000 in
theorem sameBytes_ok (a b : Value) (l m : List UInt8) (w : World) (ha : BytesAt w a l) (hb : BytesAt w b m) :
    Calls Try.prog 31 #[a, b] w fun e w' => e = .returned (.bool (l == m)) ∧ w = w' := by
  have h1 := ha.str (P := Try.prog) (src := 22) (dst := 9) (e := 5) Try.underlying22 Try.underlying5 Try.underlying9
  have h2 := hb.str (P := Try.prog) (src := 22) (dst := 9) (e := 5) Try.underlying22 Try.underlying5 Try.underlying9
  clear ha hb
  go_enter Try.func31, Try.ntmps31
  go_wp2_with fail
  go_ret
  exact ⟨rfl, rfl⟩

/-- The empty slice that a copy begins with. -/
theorem Row.empty (w : World) (t : TypeId) : Row (w.alloc (.cells #[] t)) t 1 (.slice (some ⟨w.heap.size, 0, none⟩) 0 0) 0 [] :=
  ⟨rfl, .inr ⟨_, _, _, rfl, Nat.zero_le _, heap_alloc_new _ _, Nat.le_refl _, by unfold maxLen; omega, rfl, rfl⟩⟩

set_option maxRecDepth 100000 in
set_option maxHeartbeats 1000000 in
theorem copyBytes_ok (a : Value) (l : List UInt8) (w : World) (ha : BytesAt w a l) (hl : l.length ≤ 100000000) :
    Calls Try.prog 18 #[a] w fun e w' => ∃ v, e = .returned v ∧ Row w' 5 1 v l.length (B l) ∧ (∀ j, v.ownBlock = some j → w.heap.size ≤ j) ∧ v ≠ .slice none 0 0 ∧ Keeps Nob w w' := by
  obtain ⟨i0, hi, hz0, hz1, hz2⟩ := info_parts u8_info0
  have hr := Row.empty w 5
  have hs := (ha.keepsN ((Keeps.refl Nob w).alloc (.cells #[] 5))).src
  have HA := Lib.hid ha
  clear ha
  go_enter Try.func18, Try.ntmps18
  go_wp2_with (at_builtin; refine own_append2 rfl _ _ 22 rfl 5 i0 (.int .u8 0) 1 1 Try.underlying22 hi hz0 hz1 hz2 rfl (by decide) (.slice (some ⟨w.heap.size, 0, none⟩) 0 0) 0 _ rfl hr a l.length (B l) rfl hs (by unfold maxLen; omega) (by omega) ?_; intro v' w1 hown' hgrow hnil hat; rw [Nat.zero_add, List.nil_append] at hown'; have H1 := Lib.hid hown'; have H2 := Lib.hid hnil; have H3 := Lib.hid hat; have H4 := Lib.hid hgrow; clear hown' hnil hat hgrow)
  go_ret
  refine ⟨_, rfl, H1.out, fun j hj => ?_, fun h => ?_, ((Keeps.refl Nob w).alloc _).grown H4.out (fun j hj hlt => by simp [Value.ownBlock] at hj; omega)⟩
  · rcases H3.out j hj with h | ⟨h, _⟩
    · simp [Value.ownBlock] at h; omega
    · simp at h; omega
  · have := (H2.out.1 h).1
    simp at this

theorem xor165 (c : UInt8) : bits .xor .u8 (c.toNat : Int) 165 = ((c ^^^ 165).toNat : Int) := by
  have h := u8_xor_nat c.toNat 165 c.toNat_lt (by decide)
  rw [UInt8.toNat_xor]
  exact h
theorem B_set (l : List UInt8) (k : Nat) (x : UInt8) : (B l).set k (.int .u8 (x.toNat : Int)) = B (l.set k x) := by simp [B, List.map_set]

set_option maxRecDepth 100000 in
set_option maxHeartbeats 4000000 in
/-- Bytes of one's own are written over. -/
theorem overBytes_ok (v : Value) (l : List UInt8) (w : World) (hv : Row w 5 1 v l.length (B l)) :
    Calls Try.prog 19 #[v] w fun e w' => (∃ r, e = .returned r) ∧ Keeps (fun j => v.ownBlock = some j) w w' := by
  obtain ⟨n, hn⟩ : ∃ n, l.length = n := ⟨_, rfl⟩
  have hcap : n ≤ 9223372036854775807 := by have := (Row.bytes hv).length_le; omega
  obtain ⟨A, cap, rfl⟩ := (Row.bytes hv).len
  rw [hn] at hv ⊢
  have HV := Lib.hid hv
  have HN := Lib.hid hn
  clear hv hn
  go_enter Try.func19, Try.ntmps19
  go_wp2_with fail
  go_loopw [2] (fun i V => ∃ k : Nat, k ≤ n ∧ i = .int .i64 k ∧ Hid (∃ l', l'.length = n ∧ Row V 5 1 (.slice A n cap) n (B l')) ∧ Keeps (fun j => (Value.slice A n cap).ownBlock = some j) w V) (fun i _ => n - (intOf i).toNat)
  case atStart => exact ⟨0, Nat.zero_le _, rfl, Lib.hid ⟨l, HN.out, HV.out⟩, Keeps.refl _ _⟩
  case round =>
    obtain ⟨k, hk, rfl, HL, hkp⟩ := hrel
    by_cases hlt : k < n
    · obtain ⟨l', hl', hr⟩ := HL.out
      obtain ⟨g, cap', hv, hg⟩ := hr.spell (by omega)
      simp only [Value.slice.injEq, true_and] at hv
      obtain ⟨rfl, rfl⟩ := hv
      obtain ⟨c, hc⟩ : ∃ c, l'[k]? = some c := ⟨_, List.getElem?_eq_getElem (by omega)⟩
      have c0 : wr.cell? ⟨g, k, none⟩ = some (.int .u8 (c.toNat : Int)) := (World.ownsRow.cellAt hr k (by omega)).trans (B_get _ _ _ hc)
      have f0 : wr.frozen? ⟨g, k, none⟩ = false := World.ownsRow.frozenAt hr k
      have HR := Lib.hid hr
      have HLL := Lib.hid hl'
      have hx := xor165 c
      clear hr hc hl'
      go_wp2_with fail
      go_roundw
      case rel =>
        refine ⟨k + 1, by omega, by go_num, Lib.hid ⟨l'.set k (c ^^^ 165), by simp [HLL.out], ?_⟩, hkp.trans ((Keeps.refl (fun j => (Value.slice (some ⟨g, 0, none⟩) n cap).ownBlock = some j) _).setCell (p := ⟨g, k, none⟩) (fun _ => rfl) _)⟩
        rw [← B_set, UInt8.toNat_xor]
        exact (World.ownsRow.stored HR.out k _).1
      case measure => simp [intOf]; omega
    · have hd : decide ((k : Int) < (n : Int)) = false := by simp; omega
      go_wp2_with fail
      go_end0
      exact ⟨⟨_, rfl⟩, hkp⟩
end Go.Proofs.Ytolbdhgclcemlaa
