/-
  The laws' own small functions over bytes. Conditions: none.
-/
import Derived.Test.YtmapcghgdbfmhaaBytes
import Derived.Test.YtmapcghgdbfmhaaRows
import Derived.Lib.Hide
import Derived.Laws.BitsAllLaws
import Derived.Deep.RegionHeld3
import Derived.Lib.SlBytesConst
namespace Go.Proofs.Ytmapcghgdbfmhaa
open Go Go.RowKit Go.Own

theorem u8_info0 : (Try.prog.info? 5).map (fun i => (i.zero, i.size, i.bytes)) = some (some (.int .u8 0), 1, 1) := by kernel_rfl

set_option maxRecDepth 100000 in
set_option maxHeartbeats 1000000 in
theorem sameBytes_ok (a b : Value) (l m : List UInt8) (w : World) (ha : BytesAt w a l) (hb : BytesAt w b m) :
    Calls Try.prog 16 #[a, b] w fun e w' => e = .returned (.bool (l == m)) ∧ w = w' := by
  have h1 := ha.str (P := Try.prog) (src := 22) (dst := 9) (e := 5) Try.underlying22 Try.underlying5 Try.underlying9
  have h2 := hb.str (P := Try.prog) (src := 22) (dst := 9) (e := 5) Try.underlying22 Try.underlying5 Try.underlying9
  clear ha hb
  go_enter Try.func16, Try.ntmps16
  go_wp2_with fail
  go_ret
  exact ⟨rfl, rfl⟩

/-- The empty slice that a copy begins with. -/
theorem Row.empty (w : World) (t : TypeId) : Row (w.alloc (.cells #[] t)) t 1 (.slice (some ⟨w.heap.size, 0, none⟩) 0 0) 0 [] :=
  ⟨rfl, .inr ⟨_, _, _, rfl, Nat.zero_le _, heap_alloc_new _ _, Nat.le_refl _, by unfold maxLen; omega, rfl, rfl⟩⟩

set_option maxRecDepth 100000 in
set_option maxHeartbeats 1000000 in
theorem copyBytes_ok (a : Value) (l : List UInt8) (w : World) (ha : BytesAt w a l) (hl : l.length ≤ 100000000) :
    Calls Try.prog 56 #[a] w fun e w' => ∃ v, e = .returned v ∧ Row w' 5 1 v l.length (B l) ∧ (∀ j, v.ownBlock = some j → w.heap.size ≤ j) ∧ v ≠ .slice none 0 0 ∧ Keeps Nob w w' := by
  obtain ⟨i0, hi, hz0, hz1, hz2⟩ := info_parts u8_info0
  have hr := Row.empty w 5
  have hs := (ha.keepsN ((Keeps.refl Nob w).alloc (.cells #[] 5))).src
  have HA := Lib.hid ha
  clear ha
  go_enter Try.func56, Try.ntmps56
  go_wp2_with (at_builtin; refine own_append2 rfl _ _ 22 rfl 5 i0 (.int .u8 0) 1 1 Try.underlying22 hi hz0 hz1 hz2 rfl (by decide) (.slice (some ⟨w.heap.size, 0, none⟩) 0 0) 0 _ rfl hr a l.length (B l) rfl hs (by unfold maxLen; omega) (by omega) ?_; intro v' w1 hown' hgrow hnil hat; rw [Nat.zero_add, List.nil_append] at hown'; have H1 := Lib.hid hown'; have H2 := Lib.hid hnil; have H3 := Lib.hid hat; have H4 := Lib.hid hgrow; clear hown' hnil hat hgrow)
  go_ret
  refine ⟨_, rfl, H1.out, fun j hj => ?_, fun h => ?_, ((Keeps.refl Nob w).alloc _).grown H4.out (fun j hj hlt => by simp [Value.ownBlock] at hj; omega)⟩
  · rcases H3.out j hj with h | ⟨h, _⟩
    · simp [Value.ownBlock] at h; omega
    · simp at h; omega
  · have := (H2.out.1 h).1
    simp at this

def lentTail : List UInt8 := [201, 202, 203, 204]
/-- Bytes with room behind them, in a block of their own. -/
def Lent (w : World) (v : Value) (l : List UInt8) : Prop :=
  ∃ g cap, v = .slice (some ⟨g, 0, none⟩) l.length cap ∧ Row w 5 1 (.slice (some ⟨g, 0, none⟩) (l.length + 4) cap) (l.length + 4) (B (l ++ lentTail))
theorem Lent.bytes {w : World} {v : Value} {l : List UInt8} (h : Lent w v l) : BytesAt w v l := by
  obtain ⟨g, cap, rfl, hr⟩ := h
  have hb : BytesAt w (.slice (some ⟨g, 0, none⟩) (l.length + 4) cap) (l ++ lentTail) := by
    refine Row.bytes (e := 5) ?_
    rw [show (l ++ lentTail).length = l.length + 4 by simp [lentTail]]; exact hr
  have := hb.take l.length (by simp) _ _ _ rfl
  rwa [List.take_left] at this
theorem Lent.keeps {M : Nat → Prop} {w w' : World} {v : Value} {l : List UInt8} (h : Lent w v l) (k : Keeps M w w') (hm : ∀ j, v.ownBlock = some j → ¬ M j) : Lent w' v l := by
  obtain ⟨g, cap, rfl, hr⟩ := h
  exact ⟨g, cap, rfl, hr.keeps k (fun j hj => hm j (by simpa [Value.ownBlock] using hj))⟩

set_option maxRecDepth 100000 in
set_option maxHeartbeats 1000000 in
theorem lentBytes_ok (a : Value) (l : List UInt8) (w : World) (ha : BytesAt w a l) (hl : l.length ≤ 100000000) :
    Calls Try.prog 10 #[a] w fun e w' => ∃ v, e = .returned v ∧ Lent w' v l ∧ (∀ j, v.ownBlock = some j → w.heap.size ≤ j) ∧ Keeps Nob w w' := by
  obtain ⟨i0, hi, hz0, hz1, hz2⟩ := info_parts u8_info0
  have hr := Row.empty w 5
  have hs := (ha.keepsN ((Keeps.refl Nob w).alloc (.cells #[] 5))).src
  obtain ⟨A, cap, rfl⟩ := ha.len
  have HA := Lib.hid ha
  clear ha
  go_enter Try.func10, Try.ntmps10
  go_wp2_with (first
    | (at_builtin; refine own_append2 rfl (.tmp 4) _ 22 rfl 5 i0 (.int .u8 0) 1 1 Try.underlying22 hi hz0 hz1 hz2 rfl (by decide) (.slice (some ⟨w.heap.size, 0, none⟩) 0 0) 0 _ rfl hr (.slice A l.length cap) l.length (B l) rfl hs (by unfold maxLen; omega) (by omega) ?_; intro v' w1 hown' hgrow hnil hat; rw [Nat.zero_add, List.nil_append] at hown'; have H1 := Lib.hid hown'; have H2 := Lib.hid hnil; have H3 := Lib.hid hat; have H4 := Lib.hid hgrow; clear hown' hnil hat hgrow)
    | (at_builtin; refine own_append2 rfl (.tmp 6) _ 22 rfl 5 i0 (.int .u8 0) 1 1 Try.underlying22 hi hz0 hz1 hz2 rfl (by decide) v' l.length (B l) rfl (H1.out.keeps ((Keeps.refl Nob w1).alloc _) (fun _ _ x => x)) (.slice (some ⟨w1.heap.size, 0, none⟩) 4 4) 4 (B lentTail) rfl (Src.new w1 1 4 (B lentTail) 5 rfl (B_one _) 4) (by unfold maxLen; omega) (by omega) ?_; intro v2 w2 hown' hgrow hnil hat; obtain ⟨g, cap2, rfl, hg⟩ := hown'.spell (by omega); obtain ⟨hc1, hc2⟩ := hown'.cap; have hc3 : cap2 ≠ 0 := (by omega); have J1 := Lib.hid hown'; have J3 := Lib.hid hat; have J4 := Lib.hid hgrow; clear hown' hnil hat hgrow))
  go_ret
  have k1 : Keeps Nob w w1 := ((Keeps.refl Nob w).alloc _).grown H4.out (fun j hj hlt => by simp [Value.ownBlock] at hj; omega)
  have hv' : ∀ j, v'.ownBlock = some j → w.heap.size ≤ j := fun j hj => by
    rcases H3.out j hj with h | ⟨h, _⟩
    · simp [Value.ownBlock] at h; omega
    · simp at h; omega
  refine ⟨_, rfl, ⟨g, cap2, rfl, ?_⟩, fun j hj => ?_, (k1.alloc _).grown J4.out (fun j hj hlt => by have := hv' j hj; omega)⟩
  · rw [B_append]; exact J1.out
  · have hs1 := k1.size
    rcases J3.out j (by simpa [Value.ownBlock] using hj) with h | ⟨h, _⟩
    · exact hv' j h
    · simp at h; omega

theorem tail_arr : ({ data := lentTail.toArray } : ByteArray) = ⟨#[201, 202, 203, 204]⟩ := rfl

set_option maxRecDepth 100000 in
set_option maxHeartbeats 4000000 in
theorem keptBytes_ok (a b : Value) (l : List UInt8) (w : World) (ha : Lent w a l) (hb : BytesAt w b l) (hl : l.length ≤ 100000000) :
    Calls Try.prog 13 #[a, b] w fun e w' => e = .returned (.bool true) ∧ Keeps Nob w w' := by
  have u1 := Try.underlying22
  have u2 := Try.underlying5
  have u3 := Try.underlying9
  have hab := ha.bytes
  obtain ⟨g, cap, rfl, hr⟩ := ha
  obtain ⟨hc1, hc2⟩ := hr.cap
  have hc3 : cap ≠ 0 := by omega
  have hne : cap ≠ l.length := by omega
  obtain ⟨A, cb, rfl⟩ := hb.len
  have hrb : BytesAt w (.slice (some ⟨g, 0, none⟩) (l.length + 4) cap) (l ++ lentTail) := Row.bytes (e := 5) (by
    rw [show (l ++ lentTail).length = l.length + 4 by simp [lentTail]]; exact hr)
  have htl : BytesAt w (.slice (some ⟨g, l.length, none⟩) 4 (cap - l.length)) lentTail := by
    have := hrb.drop l.length (by simp) _ _ _ rfl
    rw [List.drop_left] at this
    simpa [cutV, hne, Addr.add_lit] using this
  clear u1 u2 u3
  have HA := Lib.hid hab
  have HB := Lib.hid hb
  have HT := Lib.hid htl
  have CA := fun W (hk : Keeps Nob w W) => (HA.out.keepsN hk).str (P := Try.prog) (src := 22) (dst := 9) (e := 5) Try.underlying22 Try.underlying5 Try.underlying9
  have CB := fun W (hk : Keeps Nob w W) => (HB.out.keepsN hk).str (P := Try.prog) (src := 22) (dst := 9) (e := 5) Try.underlying22 Try.underlying5 Try.underlying9
  have CT := fun W (hk : Keeps Nob w W) => (HT.out.keepsN hk).str (P := Try.prog) (src := 22) (dst := 9) (e := 5) Try.underlying22 Try.underlying5 Try.underlying9
  clear hb hab htl hr hrb
  have CAH := Lib.hid CA
  have CBH := Lib.hid CB
  have CTH := Lib.hid CT
  clear CA CB CT
  have C4 := ((Row.newB w lentTail 5 (by decide)).bytes.keepsN ((Keeps.refl Nob _).drew)).str (P := Try.prog) (src := 22) (dst := 9) (e := 5) Try.underlying22 Try.underlying5 Try.underlying9
  have eB : (B lentTail).toArray = #[.int .u8 201, .int .u8 202, .int .u8 203, .int .u8 204] := rfl
  rw [eB, show lentTail.length = 4 from rfl] at C4
  clear eB
  have s1 : IntKind.i64.wrap ((l.length : Int) + 4) = (l.length : Int) + 4 := by rw [IntKind.wrap_i64]; omega
  have s2 : (0 : Int) ≤ (l.length : Int) + 4 := by omega
  have s3 : ((l.length : Int) + 4).toNat = l.length + 4 := by omega
  have s4 : decide ((l.length : Int) + 4 ≤ (cap : Int)) = true := by simp; omega
  have s5 : (l.length : Int) + 4 ≤ (cap : Int) := by omega
  have s6 : (l.length : Int) ≤ (l.length : Int) + 4 := by omega
  go_enter Try.func13, Try.ntmps13
  go_wp2_with fail
  have C1 := CAH.out _ ((Keeps.refl Nob w).drew)
  have C2 := CBH.out _ ((Keeps.refl Nob w).drew)
  have C3 := CTH.out _ ((Keeps.refl Nob w).drew)
  have D3 := CTH.out _ (((Keeps.refl Nob w).alloc (.cells #[.int .u8 201, .int .u8 202, .int .u8 203, .int .u8 204] 5)).drew)
  go_region
  all_goals
    go_wp2
    go_ret
    exact ⟨rfl, ((Keeps.refl _ _).alloc _).drew⟩

theorem xor165 (c : UInt8) : bits .xor .u8 (c.toNat : Int) 165 = ((c ^^^ 165).toNat : Int) := by
  have h := u8_xor_nat c.toNat 165 c.toNat_lt (by decide)
  rw [UInt8.toNat_xor]
  exact h
theorem B_set (l : List UInt8) (k : Nat) (x : UInt8) : (B l).set k (.int .u8 (x.toNat : Int)) = B (l.set k x) := by simp [B, List.map_set]

set_option maxRecDepth 100000 in
set_option maxHeartbeats 4000000 in
/-- Bytes of one's own are written over. -/
theorem overBytes_ok (v : Value) (l : List UInt8) (w : World) (hv : Row w 5 1 v l.length (B l)) :
    Calls Try.prog 19 #[v] w fun e w' => (∃ r, e = .returned r) ∧ Keeps (fun j => v.ownBlock = some j) w w' := by
  obtain ⟨n, hn⟩ : ∃ n, l.length = n := ⟨_, rfl⟩
  have hcap : n ≤ 9223372036854775807 := by have := (Row.bytes hv).length_le; omega
  obtain ⟨A, cap, rfl⟩ := (Row.bytes hv).len
  rw [hn] at hv ⊢
  have HV := Lib.hid hv
  have HN := Lib.hid hn
  clear hv hn
  go_enter Try.func19, Try.ntmps19
  go_wp2_with fail
  go_loopw [2] (fun i V => ∃ k : Nat, k ≤ n ∧ i = .int .i64 k ∧ Hid (∃ l', l'.length = n ∧ Row V 5 1 (.slice A n cap) n (B l')) ∧ Keeps (fun j => (Value.slice A n cap).ownBlock = some j) w V) (fun i _ => n - (intOf i).toNat)
  case atStart => exact ⟨0, Nat.zero_le _, rfl, Lib.hid ⟨l, HN.out, HV.out⟩, Keeps.refl _ _⟩
  case round =>
    obtain ⟨k, hk, rfl, HL, hkp⟩ := hrel
    by_cases hlt : k < n
    · obtain ⟨l', hl', hr⟩ := HL.out
      obtain ⟨g, cap', hv, hg⟩ := hr.spell (by omega)
      simp only [Value.slice.injEq, true_and] at hv
      obtain ⟨rfl, rfl⟩ := hv
      obtain ⟨c, hc⟩ : ∃ c, l'[k]? = some c := ⟨_, List.getElem?_eq_getElem (by omega)⟩
      have c0 : wr.cell? ⟨g, k, none⟩ = some (.int .u8 (c.toNat : Int)) := (World.ownsRow.cellAt hr k (by omega)).trans (B_get _ _ _ hc)
      have f0 : wr.frozen? ⟨g, k, none⟩ = false := World.ownsRow.frozenAt hr k
      have HR := Lib.hid hr
      have HLL := Lib.hid hl'
      have hx := xor165 c
      clear hr hc hl'
      go_wp2_with fail
      go_roundw
      case rel =>
        refine ⟨k + 1, by omega, by go_num, Lib.hid ⟨l'.set k (c ^^^ 165), by simp [HLL.out], ?_⟩, hkp.trans ((Keeps.refl (fun j => (Value.slice (some ⟨g, 0, none⟩) n cap).ownBlock = some j) _).setCell (p := ⟨g, k, none⟩) (fun _ => rfl) _)⟩
        rw [← B_set, UInt8.toNat_xor]
        exact (World.ownsRow.stored HR.out k _).1
      case measure => simp [intOf]; omega
    · have hd : decide ((k : Int) < (n : Int)) = false := by simp; omega
      go_wp2_with fail
      go_end0
      exact ⟨⟨_, rfl⟩, hkp⟩
end Go.Proofs.Ytmapcghgdbfmhaa
