/-
  Codec: the document's reader: blobs. Conditions: none.
-/
import Derived.Test.YtbdjphaiohinnaaCodT
namespace Go.Proofs.Ytbdjphaiohinnaa
open Go Go.RowKit Go.Own Go.Shelf

def BlPost (b : Nat) (v : Value) (l : List UInt8) (r : List UInt8 × RS) (w : World) (e : Ending) (w' : World) : Prop :=
  ∃ X, e = .returned X ∧ (Row w' 5 1 X r.1.length (B r.1) ∧ ∀ j, X.ownBlock = some j → w.heap.size ≤ j) ∧ RrAt w' b v l r.2 ∧ Keeps (One b) w w'
theorem Row.nil (w : World) (t : TypeId) : Row w t 1 (.slice none 0 0) ([] : List UInt8).length (B []) := ⟨rfl, .inl ⟨rfl, rfl⟩⟩

set_option maxRecDepth 100000 in
set_option maxHeartbeats 8000000 in
theorem rrBlob_ok (b : Nat) (v : Value) (l : List UInt8) (s : RS) (most : Int) (w : World) (h : RrAt w b v l s) (hll : l.length ≤ 100000000)
   (m1 : -9223372036854775808 ≤ most ∧ most ≤ 9223372036854775807) :
    Calls Try.prog 55 #[.pointer (some ⟨b, 0, none⟩), .int .i64 most] w (BlPost b v l (rdB l s most) w) := by
  have HU := Lib.hid (rrU_ok b v l s w h)
  obtain ⟨at_, hl, c1, hp⟩ := h.c1
  have key := rdB_spec l s most h.pos
  obtain ⟨m1a, m1b⟩ := m1
  rcases key with ⟨h1, h2⟩ | ⟨n, p, hn, h0, h1, hp0, hpl, key⟩
  · rw [h2]
    clear h h2 hp
    obtain ⟨⟨nv, s1⟩, hr⟩ : ∃ r, rdU l s = r := ⟨_, rfl⟩
    rw [hr] at HU h1 ⊢
    simp only at HU h1 ⊢
    have d0 : (s1.err == 0) = false := by simpa using h1
    have d1 : (s1.err != 0) = true := by simpa using h1
    clear hr h1
    go_enter Try.func55, Try.ntmps55
    go_wp2_with (go_at_call 52; refine HU.out.mono ?_; rintro e w1 ⟨rfl, hR, hK⟩; have q2 := hR.c2; have HR1 := Lib.hid hR; have HK1 := Lib.hid hK; clear hR hK)
    go_ret
    exact ⟨_, rfl, ⟨Row.nil _ _, fun j hj => by cases hj⟩, HR1.out, HK1.out⟩
  · have hp := hp h0
    rw [h1] at HU
    simp only at HU
    have HS : Hid (s.pos = at_) := Lib.hid hp
    rcases key with ⟨ho, h2⟩ | ⟨ho, h2⟩
    · rw [h2]
      have e1 : (⟨0, p⟩ : RS).fail 4 (at_ : Int) = ⟨4, (at_ : Int)⟩ := by unfold RS.fail; simp
      have HF := Lib.hid (fun W h => rrFail_ok b v l ⟨0, p⟩ 4 (at_ : Int) W h)
      rw [e1] at HF
      have key : most < 0 ∨ (0 ≤ most ∧ most < (n : Int)) := by omega
      clear ho e1 h h1 h2 hp h0
      rcases key with a1 | ⟨a1, a2⟩
      · have d1 : decide (most < 0) = true := by simpa using a1
        go_enter Try.func55, Try.ntmps55
        go_wp2_with (first
          | (go_at_call 52; refine HU.out.mono ?_; rintro e w1 ⟨rfl, hR, hK⟩; have q2 := hR.c2; have HR1 := Lib.hid hR; have HK1 := Lib.hid hK; clear hR hK; simp only at q2)
          | (go_at_call 56; refine (HF.out w1 HR1.out).mono ?_; rintro e w2 ⟨⟨r, rfl⟩, hR, hK⟩; have q3 := hR.c2; have HR2 := Lib.hid hR; have HK2 := Lib.hid hK; clear hR hK; simp only at q3))
        go_ret
        exact ⟨_, rfl, ⟨Row.nil _ _, fun j hj => by cases hj⟩, by rw [HS.out]; exact HR2.out, HK1.out.trans HK2.out⟩
      · have d1 : decide (0 ≤ most) = true := by simpa using a1
        have d2 : decide (most < (n : Int)) = true := by simpa using a2
        have d3 : decide (most < 0) = false := by simpa using a1
        have w1' : IntKind.u64.wrap most = most := by simp [IntKind.wrap, IntKind.bits, IntKind.signed]; omega
        go_enter Try.func55, Try.ntmps55
        go_wp2_with (first
          | (go_at_call 52; refine HU.out.mono ?_; rintro e w1 ⟨rfl, hR, hK⟩; have q2 := hR.c2; have HR1 := Lib.hid hR; have HK1 := Lib.hid hK; clear hR hK; simp only at q2)
          | (go_at_call 56; refine (HF.out w1 HR1.out).mono ?_; rintro e w2 ⟨⟨r, rfl⟩, hR, hK⟩; have q3 := hR.c2; have HR2 := Lib.hid hR; have HK2 := Lib.hid hK; clear hR hK; simp only at q3))
        go_ret
        exact ⟨_, rfl, ⟨Row.nil _ _, fun j hj => by cases hj⟩, by rw [HS.out]; exact HR2.out, HK1.out.trans HK2.out⟩
    · rw [h2]
      have a1 : 0 ≤ most := by omega
      have a2 : (n : Int) ≤ most := by omega
      have d1 : decide (0 ≤ most) = true := by simpa using a1
      have d2 : decide (most < (n : Int)) = false := by simpa using a2
      have d3 : decide (most < 0) = false := by simpa using a1
      have w1' : IntKind.u64.wrap most = most := by simp [IntKind.wrap, IntKind.bits, IntKind.signed]; omega
      have w3' : wrap64 (n : Int) = (n : Int) := IntWalk.wrap64_in (n : Int) ⟨by omega, by omega⟩
      have HT := Lib.hid (fun W h => rrTake_ok b v l ⟨0, p⟩ n (at_ : Int) W h (by omega) hll)
      rw [hp]
      generalize rTk l ⟨0, p⟩ n (at_ : Int) = r at *
      obtain ⟨ob, s2⟩ := r
      clear ho h h1 h2 hp h0 HS
      go_enter Try.func55, Try.ntmps55
      go_wp2_with (first
        | (go_at_call 52; refine HU.out.mono ?_; rintro e w1 ⟨rfl, hR, hK⟩; have q2 := hR.c2; have HR1 := Lib.hid hR; have HK1 := Lib.hid hK; clear hR hK; simp only at q2)
        | (go_at_call 70; refine (HT.out w1 HR1.out).mono ?_; rintro e w2 ⟨X, rfl, hX, hR, hK⟩; have HX := Lib.hid hX; have HR2 := Lib.hid hR; have HK2 := Lib.hid hK; clear hX hR hK))
      go_ret
      refine ⟨_, rfl, ?_, HR2.out, HK1.out.trans HK2.out⟩
      have hX := HX.out
      cases ob with
      | none =>
        obtain rfl : X = .slice none 0 0 := hX
        exact ⟨Row.nil _ _, fun j hj => by cases hj⟩
      | some bs => exact ⟨hX.1, fun j hj => Nat.le_trans HK1.out.size (hX.2.1 j hj)⟩
end Go.Proofs.Ytbdjphaiohinnaa
