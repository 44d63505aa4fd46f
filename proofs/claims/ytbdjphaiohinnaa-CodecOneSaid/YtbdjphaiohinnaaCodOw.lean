/-
  Codec: the walk of CodecOne. Conditions: none.
-/
import Derived.Test.YtbdjphaiohinnaaCodSp
import Derived.Test.YtbdjphaiohinnaaCodKn
import Derived.Test.YtbdjphaiohinnaaCodPl
import Derived.Test.YtbdjphaiohinnaaPickOk
namespace Go.Proofs.Ytbdjphaiohinnaa
open Go Go.RowKit Go.Own Go.Shelf

set_option maxRecDepth 100000 in
set_option maxHeartbeats 1000000 in
theorem faulty_ok (F : Nat → Prop) (b : Nat) (l : List UInt8) (s : RS) (w : World) (h : Rd w F b l s) (hp : s.err = 0 → 0 ≤ s.pos ∧ s.pos ≤ l.length) (hll : l.length ≤ 100000000) :
    Calls Try.prog 47 #[.pointer (some ⟨b, 0, none⟩)] w fun e w' => e = .returned (.bool (decide (s.err ≠ 0))) ∧ Keeps Nob w w' := by
  have HE := Lib.hid (fun W (hk : Keeps Nob w W) => (h.keepsN hk).fin)
  have HL := Lib.hid (fun W (hk : Keeps Nob w W) => (h.keepsN hk).left)
  clear h
  by_cases h0 : s.err = 0
  · have hp := hp h0
    have hr : decide (s.err ≠ 0) = false := by simp [h0]
    rw [hr]
    by_cases h1 : s.pos < l.length
    · have e1 : s.fin l = (4, s.pos) := by unfold RS.fin; rw [if_pos h0, if_pos h1]
      have e2 : s.left l = (l.length : Int) - s.pos := by unfold RS.left; rw [if_pos h0]
      rw [e1] at HE
      rw [e2] at HL
      have hd : decide ((0 : Int) < (l.length : Int) - s.pos) = true := by simp; omega
      clear e1 e2 h0 hp hr
      go_enter Try.func47, Try.ntmps47
      go_wp2_with (first
        | (go_at_call 27; refine (HE.out _ (Keeps.refl _ _)).mono ?_; rintro e w1 ⟨rfl, hk⟩; have K1 := Lib.hid hk; clear hk)
        | (go_at_call 25; refine (HL.out _ (K1.out.alloc _)).mono ?_; rintro e w2 ⟨rfl, n2, rfl⟩))
      go_ret
      exact ⟨rfl, (K1.out.alloc _).drewN _⟩
    · have e1 : s.fin l = (0, 0) := by unfold RS.fin; rw [if_pos h0, if_neg h1]
      rw [e1] at HE
      clear e1 h0 hp hr
      go_enter Try.func47, Try.ntmps47
      go_wp2_with (go_at_call 27; refine (HE.out _ (Keeps.refl _ _)).mono ?_; rintro e w1 ⟨rfl, hk⟩; have K1 := Lib.hid hk; clear hk)
      go_ret
      exact ⟨rfl, K1.out.alloc _⟩
  · have hr : decide (s.err ≠ 0) = true := by simp [h0]
    rw [hr]
    have e1 : s.fin l = (s.err, s.pos) := by unfold RS.fin; rw [if_neg h0]
    have e2 : s.left l = 0 := by unfold RS.left; rw [if_neg h0]
    rw [e1] at HE
    rw [e2] at HL
    have d0 : (s.err != 0) = true := by simpa using h0
    clear e1 e2 hr
    by_cases h4 : s.err = 4
    · rw [h4] at HE
      clear h0 h4 d0
      go_enter Try.func47, Try.ntmps47
      go_wp2_with (first
        | (go_at_call 27; refine (HE.out _ (Keeps.refl _ _)).mono ?_; rintro e w1 ⟨rfl, hk⟩; have K1 := Lib.hid hk; clear hk)
        | (go_at_call 25; refine (HL.out _ (K1.out.alloc _)).mono ?_; rintro e w2 ⟨rfl, n2, rfl⟩))
      go_ret
      exact ⟨rfl, (K1.out.alloc _).drewN _⟩
    · have d4 : (s.err == 4) = false := by simpa using h4
      clear h0 h4
      go_enter Try.func47, Try.ntmps47
      go_wp2_with (first
        | (go_at_call 27; refine (HE.out _ (Keeps.refl _ _)).mono ?_; rintro e w1 ⟨rfl, hk⟩; have K1 := Lib.hid hk; clear hk))
      go_ret
      exact ⟨rfl, K1.out.alloc _⟩

/-- One thing read, and written again: it is what was read. -/
theorem one_u (l : List UInt8) (p : Nat) (hp : p ≤ l.length) :
    ((rdU l ⟨0, (p : Int)⟩).2.err ≠ 0 ∧ (rdU l ⟨0, (p : Int)⟩).2.pos = p) ∨
    ∃ (n q : Nat), n < 2 ^ 64 ∧ p ≤ q ∧ q ≤ l.length ∧ rdU l ⟨0, (p : Int)⟩ = ((n : Int), ⟨0, (q : Int)⟩) ∧ l.take q = l.take p ++ Cod.enc n := by
  have e0 : (⟨0, (p : Int)⟩ : RS).num l = Cod.num (l.drop p) := by unfold RS.num; rw [Int.toNat_natCast]
  have hok := Cod.num_ok (l.drop p)
  unfold rdU RS.read
  rw [e0]
  generalize Cod.num (l.drop p) = r at *
  obtain ⟨n, k, er⟩ := r
  simp only at hok ⊢
  by_cases he : er = 0
  · obtain ⟨h1, h2, h3, h4, h5⟩ := hok he
    rw [List.length_drop] at h3
    refine .inr ⟨n, p + k, h1, by omega, by omega, ?_, ?_⟩
    · simp [he]
    · rw [List.take_add, h5]
  · left; simp [he]
theorem one_h (l : List UInt8) (p : Nat) (hp : p ≤ l.length) :
    ((rdH l ⟨0, (p : Int)⟩).2.err ≠ 0 ∧ (rdH l ⟨0, (p : Int)⟩).2.pos = p) ∨
    ∃ (h : List UInt8) (q : Nat), h.length = 32 ∧ p ≤ q ∧ q ≤ l.length ∧ rdH l ⟨0, (p : Int)⟩ = (h, ⟨0, (q : Int)⟩) ∧ l.take q = l.take p ++ h := by
  have hr := rest_at l p
  unfold rdH RS.read
  rw [hr]
  by_cases hl : (l.drop p).length < 32
  · have e1 : hashErr (l.drop p) = 6 := if_pos hl
    rw [e1]; left; simp
  · have e1 : hashErr (l.drop p) = 0 := if_neg hl
    have e2 : hashLen (l.drop p) = 32 := if_neg hl
    have e3 : hashOf (l.drop p) = (l.drop p).take 32 := if_neg hl
    rw [e1, e2, e3]
    rw [List.length_drop] at hl
    refine .inr ⟨(l.drop p).take 32, p + 32, by rw [List.length_take, List.length_drop]; omega, by omega, by omega, by simp, by rw [List.take_add]⟩
theorem one_b (l : List UInt8) (p : Nat) (most : Int) (hp : p ≤ l.length) :
    ((rdB l ⟨0, (p : Int)⟩ most).2.err ≠ 0 ∧ (rdB l ⟨0, (p : Int)⟩ most).2.pos = p) ∨
    ∃ (x : List UInt8) (q : Nat), p ≤ q ∧ q ≤ l.length ∧ rdB l ⟨0, (p : Int)⟩ most = (x, ⟨0, (q : Int)⟩) ∧ l.take q = l.take p ++ (Cod.enc x.length ++ x) := by
  have e0 : (⟨0, (p : Int)⟩ : RS).num l = Cod.num (l.drop p) := by unfold RS.num; rw [Int.toNat_natCast]
  have hr := rest_at l p
  have hok := Cod.num_ok (l.drop p)
  have hz := fun h => errB_zero (r := Cod.num (l.drop p)) (rest := l.drop p) (most := most) h
  unfold rdB RS.read
  rw [e0, hr]
  by_cases he : errB (Cod.num (l.drop p)) (l.drop p) most = 0
  · obtain ⟨h0, h1, h2, h3⟩ := hz he
    obtain ⟨g1, g2, g3, g4, g5⟩ := hok h0
    have e2 : lenB (Cod.num (l.drop p)) (l.drop p) most = (Cod.num (l.drop p)).2.1 + (Cod.num (l.drop p)).1 := by unfold lenB; rw [if_pos he]
    rw [he, e2]
    generalize hrr : Cod.num (l.drop p) = r at *
    obtain ⟨n, k, er⟩ := r
    simp only at h0 h1 h2 h3 g1 g2 g3 g5 ⊢
    rw [List.length_drop] at h3 g3
    have hbl : (bytesB (n, k, er) (l.drop p)).length = n := by unfold bytesB; simp [List.length_take, List.length_drop]; omega
    refine .inr ⟨bytesB (n, k, er) (l.drop p), p + (k + n), by omega, by omega, by simp, ?_⟩
    rw [hbl, List.take_add, List.take_add, g5]
    rfl
  · left; simp [he]
end Go.Proofs.Ytbdjphaiohinnaa
