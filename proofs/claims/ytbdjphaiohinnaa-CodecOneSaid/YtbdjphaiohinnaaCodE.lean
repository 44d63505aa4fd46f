/-
  Codec: the number that stands at a place. Conditions: none.
-/
import Derived.Test.YtbdjphaiohinnaaCodD
namespace Go.Proofs.Ytbdjphaiohinnaa
open Go Go.RowKit Go.Own Go.Shelf

/-- What Get tells: a number, the place behind it, an error, its place. -/
def getAt (l : List UInt8) (at_ : Int) : Nat × Int × Int × Int :=
  if at_ < 0 ∨ (l.length : Int) < at_ then (0, 0, 3, 0)
  else if (Cod.num (l.drop at_.toNat)).2.2 = 0 then ((Cod.num (l.drop at_.toNat)).1, at_ + ((Cod.num (l.drop at_.toNat)).2.1 : Int), 0, 0) else (0, 0, (Cod.num (l.drop at_.toNat)).2.2, at_)
theorem getAt_out (l : List UInt8) (at_ : Int) (h : at_ < 0 ∨ (l.length : Int) < at_) : getAt l at_ = (0, 0, 3, 0) := by unfold getAt; rw [if_pos h]
theorem getAt_ok (l : List UInt8) (k : Nat) (h : k ≤ l.length) (he : (Cod.num (l.drop k)).2.2 = 0) : getAt l k = ((Cod.num (l.drop k)).1, (k : Int) + ((Cod.num (l.drop k)).2.1 : Int), 0, 0) := by
  unfold getAt; rw [if_neg (by omega), Int.toNat_natCast, if_pos he]
theorem getAt_bad (l : List UInt8) (k : Nat) (h : k ≤ l.length) (he : (Cod.num (l.drop k)).2.2 ≠ 0) : getAt l k = (0, 0, (Cod.num (l.drop k)).2.2, (k : Int)) := by
  unfold getAt; rw [if_neg (by omega), Int.toNat_natCast, if_neg he]
/-- Its four answers as Go's three. -/
def getV (r : Nat × Int × Int × Int) : Value := .tuple #[.int .u64 (r.1 : Int), .int .i64 r.2.1, .agg #[.int .i64 r.2.2.1, .int .i64 r.2.2.2]]

theorem bytes_size : ∀ w, (Go.sizeOf (Try.prog.elem 23)).run Try.prog w = .ok 1 w := fun w => by kernel_rfl

set_option maxRecDepth 100000 in
set_option maxHeartbeats 4000000 in
theorem cGet_ok (v : Value) (l : List UInt8) (at_ : Int) (w : World) (hv : BytesAt w v l) :
    Calls Try.prog 13 #[v, .int .i64 at_] w fun e w' => e = .returned (getV (getAt l at_)) ∧ Keeps Nob w w' := by
  have hlen := hv.length_le
  obtain ⟨A, cap, rfl, hlc, hcm, _⟩ := hv.form
  by_cases h1 : at_ < 0
  · rw [getAt_out _ _ (.inl h1)]
    go_enter Try.func13, Try.ntmps13
    go_wp2
    refine bodyPost_ret (v := getV (0, 0, 3, 0)) (by simp [results, Try.results13, go_sem, getV]) rfl ⟨rfl, ?_⟩
    exact (Keeps.refl _ _).alloc _
  · have h1d : decide (at_ < 0) = false := by simpa using h1
    by_cases h2 : (l.length : Int) < at_
    · rw [getAt_out _ _ (.inr h2)]
      go_enter Try.func13, Try.ntmps13
      go_wp2
      refine bodyPost_ret (v := getV (0, 0, 3, 0)) (by simp [results, Try.results13, go_sem, getV]) rfl ⟨rfl, ?_⟩
      exact (Keeps.refl _ _).alloc _
    · obtain ⟨k, rfl⟩ : ∃ k : Nat, at_ = k := ⟨at_.toNat, by omega⟩
      have hkl : k ≤ l.length := by omega
      have HD := Lib.hid (hv.drop k hkl _ _ _ rfl)
      clear hv
      have hsl := run_cut (P := Try.prog) (t := 23) rfl bytes_size A l.length cap k hkl
      have HN := fun W hk => number_ok (cutV A l.length cap k) (l.drop k) W (HD.out.keepsN (w' := W) hk)
      have hgo := getAt_ok l k hkl
      have hgb := getAt_bad l k hkl
      have hnb : (Cod.num (l.drop k)).2.2 = 0 → (k : Int) + ((Cod.num (l.drop k)).2.1 : Int) ≤ l.length := fun h => by
        have := (Cod.num_ok _ h).2.2.1
        rw [List.length_drop] at this; omega
      generalize cutV A l.length cap k = cv at *
      generalize Cod.num (l.drop k) = r at *
      have HNH := Lib.hid HN
      clear HN
      generalize getAt l k = gg at *
      have hkc : k ≤ cap := by omega
      unfold maxLen at hcm
      by_cases he : r.2.2 = 0
      · have hg := hgo he
        subst hg
        have hnb := hnb he
        clear hgo hgb
        obtain ⟨r1, r2, r3⟩ := r
        simp only at he
        subst he
        simp only [getV]
        go_enter Try.func13, Try.ntmps13
        go_wp2_with (go_at_call 50; refine (HNH.out _ ((Keeps.refl _ _).alloc _)).mono ?_; rintro e w' ⟨rfl, rfl⟩)
        exact bodyPost_ret (v := getV (r1, (k : Int) + r2, 0, 0)) (by simp [results, Try.results13, go_sem, getV]) rfl ⟨rfl, (Keeps.refl _ _).alloc _⟩
      · have hg := hgb he
        subst hg
        clear hgo hgb hnb
        obtain ⟨r1, r2, r3⟩ := r
        simp only at he
        have he2 : (r3 != 0) = true := by simpa using he
        simp only [getV]
        go_enter Try.func13, Try.ntmps13
        go_wp2_with (go_at_call 50; refine (HNH.out _ ((Keeps.refl _ _).alloc _)).mono ?_; rintro e w' ⟨rfl, rfl⟩)
        exact bodyPost_ret (v := getV (0, 0, r3, (k : Int))) (by simp [results, Try.results13, go_sem, getV]) rfl ⟨rfl, (Keeps.refl _ _).alloc _⟩
end Go.Proofs.Ytbdjphaiohinnaa
