import Derived.Test.YtkkecoodefjnbaaSpanS
import Derived.Deep.RegionHeld3
import Derived.Deep.AppendLies
namespace Go.Proofs.Ytkkecoodefjnbaa
open Go Go.RowKit Go.Own Go.Shelf

set_option maxHeartbeats 1000000 in
theorem ref_clash (b : Nat) (W E s t : Int) (w : World) (M : Nat → Prop) (L : List (Int × Int)) (h : RefSpan w M b W E L) (hL : L.length ≤ 1000000) :
    Calls Try.prog 24 #[.pointer (some ⟨b, 0, none⟩), .int .i64 s, .int .i64 t] w fun v w' => v = .returned (.tuple #[.int .i64 (clashOf W E s t (viewOf L)).1, .int .i64 (clashOf W E s t (viewOf L)).2]) ∧ Keeps Nob w w' := by
  obtain ⟨b1, hb1⟩ : ∃ x, x = (tellOf W E s (viewOf L s).1).2 := ⟨_, rfl⟩
  obtain ⟨n1, hn1⟩ : ∃ x, x = (tellOf W E s (viewOf L s).1).1 := ⟨_, rfl⟩
  obtain ⟨b2, hb2⟩ : ∃ x, x = (tellOf W E s (viewOf L s).2).2 := ⟨_, rfl⟩
  obtain ⟨n2, hn2⟩ : ∃ x, x = (tellOf W E s (viewOf L s).2).1 := ⟨_, rfl⟩
  have hmin := fun V (hV : RefSpan V M b W E L) => ref_min b W E s V M L hV hL
  have hmax := fun V (hV : RefSpan V M b W E L) => ref_max b W E s V M L hV hL
  rw [← hb1, ← hn1] at hmin
  rw [← hb2, ← hn2] at hmax
  have hc : clashOf W E s t (viewOf L) = if b1 = true ∧ n1 < t then (3, n1) else if b2 = true ∧ t < n2 then (4, n2) else (0, 0) := by rw [hb1, hn1, hb2, hn2]; rfl
  rw [hc]
  clear hb1 hb2 hn1 hn2 hc
  have HM := Lib.hid hmin; have HX := Lib.hid hmax
  clear hmin hmax
  cases b1 <;> cases b2 <;> by_cases c1 : n1 < t <;> by_cases c2 : t < n2 <;> simp only [c1, c2, true_and, false_and, if_true, if_false, Bool.false_eq_true, and_true, and_false] <;>
  · go_enter Try.func24, Try.ntmps24
    go_wp2_with (first
      | (go_at_call 34; refine (HM.out _ h).mono ?_; rintro v V1 ⟨rfl, hk1⟩)
      | (go_at_call 35; refine (HX.out _ (h.of_keeps hk1 (fun _ _ x => x))).mono ?_; rintro v V2 ⟨rfl, hk2⟩))
    go_ret2
    first
      | exact ⟨rfl, hk1.trans hk2⟩
      | exact ⟨rfl, hk1⟩

theorem flat2_one (L : List (Int × Int)) : ∀ u ∈ flat2 L, u.oneCell' = true := by
  intro u hu
  simp only [flat2, List.mem_flatMap] at hu
  obtain ⟨x, _, hx⟩ := hu
  simp at hx
  rcases hx with rfl | rfl <;> rfl

set_option maxRecDepth 100000 in
set_option maxHeartbeats 4000000 in
theorem ref_copy (b : Nat) (W E : Int) (w : World) (M : Nat → Prop) (L : List (Int × Int)) (h : RefSpan w M b W E L) (hL : L.length ≤ 1000000) :
    Calls Try.prog 25 #[.pointer (some ⟨b, 0, none⟩)] w fun v w' => ∃ b', v = .returned (.pointer (some ⟨b', 0, none⟩)) ∧ RefSpan w' (fun k => w.heap.size ≤ k ∧ k < w'.heap.size) b' W E L ∧ Keeps Nob w w' := by
  have c0 := h.cW; have c1 := h.cE
  obtain ⟨v, c2, ho, hn, hm⟩ := h.row
  have hb := h.ml b h.mb
  have H := Lib.hid h; clear h
  have HO := Lib.hid ho; clear ho
  obtain ⟨i0, hi, hz0, hz1, hz2⟩ := info_parts info_arr
  go_enter Try.func25, Try.ntmps25
  go_wp2_with fail
  go_region_held3 (fun w' => w'.cell? ⟨b, 0, none⟩ = some (.int .i64 W) ∧ w'.cell? ⟨b, 1, none⟩ = some (.int .i64 E) ∧ w'.cell? ⟨b, 2, none⟩ = some v)
    (first
      | go_keep
      | exact ⟨(hkp.cell hb (fun x => x)).trans c0, (hkp.cell hb (fun x => x)).trans c1, (hkp.cell hb (fun x => x)).trans c2⟩)
    (first | (refine step_append2 (by rfl) _ _ 37 (by rfl) 40 i0 _ 2 16 Try.underlying37 hi hz0 hz1 hz2 rfl (by omega) _ 0 [] (by rfl) (World.ownsRow.drew (World.ownsRow_lit w #[] 0 (Nat.zero_le _) (by decide) rfl)) v L.length (flat2 L) (by rfl) (Row.src (World.ownsRow.drew (World.ownsRow.alloc HO.out _)) (flat2_one L)) (by unfold maxLen; omega) (by omega) ?_; intro v' w1 hown1 hgrow hnil hnew; have hkp : Keeps Nob w w1 := ((Keeps.refl Nob w).alloc _).drew.grown hgrow (fun k e hk => by cases e; exact absurd hk (Nat.lt_irrefl _)); obtain ⟨g', cap', rfl⟩ := Row.slice hown1 (fun e => by have := (hnil.1 e).1; cases this)))
  go_wp2
  go_ret
  have hg' : w.heap.size ≤ g' ∧ g' < w1.heap.size := by
    refine ⟨?_, hown1.lt rfl⟩
    rcases hnew g' rfl with e | e
    · cases e; exact Nat.le_refl _
    · have := e.1; simp at this; omega
  have h := H.out
  refine ⟨_, rfl, ⟨⟨_, World.alloc_heap_new w1 _⟩, ?_, ?_, ⟨.slice (some ⟨g', 0, none⟩) (0 + L.length) cap', ?_, ?_, ?_, ?_⟩, ?_, ?_, h.w1, h.w2, h.e1, h.e2⟩, hkp.alloc _⟩
  · rw [World.cell?_alloc_at _ _ _ _ rfl]; rfl
  · rw [World.cell?_alloc_at _ _ _ _ rfl]; rfl
  · rw [World.cell?_alloc_at _ _ _ _ rfl]; simp
  · have := World.ownsRow.alloc hown1 (.cells #[.int .i64 W, .int .i64 E, .slice (some ⟨g', 0, none⟩) (0 + L.length) cap'] 53)
    simpa using this
  · simp [Value.ownBlock]; omega
  · intro k hk
    simp [Value.ownBlock] at hk
    subst hk
    simp; omega
  · have := hkp.size
    simp; omega
  · intro k hk
    exact hk.2
end Go.Proofs.Ytkkecoodefjnbaa
