import Derived.Test.YtkkecoodefjnbaaSpanH
namespace Go.Proofs.Ytkkecoodefjnbaa
open Go Go.RowKit Go.Own Go.Shelf

set_option maxRecDepth 100000 in
set_option maxHeartbeats 4000000 in
theorem none_round (a b : Int) (w : World) : Calls Try.prog 6 #[.int .i64 a, .int .i64 b] w fun e w' => e = .returned (.bool true) ∧ Keeps Nob w w' := by
  have hb := span_build0 w
  go_enter Try.func6, Try.ntmps6
  go_wp2_with (first
    | (refine own_build rfl 60 _ rfl #[] ?_ hb ?_; · simp)
    | (refine own_box rfl 60 _ rfl ?_))
  have hk0 : Keeps Nob w ((w.alloc (.cells (spanCells (.int .i64 0)) 60)).alloc (.cells #[.pointer none, .pointer (some ⟨w.heap.size, 0, none⟩)] 22)) := ((Keeps.refl _ _).alloc _).alloc _
  have hs0 : w.heap.size + 2 ≤ ((w.alloc (.cells (spanCells (.int .i64 0)) 60)).alloc (.cells #[.pointer none, .pointer (some ⟨w.heap.size, 0, none⟩)] 22)).heap.size := by simp
  have c0 : ((w.alloc (.cells (spanCells (.int .i64 0)) 60)).alloc (.cells #[.pointer none, .pointer (some ⟨w.heap.size, 0, none⟩)] 22)).cell? ⟨w.heap.size, 0, none⟩ = some (.int .i64 0) := by
    rw [World.cell?_alloc_past _ _ _ (by simp), World.cell?_alloc_at _ _ _ _ rfl, spanCells_get _ _ (by omega)]; rfl
  have c1 : ((w.alloc (.cells (spanCells (.int .i64 0)) 60)).alloc (.cells #[.pointer none, .pointer (some ⟨w.heap.size, 0, none⟩)] 22)).cell? ⟨w.heap.size + 1, 0, none⟩ = some (.pointer none) := by
    rw [World.cell?_alloc_at _ _ _ _ (by simp)]; rfl
  have c2 : ((w.alloc (.cells (spanCells (.int .i64 0)) 60)).alloc (.cells #[.pointer none, .pointer (some ⟨w.heap.size, 0, none⟩)] 22)).cell? ⟨w.heap.size + 1, 1, none⟩ = some (.pointer (some ⟨w.heap.size, 0, none⟩)) := by
    rw [World.cell?_alloc_at _ _ _ _ (by simp)]; rfl
  generalize (w.alloc (.cells (spanCells (.int .i64 0)) 60)).alloc (.cells #[.pointer none, .pointer (some ⟨w.heap.size, 0, none⟩)] 22) = W1 at *
  clear hb
  have HK := Lib.hid hk0; clear hk0
  go_loopw [6] (fun i wr => ∃ k : Nat, k ≤ 2 ∧ i = .int .i64 k ∧ Keeps Nob W1 wr) (fun i _ => 2 - (intOf i).toNat)
  case atStart => exact ⟨0, by omega, rfl, Keeps.refl _ _⟩
  case round =>
    obtain ⟨k, hk2, rfl, hk⟩ := hrel
    by_cases hlt : k < 2
    · obtain ⟨v, hv, hn0⟩ : ∃ v, W1.cell? ⟨w.heap.size + 1, k, none⟩ = some v ∧ NoSpan W1 v := by
        have : k = 0 ∨ k = 1 := by omega
        rcases this with rfl | rfl
        · exact ⟨_, c1, .inl rfl⟩
        · exact ⟨_, c2, .inr ⟨_, rfl, c0⟩⟩
      have hn := hn0.keeps hk
      have hcell := (hk.cell (k := w.heap.size + 1) (i := k) (by omega) (fun x => x)).trans hv
      clear c0 c1 c2 hv
      go_wp2_with fail
      refine (none_clash v a b _ hn).mono ?_
      clear hcell
      rintro x V ⟨rfl, hk'⟩
      replace hk := hk.trans hk'
      replace hn := hn.keeps hk'
      clear hk'
      have hcell := True.intro
      go_wp2_with fail
      refine (none_min v a _ hn).mono ?_
      clear hcell
      rintro x V ⟨rfl, hk'⟩
      replace hk := hk.trans hk'
      replace hn := hn.keeps hk'
      clear hk'
      have hcell := True.intro
      go_wp2_with fail
      refine (none_max v a _ hn).mono ?_
      clear hcell
      rintro x V ⟨rfl, hk'⟩
      replace hk := hk.trans hk'
      replace hn := hn.keeps hk'
      clear hk'
      have hcell := True.intro
      go_wp2_with fail
      refine (none_put v a b _ hn).mono ?_
      clear hcell
      rintro x V ⟨rfl, hk'⟩
      replace hk := hk.trans hk'
      replace hn := hn.keeps hk'
      clear hk'
      have hcell := True.intro
      go_wp2_with fail
      refine (none_move v a _ hn).mono ?_
      rintro x V ⟨rfl, rfl⟩
      go_wp2_with fail
      refine (none_epoch v _ hn).mono ?_
      rintro x V ⟨rfl, rfl⟩
      go_wp2_with fail
      refine (none_low v _ hn).mono ?_
      rintro x V ⟨rfl, rfl⟩
      go_wp2_with fail
      refine (none_copy v _ hn).mono ?_
      rintro x V ⟨rfl, rfl⟩
      go_wp2_with fail
      refine (none_move _ 0 _ (.inr ⟨V.heap.size, rfl, ?_⟩)).mono ?_
      · rw [World.cell?_alloc_at _ _ _ _ rfl, spanCells_get _ _ (by omega)]; rfl
      rintro x V' ⟨rfl, rfl⟩
      go_wp2_with fail
      go_roundw
      case rel => exact ⟨k + 1, by omega, by go_num, hk.alloc _⟩
      case measure => simp only [intOf]; omega
    · go_wp2_with fail
      refine (awake_ok _).mono ?_
      rintro x V ⟨rfl, hk'⟩
      go_wp2_with fail
      go_ret
      exact ⟨rfl, (HK.out.trans hk).trans hk'⟩
end Go.Proofs.Ytkkecoodefjnbaa
