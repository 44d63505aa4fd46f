/-
  Period: the chapter's examples (printed by perknown.py). Conditions: none.
-/
import Derived.Test.YthoaoknggdohpaaPerM
namespace Go.Proofs.Ythoaoknggdohpaa
open Go Go.RowKit Go.Own Go.Shelf

theorem zero_Ok : (⟨0, 0, 0, 0, 0, 0, 0, 0, 0, 0, 0⟩ : Par).Ok := by
  constructor <;> (first | unfold i64ok | unfold u64ok) <;> simp
theorem ch_cells {w w' : World} {t : TypeId} (hk : Keeps Nob (w.alloc (.cells #[.int .i64 100, .int .i64 100, .int .i64 10, .int .i64 8, .int .i64 7, .int .i64 8, .int .i64 20, .int .u64 50000000, .int .u64 3, .int .i64 50, .int .u64 100000000] t)) w') :
    w'.cell? ⟨w.heap.size, 0, none⟩ = some (.int .i64 100) ∧ w'.cell? ⟨w.heap.size, 1, none⟩ = some (.int .i64 100) ∧ w'.cell? ⟨w.heap.size, 2, none⟩ = some (.int .i64 10) ∧ w'.cell? ⟨w.heap.size, 3, none⟩ = some (.int .i64 8) ∧
    w'.cell? ⟨w.heap.size, 4, none⟩ = some (.int .i64 7) ∧ w'.cell? ⟨w.heap.size, 5, none⟩ = some (.int .i64 8) ∧ w'.cell? ⟨w.heap.size, 6, none⟩ = some (.int .i64 20) ∧ w'.cell? ⟨w.heap.size, 7, none⟩ = some (.int .u64 50000000) ∧
    w'.cell? ⟨w.heap.size, 8, none⟩ = some (.int .u64 3) ∧ w'.cell? ⟨w.heap.size, 9, none⟩ = some (.int .i64 50) ∧ w'.cell? ⟨w.heap.size, 10, none⟩ = some (.int .u64 100000000) :=
  par_cells chapterP hk


set_option maxRecDepth 100000 in
set_option maxHeartbeats 16000000 in
theorem awake_ok (w : World) : Calls Try.prog 16 #[] w fun e w' => e = .returned (.bool true) ∧ Keeps Nob w w' := by
  go_enter Try.func16, Try.ntmps16
  go_wp2_with fail
  refine (chapter_ok _).mono ?_
  rintro e w1 ⟨rfl, kc⟩
  have q0 : Keeps Nob (w1.alloc (.cells #[.int .i64 100, .int .i64 100, .int .i64 10, .int .i64 8, .int .i64 7, .int .i64 8, .int .i64 20, .int .u64 50000000, .int .u64 3, .int .i64 50, .int .u64 100000000] 24)) _ := Keeps.refl _ _
  go_wp2_with fail
  have s1 := fun W => pEpoch_ok chapterP chapter_Ok (11) (by unfold i64ok; omega) W
  rw [show chapterP.epoch (11) = (1, 0) from by kernel_rfl] at s1
  refine (s1 _).mono ?_; clear s1
  rintro e V1 ⟨rfl, k1⟩
  have q1 := q0.trans k1
  obtain ⟨c0, c1, c2, c3, c4, c5, c6, c7, c8, c9, c10⟩ := ch_cells q1
  go_wp2_with fail
  refine (num_any (1, 0) _ (by simp) (by simp)).mono ?_; rintro e w' ⟨rfl, rfl⟩
  rw [show numV (1, 0) = 1 from rfl]
  go_wp2_with fail
  clear c0 c1 c2 c3 c4 c5 c6 c7 c8 c9 c10
  have s2 := fun W => pFirst_ok chapterP chapter_Ok (1) (by unfold i64ok; omega) W
  rw [show chapterP.first (1) = (11, 0) from by kernel_rfl] at s2
  refine (s2 _).mono ?_; clear s2
  rintro e V2 ⟨rfl, k2⟩
  have q2 := q1.trans k2
  obtain ⟨c0, c1, c2, c3, c4, c5, c6, c7, c8, c9, c10⟩ := ch_cells q2
  go_wp2_with fail
  refine (num_any (11, 0) _ (by simp) (by simp)).mono ?_; rintro e w' ⟨rfl, rfl⟩
  rw [show numV (11, 0) = 11 from rfl]
  go_wp2_with fail
  clear c0 c1 c2 c3 c4 c5 c6 c7 c8 c9 c10
  have s3 := fun W => pLow_ok chapterP chapter_Ok (95) (by unfold i64ok; omega) W
  rw [show chapterP.low (95) = (2, 0) from by kernel_rfl] at s3
  refine (s3 _).mono ?_; clear s3
  rintro e V3 ⟨rfl, k3⟩
  have q3 := q2.trans k3
  obtain ⟨c0, c1, c2, c3, c4, c5, c6, c7, c8, c9, c10⟩ := ch_cells q3
  go_wp2_with fail
  refine (num_any (2, 0) _ (by simp) (by simp)).mono ?_; rintro e w' ⟨rfl, rfl⟩
  rw [show numV (2, 0) = 2 from rfl]
  go_wp2_with fail
  clear c0 c1 c2 c3 c4 c5 c6 c7 c8 c9 c10
  have s4 := fun W => pFloor_ok chapterP chapter_Ok (95) (by unfold i64ok; omega) W
  rw [show chapterP.floor (95) = (16, 0) from by kernel_rfl] at s4
  refine (s4 _).mono ?_; clear s4
  rintro e V4 ⟨rfl, k4⟩
  have q4 := q3.trans k4
  obtain ⟨c0, c1, c2, c3, c4, c5, c6, c7, c8, c9, c10⟩ := ch_cells q4
  go_wp2_with fail
  refine (num_any (16, 0) _ (by simp) (by simp)).mono ?_; rintro e w' ⟨rfl, rfl⟩
  rw [show numV (16, 0) = 16 from rfl]
  go_wp2_with fail
  clear c0 c1 c2 c3 c4 c5 c6 c7 c8 c9 c10
  have s5 := fun W => pRipe_ok chapterP chapter_Ok (7) (107) (by unfold i64ok; omega) (by unfold i64ok; omega) W
  rw [show chapterP.ripe (7) (107) = (true, 0) from by kernel_rfl] at s5
  refine (s5 _).mono ?_; clear s5
  rintro e V5 ⟨rfl, k5⟩
  have q5 := q4.trans k5
  obtain ⟨c0, c1, c2, c3, c4, c5, c6, c7, c8, c9, c10⟩ := ch_cells q5
  go_wp2_with fail
  refine (yes_any (true, 0) _ (by simp) (by simp)).mono ?_; rintro e w' ⟨rfl, rfl⟩
  rw [show yesV (true, 0) = 1 from rfl]
  go_wp2_with fail
  clear c0 c1 c2 c3 c4 c5 c6 c7 c8 c9 c10
  have s6 := fun W => pAged_ok chapterP chapter_Ok (5) (106) (by unfold i64ok; omega) (by unfold i64ok; omega) W
  rw [show chapterP.aged (5) (106) = 16 from by kernel_rfl] at s6
  refine (s6 _).mono ?_; clear s6
  rintro e V6 ⟨rfl, k6⟩
  have q6 := q5.trans k6
  obtain ⟨c0, c1, c2, c3, c4, c5, c6, c7, c8, c9, c10⟩ := ch_cells q6
  go_wp2_with fail
  clear c0 c1 c2 c3 c4 c5 c6 c7 c8 c9 c10
  go_ret
  exact ⟨rfl, (kc.alloc _).trans q6⟩

set_option maxRecDepth 100000 in
set_option maxHeartbeats 16000000 in
theorem known_ok (w : World) : Calls Try.prog 5 #[] w fun e w' => e = .returned (.bool true) ∧ Keeps Nob w w' := by
  go_enter Try.func5, Try.ntmps5
  go_wp2_with fail
  refine (chapter_ok _).mono ?_
  rintro e w1 ⟨rfl, kc⟩
  have q0 : Keeps Nob (w1.alloc (.cells #[.int .i64 100, .int .i64 100, .int .i64 10, .int .i64 8, .int .i64 7, .int .i64 8, .int .i64 20, .int .u64 50000000, .int .u64 3, .int .i64 50, .int .u64 100000000] 24)) _ := Keeps.refl _ _
  go_wp2_with fail
  have s1 := fun W => pEpoch_ok chapterP chapter_Ok (1) (by unfold i64ok; omega) W
  rw [show chapterP.epoch (1) = (0, 0) from by kernel_rfl] at s1
  refine (s1 _).mono ?_; clear s1
  rintro e V1 ⟨rfl, k1⟩
  have q1 := q0.trans k1
  obtain ⟨c0, c1, c2, c3, c4, c5, c6, c7, c8, c9, c10⟩ := ch_cells q1
  go_wp2_with fail
  refine (num_any (0, 0) _ (by simp) (by simp)).mono ?_; rintro e w' ⟨rfl, rfl⟩
  rw [show numV (0, 0) = 0 from rfl]
  go_wp2_with fail
  clear c0 c1 c2 c3 c4 c5 c6 c7 c8 c9 c10
  have s2 := fun W => pEpoch_ok chapterP chapter_Ok (10) (by unfold i64ok; omega) W
  rw [show chapterP.epoch (10) = (0, 0) from by kernel_rfl] at s2
  refine (s2 _).mono ?_; clear s2
  rintro e V2 ⟨rfl, k2⟩
  have q2 := q1.trans k2
  obtain ⟨c0, c1, c2, c3, c4, c5, c6, c7, c8, c9, c10⟩ := ch_cells q2
  go_wp2_with fail
  refine (num_any (0, 0) _ (by simp) (by simp)).mono ?_; rintro e w' ⟨rfl, rfl⟩
  rw [show numV (0, 0) = 0 from rfl]
  go_wp2_with fail
  clear c0 c1 c2 c3 c4 c5 c6 c7 c8 c9 c10
  have s3 := fun W => pLast_ok chapterP chapter_Ok (1) (by unfold i64ok; omega) W
  rw [show chapterP.last (1) = (20, 0) from by kernel_rfl] at s3
  refine (s3 _).mono ?_; clear s3
  rintro e V3 ⟨rfl, k3⟩
  have q3 := q2.trans k3
  obtain ⟨c0, c1, c2, c3, c4, c5, c6, c7, c8, c9, c10⟩ := ch_cells q3
  go_wp2_with fail
  refine (num_any (20, 0) _ (by simp) (by simp)).mono ?_; rintro e w' ⟨rfl, rfl⟩
  rw [show numV (20, 0) = 20 from rfl]
  go_wp2_with fail
  clear c0 c1 c2 c3 c4 c5 c6 c7 c8 c9 c10
  have s4 := fun W => pFirst_ok chapterP chapter_Ok (4294967296) (by unfold i64ok; omega) W
  rw [show chapterP.first (4294967296) = (0, 3) from by kernel_rfl] at s4
  refine (s4 _).mono ?_; clear s4
  rintro e V4 ⟨rfl, k4⟩
  have q4 := q3.trans k4
  obtain ⟨c0, c1, c2, c3, c4, c5, c6, c7, c8, c9, c10⟩ := ch_cells q4
  go_wp2_with fail
  refine (num_any (0, 3) _ (by simp) (by simp)).mono ?_; rintro e w' ⟨rfl, rfl⟩
  rw [show numV (0, 3) = -3 from rfl]
  go_wp2_with fail
  clear c0 c1 c2 c3 c4 c5 c6 c7 c8 c9 c10
  have s5 := fun W => pLow_ok chapterP chapter_Ok (1) (by unfold i64ok; omega) W
  rw [show chapterP.low (1) = (0, 0) from by kernel_rfl] at s5
  refine (s5 _).mono ?_; clear s5
  rintro e V5 ⟨rfl, k5⟩
  have q5 := q4.trans k5
  obtain ⟨c0, c1, c2, c3, c4, c5, c6, c7, c8, c9, c10⟩ := ch_cells q5
  go_wp2_with fail
  refine (num_any (0, 0) _ (by simp) (by simp)).mono ?_; rintro e w' ⟨rfl, rfl⟩
  rw [show numV (0, 0) = 0 from rfl]
  go_wp2_with fail
  clear c0 c1 c2 c3 c4 c5 c6 c7 c8 c9 c10
  have s6 := fun W => pFloor_ok chapterP chapter_Ok (5) (by unfold i64ok; omega) W
  rw [show chapterP.floor (5) = (1, 0) from by kernel_rfl] at s6
  refine (s6 _).mono ?_; clear s6
  rintro e V6 ⟨rfl, k6⟩
  have q6 := q5.trans k6
  obtain ⟨c0, c1, c2, c3, c4, c5, c6, c7, c8, c9, c10⟩ := ch_cells q6
  go_wp2_with fail
  refine (num_any (1, 0) _ (by simp) (by simp)).mono ?_; rintro e w' ⟨rfl, rfl⟩
  rw [show numV (1, 0) = 1 from rfl]
  go_wp2_with fail
  clear c0 c1 c2 c3 c4 c5 c6 c7 c8 c9 c10
  have s7 := fun W => pUntil_ok chapterP chapter_Ok (30) (by unfold i64ok; omega) W
  rw [show chapterP.until_ (30) = (50, 0) from by kernel_rfl] at s7
  refine (s7 _).mono ?_; clear s7
  rintro e V7 ⟨rfl, k7⟩
  have q7 := q6.trans k7
  obtain ⟨c0, c1, c2, c3, c4, c5, c6, c7, c8, c9, c10⟩ := ch_cells q7
  go_wp2_with fail
  refine (num_any (50, 0) _ (by simp) (by simp)).mono ?_; rintro e w' ⟨rfl, rfl⟩
  rw [show numV (50, 0) = 50 from rfl]
  go_wp2_with fail
  clear c0 c1 c2 c3 c4 c5 c6 c7 c8 c9 c10
  have s8 := fun W => pRipe_ok chapterP chapter_Ok (7) (106) (by unfold i64ok; omega) (by unfold i64ok; omega) W
  rw [show chapterP.ripe (7) (106) = (false, 0) from by kernel_rfl] at s8
  refine (s8 _).mono ?_; clear s8
  rintro e V8 ⟨rfl, k8⟩
  have q8 := q7.trans k8
  obtain ⟨c0, c1, c2, c3, c4, c5, c6, c7, c8, c9, c10⟩ := ch_cells q8
  go_wp2_with fail
  refine (yes_any (false, 0) _ (by simp) (by simp)).mono ?_; rintro e w' ⟨rfl, rfl⟩
  rw [show yesV (false, 0) = 0 from rfl]
  go_wp2_with fail
  clear c0 c1 c2 c3 c4 c5 c6 c7 c8 c9 c10
  have s9 := fun W => pAlive_ok chapterP chapter_Ok (7) (107) (by unfold i64ok; omega) (by unfold i64ok; omega) W
  rw [show chapterP.alive (7) (107) = (true, 0) from by kernel_rfl] at s9
  refine (s9 _).mono ?_; clear s9
  rintro e V9 ⟨rfl, k9⟩
  have q9 := q8.trans k9
  obtain ⟨c0, c1, c2, c3, c4, c5, c6, c7, c8, c9, c10⟩ := ch_cells q9
  go_wp2_with fail
  refine (yes_any (true, 0) _ (by simp) (by simp)).mono ?_; rintro e w' ⟨rfl, rfl⟩
  rw [show yesV (true, 0) = 1 from rfl]
  go_wp2_with fail
  clear c0 c1 c2 c3 c4 c5 c6 c7 c8 c9 c10
  have s10 := fun W => pAlive_ok chapterP chapter_Ok (7) (108) (by unfold i64ok; omega) (by unfold i64ok; omega) W
  rw [show chapterP.alive (7) (108) = (false, 0) from by kernel_rfl] at s10
  refine (s10 _).mono ?_; clear s10
  rintro e V10 ⟨rfl, k10⟩
  have q10 := q9.trans k10
  obtain ⟨c0, c1, c2, c3, c4, c5, c6, c7, c8, c9, c10⟩ := ch_cells q10
  go_wp2_with fail
  refine (yes_any (false, 0) _ (by simp) (by simp)).mono ?_; rintro e w' ⟨rfl, rfl⟩
  rw [show yesV (false, 0) = 0 from rfl]
  go_wp2_with fail
  clear c0 c1 c2 c3 c4 c5 c6 c7 c8 c9 c10
  have s11 := fun W => pAged_ok chapterP chapter_Ok (5) (105) (by unfold i64ok; omega) (by unfold i64ok; omega) W
  rw [show chapterP.aged (5) (105) = 0 from by kernel_rfl] at s11
  refine (s11 _).mono ?_; clear s11
  rintro e V11 ⟨rfl, k11⟩
  have q11 := q10.trans k11
  obtain ⟨c0, c1, c2, c3, c4, c5, c6, c7, c8, c9, c10⟩ := ch_cells q11
  go_wp2_with fail
  clear c0 c1 c2 c3 c4 c5 c6 c7 c8 c9 c10
  have s12 := fun W => pAged_ok chapterP chapter_Ok (6) (5) (by unfold i64ok; omega) (by unfold i64ok; omega) W
  rw [show chapterP.aged (6) (5) = 17 from by kernel_rfl] at s12
  refine (s12 _).mono ?_; clear s12
  rintro e V12 ⟨rfl, k12⟩
  have q12 := q11.trans k12
  obtain ⟨c0, c1, c2, c3, c4, c5, c6, c7, c8, c9, c10⟩ := ch_cells q12
  go_wp2_with fail
  clear c0 c1 c2 c3 c4 c5 c6 c7 c8 c9 c10
  have s13 := fun W => pNoted_ok chapterP chapter_Ok (50) (99) (by unfold i64ok; omega) (by unfold i64ok; omega) W
  rw [show chapterP.noted (50) (99) = (true, 0) from by kernel_rfl] at s13
  refine (s13 _).mono ?_; clear s13
  rintro e V13 ⟨rfl, k13⟩
  have q13 := q12.trans k13
  obtain ⟨c0, c1, c2, c3, c4, c5, c6, c7, c8, c9, c10⟩ := ch_cells q13
  go_wp2_with fail
  refine (yes_any (true, 0) _ (by simp) (by simp)).mono ?_; rintro e w' ⟨rfl, rfl⟩
  rw [show yesV (true, 0) = 1 from rfl]
  go_wp2_with fail
  clear c0 c1 c2 c3 c4 c5 c6 c7 c8 c9 c10
  have s14 := fun W => pNoted_ok chapterP chapter_Ok (50) (100) (by unfold i64ok; omega) (by unfold i64ok; omega) W
  rw [show chapterP.noted (50) (100) = (false, 0) from by kernel_rfl] at s14
  refine (s14 _).mono ?_; clear s14
  rintro e V14 ⟨rfl, k14⟩
  have q14 := q13.trans k14
  obtain ⟨c0, c1, c2, c3, c4, c5, c6, c7, c8, c9, c10⟩ := ch_cells q14
  go_wp2_with fail
  refine (yes_any (false, 0) _ (by simp) (by simp)).mono ?_; rintro e w' ⟨rfl, rfl⟩
  rw [show yesV (false, 0) = 0 from rfl]
  go_wp2_with fail
  clear c0 c1 c2 c3 c4 c5 c6 c7 c8 c9 c10
  have s15 := fun W => pEpoch_ok chapterP chapter_Ok (0) (by unfold i64ok; omega) W
  rw [show chapterP.epoch (0) = (0, 3) from by kernel_rfl] at s15
  refine (s15 _).mono ?_; clear s15
  rintro e V15 ⟨rfl, k15⟩
  have q15 := q14.trans k15
  obtain ⟨c0, c1, c2, c3, c4, c5, c6, c7, c8, c9, c10⟩ := ch_cells q15
  go_wp2_with fail
  refine (num_any (0, 3) _ (by simp) (by simp)).mono ?_; rintro e w' ⟨rfl, rfl⟩
  rw [show numV (0, 3) = -3 from rfl]
  go_wp2_with fail
  clear c0 c1 c2 c3 c4 c5 c6 c7 c8 c9 c10
  have s16 := fun W => pEpoch_ok chapterP chapter_Ok (4294967297) (by unfold i64ok; omega) W
  rw [show chapterP.epoch (4294967297) = (0, 3) from by kernel_rfl] at s16
  refine (s16 _).mono ?_; clear s16
  rintro e V16 ⟨rfl, k16⟩
  have q16 := q15.trans k16
  obtain ⟨c0, c1, c2, c3, c4, c5, c6, c7, c8, c9, c10⟩ := ch_cells q16
  go_wp2_with fail
  refine (num_any (0, 3) _ (by simp) (by simp)).mono ?_; rintro e w' ⟨rfl, rfl⟩
  rw [show numV (0, 3) = -3 from rfl]
  go_wp2_with fail
  clear c0 c1 c2 c3 c4 c5 c6 c7 c8 c9 c10
  have s17 := fun W => pEpoch_ok (⟨0, 0, 0, 0, 0, 0, 0, 0, 0, 0, 0⟩ : Par) zero_Ok (1) (by unfold i64ok; omega) W
  rw [show (⟨0, 0, 0, 0, 0, 0, 0, 0, 0, 0, 0⟩ : Par).epoch (1) = (0, 3) from by kernel_rfl] at s17
  refine (s17 _).mono ?_; clear s17
  rintro e V17 ⟨rfl, k17⟩
  have q17 := q16.trans k17
  obtain ⟨c0, c1, c2, c3, c4, c5, c6, c7, c8, c9, c10⟩ := ch_cells q17
  go_wp2_with fail
  refine (num_any (0, 3) _ (by simp) (by simp)).mono ?_; rintro e w' ⟨rfl, rfl⟩
  rw [show numV (0, 3) = -3 from rfl]
  go_wp2_with fail
  clear c0 c1 c2 c3 c4 c5 c6 c7 c8 c9 c10
  have s18 := fun W => pFirst_ok chapterP chapter_Ok (-1) (by unfold i64ok; omega) W
  rw [show chapterP.first (-1) = (0, 3) from by kernel_rfl] at s18
  refine (s18 _).mono ?_; clear s18
  rintro e V18 ⟨rfl, k18⟩
  have q18 := q17.trans k18
  obtain ⟨c0, c1, c2, c3, c4, c5, c6, c7, c8, c9, c10⟩ := ch_cells q18
  go_wp2_with fail
  refine (num_any (0, 3) _ (by simp) (by simp)).mono ?_; rintro e w' ⟨rfl, rfl⟩
  rw [show numV (0, 3) = -3 from rfl]
  go_wp2_with fail
  clear c0 c1 c2 c3 c4 c5 c6 c7 c8 c9 c10
  refine (awake_ok _).mono ?_
  rintro e VA ⟨rfl, kA⟩
  go_wp2_with fail
  go_ret
  exact ⟨rfl, ((kc.alloc _).trans q18).trans kA⟩
end Go.Proofs.Ythoaoknggdohpaa
