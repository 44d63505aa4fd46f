/-
  Period: what is ripe, alive, noted, ahead or too old. Conditions: none.
-/
import Derived.Test.YthoaoknggdohpaaPerN
namespace Go.Proofs.Ythoaoknggdohpaa
open Go Go.RowKit Go.Own Go.Shelf

set_option maxRecDepth 100000 in
set_option maxHeartbeats 16000000 in
theorem tells_ok (p : Par) (hp : p.Ok) (c : Int) (cc : i64ok c) (h : Int) (hh : i64ok h) (w : World) :
    Calls Try.prog 3 #[p.v, .int .i64 c, .int .i64 h] w fun e w' => e = .returned (.bool true) ∧ Keeps Nob w w' := by
  have s1 := Lib.hid (fun W => pRipe_ok p hp c h cc hh W)
  have s2 := Lib.hid (fun W => rRipe_ok p hp c h cc hh W)
  have s3 := Lib.hid (fun W => pAlive_ok p hp c h cc hh W)
  have s4 := Lib.hid (fun W => rAlive_ok p hp c h cc hh W)
  have s5 := Lib.hid (fun W => pNoted_ok p hp c h cc hh W)
  have s6 := Lib.hid (fun W => rNoted_ok p hp c h cc hh W)
  have s7 := Lib.hid (fun W => pAged_ok p hp c h cc hh W)
  have s8 := Lib.hid (fun W => rAged_ok p hp c h cc hh W)
  generalize p.ripe c h = r1 at *
  generalize p.alive c h = r2 at *
  generalize p.noted c h = r3 at *
  generalize p.aged c h = r4 at *
  have q0 : Keeps Nob (w.alloc (.cells p.cells 24)) (w.alloc (.cells p.cells 24)) := Keeps.refl _ _
  have hpv : p.v = .agg #[.int .i64 p.unb, .int .i64 p.mage, .int .i64 p.elen, .int .i64 p.win, .int .i64 p.ent, .int .i64 p.act, .int .i64 p.jail, .int .u64 p.base, .int .u64 p.mult, .int .i64 p.corr, .int .u64 p.rew] := rfl
  rw [hpv]
  clear hpv
  go_enter Try.func3, Try.ntmps3
  go_wp2_with fail
  refine (s1.out _).mono ?_
  rintro e V1 ⟨rfl, k1⟩
  have q1 := q0.trans k1
  obtain ⟨c0, c1, c2, c3, c4, c5, c6, c7, c8, c9, c10⟩ := par_cells p q1
  go_wp2_with fail
  clear c0 c1 c2 c3 c4 c5 c6 c7 c8 c9 c10
  refine (s2.out _).mono ?_
  rintro e V2 ⟨rfl, k2⟩
  have q2 := q1.trans k2
  obtain ⟨c0, c1, c2, c3, c4, c5, c6, c7, c8, c9, c10⟩ := par_cells p q2
  go_wp2_with fail
  clear c0 c1 c2 c3 c4 c5 c6 c7 c8 c9 c10
  refine (s3.out _).mono ?_
  rintro e V3 ⟨rfl, k3⟩
  have q3 := q2.trans k3
  obtain ⟨c0, c1, c2, c3, c4, c5, c6, c7, c8, c9, c10⟩ := par_cells p q3
  go_wp2_with fail
  clear c0 c1 c2 c3 c4 c5 c6 c7 c8 c9 c10
  refine (s4.out _).mono ?_
  rintro e V4 ⟨rfl, k4⟩
  have q4 := q3.trans k4
  obtain ⟨c0, c1, c2, c3, c4, c5, c6, c7, c8, c9, c10⟩ := par_cells p q4
  go_wp2_with fail
  clear c0 c1 c2 c3 c4 c5 c6 c7 c8 c9 c10
  refine (s5.out _).mono ?_
  rintro e V5 ⟨rfl, k5⟩
  have q5 := q4.trans k5
  obtain ⟨c0, c1, c2, c3, c4, c5, c6, c7, c8, c9, c10⟩ := par_cells p q5
  go_wp2_with fail
  clear c0 c1 c2 c3 c4 c5 c6 c7 c8 c9 c10
  refine (s6.out _).mono ?_
  rintro e V6 ⟨rfl, k6⟩
  have q6 := q5.trans k6
  obtain ⟨c0, c1, c2, c3, c4, c5, c6, c7, c8, c9, c10⟩ := par_cells p q6
  go_wp2_with fail
  have q6d := q6.drew
  go_region_held3 (fun W => Keeps Nob (w.alloc (.cells p.cells 24)) W ∧ W.cell? ⟨w.heap.size, 0, none⟩ = some (.int .i64 p.unb) ∧ W.cell? ⟨w.heap.size, 1, none⟩ = some (.int .i64 p.mage) ∧ W.cell? ⟨w.heap.size, 2, none⟩ = some (.int .i64 p.elen) ∧ W.cell? ⟨w.heap.size, 3, none⟩ = some (.int .i64 p.win) ∧ W.cell? ⟨w.heap.size, 4, none⟩ = some (.int .i64 p.ent) ∧ W.cell? ⟨w.heap.size, 5, none⟩ = some (.int .i64 p.act) ∧ W.cell? ⟨w.heap.size, 6, none⟩ = some (.int .i64 p.jail) ∧ W.cell? ⟨w.heap.size, 7, none⟩ = some (.int .u64 p.base) ∧ W.cell? ⟨w.heap.size, 8, none⟩ = some (.int .u64 p.mult) ∧ W.cell? ⟨w.heap.size, 9, none⟩ = some (.int .i64 p.corr) ∧ W.cell? ⟨w.heap.size, 10, none⟩ = some (.int .u64 p.rew)) (exact ⟨by assumption, par_cells p (by assumption)⟩) (first
    | (go_at_call 14; refine (s7.out _).mono ?_; rintro e V7 ⟨rfl, k7⟩; have q7 := q6d.trans k7)
    | (go_at_call 15; refine (s8.out _).mono ?_; rintro e V8 ⟨rfl, k8⟩; have q8 := q7.trans k8)
    | (go_at_call 16; refine (awake_ok _).mono ?_; rintro e V9 ⟨rfl, k9⟩; have q9 := q8.trans k9))
  go_wp2
  go_ret
  exact ⟨rfl, ((Keeps.refl Nob w).alloc _).trans q9⟩

set_option maxRecDepth 100000 in
set_option maxHeartbeats 16000000 in
theorem heights_ok (p : Par) (hp : p.Ok) (h : Int) (hh : i64ok h) (e : Int) (he : i64ok e) (w : World) :
    Calls Try.prog 4 #[p.v, .int .i64 h, .int .i64 e] w fun x w' => x = .returned (.bool true) ∧ Keeps Nob w w' := by
  have s1 := Lib.hid (fun W => pEpoch_ok p hp h hh W)
  have s2 := Lib.hid (fun W => rEpoch_ok p hp h hh W)
  have s3 := Lib.hid (fun W => pLow_ok p hp h hh W)
  have s4 := Lib.hid (fun W => rLow_ok p hp h hh W)
  have s5 := Lib.hid (fun W => pFloor_ok p hp h hh W)
  have s6 := Lib.hid (fun W => rFloor_ok p hp h hh W)
  have s7 := Lib.hid (fun W => pUntil_ok p hp h hh W)
  have s8 := Lib.hid (fun W => rUntil_ok p hp h hh W)
  have s9 := Lib.hid (fun W => pFirst_ok p hp e he W)
  have s10 := Lib.hid (fun W => rFirst_ok p hp e he W)
  have s11 := Lib.hid (fun W => pLast_ok p hp e he W)
  have s12 := Lib.hid (fun W => rLast_ok p hp e he W)
  generalize p.epoch h = r1 at *
  generalize p.low h = r2 at *
  generalize p.floor h = r3 at *
  generalize p.until_ h = r4 at *
  generalize p.first e = r5 at *
  generalize p.last e = r6 at *
  have q0 : Keeps Nob (w.alloc (.cells p.cells 24)) (w.alloc (.cells p.cells 24)) := Keeps.refl _ _
  have hpv : p.v = .agg #[.int .i64 p.unb, .int .i64 p.mage, .int .i64 p.elen, .int .i64 p.win, .int .i64 p.ent, .int .i64 p.act, .int .i64 p.jail, .int .u64 p.base, .int .u64 p.mult, .int .i64 p.corr, .int .u64 p.rew] := rfl
  rw [hpv]
  clear hpv
  go_enter Try.func4, Try.ntmps4
  go_wp2_with fail
  refine (s1.out _).mono ?_
  rintro x V1 ⟨rfl, k1⟩
  have q1 := q0.trans k1
  obtain ⟨c0, c1, c2, c3, c4, c5, c6, c7, c8, c9, c10⟩ := par_cells p q1
  go_wp2_with fail
  clear c0 c1 c2 c3 c4 c5 c6 c7 c8 c9 c10
  refine (s2.out _).mono ?_
  rintro x V2 ⟨rfl, k2⟩
  have q2 := q1.trans k2
  obtain ⟨c0, c1, c2, c3, c4, c5, c6, c7, c8, c9, c10⟩ := par_cells p q2
  go_wp2_with fail
  clear c0 c1 c2 c3 c4 c5 c6 c7 c8 c9 c10
  refine (s3.out _).mono ?_
  rintro x V3 ⟨rfl, k3⟩
  have q3 := q2.trans k3
  obtain ⟨c0, c1, c2, c3, c4, c5, c6, c7, c8, c9, c10⟩ := par_cells p q3
  go_wp2_with fail
  clear c0 c1 c2 c3 c4 c5 c6 c7 c8 c9 c10
  refine (s4.out _).mono ?_
  rintro x V4 ⟨rfl, k4⟩
  have q4 := q3.trans k4
  obtain ⟨c0, c1, c2, c3, c4, c5, c6, c7, c8, c9, c10⟩ := par_cells p q4
  go_wp2_with fail
  clear c0 c1 c2 c3 c4 c5 c6 c7 c8 c9 c10
  refine (s5.out _).mono ?_
  rintro x V5 ⟨rfl, k5⟩
  have q5 := q4.trans k5
  obtain ⟨c0, c1, c2, c3, c4, c5, c6, c7, c8, c9, c10⟩ := par_cells p q5
  go_wp2_with fail
  clear c0 c1 c2 c3 c4 c5 c6 c7 c8 c9 c10
  refine (s6.out _).mono ?_
  rintro x V6 ⟨rfl, k6⟩
  have q6 := q5.trans k6
  obtain ⟨c0, c1, c2, c3, c4, c5, c6, c7, c8, c9, c10⟩ := par_cells p q6
  go_wp2_with fail
  clear c0 c1 c2 c3 c4 c5 c6 c7 c8 c9 c10
  refine (s7.out _).mono ?_
  rintro x V7 ⟨rfl, k7⟩
  have q7 := q6.trans k7
  obtain ⟨c0, c1, c2, c3, c4, c5, c6, c7, c8, c9, c10⟩ := par_cells p q7
  go_wp2_with fail
  clear c0 c1 c2 c3 c4 c5 c6 c7 c8 c9 c10
  refine (s8.out _).mono ?_
  rintro x V8 ⟨rfl, k8⟩
  have q8 := q7.trans k8
  obtain ⟨c0, c1, c2, c3, c4, c5, c6, c7, c8, c9, c10⟩ := par_cells p q8
  go_wp2_with fail
  clear c0 c1 c2 c3 c4 c5 c6 c7 c8 c9 c10
  refine (s9.out _).mono ?_
  rintro x V9 ⟨rfl, k9⟩
  have q9 := q8.trans k9
  obtain ⟨c0, c1, c2, c3, c4, c5, c6, c7, c8, c9, c10⟩ := par_cells p q9
  go_wp2_with fail
  clear c0 c1 c2 c3 c4 c5 c6 c7 c8 c9 c10
  refine (s10.out _).mono ?_
  rintro x V10 ⟨rfl, k10⟩
  have q10 := q9.trans k10
  obtain ⟨c0, c1, c2, c3, c4, c5, c6, c7, c8, c9, c10⟩ := par_cells p q10
  go_wp2_with fail
  clear c0 c1 c2 c3 c4 c5 c6 c7 c8 c9 c10
  refine (s11.out _).mono ?_
  rintro x V11 ⟨rfl, k11⟩
  have q11 := q10.trans k11
  obtain ⟨c0, c1, c2, c3, c4, c5, c6, c7, c8, c9, c10⟩ := par_cells p q11
  go_wp2_with fail
  clear c0 c1 c2 c3 c4 c5 c6 c7 c8 c9 c10
  refine (s12.out _).mono ?_
  rintro x V12 ⟨rfl, k12⟩
  have q12 := q11.trans k12
  obtain ⟨c0, c1, c2, c3, c4, c5, c6, c7, c8, c9, c10⟩ := par_cells p q12
  go_wp2_with fail
  clear c0 c1 c2 c3 c4 c5 c6 c7 c8 c9 c10
  refine (awake_ok _).mono ?_
  rintro x VA ⟨rfl, kA⟩
  go_wp2_with fail
  go_ret
  exact ⟨rfl, (((Keeps.refl Nob w).alloc _).trans q12).trans kA⟩
end Go.Proofs.Ythoaoknggdohpaa
