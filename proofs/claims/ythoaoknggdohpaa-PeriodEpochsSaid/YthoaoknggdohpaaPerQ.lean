/-
  Period: the law of epochs, walked. Conditions: none.
-/
import Derived.Test.YthoaoknggdohpaaPerP
import Derived.Test.YthoaoknggdohpaaPick2
namespace Go.Proofs.Ythoaoknggdohpaa
open Go Go.RowKit Go.Own Go.Shelf

theorem num_at (n : Int) (w : World) : Calls Try.prog 30 #[.int .i64 n, .int .i64 0] w fun e w' => e = .returned (.int .i64 n) ∧ w = w' :=
  num_any (n, 0) w (by simp) (by simp)

theorem exec_add64 {P : Program} {o : Oper} {ρ : Operand → Value} {w : World} (x y : Operand) (t t' : TypeId) (ho : o.op = .binOp .add t x y t') (hu : P.underlying t = some (.int .i64)) (a b : Int) (hx : ρ x = .int .i64 a) (hy : ρ y = .int .i64 b)
    (h : -9223372036854775808 ≤ a + b ∧ a + b ≤ 9223372036854775807) : (execOp ρ o).run P w = .ok (.value (.int .i64 (a + b))) w := by
  have hw := IntWalk.i64_in (a + b) h
  unfold execOp
  simp [ho, hx, hy, run_underlying hu, hu, go_sem, hw]
theorem par_row (p : Par) {w w' : World} {t : TypeId} (hk : Keeps Nob (w.alloc (.cells p.cells t)) w') : w'.heap[w.heap.size]? = some (.cells p.cells t (0, 0)) := by
  have := hk.block w.heap.size (by simp) (fun x => x)
  rw [this]; exact heap_alloc_new _ _
noncomputable def opsL : Array Oper := opsOf Try.f6 16
noncomputable def opsF : Array Oper := opsOf Try.f6 17

set_option maxRecDepth 100000 in
set_option maxHeartbeats 32000000 in
theorem epochs_ok (p : Par) (hp : p.Ok) (h : Int) (hh : i64ok h) (e : Int) (he : i64ok e) (w : World) :
    Calls Try.prog 6 #[p.v, .int .i64 h, .int .i64 e] w fun x w' => x = .returned (.bool true) ∧ Keeps Nob w w' := by
  have s1 := fun W => pEpoch_ok p hp h hh W
  have sF := Lib.hid (fun q hq W => pFirst_ok p hp q hq W)
  have sL := Lib.hid (fun q hq W => pLast_ok p hp q hq W)
  have sW := Lib.hid (fun q hq W => pLow_ok p hp q hq W)
  have sR := Lib.hid (fun q hq W => pFloor_ok p hp q hq W)
  have q0 : Keeps Nob (w.alloc (.cells p.cells 24)) (w.alloc (.cells p.cells 24)) := Keeps.refl _ _
  have hA : Keeps Nob w (w.alloc (.cells p.cells 24)) := (Keeps.refl _ _).alloc _
  have hpv : p.v = .agg #[.int .i64 p.unb, .int .i64 p.mage, .int .i64 p.elen, .int .i64 p.win, .int .i64 p.ent, .int .i64 p.act, .int .i64 p.jail, .int .u64 p.base, .int .u64 p.mult, .int .i64 p.corr, .int .u64 p.rew] := rfl
  by_cases hf : p.fine [h] = 0
  · obtain ⟨q, a, b, e1, e2, e3, e4, e5, e6, e7, e8, e9, e10, e11⟩ := p.of_epoch h hf
    have HO := fun hz hne => p.other h e q hf e11 hz hne
    have HS := fun hm => p.steps h hf hm
    rw [← e11] at HS
    rw [e1] at s1
    have s2 := fun W => sF.out q e2 W
    have s3 := fun W => sL.out q e2 W
    rw [e5] at s2
    rw [e6] at s3
    have HT : h = 4294967296 ∨ (h < 4294967296 ∧ ∃ lo nx fl th : Int, RowKit.Hid (∀ W, Calls Try.prog 19 #[p.v, .int .i64 h] W fun e w' => e = .returned (.tuple #[.int .i64 lo, .int .i64 0]) ∧ Keeps Nob W w') ∧
        RowKit.Hid (∀ W, Calls Try.prog 19 #[p.v, .int .i64 (h + 1)] W fun e w' => e = .returned (.tuple #[.int .i64 nx, .int .i64 0]) ∧ Keeps Nob W w') ∧
        RowKit.Hid (∀ W, Calls Try.prog 21 #[p.v, .int .i64 h] W fun e w' => e = .returned (.tuple #[.int .i64 fl, .int .i64 0]) ∧ Keeps Nob W w') ∧
        RowKit.Hid (∀ W, Calls Try.prog 21 #[p.v, .int .i64 (h + 1)] W fun e w' => e = .returned (.tuple #[.int .i64 th, .int .i64 0]) ∧ Keeps Nob W w') ∧
        RowKit.Hid (∀ W, Calls Try.prog 30 #[.int .i64 lo, .int .i64 0] W fun e w' => e = .returned (.int .i64 lo) ∧ W = w') ∧
        RowKit.Hid (∀ W, Calls Try.prog 30 #[.int .i64 nx, .int .i64 0] W fun e w' => e = .returned (.int .i64 nx) ∧ W = w') ∧
        RowKit.Hid (∀ W, Calls Try.prog 30 #[.int .i64 fl, .int .i64 0] W fun e w' => e = .returned (.int .i64 fl) ∧ W = w') ∧
        RowKit.Hid (∀ W, Calls Try.prog 30 #[.int .i64 th, .int .i64 0] W fun e w' => e = .returned (.int .i64 th) ∧ W = w') ∧
        0 ≤ lo ∧ lo ≤ q ∧ lo ≤ nx ∧ nx ≤ lo + 1 ∧ 1 ≤ fl ∧ fl ≤ h ∧ fl ≤ th ∧ th ≤ fl + 1) := by
      rcases (show h = 4294967296 ∨ h < 4294967296 by omega) with hm | hm
      · exact .inl hm
      · obtain ⟨lo, nx, fl, th, l1, l2, f1, f2, os⟩ := HS hm
        have hn : i64ok (h + 1) := by unfold i64ok; omega
        refine .inr ⟨hm, lo, nx, fl, th, Lib.hid ?_, Lib.hid ?_, Lib.hid ?_, Lib.hid ?_, Lib.hid (num_at lo), Lib.hid (num_at nx), Lib.hid (num_at fl), Lib.hid (num_at th), os⟩
        · have x := sW.out h hh; rw [l1] at x; exact x
        · have x := sW.out (h + 1) hn; rw [l2] at x; exact x
        · have x := sR.out h hh; rw [f1] at x; exact x
        · have x := sR.out (h + 1) hn; rw [f2] at x; exact x
    have HO' : (∃ c d : Int, RowKit.Hid (∀ W, Calls Try.prog 25 #[p.v, .int .i64 e] W fun x w' => x = .returned (.tuple #[.int .i64 c, .int .i64 0]) ∧ Keeps Nob W w') ∧
          RowKit.Hid (∀ W, Calls Try.prog 27 #[p.v, .int .i64 e] W fun x w' => x = .returned (.tuple #[.int .i64 d, .int .i64 0]) ∧ Keeps Nob W w') ∧ e ≠ q ∧ c ≤ d ∧ (h < c ∨ c ≤ h ∧ d < h)) ∨
        (∃ c z : Int, RowKit.Hid (∀ W, Calls Try.prog 25 #[p.v, .int .i64 e] W fun x w' => x = .returned (.tuple #[.int .i64 c, .int .i64 z]) ∧ Keeps Nob W w') ∧ (z ≠ 0 ∨ z = 0 ∧ e = q)) := by
      have x := sF.out e he
      have y := sL.out e he
      by_cases hz : (p.first e).2 = 0
      · by_cases hne : e = q
        · exact .inr ⟨_, _, Lib.hid x, .inr ⟨hz, hne⟩⟩
        · obtain ⟨c, d, f1, f2, f3, f4⟩ := HO hz hne
          rw [f1] at x; rw [f2] at y
          exact .inl ⟨c, d, Lib.hid x, Lib.hid y, hne, f3, by omega⟩
      · exact .inr ⟨_, _, Lib.hid x, .inl hz⟩
    have S1 := Lib.hid s1
    have S2 := Lib.hid s2
    have S3 := Lib.hid s3
    obtain ⟨hh1, hh2⟩ := hh
    clear s1 s2 s3 HO HS e1 e5 e6 e11 hf e2 sF sL sW sR
    rw [hpv] at HO' S1 S2 S3
    change h = 4294967296 ∨ _ at HT
    rw [hpv]
    clear hpv
    have d1 : decide (h < a) = false := by simp; omega
    have d2 : decide (b < h) = false := by simp; omega
    go_enter Try.func6, Try.ntmps6
    go_wp2_with fail
    refine (known_ok _).mono ?_
    rintro x V0 ⟨rfl, k0⟩
    have q0 := q0.trans k0
    obtain ⟨c0, c1, c2, c3, c4, c5, c6, c7, c8, c9, c10⟩ := par_cells p q0
    go_wp2_with fail
    clear c0 c1 c2 c3 c4 c5 c6 c7 c8 c9 c10
    refine (S1.out _).mono ?_
    rintro x V1 ⟨rfl, k1⟩
    have q1 := q0.trans k1
    obtain ⟨c0, c1, c2, c3, c4, c5, c6, c7, c8, c9, c10⟩ := par_cells p q1
    go_wp2_with fail
    clear c0 c1 c2 c3 c4 c5 c6 c7 c8 c9 c10
    refine (S2.out _).mono ?_
    rintro x V2 ⟨rfl, k2⟩
    have q2 := q1.trans k2
    obtain ⟨c0, c1, c2, c3, c4, c5, c6, c7, c8, c9, c10⟩ := par_cells p q2
    go_wp2_with fail
    clear c0 c1 c2 c3 c4 c5 c6 c7 c8 c9 c10
    refine (S3.out _).mono ?_
    rintro x V3 ⟨rfl, k3⟩
    have q3 := q2.trans k3
    obtain ⟨c0, c1, c2, c3, c4, c5, c6, c7, c8, c9, c10⟩ := par_cells p q3
    go_wp2_with fail
    clear c0 c1 c2 c3 c4 c5 c6 c7 c8 c9 c10
    rcases HT with hm | ⟨hm, lo, nx, fl, th, L1, L2, F1, F2, N1, N2, N3, N4, o1, o2, o3, o4, o5, o6, o7, o8⟩
    · have d3 : (h == 4294967296) = true := by simp; omega
      rcases HO' with ⟨c, d, T1, T2, n1, n2, n3⟩ | ⟨c, z, T1, n1⟩
      · have d4 : (e == q) = false := by simp; omega
        have d5 : decide (d < c) = false := by simp; omega
        refine (T1.out _).mono ?_
        rintro x V4 ⟨rfl, k4⟩
        have q4 := q3.trans k4
        obtain ⟨c0, c1, c2, c3, c4, c5, c6, c7, c8, c9, c10⟩ := par_cells p q4
        go_wp2_with fail
        clear c0 c1 c2 c3 c4 c5 c6 c7 c8 c9 c10
        rcases n3 with n3 | ⟨n3, n4⟩
        · have d6 : decide (c ≤ h) = false := by simp; omega
          refine (T2.out _).mono ?_
          rintro x V5 ⟨rfl, k5⟩
          have q5 := q4.trans k5
          obtain ⟨c0, c1, c2, c3, c4, c5, c6, c7, c8, c9, c10⟩ := par_cells p q5
          go_wp2_with fail
          go_ret
          exact ⟨rfl, hA.trans q5⟩
        · have d6 : decide (c ≤ h) = true := by simp; omega
          have d7 : decide (h ≤ d) = false := by simp; omega
          refine (T2.out _).mono ?_
          rintro x V5 ⟨rfl, k5⟩
          have q5 := q4.trans k5
          obtain ⟨c0, c1, c2, c3, c4, c5, c6, c7, c8, c9, c10⟩ := par_cells p q5
          go_wp2_with fail
          go_ret
          exact ⟨rfl, hA.trans q5⟩
      · rcases n1 with n1 | ⟨rfl, rfl⟩
        · have d4 : (z == 0) = false := by simp; omega
          refine (T1.out _).mono ?_
          rintro x V4 ⟨rfl, k4⟩
          have q4 := q3.trans k4
          obtain ⟨c0, c1, c2, c3, c4, c5, c6, c7, c8, c9, c10⟩ := par_cells p q4
          go_wp2_with fail
          go_ret
          exact ⟨rfl, hA.trans q4⟩
        · skip
          refine (T1.out _).mono ?_
          rintro x V4 ⟨rfl, k4⟩
          have q4 := q3.trans k4
          obtain ⟨c0, c1, c2, c3, c4, c5, c6, c7, c8, c9, c10⟩ := par_cells p q4
          go_wp2_with fail
          go_ret
          exact ⟨rfl, hA.trans q4⟩
    · have d3 : (h == 4294967296) = false := by simp; omega
      have g0 : decide (0 ≤ lo) = true := by simp; omega
      have g1 : decide (lo ≤ q) = true := by simp; omega
      have g2 : decide (lo ≤ nx) = true := by simp; omega
      have g3 : decide (nx ≤ lo + 1) = true := by simp; omega
      have g4 : decide (1 ≤ fl) = true := by simp; omega
      have g5 : decide (fl ≤ h) = true := by simp; omega
      have g6 : decide (fl ≤ th) = true := by simp; omega
      have g7 : decide (th ≤ fl + 1) = true := by simp; omega
      rcases HO' with ⟨c, d, T1, T2, n1, n2, n3⟩ | ⟨c, z, T1, n1⟩
      · have d4 : (e == q) = false := by simp; omega
        have d5 : decide (d < c) = false := by simp; omega
        refine (T1.out _).mono ?_
        rintro x V4 ⟨rfl, k4⟩
        have q4 := q3.trans k4
        obtain ⟨c0, c1, c2, c3, c4, c5, c6, c7, c8, c9, c10⟩ := par_cells p q4
        go_wp2_with fail
        clear c0 c1 c2 c3 c4 c5 c6 c7 c8 c9 c10
        rcases n3 with n3 | ⟨n3, n4⟩
        · have d6 : decide (c ≤ h) = false := by simp; omega
          refine (T2.out _).mono ?_
          rintro x V5 ⟨rfl, k5⟩
          have q5 := q4.trans k5
          obtain ⟨c0, c1, c2, c3, c4, c5, c6, c7, c8, c9, c10⟩ := par_cells p q5
          go_wp2_with fail
          have qdL := q5.drew
          refine wp_region_noPanic ?_
          refine region_named (R := opsL) (by kernel_rfl) ?_
          refine wp_regionH_fuel (fun W => Keeps Nob (w.alloc (.cells p.cells 24)) W) 15 #[false, false, false, false, false, false, false, false, false, false, false, false, false, false, false] (by kernel_rfl) (by kernel_rfl) rfl ?_
          refine wpAnyH_val (i := 0) (opsL.getD 0 default) (.agg p.cells) (by kernel_rfl) (fun _ _ _ _ _ h => h) (by kernel_rfl) (by kernel_rfl) (by kernel_rfl) (by kernel_rfl) (fun W hW => exec_load_row 24 (.tmp 3) (by kernel_rfl) _ (by kernel_rfl) 24 p.cells (0, 0) _ (par_row p hW) Try.underlying24 rfl (by kernel_rfl)) qdL ?_
          refine wpAnyH_val (i := 1) (opsL.getD 1 default) (.int .i64 h) (by kernel_rfl) (fun _ _ _ _ _ h => h) (by kernel_rfl) (by kernel_rfl) (by kernel_rfl) (by kernel_rfl) (fun W hW => by kernel_rfl) qdL ?_
          refine wpAnyH_val (i := 6) (opsL.getD 6 default) (.agg p.cells) (by kernel_rfl) (fun _ _ _ _ _ h => h) (by kernel_rfl) (by kernel_rfl) (by kernel_rfl) (by kernel_rfl) (fun W hW => exec_load_row 24 (.tmp 3) (by kernel_rfl) _ (by kernel_rfl) 24 p.cells (0, 0) _ (par_row p hW) Try.underlying24 rfl (by kernel_rfl)) qdL ?_
          refine wpAnyH_val (i := 7) (opsL.getD 7 default) (.int .i64 h) (by kernel_rfl) (fun _ _ _ _ _ h => h) (by kernel_rfl) (by kernel_rfl) (by kernel_rfl) (by kernel_rfl) (fun W hW => by kernel_rfl) qdL ?_
          refine wpAnyH_val (i := 8) (opsL.getD 8 default) (.int .i64 (h + 1)) (by kernel_rfl) (fun _ _ _ _ _ h => h) (by kernel_rfl) (by kernel_rfl) (by kernel_rfl) (by kernel_rfl) (fun W hW => exec_add64 (.tmp 106) (.const (.int .i64 1)) 3 3 (by kernel_rfl) (by kernel_rfl) h 1 (by kernel_rfl) (by kernel_rfl) (by omega)) qdL ?_
          refine wpAnyH_call (i := 2) (opsL.getD 2 default) 19 #[.agg p.cells, .int .i64 h] (by kernel_rfl) (by kernel_rfl) (by kernel_rfl) (by kernel_rfl) (by kernel_rfl) (enters_of Try.func19 (by kernel_rfl) rfl) ((L1.out _).mono ?_)
          rintro e W1L ⟨rfl, kW1L⟩
          have qW1L := qdL.trans kW1L
          refine ⟨_, rfl, qW1L, ?_⟩
          refine wpAnyH_val (i := 3) (opsL.getD 3 default) (.int .i64 lo) (by kernel_rfl) (fun _ _ _ _ _ h => h) (by kernel_rfl) (by kernel_rfl) (by kernel_rfl) (by kernel_rfl) (fun W hW => by kernel_rfl) qW1L ?_
          refine wpAnyH_val (i := 4) (opsL.getD 4 default) (.int .i64 0) (by kernel_rfl) (fun _ _ _ _ _ h => h) (by kernel_rfl) (by kernel_rfl) (by kernel_rfl) (by kernel_rfl) (fun W hW => by kernel_rfl) qW1L ?_
          refine wpAnyH_call (i := 5) (opsL.getD 5 default) 30 #[.int .i64 lo, .int .i64 0] (by kernel_rfl) (by kernel_rfl) (by kernel_rfl) (by kernel_rfl) (by kernel_rfl) (enters_of Try.func30 (by kernel_rfl) rfl) ((N1.out _).mono ?_)
          rintro e _ ⟨rfl, rfl⟩
          refine ⟨_, rfl, qW1L, ?_⟩
          refine wpAnyH_call (i := 9) (opsL.getD 9 default) 19 #[.agg p.cells, .int .i64 (h + 1)] (by kernel_rfl) (by kernel_rfl) (by kernel_rfl) (by kernel_rfl) (by kernel_rfl) (enters_of Try.func19 (by kernel_rfl) rfl) ((L2.out _).mono ?_)
          rintro e W2L ⟨rfl, kW2L⟩
          have qW2L := qW1L.trans kW2L
          refine ⟨_, rfl, qW2L, ?_⟩
          refine wpAnyH_val (i := 10) (opsL.getD 10 default) (.int .i64 nx) (by kernel_rfl) (fun _ _ _ _ _ h => h) (by kernel_rfl) (by kernel_rfl) (by kernel_rfl) (by kernel_rfl) (fun W hW => by kernel_rfl) qW2L ?_
          refine wpAnyH_val (i := 11) (opsL.getD 11 default) (.int .i64 0) (by kernel_rfl) (fun _ _ _ _ _ h => h) (by kernel_rfl) (by kernel_rfl) (by kernel_rfl) (by kernel_rfl) (fun W hW => by kernel_rfl) qW2L ?_
          refine wpAnyH_call (i := 12) (opsL.getD 12 default) 30 #[.int .i64 nx, .int .i64 0] (by kernel_rfl) (by kernel_rfl) (by kernel_rfl) (by kernel_rfl) (by kernel_rfl) (enters_of Try.func30 (by kernel_rfl) rfl) ((N2.out _).mono ?_)
          rintro e _ ⟨rfl, rfl⟩
          refine ⟨_, rfl, qW2L, ?_⟩
          refine wpAnyH_val (i := 13) (opsL.getD 13 default) (.int .i64 lo) (by kernel_rfl) (fun _ _ _ _ _ h => h) (by kernel_rfl) (by kernel_rfl) (by kernel_rfl) (by kernel_rfl) (fun W hW => by kernel_rfl) qW2L ?_
          refine wpAnyH_val (i := 14) (opsL.getD 14 default) (.int .i64 nx) (by kernel_rfl) (fun _ _ _ _ _ h => h) (by kernel_rfl) (by kernel_rfl) (by kernel_rfl) (by kernel_rfl) (fun W hW => by kernel_rfl) qW2L ?_
          refine wpAnyH_done (by kernel_rfl) ?_ _
          refine NoPanic.normal ?_
          refine state_eq (b := ⟨#[Value.agg #[Value.int IntKind.i64 p.unb, Value.int IntKind.i64 p.mage, Value.int IntKind.i64 p.elen, Value.int IntKind.i64 p.win, Value.int IntKind.i64 p.ent, Value.int IntKind.i64 p.act, Value.int IntKind.i64 p.jail, Value.int IntKind.u64 p.base, Value.int IntKind.u64 p.mult, Value.int IntKind.i64 p.corr, Value.int IntKind.u64 p.rew], Value.int IntKind.i64 h, Value.int IntKind.i64 e, Value.pointer (some ⟨w.heap.size, 0, none⟩), undef, undef, Value.bool false, Value.bool true, Value.int IntKind.i64 q, Value.int IntKind.i64 0, Value.int IntKind.i64 a, Value.int IntKind.i64 0, Value.int IntKind.i64 b, Value.int IntKind.i64 0, Value.int IntKind.i64 c, Value.int IntKind.i64 0, Value.int IntKind.i64 d, Value.int IntKind.i64 0, Value.int IntKind.i64 lo, Value.int IntKind.i64 nx, undef, undef, Value.bool true, Value.tuple #[Value.int IntKind.i64 q, Value.int IntKind.i64 0], Value.agg #[Value.int IntKind.i64 p.unb, Value.int IntKind.i64 p.mage, Value.int IntKind.i64 p.elen, Value.int IntKind.i64 p.win, Value.int IntKind.i64 p.ent, Value.int IntKind.i64 p.act, Value.int IntKind.i64 p.jail, Value.int IntKind.u64 p.base, Value.int IntKind.u64 p.mult, Value.int IntKind.i64 p.corr, Value.int IntKind.u64 p.rew], Value.int IntKind.i64 h, Value.tuple #[Value.int IntKind.i64 q, Value.int IntKind.i64 0], Value.int IntKind.i64 q, Value.int IntKind.i64 0, Value.int IntKind.i64 0, Value.bool false, undef, Value.tuple #[Value.int IntKind.i64 a, Value.int IntKind.i64 0], Value.agg #[Value.int IntKind.i64 p.unb, Value.int IntKind.i64 p.mage, Value.int IntKind.i64 p.elen, Value.int IntKind.i64 p.win, Value.int IntKind.i64 p.ent, Value.int IntKind.i64 p.act, Value.int IntKind.i64 p.jail, Value.int IntKind.u64 p.base, Value.int IntKind.u64 p.mult, Value.int IntKind.i64 p.corr, Value.int IntKind.u64 p.rew], Value.int IntKind.i64 q, Value.tuple #[Value.int IntKind.i64 a, Value.int IntKind.i64 0], Value.int IntKind.i64 a, Value.int IntKind.i64 0, Value.tuple #[Value.int IntKind.i64 b, Value.int IntKind.i64 0], Value.agg #[Value.int IntKind.i64 p.unb, Value.int IntKind.i64 p.mage, Value.int IntKind.i64 p.elen, Value.int IntKind.i64 p.win, Value.int IntKind.i64 p.ent, Value.int IntKind.i64 p.act, Value.int IntKind.i64 p.jail, Value.int IntKind.u64 p.base, Value.int IntKind.u64 p.mult, Value.int IntKind.i64 p.corr, Value.int IntKind.u64 p.rew], Value.int IntKind.i64 q, Value.tuple #[Value.int IntKind.i64 b, Value.int IntKind.i64 0], Value.int IntKind.i64 b, Value.int IntKind.i64 0, Value.int IntKind.i64 0, Value.bool false, Value.bool false, Value.int IntKind.i64 0, Value.bool false, Value.bool false, Value.bool false, Value.int IntKind.i64 a, Value.int IntKind.i64 h, Value.bool false, Value.bool false, Value.bool false, Value.int IntKind.i64 b, Value.int IntKind.i64 h, Value.bool false, Value.bool false, Value.tuple #[Value.int IntKind.i64 c, Value.int IntKind.i64 0], Value.agg #[Value.int IntKind.i64 p.unb, Value.int IntKind.i64 p.mage, Value.int IntKind.i64 p.elen, Value.int IntKind.i64 p.win, Value.int IntKind.i64 p.ent, Value.int IntKind.i64 p.act, Value.int IntKind.i64 p.jail, Value.int IntKind.u64 p.base, Value.int IntKind.u64 p.mult, Value.int IntKind.i64 p.corr, Value.int IntKind.u64 p.rew], Value.int IntKind.i64 e, Value.tuple #[Value.int IntKind.i64 c, Value.int IntKind.i64 0], Value.int IntKind.i64 c, Value.int IntKind.i64 0, Value.int IntKind.i64 0, Value.bool true, Value.bool true, Value.int IntKind.i64 e, Value.int IntKind.i64 q, Value.bool true, Value.bool true, Value.tuple #[Value.int IntKind.i64 d, Value.int IntKind.i64 0], Value.agg #[Value.int IntKind.i64 p.unb, Value.int IntKind.i64 p.mage, Value.int IntKind.i64 p.elen, Value.int IntKind.i64 p.win, Value.int IntKind.i64 p.ent, Value.int IntKind.i64 p.act, Value.int IntKind.i64 p.jail, Value.int IntKind.u64 p.base, Value.int IntKind.u64 p.mult, Value.int IntKind.i64 p.corr, Value.int IntKind.u64 p.rew], Value.int IntKind.i64 e, Value.tuple #[Value.int IntKind.i64 d, Value.int IntKind.i64 0], Value.int IntKind.i64 d, Value.int IntKind.i64 0, Value.int IntKind.i64 0, Value.bool false, Value.bool false, Value.int IntKind.i64 c, Value.int IntKind.i64 d, Value.bool false, Value.bool false, Value.bool false, Value.int IntKind.i64 c, Value.int IntKind.i64 h, Value.bool false, Value.bool false, undef, undef, undef, Value.bool false, Value.bool false, Value.int IntKind.i64 h, Value.bool false, undef, Value.agg p.cells, Value.int IntKind.i64 h, Value.tuple #[Value.int IntKind.i64 lo, Value.int IntKind.i64 0], Value.int IntKind.i64 lo, Value.int IntKind.i64 0, Value.int IntKind.i64 lo, Value.agg p.cells, Value.int IntKind.i64 h, Value.int IntKind.i64 (h + 1), Value.tuple #[Value.int IntKind.i64 nx, Value.int IntKind.i64 0], Value.int IntKind.i64 nx, Value.int IntKind.i64 0, Value.int IntKind.i64 nx, undef, undef, undef, undef, undef, undef, undef, undef, undef, undef, undef, undef, undef, undef, undef, undef, undef, undef, undef, undef, undef, undef, undef, undef, undef, undef, undef, undef, undef, undef, undef, undef, undef, undef, undef, undef, undef, undef, undef, undef, undef, undef, undef, undef, undef, undef, undef, undef, undef, undef, undef, undef, undef, undef], []⟩) (by kernel_rfl) ?_
          go_wp2_with fail
          have qdF := qW2L.drew
          refine wp_region_noPanic ?_
          refine region_named (R := opsF) (by kernel_rfl) ?_
          refine wp_regionH_fuel (fun W => Keeps Nob (w.alloc (.cells p.cells 24)) W) 15 #[false, false, false, false, false, false, false, false, false, false, false, false, false, false, false] (by kernel_rfl) (by kernel_rfl) rfl ?_
          refine wpAnyH_val (i := 0) (opsF.getD 0 default) (.agg p.cells) (by kernel_rfl) (fun _ _ _ _ _ h => h) (by kernel_rfl) (by kernel_rfl) (by kernel_rfl) (by kernel_rfl) (fun W hW => exec_load_row 24 (.tmp 3) (by kernel_rfl) _ (by kernel_rfl) 24 p.cells (0, 0) _ (par_row p hW) Try.underlying24 rfl (by kernel_rfl)) qdF ?_
          refine wpAnyH_val (i := 1) (opsF.getD 1 default) (.int .i64 h) (by kernel_rfl) (fun _ _ _ _ _ h => h) (by kernel_rfl) (by kernel_rfl) (by kernel_rfl) (by kernel_rfl) (fun W hW => by kernel_rfl) qdF ?_
          refine wpAnyH_val (i := 6) (opsF.getD 6 default) (.agg p.cells) (by kernel_rfl) (fun _ _ _ _ _ h => h) (by kernel_rfl) (by kernel_rfl) (by kernel_rfl) (by kernel_rfl) (fun W hW => exec_load_row 24 (.tmp 3) (by kernel_rfl) _ (by kernel_rfl) 24 p.cells (0, 0) _ (par_row p hW) Try.underlying24 rfl (by kernel_rfl)) qdF ?_
          refine wpAnyH_val (i := 7) (opsF.getD 7 default) (.int .i64 h) (by kernel_rfl) (fun _ _ _ _ _ h => h) (by kernel_rfl) (by kernel_rfl) (by kernel_rfl) (by kernel_rfl) (fun W hW => by kernel_rfl) qdF ?_
          refine wpAnyH_val (i := 8) (opsF.getD 8 default) (.int .i64 (h + 1)) (by kernel_rfl) (fun _ _ _ _ _ h => h) (by kernel_rfl) (by kernel_rfl) (by kernel_rfl) (by kernel_rfl) (fun W hW => exec_add64 (.tmp 119) (.const (.int .i64 1)) 3 3 (by kernel_rfl) (by kernel_rfl) h 1 (by kernel_rfl) (by kernel_rfl) (by omega)) qdF ?_
          refine wpAnyH_call (i := 2) (opsF.getD 2 default) 21 #[.agg p.cells, .int .i64 h] (by kernel_rfl) (by kernel_rfl) (by kernel_rfl) (by kernel_rfl) (by kernel_rfl) (enters_of Try.func21 (by kernel_rfl) rfl) ((F1.out _).mono ?_)
          rintro e W1F ⟨rfl, kW1F⟩
          have qW1F := qdF.trans kW1F
          refine ⟨_, rfl, qW1F, ?_⟩
          refine wpAnyH_val (i := 3) (opsF.getD 3 default) (.int .i64 fl) (by kernel_rfl) (fun _ _ _ _ _ h => h) (by kernel_rfl) (by kernel_rfl) (by kernel_rfl) (by kernel_rfl) (fun W hW => by kernel_rfl) qW1F ?_
          refine wpAnyH_val (i := 4) (opsF.getD 4 default) (.int .i64 0) (by kernel_rfl) (fun _ _ _ _ _ h => h) (by kernel_rfl) (by kernel_rfl) (by kernel_rfl) (by kernel_rfl) (fun W hW => by kernel_rfl) qW1F ?_
          refine wpAnyH_call (i := 5) (opsF.getD 5 default) 30 #[.int .i64 fl, .int .i64 0] (by kernel_rfl) (by kernel_rfl) (by kernel_rfl) (by kernel_rfl) (by kernel_rfl) (enters_of Try.func30 (by kernel_rfl) rfl) ((N3.out _).mono ?_)
          rintro e _ ⟨rfl, rfl⟩
          refine ⟨_, rfl, qW1F, ?_⟩
          refine wpAnyH_call (i := 9) (opsF.getD 9 default) 21 #[.agg p.cells, .int .i64 (h + 1)] (by kernel_rfl) (by kernel_rfl) (by kernel_rfl) (by kernel_rfl) (by kernel_rfl) (enters_of Try.func21 (by kernel_rfl) rfl) ((F2.out _).mono ?_)
          rintro e W2F ⟨rfl, kW2F⟩
          have qW2F := qW1F.trans kW2F
          refine ⟨_, rfl, qW2F, ?_⟩
          refine wpAnyH_val (i := 10) (opsF.getD 10 default) (.int .i64 th) (by kernel_rfl) (fun _ _ _ _ _ h => h) (by kernel_rfl) (by kernel_rfl) (by kernel_rfl) (by kernel_rfl) (fun W hW => by kernel_rfl) qW2F ?_
          refine wpAnyH_val (i := 11) (opsF.getD 11 default) (.int .i64 0) (by kernel_rfl) (fun _ _ _ _ _ h => h) (by kernel_rfl) (by kernel_rfl) (by kernel_rfl) (by kernel_rfl) (fun W hW => by kernel_rfl) qW2F ?_
          refine wpAnyH_call (i := 12) (opsF.getD 12 default) 30 #[.int .i64 th, .int .i64 0] (by kernel_rfl) (by kernel_rfl) (by kernel_rfl) (by kernel_rfl) (by kernel_rfl) (enters_of Try.func30 (by kernel_rfl) rfl) ((N4.out _).mono ?_)
          rintro e _ ⟨rfl, rfl⟩
          refine ⟨_, rfl, qW2F, ?_⟩
          refine wpAnyH_val (i := 13) (opsF.getD 13 default) (.int .i64 fl) (by kernel_rfl) (fun _ _ _ _ _ h => h) (by kernel_rfl) (by kernel_rfl) (by kernel_rfl) (by kernel_rfl) (fun W hW => by kernel_rfl) qW2F ?_
          refine wpAnyH_val (i := 14) (opsF.getD 14 default) (.int .i64 th) (by kernel_rfl) (fun _ _ _ _ _ h => h) (by kernel_rfl) (by kernel_rfl) (by kernel_rfl) (by kernel_rfl) (fun W hW => by kernel_rfl) qW2F ?_
          refine wpAnyH_done (by kernel_rfl) ?_ _
          refine NoPanic.normal ?_
          refine state_eq (b := ⟨#[Value.agg #[Value.int IntKind.i64 p.unb, Value.int IntKind.i64 p.mage, Value.int IntKind.i64 p.elen, Value.int IntKind.i64 p.win, Value.int IntKind.i64 p.ent, Value.int IntKind.i64 p.act, Value.int IntKind.i64 p.jail, Value.int IntKind.u64 p.base, Value.int IntKind.u64 p.mult, Value.int IntKind.i64 p.corr, Value.int IntKind.u64 p.rew], Value.int IntKind.i64 h, Value.int IntKind.i64 e, Value.pointer (some ⟨w.heap.size, 0, none⟩), undef, undef, Value.bool false, Value.bool true, Value.int IntKind.i64 q, Value.int IntKind.i64 0, Value.int IntKind.i64 a, Value.int IntKind.i64 0, Value.int IntKind.i64 b, Value.int IntKind.i64 0, Value.int IntKind.i64 c, Value.int IntKind.i64 0, Value.int IntKind.i64 d, Value.int IntKind.i64 0, Value.int IntKind.i64 lo, Value.int IntKind.i64 nx, Value.int IntKind.i64 fl, Value.int IntKind.i64 th, Value.bool true, Value.tuple #[Value.int IntKind.i64 q, Value.int IntKind.i64 0], Value.agg #[Value.int IntKind.i64 p.unb, Value.int IntKind.i64 p.mage, Value.int IntKind.i64 p.elen, Value.int IntKind.i64 p.win, Value.int IntKind.i64 p.ent, Value.int IntKind.i64 p.act, Value.int IntKind.i64 p.jail, Value.int IntKind.u64 p.base, Value.int IntKind.u64 p.mult, Value.int IntKind.i64 p.corr, Value.int IntKind.u64 p.rew], Value.int IntKind.i64 h, Value.tuple #[Value.int IntKind.i64 q, Value.int IntKind.i64 0], Value.int IntKind.i64 q, Value.int IntKind.i64 0, Value.int IntKind.i64 0, Value.bool false, undef, Value.tuple #[Value.int IntKind.i64 a, Value.int IntKind.i64 0], Value.agg #[Value.int IntKind.i64 p.unb, Value.int IntKind.i64 p.mage, Value.int IntKind.i64 p.elen, Value.int IntKind.i64 p.win, Value.int IntKind.i64 p.ent, Value.int IntKind.i64 p.act, Value.int IntKind.i64 p.jail, Value.int IntKind.u64 p.base, Value.int IntKind.u64 p.mult, Value.int IntKind.i64 p.corr, Value.int IntKind.u64 p.rew], Value.int IntKind.i64 q, Value.tuple #[Value.int IntKind.i64 a, Value.int IntKind.i64 0], Value.int IntKind.i64 a, Value.int IntKind.i64 0, Value.tuple #[Value.int IntKind.i64 b, Value.int IntKind.i64 0], Value.agg #[Value.int IntKind.i64 p.unb, Value.int IntKind.i64 p.mage, Value.int IntKind.i64 p.elen, Value.int IntKind.i64 p.win, Value.int IntKind.i64 p.ent, Value.int IntKind.i64 p.act, Value.int IntKind.i64 p.jail, Value.int IntKind.u64 p.base, Value.int IntKind.u64 p.mult, Value.int IntKind.i64 p.corr, Value.int IntKind.u64 p.rew], Value.int IntKind.i64 q, Value.tuple #[Value.int IntKind.i64 b, Value.int IntKind.i64 0], Value.int IntKind.i64 b, Value.int IntKind.i64 0, Value.int IntKind.i64 0, Value.bool false, Value.bool false, Value.int IntKind.i64 0, Value.bool false, Value.bool false, Value.bool false, Value.int IntKind.i64 a, Value.int IntKind.i64 h, Value.bool false, Value.bool false, Value.bool false, Value.int IntKind.i64 b, Value.int IntKind.i64 h, Value.bool false, Value.bool false, Value.tuple #[Value.int IntKind.i64 c, Value.int IntKind.i64 0], Value.agg #[Value.int IntKind.i64 p.unb, Value.int IntKind.i64 p.mage, Value.int IntKind.i64 p.elen, Value.int IntKind.i64 p.win, Value.int IntKind.i64 p.ent, Value.int IntKind.i64 p.act, Value.int IntKind.i64 p.jail, Value.int IntKind.u64 p.base, Value.int IntKind.u64 p.mult, Value.int IntKind.i64 p.corr, Value.int IntKind.u64 p.rew], Value.int IntKind.i64 e, Value.tuple #[Value.int IntKind.i64 c, Value.int IntKind.i64 0], Value.int IntKind.i64 c, Value.int IntKind.i64 0, Value.int IntKind.i64 0, Value.bool true, Value.bool true, Value.int IntKind.i64 e, Value.int IntKind.i64 q, Value.bool true, Value.bool true, Value.tuple #[Value.int IntKind.i64 d, Value.int IntKind.i64 0], Value.agg #[Value.int IntKind.i64 p.unb, Value.int IntKind.i64 p.mage, Value.int IntKind.i64 p.elen, Value.int IntKind.i64 p.win, Value.int IntKind.i64 p.ent, Value.int IntKind.i64 p.act, Value.int IntKind.i64 p.jail, Value.int IntKind.u64 p.base, Value.int IntKind.u64 p.mult, Value.int IntKind.i64 p.corr, Value.int IntKind.u64 p.rew], Value.int IntKind.i64 e, Value.tuple #[Value.int IntKind.i64 d, Value.int IntKind.i64 0], Value.int IntKind.i64 d, Value.int IntKind.i64 0, Value.int IntKind.i64 0, Value.bool false, Value.bool false, Value.int IntKind.i64 c, Value.int IntKind.i64 d, Value.bool false, Value.bool false, Value.bool false, Value.int IntKind.i64 c, Value.int IntKind.i64 h, Value.bool false, Value.bool false, undef, undef, undef, Value.bool false, Value.bool false, Value.int IntKind.i64 h, Value.bool false, undef, Value.agg p.cells, Value.int IntKind.i64 h, Value.tuple #[Value.int IntKind.i64 lo, Value.int IntKind.i64 0], Value.int IntKind.i64 lo, Value.int IntKind.i64 0, Value.int IntKind.i64 lo, Value.agg p.cells, Value.int IntKind.i64 h, Value.int IntKind.i64 (h + 1), Value.tuple #[Value.int IntKind.i64 nx, Value.int IntKind.i64 0], Value.int IntKind.i64 nx, Value.int IntKind.i64 0, Value.int IntKind.i64 nx, Value.agg p.cells, Value.int IntKind.i64 h, Value.tuple #[Value.int IntKind.i64 fl, Value.int IntKind.i64 0], Value.int IntKind.i64 fl, Value.int IntKind.i64 0, Value.int IntKind.i64 fl, Value.agg p.cells, Value.int IntKind.i64 h, Value.int IntKind.i64 (h + 1), Value.tuple #[Value.int IntKind.i64 th, Value.int IntKind.i64 0], Value.int IntKind.i64 th, Value.int IntKind.i64 0, Value.int IntKind.i64 th, undef, undef, undef, undef, undef, undef, undef, undef, undef, undef, undef, undef, undef, undef, undef, undef, undef, undef, undef, undef, undef, undef, undef, undef, undef, undef, undef, undef, undef, undef, undef, undef, undef, undef, undef, undef, undef, undef, undef, undef, undef], []⟩) (by kernel_rfl) ?_
          go_wp2_with fail
          go_ret
          exact ⟨rfl, hA.trans qW2F⟩
        · have d6 : decide (c ≤ h) = true := by simp; omega
          have d7 : decide (h ≤ d) = false := by simp; omega
          refine (T2.out _).mono ?_
          rintro x V5 ⟨rfl, k5⟩
          have q5 := q4.trans k5
          obtain ⟨c0, c1, c2, c3, c4, c5, c6, c7, c8, c9, c10⟩ := par_cells p q5
          go_wp2_with fail
          have qdL := q5.drew
          refine wp_region_noPanic ?_
          refine region_named (R := opsL) (by kernel_rfl) ?_
          refine wp_regionH_fuel (fun W => Keeps Nob (w.alloc (.cells p.cells 24)) W) 15 #[false, false, false, false, false, false, false, false, false, false, false, false, false, false, false] (by kernel_rfl) (by kernel_rfl) rfl ?_
          refine wpAnyH_val (i := 0) (opsL.getD 0 default) (.agg p.cells) (by kernel_rfl) (fun _ _ _ _ _ h => h) (by kernel_rfl) (by kernel_rfl) (by kernel_rfl) (by kernel_rfl) (fun W hW => exec_load_row 24 (.tmp 3) (by kernel_rfl) _ (by kernel_rfl) 24 p.cells (0, 0) _ (par_row p hW) Try.underlying24 rfl (by kernel_rfl)) qdL ?_
          refine wpAnyH_val (i := 1) (opsL.getD 1 default) (.int .i64 h) (by kernel_rfl) (fun _ _ _ _ _ h => h) (by kernel_rfl) (by kernel_rfl) (by kernel_rfl) (by kernel_rfl) (fun W hW => by kernel_rfl) qdL ?_
          refine wpAnyH_val (i := 6) (opsL.getD 6 default) (.agg p.cells) (by kernel_rfl) (fun _ _ _ _ _ h => h) (by kernel_rfl) (by kernel_rfl) (by kernel_rfl) (by kernel_rfl) (fun W hW => exec_load_row 24 (.tmp 3) (by kernel_rfl) _ (by kernel_rfl) 24 p.cells (0, 0) _ (par_row p hW) Try.underlying24 rfl (by kernel_rfl)) qdL ?_
          refine wpAnyH_val (i := 7) (opsL.getD 7 default) (.int .i64 h) (by kernel_rfl) (fun _ _ _ _ _ h => h) (by kernel_rfl) (by kernel_rfl) (by kernel_rfl) (by kernel_rfl) (fun W hW => by kernel_rfl) qdL ?_
          refine wpAnyH_val (i := 8) (opsL.getD 8 default) (.int .i64 (h + 1)) (by kernel_rfl) (fun _ _ _ _ _ h => h) (by kernel_rfl) (by kernel_rfl) (by kernel_rfl) (by kernel_rfl) (fun W hW => exec_add64 (.tmp 106) (.const (.int .i64 1)) 3 3 (by kernel_rfl) (by kernel_rfl) h 1 (by kernel_rfl) (by kernel_rfl) (by omega)) qdL ?_
          refine wpAnyH_call (i := 2) (opsL.getD 2 default) 19 #[.agg p.cells, .int .i64 h] (by kernel_rfl) (by kernel_rfl) (by kernel_rfl) (by kernel_rfl) (by kernel_rfl) (enters_of Try.func19 (by kernel_rfl) rfl) ((L1.out _).mono ?_)
          rintro e W1L ⟨rfl, kW1L⟩
          have qW1L := qdL.trans kW1L
          refine ⟨_, rfl, qW1L, ?_⟩
          refine wpAnyH_val (i := 3) (opsL.getD 3 default) (.int .i64 lo) (by kernel_rfl) (fun _ _ _ _ _ h => h) (by kernel_rfl) (by kernel_rfl) (by kernel_rfl) (by kernel_rfl) (fun W hW => by kernel_rfl) qW1L ?_
          refine wpAnyH_val (i := 4) (opsL.getD 4 default) (.int .i64 0) (by kernel_rfl) (fun _ _ _ _ _ h => h) (by kernel_rfl) (by kernel_rfl) (by kernel_rfl) (by kernel_rfl) (fun W hW => by kernel_rfl) qW1L ?_
          refine wpAnyH_call (i := 5) (opsL.getD 5 default) 30 #[.int .i64 lo, .int .i64 0] (by kernel_rfl) (by kernel_rfl) (by kernel_rfl) (by kernel_rfl) (by kernel_rfl) (enters_of Try.func30 (by kernel_rfl) rfl) ((N1.out _).mono ?_)
          rintro e _ ⟨rfl, rfl⟩
          refine ⟨_, rfl, qW1L, ?_⟩
          refine wpAnyH_call (i := 9) (opsL.getD 9 default) 19 #[.agg p.cells, .int .i64 (h + 1)] (by kernel_rfl) (by kernel_rfl) (by kernel_rfl) (by kernel_rfl) (by kernel_rfl) (enters_of Try.func19 (by kernel_rfl) rfl) ((L2.out _).mono ?_)
          rintro e W2L ⟨rfl, kW2L⟩
          have qW2L := qW1L.trans kW2L
          refine ⟨_, rfl, qW2L, ?_⟩
          refine wpAnyH_val (i := 10) (opsL.getD 10 default) (.int .i64 nx) (by kernel_rfl) (fun _ _ _ _ _ h => h) (by kernel_rfl) (by kernel_rfl) (by kernel_rfl) (by kernel_rfl) (fun W hW => by kernel_rfl) qW2L ?_
          refine wpAnyH_val (i := 11) (opsL.getD 11 default) (.int .i64 0) (by kernel_rfl) (fun _ _ _ _ _ h => h) (by kernel_rfl) (by kernel_rfl) (by kernel_rfl) (by kernel_rfl) (fun W hW => by kernel_rfl) qW2L ?_
          refine wpAnyH_call (i := 12) (opsL.getD 12 default) 30 #[.int .i64 nx, .int .i64 0] (by kernel_rfl) (by kernel_rfl) (by kernel_rfl) (by kernel_rfl) (by kernel_rfl) (enters_of Try.func30 (by kernel_rfl) rfl) ((N2.out _).mono ?_)
          rintro e _ ⟨rfl, rfl⟩
          refine ⟨_, rfl, qW2L, ?_⟩
          refine wpAnyH_val (i := 13) (opsL.getD 13 default) (.int .i64 lo) (by kernel_rfl) (fun _ _ _ _ _ h => h) (by kernel_rfl) (by kernel_rfl) (by kernel_rfl) (by kernel_rfl) (fun W hW => by kernel_rfl) qW2L ?_
          refine wpAnyH_val (i := 14) (opsL.getD 14 default) (.int .i64 nx) (by kernel_rfl) (fun _ _ _ _ _ h => h) (by kernel_rfl) (by kernel_rfl) (by kernel_rfl) (by kernel_rfl) (fun W hW => by kernel_rfl) qW2L ?_
          refine wpAnyH_done (by kernel_rfl) ?_ _
          refine NoPanic.normal ?_
          refine state_eq (b := ⟨#[Value.agg #[Value.int IntKind.i64 p.unb, Value.int IntKind.i64 p.mage, Value.int IntKind.i64 p.elen, Value.int IntKind.i64 p.win, Value.int IntKind.i64 p.ent, Value.int IntKind.i64 p.act, Value.int IntKind.i64 p.jail, Value.int IntKind.u64 p.base, Value.int IntKind.u64 p.mult, Value.int IntKind.i64 p.corr, Value.int IntKind.u64 p.rew], Value.int IntKind.i64 h, Value.int IntKind.i64 e, Value.pointer (some ⟨w.heap.size, 0, none⟩), undef, undef, Value.bool false, Value.bool true, Value.int IntKind.i64 q, Value.int IntKind.i64 0, Value.int IntKind.i64 a, Value.int IntKind.i64 0, Value.int IntKind.i64 b, Value.int IntKind.i64 0, Value.int IntKind.i64 c, Value.int IntKind.i64 0, Value.int IntKind.i64 d, Value.int IntKind.i64 0, Value.int IntKind.i64 lo, Value.int IntKind.i64 nx, undef, undef, Value.bool true, Value.tuple #[Value.int IntKind.i64 q, Value.int IntKind.i64 0], Value.agg #[Value.int IntKind.i64 p.unb, Value.int IntKind.i64 p.mage, Value.int IntKind.i64 p.elen, Value.int IntKind.i64 p.win, Value.int IntKind.i64 p.ent, Value.int IntKind.i64 p.act, Value.int IntKind.i64 p.jail, Value.int IntKind.u64 p.base, Value.int IntKind.u64 p.mult, Value.int IntKind.i64 p.corr, Value.int IntKind.u64 p.rew], Value.int IntKind.i64 h, Value.tuple #[Value.int IntKind.i64 q, Value.int IntKind.i64 0], Value.int IntKind.i64 q, Value.int IntKind.i64 0, Value.int IntKind.i64 0, Value.bool false, undef, Value.tuple #[Value.int IntKind.i64 a, Value.int IntKind.i64 0], Value.agg #[Value.int IntKind.i64 p.unb, Value.int IntKind.i64 p.mage, Value.int IntKind.i64 p.elen, Value.int IntKind.i64 p.win, Value.int IntKind.i64 p.ent, Value.int IntKind.i64 p.act, Value.int IntKind.i64 p.jail, Value.int IntKind.u64 p.base, Value.int IntKind.u64 p.mult, Value.int IntKind.i64 p.corr, Value.int IntKind.u64 p.rew], Value.int IntKind.i64 q, Value.tuple #[Value.int IntKind.i64 a, Value.int IntKind.i64 0], Value.int IntKind.i64 a, Value.int IntKind.i64 0, Value.tuple #[Value.int IntKind.i64 b, Value.int IntKind.i64 0], Value.agg #[Value.int IntKind.i64 p.unb, Value.int IntKind.i64 p.mage, Value.int IntKind.i64 p.elen, Value.int IntKind.i64 p.win, Value.int IntKind.i64 p.ent, Value.int IntKind.i64 p.act, Value.int IntKind.i64 p.jail, Value.int IntKind.u64 p.base, Value.int IntKind.u64 p.mult, Value.int IntKind.i64 p.corr, Value.int IntKind.u64 p.rew], Value.int IntKind.i64 q, Value.tuple #[Value.int IntKind.i64 b, Value.int IntKind.i64 0], Value.int IntKind.i64 b, Value.int IntKind.i64 0, Value.int IntKind.i64 0, Value.bool false, Value.bool false, Value.int IntKind.i64 0, Value.bool false, Value.bool false, Value.bool false, Value.int IntKind.i64 a, Value.int IntKind.i64 h, Value.bool false, Value.bool false, Value.bool false, Value.int IntKind.i64 b, Value.int IntKind.i64 h, Value.bool false, Value.bool false, Value.tuple #[Value.int IntKind.i64 c, Value.int IntKind.i64 0], Value.agg #[Value.int IntKind.i64 p.unb, Value.int IntKind.i64 p.mage, Value.int IntKind.i64 p.elen, Value.int IntKind.i64 p.win, Value.int IntKind.i64 p.ent, Value.int IntKind.i64 p.act, Value.int IntKind.i64 p.jail, Value.int IntKind.u64 p.base, Value.int IntKind.u64 p.mult, Value.int IntKind.i64 p.corr, Value.int IntKind.u64 p.rew], Value.int IntKind.i64 e, Value.tuple #[Value.int IntKind.i64 c, Value.int IntKind.i64 0], Value.int IntKind.i64 c, Value.int IntKind.i64 0, Value.int IntKind.i64 0, Value.bool true, Value.bool true, Value.int IntKind.i64 e, Value.int IntKind.i64 q, Value.bool true, Value.bool true, Value.tuple #[Value.int IntKind.i64 d, Value.int IntKind.i64 0], Value.agg #[Value.int IntKind.i64 p.unb, Value.int IntKind.i64 p.mage, Value.int IntKind.i64 p.elen, Value.int IntKind.i64 p.win, Value.int IntKind.i64 p.ent, Value.int IntKind.i64 p.act, Value.int IntKind.i64 p.jail, Value.int IntKind.u64 p.base, Value.int IntKind.u64 p.mult, Value.int IntKind.i64 p.corr, Value.int IntKind.u64 p.rew], Value.int IntKind.i64 e, Value.tuple #[Value.int IntKind.i64 d, Value.int IntKind.i64 0], Value.int IntKind.i64 d, Value.int IntKind.i64 0, Value.int IntKind.i64 0, Value.bool false, Value.bool false, Value.int IntKind.i64 c, Value.int IntKind.i64 d, Value.bool false, Value.bool false, Value.bool false, Value.int IntKind.i64 c, Value.int IntKind.i64 h, Value.bool true, Value.bool true, Value.int IntKind.i64 h, Value.int IntKind.i64 d, Value.bool false, Value.bool false, Value.bool false, Value.int IntKind.i64 h, Value.bool false, undef, Value.agg p.cells, Value.int IntKind.i64 h, Value.tuple #[Value.int IntKind.i64 lo, Value.int IntKind.i64 0], Value.int IntKind.i64 lo, Value.int IntKind.i64 0, Value.int IntKind.i64 lo, Value.agg p.cells, Value.int IntKind.i64 h, Value.int IntKind.i64 (h + 1), Value.tuple #[Value.int IntKind.i64 nx, Value.int IntKind.i64 0], Value.int IntKind.i64 nx, Value.int IntKind.i64 0, Value.int IntKind.i64 nx, undef, undef, undef, undef, undef, undef, undef, undef, undef, undef, undef, undef, undef, undef, undef, undef, undef, undef, undef, undef, undef, undef, undef, undef, undef, undef, undef, undef, undef, undef, undef, undef, undef, undef, undef, undef, undef, undef, undef, undef, undef, undef, undef, undef, undef, undef, undef, undef, undef, undef, undef, undef, undef, undef], []⟩) (by kernel_rfl) ?_
          go_wp2_with fail
          have qdF := qW2L.drew
          refine wp_region_noPanic ?_
          refine region_named (R := opsF) (by kernel_rfl) ?_
          refine wp_regionH_fuel (fun W => Keeps Nob (w.alloc (.cells p.cells 24)) W) 15 #[false, false, false, false, false, false, false, false, false, false, false, false, false, false, false] (by kernel_rfl) (by kernel_rfl) rfl ?_
          refine wpAnyH_val (i := 0) (opsF.getD 0 default) (.agg p.cells) (by kernel_rfl) (fun _ _ _ _ _ h => h) (by kernel_rfl) (by kernel_rfl) (by kernel_rfl) (by kernel_rfl) (fun W hW => exec_load_row 24 (.tmp 3) (by kernel_rfl) _ (by kernel_rfl) 24 p.cells (0, 0) _ (par_row p hW) Try.underlying24 rfl (by kernel_rfl)) qdF ?_
          refine wpAnyH_val (i := 1) (opsF.getD 1 default) (.int .i64 h) (by kernel_rfl) (fun _ _ _ _ _ h => h) (by kernel_rfl) (by kernel_rfl) (by kernel_rfl) (by kernel_rfl) (fun W hW => by kernel_rfl) qdF ?_
          refine wpAnyH_val (i := 6) (opsF.getD 6 default) (.agg p.cells) (by kernel_rfl) (fun _ _ _ _ _ h => h) (by kernel_rfl) (by kernel_rfl) (by kernel_rfl) (by kernel_rfl) (fun W hW => exec_load_row 24 (.tmp 3) (by kernel_rfl) _ (by kernel_rfl) 24 p.cells (0, 0) _ (par_row p hW) Try.underlying24 rfl (by kernel_rfl)) qdF ?_
          refine wpAnyH_val (i := 7) (opsF.getD 7 default) (.int .i64 h) (by kernel_rfl) (fun _ _ _ _ _ h => h) (by kernel_rfl) (by kernel_rfl) (by kernel_rfl) (by kernel_rfl) (fun W hW => by kernel_rfl) qdF ?_
          refine wpAnyH_val (i := 8) (opsF.getD 8 default) (.int .i64 (h + 1)) (by kernel_rfl) (fun _ _ _ _ _ h => h) (by kernel_rfl) (by kernel_rfl) (by kernel_rfl) (by kernel_rfl) (fun W hW => exec_add64 (.tmp 119) (.const (.int .i64 1)) 3 3 (by kernel_rfl) (by kernel_rfl) h 1 (by kernel_rfl) (by kernel_rfl) (by omega)) qdF ?_
          refine wpAnyH_call (i := 2) (opsF.getD 2 default) 21 #[.agg p.cells, .int .i64 h] (by kernel_rfl) (by kernel_rfl) (by kernel_rfl) (by kernel_rfl) (by kernel_rfl) (enters_of Try.func21 (by kernel_rfl) rfl) ((F1.out _).mono ?_)
          rintro e W1F ⟨rfl, kW1F⟩
          have qW1F := qdF.trans kW1F
          refine ⟨_, rfl, qW1F, ?_⟩
          refine wpAnyH_val (i := 3) (opsF.getD 3 default) (.int .i64 fl) (by kernel_rfl) (fun _ _ _ _ _ h => h) (by kernel_rfl) (by kernel_rfl) (by kernel_rfl) (by kernel_rfl) (fun W hW => by kernel_rfl) qW1F ?_
          refine wpAnyH_val (i := 4) (opsF.getD 4 default) (.int .i64 0) (by kernel_rfl) (fun _ _ _ _ _ h => h) (by kernel_rfl) (by kernel_rfl) (by kernel_rfl) (by kernel_rfl) (fun W hW => by kernel_rfl) qW1F ?_
          refine wpAnyH_call (i := 5) (opsF.getD 5 default) 30 #[.int .i64 fl, .int .i64 0] (by kernel_rfl) (by kernel_rfl) (by kernel_rfl) (by kernel_rfl) (by kernel_rfl) (enters_of Try.func30 (by kernel_rfl) rfl) ((N3.out _).mono ?_)
          rintro e _ ⟨rfl, rfl⟩
          refine ⟨_, rfl, qW1F, ?_⟩
          refine wpAnyH_call (i := 9) (opsF.getD 9 default) 21 #[.agg p.cells, .int .i64 (h + 1)] (by kernel_rfl) (by kernel_rfl) (by kernel_rfl) (by kernel_rfl) (by kernel_rfl) (enters_of Try.func21 (by kernel_rfl) rfl) ((F2.out _).mono ?_)
          rintro e W2F ⟨rfl, kW2F⟩
          have qW2F := qW1F.trans kW2F
          refine ⟨_, rfl, qW2F, ?_⟩
          refine wpAnyH_val (i := 10) (opsF.getD 10 default) (.int .i64 th) (by kernel_rfl) (fun _ _ _ _ _ h => h) (by kernel_rfl) (by kernel_rfl) (by kernel_rfl) (by kernel_rfl) (fun W hW => by kernel_rfl) qW2F ?_
          refine wpAnyH_val (i := 11) (opsF.getD 11 default) (.int .i64 0) (by kernel_rfl) (fun _ _ _ _ _ h => h) (by kernel_rfl) (by kernel_rfl) (by kernel_rfl) (by kernel_rfl) (fun W hW => by kernel_rfl) qW2F ?_
          refine wpAnyH_call (i := 12) (opsF.getD 12 default) 30 #[.int .i64 th, .int .i64 0] (by kernel_rfl) (by kernel_rfl) (by kernel_rfl) (by kernel_rfl) (by kernel_rfl) (enters_of Try.func30 (by kernel_rfl) rfl) ((N4.out _).mono ?_)
          rintro e _ ⟨rfl, rfl⟩
          refine ⟨_, rfl, qW2F, ?_⟩
          refine wpAnyH_val (i := 13) (opsF.getD 13 default) (.int .i64 fl) (by kernel_rfl) (fun _ _ _ _ _ h => h) (by kernel_rfl) (by kernel_rfl) (by kernel_rfl) (by kernel_rfl) (fun W hW => by kernel_rfl) qW2F ?_
          refine wpAnyH_val (i := 14) (opsF.getD 14 default) (.int .i64 th) (by kernel_rfl) (fun _ _ _ _ _ h => h) (by kernel_rfl) (by kernel_rfl) (by kernel_rfl) (by kernel_rfl) (fun W hW => by kernel_rfl) qW2F ?_
          refine wpAnyH_done (by kernel_rfl) ?_ _
          refine NoPanic.normal ?_
          refine state_eq (b := ⟨#[Value.agg #[Value.int IntKind.i64 p.unb, Value.int IntKind.i64 p.mage, Value.int IntKind.i64 p.elen, Value.int IntKind.i64 p.win, Value.int IntKind.i64 p.ent, Value.int IntKind.i64 p.act, Value.int IntKind.i64 p.jail, Value.int IntKind.u64 p.base, Value.int IntKind.u64 p.mult, Value.int IntKind.i64 p.corr, Value.int IntKind.u64 p.rew], Value.int IntKind.i64 h, Value.int IntKind.i64 e, Value.pointer (some ⟨w.heap.size, 0, none⟩), undef, undef, Value.bool false, Value.bool true, Value.int IntKind.i64 q, Value.int IntKind.i64 0, Value.int IntKind.i64 a, Value.int IntKind.i64 0, Value.int IntKind.i64 b, Value.int IntKind.i64 0, Value.int IntKind.i64 c, Value.int IntKind.i64 0, Value.int IntKind.i64 d, Value.int IntKind.i64 0, Value.int IntKind.i64 lo, Value.int IntKind.i64 nx, Value.int IntKind.i64 fl, Value.int IntKind.i64 th, Value.bool true, Value.tuple #[Value.int IntKind.i64 q, Value.int IntKind.i64 0], Value.agg #[Value.int IntKind.i64 p.unb, Value.int IntKind.i64 p.mage, Value.int IntKind.i64 p.elen, Value.int IntKind.i64 p.win, Value.int IntKind.i64 p.ent, Value.int IntKind.i64 p.act, Value.int IntKind.i64 p.jail, Value.int IntKind.u64 p.base, Value.int IntKind.u64 p.mult, Value.int IntKind.i64 p.corr, Value.int IntKind.u64 p.rew], Value.int IntKind.i64 h, Value.tuple #[Value.int IntKind.i64 q, Value.int IntKind.i64 0], Value.int IntKind.i64 q, Value.int IntKind.i64 0, Value.int IntKind.i64 0, Value.bool false, undef, Value.tuple #[Value.int IntKind.i64 a, Value.int IntKind.i64 0], Value.agg #[Value.int IntKind.i64 p.unb, Value.int IntKind.i64 p.mage, Value.int IntKind.i64 p.elen, Value.int IntKind.i64 p.win, Value.int IntKind.i64 p.ent, Value.int IntKind.i64 p.act, Value.int IntKind.i64 p.jail, Value.int IntKind.u64 p.base, Value.int IntKind.u64 p.mult, Value.int IntKind.i64 p.corr, Value.int IntKind.u64 p.rew], Value.int IntKind.i64 q, Value.tuple #[Value.int IntKind.i64 a, Value.int IntKind.i64 0], Value.int IntKind.i64 a, Value.int IntKind.i64 0, Value.tuple #[Value.int IntKind.i64 b, Value.int IntKind.i64 0], Value.agg #[Value.int IntKind.i64 p.unb, Value.int IntKind.i64 p.mage, Value.int IntKind.i64 p.elen, Value.int IntKind.i64 p.win, Value.int IntKind.i64 p.ent, Value.int IntKind.i64 p.act, Value.int IntKind.i64 p.jail, Value.int IntKind.u64 p.base, Value.int IntKind.u64 p.mult, Value.int IntKind.i64 p.corr, Value.int IntKind.u64 p.rew], Value.int IntKind.i64 q, Value.tuple #[Value.int IntKind.i64 b, Value.int IntKind.i64 0], Value.int IntKind.i64 b, Value.int IntKind.i64 0, Value.int IntKind.i64 0, Value.bool false, Value.bool false, Value.int IntKind.i64 0, Value.bool false, Value.bool false, Value.bool false, Value.int IntKind.i64 a, Value.int IntKind.i64 h, Value.bool false, Value.bool false, Value.bool false, Value.int IntKind.i64 b, Value.int IntKind.i64 h, Value.bool false, Value.bool false, Value.tuple #[Value.int IntKind.i64 c, Value.int IntKind.i64 0], Value.agg #[Value.int IntKind.i64 p.unb, Value.int IntKind.i64 p.mage, Value.int IntKind.i64 p.elen, Value.int IntKind.i64 p.win, Value.int IntKind.i64 p.ent, Value.int IntKind.i64 p.act, Value.int IntKind.i64 p.jail, Value.int IntKind.u64 p.base, Value.int IntKind.u64 p.mult, Value.int IntKind.i64 p.corr, Value.int IntKind.u64 p.rew], Value.int IntKind.i64 e, Value.tuple #[Value.int IntKind.i64 c, Value.int IntKind.i64 0], Value.int IntKind.i64 c, Value.int IntKind.i64 0, Value.int IntKind.i64 0, Value.bool true, Value.bool true, Value.int IntKind.i64 e, Value.int IntKind.i64 q, Value.bool true, Value.bool true, Value.tuple #[Value.int IntKind.i64 d, Value.int IntKind.i64 0], Value.agg #[Value.int IntKind.i64 p.unb, Value.int IntKind.i64 p.mage, Value.int IntKind.i64 p.elen, Value.int IntKind.i64 p.win, Value.int IntKind.i64 p.ent, Value.int IntKind.i64 p.act, Value.int IntKind.i64 p.jail, Value.int IntKind.u64 p.base, Value.int IntKind.u64 p.mult, Value.int IntKind.i64 p.corr, Value.int IntKind.u64 p.rew], Value.int IntKind.i64 e, Value.tuple #[Value.int IntKind.i64 d, Value.int IntKind.i64 0], Value.int IntKind.i64 d, Value.int IntKind.i64 0, Value.int IntKind.i64 0, Value.bool false, Value.bool false, Value.int IntKind.i64 c, Value.int IntKind.i64 d, Value.bool false, Value.bool false, Value.bool false, Value.int IntKind.i64 c, Value.int IntKind.i64 h, Value.bool true, Value.bool true, Value.int IntKind.i64 h, Value.int IntKind.i64 d, Value.bool false, Value.bool false, Value.bool false, Value.int IntKind.i64 h, Value.bool false, undef, Value.agg p.cells, Value.int IntKind.i64 h, Value.tuple #[Value.int IntKind.i64 lo, Value.int IntKind.i64 0], Value.int IntKind.i64 lo, Value.int IntKind.i64 0, Value.int IntKind.i64 lo, Value.agg p.cells, Value.int IntKind.i64 h, Value.int IntKind.i64 (h + 1), Value.tuple #[Value.int IntKind.i64 nx, Value.int IntKind.i64 0], Value.int IntKind.i64 nx, Value.int IntKind.i64 0, Value.int IntKind.i64 nx, Value.agg p.cells, Value.int IntKind.i64 h, Value.tuple #[Value.int IntKind.i64 fl, Value.int IntKind.i64 0], Value.int IntKind.i64 fl, Value.int IntKind.i64 0, Value.int IntKind.i64 fl, Value.agg p.cells, Value.int IntKind.i64 h, Value.int IntKind.i64 (h + 1), Value.tuple #[Value.int IntKind.i64 th, Value.int IntKind.i64 0], Value.int IntKind.i64 th, Value.int IntKind.i64 0, Value.int IntKind.i64 th, undef, undef, undef, undef, undef, undef, undef, undef, undef, undef, undef, undef, undef, undef, undef, undef, undef, undef, undef, undef, undef, undef, undef, undef, undef, undef, undef, undef, undef, undef, undef, undef, undef, undef, undef, undef, undef, undef, undef, undef, undef], []⟩) (by kernel_rfl) ?_
          go_wp2_with fail
          go_ret
          exact ⟨rfl, hA.trans qW2F⟩
      · rcases n1 with n1 | ⟨rfl, rfl⟩
        · have d4 : (z == 0) = false := by simp; omega
          refine (T1.out _).mono ?_
          rintro x V4 ⟨rfl, k4⟩
          have q4 := q3.trans k4
          obtain ⟨c0, c1, c2, c3, c4, c5, c6, c7, c8, c9, c10⟩ := par_cells p q4
          go_wp2_with fail
          have qdL := q4.drew
          refine wp_region_noPanic ?_
          refine region_named (R := opsL) (by kernel_rfl) ?_
          refine wp_regionH_fuel (fun W => Keeps Nob (w.alloc (.cells p.cells 24)) W) 15 #[false, false, false, false, false, false, false, false, false, false, false, false, false, false, false] (by kernel_rfl) (by kernel_rfl) rfl ?_
          refine wpAnyH_val (i := 0) (opsL.getD 0 default) (.agg p.cells) (by kernel_rfl) (fun _ _ _ _ _ h => h) (by kernel_rfl) (by kernel_rfl) (by kernel_rfl) (by kernel_rfl) (fun W hW => exec_load_row 24 (.tmp 3) (by kernel_rfl) _ (by kernel_rfl) 24 p.cells (0, 0) _ (par_row p hW) Try.underlying24 rfl (by kernel_rfl)) qdL ?_
          refine wpAnyH_val (i := 1) (opsL.getD 1 default) (.int .i64 h) (by kernel_rfl) (fun _ _ _ _ _ h => h) (by kernel_rfl) (by kernel_rfl) (by kernel_rfl) (by kernel_rfl) (fun W hW => by kernel_rfl) qdL ?_
          refine wpAnyH_val (i := 6) (opsL.getD 6 default) (.agg p.cells) (by kernel_rfl) (fun _ _ _ _ _ h => h) (by kernel_rfl) (by kernel_rfl) (by kernel_rfl) (by kernel_rfl) (fun W hW => exec_load_row 24 (.tmp 3) (by kernel_rfl) _ (by kernel_rfl) 24 p.cells (0, 0) _ (par_row p hW) Try.underlying24 rfl (by kernel_rfl)) qdL ?_
          refine wpAnyH_val (i := 7) (opsL.getD 7 default) (.int .i64 h) (by kernel_rfl) (fun _ _ _ _ _ h => h) (by kernel_rfl) (by kernel_rfl) (by kernel_rfl) (by kernel_rfl) (fun W hW => by kernel_rfl) qdL ?_
          refine wpAnyH_val (i := 8) (opsL.getD 8 default) (.int .i64 (h + 1)) (by kernel_rfl) (fun _ _ _ _ _ h => h) (by kernel_rfl) (by kernel_rfl) (by kernel_rfl) (by kernel_rfl) (fun W hW => exec_add64 (.tmp 106) (.const (.int .i64 1)) 3 3 (by kernel_rfl) (by kernel_rfl) h 1 (by kernel_rfl) (by kernel_rfl) (by omega)) qdL ?_
          refine wpAnyH_call (i := 2) (opsL.getD 2 default) 19 #[.agg p.cells, .int .i64 h] (by kernel_rfl) (by kernel_rfl) (by kernel_rfl) (by kernel_rfl) (by kernel_rfl) (enters_of Try.func19 (by kernel_rfl) rfl) ((L1.out _).mono ?_)
          rintro e W1L ⟨rfl, kW1L⟩
          have qW1L := qdL.trans kW1L
          refine ⟨_, rfl, qW1L, ?_⟩
          refine wpAnyH_val (i := 3) (opsL.getD 3 default) (.int .i64 lo) (by kernel_rfl) (fun _ _ _ _ _ h => h) (by kernel_rfl) (by kernel_rfl) (by kernel_rfl) (by kernel_rfl) (fun W hW => by kernel_rfl) qW1L ?_
          refine wpAnyH_val (i := 4) (opsL.getD 4 default) (.int .i64 0) (by kernel_rfl) (fun _ _ _ _ _ h => h) (by kernel_rfl) (by kernel_rfl) (by kernel_rfl) (by kernel_rfl) (fun W hW => by kernel_rfl) qW1L ?_
          refine wpAnyH_call (i := 5) (opsL.getD 5 default) 30 #[.int .i64 lo, .int .i64 0] (by kernel_rfl) (by kernel_rfl) (by kernel_rfl) (by kernel_rfl) (by kernel_rfl) (enters_of Try.func30 (by kernel_rfl) rfl) ((N1.out _).mono ?_)
          rintro e _ ⟨rfl, rfl⟩
          refine ⟨_, rfl, qW1L, ?_⟩
          refine wpAnyH_call (i := 9) (opsL.getD 9 default) 19 #[.agg p.cells, .int .i64 (h + 1)] (by kernel_rfl) (by kernel_rfl) (by kernel_rfl) (by kernel_rfl) (by kernel_rfl) (enters_of Try.func19 (by kernel_rfl) rfl) ((L2.out _).mono ?_)
          rintro e W2L ⟨rfl, kW2L⟩
          have qW2L := qW1L.trans kW2L
          refine ⟨_, rfl, qW2L, ?_⟩
          refine wpAnyH_val (i := 10) (opsL.getD 10 default) (.int .i64 nx) (by kernel_rfl) (fun _ _ _ _ _ h => h) (by kernel_rfl) (by kernel_rfl) (by kernel_rfl) (by kernel_rfl) (fun W hW => by kernel_rfl) qW2L ?_
          refine wpAnyH_val (i := 11) (opsL.getD 11 default) (.int .i64 0) (by kernel_rfl) (fun _ _ _ _ _ h => h) (by kernel_rfl) (by kernel_rfl) (by kernel_rfl) (by kernel_rfl) (fun W hW => by kernel_rfl) qW2L ?_
          refine wpAnyH_call (i := 12) (opsL.getD 12 default) 30 #[.int .i64 nx, .int .i64 0] (by kernel_rfl) (by kernel_rfl) (by kernel_rfl) (by kernel_rfl) (by kernel_rfl) (enters_of Try.func30 (by kernel_rfl) rfl) ((N2.out _).mono ?_)
          rintro e _ ⟨rfl, rfl⟩
          refine ⟨_, rfl, qW2L, ?_⟩
          refine wpAnyH_val (i := 13) (opsL.getD 13 default) (.int .i64 lo) (by kernel_rfl) (fun _ _ _ _ _ h => h) (by kernel_rfl) (by kernel_rfl) (by kernel_rfl) (by kernel_rfl) (fun W hW => by kernel_rfl) qW2L ?_
          refine wpAnyH_val (i := 14) (opsL.getD 14 default) (.int .i64 nx) (by kernel_rfl) (fun _ _ _ _ _ h => h) (by kernel_rfl) (by kernel_rfl) (by kernel_rfl) (by kernel_rfl) (fun W hW => by kernel_rfl) qW2L ?_
          refine wpAnyH_done (by kernel_rfl) ?_ _
          refine NoPanic.normal ?_
          refine state_eq (b := ⟨#[Value.agg #[Value.int IntKind.i64 p.unb, Value.int IntKind.i64 p.mage, Value.int IntKind.i64 p.elen, Value.int IntKind.i64 p.win, Value.int IntKind.i64 p.ent, Value.int IntKind.i64 p.act, Value.int IntKind.i64 p.jail, Value.int IntKind.u64 p.base, Value.int IntKind.u64 p.mult, Value.int IntKind.i64 p.corr, Value.int IntKind.u64 p.rew], Value.int IntKind.i64 h, Value.int IntKind.i64 e, Value.pointer (some ⟨w.heap.size, 0, none⟩), undef, undef, Value.bool false, Value.bool true, Value.int IntKind.i64 q, Value.int IntKind.i64 0, Value.int IntKind.i64 a, Value.int IntKind.i64 0, Value.int IntKind.i64 b, Value.int IntKind.i64 0, Value.int IntKind.i64 c, Value.int IntKind.i64 z, undef, undef, Value.int IntKind.i64 lo, Value.int IntKind.i64 nx, undef, undef, Value.bool true, Value.tuple #[Value.int IntKind.i64 q, Value.int IntKind.i64 0], Value.agg #[Value.int IntKind.i64 p.unb, Value.int IntKind.i64 p.mage, Value.int IntKind.i64 p.elen, Value.int IntKind.i64 p.win, Value.int IntKind.i64 p.ent, Value.int IntKind.i64 p.act, Value.int IntKind.i64 p.jail, Value.int IntKind.u64 p.base, Value.int IntKind.u64 p.mult, Value.int IntKind.i64 p.corr, Value.int IntKind.u64 p.rew], Value.int IntKind.i64 h, Value.tuple #[Value.int IntKind.i64 q, Value.int IntKind.i64 0], Value.int IntKind.i64 q, Value.int IntKind.i64 0, Value.int IntKind.i64 0, Value.bool false, undef, Value.tuple #[Value.int IntKind.i64 a, Value.int IntKind.i64 0], Value.agg #[Value.int IntKind.i64 p.unb, Value.int IntKind.i64 p.mage, Value.int IntKind.i64 p.elen, Value.int IntKind.i64 p.win, Value.int IntKind.i64 p.ent, Value.int IntKind.i64 p.act, Value.int IntKind.i64 p.jail, Value.int IntKind.u64 p.base, Value.int IntKind.u64 p.mult, Value.int IntKind.i64 p.corr, Value.int IntKind.u64 p.rew], Value.int IntKind.i64 q, Value.tuple #[Value.int IntKind.i64 a, Value.int IntKind.i64 0], Value.int IntKind.i64 a, Value.int IntKind.i64 0, Value.tuple #[Value.int IntKind.i64 b, Value.int IntKind.i64 0], Value.agg #[Value.int IntKind.i64 p.unb, Value.int IntKind.i64 p.mage, Value.int IntKind.i64 p.elen, Value.int IntKind.i64 p.win, Value.int IntKind.i64 p.ent, Value.int IntKind.i64 p.act, Value.int IntKind.i64 p.jail, Value.int IntKind.u64 p.base, Value.int IntKind.u64 p.mult, Value.int IntKind.i64 p.corr, Value.int IntKind.u64 p.rew], Value.int IntKind.i64 q, Value.tuple #[Value.int IntKind.i64 b, Value.int IntKind.i64 0], Value.int IntKind.i64 b, Value.int IntKind.i64 0, Value.int IntKind.i64 0, Value.bool false, Value.bool false, Value.int IntKind.i64 0, Value.bool false, Value.bool false, Value.bool false, Value.int IntKind.i64 a, Value.int IntKind.i64 h, Value.bool false, Value.bool false, Value.bool false, Value.int IntKind.i64 b, Value.int IntKind.i64 h, Value.bool false, Value.bool false, Value.tuple #[Value.int IntKind.i64 c, Value.int IntKind.i64 z], Value.agg #[Value.int IntKind.i64 p.unb, Value.int IntKind.i64 p.mage, Value.int IntKind.i64 p.elen, Value.int IntKind.i64 p.win, Value.int IntKind.i64 p.ent, Value.int IntKind.i64 p.act, Value.int IntKind.i64 p.jail, Value.int IntKind.u64 p.base, Value.int IntKind.u64 p.mult, Value.int IntKind.i64 p.corr, Value.int IntKind.u64 p.rew], Value.int IntKind.i64 e, Value.tuple #[Value.int IntKind.i64 c, Value.int IntKind.i64 z], Value.int IntKind.i64 c, Value.int IntKind.i64 z, Value.int IntKind.i64 z, Value.bool false, Value.bool false, undef, undef, undef, Value.bool false, undef, undef, undef, undef, undef, undef, undef, undef, undef, undef, undef, undef, undef, undef, undef, undef, undef, undef, undef, undef, undef, undef, undef, Value.int IntKind.i64 h, Value.bool false, undef, Value.agg p.cells, Value.int IntKind.i64 h, Value.tuple #[Value.int IntKind.i64 lo, Value.int IntKind.i64 0], Value.int IntKind.i64 lo, Value.int IntKind.i64 0, Value.int IntKind.i64 lo, Value.agg p.cells, Value.int IntKind.i64 h, Value.int IntKind.i64 (h + 1), Value.tuple #[Value.int IntKind.i64 nx, Value.int IntKind.i64 0], Value.int IntKind.i64 nx, Value.int IntKind.i64 0, Value.int IntKind.i64 nx, undef, undef, undef, undef, undef, undef, undef, undef, undef, undef, undef, undef, undef, undef, undef, undef, undef, undef, undef, undef, undef, undef, undef, undef, undef, undef, undef, undef, undef, undef, undef, undef, undef, undef, undef, undef, undef, undef, undef, undef, undef, undef, undef, undef, undef, undef, undef, undef, undef, undef, undef, undef, undef, undef], []⟩) (by kernel_rfl) ?_
          go_wp2_with fail
          have qdF := qW2L.drew
          refine wp_region_noPanic ?_
          refine region_named (R := opsF) (by kernel_rfl) ?_
          refine wp_regionH_fuel (fun W => Keeps Nob (w.alloc (.cells p.cells 24)) W) 15 #[false, false, false, false, false, false, false, false, false, false, false, false, false, false, false] (by kernel_rfl) (by kernel_rfl) rfl ?_
          refine wpAnyH_val (i := 0) (opsF.getD 0 default) (.agg p.cells) (by kernel_rfl) (fun _ _ _ _ _ h => h) (by kernel_rfl) (by kernel_rfl) (by kernel_rfl) (by kernel_rfl) (fun W hW => exec_load_row 24 (.tmp 3) (by kernel_rfl) _ (by kernel_rfl) 24 p.cells (0, 0) _ (par_row p hW) Try.underlying24 rfl (by kernel_rfl)) qdF ?_
          refine wpAnyH_val (i := 1) (opsF.getD 1 default) (.int .i64 h) (by kernel_rfl) (fun _ _ _ _ _ h => h) (by kernel_rfl) (by kernel_rfl) (by kernel_rfl) (by kernel_rfl) (fun W hW => by kernel_rfl) qdF ?_
          refine wpAnyH_val (i := 6) (opsF.getD 6 default) (.agg p.cells) (by kernel_rfl) (fun _ _ _ _ _ h => h) (by kernel_rfl) (by kernel_rfl) (by kernel_rfl) (by kernel_rfl) (fun W hW => exec_load_row 24 (.tmp 3) (by kernel_rfl) _ (by kernel_rfl) 24 p.cells (0, 0) _ (par_row p hW) Try.underlying24 rfl (by kernel_rfl)) qdF ?_
          refine wpAnyH_val (i := 7) (opsF.getD 7 default) (.int .i64 h) (by kernel_rfl) (fun _ _ _ _ _ h => h) (by kernel_rfl) (by kernel_rfl) (by kernel_rfl) (by kernel_rfl) (fun W hW => by kernel_rfl) qdF ?_
          refine wpAnyH_val (i := 8) (opsF.getD 8 default) (.int .i64 (h + 1)) (by kernel_rfl) (fun _ _ _ _ _ h => h) (by kernel_rfl) (by kernel_rfl) (by kernel_rfl) (by kernel_rfl) (fun W hW => exec_add64 (.tmp 119) (.const (.int .i64 1)) 3 3 (by kernel_rfl) (by kernel_rfl) h 1 (by kernel_rfl) (by kernel_rfl) (by omega)) qdF ?_
          refine wpAnyH_call (i := 2) (opsF.getD 2 default) 21 #[.agg p.cells, .int .i64 h] (by kernel_rfl) (by kernel_rfl) (by kernel_rfl) (by kernel_rfl) (by kernel_rfl) (enters_of Try.func21 (by kernel_rfl) rfl) ((F1.out _).mono ?_)
          rintro e W1F ⟨rfl, kW1F⟩
          have qW1F := qdF.trans kW1F
          refine ⟨_, rfl, qW1F, ?_⟩
          refine wpAnyH_val (i := 3) (opsF.getD 3 default) (.int .i64 fl) (by kernel_rfl) (fun _ _ _ _ _ h => h) (by kernel_rfl) (by kernel_rfl) (by kernel_rfl) (by kernel_rfl) (fun W hW => by kernel_rfl) qW1F ?_
          refine wpAnyH_val (i := 4) (opsF.getD 4 default) (.int .i64 0) (by kernel_rfl) (fun _ _ _ _ _ h => h) (by kernel_rfl) (by kernel_rfl) (by kernel_rfl) (by kernel_rfl) (fun W hW => by kernel_rfl) qW1F ?_
          refine wpAnyH_call (i := 5) (opsF.getD 5 default) 30 #[.int .i64 fl, .int .i64 0] (by kernel_rfl) (by kernel_rfl) (by kernel_rfl) (by kernel_rfl) (by kernel_rfl) (enters_of Try.func30 (by kernel_rfl) rfl) ((N3.out _).mono ?_)
          rintro e _ ⟨rfl, rfl⟩
          refine ⟨_, rfl, qW1F, ?_⟩
          refine wpAnyH_call (i := 9) (opsF.getD 9 default) 21 #[.agg p.cells, .int .i64 (h + 1)] (by kernel_rfl) (by kernel_rfl) (by kernel_rfl) (by kernel_rfl) (by kernel_rfl) (enters_of Try.func21 (by kernel_rfl) rfl) ((F2.out _).mono ?_)
          rintro e W2F ⟨rfl, kW2F⟩
          have qW2F := qW1F.trans kW2F
          refine ⟨_, rfl, qW2F, ?_⟩
          refine wpAnyH_val (i := 10) (opsF.getD 10 default) (.int .i64 th) (by kernel_rfl) (fun _ _ _ _ _ h => h) (by kernel_rfl) (by kernel_rfl) (by kernel_rfl) (by kernel_rfl) (fun W hW => by kernel_rfl) qW2F ?_
          refine wpAnyH_val (i := 11) (opsF.getD 11 default) (.int .i64 0) (by kernel_rfl) (fun _ _ _ _ _ h => h) (by kernel_rfl) (by kernel_rfl) (by kernel_rfl) (by kernel_rfl) (fun W hW => by kernel_rfl) qW2F ?_
          refine wpAnyH_call (i := 12) (opsF.getD 12 default) 30 #[.int .i64 th, .int .i64 0] (by kernel_rfl) (by kernel_rfl) (by kernel_rfl) (by kernel_rfl) (by kernel_rfl) (enters_of Try.func30 (by kernel_rfl) rfl) ((N4.out _).mono ?_)
          rintro e _ ⟨rfl, rfl⟩
          refine ⟨_, rfl, qW2F, ?_⟩
          refine wpAnyH_val (i := 13) (opsF.getD 13 default) (.int .i64 fl) (by kernel_rfl) (fun _ _ _ _ _ h => h) (by kernel_rfl) (by kernel_rfl) (by kernel_rfl) (by kernel_rfl) (fun W hW => by kernel_rfl) qW2F ?_
          refine wpAnyH_val (i := 14) (opsF.getD 14 default) (.int .i64 th) (by kernel_rfl) (fun _ _ _ _ _ h => h) (by kernel_rfl) (by kernel_rfl) (by kernel_rfl) (by kernel_rfl) (fun W hW => by kernel_rfl) qW2F ?_
          refine wpAnyH_done (by kernel_rfl) ?_ _
          refine NoPanic.normal ?_
          refine state_eq (b := ⟨#[Value.agg #[Value.int IntKind.i64 p.unb, Value.int IntKind.i64 p.mage, Value.int IntKind.i64 p.elen, Value.int IntKind.i64 p.win, Value.int IntKind.i64 p.ent, Value.int IntKind.i64 p.act, Value.int IntKind.i64 p.jail, Value.int IntKind.u64 p.base, Value.int IntKind.u64 p.mult, Value.int IntKind.i64 p.corr, Value.int IntKind.u64 p.rew], Value.int IntKind.i64 h, Value.int IntKind.i64 e, Value.pointer (some ⟨w.heap.size, 0, none⟩), undef, undef, Value.bool false, Value.bool true, Value.int IntKind.i64 q, Value.int IntKind.i64 0, Value.int IntKind.i64 a, Value.int IntKind.i64 0, Value.int IntKind.i64 b, Value.int IntKind.i64 0, Value.int IntKind.i64 c, Value.int IntKind.i64 z, undef, undef, Value.int IntKind.i64 lo, Value.int IntKind.i64 nx, Value.int IntKind.i64 fl, Value.int IntKind.i64 th, Value.bool true, Value.tuple #[Value.int IntKind.i64 q, Value.int IntKind.i64 0], Value.agg #[Value.int IntKind.i64 p.unb, Value.int IntKind.i64 p.mage, Value.int IntKind.i64 p.elen, Value.int IntKind.i64 p.win, Value.int IntKind.i64 p.ent, Value.int IntKind.i64 p.act, Value.int IntKind.i64 p.jail, Value.int IntKind.u64 p.base, Value.int IntKind.u64 p.mult, Value.int IntKind.i64 p.corr, Value.int IntKind.u64 p.rew], Value.int IntKind.i64 h, Value.tuple #[Value.int IntKind.i64 q, Value.int IntKind.i64 0], Value.int IntKind.i64 q, Value.int IntKind.i64 0, Value.int IntKind.i64 0, Value.bool false, undef, Value.tuple #[Value.int IntKind.i64 a, Value.int IntKind.i64 0], Value.agg #[Value.int IntKind.i64 p.unb, Value.int IntKind.i64 p.mage, Value.int IntKind.i64 p.elen, Value.int IntKind.i64 p.win, Value.int IntKind.i64 p.ent, Value.int IntKind.i64 p.act, Value.int IntKind.i64 p.jail, Value.int IntKind.u64 p.base, Value.int IntKind.u64 p.mult, Value.int IntKind.i64 p.corr, Value.int IntKind.u64 p.rew], Value.int IntKind.i64 q, Value.tuple #[Value.int IntKind.i64 a, Value.int IntKind.i64 0], Value.int IntKind.i64 a, Value.int IntKind.i64 0, Value.tuple #[Value.int IntKind.i64 b, Value.int IntKind.i64 0], Value.agg #[Value.int IntKind.i64 p.unb, Value.int IntKind.i64 p.mage, Value.int IntKind.i64 p.elen, Value.int IntKind.i64 p.win, Value.int IntKind.i64 p.ent, Value.int IntKind.i64 p.act, Value.int IntKind.i64 p.jail, Value.int IntKind.u64 p.base, Value.int IntKind.u64 p.mult, Value.int IntKind.i64 p.corr, Value.int IntKind.u64 p.rew], Value.int IntKind.i64 q, Value.tuple #[Value.int IntKind.i64 b, Value.int IntKind.i64 0], Value.int IntKind.i64 b, Value.int IntKind.i64 0, Value.int IntKind.i64 0, Value.bool false, Value.bool false, Value.int IntKind.i64 0, Value.bool false, Value.bool false, Value.bool false, Value.int IntKind.i64 a, Value.int IntKind.i64 h, Value.bool false, Value.bool false, Value.bool false, Value.int IntKind.i64 b, Value.int IntKind.i64 h, Value.bool false, Value.bool false, Value.tuple #[Value.int IntKind.i64 c, Value.int IntKind.i64 z], Value.agg #[Value.int IntKind.i64 p.unb, Value.int IntKind.i64 p.mage, Value.int IntKind.i64 p.elen, Value.int IntKind.i64 p.win, Value.int IntKind.i64 p.ent, Value.int IntKind.i64 p.act, Value.int IntKind.i64 p.jail, Value.int IntKind.u64 p.base, Value.int IntKind.u64 p.mult, Value.int IntKind.i64 p.corr, Value.int IntKind.u64 p.rew], Value.int IntKind.i64 e, Value.tuple #[Value.int IntKind.i64 c, Value.int IntKind.i64 z], Value.int IntKind.i64 c, Value.int IntKind.i64 z, Value.int IntKind.i64 z, Value.bool false, Value.bool false, undef, undef, undef, Value.bool false, undef, undef, undef, undef, undef, undef, undef, undef, undef, undef, undef, undef, undef, undef, undef, undef, undef, undef, undef, undef, undef, undef, undef, Value.int IntKind.i64 h, Value.bool false, undef, Value.agg p.cells, Value.int IntKind.i64 h, Value.tuple #[Value.int IntKind.i64 lo, Value.int IntKind.i64 0], Value.int IntKind.i64 lo, Value.int IntKind.i64 0, Value.int IntKind.i64 lo, Value.agg p.cells, Value.int IntKind.i64 h, Value.int IntKind.i64 (h + 1), Value.tuple #[Value.int IntKind.i64 nx, Value.int IntKind.i64 0], Value.int IntKind.i64 nx, Value.int IntKind.i64 0, Value.int IntKind.i64 nx, Value.agg p.cells, Value.int IntKind.i64 h, Value.tuple #[Value.int IntKind.i64 fl, Value.int IntKind.i64 0], Value.int IntKind.i64 fl, Value.int IntKind.i64 0, Value.int IntKind.i64 fl, Value.agg p.cells, Value.int IntKind.i64 h, Value.int IntKind.i64 (h + 1), Value.tuple #[Value.int IntKind.i64 th, Value.int IntKind.i64 0], Value.int IntKind.i64 th, Value.int IntKind.i64 0, Value.int IntKind.i64 th, undef, undef, undef, undef, undef, undef, undef, undef, undef, undef, undef, undef, undef, undef, undef, undef, undef, undef, undef, undef, undef, undef, undef, undef, undef, undef, undef, undef, undef, undef, undef, undef, undef, undef, undef, undef, undef, undef, undef, undef, undef], []⟩) (by kernel_rfl) ?_
          go_wp2_with fail
          go_ret
          exact ⟨rfl, hA.trans qW2F⟩
        · skip
          refine (T1.out _).mono ?_
          rintro x V4 ⟨rfl, k4⟩
          have q4 := q3.trans k4
          obtain ⟨c0, c1, c2, c3, c4, c5, c6, c7, c8, c9, c10⟩ := par_cells p q4
          go_wp2_with fail
          have qdL := q4.drew
          refine wp_region_noPanic ?_
          refine region_named (R := opsL) (by kernel_rfl) ?_
          refine wp_regionH_fuel (fun W => Keeps Nob (w.alloc (.cells p.cells 24)) W) 15 #[false, false, false, false, false, false, false, false, false, false, false, false, false, false, false] (by kernel_rfl) (by kernel_rfl) rfl ?_
          refine wpAnyH_val (i := 0) (opsL.getD 0 default) (.agg p.cells) (by kernel_rfl) (fun _ _ _ _ _ h => h) (by kernel_rfl) (by kernel_rfl) (by kernel_rfl) (by kernel_rfl) (fun W hW => exec_load_row 24 (.tmp 3) (by kernel_rfl) _ (by kernel_rfl) 24 p.cells (0, 0) _ (par_row p hW) Try.underlying24 rfl (by kernel_rfl)) qdL ?_
          refine wpAnyH_val (i := 1) (opsL.getD 1 default) (.int .i64 h) (by kernel_rfl) (fun _ _ _ _ _ h => h) (by kernel_rfl) (by kernel_rfl) (by kernel_rfl) (by kernel_rfl) (fun W hW => by kernel_rfl) qdL ?_
          refine wpAnyH_val (i := 6) (opsL.getD 6 default) (.agg p.cells) (by kernel_rfl) (fun _ _ _ _ _ h => h) (by kernel_rfl) (by kernel_rfl) (by kernel_rfl) (by kernel_rfl) (fun W hW => exec_load_row 24 (.tmp 3) (by kernel_rfl) _ (by kernel_rfl) 24 p.cells (0, 0) _ (par_row p hW) Try.underlying24 rfl (by kernel_rfl)) qdL ?_
          refine wpAnyH_val (i := 7) (opsL.getD 7 default) (.int .i64 h) (by kernel_rfl) (fun _ _ _ _ _ h => h) (by kernel_rfl) (by kernel_rfl) (by kernel_rfl) (by kernel_rfl) (fun W hW => by kernel_rfl) qdL ?_
          refine wpAnyH_val (i := 8) (opsL.getD 8 default) (.int .i64 (h + 1)) (by kernel_rfl) (fun _ _ _ _ _ h => h) (by kernel_rfl) (by kernel_rfl) (by kernel_rfl) (by kernel_rfl) (fun W hW => exec_add64 (.tmp 106) (.const (.int .i64 1)) 3 3 (by kernel_rfl) (by kernel_rfl) h 1 (by kernel_rfl) (by kernel_rfl) (by omega)) qdL ?_
          refine wpAnyH_call (i := 2) (opsL.getD 2 default) 19 #[.agg p.cells, .int .i64 h] (by kernel_rfl) (by kernel_rfl) (by kernel_rfl) (by kernel_rfl) (by kernel_rfl) (enters_of Try.func19 (by kernel_rfl) rfl) ((L1.out _).mono ?_)
          rintro e W1L ⟨rfl, kW1L⟩
          have qW1L := qdL.trans kW1L
          refine ⟨_, rfl, qW1L, ?_⟩
          refine wpAnyH_val (i := 3) (opsL.getD 3 default) (.int .i64 lo) (by kernel_rfl) (fun _ _ _ _ _ h => h) (by kernel_rfl) (by kernel_rfl) (by kernel_rfl) (by kernel_rfl) (fun W hW => by kernel_rfl) qW1L ?_
          refine wpAnyH_val (i := 4) (opsL.getD 4 default) (.int .i64 0) (by kernel_rfl) (fun _ _ _ _ _ h => h) (by kernel_rfl) (by kernel_rfl) (by kernel_rfl) (by kernel_rfl) (fun W hW => by kernel_rfl) qW1L ?_
          refine wpAnyH_call (i := 5) (opsL.getD 5 default) 30 #[.int .i64 lo, .int .i64 0] (by kernel_rfl) (by kernel_rfl) (by kernel_rfl) (by kernel_rfl) (by kernel_rfl) (enters_of Try.func30 (by kernel_rfl) rfl) ((N1.out _).mono ?_)
          rintro e _ ⟨rfl, rfl⟩
          refine ⟨_, rfl, qW1L, ?_⟩
          refine wpAnyH_call (i := 9) (opsL.getD 9 default) 19 #[.agg p.cells, .int .i64 (h + 1)] (by kernel_rfl) (by kernel_rfl) (by kernel_rfl) (by kernel_rfl) (by kernel_rfl) (enters_of Try.func19 (by kernel_rfl) rfl) ((L2.out _).mono ?_)
          rintro e W2L ⟨rfl, kW2L⟩
          have qW2L := qW1L.trans kW2L
          refine ⟨_, rfl, qW2L, ?_⟩
          refine wpAnyH_val (i := 10) (opsL.getD 10 default) (.int .i64 nx) (by kernel_rfl) (fun _ _ _ _ _ h => h) (by kernel_rfl) (by kernel_rfl) (by kernel_rfl) (by kernel_rfl) (fun W hW => by kernel_rfl) qW2L ?_
          refine wpAnyH_val (i := 11) (opsL.getD 11 default) (.int .i64 0) (by kernel_rfl) (fun _ _ _ _ _ h => h) (by kernel_rfl) (by kernel_rfl) (by kernel_rfl) (by kernel_rfl) (fun W hW => by kernel_rfl) qW2L ?_
          refine wpAnyH_call (i := 12) (opsL.getD 12 default) 30 #[.int .i64 nx, .int .i64 0] (by kernel_rfl) (by kernel_rfl) (by kernel_rfl) (by kernel_rfl) (by kernel_rfl) (enters_of Try.func30 (by kernel_rfl) rfl) ((N2.out _).mono ?_)
          rintro e _ ⟨rfl, rfl⟩
          refine ⟨_, rfl, qW2L, ?_⟩
          refine wpAnyH_val (i := 13) (opsL.getD 13 default) (.int .i64 lo) (by kernel_rfl) (fun _ _ _ _ _ h => h) (by kernel_rfl) (by kernel_rfl) (by kernel_rfl) (by kernel_rfl) (fun W hW => by kernel_rfl) qW2L ?_
          refine wpAnyH_val (i := 14) (opsL.getD 14 default) (.int .i64 nx) (by kernel_rfl) (fun _ _ _ _ _ h => h) (by kernel_rfl) (by kernel_rfl) (by kernel_rfl) (by kernel_rfl) (fun W hW => by kernel_rfl) qW2L ?_
          refine wpAnyH_done (by kernel_rfl) ?_ _
          refine NoPanic.normal ?_
          refine state_eq (b := ⟨#[Value.agg #[Value.int IntKind.i64 p.unb, Value.int IntKind.i64 p.mage, Value.int IntKind.i64 p.elen, Value.int IntKind.i64 p.win, Value.int IntKind.i64 p.ent, Value.int IntKind.i64 p.act, Value.int IntKind.i64 p.jail, Value.int IntKind.u64 p.base, Value.int IntKind.u64 p.mult, Value.int IntKind.i64 p.corr, Value.int IntKind.u64 p.rew], Value.int IntKind.i64 h, Value.int IntKind.i64 e, Value.pointer (some ⟨w.heap.size, 0, none⟩), undef, undef, Value.bool false, Value.bool true, Value.int IntKind.i64 e, Value.int IntKind.i64 0, Value.int IntKind.i64 a, Value.int IntKind.i64 0, Value.int IntKind.i64 b, Value.int IntKind.i64 0, Value.int IntKind.i64 c, Value.int IntKind.i64 0, undef, undef, Value.int IntKind.i64 lo, Value.int IntKind.i64 nx, undef, undef, Value.bool true, Value.tuple #[Value.int IntKind.i64 e, Value.int IntKind.i64 0], Value.agg #[Value.int IntKind.i64 p.unb, Value.int IntKind.i64 p.mage, Value.int IntKind.i64 p.elen, Value.int IntKind.i64 p.win, Value.int IntKind.i64 p.ent, Value.int IntKind.i64 p.act, Value.int IntKind.i64 p.jail, Value.int IntKind.u64 p.base, Value.int IntKind.u64 p.mult, Value.int IntKind.i64 p.corr, Value.int IntKind.u64 p.rew], Value.int IntKind.i64 h, Value.tuple #[Value.int IntKind.i64 e, Value.int IntKind.i64 0], Value.int IntKind.i64 e, Value.int IntKind.i64 0, Value.int IntKind.i64 0, Value.bool false, undef, Value.tuple #[Value.int IntKind.i64 a, Value.int IntKind.i64 0], Value.agg #[Value.int IntKind.i64 p.unb, Value.int IntKind.i64 p.mage, Value.int IntKind.i64 p.elen, Value.int IntKind.i64 p.win, Value.int IntKind.i64 p.ent, Value.int IntKind.i64 p.act, Value.int IntKind.i64 p.jail, Value.int IntKind.u64 p.base, Value.int IntKind.u64 p.mult, Value.int IntKind.i64 p.corr, Value.int IntKind.u64 p.rew], Value.int IntKind.i64 e, Value.tuple #[Value.int IntKind.i64 a, Value.int IntKind.i64 0], Value.int IntKind.i64 a, Value.int IntKind.i64 0, Value.tuple #[Value.int IntKind.i64 b, Value.int IntKind.i64 0], Value.agg #[Value.int IntKind.i64 p.unb, Value.int IntKind.i64 p.mage, Value.int IntKind.i64 p.elen, Value.int IntKind.i64 p.win, Value.int IntKind.i64 p.ent, Value.int IntKind.i64 p.act, Value.int IntKind.i64 p.jail, Value.int IntKind.u64 p.base, Value.int IntKind.u64 p.mult, Value.int IntKind.i64 p.corr, Value.int IntKind.u64 p.rew], Value.int IntKind.i64 e, Value.tuple #[Value.int IntKind.i64 b, Value.int IntKind.i64 0], Value.int IntKind.i64 b, Value.int IntKind.i64 0, Value.int IntKind.i64 0, Value.bool false, Value.bool false, Value.int IntKind.i64 0, Value.bool false, Value.bool false, Value.bool false, Value.int IntKind.i64 a, Value.int IntKind.i64 h, Value.bool false, Value.bool false, Value.bool false, Value.int IntKind.i64 b, Value.int IntKind.i64 h, Value.bool false, Value.bool false, Value.tuple #[Value.int IntKind.i64 c, Value.int IntKind.i64 0], Value.agg #[Value.int IntKind.i64 p.unb, Value.int IntKind.i64 p.mage, Value.int IntKind.i64 p.elen, Value.int IntKind.i64 p.win, Value.int IntKind.i64 p.ent, Value.int IntKind.i64 p.act, Value.int IntKind.i64 p.jail, Value.int IntKind.u64 p.base, Value.int IntKind.u64 p.mult, Value.int IntKind.i64 p.corr, Value.int IntKind.u64 p.rew], Value.int IntKind.i64 e, Value.tuple #[Value.int IntKind.i64 c, Value.int IntKind.i64 0], Value.int IntKind.i64 c, Value.int IntKind.i64 0, Value.int IntKind.i64 0, Value.bool true, Value.bool true, Value.int IntKind.i64 e, Value.int IntKind.i64 e, Value.bool false, Value.bool false, undef, undef, undef, undef, undef, undef, undef, undef, undef, undef, undef, undef, undef, undef, undef, undef, undef, undef, undef, undef, undef, undef, undef, Value.int IntKind.i64 h, Value.bool false, undef, Value.agg p.cells, Value.int IntKind.i64 h, Value.tuple #[Value.int IntKind.i64 lo, Value.int IntKind.i64 0], Value.int IntKind.i64 lo, Value.int IntKind.i64 0, Value.int IntKind.i64 lo, Value.agg p.cells, Value.int IntKind.i64 h, Value.int IntKind.i64 (h + 1), Value.tuple #[Value.int IntKind.i64 nx, Value.int IntKind.i64 0], Value.int IntKind.i64 nx, Value.int IntKind.i64 0, Value.int IntKind.i64 nx, undef, undef, undef, undef, undef, undef, undef, undef, undef, undef, undef, undef, undef, undef, undef, undef, undef, undef, undef, undef, undef, undef, undef, undef, undef, undef, undef, undef, undef, undef, undef, undef, undef, undef, undef, undef, undef, undef, undef, undef, undef, undef, undef, undef, undef, undef, undef, undef, undef, undef, undef, undef, undef, undef], []⟩) (by kernel_rfl) ?_
          go_wp2_with fail
          have qdF := qW2L.drew
          refine wp_region_noPanic ?_
          refine region_named (R := opsF) (by kernel_rfl) ?_
          refine wp_regionH_fuel (fun W => Keeps Nob (w.alloc (.cells p.cells 24)) W) 15 #[false, false, false, false, false, false, false, false, false, false, false, false, false, false, false] (by kernel_rfl) (by kernel_rfl) rfl ?_
          refine wpAnyH_val (i := 0) (opsF.getD 0 default) (.agg p.cells) (by kernel_rfl) (fun _ _ _ _ _ h => h) (by kernel_rfl) (by kernel_rfl) (by kernel_rfl) (by kernel_rfl) (fun W hW => exec_load_row 24 (.tmp 3) (by kernel_rfl) _ (by kernel_rfl) 24 p.cells (0, 0) _ (par_row p hW) Try.underlying24 rfl (by kernel_rfl)) qdF ?_
          refine wpAnyH_val (i := 1) (opsF.getD 1 default) (.int .i64 h) (by kernel_rfl) (fun _ _ _ _ _ h => h) (by kernel_rfl) (by kernel_rfl) (by kernel_rfl) (by kernel_rfl) (fun W hW => by kernel_rfl) qdF ?_
          refine wpAnyH_val (i := 6) (opsF.getD 6 default) (.agg p.cells) (by kernel_rfl) (fun _ _ _ _ _ h => h) (by kernel_rfl) (by kernel_rfl) (by kernel_rfl) (by kernel_rfl) (fun W hW => exec_load_row 24 (.tmp 3) (by kernel_rfl) _ (by kernel_rfl) 24 p.cells (0, 0) _ (par_row p hW) Try.underlying24 rfl (by kernel_rfl)) qdF ?_
          refine wpAnyH_val (i := 7) (opsF.getD 7 default) (.int .i64 h) (by kernel_rfl) (fun _ _ _ _ _ h => h) (by kernel_rfl) (by kernel_rfl) (by kernel_rfl) (by kernel_rfl) (fun W hW => by kernel_rfl) qdF ?_
          refine wpAnyH_val (i := 8) (opsF.getD 8 default) (.int .i64 (h + 1)) (by kernel_rfl) (fun _ _ _ _ _ h => h) (by kernel_rfl) (by kernel_rfl) (by kernel_rfl) (by kernel_rfl) (fun W hW => exec_add64 (.tmp 119) (.const (.int .i64 1)) 3 3 (by kernel_rfl) (by kernel_rfl) h 1 (by kernel_rfl) (by kernel_rfl) (by omega)) qdF ?_
          refine wpAnyH_call (i := 2) (opsF.getD 2 default) 21 #[.agg p.cells, .int .i64 h] (by kernel_rfl) (by kernel_rfl) (by kernel_rfl) (by kernel_rfl) (by kernel_rfl) (enters_of Try.func21 (by kernel_rfl) rfl) ((F1.out _).mono ?_)
          rintro e W1F ⟨rfl, kW1F⟩
          have qW1F := qdF.trans kW1F
          refine ⟨_, rfl, qW1F, ?_⟩
          refine wpAnyH_val (i := 3) (opsF.getD 3 default) (.int .i64 fl) (by kernel_rfl) (fun _ _ _ _ _ h => h) (by kernel_rfl) (by kernel_rfl) (by kernel_rfl) (by kernel_rfl) (fun W hW => by kernel_rfl) qW1F ?_
          refine wpAnyH_val (i := 4) (opsF.getD 4 default) (.int .i64 0) (by kernel_rfl) (fun _ _ _ _ _ h => h) (by kernel_rfl) (by kernel_rfl) (by kernel_rfl) (by kernel_rfl) (fun W hW => by kernel_rfl) qW1F ?_
          refine wpAnyH_call (i := 5) (opsF.getD 5 default) 30 #[.int .i64 fl, .int .i64 0] (by kernel_rfl) (by kernel_rfl) (by kernel_rfl) (by kernel_rfl) (by kernel_rfl) (enters_of Try.func30 (by kernel_rfl) rfl) ((N3.out _).mono ?_)
          rintro e _ ⟨rfl, rfl⟩
          refine ⟨_, rfl, qW1F, ?_⟩
          refine wpAnyH_call (i := 9) (opsF.getD 9 default) 21 #[.agg p.cells, .int .i64 (h + 1)] (by kernel_rfl) (by kernel_rfl) (by kernel_rfl) (by kernel_rfl) (by kernel_rfl) (enters_of Try.func21 (by kernel_rfl) rfl) ((F2.out _).mono ?_)
          rintro e W2F ⟨rfl, kW2F⟩
          have qW2F := qW1F.trans kW2F
          refine ⟨_, rfl, qW2F, ?_⟩
          refine wpAnyH_val (i := 10) (opsF.getD 10 default) (.int .i64 th) (by kernel_rfl) (fun _ _ _ _ _ h => h) (by kernel_rfl) (by kernel_rfl) (by kernel_rfl) (by kernel_rfl) (fun W hW => by kernel_rfl) qW2F ?_
          refine wpAnyH_val (i := 11) (opsF.getD 11 default) (.int .i64 0) (by kernel_rfl) (fun _ _ _ _ _ h => h) (by kernel_rfl) (by kernel_rfl) (by kernel_rfl) (by kernel_rfl) (fun W hW => by kernel_rfl) qW2F ?_
          refine wpAnyH_call (i := 12) (opsF.getD 12 default) 30 #[.int .i64 th, .int .i64 0] (by kernel_rfl) (by kernel_rfl) (by kernel_rfl) (by kernel_rfl) (by kernel_rfl) (enters_of Try.func30 (by kernel_rfl) rfl) ((N4.out _).mono ?_)
          rintro e _ ⟨rfl, rfl⟩
          refine ⟨_, rfl, qW2F, ?_⟩
          refine wpAnyH_val (i := 13) (opsF.getD 13 default) (.int .i64 fl) (by kernel_rfl) (fun _ _ _ _ _ h => h) (by kernel_rfl) (by kernel_rfl) (by kernel_rfl) (by kernel_rfl) (fun W hW => by kernel_rfl) qW2F ?_
          refine wpAnyH_val (i := 14) (opsF.getD 14 default) (.int .i64 th) (by kernel_rfl) (fun _ _ _ _ _ h => h) (by kernel_rfl) (by kernel_rfl) (by kernel_rfl) (by kernel_rfl) (fun W hW => by kernel_rfl) qW2F ?_
          refine wpAnyH_done (by kernel_rfl) ?_ _
          refine NoPanic.normal ?_
          refine state_eq (b := ⟨#[Value.agg #[Value.int IntKind.i64 p.unb, Value.int IntKind.i64 p.mage, Value.int IntKind.i64 p.elen, Value.int IntKind.i64 p.win, Value.int IntKind.i64 p.ent, Value.int IntKind.i64 p.act, Value.int IntKind.i64 p.jail, Value.int IntKind.u64 p.base, Value.int IntKind.u64 p.mult, Value.int IntKind.i64 p.corr, Value.int IntKind.u64 p.rew], Value.int IntKind.i64 h, Value.int IntKind.i64 e, Value.pointer (some ⟨w.heap.size, 0, none⟩), undef, undef, Value.bool false, Value.bool true, Value.int IntKind.i64 e, Value.int IntKind.i64 0, Value.int IntKind.i64 a, Value.int IntKind.i64 0, Value.int IntKind.i64 b, Value.int IntKind.i64 0, Value.int IntKind.i64 c, Value.int IntKind.i64 0, undef, undef, Value.int IntKind.i64 lo, Value.int IntKind.i64 nx, Value.int IntKind.i64 fl, Value.int IntKind.i64 th, Value.bool true, Value.tuple #[Value.int IntKind.i64 e, Value.int IntKind.i64 0], Value.agg #[Value.int IntKind.i64 p.unb, Value.int IntKind.i64 p.mage, Value.int IntKind.i64 p.elen, Value.int IntKind.i64 p.win, Value.int IntKind.i64 p.ent, Value.int IntKind.i64 p.act, Value.int IntKind.i64 p.jail, Value.int IntKind.u64 p.base, Value.int IntKind.u64 p.mult, Value.int IntKind.i64 p.corr, Value.int IntKind.u64 p.rew], Value.int IntKind.i64 h, Value.tuple #[Value.int IntKind.i64 e, Value.int IntKind.i64 0], Value.int IntKind.i64 e, Value.int IntKind.i64 0, Value.int IntKind.i64 0, Value.bool false, undef, Value.tuple #[Value.int IntKind.i64 a, Value.int IntKind.i64 0], Value.agg #[Value.int IntKind.i64 p.unb, Value.int IntKind.i64 p.mage, Value.int IntKind.i64 p.elen, Value.int IntKind.i64 p.win, Value.int IntKind.i64 p.ent, Value.int IntKind.i64 p.act, Value.int IntKind.i64 p.jail, Value.int IntKind.u64 p.base, Value.int IntKind.u64 p.mult, Value.int IntKind.i64 p.corr, Value.int IntKind.u64 p.rew], Value.int IntKind.i64 e, Value.tuple #[Value.int IntKind.i64 a, Value.int IntKind.i64 0], Value.int IntKind.i64 a, Value.int IntKind.i64 0, Value.tuple #[Value.int IntKind.i64 b, Value.int IntKind.i64 0], Value.agg #[Value.int IntKind.i64 p.unb, Value.int IntKind.i64 p.mage, Value.int IntKind.i64 p.elen, Value.int IntKind.i64 p.win, Value.int IntKind.i64 p.ent, Value.int IntKind.i64 p.act, Value.int IntKind.i64 p.jail, Value.int IntKind.u64 p.base, Value.int IntKind.u64 p.mult, Value.int IntKind.i64 p.corr, Value.int IntKind.u64 p.rew], Value.int IntKind.i64 e, Value.tuple #[Value.int IntKind.i64 b, Value.int IntKind.i64 0], Value.int IntKind.i64 b, Value.int IntKind.i64 0, Value.int IntKind.i64 0, Value.bool false, Value.bool false, Value.int IntKind.i64 0, Value.bool false, Value.bool false, Value.bool false, Value.int IntKind.i64 a, Value.int IntKind.i64 h, Value.bool false, Value.bool false, Value.bool false, Value.int IntKind.i64 b, Value.int IntKind.i64 h, Value.bool false, Value.bool false, Value.tuple #[Value.int IntKind.i64 c, Value.int IntKind.i64 0], Value.agg #[Value.int IntKind.i64 p.unb, Value.int IntKind.i64 p.mage, Value.int IntKind.i64 p.elen, Value.int IntKind.i64 p.win, Value.int IntKind.i64 p.ent, Value.int IntKind.i64 p.act, Value.int IntKind.i64 p.jail, Value.int IntKind.u64 p.base, Value.int IntKind.u64 p.mult, Value.int IntKind.i64 p.corr, Value.int IntKind.u64 p.rew], Value.int IntKind.i64 e, Value.tuple #[Value.int IntKind.i64 c, Value.int IntKind.i64 0], Value.int IntKind.i64 c, Value.int IntKind.i64 0, Value.int IntKind.i64 0, Value.bool true, Value.bool true, Value.int IntKind.i64 e, Value.int IntKind.i64 e, Value.bool false, Value.bool false, undef, undef, undef, undef, undef, undef, undef, undef, undef, undef, undef, undef, undef, undef, undef, undef, undef, undef, undef, undef, undef, undef, undef, Value.int IntKind.i64 h, Value.bool false, undef, Value.agg p.cells, Value.int IntKind.i64 h, Value.tuple #[Value.int IntKind.i64 lo, Value.int IntKind.i64 0], Value.int IntKind.i64 lo, Value.int IntKind.i64 0, Value.int IntKind.i64 lo, Value.agg p.cells, Value.int IntKind.i64 h, Value.int IntKind.i64 (h + 1), Value.tuple #[Value.int IntKind.i64 nx, Value.int IntKind.i64 0], Value.int IntKind.i64 nx, Value.int IntKind.i64 0, Value.int IntKind.i64 nx, Value.agg p.cells, Value.int IntKind.i64 h, Value.tuple #[Value.int IntKind.i64 fl, Value.int IntKind.i64 0], Value.int IntKind.i64 fl, Value.int IntKind.i64 0, Value.int IntKind.i64 fl, Value.agg p.cells, Value.int IntKind.i64 h, Value.int IntKind.i64 (h + 1), Value.tuple #[Value.int IntKind.i64 th, Value.int IntKind.i64 0], Value.int IntKind.i64 th, Value.int IntKind.i64 0, Value.int IntKind.i64 th, undef, undef, undef, undef, undef, undef, undef, undef, undef, undef, undef, undef, undef, undef, undef, undef, undef, undef, undef, undef, undef, undef, undef, undef, undef, undef, undef, undef, undef, undef, undef, undef, undef, undef, undef, undef, undef, undef, undef, undef, undef], []⟩) (by kernel_rfl) ?_
          go_wp2_with fail
          go_ret
          exact ⟨rfl, hA.trans qW2F⟩
  · have e1 : p.epoch h = (0, p.fine [h]) := by unfold Par.epoch; exact if_neg hf
    rw [e1] at s1
    have S1 := Lib.hid s1
    clear s1 sF sL sW sR
    have d1 : (p.fine [h] == 0) = false := by simpa using hf
    generalize p.fine [h] = z at *
    rw [hpv] at S1
    rw [hpv]
    clear hpv
    go_enter Try.func6, Try.ntmps6
    go_wp2_with fail
    refine (known_ok _).mono ?_
    rintro x V0 ⟨rfl, k0⟩
    have q0 := q0.trans k0
    obtain ⟨c0, c1, c2, c3, c4, c5, c6, c7, c8, c9, c10⟩ := par_cells p q0
    go_wp2_with fail
    clear c0 c1 c2 c3 c4 c5 c6 c7 c8 c9 c10
    refine (S1.out _).mono ?_
    rintro x V1 ⟨rfl, k1⟩
    go_wp2_with fail
    go_ret
    exact ⟨rfl, hA.trans (q0.trans k1)⟩
end Go.Proofs.Ythoaoknggdohpaa
