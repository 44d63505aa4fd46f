/-
  Period: the law of what lasts (printed by genl.py). Conditions: none.
-/
import Derived.Test.YthoaoknggdohpaaPerP
namespace Go.Proofs.Ythoaoknggdohpaa
open Go Go.RowKit Go.Own Go.Shelf

theorem Par.fine_two (p : Par) (l : List Int) (hc : p.check.1 = 0) : p.fine l = 0 ∨ p.fine l = 3 := by
  unfold Par.fine; rw [if_pos hc]; split <;> simp
theorem Par.lasts (p : Par) (g h : Int) (hc : p.check.1 = 0) (ha : p.aged g h = 0) : 1 ≤ g ∧ g ≤ h ∧ h ≤ 4294967296 ∧ ∀ c, g ≤ c → c ≤ h → (1 < h → p.ripe c (h - 1) = (false, 0)) ∧ p.alive c h = (true, 0) := by
  obtain ⟨hu, hma, _, _, _, _, hm⟩ := p.bounds hc
  have hf : p.fine [g, h] = 0 := by
    unfold Par.aged at ha
    by_cases x : p.fine [g, h] = 0
    · exact x
    · rw [if_neg x] at ha; exact absurd ha x
  have hin := (p.fine_zero _ hf).2
  have hg := hin g (by simp)
  have hh := hin h (by simp)
  unfold hOk at hg hh
  unfold Par.aged at ha
  rw [if_pos hf] at ha
  have h1 : ¬ h < g := fun x => by rw [if_pos x] at ha; omega
  rw [if_neg h1] at ha
  have h2 : ¬ p.mage < h - g := fun x => by rw [if_pos x] at ha; omega
  refine ⟨hg.1, by omega, hh.2, fun c c1 c2 => ⟨fun h3 => ?_, ?_⟩⟩
  · have : p.fine [c, h - 1] = 0 := p.fine_in _ hc (fun x hx => by simp at hx; unfold hOk; omega)
    unfold Par.ripe; rw [this]; simp; omega
  · have : p.fine [c, h] = 0 := p.fine_in _ hc (fun x hx => by simp at hx; unfold hOk; omega)
    unfold Par.alive; rw [this]; simp; omega
theorem Par.stays (p : Par) (g h : Int) (hc : p.check.1 = 0) (hr : (p.ripe g h).1 = true) : p.ripe g h = (true, 0) ∧ 1 ≤ h ∧ h ≤ 4294967296 ∧ (h < 4294967296 → p.ripe g (h + 1) = (true, 0) ∧ p.alive g (h + 1) = (false, 0)) := by
  unfold Par.ripe at hr
  simp at hr
  obtain ⟨hf, h1⟩ := hr
  have hin := (p.fine_zero _ hf).2
  have hg := hin g (by simp)
  have hh := hin h (by simp)
  unfold hOk at hg hh
  refine ⟨by unfold Par.ripe; rw [hf]; simp; omega, hh.1, hh.2, fun h3 => ?_⟩
  have : p.fine [g, h + 1] = 0 := p.fine_in _ hc (fun x hx => by simp at hx; unfold hOk; omega)
  constructor
  · unfold Par.ripe; rw [this]; simp; omega
  · unfold Par.alive; rw [this]; simp; omega
theorem tmod_in (x y : Int) (hy : 0 < y) : - y < x.tmod y ∧ x.tmod y < y := by
  have h1 := Int.tmod_lt_of_pos x hy
  have h2 := Int.tmod_lt_of_pos (-x) hy
  rw [Int.neg_tmod] at h2
  omega
theorem yes_bad (z : Int) (h1 : 0 ≤ z) (h2 : z ≤ 1000) : ∃ y : Int, (∀ w, Calls Try.prog 31 #[.bool false, .int .i64 z] w fun e w' => e = .returned (.int .i64 y) ∧ w = w') ∧ y ≠ 1 := by
  refine ⟨yesV (false, z), fun w => yes_any (false, z) w h1 h2, ?_⟩
  unfold yesV numV
  simp
  split <;> omega

set_option maxRecDepth 100000 in
set_option maxHeartbeats 32000000 in
theorem lasts_ok (p : Par) (hp : p.Ok) (g : Int) (hg : i64ok g) (h : Int) (hh : i64ok h) (behind : Int) (hbh : i64ok behind) (w : World) :
    Calls Try.prog 7 #[p.v, .int .i64 g, .int .i64 h, .int .i64 behind] w fun x w' => x = .returned (.bool true) ∧ Keeps Nob w w' := by
  have sC := Lib.hid (fun W => pCheck_ok p hp W)
  have sA := Lib.hid (fun W => pAged_ok p hp g h hg hh W)
  have sR := Lib.hid (fun c k hc hk W => pRipe_ok p hp c k hc hk W)
  have sL := Lib.hid (fun c k hc hk W => pAlive_ok p hp c k hc hk W)
  have q0 : Keeps Nob (w.alloc (.cells p.cells 24)) (w.alloc (.cells p.cells 24)) := Keeps.refl _ _
  have hA : Keeps Nob w (w.alloc (.cells p.cells 24)) := (Keeps.refl _ _).alloc _
  have hpv : p.v = .agg #[.int .i64 p.unb, .int .i64 p.mage, .int .i64 p.elen, .int .i64 p.win, .int .i64 p.ent, .int .i64 p.act, .int .i64 p.jail, .int .u64 p.base, .int .u64 p.mult, .int .i64 p.corr, .int .u64 p.rew] := rfl
  have YT := Lib.hid (fun W => yes_any (true, 0) W (by decide) (by decide))
  have YF := Lib.hid (fun W => yes_any (false, 0) W (by decide) (by decide))
  rw [show yesV (true, 0) = 1 from rfl] at YT
  rw [show yesV (false, 0) = 0 from rfl] at YF
  by_cases hc : p.check.1 = 0
  · have HT : (∃ (y : Int) (z : Int), RowKit.Hid (∀ W, Calls Try.prog 8 #[.agg p.cells, .int .i64 g, .int .i64 h] W fun e w' => e = .returned (.tuple #[.bool false, .int .i64 z]) ∧ Keeps Nob W w') ∧
          RowKit.Hid (∀ w, Calls Try.prog 31 #[.bool false, .int .i64 z] w fun e w' => e = .returned (.int .i64 y) ∧ w = w') ∧ y ≠ 1) ∨
        (RowKit.Hid (∀ W, Calls Try.prog 8 #[.agg p.cells, .int .i64 g, .int .i64 h] W fun e w' => e = .returned (.tuple #[.bool true, .int .i64 0]) ∧ Keeps Nob W w') ∧ (h = 4294967296 ∨ (h < 4294967296 ∧ RowKit.Hid (∀ W, Calls Try.prog 8 #[.agg p.cells, .int .i64 g, .int .i64 (h + 1)] W fun e w' => e = .returned (.tuple #[.bool true, .int .i64 0]) ∧ Keeps Nob W w') ∧
          RowKit.Hid (∀ W, Calls Try.prog 10 #[.agg p.cells, .int .i64 g, .int .i64 (h + 1)] W fun e w' => e = .returned (.tuple #[.bool false, .int .i64 0]) ∧ Keeps Nob W w')))) := by
      have x := sR.out g h hg hh
      by_cases hr : (p.ripe g h).1 = true
      · obtain ⟨e1, e2, e3, e4⟩ := p.stays g h hc hr
        rw [e1] at x
        refine .inr ⟨x, ?_⟩
        rcases (show h = 4294967296 ∨ h < 4294967296 by omega) with hm | hm
        · exact .inl hm
        · have hn : i64ok (h + 1) := by unfold i64ok; omega
          have y := sR.out g (h + 1) hg hn
          have z := sL.out g (h + 1) hg hn
          rw [(e4 hm).1] at y
          rw [(e4 hm).2] at z
          exact .inr ⟨hm, y, z⟩
      · have hr' : (p.ripe g h).1 = false := by simpa using hr
        rw [hr'] at x
        have hz : 0 ≤ (p.ripe g h).2 ∧ (p.ripe g h).2 ≤ 1000 := by
          have := p.fine_two [g, h] hc
          unfold Par.ripe
          simp only
          omega
        obtain ⟨y, Y, hy⟩ := yes_bad _ hz.1 hz.2
        exact .inl ⟨y, _, x, Y, hy⟩
    have HL := Lib.hid (p.lasts g h hc)
    have hcc : p.check = (0, p.check.2) := Prod.ext hc rfl
    rw [hcc] at sC
    generalize p.check.2 = ci at *
    have HG : p.aged g h ≠ 0 ∨ (p.aged g h = 0 ∧ 1 ≤ g ∧ h ≤ 4294967296 ∧ ((h = g ∧ ((1 < h ∧ RowKit.Hid (∀ W, Calls Try.prog 8 #[.agg p.cells, .int .i64 g, .int .i64 (h - 1)] W fun e w' => e = .returned (.tuple #[.bool false, .int .i64 0]) ∧ Keeps Nob W w')) ∨ h ≤ 1) ∧ RowKit.Hid (∀ W, Calls Try.prog 10 #[.agg p.cells, .int .i64 g, .int .i64 h] W fun e w' => e = .returned (.tuple #[.bool true, .int .i64 0]) ∧ Keeps Nob W w')) ∨
        ∃ m : Int, behind.tmod (h - g + 1) = m ∧ g < h ∧ m ≤ h - g ∧ g - h ≤ m ∧ ((0 ≤ m ∧ RowKit.Hid (∀ W, Calls Try.prog 8 #[.agg p.cells, .int .i64 (g + m), .int .i64 (h - 1)] W fun e w' => e = .returned (.tuple #[.bool false, .int .i64 0]) ∧ Keeps Nob W w') ∧ RowKit.Hid (∀ W, Calls Try.prog 10 #[.agg p.cells, .int .i64 (g + m), .int .i64 h] W fun e w' => e = .returned (.tuple #[.bool true, .int .i64 0]) ∧ Keeps Nob W w')) ∨
          (m < 0 ∧ RowKit.Hid (∀ W, Calls Try.prog 8 #[.agg p.cells, .int .i64 g, .int .i64 (h - 1)] W fun e w' => e = .returned (.tuple #[.bool false, .int .i64 0]) ∧ Keeps Nob W w') ∧ RowKit.Hid (∀ W, Calls Try.prog 10 #[.agg p.cells, .int .i64 g, .int .i64 h] W fun e w' => e = .returned (.tuple #[.bool true, .int .i64 0]) ∧ Keeps Nob W w'))))) := by
      by_cases ha : p.aged g h = 0
      · obtain ⟨l1, l2, l3, l4⟩ := HL.out ha
        refine .inr ⟨ha, l1, l3, ?_⟩
        have R : ∀ c, g ≤ c → c ≤ h → 1 < h → RowKit.Hid (∀ W, Calls Try.prog 8 #[.agg p.cells, .int .i64 c, .int .i64 (h - 1)] W fun e w' => e = .returned (.tuple #[.bool false, .int .i64 0]) ∧ Keeps Nob W w') := fun c a b d => by
          have x := sR.out c (h - 1) (by unfold i64ok; omega) (by unfold i64ok; omega)
          rw [(l4 c a b).1 d] at x
          exact x
        have A : ∀ c, g ≤ c → c ≤ h → RowKit.Hid (∀ W, Calls Try.prog 10 #[.agg p.cells, .int .i64 c, .int .i64 h] W fun e w' => e = .returned (.tuple #[.bool true, .int .i64 0]) ∧ Keeps Nob W w') := fun c a b => by
          have x := sL.out c h (by unfold i64ok; omega) hh
          rw [(l4 c a b).2] at x
          exact x
        rcases (show h = g ∨ g < h by omega) with e | e
        · refine .inl ⟨e, ?_, A g (by omega) (by omega)⟩
          rcases (show 1 < h ∨ h ≤ 1 by omega) with e' | e'
          · exact .inl ⟨e', R g (by omega) (by omega) e'⟩
          · exact .inr e'
        · have t := tmod_in behind (h - g + 1) (by omega)
          refine .inr ⟨_, rfl, e, by omega, by omega, ?_⟩
          rcases (show 0 ≤ behind.tmod (h - g + 1) ∨ behind.tmod (h - g + 1) < 0 by omega) with s | s
          · exact .inl ⟨s, R _ (by omega) (by omega) (by omega), A _ (by omega) (by omega)⟩
          · exact .inr ⟨s, R _ (by omega) (by omega) (by omega), A _ (by omega) (by omega)⟩
      · exact .inl ha
    clear sR sL HL hcc hc
    generalize p.aged g h = ag at *
    change RowKit.Hid (∀ W, Calls Try.prog 32 #[.agg p.cells] W fun e w' => _) at sC
    obtain ⟨hg1, hg2⟩ := hg
    obtain ⟨hh1, hh2⟩ := hh
    obtain ⟨hb1, hb2⟩ := hbh
    rw [hpv]
    rw [show Value.agg p.cells = .agg #[.int .i64 p.unb, .int .i64 p.mage, .int .i64 p.elen, .int .i64 p.win, .int .i64 p.ent, .int .i64 p.act, .int .i64 p.jail, .int .u64 p.base, .int .u64 p.mult, .int .i64 p.corr, .int .u64 p.rew] from rfl] at HT HG sC
    rw [hpv] at sA
    clear hpv
    go_enter Try.func7, Try.ntmps7
    go_wp2_with fail
    refine (known_ok _).mono ?_
    rintro x V0 ⟨rfl, k0⟩
    have q0 := q0.trans k0
    obtain ⟨c0, c1, c2, c3, c4, c5, c6, c7, c8, c9, c10⟩ := par_cells p q0
    go_wp2_with fail
    clear c0 c1 c2 c3 c4 c5 c6 c7 c8 c9 c10
    refine (sC.out _).mono ?_
    rintro x V1 ⟨rfl, k1⟩
    have q1 := q0.trans k1
    obtain ⟨c0, c1, c2, c3, c4, c5, c6, c7, c8, c9, c10⟩ := par_cells p q1
    go_wp2_with fail
    clear c0 c1 c2 c3 c4 c5 c6 c7 c8 c9 c10
    rcases HG with ha | ⟨rfl, l1, l2, ha⟩
    · have da : (ag == 0) = false := by simpa using ha
      refine (sA.out _).mono ?_
      rintro x V2 ⟨rfl, k2⟩
      have q2 := q1.trans k2
      obtain ⟨c0, c1, c2, c3, c4, c5, c6, c7, c8, c9, c10⟩ := par_cells p q2
      go_wp2_with fail
      clear c0 c1 c2 c3 c4 c5 c6 c7 c8 c9 c10
      rcases HT with ⟨b, z, R1, Y1, y1⟩ | ⟨R1, t1⟩
      · have dy : (b == 1) = false := by simp; omega
        refine (R1.out _).mono ?_
        rintro x V3 ⟨rfl, k3⟩
        have q3 := q2.trans k3
        obtain ⟨c0, c1, c2, c3, c4, c5, c6, c7, c8, c9, c10⟩ := par_cells p q3
        go_wp2_with fail
        refine (Y1.out _).mono ?_
        rintro x _ ⟨rfl, rfl⟩
        go_wp2_with fail
        go_ret
        exact ⟨rfl, hA.trans q3⟩
      · rcases t1 with t1 | ⟨t1, R2, R3⟩
        · have dh : decide (h < 4294967296) = false := by simp; omega
          refine (R1.out _).mono ?_
          rintro x V4 ⟨rfl, k4⟩
          have q4 := q2.trans k4
          obtain ⟨c0, c1, c2, c3, c4, c5, c6, c7, c8, c9, c10⟩ := par_cells p q4
          go_wp2_with fail
          refine (YT.out _).mono ?_
          rintro x _ ⟨rfl, rfl⟩
          go_wp2_with fail
          go_ret
          exact ⟨rfl, hA.trans q4⟩
        · have dh : decide (h < 4294967296) = true := by simp; omega
          refine (R1.out _).mono ?_
          rintro x V5 ⟨rfl, k5⟩
          have q5 := q2.trans k5
          obtain ⟨c0, c1, c2, c3, c4, c5, c6, c7, c8, c9, c10⟩ := par_cells p q5
          go_wp2_with fail
          refine (YT.out _).mono ?_
          rintro x _ ⟨rfl, rfl⟩
          go_wp2_with fail
          clear c0 c1 c2 c3 c4 c5 c6 c7 c8 c9 c10
          refine (R2.out _).mono ?_
          rintro x V6 ⟨rfl, k6⟩
          have q6 := q5.trans k6
          obtain ⟨c0, c1, c2, c3, c4, c5, c6, c7, c8, c9, c10⟩ := par_cells p q6
          go_wp2_with fail
          refine (YT.out _).mono ?_
          rintro x _ ⟨rfl, rfl⟩
          go_wp2_with fail
          clear c0 c1 c2 c3 c4 c5 c6 c7 c8 c9 c10
          refine (R3.out _).mono ?_
          rintro x V7 ⟨rfl, k7⟩
          have q7 := q6.trans k7
          obtain ⟨c0, c1, c2, c3, c4, c5, c6, c7, c8, c9, c10⟩ := par_cells p q7
          go_wp2_with fail
          refine (YF.out _).mono ?_
          rintro x _ ⟨rfl, rfl⟩
          go_wp2_with fail
          go_ret
          exact ⟨rfl, hA.trans q7⟩
    · rcases ha with ⟨e, ha, A1⟩ | ⟨m, et, e, m1, m2, ha⟩
      · subst e
        have de : decide (h < h) = false := by simp
        rcases ha with ⟨ha, R0⟩ | ha
        · have dg : decide (1 < h) = true := by simp; omega
          refine (sA.out _).mono ?_
          rintro x V8 ⟨rfl, k8⟩
          have q8 := q1.trans k8
          obtain ⟨c0, c1, c2, c3, c4, c5, c6, c7, c8, c9, c10⟩ := par_cells p q8
          go_wp2_with fail
          clear c0 c1 c2 c3 c4 c5 c6 c7 c8 c9 c10
          refine (R0.out _).mono ?_
          rintro x V9 ⟨rfl, k9⟩
          have q9 := q8.trans k9
          obtain ⟨c0, c1, c2, c3, c4, c5, c6, c7, c8, c9, c10⟩ := par_cells p q9
          go_wp2_with fail
          refine (YF.out _).mono ?_
          rintro x _ ⟨rfl, rfl⟩
          go_wp2_with fail
          clear c0 c1 c2 c3 c4 c5 c6 c7 c8 c9 c10
          refine (A1.out _).mono ?_
          rintro x V10 ⟨rfl, k10⟩
          have q10 := q9.trans k10
          obtain ⟨c0, c1, c2, c3, c4, c5, c6, c7, c8, c9, c10⟩ := par_cells p q10
          go_wp2_with fail
          refine (YT.out _).mono ?_
          rintro x _ ⟨rfl, rfl⟩
          go_wp2_with fail
          clear c0 c1 c2 c3 c4 c5 c6 c7 c8 c9 c10
          rcases HT with ⟨b, z, R1, Y1, y1⟩ | ⟨R1, t1⟩
          · have dy : (b == 1) = false := by simp; omega
            refine (R1.out _).mono ?_
            rintro x V11 ⟨rfl, k11⟩
            have q11 := q10.trans k11
            obtain ⟨c0, c1, c2, c3, c4, c5, c6, c7, c8, c9, c10⟩ := par_cells p q11
            go_wp2_with fail
            refine (Y1.out _).mono ?_
            rintro x _ ⟨rfl, rfl⟩
            go_wp2_with fail
            go_ret
            exact ⟨rfl, hA.trans q11⟩
          · rcases t1 with t1 | ⟨t1, R2, R3⟩
            · have dh : decide (h < 4294967296) = false := by simp; omega
              refine (R1.out _).mono ?_
              rintro x V12 ⟨rfl, k12⟩
              have q12 := q10.trans k12
              obtain ⟨c0, c1, c2, c3, c4, c5, c6, c7, c8, c9, c10⟩ := par_cells p q12
              go_wp2_with fail
              refine (YT.out _).mono ?_
              rintro x _ ⟨rfl, rfl⟩
              go_wp2_with fail
              go_ret
              exact ⟨rfl, hA.trans q12⟩
            · have dh : decide (h < 4294967296) = true := by simp; omega
              refine (R1.out _).mono ?_
              rintro x V13 ⟨rfl, k13⟩
              have q13 := q10.trans k13
              obtain ⟨c0, c1, c2, c3, c4, c5, c6, c7, c8, c9, c10⟩ := par_cells p q13
              go_wp2_with fail
              refine (YT.out _).mono ?_
              rintro x _ ⟨rfl, rfl⟩
              go_wp2_with fail
              clear c0 c1 c2 c3 c4 c5 c6 c7 c8 c9 c10
              refine (R2.out _).mono ?_
              rintro x V14 ⟨rfl, k14⟩
              have q14 := q13.trans k14
              obtain ⟨c0, c1, c2, c3, c4, c5, c6, c7, c8, c9, c10⟩ := par_cells p q14
              go_wp2_with fail
              refine (YT.out _).mono ?_
              rintro x _ ⟨rfl, rfl⟩
              go_wp2_with fail
              clear c0 c1 c2 c3 c4 c5 c6 c7 c8 c9 c10
              refine (R3.out _).mono ?_
              rintro x V15 ⟨rfl, k15⟩
              have q15 := q14.trans k15
              obtain ⟨c0, c1, c2, c3, c4, c5, c6, c7, c8, c9, c10⟩ := par_cells p q15
              go_wp2_with fail
              refine (YF.out _).mono ?_
              rintro x _ ⟨rfl, rfl⟩
              go_wp2_with fail
              go_ret
              exact ⟨rfl, hA.trans q15⟩
        · have dg : decide (1 < h) = false := by simp; omega
          refine (sA.out _).mono ?_
          rintro x V16 ⟨rfl, k16⟩
          have q16 := q1.trans k16
          obtain ⟨c0, c1, c2, c3, c4, c5, c6, c7, c8, c9, c10⟩ := par_cells p q16
          go_wp2_with fail
          clear c0 c1 c2 c3 c4 c5 c6 c7 c8 c9 c10
          refine (A1.out _).mono ?_
          rintro x V17 ⟨rfl, k17⟩
          have q17 := q16.trans k17
          obtain ⟨c0, c1, c2, c3, c4, c5, c6, c7, c8, c9, c10⟩ := par_cells p q17
          go_wp2_with fail
          refine (YT.out _).mono ?_
          rintro x _ ⟨rfl, rfl⟩
          go_wp2_with fail
          clear c0 c1 c2 c3 c4 c5 c6 c7 c8 c9 c10
          rcases HT with ⟨b, z, R1, Y1, y1⟩ | ⟨R1, t1⟩
          · have dy : (b == 1) = false := by simp; omega
            refine (R1.out _).mono ?_
            rintro x V18 ⟨rfl, k18⟩
            have q18 := q17.trans k18
            obtain ⟨c0, c1, c2, c3, c4, c5, c6, c7, c8, c9, c10⟩ := par_cells p q18
            go_wp2_with fail
            refine (Y1.out _).mono ?_
            rintro x _ ⟨rfl, rfl⟩
            go_wp2_with fail
            go_ret
            exact ⟨rfl, hA.trans q18⟩
          · rcases t1 with t1 | ⟨t1, R2, R3⟩
            · have dh : decide (h < 4294967296) = false := by simp; omega
              refine (R1.out _).mono ?_
              rintro x V19 ⟨rfl, k19⟩
              have q19 := q17.trans k19
              obtain ⟨c0, c1, c2, c3, c4, c5, c6, c7, c8, c9, c10⟩ := par_cells p q19
              go_wp2_with fail
              refine (YT.out _).mono ?_
              rintro x _ ⟨rfl, rfl⟩
              go_wp2_with fail
              go_ret
              exact ⟨rfl, hA.trans q19⟩
            · have dh : decide (h < 4294967296) = true := by simp; omega
              refine (R1.out _).mono ?_
              rintro x V20 ⟨rfl, k20⟩
              have q20 := q17.trans k20
              obtain ⟨c0, c1, c2, c3, c4, c5, c6, c7, c8, c9, c10⟩ := par_cells p q20
              go_wp2_with fail
              refine (YT.out _).mono ?_
              rintro x _ ⟨rfl, rfl⟩
              go_wp2_with fail
              clear c0 c1 c2 c3 c4 c5 c6 c7 c8 c9 c10
              refine (R2.out _).mono ?_
              rintro x V21 ⟨rfl, k21⟩
              have q21 := q20.trans k21
              obtain ⟨c0, c1, c2, c3, c4, c5, c6, c7, c8, c9, c10⟩ := par_cells p q21
              go_wp2_with fail
              refine (YT.out _).mono ?_
              rintro x _ ⟨rfl, rfl⟩
              go_wp2_with fail
              clear c0 c1 c2 c3 c4 c5 c6 c7 c8 c9 c10
              refine (R3.out _).mono ?_
              rintro x V22 ⟨rfl, k22⟩
              have q22 := q21.trans k22
              obtain ⟨c0, c1, c2, c3, c4, c5, c6, c7, c8, c9, c10⟩ := par_cells p q22
              go_wp2_with fail
              refine (YF.out _).mono ?_
              rintro x _ ⟨rfl, rfl⟩
              go_wp2_with fail
              go_ret
              exact ⟨rfl, hA.trans q22⟩
      · have de : decide (g < h) = true := by simp; omega
        have dg : decide (1 < h) = true := by simp; omega
        rcases ha with ⟨ha, R0, A1⟩ | ⟨ha, R0, A1⟩
        · have df : decide (g + m < g) = false := by simp; omega
          refine (sA.out _).mono ?_
          rintro x V23 ⟨rfl, k23⟩
          have q23 := q1.trans k23
          obtain ⟨c0, c1, c2, c3, c4, c5, c6, c7, c8, c9, c10⟩ := par_cells p q23
          go_wp2_with fail
          clear c0 c1 c2 c3 c4 c5 c6 c7 c8 c9 c10
          refine (R0.out _).mono ?_
          rintro x V24 ⟨rfl, k24⟩
          have q24 := q23.trans k24
          obtain ⟨c0, c1, c2, c3, c4, c5, c6, c7, c8, c9, c10⟩ := par_cells p q24
          go_wp2_with fail
          refine (YF.out _).mono ?_
          rintro x _ ⟨rfl, rfl⟩
          go_wp2_with fail
          clear c0 c1 c2 c3 c4 c5 c6 c7 c8 c9 c10
          refine (A1.out _).mono ?_
          rintro x V25 ⟨rfl, k25⟩
          have q25 := q24.trans k25
          obtain ⟨c0, c1, c2, c3, c4, c5, c6, c7, c8, c9, c10⟩ := par_cells p q25
          go_wp2_with fail
          refine (YT.out _).mono ?_
          rintro x _ ⟨rfl, rfl⟩
          go_wp2_with fail
          clear c0 c1 c2 c3 c4 c5 c6 c7 c8 c9 c10
          rcases HT with ⟨b, z, R1, Y1, y1⟩ | ⟨R1, t1⟩
          · have dy : (b == 1) = false := by simp; omega
            refine (R1.out _).mono ?_
            rintro x V26 ⟨rfl, k26⟩
            have q26 := q25.trans k26
            obtain ⟨c0, c1, c2, c3, c4, c5, c6, c7, c8, c9, c10⟩ := par_cells p q26
            go_wp2_with fail
            refine (Y1.out _).mono ?_
            rintro x _ ⟨rfl, rfl⟩
            go_wp2_with fail
            go_ret
            exact ⟨rfl, hA.trans q26⟩
          · rcases t1 with t1 | ⟨t1, R2, R3⟩
            · have dh : decide (h < 4294967296) = false := by simp; omega
              refine (R1.out _).mono ?_
              rintro x V27 ⟨rfl, k27⟩
              have q27 := q25.trans k27
              obtain ⟨c0, c1, c2, c3, c4, c5, c6, c7, c8, c9, c10⟩ := par_cells p q27
              go_wp2_with fail
              refine (YT.out _).mono ?_
              rintro x _ ⟨rfl, rfl⟩
              go_wp2_with fail
              go_ret
              exact ⟨rfl, hA.trans q27⟩
            · have dh : decide (h < 4294967296) = true := by simp; omega
              refine (R1.out _).mono ?_
              rintro x V28 ⟨rfl, k28⟩
              have q28 := q25.trans k28
              obtain ⟨c0, c1, c2, c3, c4, c5, c6, c7, c8, c9, c10⟩ := par_cells p q28
              go_wp2_with fail
              refine (YT.out _).mono ?_
              rintro x _ ⟨rfl, rfl⟩
              go_wp2_with fail
              clear c0 c1 c2 c3 c4 c5 c6 c7 c8 c9 c10
              refine (R2.out _).mono ?_
              rintro x V29 ⟨rfl, k29⟩
              have q29 := q28.trans k29
              obtain ⟨c0, c1, c2, c3, c4, c5, c6, c7, c8, c9, c10⟩ := par_cells p q29
              go_wp2_with fail
              refine (YT.out _).mono ?_
              rintro x _ ⟨rfl, rfl⟩
              go_wp2_with fail
              clear c0 c1 c2 c3 c4 c5 c6 c7 c8 c9 c10
              refine (R3.out _).mono ?_
              rintro x V30 ⟨rfl, k30⟩
              have q30 := q29.trans k30
              obtain ⟨c0, c1, c2, c3, c4, c5, c6, c7, c8, c9, c10⟩ := par_cells p q30
              go_wp2_with fail
              refine (YF.out _).mono ?_
              rintro x _ ⟨rfl, rfl⟩
              go_wp2_with fail
              go_ret
              exact ⟨rfl, hA.trans q30⟩
        · have df : decide (g + m < g) = true := by simp; omega
          refine (sA.out _).mono ?_
          rintro x V31 ⟨rfl, k31⟩
          have q31 := q1.trans k31
          obtain ⟨c0, c1, c2, c3, c4, c5, c6, c7, c8, c9, c10⟩ := par_cells p q31
          go_wp2_with fail
          clear c0 c1 c2 c3 c4 c5 c6 c7 c8 c9 c10
          refine (R0.out _).mono ?_
          rintro x V32 ⟨rfl, k32⟩
          have q32 := q31.trans k32
          obtain ⟨c0, c1, c2, c3, c4, c5, c6, c7, c8, c9, c10⟩ := par_cells p q32
          go_wp2_with fail
          refine (YF.out _).mono ?_
          rintro x _ ⟨rfl, rfl⟩
          go_wp2_with fail
          clear c0 c1 c2 c3 c4 c5 c6 c7 c8 c9 c10
          refine (A1.out _).mono ?_
          rintro x V33 ⟨rfl, k33⟩
          have q33 := q32.trans k33
          obtain ⟨c0, c1, c2, c3, c4, c5, c6, c7, c8, c9, c10⟩ := par_cells p q33
          go_wp2_with fail
          refine (YT.out _).mono ?_
          rintro x _ ⟨rfl, rfl⟩
          go_wp2_with fail
          clear c0 c1 c2 c3 c4 c5 c6 c7 c8 c9 c10
          rcases HT with ⟨b, z, R1, Y1, y1⟩ | ⟨R1, t1⟩
          · have dy : (b == 1) = false := by simp; omega
            refine (R1.out _).mono ?_
            rintro x V34 ⟨rfl, k34⟩
            have q34 := q33.trans k34
            obtain ⟨c0, c1, c2, c3, c4, c5, c6, c7, c8, c9, c10⟩ := par_cells p q34
            go_wp2_with fail
            refine (Y1.out _).mono ?_
            rintro x _ ⟨rfl, rfl⟩
            go_wp2_with fail
            go_ret
            exact ⟨rfl, hA.trans q34⟩
          · rcases t1 with t1 | ⟨t1, R2, R3⟩
            · have dh : decide (h < 4294967296) = false := by simp; omega
              refine (R1.out _).mono ?_
              rintro x V35 ⟨rfl, k35⟩
              have q35 := q33.trans k35
              obtain ⟨c0, c1, c2, c3, c4, c5, c6, c7, c8, c9, c10⟩ := par_cells p q35
              go_wp2_with fail
              refine (YT.out _).mono ?_
              rintro x _ ⟨rfl, rfl⟩
              go_wp2_with fail
              go_ret
              exact ⟨rfl, hA.trans q35⟩
            · have dh : decide (h < 4294967296) = true := by simp; omega
              refine (R1.out _).mono ?_
              rintro x V36 ⟨rfl, k36⟩
              have q36 := q33.trans k36
              obtain ⟨c0, c1, c2, c3, c4, c5, c6, c7, c8, c9, c10⟩ := par_cells p q36
              go_wp2_with fail
              refine (YT.out _).mono ?_
              rintro x _ ⟨rfl, rfl⟩
              go_wp2_with fail
              clear c0 c1 c2 c3 c4 c5 c6 c7 c8 c9 c10
              refine (R2.out _).mono ?_
              rintro x V37 ⟨rfl, k37⟩
              have q37 := q36.trans k37
              obtain ⟨c0, c1, c2, c3, c4, c5, c6, c7, c8, c9, c10⟩ := par_cells p q37
              go_wp2_with fail
              refine (YT.out _).mono ?_
              rintro x _ ⟨rfl, rfl⟩
              go_wp2_with fail
              clear c0 c1 c2 c3 c4 c5 c6 c7 c8 c9 c10
              refine (R3.out _).mono ?_
              rintro x V38 ⟨rfl, k38⟩
              have q38 := q37.trans k38
              obtain ⟨c0, c1, c2, c3, c4, c5, c6, c7, c8, c9, c10⟩ := par_cells p q38
              go_wp2_with fail
              refine (YF.out _).mono ?_
              rintro x _ ⟨rfl, rfl⟩
              go_wp2_with fail
              go_ret
              exact ⟨rfl, hA.trans q38⟩
  · have ea : p.aged g h = p.check.1 := by
      have : p.fine [g, h] = p.check.1 := by unfold Par.fine; exact if_neg hc
      unfold Par.aged; rw [this, if_neg hc]
    rw [ea] at sA
    have dc : (p.check.1 == 0) = false := by simpa using hc
    clear sR sL ea YT YF
    generalize p.check.1 = ce at *
    generalize p.check.2 = ci at *
    rw [hpv] at sC sA
    rw [hpv]
    clear hpv
    go_enter Try.func7, Try.ntmps7
    go_wp2_with fail
    refine (known_ok _).mono ?_
    rintro x V0 ⟨rfl, k0⟩
    have q0 := q0.trans k0
    obtain ⟨c0, c1, c2, c3, c4, c5, c6, c7, c8, c9, c10⟩ := par_cells p q0
    go_wp2_with fail
    clear c0 c1 c2 c3 c4 c5 c6 c7 c8 c9 c10
    refine (sC.out _).mono ?_
    rintro x V39 ⟨rfl, k39⟩
    have q39 := q0.trans k39
    obtain ⟨c0, c1, c2, c3, c4, c5, c6, c7, c8, c9, c10⟩ := par_cells p q39
    go_wp2_with fail
    clear c0 c1 c2 c3 c4 c5 c6 c7 c8 c9 c10
    refine (sA.out _).mono ?_
    rintro x V40 ⟨rfl, k40⟩
    have q40 := q39.trans k40
    obtain ⟨c0, c1, c2, c3, c4, c5, c6, c7, c8, c9, c10⟩ := par_cells p q40
    go_wp2_with fail
    go_ret
    exact ⟨rfl, hA.trans q40⟩
end Go.Proofs.Ythoaoknggdohpaa
