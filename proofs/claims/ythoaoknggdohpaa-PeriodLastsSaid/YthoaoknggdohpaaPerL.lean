/-
  Period: the program's First, Last, Low. Conditions: none.
-/
import Derived.Test.YthoaoknggdohpaaPerK
namespace Go.Proofs.Ythoaoknggdohpaa
open Go Go.RowKit Go.Own Go.Shelf

set_option maxRecDepth 100000 in
set_option maxHeartbeats 4000000 in
theorem pFirst_ok (p : Par) (hp : p.Ok) (e : Int) (he : i64ok e) (w : World) :
    Calls Try.prog 25 #[p.v, .int .i64 e] w fun x w' => x = .returned (.tuple #[.int .i64 (p.first e).1, .int .i64 (p.first e).2]) ∧ Keeps Nob w w' := by
  have FN := fun V v hv => good_ok p hp v [] V (by simp) hv
  have hb := fun hc => p.bounds (p.fine_zero [] hc).1
  unfold Par.first
  generalize p.fine [] = er at *
  have hpv : p.v = .agg p.cells := rfl
  rw [hpv] at FN ⊢
  unfold Par.cells at FN ⊢
  have FH := Lib.hid FN; clear FN hpv
  obtain ⟨he1, he2⟩ := he
  by_cases hc : er = 0
  · subst hc
    obtain ⟨_, _, ⟨x5, x6⟩, _⟩ := hb rfl
    clear hb
    rw [if_pos rfl]
    by_cases k1 : e < 0
    · rw [if_neg (by omega)]
      go_enter Try.func25, Try.ntmps25
      go_wp2_with (go_at_call 33; refine (FH.out _ _ (ints_none _)).mono ?_; rintro x V ⟨rfl, hk⟩)
      go_ret2
      exact ⟨rfl, (((Keeps.refl Nob w).alloc _).trans hk).alloc _⟩
    · have k1d : decide (e < 0) = false := by simpa using k1
      by_cases k2 : 4294967296 < e
      · rw [if_neg (by omega)]
        go_enter Try.func25, Try.ntmps25
        go_wp2_with (go_at_call 33; refine (FH.out _ _ (ints_none _)).mono ?_; rintro x V ⟨rfl, hk⟩)
        go_ret2
        exact ⟨rfl, (((Keeps.refl Nob w).alloc _).trans hk).alloc _⟩
      · have k2d : decide (4294967296 < e) = false := by simpa using k2
        have m1 : 0 ≤ e * p.elen := Int.mul_nonneg (by omega) (by omega)
        have m2 : e * p.elen ≤ 4294967296000 := by have := Int.mul_le_mul (show e ≤ 4294967296 by omega) x6 (by omega) (by omega); omega
        by_cases k3 : e * p.elen + 1 ≤ 4294967296
        · rw [if_pos ⟨by omega, by omega, k3⟩]
          have hf := fun W => pfine_ok (e * p.elen + 1) W
          rw [errOf_ok _ (by unfold hOk; omega)] at hf
          have HF := Lib.hid hf; clear hf
          go_enter Try.func25, Try.ntmps25
          go_wp2_with (first
            | (go_at_call 33; refine (FH.out _ _ (ints_none _)).mono ?_; rintro x V ⟨rfl, hk⟩)
            | (go_at_call 38; refine (HF.out _).mono ?_; rintro e w' ⟨rfl, rfl⟩))
          go_ret2
          exact ⟨rfl, (((Keeps.refl Nob w).alloc _).trans hk).alloc _⟩
        · rw [if_neg (by omega)]
          have hf := fun W => pfine_ok (e * p.elen + 1) W
          rw [errOf_bad _ (by unfold hOk; omega)] at hf
          have HF := Lib.hid hf; clear hf
          go_enter Try.func25, Try.ntmps25
          go_wp2_with (first
            | (go_at_call 33; refine (FH.out _ _ (ints_none _)).mono ?_; rintro x V ⟨rfl, hk⟩)
            | (go_at_call 38; refine (HF.out _).mono ?_; rintro e w' ⟨rfl, rfl⟩))
          go_ret2
          exact ⟨rfl, (((Keeps.refl Nob w).alloc _).trans hk).alloc _⟩
  · have hcd : (er != 0) = true := by simpa using hc
    rw [if_neg hc]
    clear hb
    go_enter Try.func25, Try.ntmps25
    go_wp2_with (go_at_call 33; refine (FH.out _ _ (ints_none _)).mono ?_; rintro x V ⟨rfl, hk⟩)
    go_ret2
    exact ⟨rfl, (((Keeps.refl Nob w).alloc _).trans hk).alloc _⟩

set_option maxRecDepth 100000 in
set_option maxHeartbeats 4000000 in
theorem pLast_ok (p : Par) (hp : p.Ok) (e : Int) (he : i64ok e) (w : World) :
    Calls Try.prog 27 #[p.v, .int .i64 e] w fun x w' => x = .returned (.tuple #[.int .i64 (p.last e).1, .int .i64 (p.last e).2]) ∧ Keeps Nob w w' := by
  have FN := fun V => pFirst_ok p hp e he V
  have hb := fun hc => p.bounds (p.fine_zero [] (p.first_zero e hc).1).1
  have hz := p.first_zero e
  unfold Par.last
  generalize (p.first e).1 = f1 at *
  generalize (p.first e).2 = er at *
  have hpv : p.v = .agg p.cells := rfl
  rw [hpv] at FN ⊢
  unfold Par.cells at FN ⊢
  by_cases hc : er = 0
  · subst hc
    obtain ⟨_, _, ⟨x5, x6⟩, _⟩ := hb rfl
    obtain ⟨_, y1, y2, y3, y4⟩ := hz rfl
    subst y4
    clear hb hz
    rw [if_pos rfl]
    have FH := Lib.hid FN; clear FN hpv
    have m1 : (e + 1) * p.elen = e * p.elen + p.elen := by rw [Int.add_mul, Int.one_mul]
    have m2 : 0 ≤ e * p.elen := Int.mul_nonneg (by omega) (by omega)
    rw [m1]
    clear m1
    by_cases k1 : 4294967296 ≤ e * p.elen + p.elen
    · have hm : min 4294967296 (e * p.elen + p.elen) = 4294967296 := by omega
      rw [hm]
      go_enter Try.func27, Try.ntmps27
      go_wp2_with (go_at_call 25; refine (FH.out _).mono ?_; rintro x V ⟨rfl, hk⟩; have q2 := par_cell p w V 24 hk 2 (.int .i64 p.elen) rfl)
      all_goals
        go_ret2
        refine ⟨?_, ((Keeps.refl Nob w).alloc _).trans hk⟩
        first | rfl | (simp; omega)
    · have hm : min 4294967296 (e * p.elen + p.elen) = e * p.elen + p.elen := by omega
      rw [hm]
      have k2 : e * p.elen + p.elen ≤ 4294967296 := by omega
      go_enter Try.func27, Try.ntmps27
      go_wp2_with (go_at_call 25; refine (FH.out _).mono ?_; rintro x V ⟨rfl, hk⟩; have q2 := par_cell p w V 24 hk 2 (.int .i64 p.elen) rfl)
      all_goals
        go_ret2
        refine ⟨?_, ((Keeps.refl Nob w).alloc _).trans hk⟩
        first | rfl | (simp; omega)
  · have hcd : (er != 0) = true := by simpa using hc
    have FH := Lib.hid FN; clear FN hpv
    rw [if_neg hc]
    clear hb hz
    go_enter Try.func27, Try.ntmps27
    go_wp2_with (go_at_call 25; refine (FH.out _).mono ?_; rintro x V ⟨rfl, hk⟩)
    go_ret2
    exact ⟨rfl, ((Keeps.refl Nob w).alloc _).trans hk⟩

noncomputable def opsLow : Array Oper := opsOf Try.f19 4
set_option maxRecDepth 100000 in
set_option maxHeartbeats 4000000 in
theorem pLow_ok (p : Par) (hp : p.Ok) (h : Int) (hh : i64ok h) (w : World) :
    Calls Try.prog 19 #[p.v, .int .i64 h] w fun e w' => e = .returned (.tuple #[.int .i64 (p.low h).1, .int .i64 (p.low h).2]) ∧ Keeps Nob w w' := by
  have FN := fun V v hv => good_ok p hp v [h] V (by simp) hv
  have hb := fun hc => p.bounds (p.fine_zero [h] hc).1
  have EP := fun W a b c d => hepoch_ok p h W a b c d
  have hr2 := fun hc => (p.fine_zero [h] hc).2 h (by simp)
  unfold Par.low
  generalize p.fine [h] = er at *
  have hpv : p.v = .agg p.cells := rfl
  rw [hpv] at FN EP ⊢
  unfold Par.cells at FN EP ⊢
  have FH := Lib.hid FN; clear FN hpv
  by_cases hc : er = 0
  · subst hc
    obtain ⟨r3, r4⟩ := hr2 rfl
    obtain ⟨⟨x1, x2⟩, ⟨x3, x4⟩, ⟨x5, x6⟩, ⟨x7, x8⟩, ⟨x9, x10⟩, ⟨x11, x12⟩, _⟩ := hb rfl
    have EH := Lib.hid (fun W => EP W r3 r4 x5 x6)
    clear hb EP hr2
    simp only [if_true]
    have q0 : 0 ≤ (h - 1) / p.elen := Int.ediv_nonneg (by omega) (by omega)
    have q1 : (h - 1) / p.elen ≤ h - 1 := Int.ediv_le_self _ (by omega)
    generalize (h - 1) / p.elen = e at *
    go_enter Try.func19, Try.ntmps19
    go_wp2_with (first | (go_at_call 33; refine (FH.out _ _ (by have := ints_one (w.alloc (.cells p.cells 24)) h hh.1 hh.2 3; simpa [Par.cells] using this)).mono ?_; rintro e V ⟨rfl, hk⟩))
    have hkA : Keeps Nob w V := (((Keeps.refl Nob w).alloc _).alloc _).trans hk
    have hb0 : (V.alloc (.cells p.cells 40)).heap[V.heap.size]? = some (.cells p.cells 40 (0, 0)) := heap_alloc_new _ _
    have hkB : Keeps Nob w (V.alloc (.cells p.cells 40)) := hkA.alloc _
    have w1 : IntKind.i64.wrap (e - p.win) = e - p.win := by rw [IntKind.wrap_i64]; omega
    have w2 : IntKind.i64.wrap (e - p.win + 1) = e - p.win + 1 := by rw [IntKind.wrap_i64]; omega
    have hs1 : V.heap.size < (V.alloc (.cells p.cells 40)).heap.size := by simp
    refine wp_region_noPanic ?_
    refine region_named (R := opsLow) (by kernel_rfl) ?_
    refine wp_regionH_fuel (fun W => W.heap[V.heap.size]? = some (.cells p.cells 40 (0, 0))) 11 #[false, false, false, false, false, false, false, false, false, false, false] (by kernel_rfl) (by kernel_rfl) rfl ?_
    refine wpAnyH_val (i := 0) (opsLow.getD 0 default) (.int .i64 h) (by kernel_rfl) (fun _ _ _ _ _ h => h) (by kernel_rfl) (by kernel_rfl) (by kernel_rfl) (by kernel_rfl) (fun W hW => by kernel_rfl) hb0 ?_
    refine wpAnyH_val (i := 1) (opsLow.getD 1 default) (.agg p.cells) (by kernel_rfl) (fun _ _ _ _ _ h => h) (by kernel_rfl) (by kernel_rfl) (by kernel_rfl) (by kernel_rfl) (fun W hW => exec_load_row 40 (.tmp 6) (by kernel_rfl) V.heap.size (by kernel_rfl) 40 p.cells (0, 0) _ hW Try.underlying40 rfl (by kernel_rfl)) hb0 ?_
    refine wpAnyH_val (i := 3) (opsLow.getD 3 default) (.pointer (some ⟨V.heap.size, 0, none⟩)) (by kernel_rfl) (fun _ _ _ _ _ h => h) (by kernel_rfl) (by kernel_rfl) (by kernel_rfl) (by kernel_rfl) (fun W hW => by kernel_rfl) hb0 ?_
    refine wpAnyH_val (i := 4) (opsLow.getD 4 default) (.pointer (some ⟨V.heap.size, 3, none⟩)) (by kernel_rfl) (fun _ _ _ _ _ h => h) (by kernel_rfl) (by kernel_rfl) (by kernel_rfl) (by kernel_rfl) (fun W hW => by kernel_rfl) hb0 ?_
    refine wpAnyH_val (i := 5) (opsLow.getD 5 default) (.int .i64 p.win) (by kernel_rfl) (fun _ _ _ _ _ h => h) (by kernel_rfl) (by kernel_rfl) (by kernel_rfl) (by kernel_rfl) (fun W hW => exec_load_int 3 (.tmp 22) (by kernel_rfl) ⟨V.heap.size, 3, none⟩ (by kernel_rfl) .i64 _ Try.underlying3 ((cell_of_row W V.heap.size 3 p.cells 40 (0, 0) hW).trans rfl)) hb0 ?_
    refine wpAnyH_call (i := 2) (opsLow.getD 2 default) 37 #[.int .i64 h, .agg p.cells] (by kernel_rfl) (by kernel_rfl) (by kernel_rfl) (by kernel_rfl) (by kernel_rfl) (enters_of Try.func37 (by kernel_rfl) rfl) ((EH.out _).mono ?_)
    rintro x V2 ⟨rfl, hk2⟩
    have hb2 : V2.heap[V.heap.size]? = some (.cells p.cells 40 (0, 0)) := (hk2.block V.heap.size hs1 (fun x => x)).trans hb0
    refine ⟨_, rfl, hb2, ?_⟩
    refine wpAnyH_run (i := 6) (opsLow.getD 6 default) (.int .i64 (e - p.win)) (w' := V2) (by kernel_rfl) (by kernel_rfl) (by kernel_rfl) (.inl (Eq.trans (b := .ok (.value (.int .i64 (IntKind.i64.wrap (e - p.win)))) V2) (by kernel_rfl) (by rw [w1]))) hb2 ?_
    refine wpAnyH_run (i := 7) (opsLow.getD 7 default) (.int .i64 (e - p.win + 1)) (w' := V2) (by kernel_rfl) (by kernel_rfl) (by kernel_rfl) (.inl (Eq.trans (b := .ok (.value (.int .i64 (IntKind.i64.wrap (e - p.win + 1)))) V2) (by kernel_rfl) (by rw [w2]))) hb2 ?_
    refine wpAnyH_run (i := 8) (opsLow.getD 8 default) (.int .i64 (max 0 (e - p.win + 1))) (w' := V2) (by kernel_rfl) (by kernel_rfl) (by kernel_rfl) (.inl (exec_max (.const (.int .i64 0)) (.tmp 25) #[3, 3] (by kernel_rfl) .i64 0 _ (by kernel_rfl) (by kernel_rfl))) hb2 ?_
    refine wpAnyH_run (i := 9) (opsLow.getD 9 default) (.int .i64 (max 0 (e - p.win + 1))) (w' := V2) (by kernel_rfl) (by kernel_rfl) (by kernel_rfl) (.inl (by kernel_rfl)) hb2 ?_
    refine wpAnyH_run (i := 10) (opsLow.getD 10 default) (.int .i64 0) (w' := V2) (by kernel_rfl) (by kernel_rfl) (by kernel_rfl) (.inl (by kernel_rfl)) hb2 ?_
    refine wpAnyH_done (by kernel_rfl) ?_ _
    refine NoPanic.normal ?_
    refine state_eq (b := ⟨#[.agg p.cells, .int .i64 h, .pointer (some ⟨w.heap.size, 0, none⟩), undef, .int .i64 (max 0 (e - p.win + 1)), .int .i64 0, .pointer (some ⟨V.heap.size, 0, none⟩), .int .i64 0,
      .tuple #[.agg p.cells, .int .i64 0], .agg p.cells, .int .i64 h, .slice (some ⟨w.heap.size + 1, 0, none⟩) 1 1, .tuple #[.agg p.cells, .int .i64 0], .agg p.cells, .int .i64 0, .int .i64 0, .bool false, undef,
      .int .i64 h, .agg p.cells, .int .i64 e, .pointer (some ⟨V.heap.size, 0, none⟩), .pointer (some ⟨V.heap.size, 3, none⟩), .int .i64 p.win, .int .i64 (e - p.win), .int .i64 (e - p.win + 1), .int .i64 (max 0 (e - p.win + 1))], []⟩) (by kernel_rfl) ?_
    go_wp2
    go_ret2
    exact ⟨rfl, (hkB.drew).trans hk2⟩
  · have hcd : (er == 0) = false := by simpa using hc
    have hce : (er != 0) = true := by simpa using hc
    clear hb EP hr2
    try rw [if_neg hc]
    go_enter Try.func19, Try.ntmps19
    go_wp2_with (first | (go_at_call 33; refine (FH.out _ _ (by have := ints_one (w.alloc (.cells p.cells 24)) h hh.1 hh.2 3; simpa [Par.cells] using this)).mono ?_; rintro e V ⟨rfl, hk⟩))
    go_ret2
    exact ⟨rfl, ((((Keeps.refl Nob w).alloc _).alloc _).trans hk).alloc _⟩
end Go.Proofs.Ythoaoknggdohpaa
