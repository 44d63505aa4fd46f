import Derived.Test.YtkkecoodefjnbaaSpanF
import Derived.Deep.MidRow
import Derived.Deep.WholeRow
namespace Go.Proofs.Ytkkecoodefjnbaa
open Go Go.RowKit Go.Own Go.Shelf

theorem span_new_view (n : Int) (w : World) (h1 : 1 ≤ n) (h2 : n ≤ 256) :
    Calls Try.prog 16 #[.int .i64 n] w fun e w' => e = .returned (.tuple #[.pointer (some ⟨w.heap.size, 0, none⟩), .int .i64 0]) ∧
      SpanView w' Nob w.heap.size n 0 (fun _ => (none, none)) ∧ Keeps Nob w w' ∧ w'.heap.size = w.heap.size + 1 := by
  refine (span_new n w h1 h2).mono ?_
  rintro e w' ⟨rfl, rfl⟩
  refine ⟨rfl, ⟨h1, h2, by omega, by omega, fun x => x, fun k hk => hk.elim, fun _ => (0, .pointer none, .pointer none), ⟨⟨_, World.alloc_heap_new w _, spanCells_size _, spanCells_one _ rfl⟩, ?_, ?_, fun i hi => ?_, fun i hi => ?_, fun i hi => ?_⟩, fun _ _ => by simp, fun e a1 a2 => ?_⟩, (Keeps.refl _ _).alloc _, by simp⟩
  · rw [World.cell?_alloc_at _ _ _ _ rfl, spanCells_get _ _ (by omega)]; rfl
  · rw [World.cell?_alloc_at _ _ _ _ rfl, spanCells_get _ _ (by omega)]; rfl
  · rw [World.cell?_alloc_at _ _ _ _ rfl, spanCells_get _ _ (by omega)]
    unfold spanCell; rw [if_neg (by omega), if_neg (by omega), if_pos (by omega)]
  · rw [World.cell?_alloc_at _ _ _ _ rfl, spanCells_get _ _ (by omega)]
    unfold spanCell; rw [if_neg (by omega), if_neg (by omega), if_neg (by omega)]
  · rw [World.cell?_alloc_at _ _ _ _ rfl, spanCells_get _ _ (by omega)]
    unfold spanCell; rw [if_neg (by omega), if_neg (by omega), if_neg (by omega)]
  · have he : e = 0 := by unfold lowOf at a1; omega
    subst he
    exact .inl ⟨rfl, rfl, rfl⟩

def moveErr (E e : Int) : Int := if e < 0 ∨ 4294967296 < e then 3 else if e < E then 9 else 0

set_option maxHeartbeats 1000000 in
theorem span_move (b : Nat) (W E e : Int) (w : World) (FP : Nat → Prop) (view : Int → Option Int × Option Int) (h : SpanView w FP b W E view) (hv : ∀ x, E < x → view x = (none, none)) :
    Calls Try.prog 12 #[.pointer (some ⟨b, 0, none⟩), .int .i64 e] w fun v w' => v = .returned (.int .i64 (moveErr E e)) ∧
      SpanView w' FP b W (if moveErr E e = 0 then e else E) view ∧ Keeps (One b) w w' := by
  obtain ⟨c0, c1, hW, hb, hf⟩ := h.cells
  have w0 := h.w1; have w1 := h.w2; have e0 := h.e1; have e1 := h.e2
  have H := Lib.hid h; clear h
  have HV := Lib.hid hv; clear hv
  by_cases h1 : e < 0
  · have hm : moveErr E e = 3 := by simp [moveErr, h1]
    rw [hm]; clear hm
    go_enter Try.func12, Try.ntmps12
    go_wp2_with (go_at_call 31; refine (span_none b W _ c0 hW).mono ?_; rintro e w' ⟨rfl, rfl⟩)
    go_ret
    exact ⟨rfl, H.out, Keeps.refl _ _⟩
  by_cases h2 : 4294967296 < e
  · have hm : moveErr E e = 3 := by simp [moveErr, h2]
    rw [hm]; clear hm
    go_enter Try.func12, Try.ntmps12
    go_wp2_with (go_at_call 31; refine (span_none b W _ c0 hW).mono ?_; rintro e w' ⟨rfl, rfl⟩)
    go_ret
    exact ⟨rfl, H.out, Keeps.refl _ _⟩
  by_cases h3 : e < E
  · have hm : moveErr E e = 9 := by simp [moveErr, h1, h2, h3]
    rw [hm]; clear hm
    go_enter Try.func12, Try.ntmps12
    go_wp2_with (go_at_call 31; refine (span_none b W _ c0 hW).mono ?_; rintro e w' ⟨rfl, rfl⟩)
    go_ret
    exact ⟨rfl, H.out, Keeps.refl _ _⟩
  · have hm : moveErr E e = 0 := by simp [moveErr, h1, h2, h3]
    rw [hm, if_pos rfl]; clear hm
    go_enter Try.func12, Try.ntmps12
    go_wp2_with (go_at_call 31; refine (span_none b W _ c0 hW).mono ?_; rintro e w' ⟨rfl, rfl⟩)
    go_ret
    refine ⟨rfl, ?_, (Keeps.refl _ _).setOne _⟩
    have h := H.out
    obtain ⟨r, ha, hr, hview⟩ := h.ring
    refine ⟨w0, w1, by omega, by omega, h.nb, fun k hk => by simpa using h.fp k hk, r, ⟨shape_set ha.shape rfl, ?_, ?_, fun i hi => ?_, fun i hi => ?_, fun i hi => ?_⟩, fun i hi => by have := hr i hi; omega, fun x a1 a2 => ?_⟩
    · rw [World.cell?_setCell_other _ _ _ _ (by simp)]; exact c0
    · exact World.cell?_setCell_same _ _ _ c1
    · rw [World.cell?_setCell_other _ _ _ _ (by simp <;> omega)]; exact ha.c0 i hi
    · rw [World.cell?_setCell_other _ _ _ _ (by simp <;> omega)]; exact ha.c1 i hi
    · rw [World.cell?_setCell_other _ _ _ _ (by simp <;> omega)]; exact ha.c2 i hi
    · by_cases hx : x ≤ E
      · rcases hview x (by unfold lowOf at a1 ⊢; omega) hx with ⟨a, p, q⟩ | h'
        · exact .inl ⟨a, p.set h.nb, q.set h.nb⟩
        · exact .inr h'
      · exact .inr ⟨fun heq => by have := hr _ (slot_lt (e := x) w0 w1); omega, HV.out x (by omega)⟩

/-- How a vote stands to others. -/
def clashOf (W E s t : Int) (view : Int → Option Int × Option Int) : Int × Int :=
  if (tellOf W E s (view s).1).2 = true ∧ (tellOf W E s (view s).1).1 < t then (3, (tellOf W E s (view s).1).1)
  else if (tellOf W E s (view s).2).2 = true ∧ t < (tellOf W E s (view s).2).1 then (4, (tellOf W E s (view s).2).1) else (0, 0)

set_option maxHeartbeats 1000000 in
theorem span_clash (b : Nat) (W E s t : Int) (w : World) (FP : Nat → Prop) (view : Int → Option Int × Option Int) (h : SpanView w FP b W E view) :
    Calls Try.prog 20 #[.pointer (some ⟨b, 0, none⟩), .int .i64 s, .int .i64 t] w fun v w' => v = .returned (.tuple #[.int .i64 (clashOf W E s t view).1, .int .i64 (clashOf W E s t view).2]) ∧
      SpanView w' FP b W E view ∧ Keeps (One b) w w' := by
  obtain ⟨b1, hb1⟩ : ∃ x, x = (tellOf W E s (view s).1).2 := ⟨_, rfl⟩
  obtain ⟨n1, hn1⟩ : ∃ x, x = (tellOf W E s (view s).1).1 := ⟨_, rfl⟩
  obtain ⟨b2, hb2⟩ : ∃ x, x = (tellOf W E s (view s).2).2 := ⟨_, rfl⟩
  obtain ⟨n2, hn2⟩ : ∃ x, x = (tellOf W E s (view s).2).1 := ⟨_, rfl⟩
  have hmin := fun V (hV : SpanView V FP b W E view) => span_min b W E s V FP view hV
  have hmax := fun V (hV : SpanView V FP b W E view) => span_max b W E s V FP view hV
  rw [← hb1, ← hn1] at hmin
  rw [← hb2, ← hn2] at hmax
  have hc : clashOf W E s t view = if b1 = true ∧ n1 < t then (3, n1) else if b2 = true ∧ t < n2 then (4, n2) else (0, 0) := by rw [hb1, hn1, hb2, hn2]; rfl
  rw [hc]
  clear hb1 hb2 hn1 hn2 hc
  have HM := Lib.hid hmin; have HX := Lib.hid hmax
  clear hmin hmax
  cases b1 <;> cases b2 <;> by_cases c1 : n1 < t <;> by_cases c2 : t < n2 <;> simp only [c1, c2, true_and, false_and, if_true, if_false, Bool.false_eq_true, and_true, and_false] <;>
  · go_enter Try.func20, Try.ntmps20
    go_wp2_with (first
      | (go_at_call 29; refine (HM.out _ h).mono ?_; rintro v V1 ⟨rfl, hv1, hk1⟩)
      | (go_at_call 30; refine (HX.out _ hv1).mono ?_; rintro v V2 ⟨rfl, hv2, hk2⟩))
    go_ret2
    first
      | exact ⟨rfl, hv2, hk1.trans hk2⟩
      | exact ⟨rfl, hv1, hk1⟩

theorem span_zero (w : World) : (zeroValue 60).run Try.prog w = .ok (.agg (spanCells (.int .i64 0))) w := by kernel_rfl
theorem span_info : (Try.prog.info? 60).map (·.size) = some 770 := by kernel_rfl

set_option maxHeartbeats 1000000 in
theorem span_copy (b : Nat) (W E : Int) (w : World) (FP : Nat → Prop) (view : Int → Option Int × Option Int) (h : SpanView w FP b W E view) :
    Calls Try.prog 26 #[.pointer (some ⟨b, 0, none⟩)] w fun v w' => v = .returned (.pointer (some ⟨w.heap.size, 0, none⟩)) ∧
      SpanView w' FP w.heap.size W E view ∧ SpanView w' FP b W E view ∧ Keeps Nob w w' ∧ w.heap.size < w'.heap.size := by
  obtain ⟨c0, c1, hW, hb, hf⟩ := h.cells
  obtain ⟨r, ha, hr, hv⟩ := h.ring
  obtain ⟨cs, hcs, hsz, hone⟩ := ha.shape
  have H := Lib.hid h; clear h
  have HR := Lib.hid hr; have HV := Lib.hid hv; clear hr hv
  have HS := Lib.hid hsz; clear hsz
  have HO := Lib.hid hone; clear hone
  go_enter Try.func26, Try.ntmps26
  go_wp2_with (first
    | (go_at_call 31; refine (span_none b W _ c0 hW).mono ?_; rintro e w' ⟨rfl, rfl⟩)
    | (refine wpList_load_row rfl 60 _ rfl b rfl 60 cs (0, 0) _ hcs Try.underlying60 rfl (by rw [HS.out]; exact span_info) ?_)
    | (refine own_alloc rfl 60 rfl (span_zero _) ?_)
    | (refine wpList_store_row rfl 60 _ _ rfl w.heap.size cs rfl rfl 60 _ (World.alloc_heap_new w _) (by rw [HS.out]; exact span_info) (by rw [HS.out]; exact spanCells_size _) HO.out ?_))
  go_ret
  have hk : Keeps Nob w ((w.alloc (.cells (spanCells (.int .i64 0)) 60)).setRow w.heap.size cs) := ((Keeps.refl Nob w).alloc _).setRow (fun x => absurd x (by omega)) cs
  have hh := setRow_heap _ _ _ cs _ _ (World.alloc_heap_new w (.cells (spanCells (.int .i64 0)) 60))
  have hcell : ∀ o, ((w.alloc (.cells (spanCells (.int .i64 0)) 60)).setRow w.heap.size cs).cell? ⟨w.heap.size, o, none⟩ = w.cell? ⟨b, o, none⟩ := fun o => by
    simp only [World.cell?, hh, hcs]
  have hsz : w.heap.size < ((w.alloc (.cells (spanCells (.int .i64 0)) 60)).setRow w.heap.size cs).heap.size := by simp
  generalize (w.alloc (.cells (spanCells (.int .i64 0)) 60)).setRow w.heap.size cs = W1 at *
  have h := H.out
  refine ⟨rfl, ⟨h.w1, h.w2, h.e1, h.e2, fun x => by have := h.fp _ x; omega, fun k hk' => by have := h.fp _ hk'; omega, r,
    ⟨⟨cs, hh, HS.out, HO.out⟩, (hcell _).trans ha.win, (hcell _).trans ha.ep, fun i hi => (hcell _).trans (ha.c0 i hi), fun i hi => (hcell _).trans (ha.c1 i hi), fun i hi => (hcell _).trans (ha.c2 i hi)⟩, HR.out, fun e a1 a2 => ?_⟩,
    h.of_keeps hk (fun x => x) (fun _ _ x => x) (fun _ x => x) h.nb (fun j hj => by have := h.fp _ hj; omega), hk, hsz⟩
  have hc : ∀ (k' : Nat) (x : Value), FP k' → w.cell? ⟨k', 0, none⟩ = some x → W1.cell? ⟨k', 0, none⟩ = some x := fun k' x hk' hx => (hk.cell (h.fp k' hk') (fun x => x)).trans hx
  rcases HV.out e a1 a2 with ⟨a, p, q⟩ | h'
  · exact .inl ⟨a, p.mono (fun _ h => h) hc, q.mono (fun _ h => h) hc⟩
  · exact .inr h'

/-! A span that is none. -/
/-- A span that is nil, or that nobody made. -/
def NoSpan (w : World) (v : Value) : Prop := v = .pointer none ∨ ∃ b, v = .pointer (some ⟨b, 0, none⟩) ∧ w.cell? ⟨b, 0, none⟩ = some (.int .i64 0)
theorem NoSpan.keeps {w w' : World} {v : Value} (h : NoSpan w v) (k : Keeps Nob w w') : NoSpan w' v :=
  h.elim .inl fun ⟨b, e, hc⟩ => .inr ⟨b, e, (k.cell (World.block_lt_of_cell? w _ hc) (fun x => x)).trans hc⟩

set_option maxHeartbeats 400000 in
theorem none_yes (v : Value) (w : World) (h : NoSpan w v) : Calls Try.prog 31 #[v] w fun e w' => e = .returned (.bool true) ∧ w = w' := by
  rcases h with rfl | ⟨b, rfl, hc⟩ <;>
  · go_enter Try.func31, Try.ntmps31
    go_wp2
    go_ret
    exact ⟨rfl, rfl⟩

set_option maxHeartbeats 400000 in
theorem none_epoch (v : Value) (w : World) (h : NoSpan w v) : Calls Try.prog 15 #[v] w fun e w' => e = .returned (.int .i64 0) ∧ w = w' := by
  go_enter Try.func15, Try.ntmps15
  go_wp2_with (go_at_call 31; refine (none_yes v _ h).mono ?_; rintro e w' ⟨rfl, rfl⟩)
  go_ret
  exact ⟨rfl, rfl⟩
set_option maxHeartbeats 400000 in
theorem none_low (v : Value) (w : World) (h : NoSpan w v) : Calls Try.prog 13 #[v] w fun e w' => e = .returned (.int .i64 0) ∧ w = w' := by
  go_enter Try.func13, Try.ntmps13
  go_wp2_with (go_at_call 31; refine (none_yes v _ h).mono ?_; rintro e w' ⟨rfl, rfl⟩)
  go_ret
  exact ⟨rfl, rfl⟩
set_option maxHeartbeats 400000 in
theorem none_move (v : Value) (e : Int) (w : World) (h : NoSpan w v) : Calls Try.prog 12 #[v, .int .i64 e] w fun x w' => x = .returned (.int .i64 1) ∧ w = w' := by
  go_enter Try.func12, Try.ntmps12
  go_wp2_with (go_at_call 31; refine (none_yes v _ h).mono ?_; rintro e w' ⟨rfl, rfl⟩)
  go_ret
  exact ⟨rfl, rfl⟩
set_option maxHeartbeats 400000 in
theorem none_put (v : Value) (s t : Int) (w : World) (h : NoSpan w v) : Calls Try.prog 14 #[v, .int .i64 s, .int .i64 t] w fun x w' => x = .returned (.int .i64 1) ∧ Keeps Nob w w' := by
  have hk := (((Keeps.refl Nob w).alloc (.cells #[v] 22)).alloc (.cells #[.int .i64 s] 3)).alloc (.cells #[.int .i64 t] 3)
  have hn := h.keeps hk
  have h1 : v.cells = #[v] := by rcases h with rfl | ⟨b, rfl, _⟩ <;> rfl
  rcases h with rfl | ⟨b, rfl, hc⟩ <;>
  · go_enter Try.func14, Try.ntmps14
    go_wp2_with (go_at_call 31; refine (none_yes _ _ hn).mono ?_; rintro e w' ⟨rfl, rfl⟩)
    go_ret
    exact ⟨rfl, hk⟩
set_option maxHeartbeats 400000 in
theorem none_has (v : Value) (e : Int) (w : World) (h : NoSpan w v) : Calls Try.prog 36 #[v, .int .i64 e] w fun x w' => x = .returned (.bool false) ∧ Keeps Nob w w' := by
  have hk := ((Keeps.refl Nob w).alloc (.cells #[.int .i64 e] 3)).alloc (.cells #[.bool false] 4)
  have hn := h.keeps hk
  have g4 : ((w.alloc (.cells #[.int .i64 e] 3)).alloc (.cells #[.bool false] 4)).cell? ⟨w.heap.size + 1, 0, none⟩ = some (.bool false) := by simp [go_sem]
  have f4 : ((w.alloc (.cells #[.int .i64 e] 3)).alloc (.cells #[.bool false] 4)).frozen? ⟨w.heap.size + 1, 0, none⟩ = false := by simp [go_sem]
  go_enter Try.func36, Try.ntmps36
  go_wp2_with fail
  generalize (w.alloc (.cells #[.int .i64 e] 3)).alloc (.cells #[.bool false] 4) = W1 at *
  go_quiet ((go_at_call 31; exact Calls.quiet_eq (none_yes v _ (hn.keeps ((Keeps.refl _ _).drewN _)))))
  go_wp2
  refine bodyPost_ret (v := .bool false) ?_ rfl ⟨rfl, (hk.setCell_new (p := ⟨w.heap.size + 1, 0, none⟩) (by simp) _).drewN _⟩
  simp [results, Try.results36, go_sem, g4]
set_option maxHeartbeats 400000 in
theorem none_min (v : Value) (e : Int) (w : World) (h : NoSpan w v) : Calls Try.prog 29 #[v, .int .i64 e] w fun x w' => x = .returned (.tuple #[.int .i64 0, .bool false]) ∧ Keeps Nob w w' := by
  go_enter Try.func29, Try.ntmps29
  go_wp2_with (go_at_call 36; refine (none_has v e _ h).mono ?_; rintro v V1 ⟨rfl, hk1⟩)
  go_ret2
  exact ⟨rfl, hk1⟩
set_option maxHeartbeats 400000 in
theorem none_max (v : Value) (e : Int) (w : World) (h : NoSpan w v) : Calls Try.prog 30 #[v, .int .i64 e] w fun x w' => x = .returned (.tuple #[.int .i64 0, .bool false]) ∧ Keeps Nob w w' := by
  go_enter Try.func30, Try.ntmps30
  go_wp2_with (go_at_call 36; refine (none_has v e _ h).mono ?_; rintro v V1 ⟨rfl, hk1⟩)
  go_ret2
  exact ⟨rfl, hk1⟩
set_option maxHeartbeats 400000 in
theorem none_clash (v : Value) (s t : Int) (w : World) (h : NoSpan w v) : Calls Try.prog 20 #[v, .int .i64 s, .int .i64 t] w fun x w' => x = .returned (.tuple #[.int .i64 0, .int .i64 0]) ∧ Keeps Nob w w' := by
  go_enter Try.func20, Try.ntmps20
  go_wp2_with (first
    | (go_at_call 29; refine (none_min v s _ h).mono ?_; rintro v V1 ⟨rfl, hk1⟩)
    | (go_at_call 30; refine (none_max _ s _ (h.keeps hk1)).mono ?_; rintro v V2 ⟨rfl, hk2⟩))
  go_ret2
  exact ⟨rfl, hk1.trans hk2⟩
theorem span_build0 (w : World) : (Instr.build 60 #[]).run Try.prog w = .ok (.agg (spanCells (.int .i64 0))) w := by kernel_rfl
set_option maxHeartbeats 400000 in
theorem none_copy (v : Value) (w : World) (h : NoSpan w v) : Calls Try.prog 26 #[v] w fun x w' => x = .returned (.pointer (some ⟨w.heap.size, 0, none⟩)) ∧ w' = w.alloc (.cells (spanCells (.int .i64 0)) 60) := by
  have hb := span_build0 w
  go_enter Try.func26, Try.ntmps26
  go_wp2_with (first
    | (go_at_call 31; refine (none_yes v _ h).mono ?_; rintro e w' ⟨rfl, rfl⟩)
    | (refine own_build rfl 60 _ rfl #[] ?_ hb ?_; · simp)
    | (refine own_box rfl 60 _ rfl ?_))
  go_ret
  exact ⟨rfl, rfl⟩
end Go.Proofs.Ytkkecoodefjnbaa
