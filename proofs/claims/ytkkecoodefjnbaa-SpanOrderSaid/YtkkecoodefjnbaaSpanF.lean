import Derived.Test.YtkkecoodefjnbaaSpanE
namespace Go.Proofs.Ytkkecoodefjnbaa
open Go Go.RowKit Go.Own Go.Shelf
attribute [local go_sem] Oper.semAt_some

/-- The body's end: the epoch is brought up to date. -/
theorem SpanView.step {w : World} {FP : Nat → Prop} {b k : Nat} {W E s t : Int} {view : Int → Option Int × Option Int} {v : Int → Option Int × Option Int} (h : SpanView w FP b W E v)
    (hv : ∀ e, lowOf W E ≤ e → e ≤ E → v e = if e < lowOf W E + ((k : Nat) : Int) + 1 then putAt s t e (view e) else view e) :
    SpanView w FP b W E (fun e => if e < lowOf W E + ((k + 1 : Nat) : Int) then putAt s t e (view e) else view e) :=
  h.congr fun e h1 h2 => by rw [hv e h1 h2]; simp only [Int.natCast_add, Int.natCast_one, Int.add_assoc]

theorem put_close {w V W' : World} {FP : Nat → Prop} {b k B Bn : Nat} {W E s t : Int} {view : Int → Option Int × Option Int} (hk' : Keeps (Own.One b) V W') (hbB : b < B) (hb : b < w.heap.size) (hn : Bn ≠ b) (hBV : B ≤ V.heap.size) (hBn : Bn < B)
    (hw : w.heap.size + 3 ≤ B)
    (hsv : SpanView W' FP b W E (fun e => if e < lowOf W E + ((k + 1 : Nat) : Int) then putAt s t e (view e) else view e))
    (a2 : Keeps (Own.One b) w V) (a3 : V.cell? ⟨w.heap.size, 0, none⟩ = some (.pointer (some ⟨b, 0, none⟩))) (a4 : V.cell? ⟨w.heap.size + 1, 0, none⟩ = some (.int .i64 s)) (a5 : V.cell? ⟨w.heap.size + 1 + 1, 0, none⟩ = some (.int .i64 t))
    (s1 : V.cell? ⟨Bn, 0, none⟩ = some (.pointer (some ⟨b, 0, none⟩))) :
    KeepsFrom B V W' ∧ (SpanView W' FP b W E (fun e => if e < lowOf W E + ((k + 1 : Nat) : Int) then putAt s t e (view e) else view e) ∧ Keeps (Own.One b) w W' ∧
      W'.cell? ⟨w.heap.size, 0, none⟩ = some (.pointer (some ⟨b, 0, none⟩)) ∧ W'.cell? ⟨w.heap.size + 1, 0, none⟩ = some (.int .i64 s) ∧ W'.cell? ⟨w.heap.size + 1 + 1, 0, none⟩ = some (.int .i64 t) ∧ B ≤ W'.heap.size) ∧ AllS Bn b W E k W' := by
  have hs := hk'.size
  have m3 := (hk'.cell (k := w.heap.size) (i := 0) (by omega) (by unfold Own.One; omega)).trans a3
  have m4 := (hk'.cell (k := w.heap.size + 1) (i := 0) (by omega) (by unfold Own.One; omega)).trans a4
  have m5 := (hk'.cell (k := w.heap.size + 1 + 1) (i := 0) (by omega) (by unfold Own.One; omega)).trans a5
  have mb := (hk'.cell (k := Bn) (i := 0) (by omega) (by unfold Own.One; omega)).trans s1
  exact ⟨hk'.from (fun j hj => by unfold Own.One at hj; omega), ⟨hsv, a2.trans hk', m3, m4, m5, by omega⟩, mb, hsv.cells.1, hsv.cells.2.1⟩

theorem SpanView.drewN {w : World} {FP : Nat → Prop} {b : Nat} {W E : Int} {v : Int → Option Int × Option Int} (h : SpanView w FP b W E v) (n : Nat) : SpanView (w.drewN n) FP b W E v :=
  h.of_keeps ((Keeps.refl Nob w).drewN n) (fun x => x) (fun _ _ x => x) (fun _ x => x) h.nb h.fp
/-- The three ways in which a round may leave the span. -/
theorem view_none {V2 : World} {FP : Nat → Prop} {b k : Nat} {W E s t x : Int} {view : Int → Option Int × Option Int} (h : SpanView V2 FP b W E (fun e => if e < lowOf W E + (k : Int) then putAt s t e (view e) else view e)) (hx : x = lowOf W E + (k : Int))
    (hp : putAt s t x (view x) = view x) (n : Nat) : SpanView (V2.drewN n) FP b W E (fun e => if e < lowOf W E + ((k + 1 : Nat) : Int) then putAt s t e (view e) else view e) := by
  refine (h.drewN n).congr fun e _ _ => ?_
  by_cases he : e = x
  · subst he; rw [if_neg (by omega), if_pos (by omega), hp]
  · by_cases h1 : e < lowOf W E + (k : Int)
    · rw [if_pos h1, if_pos (by omega)]
    · rw [if_neg h1, if_neg (by omega)]
theorem view_set1 {V2 : World} {FP : Nat → Prop} {b k c : Nat} {W E s t x : Int} {view : Int → Option Int × Option Int} (h : SpanView V2 FP b W E (fun e => if e < lowOf W E + (k : Int) then putAt s t e (view e) else view e)) (hx : x = lowOf W E + (k : Int)) (hxE : x ≤ E)
    (hc : V2.cell? ⟨b, 2 + slotOf W x * 3, none⟩ = some (.int .i64 x)) (hfp : FP c) (hcc : V2.cell? ⟨c, 0, none⟩ = some (.int .i64 t)) (hp : putAt s t x (view x) = (some t, (view x).2)) (n : Nat) :
    SpanView ((V2.drewN n).setCell ⟨b, 2 + slotOf W x * 3 + 1, none⟩ (.pointer (some ⟨c, 0, none⟩))) FP b W E (fun e => if e < lowOf W E + ((k + 1 : Nat) : Int) then putAt s t e (view e) else view e) := by
  have hv : ValIs (V2.drewN n) FP (.pointer (some ⟨c, 0, none⟩)) (some t) := ⟨c, hfp, rfl, hcc⟩
  refine ((h.drewN n).set1 (e := x) (by omega) hxE hc hv).congr fun e _ _ => ?_
  by_cases he : e = x
  · subst he; rw [if_pos rfl, if_neg (by omega), if_pos (by omega), hp]
  · rw [if_neg he]
    by_cases h1 : e < lowOf W E + (k : Int)
    · rw [if_pos h1, if_pos (by omega)]
    · rw [if_neg h1, if_neg (by omega)]
theorem view_set2 {V2 : World} {FP : Nat → Prop} {b k c : Nat} {W E s t x : Int} {view : Int → Option Int × Option Int} (h : SpanView V2 FP b W E (fun e => if e < lowOf W E + (k : Int) then putAt s t e (view e) else view e)) (hx : x = lowOf W E + (k : Int)) (hxE : x ≤ E)
    (hc : V2.cell? ⟨b, 2 + slotOf W x * 3, none⟩ = some (.int .i64 x)) (hfp : FP c) (hcc : V2.cell? ⟨c, 0, none⟩ = some (.int .i64 t)) (hp : putAt s t x (view x) = ((view x).1, some t)) (n : Nat) :
    SpanView ((V2.drewN n).setCell ⟨b, 2 + slotOf W x * 3 + 2, none⟩ (.pointer (some ⟨c, 0, none⟩))) FP b W E (fun e => if e < lowOf W E + ((k + 1 : Nat) : Int) then putAt s t e (view e) else view e) := by
  have hv : ValIs (V2.drewN n) FP (.pointer (some ⟨c, 0, none⟩)) (some t) := ⟨c, hfp, rfl, hcc⟩
  refine ((h.drewN n).set2 (e := x) (by omega) hxE hc hv).congr fun e _ _ => ?_
  by_cases he : e = x
  · subst he; rw [if_pos rfl, if_neg (by omega), if_pos (by omega), hp]
  · rw [if_neg he]
    by_cases h1 : e < lowOf W E + (k : Int)
    · rw [if_pos h1, if_pos (by omega)]
    · rw [if_neg h1, if_neg (by omega)]

set_option maxHeartbeats 4000000 in
theorem span_put_ok (b : Nat) (W E s t : Int) (w : World) (FP : Nat → Prop) (view : Int → Option Int × Option Int) (h : SpanView w FP b W E view) (h1 : ¬ s < 0) (h2 : ¬ t < s) (h3 : ¬ t < lowOf W E) (h4 : ¬ E < t) :
    Calls Try.prog 14 #[.pointer (some ⟨b, 0, none⟩), .int .i64 s, .int .i64 t] w fun v w' => v = .returned (.int .i64 0) ∧
      SpanView w' (fun j => FP j ∨ j = w.heap.size + 1 + 1) b W E (fun e => putAt s t e (view e)) ∧ Keeps (One b) w w' := by
  obtain ⟨c0, c1, hW, hb, _⟩ := h.cells
  have w0 := h.w1; have w1 := h.w2; have e0 := h.e1; have e1 := h.e2
  have hk := (((Keeps.refl Nob w).alloc (.cells #[.pointer (some ⟨b, 0, none⟩)] 22)).alloc (.cells #[.int .i64 s] 3)).alloc (.cells #[.int .i64 t] 3)
  have g0 := (hk.cell (i := 0) hb (fun x => x)).trans c0
  have g1 := (hk.cell (i := 1) hb (fun x => x)).trans c1
  have k0 : (((w.alloc (.cells #[.pointer (some ⟨b, 0, none⟩)] 22)).alloc (.cells #[.int .i64 s] 3)).alloc (.cells #[.int .i64 t] 3)).cell? ⟨w.heap.size, 0, none⟩ = some (.pointer (some ⟨b, 0, none⟩)) := by simp [go_sem]
  have k1 : (((w.alloc (.cells #[.pointer (some ⟨b, 0, none⟩)] 22)).alloc (.cells #[.int .i64 s] 3)).alloc (.cells #[.int .i64 t] 3)).cell? ⟨w.heap.size + 1, 0, none⟩ = some (.int .i64 s) := by simp [go_sem]
  have k2 : (((w.alloc (.cells #[.pointer (some ⟨b, 0, none⟩)] 22)).alloc (.cells #[.int .i64 s] 3)).alloc (.cells #[.int .i64 t] 3)).cell? ⟨w.heap.size + 1 + 1, 0, none⟩ = some (.int .i64 t) := by simp [go_sem]
  have hs1 : w.heap.size + 3 ≤ (((w.alloc (.cells #[.pointer (some ⟨b, 0, none⟩)] 22)).alloc (.cells #[.int .i64 s] 3)).alloc (.cells #[.int .i64 t] 3)).heap.size := by simp
  have H := Lib.hid h; clear h
  have HL : Hid (lowOf W E = max 0 (E - W + 1)) := rfl
  unfold lowOf at h3
  refine calls_marks 3 Try.func14 rfl ?_
  simp only [Try.ntmps14, List.size_toArray, List.length_cons, List.length_nil, Nat.reduceAdd, Nat.reduceSub, Array.replicate_succ, Array.replicate_zero, List.push_toArray, List.append_toArray, List.nil_append, List.cons_append]
  go_wp2_with (go_at_call 31; refine (span_none b W _ g0 hW).mono ?_; rintro e w' ⟨rfl, rfl⟩)
  generalize ((w.alloc (.cells #[.pointer (some ⟨b, 0, none⟩)] 22)).alloc (.cells #[.int .i64 s] 3)).alloc (.cells #[.int .i64 t] 3) = W1 at *
  go_quiet ((go_at_call 13; exact Calls.quiet_drew (span_low b W E _ g0 g1 hW w0 w1 e0 e1)))
  revert nq; intro n1
  go_wp2
  go_quiet (fail)
  go_wp2_with (go_at_call 32; refine (span_all b _).mono ?_; rintro e w' ⟨rfl, rfl⟩)
  have hk2 : Keeps Nob W1 ((W1.drewN (n1 + nq)).alloc (.cells #[.pointer (some ⟨b, 0, none⟩)] 22)) := ((Keeps.refl _ _).drewN _).alloc _
  have k5 : ((W1.drewN (n1 + nq)).alloc (.cells #[.pointer (some ⟨b, 0, none⟩)] 22)).cell? ⟨W1.heap.size, 0, none⟩ = some (.pointer (some ⟨b, 0, none⟩)) := (World.cell?_alloc_at _ _ _ _ rfl).trans rfl
  have ks : W1.heap.size + 1 ≤ ((W1.drewN (n1 + nq)).alloc (.cells #[.pointer (some ⟨b, 0, none⟩)] 22)).heap.size := by simp [World.drewN]
  generalize (W1.drewN (n1 + nq)).alloc (.cells #[.pointer (some ⟨b, 0, none⟩)] 22) = W2 at *
  have q0 := (hk2.cell (i := 0) (by omega) (fun x => x)).trans g0
  have q1 := (hk2.cell (i := 1) (by omega) (fun x => x)).trans g1
  have l0 := (hk2.cell (i := 0) (by omega) (fun x => x)).trans k0
  have l1 := (hk2.cell (i := 0) (by omega) (fun x => x)).trans k1
  have l2 := (hk2.cell (i := 0) (by omega) (fun x => x)).trans k2
  have hk3 : Keeps Nob w W2 := hk.trans hk2
  have H2 : SpanView W2 (fun j => FP j ∨ j = w.heap.size + 1 + 1) b W E view := H.out.of_keeps hk3 (fun x => x) (fun _ _ x => x) (fun _ x => .inl x) (fun x => x.elim H.out.nb (by omega))
    (fun j hj => hj.elim (fun x => by have := H.out.fp j x; omega) (by omega))
  clear hk hk2 g0 g1 k0 k1 k2
  refine wp_range1 3 (gf := 38) (lb := #[.pointer (some ⟨W1.heap.size, 0, none⟩)]) rfl (enters_of Try.func38 (by kernel_rfl) rfl) (encs := fun x : Int => #[.int .i64 x]) (fun _ => rfl)
    (Mi := Nob) (fun _ x => x.elim) (all1_seq 5 (by omega) W1.heap.size b W E hW w0 w1 e0 e1)
    (fun k A B ⟨a1, a2, a3⟩ t => ⟨t.cell a1 (fun x => x), t.cell a2 (fun x => x), t.cell a3 (fun x => x)⟩) ⟨k5, q0, q1⟩
    (fun k V => SpanView V (fun j => FP j ∨ j = w.heap.size + 1 + 1) b W E (fun e => if e < lowOf W E + (k : Int) then putAt s t e (view e) else view e) ∧ Keeps (One b) w V ∧
      V.cell? ⟨w.heap.size, 0, none⟩ = some (.pointer (some ⟨b, 0, none⟩)) ∧ V.cell? ⟨w.heap.size + 1, 0, none⟩ = some (.int .i64 s) ∧ V.cell? ⟨w.heap.size + 1 + 1, 0, none⟩ = some (.int .i64 t) ∧ W2.heap.size ≤ V.heap.size)
    (fun c V => False)
    ?hI (fun _ _ _ x _ => x) ?h0 ?f ?assign ?body ?done ?stop
  case assign =>
    intro l k x V K hx hi hs hK
    gi_wp2
    exact hK
  case h0 =>
    exact ⟨H2.congr fun e a1 a2 => by rw [if_neg (by omega)], hk3.mono (fun _ _ x => x.elim), l0, l1, l2, Nat.le_refl _⟩
  case hI =>
    rintro k A B ⟨a1, a2, a3, a4, a5, a6⟩ t
    exact ⟨a1.of_turn t (fun x => x) (fun _ _ x => x), t.keepsN a2 (by omega), t.cell a3 (fun x => x), t.cell a4 (fun x => x), t.cell a5 (fun x => x), Nat.le_trans a6 t.size⟩
  case body =>
    rintro l k x V hl hr hx ⟨a1, a2, a3, a4, a5, a6⟩ ⟨s1, s2, s3⟩
    have hxk := epochs_mem _ _ _ _ hx
    have x1 : lowOf W E ≤ x := by unfold lowOf; omega
    have x2 : x ≤ E := hxk.2
    have HX : Hid (x = lowOf W E + (k : Int)) := hxk.1
    have A1 := Lib.hid a1
    clear hxk a1 hx H2 q0 q1 l0 l1 l2 k5
    gi_wp2_with (refine ⟨trivial, ?_⟩; gi_at_call 33; refine (CallsIn.inRound l (callsIn_wide.2 (span_at_view b W E x _ _ _ A1.out x1 x2))).mono ?_; rintro v V2 ⟨rfl, hv2, hc2, hkk⟩)
    have hf2 := hv2.cells
    obtain ⟨mn, mx, d1, d2, v1, v2⟩ := hv2.here x1 x2 hc2
    have hlen := hkk.size
    have hbV : b < V.heap.size := by omega
    have m3 := (hkk.cell (k := w.heap.size) (i := 0) (by omega) (by unfold Own.One; omega)).trans a3
    have m4 := (hkk.cell (k := w.heap.size + 1) (i := 0) (by omega) (by unfold Own.One; omega)).trans a4
    have m5 := (hkk.cell (k := w.heap.size + 1 + 1) (i := 0) (by omega) (by unfold Own.One; omega)).trans a5
    have mb := (hkk.cell (k := W1.heap.size) (i := 0) (by omega) (by unfold Own.One; omega)).trans s1
    obtain ⟨y0, y1, _, _, yf⟩ := hf2
    have hold : (if x < lowOf W E + (k : Int) then putAt s t x (view x) else view x) = view x := by rw [if_neg (by have := HX.out; omega)]
    rw [hold] at v1 v2
    have HV2 := Lib.hid hv2
    clear hv2 hold
    by_cases c1 : x < s
    · cases hvw : (view x).1 with
      | none =>
        rw [hvw] at v1
        obtain rfl : mn = .pointer none := v1
        have HP : Hid (putAt s t x (view x) = (some t, (view x).2)) := by unfold Hid; simp [putAt, c1, hvw, optMin]
        clear hvw
        gi_wp2
        refine round_quiet (by kernel_rfl) (by kernel_rfl) (by kernel_rfl) ?_
        repeat (go_big_quiet_step (fail))
        refine wpQuiet_nil ?_
        intro _ hw'
        obtain ⟨nq, hw''⟩ := hw'
        subst hw''
        revert nq; intro n2
        gi_wp2
        exact put_close (((hkk.drewN _).setOne _)) (by omega) hb (by omega) (by omega) (by omega) (by omega) (view_set1 HV2.out HX.out x2 hc2 (.inr rfl) m5 HP.out _) a2 a3 a4 a5 s1
      | some m =>
        rw [hvw] at v1
        obtain ⟨km, hkm, rfl, hcm⟩ := v1
        by_cases c2 : t < m
        · have HP : Hid (putAt s t x (view x) = (some t, (view x).2)) := by unfold Hid; simp [putAt, c1, hvw, optMin, c2]
          clear hvw
          gi_wp2
          refine round_quiet (by kernel_rfl) (by kernel_rfl) (by kernel_rfl) ?_
          repeat (go_big_quiet_step (fail))
          refine wpQuiet_nil ?_
          intro _ hw'
          obtain ⟨nq, hw''⟩ := hw'
          subst hw''
          revert nq; intro n2
          gi_wp2
          exact put_close (((hkk.drewN _).setOne _)) (by omega) hb (by omega) (by omega) (by omega) (by omega) (view_set1 HV2.out HX.out x2 hc2 (.inr rfl) m5 HP.out _) a2 a3 a4 a5 s1
        · have c3 : ¬ s < x := by omega
          have d3 : decide (s < x) = false := by simpa using c3
          have HP : Hid (putAt s t x (view x) = view x) := by unfold Hid; simp only [putAt, c1, hvw, optMin, c2, if_true, if_false]; rw [← hvw]
          clear hvw
          gi_wp2
          refine round_quiet (by kernel_rfl) (by kernel_rfl) (by kernel_rfl) ?_
          repeat (go_big_quiet_step (fail))
          refine wpQuiet_nil ?_
          intro _ hw'
          obtain ⟨nq, hw''⟩ := hw'
          subst hw''
          revert nq; intro n2
          gi_wp2
          refine round_quiet (by kernel_rfl) (by kernel_rfl) (by kernel_rfl) ?_
          repeat (go_big_quiet_step (fail))
          refine wpQuiet_nil ?_
          intro _ hw'
          obtain ⟨nq, hw''⟩ := hw'
          subst hw''
          revert nq; intro n3
          gi_wp2
          try rw [World.drewN_drewN]
          exact put_close ((hkk.drewN _)) (by omega) hb (by omega) (by omega) (by omega) (by omega) (view_none HV2.out HX.out HP.out _) a2 a3 a4 a5 s1
    · have e1 : decide (x < s) = false := by simpa using c1
      by_cases c3 : s < x
      · by_cases c4 : x < t
        · cases hvw : (view x).2 with
          | none =>
            rw [hvw] at v2
            obtain rfl : mx = .pointer none := v2
            have HP : Hid (putAt s t x (view x) = ((view x).1, some t)) := by unfold Hid; simp [putAt, c1, c3, c4, hvw, optMax]
            clear hvw
            gi_wp2
            refine round_quiet (by kernel_rfl) (by kernel_rfl) (by kernel_rfl) ?_
            repeat (go_big_quiet_step (fail))
            refine wpQuiet_nil ?_
            intro _ hw'
            obtain ⟨nq, hw''⟩ := hw'
            subst hw''
            revert nq; intro n2
            gi_wp2
            refine round_quiet (by kernel_rfl) (by kernel_rfl) (by kernel_rfl) ?_
            repeat (go_big_quiet_step (fail))
            refine wpQuiet_nil ?_
            intro _ hw'
            obtain ⟨nq, hw''⟩ := hw'
            subst hw''
            revert nq; intro n3
            gi_wp2
            try rw [World.drewN_drewN]
            exact put_close (((hkk.drewN _).setOne _)) (by omega) hb (by omega) (by omega) (by omega) (by omega) (view_set2 HV2.out HX.out x2 hc2 (.inr rfl) m5 HP.out _) a2 a3 a4 a5 s1
          | some m =>
            rw [hvw] at v2
            obtain ⟨km, hkm, rfl, hcm⟩ := v2
            by_cases c2 : m < t
            · have HP : Hid (putAt s t x (view x) = ((view x).1, some t)) := by unfold Hid; simp [putAt, c1, c3, c4, hvw, optMax, c2]
              clear hvw
              gi_wp2
              refine round_quiet (by kernel_rfl) (by kernel_rfl) (by kernel_rfl) ?_
              repeat (go_big_quiet_step (fail))
              refine wpQuiet_nil ?_
              intro _ hw'
              obtain ⟨nq, hw''⟩ := hw'
              subst hw''
              revert nq; intro n2
              gi_wp2
              refine round_quiet (by kernel_rfl) (by kernel_rfl) (by kernel_rfl) ?_
              repeat (go_big_quiet_step (fail))
              refine wpQuiet_nil ?_
              intro _ hw'
              obtain ⟨nq, hw''⟩ := hw'
              subst hw''
              revert nq; intro n3
              gi_wp2
              try rw [World.drewN_drewN]
              exact put_close (((hkk.drewN _).setOne _)) (by omega) hb (by omega) (by omega) (by omega) (by omega) (view_set2 HV2.out HX.out x2 hc2 (.inr rfl) m5 HP.out _) a2 a3 a4 a5 s1
            · have HP : Hid (putAt s t x (view x) = view x) := by unfold Hid; simp only [putAt, c1, c3, c4, hvw, optMax, c2, if_true, if_false, and_self]; rw [← hvw]
              clear hvw
              gi_wp2
              refine round_quiet (by kernel_rfl) (by kernel_rfl) (by kernel_rfl) ?_
              repeat (go_big_quiet_step (fail))
              refine wpQuiet_nil ?_
              intro _ hw'
              obtain ⟨nq, hw''⟩ := hw'
              subst hw''
              revert nq; intro n2
              gi_wp2
              refine round_quiet (by kernel_rfl) (by kernel_rfl) (by kernel_rfl) ?_
              repeat (go_big_quiet_step (fail))
              refine wpQuiet_nil ?_
              intro _ hw'
              obtain ⟨nq, hw''⟩ := hw'
              subst hw''
              revert nq; intro n3
              gi_wp2
              try rw [World.drewN_drewN]
              exact put_close ((hkk.drewN _)) (by omega) hb (by omega) (by omega) (by omega) (by omega) (view_none HV2.out HX.out HP.out _) a2 a3 a4 a5 s1
        · have e4 : decide (x < t) = false := by simpa using c4
          have HP : Hid (putAt s t x (view x) = view x) := by unfold Hid; simp [putAt, c1, c3, c4]
          gi_wp2
          refine round_quiet (by kernel_rfl) (by kernel_rfl) (by kernel_rfl) ?_
          repeat (go_big_quiet_step (fail))
          refine wpQuiet_nil ?_
          intro _ hw'
          obtain ⟨nq, hw''⟩ := hw'
          subst hw''
          revert nq; intro n2
          gi_wp2
          refine round_quiet (by kernel_rfl) (by kernel_rfl) (by kernel_rfl) ?_
          repeat (go_big_quiet_step (fail))
          refine wpQuiet_nil ?_
          intro _ hw'
          obtain ⟨nq, hw''⟩ := hw'
          subst hw''
          revert nq; intro n3
          gi_wp2
          try rw [World.drewN_drewN]
          exact put_close ((hkk.drewN _)) (by omega) hb (by omega) (by omega) (by omega) (by omega) (view_none HV2.out HX.out HP.out _) a2 a3 a4 a5 s1
      · have e3 : decide (s < x) = false := by simpa using c3
        have HP : Hid (putAt s t x (view x) = view x) := by unfold Hid; simp [putAt, c1, c3]
        gi_wp2
        refine round_quiet (by kernel_rfl) (by kernel_rfl) (by kernel_rfl) ?_
        repeat (go_big_quiet_step (fail))
        refine wpQuiet_nil ?_
        intro _ hw'
        obtain ⟨nq, hw''⟩ := hw'
        subst hw''
        revert nq; intro n2
        gi_wp2
        refine round_quiet (by kernel_rfl) (by kernel_rfl) (by kernel_rfl) ?_
        repeat (go_big_quiet_step (fail))
        refine wpQuiet_nil ?_
        intro _ hw'
        obtain ⟨nq, hw''⟩ := hw'
        subst hw''
        revert nq; intro n3
        gi_wp2
        try rw [World.drewN_drewN]
        exact put_close ((hkk.drewN _)) (by omega) hb (by omega) (by omega) (by omega) (by omega) (view_none HV2.out HX.out HP.out _) a2 a3 a4 a5 s1
  case done =>
    rintro D V hD ⟨a1, a2, _⟩ hK
    go_wp2
    have ht : Turn W2.heap.size Nob V (V.putObj D (.deferred none)) := Turn.put _ _ _ _ hD hK rfl
    refine marks_ret hK (v := .int .i64 0) ?_ ⟨rfl, ?_, ht.keepsN a2 (by omega)⟩
    · simp [results, Try.results14, go_sem]
    · refine (a1.of_turn ht (fun x => x) (fun _ _ x => x)).congr fun e p1 p2 => ?_
      rw [if_pos (by rw [epochs_len]; unfold lowOf at p1 ⊢; omega)]
  case stop =>
    rintro D c V hD x
    exact x.elim
end Go.Proofs.Ytkkecoodefjnbaa
