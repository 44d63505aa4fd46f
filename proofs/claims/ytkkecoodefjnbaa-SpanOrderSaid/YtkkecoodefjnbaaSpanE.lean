import Derived.Test.YtkkecoodefjnbaaSpanD
namespace Go.Proofs.Ytkkecoodefjnbaa
open Go Go.RowKit Go.Own Go.Shelf
attribute [local go_sem] Oper.semAt_some

theorem SpanAt.of_turn {w w' : World} {M : Nat → Prop} {B b : Nat} {W E : Int} {r : Nat → Int × Value × Value} (h : SpanAt w b W E r) (k : Turn B M w w') (hb : ¬ M b) : SpanAt w' b W E r := by
  obtain ⟨cs, hc, hn, ho⟩ := h.shape
  exact ⟨⟨cs, k.same _ _ hc hb (.inr rfl), hn, ho⟩, k.cell h.win hb, k.cell h.ep hb, fun i hi => k.cell (h.c0 i hi) hb, fun i hi => k.cell (h.c1 i hi) hb, fun i hi => k.cell (h.c2 i hi) hb⟩
theorem SpanView.of_turn {w w' : World} {M FP : Nat → Prop} {B b : Nat} {W E : Int} {view : Int → Option Int × Option Int} (h : SpanView w FP b W E view) (k : Turn B M w w') (hb : ¬ M b) (hm : ∀ j, FP j → ¬ M j) :
    SpanView w' FP b W E view := by
  obtain ⟨r, ha, hr, hv⟩ := h.ring
  refine ⟨h.w1, h.w2, h.e1, h.e2, h.nb, fun j hj => Nat.lt_of_lt_of_le (h.fp j hj) k.size, r, ha.of_turn k hb, hr, fun e h1 h2 => ?_⟩
  have hc : ∀ (k' : Nat) (x : Value), FP k' → w.cell? ⟨k', 0, none⟩ = some x → w'.cell? ⟨k', 0, none⟩ = some x := fun k' x hk hx => k.cell hx (hm k' hk)
  rcases hv e h1 h2 with ⟨a, p, q⟩ | h'
  · exact .inl ⟨a, p.mono (fun _ h => h) hc, q.mono (fun _ h => h) hc⟩
  · exact .inr h'

def optMin (o : Option Int) (t : Int) : Option Int := match o with | none => some t | some m => if t < m then some t else some m
def optMax (o : Option Int) (t : Int) : Option Int := match o with | none => some t | some m => if m < t then some t else some m
/-- What a vote does to what is told of an epoch. -/
def putAt (s t e : Int) (v : Option Int × Option Int) : Option Int × Option Int :=
  if e < s then (optMin v.1 t, v.2) else if s < e ∧ e < t then (v.1, optMax v.2 t) else v

/-- What stands against a vote. -/
def putErr (W E s t : Int) : Int := if s < 0 then 3 else if t < s then 9 else if t < lowOf W E then 16 else if E < t then 17 else 0

set_option maxHeartbeats 1000000 in
theorem span_put_no (b : Nat) (W E s t : Int) (w : World) (FP : Nat → Prop) (view : Int → Option Int × Option Int) (h : SpanView w FP b W E view) (hno : s < 0 ∨ t < s ∨ t < lowOf W E ∨ E < t) :
    Calls Try.prog 14 #[.pointer (some ⟨b, 0, none⟩), .int .i64 s, .int .i64 t] w fun v w' => v = .returned (.int .i64 (putErr W E s t)) ∧ Keeps Nob w w' := by
  obtain ⟨c0, c1, hW, hb, _⟩ := h.cells
  have w0 := h.w1; have w1 := h.w2; have e0 := h.e1; have e1 := h.e2
  clear h
  have hk := (((Keeps.refl Nob w).alloc (.cells #[.pointer (some ⟨b, 0, none⟩)] 22)).alloc (.cells #[.int .i64 s] 3)).alloc (.cells #[.int .i64 t] 3)
  have g0 := (hk.cell (i := 0) hb (fun x => x)).trans c0
  have g1 := (hk.cell (i := 1) hb (fun x => x)).trans c1
  have k0 : (((w.alloc (.cells #[.pointer (some ⟨b, 0, none⟩)] 22)).alloc (.cells #[.int .i64 s] 3)).alloc (.cells #[.int .i64 t] 3)).cell? ⟨w.heap.size, 0, none⟩ = some (.pointer (some ⟨b, 0, none⟩)) := by simp [go_sem]
  have k1 : (((w.alloc (.cells #[.pointer (some ⟨b, 0, none⟩)] 22)).alloc (.cells #[.int .i64 s] 3)).alloc (.cells #[.int .i64 t] 3)).cell? ⟨w.heap.size + 1, 0, none⟩ = some (.int .i64 s) := by simp [go_sem]
  have k2 : (((w.alloc (.cells #[.pointer (some ⟨b, 0, none⟩)] 22)).alloc (.cells #[.int .i64 s] 3)).alloc (.cells #[.int .i64 t] 3)).cell? ⟨w.heap.size + 1 + 1, 0, none⟩ = some (.int .i64 t) := by simp [go_sem]
  have hput : ∀ a : World, a = (((w.alloc (.cells #[.pointer (some ⟨b, 0, none⟩)] 22)).alloc (.cells #[.int .i64 s] 3)).alloc (.cells #[.int .i64 t] 3)) → a.heap.size = w.heap.size + 3 := by intro a e; subst e; simp
  by_cases h1 : s < 0
  · have hp : putErr W E s t = 3 := by simp [putErr, h1]
    rw [hp]; clear hp
    go_enter Try.func14, Try.ntmps14
    go_wp2_with (go_at_call 31; refine (span_none b W _ g0 hW).mono ?_; rintro e w' ⟨rfl, rfl⟩)
    go_ret
    exact ⟨rfl, hk⟩
  by_cases h2 : t < s
  · have hp : putErr W E s t = 9 := by simp [putErr, h1, h2]
    rw [hp]; clear hp
    go_enter Try.func14, Try.ntmps14
    go_wp2_with (go_at_call 31; refine (span_none b W _ g0 hW).mono ?_; rintro e w' ⟨rfl, rfl⟩)
    go_ret
    exact ⟨rfl, hk⟩
  by_cases h3 : t < lowOf W E
  · have hp : putErr W E s t = 16 := by simp [putErr, h1, h2, h3]
    rw [hp]; clear hp
    unfold lowOf at h3
    go_enter Try.func14, Try.ntmps14
    go_wp2_with (go_at_call 31; refine (span_none b W _ g0 hW).mono ?_; rintro e w' ⟨rfl, rfl⟩)
    generalize ((w.alloc (.cells #[.pointer (some ⟨b, 0, none⟩)] 22)).alloc (.cells #[.int .i64 s] 3)).alloc (.cells #[.int .i64 t] 3) = W1 at *
    go_quiet ((go_at_call 13; exact Calls.quiet_drew (span_low b W E _ g0 g1 hW w0 w1 e0 e1)))
    go_wp2
    go_ret
    exact ⟨rfl, hk.drewN _⟩
  · have h4 : E < t := by omega
    have hp : putErr W E s t = 17 := by simp [putErr, h1, h2, h3, h4]
    rw [hp]; clear hp
    unfold lowOf at h3
    go_enter Try.func14, Try.ntmps14
    go_wp2_with (go_at_call 31; refine (span_none b W _ g0 hW).mono ?_; rintro e w' ⟨rfl, rfl⟩)
    generalize ((w.alloc (.cells #[.pointer (some ⟨b, 0, none⟩)] 22)).alloc (.cells #[.int .i64 s] 3)).alloc (.cells #[.int .i64 t] 3) = W1 at *
    go_quiet ((go_at_call 13; exact Calls.quiet_drew (span_low b W E _ g0 g1 hW w0 w1 e0 e1)))
    go_wp2
    go_quiet (fail)
    go_wp2
    go_ret
    exact ⟨rfl, (hk.drewN _).drewN _⟩
end Go.Proofs.Ytkkecoodefjnbaa
