import Derived.Test.YtkkecoodefjnbaaSpanB
namespace Go.Proofs.Ytkkecoodefjnbaa
open Go Go.RowKit Go.Own

/-- A cell's value as a number that there may be; the numbers lie in the blocks FP. -/
def ValIs (w : World) (FP : Nat → Prop) (v : Value) (o : Option Int) : Prop :=
  match o with
  | none => v = .pointer none
  | some n => ∃ k, FP k ∧ v = .pointer (some ⟨k, 0, none⟩) ∧ w.cell? ⟨k, 0, none⟩ = some (.int .i64 n)

theorem ValIs.mono {w w' : World} {FP FP' : Nat → Prop} {v : Value} {o : Option Int} (h : ValIs w FP v o) (hf : ∀ k, FP k → FP' k) (hc : ∀ k x, FP k → w.cell? ⟨k, 0, none⟩ = some x → w'.cell? ⟨k, 0, none⟩ = some x) : ValIs w' FP' v o := by
  cases o with
  | none => exact h
  | some n => obtain ⟨k, a, b, c⟩ := h; exact ⟨k, hf k a, b, hc k _ a c⟩

theorem ValIs.one {w : World} {FP : Nat → Prop} {v : Value} {o : Option Int} (h : ValIs w FP v o) : v.oneCell' = true := by
  cases o with
  | none => rw [show v = .pointer none from h]; rfl
  | some n => obtain ⟨k, _, rfl, _⟩ := h; rfl
def lowOf (W E : Int) : Int := max 0 (E - W + 1)
def slotOf (W e : Int) : Nat := (e % W).toNat
def upd {α : Type} (r : Nat → α) (i : Nat) (x : α) : Nat → α := fun j => if j = i then x else r j

/-- What the ring tells of the epochs of the window. -/
structure SpanView (w : World) (FP : Nat → Prop) (b : Nat) (W E : Int) (view : Int → Option Int × Option Int) : Prop where
  w1 : 1 ≤ W
  w2 : W ≤ 256
  e1 : 0 ≤ E
  e2 : E ≤ 4294967296
  nb : ¬ FP b
  fp : ∀ k, FP k → k < w.heap.size
  ring : ∃ r, SpanAt w b W E r ∧ (∀ i, i < 256 → (r i).1 ≤ E) ∧
    ∀ e, lowOf W E ≤ e → e ≤ E → ((r (slotOf W e)).1 = e ∧ ValIs w FP (r (slotOf W e)).2.1 (view e).1 ∧ ValIs w FP (r (slotOf W e)).2.2 (view e).2) ∨ ((r (slotOf W e)).1 ≠ e ∧ view e = (none, none))

theorem slot_lt {W e : Int} (h1 : 1 ≤ W) (h2 : W ≤ 256) : slotOf W e < 256 := by
  have := Int.emod_nonneg e (show W ≠ 0 by omega)
  have := Int.emod_lt_of_pos e (show 0 < W by omega)
  unfold slotOf; omega
theorem slot_inj {W E e e' : Int} (h1 : 1 ≤ W) (a1 : lowOf W E ≤ e) (a2 : e ≤ E) (b1 : lowOf W E ≤ e') (b2 : e' ≤ E) (h : slotOf W e = slotOf W e') : e = e' := by
  have p1 := Int.emod_nonneg e (show W ≠ 0 by omega)
  have p2 := Int.emod_nonneg e' (show W ≠ 0 by omega)
  have hm : e % W = e' % W := by unfold slotOf at h; omega
  have hd := Int.emod_emod_of_dvd (e - e') (Int.dvd_refl W)
  have : (e - e') % W = 0 := by rw [Int.sub_emod, hm]; simp
  obtain ⟨q, hq⟩ := Int.dvd_of_emod_eq_zero this
  unfold lowOf at *
  have hq0 : q = 0 := by
    rcases Int.lt_trichotomy q 0 with h | h | h
    · have : W * q ≤ W * (-1) := Int.mul_le_mul_of_nonneg_left (by omega) (by omega)
      omega
    · exact h
    · have : W * 1 ≤ W * q := Int.mul_le_mul_of_nonneg_left (by omega) (by omega)
      omega
  subst hq0; omega

theorem SpanAt.of_keeps {w w' : World} {M : Nat → Prop} {b : Nat} {W E : Int} {r : Nat → Int × Value × Value} (h : SpanAt w b W E r) (k : Keeps M w w') (hb : ¬ M b) : SpanAt w' b W E r := by
  have hs : b < w.heap.size := World.block_lt_of_cell? w _ h.win
  obtain ⟨cs, hc, hn, ho⟩ := h.shape
  exact ⟨⟨cs, (k.block b hs hb).trans hc, hn, ho⟩, (k.cell hs hb).trans h.win, (k.cell hs hb).trans h.ep, fun i hi => (k.cell hs hb).trans (h.c0 i hi), fun i hi => (k.cell hs hb).trans (h.c1 i hi), fun i hi => (k.cell hs hb).trans (h.c2 i hi)⟩

theorem SpanView.of_keeps {w w' : World} {M FP FP' : Nat → Prop} {b : Nat} {W E : Int} {view : Int → Option Int × Option Int} (h : SpanView w FP b W E view) (k : Keeps M w w') (hb : ¬ M b) (hm : ∀ j, FP j → ¬ M j)
    (hf : ∀ j, FP j → FP' j) (hn : ¬ FP' b) (hs : ∀ j, FP' j → j < w'.heap.size) : SpanView w' FP' b W E view := by
  obtain ⟨r, ha, hr, hv⟩ := h.ring
  refine ⟨h.w1, h.w2, h.e1, h.e2, hn, hs, r, ha.of_keeps k hb, hr, fun e h1 h2 => ?_⟩
  have hc : ∀ (k' : Nat) (x : Value), FP k' → w.cell? ⟨k', 0, none⟩ = some x → w'.cell? ⟨k', 0, none⟩ = some x := fun k' x hk hx => (k.cell (h.fp k' hk) (hm k' hk)).trans hx
  rcases hv e h1 h2 with ⟨a, p, q⟩ | h'
  · exact .inl ⟨a, p.mono hf hc, q.mono hf hc⟩
  · exact .inr h'

theorem all_set (cs : Array Value) (a : Nat) (v : Value) (h : cs.all (·.oneCell') = true) (hv : v.oneCell' = true) : (cs.setIfInBounds a v).all (·.oneCell') = true := by
  rw [Array.all_eq_true] at h ⊢
  intro i hi
  simp only [Array.size_setIfInBounds] at hi
  rw [Array.getElem_setIfInBounds hi]
  split
  · exact hv
  · exact h i hi

theorem shape_set {w : World} {b : Nat} {a : Nat} {v : Value} (h : ∃ cs : Array Value, w.heap[b]? = some (.cells cs 60 (0, 0)) ∧ cs.size = 770 ∧ cs.all (·.oneCell') = true) (hv : v.oneCell' = true) : ∃ cs : Array Value, (w.setCell ⟨b, a, none⟩ v).heap[b]? = some (.cells cs 60 (0, 0)) ∧ cs.size = 770 ∧ cs.all (·.oneCell') = true := by
  obtain ⟨cs, hc, hn, ho⟩ := h
  refine ⟨cs.setIfInBounds a v, ?_, by simpa using hn, all_set _ _ _ ho hv⟩
  simp [World.setCell, Array.getElem?_modify, hc]

theorem SpanAt.set0 {w : World} {b i : Nat} {W E x : Int} {r : Nat → Int × Value × Value} (h : SpanAt w b W E r) (hi : i < 256) : SpanAt (w.setCell ⟨b, 2 + i * 3, none⟩ (.int .i64 x)) b W E (upd r i (x, (r i).2.1, (r i).2.2)) := by
  refine ⟨shape_set h.shape rfl, ?_, ?_, fun j hj => ?_, fun j hj => ?_, fun j hj => ?_⟩
  · rw [World.cell?_setCell_other _ _ _ _ (by simp)]; exact h.win
  · rw [World.cell?_setCell_other _ _ _ _ (by simp <;> omega)]; exact h.ep
  · by_cases e : j = i
    · subst e; simp only [upd, if_pos]; exact World.cell?_setCell_same _ _ _ (h.c0 j hj)
    · rw [World.cell?_setCell_other _ _ _ _ (by simp <;> omega)]; simp only [upd, if_neg e]; exact h.c0 j hj
  · rw [World.cell?_setCell_other _ _ _ _ (by simp <;> omega)]; rw [h.c1 j hj]; simp only [upd]; split <;> simp_all
  · rw [World.cell?_setCell_other _ _ _ _ (by simp <;> omega)]; rw [h.c2 j hj]; simp only [upd]; split <;> simp_all
theorem SpanAt.set1 {w : World} {b i : Nat} {W E : Int} {x : Value} {r : Nat → Int × Value × Value} (h : SpanAt w b W E r) (hx : x.oneCell' = true) (hi : i < 256) : SpanAt (w.setCell ⟨b, 2 + i * 3 + 1, none⟩ x) b W E (upd r i ((r i).1, x, (r i).2.2)) := by
  refine ⟨shape_set h.shape hx, ?_, ?_, fun j hj => ?_, fun j hj => ?_, fun j hj => ?_⟩
  · rw [World.cell?_setCell_other _ _ _ _ (by simp)]; exact h.win
  · rw [World.cell?_setCell_other _ _ _ _ (by simp <;> omega)]; exact h.ep
  · rw [World.cell?_setCell_other _ _ _ _ (by simp <;> omega)]; rw [h.c0 j hj]; simp only [upd]; split <;> simp_all
  · by_cases e : j = i
    · subst e; simp only [upd, if_pos]; exact World.cell?_setCell_same _ _ _ (h.c1 j hj)
    · rw [World.cell?_setCell_other _ _ _ _ (by simp <;> omega)]; simp only [upd, if_neg e]; exact h.c1 j hj
  · rw [World.cell?_setCell_other _ _ _ _ (by simp <;> omega)]; rw [h.c2 j hj]; simp only [upd]; split <;> simp_all
theorem SpanAt.set2 {w : World} {b i : Nat} {W E : Int} {x : Value} {r : Nat → Int × Value × Value} (h : SpanAt w b W E r) (hx : x.oneCell' = true) (hi : i < 256) : SpanAt (w.setCell ⟨b, 2 + i * 3 + 2, none⟩ x) b W E (upd r i ((r i).1, (r i).2.1, x)) := by
  refine ⟨shape_set h.shape hx, ?_, ?_, fun j hj => ?_, fun j hj => ?_, fun j hj => ?_⟩
  · rw [World.cell?_setCell_other _ _ _ _ (by simp)]; exact h.win
  · rw [World.cell?_setCell_other _ _ _ _ (by simp <;> omega)]; exact h.ep
  · rw [World.cell?_setCell_other _ _ _ _ (by simp <;> omega)]; rw [h.c0 j hj]; simp only [upd]; split <;> simp_all
  · rw [World.cell?_setCell_other _ _ _ _ (by simp <;> omega)]; rw [h.c1 j hj]; simp only [upd]; split <;> simp_all
  · by_cases e : j = i
    · subst e; simp only [upd, if_pos]; exact World.cell?_setCell_same _ _ _ (h.c2 j hj)
    · rw [World.cell?_setCell_other _ _ _ _ (by simp <;> omega)]; simp only [upd, if_neg e]; exact h.c2 j hj

theorem ValIs.set {w : World} {FP : Nat → Prop} {b a : Nat} {x v : Value} {o : Option Int} (h : ValIs w FP v o) (hb : ¬ FP b) : ValIs (w.setCell ⟨b, a, none⟩ x) FP v o :=
  h.mono (fun _ h => h) (fun k y hk hy => by rw [World.cell?_setCell_other _ _ _ _ (by simp; intro e; exact absurd (e ▸ hk) hb)]; exact hy)

/-- The epoch of one window slot is brought up to date: nothing is told otherwise. -/
theorem SpanView.reset {w : World} {FP : Nat → Prop} {b : Nat} {W E e : Int} {view : Int → Option Int × Option Int} (h : SpanView w FP b W E view) (h1 : lowOf W E ≤ e) (h2 : e ≤ E)
    (hne : ∀ r, SpanAt w b W E r → (r (slotOf W e)).1 ≠ e) :
    SpanView (((w.setCell ⟨b, 2 + slotOf W e * 3, none⟩ (.int .i64 e)).setCell ⟨b, 2 + slotOf W e * 3 + 1, none⟩ (.pointer none)).setCell ⟨b, 2 + slotOf W e * 3 + 2, none⟩ (.pointer none)) FP b W E view ∧ view e = (none, none) := by
  obtain ⟨r, ha, hr, hv⟩ := h.ring
  have hi := slot_lt (e := e) h.w1 h.w2
  have hn := hne r ha
  have hve : view e = (none, none) := by
    rcases hv e h1 h2 with ⟨a, _⟩ | ⟨_, a⟩
    · exact absurd a hn
    · exact a
  refine ⟨⟨h.w1, h.w2, h.e1, h.e2, h.nb, fun k hk => by simpa using h.fp k hk, _, ((ha.set0 (x := e) hi).set1 (x := .pointer none) rfl hi).set2 (x := .pointer none) rfl hi, ?_, ?_⟩, hve⟩
  · intro i hi'
    have := hr i hi'
    simp only [upd]; split <;> (try split) <;> (try split) <;> simp_all
  · intro e' g1 g2
    by_cases he : e' = e
    · subst he
      left
      simp [upd, hve, ValIs]
    · have hs : slotOf W e' ≠ slotOf W e := fun x => he (slot_inj h.w1 g1 g2 h1 h2 x)
      simp only [upd, if_neg hs]
      rcases hv e' g1 g2 with ⟨a, p, q⟩ | h'
      · exact .inl ⟨a, ((p.set h.nb).set h.nb).set h.nb, ((q.set h.nb).set h.nb).set h.nb⟩
      · exact .inr h'

/-- One of the two numbers of an epoch is set. -/
theorem SpanView.set1 {w : World} {FP : Nat → Prop} {b : Nat} {W E e : Int} {view : Int → Option Int × Option Int} {v : Value} {o : Option Int} (h : SpanView w FP b W E view) (h1 : lowOf W E ≤ e) (h2 : e ≤ E)
    (hc : w.cell? ⟨b, 2 + slotOf W e * 3, none⟩ = some (.int .i64 e)) (hv : ValIs w FP v o) :
    SpanView (w.setCell ⟨b, 2 + slotOf W e * 3 + 1, none⟩ v) FP b W E (fun x => if x = e then (o, (view e).2) else view x) := by
  obtain ⟨r, ha, hr, hview⟩ := h.ring
  have hi := slot_lt (e := e) h.w1 h.w2
  have he : (r (slotOf W e)).1 = e := by have := (ha.c0 _ hi).symm.trans hc; simpa using this
  refine ⟨h.w1, h.w2, h.e1, h.e2, h.nb, fun k hk => by simpa using h.fp k hk, _, ha.set1 (x := v) hv.one hi, ?_, ?_⟩
  · intro i hi'
    have := hr i hi'
    simp only [upd]; split <;> simp_all
  · intro e' g1 g2
    by_cases hee : e' = e
    · subst hee
      left
      rcases hview e' g1 g2 with ⟨a, p, q⟩ | ⟨h', _⟩
      · simp only [upd, if_pos]; exact ⟨a, hv.set h.nb, q.set h.nb⟩
      · exact absurd he h'
    · have hs : slotOf W e' ≠ slotOf W e := fun x => hee (slot_inj h.w1 g1 g2 h1 h2 x)
      simp only [upd, if_neg hs, if_neg hee]
      rcases hview e' g1 g2 with ⟨a, p, q⟩ | h'
      · exact .inl ⟨a, p.set h.nb, q.set h.nb⟩
      · exact .inr h'
theorem SpanView.set2 {w : World} {FP : Nat → Prop} {b : Nat} {W E e : Int} {view : Int → Option Int × Option Int} {v : Value} {o : Option Int} (h : SpanView w FP b W E view) (h1 : lowOf W E ≤ e) (h2 : e ≤ E)
    (hc : w.cell? ⟨b, 2 + slotOf W e * 3, none⟩ = some (.int .i64 e)) (hv : ValIs w FP v o) :
    SpanView (w.setCell ⟨b, 2 + slotOf W e * 3 + 2, none⟩ v) FP b W E (fun x => if x = e then ((view e).1, o) else view x) := by
  obtain ⟨r, ha, hr, hview⟩ := h.ring
  have hi := slot_lt (e := e) h.w1 h.w2
  have he : (r (slotOf W e)).1 = e := by have := (ha.c0 _ hi).symm.trans hc; simpa using this
  refine ⟨h.w1, h.w2, h.e1, h.e2, h.nb, fun k hk => by simpa using h.fp k hk, _, ha.set2 (x := v) hv.one hi, ?_, ?_⟩
  · intro i hi'
    have := hr i hi'
    simp only [upd]; split <;> simp_all
  · intro e' g1 g2
    by_cases hee : e' = e
    · subst hee
      left
      rcases hview e' g1 g2 with ⟨a, p, q⟩ | ⟨h', _⟩
      · simp only [upd, if_pos]; exact ⟨a, p.set h.nb, hv.set h.nb⟩
      · exact absurd he h'
    · have hs : slotOf W e' ≠ slotOf W e := fun x => hee (slot_inj h.w1 g1 g2 h1 h2 x)
      simp only [upd, if_neg hs, if_neg hee]
      rcases hview e' g1 g2 with ⟨a, p, q⟩ | h'
      · exact .inl ⟨a, p.set h.nb, q.set h.nb⟩
      · exact .inr h'

theorem SpanView.congr {w : World} {FP : Nat → Prop} {b : Nat} {W E : Int} {view view' : Int → Option Int × Option Int} (h : SpanView w FP b W E view) (hv : ∀ e, lowOf W E ≤ e → e ≤ E → view e = view' e) : SpanView w FP b W E view' := by
  obtain ⟨r, ha, hr, hview⟩ := h.ring
  refine ⟨h.w1, h.w2, h.e1, h.e2, h.nb, h.fp, r, ha, hr, fun e g1 g2 => ?_⟩
  rw [← hv e g1 g2]; exact hview e g1 g2

/-- What one epoch of the window reads as, once it is up to date. -/
theorem SpanView.here {w : World} {FP : Nat → Prop} {b : Nat} {W E e : Int} {view : Int → Option Int × Option Int} (h : SpanView w FP b W E view) (h1 : lowOf W E ≤ e) (h2 : e ≤ E)
    (hc : w.cell? ⟨b, 2 + slotOf W e * 3, none⟩ = some (.int .i64 e)) :
    ∃ mn mx, w.cell? ⟨b, 2 + slotOf W e * 3 + 1, none⟩ = some mn ∧ w.cell? ⟨b, 2 + slotOf W e * 3 + 2, none⟩ = some mx ∧ ValIs w FP mn (view e).1 ∧ ValIs w FP mx (view e).2 := by
  obtain ⟨r, ha, hr, hview⟩ := h.ring
  have hi := slot_lt (e := e) h.w1 h.w2
  have he : (r (slotOf W e)).1 = e := by have := (ha.c0 _ hi).symm.trans hc; simpa using this
  rcases hview e h1 h2 with ⟨a, p, q⟩ | ⟨h', _⟩
  · exact ⟨_, _, ha.c1 _ hi, ha.c2 _ hi, p, q⟩
  · exact absurd he h'

end Go.Proofs.Ytkkecoodefjnbaa
