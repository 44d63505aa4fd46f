/-
  Records: a record's blocks; the document's record. Conditions: none.
-/
import Derived.Test.YtgipooedgbbliaaRecE
import Derived.Test.YtgipooedgbbliaaVoteEq
namespace Go.Proofs.Ytgipooedgbbliaa
open Go Go.RowKit Go.Own Go.Shelf
def zAtt : Att := ⟨0, 0, 0, List.replicate 32 0, 0⟩
def zPro : Pro := ⟨0, 0, List.replicate 32 0, 0⟩
theorem zAtt_ok : zAtt.Ok := ⟨by decide, by decide, by decide, rfl, by decide⟩
theorem zPro_ok : zPro.Ok := ⟨by decide, by decide, rfl, by decide⟩
def Att.cl (a : Att) : List Value := a.c.toList
def Pro.cl (a : Pro) : List Value := a.c.toList
theorem Att.cl_len {a : Att} (h : a.Ok) : a.cl.length = 36 := by have := Att.c_size a h.r; simpa [Att.cl] using this
theorem Pro.cl_len {a : Pro} (h : a.Ok) : a.cl.length = 35 := by have := Pro.c_size a h.r; simpa [Pro.cl] using this
theorem Att.cl_one {a : Att} : ∀ u ∈ a.cl, u.oneCell' = true := by
  have := Att.c_one a
  rw [← Array.all_toList] at this
  exact List.all_eq_true.1 this
theorem Pro.cl_one {a : Pro} : ∀ u ∈ a.cl, u.oneCell' = true := by
  have := Pro.c_one a
  rw [← Array.all_toList] at this
  exact List.all_eq_true.1 this
abbrev AttsAt (w : World) (v : Value) (l : List Att) : Prop := Sl w 36 Att.cl v l
abbrev ProsAt (w : World) (v : Value) (l : List Pro) : Prop := Sl w 35 Pro.cl v l
/-- A record that somebody made. -/
structure RecAt (w : World) (r : Nat) (v : Int) (A : RD Att) (B : RD Pro) : Prop where
  rec_ : w.heap[r]? = some (.cells #[.int .i64 v, .pointer (some ⟨A.g, 0, none⟩), .pointer (some ⟨B.g, 0, none⟩)] 57 (0, 0))
  a : RingA w A
  b : RingB w B
/-- The blocks of it that may turn. -/
def FR (A : RD Att) (B : RD Pro) : Nat → Prop := fun j => j = A.g ∨ j = A.s ∨ j = B.g ∨ j = B.s
section
variable {w w' : World} {r : Nat} {v : Int} {A A' : RD Att} {B B' : RD Pro} {M : Nat → Prop}
theorem RecAt.mono (h : RecAt w r v A B) (hc : ∀ (j : Nat) (cs : Array Value) (T : TypeId), (FR A B j ∨ T = 28 ∨ T = 35 ∨ T = 57) → w.heap[j]? = some (.cells cs T (0, 0)) → w'.heap[j]? = some (.cells cs T (0, 0))) : RecAt w' r v A B :=
  ⟨hc _ _ _ (.inr (.inr (.inr rfl))) h.rec_, h.a.mono fun j cs T hj => hc j cs T (by rcases hj with h | h | h; exact .inl (.inl h); exact .inl (.inr (.inl h)); exact .inr (.inl h)),
    h.b.mono fun j cs T hj => hc j cs T (by rcases hj with h | h | h; exact .inl (.inr (.inr (.inl h))); exact .inl (.inr (.inr (.inr h))); exact .inr (.inr (.inl h)))⟩
theorem RecAt.keepsN (h : RecAt w r v A B) (k : Keeps Nob w w') : RecAt w' r v A B := h.mono fun _ _ _ _ e => k.bk e
/-- No block of a record's that turns is of another type. -/
theorem RecAt.odd (h : RecAt w r v A B) {T : TypeId} (h1 : 79 ≠ T) (h2 : 71 ≠ T) (h3 : 83 ≠ T) (h4 : 74 ≠ T) : Odd w (FR A B) T := fun j cs fr hj e => by
  rcases hj with rfl | rfl | rfl | rfl
  · exact Odd.one h.a.ring h1 _ _ _ rfl e
  · exact Odd.one h.a.slots h2 _ _ _ rfl e
  · exact Odd.one h.b.ring h3 _ _ _ rfl e
  · exact Odd.one h.b.slots h4 _ _ _ rfl e
/-- Another record stays as it is. -/
theorem RecAt.other {r2 : Nat} {v2 : Int} {A2 : RD Att} {B2 : RD Pro} (h : RecAt w r v A B) (h2 : RecAt w r2 v2 A2 B2) (k : Keeps (FR A B) w w') (d : ∀ j, FR A2 B2 j → ¬ FR A B j) : RecAt w' r2 v2 A2 B2 :=
  h2.mono fun j cs T hj e => by
    rcases hj with hj | rfl | rfl | rfl
    · exact (k.block j (lt_of_block e) (d j hj)).trans e
    · exact k.odd (h.odd (by decide) (by decide) (by decide) (by decide)) e
    · exact k.odd (h.odd (by decide) (by decide) (by decide) (by decide)) e
    · exact k.odd (h.odd (by decide) (by decide) (by decide) (by decide)) e
theorem RecAt.putA (h : RecAt w r v A B) (hA : RingA w' A') (hg : A'.g = A.g) (k : Keeps (One A.s) w w') : RecAt w' r v A' B :=
  ⟨by rw [hg]; exact k.odd (Odd.one h.a.slots (by decide)) h.rec_, hA, h.b.odd k (Odd.one h.a.slots (by decide)) (Odd.one h.a.slots (by decide)) (Odd.one h.a.slots (by decide))⟩
theorem RecAt.putB (h : RecAt w r v A B) (hB : RingB w' B') (hg : B'.g = B.g) (k : Keeps (One B.s) w w') : RecAt w' r v A B' :=
  ⟨by rw [hg]; exact k.odd (Odd.one h.b.slots (by decide)) h.rec_, h.a.odd k (Odd.one h.b.slots (by decide)) (Odd.one h.b.slots (by decide)) (Odd.one h.b.slots (by decide)), hB⟩
theorem Ring.odd2 {α : Type} {ix : FuncId} {tr tp te : TypeId} {enc : α → Array Value} {key : α → Int} {ok : α → Prop} {d : RD α} {T : TypeId} (h : Ring ix tr tp te enc key ok w d) (h1 : tr ≠ T) (h2 : tp ≠ T) : Odd w (fun j => j = d.g ∨ j = d.s) T := fun j cs fr hj e => by
  rcases hj with rfl | rfl
  · exact Odd.one h.ring h1 _ _ _ rfl e
  · exact Odd.one h.slots h2 _ _ _ rfl e
theorem RecAt.moveA (h : RecAt w r v A B) (hA : RingA w' A') (hg : A'.g = A.g) (k : Keeps (fun j => j = A.g ∨ j = A.s) w w') : RecAt w' r v A' B :=
  ⟨by rw [hg]; exact k.odd (h.a.odd2 (by decide) (by decide)) h.rec_, hA, h.b.odd k (h.a.odd2 (by decide) (by decide)) (h.a.odd2 (by decide) (by decide)) (h.a.odd2 (by decide) (by decide))⟩
theorem RecAt.moveB (h : RecAt w r v A B) (hB : RingB w' B') (hg : B'.g = B.g) (k : Keeps (fun j => j = B.g ∨ j = B.s) w w') : RecAt w' r v A B' :=
  ⟨by rw [hg]; exact k.odd (h.b.odd2 (by decide) (by decide)) h.rec_, h.a.odd k (h.b.odd2 (by decide) (by decide)) (h.b.odd2 (by decide) (by decide)) (h.b.odd2 (by decide) (by decide)), hB⟩
end
/-- A record that is nil, or that nobody made. -/
def NoRec (w : World) (v : Value) : Prop := v = .pointer none ∨ ∃ r x, v = .pointer (some ⟨r, 0, none⟩) ∧ w.heap[r]? = some (.cells #[x, .pointer none, .pointer none] 57 (0, 0))
theorem NoRec.keepsN {w w' : World} {v : Value} (h : NoRec w v) (k : Keeps Nob w w') : NoRec w' v := h.elim .inl fun ⟨r, x, e, hc⟩ => .inr ⟨r, x, e, k.bk hc⟩
/-- What stands against a vote. -/
def whoErr (v e x : Int) : Int := if e ≠ 0 then e else if x ≠ v then 2 else 0
/-- The document's record. -/
structure DRec where
  (v win span l f : Int) (a : List Att) (b : List Pro)
structure RefAt (w : World) (q : Nat) (base : Nat) (d : DRec) : Prop where
  ex : ∃ va vb, w.heap[q]? = some (.cells #[.int .i64 d.v, .int .i64 d.win, .int .i64 d.span, .int .i64 d.l, .int .i64 d.f, va, vb] 90 (0, 0)) ∧
    Row w 28 36 va d.a.length (d.a.flatMap Att.cl) ∧ NewFrom base va ∧ Row w 35 35 vb d.b.length (d.b.flatMap Pro.cl) ∧ NewFrom base vb
  a : ∀ x ∈ d.a, x.Ok
  b : ∀ x ∈ d.b, x.Ok
end Go.Proofs.Ytgipooedgbbliaa
