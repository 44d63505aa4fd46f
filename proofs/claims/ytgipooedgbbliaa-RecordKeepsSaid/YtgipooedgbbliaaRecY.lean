/-
  Records: what was put, and what is there. Conditions: none.
-/
import Derived.Test.YtgipooedgbbliaaRecP
import Derived.Test.YtgipooedgbbliaaRecU
namespace Go.Proofs.Ytgipooedgbbliaa
open Go Go.RowKit Go.Own Go.Shelf
def keepA (l : Int) (b : Att) : Bool := decide (l ≤ b.t)
def keepB (l : Int) (b : Pro) : Bool := decide (l ≤ b.h)
section
variable {α : Type} {key : α → Int} {V : Int → Option α} {low n : Nat}
theorem items_rise (h : Held key V low n) : (items V low n).Pairwise (fun a b => key a < key b) := by
  have go : ∀ m, (items V low m).Pairwise (fun a b => key a < key b) := by
    intro m
    induction m with
    | zero => exact List.Pairwise.nil
    | succ m ih =>
      rw [items_succ, List.pairwise_append]
      refine ⟨ih, by cases V ((low + m : Nat) : Int) <;> simp, fun a ha b hb => ?_⟩
      obtain ⟨k, hk, hv⟩ := mem_items.1 ha
      have hb2 : V ((low + m : Nat) : Int) = some b := by simpa using hb
      rw [(h _ _ hv).2.2, (h _ _ hb2).2.2]; omega
  exact go n
theorem rise_get {l : List α} (h : l.Pairwise (fun a b => key a < key b)) {i j : Nat} (hij : i < j) {x y : α} (hx : l[i]? = some x) (hy : l[j]? = some y) : key x < key y := by
  obtain ⟨h1, rfl⟩ := List.getElem?_eq_some_iff.1 hx
  obtain ⟨h2, rfl⟩ := List.getElem?_eq_some_iff.1 hy
  exact List.pairwise_iff_getElem.1 h i j h1 h2 hij
theorem insK_perm (l : List α) (a : α) : (insK key l a).Perm (a :: l) := by
  unfold insK
  refine List.perm_middle.trans ?_
  rw [List.takeWhile_append_dropWhile]
theorem filY {p : α → Bool} {xs : List α} {i : Nat} {x : α} (hx : xs[i]? = some x) (hp : p x = true) : ((xs.take (i + 1)).filter p).length = ((xs.take i).filter p).length + 1 := by
  rw [List.take_add_one, hx, List.filter_append]; simp [hp]
theorem filN {p : α → Bool} {xs : List α} {i : Nat} {x : α} (hx : xs[i]? = some x) (hp : p x = false) : ((xs.take (i + 1)).filter p).length = ((xs.take i).filter p).length := by
  rw [List.take_add_one, hx, List.filter_append]; simp [hp]
end
/-- What was put, and was told OK, beside what is there. -/
structure KInv (wa : List Att) (wp : List Pro) (s : RSpec) : Prop where
  oka : ∀ x ∈ wa, x.Ok
  okp : ∀ x ∈ wp, x.Ok
  pa : (wa.filter (keepA s.la)).Perm s.all
  pp : (wp.filter (keepB s.lb)).Perm s.allB
section
variable {wa : List Att} {wp : List Pro} {s : RSpec}
theorem KInv.at_ (h : KInv wa wp s) (hh : Held (·.t) s.VA s.la s.na) {x : Att} (hx : x ∈ wa) : (keepA s.la x = true ∧ (s.la : Int) ≤ x.t ∧ s.VA x.t = some x) ∨ (keepA s.la x = false ∧ ¬ (s.la : Int) ≤ x.t ∧ s.VA x.t = none) := by
  by_cases hl : (s.la : Int) ≤ x.t
  · refine .inl ⟨decide_eq_true hl, hl, ?_⟩
    exact items_key hh (h.pa.subset (List.mem_filter.2 ⟨hx, decide_eq_true hl⟩))
  · refine .inr ⟨decide_eq_false hl, hl, ?_⟩
    cases hv : s.VA x.t with
    | none => rfl
    | some y => exact absurd (hh _ _ hv).1 hl
theorem KInv.atB (h : KInv wa wp s) (hh : Held (·.h) s.VB s.lb s.nb) {x : Pro} (hx : x ∈ wp) : (keepB s.lb x = true ∧ (s.lb : Int) ≤ x.h ∧ s.VB x.h = some x) ∨ (keepB s.lb x = false ∧ ¬ (s.lb : Int) ≤ x.h ∧ s.VB x.h = none) := by
  by_cases hl : (s.lb : Int) ≤ x.h
  · refine .inl ⟨decide_eq_true hl, hl, ?_⟩
    exact items_key hh (h.pp.subset (List.mem_filter.2 ⟨hx, decide_eq_true hl⟩))
  · refine .inr ⟨decide_eq_false hl, hl, ?_⟩
    cases hv : s.VB x.h with
    | none => rfl
    | some y => exact absurd (hh _ _ hv).1 hl
theorem RSpec.put0 {a : Att} {v : Int} (h : s.putErr v a = 0) : (s.la : Int) ≤ a.t ∧ a.t < (s.la : Int) + s.na ∧ s.VA a.t = none := by
  unfold RSpec.putErr at h
  by_cases h0 : whoErr v a.err a.v = 0
  · rw [if_neg (by omega)] at h
    by_cases h1 : a.t < (s.la : Int)
    · rw [if_pos h1] at h; omega
    · rw [if_neg h1] at h
      by_cases h2 : (s.la : Int) + s.na ≤ a.t
      · rw [if_pos h2] at h; omega
      · rw [if_neg h2] at h
        cases hv : s.VA a.t with
        | none => exact ⟨by omega, by omega, rfl⟩
        | some b => rw [hv] at h; simp at h
  · rw [if_pos h0] at h; exact absurd h h0
theorem RSpec.putB0 {a : Pro} {v : Int} (h : s.putErrB v a = 0) : (s.lb : Int) ≤ a.h ∧ a.h < (s.lb : Int) + s.nb ∧ s.VB a.h = none := by
  unfold RSpec.putErrB at h
  by_cases h0 : whoErr v a.err a.v = 0
  · rw [if_neg (by omega)] at h
    by_cases h1 : a.h < (s.lb : Int)
    · rw [if_pos h1] at h; omega
    · rw [if_neg h1] at h
      by_cases h2 : (s.lb : Int) + s.nb ≤ a.h
      · rw [if_pos h2] at h; omega
      · rw [if_neg h2] at h
        cases hv : s.VB a.h with
        | none => exact ⟨by omega, by omega, rfl⟩
        | some b => rw [hv] at h; simp at h
  · rw [if_pos h0] at h; exact absurd h h0
theorem KInv.put (h : KInv wa wp s) (hh : Held (·.t) s.VA s.la s.na) {a : Att} {v : Int} (ha : a.Ok) (he : s.putErr v a = 0) : KInv (wa ++ [a]) wp { s with VA := upV s.VA a.t a } := by
  obtain ⟨h1, h2, h3⟩ := RSpec.put0 he
  refine ⟨fun x hx => ?_, h.okp, ?_, h.pp⟩
  · rcases List.mem_append.1 hx with hx | hx
    · exact h.oka x hx
    · rw [List.mem_singleton.1 hx]; exact ha
  · have e1 : (wa ++ [a]).filter (keepA s.la) = wa.filter (keepA s.la) ++ [a] := by rw [List.filter_append]; simp [keepA, h1]
    obtain ⟨t, ht⟩ : ∃ t : Nat, a.t = (t : Int) := ⟨a.t.toNat, by omega⟩
    have e2 : RSpec.all { s with VA := upV s.VA a.t a } = insK (·.t) s.all a := by
      show items (upV s.VA a.t a) s.la s.na = insK (·.t) (items s.VA s.la s.na) a
      rw [ht] at h1 h2 h3 ⊢
      exact items_put hh (by omega) (by omega) ht h3
    rw [e2]
    show ((wa ++ [a]).filter (keepA s.la)).Perm _
    rw [e1]
    exact (List.perm_append_singleton _ _).trans ((h.pa.cons a).trans (insK_perm _ _).symm)
theorem KInv.putB (h : KInv wa wp s) (hh : Held (·.h) s.VB s.lb s.nb) {a : Pro} {v : Int} (ha : a.Ok) (he : s.putErrB v a = 0) : KInv wa (wp ++ [a]) { s with VB := upV s.VB a.h a } := by
  obtain ⟨h1, h2, h3⟩ := RSpec.putB0 he
  refine ⟨h.oka, fun x hx => ?_, h.pa, ?_⟩
  · rcases List.mem_append.1 hx with hx | hx
    · exact h.okp x hx
    · rw [List.mem_singleton.1 hx]; exact ha
  · have e1 : (wp ++ [a]).filter (keepB s.lb) = wp.filter (keepB s.lb) ++ [a] := by rw [List.filter_append]; simp [keepB, h1]
    obtain ⟨t, ht⟩ : ∃ t : Nat, a.h = (t : Int) := ⟨a.h.toNat, by omega⟩
    have e2 : RSpec.allB { s with VB := upV s.VB a.h a } = insK (·.h) s.allB a := by
      show items (upV s.VB a.h a) s.lb s.nb = insK (·.h) (items s.VB s.lb s.nb) a
      rw [ht] at h1 h2 h3 ⊢
      exact items_put hh (by omega) (by omega) ht h3
    rw [e2]
    show ((wp ++ [a]).filter (keepB s.lb)).Perm _
    rw [e1]
    exact (List.perm_append_singleton _ _).trans ((h.pp.cons a).trans (insK_perm _ _).symm)
/-- A record moved on to l and f. -/
def RSpec.at2 (s : RSpec) (l f : Nat) : RSpec := { s with la := l, lb := f, VA := mvV s.VA (l : Int), VB := mvV s.VB (f : Int) }
theorem KInv.move (h : KInv wa wp s) (hh : Held (·.t) s.VA s.la s.na) (hb : Held (·.h) s.VB s.lb s.nb) {l f : Nat} (h1 : s.la ≤ l) (h2 : s.lb ≤ f) : KInv wa wp (s.at2 l f) := by
  refine ⟨h.oka, h.okp, ?_, ?_⟩
  · have e2 : RSpec.all (s.at2 l f) = s.all.filter (keepA l) := items_move hh h1
    have e1 : wa.filter (keepA (l : Int)) = (wa.filter (keepA s.la)).filter (keepA l) := by
      rw [List.filter_filter]
      congr 1; funext x
      rw [Bool.eq_iff_iff]; simp only [keepA, Bool.and_eq_true, decide_eq_true_eq]; omega
    rw [e2]
    show (wa.filter (keepA (l : Int))).Perm _
    rw [e1]; exact h.pa.filter _
  · have e2 : RSpec.allB (s.at2 l f) = s.allB.filter (keepB f) := items_move hb h2
    have e1 : wp.filter (keepB (f : Int)) = (wp.filter (keepB s.lb)).filter (keepB f) := by
      rw [List.filter_filter]
      congr 1; funext x
      rw [Bool.eq_iff_iff]; simp only [keepB, Bool.and_eq_true, decide_eq_true_eq]; omega
    rw [e2]
    show (wp.filter (keepB (f : Int))).Perm _
    rw [e1]; exact h.pp.filter _
theorem RSpec.move_at2 {l f : Nat} (h1 : s.la ≤ l) (h2 : s.lb ≤ f) (h3 : l ≤ 4294967296) (h4 : f ≤ 4294967296) (h5 : 1 ≤ f) : s.moveErr (l : Int) (f : Int) = 0 ∧ s.move (l : Int) (f : Int) = s.at2 l f := by
  have h0 : s.moveErr (l : Int) (f : Int) = 0 := by unfold RSpec.moveErr; rw [if_neg (by omega), if_neg (by omega)]
  refine ⟨h0, ?_⟩
  unfold RSpec.move RSpec.at2
  rw [if_pos h0, Int.toNat_natCast, Int.toNat_natCast]
theorem RSpec.at2_at2 {l f l' f' : Nat} (h1 : l ≤ l') (h2 : f ≤ f') : (s.at2 l f).at2 l' f' = s.at2 l' f' := by
  unfold RSpec.at2
  simp only
  rw [mvV_mvV (by omega), mvV_mvV (by omega)]
theorem RSpec.at2_self (hh : Held (·.t) s.VA s.la s.na) (hb : Held (·.h) s.VB s.lb s.nb) : s.at2 s.la s.lb = s := by
  unfold RSpec.at2
  have e1 : mvV s.VA (s.la : Int) = s.VA := by
    funext j; unfold mvV; split
    · cases hv : s.VA j with
      | none => rfl
      | some a => have := (hh _ _ hv).1; omega
    · rfl
  have e2 : mvV s.VB (s.lb : Int) = s.VB := by
    funext j; unfold mvV; split
    · cases hv : s.VB j with
      | none => rfl
      | some a => have := (hb _ _ hv).1; omega
    · rfl
  rw [e1, e2]
end
/-! A row of votes is appended to: no single vote's block turns. -/
/-- Blocks of one element. -/
def Ones (w w' : World) (T : TypeId) (n : Nat) : Prop := ∀ (j : Nat) (cs : Array Value), cs.size = n → w.heap[j]? = some (.cells cs T (0, 0)) → w'.heap[j]? = some (.cells cs T (0, 0))
theorem append_ones {P : Program} {w w' : World} (t ty e : TypeId) (i : TypeInfo) (z : Value) (size bytes : Nat) (ht : P.underlying t = some (.slice e)) (hi : P.info? e = some i) (hz : i.zero = some z)
    (hsize : i.size = size) (hby : i.bytes = bytes) (hzs : z.cells.size = size) (hsz : 0 < size)
    (v : Value) (n : Nat) (xs : List Value) (hown : Row w e size v n xs) (x : Value) (m : Nat) (news : List Value) (hsrc : Src w size x m news) (hm : 0 < m)
    (h63 : n + m ≤ maxLen) (hbytes : (n + m) * bytes ≤ 140737488355328) (hn : v ≠ .slice none 0 0 → 0 < n) {v' : Value} (hr : (Builtin.append_ #[t, t] ty #[v, x]).run P w = .ok v' w') (hg : w.grownBy w' v.ownBlock) : Ones w w' e size := by
  intro j cs hcs hj
  subst hsize; subst hby
  by_cases hjv : v.ownBlock = some j
  · obtain ⟨hl, h1, ⟨_, h0⟩ | ⟨ad, c, rfl, hc⟩⟩ := hsrc
    · omega
    · rcases hown.2 with ⟨rfl, _⟩ | ⟨g, cap, cur, rfl, hbg, hgc, hnc, hcm, hcs2, htake⟩
      · cases hjv
      · have hjg : j = g := by simpa [Value.ownBlock] using hjv.symm
        subst hjg
        rw [hgc] at hj
        simp only [Option.some.injEq, Obj.cells.injEq, and_true] at hj
        subst hj
        have hcap : cap = 1 := Nat.eq_of_mul_eq_mul_right hsz (by rw [← hcs2, hcs, Nat.one_mul])
        have hn1 := hn (by simp)
        have holds : ∀ k u, xs[k]? = some u → w.cell? ((⟨j, 0, none⟩ : Addr).add k) = some u := World.ownsRow.cells hown (g := j) rfl
        have hr2 := run_append_grow (P := P) w t ty e i z ht hi hz ⟨j, 0, none⟩ n cap xs hown.1 holds ad m c news hl hc (by omega) (by simp only [maxLen] at h63; omega) (growslice_fits (by omega) hbytes)
        have e1 := hr.symm.trans hr2
        simp only [Result.ok.injEq] at e1
        rw [e1.2]
        exact (Below.heap_alloc w _ j (lt_of_block hgc)).trans hgc
  · exact (hg.block j (lt_of_block hj) (fun e => hjv e.symm)).trans hj
section
variable {w0 w w' : World} {r : Nat} {v : Int} {s : RSpec} {M : Nat → Prop}
theorem RecAt.ones {A : RD Att} {B : RD Pro} (h : RecAt w r v A B) (k : Keeps M w w') (h1 : Odd w M 57) (h2 : Odd w M 79) (h3 : Odd w M 71) (h5 : Odd w M 83) (h6 : Odd w M 74) (ha : Ones w w' 28 36) (hb : Ones w w' 35 35) : RecAt w' r v A B := by
  have sa : ∀ p a, (∀ x, a = some x → x.Ok) → SlotOk w 28 Att.c p a → SlotOk w' 28 Att.c p a := fun p a hx hs => by
    cases p <;> cases a <;> first | exact hs | exact ha _ _ (Att.c_size _ (hx _ rfl).r) hs
  have sb : ∀ p a, (∀ x, a = some x → x.Ok) → SlotOk w 35 Pro.c p a → SlotOk w' 35 Pro.c p a := fun p a hx hs => by
    cases p <;> cases a <;> first | exact hs | exact hb _ _ (Pro.c_size _ (hx _ rfl).r) hs
  exact ⟨k.odd h1 h.rec_, ⟨k.odd h2 h.a.ring, k.odd h3 h.a.slots, h.a.n1, h.a.n2, h.a.l2, h.a.out, fun i q1 q2 => sa _ _ (fun x hx => (h.a.out i x hx).2.2.2) (h.a.at_ i q1 q2)⟩,
    ⟨k.odd h5 h.b.ring, k.odd h6 h.b.slots, h.b.n1, h.b.n2, h.b.l2, h.b.out, fun i q1 q2 => sb _ _ (fun x hx => (h.b.out i x hx).2.2.2) (h.b.at_ i q1 q2)⟩⟩
theorem RecAt.odds' {A : RD Att} {B : RD Pro} (h : RecAt w r v A B) (k : Keeps M w w') (h1 : Odd w M 57) (h2 : Odd w M 79) (h3 : Odd w M 71) (h4 : Odd w M 28) (h5 : Odd w M 83) (h6 : Odd w M 74) (h7 : Odd w M 35) : RecAt w' r v A B :=
  ⟨k.odd h1 h.rec_, h.a.odd k h2 h3 h4, h.b.odd k h5 h6 h7⟩
theorem RSt.one {g : Nat} {cs : Array Value} {fr : Nat × Nat} {T : TypeId} (h : RSt w0 w r v s) (k : Keeps (One g) w w') (hg : w.heap[g]? = some (.cells cs T fr)) (h1 : T ≠ 57) (h2 : T ≠ 79) (h3 : T ≠ 71) (h4 : T ≠ 28) (h5 : T ≠ 83) (h6 : T ≠ 74) (h7 : T ≠ 35) : RSt w0 w' r v s :=
  let ⟨A, B, q1, q2⟩ := h.ex
  ⟨⟨A, B, q1.odds' k (Odd.one hg h1) (Odd.one hg h2) (Odd.one hg h3) (Odd.one hg h4) (Odd.one hg h5) (Odd.one hg h6) (Odd.one hg h7), q2⟩⟩
theorem Row.odd {e : TypeId} {size n : Nat} {u : Value} {xs : List Value} (h : Row w e size u n xs) {T : TypeId} (hne : e ≠ T) : Odd w (fun j => u.ownBlock = some j) T := fun j cs fr hj hh => by
  obtain ⟨c2, hc⟩ := h.elem hj
  rw [hc] at hh
  simp only [Option.some.injEq, Obj.cells.injEq] at hh
  exact hne hh.2.1
theorem RSt.rowA {n : Nat} {u : Value} {xs : List Value} (h : RSt w0 w r v s) (hu : Row w 28 36 u n xs) (k : Keeps (fun j => u.ownBlock = some j) w w') (ho : Ones w w' 28 36) : RSt w0 w' r v s :=
  let ⟨A, B, q1, q2⟩ := h.ex
  ⟨⟨A, B, q1.ones k (Row.odd hu (by decide)) (Row.odd hu (by decide)) (Row.odd hu (by decide)) (Row.odd hu (by decide)) (Row.odd hu (by decide)) ho (fun _ _ _ hj => k.odd (Row.odd hu (by decide)) hj), q2⟩⟩
theorem RSt.rowB {n : Nat} {u : Value} {xs : List Value} (h : RSt w0 w r v s) (hu : Row w 35 35 u n xs) (k : Keeps (fun j => u.ownBlock = some j) w w') (ho : Ones w w' 35 35) : RSt w0 w' r v s :=
  let ⟨A, B, q1, q2⟩ := h.ex
  ⟨⟨A, B, q1.ones k (Row.odd hu (by decide)) (Row.odd hu (by decide)) (Row.odd hu (by decide)) (Row.odd hu (by decide)) (Row.odd hu (by decide)) (fun _ _ _ hj => k.odd (Row.odd hu (by decide)) hj) ho, q2⟩⟩
end
theorem RSt.older {b w0 w : World} {r : Nat} {v : Int} {s : RSpec} (h : RSt w0 w r v s) (hb : b.heap.size ≤ w0.heap.size) : RSt b w r v s := let ⟨A, B, q1, q2, q3⟩ := h.ex; ⟨⟨A, B, q1, fun j hj => Nat.le_trans hb (q2 j hj), q3⟩⟩
theorem Row.rings {w0 w : World} {e : TypeId} {size n : Nat} {u : Value} {xs : List Value} (h : Row w e size u n xs) (h1 : e ≠ 79) (h2 : e ≠ 71) (h3 : e ≠ 83) (h4 : e ≠ 74) : ∀ j, u.ownBlock = some j → ¬ Rings w0 w j := fun j hj =>
  let ⟨_, hc⟩ := h.elem hj
  Rings.not hc h1 h2 h3 h4
theorem items_nil {α : Type} (low n : Nat) : items (fun _ => (none : Option α)) low n = [] := by
  induction n with
  | zero => rfl
  | succ n ih => rw [items_succ, ih]; rfl
theorem KInv.start (na nb : Nat) : KInv [] [] ⟨0, na, 1, nb, fun _ => none, fun _ => none⟩ :=
  ⟨fun _ h => (by cases h), fun _ h => (by cases h), by rw [show RSpec.all ⟨0, na, 1, nb, fun _ => none, fun _ => none⟩ = [] from items_nil _ _]; exact List.Perm.nil, by rw [show RSpec.allB ⟨0, na, 1, nb, fun _ => none, fun _ => none⟩ = [] from items_nil _ _]; exact List.Perm.nil⟩
theorem exec_min {P : Program} {o : Oper} {ρ : Operand → Value} {w : World} (x y : Operand) (ts : Array TypeId) (ho : o.op = .call { callee := .builtin .min, args := #[x, y], argTypes := ts }) (k : IntKind) (a b c : Int) (hx : ρ x = .int k a) (hy : ρ y = .int k b) (hc : c = min a b) :
    (execOp ρ o).run P w = .ok (.value (.int k c)) w := by
  subst hc
  unfold execOp
  simp [ho, hx, hy, resolve, invoke, builtin, Builtin.min_, Builtin.min2]
  rw [Int.min_def]
  split <;> split <;> omega
/-- An act by the validator 1. -/
def RAct.one (x : RAct) : RAct := { x with a := { x.a with v := 1 }, p := { x.p with v := 1 } }
def RAct.oneA (x : RAct) : RAct := { x with a := { x.a with v := 1 } }
theorem RAct.one_ok {x : RAct} (h : x.Ok) : x.one.Ok := ⟨h.k, h.l, h.f, h.at_, h.of_, ⟨by show i64b 1; decide, h.a.s, h.a.t, h.a.r, h.a.g⟩, ⟨by show i64b 1; decide, h.p.h, h.p.r, h.p.g⟩⟩
theorem RAct.oneA_ok {x : RAct} (h : x.Ok) : x.oneA.Ok := ⟨h.k, h.l, h.f, h.at_, h.of_, ⟨by show i64b 1; decide, h.a.s, h.a.t, h.a.r, h.a.g⟩, h.p⟩
theorem RAct.set_a (x : RAct) : x.c.setIfInBounds 5 (.int .i64 1) = x.oneA.c := by
  simp [RAct.c, RAct.cl, RAct.oneA, Att.cl, Att.c, List.set_append]
theorem RAct.set_p {x : RAct} (h : x.Ok) : x.oneA.c.setIfInBounds 41 (.int .i64 1) = x.one.c := by
  have hl := Att.cl_len (RAct.oneA_ok h).a
  simp only [RAct.c, RAct.cl, List.setIfInBounds_toArray, List.set_cons_succ]
  rw [List.set_append, if_neg (by omega), hl]
  simp [RAct.oneA, RAct.one, Pro.cl, Pro.c]
section
variable {w0 w : World} {r r2 : Nat} {v : Int} {s s2 : RSpec}
theorem RSt2.moved2 (h : RSt2 w0 w r r2 v s s2) {l f : Nat} (h1 : s2.la ≤ l) (h2 : s2.lb ≤ f) (h3 : l ≤ 4294967296) (h4 : f ≤ 4294967296) (h5 : 1 ≤ f) : Calls Try.prog 14 #[.pointer (some ⟨r2, 0, none⟩), .int .i64 ((l : Nat) : Int), .int .i64 ((f : Nat) : Int)] w fun e w' => e = .returned (.int .i64 0) ∧ RSt2 w0 w' r r2 v s (s2.at2 l f) ∧ Keeps (Rings w0 w) w w' := by
  have hh := h.move2 l f
  obtain ⟨e1, e2⟩ := RSpec.move_at2 h1 h2 h3 h4 h5
  rw [e1, e2] at hh
  exact hh
theorem RSt2.moved1 (h : RSt2 w0 w r r2 v s s2) {l f : Nat} (h1 : s.la ≤ l) (h2 : s.lb ≤ f) (h3 : l ≤ 4294967296) (h4 : f ≤ 4294967296) (h5 : 1 ≤ f) : Calls Try.prog 14 #[.pointer (some ⟨r, 0, none⟩), .int .i64 ((l : Nat) : Int), .int .i64 ((f : Nat) : Int)] w fun e w' => e = .returned (.int .i64 0) ∧ RSt2 w0 w' r r2 v (s.at2 l f) s2 ∧ Keeps (Rings w0 w) w w' :=
  (h.swap.moved2 h1 h2 h3 h4 h5).mono fun e w' ⟨he, hr, k⟩ => ⟨he, hr.swap, k⟩
end
theorem keeps_cases (l : List RAct) (i : Nat) (s : RSpec) (hi : i ≤ l.length) :
    (∃ x, l[i]? = some x ∧ i < l.length ∧ x.k = 0 ∧ s.putErr 1 x.one.a = 0) ∨ (∃ x, l[i]? = some x ∧ i < l.length ∧ x.k = 0 ∧ s.putErr 1 x.one.a ≠ 0) ∨
    (∃ x, l[i]? = some x ∧ i < l.length ∧ x.k = 1 ∧ s.putErrB 1 x.one.p = 0) ∨ (∃ x, l[i]? = some x ∧ i < l.length ∧ x.k = 1 ∧ s.putErrB 1 x.one.p ≠ 0) ∨
    (∃ x, l[i]? = some x ∧ i < l.length ∧ x.k = 2) ∨ (∃ x, l[i]? = some x ∧ i < l.length ∧ x.k ≠ 0 ∧ x.k ≠ 1 ∧ x.k ≠ 2) ∨ i = l.length := by
  by_cases h : i < l.length
  · have hx := List.getElem?_eq_getElem h
    by_cases k0 : l[i].k = 0
    · by_cases e : s.putErr 1 l[i].one.a = 0
      · exact .inl ⟨_, hx, h, k0, e⟩
      · exact .inr (.inl ⟨_, hx, h, k0, e⟩)
    · by_cases k1 : l[i].k = 1
      · by_cases e : s.putErrB 1 l[i].one.p = 0
        · exact .inr (.inr (.inl ⟨_, hx, h, k1, e⟩))
        · exact .inr (.inr (.inr (.inl ⟨_, hx, h, k1, e⟩)))
      · by_cases k2 : l[i].k = 2
        · exact .inr (.inr (.inr (.inr (.inl ⟨_, hx, h, k2⟩))))
        · exact .inr (.inr (.inr (.inr (.inr (.inl ⟨_, hx, h, k0, k1, k2⟩)))))
  · exact .inr (.inr (.inr (.inr (.inr (.inr (by omega))))))
end Go.Proofs.Ytgipooedgbbliaa
