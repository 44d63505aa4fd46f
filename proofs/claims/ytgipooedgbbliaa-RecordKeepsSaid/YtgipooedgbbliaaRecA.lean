/-
  Records: rings of slots, what they hold. Conditions: none.
-/
import Derived.Test.YtgipooedgbbliaaSymE
import Derived.Test.YtgipooedgbbliaaVoteB
namespace Go.Proofs.Ytgipooedgbbliaa
open Go Go.RowKit Go.Own Go.Shelf

def ptrV : Option Nat → Value
  | none => .pointer none
  | some p => .pointer (some ⟨p, 0, none⟩)
def Slots (n : Nat) (S : Nat → Option Nat) (rest : List Value) : Array Value := ((List.range n).map (fun k => ptrV (S k)) ++ rest).toArray
def upS (S : Nat → Option Nat) (k : Nat) (p : Option Nat) : Nat → Option Nat := fun j => if j = k then p else S j
section
variable {n k : Nat} {S : Nat → Option Nat} {rest : List Value}
theorem Slots.size : (Slots n S rest).size = n + rest.length := by simp [Slots]
theorem Slots.get (h : k < n) : (Slots n S rest)[k]? = some (ptrV (S k)) := by
  simp only [Slots, List.getElem?_toArray]
  rw [List.getElem?_append_left (by simpa using h), List.getElem?_map, List.getElem?_range h]; rfl
theorem Slots.set (h : k < n) (p : Option Nat) : (Slots n S rest).setIfInBounds k (ptrV p) = Slots n (upS S k p) rest := by
  simp only [Slots, List.setIfInBounds_toArray]
  congr 1
  rw [List.set_append, if_pos (by simpa using h)]
  congr 1
  refine List.ext_getElem (by simp) fun i h1 h2 => ?_
  simp only [List.getElem_set, List.getElem_map, List.getElem_range, upS]
  by_cases hi : k = i
  · subst hi; simp
  · rw [if_neg hi, if_neg (fun e => hi e.symm)]
theorem Slots.set' (h : k < n) (p : Option Nat) {v : Value} (hv : v = ptrV p) : (Slots n S rest).setIfInBounds k v = Slots n (upS S k p) rest := hv ▸ Slots.set h p
theorem Slots.clear : seg (Slots n S rest) 0 (List.replicate n (.pointer none)) = Slots n (fun _ => none) rest := by
  unfold seg Slots
  congr 1
  simp only [List.take_zero, List.nil_append, List.length_replicate, Nat.zero_add]
  rw [List.drop_append, List.drop_of_length_le (by simp), List.nil_append, List.length_map, List.length_range, Nat.sub_self, List.drop_zero]
  congr 1
  refine List.ext_getElem (by simp) fun i h1 h2 => ?_
  simp [ptrV]
theorem Slots.made (n : Nat) : madeCells #[.pointer none] (n * 1) = Slots n (fun _ => none) [] := by
  unfold madeCells Slots
  apply Array.ext
  · simp
  · intro i h1 h2; simp [ptrV, Nat.mod_one]
theorem ptrV_one (o : Option Nat) : (ptrV o).oneCell' = true := by cases o <;> rfl
end
/-- The low index that lies in a ring's block. -/
def lowAt (w : World) (g : Nat) : Nat := match w.cell? ⟨g, 2, none⟩ with
  | some (.int _ x) => x.toNat
  | _ => 0
theorem lowAt_of {w : World} {g x : Nat} {f s : Value} {tr : TypeId} (h : w.heap[g]? = some (.cells #[f, s, .int .i64 ((x : Nat) : Int)] tr (0, 0))) : lowAt w g = x := by
  unfold lowAt
  rw [cell_of_row _ _ _ _ _ _ h]
  show Int.toNat ((x : Nat) : Int) = x
  exact Int.toNat_natCast x
/-- The ring's data: its block, its slots' block, from where on, how many, what it holds by index, where it lies by slot. -/
structure RD (α : Type) where
  (g s low n cap : Nat) (V : Int → Option α) (S : Nat → Option Nat) (rest : List Value)
def SlotOk {α : Type} (w : World) (te : TypeId) (enc : α → Array Value) : Option Nat → Option α → Prop
  | none, none => True
  | some p, some a => w.heap[p]? = some (.cells (enc a) te (0, 0))
  | _, _ => False
structure Ring {α : Type} (ix : FuncId) (tr tp te : TypeId) (enc : α → Array Value) (key : α → Int) (ok : α → Prop) (w : World) (d : RD α) : Prop where
  ring : w.heap[d.g]? = some (.cells #[.func (.func ix) #[] #[], .slice (some ⟨d.s, 0, none⟩) d.n d.cap, .int .i64 ((d.low : Nat) : Int)] tr (0, 0))
  slots : w.heap[d.s]? = some (.cells (Slots d.n d.S d.rest) tp (0, 0))
  n1 : 1 ≤ d.n
  n2 : d.n ≤ 256000
  l2 : d.low ≤ 4294967296
  out : ∀ (i : Int) (a : α), d.V i = some a → (d.low : Int) ≤ i ∧ i < (d.low : Int) + d.n ∧ key a = i ∧ ok a
  at_ : ∀ i : Int, (d.low : Int) ≤ i → i < (d.low : Int) + d.n → SlotOk w te enc (d.S (i.toNat % d.n)) (d.V i)
def slotOf {α : Type} (d : RD α) (i : Int) : Option Nat := if (d.low : Int) ≤ i ∧ i < (d.low : Int) + d.n then d.S (i.toNat % d.n) else none
/-- What is there, by rising index. -/
def items {α : Type} (V : Int → Option α) (low n : Nat) : List α := (List.range n).filterMap fun k => V ((low + k : Nat) : Int)
def upV {α : Type} (V : Int → Option α) (i : Int) (a : α) : Int → Option α := fun j => if j = i then some a else V j
def mvV {α : Type} (V : Int → Option α) (l : Int) : Int → Option α := fun j => if j < l then none else V j
section
variable {α : Type} {ix : FuncId} {tr tp te : TypeId} {enc : α → Array Value} {key : α → Int} {ok : α → Prop} {w w' : World} {d : RD α} {M : Nat → Prop}
theorem SlotOk.mono {p : Option Nat} {a : Option α} (h : SlotOk w te enc p a) (hc : ∀ (j : Nat) (cs : Array Value), w.heap[j]? = some (.cells cs te (0, 0)) → w'.heap[j]? = some (.cells cs te (0, 0))) : SlotOk w' te enc p a := by
  cases p <;> cases a <;> first | exact h | exact hc _ _ h
theorem Ring.mono (h : Ring ix tr tp te enc key ok w d) (hc : ∀ (j : Nat) (cs : Array Value) (T : TypeId), (j = d.g ∨ j = d.s ∨ T = te) → w.heap[j]? = some (.cells cs T (0, 0)) → w'.heap[j]? = some (.cells cs T (0, 0))) : Ring ix tr tp te enc key ok w' d :=
  ⟨hc _ _ _ (.inl rfl) h.ring, hc _ _ _ (.inr (.inl rfl)) h.slots, h.n1, h.n2, h.l2, h.out, fun i h1 h2 => (h.at_ i h1 h2).mono fun j cs => hc j cs te (.inr (.inr rfl))⟩
/-- No block of M has the type T. -/
def Odd (w : World) (M : Nat → Prop) (T : TypeId) : Prop := ∀ (j : Nat) (cs : Array Value) (fr : Nat × Nat), M j → w.heap[j]? ≠ some (.cells cs T fr)
theorem Odd.nob (T : TypeId) : Odd w Nob T := fun _ _ _ h => h.elim
theorem Odd.one {g : Nat} {cs : Array Value} {fr : Nat × Nat} {T T' : TypeId} (h : w.heap[g]? = some (.cells cs T fr)) (hne : T ≠ T') : Odd w (One g) T' := fun j cs' fr' hj e => by
  have hj : j = g := hj
  subst hj; rw [h] at e; simp only [Option.some.injEq, Obj.cells.injEq] at e; exact hne e.2.1
theorem _root_.Go.Own.Keeps.odd {cs : Array Value} {T : TypeId} {j : Nat} (k : Keeps M w w') (ho : Odd w M T) (h : w.heap[j]? = some (.cells cs T (0, 0))) : w'.heap[j]? = some (.cells cs T (0, 0)) :=
  (k.block j (Array.getElem?_eq_some_iff.1 h).1 (fun hm => ho j _ _ hm h)).trans h
theorem Ring.keeps (h : Ring ix tr tp te enc key ok w d) (k : Keeps M w w') (hg : ¬ M d.g) (hs : ¬ M d.s) (ht : Odd w M te) : Ring ix tr tp te enc key ok w' d :=
  h.mono fun j cs T hj e => by
    refine (k.block j (Array.getElem?_eq_some_iff.1 e).1 ?_).trans e
    rcases hj with rfl | rfl | rfl
    · exact hg
    · exact hs
    · exact fun hm => ht j _ _ hm e
theorem Ring.keepsN (h : Ring ix tr tp te enc key ok w d) (k : Keeps Nob w w') : Ring ix tr tp te enc key ok w' d := h.keeps k (fun x => x) (fun x => x) (Odd.nob te)
/-- Blocks of other types are turned. -/
theorem Ring.odd (h : Ring ix tr tp te enc key ok w d) (k : Keeps M w w') (h1 : Odd w M tr) (h2 : Odd w M tp) (h3 : Odd w M te) : Ring ix tr tp te enc key ok w' d :=
  h.keeps k (fun hm => h1 _ _ _ hm h.ring) (fun hm => h2 _ _ _ hm h.slots) h3
theorem Ring.none_or (h : Ring ix tr tp te enc key ok w d) (i : Int) : (d.V i = none ∧ slotOf d i = none) ∨ ∃ a p, d.V i = some a ∧ slotOf d i = some p ∧ w.heap[p]? = some (.cells (enc a) te (0, 0)) ∧ (d.low : Int) ≤ i ∧ i < (d.low : Int) + d.n ∧ key a = i ∧ ok a := by
  unfold slotOf
  by_cases hi : (d.low : Int) ≤ i ∧ i < (d.low : Int) + d.n
  · rw [if_pos hi]
    have := h.at_ i hi.1 hi.2
    cases hs : d.S (i.toNat % d.n) <;> cases hv : d.V i <;> rw [hs, hv] at this
    · exact .inl ⟨rfl, rfl⟩
    · exact this.elim
    · exact this.elim
    · exact .inr ⟨_, _, rfl, rfl, this, h.out i _ hv⟩
  · rw [if_neg hi]
    refine .inl ⟨?_, rfl⟩
    cases hv : d.V i with
    | none => rfl
    | some a => exact absurd ⟨(h.out i a hv).1, (h.out i a hv).2.1⟩ hi
theorem slotOf_in (t : Nat) (h1 : d.low ≤ t) (h2 : t < d.low + d.n) : slotOf d ((t : Nat) : Int) = d.S (t % d.n) := by
  unfold slotOf; rw [if_pos ⟨by omega, by omega⟩, Int.toNat_natCast]
theorem slotOf_low (i : Int) (h : i < (d.low : Int)) : slotOf d i = none := by unfold slotOf; rw [if_neg (by omega)]
theorem slotOf_high (i : Int) (h : (d.low : Int) + d.n ≤ i) : slotOf d i = none := by unfold slotOf; rw [if_neg (by omega)]
/-- Two indexes of one round lie in one slot only if they are one. -/
theorem mod_inj {low n i j : Nat} (h1 : low ≤ i) (h2 : i < low + n) (h3 : low ≤ j) (h4 : j < low + n) (h : i % n = j % n) : i = j := by
  have hi := Nat.div_add_mod i n
  have hj := Nat.div_add_mod j n
  have hn : 0 < n := by omega
  rcases Nat.lt_trichotomy (i / n) (j / n) with hlt | heq | hlt
  · have : n * (i / n + 1) ≤ n * (j / n) := Nat.mul_le_mul_left _ hlt
    rw [Nat.mul_add] at this; omega
  · rw [heq] at hi; omega
  · have : n * (j / n + 1) ≤ n * (i / n) := Nat.mul_le_mul_left _ hlt
    rw [Nat.mul_add] at this; omega
/-- The ring behind a put. -/
theorem Ring.put (h : Ring ix tr tp te enc key ok w d) (i : Nat) (a : α) (h1 : d.low ≤ i) (h2 : i < d.low + d.n) (hk : key a = (i : Int)) (ho : ok a) (p : Nat) (hp : w'.heap[p]? = some (.cells (enc a) te (0, 0)))
    (hg : w'.heap[d.g]? = some (.cells #[.func (.func ix) #[] #[], .slice (some ⟨d.s, 0, none⟩) d.n d.cap, .int .i64 ((d.low : Nat) : Int)] tr (0, 0)))
    (hc : ∀ (j : Nat) (cs : Array Value), w.heap[j]? = some (.cells cs te (0, 0)) → w'.heap[j]? = some (.cells cs te (0, 0))) (hs : w'.heap[d.s]? = some (.cells (Slots d.n (upS d.S (i % d.n) (some p)) d.rest) tp (0, 0))) :
    Ring ix tr tp te enc key ok w' { d with V := upV d.V i a, S := upS d.S (i % d.n) (some p) } := by
  refine ⟨hg, hs, h.n1, h.n2, h.l2, fun j b hj => ?_, fun j j1 j2 => ?_⟩
  · unfold upV at hj
    dsimp only at hj ⊢
    split at hj
    · rename_i e; cases hj; subst e; exact ⟨by omega, by omega, hk, ho⟩
    · exact h.out j b hj
  · dsimp only at j1 j2 ⊢
    obtain ⟨t, rfl⟩ : ∃ t : Nat, j = (t : Int) := ⟨j.toNat, by omega⟩
    rw [Int.toNat_natCast]
    unfold upV upS
    by_cases e : t = i
    · subst e; rw [if_pos rfl, if_pos rfl]; exact hp
    · rw [if_neg (fun e' => e (mod_inj (by omega) (by omega) h1 h2 e')), if_neg (by omega)]
      have := (h.at_ t j1 j2).mono (w' := w') hc
      rwa [Int.toNat_natCast] at this
/-- The ring behind one step on. -/
theorem Ring.step (h : Ring ix tr tp te enc key ok w d) (hc : ∀ (j : Nat) (cs : Array Value), w.heap[j]? = some (.cells cs te (0, 0)) → w'.heap[j]? = some (.cells cs te (0, 0))) (hl : d.low < 4294967296)
    (hg : w'.heap[d.g]? = some (.cells #[.func (.func ix) #[] #[], .slice (some ⟨d.s, 0, none⟩) d.n d.cap, .int .i64 ((d.low + 1 : Nat) : Int)] tr (0, 0)))
    (hs : w'.heap[d.s]? = some (.cells (Slots d.n (upS d.S (d.low % d.n) none) d.rest) tp (0, 0))) :
    Ring ix tr tp te enc key ok w' { d with low := d.low + 1, V := mvV d.V (d.low + 1 : Nat), S := upS d.S (d.low % d.n) none } := by
  have hn := h.n1
  refine ⟨hg, hs, h.n1, h.n2, by dsimp only; omega, fun j b hj => ?_, fun j j1 j2 => ?_⟩
  · dsimp only at hj ⊢
    unfold mvV at hj
    split at hj
    · cases hj
    · have := h.out j b hj; exact ⟨by omega, by omega, this.2.2⟩
  · dsimp only at j1 j2 ⊢
    obtain ⟨t, rfl⟩ : ∃ t : Nat, j = (t : Int) := ⟨j.toNat, by omega⟩
    rw [Int.toNat_natCast]
    unfold mvV upS
    rw [if_neg (show ¬ (t : Int) < ((d.low + 1 : Nat) : Int) by omega)]
    by_cases e : t = d.low + d.n
    · subst e
      rw [if_pos (Nat.add_mod_right _ _)]
      cases hv : d.V ((d.low + d.n : Nat) : Int) with
      | none => trivial
      | some a => have := (h.out _ _ hv).2.1; omega
    · rw [if_neg (fun e' => by have := mod_inj (low := d.low) (n := d.n) (i := t) (j := d.low) (by omega) (by omega) (by omega) (by omega) e'; omega)]
      have := (h.at_ t (by omega) (by omega)).mono (w' := w') hc
      rwa [Int.toNat_natCast] at this
/-- The ring all of which is left behind. -/
theorem Ring.cleared (h : Ring ix tr tp te enc key ok w d) (l : Nat) (hl : d.low + d.n ≤ l) (hl2 : l ≤ 4294967296)
    (hg : w'.heap[d.g]? = some (.cells #[.func (.func ix) #[] #[], .slice (some ⟨d.s, 0, none⟩) d.n d.cap, .int .i64 ((l : Nat) : Int)] tr (0, 0)))
    (hs : w'.heap[d.s]? = some (.cells (Slots d.n (fun _ => none) d.rest) tp (0, 0))) :
    Ring ix tr tp te enc key ok w' { d with low := l, V := mvV d.V (l : Nat), S := fun _ => none } := by
  have hv : ∀ j, mvV d.V (l : Nat) j = none := fun j => by
    unfold mvV; split
    · rfl
    · cases hv : d.V j with
      | none => rfl
      | some a => have := (h.out _ _ hv).2.1; omega
  exact ⟨hg, hs, h.n1, h.n2, hl2, fun j b hj => absurd ((hv j).symm.trans hj) (by simp), fun j j1 j2 => by dsimp only; rw [hv]; trivial⟩
theorem Ring.mvV_self (h : Ring ix tr tp te enc key ok w d) (l : Nat) (hl : l ≤ d.low) : mvV d.V (l : Nat) = d.V := by
  funext j; unfold mvV; split
  · cases hv : d.V j with
    | none => rfl
    | some a => have := (h.out _ _ hv).1; omega
  · rfl
theorem mvV_mvV {V : Int → Option α} {a b : Int} (h : a ≤ b) : mvV (mvV V a) b = mvV V b := by
  funext j; unfold mvV; split
  · rfl
  · rw [if_neg (by omega)]
theorem Ring.same (h : Ring ix tr tp te enc key ok w d) (hg : w'.heap[d.g]? = some (.cells #[.func (.func ix) #[] #[], .slice (some ⟨d.s, 0, none⟩) d.n d.cap, .int .i64 ((d.low : Nat) : Int)] tr (0, 0)))
    (hs : w'.heap[d.s]? = some (.cells (Slots d.n d.S d.rest) tp (0, 0))) (hc : ∀ (j : Nat) (cs : Array Value), w.heap[j]? = some (.cells cs te (0, 0)) → w'.heap[j]? = some (.cells cs te (0, 0))) : Ring ix tr tp te enc key ok w' d :=
  ⟨hg, hs, h.n1, h.n2, h.l2, h.out, fun i h1 h2 => (h.at_ i h1 h2).mono hc⟩
/-- A ring just made. -/
theorem Ring.made {g s low n : Nat} (hg : w.heap[g]? = some (.cells #[.func (.func ix) #[] #[], .slice (some ⟨s, 0, none⟩) n n, .int .i64 ((low : Nat) : Int)] tr (0, 0)))
    (hs : w.heap[s]? = some (.cells (Slots n (fun _ => none) []) tp (0, 0))) (h1 : 1 ≤ n) (h2 : n ≤ 256000) (h3 : low ≤ 4294967296) : Ring ix tr tp te enc key ok w ⟨g, s, low, n, n, fun _ => none, fun _ => none, []⟩ :=
  ⟨hg, hs, h1, h2, h3, fun _ _ h => (by cases h), fun _ _ _ => trivial⟩
/-- A copy of a ring. -/
theorem Ring.copy (h : Ring ix tr tp te enc key ok w d) {g s cap : Nat} {rest : List Value} (k : Keeps Nob w w')
    (hg : w'.heap[g]? = some (.cells #[.func (.func ix) #[] #[], .slice (some ⟨s, 0, none⟩) d.n cap, .int .i64 ((d.low : Nat) : Int)] tr (0, 0)))
    (hs : w'.heap[s]? = some (.cells (Slots d.n d.S rest) tp (0, 0))) : Ring ix tr tp te enc key ok w' ⟨g, s, d.low, d.n, cap, d.V, d.S, rest⟩ :=
  ⟨hg, hs, h.n1, h.n2, h.l2, h.out, fun i h1 h2 => (h.at_ i h1 h2).mono fun j cs => k.odd (Odd.nob te)⟩
end

/-! What is there, plainly. -/
section
variable {α : Type} {key : α → Int}
/-- What is held lies at its index, between low and low + n. -/
def Held (key : α → Int) (V : Int → Option α) (low n : Nat) : Prop := ∀ i a, V i = some a → (low : Int) ≤ i ∧ i < (low : Int) + n ∧ key a = i
theorem mem_items {V : Int → Option α} {low n : Nat} {a : α} : a ∈ items V low n ↔ ∃ k : Nat, k < n ∧ V ((low + k : Nat) : Int) = some a := by
  unfold items; simp only [List.mem_filterMap, List.mem_range]
theorem items_succ (V : Int → Option α) (low n : Nat) : items V low (n + 1) = items V low n ++ (V ((low + n : Nat) : Int)).toList := by
  unfold items
  rw [List.range_succ, List.filterMap_append]
  cases h : V ((low + n : Nat) : Int) <;> simp only [List.filterMap_cons, List.filterMap_nil, h, Option.toList]
theorem items_len (V : Int → Option α) (low : Nat) (n : Nat) : (items V low n).length ≤ n := by
  induction n with
  | zero => simp [items]
  | succ n ih => rw [items_succ, List.length_append]; cases V ((low + n : Nat) : Int) <;> first | (simp; done) | (simp; omega)
/-- The count of those ahead of the k-th slot. -/
def cnt (V : Int → Option α) (low k : Nat) : Nat := (items V low k).length
theorem cnt_none {V : Int → Option α} {low k : Nat} (h : V ((low + k : Nat) : Int) = none) : cnt V low (k + 1) = cnt V low k := by
  unfold cnt; rw [items_succ, h]; simp
theorem cnt_some {V : Int → Option α} {low k : Nat} {a : α} (h : V ((low + k : Nat) : Int) = some a) : cnt V low (k + 1) = cnt V low k + 1 := by
  unfold cnt; rw [items_succ, h]; simp
theorem items_prefix (V : Int → Option α) (low : Nat) {k n : Nat} (h : k ≤ n) : items V low k <+: items V low n := by
  induction n with
  | zero => obtain rfl : k = 0 := by omega
            exact List.prefix_refl _
  | succ n ih =>
    by_cases e : k = n + 1
    · subst e; exact List.prefix_refl _
    · rw [items_succ]; exact (ih (by omega)).trans (List.prefix_append _ _)
theorem items_get {V : Int → Option α} {low n k : Nat} {a : α} (hk : k < n) (h : V ((low + k : Nat) : Int) = some a) : (items V low n)[cnt V low k]? = some a := by
  obtain ⟨t, ht⟩ := items_prefix V low (k := k + 1) (n := n) hk
  rw [← ht, items_succ, h]
  unfold cnt
  rw [List.append_assoc, List.getElem?_append_right (Nat.le_refl _), Nat.sub_self]; rfl
end
end Go.Proofs.Ytgipooedgbbliaa
