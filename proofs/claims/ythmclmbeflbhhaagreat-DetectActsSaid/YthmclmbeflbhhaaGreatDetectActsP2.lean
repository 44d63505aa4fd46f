import Derived.Test.YthmclmbeflbhhaaGreatDetectActsP1
set_option maxRecDepth 100000
set_option maxHeartbeats 4000000
noncomputable section
open Go.Proofs.Tryz
namespace Go.Proofs.YthmclmbeflbhhaaGreat
section
open Go Go.RowKit Go.Own Go.Shelf
def ptrV : Option Nat → Value
  | none => .pointer none
  | some p => .pointer (some ⟨p, 0, none⟩)
def Slots (n : Nat) (S : Nat → Option Nat) (rest : List Value) : Array Value := ((List.range n).map (fun k => ptrV (S k)) ++ rest).toArray
def upS (S : Nat → Option Nat) (k : Nat) (p : Option Nat) : Nat → Option Nat := fun j => if j = k then p else S j
section
variable {n k : Nat} {S : Nat → Option Nat} {rest : List Value}
theorem Slots.size : (Slots n S rest).size = n + rest.length := by simp [Slots]
theorem Slots.get (h : k < n) : (Slots n S rest)[k]? = some (ptrV (S k)) := by
  simp only [Slots, List.getElem?_toArray]
  rw [List.getElem?_append_left (by simpa using h), List.getElem?_map, List.getElem?_range h]; rfl
theorem Slots.set (h : k < n) (p : Option Nat) : (Slots n S rest).setIfInBounds k (ptrV p) = Slots n (upS S k p) rest := by
  simp only [Slots, List.setIfInBounds_toArray]
  congr 1
  rw [List.set_append, if_pos (by simpa using h)]
  congr 1
  refine List.ext_getElem (by simp) fun i h1 h2 => ?_
  simp only [List.getElem_set, List.getElem_map, List.getElem_range, upS]
  by_cases hi : k = i
  · subst hi; simp
  · rw [if_neg hi, if_neg (fun e => hi e.symm)]
theorem Slots.set' (h : k < n) (p : Option Nat) {v : Value} (hv : v = ptrV p) : (Slots n S rest).setIfInBounds k v = Slots n (upS S k p) rest := hv ▸ Slots.set h p
theorem Slots.clear : seg (Slots n S rest) 0 (List.replicate n (.pointer none)) = Slots n (fun _ => none) rest := by
  unfold seg Slots
  congr 1
  simp only [List.take_zero, List.nil_append, List.length_replicate, Nat.zero_add]
  rw [List.drop_append, List.drop_of_length_le (by simp), List.nil_append, List.length_map, List.length_range, Nat.sub_self, List.drop_zero]
  congr 1
  refine List.ext_getElem (by simp) fun i h1 h2 => ?_
  simp [ptrV]
theorem Slots.made (n : Nat) : madeCells #[.pointer none] (n * 1) = Slots n (fun _ => none) [] := by
  unfold madeCells Slots
  apply Array.ext
  · simp
  · intro i h1 h2; simp [ptrV, Nat.mod_one]
theorem ptrV_one (o : Option Nat) : (ptrV o).oneCell' = true := by cases o <;> rfl
end
def lowAt (w : World) (g : Nat) : Nat := match w.cell? ⟨g, 2, none⟩ with
  | some (.int _ x) => x.toNat
  | _ => 0
theorem lowAt_of {w : World} {g x : Nat} {f s : Value} {tr : TypeId} (h : w.heap[g]? = some (.cells #[f, s, iI (x : Int)] tr (0, 0))) : lowAt w g = x := by
  unfold lowAt
  rw [cell_of_row _ _ _ _ _ _ h]
  show Int.toNat (x : Int) = x
  exact Int.toNat_natCast x
structure RD (α : Type) where
  (g s low n cap : Nat) (V : Int → Option α) (S : Nat → Option Nat) (rest : List Value)
def SlotOk {α : Type} (w : World) (te : TypeId) (enc : α → Array Value) : Option Nat → Option α → Prop
  | none, none => True
  | some p, some a => w.heap[p]? = some (.cells (enc a) te (0, 0))
  | _, _ => False
structure Ring {α : Type} (ix : FuncId) (tr tp te : TypeId) (enc : α → Array Value) (key : α → Int) (ok : α → Prop) (w : World) (d : RD α) : Prop where
  ring : w.heap[d.g]? = some (.cells #[.func (.func ix) #[] #[], sS d.s d.n d.cap, iI (d.low : Int)] tr (0, 0))
  slots : w.heap[d.s]? = some (.cells (Slots d.n d.S d.rest) tp (0, 0))
  n1 : 1 ≤ d.n
  n2 : d.n ≤ 256000
  l2 : d.low ≤ 4294967296
  out : ∀ (i : Int) (a : α), d.V i = some a → (d.low : Int) ≤ i ∧ i < (d.low : Int) + d.n ∧ key a = i ∧ ok a
  at_ : ∀ i : Int, (d.low : Int) ≤ i → i < (d.low : Int) + d.n → SlotOk w te enc (d.S (i.toNat % d.n)) (d.V i)
def slotOf {α : Type} (d : RD α) (i : Int) : Option Nat := if (d.low : Int) ≤ i ∧ i < (d.low : Int) + d.n then d.S (i.toNat % d.n) else none
def items {α : Type} (V : Int → Option α) (low n : Nat) : List α := (List.range n).filterMap fun k => V ((low + k : Nat) : Int)
def upV {α : Type} (V : Int → Option α) (i : Int) (a : α) : Int → Option α := fun j => if j = i then some a else V j
def mvV {α : Type} (V : Int → Option α) (l : Int) : Int → Option α := fun j => if j < l then none else V j
section
variable {α : Type} {ix : FuncId} {tr tp te : TypeId} {enc : α → Array Value} {key : α → Int} {ok : α → Prop} {w w' : World} {d : RD α} {M : Nat → Prop}
theorem SlotOk.mono {p : Option Nat} {a : Option α} (h : SlotOk w te enc p a) (hc : ∀ (j : Nat) (cs : Array Value), w.heap[j]? = some (.cells cs te (0, 0)) → w'.heap[j]? = some (.cells cs te (0, 0))) : SlotOk w' te enc p a := by
  cases p <;> cases a <;> first | exact h | exact hc _ _ h
theorem Ring.mono (h : Ring ix tr tp te enc key ok w d) (hc : ∀ (j : Nat) (cs : Array Value) (T : TypeId), (j = d.g ∨ j = d.s ∨ T = te) → w.heap[j]? = some (.cells cs T (0, 0)) → w'.heap[j]? = some (.cells cs T (0, 0))) : Ring ix tr tp te enc key ok w' d :=
  ⟨hc _ _ _ (.inl rfl) h.ring, hc _ _ _ (.inr (.inl rfl)) h.slots, h.n1, h.n2, h.l2, h.out, fun i h1 h2 => (h.at_ i h1 h2).mono fun j cs => hc j cs te (.inr (.inr rfl))⟩
def Odd (w : World) (M : Nat → Prop) (T : TypeId) : Prop := ∀ (j : Nat) (cs : Array Value) (fr : Nat × Nat), M j → w.heap[j]? ≠ some (.cells cs T fr)
theorem Odd.nob (T : TypeId) : Odd w Nob T := fun _ _ _ h => h.elim
theorem Odd.one {g : Nat} {cs : Array Value} {fr : Nat × Nat} {T T' : TypeId} (h : w.heap[g]? = some (.cells cs T fr)) (hne : T ≠ T') : Odd w (One g) T' := fun j cs' fr' hj e => by
  have hj : j = g := hj
  subst hj; rw [h] at e; simp only [Option.some.injEq, Obj.cells.injEq] at e; exact hne e.2.1
theorem _root_.Go.Own.Keeps.odd {cs : Array Value} {T : TypeId} {j : Nat} (k : Keeps M w w') (ho : Odd w M T) (h : w.heap[j]? = some (.cells cs T (0, 0))) : w'.heap[j]? = some (.cells cs T (0, 0)) :=
  (k.block j (Array.getElem?_eq_some_iff.1 h).1 (fun hm => ho j _ _ hm h)).trans h
theorem Ring.keeps (h : Ring ix tr tp te enc key ok w d) (k : Keeps M w w') (hg : ¬ M d.g) (hs : ¬ M d.s) (ht : Odd w M te) : Ring ix tr tp te enc key ok w' d :=
  h.mono fun j cs T hj e => by
    refine (k.block j (Array.getElem?_eq_some_iff.1 e).1 ?_).trans e
    rcases hj with rfl | rfl | rfl
    · exact hg
    · exact hs
    · exact fun hm => ht j _ _ hm e
theorem Ring.keepsN (h : Ring ix tr tp te enc key ok w d) (k : Keeps Nob w w') : Ring ix tr tp te enc key ok w' d := h.keeps k (fun x => x) (fun x => x) (Odd.nob te)
theorem Ring.odd (h : Ring ix tr tp te enc key ok w d) (k : Keeps M w w') (h1 : Odd w M tr) (h2 : Odd w M tp) (h3 : Odd w M te) : Ring ix tr tp te enc key ok w' d :=
  h.keeps k (fun hm => h1 _ _ _ hm h.ring) (fun hm => h2 _ _ _ hm h.slots) h3
theorem Ring.none_or (h : Ring ix tr tp te enc key ok w d) (i : Int) : (d.V i = none ∧ slotOf d i = none) ∨ ∃ a p, d.V i = some a ∧ slotOf d i = some p ∧ w.heap[p]? = some (.cells (enc a) te (0, 0)) ∧ (d.low : Int) ≤ i ∧ i < (d.low : Int) + d.n ∧ key a = i ∧ ok a := by
  unfold slotOf
  by_cases hi : (d.low : Int) ≤ i ∧ i < (d.low : Int) + d.n
  · rw [if_pos hi]
    have := h.at_ i hi.1 hi.2
    cases hs : d.S (i.toNat % d.n) <;> cases hv : d.V i <;> rw [hs, hv] at this
    · exact .inl ⟨rfl, rfl⟩
    · exact this.elim
    · exact this.elim
    · exact .inr ⟨_, _, rfl, rfl, this, h.out i _ hv⟩
  · rw [if_neg hi]
    refine .inl ⟨?_, rfl⟩
    cases hv : d.V i with
    | none => rfl
    | some a => exact absurd ⟨(h.out i a hv).1, (h.out i a hv).2.1⟩ hi
theorem slotOf_in (t : Nat) (h1 : d.low ≤ t) (h2 : t < d.low + d.n) : slotOf d (t : Int) = d.S (t % d.n) := by
  unfold slotOf; rw [if_pos ⟨by omega, by omega⟩, Int.toNat_natCast]
theorem slotOf_low (i : Int) (h : i < (d.low : Int)) : slotOf d i = none := by unfold slotOf; rw [if_neg (by omega)]
theorem slotOf_high (i : Int) (h : (d.low : Int) + d.n ≤ i) : slotOf d i = none := by unfold slotOf; rw [if_neg (by omega)]
theorem mod_inj {low n i j : Nat} (h1 : low ≤ i) (h2 : i < low + n) (h3 : low ≤ j) (h4 : j < low + n) (h : i % n = j % n) : i = j := by
  have hi := Nat.div_add_mod i n
  have hj := Nat.div_add_mod j n
  have hn : 0 < n := by omega
  rcases Nat.lt_trichotomy (i / n) (j / n) with hlt | heq | hlt
  · have : n * (i / n + 1) ≤ n * (j / n) := Nat.mul_le_mul_left _ hlt
    rw [Nat.mul_add] at this; omega
  · rw [heq] at hi; omega
  · have : n * (j / n + 1) ≤ n * (i / n) := Nat.mul_le_mul_left _ hlt
    rw [Nat.mul_add] at this; omega
theorem Ring.put (h : Ring ix tr tp te enc key ok w d) (i : Nat) (a : α) (h1 : d.low ≤ i) (h2 : i < d.low + d.n) (hk : key a = (i : Int)) (ho : ok a) (p : Nat) (hp : w'.heap[p]? = some (.cells (enc a) te (0, 0)))
    (hg : w'.heap[d.g]? = some (.cells #[.func (.func ix) #[] #[], sS d.s d.n d.cap, iI (d.low : Int)] tr (0, 0)))
    (hc : ∀ (j : Nat) (cs : Array Value), w.heap[j]? = some (.cells cs te (0, 0)) → w'.heap[j]? = some (.cells cs te (0, 0))) (hs : w'.heap[d.s]? = some (.cells (Slots d.n (upS d.S (i % d.n) (some p)) d.rest) tp (0, 0))) :
    Ring ix tr tp te enc key ok w' { d with V := upV d.V i a, S := upS d.S (i % d.n) (some p) } := by
  refine ⟨hg, hs, h.n1, h.n2, h.l2, fun j b hj => ?_, fun j j1 j2 => ?_⟩
  · unfold upV at hj
    dsimp only at hj ⊢
    split at hj
    · rename_i e; cases hj; subst e; exact ⟨by omega, by omega, hk, ho⟩
    · exact h.out j b hj
  · dsimp only at j1 j2 ⊢
    obtain ⟨t, rfl⟩ : ∃ t : Nat, j = (t : Int) := ⟨j.toNat, by omega⟩
    rw [Int.toNat_natCast]
    unfold upV upS
    by_cases e : t = i
    · subst e; rw [if_pos rfl, if_pos rfl]; exact hp
    · rw [if_neg (fun e' => e (mod_inj (by omega) (by omega) h1 h2 e')), if_neg (by omega)]
      have := (h.at_ t j1 j2).mono (w' := w') hc
      rwa [Int.toNat_natCast] at this
theorem Ring.step (h : Ring ix tr tp te enc key ok w d) (hc : ∀ (j : Nat) (cs : Array Value), w.heap[j]? = some (.cells cs te (0, 0)) → w'.heap[j]? = some (.cells cs te (0, 0))) (hl : d.low < 4294967296)
    (hg : w'.heap[d.g]? = some (.cells #[.func (.func ix) #[] #[], sS d.s d.n d.cap, iI ((d.low + 1 : Nat) : Int)] tr (0, 0)))
    (hs : w'.heap[d.s]? = some (.cells (Slots d.n (upS d.S (d.low % d.n) none) d.rest) tp (0, 0))) :
    Ring ix tr tp te enc key ok w' { d with low := d.low + 1, V := mvV d.V (d.low + 1 : Nat), S := upS d.S (d.low % d.n) none } := by
  have hn := h.n1
  refine ⟨hg, hs, h.n1, h.n2, by dsimp only; omega, fun j b hj => ?_, fun j j1 j2 => ?_⟩
  · dsimp only at hj ⊢
    unfold mvV at hj
    split at hj
    · cases hj
    · have := h.out j b hj; exact ⟨by omega, by omega, this.2.2⟩
  · dsimp only at j1 j2 ⊢
    obtain ⟨t, rfl⟩ : ∃ t : Nat, j = (t : Int) := ⟨j.toNat, by omega⟩
    rw [Int.toNat_natCast]
    unfold mvV upS
    rw [if_neg (show ¬ (t : Int) < ((d.low + 1 : Nat) : Int) by omega)]
    by_cases e : t = d.low + d.n
    · subst e
      rw [if_pos (Nat.add_mod_right _ _)]
      cases hv : d.V ((d.low + d.n : Nat) : Int) with
      | none => trivial
      | some a => have := (h.out _ _ hv).2.1; omega
    · rw [if_neg (fun e' => by have := mod_inj (low := d.low) (n := d.n) (i := t) (j := d.low) (by omega) (by omega) (by omega) (by omega) e'; omega)]
      have := (h.at_ t (by omega) (by omega)).mono (w' := w') hc
      rwa [Int.toNat_natCast] at this
theorem Ring.cleared (h : Ring ix tr tp te enc key ok w d) (l : Nat) (hl : d.low + d.n ≤ l) (hl2 : l ≤ 4294967296)
    (hg : w'.heap[d.g]? = some (.cells #[.func (.func ix) #[] #[], sS d.s d.n d.cap, iI (l : Int)] tr (0, 0)))
    (hs : w'.heap[d.s]? = some (.cells (Slots d.n (fun _ => none) d.rest) tp (0, 0))) :
    Ring ix tr tp te enc key ok w' { d with low := l, V := mvV d.V (l : Nat), S := fun _ => none } := by
  have hv : ∀ j, mvV d.V (l : Nat) j = none := fun j => by
    unfold mvV; split
    · rfl
    · cases hv : d.V j with
      | none => rfl
      | some a => have := (h.out _ _ hv).2.1; omega
  exact ⟨hg, hs, h.n1, h.n2, hl2, fun j b hj => absurd ((hv j).symm.trans hj) (by simp), fun j j1 j2 => by dsimp only; rw [hv]; trivial⟩
theorem Ring.mvV_self (h : Ring ix tr tp te enc key ok w d) (l : Nat) (hl : l ≤ d.low) : mvV d.V (l : Nat) = d.V := by
  funext j; unfold mvV; split
  · cases hv : d.V j with
    | none => rfl
    | some a => have := (h.out _ _ hv).1; omega
  · rfl
theorem mvV_mvV {V : Int → Option α} {a b : Int} (h : a ≤ b) : mvV (mvV V a) b = mvV V b := by
  funext j; unfold mvV; split
  · rfl
  · rw [if_neg (by omega)]
theorem Ring.same (h : Ring ix tr tp te enc key ok w d) (hg : w'.heap[d.g]? = some (.cells #[.func (.func ix) #[] #[], sS d.s d.n d.cap, iI (d.low : Int)] tr (0, 0)))
    (hs : w'.heap[d.s]? = some (.cells (Slots d.n d.S d.rest) tp (0, 0))) (hc : ∀ (j : Nat) (cs : Array Value), w.heap[j]? = some (.cells cs te (0, 0)) → w'.heap[j]? = some (.cells cs te (0, 0))) : Ring ix tr tp te enc key ok w' d :=
  ⟨hg, hs, h.n1, h.n2, h.l2, h.out, fun i h1 h2 => (h.at_ i h1 h2).mono hc⟩
theorem Ring.made {g s low n : Nat} (hg : w.heap[g]? = some (.cells #[.func (.func ix) #[] #[], sS s n n, iI (low : Int)] tr (0, 0)))
    (hs : w.heap[s]? = some (.cells (Slots n (fun _ => none) []) tp (0, 0))) (h1 : 1 ≤ n) (h2 : n ≤ 256000) (h3 : low ≤ 4294967296) : Ring ix tr tp te enc key ok w ⟨g, s, low, n, n, fun _ => none, fun _ => none, []⟩ :=
  ⟨hg, hs, h1, h2, h3, fun _ _ h => (by cases h), fun _ _ _ => trivial⟩
theorem Ring.copy (h : Ring ix tr tp te enc key ok w d) {g s cap : Nat} {rest : List Value} (k : Keeps Nob w w')
    (hg : w'.heap[g]? = some (.cells #[.func (.func ix) #[] #[], sS s d.n cap, iI (d.low : Int)] tr (0, 0)))
    (hs : w'.heap[s]? = some (.cells (Slots d.n d.S rest) tp (0, 0))) : Ring ix tr tp te enc key ok w' ⟨g, s, d.low, d.n, cap, d.V, d.S, rest⟩ :=
  ⟨hg, hs, h.n1, h.n2, h.l2, h.out, fun i h1 h2 => (h.at_ i h1 h2).mono fun j cs => k.odd (Odd.nob te)⟩
end
section
variable {α : Type} {key : α → Int}
def Held (key : α → Int) (V : Int → Option α) (low n : Nat) : Prop := ∀ i a, V i = some a → (low : Int) ≤ i ∧ i < (low : Int) + n ∧ key a = i
theorem mem_items {V : Int → Option α} {low n : Nat} {a : α} : a ∈ items V low n ↔ ∃ k : Nat, k < n ∧ V ((low + k : Nat) : Int) = some a := by
  unfold items; simp only [List.mem_filterMap, List.mem_range]
theorem items_succ (V : Int → Option α) (low n : Nat) : items V low (n + 1) = items V low n ++ (V ((low + n : Nat) : Int)).toList := by
  unfold items
  rw [List.range_succ, List.filterMap_append]
  cases h : V ((low + n : Nat) : Int) <;> simp only [List.filterMap_cons, List.filterMap_nil, h, Option.toList]
theorem items_len (V : Int → Option α) (low : Nat) (n : Nat) : (items V low n).length ≤ n := by
  induction n with
  | zero => simp [items]
  | succ n ih => rw [items_succ, List.length_append]; cases V ((low + n : Nat) : Int) <;> first | (simp; done) | (simp; omega)
def cnt (V : Int → Option α) (low k : Nat) : Nat := (items V low k).length
theorem cnt_none {V : Int → Option α} {low k : Nat} (h : V ((low + k : Nat) : Int) = none) : cnt V low (k + 1) = cnt V low k := by
  unfold cnt; rw [items_succ, h]; simp
theorem cnt_some {V : Int → Option α} {low k : Nat} {a : α} (h : V ((low + k : Nat) : Int) = some a) : cnt V low (k + 1) = cnt V low k + 1 := by
  unfold cnt; rw [items_succ, h]; simp
theorem items_prefix (V : Int → Option α) (low : Nat) {k n : Nat} (h : k ≤ n) : items V low k <+: items V low n := by
  induction n with
  | zero => obtain rfl : k = 0 := by omega
            exact List.prefix_refl _
  | succ n ih =>
    by_cases e : k = n + 1
    · subst e; exact List.prefix_refl _
    · rw [items_succ]; exact (ih (by omega)).trans (List.prefix_append _ _)
theorem items_get {V : Int → Option α} {low n k : Nat} {a : α} (hk : k < n) (h : V ((low + k : Nat) : Int) = some a) : (items V low n)[cnt V low k]? = some a := by
  obtain ⟨t, ht⟩ := items_prefix V low (k := k + 1) (n := n) hk
  rw [← ht, items_succ, h]
  unfold cnt
  rw [List.append_assoc, List.getElem?_append_right (Nat.le_refl _), Nat.sub_self]; rfl
end
abbrev RingA : World → RD Att → Prop := Ring 124 184 185 28 Att.c (·.t) Att.Ok
theorem a_ptr_info : (prog.info? 185).map (fun i => (i.zero, i.size, i.bytes)) = some (some (.pointer none), 1, 8) := by kernel_rfl
def qc19_2 (n : Nat) : Code := partOf f124 n
theorem qidx_ok (a : Att) (w : World) (hr : a.r.length = 32) :
  Calls prog 124 #[.agg (Att.c a)] w (RK w (iI a.t)) := by
 have K0 := kz0 w
 refine sf_ (qc19_2 1) func124 <| qr_ [0, 1] <| pbg 28 (Att.c a) fun V1 p ep h2 j1 => ?_
 have n3 := nk ep K0
 have ⟨K4, z5⟩ := j1.z0 K0
 refine kk 1 <| eqr_ [0, 1, 2] <| kk 1 <| pP (lc h2 (Att.c_2 _)) <| kk 1 <| eu_ <| so_ (iI a.t) ?_
 exact ⟨rfl, K4⟩
theorem qidx_as (a : Att) (t : Nat) (w : World) (hr : a.r.length = 32) (ht : a.t = (t : Int)) : Calls prog 124 #[.agg (Att.c a)] w (RK w (iI (t : Int))) := ht ▸ qidx_ok a w hr
def part_gat (n : Nat) : Code := partOf f113 n
abbrev o_gat (n k : Nat) : Oper := (opsAt (part_gat n)).getD k default
theorem gat_low (d : RD Att) (i : Int) (w : World) (H : RingA w d) (hi : i < (d.low : Int)) :
  Calls prog 113 #[pT d.g 0, iI i] w (RK w (.pointer none)) := by
 have hn0 := H.n1
 have hn2 := H.n2
 have hl2 := H.l2
 have K0 := kz0 w
 refine sf_ (part_gat 1) func113 <| qr_ [0] <| kk 1 <| eq_ <| q_ <| anp 20 (fun W => (HP W d.g (#[.func (.func 124) #[] #[], sS d.s d.n d.cap, iI (d.low : Int)]) 184)) fun V1 j1 => ?_
 have h2 := j1.bk H.ring
 have ⟨K4, z5⟩ := j1.z0 K0
 refine kA [0, 1, 2, 3] <| aV 4 _ (fun W hS => lk hS) <| aV 5 _ (fun W hS => dtT (((i) : Int) < (d.low : Int))) <| kA [6, 7, 8, 9, 10, 11, 12, 13] <| kA [14, 15, 16, 17, 18, 19] <| ane <| then_n <| y_ <| qr_ [0] <| kk 1 <| eu_ <| then_r <| so_ (.pointer none) ?_
 exact ⟨rfl, K4⟩
theorem gat_high (d : RD Att) (i : Int) (w : World) (H : RingA w d) (hi : (d.low : Int) + d.n ≤ i) :
  Calls prog 113 #[pT d.g 0, iI i] w (RK w (.pointer none)) := by
 have hn0 := H.n1
 have hn2 := H.n2
 have hl2 := H.l2
 have K0 := kz0 w
 refine sf_ (part_gat 1) func113 <| qr_ [0] <| kk 1 <| eq_ <| q_ <| anp 20 (fun W => (HP W d.g (#[.func (.func 124) #[] #[], sS d.s d.n d.cap, iI (d.low : Int)]) 184)) fun V6 j6 => ?_
 have h7 := j6.bk H.ring
 have ⟨K9, z10⟩ := j6.z0 K0
 refine kA [0, 1, 2, 3] <| aV 4 _ (fun W hS => lk hS) <| aV 5 _ (fun W hS => dtF (((i) : Int) < (d.low : Int))) <| kA [6, 7, 8, 9, 10] <| aV 11 _ (fun W hS => lk hS) <| kA [12, 13] <| kA [14] <| aV 15 _ (fun W hS => lk hS) <| aV 16 _ (fun W hS => len_ (some ⟨d.s, 0, none⟩) d.n d.cap underlying182) <| aV 17 _ (fun W hS => cwN (n := d.low + d.n)) <| aV 18 _ (fun W hS => dtT (((i) : Int) ≥ (((d.low + d.n : Nat) : Int)))) <| kA [19] <| ane <| then_n <| y_ <| qr_ [0] <| kk 1 <| eu_ <| then_r <| so_ (.pointer none) ?_
 exact ⟨rfl, K9⟩
theorem gat_in (d : RD Att) (t : Nat) (w : World) (H : RingA w d) (h1 : d.low ≤ t) (h2 : t < d.low + d.n) :
  Calls prog 113 #[pT d.g 0, iI (t : Int)] w (RK w (ptrV (d.S (t % d.n)))) := by
 have hn0 := H.n1
 have hn2 := H.n2
 have hl2 := H.l2
 have hm := Nat.mod_lt t hn0
 have K0 := kz0 w
 refine sf_ (part_gat 1) func113 <| qr_ [0] <| kk 1 <| eq_ <| q_ <| anp 20 (fun W => (HP W d.g (#[.func (.func 124) #[] #[], sS d.s d.n d.cap, iI (d.low : Int)]) 184)) fun V11 j11 => ?_
 have h12 := j11.bk H.ring
 have h13 := j11.bk H.slots
 have ⟨K14, z15⟩ := j11.z0 K0
 refine kA [0, 1, 2, 3] <| aV 4 _ (fun W hS => lk hS) <| aV 5 _ (fun W hS => dtF ((t : Int) < (d.low : Int))) <| kA [6, 7, 8, 9, 10] <| aV 11 _ (fun W hS => lk hS) <| kA [12, 13] <| kA [14] <| aV 15 _ (fun W hS => lk hS) <| aV 16 _ (fun W hS => len_ (some ⟨d.s, 0, none⟩) d.n d.cap underlying182) <| aV 17 _ (fun W hS => cwN (n := d.low + d.n)) <| aV 18 _ (fun W hS => dtF ((t : Int) ≥ (((d.low + d.n : Nat) : Int)))) <| kA [19] <| ane <| then_n <| n_ <| s_ <| tq_ <| rgp 13 (zo13_ (o_gat 14)) [o_gat 14 13] fun V17 j17 => ?_
 have ⟨K20, z21, h18, h19⟩ := j17.z2 K14 h12 h13
 refine ks 3 <| spq _ (lk h18) <| ks 4 <| spq _ (lk h18) <| spq _ (len_ (some ⟨d.s, 0, none⟩) d.n d.cap underlying182) <| spq (iN (t % d.n)) (exec_rem 3 3 (.tmp 29) (.tmp 34) (by kernel_rfl) t d.n (by kernel_rfl) (by kernel_rfl) hn0) <| spq (pT d.s (t % d.n)) (exec_cast (v := pT d.s (0 + (t % d.n) * 1)) (by simp) (ixs d.s 0 d.n d.cap .i64 (t % d.n) 1 underlying182 (by omega))) <| spq (ptrV (d.S (t % d.n))) (lc h19 ((Slots.get (Nat.mod_lt _ hn0)).trans (congrArg some (rfl)))) <| st_end <| ls_run (o_gat 14 13) (ptrV (d.S (t % d.n))) (w' := V17) (by kernel_rfl) (by kernel_rfl) <| ls_end <| then_n <| u_ <| so_ (ptrV (d.S (t % d.n))) ?_
 exact ⟨rfl, K20⟩
theorem gat_ok (d : RD Att) (i : Int) (w : World) (H : RingA w d) : Calls prog 113 #[pT d.g 0, iI i] w (RK w (ptrV (slotOf d i))) := by
 by_cases h1 : i < (d.low : Int)
 ·rw [slotOf_low i h1]; exact gat_low d i w H h1
 ·by_cases h2 : (d.low : Int) + d.n ≤ i
  ·rw [slotOf_high i h2]; exact gat_high d i w H h2
  ·obtain ⟨t, rfl⟩ : ∃ t : Nat, i = (t : Int) := ⟨i.toNat, by omega⟩
   rw [slotOf_in t (by omega) (by omega)]; exact gat_in d t w H (by omega) (by omega)
theorem gat_none {d : RD Att} (i : Int) (w : World) (H : RingA w d) (h : slotOf d i = none) : Calls prog 113 #[pT d.g 0, iI i] w (RK w (.pointer none)) := by
 have := gat_ok d i w H; rwa [h] at this
theorem gat_some {d : RD Att} (i : Int) (p : Nat) (w : World) (H : RingA w d) (h : slotOf d i = some p) : Calls prog 113 #[pT d.g 0, iI i] w (RK w (pT p 0)) := by
 have := gat_ok d i w H; rwa [h] at this
def qc19_1 (n : Nat) : Code := partOf f97 n
abbrev qo19_1 (n k : Nat) : Oper := (opsAt (qc19_1 n)).getD k default
theorem gput_low (d : RD Att) (a : Att) (w : World) (H : RingA w d) (ha : a.Ok) (hi : a.t < (d.low : Int)) :
  Calls prog 97 #[pT d.g 0, .agg (Att.c a)] w (RK w (iI 16)) := by
 have hn0 := H.n1
 have hn2 := H.n2
 have hl2 := H.l2
 have K0 := kz0 w
 refine sf_ (qc19_1 1) func97 <| qr_ [0, 1] <| pbg 28 (Att.c a) fun V1 p ep h2 j1 => ?_
 have n3 : d.g < p := ep ▸ lt_of_block H.ring
 have n4 := nk ep K0
 have h5 := j1.bk H.ring
 have ⟨K6, z7⟩ := j1.z0 K0
 refine kk 1 <| eq_ <| anp 7 (fun W => (HP W d.g (#[.func (.func 124) #[] #[], sS d.s d.n d.cap, iI (d.low : Int)]) 184) ∧ (HP W p (Att.c a) 28)) fun V8 j8 => ?_
 have ⟨K11, z12, h9, h10⟩ := j8.z2 K6 h5 h2
 refine kA [0, 1, 2] <| aV 3 _ (fun W hS => lk hS.1) <| aV 4 _ (fun W hS => ldz 28 p hS.2 (Att.c_size _ ha.r)) <| an_o 5 ?_
 refine on_callV (qo19_1 6 5) (.tmp 9) 124 #[] #[] #[.agg (Att.c a)] (by kernel_rfl) (by kernel_rfl) (by kernel_rfl) (by kernel_rfl) (by kernel_rfl) (enters_of func124 (by kernel_rfl) rfl) ((qidx_ok a _ ha.r).mono ?_)
 rintro e V13 ⟨rfl, j13⟩
 refine ⟨_, rfl, ?_⟩
 have ⟨K16, z17, h14, h15⟩ := j13.z2 K11 h9 h10
 refine ⟨⟨h14, h15⟩, ?_⟩
 refine ako 6 ?_
 refine ane <| tq_ <| bl_ 0 <| qr_ nl7_ <| kk 4 <| pP (lk h14) <| pP (dtT (((a.t) : Int) < (d.low : Int))) <| kk 1 <| ey_ <| qr_ [0] <| kk 1 <| eu_ <| blk_r <| then_r <| so_ (iI 16) ?_
 exact ⟨rfl, K16⟩
theorem gput_high (d : RD Att) (a : Att) (w : World) (H : RingA w d) (ha : a.Ok) (hi : (d.low : Int) + d.n ≤ a.t) :
  Calls prog 97 #[pT d.g 0, .agg (Att.c a)] w (RK w (iI 17)) := by
 have hn0 := H.n1
 have hn2 := H.n2
 have hl2 := H.l2
 have K0 := kz0 w
 refine sf_ (qc19_1 1) func97 <| qr_ [0, 1] <| pbg 28 (Att.c a) fun V18 p ep h19 j18 => ?_
 have n20 : d.g < p := ep ▸ lt_of_block H.ring
 have n21 := nk ep K0
 have h22 := j18.bk H.ring
 have ⟨K23, z24⟩ := j18.z0 K0
 refine kk 1 <| eq_ <| anp 7 (fun W => (HP W d.g (#[.func (.func 124) #[] #[], sS d.s d.n d.cap, iI (d.low : Int)]) 184) ∧ (HP W p (Att.c a) 28)) fun V25 j25 => ?_
 have ⟨K28, z29, h26, h27⟩ := j25.z2 K23 h22 h19
 refine kA [0, 1, 2] <| aV 3 _ (fun W hS => lk hS.1) <| aV 4 _ (fun W hS => ldz 28 p hS.2 (Att.c_size _ ha.r)) <| an_o 5 ?_
 refine on_callV (qo19_1 6 5) (.tmp 9) 124 #[] #[] #[.agg (Att.c a)] (by kernel_rfl) (by kernel_rfl) (by kernel_rfl) (by kernel_rfl) (by kernel_rfl) (enters_of func124 (by kernel_rfl) rfl) ((qidx_ok a _ ha.r).mono ?_)
 rintro e V30 ⟨rfl, j30⟩
 refine ⟨_, rfl, ?_⟩
 have ⟨K33, z34, h31, h32⟩ := j30.z2 K28 h26 h27
 refine ⟨⟨h31, h32⟩, ?_⟩
 refine ako 6 ?_
 refine ane <| tq_ <| bl_ 0 <| qr_ nl7_ <| kk 4 <| pP (lk h31) <| pP (dtF (((a.t) : Int) < (d.low : Int))) <| kk 1 <| en_ <| q_ <| sy_np <| sy_reg <| anb 13 (fun W => (HP W d.g (#[.func (.func 124) #[] #[], sS d.s d.n d.cap, iI (d.low : Int)]) 184)) zl4_ ?_
 obtain ⟨V35, eV35, j35⟩ := drew_step V30
 rw [eV35]
 clear eV35
 have ⟨K38, z39, h36⟩ := j35.z1 K33 h31
 refine kA [0, 1, 2, 3] <| aV 4 _ (fun W hS => lk hS) <| kA [5, 6, 7] <| aV 8 _ (fun W hS => lk hS) <| aV 9 _ (fun W hS => len_ (some ⟨d.s, 0, none⟩) d.n d.cap underlying182) <| aV 10 _ (fun W hS => cwN (n := d.low + d.n)) <| aV 11 _ (fun W hS => dtT (((a.t) : Int) ≥ (((d.low + d.n : Nat) : Int)))) <| ako 12 ?_
 refine ane <| then_n <| y_ <| qr_ [0] <| kk 1 <| eu_ <| blk_r <| then_r <| so_ (iI 17) ?_
 exact ⟨rfl, K38⟩
theorem gput_double (d : RD Att) (a : Att) (t q : Nat) (w : World) (H : RingA w d) (ha : a.Ok) (ht : a.t = (t : Int)) (h1 : d.low ≤ t) (h2 : t < d.low + d.n) (hs : slotOf d (t : Int) = some q) :
  Calls prog 97 #[pT d.g 0, .agg (Att.c a)] w (RK w (iI 8)) := by
 have hn0 := H.n1
 have hn2 := H.n2
 have hl2 := H.l2
 have K0 := kz0 w
 refine sf_ (qc19_1 1) func97 <| qr_ [0, 1] <| pbg 28 (Att.c a) fun V40 p ep h41 j40 => ?_
 have n42 : d.g < p := ep ▸ lt_of_block H.ring
 have n43 := nk ep K0
 have h44 := j40.bk H.ring
 have h45 := H.keepsN j40
 have ⟨K46, z47⟩ := j40.z0 K0
 refine kk 1 <| eq_ <| anp 7 (fun W => (HP W d.g (#[.func (.func 124) #[] #[], sS d.s d.n d.cap, iI (d.low : Int)]) 184) ∧ (HP W p (Att.c a) 28)) fun V48 j48 => ?_
 have h49 := j48.bk h44
 have h50 := h45.keepsN j48
 have ⟨K52, z53, h51⟩ := j48.z1 K46 h41
 refine kA [0, 1, 2] <| aV 3 _ (fun W hS => lk hS.1) <| aV 4 _ (fun W hS => ldz 28 p hS.2 (Att.c_size _ ha.r)) <| an_o 5 ?_
 refine on_callV (qo19_1 6 5) (.tmp 9) 124 #[] #[] #[.agg (Att.c a)] (by kernel_rfl) (by kernel_rfl) (by kernel_rfl) (by kernel_rfl) (by kernel_rfl) (enters_of func124 (by kernel_rfl) rfl) ((qidx_as a t _ ha.r ht).mono ?_)
 rintro e V54 ⟨rfl, j54⟩
 refine ⟨_, rfl, ?_⟩
 have h55 := j54.bk h49
 have h56 := h50.keepsN j54
 have ⟨K58, z59, h57⟩ := j54.z1 K52 h51
 refine ⟨⟨h55, h57⟩, ?_⟩
 refine ako 6 ?_
 refine ane <| tq_ <| bl_ 0 <| qr_ nl7_ <| kk 4 <| pP (lk h55) <| pP (dtF ((t : Int) < (d.low : Int))) <| kk 1 <| en_ <| q_ <| sy_np <| sy_reg <| anb 13 (fun W => (HP W d.g (#[.func (.func 124) #[] #[], sS d.s d.n d.cap, iI (d.low : Int)]) 184)) zl4_ ?_
 obtain ⟨V60, eV60, j60⟩ := drew_step V54
 rw [eV60]
 clear eV60
 have h61 := j60.bk h55
 have h62 := h56.keepsN j60
 have ⟨K64, z65⟩ := j60.z0 K58
 refine kA [0, 1, 2, 3] <| aV 4 _ (fun W hS => lk hS) <| kA [5, 6, 7] <| aV 8 _ (fun W hS => lk hS) <| aV 9 _ (fun W hS => len_ (some ⟨d.s, 0, none⟩) d.n d.cap underlying182) <| aV 10 _ (fun W hS => cwN (n := d.low + d.n)) <| aV 11 _ (fun W hS => dtF ((t : Int) ≥ (((d.low + d.n : Nat) : Int)))) <| ako 12 ?_
 refine ane <| then_n <| n_ <| qr_ nl5_ <| kk 2 <| pcr 113 #[pT d.g 0, iN t] func113 (gat_some _ q _ h62 hs) fun V66 j66 => ?_
 have h68 := h62.keepsN j66
 have ⟨K70, z71⟩ := j66.z0 K64
 skip
 refine kk 2 <| ey_ <| qr_ [0] <| kk 1 <| eu_ <| blk_r <| then_r <| so_ (iI 8) ?_
 exact ⟨rfl, K70⟩
theorem gput_new (d : RD Att) (a : Att) (t : Nat) (w : World) (H : RingA w d) (ha : a.Ok) (ht : a.t = (t : Int)) (h1 : d.low ≤ t) (h2 : t < d.low + d.n) (hs : slotOf d (t : Int) = none) :
  Calls prog 97 #[pT d.g 0, .agg (Att.c a)] w (fun e w' => e = .returned (iI 0) ∧ ∃ p, RingA w' { d with V := upV d.V (t : Int) a, S := upS d.S (t % d.n) (some p) } ∧ Keeps (One d.s) w w') := by
 have hn0 := H.n1
 have hn2 := H.n2
 have hl2 := H.l2
 have hm := Nat.mod_lt t hn0
 have hgs : d.g ≠ d.s := fun e => by have h1 := H.ring; rw [e, H.slots] at h1; simp only [Option.some.injEq, Obj.cells.injEq] at h1; exact absurd h1.2.1 (by decide)
 have K0 := Keeps.refl (One d.s) w
 refine sf_ (qc19_1 1) func97 <| qr_ [0, 1] <| pbg 28 (Att.c a) fun V72 p ep h73 j72 => ?_
 have n74 : d.g < p := ep ▸ lt_of_block H.ring
 have n75 : d.s < p := ep ▸ lt_of_block H.slots
 have n76 := nk ep K0
 have h77 := j72.bk H.ring
 have h78 := j72.bk H.slots
 have h79 := H.keepsN j72
 have h80 : ∀ (j : Nat) (cs : Array Value), HP w j cs 28 → HP V72 j cs 28 := fun j cs e => j72.odd (Odd.nob _) ((fun _ _ e => e) j cs e)
 have ⟨K81, z82⟩ := j72.z0 K0
 refine kk 1 <| eq_ <| anp 7 (fun W => (HP W d.g (#[.func (.func 124) #[] #[], sS d.s d.n d.cap, iI (d.low : Int)]) 184) ∧ (HP W p (Att.c a) 28)) fun V83 j83 => ?_
 have ⟨h84, h85⟩ := j83.k2 h77 h78
 have h86 := h79.keepsN j83
 have h87 : ∀ (j : Nat) (cs : Array Value), HP w j cs 28 → HP V83 j cs 28 := fun j cs e => j83.odd (Odd.nob _) (h80 j cs e)
 have ⟨K89, z90, h88⟩ := j83.z1 K81 h73
 refine kA [0, 1, 2] <| aV 3 _ (fun W hS => lk hS.1) <| aV 4 _ (fun W hS => ldz 28 p hS.2 (Att.c_size _ ha.r)) <| an_o 5 ?_
 refine on_callV (qo19_1 6 5) (.tmp 9) 124 #[] #[] #[.agg (Att.c a)] (by kernel_rfl) (by kernel_rfl) (by kernel_rfl) (by kernel_rfl) (by kernel_rfl) (enters_of func124 (by kernel_rfl) rfl) ((qidx_as a t _ ha.r ht).mono ?_)
 rintro e V91 ⟨rfl, j91⟩
 refine ⟨_, rfl, ?_⟩
 have ⟨h92, h93⟩ := j91.k2 h84 h85
 have h94 := h86.keepsN j91
 have h95 : ∀ (j : Nat) (cs : Array Value), HP w j cs 28 → HP V91 j cs 28 := fun j cs e => j91.odd (Odd.nob _) (h87 j cs e)
 have ⟨K97, z98, h96⟩ := j91.z1 K89 h88
 refine ⟨⟨h92, h96⟩, ?_⟩
 refine ako 6 ?_
 refine ane <| tq_ <| bl_ 0 <| qr_ nl7_ <| kk 4 <| pP (lk h92) <| pP (dtF ((t : Int) < (d.low : Int))) <| kk 1 <| en_ <| q_ <| sy_np <| sy_reg <| anb 13 (fun W => (HP W d.g (#[.func (.func 124) #[] #[], sS d.s d.n d.cap, iI (d.low : Int)]) 184)) zl4_ ?_
 obtain ⟨V99, eV99, j99⟩ := drew_step V91
 rw [eV99]
 clear eV99
 have ⟨h100, h101⟩ := j99.k2 h92 h93
 have h102 := h94.keepsN j99
 have h103 : ∀ (j : Nat) (cs : Array Value), HP w j cs 28 → HP V99 j cs 28 := fun j cs e => j99.odd (Odd.nob _) (h95 j cs e)
 have ⟨K105, z106, h104⟩ := j99.z1 K97 h96
 refine kA [0, 1, 2, 3] <| aV 4 _ (fun W hS => lk hS) <| kA [5, 6, 7] <| aV 8 _ (fun W hS => lk hS) <| aV 9 _ (fun W hS => len_ (some ⟨d.s, 0, none⟩) d.n d.cap underlying182) <| aV 10 _ (fun W hS => cwN (n := d.low + d.n)) <| aV 11 _ (fun W hS => dtF ((t : Int) ≥ (((d.low + d.n : Nat) : Int)))) <| ako 12 ?_
 refine ane <| then_n <| n_ <| qr_ nl5_ <| kk 2 <| pcr 113 #[pT d.g 0, iN t] func113 (gat_none _ _ h102 hs) fun V107 j107 => ?_
 have ⟨h108, h109⟩ := j107.k2 h100 h101
 have h110 := h102.keepsN j107
 have h111 : ∀ (j : Nat) (cs : Array Value), HP w j cs 28 → HP V107 j cs 28 := fun j cs e => j107.odd (Odd.nob _) (h103 j cs e)
 have ⟨K113, z114, h112⟩ := j107.z1 K105 h104
 skip
 refine kk 2 <| en_ <| s_ <| blk_n <| tq_ <| rgp 12 (zo12_ (qo19_1 30)) [qo19_1 30 12] fun V116 j116 => ?_
 have ⟨h117, h118⟩ := j116.k2 h108 h109
 have h119 := h110.keepsN j116
 have h120 : ∀ (j : Nat) (cs : Array Value), HP w j cs 28 → HP V116 j cs 28 := fun j cs e => j116.odd (Odd.nob _) (h111 j cs e)
 have ⟨K122, z123, h121⟩ := j116.z1 K113 h112
 refine ks 3 <| spq _ (lk h117) <| ks 4 <| spq _ (lk h117) <| spq _ (len_ (some ⟨d.s, 0, none⟩) d.n d.cap underlying182) <| spq (iN (t % d.n)) (exec_rem 3 3 (.tmp 41) (.tmp 46) (by kernel_rfl) t d.n (by kernel_rfl) (by kernel_rfl) hn0) <| spq (pT d.s (t % d.n)) (exec_cast (v := pT d.s (0 + (t % d.n) * 1)) (by simp) (ixs d.s 0 d.n d.cap .i64 (t % d.n) 1 underlying182 (by omega))) <| st_end ?_
 obtain ⟨V124, eV124, j124⟩ := cell_step V116 d.s (t % d.n) (pT p 0)
 have h125 : HP V124 d.s (Slots d.n (upS d.S (t % d.n) (some p)) d.rest) 185 := eV124 ▸ ((heap_setCell_same _ d.s (t % d.n) _ _ (pT p 0) h118).trans (congrArg (fun c => some (Obj.cells c 185 (0, 0))) (show (Slots d.n d.S d.rest : Array Value).setIfInBounds (t % d.n) (pT p 0) = Slots d.n (upS d.S (t % d.n) (some p)) d.rest from Slots.set' (Nat.mod_lt _ hn0) (some p) rfl)))
 refine ls_skip (qo19_1 30 12) (w' := V124) (by kernel_rfl) (by rw [← eV124]; exact exec_store_cell 185 (.tmp 48) (.tmp 3) (by kernel_rfl) d.s (t % d.n) (by kernel_rfl) (pT p 0) (by kernel_rfl) (by kernel_rfl) (by kernel_rfl) (ptrV (d.S (t % d.n))) (rc h118 ((Slots.get (Nat.mod_lt _ hn0)).trans (congrArg some (rfl)))) (frozen_of_row _ _ _ _ _ h118) (by kernel_rfl)) ?_
 clear eV124
 have h126 := j124.bO h117
 have h127 : ∀ (j : Nat) (cs : Array Value), HP w j cs 28 → HP V124 j cs 28 := fun j cs e => j124.odd (Odd.one h118 (by decide)) (h120 j cs e)
 have h128 := j124.bO h121
 have K129 := K122.nw j124 (rfl)
 have z130 := j124.size
 refine ls_end <| tqr_ [0] <| kk 1 <| eu_ <| so_ (iI 0) ?_
 exact ⟨rfl, _, Ring.put H t a h1 h2 ht ha p h128 h126 h127 h125, K129⟩
def gputErr (d : RD Att) (i : Int) : Int := if i < (d.low : Int) then 16 else if (d.low : Int) + d.n ≤ i then 17 else if (d.V i).isSome then 8 else 0
theorem gput_ok (d : RD Att) (a : Att) (w : World) (H : RingA w d) (ha : a.Ok) : Calls prog 97 #[pT d.g 0, .agg (Att.c a)] w fun e w' => e = .returned (iI (gputErr d a.t)) ∧
  (gputErr d a.t ≠ 0 → RingA w' d) ∧ (gputErr d a.t = 0 → ∃ S', RingA w' { d with V := upV d.V a.t a, S := S' }) ∧ Keeps (One d.s) w w' := by
 have nob : ∀ {w' : World}, Keeps Nob w w' → Keeps (One d.s) w w' := fun k => k.mono (fun _ _ x => x.elim)
 unfold gputErr
 by_cases h1 : a.t < (d.low : Int)
 ·rw [if_pos h1]; exact (gput_low d a w H ha h1).mono fun e w' ⟨he, k⟩ => ⟨he, fun _ => H.keepsN k, fun h => by omega, nob k⟩
 ·rw [if_neg h1]
  by_cases h2 : (d.low : Int) + d.n ≤ a.t
  ·rw [if_pos h2]; exact (gput_high d a w H ha h2).mono fun e w' ⟨he, k⟩ => ⟨he, fun _ => H.keepsN k, fun h => by omega, nob k⟩
  ·rw [if_neg h2]
   obtain ⟨t, ht⟩ : ∃ t : Nat, a.t = (t : Int) := ⟨(a.t).toNat, by omega⟩
   rw [ht]
   rcases H.none_or (t : Int) with ⟨hv, hs⟩ | ⟨b, q, hv, hs, _⟩
   ·rw [hv]; exact (gput_new d a t w H ha ht (by omega) (by omega) hs).mono fun e w' ⟨he, p, hr, k⟩ => ⟨he, fun h => absurd rfl h, fun _ => ⟨_, hr⟩, k⟩
   ·rw [hv]; exact (gput_double d a t q w H ha ht (by omega) (by omega) hs).mono fun e w' ⟨he, k⟩ => ⟨he, fun _ => H.keepsN k, fun h => (by cases h), nob k⟩
def qc19_0 (n : Nat) : Code := partOf f116 n
abbrev qo19_0 (n k : Nat) : Oper := (opsAt (qc19_0 n)).getD k default
theorem gmove_far (d : RD Att) (l : Nat) (w : World) (H : RingA w d) (hl : d.low + d.n ≤ l) (hl3 : l ≤ 4294967296) :
  Calls prog 116 #[pT d.g 0, iI (l : Int)] w (fun e w' => e = .returned (.tuple #[]) ∧ RingA w' { d with low := l, V := mvV d.V (l : Int), S := fun _ => none } ∧ Keeps (fun j => j = d.g ∨ j = d.s) w w') := by
 have hn0 := H.n1
 have hn2 := H.n2
 have hl2 := H.l2
 have hgs : d.g ≠ d.s := fun e => by have h1 := H.ring; rw [e, H.slots] at h1; simp only [Option.some.injEq, Obj.cells.injEq] at h1; exact absurd h1.2.1 (by decide)
 have K0 := Keeps.refl ((fun j => j = d.g ∨ j = d.s)) w
 refine sf_ (qc19_0 1) func116 <| q_ <| q_ <| anp 12 (fun W => (HP W d.g (#[.func (.func 124) #[] #[], sS d.s d.n d.cap, iI (d.low : Int)]) 184)) fun V1 j1 => ?_
 have h2 := j1.bk H.ring
 have h3 := j1.bk H.slots
 have ⟨K4, z5⟩ := j1.z0 K0
 refine kA [0, 1, 2, 3] <| aV 4 _ (fun W hS => lk hS) <| aV 5 (iN (l - d.low)) (fun W hS => exec_cast (congrArg (Value.int .i64) (wrapI ((l : Int) - (d.low : Int)) _ (by omega) (by omega) (by omega))) (by kernel_rfl)) <| kA [6, 7, 8] <| aV 9 _ (fun W hS => lk hS) <| aV 10 _ (fun W hS => len_ (some ⟨d.s, 0, none⟩) d.n d.cap underlying182) <| aV 11 _ (fun W hS => dtT ((((l - d.low : Nat) : Int)) ≥ (d.n : Int))) <| ane <| then_n <| y_ <| r_ nl5_ <| kk 3 <| pP (lk h2) ?_
 obtain ⟨V6, eV6⟩ : ∃ V, V1.setCells d.s 0 (List.replicate d.n (.pointer none)) = V := ⟨_, rfl⟩
 have j6 : Keeps (One d.s) V1 V6 := eV6 ▸ Keeps.setCells _ _ _ _
 have h7 : HP V6 d.s (Slots d.n (fun _ => none) d.rest) 185 := eV6 ▸ (heap_setCells d.s _ _ 0 _ _ h3 (by rw [Slots.size, List.length_replicate]; omega)).trans (congrArg (fun c => some (Obj.cells c 185 (0, 0))) Slots.clear)
 refine prq (.tuple #[]) (w' := V6) (by rw [← eV6]; exact exec_clear (.tmp 19) 182 185 (by kernel_rfl) (.pointer none) underlying182 (fun _ => by kernel_rfl) rfl rfl d.s d.n d.cap (by kernel_rfl) hn0 _ _ h3 (by rw [Slots.size]; omega)) ?_
 clear eV6
 have h8 := j6.bO h2
 have K9 : Keeps ((fun j => j = d.g ∨ j = d.s)) w V6 := K4.then j6 (fun i hi hm => by unfold Own.One at hm; subst hm; exact .inr rfl)
 have z10 := j6.size
 refine eq_ <| bl_ 0 <| sy_rounds 1 (qc19_0 24) (by kernel_rfl) <| rd_step <| q_ <| q_ <| anp 20 (fun W => (HP W d.g (#[.func (.func 124) #[] #[], sS d.s d.n d.cap, iI (d.low : Int)]) 184)) fun V11 j11 => ?_
 have ⟨K14, z15, h12, h13⟩ := j11.z2 K9 h8 h7
 refine kA [0, 1, 2] <| aV 3 _ (fun W hS => lk hS) <| kA [4] <| aV 5 _ (fun W hS => dtT ((d.low : Int) < (l : Int))) <| kA [6, 7, 8, 9, 10] <| aV 11 _ (fun W hS => lk hS) <| aV 12 (iN (l - d.low)) (fun W hS => exec_cast (congrArg (Value.int .i64) (wrapI ((l : Int) - (d.low : Int)) _ (by omega) (by omega) (by omega))) (by kernel_rfl)) <| kA [13] <| kA [14, 15] <| aV 16 _ (fun W hS => lk hS) <| aV 17 _ (fun W hS => len_ (some ⟨d.s, 0, none⟩) d.n d.cap underlying182) <| aV 18 _ (fun W hS => dtF ((((l - d.low : Nat) : Int)) < (d.n : Int))) <| kA [19] <| ane <| then_n <| n_ <| sy_exit 0 (by kernel_rfl) <| then_e <| then_e <| blk_e <| tr_ nl5_ <| kk 4 <| pce 3 d.g 2 (iN l) (#[.func (.func 124) #[] #[], sS d.s d.n d.cap, iI (l : Int)]) h12 (rc h12 (by kernel_rfl)) (by kernel_rfl) (u := iN d.low) fun V16 h17 j16 => ?_
 have h18 := j16.bO h13
 have K19 := K14.nw j16 (.inl rfl)
 have z20 := j16.size
 refine ps_end <| sy_fall (.tuple #[]) rfl (by kernel_rfl) ?_
 exact ⟨rfl, Ring.cleared H l hl hl3 h17 h18, K19⟩
theorem gmove_near (d : RD Att) (l : Nat) (w : World) (H : RingA w d) (hl0 : d.low ≤ l) (hl : l < d.low + d.n) (hl3 : l ≤ 4294967296) :
  Calls prog 116 #[pT d.g 0, iI (l : Int)] w (fun e w' => e = .returned (.tuple #[]) ∧ ∃ S', RingA w' { d with low := l, V := mvV d.V (l : Int), S := S' } ∧ Keeps (fun j => j = d.g ∨ j = d.s) w w') := by
 have hn0 := H.n1
 have hn2 := H.n2
 have hl2 := H.l2
 have hgs : d.g ≠ d.s := fun e => by have h1 := H.ring; rw [e, H.slots] at h1; simp only [Option.some.injEq, Obj.cells.injEq] at h1; exact absurd h1.2.1 (by decide)
 have K0 := Keeps.refl ((fun j => j = d.g ∨ j = d.s)) w
 refine sf_ (qc19_0 1) func116 <| q_ <| q_ <| anp 12 (fun W => (HP W d.g (#[.func (.func 124) #[] #[], sS d.s d.n d.cap, iI (d.low : Int)]) 184)) fun V21 j21 => ?_
 have h22 := j21.bk H.ring
 have h24 := H.keepsN j21
 have ⟨K25, z26⟩ := j21.z0 K0
 refine kA [0, 1, 2, 3] <| aV 4 _ (fun W hS => lk hS) <| aV 5 (iN (l - d.low)) (fun W hS => exec_cast (congrArg (Value.int .i64) (wrapI ((l : Int) - (d.low : Int)) _ (by omega) (by omega) (by omega))) (by kernel_rfl)) <| kA [6, 7, 8] <| aV 9 _ (fun W hS => lk hS) <| aV 10 _ (fun W hS => len_ (some ⟨d.s, 0, none⟩) d.n d.cap underlying182) <| aV 11 _ (fun W hS => dtF ((((l - d.low : Nat) : Int)) ≥ (d.n : Int))) <| ane <| then_n <| n_ <| s_ <| tq_ <| bl_ 0 ?_
 refine sy_loop (qc19_0 24) (fun a V => ∃ (k : Nat) (S' : Nat → Option Nat), (Fr 66 [(0, pT d.g 0), (1, iN l)] [] a) ∧ (d.low ≤ k) ∧ (k ≤ l) ∧ (Keeps ((fun j => j = d.g ∨ j = d.s)) w V) ∧ (RingA V { d with low := k, V := mvV d.V (k : Int), S := S' })) (fun a V => l - lowAt V d.g) (by kernel_rfl) ?_ ?_
 ·exact ⟨d.low, d.S, fq, Nat.le_refl _, by omega, K25, (by rw [H.mvV_self d.low (Nat.le_refl _)]; exact h24)⟩
 ·rintro a V27 ⟨k, S', hfr, hk1, hk, K28, hR⟩
  obtain ⟨uu29, rfl⟩ := Fr.open hfr
  have hg0 : HP V27 d.g (#[.func (.func 124) #[] #[], sS d.s d.n d.cap, iI (k : Int)]) 184 := hR.ring
  have hs0 : HP V27 d.s (Slots d.n S' d.rest) 185 := hR.slots
  have hm := Nat.mod_lt k hn0
  by_cases lt_k : k < l
  ·skip
   refine q_ <| q_ <| anp 20 (fun W => (HP W d.g (#[.func (.func 124) #[] #[], sS d.s d.n d.cap, iI (k : Int)]) 184)) fun V30 j30 => ?_
   have ⟨h31, h32⟩ := j30.k2 hg0 hs0
   have h33 : ∀ (j : Nat) (cs : Array Value), HP V27 j cs 28 → HP V30 j cs 28 := fun j cs e => j30.odd (Odd.nob _) ((fun _ _ e => e) j cs e)
   have ⟨K34, z35⟩ := j30.z0 K28
   refine kA [0, 1, 2] <| aV 3 _ (fun W hS => lk hS) <| kA [4] <| aV 5 _ (fun W hS => dtT ((k : Int) < (l : Int))) <| kA [6, 7, 8, 9, 10] <| aV 11 _ (fun W hS => lk hS) <| aV 12 (iN (l - k)) (fun W hS => exec_cast (congrArg (Value.int .i64) (wrapI ((l : Int) - (k : Int)) _ (by omega) (by omega) (by omega))) (by kernel_rfl)) <| kA [13] <| kA [14, 15] <| aV 16 _ (fun W hS => lk hS) <| aV 17 _ (fun W hS => len_ (some ⟨d.s, 0, none⟩) d.n d.cap underlying182) <| aV 18 _ (fun W hS => dtT ((((l - k : Nat) : Int)) < (d.n : Int))) <| kA [19] <| ane <| then_n <| y_ <| s_ <| tq_ <| bl_ 1 <| rgp 15 (zo15_ (qo19_0 196)) [qo19_0 196 15] fun V37 j37 => ?_
   have ⟨h38, h39⟩ := j37.k2 h31 h32
   have h40 : ∀ (j : Nat) (cs : Array Value), HP V27 j cs 28 → HP V37 j cs 28 := fun j cs e => j37.odd (Odd.nob _) (h33 j cs e)
   have ⟨K41, z42⟩ := j37.z0 K34
   refine ks 3 <| spq _ (lk h38) <| ks 3 <| spq _ (lk h38) <| ks 3 <| spq _ (lk h38) <| spq _ (len_ (some ⟨d.s, 0, none⟩) d.n d.cap underlying182) <| spq (iN (k % d.n)) (exec_rem 3 3 (.tmp 54) (.tmp 59) (by kernel_rfl) k d.n (by kernel_rfl) (by kernel_rfl) hn0) <| spq (pT d.s (k % d.n)) (exec_cast (v := pT d.s (0 + (k % d.n) * 1)) (by simp) (ixs d.s 0 d.n d.cap .i64 (k % d.n) 1 underlying182 (by omega))) <| st_end ?_
   obtain ⟨V43, eV43, j43⟩ := cell_step V37 d.s (k % d.n) (.pointer none)
   have h44 : HP V43 d.s (Slots d.n (upS S' (k % d.n) none) d.rest) 185 := eV43 ▸ ((heap_setCell_same _ d.s (k % d.n) _ _ (.pointer none) h39).trans (congrArg (fun c => some (Obj.cells c 185 (0, 0))) (show (Slots d.n S' d.rest : Array Value).setIfInBounds (k % d.n) (.pointer none) = Slots d.n (upS S' (k % d.n) none) d.rest from Slots.set' (Nat.mod_lt _ hn0) none rfl)))
   refine ls_skip (qo19_0 196 15) (w' := V43) (by kernel_rfl) (by rw [← eV43]; exact exec_store_cell 185 (.tmp 61) (.const (.pointer none)) (by kernel_rfl) d.s (k % d.n) (by kernel_rfl) (.pointer none) (by kernel_rfl) (by kernel_rfl) (by kernel_rfl) (ptrV (S' (k % d.n))) (rc h39 ((Slots.get (Nat.mod_lt _ hn0)).trans (congrArg some (rfl)))) (frozen_of_row _ _ _ _ _ h39) (by kernel_rfl)) ?_
   clear eV43
   have h45 := j43.bO h38
   have h46 : ∀ (j : Nat) (cs : Array Value), HP V27 j cs 28 → HP V43 j cs 28 := fun j cs e => j43.odd (Odd.one h39 (by decide)) (h40 j cs e)
   have K47 : Keeps ((fun j => j = d.g ∨ j = d.s)) w V43 := K41.then j43 (fun i hi hm => by unfold Own.One at hm; subst hm; exact .inr rfl)
   have z48 := j43.size
   refine ls_end <| blk_n <| tr_ nl8_ <| kk 3 <| pP (lk h45) <| pP (cwN (n := k + 1)) <| kk 2 <| pce 3 d.g 2 (iN (k + 1)) (#[.func (.func 124) #[] #[], sS d.s d.n d.cap, iI ((k + 1 : Nat) : Int)]) h45 (rc h45 (by kernel_rfl)) (by kernel_rfl) (u := iN k) fun V49 h50 j49 => ?_
   have h51 : ∀ (j : Nat) (cs : Array Value), HP V27 j cs 28 → HP V49 j cs 28 := fun j cs e => j49.odd (Odd.one h45 (by decide)) (h46 j cs e)
   have h52 := j49.bO h44
   have K53 := K47.nw j49 (.inl rfl)
   have z54 := j49.size
   refine et_ ?_
   refine ⟨⟨k + 1, upS S' (k % d.n) none, fq, by omega, by omega, K53, (by have hx := Ring.step hR h51 (by show k < 4294967296; omega) h50 h52; dsimp only at hx; rw [mvV_mvV (show (k : Int) ≤ ((k + 1 : Nat) : Int) by omega)] at hx; exact hx)⟩, ?_⟩
   show l - lowAt V49 d.g < l - lowAt V27 d.g; rw [lowAt_of h50, lowAt_of hg0]; omega
  ·have eq_k : k = l := by omega
   have hRl : RingA V27 { d with low := l, V := mvV d.V (l : Int), S := S' } := eq_k ▸ hR
   have hg1 : HP V27 d.g (#[.func (.func 124) #[] #[], sS d.s d.n d.cap, iI (l : Int)]) 184 := hRl.ring
   refine q_ <| q_ <| anp 20 (fun W => (HP W d.g (#[.func (.func 124) #[] #[], sS d.s d.n d.cap, iI (l : Int)]) 184)) fun V55 j55 => ?_
   have ⟨h56, h57⟩ := j55.k2 hg1 hs0
   have h58 : ∀ (j : Nat) (cs : Array Value), HP V27 j cs 28 → HP V55 j cs 28 := fun j cs e => j55.odd (Odd.nob _) ((fun _ _ e => e) j cs e)
   have ⟨K59, z60⟩ := j55.z0 K28
   refine kA [0, 1, 2] <| aV 3 _ (fun W hS => lk hS) <| kA [4] <| aV 5 _ (fun W hS => dtF ((l : Int) < (l : Int))) <| kA [6, 7, 8, 9, 10, 11, 12, 13] <| kA [14, 15, 16, 17, 18, 19] <| ane <| then_n <| n_ <| sy_exit 0 (by kernel_rfl) <| then_e <| then_e <| blk_e <| tr_ nl5_ <| kk 4 <| pce 3 d.g 2 (iN l) (#[.func (.func 124) #[] #[], sS d.s d.n d.cap, iI (l : Int)]) h56 (rc h56 (by kernel_rfl)) (by kernel_rfl) (u := iN l) fun V61 h62 j61 => ?_
   have h63 := j61.bO h57
   have h64 : ∀ (j : Nat) (cs : Array Value), HP V27 j cs 28 → HP V61 j cs 28 := fun j cs e => j61.odd (Odd.one h56 (by decide)) (h58 j cs e)
   have K65 := K59.nw j61 (.inl rfl)
   have z66 := j61.size
   refine ps_end <| sy_fall (.tuple #[]) rfl (by kernel_rfl) ?_
   exact ⟨rfl, _, Ring.same hRl h62 h63 h64, K65⟩
theorem gmove_ok (d : RD Att) (l : Nat) (w : World) (H : RingA w d) (hl0 : d.low ≤ l) (hl3 : l ≤ 4294967296) : Calls prog 116 #[pT d.g 0, iI (l : Int)] w fun e w' => e = .returned (.tuple #[]) ∧ ∃ S', RingA w' { d with low := l, V := mvV d.V (l : Int), S := S' } ∧ Keeps (fun j => j = d.g ∨ j = d.s) w w' := by
 by_cases h : d.low + d.n ≤ l
 ·exact (gmove_far d l w H h hl3).mono fun e w' ⟨he, hr, k⟩ => ⟨he, _, hr, k⟩
 ·exact gmove_near d l w H hl0 (by omega) hl3
abbrev RingB : World → RD Pro → Prop := Ring 125 192 168 37 Pro.c (·.h) Pro.Ok
theorem b_ptr_info : (prog.info? 168).map (fun i => (i.zero, i.size, i.bytes)) = some (some (.pointer none), 1, 8) := by kernel_rfl
def qc20_2 (n : Nat) : Code := partOf f125 n
theorem qidxB_ok (a : Pro) (w : World) (hr : a.r.length = 32) :
  Calls prog 125 #[.agg (Pro.c a)] w (RK w (iI a.h)) := by
 have K0 := kz0 w
 refine sf_ (qc20_2 1) func125 <| qr_ [0, 1] <| pbg 37 (Pro.c a) fun V1 p ep h2 j1 => ?_
 have n3 := nk ep K0
 have ⟨K4, z5⟩ := j1.z0 K0
 refine kk 1 <| eqr_ [0, 1, 2] <| kk 1 <| pP (lc h2 (Pro.c_1 _)) <| kk 1 <| eu_ <| so_ (iI a.h) ?_
 exact ⟨rfl, K4⟩
theorem qidxB_as (a : Pro) (t : Nat) (w : World) (hr : a.r.length = 32) (ht : a.h = (t : Int)) : Calls prog 125 #[.agg (Pro.c a)] w (RK w (iI (t : Int))) := ht ▸ qidxB_ok a w hr
def qc20_3 (n : Nat) : Code := partOf f98 n
abbrev qo20_3 (n k : Nat) : Oper := (opsAt (qc20_3 n)).getD k default
theorem gatB_low (d : RD Pro) (i : Int) (w : World) (H : RingB w d) (hi : i < (d.low : Int)) :
  Calls prog 98 #[pT d.g 0, iI i] w (RK w (.pointer none)) := by
 have hn0 := H.n1
 have hn2 := H.n2
 have hl2 := H.l2
 have K0 := kz0 w
 refine sf_ (qc20_3 1) func98 <| qr_ [0] <| kk 1 <| eq_ <| q_ <| anp 20 (fun W => (HP W d.g (#[.func (.func 125) #[] #[], sS d.s d.n d.cap, iI (d.low : Int)]) 192)) fun V1 j1 => ?_
 have h2 := j1.bk H.ring
 have ⟨K4, z5⟩ := j1.z0 K0
 refine kA [0, 1, 2, 3] <| aV 4 _ (fun W hS => lk hS) <| aV 5 _ (fun W hS => dtT (((i) : Int) < (d.low : Int))) <| kA [6, 7, 8, 9, 10, 11, 12, 13] <| kA [14, 15, 16, 17, 18, 19] <| ane <| then_n <| y_ <| qr_ [0] <| kk 1 <| eu_ <| then_r <| so_ (.pointer none) ?_
 exact ⟨rfl, K4⟩
theorem gatB_high (d : RD Pro) (i : Int) (w : World) (H : RingB w d) (hi : (d.low : Int) + d.n ≤ i) :
  Calls prog 98 #[pT d.g 0, iI i] w (RK w (.pointer none)) := by
 have hn0 := H.n1
 have hn2 := H.n2
 have hl2 := H.l2
 have K0 := kz0 w
 refine sf_ (qc20_3 1) func98 <| qr_ [0] <| kk 1 <| eq_ <| q_ <| anp 20 (fun W => (HP W d.g (#[.func (.func 125) #[] #[], sS d.s d.n d.cap, iI (d.low : Int)]) 192)) fun V6 j6 => ?_
 have h7 := j6.bk H.ring
 have ⟨K9, z10⟩ := j6.z0 K0
 refine kA [0, 1, 2, 3] <| aV 4 _ (fun W hS => lk hS) <| aV 5 _ (fun W hS => dtF (((i) : Int) < (d.low : Int))) <| kA [6, 7, 8, 9, 10] <| aV 11 _ (fun W hS => lk hS) <| kA [12, 13] <| kA [14] <| aV 15 _ (fun W hS => lk hS) <| aV 16 _ (fun W hS => len_ (some ⟨d.s, 0, none⟩) d.n d.cap underlying190) <| aV 17 _ (fun W hS => cwN (n := d.low + d.n)) <| aV 18 _ (fun W hS => dtT (((i) : Int) ≥ (((d.low + d.n : Nat) : Int)))) <| kA [19] <| ane <| then_n <| y_ <| qr_ [0] <| kk 1 <| eu_ <| then_r <| so_ (.pointer none) ?_
 exact ⟨rfl, K9⟩
theorem gatB_in (d : RD Pro) (t : Nat) (w : World) (H : RingB w d) (h1 : d.low ≤ t) (h2 : t < d.low + d.n) :
  Calls prog 98 #[pT d.g 0, iI (t : Int)] w (RK w (ptrV (d.S (t % d.n)))) := by
 have hn0 := H.n1
 have hn2 := H.n2
 have hl2 := H.l2
 have hm := Nat.mod_lt t hn0
 have K0 := kz0 w
 refine sf_ (qc20_3 1) func98 <| qr_ [0] <| kk 1 <| eq_ <| q_ <| anp 20 (fun W => (HP W d.g (#[.func (.func 125) #[] #[], sS d.s d.n d.cap, iI (d.low : Int)]) 192)) fun V11 j11 => ?_
 have h12 := j11.bk H.ring
 have h13 := j11.bk H.slots
 have ⟨K14, z15⟩ := j11.z0 K0
 refine kA [0, 1, 2, 3] <| aV 4 _ (fun W hS => lk hS) <| aV 5 _ (fun W hS => dtF ((t : Int) < (d.low : Int))) <| kA [6, 7, 8, 9, 10] <| aV 11 _ (fun W hS => lk hS) <| kA [12, 13] <| kA [14] <| aV 15 _ (fun W hS => lk hS) <| aV 16 _ (fun W hS => len_ (some ⟨d.s, 0, none⟩) d.n d.cap underlying190) <| aV 17 _ (fun W hS => cwN (n := d.low + d.n)) <| aV 18 _ (fun W hS => dtF ((t : Int) ≥ (((d.low + d.n : Nat) : Int)))) <| kA [19] <| ane <| then_n <| n_ <| s_ <| tq_ <| rgp 13 (zo13_ (qo20_3 14)) [qo20_3 14 13] fun V17 j17 => ?_
 have ⟨K20, z21, h18, h19⟩ := j17.z2 K14 h12 h13
 refine ks 3 <| spq _ (lk h18) <| ks 4 <| spq _ (lk h18) <| spq _ (len_ (some ⟨d.s, 0, none⟩) d.n d.cap underlying190) <| spq (iN (t % d.n)) (exec_rem 3 3 (.tmp 29) (.tmp 34) (by kernel_rfl) t d.n (by kernel_rfl) (by kernel_rfl) hn0) <| spq (pT d.s (t % d.n)) (exec_cast (v := pT d.s (0 + (t % d.n) * 1)) (by simp) (ixs d.s 0 d.n d.cap .i64 (t % d.n) 1 underlying190 (by omega))) <| spq (ptrV (d.S (t % d.n))) (lc h19 ((Slots.get (Nat.mod_lt _ hn0)).trans (congrArg some (rfl)))) <| st_end <| ls_run (qo20_3 14 13) (ptrV (d.S (t % d.n))) (w' := V17) (by kernel_rfl) (by kernel_rfl) <| ls_end <| then_n <| u_ <| so_ (ptrV (d.S (t % d.n))) ?_
 exact ⟨rfl, K20⟩
theorem gatB_ok (d : RD Pro) (i : Int) (w : World) (H : RingB w d) : Calls prog 98 #[pT d.g 0, iI i] w (RK w (ptrV (slotOf d i))) := by
 by_cases h1 : i < (d.low : Int)
 ·rw [slotOf_low i h1]; exact gatB_low d i w H h1
 ·by_cases h2 : (d.low : Int) + d.n ≤ i
  ·rw [slotOf_high i h2]; exact gatB_high d i w H h2
  ·obtain ⟨t, rfl⟩ : ∃ t : Nat, i = (t : Int) := ⟨i.toNat, by omega⟩
   rw [slotOf_in t (by omega) (by omega)]; exact gatB_in d t w H (by omega) (by omega)
theorem gatB_none {d : RD Pro} (i : Int) (w : World) (H : RingB w d) (h : slotOf d i = none) : Calls prog 98 #[pT d.g 0, iI i] w (RK w (.pointer none)) := by
 have := gatB_ok d i w H; rwa [h] at this
theorem gatB_some {d : RD Pro} (i : Int) (p : Nat) (w : World) (H : RingB w d) (h : slotOf d i = some p) : Calls prog 98 #[pT d.g 0, iI i] w (RK w (pT p 0)) := by
 have := gatB_ok d i w H; rwa [h] at this
def qc20_1 (n : Nat) : Code := partOf f99 n
abbrev qo20_1 (n k : Nat) : Oper := (opsAt (qc20_1 n)).getD k default
theorem gputB_low (d : RD Pro) (a : Pro) (w : World) (H : RingB w d) (ha : a.Ok) (hi : a.h < (d.low : Int)) :
  Calls prog 99 #[pT d.g 0, .agg (Pro.c a)] w (RK w (iI 16)) := by
 have hn0 := H.n1
 have hn2 := H.n2
 have hl2 := H.l2
 have K0 := kz0 w
 refine sf_ (qc20_1 1) func99 <| qr_ [0, 1] <| pbg 37 (Pro.c a) fun V1 p ep h2 j1 => ?_
 have n3 : d.g < p := ep ▸ lt_of_block H.ring
 have n4 := nk ep K0
 have h5 := j1.bk H.ring
 have ⟨K6, z7⟩ := j1.z0 K0
 refine kk 1 <| eq_ <| anp 7 (fun W => (HP W d.g (#[.func (.func 125) #[] #[], sS d.s d.n d.cap, iI (d.low : Int)]) 192) ∧ (HP W p (Pro.c a) 37)) fun V8 j8 => ?_
 have ⟨K11, z12, h9, h10⟩ := j8.z2 K6 h5 h2
 refine kA [0, 1, 2] <| aV 3 _ (fun W hS => lk hS.1) <| aV 4 _ (fun W hS => ldz 37 p hS.2 (Pro.c_size _ ha.r)) <| an_o 5 ?_
 refine on_callV (qo20_1 6 5) (.tmp 9) 125 #[] #[] #[.agg (Pro.c a)] (by kernel_rfl) (by kernel_rfl) (by kernel_rfl) (by kernel_rfl) (by kernel_rfl) (enters_of func125 (by kernel_rfl) rfl) ((qidxB_ok a _ ha.r).mono ?_)
 rintro e V13 ⟨rfl, j13⟩
 refine ⟨_, rfl, ?_⟩
 have ⟨K16, z17, h14, h15⟩ := j13.z2 K11 h9 h10
 refine ⟨⟨h14, h15⟩, ?_⟩
 refine ako 6 ?_
 refine ane <| tq_ <| bl_ 0 <| qr_ nl7_ <| kk 4 <| pP (lk h14) <| pP (dtT (((a.h) : Int) < (d.low : Int))) <| kk 1 <| ey_ <| qr_ [0] <| kk 1 <| eu_ <| blk_r <| then_r <| so_ (iI 16) ?_
 exact ⟨rfl, K16⟩
theorem gputB_high (d : RD Pro) (a : Pro) (w : World) (H : RingB w d) (ha : a.Ok) (hi : (d.low : Int) + d.n ≤ a.h) :
  Calls prog 99 #[pT d.g 0, .agg (Pro.c a)] w (RK w (iI 17)) := by
 have hn0 := H.n1
 have hn2 := H.n2
 have hl2 := H.l2
 have K0 := kz0 w
 refine sf_ (qc20_1 1) func99 <| qr_ [0, 1] <| pbg 37 (Pro.c a) fun V18 p ep h19 j18 => ?_
 have n20 : d.g < p := ep ▸ lt_of_block H.ring
 have n21 := nk ep K0
 have h22 := j18.bk H.ring
 have ⟨K23, z24⟩ := j18.z0 K0
 refine kk 1 <| eq_ <| anp 7 (fun W => (HP W d.g (#[.func (.func 125) #[] #[], sS d.s d.n d.cap, iI (d.low : Int)]) 192) ∧ (HP W p (Pro.c a) 37)) fun V25 j25 => ?_
 have ⟨K28, z29, h26, h27⟩ := j25.z2 K23 h22 h19
 refine kA [0, 1, 2] <| aV 3 _ (fun W hS => lk hS.1) <| aV 4 _ (fun W hS => ldz 37 p hS.2 (Pro.c_size _ ha.r)) <| an_o 5 ?_
 refine on_callV (qo20_1 6 5) (.tmp 9) 125 #[] #[] #[.agg (Pro.c a)] (by kernel_rfl) (by kernel_rfl) (by kernel_rfl) (by kernel_rfl) (by kernel_rfl) (enters_of func125 (by kernel_rfl) rfl) ((qidxB_ok a _ ha.r).mono ?_)
 rintro e V30 ⟨rfl, j30⟩
 refine ⟨_, rfl, ?_⟩
 have ⟨K33, z34, h31, h32⟩ := j30.z2 K28 h26 h27
 refine ⟨⟨h31, h32⟩, ?_⟩
 refine ako 6 ?_
 refine ane <| tq_ <| bl_ 0 <| qr_ nl7_ <| kk 4 <| pP (lk h31) <| pP (dtF (((a.h) : Int) < (d.low : Int))) <| kk 1 <| en_ <| q_ <| sy_np <| sy_reg <| anb 13 (fun W => (HP W d.g (#[.func (.func 125) #[] #[], sS d.s d.n d.cap, iI (d.low : Int)]) 192)) zl4_ ?_
 obtain ⟨V35, eV35, j35⟩ := drew_step V30
 rw [eV35]
 clear eV35
 have ⟨K38, z39, h36⟩ := j35.z1 K33 h31
 refine kA [0, 1, 2, 3] <| aV 4 _ (fun W hS => lk hS) <| kA [5, 6, 7] <| aV 8 _ (fun W hS => lk hS) <| aV 9 _ (fun W hS => len_ (some ⟨d.s, 0, none⟩) d.n d.cap underlying190) <| aV 10 _ (fun W hS => cwN (n := d.low + d.n)) <| aV 11 _ (fun W hS => dtT (((a.h) : Int) ≥ (((d.low + d.n : Nat) : Int)))) <| ako 12 ?_
 refine ane <| then_n <| y_ <| qr_ [0] <| kk 1 <| eu_ <| blk_r <| then_r <| so_ (iI 17) ?_
 exact ⟨rfl, K38⟩
theorem gputB_double (d : RD Pro) (a : Pro) (t q : Nat) (w : World) (H : RingB w d) (ha : a.Ok) (ht : a.h = (t : Int)) (h1 : d.low ≤ t) (h2 : t < d.low + d.n) (hs : slotOf d (t : Int) = some q) :
  Calls prog 99 #[pT d.g 0, .agg (Pro.c a)] w (RK w (iI 8)) := by
 have hn0 := H.n1
 have hn2 := H.n2
 have hl2 := H.l2
 have K0 := kz0 w
 refine sf_ (qc20_1 1) func99 <| qr_ [0, 1] <| pbg 37 (Pro.c a) fun V40 p ep h41 j40 => ?_
 have n42 : d.g < p := ep ▸ lt_of_block H.ring
 have n43 := nk ep K0
 have h44 := j40.bk H.ring
 have h45 := H.keepsN j40
 have ⟨K46, z47⟩ := j40.z0 K0
 refine kk 1 <| eq_ <| anp 7 (fun W => (HP W d.g (#[.func (.func 125) #[] #[], sS d.s d.n d.cap, iI (d.low : Int)]) 192) ∧ (HP W p (Pro.c a) 37)) fun V48 j48 => ?_
 have h49 := j48.bk h44
 have h50 := h45.keepsN j48
 have ⟨K52, z53, h51⟩ := j48.z1 K46 h41
 refine kA [0, 1, 2] <| aV 3 _ (fun W hS => lk hS.1) <| aV 4 _ (fun W hS => ldz 37 p hS.2 (Pro.c_size _ ha.r)) <| an_o 5 ?_
 refine on_callV (qo20_1 6 5) (.tmp 9) 125 #[] #[] #[.agg (Pro.c a)] (by kernel_rfl) (by kernel_rfl) (by kernel_rfl) (by kernel_rfl) (by kernel_rfl) (enters_of func125 (by kernel_rfl) rfl) ((qidxB_as a t _ ha.r ht).mono ?_)
 rintro e V54 ⟨rfl, j54⟩
 refine ⟨_, rfl, ?_⟩
 have h55 := j54.bk h49
 have h56 := h50.keepsN j54
 have ⟨K58, z59, h57⟩ := j54.z1 K52 h51
 refine ⟨⟨h55, h57⟩, ?_⟩
 refine ako 6 ?_
 refine ane <| tq_ <| bl_ 0 <| qr_ nl7_ <| kk 4 <| pP (lk h55) <| pP (dtF ((t : Int) < (d.low : Int))) <| kk 1 <| en_ <| q_ <| sy_np <| sy_reg <| anb 13 (fun W => (HP W d.g (#[.func (.func 125) #[] #[], sS d.s d.n d.cap, iI (d.low : Int)]) 192)) zl4_ ?_
 obtain ⟨V60, eV60, j60⟩ := drew_step V54
 rw [eV60]
 clear eV60
 have h61 := j60.bk h55
 have h62 := h56.keepsN j60
 have ⟨K64, z65⟩ := j60.z0 K58
 refine kA [0, 1, 2, 3] <| aV 4 _ (fun W hS => lk hS) <| kA [5, 6, 7] <| aV 8 _ (fun W hS => lk hS) <| aV 9 _ (fun W hS => len_ (some ⟨d.s, 0, none⟩) d.n d.cap underlying190) <| aV 10 _ (fun W hS => cwN (n := d.low + d.n)) <| aV 11 _ (fun W hS => dtF ((t : Int) ≥ (((d.low + d.n : Nat) : Int)))) <| ako 12 ?_
 refine ane <| then_n <| n_ <| qr_ nl5_ <| kk 2 <| pcr 98 #[pT d.g 0, iN t] func98 (gatB_some _ q _ h62 hs) fun V66 j66 => ?_
 have h68 := h62.keepsN j66
 have ⟨K70, z71⟩ := j66.z0 K64
 skip
 refine kk 2 <| ey_ <| qr_ [0] <| kk 1 <| eu_ <| blk_r <| then_r <| so_ (iI 8) ?_
 exact ⟨rfl, K70⟩
theorem gputB_new (d : RD Pro) (a : Pro) (t : Nat) (w : World) (H : RingB w d) (ha : a.Ok) (ht : a.h = (t : Int)) (h1 : d.low ≤ t) (h2 : t < d.low + d.n) (hs : slotOf d (t : Int) = none) :
  Calls prog 99 #[pT d.g 0, .agg (Pro.c a)] w (fun e w' => e = .returned (iI 0) ∧ ∃ p, RingB w' { d with V := upV d.V (t : Int) a, S := upS d.S (t % d.n) (some p) } ∧ Keeps (One d.s) w w') := by
 have hn0 := H.n1
 have hn2 := H.n2
 have hl2 := H.l2
 have hm := Nat.mod_lt t hn0
 have hgs : d.g ≠ d.s := fun e => by have h1 := H.ring; rw [e, H.slots] at h1; simp only [Option.some.injEq, Obj.cells.injEq] at h1; exact absurd h1.2.1 (by decide)
 have K0 := Keeps.refl (One d.s) w
 refine sf_ (qc20_1 1) func99 <| qr_ [0, 1] <| pbg 37 (Pro.c a) fun V72 p ep h73 j72 => ?_
 have n74 : d.g < p := ep ▸ lt_of_block H.ring
 have n75 : d.s < p := ep ▸ lt_of_block H.slots
 have n76 := nk ep K0
 have h77 := j72.bk H.ring
 have h78 := j72.bk H.slots
 have h79 := H.keepsN j72
 have h80 : ∀ (j : Nat) (cs : Array Value), HP w j cs 37 → HP V72 j cs 37 := fun j cs e => j72.odd (Odd.nob _) ((fun _ _ e => e) j cs e)
 have ⟨K81, z82⟩ := j72.z0 K0
 refine kk 1 <| eq_ <| anp 7 (fun W => (HP W d.g (#[.func (.func 125) #[] #[], sS d.s d.n d.cap, iI (d.low : Int)]) 192) ∧ (HP W p (Pro.c a) 37)) fun V83 j83 => ?_
 have ⟨h84, h85⟩ := j83.k2 h77 h78
 have h86 := h79.keepsN j83
 have h87 : ∀ (j : Nat) (cs : Array Value), HP w j cs 37 → HP V83 j cs 37 := fun j cs e => j83.odd (Odd.nob _) (h80 j cs e)
 have ⟨K89, z90, h88⟩ := j83.z1 K81 h73
 refine kA [0, 1, 2] <| aV 3 _ (fun W hS => lk hS.1) <| aV 4 _ (fun W hS => ldz 37 p hS.2 (Pro.c_size _ ha.r)) <| an_o 5 ?_
 refine on_callV (qo20_1 6 5) (.tmp 9) 125 #[] #[] #[.agg (Pro.c a)] (by kernel_rfl) (by kernel_rfl) (by kernel_rfl) (by kernel_rfl) (by kernel_rfl) (enters_of func125 (by kernel_rfl) rfl) ((qidxB_as a t _ ha.r ht).mono ?_)
 rintro e V91 ⟨rfl, j91⟩
 refine ⟨_, rfl, ?_⟩
 have ⟨h92, h93⟩ := j91.k2 h84 h85
 have h94 := h86.keepsN j91
 have h95 : ∀ (j : Nat) (cs : Array Value), HP w j cs 37 → HP V91 j cs 37 := fun j cs e => j91.odd (Odd.nob _) (h87 j cs e)
 have ⟨K97, z98, h96⟩ := j91.z1 K89 h88
 refine ⟨⟨h92, h96⟩, ?_⟩
 refine ako 6 ?_
 refine ane <| tq_ <| bl_ 0 <| qr_ nl7_ <| kk 4 <| pP (lk h92) <| pP (dtF ((t : Int) < (d.low : Int))) <| kk 1 <| en_ <| q_ <| sy_np <| sy_reg <| anb 13 (fun W => (HP W d.g (#[.func (.func 125) #[] #[], sS d.s d.n d.cap, iI (d.low : Int)]) 192)) zl4_ ?_
 obtain ⟨V99, eV99, j99⟩ := drew_step V91
 rw [eV99]
 clear eV99
 have ⟨h100, h101⟩ := j99.k2 h92 h93
 have h102 := h94.keepsN j99
 have h103 : ∀ (j : Nat) (cs : Array Value), HP w j cs 37 → HP V99 j cs 37 := fun j cs e => j99.odd (Odd.nob _) (h95 j cs e)
 have ⟨K105, z106, h104⟩ := j99.z1 K97 h96
 refine kA [0, 1, 2, 3] <| aV 4 _ (fun W hS => lk hS) <| kA [5, 6, 7] <| aV 8 _ (fun W hS => lk hS) <| aV 9 _ (fun W hS => len_ (some ⟨d.s, 0, none⟩) d.n d.cap underlying190) <| aV 10 _ (fun W hS => cwN (n := d.low + d.n)) <| aV 11 _ (fun W hS => dtF ((t : Int) ≥ (((d.low + d.n : Nat) : Int)))) <| ako 12 ?_
 refine ane <| then_n <| n_ <| qr_ nl5_ <| kk 2 <| pcr 98 #[pT d.g 0, iN t] func98 (gatB_none _ _ h102 hs) fun V107 j107 => ?_
 have ⟨h108, h109⟩ := j107.k2 h100 h101
 have h110 := h102.keepsN j107
 have h111 : ∀ (j : Nat) (cs : Array Value), HP w j cs 37 → HP V107 j cs 37 := fun j cs e => j107.odd (Odd.nob _) (h103 j cs e)
 have ⟨K113, z114, h112⟩ := j107.z1 K105 h104
 skip
 refine kk 2 <| en_ <| s_ <| blk_n <| tq_ <| rgp 12 (zo12_ (qo20_1 30)) [qo20_1 30 12] fun V116 j116 => ?_
 have ⟨h117, h118⟩ := j116.k2 h108 h109
 have h119 := h110.keepsN j116
 have h120 : ∀ (j : Nat) (cs : Array Value), HP w j cs 37 → HP V116 j cs 37 := fun j cs e => j116.odd (Odd.nob _) (h111 j cs e)
 have ⟨K122, z123, h121⟩ := j116.z1 K113 h112
 refine ks 3 <| spq _ (lk h117) <| ks 4 <| spq _ (lk h117) <| spq _ (len_ (some ⟨d.s, 0, none⟩) d.n d.cap underlying190) <| spq (iN (t % d.n)) (exec_rem 3 3 (.tmp 41) (.tmp 46) (by kernel_rfl) t d.n (by kernel_rfl) (by kernel_rfl) hn0) <| spq (pT d.s (t % d.n)) (exec_cast (v := pT d.s (0 + (t % d.n) * 1)) (by simp) (ixs d.s 0 d.n d.cap .i64 (t % d.n) 1 underlying190 (by omega))) <| st_end ?_
 obtain ⟨V124, eV124, j124⟩ := cell_step V116 d.s (t % d.n) (pT p 0)
 have h125 : HP V124 d.s (Slots d.n (upS d.S (t % d.n) (some p)) d.rest) 168 := eV124 ▸ ((heap_setCell_same _ d.s (t % d.n) _ _ (pT p 0) h118).trans (congrArg (fun c => some (Obj.cells c 168 (0, 0))) (show (Slots d.n d.S d.rest : Array Value).setIfInBounds (t % d.n) (pT p 0) = Slots d.n (upS d.S (t % d.n) (some p)) d.rest from Slots.set' (Nat.mod_lt _ hn0) (some p) rfl)))
 refine ls_skip (qo20_1 30 12) (w' := V124) (by kernel_rfl) (by rw [← eV124]; exact exec_store_cell 168 (.tmp 48) (.tmp 3) (by kernel_rfl) d.s (t % d.n) (by kernel_rfl) (pT p 0) (by kernel_rfl) (by kernel_rfl) (by kernel_rfl) (ptrV (d.S (t % d.n))) (rc h118 ((Slots.get (Nat.mod_lt _ hn0)).trans (congrArg some (rfl)))) (frozen_of_row _ _ _ _ _ h118) (by kernel_rfl)) ?_
 clear eV124
 have h126 := j124.bO h117
 have h127 : ∀ (j : Nat) (cs : Array Value), HP w j cs 37 → HP V124 j cs 37 := fun j cs e => j124.odd (Odd.one h118 (by decide)) (h120 j cs e)
 have h128 := j124.bO h121
 have K129 := K122.nw j124 (rfl)
 have z130 := j124.size
 refine ls_end <| tqr_ [0] <| kk 1 <| eu_ <| so_ (iI 0) ?_
 exact ⟨rfl, _, Ring.put H t a h1 h2 ht ha p h128 h126 h127 h125, K129⟩
def gputBErr (d : RD Pro) (i : Int) : Int := if i < (d.low : Int) then 16 else if (d.low : Int) + d.n ≤ i then 17 else if (d.V i).isSome then 8 else 0
theorem gputB_ok (d : RD Pro) (a : Pro) (w : World) (H : RingB w d) (ha : a.Ok) : Calls prog 99 #[pT d.g 0, .agg (Pro.c a)] w fun e w' => e = .returned (iI (gputBErr d a.h)) ∧
  (gputBErr d a.h ≠ 0 → RingB w' d) ∧ (gputBErr d a.h = 0 → ∃ S', RingB w' { d with V := upV d.V a.h a, S := S' }) ∧ Keeps (One d.s) w w' := by
 have nob : ∀ {w' : World}, Keeps Nob w w' → Keeps (One d.s) w w' := fun k => k.mono (fun _ _ x => x.elim)
 unfold gputBErr
 by_cases h1 : a.h < (d.low : Int)
 ·rw [if_pos h1]; exact (gputB_low d a w H ha h1).mono fun e w' ⟨he, k⟩ => ⟨he, fun _ => H.keepsN k, fun h => by omega, nob k⟩
 ·rw [if_neg h1]
  by_cases h2 : (d.low : Int) + d.n ≤ a.h
  ·rw [if_pos h2]; exact (gputB_high d a w H ha h2).mono fun e w' ⟨he, k⟩ => ⟨he, fun _ => H.keepsN k, fun h => by omega, nob k⟩
  ·rw [if_neg h2]
   obtain ⟨t, ht⟩ : ∃ t : Nat, a.h = (t : Int) := ⟨(a.h).toNat, by omega⟩
   rw [ht]
   rcases H.none_or (t : Int) with ⟨hv, hs⟩ | ⟨b, q, hv, hs, _⟩
   ·rw [hv]; exact (gputB_new d a t w H ha ht (by omega) (by omega) hs).mono fun e w' ⟨he, p, hr, k⟩ => ⟨he, fun h => absurd rfl h, fun _ => ⟨_, hr⟩, k⟩
   ·rw [hv]; exact (gputB_double d a t q w H ha ht (by omega) (by omega) hs).mono fun e w' ⟨he, k⟩ => ⟨he, fun _ => H.keepsN k, fun h => (by cases h), nob k⟩
def qc20_0 (n : Nat) : Code := partOf f117 n
abbrev qo20_0 (n k : Nat) : Oper := (opsAt (qc20_0 n)).getD k default
theorem gmoveB_far (d : RD Pro) (l : Nat) (w : World) (H : RingB w d) (hl : d.low + d.n ≤ l) (hl3 : l ≤ 4294967296) :
  Calls prog 117 #[pT d.g 0, iI (l : Int)] w (fun e w' => e = .returned (.tuple #[]) ∧ RingB w' { d with low := l, V := mvV d.V (l : Int), S := fun _ => none } ∧ Keeps (fun j => j = d.g ∨ j = d.s) w w') := by
 have hn0 := H.n1
 have hn2 := H.n2
 have hl2 := H.l2
 have hgs : d.g ≠ d.s := fun e => by have h1 := H.ring; rw [e, H.slots] at h1; simp only [Option.some.injEq, Obj.cells.injEq] at h1; exact absurd h1.2.1 (by decide)
 have K0 := Keeps.refl ((fun j => j = d.g ∨ j = d.s)) w
 refine sf_ (qc20_0 1) func117 <| q_ <| q_ <| anp 12 (fun W => (HP W d.g (#[.func (.func 125) #[] #[], sS d.s d.n d.cap, iI (d.low : Int)]) 192)) fun V1 j1 => ?_
 have h2 := j1.bk H.ring
 have h3 := j1.bk H.slots
 have ⟨K4, z5⟩ := j1.z0 K0
 refine kA [0, 1, 2, 3] <| aV 4 _ (fun W hS => lk hS) <| aV 5 (iN (l - d.low)) (fun W hS => exec_cast (congrArg (Value.int .i64) (wrapI ((l : Int) - (d.low : Int)) _ (by omega) (by omega) (by omega))) (by kernel_rfl)) <| kA [6, 7, 8] <| aV 9 _ (fun W hS => lk hS) <| aV 10 _ (fun W hS => len_ (some ⟨d.s, 0, none⟩) d.n d.cap underlying190) <| aV 11 _ (fun W hS => dtT ((((l - d.low : Nat) : Int)) ≥ (d.n : Int))) <| ane <| then_n <| y_ <| r_ nl5_ <| kk 3 <| pP (lk h2) ?_
 obtain ⟨V6, eV6⟩ : ∃ V, V1.setCells d.s 0 (List.replicate d.n (.pointer none)) = V := ⟨_, rfl⟩
 have j6 : Keeps (One d.s) V1 V6 := eV6 ▸ Keeps.setCells _ _ _ _
 have h7 : HP V6 d.s (Slots d.n (fun _ => none) d.rest) 168 := eV6 ▸ (heap_setCells d.s _ _ 0 _ _ h3 (by rw [Slots.size, List.length_replicate]; omega)).trans (congrArg (fun c => some (Obj.cells c 168 (0, 0))) Slots.clear)
 refine prq (.tuple #[]) (w' := V6) (by rw [← eV6]; exact exec_clear (.tmp 19) 190 168 (by kernel_rfl) (.pointer none) underlying190 (fun _ => by kernel_rfl) rfl rfl d.s d.n d.cap (by kernel_rfl) hn0 _ _ h3 (by rw [Slots.size]; omega)) ?_
 clear eV6
 have h8 := j6.bO h2
 have K9 : Keeps ((fun j => j = d.g ∨ j = d.s)) w V6 := K4.then j6 (fun i hi hm => by unfold Own.One at hm; subst hm; exact .inr rfl)
 have z10 := j6.size
 refine eq_ <| bl_ 0 <| sy_rounds 1 (qc20_0 24) (by kernel_rfl) <| rd_step <| q_ <| q_ <| anp 20 (fun W => (HP W d.g (#[.func (.func 125) #[] #[], sS d.s d.n d.cap, iI (d.low : Int)]) 192)) fun V11 j11 => ?_
 have ⟨K14, z15, h12, h13⟩ := j11.z2 K9 h8 h7
 refine kA [0, 1, 2] <| aV 3 _ (fun W hS => lk hS) <| kA [4] <| aV 5 _ (fun W hS => dtT ((d.low : Int) < (l : Int))) <| kA [6, 7, 8, 9, 10] <| aV 11 _ (fun W hS => lk hS) <| aV 12 (iN (l - d.low)) (fun W hS => exec_cast (congrArg (Value.int .i64) (wrapI ((l : Int) - (d.low : Int)) _ (by omega) (by omega) (by omega))) (by kernel_rfl)) <| kA [13] <| kA [14, 15] <| aV 16 _ (fun W hS => lk hS) <| aV 17 _ (fun W hS => len_ (some ⟨d.s, 0, none⟩) d.n d.cap underlying190) <| aV 18 _ (fun W hS => dtF ((((l - d.low : Nat) : Int)) < (d.n : Int))) <| kA [19] <| ane <| then_n <| n_ <| sy_exit 0 (by kernel_rfl) <| then_e <| then_e <| blk_e <| tr_ nl5_ <| kk 4 <| pce 3 d.g 2 (iN l) (#[.func (.func 125) #[] #[], sS d.s d.n d.cap, iI (l : Int)]) h12 (rc h12 (by kernel_rfl)) (by kernel_rfl) (u := iN d.low) fun V16 h17 j16 => ?_
 have h18 := j16.bO h13
 have K19 := K14.nw j16 (.inl rfl)
 have z20 := j16.size
 refine ps_end <| sy_fall (.tuple #[]) rfl (by kernel_rfl) ?_
 exact ⟨rfl, Ring.cleared H l hl hl3 h17 h18, K19⟩
theorem gmoveB_near (d : RD Pro) (l : Nat) (w : World) (H : RingB w d) (hl0 : d.low ≤ l) (hl : l < d.low + d.n) (hl3 : l ≤ 4294967296) :
  Calls prog 117 #[pT d.g 0, iI (l : Int)] w (fun e w' => e = .returned (.tuple #[]) ∧ ∃ S', RingB w' { d with low := l, V := mvV d.V (l : Int), S := S' } ∧ Keeps (fun j => j = d.g ∨ j = d.s) w w') := by
 have hn0 := H.n1
 have hn2 := H.n2
 have hl2 := H.l2
 have hgs : d.g ≠ d.s := fun e => by have h1 := H.ring; rw [e, H.slots] at h1; simp only [Option.some.injEq, Obj.cells.injEq] at h1; exact absurd h1.2.1 (by decide)
 have K0 := Keeps.refl ((fun j => j = d.g ∨ j = d.s)) w
 refine sf_ (qc20_0 1) func117 <| q_ <| q_ <| anp 12 (fun W => (HP W d.g (#[.func (.func 125) #[] #[], sS d.s d.n d.cap, iI (d.low : Int)]) 192)) fun V21 j21 => ?_
 have h22 := j21.bk H.ring
 have h24 := H.keepsN j21
 have ⟨K25, z26⟩ := j21.z0 K0
 refine kA [0, 1, 2, 3] <| aV 4 _ (fun W hS => lk hS) <| aV 5 (iN (l - d.low)) (fun W hS => exec_cast (congrArg (Value.int .i64) (wrapI ((l : Int) - (d.low : Int)) _ (by omega) (by omega) (by omega))) (by kernel_rfl)) <| kA [6, 7, 8] <| aV 9 _ (fun W hS => lk hS) <| aV 10 _ (fun W hS => len_ (some ⟨d.s, 0, none⟩) d.n d.cap underlying190) <| aV 11 _ (fun W hS => dtF ((((l - d.low : Nat) : Int)) ≥ (d.n : Int))) <| ane <| then_n <| n_ <| s_ <| tq_ <| bl_ 0 ?_
 refine sy_loop (qc20_0 24) (fun a V => ∃ (k : Nat) (S' : Nat → Option Nat), (Fr 66 [(0, pT d.g 0), (1, iN l)] [] a) ∧ (d.low ≤ k) ∧ (k ≤ l) ∧ (Keeps ((fun j => j = d.g ∨ j = d.s)) w V) ∧ (RingB V { d with low := k, V := mvV d.V (k : Int), S := S' })) (fun a V => l - lowAt V d.g) (by kernel_rfl) ?_ ?_
 ·exact ⟨d.low, d.S, fq, Nat.le_refl _, by omega, K25, (by rw [H.mvV_self d.low (Nat.le_refl _)]; exact h24)⟩
 ·rintro a V27 ⟨k, S', hfr, hk1, hk, K28, hR⟩
  obtain ⟨uu29, rfl⟩ := Fr.open hfr
  have hg0 : HP V27 d.g (#[.func (.func 125) #[] #[], sS d.s d.n d.cap, iI (k : Int)]) 192 := hR.ring
  have hs0 : HP V27 d.s (Slots d.n S' d.rest) 168 := hR.slots
  have hm := Nat.mod_lt k hn0
  by_cases lt_k : k < l
  ·skip
   refine q_ <| q_ <| anp 20 (fun W => (HP W d.g (#[.func (.func 125) #[] #[], sS d.s d.n d.cap, iI (k : Int)]) 192)) fun V30 j30 => ?_
   have ⟨h31, h32⟩ := j30.k2 hg0 hs0
   have h33 : ∀ (j : Nat) (cs : Array Value), HP V27 j cs 37 → HP V30 j cs 37 := fun j cs e => j30.odd (Odd.nob _) ((fun _ _ e => e) j cs e)
   have ⟨K34, z35⟩ := j30.z0 K28
   refine kA [0, 1, 2] <| aV 3 _ (fun W hS => lk hS) <| kA [4] <| aV 5 _ (fun W hS => dtT ((k : Int) < (l : Int))) <| kA [6, 7, 8, 9, 10] <| aV 11 _ (fun W hS => lk hS) <| aV 12 (iN (l - k)) (fun W hS => exec_cast (congrArg (Value.int .i64) (wrapI ((l : Int) - (k : Int)) _ (by omega) (by omega) (by omega))) (by kernel_rfl)) <| kA [13] <| kA [14, 15] <| aV 16 _ (fun W hS => lk hS) <| aV 17 _ (fun W hS => len_ (some ⟨d.s, 0, none⟩) d.n d.cap underlying190) <| aV 18 _ (fun W hS => dtT ((((l - k : Nat) : Int)) < (d.n : Int))) <| kA [19] <| ane <| then_n <| y_ <| s_ <| tq_ <| bl_ 1 <| rgp 15 (zo15_ (qo20_0 196)) [qo20_0 196 15] fun V37 j37 => ?_
   have ⟨h38, h39⟩ := j37.k2 h31 h32
   have h40 : ∀ (j : Nat) (cs : Array Value), HP V27 j cs 37 → HP V37 j cs 37 := fun j cs e => j37.odd (Odd.nob _) (h33 j cs e)
   have ⟨K41, z42⟩ := j37.z0 K34
   refine ks 3 <| spq _ (lk h38) <| ks 3 <| spq _ (lk h38) <| ks 3 <| spq _ (lk h38) <| spq _ (len_ (some ⟨d.s, 0, none⟩) d.n d.cap underlying190) <| spq (iN (k % d.n)) (exec_rem 3 3 (.tmp 54) (.tmp 59) (by kernel_rfl) k d.n (by kernel_rfl) (by kernel_rfl) hn0) <| spq (pT d.s (k % d.n)) (exec_cast (v := pT d.s (0 + (k % d.n) * 1)) (by simp) (ixs d.s 0 d.n d.cap .i64 (k % d.n) 1 underlying190 (by omega))) <| st_end ?_
   obtain ⟨V43, eV43, j43⟩ := cell_step V37 d.s (k % d.n) (.pointer none)
   have h44 : HP V43 d.s (Slots d.n (upS S' (k % d.n) none) d.rest) 168 := eV43 ▸ ((heap_setCell_same _ d.s (k % d.n) _ _ (.pointer none) h39).trans (congrArg (fun c => some (Obj.cells c 168 (0, 0))) (show (Slots d.n S' d.rest : Array Value).setIfInBounds (k % d.n) (.pointer none) = Slots d.n (upS S' (k % d.n) none) d.rest from Slots.set' (Nat.mod_lt _ hn0) none rfl)))
   refine ls_skip (qo20_0 196 15) (w' := V43) (by kernel_rfl) (by rw [← eV43]; exact exec_store_cell 168 (.tmp 61) (.const (.pointer none)) (by kernel_rfl) d.s (k % d.n) (by kernel_rfl) (.pointer none) (by kernel_rfl) (by kernel_rfl) (by kernel_rfl) (ptrV (S' (k % d.n))) (rc h39 ((Slots.get (Nat.mod_lt _ hn0)).trans (congrArg some (rfl)))) (frozen_of_row _ _ _ _ _ h39) (by kernel_rfl)) ?_
   clear eV43
   have h45 := j43.bO h38
   have h46 : ∀ (j : Nat) (cs : Array Value), HP V27 j cs 37 → HP V43 j cs 37 := fun j cs e => j43.odd (Odd.one h39 (by decide)) (h40 j cs e)
   have K47 : Keeps ((fun j => j = d.g ∨ j = d.s)) w V43 := K41.then j43 (fun i hi hm => by unfold Own.One at hm; subst hm; exact .inr rfl)
   have z48 := j43.size
   refine ls_end <| blk_n <| tr_ nl8_ <| kk 3 <| pP (lk h45) <| pP (cwN (n := k + 1)) <| kk 2 <| pce 3 d.g 2 (iN (k + 1)) (#[.func (.func 125) #[] #[], sS d.s d.n d.cap, iI ((k + 1 : Nat) : Int)]) h45 (rc h45 (by kernel_rfl)) (by kernel_rfl) (u := iN k) fun V49 h50 j49 => ?_
   have h51 : ∀ (j : Nat) (cs : Array Value), HP V27 j cs 37 → HP V49 j cs 37 := fun j cs e => j49.odd (Odd.one h45 (by decide)) (h46 j cs e)
   have h52 := j49.bO h44
   have K53 := K47.nw j49 (.inl rfl)
   have z54 := j49.size
   refine et_ ?_
   refine ⟨⟨k + 1, upS S' (k % d.n) none, fq, by omega, by omega, K53, (by have hx := Ring.step hR h51 (by show k < 4294967296; omega) h50 h52; dsimp only at hx; rw [mvV_mvV (show (k : Int) ≤ ((k + 1 : Nat) : Int) by omega)] at hx; exact hx)⟩, ?_⟩
   show l - lowAt V49 d.g < l - lowAt V27 d.g; rw [lowAt_of h50, lowAt_of hg0]; omega
  ·have eq_k : k = l := by omega
   have hRl : RingB V27 { d with low := l, V := mvV d.V (l : Int), S := S' } := eq_k ▸ hR
   have hg1 : HP V27 d.g (#[.func (.func 125) #[] #[], sS d.s d.n d.cap, iI (l : Int)]) 192 := hRl.ring
   refine q_ <| q_ <| anp 20 (fun W => (HP W d.g (#[.func (.func 125) #[] #[], sS d.s d.n d.cap, iI (l : Int)]) 192)) fun V55 j55 => ?_
   have ⟨h56, h57⟩ := j55.k2 hg1 hs0
   have h58 : ∀ (j : Nat) (cs : Array Value), HP V27 j cs 37 → HP V55 j cs 37 := fun j cs e => j55.odd (Odd.nob _) ((fun _ _ e => e) j cs e)
   have ⟨K59, z60⟩ := j55.z0 K28
   refine kA [0, 1, 2] <| aV 3 _ (fun W hS => lk hS) <| kA [4] <| aV 5 _ (fun W hS => dtF ((l : Int) < (l : Int))) <| kA [6, 7, 8, 9, 10, 11, 12, 13] <| kA [14, 15, 16, 17, 18, 19] <| ane <| then_n <| n_ <| sy_exit 0 (by kernel_rfl) <| then_e <| then_e <| blk_e <| tr_ nl5_ <| kk 4 <| pce 3 d.g 2 (iN l) (#[.func (.func 125) #[] #[], sS d.s d.n d.cap, iI (l : Int)]) h56 (rc h56 (by kernel_rfl)) (by kernel_rfl) (u := iN l) fun V61 h62 j61 => ?_
   have h63 := j61.bO h57
   have h64 : ∀ (j : Nat) (cs : Array Value), HP V27 j cs 37 → HP V61 j cs 37 := fun j cs e => j61.odd (Odd.one h56 (by decide)) (h58 j cs e)
   have K65 := K59.nw j61 (.inl rfl)
   have z66 := j61.size
   refine ps_end <| sy_fall (.tuple #[]) rfl (by kernel_rfl) ?_
   exact ⟨rfl, _, Ring.same hRl h62 h63 h64, K65⟩
theorem gmoveB_ok (d : RD Pro) (l : Nat) (w : World) (H : RingB w d) (hl0 : d.low ≤ l) (hl3 : l ≤ 4294967296) : Calls prog 117 #[pT d.g 0, iI (l : Int)] w fun e w' => e = .returned (.tuple #[]) ∧ ∃ S', RingB w' { d with low := l, V := mvV d.V (l : Int), S := S' } ∧ Keeps (fun j => j = d.g ∨ j = d.s) w w' := by
 by_cases h : d.low + d.n ≤ l
 ·exact (gmoveB_far d l w H h hl3).mono fun e w' ⟨he, hr, k⟩ => ⟨he, _, hr, k⟩
 ·exact gmoveB_near d l w H hl0 (by omega) hl3
theorem Slots.src {w : World} {s n cap : Nat} {S : Nat → Option Nat} {rest : List Value} {T : TypeId} (h : HP w s (Slots n S rest) T) : SrcO w 1 (sS s n cap) n ((List.range n).map fun k => ptrV (S k)) := by
 refine ⟨by simp, fun u hu => ?_, .inr ⟨_, _, rfl, fun j u hj => ?_⟩⟩
 ·obtain ⟨k, _, rfl⟩ := List.mem_map.1 hu; exact ptrV_one _
 ·have hj2 : j < n := by have := (List.getElem?_eq_some_iff.1 hj).1; simpa using this
  rw [List.getElem?_map, List.getElem?_range hj2] at hj
  simp only [Addr.add_lit, Nat.zero_add]
  exact rc h ((Slots.get hj2).trans hj)
theorem Row.slots {w : World} {n : Nat} {S : Nat → Option Nat} {v : Value} {e : TypeId} (h : Row w e 1 v n ((List.range n).map fun k => ptrV (S k))) (hn : 0 < n) : ∃ g cap rest, v = sS g n cap ∧ HP w g (Slots n S rest) e := by
 rcases h.2 with ⟨_, h0⟩ | ⟨g, cap, cur, rfl, _, hg, h1, h2, h3, h4⟩
 ·omega
 ·refine ⟨g, cap, cur.toList.drop n, rfl, hg.trans ?_⟩
  congr 2
  apply Array.toList_inj.1
  unfold Slots
  simp only
  rw [← h4]
  simp
def qc21_1 (n : Nat) : Code := partOf f126 n
theorem gmade_ok (n low : Nat) (w : World) (q1 : 1 ≤ n) (q2 : n ≤ 256000) (q3 : low ≤ 4294967296) :
  Calls prog 126 #[iI (n : Int), iI (low : Int), .func (.func 124) #[] #[]] w (fun e w' => ∃ g s, e = .returned (pT g 0) ∧ RingA w' ⟨g, s, low, n, n, fun _ => none, fun _ => none, []⟩ ∧ w.heap.size ≤ g ∧ w.heap.size ≤ s ∧ Keeps Nob w w') := by
 obtain ⟨i0, hi0, hz0, hz1, hz2⟩ := info_parts a_ptr_info
 have K0 := kz0 w
 refine sf_ (qc21_1 1) func126 <| qr_ [0] <| kk 1 <| eqr_ nl7_ <| kk 2 ?_
 obtain ⟨V1, eV1, s, es, h2, j1⟩ := alloc_step w (madeCells (Value.pointer none).cells (n * i0.size)) 185
 have h3 : HP V1 s (Slots n (fun _ => none) []) 185 := h2.trans (by rw [hz1]; exact congrArg (fun c => some (Obj.cells c 185 (0, 0))) (Slots.made n))
 refine prq (sS s n n) (w' := V1) (by rw [← eV1, ← es]; exact exec_makeSlice 182 (.tmp 8) (.tmp 8) (by kernel_rfl) 185 i0 (.pointer none) underlying182 hi0 hz0 n (by kernel_rfl) (by kernel_rfl) (by rw [hz2]; omega) (by omega)) ?_
 clear eV1
 have ns : w.heap.size ≤ s := es ▸ K0.size
 have ⟨K4, z5⟩ := j1.z0 K0
 refine kk 2 <| pbx 184 (#[.func (.func 124) #[] #[], sS s n n, iI (low : Int)]) (.agg #[.func (.func 124) #[] #[], sS s n n, iN low]) fun V6 g eg h7 j6 => ?_
 have := nqk1 eg h3 K4
 have ⟨K11, z12, h10⟩ := j6.z1 K4 h3
 refine kk 1 <| eu_ <| so_ (pT g 0) ?_
 exact ⟨g, s, rfl, Ring.made h7 h10 q1 q2 q3, by omega, ns, K11⟩
def qc21_2 (n : Nat) : Code := partOf f143 n
abbrev qo21_2 (n k : Nat) : Oper := (opsAt (qc21_2 n)).getD k default
theorem rclone_ok (s n cap : Nat) (S : Nat → Option Nat) (rest : List Value) (w : World) (q1 : 1 ≤ n) (q2 : n ≤ 256000) (hs : HP w s (Slots n S rest) 185) :
  Calls prog 143 #[sS s n cap] w (fun e w' => ∃ g cap' rest', e = .returned (sS g n cap') ∧ HP w' g (Slots n S rest') 185 ∧ w.heap.size ≤ g ∧ Keeps Nob w w') := by
 obtain ⟨i0, hi0, hz0, hz1, hz2⟩ := info_parts a_ptr_info
 have lts := lt_of_block hs
 have K0 := kz0 w
 refine sf_ (qc21_2 1) func143 <| qr_ [0] <| kk 1 <| eq_ <| qr_ [0, 1] <| kk 1 <| ppq (.bool false) (exec_cast (congrArg Value.bool rfl) (exec_binop .eql 182 182 (.tmp 3) (.const (.slice none 0 0)) (by kernel_rfl) (sS s n cap) (.slice none 0 0) _ (by kernel_rfl) (by kernel_rfl) (by kernel_rfl) (Lib.run_eql_slice_nil _ 182 185 _ _ _ _ _ underlying182))) <| en_ <| s_ <| tqr_ [0, 1, 2, 3] ?_
 obtain ⟨V1, eV1, x, ex, h2, j1⟩ := alloc_step w #[] 185
 have n3 := nk ex K0
 refine prq (sS x 0 0) (w' := V1) (by rw [← eV1, ← ex]; kernel_rfl) ?_
 have h4 : HP V1 s (Slots n S rest) 185 := j1.bk hs
 have K5 := K0.nn j1
 refine kk 1 ?_
 have h6 : Row V1 185 1 (sS x 0 0) 0 [] := row_of_block h2 rfl (by decide)
 have hw7 : NewFrom w.heap.size (sS x 0 0) := NewFrom.ptr (by omega) _ _
 obtain ⟨v8, V9, hr10, h11, hg12, hn13, ha14⟩ := run_append_any (P := prog) (w := V1) 182 (Oper.type (qo21_2 14 2)) 185 i0 (.pointer none) 1 8 underlying182 hi0 hz0 hz1 hz2 rfl (by decide) (sS x 0 0) 0 [] h6 (sS s n cap) n ((List.range n).map fun k => ptrV (S k)) (Slots.src h4) (by unfold maxLen; omega) (by omega)
 have j9 : Keeps (fun j => (sS x 0 0 : Value).ownBlock = some j) V1 V9 := Keeps.rowAdd hg12
 have hw15 : NewFrom w.heap.size v8 := hw7.next K5.size ha14
 refine prq v8 (w' := V9) (exec_append (.tmp 5) (.tmp 6) 182 (by kernel_rfl) (sS x 0 0) (sS s n cap) (by kernel_rfl) (by kernel_rfl) hr10) ?_
 have h16 : Row V9 185 1 v8 n ((List.range n).map fun k => ptrV (S k)) := (by rw [Nat.zero_add, List.nil_append] at h11; exact h11)
 have K18 := K5.nr j9 hw7
 refine kk 1 <| eu_ <| so_ (v8) ?_
 obtain ⟨g, cap', rest', hv, hg⟩ := Row.slots h16 q1
 have hw := hw15 g (by rw [hv]; rfl)
 exact ⟨g, cap', rest', by rw [hv], hg, hw, K18⟩
def qc21_4 (n : Nat) : Code := partOf f110 n
theorem gcop_ok (d : RD Att) (w : World) (H : RingA w d) :
  Calls prog 110 #[pT d.g 0] w (fun e w' => ∃ g s cap rest, e = .returned (pT g 0) ∧ RingA w' ⟨g, s, d.low, d.n, cap, d.V, d.S, rest⟩ ∧ w.heap.size ≤ g ∧ w.heap.size ≤ s ∧ Keeps Nob w w') := by
 have K0 := kz0 w
 refine sf_ (qc21_4 1) func110 <| qr_ [0] <| kk 1 <| eq_ <| anp 16 (fun W => (HP W d.g (#[.func (.func 124) #[] #[], sS d.s d.n d.cap, iI (d.low : Int)]) 184) ∧ (RingA W d)) fun V1 j1 => ?_
 have h2 := j1.bk H.ring
 have h3 := H.keepsN j1
 have ⟨K4, z5⟩ := j1.z0 K0
 refine kA [0, 1, 2] <| aV 3 _ (fun W hS => lk hS.1) <| kA [4, 5, 6] <| aV 7 _ (fun W hS => lk hS.1) <| kA [9, 10, 11] <| aV 12 _ (fun W hS => lk hS.1) <| an_o 8 ?_
 refine nct ((rclone_ok d.s d.n d.cap d.S d.rest _ H.n1 H.n2 h3.slots).mono ?_)
 rintro e V6 ⟨s', cap', rest', rfl, hs', ns', j6⟩
 have ns2 : w.heap.size ≤ s' := Nat.le_trans K4.size ns'
 refine ⟨_, rfl, ?_⟩
 have h7 := j6.bk h2
 have h8 := h3.keepsN j6
 have ⟨K9, z10⟩ := j6.z0 K4
 refine ⟨⟨h7, h8⟩, ?_⟩
 refine kA [13] <| an_o 14 <| nbx 184 (#[.func (.func 124) #[] #[], sS s' d.n cap', iI (d.low : Int)]) (.agg #[.func (.func 124) #[] #[], sS s' d.n cap', iN d.low]) fun V11 g eg h12 j11 => ?_
 have n13 := nl eg h7
 have n14 : s' < g := eg ▸ lt_of_block hs'
 have n15 := nk eg K9
 have h16 := j11.bk h7
 have h17 := h8.keepsN j11
 have h18 := j11.bk hs'
 have ⟨K19, z20⟩ := j11.z0 K9
 refine ⟨⟨h16, h17⟩, ?_⟩
 refine ako 15 ?_
 refine ane <| then_n <| u_ <| so_ (pT g 0) ?_
 exact ⟨g, s', cap', rest', rfl, Ring.copy H K19 h12 h18, by omega, ns2, K19⟩
def qc21_3 (n : Nat) : Code := partOf f73 n
theorem gall_ok (g : Nat) (w : World) :
  Calls prog 73 #[pT g 0] w (fun e w' => ∃ bx, e = .returned (.func (.func 112) #[] #[pT bx 0]) ∧ HP w' bx #[pT g 0] 119 ∧ w.heap.size ≤ bx ∧ Keeps Nob w w') := by
 have K0 := kz0 w
 refine sf_ (qc21_3 1) func73 <| qr_ [0, 1] <| pbx 119 (#[pT g 0]) (pT g 0) fun V1 bx ebx h2 j1 => ?_
 have n3 := nk ebx K0
 have ⟨K4, z5⟩ := j1.z0 K0
 refine kk 1 <| eqr_ [0, 1] <| kk 2 <| eu_ <| so_ (.func (.func 112) #[] #[pT bx 0]) ?_
 exact ⟨bx, rfl, h2, by omega, K4⟩
def gall1S (bx : Nat) (d : RD Att) (W : World) : Prop := HP W bx #[pT d.g 0] 119 ∧ RingA W d
theorem gall1S.turn {bx : Nat} {d : RD Att} {A B : World} {b : Nat} (h : gall1S bx d A) (t : Turn b Nob A B) : gall1S bx d B :=
 ⟨t.same _ _ h.1 (fun x => x) (.inr rfl), h.2.mono fun j cs T _ e => t.same _ _ e (fun x => x) (.inr rfl)⟩
theorem gall1_cases {d : RD Att} {W : World} (H : RingA W d) (k : Nat) (hk : k ≤ d.n) : (k < d.n ∧ d.V ((d.low + k : Nat) : Int) = none ∧ slotOf d ((d.low + k : Nat) : Int) = none) ∨
  (∃ a p, k < d.n ∧ d.V ((d.low + k : Nat) : Int) = some a ∧ slotOf d ((d.low + k : Nat) : Int) = some p ∧ HP W p a.c 28 ∧ a.Ok) ∨ k = d.n := by
 by_cases h : k < d.n
 ·rcases H.none_or ((d.low + k : Nat) : Int) with ⟨h1, h2⟩ | ⟨a, p, h1, h2, h3, _, _, _, h4⟩
  ·exact .inl ⟨h, h1, h2⟩
  ·exact .inr (.inl ⟨a, p, h, h1, h2, h3, h4⟩)
 ·exact .inr (.inr (by omega))
def qc21_0 (n : Nat) : Code := partOf f112 n
abbrev qo21_0 (n k : Nat) : Oper := (opsAt (qc21_0 n)).getD k default
theorem gall1_seq (bx : Nat) (d : RD Att) (fz : Nat) :
  SeqOwn Fence.wide fz prog 112 #[pT bx 0] (fun x : Att => #[.agg x.c]) (items d.V d.low d.n) Nob (fun _ => gall1S bx d) := by
 intro l J Jx W0 hJ hJx hY h0 hS0
 obtain ⟨hb0, hr0⟩ := hS0
 have hn1 := hr0.n1
 have hn2 := hr0.n2
 have hl2 := hr0.l2
 refine syW_enter (qc21_0 1) ⟨fr [.func (.yield l) #[] #[], pT bx 0] 30, []⟩ func112 (by kernel_rfl) (by kernel_rfl) <| syI_seq (qc21_0 2) (qc21_0 3) (by kernel_rfl) <| syW_reg <| rg_plain 0 (opsAt (qc21_0 2)) nl6_ (by kernel_rfl) (by kernel_rfl) <| pP (lk hb0) <| kk 2 <| pP (lk (hr0.ring)) <| pP (len_ (some ⟨d.s, 0, none⟩) d.n d.cap underlying182) <| kk 1 <| et_ <| syI_block 0 (qc21_0 6) (by kernel_rfl) ?_
 refine syI_loop (qc21_0 12) (fun a V => ∃ (k : Nat) (u3 u4 u11 u12 u13 u14 u15 u16 u17 u18 u19 u20 u21 u22 u23 u24 u25 u26 u27 u28 u29 u30 u31 : Value), (a = ⟨#[.func (.yield l) #[] #[], pT bx 0, ud, u3, u4, pT d.g 0, pT d.g 0, pT d.g 1, sS d.s d.n d.cap, iN d.n, iN k, u11, u12, u13, u14, u15, u16, u17, u18, u19, u20, u21, u22, u23, u24, u25, u26, u27, u28, u29, u30, u31], []⟩) ∧ (k ≤ d.n) ∧ (J (cnt d.V d.low k) V) ∧ (HP V bx (#[pT d.g 0]) 119) ∧ (RingA V d) ∧ (HP V d.g (#[.func (.func 124) #[] #[], sS d.s d.n d.cap, iN d.low]) 184)) (fun a _ => d.n - (intOf (a.tmps.getD 10 undef)).toNat) (by kernel_rfl) ?_ ?_
 ·exact ⟨0, undef, undef, undef, undef, undef, undef, undef, undef, undef, undef, undef, undef, undef, undef, undef, undef, undef, undef, undef, undef, undef, undef, undef, by kernel_rfl, Nat.zero_le _, h0, hb0, hr0, hr0.ring⟩
 ·rintro a V1 ⟨k, u3, u4, u11, u12, u13, u14, u15, u16, u17, u18, u19, u20, u21, u22, u23, u24, u25, u26, u27, u28, u29, u30, u31, rfl, hk0, h2, h3, h4, h5⟩
  rcases gall1_cases h4 k hk0 with ⟨hk, hv, hs⟩ | ⟨a, p, hk, hv, hs, hp, ha⟩ | hk
  ·skip
   refine syI_seq (qc21_0 24) (qc21_0 25) (by kernel_rfl) <| syW_reg <| rg_plain 1 (opsAt (qc21_0 24)) [0] (by kernel_rfl) (by kernel_rfl) <| pP (dtT ((k : Int) < (d.n : Int))) <| et_ <| syI_seq (qc21_0 50) (qc21_0 51) (by kernel_rfl) <| syI_yes (.tmp 11) (qc21_0 100) (qc21_0 101) (by kernel_rfl) (by kernel_rfl) <| syI_skip (by kernel_rfl) <| then_n <| syI_seq (qc21_0 102) (qc21_0 103) (by kernel_rfl) <| syI_block 1 (qc21_0 204) (by kernel_rfl) <| syI_seq (qc21_0 408) (qc21_0 409) (by kernel_rfl) <| syW_reg <| rg_plain 2 (opsAt (qc21_0 408)) [0, 1] (by kernel_rfl) (by kernel_rfl) <| kk 2 <| et_ <| syI_seq (qc21_0 818) (qc21_0 819) (by kernel_rfl) <| syI_np <| syW_reg <| anb 9 (fun W => (HP W bx (#[pT d.g 0]) 119) ∧ (HP W d.g (#[.func (.func 124) #[] #[], sS d.s d.n d.cap, iI (d.low : Int)]) 184) ∧ (RingA W d)) zl6_ ?_
   obtain ⟨V7, eV7, j7⟩ := drew_step V1
   rw [eV7]
   clear eV7
   have h8 : J (cnt d.V d.low k) V7 := (hJ _ _ _ h2 j7)
   have h9 := j7.bk h3
   have h10 := h4.keepsN j7
   have h11 := j7.bk h5
   refine aV 0 _ (fun W hS => lk hS.1) <| aV 1 _ (fun W hS => lk hS.1) <| kA [2, 3] <| aV 4 _ (fun W hS => lk hS.2.1) <| kA [5] <| aV 6 _ (fun W hS => cwN (n := d.low + k)) <| an_o 7 <| ncr 113 #[pT d.g 0, iN (d.low + k)] func113 (gat_none _ _ h10 hs) fun V12 j12 => ?_
   have h13 : J (cnt d.V d.low k) V12 := (hJ _ _ _ h8 j12)
   have h14 := j12.bk h9
   have h15 := h10.keepsN j12
   have h16 := j12.bk h11
   refine ⟨⟨h14, h16, h15⟩, ?_⟩
   refine ako 8 ?_
   refine ane <| then_n <| syI_seq (qc21_0 1638) (qc21_0 1639) (by kernel_rfl) <| rg_yield 4 (opsAt (qc21_0 1638)) nl10_ (by kernel_rfl) (by kernel_rfl) <| pi_run (qo21_0 1638 0) (.pointer none) (w' := V12) (by kernel_rfl) (by kernel_rfl) (by kernel_rfl) <| pi_run (qo21_0 1638 1) (.bool false) (w' := V12) (by kernel_rfl) (by kernel_rfl) (by kernel_rfl) <| pi_run (qo21_0 1638 2) (.bool false) (w' := V12) (by kernel_rfl) (by kernel_rfl) (by kernel_rfl) <| pi_no (qo21_0 1638 3) (by kernel_rfl) (by kernel_rfl) <| pi_no (qo21_0 1638 4) (by kernel_rfl) (by kernel_rfl) <| pi_no (qo21_0 1638 5) (by kernel_rfl) (by kernel_rfl) <| pi_no (qo21_0 1638 6) (by kernel_rfl) (by kernel_rfl) <| pi_no (qo21_0 1638 7) (by kernel_rfl) (by kernel_rfl) <| pi_no (qo21_0 1638 8) (by kernel_rfl) (by kernel_rfl) <| pi_run (qo21_0 1638 9) (.bool false) (w' := V12) (by kernel_rfl) (by kernel_rfl) (by kernel_rfl) <| pi_end <| then_n <| syI_no (.tmp 30) (qc21_0 3278) (qc21_0 3279) (by kernel_rfl) (by kernel_rfl) <| syI_skip (by kernel_rfl) <| blk_n <| then_n <| syW_reg <| rg_plain 5 (opsAt (qc21_0 103)) [0, 1] (by kernel_rfl) (by kernel_rfl) <| pP (cwN (n := k + 1)) <| kk 1 <| ps_end <| then_n ?_
   refine ⟨⟨k + 1, (iN k), (.pointer none), (.bool true), (iN k), (pT d.g 0), (pT d.g 0), (pT d.g 0), (pT d.g 2), (iN d.low), (iN k), (iN (d.low + k)), (.pointer none), (.pointer none), (.bool false), (.bool false), undef, undef, undef, undef, undef, undef, (.bool false), (iN (k + 1)), by kernel_rfl, by omega, (by rw [cnt_none hv]; exact h13), h14, h15, h16⟩, ?_⟩
   exact ltm (d.n - (k + 1)) (d.n - k)
  ·skip
   refine syI_seq (qc21_0 24) (qc21_0 25) (by kernel_rfl) <| syW_reg <| rg_plain 1 (opsAt (qc21_0 24)) [0] (by kernel_rfl) (by kernel_rfl) <| pP (dtT ((k : Int) < (d.n : Int))) <| et_ <| syI_seq (qc21_0 50) (qc21_0 51) (by kernel_rfl) <| syI_yes (.tmp 11) (qc21_0 100) (qc21_0 101) (by kernel_rfl) (by kernel_rfl) <| syI_skip (by kernel_rfl) <| then_n <| syI_seq (qc21_0 102) (qc21_0 103) (by kernel_rfl) <| syI_block 1 (qc21_0 204) (by kernel_rfl) <| syI_seq (qc21_0 408) (qc21_0 409) (by kernel_rfl) <| syW_reg <| rg_plain 2 (opsAt (qc21_0 408)) [0, 1] (by kernel_rfl) (by kernel_rfl) <| kk 2 <| et_ <| syI_seq (qc21_0 818) (qc21_0 819) (by kernel_rfl) <| syI_np <| syW_reg <| anb 9 (fun W => (HP W bx (#[pT d.g 0]) 119) ∧ (HP W d.g (#[.func (.func 124) #[] #[], sS d.s d.n d.cap, iI (d.low : Int)]) 184) ∧ (RingA W d)) zl6_ ?_
   obtain ⟨V17, eV17, j17⟩ := drew_step V1
   rw [eV17]
   clear eV17
   have h18 : J (cnt d.V d.low k) V17 := (hJ _ _ _ h2 j17)
   have h19 := j17.bk h3
   have h20 := h4.keepsN j17
   have ⟨h21, h22⟩ := j17.k2 h5 hp
   refine aV 0 _ (fun W hS => lk hS.1) <| aV 1 _ (fun W hS => lk hS.1) <| kA [2, 3] <| aV 4 _ (fun W hS => lk hS.2.1) <| kA [5] <| aV 6 _ (fun W hS => cwN (n := d.low + k)) <| an_o 7 <| ncr 113 #[pT d.g 0, iN (d.low + k)] func113 (gat_some _ p _ h20 hs) fun V23 j23 => ?_
   have h24 : J (cnt d.V d.low k) V23 := (hJ _ _ _ h18 j23)
   have h25 := j23.bk h19
   have h26 := h20.keepsN j23
   have ⟨h27, h28⟩ := j23.k2 h21 h22
   refine ⟨⟨h25, h27, h26⟩, ?_⟩
   refine ako 8 ?_
   refine ane <| then_n <| syI_seq (qc21_0 1638) (qc21_0 1639) (by kernel_rfl) <| rg_yield 4 (opsAt (qc21_0 1638)) nl10_ (by kernel_rfl) (by kernel_rfl) <| pi_run (qo21_0 1638 0) (pT p 0) (w' := V23) (by kernel_rfl) (by kernel_rfl) (by kernel_rfl) <| pi_run (qo21_0 1638 1) (.bool true) (w' := V23) (by kernel_rfl) (by kernel_rfl) (by kernel_rfl) <| pi_run (qo21_0 1638 2) (.bool true) (w' := V23) (by kernel_rfl) (by kernel_rfl) (by kernel_rfl) <| pi_run (qo21_0 1638 3) (.func (.yield l) #[] #[]) (w' := V23) (by kernel_rfl) (by kernel_rfl) (by kernel_rfl) <| pi_run (qo21_0 1638 4) (pT p 0) (w' := V23) (by kernel_rfl) (by kernel_rfl) (by kernel_rfl) <| pi_run (qo21_0 1638 5) (pT p 0) (w' := V23) (by kernel_rfl) (by kernel_rfl) (by kernel_rfl) <| pi_run (qo21_0 1638 6) (.agg (Att.c a)) (w' := V23) (by kernel_rfl) (by kernel_rfl) (ldr 28 p h28 (by rw [Att.c_size _ ha.r]; kernel_rfl)) ?_
   refine pi_yield (qo21_0 1638 7) (.tmp 24) l #[.agg (Att.c a)] (by kernel_rfl) (by kernel_rfl) (by kernel_rfl) (by kernel_rfl) (by kernel_rfl) ((hY (cnt d.V d.low k) a _ (items_get hk hv) h24 ⟨h25, h26⟩).mono ?_)
   rintro e V29 (⟨rfl, hj3, hb3, hr3⟩ | ⟨rfl, hx3⟩)
   ·refine ⟨_, rfl, ?_⟩
    refine pi_run (qo21_0 1638 8) (.bool false) (w' := V29) (by kernel_rfl) (by kernel_rfl) (by kernel_rfl) <| pi_run (qo21_0 1638 9) (.bool false) (w' := V29) (by kernel_rfl) (by kernel_rfl) (by kernel_rfl) <| pi_end <| then_n <| syI_no (.tmp 30) (qc21_0 3278) (qc21_0 3279) (by kernel_rfl) (by kernel_rfl) <| syI_skip (by kernel_rfl) <| blk_n <| then_n <| syW_reg <| rg_plain 5 (opsAt (qc21_0 103)) [0, 1] (by kernel_rfl) (by kernel_rfl) <| pP (cwN (n := k + 1)) <| kk 1 <| ps_end <| sy_a ⟨#[.func (.yield l) #[] #[], pT bx 0, ud, iN k, pT p 0, pT d.g 0, pT d.g 0, pT d.g 1, sS d.s d.n d.cap, iN d.n, iN (k + 1), .bool true, iN k, pT d.g 0, pT d.g 0, pT d.g 0, pT d.g 2, iN d.low, iN k, iN (d.low + k), pT p 0, pT p 0, .bool true, .bool true, .func (.yield l) #[] #[], pT p 0, pT p 0, .agg (Att.c a), .bool true, .bool false, .bool false, iN (k + 1)], []⟩ <| then_n ?_
    refine ⟨⟨k + 1, (iN k), (pT p 0), (.bool true), (iN k), (pT d.g 0), (pT d.g 0), (pT d.g 0), (pT d.g 2), (iN d.low), (iN k), (iN (d.low + k)), (pT p 0), (pT p 0), (.bool true), (.bool true), (.func (.yield l) #[] #[]), (pT p 0), (pT p 0), (.agg (Att.c a)), (.bool true), (.bool false), (.bool false), (iN (k + 1)), by kernel_rfl, by omega, (by rw [cnt_some hv]; exact hj3), hb3, hr3, hr3.ring⟩, ?_⟩
    exact ltm (d.n - (k + 1)) (d.n - k)
   ·refine ⟨_, rfl, ?_⟩
    refine pi_run (qo21_0 1638 8) (.bool true) (w' := V29) (by kernel_rfl) (by kernel_rfl) (by kernel_rfl) <| pi_run (qo21_0 1638 9) (.bool true) (w' := V29) (by kernel_rfl) (by kernel_rfl) (by kernel_rfl) <| pi_end <| then_n <| syI_yes (.tmp 30) (qc21_0 3278) (qc21_0 3279) (by kernel_rfl) (by kernel_rfl) <| syI_ret (by kernel_rfl) <| blk_r <| then_r <| then_r <| blk_r <| so_ (.tuple #[]) ?_
    exact ⟨⟨_, rfl⟩, .inr hx3⟩
  ·skip
   refine syI_seq (qc21_0 24) (qc21_0 25) (by kernel_rfl) <| syW_reg <| rg_plain 1 (opsAt (qc21_0 24)) [0] (by kernel_rfl) (by kernel_rfl) <| pP (dtF ((k : Int) < (d.n : Int))) <| et_ <| syI_seq (qc21_0 50) (qc21_0 51) (by kernel_rfl) <| syI_no (.tmp 11) (qc21_0 100) (qc21_0 101) (by kernel_rfl) (by kernel_rfl) <| syI_exit 0 (by kernel_rfl) <| then_e <| then_e <| blk_e <| sy_fall (.tuple #[]) rfl (by kernel_rfl) ?_
   exact ⟨⟨_, rfl⟩, .inl (by have hz := h2; rw [hk] at hz; exact hz)⟩
def qc22_0 (n : Nat) : Code := partOf f127 n
theorem gmadeB_ok (n low : Nat) (w : World) (q1 : 1 ≤ n) (q2 : n ≤ 256000) (q3 : low ≤ 4294967296) :
  Calls prog 127 #[iI (n : Int), iI (low : Int), .func (.func 125) #[] #[]] w (fun e w' => ∃ g s, e = .returned (pT g 0) ∧ RingB w' ⟨g, s, low, n, n, fun _ => none, fun _ => none, []⟩ ∧ w.heap.size ≤ g ∧ w.heap.size ≤ s ∧ Keeps Nob w w') := by
 obtain ⟨i0, hi0, hz0, hz1, hz2⟩ := info_parts b_ptr_info
 have K0 := kz0 w
 refine sf_ (qc22_0 1) func127 <| qr_ [0] <| kk 1 <| eqr_ nl7_ <| kk 2 ?_
 obtain ⟨V1, eV1, s, es, h2, j1⟩ := alloc_step w (madeCells (Value.pointer none).cells (n * i0.size)) 168
 have h3 : HP V1 s (Slots n (fun _ => none) []) 168 := h2.trans (by rw [hz1]; exact congrArg (fun c => some (Obj.cells c 168 (0, 0))) (Slots.made n))
 refine prq (sS s n n) (w' := V1) (by rw [← eV1, ← es]; exact exec_makeSlice 190 (.tmp 8) (.tmp 8) (by kernel_rfl) 168 i0 (.pointer none) underlying190 hi0 hz0 n (by kernel_rfl) (by kernel_rfl) (by rw [hz2]; omega) (by omega)) ?_
 clear eV1
 have ns : w.heap.size ≤ s := es ▸ K0.size
 have ⟨K4, z5⟩ := j1.z0 K0
 refine kk 2 <| pbx 192 (#[.func (.func 125) #[] #[], sS s n n, iI (low : Int)]) (.agg #[.func (.func 125) #[] #[], sS s n n, iN low]) fun V6 g eg h7 j6 => ?_
 have := nqk1 eg h3 K4
 have ⟨K11, z12, h10⟩ := j6.z1 K4 h3
 refine kk 1 <| eu_ <| so_ (pT g 0) ?_
 exact ⟨g, s, rfl, Ring.made h7 h10 q1 q2 q3, by omega, ns, K11⟩
def qc22_2 (n : Nat) : Code := partOf f144 n
abbrev qo22_2 (n k : Nat) : Oper := (opsAt (qc22_2 n)).getD k default
theorem rcloneB_ok (s n cap : Nat) (S : Nat → Option Nat) (rest : List Value) (w : World) (q1 : 1 ≤ n) (q2 : n ≤ 256000) (hs : HP w s (Slots n S rest) 168) :
  Calls prog 144 #[sS s n cap] w (fun e w' => ∃ g cap' rest', e = .returned (sS g n cap') ∧ HP w' g (Slots n S rest') 168 ∧ w.heap.size ≤ g ∧ Keeps Nob w w') := by
 obtain ⟨i0, hi0, hz0, hz1, hz2⟩ := info_parts b_ptr_info
 have lts := lt_of_block hs
 have K0 := kz0 w
 refine sf_ (qc22_2 1) func144 <| qr_ [0] <| kk 1 <| eq_ <| qr_ [0, 1] <| kk 1 <| ppq (.bool false) (exec_cast (congrArg Value.bool rfl) (exec_binop .eql 190 190 (.tmp 3) (.const (.slice none 0 0)) (by kernel_rfl) (sS s n cap) (.slice none 0 0) _ (by kernel_rfl) (by kernel_rfl) (by kernel_rfl) (Lib.run_eql_slice_nil _ 190 168 _ _ _ _ _ underlying190))) <| en_ <| s_ <| tqr_ [0, 1, 2, 3] ?_
 obtain ⟨V1, eV1, x, ex, h2, j1⟩ := alloc_step w #[] 168
 have n3 := nk ex K0
 refine prq (sS x 0 0) (w' := V1) (by rw [← eV1, ← ex]; kernel_rfl) ?_
 have h4 : HP V1 s (Slots n S rest) 168 := j1.bk hs
 have K5 := K0.nn j1
 refine kk 1 ?_
 have h6 : Row V1 168 1 (sS x 0 0) 0 [] := row_of_block h2 rfl (by decide)
 have hw7 : NewFrom w.heap.size (sS x 0 0) := NewFrom.ptr (by omega) _ _
 obtain ⟨v8, V9, hr10, h11, hg12, hn13, ha14⟩ := run_append_any (P := prog) (w := V1) 190 (Oper.type (qo22_2 14 2)) 168 i0 (.pointer none) 1 8 underlying190 hi0 hz0 hz1 hz2 rfl (by decide) (sS x 0 0) 0 [] h6 (sS s n cap) n ((List.range n).map fun k => ptrV (S k)) (Slots.src h4) (by unfold maxLen; omega) (by omega)
 have j9 : Keeps (fun j => (sS x 0 0 : Value).ownBlock = some j) V1 V9 := Keeps.rowAdd hg12
 have hw15 : NewFrom w.heap.size v8 := hw7.next K5.size ha14
 refine prq v8 (w' := V9) (exec_append (.tmp 5) (.tmp 6) 190 (by kernel_rfl) (sS x 0 0) (sS s n cap) (by kernel_rfl) (by kernel_rfl) hr10) ?_
 have h16 : Row V9 168 1 v8 n ((List.range n).map fun k => ptrV (S k)) := (by rw [Nat.zero_add, List.nil_append] at h11; exact h11)
 have K18 := K5.nr j9 hw7
 refine kk 1 <| eu_ <| so_ (v8) ?_
 obtain ⟨g, cap', rest', hv, hg⟩ := Row.slots h16 q1
 have hw := hw15 g (by rw [hv]; rfl)
 exact ⟨g, cap', rest', by rw [hv], hg, hw, K18⟩
def qc22_3 (n : Nat) : Code := partOf f111 n
theorem gcopB_ok (d : RD Pro) (w : World) (H : RingB w d) :
  Calls prog 111 #[pT d.g 0] w (fun e w' => ∃ g s cap rest, e = .returned (pT g 0) ∧ RingB w' ⟨g, s, d.low, d.n, cap, d.V, d.S, rest⟩ ∧ w.heap.size ≤ g ∧ w.heap.size ≤ s ∧ Keeps Nob w w') := by
 have K0 := kz0 w
 refine sf_ (qc22_3 1) func111 <| qr_ [0] <| kk 1 <| eq_ <| anp 16 (fun W => (HP W d.g (#[.func (.func 125) #[] #[], sS d.s d.n d.cap, iI (d.low : Int)]) 192) ∧ (RingB W d)) fun V1 j1 => ?_
 have h2 := j1.bk H.ring
 have h3 := H.keepsN j1
 have ⟨K4, z5⟩ := j1.z0 K0
 refine kA [0, 1, 2] <| aV 3 _ (fun W hS => lk hS.1) <| kA [4, 5, 6] <| aV 7 _ (fun W hS => lk hS.1) <| kA [9, 10, 11] <| aV 12 _ (fun W hS => lk hS.1) <| an_o 8 ?_
 refine nct ((rcloneB_ok d.s d.n d.cap d.S d.rest _ H.n1 H.n2 h3.slots).mono ?_)
 rintro e V6 ⟨s', cap', rest', rfl, hs', ns', j6⟩
 have ns2 : w.heap.size ≤ s' := Nat.le_trans K4.size ns'
 refine ⟨_, rfl, ?_⟩
 have h7 := j6.bk h2
 have h8 := h3.keepsN j6
 have ⟨K9, z10⟩ := j6.z0 K4
 refine ⟨⟨h7, h8⟩, ?_⟩
 refine kA [13] <| an_o 14 <| nbx 192 (#[.func (.func 125) #[] #[], sS s' d.n cap', iI (d.low : Int)]) (.agg #[.func (.func 125) #[] #[], sS s' d.n cap', iN d.low]) fun V11 g eg h12 j11 => ?_
 have n13 := nl eg h7
 have n14 : s' < g := eg ▸ lt_of_block hs'
 have n15 := nk eg K9
 have h16 := j11.bk h7
 have h17 := h8.keepsN j11
 have h18 := j11.bk hs'
 have ⟨K19, z20⟩ := j11.z0 K9
 refine ⟨⟨h16, h17⟩, ?_⟩
 refine ako 15 ?_
 refine ane <| then_n <| u_ <| so_ (pT g 0) ?_
 exact ⟨g, s', cap', rest', rfl, Ring.copy H K19 h12 h18, by omega, ns2, K19⟩
def qc22_4 (n : Nat) : Code := partOf f75 n
theorem gallB_ok (g : Nat) (w : World) :
  Calls prog 75 #[pT g 0] w (fun e w' => ∃ bx, e = .returned (.func (.func 115) #[] #[pT bx 0]) ∧ HP w' bx #[pT g 0] 120 ∧ w.heap.size ≤ bx ∧ Keeps Nob w w') := by
 have K0 := kz0 w
 refine sf_ (qc22_4 1) func75 <| qr_ [0, 1] <| pbx 120 (#[pT g 0]) (pT g 0) fun V1 bx ebx h2 j1 => ?_
 have n3 := nk ebx K0
 have ⟨K4, z5⟩ := j1.z0 K0
 refine kk 1 <| eqr_ [0, 1] <| kk 2 <| eu_ <| so_ (.func (.func 115) #[] #[pT bx 0]) ?_
 exact ⟨bx, rfl, h2, by omega, K4⟩
def gall1BS (bx : Nat) (d : RD Pro) (W : World) : Prop := HP W bx #[pT d.g 0] 120 ∧ RingB W d
theorem gall1BS.turn {bx : Nat} {d : RD Pro} {A B : World} {b : Nat} (h : gall1BS bx d A) (t : Turn b Nob A B) : gall1BS bx d B :=
 ⟨t.same _ _ h.1 (fun x => x) (.inr rfl), h.2.mono fun j cs T _ e => t.same _ _ e (fun x => x) (.inr rfl)⟩
theorem gall1B_cases {d : RD Pro} {W : World} (H : RingB W d) (k : Nat) (hk : k ≤ d.n) : (k < d.n ∧ d.V ((d.low + k : Nat) : Int) = none ∧ slotOf d ((d.low + k : Nat) : Int) = none) ∨
  (∃ a p, k < d.n ∧ d.V ((d.low + k : Nat) : Int) = some a ∧ slotOf d ((d.low + k : Nat) : Int) = some p ∧ HP W p a.c 37 ∧ a.Ok) ∨ k = d.n := by
 by_cases h : k < d.n
 ·rcases H.none_or ((d.low + k : Nat) : Int) with ⟨h1, h2⟩ | ⟨a, p, h1, h2, h3, _, _, _, h4⟩
  ·exact .inl ⟨h, h1, h2⟩
  ·exact .inr (.inl ⟨a, p, h, h1, h2, h3, h4⟩)
 ·exact .inr (.inr (by omega))
def qc22_1 (n : Nat) : Code := partOf f115 n
abbrev qo22_1 (n k : Nat) : Oper := (opsAt (qc22_1 n)).getD k default
theorem gall1B_seq (bx : Nat) (d : RD Pro) (fz : Nat) :
  SeqOwn Fence.wide fz prog 115 #[pT bx 0] (fun x : Pro => #[.agg x.c]) (items d.V d.low d.n) Nob (fun _ => gall1BS bx d) := by
 intro l J Jx W0 hJ hJx hY h0 hS0
 obtain ⟨hb0, hr0⟩ := hS0
 have hn1 := hr0.n1
 have hn2 := hr0.n2
 have hl2 := hr0.l2
 refine syW_enter (qc22_1 1) ⟨fr [.func (.yield l) #[] #[], pT bx 0] 30, []⟩ func115 (by kernel_rfl) (by kernel_rfl) <| syI_seq (qc22_1 2) (qc22_1 3) (by kernel_rfl) <| syW_reg <| rg_plain 0 (opsAt (qc22_1 2)) nl6_ (by kernel_rfl) (by kernel_rfl) <| pP (lk hb0) <| kk 2 <| pP (lk (hr0.ring)) <| pP (len_ (some ⟨d.s, 0, none⟩) d.n d.cap underlying190) <| kk 1 <| et_ <| syI_block 0 (qc22_1 6) (by kernel_rfl) ?_
 refine syI_loop (qc22_1 12) (fun a V => ∃ (k : Nat) (u3 u4 u11 u12 u13 u14 u15 u16 u17 u18 u19 u20 u21 u22 u23 u24 u25 u26 u27 u28 u29 u30 u31 : Value), (a = ⟨#[.func (.yield l) #[] #[], pT bx 0, ud, u3, u4, pT d.g 0, pT d.g 0, pT d.g 1, sS d.s d.n d.cap, iN d.n, iN k, u11, u12, u13, u14, u15, u16, u17, u18, u19, u20, u21, u22, u23, u24, u25, u26, u27, u28, u29, u30, u31], []⟩) ∧ (k ≤ d.n) ∧ (J (cnt d.V d.low k) V) ∧ (HP V bx (#[pT d.g 0]) 120) ∧ (RingB V d) ∧ (HP V d.g (#[.func (.func 125) #[] #[], sS d.s d.n d.cap, iN d.low]) 192)) (fun a _ => d.n - (intOf (a.tmps.getD 10 undef)).toNat) (by kernel_rfl) ?_ ?_
 ·exact ⟨0, undef, undef, undef, undef, undef, undef, undef, undef, undef, undef, undef, undef, undef, undef, undef, undef, undef, undef, undef, undef, undef, undef, undef, by kernel_rfl, Nat.zero_le _, h0, hb0, hr0, hr0.ring⟩
 ·rintro a V1 ⟨k, u3, u4, u11, u12, u13, u14, u15, u16, u17, u18, u19, u20, u21, u22, u23, u24, u25, u26, u27, u28, u29, u30, u31, rfl, hk0, h2, h3, h4, h5⟩
  rcases gall1B_cases h4 k hk0 with ⟨hk, hv, hs⟩ | ⟨a, p, hk, hv, hs, hp, ha⟩ | hk
  ·skip
   refine syI_seq (qc22_1 24) (qc22_1 25) (by kernel_rfl) <| syW_reg <| rg_plain 1 (opsAt (qc22_1 24)) [0] (by kernel_rfl) (by kernel_rfl) <| pP (dtT ((k : Int) < (d.n : Int))) <| et_ <| syI_seq (qc22_1 50) (qc22_1 51) (by kernel_rfl) <| syI_yes (.tmp 11) (qc22_1 100) (qc22_1 101) (by kernel_rfl) (by kernel_rfl) <| syI_skip (by kernel_rfl) <| then_n <| syI_seq (qc22_1 102) (qc22_1 103) (by kernel_rfl) <| syI_block 1 (qc22_1 204) (by kernel_rfl) <| syI_seq (qc22_1 408) (qc22_1 409) (by kernel_rfl) <| syW_reg <| rg_plain 2 (opsAt (qc22_1 408)) [0, 1] (by kernel_rfl) (by kernel_rfl) <| kk 2 <| et_ <| syI_seq (qc22_1 818) (qc22_1 819) (by kernel_rfl) <| syI_np <| syW_reg <| anb 9 (fun W => (HP W bx (#[pT d.g 0]) 120) ∧ (HP W d.g (#[.func (.func 125) #[] #[], sS d.s d.n d.cap, iI (d.low : Int)]) 192) ∧ (RingB W d)) zl6_ ?_
   obtain ⟨V7, eV7, j7⟩ := drew_step V1
   rw [eV7]
   clear eV7
   have h8 : J (cnt d.V d.low k) V7 := (hJ _ _ _ h2 j7)
   have h9 := j7.bk h3
   have h10 := h4.keepsN j7
   have h11 := j7.bk h5
   refine aV 0 _ (fun W hS => lk hS.1) <| aV 1 _ (fun W hS => lk hS.1) <| kA [2, 3] <| aV 4 _ (fun W hS => lk hS.2.1) <| kA [5] <| aV 6 _ (fun W hS => cwN (n := d.low + k)) <| an_o 7 <| ncr 98 #[pT d.g 0, iN (d.low + k)] func98 (gatB_none _ _ h10 hs) fun V12 j12 => ?_
   have h13 : J (cnt d.V d.low k) V12 := (hJ _ _ _ h8 j12)
   have h14 := j12.bk h9
   have h15 := h10.keepsN j12
   have h16 := j12.bk h11
   refine ⟨⟨h14, h16, h15⟩, ?_⟩
   refine ako 8 ?_
   refine ane <| then_n <| syI_seq (qc22_1 1638) (qc22_1 1639) (by kernel_rfl) <| rg_yield 4 (opsAt (qc22_1 1638)) nl10_ (by kernel_rfl) (by kernel_rfl) <| pi_run (qo22_1 1638 0) (.pointer none) (w' := V12) (by kernel_rfl) (by kernel_rfl) (by kernel_rfl) <| pi_run (qo22_1 1638 1) (.bool false) (w' := V12) (by kernel_rfl) (by kernel_rfl) (by kernel_rfl) <| pi_run (qo22_1 1638 2) (.bool false) (w' := V12) (by kernel_rfl) (by kernel_rfl) (by kernel_rfl) <| pi_no (qo22_1 1638 3) (by kernel_rfl) (by kernel_rfl) <| pi_no (qo22_1 1638 4) (by kernel_rfl) (by kernel_rfl) <| pi_no (qo22_1 1638 5) (by kernel_rfl) (by kernel_rfl) <| pi_no (qo22_1 1638 6) (by kernel_rfl) (by kernel_rfl) <| pi_no (qo22_1 1638 7) (by kernel_rfl) (by kernel_rfl) <| pi_no (qo22_1 1638 8) (by kernel_rfl) (by kernel_rfl) <| pi_run (qo22_1 1638 9) (.bool false) (w' := V12) (by kernel_rfl) (by kernel_rfl) (by kernel_rfl) <| pi_end <| then_n <| syI_no (.tmp 30) (qc22_1 3278) (qc22_1 3279) (by kernel_rfl) (by kernel_rfl) <| syI_skip (by kernel_rfl) <| blk_n <| then_n <| syW_reg <| rg_plain 5 (opsAt (qc22_1 103)) [0, 1] (by kernel_rfl) (by kernel_rfl) <| pP (cwN (n := k + 1)) <| kk 1 <| ps_end <| then_n ?_
   refine ⟨⟨k + 1, (iN k), (.pointer none), (.bool true), (iN k), (pT d.g 0), (pT d.g 0), (pT d.g 0), (pT d.g 2), (iN d.low), (iN k), (iN (d.low + k)), (.pointer none), (.pointer none), (.bool false), (.bool false), undef, undef, undef, undef, undef, undef, (.bool false), (iN (k + 1)), by kernel_rfl, by omega, (by rw [cnt_none hv]; exact h13), h14, h15, h16⟩, ?_⟩
   exact ltm (d.n - (k + 1)) (d.n - k)
  ·skip
   refine syI_seq (qc22_1 24) (qc22_1 25) (by kernel_rfl) <| syW_reg <| rg_plain 1 (opsAt (qc22_1 24)) [0] (by kernel_rfl) (by kernel_rfl) <| pP (dtT ((k : Int) < (d.n : Int))) <| et_ <| syI_seq (qc22_1 50) (qc22_1 51) (by kernel_rfl) <| syI_yes (.tmp 11) (qc22_1 100) (qc22_1 101) (by kernel_rfl) (by kernel_rfl) <| syI_skip (by kernel_rfl) <| then_n <| syI_seq (qc22_1 102) (qc22_1 103) (by kernel_rfl) <| syI_block 1 (qc22_1 204) (by kernel_rfl) <| syI_seq (qc22_1 408) (qc22_1 409) (by kernel_rfl) <| syW_reg <| rg_plain 2 (opsAt (qc22_1 408)) [0, 1] (by kernel_rfl) (by kernel_rfl) <| kk 2 <| et_ <| syI_seq (qc22_1 818) (qc22_1 819) (by kernel_rfl) <| syI_np <| syW_reg <| anb 9 (fun W => (HP W bx (#[pT d.g 0]) 120) ∧ (HP W d.g (#[.func (.func 125) #[] #[], sS d.s d.n d.cap, iI (d.low : Int)]) 192) ∧ (RingB W d)) zl6_ ?_
   obtain ⟨V17, eV17, j17⟩ := drew_step V1
   rw [eV17]
   clear eV17
   have h18 : J (cnt d.V d.low k) V17 := (hJ _ _ _ h2 j17)
   have h19 := j17.bk h3
   have h20 := h4.keepsN j17
   have ⟨h21, h22⟩ := j17.k2 h5 hp
   refine aV 0 _ (fun W hS => lk hS.1) <| aV 1 _ (fun W hS => lk hS.1) <| kA [2, 3] <| aV 4 _ (fun W hS => lk hS.2.1) <| kA [5] <| aV 6 _ (fun W hS => cwN (n := d.low + k)) <| an_o 7 <| ncr 98 #[pT d.g 0, iN (d.low + k)] func98 (gatB_some _ p _ h20 hs) fun V23 j23 => ?_
   have h24 : J (cnt d.V d.low k) V23 := (hJ _ _ _ h18 j23)
   have h25 := j23.bk h19
   have h26 := h20.keepsN j23
   have ⟨h27, h28⟩ := j23.k2 h21 h22
   refine ⟨⟨h25, h27, h26⟩, ?_⟩
   refine ako 8 ?_
   refine ane <| then_n <| syI_seq (qc22_1 1638) (qc22_1 1639) (by kernel_rfl) <| rg_yield 4 (opsAt (qc22_1 1638)) nl10_ (by kernel_rfl) (by kernel_rfl) <| pi_run (qo22_1 1638 0) (pT p 0) (w' := V23) (by kernel_rfl) (by kernel_rfl) (by kernel_rfl) <| pi_run (qo22_1 1638 1) (.bool true) (w' := V23) (by kernel_rfl) (by kernel_rfl) (by kernel_rfl) <| pi_run (qo22_1 1638 2) (.bool true) (w' := V23) (by kernel_rfl) (by kernel_rfl) (by kernel_rfl) <| pi_run (qo22_1 1638 3) (.func (.yield l) #[] #[]) (w' := V23) (by kernel_rfl) (by kernel_rfl) (by kernel_rfl) <| pi_run (qo22_1 1638 4) (pT p 0) (w' := V23) (by kernel_rfl) (by kernel_rfl) (by kernel_rfl) <| pi_run (qo22_1 1638 5) (pT p 0) (w' := V23) (by kernel_rfl) (by kernel_rfl) (by kernel_rfl) <| pi_run (qo22_1 1638 6) (.agg (Pro.c a)) (w' := V23) (by kernel_rfl) (by kernel_rfl) (ldr 37 p h28 (by rw [Pro.c_size _ ha.r]; kernel_rfl)) ?_
   refine pi_yield (qo22_1 1638 7) (.tmp 24) l #[.agg (Pro.c a)] (by kernel_rfl) (by kernel_rfl) (by kernel_rfl) (by kernel_rfl) (by kernel_rfl) ((hY (cnt d.V d.low k) a _ (items_get hk hv) h24 ⟨h25, h26⟩).mono ?_)
   rintro e V29 (⟨rfl, hj3, hb3, hr3⟩ | ⟨rfl, hx3⟩)
   ·refine ⟨_, rfl, ?_⟩
    refine pi_run (qo22_1 1638 8) (.bool false) (w' := V29) (by kernel_rfl) (by kernel_rfl) (by kernel_rfl) <| pi_run (qo22_1 1638 9) (.bool false) (w' := V29) (by kernel_rfl) (by kernel_rfl) (by kernel_rfl) <| pi_end <| then_n <| syI_no (.tmp 30) (qc22_1 3278) (qc22_1 3279) (by kernel_rfl) (by kernel_rfl) <| syI_skip (by kernel_rfl) <| blk_n <| then_n <| syW_reg <| rg_plain 5 (opsAt (qc22_1 103)) [0, 1] (by kernel_rfl) (by kernel_rfl) <| pP (cwN (n := k + 1)) <| kk 1 <| ps_end <| sy_a ⟨#[.func (.yield l) #[] #[], pT bx 0, ud, iN k, pT p 0, pT d.g 0, pT d.g 0, pT d.g 1, sS d.s d.n d.cap, iN d.n, iN (k + 1), .bool true, iN k, pT d.g 0, pT d.g 0, pT d.g 0, pT d.g 2, iN d.low, iN k, iN (d.low + k), pT p 0, pT p 0, .bool true, .bool true, .func (.yield l) #[] #[], pT p 0, pT p 0, .agg (Pro.c a), .bool true, .bool false, .bool false, iN (k + 1)], []⟩ <| then_n ?_
    refine ⟨⟨k + 1, (iN k), (pT p 0), (.bool true), (iN k), (pT d.g 0), (pT d.g 0), (pT d.g 0), (pT d.g 2), (iN d.low), (iN k), (iN (d.low + k)), (pT p 0), (pT p 0), (.bool true), (.bool true), (.func (.yield l) #[] #[]), (pT p 0), (pT p 0), (.agg (Pro.c a)), (.bool true), (.bool false), (.bool false), (iN (k + 1)), by kernel_rfl, by omega, (by rw [cnt_some hv]; exact hj3), hb3, hr3, hr3.ring⟩, ?_⟩
    exact ltm (d.n - (k + 1)) (d.n - k)
   ·refine ⟨_, rfl, ?_⟩
    refine pi_run (qo22_1 1638 8) (.bool true) (w' := V29) (by kernel_rfl) (by kernel_rfl) (by kernel_rfl) <| pi_run (qo22_1 1638 9) (.bool true) (w' := V29) (by kernel_rfl) (by kernel_rfl) (by kernel_rfl) <| pi_end <| then_n <| syI_yes (.tmp 30) (qc22_1 3278) (qc22_1 3279) (by kernel_rfl) (by kernel_rfl) <| syI_ret (by kernel_rfl) <| blk_r <| then_r <| then_r <| blk_r <| so_ (.tuple #[]) ?_
    exact ⟨⟨_, rfl⟩, .inr hx3⟩
  ·skip
   refine syI_seq (qc22_1 24) (qc22_1 25) (by kernel_rfl) <| syW_reg <| rg_plain 1 (opsAt (qc22_1 24)) [0] (by kernel_rfl) (by kernel_rfl) <| pP (dtF ((k : Int) < (d.n : Int))) <| et_ <| syI_seq (qc22_1 50) (qc22_1 51) (by kernel_rfl) <| syI_no (.tmp 11) (qc22_1 100) (qc22_1 101) (by kernel_rfl) (by kernel_rfl) <| syI_exit 0 (by kernel_rfl) <| then_e <| then_e <| blk_e <| sy_fall (.tuple #[]) rfl (by kernel_rfl) ?_
   exact ⟨⟨_, rfl⟩, .inl (by have hz := h2; rw [hk] at hz; exact hz)⟩
end
end Go.Proofs.YthmclmbeflbhhaaGreat
namespace Go.Own
section
open Go Go.RowKit
variable {P : Program}
theorem run_eqItems_bytes {e : TypeId} (he : P.plainKey e = true) (hu : P.underlying e = some (.int .u8)) (d : Nat) (l m : List UInt8) (w : World) :
    ∀ (n k : Nat), k + n = l.length → k + n = m.length → (Op.eqItems (d + 1) e 1 (B l).toArray (B m).toArray (List.range' k n)).run P w = .ok (l.drop k == m.drop k) w := by
  intro n
  induction n with
  | zero =>
    intro k h1 h2
    rw [List.drop_of_length_le (by omega), List.drop_of_length_le (by omega)]
    rfl
  | succ n ih =>
    intro k h1 h2
    obtain ⟨x, hx⟩ : ∃ x, l[k]? = some x := ⟨_, List.getElem?_eq_getElem (by omega)⟩
    obtain ⟨y, hy⟩ : ∃ y, m[k]? = some y := ⟨_, List.getElem?_eq_getElem (by omega)⟩
    have e1 := run_part_plain (P := P) w he (xs := (B l).toArray) (off := k) (by simpa using B_get l k x hx)
    have e2 := run_part_plain (P := P) w he (xs := (B m).toArray) (off := k) (by simpa using B_get m k y hy)
    have e3 := run_equalIn_int (P := P) w d e .u8 .u8 (x.toNat : Int) (y.toNat : Int) hu
    rw [List.range'_succ]
    unfold Op.eqItems
    simp only [Nat.mul_one, Sem.run_bind, e1, e2, e3, Result.andThen_ok]
    obtain ⟨hk1, hx'⟩ := List.getElem?_eq_some_iff.1 hx
    obtain ⟨hk2, hy'⟩ := List.getElem?_eq_some_iff.1 hy
    rw [List.drop_eq_getElem_cons hk1, List.drop_eq_getElem_cons hk2, hx', hy']
    by_cases hxy : x = y
    · subst hxy
      simp only [beq_self_eq_true, Bool.not_true, Bool.false_eq_true, if_false]
      rw [ih (k + 1) (by omega) (by omega)]
      simp
    · have hne : ((x.toNat : Int) == (y.toNat : Int)) = false := by
        simp only [beq_eq_false_iff_ne, ne_eq]
        intro h; exact hxy (UInt8.toNat_inj.1 (by omega))
      simp only [hne, Bool.not_false, if_true]
      have h0 : ((x :: l.drop (k + 1)) == (y :: m.drop (k + 1))) = false := by
        simp only [beq_eq_false_iff_ne, ne_eq, List.cons.injEq, not_and]
        intro h; exact absurd h hxy
      rw [h0]
      rfl
theorem run_equalIn_bytes {t e : TypeId} {n : Nat} {i : TypeInfo} (hu : P.underlying t = some (.array n e)) (hi : P.info? e = some i) (he : P.plainKey e = true) (hue : P.underlying e = some (.int .u8)) (hC : P.cellsOf e = 1) (d : Nat) (l m : List UInt8) (w : World)
    (h1 : l.length = n) (h2 : m.length = n) : (Op.equalIn (d + 2) t (.agg (B l).toArray) (.agg (B m).toArray)).run P w = .ok (l == m) w := by
  rw [run_equalIn_array w (d + 1) _ _ hu hi, hC, List.range_eq_range', run_eqItems_bytes he hue d l m w n 0 (by omega) (by omega)]
  rfl
end
end Go.Own
namespace Go.Proofs.YthmclmbeflbhhaaGreat
section
open Go Go.RowKit Go.Own Go.Shelf
theorem eqF_int {d : Nat} {f : Field} {fs : List Field} {xs ys : Array Value} {k : IntKind} {a b : Int} (w : World) (hf : f.name ≠ "_") (ht : prog.underlying f.type = some (.int k)) (hp : prog.plainKey f.type = true) (hx : xs[f.offset]? = some (.int k a)) (hy : ys[f.offset]? = some (.int k b)) :
    (Op.eqFields (d + 1) xs ys (f :: fs)).run prog w = if a = b then (Op.eqFields (d + 1) xs ys fs).run prog w else .ok false w := by
  conv => lhs; unfold Op.eqFields
  rw [if_pos hf]
  simp only [Sem.run_bind, run_part_plain w hp hx, run_part_plain w hp hy, Result.andThen_ok, run_equalIn_int w d f.type k k a b ht]
  by_cases h : a = b
  · simp [h]
  · simp [h]
theorem part_hash (xs : Array Value) (off : Nat) (w : World) : (part 25 xs off).run prog w = .ok (.agg (xs.extract off (off + 32))) w := by
  have h : (sizeOf 25).run prog w = .ok 32 w := by kernel_rfl
  simp [part, isAgg, run_underlying underlying25, h]
theorem eqF_hash {d : Nat} {f : Field} {fs : List Field} {xs ys : Array Value} {l m : List UInt8} (w : World) (hf : f.name ≠ "_") (ht : f.type = 25) (hx : xs.extract f.offset (f.offset + 32) = (B l).toArray) (hy : ys.extract f.offset (f.offset + 32) = (B m).toArray) (hl : l.length = 32) (hm : m.length = 32) :
    (Op.eqFields (d + 2) xs ys (f :: fs)).run prog w = if l = m then (Op.eqFields (d + 2) xs ys fs).run prog w else .ok false w := by
  obtain ⟨i0, hi, _, _, _⟩ := info_parts u8_info0
  have h := run_equalIn_bytes (P := prog) (t := 25) (e := 5) (n := 32) underlying25 hi (by kernel_rfl) underlying5 (by kernel_rfl) d l m w hl hm
  conv => lhs; unfold Op.eqFields
  rw [if_pos hf]
  simp only [ht, Sem.run_bind, part_hash, Result.andThen_ok, hx, hy, h]
  by_cases h : l = m
  · simp [h]
  · simp [h]
theorem Att.c_ext (a : Att) (h : a.r.length = 32) : a.c.extract 3 35 = (B a.r).toArray := by
  apply Array.toList_inj.1
  rw [Array.toList_extract]
  simp only [Att.c, List.extract_eq_take_drop, List.drop_succ_cons, List.drop_zero, Nat.reduceSub]
  rw [List.take_append_of_le_length (by rw [B_length]; omega), List.take_of_length_le (by rw [B_length]; omega)]
theorem Pro.c_ext (a : Pro) (h : a.r.length = 32) : a.c.extract 2 34 = (B a.r).toArray := by
  apply Array.toList_inj.1
  rw [Array.toList_extract]
  simp only [Pro.c, List.extract_eq_take_drop, List.drop_succ_cons, List.drop_zero, Nat.reduceSub]
  rw [List.take_append_of_le_length (by rw [B_length]; omega), List.take_of_length_le (by rw [B_length]; omega)]
theorem att_guard : prog.eqGuardType prog.depth 28 = false := by kernel_rfl
theorem pro_guard : prog.eqGuardType prog.depth 37 = false := by kernel_rfl
theorem att_equal (a b : Att) (ha : a.r.length = 32) (hb : b.r.length = 32) (w : World) : (Op.equalIn 10000 28 (.agg a.c) (.agg b.c)).run prog w = .ok (decide (a = b)) w := by
  rw [run_equalIn_struct w 9999 28 _ _ (by kernel_rfl) (by kernel_rfl)]
  simp only [Program.fieldsOf, underlying28]
  rw [eqF_int (d := 9998) (k := .i64) (a := a.v) (b := b.v) w (by decide) underlying3 (by kernel_rfl) (Att.c_0 a) (Att.c_0 b), eqF_int (d := 9998) (k := .i64) (a := a.s) (b := b.s) w (by decide) underlying3 (by kernel_rfl) (Att.c_1 a) (Att.c_1 b),
    eqF_int (d := 9998) (k := .i64) (a := a.t) (b := b.t) w (by decide) underlying3 (by kernel_rfl) (Att.c_2 a) (Att.c_2 b), eqF_hash (d := 9997) (l := a.r) (m := b.r) w (by decide) rfl (Att.c_ext a ha) (Att.c_ext b hb) ha hb,
    eqF_int (d := 9998) (k := .u64) (a := ((a.g : Nat) : Int)) (b := ((b.g : Nat) : Int)) w (by decide) underlying26 (by kernel_rfl) (Att.c_tag a ha) (Att.c_tag b hb)]
  simp only [Op.eqFields, Sem.run_pure]
  obtain ⟨v, s, t, r, g⟩ := a
  obtain ⟨v', s', t', r', g'⟩ := b
  simp only [Att.mk.injEq]
  by_cases h1 : v = v' <;> by_cases h2 : s = s' <;> by_cases h3 : t = t' <;> by_cases h4 : r = r' <;> by_cases h5 : g = g' <;> simp [h1, h2, h3, h4, h5] <;> omega
theorem pro_equal (a b : Pro) (ha : a.r.length = 32) (hb : b.r.length = 32) (w : World) : (Op.equalIn 10000 37 (.agg a.c) (.agg b.c)).run prog w = .ok (decide (a = b)) w := by
  rw [run_equalIn_struct w 9999 37 _ _ (by kernel_rfl) (by kernel_rfl)]
  simp only [Program.fieldsOf, underlying37]
  rw [eqF_int (d := 9998) (k := .i64) (a := a.v) (b := b.v) w (by decide) underlying3 (by kernel_rfl) (Pro.c_0 a) (Pro.c_0 b), eqF_int (d := 9998) (k := .i64) (a := a.h) (b := b.h) w (by decide) underlying3 (by kernel_rfl) (Pro.c_1 a) (Pro.c_1 b),
    eqF_hash (d := 9997) (l := a.r) (m := b.r) w (by decide) rfl (Pro.c_ext a ha) (Pro.c_ext b hb) ha hb,
    eqF_int (d := 9998) (k := .u64) (a := ((a.g : Nat) : Int)) (b := ((b.g : Nat) : Int)) w (by decide) underlying26 (by kernel_rfl) (Pro.c_tag a ha) (Pro.c_tag b hb)]
  simp only [Op.eqFields, Sem.run_pure]
  obtain ⟨v, s, r, g⟩ := a
  obtain ⟨v', s', r', g'⟩ := b
  simp only [Pro.mk.injEq]
  by_cases h1 : v = v' <;> by_cases h2 : s = s' <;> by_cases h4 : r = r' <;> by_cases h5 : g = g' <;> simp [h1, h2, h4, h5] <;> omega
theorem att_eq (a b : Att) (ha : a.r.length = 32) (hb : b.r.length = 32) (w : World) : (binOp .eql 28 (.agg a.c) (.agg b.c)).run prog w = .ok (.bool (decide (a = b))) w := by rw [run_eql_struct, att_equal a b ha hb]; rfl
theorem pro_eq (a b : Pro) (ha : a.r.length = 32) (hb : b.r.length = 32) (w : World) : (binOp .eql 37 (.agg a.c) (.agg b.c)).run prog w = .ok (.bool (decide (a = b))) w := by rw [run_eql_struct, pro_equal a b ha hb]; rfl
def zAtt : Att := ⟨0, 0, 0, List.replicate 32 0, 0⟩
def zPro : Pro := ⟨0, 0, List.replicate 32 0, 0⟩
theorem zAtt_ok : zAtt.Ok := ⟨by decide, by decide, by decide, rfl, by decide⟩
theorem zPro_ok : zPro.Ok := ⟨by decide, by decide, rfl, by decide⟩
def Att.cl (a : Att) : List Value := a.c.toList
def Pro.cl (a : Pro) : List Value := a.c.toList
theorem Att.cl_len {a : Att} (h : a.Ok) : a.cl.length = 36 := by have := Att.c_size a h.r; simpa [Att.cl] using this
theorem Pro.cl_len {a : Pro} (h : a.Ok) : a.cl.length = 35 := by have := Pro.c_size a h.r; simpa [Pro.cl] using this
theorem Att.cl_one {a : Att} : ∀ u ∈ a.cl, u.oneCell' = true := by
  have := Att.c_one a
  rw [← Array.all_toList] at this
  exact List.all_eq_true.1 this
theorem Pro.cl_one {a : Pro} : ∀ u ∈ a.cl, u.oneCell' = true := by
  have := Pro.c_one a
  rw [← Array.all_toList] at this
  exact List.all_eq_true.1 this
abbrev AttsAt (w : World) (v : Value) (l : List Att) : Prop := Sl w 36 Att.cl v l
abbrev ProsAt (w : World) (v : Value) (l : List Pro) : Prop := Sl w 35 Pro.cl v l
structure RecAt (w : World) (r : Nat) (v : Int) (A : RD Att) (B : RD Pro) : Prop where
  rec_ : w.heap[r]? = some (.cells #[iI v, .pointer (some ⟨A.g, 0, none⟩), .pointer (some ⟨B.g, 0, none⟩)] 122 (0, 0))
  a : RingA w A
  b : RingB w B
def FR (A : RD Att) (B : RD Pro) : Nat → Prop := fun j => j = A.g ∨ j = A.s ∨ j = B.g ∨ j = B.s
section
variable {w w' : World} {r : Nat} {v : Int} {A A' : RD Att} {B B' : RD Pro} {M : Nat → Prop}
theorem RecAt.mono (h : RecAt w r v A B) (hc : ∀ (j : Nat) (cs : Array Value) (T : TypeId), (FR A B j ∨ T = 28 ∨ T = 37 ∨ T = 122) → w.heap[j]? = some (.cells cs T (0, 0)) → w'.heap[j]? = some (.cells cs T (0, 0))) : RecAt w' r v A B :=
  ⟨hc _ _ _ (.inr (.inr (.inr rfl))) h.rec_, h.a.mono fun j cs T hj => hc j cs T (by rcases hj with h | h | h; exact .inl (.inl h); exact .inl (.inr (.inl h)); exact .inr (.inl h)),
    h.b.mono fun j cs T hj => hc j cs T (by rcases hj with h | h | h; exact .inl (.inr (.inr (.inl h))); exact .inl (.inr (.inr (.inr h))); exact .inr (.inr (.inl h)))⟩
theorem RecAt.keepsN (h : RecAt w r v A B) (k : Keeps Nob w w') : RecAt w' r v A B := h.mono fun _ _ _ _ e => k.bk e
theorem RecAt.odd (h : RecAt w r v A B) {T : TypeId} (h1 : 184 ≠ T) (h2 : 185 ≠ T) (h3 : 192 ≠ T) (h4 : 168 ≠ T) : Odd w (FR A B) T := fun j cs fr hj e => by
  rcases hj with rfl | rfl | rfl | rfl
  · exact Odd.one h.a.ring h1 _ _ _ rfl e
  · exact Odd.one h.a.slots h2 _ _ _ rfl e
  · exact Odd.one h.b.ring h3 _ _ _ rfl e
  · exact Odd.one h.b.slots h4 _ _ _ rfl e
theorem RecAt.other {r2 : Nat} {v2 : Int} {A2 : RD Att} {B2 : RD Pro} (h : RecAt w r v A B) (h2 : RecAt w r2 v2 A2 B2) (k : Keeps (FR A B) w w') (d : ∀ j, FR A2 B2 j → ¬ FR A B j) : RecAt w' r2 v2 A2 B2 :=
  h2.mono fun j cs T hj e => by
    rcases hj with hj | rfl | rfl | rfl
    · exact (k.block j (lt_of_block e) (d j hj)).trans e
    · exact k.odd (h.odd (by decide) (by decide) (by decide) (by decide)) e
    · exact k.odd (h.odd (by decide) (by decide) (by decide) (by decide)) e
    · exact k.odd (h.odd (by decide) (by decide) (by decide) (by decide)) e
theorem RecAt.putA (h : RecAt w r v A B) (hA : RingA w' A') (hg : A'.g = A.g) (k : Keeps (One A.s) w w') : RecAt w' r v A' B :=
  ⟨by rw [hg]; exact k.odd (Odd.one h.a.slots (by decide)) h.rec_, hA, h.b.odd k (Odd.one h.a.slots (by decide)) (Odd.one h.a.slots (by decide)) (Odd.one h.a.slots (by decide))⟩
theorem RecAt.putB (h : RecAt w r v A B) (hB : RingB w' B') (hg : B'.g = B.g) (k : Keeps (One B.s) w w') : RecAt w' r v A B' :=
  ⟨by rw [hg]; exact k.odd (Odd.one h.b.slots (by decide)) h.rec_, h.a.odd k (Odd.one h.b.slots (by decide)) (Odd.one h.b.slots (by decide)) (Odd.one h.b.slots (by decide)), hB⟩
theorem Ring.odd2 {α : Type} {ix : FuncId} {tr tp te : TypeId} {enc : α → Array Value} {key : α → Int} {ok : α → Prop} {d : RD α} {T : TypeId} (h : Ring ix tr tp te enc key ok w d) (h1 : tr ≠ T) (h2 : tp ≠ T) : Odd w (fun j => j = d.g ∨ j = d.s) T := fun j cs fr hj e => by
  rcases hj with rfl | rfl
  · exact Odd.one h.ring h1 _ _ _ rfl e
  · exact Odd.one h.slots h2 _ _ _ rfl e
theorem RecAt.moveA (h : RecAt w r v A B) (hA : RingA w' A') (hg : A'.g = A.g) (k : Keeps (fun j => j = A.g ∨ j = A.s) w w') : RecAt w' r v A' B :=
  ⟨by rw [hg]; exact k.odd (h.a.odd2 (by decide) (by decide)) h.rec_, hA, h.b.odd k (h.a.odd2 (by decide) (by decide)) (h.a.odd2 (by decide) (by decide)) (h.a.odd2 (by decide) (by decide))⟩
theorem RecAt.moveB (h : RecAt w r v A B) (hB : RingB w' B') (hg : B'.g = B.g) (k : Keeps (fun j => j = B.g ∨ j = B.s) w w') : RecAt w' r v A B' :=
  ⟨by rw [hg]; exact k.odd (h.b.odd2 (by decide) (by decide)) h.rec_, h.a.odd k (h.b.odd2 (by decide) (by decide)) (h.b.odd2 (by decide) (by decide)) (h.b.odd2 (by decide) (by decide)), hB⟩
end
def whoErr (v e x : Int) : Int := if e ≠ 0 then e else if x ≠ v then 2 else 0
def qc26_3 (n : Nat) : Code := partOf f72 n
theorem qnone_rec (r : Nat) (v : Int) (A : RD Att) (B : RD Pro) (w : World) (H : RecAt w r v A B) :
  Calls prog 72 #[pT r 0] w (fun e w' => e = .returned (.bool false) ∧ w = w') := by
 have K0 := kz0 w
 refine sf_ (qc26_3 1) func72 <| qr_ [0] <| kk 1 <| eqr_ nl10_ <| kk 6 <| pP (lk (H.rec_)) <| kk 3 <| eu_ <| so_ (.bool false) ?_
 exact ⟨rfl, rfl⟩
def qc26_2 (n : Nat) : Code := partOf f96 n
theorem qwhose_1 (r : Nat) (v : Int) (A : RD Att) (B : RD Pro) (e0 x : Int) (w : World) (H : RecAt w r v A B) (q1 : e0 ≠ 0) :
  Calls prog 96 #[pT r 0, iI e0, iI x] w (fun e w' => e = .returned (iI (whoErr v e0 x)) ∧ w = w') := by
 have K0 := kz0 w
 refine sf_ (qc26_2 1) func96 <| qr_ [0] <| kk 1 <| eq_ <| bl_ 0 <| qr_ [0, 1, 2] <| kk 1 ?_
 refine pct ((qnone_rec r v A B _ H).mono ?_)
 rintro e w1 ⟨rfl, rfl⟩
 refine ⟨_, rfl, ?_⟩
 refine kk 1 <| en_ <| qr_ [0, 1, 2] <| kk 1 <| pP (nqT ((e0) : Int) ((0) : Int)) <| kk 1 <| ey_ <| qr_ [0, 1] <| kk 2 <| eu_ <| blk_r <| then_r <| so_ (iI e0) ?_
 exact ⟨by unfold whoErr; rw [if_pos q1], rfl⟩
theorem qwhose_2 (r : Nat) (v : Int) (A : RD Att) (B : RD Pro) (e0 x : Int) (w : World) (H : RecAt w r v A B) (q1 : e0 = 0) (q2 : x ≠ v) :
  Calls prog 96 #[pT r 0, iI e0, iI x] w (fun e w' => e = .returned (iI (whoErr v e0 x)) ∧ w = w') := by
 have K0 := kz0 w
 refine sf_ (qc26_2 1) func96 <| qr_ [0] <| kk 1 <| eq_ <| bl_ 0 <| qr_ [0, 1, 2] <| kk 1 ?_
 refine pct ((qnone_rec r v A B _ H).mono ?_)
 rintro e w1 ⟨rfl, rfl⟩
 refine ⟨_, rfl, ?_⟩
 refine kk 1 <| en_ <| qr_ [0, 1, 2] <| kk 1 <| pP (nqF ((e0) : Int) ((0) : Int)) <| kk 1 <| en_ <| qr_ nl7_ <| kk 4 <| pP (lk (H.rec_)) <| pP (nqT ((x) : Int) ((v) : Int)) <| kk 1 <| ey_ <| qr_ [0] <| kk 1 <| eu_ <| blk_r <| then_r <| so_ (iI 2) ?_
 exact ⟨by unfold whoErr; rw [if_neg (by omega), if_pos q2], rfl⟩
theorem qwhose_3 (r : Nat) (v : Int) (A : RD Att) (B : RD Pro) (e0 x : Int) (w : World) (H : RecAt w r v A B) (q1 : e0 = 0) (q2 : x = v) :
  Calls prog 96 #[pT r 0, iI e0, iI x] w (fun e w' => e = .returned (iI (whoErr v e0 x)) ∧ w = w') := by
 have K0 := kz0 w
 refine sf_ (qc26_2 1) func96 <| qr_ [0] <| kk 1 <| eq_ <| bl_ 0 <| qr_ [0, 1, 2] <| kk 1 ?_
 refine pct ((qnone_rec r v A B _ H).mono ?_)
 rintro e w1 ⟨rfl, rfl⟩
 refine ⟨_, rfl, ?_⟩
 refine kk 1 <| en_ <| qr_ [0, 1, 2] <| kk 1 <| pP (nqF ((e0) : Int) ((0) : Int)) <| kk 1 <| en_ <| qr_ nl7_ <| kk 4 <| pP (lk (H.rec_)) <| pP (nqF ((x) : Int) ((v) : Int)) <| kk 1 <| en_ <| s_ <| blk_n <| tqr_ [0] <| kk 1 <| eu_ <| so_ (iI 0) ?_
 exact ⟨by unfold whoErr; rw [if_neg (by omega), if_neg (by omega)], rfl⟩
theorem qwhose_ok (r : Nat) (v : Int) (A : RD Att) (B : RD Pro) (e0 x : Int) (w : World) (H : RecAt w r v A B) : Calls prog 96 #[pT r 0, iI e0, iI x] w (fun e w' => e = .returned (iI (whoErr v e0 x)) ∧ w = w') := by
 by_cases q1 : e0 = 0
 ·by_cases q2 : x = v
  ·exact qwhose_3 r v A B e0 x w H q1 q2
  ·exact qwhose_2 r v A B e0 x w H q1 q2
 ·exact qwhose_1 r v A B e0 x w H q1
def qc26_6 (n : Nat) : Code := partOf f50 n
theorem qPut_bad (r : Nat) (v : Int) (A : RD Att) (B : RD Pro) (a : Att) (w : World) (H : RecAt w r v A B) (ha : a.Ok) (hE : (whoErr v a.err a.v) ≠ 0) :
  Calls prog 50 #[pT r 0, .agg (Att.c a)] w (RK w (iI (whoErr v a.err a.v))) := by
 have K0 := kz0 w
 refine sf_ (qc26_6 1) func50 <| qr_ [0, 1] <| pbg 28 (Att.c a) fun V1 p ep h2 j1 => ?_
 have n3 : r < p := ep ▸ lt_of_block H.rec_
 have n4 := nk ep K0
 have h6 := H.keepsN j1
 have ⟨K7, z8⟩ := j1.z0 K0
 refine kk 1 <| eq_ <| q_ <| anp 7 (fun W => (HP W p (Att.c a) 28)) fun V9 j9 => ?_
 have h11 := h6.keepsN j9
 have ⟨K13, z14, h12⟩ := j9.z1 K7 h2
 refine kA [0] <| aV 1 _ (fun W hS => ldz 28 p hS (Att.c_size _ ha.r)) <| kA [3] <| aV 4 _ (fun W hS => lc hS (Att.c_0 _)) <| an_o 2 <| ncs (vCheck_ok a _ ha.r) fun V15 j15 => ?_
 have h17 := h11.keepsN j15
 have ⟨K19, z20, h18⟩ := j15.z1 K13 h12
 refine ⟨h18, ?_⟩
 refine an_o 5 ?_
 refine ncq 96 #[pT r 0, iI a.err, iI a.v] func96 ((qwhose_ok r v A B _ _ _ h17).mono ?_)
 rintro e w1 ⟨rfl, rfl⟩
 refine ⟨_, rfl, ?_⟩
 refine ⟨h18, ?_⟩
 refine ako 6 ?_
 refine ane <| tqr_ [0, 1] <| kk 1 <| pP (nqT ((whoErr v a.err a.v) : Int) ((0) : Int)) <| ey_ <| qr_ [0, 1] <| kk 2 <| eu_ <| then_r <| so_ (iI (whoErr v a.err a.v)) ?_
 exact ⟨rfl, K19⟩
theorem qPut_fine (r : Nat) (v : Int) (A : RD Att) (B : RD Pro) (a : Att) (w : World) (H : RecAt w r v A B) (ha : a.Ok) (hE : (whoErr v a.err a.v) = 0) :
  Calls prog 50 #[pT r 0, .agg (Att.c a)] w (fun e w' => e = .returned (iI (gputErr A a.t)) ∧ ((gputErr A a.t) ≠ 0 → RecAt w' r v A B) ∧ ((gputErr A a.t) = 0 → ∃ S', RecAt w' r v { A with V := upV A.V a.t a, S := S' } B) ∧ Keeps (One A.s) w w') := by
 have K0 := Keeps.refl ((One A.s)) w
 refine sf_ (qc26_6 1) func50 <| qr_ [0, 1] <| pbg 28 (Att.c a) fun V21 p ep h22 j21 => ?_
 have n23 : r < p := ep ▸ lt_of_block H.rec_
 have n24 := nk ep K0
 have h25 := j21.bk H.rec_
 have h26 := H.keepsN j21
 have ⟨K27, z28⟩ := j21.z0 K0
 refine kk 1 <| eq_ <| q_ <| anp 7 (fun W => (HP W p (Att.c a) 28)) fun V29 j29 => ?_
 have h30 := j29.bk h25
 have h31 := h26.keepsN j29
 have ⟨K33, z34, h32⟩ := j29.z1 K27 h22
 refine kA [0] <| aV 1 _ (fun W hS => ldz 28 p hS (Att.c_size _ ha.r)) <| kA [3] <| aV 4 _ (fun W hS => lc hS (Att.c_0 _)) <| an_o 2 <| ncs (vCheck_ok a _ ha.r) fun V35 j35 => ?_
 have h36 := j35.bk h30
 have h37 := h31.keepsN j35
 have ⟨K39, z40, h38⟩ := j35.z1 K33 h32
 refine ⟨h38, ?_⟩
 refine an_o 5 ?_
 refine ncq 96 #[pT r 0, iI a.err, iI a.v] func96 ((qwhose_ok r v A B _ _ _ h37).mono ?_)
 rintro e w1 ⟨rfl, rfl⟩
 refine ⟨_, rfl, ?_⟩
 refine ⟨h38, ?_⟩
 refine ako 6 ?_
 refine ane <| tqr_ [0, 1] <| kk 1 <| pP (nqF ((whoErr v a.err a.v) : Int) ((0) : Int)) <| en_ <| s_ <| tq_ <| anp 7 (fun W => (HP W p (Att.c a) 28) ∧ (HP W r (#[iI v, pT A.g 0, pT B.g 0]) 122)) fun V41 j41 => ?_
 have h42 := j41.bk h36
 have h43 := h37.keepsN j41
 have ⟨K45, z46, h44⟩ := j41.z1 K39 h38
 refine kA [0, 1, 2] <| aV 3 _ (fun W hS => lk hS.2) <| aV 4 _ (fun W hS => ldz 28 p hS.1 (Att.c_size _ ha.r)) <| an_o 5 ?_
 have Hp := h43
 have np_ : p ≠ A.s := fun e => Odd.one Hp.a.slots (by decide) _ _ _ e h44
 have nr_ : r ≠ A.s := fun e => Odd.one Hp.a.slots (by decide) _ _ _ e h42
 refine nct ((gput_ok A a _ Hp.a ha).mono ?_)
 rintro e V47 ⟨rfl, hb, hg, j47⟩
 have kq := j47
 refine ⟨_, rfl, ?_⟩
 have ⟨h48, h49⟩ := j47.ko2 h42 h44
 have K50 := K45.nw j47 (rfl)
 have z51 := j47.size
 refine ⟨⟨h49, h48⟩, ?_⟩
 refine ako 6 ?_
 refine ane <| then_n <| u_ <| so_ (iI (gputErr A a.t)) ?_
 exact ⟨rfl, fun h => RecAt.putA Hp (hb h) rfl kq, fun h => let ⟨S', hr⟩ := hg h; ⟨S', RecAt.putA Hp hr rfl kq⟩, K50⟩
def qPutErr (v : Int) (A : RD Att) (a : Att) : Int := if (whoErr v a.err a.v) ≠ 0 then (whoErr v a.err a.v) else (gputErr A a.t)
theorem qPut_ok (r : Nat) (v : Int) (A : RD Att) (B : RD Pro) (a : Att) (w : World) (H : RecAt w r v A B) (ha : a.Ok) : Calls prog 50 #[pT r 0, .agg (Att.c a)] w fun e w' => e = .returned (iI (qPutErr v A a)) ∧ (qPutErr v A a ≠ 0 → RecAt w' r v A B) ∧ (qPutErr v A a = 0 → ∃ S', RecAt w' r v { A with V := upV A.V a.t a, S := S' } B) ∧ Keeps (One A.s) w w' := by
 unfold qPutErr
 by_cases hE : (whoErr v a.err a.v) = 0
 ·rw [if_neg (by omega)]; exact qPut_fine r v A B a w H ha hE
 ·rw [if_pos hE]; exact (qPut_bad r v A B a w H ha hE).mono fun e w' ⟨he, k⟩ => ⟨he, fun _ => H.keepsN k, fun h => absurd h hE, k.mono (fun _ _ x => x.elim)⟩
def qc26_0 (n : Nat) : Code := partOf f54 n
theorem qPutBlock_bad (r : Nat) (v : Int) (A : RD Att) (B : RD Pro) (a : Pro) (w : World) (H : RecAt w r v A B) (ha : a.Ok) (hE : (whoErr v a.err a.v) ≠ 0) :
  Calls prog 54 #[pT r 0, .agg (Pro.c a)] w (RK w (iI (whoErr v a.err a.v))) := by
 have K0 := kz0 w
 refine sf_ (qc26_0 1) func54 <| qr_ [0, 1] <| pbg 37 (Pro.c a) fun V1 p ep h2 j1 => ?_
 have n3 : r < p := ep ▸ lt_of_block H.rec_
 have n4 := nk ep K0
 have h6 := H.keepsN j1
 have ⟨K7, z8⟩ := j1.z0 K0
 refine kk 1 <| eq_ <| q_ <| anp 7 (fun W => (HP W p (Pro.c a) 37)) fun V9 j9 => ?_
 have h11 := h6.keepsN j9
 have ⟨K13, z14, h12⟩ := j9.z1 K7 h2
 refine kA [0] <| aV 1 _ (fun W hS => ldz 37 p hS (Pro.c_size _ ha.r)) <| kA [3] <| aV 4 _ (fun W hS => lc hS (Pro.c_0 _)) <| an_o 2 <| ncs (vCheckBlock_ok a _ ha.r) fun V15 j15 => ?_
 have h17 := h11.keepsN j15
 have ⟨K19, z20, h18⟩ := j15.z1 K13 h12
 refine ⟨h18, ?_⟩
 refine an_o 5 ?_
 refine ncq 96 #[pT r 0, iI a.err, iI a.v] func96 ((qwhose_ok r v A B _ _ _ h17).mono ?_)
 rintro e w1 ⟨rfl, rfl⟩
 refine ⟨_, rfl, ?_⟩
 refine ⟨h18, ?_⟩
 refine ako 6 ?_
 refine ane <| tqr_ [0, 1] <| kk 1 <| pP (nqT ((whoErr v a.err a.v) : Int) ((0) : Int)) <| ey_ <| qr_ [0, 1] <| kk 2 <| eu_ <| then_r <| so_ (iI (whoErr v a.err a.v)) ?_
 exact ⟨rfl, K19⟩
theorem qPutBlock_fine (r : Nat) (v : Int) (A : RD Att) (B : RD Pro) (a : Pro) (w : World) (H : RecAt w r v A B) (ha : a.Ok) (hE : (whoErr v a.err a.v) = 0) :
  Calls prog 54 #[pT r 0, .agg (Pro.c a)] w (fun e w' => e = .returned (iI (gputBErr B a.h)) ∧ ((gputBErr B a.h) ≠ 0 → RecAt w' r v A B) ∧ ((gputBErr B a.h) = 0 → ∃ S', RecAt w' r v A { B with V := upV B.V a.h a, S := S' }) ∧ Keeps (One B.s) w w') := by
 have K0 := Keeps.refl ((One B.s)) w
 refine sf_ (qc26_0 1) func54 <| qr_ [0, 1] <| pbg 37 (Pro.c a) fun V21 p ep h22 j21 => ?_
 have n23 : r < p := ep ▸ lt_of_block H.rec_
 have n24 := nk ep K0
 have h25 := j21.bk H.rec_
 have h26 := H.keepsN j21
 have ⟨K27, z28⟩ := j21.z0 K0
 refine kk 1 <| eq_ <| q_ <| anp 7 (fun W => (HP W p (Pro.c a) 37)) fun V29 j29 => ?_
 have h30 := j29.bk h25
 have h31 := h26.keepsN j29
 have ⟨K33, z34, h32⟩ := j29.z1 K27 h22
 refine kA [0] <| aV 1 _ (fun W hS => ldz 37 p hS (Pro.c_size _ ha.r)) <| kA [3] <| aV 4 _ (fun W hS => lc hS (Pro.c_0 _)) <| an_o 2 <| ncs (vCheckBlock_ok a _ ha.r) fun V35 j35 => ?_
 have h36 := j35.bk h30
 have h37 := h31.keepsN j35
 have ⟨K39, z40, h38⟩ := j35.z1 K33 h32
 refine ⟨h38, ?_⟩
 refine an_o 5 ?_
 refine ncq 96 #[pT r 0, iI a.err, iI a.v] func96 ((qwhose_ok r v A B _ _ _ h37).mono ?_)
 rintro e w1 ⟨rfl, rfl⟩
 refine ⟨_, rfl, ?_⟩
 refine ⟨h38, ?_⟩
 refine ako 6 ?_
 refine ane <| tqr_ [0, 1] <| kk 1 <| pP (nqF ((whoErr v a.err a.v) : Int) ((0) : Int)) <| en_ <| s_ <| tq_ <| anp 7 (fun W => (HP W p (Pro.c a) 37) ∧ (HP W r (#[iI v, pT A.g 0, pT B.g 0]) 122)) fun V41 j41 => ?_
 have h42 := j41.bk h36
 have h43 := h37.keepsN j41
 have ⟨K45, z46, h44⟩ := j41.z1 K39 h38
 refine kA [0, 1, 2] <| aV 3 _ (fun W hS => lk hS.2) <| aV 4 _ (fun W hS => ldz 37 p hS.1 (Pro.c_size _ ha.r)) <| an_o 5 ?_
 have Hp := h43
 have np_ : p ≠ B.s := fun e => Odd.one Hp.b.slots (by decide) _ _ _ e h44
 have nr_ : r ≠ B.s := fun e => Odd.one Hp.b.slots (by decide) _ _ _ e h42
 refine nct ((gputB_ok B a _ Hp.b ha).mono ?_)
 rintro e V47 ⟨rfl, hb, hg, j47⟩
 have kq := j47
 refine ⟨_, rfl, ?_⟩
 have ⟨h48, h49⟩ := j47.ko2 h42 h44
 have K50 := K45.nw j47 (rfl)
 have z51 := j47.size
 refine ⟨⟨h49, h48⟩, ?_⟩
 refine ako 6 ?_
 refine ane <| then_n <| u_ <| so_ (iI (gputBErr B a.h)) ?_
 exact ⟨rfl, fun h => RecAt.putB Hp (hb h) rfl kq, fun h => let ⟨S', hr⟩ := hg h; ⟨S', RecAt.putB Hp hr rfl kq⟩, K50⟩
def qPutBlockErr (v : Int) (B : RD Pro) (a : Pro) : Int := if (whoErr v a.err a.v) ≠ 0 then (whoErr v a.err a.v) else (gputBErr B a.h)
theorem qPutBlock_ok (r : Nat) (v : Int) (A : RD Att) (B : RD Pro) (a : Pro) (w : World) (H : RecAt w r v A B) (ha : a.Ok) : Calls prog 54 #[pT r 0, .agg (Pro.c a)] w fun e w' => e = .returned (iI (qPutBlockErr v B a)) ∧ (qPutBlockErr v B a ≠ 0 → RecAt w' r v A B) ∧ (qPutBlockErr v B a = 0 → ∃ S', RecAt w' r v A { B with V := upV B.V a.h a, S := S' }) ∧ Keeps (One B.s) w w' := by
 unfold qPutBlockErr
 by_cases hE : (whoErr v a.err a.v) = 0
 ·rw [if_neg (by omega)]; exact qPutBlock_fine r v A B a w H ha hE
 ·rw [if_pos hE]; exact (qPutBlock_bad r v A B a w H ha hE).mono fun e w' ⟨he, k⟩ => ⟨he, fun _ => H.keepsN k, fun h => absurd h hE, k.mono (fun _ _ x => x.elim)⟩
def part_qAt (n : Nat) : Code := partOf f84 n
theorem qAt_no (r : Nat) (v : Int) (A : RD Att) (B : RD Pro) (i : Int) (w : World) (H : RecAt w r v A B) (hs : slotOf A i = none) :
  Calls prog 84 #[pT r 0, iI i] w (RK w (.tuple #[.agg (Att.c zAtt), .bool false])) := by
 have K0 := kz0 w
 refine sf_ (part_qAt 1) func84 <| qr_ [0, 1] <| pag 28 (#[iI 0, iI 0, iI 0, .int .u8 0, .int .u8 0, .int .u8 0, .int .u8 0, .int .u8 0, .int .u8 0, .int .u8 0, .int .u8 0, .int .u8 0, .int .u8 0, .int .u8 0, .int .u8 0, .int .u8 0, .int .u8 0, .int .u8 0, .int .u8 0, .int .u8 0, .int .u8 0, .int .u8 0, .int .u8 0, .int .u8 0, .int .u8 0, .int .u8 0, .int .u8 0, .int .u8 0, .int .u8 0, .int .u8 0, .int .u8 0, .int .u8 0, .int .u8 0, .int .u8 0, .int .u8 0, .int .u64 0]) fun V1 g eg h2 j1 => ?_
 have n3 : r < g := eg ▸ lt_of_block H.rec_
 have n4 := nk eg K0
 have h5 := j1.bk H.rec_
 have ⟨K6, z7⟩ := j1.z0 K0
 refine kk 1 <| eq_ <| qr_ nl11_ <| kk 1 ?_
 refine pct ((qnone_rec r v A B _ (H.keepsN K6)).mono ?_)
 rintro e w1 ⟨rfl, rfl⟩
 refine ⟨_, rfl, ?_⟩
 refine kk 4 <| pP (lk h5) <| kk 1 <| pcr 113 #[pT A.g 0, iI i] func113 (gat_none _ _ (H.keepsN K6).a hs) fun V8 j8 => ?_
 have ⟨K11, z12, h10⟩ := j8.z1 K6 h2
 refine kk 2 <| ey_ <| qr_ [0, 1, 2] <| kk 1 <| pst 28 g ((Att.c zAtt)) h10 (by rw [Att.c_size _ zAtt_ok.r]; kernel_rfl) (by rw [Att.c_size _ zAtt_ok.r]; rfl) (Att.c_one _) fun V13 h14 j13 => ?_
 have ⟨K16, z17⟩ := j13.zo0 K11
 refine kk 1 <| eu_ <| then_r <| sy_out (.tuple #[.agg (Att.c zAtt), .bool false]) rfl (rrt 28 g h14 underlying28 (by rw [Att.c_size _ zAtt_ok.r]; kernel_rfl)) ?_
 exact ⟨rfl, K16⟩
theorem qAt_yes (r : Nat) (v : Int) (A : RD Att) (B : RD Pro) (i : Int) (a : Att) (p : Nat) (w : World) (H : RecAt w r v A B) (ha : a.Ok) (hs : slotOf A i = some p) (hp : HP w p (Att.c a) 28) :
  Calls prog 84 #[pT r 0, iI i] w (RK w (.tuple #[.agg (Att.c a), .bool true])) := by
 have K0 := kz0 w
 refine sf_ (part_qAt 1) func84 <| qr_ [0, 1] <| pag 28 (#[iI 0, iI 0, iI 0, .int .u8 0, .int .u8 0, .int .u8 0, .int .u8 0, .int .u8 0, .int .u8 0, .int .u8 0, .int .u8 0, .int .u8 0, .int .u8 0, .int .u8 0, .int .u8 0, .int .u8 0, .int .u8 0, .int .u8 0, .int .u8 0, .int .u8 0, .int .u8 0, .int .u8 0, .int .u8 0, .int .u8 0, .int .u8 0, .int .u8 0, .int .u8 0, .int .u8 0, .int .u8 0, .int .u8 0, .int .u8 0, .int .u8 0, .int .u8 0, .int .u8 0, .int .u8 0, .int .u64 0]) fun V18 g eg h19 j18 => ?_
 have n20 : r < g := eg ▸ lt_of_block H.rec_
 have := nqk1 eg hp K0
 have h23 := j18.bk H.rec_
 have ⟨K25, z26, h24⟩ := j18.z1 K0 hp
 refine kk 1 <| eq_ <| qr_ nl11_ <| kk 1 ?_
 refine pct ((qnone_rec r v A B _ (H.keepsN K25)).mono ?_)
 rintro e w1 ⟨rfl, rfl⟩
 refine ⟨_, rfl, ?_⟩
 refine kk 4 <| pP (lk h23) <| kk 1 <| pcr 113 #[pT A.g 0, iI i] func113 (gat_some _ p _ (H.keepsN K25).a hs) fun V27 j27 => ?_
 have ⟨K31, z32, h28, h29, h30⟩ := j27.z3 K25 h23 h24 h19
 refine kk 2 <| en_ <| s_ <| tqr_ nl10_ <| kk 3 <| pP (lk h28) <| kk 1 <| pcr 113 #[pT A.g 0, iI i] func113 (gat_some _ p _ (H.keepsN K31).a hs) fun V33 j33 => ?_
 have ⟨K37, z38, h35, h36⟩ := j33.z2 K31 h29 h30
 refine kk 1 <| pP (ldz 28 p h35 (Att.c_size _ ha.r)) <| pst 28 g ((Att.c a)) h36 (by rw [Att.c_size _ ha.r]; kernel_rfl) (by rw [Att.c_size _ ha.r]; rfl) (Att.c_one _) fun V39 h40 j39 => ?_
 have ⟨K43, z44⟩ := j39.zo0 K37
 refine kk 1 <| eu_ <| sy_out (.tuple #[.agg (Att.c a), .bool true]) rfl (rrt 28 g h40 underlying28 (by rw [Att.c_size _ ha.r]; kernel_rfl)) ?_
 exact ⟨rfl, K43⟩
theorem qAt_ok (r : Nat) (v : Int) (A : RD Att) (B : RD Pro) (i : Int) (w : World) (H : RecAt w r v A B) : Calls prog 84 #[pT r 0, iI i] w (RK w (.tuple #[.agg (Att.c ((A.V i).getD zAtt)), .bool (A.V i).isSome])) := by
 rcases H.a.none_or i with ⟨hv, hs⟩ | ⟨a, p, hv, hs, hp, _, _, _, ha⟩
 ·rw [hv]; exact qAt_no r v A B i w H hs
 ·rw [hv]; exact qAt_yes r v A B i a p w H ha hs hp
def qc26_1 (n : Nat) : Code := partOf f52 n
theorem qBlock_no (r : Nat) (v : Int) (A : RD Att) (B : RD Pro) (i : Int) (w : World) (H : RecAt w r v A B) (hs : slotOf B i = none) :
  Calls prog 52 #[pT r 0, iI i] w (RK w (.tuple #[.agg (Pro.c zPro), .bool false])) := by
 have K0 := kz0 w
 refine sf_ (qc26_1 1) func52 <| qr_ [0, 1] <| pag 37 (#[iI 0, iI 0, .int .u8 0, .int .u8 0, .int .u8 0, .int .u8 0, .int .u8 0, .int .u8 0, .int .u8 0, .int .u8 0, .int .u8 0, .int .u8 0, .int .u8 0, .int .u8 0, .int .u8 0, .int .u8 0, .int .u8 0, .int .u8 0, .int .u8 0, .int .u8 0, .int .u8 0, .int .u8 0, .int .u8 0, .int .u8 0, .int .u8 0, .int .u8 0, .int .u8 0, .int .u8 0, .int .u8 0, .int .u8 0, .int .u8 0, .int .u8 0, .int .u8 0, .int .u8 0, .int .u64 0]) fun V1 g eg h2 j1 => ?_
 have n3 : r < g := eg ▸ lt_of_block H.rec_
 have n4 := nk eg K0
 have h5 := j1.bk H.rec_
 have ⟨K6, z7⟩ := j1.z0 K0
 refine kk 1 <| eq_ <| qr_ nl11_ <| kk 1 ?_
 refine pct ((qnone_rec r v A B _ (H.keepsN K6)).mono ?_)
 rintro e w1 ⟨rfl, rfl⟩
 refine ⟨_, rfl, ?_⟩
 refine kk 4 <| pP (lk h5) <| kk 1 <| pcr 98 #[pT B.g 0, iI i] func98 (gatB_none _ _ (H.keepsN K6).b hs) fun V8 j8 => ?_
 have ⟨K11, z12, h10⟩ := j8.z1 K6 h2
 refine kk 2 <| ey_ <| qr_ [0, 1, 2] <| kk 1 <| pst 37 g ((Pro.c zPro)) h10 (by rw [Pro.c_size _ zPro_ok.r]; kernel_rfl) (by rw [Pro.c_size _ zPro_ok.r]; rfl) (Pro.c_one _) fun V13 h14 j13 => ?_
 have ⟨K16, z17⟩ := j13.zo0 K11
 refine kk 1 <| eu_ <| then_r <| sy_out (.tuple #[.agg (Pro.c zPro), .bool false]) rfl (rrt 37 g h14 underlying37 (by rw [Pro.c_size _ zPro_ok.r]; kernel_rfl)) ?_
 exact ⟨rfl, K16⟩
theorem qBlock_yes (r : Nat) (v : Int) (A : RD Att) (B : RD Pro) (i : Int) (a : Pro) (p : Nat) (w : World) (H : RecAt w r v A B) (ha : a.Ok) (hs : slotOf B i = some p) (hp : HP w p (Pro.c a) 37) :
  Calls prog 52 #[pT r 0, iI i] w (RK w (.tuple #[.agg (Pro.c a), .bool true])) := by
 have K0 := kz0 w
 refine sf_ (qc26_1 1) func52 <| qr_ [0, 1] <| pag 37 (#[iI 0, iI 0, .int .u8 0, .int .u8 0, .int .u8 0, .int .u8 0, .int .u8 0, .int .u8 0, .int .u8 0, .int .u8 0, .int .u8 0, .int .u8 0, .int .u8 0, .int .u8 0, .int .u8 0, .int .u8 0, .int .u8 0, .int .u8 0, .int .u8 0, .int .u8 0, .int .u8 0, .int .u8 0, .int .u8 0, .int .u8 0, .int .u8 0, .int .u8 0, .int .u8 0, .int .u8 0, .int .u8 0, .int .u8 0, .int .u8 0, .int .u8 0, .int .u8 0, .int .u8 0, .int .u64 0]) fun V18 g eg h19 j18 => ?_
 have n20 : r < g := eg ▸ lt_of_block H.rec_
 have := nqk1 eg hp K0
 have h23 := j18.bk H.rec_
 have ⟨K25, z26, h24⟩ := j18.z1 K0 hp
 refine kk 1 <| eq_ <| qr_ nl11_ <| kk 1 ?_
 refine pct ((qnone_rec r v A B _ (H.keepsN K25)).mono ?_)
 rintro e w1 ⟨rfl, rfl⟩
 refine ⟨_, rfl, ?_⟩
 refine kk 4 <| pP (lk h23) <| kk 1 <| pcr 98 #[pT B.g 0, iI i] func98 (gatB_some _ p _ (H.keepsN K25).b hs) fun V27 j27 => ?_
 have ⟨K31, z32, h28, h29, h30⟩ := j27.z3 K25 h23 h24 h19
 refine kk 2 <| en_ <| s_ <| tqr_ nl10_ <| kk 3 <| pP (lk h28) <| kk 1 <| pcr 98 #[pT B.g 0, iI i] func98 (gatB_some _ p _ (H.keepsN K31).b hs) fun V33 j33 => ?_
 have ⟨K37, z38, h35, h36⟩ := j33.z2 K31 h29 h30
 refine kk 1 <| pP (ldz 37 p h35 (Pro.c_size _ ha.r)) <| pst 37 g ((Pro.c a)) h36 (by rw [Pro.c_size _ ha.r]; kernel_rfl) (by rw [Pro.c_size _ ha.r]; rfl) (Pro.c_one _) fun V39 h40 j39 => ?_
 have ⟨K43, z44⟩ := j39.zo0 K37
 refine kk 1 <| eu_ <| sy_out (.tuple #[.agg (Pro.c a), .bool true]) rfl (rrt 37 g h40 underlying37 (by rw [Pro.c_size _ ha.r]; kernel_rfl)) ?_
 exact ⟨rfl, K43⟩
theorem qBlock_ok (r : Nat) (v : Int) (A : RD Att) (B : RD Pro) (i : Int) (w : World) (H : RecAt w r v A B) : Calls prog 52 #[pT r 0, iI i] w (RK w (.tuple #[.agg (Pro.c ((B.V i).getD zPro)), .bool (B.V i).isSome])) := by
 rcases H.b.none_or i with ⟨hv, hs⟩ | ⟨a, p, hv, hs, hp, _, _, _, ha⟩
 ·rw [hv]; exact qBlock_no r v A B i w H hs
 ·rw [hv]; exact qBlock_yes r v A B i a p w H ha hs hp
def qc26_7 (n : Nat) : Code := partOf f91 n
theorem qNew_fine (v : Int) (win blk : Nat) (w : World) (g0 : ¬ v < 0) (g1 : ¬ v ≥ 32) (g2 : ¬ win < 1) (g3 : ¬ win > 256) (g4 : ¬ blk < 1) (g5 : ¬ blk > 256000) :
  Calls prog 91 #[iI v, iI (win : Int), iI (blk : Int)] w (fun e w' => ∃ r A B, e = .returned (.tuple #[pT r 0, iI 0]) ∧ RecAt w' r v A B ∧ A.low = 0 ∧ A.n = win ∧ A.V = (fun _ => none) ∧ B.low = 1 ∧ B.n = blk ∧ B.V = (fun _ => none) ∧ (∀ j, FR A B j → w.heap.size ≤ j) ∧ w.heap.size ≤ r ∧ Keeps Nob w w') := by
 have K0 := kz0 w
 refine sf_ (qc26_7 1) func91 <| qr_ [0, 1] <| kk 2 <| eq_ <| qr_ nl22_ <| kk 1 <| pP (dtF (((v) : Int) < ((0) : Int))) <| kk 2 <| pP (dtF (((v) : Int) ≥ ((32) : Int))) <| kk 3 <| pP (dtF ((win : Int) < ((1) : Int))) <| kk 3 <| pP (dtF ((win : Int) > ((256) : Int))) <| kk 3 <| pP (dtF ((blk : Int) < ((1) : Int))) <| kk 3 <| pP (dtF ((blk : Int) > ((256000) : Int))) <| kk 1 ?_
 refine ps_end <| then_n <| n_ <| s_ <| tqr_ [0] <| kk 1 <| eqr_ [0] <| kk 1 <| eqr_ nl11_ <| kk 3 ?_
 refine pct ((gmade_ok win 0 _ (by omega) (by omega) (by omega)).mono ?_)
 rintro e V1 ⟨ga, sa, rfl, hra, nga, nsa, j1⟩
 have mga : w.heap.size ≤ ga := Nat.le_trans K0.size nga
 have msa : w.heap.size ≤ sa := Nat.le_trans K0.size nsa
 refine ⟨_, rfl, ?_⟩
 have ⟨K2, z3⟩ := j1.z0 K0
 refine kk 2 ?_
 refine pct ((gmadeB_ok blk 1 _ (by omega) (by omega) (by omega)).mono ?_)
 rintro e V4 ⟨gb, sb, rfl, hrb, ngb, nsb, j4⟩
 have mgb : w.heap.size ≤ gb := Nat.le_trans K2.size ngb
 have msb : w.heap.size ≤ sb := Nat.le_trans K2.size nsb
 refine ⟨_, rfl, ?_⟩
 have h5 := hra.keepsN j4
 have ⟨K6, z7⟩ := j4.z0 K2
 refine kk 1 <| pbg 122 (#[iI v, pT ga 0, pT gb 0]) fun V8 r er h9 j8 => ?_
 have n10 := nk er K6
 have h11 := h5.keepsN j8
 have h12 := hrb.keepsN j8
 have ⟨K13, z14⟩ := j8.z0 K6
 refine kk 2 <| eu_ <| so_ (.tuple #[pT r 0, iI 0]) ?_
 exact ⟨r, ⟨ga, sa, 0, win, win, fun _ => none, fun _ => none, []⟩, ⟨gb, sb, 1, blk, blk, fun _ => none, fun _ => none, []⟩, rfl, ⟨h9, h11, h12⟩, rfl, rfl, rfl, rfl, rfl, rfl, fun j hj => by rcases hj with rfl | rfl | rfl | rfl <;> assumption, by omega, K13⟩
def qc26_4 (n : Nat) : Code := partOf f71 n
theorem qCopy_ok (r : Nat) (v : Int) (A : RD Att) (B : RD Pro) (w : World) (H : RecAt w r v A B) :
  Calls prog 71 #[pT r 0] w (fun e w' => ∃ r2 A2 B2, e = .returned (pT r2 0) ∧ RecAt w' r2 v A2 B2 ∧ A2.low = A.low ∧ A2.n = A.n ∧ A2.V = A.V ∧ B2.low = B.low ∧ B2.n = B.n ∧ B2.V = B.V ∧ (∀ j, FR A2 B2 j → w.heap.size ≤ j) ∧ w.heap.size ≤ r2 ∧ Keeps Nob w w') := by
 have K0 := kz0 w
 refine sf_ (qc26_4 1) func71 <| qr_ [0] <| kk 1 <| eq_ <| qr_ [0, 1] <| kk 1 ?_
 refine pct ((qnone_rec r v A B _ ⟨H.rec_, H.a, H.b⟩).mono ?_)
 rintro e w1 ⟨rfl, rfl⟩
 refine ⟨_, rfl, ?_⟩
 refine en_ <| s_ <| tq_ <| anp 17 (fun W => (HP W r (#[iI v, pT A.g 0, pT B.g 0]) 122) ∧ (RingA W A) ∧ (RingB W B)) fun V1 j1 => ?_
 have h2 := j1.bk H.rec_
 have h3 := H.a.keepsN j1
 have h4 := H.b.keepsN j1
 have ⟨K5, z6⟩ := j1.z0 K0
 refine kA [0, 1, 2] <| aV 3 _ (fun W hS => lk hS.1) <| kA [4, 5, 6] <| aV 7 _ (fun W hS => lk hS.1) <| kA [9, 10, 11] <| aV 12 _ (fun W hS => lk hS.1) <| an_o 8 ?_
 refine nct ((gcop_ok A _ h3).mono ?_)
 rintro e V7 ⟨ga, sa, ca, ta, rfl, hra, nga, nsa, j7⟩
 have mga : w.heap.size ≤ ga := Nat.le_trans K5.size nga
 have msa : w.heap.size ≤ sa := Nat.le_trans K5.size nsa
 refine ⟨_, rfl, ?_⟩
 have h8 := j7.bk h2
 have h9 := h3.keepsN j7
 have h10 := h4.keepsN j7
 have ⟨K11, z12⟩ := j7.z0 K5
 refine ⟨⟨h8, h9, h10⟩, ?_⟩
 refine an_o 13 ?_
 refine nct ((gcopB_ok B _ h10).mono ?_)
 rintro e V13 ⟨gb, sb, cb, tb, rfl, hrb, ngb, nsb, j13⟩
 have mgb : w.heap.size ≤ gb := Nat.le_trans K11.size ngb
 have msb : w.heap.size ≤ sb := Nat.le_trans K11.size nsb
 refine ⟨_, rfl, ?_⟩
 have h14 := j13.bk h8
 have h15 := h9.keepsN j13
 have h16 := h10.keepsN j13
 have h17 := hra.keepsN j13
 have ⟨K18, z19⟩ := j13.z0 K11
 refine ⟨⟨h14, h15, h16⟩, ?_⟩
 refine kA [14] <| an_o 15 <| nbx 122 (#[iI v, pT ga 0, pT gb 0]) (.agg #[iI v, pT ga 0, pT gb 0]) fun V20 r2 er2 h21 j20 => ?_
 have := nqk1 er2 h14 K18
 have h24 := j20.bk h14
 have h25 := h15.keepsN j20
 have h26 := h16.keepsN j20
 have h27 := h17.keepsN j20
 have h28 := hrb.keepsN j20
 have ⟨K29, z30⟩ := j20.z0 K18
 refine ⟨⟨h24, h25, h26⟩, ?_⟩
 refine ako 16 ?_
 refine ane <| then_n <| u_ <| so_ (pT r2 0) ?_
 exact ⟨r2, ⟨ga, sa, A.low, A.n, ca, A.V, A.S, ta⟩, ⟨gb, sb, B.low, B.n, cb, B.V, B.S, tb⟩, rfl, ⟨h21, h27, h28⟩, rfl, rfl, rfl, rfl, rfl, rfl, fun j hj => by rcases hj with rfl | rfl | rfl | rfl <;> assumption, by omega, K29⟩
def qc26_5 (n : Nat) : Code := partOf f77 n
theorem qMove_bad0 (r : Nat) (v : Int) (A : RD Att) (B : RD Pro) (l f : Int) (w : World) (H : RecAt w r v A B) (g0 : l < 0) :
  Calls prog 77 #[pT r 0, iI l, iI f] w (RK w (iI 3)) := by
 have K0 := kz0 w
 refine sf_ (qc26_5 1) func77 <| qr_ [0] <| kk 1 <| eq_ <| bl_ 0 <| qr_ [0, 1, 2] <| kk 1 ?_
 refine pct ((qnone_rec r v A B _ H).mono ?_)
 rintro e w1 ⟨rfl, rfl⟩
 refine ⟨_, rfl, ?_⟩
 refine kk 1 <| en_ <| qr_ nl15_ <| kk 1 <| pP (dtT (((l) : Int) < ((0) : Int))) <| kk 9 <| kk 4 <| ey_ <| qr_ [0] <| kk 1 <| eu_ <| blk_r <| then_r <| so_ (iI 3) ?_
 exact ⟨rfl, K0⟩
theorem qMove_bad1 (r : Nat) (v : Int) (A : RD Att) (B : RD Pro) (l f : Int) (w : World) (H : RecAt w r v A B) (g0 : ¬ l < 0) (g1 : l > 4294967296) :
  Calls prog 77 #[pT r 0, iI l, iI f] w (RK w (iI 3)) := by
 have K0 := kz0 w
 refine sf_ (qc26_5 1) func77 <| qr_ [0] <| kk 1 <| eq_ <| bl_ 0 <| qr_ [0, 1, 2] <| kk 1 ?_
 refine pct ((qnone_rec r v A B _ H).mono ?_)
 rintro e w1 ⟨rfl, rfl⟩
 refine ⟨_, rfl, ?_⟩
 refine kk 1 <| en_ <| qr_ nl15_ <| kk 1 <| pP (dtF (((l) : Int) < ((0) : Int))) <| kk 2 <| pP (dtT (((l) : Int) > ((4294967296) : Int))) <| kk 6 <| kk 4 <| ey_ <| qr_ [0] <| kk 1 <| eu_ <| blk_r <| then_r <| so_ (iI 3) ?_
 exact ⟨rfl, K0⟩
theorem qMove_bad2 (r : Nat) (v : Int) (A : RD Att) (B : RD Pro) (l f : Int) (w : World) (H : RecAt w r v A B) (g0 : ¬ l < 0) (g1 : ¬ l > 4294967296) (g2 : f < 1) :
  Calls prog 77 #[pT r 0, iI l, iI f] w (RK w (iI 3)) := by
 have K0 := kz0 w
 refine sf_ (qc26_5 1) func77 <| qr_ [0] <| kk 1 <| eq_ <| bl_ 0 <| qr_ [0, 1, 2] <| kk 1 ?_
 refine pct ((qnone_rec r v A B _ H).mono ?_)
 rintro e w1 ⟨rfl, rfl⟩
 refine ⟨_, rfl, ?_⟩
 refine kk 1 <| en_ <| qr_ nl15_ <| kk 1 <| pP (dtF (((l) : Int) < ((0) : Int))) <| kk 2 <| pP (dtF (((l) : Int) > ((4294967296) : Int))) <| kk 3 <| pP (dtT (((f) : Int) < ((1) : Int))) <| kk 2 <| kk 4 <| ey_ <| qr_ [0] <| kk 1 <| eu_ <| blk_r <| then_r <| so_ (iI 3) ?_
 exact ⟨rfl, K0⟩
theorem qMove_bad3 (r : Nat) (v : Int) (A : RD Att) (B : RD Pro) (l f : Int) (w : World) (H : RecAt w r v A B) (g0 : ¬ l < 0) (g1 : ¬ l > 4294967296) (g2 : ¬ f < 1) (g3 : f > 4294967296) :
  Calls prog 77 #[pT r 0, iI l, iI f] w (RK w (iI 3)) := by
 have K0 := kz0 w
 refine sf_ (qc26_5 1) func77 <| qr_ [0] <| kk 1 <| eq_ <| bl_ 0 <| qr_ [0, 1, 2] <| kk 1 ?_
 refine pct ((qnone_rec r v A B _ H).mono ?_)
 rintro e w1 ⟨rfl, rfl⟩
 refine ⟨_, rfl, ?_⟩
 refine kk 1 <| en_ <| qr_ nl15_ <| kk 1 <| pP (dtF (((l) : Int) < ((0) : Int))) <| kk 2 <| pP (dtF (((l) : Int) > ((4294967296) : Int))) <| kk 3 <| pP (dtF (((f) : Int) < ((1) : Int))) <| kk 2 <| kk 1 <| pP (dtT (((f) : Int) > ((4294967296) : Int))) <| kk 2 <| ey_ <| qr_ [0] <| kk 1 <| eu_ <| blk_r <| then_r <| so_ (iI 3) ?_
 exact ⟨rfl, K0⟩
theorem qMove_ord1 (r : Nat) (v : Int) (A : RD Att) (B : RD Pro) (l f : Int) (w : World) (H : RecAt w r v A B) (g0 : ¬ l < 0) (g1 : ¬ l > 4294967296) (g2 : ¬ f < 1) (g3 : ¬ f > 4294967296) (q1 : l < (A.low : Int)) :
  Calls prog 77 #[pT r 0, iI l, iI f] w (RK w (iI 9)) := by
 have K0 := kz0 w
 refine sf_ (qc26_5 1) func77 <| qr_ [0] <| kk 1 <| eq_ <| bl_ 0 <| qr_ [0, 1, 2] <| kk 1 ?_
 refine pct ((qnone_rec r v A B _ H).mono ?_)
 rintro e w1 ⟨rfl, rfl⟩
 refine ⟨_, rfl, ?_⟩
 refine kk 1 <| en_ <| qr_ nl15_ <| kk 1 <| pP (dtF (((l) : Int) < ((0) : Int))) <| kk 2 <| pP (dtF (((l) : Int) > ((4294967296) : Int))) <| kk 3 <| pP (dtF (((f) : Int) < ((1) : Int))) <| kk 2 <| kk 1 <| pP (dtF (((f) : Int) > ((4294967296) : Int))) <| kk 2 <| en_ <| qr_ nl21_ <| kk 4 <| pP (lk (H.rec_)) <| kk 2 <| pP (lk (H.a.ring)) <| pP (dtT (((l) : Int) < (A.low : Int))) <| kk 12 <| ps_end ?_
 refine then_n <| y_ <| qr_ [0] <| kk 1 <| eu_ <| blk_r <| then_r <| so_ (iI 9) ?_
 exact ⟨rfl, K0⟩
theorem qMove_ord2 (r : Nat) (v : Int) (A : RD Att) (B : RD Pro) (l f : Int) (w : World) (H : RecAt w r v A B) (g0 : ¬ l < 0) (g1 : ¬ l > 4294967296) (g2 : ¬ f < 1) (g3 : ¬ f > 4294967296) (q1 : ¬ l < (A.low : Int)) (q2 : f < (B.low : Int)) :
  Calls prog 77 #[pT r 0, iI l, iI f] w (RK w (iI 9)) := by
 have K0 := kz0 w
 refine sf_ (qc26_5 1) func77 <| qr_ [0] <| kk 1 <| eq_ <| bl_ 0 <| qr_ [0, 1, 2] <| kk 1 ?_
 refine pct ((qnone_rec r v A B _ H).mono ?_)
 rintro e w1 ⟨rfl, rfl⟩
 refine ⟨_, rfl, ?_⟩
 refine kk 1 <| en_ <| qr_ nl15_ <| kk 1 <| pP (dtF (((l) : Int) < ((0) : Int))) <| kk 2 <| pP (dtF (((l) : Int) > ((4294967296) : Int))) <| kk 3 <| pP (dtF (((f) : Int) < ((1) : Int))) <| kk 2 <| kk 1 <| pP (dtF (((f) : Int) > ((4294967296) : Int))) <| kk 2 <| en_ <| qr_ nl21_ <| kk 4 <| pP (lk (H.rec_)) <| kk 2 <| pP (lk (H.a.ring)) <| pP (dtF (((l) : Int) < (A.low : Int))) <| kk 5 <| pP (lk (H.rec_)) <| kk 2 <| pP (lk (H.b.ring)) <| pP (dtT (((f) : Int) < (B.low : Int))) <| kk 2 <| ps_end ?_
 refine then_n <| y_ <| qr_ [0] <| kk 1 <| eu_ <| blk_r <| then_r <| so_ (iI 9) ?_
 exact ⟨rfl, K0⟩
theorem qMove_fine (r : Nat) (v : Int) (A : RD Att) (B : RD Pro) (l f : Nat) (w : World) (H : RecAt w r v A B) (g1 : ¬ l > 4294967296) (g2 : ¬ f < 1) (g3 : ¬ f > 4294967296) (q1 : A.low ≤ l) (q2 : B.low ≤ f) :
  Calls prog 77 #[pT r 0, iI (l : Int), iI (f : Int)] w (fun e w' => e = .returned (iI 0) ∧ ∃ S1 S2, RecAt w' r v { A with low := l, V := mvV A.V (l : Int), S := S1 } { B with low := f, V := mvV B.V (f : Int), S := S2 } ∧ Keeps (FR A B) w w') := by
 have K0 := Keeps.refl ((FR A B)) w
 refine sf_ (qc26_5 1) func77 <| qr_ [0] <| kk 1 <| eq_ <| bl_ 0 <| qr_ [0, 1, 2] <| kk 1 ?_
 refine pct ((qnone_rec r v A B _ H).mono ?_)
 rintro e w1 ⟨rfl, rfl⟩
 refine ⟨_, rfl, ?_⟩
 refine kk 1 <| en_ <| qr_ nl15_ <| kk 1 <| pP (dtF ((l : Int) < ((0) : Int))) <| kk 2 <| pP (dtF ((l : Int) > ((4294967296) : Int))) <| kk 3 <| pP (dtF ((f : Int) < ((1) : Int))) <| kk 2 <| kk 1 <| pP (dtF ((f : Int) > ((4294967296) : Int))) <| kk 2 <| en_ <| qr_ nl21_ <| kk 4 <| pP (lk (H.rec_)) <| kk 2 <| pP (lk (H.a.ring)) <| pP (dtF ((l : Int) < (A.low : Int))) <| kk 5 <| pP (lk (H.rec_)) <| kk 2 <| pP (lk (H.b.ring)) <| pP (dtF ((f : Int) < (B.low : Int))) <| kk 2 <| ps_end ?_
 refine then_n <| n_ <| s_ <| blk_n <| tqr_ nl6_ <| kk 3 <| pP (lk (H.rec_)) <| kk 1 ?_
 have Hp := H
 have nr_ : r ≠ A.g ∧ r ≠ A.s := ⟨fun e => Odd.one Hp.a.ring (by decide) _ _ _ e H.rec_, fun e => Odd.one Hp.a.slots (by decide) _ _ _ e H.rec_⟩
 refine pct ((gmove_ok A l _ Hp.a (by omega) (by omega)).mono ?_)
 rintro e V1 ⟨rfl, S1, hr1, j1⟩
 have hm1 := RecAt.moveA Hp hr1 rfl j1
 refine ⟨_, rfl, ?_⟩
 have h2 : HP V1 r (#[iI v, pT A.g 0, pT B.g 0]) 122 := (j1.block r (lt_of_block H.rec_) (fun e => (by rcases e with e | e; exact nr_.1 e; exact nr_.2 e))).trans H.rec_
 have K3 : Keeps ((FR A B)) w V1 := K0.then j1 (fun i hi hm => by rcases hm with h | h; exact .inl h; exact .inr (.inl h))
 have z4 := j1.size
 refine eqr_ nl6_ <| kk 3 <| pP (lk h2) <| kk 1 ?_
 have Hq := hm1
 have nq_ : r ≠ B.g ∧ r ≠ B.s := ⟨fun e => Odd.one Hq.b.ring (by decide) _ _ _ e h2, fun e => Odd.one Hq.b.slots (by decide) _ _ _ e h2⟩
 refine pct ((gmoveB_ok B f _ Hq.b (by omega) (by omega)).mono ?_)
 rintro e V5 ⟨rfl, S2, hr2, j5⟩
 have hm2 := RecAt.moveB Hq hr2 rfl j5
 refine ⟨_, rfl, ?_⟩
 have K7 : Keeps ((FR A B)) w V5 := K3.then j5 (fun i hi hm => by rcases hm with h | h; exact .inr (.inr (.inl h)); exact .inr (.inr (.inr h)))
 have z8 := j5.size
 refine eqr_ [0] <| kk 1 <| eu_ <| so_ (iI 0) ?_
 exact ⟨rfl, S1, S2, hm2, K7⟩
def qMoveErr (A : RD Att) (B : RD Pro) (l f : Int) : Int := if l < 0 ∨ l > 4294967296 ∨ f < 1 ∨ f > 4294967296 then 3 else if l < (A.low : Int) ∨ f < (B.low : Int) then 9 else 0
theorem qMove_ok (r : Nat) (v : Int) (A : RD Att) (B : RD Pro) (l f : Int) (w : World) (H : RecAt w r v A B) : Calls prog 77 #[pT r 0, iI l, iI f] w fun e w' => e = .returned (iI (qMoveErr A B l f)) ∧ (qMoveErr A B l f ≠ 0 → RecAt w' r v A B) ∧
  (qMoveErr A B l f = 0 → ∃ S1 S2, RecAt w' r v { A with low := l.toNat, V := mvV A.V l, S := S1 } { B with low := f.toNat, V := mvV B.V f, S := S2 }) ∧ Keeps (FR A B) w w' := by
 have nob : ∀ {w' : World}, Keeps Nob w w' → Keeps (FR A B) w w' := fun k => k.mono (fun _ _ x => x.elim)
 have bad : ∀ (x : Int), qMoveErr A B l f = x → x ≠ 0 → Calls prog 77 #[pT r 0, iI l, iI f] w (RK w (iI x)) → _ := fun x hx q0 hc =>
  show Calls prog 77 #[pT r 0, iI l, iI f] w (fun e w' => e = .returned (iI (qMoveErr A B l f)) ∧ (qMoveErr A B l f ≠ 0 → RecAt w' r v A B) ∧ (qMoveErr A B l f = 0 → ∃ S1 S2, RecAt w' r v { A with low := l.toNat, V := mvV A.V l, S := S1 } { B with low := f.toNat, V := mvV B.V f, S := S2 }) ∧ Keeps (FR A B) w w') from
   hc.mono fun e w' ⟨he, k⟩ => ⟨hx ▸ he, fun _ => H.keepsN k, fun h => absurd (hx ▸ h) q0, nob k⟩
 by_cases g0 : l < 0
 ·exact bad 3 (by unfold qMoveErr; rw [if_pos (by omega)]) (by decide) (qMove_bad0 r v A B l f w H g0)
 by_cases g1 : l > 4294967296
 ·exact bad 3 (by unfold qMoveErr; rw [if_pos (by omega)]) (by decide) (qMove_bad1 r v A B l f w H g0 g1)
 by_cases g2 : f < 1
 ·exact bad 3 (by unfold qMoveErr; rw [if_pos (by omega)]) (by decide) (qMove_bad2 r v A B l f w H g0 g1 g2)
 by_cases g3 : f > 4294967296
 ·exact bad 3 (by unfold qMoveErr; rw [if_pos (by omega)]) (by decide) (qMove_bad3 r v A B l f w H g0 g1 g2 g3)
 by_cases q1 : l < (A.low : Int)
 ·exact bad 9 (by unfold qMoveErr; rw [if_neg (by omega), if_pos (by omega)]) (by decide) (qMove_ord1 r v A B l f w H g0 g1 g2 g3 q1)
 by_cases q2 : f < (B.low : Int)
 ·exact bad 9 (by unfold qMoveErr; rw [if_neg (by omega), if_pos (by omega)]) (by decide) (qMove_ord2 r v A B l f w H g0 g1 g2 g3 q1 q2)
 have q0 : qMoveErr A B l f = 0 := by unfold qMoveErr; rw [if_neg (by omega), if_neg (by omega)]
 obtain ⟨l, rfl⟩ : ∃ n : Nat, l = (n : Int) := ⟨l.toNat, by omega⟩
 obtain ⟨f, rfl⟩ : ∃ n : Nat, f = (n : Int) := ⟨f.toNat, by omega⟩
 rw [q0]
 exact (qMove_fine r v A B l f w H (by omega) (by omega) (by omega) (by omega) (by omega)).mono fun e w' ⟨he, S1, S2, hr, k⟩ => ⟨he, fun h => absurd rfl h, fun _ => ⟨S1, S2, hr⟩, k⟩
theorem att_info0 : (prog.info? 28).map (fun i => (i.zero, i.size, i.bytes)) = some (some (.agg zAtt.c), 36, 64) := by kernel_rfl
theorem pro_info0 : (prog.info? 37).map (fun i => (i.zero, i.size, i.bytes)) = some (some (.agg zPro.c), 35, 56) := by kernel_rfl
theorem items_ok {α : Type} {ix : FuncId} {tr tp te : TypeId} {enc : α → Array Value} {key : α → Int} {ok : α → Prop} {w : World} {d : RD α} (h : Ring ix tr tp te enc key ok w d) : ∀ x ∈ items d.V d.low d.n, ok x := fun x hx => by
 obtain ⟨k, _, hv⟩ := mem_items.1 hx
 exact (h.out _ _ hv).2.2.2
theorem flat_take {α : Type} (c : α → List Value) (xs : List α) (k : Nat) (x : α) (h : xs[k]? = some x) : (xs.take (k + 1)).flatMap c = (xs.take k).flatMap c ++ c x := by
 rw [List.take_add_one, h, List.flatMap_append]; simp
theorem src_att {w : World} {g : Nat} {x : Att} {T : TypeId} (ha : x.Ok) (h : HP w g x.c T) : SrcO w 36 (sS g 1 1) 1 x.cl :=
 ⟨by rw [Att.cl_len ha], Att.cl_one, .inr ⟨_, _, rfl, fun j u hj => by simp only [Addr.add_lit, Nat.zero_add]; exact rc h (by simpa [Att.cl] using hj)⟩⟩
theorem src_pro {w : World} {g : Nat} {x : Pro} {T : TypeId} (ha : x.Ok) (h : HP w g x.c T) : SrcO w 35 (sS g 1 1) 1 x.cl :=
 ⟨by rw [Pro.cl_len ha], Pro.cl_one, .inr ⟨_, _, rfl, fun j u hj => by simp only [Addr.add_lit, Nat.zero_add]; exact rc h (by simpa [Pro.cl] using hj)⟩⟩
def qc27_3 (n : Nat) : Code := partOf f39 n
abbrev qo27_3 (n k : Nat) : Oper := (opsAt (qc27_3 n)).getD k default
theorem qAll_assign {l N : Nat} {u0 u1 u2 u3 u4 u5 u6 u7 u8 u9 u10 u11 u12 u14 u15 u16 u17 u18 : Value} (x : Att) (hx : x.Ok) (w : World) (Q : Exit → Act → World → Prop) (hL : ¬ LetsOut Q) (hQ : ∀ (b : Nat) (W : World), HP W b (Att.c x) 28 → w.heap.size ≤ b → Keeps Nob w W → Q .normal ⟨#[u0, u1, u2, u3, pT b 0, u5, u6, u7, u8, u9, u10, u11, u12, .agg (Att.c x), u14, u15, u16, u17, u18], []⟩ W) :
  (qc27_3 244).wpIn (Fence.wide.inRound l) N prog Q ⟨#[u0, u1, u2, u3, u4, u5, u6, u7, u8, u9, u10, u11, u12, .agg (Att.c x), u14, u15, u16, u17, u18], []⟩ w := by
 have K0 := kz0 w
 refine syI_reg (by kernel_rfl) (fun ⟨a, w, h⟩ => hL ⟨a, w, h⟩) <| rg_plain 5 (opsAt (qc27_3 244)) [0, 1] (by kernel_rfl) (by kernel_rfl) <| pag 28 (zl1_) fun V1 b eb h2 j1 => ?_
 have n3 := nk eb K0
 have ⟨K4, z5⟩ := j1.z0 K0
 refine pst 28 b ((Att.c x)) h2 (by rw [Att.c_size _ hx.r]; kernel_rfl) (by rw [Att.c_size _ hx.r]; rfl) (Att.c_one _) fun V6 h7 j6 => ?_
 have ⟨K8, z9⟩ := j6.zo0 K4
 refine ps_end <| sy_a ⟨#[u0, u1, u2, u3, pT b 0, u5, u6, u7, u8, u9, u10, u11, u12, .agg (Att.c x), u14, u15, u16, u17, u18], []⟩ ?_
 exact hQ b _ h7 (by omega) K8
theorem qAll_body {l N : Nat} {u0 u1 u2 u5 u6 u7 u8 u9 u10 u11 u12 u13 u14 u15 u16 u17 u18 : Value} (x : Att) (hx : x.Ok) (o b k B0 : Nat) (v : Value) (xs : List Value) (hk : k ≤ 256000) (w : World) (Q : Exit → Act → World → Prop) (hL : ¬ LetsOut Q) (ho : HP w o #[v] 32) (hb : HP w b (Att.c x) 28) (hrow : Row w 28 36 v k xs) (hnew : NewFrom B0 v) (hB0 : B0 ≤ w.heap.size) (hQ : ∀ (a : Act) (W : World) (v' : Value), HP W o #[v'] 32 → Row W 28 36 v' (k + 1) (xs ++ Att.cl x) → NewFrom B0 v' → KeepsOthers w W → Keeps (fun j => j = o ∨ Value.ownBlock v = some j) w W → Q .normal a W) :
  (qc27_3 245).wpIn (Fence.wide.inRound l) N prog Q ⟨#[u0, u1, u2, pT o 0, pT b 0, u5, u6, u7, u8, u9, u10, u11, u12, u13, u14, u15, u16, u17, u18], []⟩ w := by
 obtain ⟨i0, hi0, hz0, hz1, hz2⟩ := info_parts att_info0
 have lto := lt_of_block ho
 have ltb := lt_of_block hb
 have hnro := Row.ne hrow ho (by decide)
 have K0 := Keeps.refl ((fun j => j = o ∨ Value.ownBlock v = some j)) w
 refine syI_block 1 (qc27_3 490) (by kernel_rfl) <| syI_reg (by kernel_rfl) (fun ⟨a, w, h⟩ => hL ⟨a, w, h⟩) <| rg_plain 6 (opsAt (qc27_3 490)) nl5_ (by kernel_rfl) (by kernel_rfl) <| pP (lk ho) <| pP (ldz 28 b (hb) (Att.c_size _ hx.r)) ?_
 obtain ⟨V10, eV10, lit, elit, h11, j10⟩ := alloc_step w (Att.c x) 28
 refine prq (sS lit 1 1) (w' := V10) (by rw [← eV10, ← elit]; exact exec_build1 32 28 (.tmp 15) (by kernel_rfl) (.agg (Att.c x)) (by kernel_rfl) i0 _ underlying32 hi0 hz0 36 hz1 (by decide) (by decide) (Att.c_size x hx.r)) ?_
 clear eV10
 have h12 := j10.bk ho
 have h14 := hrow.rn j10
 have h15 : KeepsOthers w V10 := (KeepsOthers.refl w).trans j10.others0
 have ⟨K16, z17⟩ := j10.z0 K0
 obtain ⟨v18, V19, hr20, h21, hg22, hn23, ha24⟩ := run_append_any (P := prog) (w := V10) 32 (Oper.type (qo27_3 490 3)) 28 i0 (.agg zAtt.c) 36 64 underlying32 hi0 hz0 hz1 hz2 rfl (by decide) v k xs h14 (sS lit 1 1) 1 (Att.cl x) (src_att hx h11) (by unfold maxLen; omega) (by omega)
 obtain ⟨gS, cS, rfl, _⟩ := Row.spell h21 (by omega)
 have j19 : Keeps (fun j => v.ownBlock = some j) V10 V19 := Keeps.rowAdd hg22
 have hw25 : NewFrom B0 (sS gS (k + 1) cS) := hnew.next (Nat.le_trans hB0 K16.size) ha24
 refine prq (sS gS (k + 1) cS) (w' := V19) (exec_append (.tmp 14) (.tmp 16) 32 (by kernel_rfl) v (sS lit 1 1) (by kernel_rfl) (by kernel_rfl) hr20) ?_
 have h26 : Row V19 28 36 (sS gS (k + 1) cS) (k + 1) (xs ++ (Att.cl x)) := h21
 have h27 : HP V19 o #[v] 32 := (j19.block o (lt_of_block h12) (fun e => Row.ne h14 h12 (by decide) e)).trans h12
 have h28 : KeepsOthers w V19 := h15.trans (j19.othersR h14)
 have K29 : Keeps ((fun j => j = o ∨ Value.ownBlock v = some j)) w V19 := K16.then j19 (fun i hi hm => .inr hm)
 have z30 := j19.size
 refine pce 32 o 0 (sS gS (k + 1) cS) (#[sS gS (k + 1) cS]) h27 (rc h27 (by kernel_rfl)) (by kernel_rfl) (u := v) fun V31 h32 j31 => ?_
 have h33 : KeepsOthers w V31 := h28.trans (j31.others1 h27)
 have h34 := h26.ro h27 j31
 have K35 : Keeps ((fun j => j = o ∨ Value.ownBlock v = some j)) w V31 := K29.then j31 (fun i hi hm => .inl hm)
 have z36 := j31.size
 refine ps_end <| blk_n ?_
 exact hQ _ _ _ h32 h34 hw25 h33 K35
theorem qAll_ok (r : Nat) (v : Int) (A : RD Att) (B : RD Pro) (w : World) (H : RecAt w r v A B) :
  Calls prog 39 #[pT r 0] w (fun e w' => ∃ v, e = .returned v ∧ Row w' 28 36 v (items A.V A.low A.n).length ((items A.V A.low A.n).flatMap Att.cl) ∧ NewFrom w.heap.size v ∧ Keeps Nob w w') := by
 have K0 := kz0 w
 refine calls_marks 3 (c := (qc27_3 1)) func39 (by kernel_rfl) <| sy_frame ⟨fr [pT r 0] 18, []⟩ (by kernel_rfl) <| qr_ [0] <| kk 1 <| ps_end <| tqr_ [0] <| pal 32 (#[.slice none 0 0]) (.slice none 0 0) fun V37 o eo h38 j37 => ?_
 have n39 : r < o := eo ▸ lt_of_block H.rec_
 have n40 := nk eo K0
 have h41 := j37.bk H.rec_
 have ⟨K42, z43⟩ := j37.z0 K0
 refine ps_end <| tq_ <| qr_ [0, 1] <| kk 1 ?_
 refine pct ((qnone_rec r v A B _ (H.keepsN K42)).mono ?_)
 rintro e w1 ⟨rfl, rfl⟩
 refine ⟨_, rfl, ?_⟩
 refine ps_end <| then_n <| n_ <| s_ <| tq_ <| qr_ nl5_ <| kk 3 <| pP (lk h41) ?_
 have lo_ := lt_of_block h38
 refine pct ((gall_ok A.g _).mono ?_)
 rintro e V44 ⟨bx, rfl, hbx, nbx, j44⟩
 refine ⟨_, rfl, ?_⟩
 have ⟨K47, z48, h46⟩ := j44.z1 K42 h38
 refine ps_end <| then_n <| bl_ 0 ?_
 have hbxo : bx ≠ o := by omega
 have szW : w.heap.size ≤ V44.heap.size := K47.size
 have lto := lt_of_block h46
 have ltbx := lt_of_block hbx
 have hn2 := H.a.n2
 have hxl : (items A.V A.low A.n).length ≤ 256000 := Nat.le_trans (items_len _ _ _) hn2
 refine sy_part (.rangeFunc (.tmp 12) #[13] (qc27_3 244) (qc27_3 245)) (by kernel_rfl) ?_
 refine wp_range 3 (gf := 112) (lb := #[pT bx 0]) (by kernel_rfl) (enters_of func112 (by kernel_rfl) rfl) (encs := fun x : Att => #[.agg x.c]) (fun _ => rfl) (xs := (items A.V A.low A.n)) (Mi := Nob) (S := fun _ => gall1S bx A) (fun _ h => h.elim) (gall1_seq bx A 5) (fun _ _ _ h t => h.turn t) ⟨hbx, H.a.keepsN K47⟩
  (fun k V => k ≤ (items A.V A.low A.n).length ∧ ∃ v, HP V o #[v] 32 ∧ Row V 28 36 v k (((items A.V A.low A.n).take k).flatMap Att.cl) ∧ NewFrom w.heap.size v ∧ Keeps Nob w V) (fun _ _ => False) ?hI (fun _ _ _ h => h.elim) ?h0 (fun _ x a' V => ∃ b, a' = ⟨fr [pT r 0, ud, .slice none 0 0, pT o 0, pT b 0, pT r 0, .bool false, ud, pT r 0, pT r 0, pT r 1, pT A.g 0, .func (.func 112) #[] #[pT bx 0], .agg (Att.c x)] 5, []⟩ ∧ HP V b (Att.c x) 28) ?hAx ?assign ?body ?done (fun _ _ _ _ h => h.elim)
 case h0 => exact ⟨Nat.zero_le _, .slice none 0 0, h46, ⟨rfl, .inl ⟨rfl, rfl⟩⟩, NewFrom.nil _, K47⟩
 case hI =>
  rintro k A V ⟨q1, v, q2, q3, q4, q5⟩ t
  refine ⟨q1, v, t.same _ _ q2 (fun x => x) (.inr rfl), q3.heap fun j hj => ?_, q4, t.keepsN q5 szW⟩
  obtain ⟨cs, hcs⟩ := q3.elem hj
  rw [hcs]; exact t.same _ _ hcs (fun x => x) (.inr rfl)
 case hAx =>
  rintro k x a' A V ⟨b, rfl, q1⟩ t
  exact ⟨b, rfl, t.same _ _ q1 (fun x => x) (.inr rfl)⟩
 case assign =>
  intro l k x V K hx hi hs hK
  have hxo : x.Ok := items_ok H.a x (List.mem_of_getElem? hx)
  refine syI_frame ⟨fr [pT r 0, ud, .slice none 0 0, pT o 0, ud, pT r 0, .bool false, ud, pT r 0, pT r 0, pT r 1, pT A.g 0, .func (.func 112) #[] #[pT bx 0], .agg (Att.c x)] 5, []⟩ (by kernel_rfl) ?_
  refine qAll_assign x hxo V _ ?_ ?_
  ·exact fun h => h.elim fun _ h => h.elim fun _ h => h
  ·intro b Wb q1 q2 q3
   obtain ⟨hk, v, r1, r2, r3, r4⟩ := hi
   exact hK _ _ (q3.from (fun _ h => h.elim)) ⟨hk, v, q3.bk r1, r2.keeps q3 (fun _ _ x => x), r3, r4.then q3 (fun _ _ x => x.elim)⟩ ⟨q3.bk hs.1, hs.2.keepsN q3⟩ ⟨b, rfl, q1⟩
 case body =>
  rintro l k x a' V hl hr hx ⟨hk, v, r1, r2, r3, r4⟩ hs ⟨b, rfl, hb⟩
  have hxo : x.Ok := items_ok H.a x (List.mem_of_getElem? hx)
  have hlt : k < (items A.V A.low A.n).length := (List.getElem?_eq_some_iff.1 hx).1
  refine qAll_body x hxo o b k w.heap.size v _ (by omega) V _ (fun h => h.elim fun _ h => h.elim fun _ h => h) r1 hb r2 r3 r4.size (fun a Wq v' g1 g2 g3 g4 g5 => ?_)
  have hK : Keeps Nob w Wq := r4.then g5 (fun i hi hm => by
   rcases hm with hm | hm
   ·omega
   ·have := r3 i hm; omega)
  refine ⟨g4.from _, ⟨by omega, v', g1, ?_, g3, hK⟩, ?_, H.a.keepsN hK⟩
  ·rw [flat_take _ _ _ x hx]; exact g2
  ·exact (g5.block bx (lt_of_block hs.1) (fun hm => by
    rcases hm with hm | hm
    ·exact hbxo hm
    ·exact Row.ne r2 hs.1 (by decide) hm)).trans hs.1
 case done =>
  rintro D Vz hD ⟨_, v, r1, r2, r3, r4⟩ hK
  have hDs : V44.heap.size ≤ D := hD
  rw [List.take_of_length_le (Nat.le_refl _)] at r2
  refine blk_n <| tqr_ [0, 1] <| pP (lk r1) <| kk 1 <| ps_end <| then_n <| u_ ?_
  obtain ⟨V49, eV49⟩ : ∃ V, Vz.putObj D (.deferred none) = V := ⟨_, rfl⟩
  have tV49 : Turn V44.heap.size Nob Vz V49 := eV49 ▸ Turn.put _ _ _ _ hDs hK rfl
  have h51 : Row V49 28 36 v (items A.V A.low A.n).length ((items A.V A.low A.n).flatMap Att.cl) := r2.heap (fun j hj => by obtain ⟨cs, hcs⟩ := Row.elem r2 hj; rw [hcs]; exact tV49.same _ _ hcs (fun x => x) (.inr rfl))
  have K52 : Keeps Nob w V49 := tV49.keepsN r4 (by omega)
  refine marks_ret hK (v := v) (by rw [eV49]; kernel_rfl) ?_
  rw [eV49]
  exact ⟨v, rfl, h51, r3, K52⟩
def qc27_0 (n : Nat) : Code := partOf f114 n
abbrev qo27_0 (n k : Nat) : Oper := (opsAt (qc27_0 n)).getD k default
theorem appendSeqB_assign {l N : Nat} {u0 u1 u2 u3 u4 u5 u6 u8 u9 u10 u11 u12 : Value} (x : Pro) (hx : x.Ok) (w : World) (Q : Exit → Act → World → Prop) (hL : ¬ LetsOut Q) (hQ : ∀ (b : Nat) (W : World), HP W b (Pro.c x) 37 → w.heap.size ≤ b → Keeps Nob w W → Q .normal ⟨#[u0, u1, u2, u3, u4, pT b 0, u6, .agg (Pro.c x), u8, u9, u10, u11, u12], []⟩ W) :
  (qc27_0 52).wpIn (Fence.wide.inRound l) N prog Q ⟨#[u0, u1, u2, u3, u4, u5, u6, .agg (Pro.c x), u8, u9, u10, u11, u12], []⟩ w := by
 have K0 := kz0 w
 refine syI_reg (by kernel_rfl) (fun ⟨a, w, h⟩ => hL ⟨a, w, h⟩) <| rg_plain 2 (opsAt (qc27_0 52)) [0, 1] (by kernel_rfl) (by kernel_rfl) <| pag 37 (zl3_) fun V1 b eb h2 j1 => ?_
 have n3 := nk eb K0
 have ⟨K4, z5⟩ := j1.z0 K0
 refine pst 37 b ((Pro.c x)) h2 (by rw [Pro.c_size _ hx.r]; kernel_rfl) (by rw [Pro.c_size _ hx.r]; rfl) (Pro.c_one _) fun V6 h7 j6 => ?_
 have ⟨K8, z9⟩ := j6.zo0 K4
 refine ps_end <| sy_a ⟨#[u0, u1, u2, u3, u4, pT b 0, u6, .agg (Pro.c x), u8, u9, u10, u11, u12], []⟩ ?_
 exact hQ b _ h7 (by omega) K8
theorem appendSeqB_body {l N : Nat} {u0 u1 u3 u4 u6 u7 u8 u9 u10 u11 u12 : Value} (x : Pro) (hx : x.Ok) (o b k B0 : Nat) (v : Value) (xs : List Value) (hk : k ≤ 256000) (w : World) (Q : Exit → Act → World → Prop) (hL : ¬ LetsOut Q) (ho : HP w o #[v] 40) (hb : HP w b (Pro.c x) 37) (hrow : Row w 37 35 v k xs) (hnew : NewFrom B0 v) (hB0 : B0 ≤ w.heap.size) (hQ : ∀ (a : Act) (W : World) (v' : Value), HP W o #[v'] 40 → Row W 37 35 v' (k + 1) (xs ++ Pro.cl x) → NewFrom B0 v' → KeepsOthers w W → Keeps (fun j => j = o ∨ Value.ownBlock v = some j) w W → Q .normal a W) :
  (qc27_0 53).wpIn (Fence.wide.inRound l) N prog Q ⟨#[u0, u1, pT o 0, u3, u4, pT b 0, u6, u7, u8, u9, u10, u11, u12], []⟩ w := by
 obtain ⟨i0, hi0, hz0, hz1, hz2⟩ := info_parts pro_info0
 have lto := lt_of_block ho
 have ltb := lt_of_block hb
 have hnro := Row.ne hrow ho (by decide)
 have K0 := Keeps.refl ((fun j => j = o ∨ Value.ownBlock v = some j)) w
 refine syI_block 1 (qc27_0 106) (by kernel_rfl) <| syI_reg (by kernel_rfl) (fun ⟨a, w, h⟩ => hL ⟨a, w, h⟩) <| rg_plain 3 (opsAt (qc27_0 106)) nl5_ (by kernel_rfl) (by kernel_rfl) <| pP (lk ho) <| pP (ldz 37 b (hb) (Pro.c_size _ hx.r)) ?_
 obtain ⟨V10, eV10, lit, elit, h11, j10⟩ := alloc_step w (Pro.c x) 37
 refine prq (sS lit 1 1) (w' := V10) (by rw [← eV10, ← elit]; exact exec_build1 40 37 (.tmp 9) (by kernel_rfl) (.agg (Pro.c x)) (by kernel_rfl) i0 _ underlying40 hi0 hz0 35 hz1 (by decide) (by decide) (Pro.c_size x hx.r)) ?_
 clear eV10
 have h12 := j10.bk ho
 have h14 := hrow.rn j10
 have h15 : KeepsOthers w V10 := (KeepsOthers.refl w).trans j10.others0
 have ⟨K16, z17⟩ := j10.z0 K0
 obtain ⟨v18, V19, hr20, h21, hg22, hn23, ha24⟩ := run_append_any (P := prog) (w := V10) 40 (Oper.type (qo27_0 106 3)) 37 i0 (.agg zPro.c) 35 56 underlying40 hi0 hz0 hz1 hz2 rfl (by decide) v k xs h14 (sS lit 1 1) 1 (Pro.cl x) (src_pro hx h11) (by unfold maxLen; omega) (by omega)
 obtain ⟨gS, cS, rfl, _⟩ := Row.spell h21 (by omega)
 have j19 : Keeps (fun j => v.ownBlock = some j) V10 V19 := Keeps.rowAdd hg22
 have hw25 : NewFrom B0 (sS gS (k + 1) cS) := hnew.next (Nat.le_trans hB0 K16.size) ha24
 refine prq (sS gS (k + 1) cS) (w' := V19) (exec_append (.tmp 8) (.tmp 10) 40 (by kernel_rfl) v (sS lit 1 1) (by kernel_rfl) (by kernel_rfl) hr20) ?_
 have h26 : Row V19 37 35 (sS gS (k + 1) cS) (k + 1) (xs ++ (Pro.cl x)) := h21
 have h27 : HP V19 o #[v] 40 := (j19.block o (lt_of_block h12) (fun e => Row.ne h14 h12 (by decide) e)).trans h12
 have h28 : KeepsOthers w V19 := h15.trans (j19.othersR h14)
 have K29 : Keeps ((fun j => j = o ∨ Value.ownBlock v = some j)) w V19 := K16.then j19 (fun i hi hm => .inr hm)
 have z30 := j19.size
 refine pce 40 o 0 (sS gS (k + 1) cS) (#[sS gS (k + 1) cS]) h27 (rc h27 (by kernel_rfl)) (by kernel_rfl) (u := v) fun V31 h32 j31 => ?_
 have h33 : KeepsOthers w V31 := h28.trans (j31.others1 h27)
 have h34 := h26.ro h27 j31
 have K35 : Keeps ((fun j => j = o ∨ Value.ownBlock v = some j)) w V31 := K29.then j31 (fun i hi hm => .inl hm)
 have z36 := j31.size
 refine ps_end <| blk_n ?_
 exact hQ _ _ _ h32 h34 hw25 h33 K35
theorem appendSeqB_ok (bx : Nat) (d : RD Pro) (w : World) (hS0 : gall1BS bx d w) :
  Calls prog 114 #[.slice none 0 0, .func (.func 115) #[] #[pT bx 0]] w (fun e w' => ∃ v, e = .returned v ∧ Row w' 37 35 v (items d.V d.low d.n).length ((items d.V d.low d.n).flatMap Pro.cl) ∧ NewFrom w.heap.size v ∧ Keeps Nob w w') := by
 have ltb0 := lt_of_block hS0.1
 have K0 := kz0 w
 refine calls_marks 3 (c := (qc27_0 1)) func114 (by kernel_rfl) <| sy_frame ⟨fr [.slice none 0 0, .func (.func 115) #[] #[pT bx 0]] 11, []⟩ (by kernel_rfl) <| qr_ [0, 1] <| pbx 40 (#[.slice none 0 0]) (.slice none 0 0) fun V37 o eo h38 j37 => ?_
 have n39 : bx < o := eo ▸ lt_of_block hS0.1
 have n40 := nk eo K0
 have h41 := j37.bk hS0.1
 have ⟨K42, z43⟩ := j37.z0 K0
 refine kk 1 <| ps_end <| tq_ <| qr_ [0] <| kk 1 <| ps_end <| then_n <| bl_ 0 ?_
 have hbxo : bx ≠ o := by omega
 have szW : w.heap.size ≤ V37.heap.size := K42.size
 have lto := lt_of_block h38
 have ltbx := lt_of_block h41
 have hn2 := hS0.2.n2
 have hxl : (items d.V d.low d.n).length ≤ 256000 := Nat.le_trans (items_len _ _ _) hn2
 refine sy_part (.rangeFunc (.tmp 6) #[7] (qc27_0 52) (qc27_0 53)) (by kernel_rfl) ?_
 refine wp_range 3 (gf := 115) (lb := #[pT bx 0]) (by kernel_rfl) (enters_of func115 (by kernel_rfl) rfl) (encs := fun x : Pro => #[.agg x.c]) (fun _ => rfl) (xs := (items d.V d.low d.n)) (Mi := Nob) (S := fun _ => gall1BS bx d) (fun _ h => h.elim) (gall1B_seq bx d 5) (fun _ _ _ h t => h.turn t) ⟨h41, hS0.2.keepsN K42⟩
  (fun k V => k ≤ (items d.V d.low d.n).length ∧ ∃ v, HP V o #[v] 40 ∧ Row V 37 35 v k (((items d.V d.low d.n).take k).flatMap Pro.cl) ∧ NewFrom w.heap.size v ∧ Keeps Nob w V) (fun _ _ => False) ?hI (fun _ _ _ h => h.elim) ?h0 (fun _ x a' V => ∃ b, a' = ⟨fr [.slice none 0 0, .func (.func 115) #[] #[pT bx 0], pT o 0, ud, .slice none 0 0, pT b 0, .func (.func 115) #[] #[pT bx 0], .agg (Pro.c x)] 5, []⟩ ∧ HP V b (Pro.c x) 37) ?hAx ?assign ?body ?done (fun _ _ _ _ h => h.elim)
 case h0 => exact ⟨Nat.zero_le _, .slice none 0 0, h38, ⟨rfl, .inl ⟨rfl, rfl⟩⟩, NewFrom.nil _, K42⟩
 case hI =>
  rintro k A V ⟨q1, v, q2, q3, q4, q5⟩ t
  refine ⟨q1, v, t.same _ _ q2 (fun x => x) (.inr rfl), q3.heap fun j hj => ?_, q4, t.keepsN q5 szW⟩
  obtain ⟨cs, hcs⟩ := q3.elem hj
  rw [hcs]; exact t.same _ _ hcs (fun x => x) (.inr rfl)
 case hAx =>
  rintro k x a' A V ⟨b, rfl, q1⟩ t
  exact ⟨b, rfl, t.same _ _ q1 (fun x => x) (.inr rfl)⟩
 case assign =>
  intro l k x V K hx hi hs hK
  have hxo : x.Ok := items_ok hS0.2 x (List.mem_of_getElem? hx)
  refine syI_frame ⟨fr [.slice none 0 0, .func (.func 115) #[] #[pT bx 0], pT o 0, ud, .slice none 0 0, ud, .func (.func 115) #[] #[pT bx 0], .agg (Pro.c x)] 5, []⟩ (by kernel_rfl) ?_
  refine appendSeqB_assign x hxo V _ ?_ ?_
  ·exact fun h => h.elim fun _ h => h.elim fun _ h => h
  ·intro b Wb q1 q2 q3
   obtain ⟨hk, v, r1, r2, r3, r4⟩ := hi
   exact hK _ _ (q3.from (fun _ h => h.elim)) ⟨hk, v, q3.bk r1, r2.keeps q3 (fun _ _ x => x), r3, r4.then q3 (fun _ _ x => x.elim)⟩ ⟨q3.bk hs.1, hs.2.keepsN q3⟩ ⟨b, rfl, q1⟩
 case body =>
  rintro l k x a' V hl hr hx ⟨hk, v, r1, r2, r3, r4⟩ hs ⟨b, rfl, hb⟩
  have hxo : x.Ok := items_ok hS0.2 x (List.mem_of_getElem? hx)
  have hlt : k < (items d.V d.low d.n).length := (List.getElem?_eq_some_iff.1 hx).1
  refine appendSeqB_body x hxo o b k w.heap.size v _ (by omega) V _ (fun h => h.elim fun _ h => h.elim fun _ h => h) r1 hb r2 r3 r4.size (fun a Wq v' g1 g2 g3 g4 g5 => ?_)
  have hK : Keeps Nob w Wq := r4.then g5 (fun i hi hm => by
   rcases hm with hm | hm
   ·omega
   ·have := r3 i hm; omega)
  refine ⟨g4.from _, ⟨by omega, v', g1, ?_, g3, hK⟩, ?_, hS0.2.keepsN hK⟩
  ·rw [flat_take _ _ _ x hx]; exact g2
  ·exact (g5.block bx (lt_of_block hs.1) (fun hm => by
    rcases hm with hm | hm
    ·exact hbxo hm
    ·exact Row.ne r2 hs.1 (by decide) hm)).trans hs.1
 case done =>
  rintro D Vz hD ⟨_, v, r1, r2, r3, r4⟩ hK
  have hDs : V37.heap.size ≤ D := hD
  rw [List.take_of_length_le (Nat.le_refl _)] at r2
  refine blk_n <| tqr_ [0, 1] <| pP (lk r1) <| kk 1 <| ps_end <| then_n <| u_ ?_
  obtain ⟨V44, eV44⟩ : ∃ V, Vz.putObj D (.deferred none) = V := ⟨_, rfl⟩
  have tV44 : Turn V37.heap.size Nob Vz V44 := eV44 ▸ Turn.put _ _ _ _ hDs hK rfl
  have h46 : Row V44 37 35 v (items d.V d.low d.n).length ((items d.V d.low d.n).flatMap Pro.cl) := r2.heap (fun j hj => by obtain ⟨cs, hcs⟩ := Row.elem r2 hj; rw [hcs]; exact tV44.same _ _ hcs (fun x => x) (.inr rfl))
  have K47 : Keeps Nob w V44 := tV44.keepsN r4 (by omega)
  refine marks_ret hK (v := v) (by rw [eV44]; kernel_rfl) ?_
  rw [eV44]
  exact ⟨v, rfl, h46, r3, K47⟩
def qc27_1 (n : Nat) : Code := partOf f74 n
theorem collectB_ok (bx : Nat) (d : RD Pro) (w : World) (hS0 : gall1BS bx d w) :
  Calls prog 74 #[.func (.func 115) #[] #[pT bx 0]] w (fun e w' => ∃ v, e = .returned v ∧ Row w' 37 35 v (items d.V d.low d.n).length ((items d.V d.low d.n).flatMap Pro.cl) ∧ NewFrom w.heap.size v ∧ Keeps Nob w w') := by
 have K0 := kz0 w
 refine sf_ (qc27_1 1) func74 <| qr_ [0] <| kk 1 <| eqr_ [0, 1, 2] <| kk 1 ?_
 refine pct ((appendSeqB_ok bx d _ hS0).mono ?_)
 rintro e V1 ⟨vz, rfl, hz, nz, j1⟩
 have nz2 : NewFrom w.heap.size vz := fun j hj => Nat.le_trans K0.size (nz j hj)
 refine ⟨_, rfl, ?_⟩
 have ⟨K2, z3⟩ := j1.z0 K0
 refine kk 1 <| eu_ <| so_ (vz) ?_
 exact ⟨vz, rfl, hz, nz2, K2⟩
def qc27_2 (n : Nat) : Code := partOf f40 n
theorem qBlocks_ok (r : Nat) (v : Int) (A : RD Att) (B : RD Pro) (w : World) (H : RecAt w r v A B) :
  Calls prog 40 #[pT r 0] w (fun e w' => ∃ v, e = .returned v ∧ Row w' 37 35 v (items B.V B.low B.n).length ((items B.V B.low B.n).flatMap Pro.cl) ∧ NewFrom w.heap.size v ∧ Keeps Nob w w') := by
 have K0 := kz0 w
 refine sf_ (qc27_2 1) func40 <| qr_ [0] <| kk 1 <| eq_ <| qr_ [0, 1] <| kk 1 ?_
 refine pct ((qnone_rec r v A B _ H).mono ?_)
 rintro e w1 ⟨rfl, rfl⟩
 refine ⟨_, rfl, ?_⟩
 refine en_ <| s_ <| tqr_ nl7_ <| kk 3 <| pP (lk (H.rec_)) ?_
 refine pct ((gallB_ok B.g _).mono ?_)
 rintro e V1 ⟨bx, rfl, hbx, nbx, j1⟩
 refine ⟨_, rfl, ?_⟩
 have ⟨K3, z4⟩ := j1.z0 K0
 refine pct ((collectB_ok bx B _ ⟨hbx, (H.keepsN K3).b⟩).mono ?_)
 rintro e V5 ⟨vz, rfl, hz, nz, j5⟩
 have nz2 : NewFrom w.heap.size vz := fun j hj => Nat.le_trans K3.size (nz j hj)
 refine ⟨_, rfl, ?_⟩
 have ⟨K8, z9⟩ := j5.z0 K3
 refine kk 1 <| eu_ <| so_ (vz) ?_
 exact ⟨vz, rfl, hz, nz2, K8⟩
theorem _root_.Go.Own.Sl.cell {α : Type} {w : World} {s : Nat} {c : α → List Value} {v : Value} {xs : List α} (h : Sl w s c v xs) {k : Nat} {x : α} (hx : xs[k]? = some x) {b o n cap : Nat} (hv : v = .slice (some ⟨b, o, none⟩) n cap) {j : Nat} {u : Value} (hu : (c x)[j]? = some u) :
    w.cell? ⟨b, o + k * s + j, none⟩ = some u := by
  obtain ⟨b2, o2, cap2, e, _, hc⟩ := h.at_ k x hx
  rw [hv] at e
  simp only [Value.slice.injEq, Option.some.injEq, Addr.mk.injEq, and_true] at e
  obtain ⟨⟨rfl, rfl⟩, _⟩ := e
  exact hc j u hu
theorem _root_.Go.Own.Sl.range {α : Type} {w : World} {s : Nat} {c : α → List Value} {v : Value} {xs : List α} (h : Sl w s c v xs) {k : Nat} {x : α} (hx : xs[k]? = some x) {b o n cap : Nat} (hv : v = .slice (some ⟨b, o, none⟩) n cap) : w.rangeAt b (o + k * s) (c x) := fun j u hu => h.cell hx hv hu
theorem exec_len_sl {P : Program} {o : Oper} {ρ : Operand → Value} {w w0 : World} (x : Operand) (t e : TypeId) (ho : o.op = .call { callee := .builtin .len, args := #[x], argTypes := #[t] }) (ht : P.underlying t = some (.slice e)) {v : Value} (hx : ρ x = v) {α : Type} {s : Nat} {c : α → List Value} {xs : List α} (hv : Sl w0 s c v xs) :
    (execOp ρ o).run P w = .ok (.value (iI (xs.length : Int))) w := by
  obtain ⟨A, cap, rfl, _⟩ := hv.form
  exact exec_len x t e ho ht A xs.length cap hx
theorem lsl {P : Program} {w w0 : World} {o : Oper} {ρ : Operand → Value} {v : Value} {α : Type} {s : Nat} {c : α → List Value} {xs : List α} (hv : Sl w0 s c v xs) {t e : TypeId} (ht : P.underlying t = some (.slice e)) (ho : o.op = .call { callee := .builtin .len, args := #[caX o.op], argTypes := #[t] } := by kernel_rfl) (hx : ρ (caX o.op) = v := by kernel_rfl) : (execOp ρ o).run P w = .ok (.value (iN xs.length)) w := exec_len_sl (caX o.op) t e ho ht hx hv
theorem Att.cl_0 {a : Att} : a.cl[0]? = some (iI a.v) := by have := Att.c_0 a; simpa [Att.cl] using this
theorem Att.cl_1 {a : Att} : a.cl[1]? = some (iI a.s) := by have := Att.c_1 a; simpa [Att.cl] using this
theorem Att.cl_2 {a : Att} : a.cl[2]? = some (iI a.t) := by have := Att.c_2 a; simpa [Att.cl] using this
theorem Pro.cl_0 {a : Pro} : a.cl[0]? = some (iI a.v) := by have := Pro.c_0 a; simpa [Pro.cl] using this
theorem Pro.cl_1 {a : Pro} : a.cl[1]? = some (iI a.h) := by have := Pro.c_1 a; simpa [Pro.cl] using this
section
variable {α : Type} (key : α → Int)
def insK (l : List α) (a : α) : List α := l.takeWhile (fun b => decide (key b < key a)) ++ a :: l.dropWhile (fun b => decide (key b < key a))
variable {key}
theorem insK_at {l : List α} {a : α} {k : Nat} (hk : k ≤ l.length) (h : ∀ (j : Nat) (b : α), j < k → l[j]? = some b → key b < key a) (he : k = l.length ∨ ∃ b, l[k]? = some b ∧ ¬ key b < key a) : l.take k ++ a :: l.drop k = insK key l a := by
  induction l generalizing k with
  | nil => simp [insK]
  | cons x r ih =>
    cases k with
    | zero =>
      rcases he with he | ⟨b, hb, hn⟩
      · simp at he
      · simp only [List.getElem?_cons_zero, Option.some.injEq] at hb
        subst hb
        simp [insK, hn]
    | succ k =>
      have h0 : key x < key a := h 0 x (by omega) rfl
      have := ih (k := k) (by simpa using hk) (fun j b hj hb => h (j + 1) b (by omega) (by simpa using hb)) (by simpa using he)
      unfold insK at this ⊢
      rw [List.takeWhile_cons_of_pos (by simpa using h0), List.dropWhile_cons_of_pos (by simpa using h0)]
      simp only [List.take_succ_cons, List.drop_succ_cons, List.cons_append]
      rw [this]
theorem insK_append {l r : List α} {a : α} (h : ∀ b ∈ r, ¬ key b < key a) : insK key (l ++ r) a = insK key l a ++ r := by
  induction l with
  | nil =>
    cases r with
    | nil => simp [insK]
    | cons x r => have := h x (by simp); simp [insK, this]
  | cons x l ih =>
    by_cases hx : key x < key a
    · unfold insK at ih ⊢
      simp only [List.cons_append]
      rw [List.takeWhile_cons_of_pos (by simpa using hx), List.dropWhile_cons_of_pos (by simpa using hx), List.takeWhile_cons_of_pos (by simpa using hx), List.dropWhile_cons_of_pos (by simpa using hx)]
      simp only [List.cons_append, ih]
    · simp [insK, hx]
theorem insK_all {l : List α} {a : α} (h : ∀ b ∈ l, key b < key a) : insK key l a = l ++ [a] := by
  induction l with
  | nil => simp [insK]
  | cons x l ih =>
    have hx := h x (by simp)
    have := ih (fun b hb => h b (by simp [hb]))
    unfold insK at this ⊢
    rw [List.takeWhile_cons_of_pos (by simpa using hx), List.dropWhile_cons_of_pos (by simpa using hx)]
    simp only [List.cons_append, this]
theorem mem_insK {l : List α} {a b : α} (h : b ∈ insK key l a) : b = a ∨ b ∈ l := by
  unfold insK at h
  rcases List.mem_append.1 h with h | h
  · exact .inr ((List.takeWhile_sublist _).subset h)
  · rcases List.mem_cons.1 h with h | h
    · exact .inl h
    · exact .inr ((List.dropWhile_sublist _).subset h)
theorem insK_len {l : List α} {a : α} : (insK key l a).length = l.length + 1 := by
  unfold insK
  have := congrArg List.length (List.takeWhile_append_dropWhile (p := fun b => decide (key b < key a)) (l := l))
  simp only [List.length_append, List.length_cons] at this ⊢
  omega
variable {V : Int → Option α} {low n : Nat}
theorem items_put (h : Held key V low n) {t : Nat} {a : α} (h1 : low ≤ t) (h2 : t < low + n) (hk : key a = (t : Int)) (hv : V (t : Int) = none) : items (upV V (t : Int) a) low n = insK key (items V low n) a := by
  have hkey : ∀ (m k : Nat) (b : α), V ((low + k : Nat) : Int) = some b → key b = ((low + k : Nat) : Int) := fun m k b hb => (h _ _ hb).2.2
  have go : ∀ m, m ≤ n → (low + m ≤ t → items (upV V (t : Int) a) low m = items V low m) ∧ (t < low + m → items (upV V (t : Int) a) low m = insK key (items V low m) a) := by
    intro m
    induction m with
    | zero => exact fun _ => ⟨fun _ => rfl, fun hlt => by omega⟩
    | succ m ih =>
      intro hm
      obtain ⟨i1, i2⟩ := ih (by omega)
      refine ⟨fun hle => ?_, fun hlt => ?_⟩
      · rw [items_succ, items_succ, i1 (by omega)]
        congr 2
        unfold upV; rw [if_neg (by omega)]
      · rw [items_succ, items_succ]
        by_cases e : t = low + m
        · have e2 : V ((low + m : Nat) : Int) = none := by rw [← e]; exact hv
          rw [i1 (by omega), e2, show upV V (t : Int) a ((low + m : Nat) : Int) = some a by unfold upV; rw [if_pos (by omega)]]
          simp only [Option.toList_some, Option.toList_none, List.append_nil]
          rw [insK_all]
          intro b hb
          obtain ⟨k, hk2, hb2⟩ := mem_items.1 hb
          rw [hkey m k b hb2, hk]; omega
        · rw [i2 (by omega), show upV V (t : Int) a ((low + m : Nat) : Int) = V ((low + m : Nat) : Int) by unfold upV; rw [if_neg (by omega)], insK_append]
          intro b hb
          have : V ((low + m : Nat) : Int) = some b := by simpa using hb
          rw [hkey m m b this, hk]; omega
  exact (go n (Nat.le_refl _)).2 h2
end
theorem Ring.held {α : Type} {ix : FuncId} {tr tp te : TypeId} {enc : α → Array Value} {key : α → Int} {ok : α → Prop} {w : World} {d : RD α} (h : Ring ix tr tp te enc key ok w d) : Held key d.V d.low d.n := fun i a hv => let ⟨h1, h2, h3, _⟩ := h.out i a hv; ⟨h1, h2, h3⟩
end
end Go.Proofs.YthmclmbeflbhhaaGreat
namespace Go.Own
section
open Go Go.ChangeShapes Go.WideShapes Go.ChangeAt Go.RowKit Go.WideElems
variable {H : Type} {enc : TypeId × Value → H} {P : Program}
theorem trodAll_stays (hl : laidOutB P = true) {W W' : World} {sp : Nat → Bool} : ∀ (ts : List TypeId) (vs : List Value) (ds : List (DataW H)) (ps : List MemPlace),
    ts.all (fun t => P.readableRec t && decide (t < P.types.size)) = true → DataW.TrodAll enc P W 0 (fun _ => true) true ts vs ds ps → (∀ p ∈ ps, W.sameAt W' p) → (∀ p ∈ ps, sp p.block = true) →
    DataW.TrodAll enc P W' 0 sp true ts vs ds ps
  | [], vs, ds, ps, _, h, _, _ => by
    obtain ⟨rfl, rfl, rfl⟩ := trodAll_nil h
    exact trodAll_mk0
  | t :: ts, vs, ds, ps, hr, h, hs, hsp => by
    obtain ⟨v, vs', d, ds', p, q, rfl, rfl, rfl, h0, r⟩ := trodAll_cons h
    simp only [List.all_cons, Bool.and_eq_true, decide_eq_true_eq] at hr
    exact trodAll_cons_mk (Trod_stays hl hr.1.1 hr.1.2 h0 (fun x hx => hs x (by simp [hx])) (fun x hx => hsp x (by simp [hx])))
      (trodAll_stays hl ts vs' ds' q hr.2 r (fun x hx => hs x (by simp [hx])) (fun x hx => hsp x (by simp [hx])))
theorem law_post {f : Func} {s : ChangeSpec} {W W' : World} {args : Array Value} {ds gs : List (DataW H)} {before : List MemPlace} {tb : TypeId} (hl : laidOutB P = true) (hr : f.params.toList.all (fun t => P.readableRec t && decide (t < P.types.size)) = true)
    (hres : f.resultTypes = #[tb]) (hb : P.underlying tb = some .bool) (hvars : s.vars = []) (hfn : s.fn H (ds ++ gs) = { results := [.lit (.bool true)], args := ds })
    (hW : DataW.Whole enc P f.params.toList s.vars false W args.toList ds gs before) (hB : Below W.heap.size W W') : s.post enc P f false true false false W args (.bool true) W' := by
  have hlt := hW.lt
  have hW0 := hW
  obtain ⟨p, q, hA, hV, rfl, hfz, hnd⟩ := hW
  rw [hvars] at hV
  obtain ⟨rfl, rfl⟩ := trodVars_none hV
  refine ⟨ds, [], p ++ [], [], p, [], hW0, ?_, ?_, ?_, hB.frame _, fun h => by cases h⟩
  · rw [hfn, hres]
    exact trodAll_mk1 (shut_bool hb _)
  · rw [hfn]
    exact trodAll_stays hl _ _ _ _ hr hA (fun x hx => hB.same (hlt x (by simp [hx]))) (fun x hx => by simpa using hlt x (by simp [hx]))
  · rw [hfn, hvars]
    rfl
theorem open_elemsN {t e : TypeId} {W : World} {sp : Nat → Bool} {held : Bool} {v : Value} {d : DataW H} {ps : List MemPlace} (ht : P.underlying t = some (.slice e)) (hpos : 0 < P.cellsOf e) (h : DataW.Trod enc P W 0 sp held t v d ps) (hv : ∃ a len cap, v = .slice a len cap) :
    ∃ (a : Option Addr) (len cap : Nat), v = .slice a len cap ∧ len ≤ cap ∧ cap ≤ maxLen ∧ (a = none → cap = 0) ∧ ∀ i, i < len → ∃ b o cs n y, a = some ⟨b, o, none⟩ ∧ cs.length = P.cellsOf e ∧
      (∀ j, j < P.cellsOf e → W.cell? ⟨b, o + i * P.cellsOf e + j, none⟩ = cs[j]?) ∧ DataW.trod enc P W 0 sp held n e cs = some y := by
  obtain ⟨fuel, hf⟩ := h
  obtain ⟨a0, len0, cap0, rfl⟩ := hv
  rcases Go.Deep.open_slice ht (by simpa [Value.cells] using hf) with ⟨h0, _⟩ | ⟨a, len, cap, m, n, D, Pl, hcs, _, hl, hm, hmm, _, hi⟩
  · simp only [List.cons.injEq, Value.slice.injEq, and_true] at h0
    obtain ⟨rfl, rfl, rfl⟩ := h0
    exact ⟨_, _, _, rfl, Nat.le_refl _, Nat.zero_le _, fun _ => rfl, fun i h => absurd h (Nat.not_lt_zero i)⟩
  · simp only [List.cons.injEq, Value.slice.injEq, and_true] at hcs
    obtain ⟨rfl, rfl, rfl⟩ := hcs
    refine ⟨_, _, _, rfl, hl, hm, (fun h => by cases h), fun i hlt => ?_⟩
    have him : i < m := by rw [hmm]; split <;> omega
    obtain ⟨cs', hc, ht'⟩ := hi i him
    obtain ⟨_, hcl, hat⟩ := World.cells?_some hc
    have hsp : a.spot = none := by
      obtain ⟨cs0, hc0, _⟩ := hi 0 (by omega)
      obtain ⟨_, hcl0, hat0⟩ := World.cells?_some hc0
      have h0 := hat0 0 hpos
      have e1 : (a.add (0 * P.cellsOf e)).add 0 = a := by simp [Addr.add]
      rw [e1, List.getElem?_eq_getElem (by omega)] at h0
      cases hs : a.spot with
      | none => rfl
      | some s =>
        exfalso
        unfold World.cell? at h0
        split at h0
        · rw [if_pos (by simp [hs])] at h0; cases h0
        · cases h0
    obtain ⟨b, o, s⟩ := a
    cases hsp
    refine ⟨b, o, cs', n, _, rfl, hcl, fun j hj => ?_, ht'⟩
    have h2 := hat j hj
    have e2 : ((⟨b, o, none⟩ : Addr).add (i * P.cellsOf e)).add j = ⟨b, o + i * P.cellsOf e + j, none⟩ := by simp [Addr.add_lit]
    rw [e2] at h2
    exact h2
theorem list_of {α : Type} (Q : Nat → α → Prop) (n : Nat) (h : ∀ i, i < n → ∃ x, Q i x) : ∃ l : List α, l.length = n ∧ ∀ k x, l[k]? = some x → Q k x := by
  induction n with
  | zero => exact ⟨[], rfl, fun k x hk => by simp at hk⟩
  | succ n ih =>
    obtain ⟨l, hl, hq⟩ := ih (fun i hi => h i (by omega))
    obtain ⟨x, hx⟩ := h n (by omega)
    refine ⟨l ++ [x], by simp [hl], fun k y hk => ?_⟩
    rw [List.getElem?_append] at hk
    split at hk
    · exact hq k y hk
    · rename_i hlt
      obtain ⟨hk1, hk2⟩ := List.getElem?_eq_some_iff.1 hk
      have : k = n := by simp at hk1; omega
      subst this
      simp at hk2
      rw [← hk2]; exact hx
theorem field_int {t : TypeId} {k : IntKind} {W : World} {sp : Nat → Bool} {held : Bool} {n off : Nat} {cs : List Value} {y : Option (DataW H × List MemPlace)} {z : DataW H × List MemPlace} (ht : P.underlying t = some (.int k)) (h1 : P.cellsOf t = 1) (h : DataW.trod enc P W 0 sp held n t ((cs.drop off).take (P.cellsOf t)) = y) (hy : y = some z) :
    ∃ q : Int, cs[off]? = some (.int k q) ∧ (Lit.int k q).wf = true := by
  subst hy
  rw [h1] at h
  obtain ⟨q, e1, _, e3⟩ := DataW.trod_int ht h
  refine ⟨q, ?_, e3⟩
  cases hc : cs.drop off with
  | nil => rw [hc] at e1; simp at e1
  | cons c r =>
    rw [hc] at e1
    simp at e1
    have : (cs.drop off)[0]? = some c := by rw [hc]; rfl
    rw [List.getElem?_drop] at this
    rw [show off = off + 0 by omega, this, e1]
structure IntsAt (w : World) (v : Value) (l : List Int) : Prop where
  len : ∃ a cap, v = .slice a l.length cap
  at_ : ∀ k x, l[k]? = some x → -9223372036854775808 ≤ x ∧ x ≤ 9223372036854775807 ∧ ∃ b o cap, v = .slice (some ⟨b, o, none⟩) l.length cap ∧ b < w.heap.size ∧ w.cell? ⟨b, o + k, none⟩ = some (iI x)
theorem IntsAt.keeps {w w' : World} {v : Value} {l : List Int} (h : IntsAt w v l) (k : Keeps Nob w w') : IntsAt w' v l :=
  ⟨h.len, fun i x hi => by
    obtain ⟨b1, b2, b, o, cap, e, hb, hc⟩ := h.at_ i x hi
    exact ⟨b1, b2, b, o, cap, e, Nat.lt_of_lt_of_le hb k.size, (k.cell hb (fun x => x)).trans hc⟩⟩
theorem u64_nat {a : Int} (h : (Lit.int .u64 a).wf = true) : ∃ n : Nat, n < 2 ^ 64 ∧ a = (n : Int) := by
  have h1 : 0 ≤ a ∧ a < 18446744073709551616 := by
    simp [Lit.wf, IntKind.min, IntKind.max, IntKind.bits, IntKind.signed] at h
    omega
  exact ⟨a.toNat, by omega, by omega⟩
theorem u8_nat {a : Int} (h : (Lit.int .u8 a).wf = true) : ∃ c : UInt8, a = (c.toNat : Int) := by
  have h1 : 0 ≤ a ∧ a < 256 := by
    simp [Lit.wf, IntKind.min, IntKind.max, IntKind.bits, IntKind.signed] at h
    omega
  exact ⟨UInt8.ofNat a.toNat, by simp; omega⟩
end
end Go.Own
namespace Go.Proofs.YthmclmbeflbhhaaGreat
section
open Go Go.RowKit Go.Own Go.Shelf
structure RSpec where
  (la na lb nb : Nat) (VA : Int → Option Att) (VB : Int → Option Pro)
namespace RSpec
def putErr (s : RSpec) (v : Int) (a : Att) : Int := if whoErr v a.err a.v ≠ 0 then whoErr v a.err a.v else if a.t < (s.la : Int) then 16 else if (s.la : Int) + s.na ≤ a.t then 17 else if (s.VA a.t).isSome then 8 else 0
def putErrB (s : RSpec) (v : Int) (a : Pro) : Int := if whoErr v a.err a.v ≠ 0 then whoErr v a.err a.v else if a.h < (s.lb : Int) then 16 else if (s.lb : Int) + s.nb ≤ a.h then 17 else if (s.VB a.h).isSome then 8 else 0
def moveErr (s : RSpec) (l f : Int) : Int := if l < 0 ∨ l > 4294967296 ∨ f < 1 ∨ f > 4294967296 then 3 else if l < (s.la : Int) ∨ f < (s.lb : Int) then 9 else 0
def put (s : RSpec) (v : Int) (a : Att) : RSpec := if s.putErr v a = 0 then { s with VA := upV s.VA a.t a } else s
def putB (s : RSpec) (v : Int) (a : Pro) : RSpec := if s.putErrB v a = 0 then { s with VB := upV s.VB a.h a } else s
def move (s : RSpec) (l f : Int) : RSpec := if s.moveErr l f = 0 then { s with la := l.toNat, lb := f.toNat, VA := mvV s.VA l, VB := mvV s.VB f } else s
def all (s : RSpec) : List Att := items s.VA s.la s.na
end RSpec
def Rings (w0 w : World) : Nat → Prop := fun j => w0.heap.size ≤ j ∧ ∃ cs T, w.heap[j]? = some (.cells cs T (0, 0)) ∧ (T = 184 ∨ T = 185 ∨ T = 192 ∨ T = 168)
theorem Rings.not {w0 w : World} {g : Nat} {cs : Array Value} {T : TypeId} {fr : Nat × Nat} (h : w.heap[g]? = some (.cells cs T fr)) (h1 : T ≠ 184) (h2 : T ≠ 185) (h3 : T ≠ 192) (h4 : T ≠ 168) : ¬ Rings w0 w g := fun ⟨_, cs', T', e, hT⟩ => by
  rw [h] at e
  simp only [Option.some.injEq, Obj.cells.injEq] at e
  rw [← e.2.1] at hT
  rcases hT with e | e | e | e
  · exact h1 e
  · exact h2 e
  · exact h3 e
  · exact h4 e
theorem RecAt.rings {w0 w : World} {r : Nat} {v : Int} {A : RD Att} {B : RD Pro} (h : RecAt w r v A B) (hn : ∀ j, FR A B j → w0.heap.size ≤ j) : ∀ j, FR A B j → Rings w0 w j := fun j hj => ⟨hn j hj, by
  rcases hj with rfl | rfl | rfl | rfl
  · exact ⟨_, _, h.a.ring, .inl rfl⟩
  · exact ⟨_, _, h.a.slots, .inr (.inl rfl)⟩
  · exact ⟨_, _, h.b.ring, .inr (.inr (.inl rfl))⟩
  · exact ⟨_, _, h.b.slots, .inr (.inr (.inr rfl))⟩⟩
section
variable {w0 w w' : World} {r : Nat} {v : Int} {s : RSpec}
end
section
variable {w0 w w' : World} {r r2 : Nat} {v : Int} {s s2 : RSpec}
end
def fieldV (nm : Value) (lo hi : Int) (f g : Nat) (k : Nat) : Value :=
 .agg #[nm, .int .u64 lo, .int .u64 hi, .func (.func f) #[] #[pT k 0], .func (.func g) #[] #[pT k 0]]
theorem mf_run : ∀ (fn : Fn) (first cap : Array Value) (w : World), (Instr.makeFunc fn first cap).run prog w = .ok (.func fn first cap) w := fun _ _ _ _ => rfl
theorem field_info : (prog.info? 134).map (·.size) = some 5 := by kernel_rfl
theorem of_ok (nm : ByteArray) (lo hi : Int) (q : Addr) (w : World) :
  Calls prog 118 #[.string nm, .int .u64 lo, .int .u64 hi, .pointer (some q)] w fun e w' => e = .returned (fieldV (.string nm) lo hi 145 146 w.heap.size) ∧ w'.cell? ⟨w.heap.size, 0, none⟩ = some (.pointer (some q)) ∧ w.heap.size < w'.heap.size ∧ Keeps Nob w w' := by
 have hmf := mf_run
 go_enter func118, ntmps118
 go_wp2_with (refine wpList_store_row rfl 134 _ _ rfl (w.heap.size + 1) #[.string nm, .int .u64 lo, .int .u64 hi, .func (.func 145) #[] #[pT w.heap.size 0], .func (.func 146) #[] #[pT w.heap.size 0]] rfl rfl 134 #[.string ⟨#[]⟩, .int .u64 0, .int .u64 0, .nilFunc, .nilFunc] (by rw [show w.heap.size + 1 = (w.alloc (.cells #[.pointer (some q)] 156)).heap.size by simp]; exact World.alloc_heap_new _ _) field_info rfl (by simp [Value.oneCell']) ?_)
 have k1 : Keeps Nob w (w.alloc (.cells #[.pointer (some q)] 156)) := (Keeps.refl _ _).alloc _
 have c1 : (w.alloc (.cells #[.pointer (some q)] 156)).cell? ⟨w.heap.size, 0, none⟩ = some (.pointer (some q)) := (World.cell?_alloc_at _ _ _ _ rfl).trans rfl
 have s1 : (w.alloc (.cells #[.pointer (some q)] 156)).heap.size = w.heap.size + 1 := by simp
 (try simp only [Exit.inBlock, Exit.then])
 refine bodyPost_ret (v := .agg #[.string nm, .int .u64 lo, .int .u64 hi, .func (.func 145) #[] #[pT w.heap.size 0], .func (.func 146) #[] #[pT w.heap.size 0]]) ?_ rfl ?_
 ·exact results_cell_row rfl _ _ (w.heap.size + 1) 134 #[.string nm, .int .u64 lo, .int .u64 hi, .func (.func 145) #[] #[pT w.heap.size 0], .func (.func 146) #[] #[pT w.heap.size 0]] (0, 0) _ rfl (setRow_heap _ _ #[.string ⟨#[]⟩, .int .u64 0, .int .u64 0, .nilFunc, .nilFunc] _ _ _ (by rw [show w.heap.size + 1 = (w.alloc (.cells #[.pointer (some q)] 156)).heap.size by simp]; exact World.alloc_heap_new _ _)) underlying134 rfl field_info
 have k2 : ∀ o cs, Keeps Nob (w.alloc (.cells #[.pointer (some q)] 156)) (((w.alloc (.cells #[.pointer (some q)] 156)).alloc o).setRow (w.heap.size + 1) cs) := fun o cs => ((Keeps.refl _ _).alloc _).setRow (fun x => absurd x (by omega)) cs
 exact ⟨rfl, ((k2 _ _).cell (by omega) (fun x => x)).trans c1, Nat.lt_of_lt_of_le (by omega) (k2 _ _).size, k1.trans (k2 _ _)⟩
theorem word_ok (nm : ByteArray) (hi : Int) (q : Addr) (w : World) :
  Calls prog 119 #[.string nm, .int .u64 hi, .pointer (some q)] w fun e w' => e = .returned (fieldV (.string nm) 0 hi 147 148 w.heap.size) ∧ w'.cell? ⟨w.heap.size, 0, none⟩ = some (.pointer (some q)) ∧ w.heap.size < w'.heap.size ∧ Keeps Nob w w' := by
 have hmf := mf_run
 go_enter func119, ntmps119
 go_wp2_with (refine wpList_store_row rfl 134 _ _ rfl (w.heap.size + 1) #[.string nm, .int .u64 0, .int .u64 hi, .func (.func 147) #[] #[pT w.heap.size 0], .func (.func 148) #[] #[pT w.heap.size 0]] rfl rfl 134 #[.string ⟨#[]⟩, .int .u64 0, .int .u64 0, .nilFunc, .nilFunc] (by rw [show w.heap.size + 1 = (w.alloc (.cells #[.pointer (some q)] 196)).heap.size by simp]; exact World.alloc_heap_new _ _) field_info rfl (by simp [Value.oneCell']) ?_)
 have k1 : Keeps Nob w (w.alloc (.cells #[.pointer (some q)] 196)) := (Keeps.refl _ _).alloc _
 have c1 : (w.alloc (.cells #[.pointer (some q)] 196)).cell? ⟨w.heap.size, 0, none⟩ = some (.pointer (some q)) := (World.cell?_alloc_at _ _ _ _ rfl).trans rfl
 have s1 : (w.alloc (.cells #[.pointer (some q)] 196)).heap.size = w.heap.size + 1 := by simp
 (try simp only [Exit.inBlock, Exit.then])
 refine bodyPost_ret (v := .agg #[.string nm, .int .u64 0, .int .u64 hi, .func (.func 147) #[] #[pT w.heap.size 0], .func (.func 148) #[] #[pT w.heap.size 0]]) ?_ rfl ?_
 ·exact results_cell_row rfl _ _ (w.heap.size + 1) 134 #[.string nm, .int .u64 0, .int .u64 hi, .func (.func 147) #[] #[pT w.heap.size 0], .func (.func 148) #[] #[pT w.heap.size 0]] (0, 0) _ rfl (setRow_heap _ _ #[.string ⟨#[]⟩, .int .u64 0, .int .u64 0, .nilFunc, .nilFunc] _ _ _ (by rw [show w.heap.size + 1 = (w.alloc (.cells #[.pointer (some q)] 196)).heap.size by simp]; exact World.alloc_heap_new _ _)) underlying134 rfl field_info
 have k2 : ∀ o cs, Keeps Nob (w.alloc (.cells #[.pointer (some q)] 196)) (((w.alloc (.cells #[.pointer (some q)] 196)).alloc o).setRow (w.heap.size + 1) cs) := fun o cs => ((Keeps.refl _ _).alloc _).setRow (fun x => absurd x (by omega)) cs
 exact ⟨rfl, ((k2 _ _).cell (by omega) (fun x => x)).trans c1, Nat.lt_of_lt_of_le (by omega) (k2 _ _).size, k1.trans (k2 _ _)⟩
theorem of1_ok (k : Nat) (q : Addr) (x : Int) (w : World) (h1 : w.cell? ⟨k, 0, none⟩ = some (.pointer (some q))) (h2 : w.cell? q = some (iI x)) (b1 : -9223372036854775808 ≤ x) (b2 : x ≤ 9223372036854775807) :
  Calls prog 145 #[pT k 0] w fun e w' => e = .returned (.tuple #[.int .u64 (max x 0), .bool (decide (0 ≤ x))]) ∧ Keeps Nob w w' := by
 by_cases hx : 0 ≤ x
 ·have hm : max x 0 = x := by omega
  rw [hm]
  go_enter func145, ntmps145
  go_wp2
  go_region
  go_wp2
  all_goals (go_ret2; exact ⟨by simp [hx], (Keeps.refl _ _).drew⟩)
 ·have hm : max x 0 = 0 := by omega
  rw [hm]
  have hd : decide (0 ≤ x) = false := by simpa using hx
  go_enter func145, ntmps145
  go_wp2
  go_region
  go_wp2
  all_goals (go_ret2; exact ⟨by simp [hd], (Keeps.refl _ _).drew⟩)
theorem word1_ok (k : Nat) (q : Addr) (x : Int) (w : World) (h1 : w.cell? ⟨k, 0, none⟩ = some (.pointer (some q))) (h2 : w.cell? q = some (.int .u64 x)) :
  Calls prog 147 #[pT k 0] w fun e w' => e = .returned (.tuple #[.int .u64 x, .bool true]) ∧ Keeps Nob w w' := by
 go_enter func147, ntmps147
 go_wp2
 go_ret2
 exact ⟨rfl, Keeps.refl _ _⟩
theorem within_ok (nm f g : Value) (lo hi n : Int) (w : World) :
  Calls prog 79 #[.agg #[nm, .int .u64 lo, .int .u64 hi, f, g], .int .u64 n] w fun e w' => e = .returned (.bool (decide (lo ≤ n) && decide (n ≤ hi))) ∧ Keeps Nob w w' := by
 by_cases h1 : lo ≤ n
 ·go_enter func79, ntmps79
  go_wp2
  go_ret
  exact ⟨by simp [h1], (Keeps.refl _ _).alloc _⟩
 ·have h2 : decide (lo ≤ n) = false := by simpa using h1
  go_enter func79, ntmps79
  go_wp2
  go_ret
  exact ⟨by simp [h2], (Keeps.refl _ _).alloc _⟩
end
end Go.Proofs.YthmclmbeflbhhaaGreat
namespace Go.Own
section
open Go
noncomputable def opsIn (id : Nat) : Code → Option (Array Oper)
  | .region k ops _ => if k = id then some ops else none
  | .seq a b => (opsIn id a).or (opsIn id b)
  | .cond _ a b => (opsIn id a).or (opsIn id b)
  | .block _ b => opsIn id b
  | .loop b => opsIn id b
  | .rangeFunc _ _ a b => (opsIn id a).or (opsIn id b)
  | _ => none
noncomputable def opsOf (f : Func) (id : Nat) : Array Oper := ((f.body.bind (opsIn id)).getD #[])
end
end Go.Own
namespace Go.Proofs.YthmclmbeflbhhaaGreat
section
open Go Go.Own
noncomputable def opsFields : Array Oper := opsOf f78 1
end
section
open Go Go.RowKit Go.Own Go.Shelf
def parName : List ByteArray := [⟨#[117, 110, 98, 111, 110, 100, 105, 110, 103]⟩, ⟨#[109, 97, 120, 97, 103, 101]⟩, ⟨#[101, 112, 111, 99, 104, 108, 101, 110]⟩, ⟨#[119, 105, 110, 100, 111, 119]⟩, ⟨#[101, 110, 116, 114, 105, 101, 115]⟩, ⟨#[109, 97, 120, 97, 99, 116, 105, 118, 101]⟩, ⟨#[106, 97, 105, 108, 116, 105, 109, 101]⟩, ⟨#[98, 97, 115, 101]⟩, ⟨#[109, 117, 108, 116]⟩, ⟨#[99, 111, 114, 114, 119, 105, 110, 100, 111, 119]⟩, ⟨#[114, 101, 119, 97, 114, 100]⟩]
def parLoU : List Int := [1, 0, 1, 1, 1, 1, 1, 0, 0, 1, 0]
def parHiU : List Int := [1048576, 1048576, 1000, 256, 16, 32, 1048576, 1000000000, 1000, 1048576, 1000000000]
def parGet : List Nat := [145, 145, 145, 145, 145, 145, 145, 147, 147, 145, 147]
def parSet : List Nat := [146, 146, 146, 146, 146, 146, 146, 148, 148, 146, 148]
def parField (i k : Nat) : Value := fieldV (.string (parName[i]?.getD ⟨#[]⟩)) (parLoU[i]?.getD 0) (parHiU[i]?.getD 0) (parGet[i]?.getD 0) (parSet[i]?.getD 0) k
structure FieldsAt (w : World) (g b : Nat) (ks : Nat → Nat) : Prop where
 cell : ∀ i j : Nat, i < 11 → j < 5 → w.cell? ⟨g, i * 5 + j, none⟩ = (parField i (ks i)).cells[j]?
 box : ∀ i : Nat, i < 11 → w.cell? ⟨ks i, 0, none⟩ = some (pT b i)
def fieldCells (zs : List Nat) : Array Value := ((List.range 11).map fun i => (parField i (zs[i]?.getD 0)).cells.toList).flatten.toArray
theorem fieldCells_get (z0 z1 z2 z3 z4 z5 z6 z7 z8 z9 z10 : Nat) (i j : Nat) (hi : i < 11) (hj : j < 5) :
  (fieldCells [z0, z1, z2, z3, z4, z5, z6, z7, z8, z9, z10])[i * 5 + j]? = (parField i ([z0, z1, z2, z3, z4, z5, z6, z7, z8, z9, z10][i]?.getD 0)).cells[j]? := by
 have h : j = 0 ∨ j = 1 ∨ j = 2 ∨ j = 3 ∨ j = 4 := by omega
 have h' : i = 0 ∨ i = 1 ∨ i = 2 ∨ i = 3 ∨ i = 4 ∨ i = 5 ∨ i = 6 ∨ i = 7 ∨ i = 8 ∨ i = 9 ∨ i = 10 := by omega
 rcases h' with rfl | rfl | rfl | rfl | rfl | rfl | rfl | rfl | rfl | rfl | rfl <;> rcases h with rfl | rfl | rfl | rfl | rfl <;> rfl
theorem fields_sel : Region.noSelect opsFields = true := by kernel_rfl
theorem fields_size : opsFields.size = 46 := by kernel_rfl
theorem fields_pure (b : Nat) : pureRun prog .any opsFields [0, 1, 2, 4, 5, 6, 8, 9, 10, 12, 13, 14, 16, 17, 18, 20, 21, 22, 24, 25, 26, 28, 29, 30, 32, 33, 34, 36, 37, 38, 40, 41, 42] (Array.replicate 46 false) ⟨fr [pT b 0, ud, .slice none 0 0] 45, []⟩ = some (#[true, true, true, false, true, true, true, false, true, true, true, false, true, true, true, false, true, true, true, false, true, true, true, false, true, true, true, false, true, true, true, false, true, true, true, false, true, true, true, false, true, true, true, false, false, false], ⟨#[pT b 0, ud, .slice none 0 0, pT b 0, pT b 0, pT b 0, ud, pT b 0, pT b 0, pT b 1, ud, pT b 0, pT b 0, pT b 2, ud, pT b 0, pT b 0, pT b 3, ud, pT b 0, pT b 0, pT b 4, ud, pT b 0, pT b 0, pT b 5, ud, pT b 0, pT b 0, pT b 6, ud, pT b 0, pT b 0, pT b 7, ud, pT b 0, pT b 0, pT b 8, ud, pT b 0, pT b 0, pT b 9, ud, pT b 0, pT b 0, pT b 10, ud, ud], []⟩) := by kernel_rfl
theorem fields_fn0 : (opsFields.getD 3 default).op = .call { callee := .value (.func 118), args := callArgs (opsFields.getD 3 default), argTypes := callTypes (opsFields.getD 3 default) } := by kernel_rfl
theorem fields_fn1 : (opsFields.getD 7 default).op = .call { callee := .value (.func 118), args := callArgs (opsFields.getD 7 default), argTypes := callTypes (opsFields.getD 7 default) } := by kernel_rfl
theorem fields_fn2 : (opsFields.getD 11 default).op = .call { callee := .value (.func 118), args := callArgs (opsFields.getD 11 default), argTypes := callTypes (opsFields.getD 11 default) } := by kernel_rfl
theorem fields_fn3 : (opsFields.getD 15 default).op = .call { callee := .value (.func 118), args := callArgs (opsFields.getD 15 default), argTypes := callTypes (opsFields.getD 15 default) } := by kernel_rfl
theorem fields_fn4 : (opsFields.getD 19 default).op = .call { callee := .value (.func 118), args := callArgs (opsFields.getD 19 default), argTypes := callTypes (opsFields.getD 19 default) } := by kernel_rfl
theorem fields_fn5 : (opsFields.getD 23 default).op = .call { callee := .value (.func 118), args := callArgs (opsFields.getD 23 default), argTypes := callTypes (opsFields.getD 23 default) } := by kernel_rfl
theorem fields_fn6 : (opsFields.getD 27 default).op = .call { callee := .value (.func 118), args := callArgs (opsFields.getD 27 default), argTypes := callTypes (opsFields.getD 27 default) } := by kernel_rfl
theorem fields_fn7 : (opsFields.getD 31 default).op = .call { callee := .value (.func 119), args := callArgs (opsFields.getD 31 default), argTypes := callTypes (opsFields.getD 31 default) } := by kernel_rfl
theorem fields_fn8 : (opsFields.getD 35 default).op = .call { callee := .value (.func 119), args := callArgs (opsFields.getD 35 default), argTypes := callTypes (opsFields.getD 35 default) } := by kernel_rfl
theorem fields_fn9 : (opsFields.getD 39 default).op = .call { callee := .value (.func 118), args := callArgs (opsFields.getD 39 default), argTypes := callTypes (opsFields.getD 39 default) } := by kernel_rfl
theorem fields_fn10 : (opsFields.getD 43 default).op = .call { callee := .value (.func 119), args := callArgs (opsFields.getD 43 default), argTypes := callTypes (opsFields.getD 43 default) } := by kernel_rfl
theorem state_eq {Q : Exit → Act → World → Prop} {e : Exit} {a b : Act} {w : World} (h : a = b) (hq : Q e b w) : Q e a w := h ▸ hq
theorem ent_of : ∀ args w, (callFunc 118 args).run prog w = .ok (.enter 118 args) w := enters_of func118 (by kernel_rfl) rfl
theorem ent_word : ∀ args w, (callFunc 119 args).run prog w = .ok (.enter 119 args) w := enters_of func119 (by kernel_rfl) rfl
theorem fields_new (b : Nat) (w : World) :
  Calls prog 78 #[pT b 0] w fun e w' => ∃ g ks, e = .returned (sS g 11 11) ∧ FieldsAt w' g b ks ∧ g < w'.heap.size ∧ Keeps Nob w w' ∧ w.heap.size ≤ g ∧ ∀ i, i < 11 → w.heap.size ≤ ks i := by
 go_enter func78, ntmps78
 go_wp2_with fail
 refine wp_region_noPanic <| region_named (R := opsFields) (by kernel_rfl) <| wp_region_fuel 46 (Array.replicate 46 false) (by kernel_rfl) fields_size rfl <| wpAny_pure' fields_sel (fun _ _ _ _ _ h => h) [0, 1, 2, 4, 5, 6, 8, 9, 10, 12, 13, 14, 16, 17, 18, 20, 21, 22, 24, 25, 26, 28, 29, 30, 32, 33, 34, 36, 37, 38, 40, 41, 42] _ _ _ _ _ 13 46 rfl (fields_pure b) ?_
 refine wpAny_call' (i := 3) (opsFields.getD 3 default) 118 #[.string ⟨#[117, 110, 98, 111, 110, 100, 105, 110, 103]⟩, .int .u64 1, .int .u64 1048576, pT b 0] (by kernel_rfl) (by kernel_rfl) (by kernel_rfl) fields_fn0 (by kernel_rfl) ent_of ((of_ok ⟨#[117, 110, 98, 111, 110, 100, 105, 110, 103]⟩ 1 1048576 ⟨b, 0, none⟩ _).mono ?_)
 rintro e W0 ⟨rfl, c0, s0, k0⟩
 refine ⟨_, rfl, ?_⟩
 obtain ⟨z0, hz0⟩ : ∃ z, z = w.drew.heap.size := ⟨_, rfl⟩
 rw [← hz0] at c0 s0 ⊢
 refine wpAny_call' (i := 7) (opsFields.getD 7 default) 118 #[.string ⟨#[109, 97, 120, 97, 103, 101]⟩, .int .u64 0, .int .u64 1048576, pT b 1] (by kernel_rfl) (by kernel_rfl) (by kernel_rfl) fields_fn1 (by kernel_rfl) ent_of ((of_ok ⟨#[109, 97, 120, 97, 103, 101]⟩ 0 1048576 ⟨b, 1, none⟩ _).mono ?_)
 rintro e W1 ⟨rfl, c1, s1, k1⟩
 refine ⟨_, rfl, ?_⟩
 obtain ⟨z1, hz1⟩ : ∃ z, z = W0.heap.size := ⟨_, rfl⟩
 rw [← hz1] at c1 s1 ⊢
 refine wpAny_call' (i := 11) (opsFields.getD 11 default) 118 #[.string ⟨#[101, 112, 111, 99, 104, 108, 101, 110]⟩, .int .u64 1, .int .u64 1000, pT b 2] (by kernel_rfl) (by kernel_rfl) (by kernel_rfl) fields_fn2 (by kernel_rfl) ent_of ((of_ok ⟨#[101, 112, 111, 99, 104, 108, 101, 110]⟩ 1 1000 ⟨b, 2, none⟩ _).mono ?_)
 rintro e W2 ⟨rfl, c2, s2, k2⟩
 refine ⟨_, rfl, ?_⟩
 obtain ⟨z2, hz2⟩ : ∃ z, z = W1.heap.size := ⟨_, rfl⟩
 rw [← hz2] at c2 s2 ⊢
 refine wpAny_call' (i := 15) (opsFields.getD 15 default) 118 #[.string ⟨#[119, 105, 110, 100, 111, 119]⟩, .int .u64 1, .int .u64 256, pT b 3] (by kernel_rfl) (by kernel_rfl) (by kernel_rfl) fields_fn3 (by kernel_rfl) ent_of ((of_ok ⟨#[119, 105, 110, 100, 111, 119]⟩ 1 256 ⟨b, 3, none⟩ _).mono ?_)
 rintro e W3 ⟨rfl, c3, s3, k3⟩
 refine ⟨_, rfl, ?_⟩
 obtain ⟨z3, hz3⟩ : ∃ z, z = W2.heap.size := ⟨_, rfl⟩
 rw [← hz3] at c3 s3 ⊢
 refine wpAny_call' (i := 19) (opsFields.getD 19 default) 118 #[.string ⟨#[101, 110, 116, 114, 105, 101, 115]⟩, .int .u64 1, .int .u64 16, pT b 4] (by kernel_rfl) (by kernel_rfl) (by kernel_rfl) fields_fn4 (by kernel_rfl) ent_of ((of_ok ⟨#[101, 110, 116, 114, 105, 101, 115]⟩ 1 16 ⟨b, 4, none⟩ _).mono ?_)
 rintro e W4 ⟨rfl, c4, s4, k4⟩
 refine ⟨_, rfl, ?_⟩
 obtain ⟨z4, hz4⟩ : ∃ z, z = W3.heap.size := ⟨_, rfl⟩
 rw [← hz4] at c4 s4 ⊢
 refine wpAny_call' (i := 23) (opsFields.getD 23 default) 118 #[.string ⟨#[109, 97, 120, 97, 99, 116, 105, 118, 101]⟩, .int .u64 1, .int .u64 32, pT b 5] (by kernel_rfl) (by kernel_rfl) (by kernel_rfl) fields_fn5 (by kernel_rfl) ent_of ((of_ok ⟨#[109, 97, 120, 97, 99, 116, 105, 118, 101]⟩ 1 32 ⟨b, 5, none⟩ _).mono ?_)
 rintro e W5 ⟨rfl, c5, s5, k5⟩
 refine ⟨_, rfl, ?_⟩
 obtain ⟨z5, hz5⟩ : ∃ z, z = W4.heap.size := ⟨_, rfl⟩
 rw [← hz5] at c5 s5 ⊢
 refine wpAny_call' (i := 27) (opsFields.getD 27 default) 118 #[.string ⟨#[106, 97, 105, 108, 116, 105, 109, 101]⟩, .int .u64 1, .int .u64 1048576, pT b 6] (by kernel_rfl) (by kernel_rfl) (by kernel_rfl) fields_fn6 (by kernel_rfl) ent_of ((of_ok ⟨#[106, 97, 105, 108, 116, 105, 109, 101]⟩ 1 1048576 ⟨b, 6, none⟩ _).mono ?_)
 rintro e W6 ⟨rfl, c6, s6, k6⟩
 refine ⟨_, rfl, ?_⟩
 obtain ⟨z6, hz6⟩ : ∃ z, z = W5.heap.size := ⟨_, rfl⟩
 rw [← hz6] at c6 s6 ⊢
 refine wpAny_call' (i := 31) (opsFields.getD 31 default) 119 #[.string ⟨#[98, 97, 115, 101]⟩, .int .u64 1000000000, pT b 7] (by kernel_rfl) (by kernel_rfl) (by kernel_rfl) fields_fn7 (by kernel_rfl) ent_word ((word_ok ⟨#[98, 97, 115, 101]⟩ 1000000000 ⟨b, 7, none⟩ _).mono ?_)
 rintro e W7 ⟨rfl, c7, s7, k7⟩
 refine ⟨_, rfl, ?_⟩
 obtain ⟨z7, hz7⟩ : ∃ z, z = W6.heap.size := ⟨_, rfl⟩
 rw [← hz7] at c7 s7 ⊢
 refine wpAny_call' (i := 35) (opsFields.getD 35 default) 119 #[.string ⟨#[109, 117, 108, 116]⟩, .int .u64 1000, pT b 8] (by kernel_rfl) (by kernel_rfl) (by kernel_rfl) fields_fn8 (by kernel_rfl) ent_word ((word_ok ⟨#[109, 117, 108, 116]⟩ 1000 ⟨b, 8, none⟩ _).mono ?_)
 rintro e W8 ⟨rfl, c8, s8, k8⟩
 refine ⟨_, rfl, ?_⟩
 obtain ⟨z8, hz8⟩ : ∃ z, z = W7.heap.size := ⟨_, rfl⟩
 rw [← hz8] at c8 s8 ⊢
 refine wpAny_call' (i := 39) (opsFields.getD 39 default) 118 #[.string ⟨#[99, 111, 114, 114, 119, 105, 110, 100, 111, 119]⟩, .int .u64 1, .int .u64 1048576, pT b 9] (by kernel_rfl) (by kernel_rfl) (by kernel_rfl) fields_fn9 (by kernel_rfl) ent_of ((of_ok ⟨#[99, 111, 114, 114, 119, 105, 110, 100, 111, 119]⟩ 1 1048576 ⟨b, 9, none⟩ _).mono ?_)
 rintro e W9 ⟨rfl, c9, s9, k9⟩
 refine ⟨_, rfl, ?_⟩
 obtain ⟨z9, hz9⟩ : ∃ z, z = W8.heap.size := ⟨_, rfl⟩
 rw [← hz9] at c9 s9 ⊢
 refine wpAny_call' (i := 43) (opsFields.getD 43 default) 119 #[.string ⟨#[114, 101, 119, 97, 114, 100]⟩, .int .u64 1000000000, pT b 10] (by kernel_rfl) (by kernel_rfl) (by kernel_rfl) fields_fn10 (by kernel_rfl) ent_word ((word_ok ⟨#[114, 101, 119, 97, 114, 100]⟩ 1000000000 ⟨b, 10, none⟩ _).mono ?_)
 rintro e W10 ⟨rfl, c10, s10, k10⟩
 refine ⟨_, rfl, ?_⟩
 obtain ⟨z10, hz10⟩ : ∃ z, z = W9.heap.size := ⟨_, rfl⟩
 rw [← hz10] at c10 s10 ⊢
 refine wpAny_run (i := 44) (opsFields.getD 44 default) (sS W10.heap.size 11 11) (w' := W10.alloc (.cells (fieldCells [z0, z1, z2, z3, z4, z5, z6, z7, z8, z9, z10]) 134)) (by kernel_rfl) (by kernel_rfl) (by kernel_rfl) (by kernel_rfl) <| wpAny_run (i := 45) (opsFields.getD 45 default) (sS W10.heap.size 11 11) (w' := W10.alloc (.cells (fieldCells [z0, z1, z2, z3, z4, z5, z6, z7, z8, z9, z10]) 134)) (by kernel_rfl) (by kernel_rfl) (by kernel_rfl) (by kernel_rfl) ?_
 refine wpAny_done (by kernel_rfl) ?_ _
 generalize hR : W10.alloc (.cells (fieldCells [z0, z1, z2, z3, z4, z5, z6, z7, z8, z9, z10]) 134) = V at *
 refine NoPanic.normal <| state_eq (b := ⟨#[pT b 0, ud, (sS W10.heap.size 11 11), pT b 0, pT b 0, pT b 0, fieldV (.string ⟨#[117, 110, 98, 111, 110, 100, 105, 110, 103]⟩) 1 1048576 145 146 z0, pT b 0, pT b 0, pT b 1, fieldV (.string ⟨#[109, 97, 120, 97, 103, 101]⟩) 0 1048576 145 146 z1, pT b 0, pT b 0, pT b 2, fieldV (.string ⟨#[101, 112, 111, 99, 104, 108, 101, 110]⟩) 1 1000 145 146 z2, pT b 0, pT b 0, pT b 3, fieldV (.string ⟨#[119, 105, 110, 100, 111, 119]⟩) 1 256 145 146 z3, pT b 0, pT b 0, pT b 4, fieldV (.string ⟨#[101, 110, 116, 114, 105, 101, 115]⟩) 1 16 145 146 z4, pT b 0, pT b 0, pT b 5, fieldV (.string ⟨#[109, 97, 120, 97, 99, 116, 105, 118, 101]⟩) 1 32 145 146 z5, pT b 0, pT b 0, pT b 6, fieldV (.string ⟨#[106, 97, 105, 108, 116, 105, 109, 101]⟩) 1 1048576 145 146 z6, pT b 0, pT b 0, pT b 7, fieldV (.string ⟨#[98, 97, 115, 101]⟩) 0 1000000000 147 148 z7, pT b 0, pT b 0, pT b 8, fieldV (.string ⟨#[109, 117, 108, 116]⟩) 0 1000 147 148 z8, pT b 0, pT b 0, pT b 9, fieldV (.string ⟨#[99, 111, 114, 114, 119, 105, 110, 100, 111, 119]⟩) 1 1048576 145 146 z9, pT b 0, pT b 0, pT b 10, fieldV (.string ⟨#[114, 101, 119, 97, 114, 100]⟩) 0 1000000000 147 148 z10, (sS W10.heap.size 11 11)], []⟩) (by kernel_rfl) ?_
 have hk : Keeps Nob W10 V := by rw [← hR]; exact (Keeps.refl _ _).alloc _
 have hcl : ∀ j, V.cell? ⟨W10.heap.size, j, none⟩ = (fieldCells [z0, z1, z2, z3, z4, z5, z6, z7, z8, z9, z10])[j]? := fun j => by rw [← hR]; exact World.cell?_alloc_at _ _ _ _ rfl
 have hsz : W10.heap.size < V.heap.size := by rw [← hR]; simp
 have q10 : Keeps Nob W10 V := hk
 have q9 : Keeps Nob W9 V := k10.trans q10
 have q8 : Keeps Nob W8 V := k9.trans q9
 have q7 : Keeps Nob W7 V := k8.trans q8
 have q6 : Keeps Nob W6 V := k7.trans q7
 have q5 : Keeps Nob W5 V := k6.trans q6
 have q4 : Keeps Nob W4 V := k5.trans q5
 have q3 : Keeps Nob W3 V := k4.trans q4
 have q2 : Keeps Nob W2 V := k3.trans q3
 have q1 : Keeps Nob W1 V := k2.trans q2
 have q0 : Keeps Nob W0 V := k1.trans q1
 have hall : Keeps Nob w V := ((Keeps.refl Nob w).drew.trans k0).trans q0
 have d0 := (q0.cell (i := 0) s0 (fun x => x)).trans c0
 have d1 := (q1.cell (i := 0) s1 (fun x => x)).trans c1
 have d2 := (q2.cell (i := 0) s2 (fun x => x)).trans c2
 have d3 := (q3.cell (i := 0) s3 (fun x => x)).trans c3
 have d4 := (q4.cell (i := 0) s4 (fun x => x)).trans c4
 have d5 := (q5.cell (i := 0) s5 (fun x => x)).trans c5
 have d6 := (q6.cell (i := 0) s6 (fun x => x)).trans c6
 have d7 := (q7.cell (i := 0) s7 (fun x => x)).trans c7
 have d8 := (q8.cell (i := 0) s8 (fun x => x)).trans c8
 have d9 := (q9.cell (i := 0) s9 (fun x => x)).trans c9
 have d10 := (q10.cell (i := 0) s10 (fun x => x)).trans c10
 have HF : Hid (FieldsAt V W10.heap.size b (fun i => [z0, z1, z2, z3, z4, z5, z6, z7, z8, z9, z10][i]?.getD 0)) := Lib.hid ⟨fun i j hi hj => (hcl _).trans (fieldCells_get _ _ _ _ _ _ _ _ _ _ _ i j hi hj), fun i hi => by
  have h' : i = 0 ∨ i = 1 ∨ i = 2 ∨ i = 3 ∨ i = 4 ∨ i = 5 ∨ i = 6 ∨ i = 7 ∨ i = 8 ∨ i = 9 ∨ i = 10 := by omega
  rcases h' with rfl | rfl | rfl | rfl | rfl | rfl | rfl | rfl | rfl | rfl | rfl <;> assumption⟩
 have l0 : w.heap.size ≤ z0 := by rw [hz0]; exact Nat.le_refl _
 have y0 : w.heap.size ≤ W0.heap.size := k0.size
 have l1 : w.heap.size ≤ z1 := by rw [hz1]; exact y0
 have y1 : w.heap.size ≤ W1.heap.size := Nat.le_trans y0 k1.size
 have l2 : w.heap.size ≤ z2 := by rw [hz2]; exact y1
 have y2 : w.heap.size ≤ W2.heap.size := Nat.le_trans y1 k2.size
 have l3 : w.heap.size ≤ z3 := by rw [hz3]; exact y2
 have y3 : w.heap.size ≤ W3.heap.size := Nat.le_trans y2 k3.size
 have l4 : w.heap.size ≤ z4 := by rw [hz4]; exact y3
 have y4 : w.heap.size ≤ W4.heap.size := Nat.le_trans y3 k4.size
 have l5 : w.heap.size ≤ z5 := by rw [hz5]; exact y4
 have y5 : w.heap.size ≤ W5.heap.size := Nat.le_trans y4 k5.size
 have l6 : w.heap.size ≤ z6 := by rw [hz6]; exact y5
 have y6 : w.heap.size ≤ W6.heap.size := Nat.le_trans y5 k6.size
 have l7 : w.heap.size ≤ z7 := by rw [hz7]; exact y6
 have y7 : w.heap.size ≤ W7.heap.size := Nat.le_trans y6 k7.size
 have l8 : w.heap.size ≤ z8 := by rw [hz8]; exact y7
 have y8 : w.heap.size ≤ W8.heap.size := Nat.le_trans y7 k8.size
 have l9 : w.heap.size ≤ z9 := by rw [hz9]; exact y8
 have y9 : w.heap.size ≤ W9.heap.size := Nat.le_trans y8 k9.size
 have l10 : w.heap.size ≤ z10 := by rw [hz10]; exact y9
 have y10 : w.heap.size ≤ W10.heap.size := Nat.le_trans y9 k10.size
 have HN : Hid (w.heap.size ≤ W10.heap.size ∧ ∀ i, i < 11 → w.heap.size ≤ [z0, z1, z2, z3, z4, z5, z6, z7, z8, z9, z10][i]?.getD 0) := Lib.hid ⟨y10, fun i hi => by
  have h' : i = 0 ∨ i = 1 ∨ i = 2 ∨ i = 3 ∨ i = 4 ∨ i = 5 ∨ i = 6 ∨ i = 7 ∨ i = 8 ∨ i = 9 ∨ i = 10 := by omega
  rcases h' with rfl | rfl | rfl | rfl | rfl | rfl | rfl | rfl | rfl | rfl | rfl <;> assumption⟩
 clear l0 y0 l1 y1 l2 y2 l3 y3 l4 y4 l5 y5 l6 y6 l7 y7 l8 y8 l9 y9 l10 y10
 clear hcl c0 s0 k0 d0 q0 hz0 c1 s1 k1 d1 q1 hz1 c2 s2 k2 d2 q2 hz2 c3 s3 k3 d3 q3 hz3 c4 s4 k4 d4 q4 hz4 c5 s5 k5 d5 q5 hz5 c6 s6 k6 d6 q6 hz6 c7 s7 k7 d7 q7 hz7 c8 s8 k8 d8 q8 hz8 c9 s9 k9 d9 q9 hz9 c10 s10 k10 d10 q10 hz10 hR
 go_wp2
 go_ret
 exact ⟨_, _, rfl, HF.out, hsz, hall, HN.out.1, HN.out.2⟩
theorem fields_ok (b : Nat) (w : World) :
  Calls prog 78 #[pT b 0] w fun e w' => ∃ g ks, e = .returned (sS g 11 11) ∧ FieldsAt w' g b ks ∧ g < w'.heap.size ∧ Keeps Nob w w' :=
 (fields_new b w).mono fun _ _ ⟨g, ks, h1, h2, h3, h4, _⟩ => ⟨g, ks, h1, h2, h3, h4⟩
structure Par where
 (unb mage elen win ent act jail base mult corr rew : Int)
def Par.cells (p : Par) : Array Value := #[iI p.unb, iI p.mage, iI p.elen, iI p.win, iI p.ent, iI p.act, iI p.jail, .int .u64 p.base, .int .u64 p.mult, iI p.corr, .int .u64 p.rew]
def Par.v (p : Par) : Value := .agg p.cells
def i64ok (x : Int) : Prop := -9223372036854775808 ≤ x ∧ x ≤ 9223372036854775807
def u64ok (x : Int) : Prop := 0 ≤ x ∧ x ≤ 18446744073709551615
structure Par.Ok (p : Par) : Prop where
 unb : i64ok p.unb
 mage : i64ok p.mage
 elen : i64ok p.elen
 win : i64ok p.win
 ent : i64ok p.ent
 act : i64ok p.act
 jail : i64ok p.jail
 base : u64ok p.base
 mult : u64ok p.mult
 corr : i64ok p.corr
 rew : u64ok p.rew
def Par.l (p : Par) : List Int := [p.unb, p.mage, p.elen, p.win, p.ent, p.act, p.jail, p.base, p.mult, p.corr, p.rew]
def parLo : List Int := [1, 0, 1, 1, 1, 1, 1, 0, 0, 1, 0]
def parHi : List Int := [1048576, 1048576, 1000, 256, 16, 32, 1048576, 1000000000, 1000, 1048576, 1000000000]
def Par.good (p : Par) (i : Nat) : Prop := parLo[i]?.getD 0 ≤ p.l[i]?.getD 0 ∧ p.l[i]?.getD 0 ≤ parHi[i]?.getD 0
instance (p : Par) (i : Nat) : Decidable (p.good i) := by unfold Par.good; infer_instance
def Par.check (p : Par) : Int × Int := match (List.range 11).find? (fun i => decide (¬ p.good i)) with | some i => (3, i) | none => if p.unb < p.mage then (9, 1) else (0, 0)
theorem Par.check_bad (p : Par) (i : Nat) (hi : i < 11) (h : ∀ j, j < i → p.good j) (hb : ¬ p.good i) : p.check = (3, (i : Int)) := by
 have : (List.range 11).find? (fun i => decide (¬ p.good i)) = some i := by
  rw [List.find?_range_eq_some]
  exact ⟨by simpa using hb, by simpa using hi, fun j hj => by simpa using h j hj⟩
 unfold Par.check; rw [this]
theorem Par.check_good (p : Par) (h : ∀ j, j < 11 → p.good j) : p.check = if p.unb < p.mage then (9, 1) else (0, 0) := by
 have : (List.range 11).find? (fun i => decide (¬ p.good i)) = none := by
  rw [List.find?_eq_none]
  intro j hj
  simpa using h j (by simpa using hj)
 unfold Par.check; rw [this]
def Par.r (p : Par) : List Int := [p.unb, p.mage, p.elen, p.win, p.ent, p.act, p.jail, min p.base 1099511627776, min p.mult 1099511627776, p.corr, min p.rew 1099511627776]
theorem Par.good_r (p : Par) (i : Nat) (hi : i < 11) : p.good i ↔ parLo[i]?.getD 0 ≤ p.r[i]?.getD 0 ∧ p.r[i]?.getD 0 ≤ parHi[i]?.getD 0 := by
 have h : i = 0 ∨ i = 1 ∨ i = 2 ∨ i = 3 ∨ i = 4 ∨ i = 5 ∨ i = 6 ∨ i = 7 ∨ i = 8 ∨ i = 9 ∨ i = 10 := by omega
 rcases h with rfl | rfl | rfl | rfl | rfl | rfl | rfl | rfl | rfl | rfl | rfl <;> simp [Par.good, Par.l, Par.r, parLo, parHi] <;> omega
theorem least_ok (w : World) : Calls prog 133 #[] w fun e w' => ∃ cap, e = .returned (sS w.heap.size 11 cap) ∧ (∀ i : Nat, i < 11 → w'.cell? ⟨w.heap.size, i, none⟩ = some (iI (parLo[i]?.getD 0))) ∧ Keeps Nob w w' ∧ w.heap.size < w'.heap.size := by
 go_enter func133, ntmps133
 go_wp2
 go_ret
 refine ⟨_, rfl, fun i hi => ?_, (Keeps.refl _ _).alloc _, by simp⟩
 refine (World.cell?_alloc_at _ _ _ _ rfl).trans ?_
 have h : i = 0 ∨ i = 1 ∨ i = 2 ∨ i = 3 ∨ i = 4 ∨ i = 5 ∨ i = 6 ∨ i = 7 ∨ i = 8 ∨ i = 9 ∨ i = 10 := by omega
 rcases h with rfl | rfl | rfl | rfl | rfl | rfl | rfl | rfl | rfl | rfl | rfl <;> rfl
theorem most_ok (w : World) : Calls prog 134 #[] w fun e w' => ∃ cap, e = .returned (sS w.heap.size 11 cap) ∧ (∀ i : Nat, i < 11 → w'.cell? ⟨w.heap.size, i, none⟩ = some (iI (parHi[i]?.getD 0))) ∧ Keeps Nob w w' ∧ w.heap.size < w'.heap.size := by
 go_enter func134, ntmps134
 go_wp2
 go_ret
 refine ⟨_, rfl, fun i hi => ?_, (Keeps.refl _ _).alloc _, by simp⟩
 refine (World.cell?_alloc_at _ _ _ _ rfl).trans ?_
 have h : i = 0 ∨ i = 1 ∨ i = 2 ∨ i = 3 ∨ i = 4 ∨ i = 5 ∨ i = 6 ∨ i = 7 ∨ i = 8 ∨ i = 9 ∨ i = 10 := by omega
 rcases h with rfl | rfl | rfl | rfl | rfl | rfl | rfl | rfl | rfl | rfl | rfl <;> rfl
end
end Go.Proofs.YthmclmbeflbhhaaGreat
end
