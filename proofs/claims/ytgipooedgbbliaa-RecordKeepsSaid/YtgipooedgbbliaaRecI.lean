/-
  Records: elements of slices; what is found, put in, left behind, plainly. Conditions: none.
-/
import Derived.Test.YtgipooedgbbliaaRecH
namespace Go.Proofs.Ytgipooedgbbliaa
open Go Go.RowKit Go.Own Go.Shelf
theorem _root_.Go.Own.Sl.cell {α : Type} {w : World} {s : Nat} {c : α → List Value} {v : Value} {xs : List α} (h : Sl w s c v xs) {k : Nat} {x : α} (hx : xs[k]? = some x) {b o n cap : Nat} (hv : v = .slice (some ⟨b, o, none⟩) n cap) {j : Nat} {u : Value} (hu : (c x)[j]? = some u) :
    w.cell? ⟨b, o + k * s + j, none⟩ = some u := by
  obtain ⟨b2, o2, cap2, e, _, hc⟩ := h.at_ k x hx
  rw [hv] at e
  simp only [Value.slice.injEq, Option.some.injEq, Addr.mk.injEq, and_true] at e
  obtain ⟨⟨rfl, rfl⟩, _⟩ := e
  exact hc j u hu
theorem _root_.Go.Own.Sl.range {α : Type} {w : World} {s : Nat} {c : α → List Value} {v : Value} {xs : List α} (h : Sl w s c v xs) {k : Nat} {x : α} (hx : xs[k]? = some x) {b o n cap : Nat} (hv : v = .slice (some ⟨b, o, none⟩) n cap) : w.rangeAt b (o + k * s) (c x) := fun j u hu => h.cell hx hv hu
theorem exec_len_sl {P : Program} {o : Oper} {ρ : Operand → Value} {w w0 : World} (x : Operand) (t e : TypeId) (ho : o.op = .call { callee := .builtin .len, args := #[x], argTypes := #[t] }) (ht : P.underlying t = some (.slice e)) {v : Value} (hx : ρ x = v) {α : Type} {s : Nat} {c : α → List Value} {xs : List α} (hv : Sl w0 s c v xs) :
    (execOp ρ o).run P w = .ok (.value (.int .i64 (xs.length : Int))) w := by
  obtain ⟨A, cap, rfl, _⟩ := hv.form
  exact exec_len x t e ho ht A xs.length cap hx
theorem Att.cl_0 {a : Att} : a.cl[0]? = some (.int .i64 a.v) := by have := Att.c_0 a; simpa [Att.cl] using this
theorem Att.cl_1 {a : Att} : a.cl[1]? = some (.int .i64 a.s) := by have := Att.c_1 a; simpa [Att.cl] using this
theorem Att.cl_2 {a : Att} : a.cl[2]? = some (.int .i64 a.t) := by have := Att.c_2 a; simpa [Att.cl] using this
theorem Pro.cl_0 {a : Pro} : a.cl[0]? = some (.int .i64 a.v) := by have := Pro.c_0 a; simpa [Pro.cl] using this
theorem Pro.cl_1 {a : Pro} : a.cl[1]? = some (.int .i64 a.h) := by have := Pro.c_1 a; simpa [Pro.cl] using this

/-! What is found by a number. -/
section
variable {α : Type} (key : α → Int)
def findK (l : List α) (t : Int) : Option α := l.find? fun a => key a == t
/-- Put in by rising numbers. -/
def insK (l : List α) (a : α) : List α := l.takeWhile (fun b => decide (key b < key a)) ++ a :: l.dropWhile (fun b => decide (key b < key a))
variable {key}
theorem findK_none {l : List α} {t : Int} (h : ∀ (j : Nat) (b : α), l[j]? = some b → key b ≠ t) : findK key l t = none := by
  unfold findK
  rw [List.find?_eq_none]
  intro b hb
  obtain ⟨j, hj⟩ := List.getElem?_of_mem hb
  have := h j b hj
  simpa using this
theorem findK_at {l : List α} {t : Int} {i : Nat} {a : α} (ha : l[i]? = some a) (hk : key a = t) (h : ∀ (j : Nat) (b : α), j < i → l[j]? = some b → key b ≠ t) : findK key l t = some a := by
  induction l generalizing i with
  | nil => simp at ha
  | cons x r ih =>
    unfold findK
    rw [List.find?_cons]
    cases i with
    | zero =>
      simp only [List.getElem?_cons_zero, Option.some.injEq] at ha
      subst ha
      rw [show (key x == t) = true by simpa using hk]
    | succ i =>
      have h0 := h 0 x (by omega) rfl
      rw [show (key x == t) = false by simpa using h0]
      exact ih (by simpa using ha) (fun j b hj hb => h (j + 1) b (by omega) (by simpa using hb))
theorem insK_at {l : List α} {a : α} {k : Nat} (hk : k ≤ l.length) (h : ∀ (j : Nat) (b : α), j < k → l[j]? = some b → key b < key a) (he : k = l.length ∨ ∃ b, l[k]? = some b ∧ ¬ key b < key a) : l.take k ++ a :: l.drop k = insK key l a := by
  induction l generalizing k with
  | nil => simp [insK]
  | cons x r ih =>
    cases k with
    | zero =>
      rcases he with he | ⟨b, hb, hn⟩
      · simp at he
      · simp only [List.getElem?_cons_zero, Option.some.injEq] at hb
        subst hb
        simp [insK, hn]
    | succ k =>
      have h0 : key x < key a := h 0 x (by omega) rfl
      have := ih (k := k) (by simpa using hk) (fun j b hj hb => h (j + 1) b (by omega) (by simpa using hb)) (by simpa using he)
      unfold insK at this ⊢
      rw [List.takeWhile_cons_of_pos (by simpa using h0), List.dropWhile_cons_of_pos (by simpa using h0)]
      simp only [List.take_succ_cons, List.drop_succ_cons, List.cons_append]
      rw [this]
theorem insK_append {l r : List α} {a : α} (h : ∀ b ∈ r, ¬ key b < key a) : insK key (l ++ r) a = insK key l a ++ r := by
  induction l with
  | nil =>
    cases r with
    | nil => simp [insK]
    | cons x r => have := h x (by simp); simp [insK, this]
  | cons x l ih =>
    by_cases hx : key x < key a
    · unfold insK at ih ⊢
      simp only [List.cons_append]
      rw [List.takeWhile_cons_of_pos (by simpa using hx), List.dropWhile_cons_of_pos (by simpa using hx), List.takeWhile_cons_of_pos (by simpa using hx), List.dropWhile_cons_of_pos (by simpa using hx)]
      simp only [List.cons_append, ih]
    · simp [insK, hx]
theorem insK_all {l : List α} {a : α} (h : ∀ b ∈ l, key b < key a) : insK key l a = l ++ [a] := by
  induction l with
  | nil => simp [insK]
  | cons x l ih =>
    have hx := h x (by simp)
    have := ih (fun b hb => h b (by simp [hb]))
    unfold insK at this ⊢
    rw [List.takeWhile_cons_of_pos (by simpa using hx), List.dropWhile_cons_of_pos (by simpa using hx)]
    simp only [List.cons_append, this]
theorem mem_insK {l : List α} {a b : α} (h : b ∈ insK key l a) : b = a ∨ b ∈ l := by
  unfold insK at h
  rcases List.mem_append.1 h with h | h
  · exact .inr ((List.takeWhile_sublist _).subset h)
  · rcases List.mem_cons.1 h with h | h
    · exact .inl h
    · exact .inr ((List.dropWhile_sublist _).subset h)
theorem insK_len {l : List α} {a : α} : (insK key l a).length = l.length + 1 := by
  unfold insK
  have := congrArg List.length (List.takeWhile_append_dropWhile (p := fun b => decide (key b < key a)) (l := l))
  simp only [List.length_append, List.length_cons] at this ⊢
  omega
/-! The same of what a ring holds. -/
variable {V : Int → Option α} {low n : Nat}
theorem items_key (h : Held key V low n) {a : α} (ha : a ∈ items V low n) : V (key a) = some a := by
  obtain ⟨k, _, hv⟩ := mem_items.1 ha
  have := (h _ _ hv).2.2
  rw [this]; exact hv
theorem items_find (h : Held key V low n) (t : Int) : findK key (items V low n) t = V t := by
  cases hf : findK key (items V low n) t with
  | some b =>
    have hm := List.mem_of_find?_eq_some hf
    have hk := List.find?_some hf
    have := items_key h hm
    rw [show key b = t by simpa using hk] at this
    exact this.symm
  | none =>
    cases hv : V t with
    | none => rfl
    | some a =>
      obtain ⟨h1, h2, h3⟩ := h _ _ hv
      have hm : a ∈ items V low n := mem_items.2 ⟨(t - low).toNat, by omega, by rw [show ((low + (t - low).toNat : Nat) : Int) = t by omega]; exact hv⟩
      have := (List.find?_eq_none.1 hf) a hm
      simp [h3] at this
theorem items_same {V V' : Int → Option α} {low n : Nat} (h : ∀ k, k < n → V ((low + k : Nat) : Int) = V' ((low + k : Nat) : Int)) : items V low n = items V' low n := by
  induction n with
  | zero => rfl
  | succ n ih => rw [items_succ, items_succ, ih (fun k hk => h k (by omega)), h n (by omega)]
theorem items_put (h : Held key V low n) {t : Nat} {a : α} (h1 : low ≤ t) (h2 : t < low + n) (hk : key a = (t : Int)) (hv : V (t : Int) = none) : items (upV V (t : Int) a) low n = insK key (items V low n) a := by
  have hkey : ∀ (m k : Nat) (b : α), V ((low + k : Nat) : Int) = some b → key b = ((low + k : Nat) : Int) := fun m k b hb => (h _ _ hb).2.2
  have go : ∀ m, m ≤ n → (low + m ≤ t → items (upV V (t : Int) a) low m = items V low m) ∧ (t < low + m → items (upV V (t : Int) a) low m = insK key (items V low m) a) := by
    intro m
    induction m with
    | zero => exact fun _ => ⟨fun _ => rfl, fun hlt => by omega⟩
    | succ m ih =>
      intro hm
      obtain ⟨i1, i2⟩ := ih (by omega)
      refine ⟨fun hle => ?_, fun hlt => ?_⟩
      · rw [items_succ, items_succ, i1 (by omega)]
        congr 2
        unfold upV; rw [if_neg (by omega)]
      · rw [items_succ, items_succ]
        by_cases e : t = low + m
        · have e2 : V ((low + m : Nat) : Int) = none := by rw [← e]; exact hv
          rw [i1 (by omega), e2, show upV V (t : Int) a ((low + m : Nat) : Int) = some a by unfold upV; rw [if_pos (by omega)]]
          simp only [Option.toList_some, Option.toList_none, List.append_nil]
          rw [insK_all]
          intro b hb
          obtain ⟨k, hk2, hb2⟩ := mem_items.1 hb
          rw [hkey m k b hb2, hk]; omega
        · rw [i2 (by omega), show upV V (t : Int) a ((low + m : Nat) : Int) = V ((low + m : Nat) : Int) by unfold upV; rw [if_neg (by omega)], insK_append]
          intro b hb
          have : V ((low + m : Nat) : Int) = some b := by simpa using hb
          rw [hkey m m b this, hk]; omega
  exact (go n (Nat.le_refl _)).2 h2
theorem items_split (V : Int → Option α) (low p q : Nat) : items V low (p + q) = items V low p ++ items V (low + p) q := by
  induction q with
  | zero => simp [items]
  | succ q ih => rw [← Nat.add_assoc, items_succ, ih, items_succ, List.append_assoc, Nat.add_assoc low p q]
theorem items_move (h : Held key V low n) {l : Nat} (hl : low ≤ l) : items (mvV V (l : Int)) l n = (items V low n).filter fun a => decide ((l : Int) ≤ key a) := by
  have e1 : items V low n = items V low ((l - low) + n) := by
    have go : ∀ k, items V low (n + k) = items V low n := by
      intro k
      induction k with
      | zero => rfl
      | succ k ih =>
        rw [← Nat.add_assoc, items_succ, ih]
        cases hv : V ((low + (n + k) : Nat) : Int) with
        | none => simp
        | some a => have := (h _ _ hv).2.1; omega
    rw [Nat.add_comm, go]
  rw [e1, items_split, List.filter_append, show low + (l - low) = l by omega]
  have f1 : (items V low (l - low)).filter (fun a => decide ((l : Int) ≤ key a)) = [] := by
    rw [List.filter_eq_nil_iff]
    intro a ha
    obtain ⟨k, hk, hv⟩ := mem_items.1 ha
    have := (h _ _ hv).2.2
    simp only [decide_eq_true_eq]; omega
  have f2 : (items V l n).filter (fun a => decide ((l : Int) ≤ key a)) = items V l n := by
    rw [List.filter_eq_self]
    intro a ha
    obtain ⟨k, hk, hv⟩ := mem_items.1 ha
    have := (h _ _ hv).2.2
    simp only [decide_eq_true_eq]; omega
  rw [f1, f2, List.nil_append]
  exact items_same fun k _ => by unfold mvV; rw [if_neg (by omega)]
end
theorem Ring.held {α : Type} {ix : FuncId} {tr tp te : TypeId} {enc : α → Array Value} {key : α → Int} {ok : α → Prop} {w : World} {d : RD α} (h : Ring ix tr tp te enc key ok w d) : Held key d.V d.low d.n := fun i a hv => let ⟨h1, h2, h3, _⟩ := h.out i a hv; ⟨h1, h2, h3⟩
end Go.Proofs.Ytgipooedgbbliaa
