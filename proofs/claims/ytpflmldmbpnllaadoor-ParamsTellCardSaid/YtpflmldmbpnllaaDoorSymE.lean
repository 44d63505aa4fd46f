/-
  More laws for printed walks: calls of func values in an open order; functions that yield; slices of elements of many cells. Conditions: none.
-/
import Derived.Test.YtpflmldmbpnllaaDoorSymIn
import Derived.Test.YtpflmldmbpnllaaDoorSeg
import Derived.Lib.SliceRun
import Derived.Laws.MakeOwn
import Derived.Great.BuildSlice
namespace Go.Own
open Go Go.RowKit Go.Shelf

section
variable {P : Program} {Q : Exit → Act → World → Prop} {a : Act} {w : World} {ops : Array Oper} {i : Nat} {S : World → Prop} {fuel : Nat} {l : Array Bool}
theorem on_callV (o : Oper) (x : Operand) (f : FuncId) (first caps args : Array Value) (ho : ops[i]? = some o) (hg : Region.wanted o (yielded ops a.tmps) = true)
    (hc : o.op = .call { callee := .value x, args := callArgs o, argTypes := callTypes o }) (hx : a.eval x = .func (.func f) first caps) (hargs : first ++ (callArgs o).map a.eval ++ caps = args) (he : ∀ args w, (callFunc f args).run P w = .ok (.enter f args) w)
    (h : Calls P f args w fun e w' => ∃ v, e = .returned v ∧ S w' ∧ Gany P ops Q S fuel l (a.put o.dst v) w') : Gone P ops Q S fuel l i a w := by
  refine ⟨?_⟩
  unfold wpOp
  simp only [ho, hg, if_true]
  refine .inl ?_
  unfold Oper.wp execOp
  simp only [hc, resolve, hx, Sem.run_bind, Deferred.ofValue, Sem.run_pure, Result.andThen_ok, invoke, hargs, he]
  refine Calls.mono h fun e w' ⟨v, he, hv⟩ => ?_
  subst he
  exact hv
end

/-! A function that yields. -/
section
variable {P : Program} {Q : Exit → Act → World → Prop} {a : Act} {w : World} {ops : Array Oper} {i n : Nat} {rest : List Nat} {c : Code}
theorem syW_enter {f : FuncId} {fn : Func} {args : Array Value} {R : Ending → World → Prop} (c : Code) (a : Act) (hf : P.funcs[f]? = some fn) (hb : fn.body = some c)
    (ha : ({ tmps := args ++ Array.replicate (fn.ntmps - args.size) undef, defers := [] } : Act) = a) (h : c.wpIn Fence.wide n P (bodyPost P fn R) a w) : CallsIn Fence.wide n P f args w R :=
  callsIn_of_wp hf hb trivial (by rw [ha]; exact h) rfl
theorem syW_reg (h : RegW P c Q a w) : c.wpIn Fence.wide n P Q a w := wpIn_wide.2 (sy_reg h)
structure Gyield (n : Nat) (P : Program) (ops : Array Oper) (Q : Exit → Act → World → Prop) (rest : List Nat) (a : Act) (w : World) : Prop where
  out : wpOpsIn Fence.wide n P ops Q rest a w
theorem rg_yield (id : Nat) (ops : Array Oper) (l : List Nat) (hc : c = .region id ops false) (hl : List.range ops.size = l) (h : Gyield n P ops Q l a w) : c.wpIn Fence.wide n P Q a w := by
  subst hc; subst hl; exact wpIn_region h.out
theorem pi_end (h : Q .normal a w) : Gyield n P ops Q [] a w := ⟨h⟩
theorem pi_run (o : Oper) (v : Value) {w' : World} (ho : ops[i]? = some o) (hg : Region.wanted o (yielded ops a.tmps) = true) (hrun : (execOp a.eval o).run P w = .ok (.value v) w') (h : Gyield n P ops Q rest (a.put o.dst v) w') : Gyield n P ops Q (i :: rest) a w := by
  refine ⟨?_⟩
  rw [wpOpsIn_cons]
  unfold wpOpIn
  simp only [ho, hg, if_true]
  refine ⟨fun _ _ => trivial, ?_⟩
  rw [show o.semAt Fence.wide.round a.eval = execOp a.eval o from rfl, hrun]
  exact h.out
theorem pi_no (o : Oper) (ho : ops[i]? = some o) (hg : Region.wanted o (yielded ops a.tmps) = false) (h : Gyield n P ops Q rest (a.put o.dst undef) w) : Gyield n P ops Q (i :: rest) a w := by
  refine ⟨?_⟩
  rw [wpOpsIn_cons]
  unfold wpOpIn
  simp only [ho, hg]
  exact ⟨fun _ _ => trivial, h.out⟩
theorem pi_yield (o : Oper) (x : Operand) (y : Nat) (args : Array Value) (ho : ops[i]? = some o) (hg : Region.wanted o (yielded ops a.tmps) = true)
    (hc : o.op = .call { callee := .value x, args := callArgs o, argTypes := callTypes o }) (hx : a.eval x = .func (.yield y) #[] #[]) (hargs : (callArgs o).map a.eval = args)
    (h : YieldAt Fence.wide (n - 1) P y args w fun e w' => ∃ v, e = .returned v ∧ Gyield n P ops Q rest (a.put o.dst v) w') : Gyield n P ops Q (i :: rest) a w := by
  refine ⟨?_⟩
  obtain ⟨fn, tmps, assign, body, hy, hR⟩ := h
  rw [wpOpsIn_cons]
  unfold wpOpIn
  simp only [ho, hg, if_true]
  refine ⟨fun _ _ => trivial, ?_⟩
  rw [show o.semAt Fence.wide.round a.eval = execOp a.eval o from rfl]
  unfold execOp
  simp only [hc, resolve, hx, Sem.run_bind, Deferred.ofValue, Sem.run_pure, Result.andThen_ok, invoke, hargs, Array.append_empty, Array.empty_append, List.append_nil, hy]
  refine ⟨fun hx => by simp [Fence.wide] at hx, ?_⟩
  refine hR.mono fun e w' ⟨v, he, hv⟩ => ?_
  subst he
  exact hv.out
end

/-! Slices of elements of s cells each. -/
section
variable {P : Program} {o : Oper} {ρ : Operand → Value} {w : World}
/-- 's[:k]'. -/
theorem exec_slice_toW (t : TypeId) (x y : Operand) (ho : o.op = .slice t x none (some y) none) (A : Option Addr) (n cap : Nat) (hx : ρ x = .slice A n cap) (kd : IntKind) (k : Nat) (hy : ρ y = .int kd (k : Int)) (e : TypeId) (hu : P.underlying t = some (.slice e))
    (s : Nat) (hs : (P.info? e).map (·.size) = some s) (hk : k ≤ cap) : (execOp ρ o).run P w = .ok (.value (.slice A k cap)) w := by
  obtain ⟨i, hi, h1⟩ := Option.map_eq_some_iff.1 hs
  have h2 : (0 : Int) ≤ (k : Int) ∧ (k : Int) ≤ (cap : Int) := by omega
  unfold execOp
  simp only [ho, hx, hy, Option.map_some, Option.map_none, Instr.sliceAt, Sem.run_bind, run_underlying hu, Instr.slice, Instr.sliceBounds, Instr.sliceBound, asIntOf, Sem.run_pure, Result.andThen_ok, if_pos h2]
  rw [show (sizeOf e).run P w = .ok s w by simp [go_sem, sizeOf, typeInfo, hi, h1]]
  simp only [Result.andThen_ok, Int.toNat_natCast, Nat.zero_mul, Nat.sub_zero]
  cases A with
  | none => split <;> rfl
  | some a => split <;> simp [Addr.add]
def cutW (A : Option Addr) (n cap s k : Nat) : Value := .slice (if cap = k then A else A.map (·.add (k * s))) (n - k) (cap - k)
/-- 's[k:]'. -/
theorem exec_slice_fromW (t : TypeId) (x y : Operand) (ho : o.op = .slice t x (some y) none none) (A : Option Addr) (n cap : Nat) (hx : ρ x = .slice A n cap) (kd : IntKind) (k : Nat) (hy : ρ y = .int kd (k : Int)) (e : TypeId) (hu : P.underlying t = some (.slice e))
    (s : Nat) (hs : (P.info? e).map (·.size) = some s) (hk : k ≤ n) : (execOp ρ o).run P w = .ok (.value (cutW A n cap s k)) w := by
  obtain ⟨i, hi, h1⟩ := Option.map_eq_some_iff.1 hs
  have h2 : (0 : Int) ≤ (k : Int) ∧ (k : Int) ≤ (n : Int) := by omega
  unfold execOp
  simp only [ho, hx, hy, Option.map_some, Option.map_none, Instr.sliceAt, Sem.run_bind, run_underlying hu, Instr.slice, Instr.sliceBounds, Instr.sliceBound, asIntOf, Sem.run_pure, Result.andThen_ok, if_pos h2]
  rw [show (sizeOf e).run P w = .ok s w by simp [go_sem, sizeOf, typeInfo, hi, h1]]
  simp only [Result.andThen_ok, Int.toNat_natCast]
  rfl
theorem exec_makeSlice (t : TypeId) (x y : Operand) (ho : o.op = .makeSlice t x y) (e : TypeId) (i : TypeInfo) (z : Value) (ht : P.underlying t = some (.slice e)) (hi : P.info? e = some i) (hz : i.zero = some z)
    (n : Nat) (hx : ρ x = .int .i64 (n : Int)) (hy : ρ y = .int .i64 (n : Int)) (hb : i.bytes * n ≤ 281474976710656) (h63 : n ≤ 9223372036854775807) :
    (execOp ρ o).run P w = .ok (.value (.slice (some ⟨w.heap.size, 0, none⟩) n n)) (w.alloc (.cells (madeCells z.cells (n * i.size)) e)) := by
  have h := run_make (P := P) w t e i z ht hi hz .i64 .i64 (n : Int) (n : Int) (by omega) (Int.le_refl _) (by rw [← Int.natCast_mul]; omega) (by omega)
  unfold execOp
  simp only [ho, hx, hy, Sem.run_bind, h, Result.andThen_ok, Sem.run_pure, Int.toNat_natCast]
/-- A slice literal of one element of s cells. -/
theorem exec_build1 (t e : TypeId) (x : Operand) (ho : o.op = .buildSlice t 1 #[(0, x)]) (v : Value) (hx : ρ x = v) (ie : TypeInfo) (z : Value) (hu : P.underlying t = some (.slice e)) (hie : P.info? e = some ie) (hz : ie.zero = some z)
    (s : Nat) (hs : ie.size = s) (hs0 : 0 < s) (hs1 : s ≤ 16777216) (hv : v.cells.size = s) : (execOp ρ o).run P w = .ok (.value (.slice (some ⟨w.heap.size, 0, none⟩) 1 1)) (w.alloc (.cells v.cells e)) := by
  have hf : Instr.fill (fun i => some (i * ie.size, ie.size)) ((Array.range (1 * ie.size)).map (z.cells[· % z.cells.size]!)) (#[(0, v)] : Array (Nat × Value)).toList = some v.cells := by
    have h1 : ∀ u ∈ [v], u.cells.size = ie.size := by
      intro u hu
      have : u = v := by simpa using hu
      rw [this, hv, hs]
    have h := Great.fill_whole (s := ie.size) (by omega) [v] ((Array.range (1 * ie.size)).map (z.cells[· % z.cells.size]!)) h1 (by simp)
    simpa using h
  unfold execOp
  simp only [ho, List.map_toArray, List.map_cons, List.map_nil, hx, Sem.run_bind, run_buildSlice w t e 1 _ v.cells ie z hu hie hz (by rw [hs]; omega) (by rw [hs]; omega) hf, Result.andThen_ok, Sem.run_pure]
theorem exec_rem (t t' : TypeId) (x y : Operand) (ho : o.op = .binOp .rem t x y t') (a b : Nat) (hx : ρ x = .int .i64 (a : Int)) (hy : ρ y = .int .i64 (b : Int)) (hb : 0 < b) :
    (execOp ρ o).run P w = .ok (.value (.int .i64 ((a % b : Nat) : Int))) w := by
  refine exec_binop .rem t t' x y ho _ _ _ hx hy rfl ?_
  have h : ¬ ((b : Int) = 0) := by omega
  rw [binOp_rem]
  simp only [Op.intDiv, if_neg h]
  rfl
theorem exec_clear (x : Operand) (t e : TypeId) (ho : o.op = .call { callee := .builtin .clear, args := #[x], argTypes := #[t] }) (z : Value) (ht : P.underlying t = some (.slice e)) (hv : ∀ w, (zeroValue e).run P w = .ok z w) (hz : z.cells = #[z]) (h1 : z.oneCell' = true)
    (b n c : Nat) (hx : ρ x = .slice (some ⟨b, 0, none⟩) n c) (hn : 0 < n) (cs : Array Value) (T : TypeId) (h : w.heap[b]? = some (.cells cs T (0, 0))) (hs : n ≤ cs.size) :
    (execOp ρ o).run P w = .ok (.value (.tuple #[])) (w.setCells b 0 (List.replicate n z)) := by
  have hr := Lib.run_clear_slice (P := P) w t e o.type z ht hv hz h1 b 0 n c hn (fun j hj => by rw [Nat.zero_add, cell_of_row _ _ _ _ _ _ h, Array.getElem?_eq_getElem (by omega)]; rfl) (fun j hj => frozen_of_row _ _ _ _ _ h)
  unfold execOp
  simp only [ho, resolve, invoke, builtin, Sem.run_bind, Sem.run_pure, Result.andThen_ok, List.map_toArray, List.map_cons, List.map_nil, hx, hr]
end

/-! What a step leaves of all that is no cells. -/
theorem Keeps.others0 {w w' : World} (k : Keeps Nob w w') : KeepsOthers w w' := ⟨k.size, fun j o hj _ => (k.block j (Array.getElem?_eq_some_iff.1 hj).1 (fun x => x)).trans hj⟩
theorem Keeps.others1 {w w' : World} {g : Nat} (k : Keeps (One g) w w') {cs : Array Value} {T : TypeId} {fr : Nat × Nat} (hg : w.heap[g]? = some (.cells cs T fr)) : KeepsOthers w w' := ⟨k.size, fun j o hj ho => (k.block j (Array.getElem?_eq_some_iff.1 hj).1 (fun (e : j = g) => by subst e; rw [hg] at hj; cases hj; cases ho)).trans hj⟩
theorem Keeps.othersR {w w' : World} {v : Value} (k : Keeps (fun j => v.ownBlock = some j) w w') {e : TypeId} {size n : Nat} {xs : List Value} (h : Row w e size v n xs) : KeepsOthers w w' := ⟨k.size, fun j o hj ho => (k.block j (Array.getElem?_eq_some_iff.1 hj).1 (fun x => by
  obtain ⟨cs, hc⟩ := h.elem x
  rw [hc] at hj; cases hj; cases ho)).trans hj⟩
theorem Row.cells1 {w : World} {e : TypeId} {size n : Nat} {v : Value} {xs : List Value} (h : Row w e size v n xs) : v.cells = #[v] := by
  rcases h.2 with ⟨rfl, _⟩ | ⟨g, cap, cur, rfl, _⟩ <;> rfl
theorem Row.apart {w : World} {e1 e2 : TypeId} {s1 s2 n1 n2 : Nat} {v u : Value} {xs ys : List Value} (h : Row w e1 s1 v n1 xs) (k : Row w e2 s2 u n2 ys) (hne : e1 ≠ e2) : ∀ j, v.ownBlock = some j → ¬ u.ownBlock = some j := fun j h1 h2 => by
  obtain ⟨cs, hc⟩ := h.elem h1
  obtain ⟨cs2, hc2⟩ := k.elem h2
  rw [hc] at hc2
  simp only [Option.some.injEq, Obj.cells.injEq] at hc2
  exact hne hc2.2.1
/-- A slice of elements x of s cells each, 'c x'. -/
structure Sl {α : Type} (w : World) (s : Nat) (c : α → List Value) (v : Value) (xs : List α) : Prop where
  form : ∃ A cap, v = .slice A xs.length cap ∧ xs.length ≤ cap ∧ cap ≤ maxLen ∧ (A = none → cap = 0)
  at_ : ∀ (k : Nat) (x : α), xs[k]? = some x → ∃ b o cap, v = .slice (some ⟨b, o, none⟩) xs.length cap ∧ b < w.heap.size ∧ ∀ (j : Nat) (u : Value), (c x)[j]? = some u → w.cell? ⟨b, o + k * s + j, none⟩ = some u
section
variable {α : Type} {w w' : World} {M : Nat → Prop} {s : Nat} {c : α → List Value} {v : Value} {xs : List α}
theorem Sl.keeps (h : Sl w s c v xs) (k : Keeps M w w') (hm : ∀ j, v.ownBlock = some j → j < w.heap.size → ¬ M j) : Sl w' s c v xs :=
  ⟨h.form, fun i x hi => by
    obtain ⟨b, o, cap, e, hb, hc⟩ := h.at_ i x hi
    exact ⟨b, o, cap, e, Nat.lt_of_lt_of_le hb k.size, fun j u hj => (k.cell hb (hm b (by rw [e]; rfl) hb)).trans (hc j u hj)⟩⟩
theorem Sl.keepsN (h : Sl w s c v xs) (k : Keeps Nob w w') : Sl w' s c v xs := h.keeps k (fun _ _ _ x => x)
/-- Below 'w0' nothing is turned. -/
theorem Sl.keepsB {w0 : World} (h0 : Sl w0 s c v xs) (h : Sl w s c v xs) (k : Keeps M w w') (hm : ∀ j, M j → w0.heap.size ≤ j) : Sl w' s c v xs :=
  ⟨h.form, fun i x hi => by
    obtain ⟨b, o, cap, e, hb, hc⟩ := h.at_ i x hi
    obtain ⟨b0, o0, cap0, e0, hb0, _⟩ := h0.at_ i x hi
    rw [e] at e0
    simp only [Value.slice.injEq, Option.some.injEq, Addr.mk.injEq] at e0
    obtain ⟨⟨rfl, _⟩, _⟩ := e0
    exact ⟨b, o, cap, e, Nat.lt_of_lt_of_le hb k.size, fun j u hj => (k.cell hb (fun x => by have := hm _ x; omega)).trans (hc j u hj)⟩⟩
theorem Sl.nil (w : World) (s : Nat) (c : α → List Value) : Sl w s c (.slice none 0 0) [] := ⟨⟨none, 0, rfl, Nat.le_refl _, by simp [maxLen], fun _ => rfl⟩, fun k x h => by simp at h⟩
theorem Sl.len_le (h : Sl w s c v xs) : xs.length ≤ 9223372036854775807 := by
  obtain ⟨A, cap, e, h1, h2, _⟩ := h.form
  unfold maxLen at h2; omega
theorem flat_get (hc : ∀ x ∈ xs, (c x).length = s) (k : Nat) (x : α) (hx : xs[k]? = some x) (j : Nat) (u : Value) (hj : (c x)[j]? = some u) : (xs.flatMap c)[k * s + j]? = some u := by
  induction xs generalizing k with
  | nil => simp at hx
  | cons y r ih =>
    rw [List.flatMap_cons]
    have hy := hc y (by simp)
    cases k with
    | zero =>
      simp only [List.getElem?_cons_zero, Option.some.injEq] at hx; subst hx
      rw [Nat.zero_mul, Nat.zero_add, List.getElem?_append_left (List.getElem?_eq_some_iff.1 hj).1]; exact hj
    | succ k =>
      rw [List.getElem?_append_right (by rw [hy, Nat.succ_mul]; omega), hy, show (k + 1) * s + j - s = k * s + j by rw [Nat.succ_mul]; omega]
      exact ih (fun z hz => hc z (by simp [hz])) k (by simpa using hx)
theorem flat_len (hc : ∀ x ∈ xs, (c x).length = s) : (xs.flatMap c).length = xs.length * s := by
  induction xs with
  | nil => simp
  | cons y r ih =>
    rw [List.flatMap_cons, List.length_append, ih (fun z hz => hc z (by simp [hz])), hc y (by simp), List.length_cons, Nat.succ_mul]; omega
theorem Row.sl {e : TypeId} {n : Nat} (h : Row w e s v n (xs.flatMap c)) (hn : n = xs.length) (hc : ∀ x ∈ xs, (c x).length = s) : Sl w s c v xs := by
  subst hn
  have hh := h
  rcases h.2 with ⟨rfl, h0⟩ | ⟨g, cap, cur, rfl, hb, hg, h1, h2, h3⟩
  · have h0 : xs = [] := List.eq_nil_of_length_eq_zero h0
    subst h0
    exact ⟨⟨none, 0, rfl, Nat.le_refl _, by simp [maxLen], fun _ => rfl⟩, fun k x hx => by simp at hx⟩
  · exact ⟨⟨_, _, rfl, h1, by omega, fun h => by cases h⟩, fun k x hx => ⟨g, 0, cap, rfl, (Array.getElem?_eq_some_iff.1 hg).1, fun j u hj => by
      have := World.ownsRow.cells hh (g := g) rfl (k * s + j) u (flat_get hc k x hx j u hj)
      simpa [Addr.add_lit] using this⟩⟩
theorem mem_flat {c : α → List Value} {xs : List α} {u : Value} (h : u ∈ xs.flatMap c) : ∃ x ∈ xs, u ∈ c x := by simpa using h
theorem Sl.src (h : Sl w s c v xs) (hc : ∀ x ∈ xs, (c x).length = s) (hs : 0 < s) (h1 : ∀ x ∈ xs, ∀ u ∈ c x, u.oneCell' = true) : Src w s v xs.length (xs.flatMap c) := by
  refine ⟨flat_len hc, fun u hu => let ⟨x, hx, hu⟩ := mem_flat hu; h1 x hx u hu, ?_⟩
  obtain ⟨A, cap, rfl, h2, h3, h4⟩ := h.form
  cases A with
  | none => have := h4 rfl; exact .inl ⟨by rw [this] at h2 ⊢; rw [Nat.le_zero.1 h2], by omega⟩
  | some ad =>
    refine .inr ⟨ad, cap, rfl, fun j u hj => ?_⟩
    have hj2 : j < xs.length * s := by rw [← flat_len hc]; exact (List.getElem?_eq_some_iff.1 hj).1
    have hk : j / s < xs.length := Nat.div_lt_of_lt_mul (by rw [Nat.mul_comm]; exact hj2)
    obtain ⟨b, o, cap', e, _, hcell⟩ := h.at_ (j / s) xs[j / s] (List.getElem?_eq_getElem hk)
    simp only [Value.slice.injEq, Option.some.injEq, true_and] at e
    obtain ⟨rfl, _⟩ := e
    have hl := hc xs[j / s] (List.getElem_mem hk)
    have hm : j % s < (c xs[j / s]).length := by rw [hl]; exact Nat.mod_lt _ hs
    have e2 := flat_get hc (j / s) xs[j / s] (List.getElem?_eq_getElem hk) (j % s) _ (List.getElem?_eq_getElem hm)
    have hd : j / s * s + j % s = j := by rw [Nat.mul_comm]; exact Nat.div_add_mod j s
    rw [hd, hj] at e2
    have := hcell (j % s) u (by rw [List.getElem?_eq_getElem hm]; exact e2.symm)
    rw [show o + j / s * s + j % s = o + j by omega] at this
    simpa [Addr.add_lit] using this
theorem Sl.take (h : Sl w s c v xs) (k : Nat) (hk : k ≤ xs.length) : ∀ A n cap, v = .slice A n cap → Sl w s c (.slice A k cap) (xs.take k) := by
  rintro A n cap rfl
  obtain ⟨A', cap', e, h2, h3, h4⟩ := h.form
  simp only [Value.slice.injEq] at e
  obtain ⟨rfl, rfl, rfl⟩ := e
  have hl : (xs.take k).length = k := by simp; omega
  refine ⟨⟨_, _, by rw [hl], by omega, h3, h4⟩, fun i x hi => ?_⟩
  have hik : i < k := by have := (List.getElem?_eq_some_iff.1 hi).1; omega
  rw [List.getElem?_take_of_lt hik] at hi
  obtain ⟨b, o, cap'', e, hb, hcell⟩ := h.at_ i x hi
  simp only [Value.slice.injEq, true_and] at e
  obtain ⟨rfl, rfl⟩ := e
  exact ⟨b, o, _, by rw [hl], hb, hcell⟩
theorem Sl.drop (h : Sl w s c v xs) (k : Nat) (hk : k ≤ xs.length) : ∀ A n cap, v = .slice A n cap → Sl w s c (cutW A n cap s k) (xs.drop k) := by
  rintro A n cap rfl
  obtain ⟨A', cap', e, h2, h3, h4⟩ := h.form
  simp only [Value.slice.injEq] at e
  obtain ⟨rfl, rfl, rfl⟩ := e
  unfold cutW
  refine ⟨⟨_, _, by rw [List.length_drop], by rw [List.length_drop]; omega, by omega, fun hn => ?_⟩, fun i x hi => ?_⟩
  · split at hn
    · omega
    · cases A with
      | none => have := h4 rfl; omega
      | some a => cases hn
  · rw [List.getElem?_drop] at hi
    have hlt := (List.getElem?_eq_some_iff.1 hi).1
    obtain ⟨b, o, cap'', e, hb, hcell⟩ := h.at_ (k + i) x hi
    simp only [Value.slice.injEq, true_and] at e
    obtain ⟨rfl, rfl⟩ := e
    rw [if_neg (by omega)]
    refine ⟨b, o + k * s, cap - k, by rw [List.length_drop]; simp [Addr.add], hb, fun j u hj => ?_⟩
    have := hcell j u hj
    rwa [show o + (k + i) * s + j = o + k * s + i * s + j by rw [Nat.add_mul]; omega] at this
end
end Go.Own
