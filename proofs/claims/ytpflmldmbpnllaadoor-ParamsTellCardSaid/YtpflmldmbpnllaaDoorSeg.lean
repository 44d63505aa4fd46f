/-
  Parts of blocks, rows and slices of bytes: laws for printed walks. Conditions: none.
-/
import Derived.Test.YtpflmldmbpnllaaDoorSym
import Derived.Test.YtpflmldmbpnllaaDoorSym2
import Derived.Test.YtpflmldmbpnllaaDoorRows
import Derived.Laws.CopyRow
import Derived.Laws.Slices
namespace Go.Own
open Go Go.RowKit Go.Shelf
/-- Cells laid over a part of a block. -/
def seg (cs : Array Value) (o : Nat) (vs : List Value) : Array Value := (cs.toList.take o ++ vs ++ cs.toList.drop (o + vs.length)).toArray
theorem heap_setCells (g : Nat) (T : TypeId) : ∀ (vs : List Value) (o : Nat) (cs : Array Value) (w : World), w.heap[g]? = some (.cells cs T (0, 0)) → o + vs.length ≤ cs.size → (w.setCells g o vs).heap[g]? = some (.cells (seg cs o vs) T (0, 0))
  | [], o, cs, w, h, _ => by simpa [World.setCells, seg] using h
  | v :: r, o, cs, w, h, hl => by
    rw [List.length_cons] at hl
    have h1 := heap_setCell_same w g o cs T v h
    have h2 := heap_setCells g T r (o + 1) _ _ h1 (by simp; omega)
    rw [World.setCells, h2]
    refine congrArg (fun c => some (Obj.cells c T (0, 0))) (Array.toList_inj.1 ?_)
    simp only [seg, Array.toList_setIfInBounds, List.length_cons]
    have e1 : (cs.toList.set o v).take (o + 1) = cs.toList.take o ++ [v] := by
      rw [List.take_set, List.take_succ_eq_append_getElem (by simp; omega), List.set_append, if_neg (by simp; omega), List.length_take, Nat.min_eq_left (by simp; omega), Nat.sub_self]; rfl
    have e2 : (cs.toList.set o v).drop (o + 1 + r.length) = cs.toList.drop (o + (r.length + 1)) := by
      rw [List.drop_set_of_lt (by omega)]; congr 1; omega
    rw [e1, e2]; simp
theorem setCells_other (g : Nat) : ∀ (vs : List Value) (o : Nat) (w : World) (k : Nat), k ≠ g → (w.setCells g o vs).heap[k]? = w.heap[k]?
  | [], _, _, _, _ => rfl
  | v :: r, o, w, k, hk => by rw [World.setCells, setCells_other g r _ _ _ hk, heap_setCell_other w _ _ _ hk]
theorem Keeps.setCells (w : World) (g : Nat) : ∀ (vs : List Value) (o : Nat), Keeps (One g) w (w.setCells g o vs) := by
  intro vs
  suffices h : ∀ (a w : World) (o : Nat), Keeps (One g) a w → Keeps (One g) a (w.setCells g o vs) from fun o => h w w o (Keeps.refl _ _)
  induction vs with
  | nil => intro a w o h; exact h
  | cons v r ih => intro a w o h; exact ih a _ _ (h.setOne v)
section
variable {P : Program} {o : Oper} {ρ : Operand → Value} {w : World}
theorem there_of_block {g : Nat} {cs : Array Value} {T : TypeId} (h : w.heap[g]? = some (.cells cs T (0, 0))) (of n : Nat) (hn : of + n ≤ cs.size) : w.there g of n := fun j hj => by
  refine ⟨?_, frozen_of_row _ _ _ _ _ h⟩
  rw [cell_of_row _ _ _ _ _ _ h, Array.getElem?_eq_getElem (by omega)]; rfl
theorem exec_store_mid (ty : TypeId) (x y : Operand) (ho : o.op = .store ty x y) (g of : Nat) (hx : ρ x = .pointer (some ⟨g, of, none⟩)) (vs : Array Value) (hy : ρ y = .agg vs) (cs : Array Value) (T : TypeId) (h : w.heap[g]? = some (.cells cs T (0, 0)))
    (hn : of + vs.size ≤ cs.size) (hi : (P.info? ty).map (·.size) = some vs.size) (h1 : vs.all (·.oneCell') = true) : (execOp ρ o).run P w = .ok .skip (w.setCells g of vs.toList) := by
  unfold execOp
  simp only [ho, hx, hy, Sem.run_bind, run_storeAt_mid w g of ty vs (there_of_block h of _ hn) hi h1, Result.andThen_ok, Sem.run_pure]
theorem exec_load_seg (ty : TypeId) (x : Operand) (ho : o.op = .load ty x) (g of : Nat) (hx : ρ x = .pointer (some ⟨g, of, none⟩)) (vs : List Value) (cs : Array Value) (T : TypeId) (d : TypeDesc) (h : w.heap[g]? = some (.cells cs T (0, 0)))
    (hc : ∀ j v, vs[j]? = some v → cs[of + j]? = some v) (hu : P.underlying ty = some d) (hd : d.isRow = true) (hi : (P.info? ty).map (·.size) = some vs.length) : (execOp ρ o).run P w = .ok (.value (.agg vs.toArray)) w :=
  exec_load_mid ty x ho g of hx vs d (fun j v hj => (cell_of_row _ _ _ _ _ _ h).trans (hc j v hj)) hu hd hi
/-- 'a[k:]' of an array's address. -/
theorem exec_slice_arr (t : TypeId) (x y : Operand) (ho : o.op = .slice t x (some y) none none) (b of : Nat) (hx : ρ x = .pointer (some ⟨b, of, none⟩)) (kd : IntKind) (k : Nat) (hy : ρ y = .int kd (k : Int)) (n : Nat) (e : TypeId) (hu : P.underlying t = some (.array n e))
    (hs : (P.info? e).map (·.size) = some 1) (hk : k < n) : (execOp ρ o).run P w = .ok (.value (.slice (some ⟨b, of + k, none⟩) (n - k) (n - k))) w := by
  obtain ⟨i, hi, h1⟩ := Option.map_eq_some_iff.1 hs
  have h2 : (0 : Int) ≤ (k : Int) ∧ (k : Int) ≤ (n : Int) := by omega
  unfold execOp
  simp only [ho, hx, hy, Option.map_some, Option.map_none, Instr.sliceAt, Sem.run_bind, run_underlying hu, Instr.sureAddr, Instr.sliceBounds, Instr.sliceBound, asIntOf, Sem.run_pure, Result.andThen_ok, if_pos h2]
  rw [show (sizeOf e).run P w = .ok 1 w by simp [go_sem, sizeOf, typeInfo, hi, h1]]
  simp only [Result.andThen_ok, Int.toNat_natCast, Nat.mul_one]
  rw [if_neg (by omega)]
  simp [Addr.add_lit]
theorem exec_slice_all (t : TypeId) (x : Operand) (ho : o.op = .slice t x none none none) (b of : Nat) (hx : ρ x = .pointer (some ⟨b, of, none⟩)) (n : Nat) (e : TypeId) (hu : P.underlying t = some (.array n e))
    (hs : (P.info? e).map (·.size) = some 1) : (execOp ρ o).run P w = .ok (.value (.slice (some ⟨b, of, none⟩) n n)) w := by
  obtain ⟨i, hi, h1⟩ := Option.map_eq_some_iff.1 hs
  unfold execOp
  simp only [ho, hx, Option.map_none, Instr.sliceAt, Sem.run_bind, run_underlying hu, Instr.sureAddr, Instr.sliceBounds, Sem.run_pure, Result.andThen_ok]
  rw [show (sizeOf e).run P w = .ok 1 w by simp [go_sem, sizeOf, typeInfo, hi, h1]]
  simp only [Result.andThen_ok]
  split <;> simp [Addr.add]
/-- 's[k:]' of a slice that has more. -/
theorem exec_slice_from (t : TypeId) (x y : Operand) (ho : o.op = .slice t x (some y) none none) (A : Option Addr) (n cap : Nat) (hx : ρ x = .slice A n cap) (kd : IntKind) (k : Nat) (hy : ρ y = .int kd (k : Int)) (e : TypeId) (hu : P.underlying t = some (.slice e))
    (hs : (P.info? e).map (·.size) = some 1) (hk : k ≤ n) : (execOp ρ o).run P w = .ok (.value (cutV A n cap k)) w := by
  obtain ⟨i, hi, h1⟩ := Option.map_eq_some_iff.1 hs
  have h2 : (0 : Int) ≤ (k : Int) ∧ (k : Int) ≤ (n : Int) := by omega
  unfold execOp
  simp only [ho, hx, hy, Option.map_some, Option.map_none, Instr.sliceAt, Sem.run_bind, run_underlying hu, Instr.slice, Instr.sliceBounds, Instr.sliceBound, asIntOf, Sem.run_pure, Result.andThen_ok, if_pos h2]
  rw [show (sizeOf e).run P w = .ok 1 w by simp [go_sem, sizeOf, typeInfo, hi, h1]]
  simp only [Result.andThen_ok, Int.toNat_natCast, Nat.mul_one]
  rfl
/-- 's[:k]'. -/
theorem exec_slice_to (t : TypeId) (x y : Operand) (ho : o.op = .slice t x none (some y) none) (A : Option Addr) (n cap : Nat) (hx : ρ x = .slice A n cap) (kd : IntKind) (k : Nat) (hy : ρ y = .int kd (k : Int)) (e : TypeId) (hu : P.underlying t = some (.slice e))
    (hs : (P.info? e).map (·.size) = some 1) (hk : k ≤ cap) : (execOp ρ o).run P w = .ok (.value (.slice A k cap)) w := by
  obtain ⟨i, hi, h1⟩ := Option.map_eq_some_iff.1 hs
  have h2 : (0 : Int) ≤ (k : Int) ∧ (k : Int) ≤ (cap : Int) := by omega
  unfold execOp
  simp only [ho, hx, hy, Option.map_some, Option.map_none, Instr.sliceAt, Sem.run_bind, run_underlying hu, Instr.slice, Instr.sliceBounds, Instr.sliceBound, asIntOf, Sem.run_pure, Result.andThen_ok, if_pos h2]
  rw [show (sizeOf e).run P w = .ok 1 w by simp [go_sem, sizeOf, typeInfo, hi, h1]]
  simp only [Result.andThen_ok, Int.toNat_natCast, Nat.zero_mul, Nat.sub_zero]
  cases A with
  | none => split <;> rfl
  | some a => split <;> simp [Addr.add]
/-- 'copy(d, s)' into a block of one's own. -/
theorem exec_copy (x y : Operand) (t : TypeId) (ho : o.op = .call { callee := .builtin .copy, args := #[x, y], argTypes := #[t, t] }) (e : TypeId) (hu : P.underlying t = some (.slice e)) (hs : (P.info? e).map (·.size) = some 1)
    (g of dl dc : Nat) (hx : ρ x = .slice (some ⟨g, of, none⟩) dl dc) (v : Value) (l : List UInt8) (hy : ρ y = v) (hv : BytesAt w v l) (cs : Array Value) (T : TypeId) (h : w.heap[g]? = some (.cells cs T (0, 0))) (k : Nat) (hk : k = Nat.min l.length dl) (hfit : of + k ≤ cs.size) (h0 : 0 < l.length) :
    (execOp ρ o).run P w = .ok (.value (.int .i64 (k : Int))) (w.setRow g (seg cs of (B (l.take k)))) := by
  obtain ⟨A, cap, rfl, hc1, hc2, hc3⟩ := hv.form
  obtain ⟨z, hz⟩ : ∃ z, l[0]? = some z := ⟨_, List.getElem?_eq_getElem h0⟩
  obtain ⟨b2, o2, c2, e2, hb2, _⟩ := hv.at_ 0 z hz
  simp only [Value.slice.injEq, true_and] at e2
  obtain ⟨rfl, rfl⟩ := e2
  have hlk : (l.take k).length = k := by rw [List.length_take, hk]; exact Nat.min_eq_left (Nat.min_le_left _ _)
  have := run_copy_row (P := P) w t t o.type e g of dl dc ⟨b2, o2, none⟩ l.length cap cs T (B (l.take k)) hu hs h (by rw [B_length, hlk, hk]) (fun j u hj => by
    obtain ⟨x, hx, rfl⟩ := B_get_inv _ j u hj
    have hj2 : j < (l.take k).length := (List.getElem?_eq_some_iff.1 hx).1
    rw [List.getElem?_take_of_lt (by omega)] at hx
    obtain ⟨b3, o3, c3, e3, _, h3⟩ := hv.at_ j x hx
    simp only [Value.slice.injEq, Option.some.injEq, Addr.mk.injEq, true_and, and_true] at e3
    obtain ⟨⟨rfl, rfl⟩, _⟩ := e3
    simpa [Addr.add_lit] using h3) (by rw [B_length, hlk]; exact hfit) (B_one _)
  rw [B_length, hlk] at this
  unfold execOp
  simp only [ho, hx, hy, resolve, invoke, builtin, Sem.run_bind, Sem.run_pure, Result.andThen_ok, List.map_toArray, List.map_cons, List.map_nil, this]
  rw [show seg cs of (B (l.take k)) = (cs.toList.take of ++ B (l.take k) ++ cs.toList.drop (of + k)).toArray by unfold seg; rw [B_length, hlk]]
  rfl
end
theorem BytesAt.keeps0 {w w' : World} {M : Nat → Prop} {v : Value} {l : List UInt8} (h : BytesAt w v l) (k : Keeps M w w') (hm : 0 < l.length → ∀ j, v.ownBlock = some j → ¬ M j) : BytesAt w' v l :=
  ⟨h.form, fun i x hi => by
    obtain ⟨b, o, cap, e, hb, hc⟩ := h.at_ i x hi
    exact ⟨b, o, cap, e, Nat.lt_of_lt_of_le hb k.size, (k.cell hb (hm (by have := (List.getElem?_eq_some_iff.1 hi).1; omega) b (by rw [e]; rfl))).trans hc⟩⟩
theorem BytesAt.blockLt {w : World} {u : Value} {l : List UInt8} (h : BytesAt w u l) (hl : 0 < l.length) : ∀ j, u.ownBlock = some j → j < w.heap.size := by
  intro j hj
  obtain ⟨x, hx⟩ : ∃ x, l[0]? = some x := ⟨_, List.getElem?_eq_getElem hl⟩
  obtain ⟨b, o, cap, e, hb, _⟩ := h.at_ 0 x hx
  subst e
  simp only [Value.ownBlock, Option.some.injEq] at hj
  omega
theorem Bz_get (l : List UInt8) (k : Nat) (h : k < l.length) : (B l).toArray[k]? = some (.int .u8 (((l.getD k 0).toNat : Nat) : Int)) := by
  rw [List.getElem?_toArray]
  have := B_get l k l[k] (List.getElem?_eq_getElem h)
  rw [this, List.getD_eq_getElem?_getD, List.getElem?_eq_getElem h]; rfl
theorem Bz_get' (l : List UInt8) (k : Nat) (x : UInt8) (h : k < l.length) (hx : l.getD k 0 = x) : (B l).toArray[k]? = some (.int .u8 ((x.toNat : Nat) : Int)) := hx ▸ Bz_get l k h
theorem Bz_size (l : List UInt8) : (B l).toArray.size = l.length := by simp [B_length]
theorem Bz_set (l : List UInt8) (k : Nat) (x : UInt8) : (B l).toArray.setIfInBounds k (.int .u8 ((x.toNat : Nat) : Int)) = (B (l.set k x)).toArray := by
  simp [B, List.map_set]
theorem bytes_cell {w : World} {g o n cap : Nat} {l : List UInt8} (h : BytesAt w (.slice (some ⟨g, o, none⟩) n cap) l) (k : Nat) (hk : k < l.length) : w.cell? ⟨g, o + k, none⟩ = some (.int .u8 (((l.getD k 0).toNat : Nat) : Int)) := by
  obtain ⟨b, o2, c, e, _, hc⟩ := h.at_ k l[k] (List.getElem?_eq_getElem hk)
  simp only [Value.slice.injEq, Option.some.injEq, Addr.mk.injEq, true_and, and_true] at e
  obtain ⟨⟨rfl, rfl⟩, _, _⟩ := e
  rw [hc, List.getD_eq_getElem?_getD, List.getElem?_eq_getElem hk]; rfl
theorem wrap8 (n : Nat) : IntKind.u8.wrap (n : Int) = (((UInt8.ofNat n).toNat : Nat) : Int) := by
  show ((n : Int) % (2 ^ 8 : Int)) = _
  rw [UInt8.toNat_ofNat']
  omega
/-- Bytes put one by one. -/
def stpB (f : Nat → UInt8) (k : Nat) (s : List UInt8) : List UInt8 := (List.range k).foldl (fun t i => t.set i (f i)) s
theorem stpB_succ (f : Nat → UInt8) (k : Nat) (s : List UInt8) : stpB f (k + 1) s = (stpB f k s).set k (f k) := by simp [stpB, List.range_succ]
theorem stpB_len (f : Nat → UInt8) (k : Nat) (s : List UInt8) : (stpB f k s).length = s.length := by
  induction k with
  | zero => rfl
  | succ k ih => rw [stpB_succ, List.length_set, ih]
theorem stpB_eq (f : Nat → UInt8) (s : List UInt8) (k : Nat) (h : k ≤ s.length) : stpB f k s = (List.range k).map f ++ s.drop k := by
  induction k with
  | zero => rfl
  | succ k ih =>
    rw [stpB_succ, ih (by omega), List.set_append, if_neg (by simp), List.length_map, List.length_range, Nat.sub_self, List.range_succ, List.map_append]
    obtain ⟨x, r, hr⟩ : ∃ x r, s.drop k = x :: r := by
      cases hd : s.drop k with
      | nil => have := congrArg List.length hd; rw [List.length_drop] at this; simp at this; omega
      | cons x r => exact ⟨x, r, rfl⟩
    have h2 : s.drop (k + 1) = r := by rw [← List.drop_drop, hr]; rfl
    rw [hr, h2]; simp
theorem stpB_all (f : Nat → UInt8) (s : List UInt8) (n : Nat) (h : s.length = n) : stpB f n s = (List.range n).map f := by
  rw [stpB_eq f s n (by omega), List.drop_of_length_le (by omega), List.append_nil]
def lenOf : Value → Nat
  | .slice _ n _ => n
  | _ => 0
theorem row_len {w : World} {e : TypeId} {s n : Nat} {v : Value} {xs : List Value} (h : Row w e s v n xs) : lenOf v = n := by
  obtain ⟨_, ⟨rfl, rfl⟩ | ⟨g, cap, cur, rfl, _⟩⟩ := h <;> rfl
theorem exec_len_row {P : Program} {o : Oper} {ρ : Operand → Value} {w : World} (x : Operand) (t e : TypeId) (ho : o.op = .call { callee := .builtin .len, args := #[x], argTypes := #[t] }) (ht : P.underlying t = some (.slice e)) {v : Value} (hx : ρ x = v) {e' : TypeId} {s n : Nat} {xs : List Value} (hr : Row w e' s v n xs) :
    (execOp ρ o).run P w = .ok (.value (.int .i64 (n : Int))) w := by
  obtain ⟨_, ⟨rfl, rfl⟩ | ⟨g, cap, cur, rfl, _⟩⟩ := hr
  · exact exec_len x t e ho ht none 0 0 hx
  · exact exec_len x t e ho ht _ n cap hx
theorem row_of_block {w : World} {g n : Nat} {cs : Array Value} {T : TypeId} (h : w.heap[g]? = some (.cells cs T (0, 0))) (hn : cs.size = n) (hm : n ≤ maxLen) : Row w T 1 (.slice (some ⟨g, 0, none⟩) n n) n cs.toList :=
  ⟨by simp [hn], .inr ⟨g, n, cs, rfl, Nat.zero_le _, h, Nat.le_refl _, hm, by omega, by subst hn; rw [Nat.mul_one]; exact List.take_of_length_le (by simp)⟩⟩
theorem row_open {w : World} {e : TypeId} {v : Value} {n : Nat} {xs : List Value} (h : Row w e 1 v n xs) (hn : 0 < n) : ∃ g cap rest, v = .slice (some ⟨g, 0, none⟩) n cap ∧ w.heap[g]? = some (.cells (xs ++ rest).toArray e (0, 0)) ∧ n ≤ cap ∧ cap ≤ maxLen := by
  obtain ⟨_, ⟨_, h0⟩ | ⟨g, cap, cur, rfl, _, hg, hc, hm, _, hx⟩⟩ := h
  · omega
  · refine ⟨g, cap, cur.toList.drop n, rfl, ?_, hc, hm⟩
    rw [hg, ← hx, Nat.mul_one, List.take_append_drop]
theorem lt_meas {a b x y : Nat} (ha : a = x) (hb : b = y) (h : x < y) : a < b := by omega
end Go.Own
namespace Go.Proofs.YtpflmldmbpnllaaDoor
theorem u8_infoK : (Tryd.prog.info? 5).map (fun i => (i.zero, i.size, i.bytes)) = some (some (.int .u8 0), 1, 1) := by kernel_rfl
end Go.Proofs.YtpflmldmbpnllaaDoor
