/-
  Keccak: in whatever pieces bytes come, their hash is one (printed by kec21.py). Conditions: none.
-/
import Derived.Test.YtolbdhgclcemlaaKecY
import Derived.Test.YtolbdhgclcemlaaKecZ
import Derived.Test.YtolbdhgclcemlaaKecL
namespace Go.Proofs.Ytolbdhgclcemlaa
open Go Go.RowKit Go.Own Go.Shelf
theorem HashAt.off {w w' : World} {M : Nat → Prop} {b p : Nat} {l : List UInt8} (h : HashAt w b p l) (k : Keeps M w w') (hm : ∀ j, M j → j ≠ b ∧ j ≠ p) : HashAt w' b p l := h.keeps k (fun e => (hm _ e).1 rfl) (fun e => (hm _ e).2 rfl)
theorem HashAt.keepsRow {w w' : World} {b p n : Nat} {l : List UInt8} {v : Value} {xs : List Value} (h : HashAt w b p l) (k : Keeps (fun j => v.ownBlock = some j) w w') (hv : Row w 5 1 v n xs) : HashAt w' b p l :=
  h.keeps k (Row.ne hv h.cell (by decide)) (Row.ne hv h.sp (by decide))
theorem HashAt.bp {w : World} {b p : Nat} {l : List UInt8} (h : HashAt w b p l) : b < w.heap.size ∧ p < w.heap.size := ⟨lt_of_block h.cell, lt_of_block h.sp⟩
theorem HashAt.offH {w w' : World} {g b p : Nat} {l : List UInt8} {cs : Array Value} {fr : Nat × Nat} (h : HashAt w b p l) (k : Keeps (One g) w w') (hg : w.heap[g]? = some (.cells cs 29 fr)) : HashAt w' b p l :=
  h.off k fun j e => by
    unfold Own.One at e; subst e
    refine ⟨fun e => ?_, fun e => ?_⟩
    · subst e; have := h.cell; rw [hg] at this; simp only [Option.some.injEq, Obj.cells.injEq] at this; exact absurd this.2.1 (by decide)
    · subst e; have := h.sp; unfold SpAt at this; rw [hg] at this; simp only [Option.some.injEq, Obj.cells.injEq] at this; exact absurd this.2.1 (by decide)
theorem row_offH {w w' : World} {g n : Nat} {v : Value} {xs : List Value} {cs : Array Value} {fr : Nat × Nat} (h : Row w 5 1 v n xs) (k : Keeps (One g) w w') (hg : w.heap[g]? = some (.cells cs 29 fr)) : Row w' 5 1 v n xs :=
  h.keeps k fun j hj e => by unfold Own.One at e; subst e; exact Row.ne h hg (by decide) hj
theorem exec_len_rowW {P : Program} {o : Oper} {ρ : Operand → Value} {w0 w : World} (x : Operand) (t e : TypeId) (ho : o.op = .call { callee := .builtin .len, args := #[x], argTypes := #[t] }) (ht : P.underlying t = some (.slice e)) {v : Value} (hx : ρ x = v) {e' : TypeId} {s n : Nat} {xs : List Value} (hr : Row w0 e' s v n xs) :
    (execOp ρ o).run P w = .ok (.value (.int .i64 (n : Int))) w := by
  obtain ⟨_, ⟨rfl, rfl⟩ | ⟨g, cap, cur, rfl, _⟩⟩ := hr
  · exact exec_len x t e ho ht none 0 0 hx
  · exact exec_len x t e ho ht _ n cap hx
theorem pick_at (x : Int) (n : Nat) (w : World) (hx : -9223372036854775808 ≤ x ∧ x ≤ 9223372036854775807) (hn : n + 1 ≤ 9223372036854775807) : Calls Try.prog 16 #[.int .i64 x, .int .i64 ((n + 1 : Nat) : Int)] w fun e w' => ∃ tn : Nat, tn ≤ n ∧ e = .returned (.int .i64 ((tn : Nat) : Int)) ∧ w = w' :=
  (pick_ok x ((n + 1 : Nat) : Int) w hx (by omega)).mono fun e w' ⟨h1, h2⟩ => by
    rw [if_neg (by omega)] at h1
    have h3 := Int.emod_nonneg x (show ((n + 1 : Nat) : Int) ≠ 0 by omega)
    have h4 := Int.emod_lt_of_pos x (show (0 : Int) < ((n + 1 : Nat) : Int) by omega)
    exact ⟨(x % ((n + 1 : Nat) : Int)).toNat, by omega, by rw [h1, Int.toNat_of_nonneg h3], h2⟩
theorem kHWrite_any (b p : Nat) (l x : List UInt8) (v : Value) (w : World) (h : HashAt w b p l) (hx : BytesAt w v x) (hA : 0 < x.length → ∀ j, v.ownBlock = some j → j ≠ p) (hl : l.length + x.length ≤ 9000000000000000000) :
    Calls Try.prog 11 #[.pointer (some ⟨b, 0, none⟩), v] w fun e w' => e = .returned (.int .i64 0) ∧ HashAt w' b p (l ++ x) ∧ Keeps (One p) w w' := by
  obtain ⟨A, cap, rfl⟩ := hx.len; exact kHWrite_ok b p l x A cap w h hx hA hl
theorem cutV_own {A : Option Addr} {n cap k j : Nat} (h : (cutV A n cap k).ownBlock = some j) : (Value.slice A n cap).ownBlock = some j := by
  unfold cutV at h
  cases A with
  | none => by_cases hc : cap = k <;> simp [hc, Value.ownBlock] at h
  | some a =>
    have e : (a.add k).block = a.block := by unfold Addr.add; split <;> rfl
    by_cases hc : cap = k <;> simpa [hc, Value.ownBlock, e] using h

theorem _root_.Go.Own.IntsAt.keepsB {M : Nat → Prop} {w0 w w' : World} {v : Value} {l : List Int} (h0 : IntsAt w0 v l) (h : IntsAt w v l) (k : Keeps M w w') (hM : ∀ j, j < w0.heap.size → ¬ M j) : IntsAt w' v l :=
  ⟨h.len, fun i x hi => by
    obtain ⟨_, _, b0, o0, c0, e0, hb0, _⟩ := h0.at_ i x hi
    obtain ⟨h1, h2, b, o, cap, e, hb, hc⟩ := h.at_ i x hi
    have e1 := e0.symm.trans e
    simp only [Value.slice.injEq, Option.some.injEq, Addr.mk.injEq, and_true, true_and] at e1
    obtain ⟨⟨rfl, rfl⟩, _⟩ := e1
    exact ⟨h1, h2, _, _, cap, e, Nat.lt_of_lt_of_le hb k.size, (k.cell hb (hM _ hb0)).trans hc⟩⟩
theorem _root_.Go.Own.IntsAt.open_ {w : World} {A : Option Addr} {cap : Nat} {l : List Int} (h : IntsAt w (.slice A l.length cap) l) (k : Nat) (hk : k < l.length) :
    ∃ q b o c, l[k]? = some q ∧ (-9223372036854775808 ≤ q ∧ q ≤ 9223372036854775807) ∧ Value.slice A l.length cap = .slice (some ⟨b, o, none⟩) l.length c := by
  obtain ⟨h1, h2, b, o, c, e, _, _⟩ := h.at_ k _ (List.getElem?_eq_getElem hk)
  exact ⟨_, b, o, c, List.getElem?_eq_getElem hk, ⟨h1, h2⟩, e⟩
theorem _root_.Go.Own.IntsAt.cell {w : World} {v : Value} {l : List Int} (h : IntsAt w v l) {k : Nat} {q : Int} (hq : l[k]? = some q) {b o n c : Nat} (hv : v = .slice (some ⟨b, o, none⟩) n c) : w.cell? ⟨b, o + k, none⟩ = some (.int .i64 q) := by
  obtain ⟨_, _, b', o', c', e, _, hc⟩ := h.at_ k q hq
  rw [hv] at e
  simp only [Value.slice.injEq, Option.some.injEq, Addr.mk.injEq, and_true] at e
  obtain ⟨⟨rfl, rfl⟩, _, _⟩ := e
  exact hc
theorem exec_slice_lh {P : Program} {o : Oper} {ρ : Operand → Value} {w : World} (t : TypeId) (x y z : Operand) (ho : o.op = .slice t x (some y) (some z) none) (A : Option Addr) (n cap : Nat) (hx : ρ x = .slice A n cap) (kd : IntKind) (k h : Nat) (hy : ρ y = .int .i64 (k : Int)) (hz : ρ z = .int .i64 (h : Int)) (e : TypeId) (hu : P.underlying t = some (.slice e))
    (hs : (P.info? e).map (·.size) = some 1) (hk : k ≤ h) (hh : h ≤ cap) : (execOp ρ o).run P w = .ok (.value (cutV A h cap k)) w := by
  obtain ⟨i, hi, h1⟩ := Option.map_eq_some_iff.1 hs
  have h2 : (0 : Int) ≤ (k : Int) ∧ (k : Int) ≤ (((h : Int).toNat : Nat) : Int) := by omega
  have h3 : (0 : Int) ≤ (h : Int) ∧ (h : Int) ≤ (cap : Int) := by omega
  unfold execOp
  simp only [ho, hx, hy, hz, Option.map_some, Option.map_none, Instr.sliceAt, Sem.run_bind, run_underlying hu, Instr.slice, Instr.sliceBounds, Instr.sliceBound, asIntOf, Sem.run_pure, Result.andThen_ok, if_pos h2, if_pos h3]
  rw [show (sizeOf e).run P w = .ok 1 w by simp [go_sem, sizeOf, typeInfo, hi, h1]]
  simp only [Result.andThen_ok, Int.toNat_natCast, Nat.mul_one]
  rfl
theorem cutV_own2 {A : Option Addr} {n n' cap cap' k j : Nat} (h : (cutV A n cap k).ownBlock = some j) : (Value.slice A n' cap').ownBlock = some j := by
  have := cutV_own h; cases A <;> simp [Value.ownBlock] at this ⊢ <;> exact this
theorem take_piece {x : List UInt8} {a t : Nat} (h : a ≤ t) : x.take a ++ (x.take t).drop a = x.take t := by
  conv => rhs; rw [← List.take_append_drop a (x.take t)]
  rw [List.take_take, Nat.min_eq_left h]
theorem kSum_any (v : Value) (x : List UInt8) (w : World) (hx : BytesAt w v x) (hl : x.length ≤ 9000000000000000000) : Calls Try.prog 24 #[v] w fun e w' => e = .returned (.agg (B (Kec.sum x)).toArray) ∧ Keeps Nob w w' := by
  obtain ⟨A, cap, rfl⟩ := hx.len; exact kSum_ok x A cap w hx hl
def ahead (n : Nat) : List UInt8 := [7, UInt8.ofNat (n % 256), UInt8.ofNat (n / 256), 0, 0, 0, 0, 0, 0]
theorem join7 (x : List UInt8) (h : x.length ≤ 500) : Kec.join 7 [x] = Kec.sum (ahead x.length ++ x) := by
  unfold Kec.join
  refine congrArg Kec.sum ?_
  have e : Kec.eight x.length = [UInt8.ofNat (x.length % 256), UInt8.ofNat (x.length / 256), 0, 0, 0, 0, 0, 0] := by
    have q : ∀ i, 2 ≤ i → x.length / 256 ^ i = 0 := fun i hi => Nat.div_eq_of_lt (Nat.lt_of_lt_of_le (by omega) (Nat.pow_le_pow_right (by decide : 0 < 256) hi))
    have e0 : UInt8.ofNat x.length = UInt8.ofNat (x.length % 256) := by
      apply UInt8.toNat_inj.1; simp
    have : List.range 8 = [0, 1, 2, 3, 4, 5, 6, 7] := rfl
    simp only [Kec.eight, this, List.map_cons, List.map_nil, Nat.pow_zero, Nat.div_one, Nat.pow_one, q 2 (by omega), q 3 (by omega), q 4 (by omega), q 5 (by omega), q 6 (by omega), q 7 (by omega), e0]
    rfl
  simp [ahead, e]
theorem kJoin7 (v : Value) (us : List Value) (x : List UInt8) (w : World) (h : ListsAt w v us [x]) (hx : x.length ≤ 500) : Calls Try.prog 25 #[.int .u8 7, v] w fun e w' => e = .returned (.agg (B (Kec.sum (ahead x.length ++ x))).toArray) ∧ Keeps Nob w w' := by
  obtain ⟨A, cap, rfl, _⟩ := h.form
  have := kJoin_ok 7 A cap us [x] w h (by simp [tall, tot]; omega) (by simp)
  rwa [join7 x hx] at this
theorem one_list {w : World} {g : Nat} {u : Value} {x : List UInt8} (h : w.heap[g]? = some (.cells #[u] 22 (0, 0))) (hx : BytesAt w u x) : ListsAt w (.slice (some ⟨g, 0, none⟩) 1 1) [u] [x] :=
  row_lists (n := 1) (row_of_block h rfl (by decide)) rfl fun k y l hy hl => by
    cases k with
    | zero => simp at hy hl; subst hy; subst hl; exact hx
    | succ k => simp at hy

theorem row_ahead {w : World} {t : TypeId} {v : Value} {x : List UInt8} (h : Row w t 1 v (9 + x.length) (B (ahead x.length) ++ B x)) : BytesAt w v (ahead x.length ++ x) := by
  refine Row.bytes (e := t) ?_
  rw [B_append, List.length_append, show (ahead x.length).length = 9 from rfl]; exact h
noncomputable def part_KeccakWhole (n : Nat) : Code := partOf Try.f9 n
noncomputable abbrev o_KeccakWhole (n k : Nat) : Oper := (opsAt (part_KeccakWhole n)).getD k default
set_option maxRecDepth 100000 in
set_option maxHeartbeats 4000000 in
theorem whole_b (A0 A : Option Addr) (cap0 cap : Nat) (x : List UInt8) (ls : List Int) (w : World) (hx : BytesAt w (.slice A0 x.length cap0) x) (h0 : IntsAt w (.slice A ls.length cap) ls) (hb : 500 < x.length) :
    Calls Try.prog 9 #[.slice A0 x.length cap0, .slice A ls.length cap] w (fun e w' => e = .returned (.bool true) ∧ Keeps Nob w w') := by
  obtain ⟨i0, hi0, hz0, hz1, hz2⟩ := info_parts u8_info
  have K0 : Keeps Nob w w := Keeps.refl _ _
  refine sy_enter (part_KeccakWhole 1) ⟨#[.slice A0 x.length cap0, .slice A ls.length cap, undef, undef, undef, undef, undef, undef, undef, undef, undef, undef, undef, undef, undef, undef, undef, undef, undef, undef, undef, undef, undef, undef, undef, undef, undef, undef, undef, undef, undef, undef, undef, undef, undef, undef, undef, undef, undef, undef, undef, undef, undef, undef, undef, undef, undef, undef, undef, undef, undef, undef, undef, undef, undef, undef, undef, undef, undef, undef, undef, undef, undef, undef, undef, undef, undef, undef, undef, undef, undef, undef, undef, undef, undef, undef, undef, undef, undef, undef, undef, undef, undef, undef, undef, undef, undef, undef, undef, undef, undef, undef, undef, undef, undef, undef, undef, undef, undef, undef, undef, undef, undef, undef, undef, undef, undef, undef, undef, undef, undef, undef, undef, undef, undef, undef, undef, undef, undef, undef, undef, undef, undef, undef, undef, undef, undef], []⟩ Try.func9 (by kernel_rfl) (by kernel_rfl) ?_
  refine sy_sq (part_KeccakWhole 2) (part_KeccakWhole 3) ?_
  refine sy_reg ?_
  refine rg_plain 0 (opsAt (part_KeccakWhole 2)) [0] (by kernel_rfl) (by kernel_rfl) ?_
  refine ps_k (o_KeccakWhole 2 0) (.bool false) ?_
  refine ps_end ?_
  refine sy_a ⟨#[.slice A0 x.length cap0, .slice A ls.length cap, undef, undef, .bool false, undef, undef, undef, undef, undef, undef, undef, undef, undef, undef, undef, undef, undef, undef, undef, undef, undef, undef, undef, undef, undef, undef, undef, undef, undef, undef, undef, undef, undef, undef, undef, undef, undef, undef, undef, undef, undef, undef, undef, undef, undef, undef, undef, undef, undef, undef, undef, undef, undef, undef, undef, undef, undef, undef, undef, undef, undef, undef, undef, undef, undef, undef, undef, undef, undef, undef, undef, undef, undef, undef, undef, undef, undef, undef, undef, undef, undef, undef, undef, undef, undef, undef, undef, undef, undef, undef, undef, undef, undef, undef, undef, undef, undef, undef, undef, undef, undef, undef, undef, undef, undef, undef, undef, undef, undef, undef, undef, undef, undef, undef, undef, undef, undef, undef, undef, undef, undef, undef, undef, undef, undef, undef], []⟩ ?_
  refine then_n ?_
  refine sy_sq (part_KeccakWhole 6) (part_KeccakWhole 7) ?_
  refine sy_reg ?_
  refine rg_plain 1 (opsAt (part_KeccakWhole 6)) [0, 1] (by kernel_rfl) (by kernel_rfl) ?_
  refine ps_call (o_KeccakWhole 6 0) 6 #[] (by kernel_rfl) (by kernel_rfl) (by kernel_rfl) (by kernel_rfl) (enters_of Try.func6 (by kernel_rfl) rfl) ((known_ok _).mono ?_)
  rintro e V1 ⟨rfl, kV1⟩
  refine ⟨_, rfl, ?_⟩
  have h2 : BytesAt V1 (.slice A0 x.length cap0) x := hx.keepsN kV1
  have h3 : IntsAt V1 (.slice A ls.length cap) ls := h0.keeps kV1
  have K4 : Keeps Nob w V1 := K0.then kV1 (fun _ _ x => x.elim)
  have z5 := kV1.size
  refine ps_k (o_KeccakWhole 6 1) (.bool true) ?_
  refine ps_end ?_
  refine sy_a ⟨#[.slice A0 x.length cap0, .slice A ls.length cap, undef, undef, .bool false, .bool true, undef, undef, undef, undef, undef, undef, undef, undef, undef, undef, .bool true, undef, undef, undef, undef, undef, undef, undef, undef, undef, undef, undef, undef, undef, undef, undef, undef, undef, undef, undef, undef, undef, undef, undef, undef, undef, undef, undef, undef, undef, undef, undef, undef, undef, undef, undef, undef, undef, undef, undef, undef, undef, undef, undef, undef, undef, undef, undef, undef, undef, undef, undef, undef, undef, undef, undef, undef, undef, undef, undef, undef, undef, undef, undef, undef, undef, undef, undef, undef, undef, undef, undef, undef, undef, undef, undef, undef, undef, undef, undef, undef, undef, undef, undef, undef, undef, undef, undef, undef, undef, undef, undef, undef, undef, undef, undef, undef, undef, undef, undef, undef, undef, undef, undef, undef, undef, undef, undef, undef, undef, undef], []⟩ ?_
  refine then_n ?_
  refine sy_sq (part_KeccakWhole 14) (part_KeccakWhole 15) ?_
  refine sy_sq (part_KeccakWhole 28) (part_KeccakWhole 29) ?_
  refine sy_reg ?_
  refine rg_plain 2 (opsAt (part_KeccakWhole 28)) [0, 1, 2, 3, 4, 5, 6, 7] (by kernel_rfl) (by kernel_rfl) ?_
  refine ps_k (o_KeccakWhole 28 0) (.slice A0 x.length cap0) ?_
  refine ps_p (o_KeccakWhole 28 1) (iN x.length) (exec_len (.tmp 17) 22 _ (by kernel_rfl) Try.underlying22 A0 x.length cap0 (by kernel_rfl)) ?_
  refine ps_p (o_KeccakWhole 28 2) (.bool true) (exec_cast (congrArg Value.bool (show (decide ((((x.length : Nat) : Int)) > ((500) : Int))) = true from by simp only [decide_eq_true_eq]; omega)) (by kernel_rfl)) ?_
  refine ps_k (o_KeccakWhole 28 3) (.bool true) ?_
  refine ps_no (o_KeccakWhole 28 4) (by kernel_rfl) (by kernel_rfl) ?_
  refine ps_no (o_KeccakWhole 28 5) (by kernel_rfl) (by kernel_rfl) ?_
  refine ps_no (o_KeccakWhole 28 6) (by kernel_rfl) (by kernel_rfl) ?_
  refine ps_k (o_KeccakWhole 28 7) (.bool true) ?_
  refine ps_end ?_
  refine sy_a ⟨#[.slice A0 x.length cap0, .slice A ls.length cap, undef, undef, .bool false, .bool true, undef, undef, undef, undef, undef, undef, undef, undef, undef, undef, .bool true, .slice A0 x.length cap0, iN x.length, .bool true, .bool true, undef, undef, undef, .bool true, undef, undef, undef, undef, undef, undef, undef, undef, undef, undef, undef, undef, undef, undef, undef, undef, undef, undef, undef, undef, undef, undef, undef, undef, undef, undef, undef, undef, undef, undef, undef, undef, undef, undef, undef, undef, undef, undef, undef, undef, undef, undef, undef, undef, undef, undef, undef, undef, undef, undef, undef, undef, undef, undef, undef, undef, undef, undef, undef, undef, undef, undef, undef, undef, undef, undef, undef, undef, undef, undef, undef, undef, undef, undef, undef, undef, undef, undef, undef, undef, undef, undef, undef, undef, undef, undef, undef, undef, undef, undef, undef, undef, undef, undef, undef, undef, undef, undef, undef, undef, undef, undef], []⟩ ?_
  refine then_n ?_
  refine sy_ys (.tmp 24) (part_KeccakWhole 58) (part_KeccakWhole 59) ?_
  refine sy_sq (part_KeccakWhole 116) (part_KeccakWhole 117) ?_
  refine sy_reg ?_
  refine rg_plain 3 (opsAt (part_KeccakWhole 116)) [0, 1] (by kernel_rfl) (by kernel_rfl) ?_
  refine ps_k (o_KeccakWhole 116 0) (.bool true) ?_
  refine ps_k (o_KeccakWhole 116 1) (.bool true) ?_
  refine ps_end ?_
  refine sy_a ⟨#[.slice A0 x.length cap0, .slice A ls.length cap, undef, undef, .bool true, .bool true, undef, undef, undef, undef, undef, undef, undef, undef, undef, undef, .bool true, .slice A0 x.length cap0, iN x.length, .bool true, .bool true, undef, undef, undef, .bool true, .bool true, undef, undef, undef, undef, undef, undef, undef, undef, undef, undef, undef, undef, undef, undef, undef, undef, undef, undef, undef, undef, undef, undef, undef, undef, undef, undef, undef, undef, undef, undef, undef, undef, undef, undef, undef, undef, undef, undef, undef, undef, undef, undef, undef, undef, undef, undef, undef, undef, undef, undef, undef, undef, undef, undef, undef, undef, undef, undef, undef, undef, undef, undef, undef, undef, undef, undef, undef, undef, undef, undef, undef, undef, undef, undef, undef, undef, undef, undef, undef, undef, undef, undef, undef, undef, undef, undef, undef, undef, undef, undef, undef, undef, undef, undef, undef, undef, undef, undef, undef, undef, undef], []⟩ ?_
  refine then_n ?_
  refine sy_ret (by kernel_rfl) ?_
  refine then_r ?_
  refine sy_out (.bool true) rfl (by kernel_rfl) ?_
  exact ⟨rfl, K4⟩
set_option maxRecDepth 100000 in
set_option maxHeartbeats 4000000 in
theorem whole_c (A0 A : Option Addr) (cap0 cap : Nat) (x : List UInt8) (ls : List Int) (w : World) (hx : BytesAt w (.slice A0 x.length cap0) x) (h0 : IntsAt w (.slice A ls.length cap) ls) (hb : x.length ≤ 500) (hc : 20 < ls.length) :
    Calls Try.prog 9 #[.slice A0 x.length cap0, .slice A ls.length cap] w (fun e w' => e = .returned (.bool true) ∧ Keeps Nob w w') := by
  obtain ⟨i0, hi0, hz0, hz1, hz2⟩ := info_parts u8_info
  have K0 : Keeps Nob w w := Keeps.refl _ _
  refine sy_enter (part_KeccakWhole 1) ⟨#[.slice A0 x.length cap0, .slice A ls.length cap, undef, undef, undef, undef, undef, undef, undef, undef, undef, undef, undef, undef, undef, undef, undef, undef, undef, undef, undef, undef, undef, undef, undef, undef, undef, undef, undef, undef, undef, undef, undef, undef, undef, undef, undef, undef, undef, undef, undef, undef, undef, undef, undef, undef, undef, undef, undef, undef, undef, undef, undef, undef, undef, undef, undef, undef, undef, undef, undef, undef, undef, undef, undef, undef, undef, undef, undef, undef, undef, undef, undef, undef, undef, undef, undef, undef, undef, undef, undef, undef, undef, undef, undef, undef, undef, undef, undef, undef, undef, undef, undef, undef, undef, undef, undef, undef, undef, undef, undef, undef, undef, undef, undef, undef, undef, undef, undef, undef, undef, undef, undef, undef, undef, undef, undef, undef, undef, undef, undef, undef, undef, undef, undef, undef, undef], []⟩ Try.func9 (by kernel_rfl) (by kernel_rfl) ?_
  refine sy_sq (part_KeccakWhole 2) (part_KeccakWhole 3) ?_
  refine sy_reg ?_
  refine rg_plain 0 (opsAt (part_KeccakWhole 2)) [0] (by kernel_rfl) (by kernel_rfl) ?_
  refine ps_k (o_KeccakWhole 2 0) (.bool false) ?_
  refine ps_end ?_
  refine sy_a ⟨#[.slice A0 x.length cap0, .slice A ls.length cap, undef, undef, .bool false, undef, undef, undef, undef, undef, undef, undef, undef, undef, undef, undef, undef, undef, undef, undef, undef, undef, undef, undef, undef, undef, undef, undef, undef, undef, undef, undef, undef, undef, undef, undef, undef, undef, undef, undef, undef, undef, undef, undef, undef, undef, undef, undef, undef, undef, undef, undef, undef, undef, undef, undef, undef, undef, undef, undef, undef, undef, undef, undef, undef, undef, undef, undef, undef, undef, undef, undef, undef, undef, undef, undef, undef, undef, undef, undef, undef, undef, undef, undef, undef, undef, undef, undef, undef, undef, undef, undef, undef, undef, undef, undef, undef, undef, undef, undef, undef, undef, undef, undef, undef, undef, undef, undef, undef, undef, undef, undef, undef, undef, undef, undef, undef, undef, undef, undef, undef, undef, undef, undef, undef, undef, undef], []⟩ ?_
  refine then_n ?_
  refine sy_sq (part_KeccakWhole 6) (part_KeccakWhole 7) ?_
  refine sy_reg ?_
  refine rg_plain 1 (opsAt (part_KeccakWhole 6)) [0, 1] (by kernel_rfl) (by kernel_rfl) ?_
  refine ps_call (o_KeccakWhole 6 0) 6 #[] (by kernel_rfl) (by kernel_rfl) (by kernel_rfl) (by kernel_rfl) (enters_of Try.func6 (by kernel_rfl) rfl) ((known_ok _).mono ?_)
  rintro e V1 ⟨rfl, kV1⟩
  refine ⟨_, rfl, ?_⟩
  have h2 : BytesAt V1 (.slice A0 x.length cap0) x := hx.keepsN kV1
  have h3 : IntsAt V1 (.slice A ls.length cap) ls := h0.keeps kV1
  have K4 : Keeps Nob w V1 := K0.then kV1 (fun _ _ x => x.elim)
  have z5 := kV1.size
  refine ps_k (o_KeccakWhole 6 1) (.bool true) ?_
  refine ps_end ?_
  refine sy_a ⟨#[.slice A0 x.length cap0, .slice A ls.length cap, undef, undef, .bool false, .bool true, undef, undef, undef, undef, undef, undef, undef, undef, undef, undef, .bool true, undef, undef, undef, undef, undef, undef, undef, undef, undef, undef, undef, undef, undef, undef, undef, undef, undef, undef, undef, undef, undef, undef, undef, undef, undef, undef, undef, undef, undef, undef, undef, undef, undef, undef, undef, undef, undef, undef, undef, undef, undef, undef, undef, undef, undef, undef, undef, undef, undef, undef, undef, undef, undef, undef, undef, undef, undef, undef, undef, undef, undef, undef, undef, undef, undef, undef, undef, undef, undef, undef, undef, undef, undef, undef, undef, undef, undef, undef, undef, undef, undef, undef, undef, undef, undef, undef, undef, undef, undef, undef, undef, undef, undef, undef, undef, undef, undef, undef, undef, undef, undef, undef, undef, undef, undef, undef, undef, undef, undef, undef], []⟩ ?_
  refine then_n ?_
  refine sy_sq (part_KeccakWhole 14) (part_KeccakWhole 15) ?_
  refine sy_sq (part_KeccakWhole 28) (part_KeccakWhole 29) ?_
  refine sy_reg ?_
  refine rg_plain 2 (opsAt (part_KeccakWhole 28)) [0, 1, 2, 3, 4, 5, 6, 7] (by kernel_rfl) (by kernel_rfl) ?_
  refine ps_k (o_KeccakWhole 28 0) (.slice A0 x.length cap0) ?_
  refine ps_p (o_KeccakWhole 28 1) (iN x.length) (exec_len (.tmp 17) 22 _ (by kernel_rfl) Try.underlying22 A0 x.length cap0 (by kernel_rfl)) ?_
  refine ps_p (o_KeccakWhole 28 2) (.bool false) (exec_cast (congrArg Value.bool (show (decide ((((x.length : Nat) : Int)) > ((500) : Int))) = false from by simp only [decide_eq_false_iff_not]; omega)) (by kernel_rfl)) ?_
  refine ps_k (o_KeccakWhole 28 3) (.bool false) ?_
  refine ps_k (o_KeccakWhole 28 4) (.slice A ls.length cap) ?_
  refine ps_p (o_KeccakWhole 28 5) (iN ls.length) (exec_len (.tmp 21) 58 _ (by kernel_rfl) Try.underlying58 A ls.length cap (by kernel_rfl)) ?_
  refine ps_p (o_KeccakWhole 28 6) (.bool true) (exec_cast (congrArg Value.bool (show (decide ((((ls.length : Nat) : Int)) > ((20) : Int))) = true from by simp only [decide_eq_true_eq]; omega)) (by kernel_rfl)) ?_
  refine ps_k (o_KeccakWhole 28 7) (.bool true) ?_
  refine ps_end ?_
  refine sy_a ⟨#[.slice A0 x.length cap0, .slice A ls.length cap, undef, undef, .bool false, .bool true, undef, undef, undef, undef, undef, undef, undef, undef, undef, undef, .bool true, .slice A0 x.length cap0, iN x.length, .bool false, .bool false, .slice A ls.length cap, iN ls.length, .bool true, .bool true, undef, undef, undef, undef, undef, undef, undef, undef, undef, undef, undef, undef, undef, undef, undef, undef, undef, undef, undef, undef, undef, undef, undef, undef, undef, undef, undef, undef, undef, undef, undef, undef, undef, undef, undef, undef, undef, undef, undef, undef, undef, undef, undef, undef, undef, undef, undef, undef, undef, undef, undef, undef, undef, undef, undef, undef, undef, undef, undef, undef, undef, undef, undef, undef, undef, undef, undef, undef, undef, undef, undef, undef, undef, undef, undef, undef, undef, undef, undef, undef, undef, undef, undef, undef, undef, undef, undef, undef, undef, undef, undef, undef, undef, undef, undef, undef, undef, undef, undef, undef, undef, undef], []⟩ ?_
  refine then_n ?_
  refine sy_ys (.tmp 24) (part_KeccakWhole 58) (part_KeccakWhole 59) ?_
  refine sy_sq (part_KeccakWhole 116) (part_KeccakWhole 117) ?_
  refine sy_reg ?_
  refine rg_plain 3 (opsAt (part_KeccakWhole 116)) [0, 1] (by kernel_rfl) (by kernel_rfl) ?_
  refine ps_k (o_KeccakWhole 116 0) (.bool true) ?_
  refine ps_k (o_KeccakWhole 116 1) (.bool true) ?_
  refine ps_end ?_
  refine sy_a ⟨#[.slice A0 x.length cap0, .slice A ls.length cap, undef, undef, .bool true, .bool true, undef, undef, undef, undef, undef, undef, undef, undef, undef, undef, .bool true, .slice A0 x.length cap0, iN x.length, .bool false, .bool false, .slice A ls.length cap, iN ls.length, .bool true, .bool true, .bool true, undef, undef, undef, undef, undef, undef, undef, undef, undef, undef, undef, undef, undef, undef, undef, undef, undef, undef, undef, undef, undef, undef, undef, undef, undef, undef, undef, undef, undef, undef, undef, undef, undef, undef, undef, undef, undef, undef, undef, undef, undef, undef, undef, undef, undef, undef, undef, undef, undef, undef, undef, undef, undef, undef, undef, undef, undef, undef, undef, undef, undef, undef, undef, undef, undef, undef, undef, undef, undef, undef, undef, undef, undef, undef, undef, undef, undef, undef, undef, undef, undef, undef, undef, undef, undef, undef, undef, undef, undef, undef, undef, undef, undef, undef, undef, undef, undef, undef, undef, undef, undef], []⟩ ?_
  refine then_n ?_
  refine sy_ret (by kernel_rfl) ?_
  refine then_r ?_
  refine sy_out (.bool true) rfl (by kernel_rfl) ?_
  exact ⟨rfl, K4⟩
set_option maxRecDepth 100000 in
set_option maxHeartbeats 4000000 in
theorem whole_main (A0 A : Option Addr) (cap0 cap : Nat) (x : List UInt8) (ls : List Int) (w : World) (hx : BytesAt w (.slice A0 x.length cap0) x) (h0 : IntsAt w (.slice A ls.length cap) ls) (hb : x.length ≤ 500) (hc : ls.length ≤ 20) :
    Calls Try.prog 9 #[.slice A0 x.length cap0, .slice A ls.length cap] w (fun e w' => e = .returned (.bool true) ∧ Keeps Nob w w') := by
  obtain ⟨i0, hi0, hz0, hz1, hz2⟩ := info_parts u8_info
  have hcap : x.length ≤ cap0 := by obtain ⟨A, c, e, h1, _⟩ := hx.form; simp only [Value.slice.injEq] at e; omega
  have K0 : Keeps Nob w w := Keeps.refl _ _
  refine sy_enter (part_KeccakWhole 1) ⟨#[.slice A0 x.length cap0, .slice A ls.length cap, undef, undef, undef, undef, undef, undef, undef, undef, undef, undef, undef, undef, undef, undef, undef, undef, undef, undef, undef, undef, undef, undef, undef, undef, undef, undef, undef, undef, undef, undef, undef, undef, undef, undef, undef, undef, undef, undef, undef, undef, undef, undef, undef, undef, undef, undef, undef, undef, undef, undef, undef, undef, undef, undef, undef, undef, undef, undef, undef, undef, undef, undef, undef, undef, undef, undef, undef, undef, undef, undef, undef, undef, undef, undef, undef, undef, undef, undef, undef, undef, undef, undef, undef, undef, undef, undef, undef, undef, undef, undef, undef, undef, undef, undef, undef, undef, undef, undef, undef, undef, undef, undef, undef, undef, undef, undef, undef, undef, undef, undef, undef, undef, undef, undef, undef, undef, undef, undef, undef, undef, undef, undef, undef, undef, undef], []⟩ Try.func9 (by kernel_rfl) (by kernel_rfl) ?_
  refine sy_sq (part_KeccakWhole 2) (part_KeccakWhole 3) ?_
  refine sy_reg ?_
  refine rg_plain 0 (opsAt (part_KeccakWhole 2)) [0] (by kernel_rfl) (by kernel_rfl) ?_
  refine ps_k (o_KeccakWhole 2 0) (.bool false) ?_
  refine ps_end ?_
  refine sy_a ⟨#[.slice A0 x.length cap0, .slice A ls.length cap, undef, undef, .bool false, undef, undef, undef, undef, undef, undef, undef, undef, undef, undef, undef, undef, undef, undef, undef, undef, undef, undef, undef, undef, undef, undef, undef, undef, undef, undef, undef, undef, undef, undef, undef, undef, undef, undef, undef, undef, undef, undef, undef, undef, undef, undef, undef, undef, undef, undef, undef, undef, undef, undef, undef, undef, undef, undef, undef, undef, undef, undef, undef, undef, undef, undef, undef, undef, undef, undef, undef, undef, undef, undef, undef, undef, undef, undef, undef, undef, undef, undef, undef, undef, undef, undef, undef, undef, undef, undef, undef, undef, undef, undef, undef, undef, undef, undef, undef, undef, undef, undef, undef, undef, undef, undef, undef, undef, undef, undef, undef, undef, undef, undef, undef, undef, undef, undef, undef, undef, undef, undef, undef, undef, undef, undef], []⟩ ?_
  refine then_n ?_
  refine sy_sq (part_KeccakWhole 6) (part_KeccakWhole 7) ?_
  refine sy_reg ?_
  refine rg_plain 1 (opsAt (part_KeccakWhole 6)) [0, 1] (by kernel_rfl) (by kernel_rfl) ?_
  refine ps_call (o_KeccakWhole 6 0) 6 #[] (by kernel_rfl) (by kernel_rfl) (by kernel_rfl) (by kernel_rfl) (enters_of Try.func6 (by kernel_rfl) rfl) ((known_ok _).mono ?_)
  rintro e V1 ⟨rfl, kV1⟩
  refine ⟨_, rfl, ?_⟩
  have h2 : BytesAt V1 (.slice A0 x.length cap0) x := hx.keepsN kV1
  have h3 : IntsAt V1 (.slice A ls.length cap) ls := h0.keeps kV1
  have K4 : Keeps Nob w V1 := K0.then kV1 (fun _ _ x => x.elim)
  have z5 := kV1.size
  refine ps_k (o_KeccakWhole 6 1) (.bool true) ?_
  refine ps_end ?_
  refine sy_a ⟨#[.slice A0 x.length cap0, .slice A ls.length cap, undef, undef, .bool false, .bool true, undef, undef, undef, undef, undef, undef, undef, undef, undef, undef, .bool true, undef, undef, undef, undef, undef, undef, undef, undef, undef, undef, undef, undef, undef, undef, undef, undef, undef, undef, undef, undef, undef, undef, undef, undef, undef, undef, undef, undef, undef, undef, undef, undef, undef, undef, undef, undef, undef, undef, undef, undef, undef, undef, undef, undef, undef, undef, undef, undef, undef, undef, undef, undef, undef, undef, undef, undef, undef, undef, undef, undef, undef, undef, undef, undef, undef, undef, undef, undef, undef, undef, undef, undef, undef, undef, undef, undef, undef, undef, undef, undef, undef, undef, undef, undef, undef, undef, undef, undef, undef, undef, undef, undef, undef, undef, undef, undef, undef, undef, undef, undef, undef, undef, undef, undef, undef, undef, undef, undef, undef, undef], []⟩ ?_
  refine then_n ?_
  refine sy_sq (part_KeccakWhole 14) (part_KeccakWhole 15) ?_
  refine sy_sq (part_KeccakWhole 28) (part_KeccakWhole 29) ?_
  refine sy_reg ?_
  refine rg_plain 2 (opsAt (part_KeccakWhole 28)) [0, 1, 2, 3, 4, 5, 6, 7] (by kernel_rfl) (by kernel_rfl) ?_
  refine ps_k (o_KeccakWhole 28 0) (.slice A0 x.length cap0) ?_
  refine ps_p (o_KeccakWhole 28 1) (iN x.length) (exec_len (.tmp 17) 22 _ (by kernel_rfl) Try.underlying22 A0 x.length cap0 (by kernel_rfl)) ?_
  refine ps_p (o_KeccakWhole 28 2) (.bool false) (exec_cast (congrArg Value.bool (show (decide ((((x.length : Nat) : Int)) > ((500) : Int))) = false from by simp only [decide_eq_false_iff_not]; omega)) (by kernel_rfl)) ?_
  refine ps_k (o_KeccakWhole 28 3) (.bool false) ?_
  refine ps_k (o_KeccakWhole 28 4) (.slice A ls.length cap) ?_
  refine ps_p (o_KeccakWhole 28 5) (iN ls.length) (exec_len (.tmp 21) 58 _ (by kernel_rfl) Try.underlying58 A ls.length cap (by kernel_rfl)) ?_
  refine ps_p (o_KeccakWhole 28 6) (.bool false) (exec_cast (congrArg Value.bool (show (decide ((((ls.length : Nat) : Int)) > ((20) : Int))) = false from by simp only [decide_eq_false_iff_not]; omega)) (by kernel_rfl)) ?_
  refine ps_k (o_KeccakWhole 28 7) (.bool false) ?_
  refine ps_end ?_
  refine sy_a ⟨#[.slice A0 x.length cap0, .slice A ls.length cap, undef, undef, .bool false, .bool true, undef, undef, undef, undef, undef, undef, undef, undef, undef, undef, .bool true, .slice A0 x.length cap0, iN x.length, .bool false, .bool false, .slice A ls.length cap, iN ls.length, .bool false, .bool false, undef, undef, undef, undef, undef, undef, undef, undef, undef, undef, undef, undef, undef, undef, undef, undef, undef, undef, undef, undef, undef, undef, undef, undef, undef, undef, undef, undef, undef, undef, undef, undef, undef, undef, undef, undef, undef, undef, undef, undef, undef, undef, undef, undef, undef, undef, undef, undef, undef, undef, undef, undef, undef, undef, undef, undef, undef, undef, undef, undef, undef, undef, undef, undef, undef, undef, undef, undef, undef, undef, undef, undef, undef, undef, undef, undef, undef, undef, undef, undef, undef, undef, undef, undef, undef, undef, undef, undef, undef, undef, undef, undef, undef, undef, undef, undef, undef, undef, undef, undef, undef, undef], []⟩ ?_
  refine then_n ?_
  refine sy_n (.tmp 24) (part_KeccakWhole 58) (part_KeccakWhole 59) ?_
  refine sy_sk ?_
  refine then_n ?_
  refine sy_sq (part_KeccakWhole 30) (part_KeccakWhole 31) ?_
  refine sy_reg ?_
  refine rg_plain 4 (opsAt (part_KeccakWhole 30)) [0, 1, 2, 3] (by kernel_rfl) (by kernel_rfl) ?_
  refine ps_call (o_KeccakWhole 30 0) 17 #[] (by kernel_rfl) (by kernel_rfl) (by kernel_rfl) (by kernel_rfl) (enters_of Try.func17 (by kernel_rfl) rfl) ((kNew_ok _).mono ?_)
  rintro e V6 ⟨b, p, rfl, hV6, hb0, hp0, kV6⟩
  have hbn := hV6.bp
  refine ⟨_, rfl, ?_⟩
  have h7 : BytesAt V6 (.slice A0 x.length cap0) x := h2.keepsN kV6
  have h8 : IntsAt V6 (.slice A ls.length cap) ls := h3.keeps kV6
  have K9 : Keeps Nob w V6 := K4.then kV6 (fun _ _ x => x.elim)
  have z10 := kV6.size
  refine ps_call (o_KeccakWhole 30 1) 17 #[] (by kernel_rfl) (by kernel_rfl) (by kernel_rfl) (by kernel_rfl) (enters_of Try.func17 (by kernel_rfl) rfl) ((kNew_ok _).mono ?_)
  rintro e V11 ⟨b', p', rfl, hV11, hb0', hp0', kV11⟩
  have hbn' := hV11.bp
  have hbo := hV6.bp
  refine ⟨_, rfl, ?_⟩
  have h12 : BytesAt V11 (.slice A0 x.length cap0) x := h7.keepsN kV11
  have h13 : IntsAt V11 (.slice A ls.length cap) ls := h8.keeps kV11
  have h14 : HashAt V11 b p (x.take 0) := hV6.keepsN kV11
  have K15 : Keeps Nob w V11 := K9.then kV11 (fun _ _ x => x.elim)
  have z16 := kV11.size
  refine ps_k (o_KeccakWhole 30 2) (pT b 0) ?_
  refine ps_k (o_KeccakWhole 30 3) (pT b' 0) ?_
  refine ps_end ?_
  refine sy_a ⟨#[.slice A0 x.length cap0, .slice A ls.length cap, undef, undef, .bool false, .bool true, pT b 0, pT b' 0, undef, undef, undef, undef, undef, undef, undef, undef, .bool true, .slice A0 x.length cap0, iN x.length, .bool false, .bool false, .slice A ls.length cap, iN ls.length, .bool false, .bool false, undef, pT b 0, pT b' 0, undef, undef, undef, undef, undef, undef, undef, undef, undef, undef, undef, undef, undef, undef, undef, undef, undef, undef, undef, undef, undef, undef, undef, undef, undef, undef, undef, undef, undef, undef, undef, undef, undef, undef, undef, undef, undef, undef, undef, undef, undef, undef, undef, undef, undef, undef, undef, undef, undef, undef, undef, undef, undef, undef, undef, undef, undef, undef, undef, undef, undef, undef, undef, undef, undef, undef, undef, undef, undef, undef, undef, undef, undef, undef, undef, undef, undef, undef, undef, undef, undef, undef, undef, undef, undef, undef, undef, undef, undef, undef, undef, undef, undef, undef, undef, undef, undef, undef, undef], []⟩ ?_
  refine then_n ?_
  refine sy_sq (part_KeccakWhole 62) (part_KeccakWhole 63) ?_
  refine sy_reg ?_
  refine rg_plain 5 (opsAt (part_KeccakWhole 62)) [0] (by kernel_rfl) (by kernel_rfl) ?_
  refine ps_k (o_KeccakWhole 62 0) (.int .i64 0) ?_
  refine ps_end ?_
  refine sy_a ⟨#[.slice A0 x.length cap0, .slice A ls.length cap, undef, undef, .bool false, .bool true, pT b 0, pT b' 0, .int .i64 0, undef, undef, undef, undef, undef, undef, undef, .bool true, .slice A0 x.length cap0, iN x.length, .bool false, .bool false, .slice A ls.length cap, iN ls.length, .bool false, .bool false, undef, pT b 0, pT b' 0, undef, undef, undef, undef, undef, undef, undef, undef, undef, undef, undef, undef, undef, undef, undef, undef, undef, undef, undef, undef, undef, undef, undef, undef, undef, undef, undef, undef, undef, undef, undef, undef, undef, undef, undef, undef, undef, undef, undef, undef, undef, undef, undef, undef, undef, undef, undef, undef, undef, undef, undef, undef, undef, undef, undef, undef, undef, undef, undef, undef, undef, undef, undef, undef, undef, undef, undef, undef, undef, undef, undef, undef, undef, undef, undef, undef, undef, undef, undef, undef, undef, undef, undef, undef, undef, undef, undef, undef, undef, undef, undef, undef, undef, undef, undef, undef, undef, undef, undef], []⟩ ?_
  refine then_n ?_
  refine sy_sq (part_KeccakWhole 126) (part_KeccakWhole 127) ?_
  refine sy_sq (part_KeccakWhole 252) (part_KeccakWhole 253) ?_
  refine sy_reg ?_
  refine rg_plain 6 (opsAt (part_KeccakWhole 252)) [0] (by kernel_rfl) (by kernel_rfl) ?_
  refine ps_k (o_KeccakWhole 252 0) (.int .i64 0) ?_
  refine ps_end ?_
  refine sy_a ⟨#[.slice A0 x.length cap0, .slice A ls.length cap, undef, undef, .bool false, .bool true, pT b 0, pT b' 0, .int .i64 0, .int .i64 0, undef, undef, undef, undef, undef, undef, .bool true, .slice A0 x.length cap0, iN x.length, .bool false, .bool false, .slice A ls.length cap, iN ls.length, .bool false, .bool false, undef, pT b 0, pT b' 0, undef, undef, undef, undef, undef, undef, undef, undef, undef, undef, undef, undef, undef, undef, undef, undef, undef, undef, undef, undef, undef, undef, undef, undef, undef, undef, undef, undef, undef, undef, undef, undef, undef, undef, undef, undef, undef, undef, undef, undef, undef, undef, undef, undef, undef, undef, undef, undef, undef, undef, undef, undef, undef, undef, undef, undef, undef, undef, undef, undef, undef, undef, undef, undef, undef, undef, undef, undef, undef, undef, undef, undef, undef, undef, undef, undef, undef, undef, undef, undef, undef, undef, undef, undef, undef, undef, undef, undef, undef, undef, undef, undef, undef, undef, undef, undef, undef, undef, undef], []⟩ ?_
  refine then_n ?_
  refine sy_bk 0 (part_KeccakWhole 506) ?_
  refine sy_loop (part_KeccakWhole 1012) (fun a V => ∃ (i : Nat) (a0 : Nat) (u4 u10 u28 u29 u30 u31 u32 u33 u34 u35 u36 u37 u38 u39 u40 u41 u42 u43 u44 u45 u46 u47 u48 u49 u50 u51 u52 u53 u54 u55 u56 u57 u58 u59 u60 u61 u62 u63 u64 u65 u66 u67 u68 u69 u70 : Value), (a = ⟨#[.slice A0 x.length cap0, .slice A ls.length cap, undef, undef, u4, .bool true, pT b 0, pT b' 0, iN a0, iN i, u10, undef, undef, undef, undef, undef, .bool true, .slice A0 x.length cap0, iN x.length, .bool false, .bool false, .slice A ls.length cap, iN ls.length, .bool false, .bool false, undef, pT b 0, pT b' 0, u28, u29, u30, u31, u32, u33, u34, u35, u36, u37, u38, u39, u40, u41, u42, u43, u44, u45, u46, u47, u48, u49, u50, u51, u52, u53, u54, u55, u56, u57, u58, u59, u60, u61, u62, u63, u64, u65, u66, u67, u68, u69, u70, undef, undef, undef, undef, undef, undef, undef, undef, undef, undef, undef, undef, undef, undef, undef, undef, undef, undef, undef, undef, undef, undef, undef, undef, undef, undef, undef, undef, undef, undef, undef, undef, undef, undef, undef, undef, undef, undef, undef, undef, undef, undef, undef, undef, undef, undef, undef, undef, undef, undef, undef, undef, undef, undef, undef, undef], []⟩) ∧ (i ≤ ls.length + 1) ∧ (a0 ≤ x.length) ∧ (i = ls.length + 1 → a0 = x.length) ∧ (BytesAt V (.slice A0 x.length cap0) x) ∧ (IntsAt V (.slice A ls.length cap) ls) ∧ (HashAt V b p (x.take a0)) ∧ (HashAt V b' p' (x.take a0)) ∧ (Keeps Nob w V)) (fun a _ => (ls.length + 1) - (intOf (a.tmps.getD 9 undef)).toNat) (by kernel_rfl) ?_ ?_
  · exact ⟨0, 0, (.bool false), undef, undef, undef, undef, undef, undef, undef, undef, undef, undef, undef, undef, undef, undef, undef, undef, undef, undef, undef, undef, undef, undef, undef, undef, undef, undef, undef, undef, undef, undef, undef, undef, undef, undef, undef, undef, undef, undef, undef, undef, undef, undef, undef, undef, by kernel_rfl, by omega, by omega, by omega, h12, h13, h14, hV11, K15⟩
  · rintro a V17 ⟨i, a0, u4, u10, u28, u29, u30, u31, u32, u33, u34, u35, u36, u37, u38, u39, u40, u41, u42, u43, u44, u45, u46, u47, u48, u49, u50, u51, u52, u53, u54, u55, u56, u57, u58, u59, u60, u61, u62, u63, u64, u65, u66, u67, u68, u69, u70, rfl, hi, hA, hE, h18, h19, h20, h21, K22⟩
    rcases (by omega : i < ls.length ∨ i = ls.length ∨ i = ls.length + 1) with lt_i | eq_i | gt_i
    · obtain ⟨q, b_, o_, c_, hqi, hq, hv⟩ := h0.open_ i lt_i
      refine sy_sq (part_KeccakWhole 2024) (part_KeccakWhole 2025) ?_
      refine sy_sq (part_KeccakWhole 4048) (part_KeccakWhole 4049) ?_
      refine sy_reg ?_
      refine rg_plain 7 (opsAt (part_KeccakWhole 4048)) [0, 1, 2, 3] (by kernel_rfl) (by kernel_rfl) ?_
      refine ps_k (o_KeccakWhole 4048 0) (iN i) ?_
      refine ps_k (o_KeccakWhole 4048 1) (.slice A ls.length cap) ?_
      refine ps_p (o_KeccakWhole 4048 2) (iN ls.length) (exec_len (.tmp 29) 58 _ (by kernel_rfl) Try.underlying58 A ls.length cap (by kernel_rfl)) ?_
      refine ps_p (o_KeccakWhole 4048 3) (.bool true) (exec_cast (congrArg Value.bool (show (decide ((((i : Nat) : Int)) ≤ (((ls.length : Nat) : Int)))) = true from by simp only [decide_eq_true_eq]; omega)) (by kernel_rfl)) ?_
      refine ps_end ?_
      refine sy_a ⟨#[.slice A0 x.length cap0, .slice A ls.length cap, undef, undef, u4, .bool true, pT b 0, pT b' 0, iN a0, iN i, u10, undef, undef, undef, undef, undef, .bool true, .slice A0 x.length cap0, iN x.length, .bool false, .bool false, .slice A ls.length cap, iN ls.length, .bool false, .bool false, undef, pT b 0, pT b' 0, iN i, .slice A ls.length cap, iN ls.length, .bool true, u32, u33, u34, u35, u36, u37, u38, u39, u40, u41, u42, u43, u44, u45, u46, u47, u48, u49, u50, u51, u52, u53, u54, u55, u56, u57, u58, u59, u60, u61, u62, u63, u64, u65, u66, u67, u68, u69, u70, undef, undef, undef, undef, undef, undef, undef, undef, undef, undef, undef, undef, undef, undef, undef, undef, undef, undef, undef, undef, undef, undef, undef, undef, undef, undef, undef, undef, undef, undef, undef, undef, undef, undef, undef, undef, undef, undef, undef, undef, undef, undef, undef, undef, undef, undef, undef, undef, undef, undef, undef, undef, undef, undef, undef, undef], []⟩ ?_
      refine then_n ?_
      refine sy_ys (.tmp 31) (part_KeccakWhole 8098) (part_KeccakWhole 8099) ?_
      refine sy_sk ?_
      refine then_n ?_
      refine sy_sq (part_KeccakWhole 4050) (part_KeccakWhole 4051) ?_
      refine sy_bk 1 (part_KeccakWhole 8100) ?_
      refine sy_sq (part_KeccakWhole 16200) (part_KeccakWhole 16201) ?_
      refine sy_reg ?_
      refine rg_plain 9 (opsAt (part_KeccakWhole 16200)) [0, 1, 2] (by kernel_rfl) (by kernel_rfl) ?_
      refine ps_k (o_KeccakWhole 16200 0) (.slice A0 x.length cap0) ?_
      refine ps_p (o_KeccakWhole 16200 1) (iN x.length) (exec_len (.tmp 34) 22 _ (by kernel_rfl) Try.underlying22 A0 x.length cap0 (by kernel_rfl)) ?_
      refine ps_k (o_KeccakWhole 16200 2) (iN x.length) ?_
      refine ps_end ?_
      refine sy_a ⟨#[.slice A0 x.length cap0, .slice A ls.length cap, undef, undef, u4, .bool true, pT b 0, pT b' 0, iN a0, iN i, iN x.length, undef, undef, undef, undef, undef, .bool true, .slice A0 x.length cap0, iN x.length, .bool false, .bool false, .slice A ls.length cap, iN ls.length, .bool false, .bool false, undef, pT b 0, pT b' 0, iN i, .slice A ls.length cap, iN ls.length, .bool true, u32, u33, .slice A0 x.length cap0, iN x.length, u36, u37, u38, u39, u40, u41, u42, u43, u44, u45, u46, u47, u48, u49, u50, u51, u52, u53, u54, u55, u56, u57, u58, u59, u60, u61, u62, u63, u64, u65, u66, u67, u68, u69, u70, undef, undef, undef, undef, undef, undef, undef, undef, undef, undef, undef, undef, undef, undef, undef, undef, undef, undef, undef, undef, undef, undef, undef, undef, undef, undef, undef, undef, undef, undef, undef, undef, undef, undef, undef, undef, undef, undef, undef, undef, undef, undef, undef, undef, undef, undef, undef, undef, undef, undef, undef, undef, undef, undef, undef, undef], []⟩ ?_
      refine then_n ?_
      refine sy_sq (part_KeccakWhole 32402) (part_KeccakWhole 32403) ?_
      refine sy_sq (part_KeccakWhole 64804) (part_KeccakWhole 64805) ?_
      refine sy_reg ?_
      refine rg_plain 10 (opsAt (part_KeccakWhole 64804)) [0, 1, 2, 3] (by kernel_rfl) (by kernel_rfl) ?_
      refine ps_k (o_KeccakWhole 64804 0) (iN i) ?_
      refine ps_k (o_KeccakWhole 64804 1) (.slice A ls.length cap) ?_
      refine ps_p (o_KeccakWhole 64804 2) (iN ls.length) (exec_len (.tmp 37) 58 _ (by kernel_rfl) Try.underlying58 A ls.length cap (by kernel_rfl)) ?_
      refine ps_p (o_KeccakWhole 64804 3) (.bool true) (exec_cast (congrArg Value.bool (show (decide ((((i : Nat) : Int)) < (((ls.length : Nat) : Int)))) = true from by simp only [decide_eq_true_eq]; omega)) (by kernel_rfl)) ?_
      refine ps_end ?_
      refine sy_a ⟨#[.slice A0 x.length cap0, .slice A ls.length cap, undef, undef, u4, .bool true, pT b 0, pT b' 0, iN a0, iN i, iN x.length, undef, undef, undef, undef, undef, .bool true, .slice A0 x.length cap0, iN x.length, .bool false, .bool false, .slice A ls.length cap, iN ls.length, .bool false, .bool false, undef, pT b 0, pT b' 0, iN i, .slice A ls.length cap, iN ls.length, .bool true, u32, u33, .slice A0 x.length cap0, iN x.length, iN i, .slice A ls.length cap, iN ls.length, .bool true, u40, u41, u42, u43, u44, u45, u46, u47, u48, u49, u50, u51, u52, u53, u54, u55, u56, u57, u58, u59, u60, u61, u62, u63, u64, u65, u66, u67, u68, u69, u70, undef, undef, undef, undef, undef, undef, undef, undef, undef, undef, undef, undef, undef, undef, undef, undef, undef, undef, undef, undef, undef, undef, undef, undef, undef, undef, undef, undef, undef, undef, undef, undef, undef, undef, undef, undef, undef, undef, undef, undef, undef, undef, undef, undef, undef, undef, undef, undef, undef, undef, undef, undef, undef, undef, undef, undef], []⟩ ?_
      refine then_n ?_
      refine sy_ys (.tmp 39) (part_KeccakWhole 129610) (part_KeccakWhole 129611) ?_
      refine sy_reg ?_
      refine rg_plain 11 (opsAt (part_KeccakWhole 129610)) [0, 1, 2, 3, 4, 5, 6, 7, 8, 9, 10, 11, 12] (by kernel_rfl) (by kernel_rfl) ?_
      refine ps_k (o_KeccakWhole 129610 0) (iN a0) ?_
      refine ps_k (o_KeccakWhole 129610 1) (.slice A ls.length cap) ?_
      refine ps_k (o_KeccakWhole 129610 2) (iN i) ?_
      refine ps_p (o_KeccakWhole 129610 3) (pT b_ (o_ + i)) (exec_cast (v := pT b_ (o_ + i * 1)) (by simp) (exec_indexAt_slice 58 (.tmp 41) (.tmp 42) (by kernel_rfl) b_ o_ ls.length c_ (Eq.trans (b := .slice A ls.length cap) (by kernel_rfl) hv) .i64 i (by kernel_rfl) _ 1 Try.underlying58 (by kernel_rfl) (by omega))) ?_
      refine ps_p (o_KeccakWhole 129610 4) (.int .i64 q) (exec_load_cell 3 (.tmp 43) (by kernel_rfl) ⟨b_, o_ + i, none⟩ (by kernel_rfl) _ _ Try.underlying3 rfl (IntsAt.cell h19 hqi hv)) ?_
      refine ps_k (o_KeccakWhole 129610 5) (.slice A0 x.length cap0) ?_
      refine ps_p (o_KeccakWhole 129610 6) (iN x.length) (exec_len (.tmp 45) 22 _ (by kernel_rfl) Try.underlying22 A0 x.length cap0 (by kernel_rfl)) ?_
      refine ps_k (o_KeccakWhole 129610 7) (iN a0) ?_
      refine ps_p (o_KeccakWhole 129610 8) (iN (x.length - a0)) (exec_cast (congrArg (Value.int .i64) (wrapI (((x.length : Nat) : Int) - ((a0 : Nat) : Int)) _ (by omega) (by omega) (by omega))) (by kernel_rfl)) ?_
      refine ps_p (o_KeccakWhole 129610 9) (iN ((x.length - a0) + 1)) (exec_cast (congrArg (Value.int .i64) (wrapN ((x.length - a0) + 1) (by omega))) (by kernel_rfl)) ?_
      refine ps_call (o_KeccakWhole 129610 10) 16 #[.int .i64 q, iN ((x.length - a0) + 1)] (by kernel_rfl) (by kernel_rfl) (by kernel_rfl) (by kernel_rfl) (enters_of Try.func16 (by kernel_rfl) rfl) ((pick_at q (x.length - a0) _ hq (by omega)).mono ?_)
      rintro e w1 ⟨tn, htn, rfl, rfl⟩
      refine ⟨_, rfl, ?_⟩
      refine ps_p (o_KeccakWhole 129610 11) (iN (a0 + tn)) (exec_cast (congrArg (Value.int .i64) (wrapN (a0 + tn) (by omega))) (by kernel_rfl)) ?_
      refine ps_k (o_KeccakWhole 129610 12) (iN (a0 + tn)) ?_
      refine ps_end ?_
      refine sy_a ⟨#[.slice A0 x.length cap0, .slice A ls.length cap, undef, undef, u4, .bool true, pT b 0, pT b' 0, iN a0, iN i, iN (a0 + tn), undef, undef, undef, undef, undef, .bool true, .slice A0 x.length cap0, iN x.length, .bool false, .bool false, .slice A ls.length cap, iN ls.length, .bool false, .bool false, undef, pT b 0, pT b' 0, iN i, .slice A ls.length cap, iN ls.length, .bool true, u32, u33, .slice A0 x.length cap0, iN x.length, iN i, .slice A ls.length cap, iN ls.length, .bool true, iN a0, .slice A ls.length cap, iN i, pT b_ (o_ + i), .int .i64 q, .slice A0 x.length cap0, iN x.length, iN a0, iN (x.length - a0), iN ((x.length - a0) + 1), iN tn, iN (a0 + tn), u52, u53, u54, u55, u56, u57, u58, u59, u60, u61, u62, u63, u64, u65, u66, u67, u68, u69, u70, undef, undef, undef, undef, undef, undef, undef, undef, undef, undef, undef, undef, undef, undef, undef, undef, undef, undef, undef, undef, undef, undef, undef, undef, undef, undef, undef, undef, undef, undef, undef, undef, undef, undef, undef, undef, undef, undef, undef, undef, undef, undef, undef, undef, undef, undef, undef, undef, undef, undef, undef, undef, undef, undef, undef, undef], []⟩ ?_
      refine then_n ?_
      refine sy_sq (part_KeccakWhole 64806) (part_KeccakWhole 64807) ?_
      refine sy_sq (part_KeccakWhole 129612) (part_KeccakWhole 129613) ?_
      refine sy_reg ?_
      refine rg_plain 12 (opsAt (part_KeccakWhole 129612)) [0, 1, 2, 3, 4, 5, 6, 7, 8, 9, 10, 11, 12, 13, 14, 15] (by kernel_rfl) (by kernel_rfl) ?_
      refine ps_k (o_KeccakWhole 129612 0) (pT b 0) ?_
      refine ps_k (o_KeccakWhole 129612 1) (.slice A0 x.length cap0) ?_
      refine ps_k (o_KeccakWhole 129612 2) (iN a0) ?_
      refine ps_k (o_KeccakWhole 129612 3) (iN (a0 + tn)) ?_
      refine ps_p (o_KeccakWhole 129612 4) (cutV A0 (a0 + tn) cap0 a0) (exec_slice_lh 22 (.tmp 53) (.tmp 54) (.tmp 55) (by kernel_rfl) A0 x.length cap0 (by kernel_rfl) .i64 a0 (a0 + tn) (by kernel_rfl) (by kernel_rfl) 5 Try.underlying22 (by kernel_rfl) (by omega) (by omega)) ?_
      refine ps_call (o_KeccakWhole 129612 5) 11 #[pT b 0, cutV A0 (a0 + tn) cap0 a0] (by kernel_rfl) (by kernel_rfl) (by kernel_rfl) (by kernel_rfl) (enters_of Try.func11 (by kernel_rfl) rfl) ((kHWrite_any b p (x.take a0) _ _ _ h20 (BytesAt.drop (BytesAt.take h18 (a0 + tn) (by omega) _ _ _ rfl) a0 (by rw [List.length_take]; omega) _ _ _ rfl) (fun hn j hj e => by have := hx.blockLt (by simp only [List.length_drop, List.length_take] at hn; omega) j (cutV_own2 hj); omega) (by simp only [List.length_drop, List.length_take]; omega)).mono ?_)
      rintro e V23 ⟨rfl, hV23, kV23⟩
      rw [take_piece (by omega)] at hV23
      refine ⟨_, rfl, ?_⟩
      have h24 : BytesAt V23 (.slice A0 x.length cap0) x := h18.keeps0 kV23 (fun hn j hj e => by have := hx.blockLt hn j hj; unfold Own.One at e; omega)
      have h25 : IntsAt V23 (.slice A ls.length cap) ls := IntsAt.keepsB h0 h19 kV23 (fun j hj e => by first | exact e.elim | (unfold Own.One at e; omega) | omega)
      have h26 : HashAt V23 b' p' (x.take a0) := h21.off kV23 (fun j e => by have := h21.bp; unfold Own.One at e; omega)
      have K27 : Keeps Nob w V23 := K22.then kV23 (fun i hi hm => absurd hi (by unfold Own.One at hm; omega))
      have z28 := kV23.size
      refine ps_k (o_KeccakWhole 129612 6) (.bool false) ?_
      refine ps_k (o_KeccakWhole 129612 7) (.bool false) ?_
      refine ps_k (o_KeccakWhole 129612 8) (pT b' 0) ?_
      refine ps_k (o_KeccakWhole 129612 9) (.slice A0 x.length cap0) ?_
      refine ps_k (o_KeccakWhole 129612 10) (iN a0) ?_
      refine ps_k (o_KeccakWhole 129612 11) (iN (a0 + tn)) ?_
      refine ps_p (o_KeccakWhole 129612 12) (cutV A0 (a0 + tn) cap0 a0) (exec_slice_lh 22 (.tmp 61) (.tmp 62) (.tmp 63) (by kernel_rfl) A0 x.length cap0 (by kernel_rfl) .i64 a0 (a0 + tn) (by kernel_rfl) (by kernel_rfl) 5 Try.underlying22 (by kernel_rfl) (by omega) (by omega)) ?_
      refine ps_call (o_KeccakWhole 129612 13) 11 #[pT b' 0, cutV A0 (a0 + tn) cap0 a0] (by kernel_rfl) (by kernel_rfl) (by kernel_rfl) (by kernel_rfl) (enters_of Try.func11 (by kernel_rfl) rfl) ((kHWrite_any b' p' (x.take a0) _ _ _ h26 (BytesAt.drop (BytesAt.take h24 (a0 + tn) (by omega) _ _ _ rfl) a0 (by rw [List.length_take]; omega) _ _ _ rfl) (fun hn j hj e => by have := hx.blockLt (by simp only [List.length_drop, List.length_take] at hn; omega) j (cutV_own2 hj); omega) (by simp only [List.length_drop, List.length_take]; omega)).mono ?_)
      rintro e V29 ⟨rfl, hV29, kV29⟩
      rw [take_piece (by omega)] at hV29
      refine ⟨_, rfl, ?_⟩
      have h30 : BytesAt V29 (.slice A0 x.length cap0) x := h24.keeps0 kV29 (fun hn j hj e => by have := hx.blockLt hn j hj; unfold Own.One at e; omega)
      have h31 : IntsAt V29 (.slice A ls.length cap) ls := IntsAt.keepsB h0 h25 kV29 (fun j hj e => by first | exact e.elim | (unfold Own.One at e; omega) | omega)
      have h32 : HashAt V29 b p (x.take (a0 + tn)) := hV23.off kV29 (fun j e => by have := hV23.bp; unfold Own.One at e; omega)
      have K33 : Keeps Nob w V29 := K27.then kV29 (fun i hi hm => absurd hi (by unfold Own.One at hm; omega))
      have z34 := kV29.size
      refine ps_k (o_KeccakWhole 129612 14) (.bool false) ?_
      refine ps_k (o_KeccakWhole 129612 15) (.bool false) ?_
      refine ps_end ?_
      refine sy_a ⟨#[.slice A0 x.length cap0, .slice A ls.length cap, undef, undef, u4, .bool true, pT b 0, pT b' 0, iN a0, iN i, iN (a0 + tn), undef, undef, undef, undef, undef, .bool true, .slice A0 x.length cap0, iN x.length, .bool false, .bool false, .slice A ls.length cap, iN ls.length, .bool false, .bool false, undef, pT b 0, pT b' 0, iN i, .slice A ls.length cap, iN ls.length, .bool true, u32, u33, .slice A0 x.length cap0, iN x.length, iN i, .slice A ls.length cap, iN ls.length, .bool true, iN a0, .slice A ls.length cap, iN i, pT b_ (o_ + i), .int .i64 q, .slice A0 x.length cap0, iN x.length, iN a0, iN (x.length - a0), iN ((x.length - a0) + 1), iN tn, iN (a0 + tn), pT b 0, .slice A0 x.length cap0, iN a0, iN (a0 + tn), cutV A0 (a0 + tn) cap0 a0, .int .i64 0, .bool false, .bool false, pT b' 0, .slice A0 x.length cap0, iN a0, iN (a0 + tn), cutV A0 (a0 + tn) cap0 a0, .int .i64 0, .bool false, .bool false, u68, u69, u70, undef, undef, undef, undef, undef, undef, undef, undef, undef, undef, undef, undef, undef, undef, undef, undef, undef, undef, undef, undef, undef, undef, undef, undef, undef, undef, undef, undef, undef, undef, undef, undef, undef, undef, undef, undef, undef, undef, undef, undef, undef, undef, undef, undef, undef, undef, undef, undef, undef, undef, undef, undef, undef, undef, undef, undef], []⟩ ?_
      refine then_n ?_
      refine sy_n (.tmp 67) (part_KeccakWhole 259226) (part_KeccakWhole 259227) ?_
      refine sy_sk ?_
      refine then_n ?_
      refine sy_sq (part_KeccakWhole 129614) (part_KeccakWhole 129615) ?_
      refine sy_reg ?_
      refine rg_plain 14 (opsAt (part_KeccakWhole 129614)) [0, 1] (by kernel_rfl) (by kernel_rfl) ?_
      refine ps_k (o_KeccakWhole 129614 0) (pT b 0) ?_
      refine ps_call (o_KeccakWhole 129614 1) 10 #[pT b 0] (by kernel_rfl) (by kernel_rfl) (by kernel_rfl) (by kernel_rfl) (enters_of Try.func10 (by kernel_rfl) rfl) ((kHSum_ok b p (x.take (a0 + tn)) _ h32).mono ?_)
      rintro e V35 ⟨rfl, kV35⟩
      refine ⟨_, rfl, ?_⟩
      have h36 : BytesAt V35 (.slice A0 x.length cap0) x := h30.keepsN kV35
      have h37 : IntsAt V35 (.slice A ls.length cap) ls := h31.keeps kV35
      have h38 : HashAt V35 b p (x.take (a0 + tn)) := h32.keepsN kV35
      have h39 : HashAt V35 b' p' (x.take (a0 + tn)) := hV29.keepsN kV35
      have K40 : Keeps Nob w V35 := K33.then kV35 (fun _ _ x => x.elim)
      have z41 := kV35.size
      refine ps_end ?_
      refine sy_a ⟨#[.slice A0 x.length cap0, .slice A ls.length cap, undef, undef, u4, .bool true, pT b 0, pT b' 0, iN a0, iN i, iN (a0 + tn), undef, undef, undef, undef, undef, .bool true, .slice A0 x.length cap0, iN x.length, .bool false, .bool false, .slice A ls.length cap, iN ls.length, .bool false, .bool false, undef, pT b 0, pT b' 0, iN i, .slice A ls.length cap, iN ls.length, .bool true, u32, u33, .slice A0 x.length cap0, iN x.length, iN i, .slice A ls.length cap, iN ls.length, .bool true, iN a0, .slice A ls.length cap, iN i, pT b_ (o_ + i), .int .i64 q, .slice A0 x.length cap0, iN x.length, iN a0, iN (x.length - a0), iN ((x.length - a0) + 1), iN tn, iN (a0 + tn), pT b 0, .slice A0 x.length cap0, iN a0, iN (a0 + tn), cutV A0 (a0 + tn) cap0 a0, .int .i64 0, .bool false, .bool false, pT b' 0, .slice A0 x.length cap0, iN a0, iN (a0 + tn), cutV A0 (a0 + tn) cap0 a0, .int .i64 0, .bool false, .bool false, pT b 0, .tuple #[.agg (B (Kec.sum (x.take (a0 + tn)))).toArray, .int .i64 0], u70, undef, undef, undef, undef, undef, undef, undef, undef, undef, undef, undef, undef, undef, undef, undef, undef, undef, undef, undef, undef, undef, undef, undef, undef, undef, undef, undef, undef, undef, undef, undef, undef, undef, undef, undef, undef, undef, undef, undef, undef, undef, undef, undef, undef, undef, undef, undef, undef, undef, undef, undef, undef, undef, undef, undef, undef], []⟩ ?_
      refine then_n ?_
      refine sy_reg ?_
      refine rg_plain 15 (opsAt (part_KeccakWhole 129615)) [0, 1] (by kernel_rfl) (by kernel_rfl) ?_
      refine ps_k (o_KeccakWhole 129615 0) (iN (a0 + tn)) ?_
      refine ps_k (o_KeccakWhole 129615 1) (iN (a0 + tn)) ?_
      refine ps_end ?_
      refine sy_a ⟨#[.slice A0 x.length cap0, .slice A ls.length cap, undef, undef, u4, .bool true, pT b 0, pT b' 0, iN (a0 + tn), iN i, iN (a0 + tn), undef, undef, undef, undef, undef, .bool true, .slice A0 x.length cap0, iN x.length, .bool false, .bool false, .slice A ls.length cap, iN ls.length, .bool false, .bool false, undef, pT b 0, pT b' 0, iN i, .slice A ls.length cap, iN ls.length, .bool true, u32, u33, .slice A0 x.length cap0, iN x.length, iN i, .slice A ls.length cap, iN ls.length, .bool true, iN a0, .slice A ls.length cap, iN i, pT b_ (o_ + i), .int .i64 q, .slice A0 x.length cap0, iN x.length, iN a0, iN (x.length - a0), iN ((x.length - a0) + 1), iN tn, iN (a0 + tn), pT b 0, .slice A0 x.length cap0, iN a0, iN (a0 + tn), cutV A0 (a0 + tn) cap0 a0, .int .i64 0, .bool false, .bool false, pT b' 0, .slice A0 x.length cap0, iN a0, iN (a0 + tn), cutV A0 (a0 + tn) cap0 a0, .int .i64 0, .bool false, .bool false, pT b 0, .tuple #[.agg (B (Kec.sum (x.take (a0 + tn)))).toArray, .int .i64 0], iN (a0 + tn), undef, undef, undef, undef, undef, undef, undef, undef, undef, undef, undef, undef, undef, undef, undef, undef, undef, undef, undef, undef, undef, undef, undef, undef, undef, undef, undef, undef, undef, undef, undef, undef, undef, undef, undef, undef, undef, undef, undef, undef, undef, undef, undef, undef, undef, undef, undef, undef, undef, undef, undef, undef, undef, undef, undef, undef], []⟩ ?_
      refine blk_n ?_
      refine then_n ?_
      refine sy_reg ?_
      refine rg_plain 8 (opsAt (part_KeccakWhole 4051)) [0, 1, 2] (by kernel_rfl) (by kernel_rfl) ?_
      refine ps_k (o_KeccakWhole 4051 0) (iN i) ?_
      refine ps_p (o_KeccakWhole 4051 1) (iN (i + 1)) (exec_cast (congrArg (Value.int .i64) (wrapN (i + 1) (by omega))) (by kernel_rfl)) ?_
      refine ps_k (o_KeccakWhole 4051 2) (iN (i + 1)) ?_
      refine ps_end ?_
      refine sy_a ⟨#[.slice A0 x.length cap0, .slice A ls.length cap, undef, undef, u4, .bool true, pT b 0, pT b' 0, iN (a0 + tn), iN (i + 1), iN (a0 + tn), undef, undef, undef, undef, undef, .bool true, .slice A0 x.length cap0, iN x.length, .bool false, .bool false, .slice A ls.length cap, iN ls.length, .bool false, .bool false, undef, pT b 0, pT b' 0, iN i, .slice A ls.length cap, iN ls.length, .bool true, iN i, iN (i + 1), .slice A0 x.length cap0, iN x.length, iN i, .slice A ls.length cap, iN ls.length, .bool true, iN a0, .slice A ls.length cap, iN i, pT b_ (o_ + i), .int .i64 q, .slice A0 x.length cap0, iN x.length, iN a0, iN (x.length - a0), iN ((x.length - a0) + 1), iN tn, iN (a0 + tn), pT b 0, .slice A0 x.length cap0, iN a0, iN (a0 + tn), cutV A0 (a0 + tn) cap0 a0, .int .i64 0, .bool false, .bool false, pT b' 0, .slice A0 x.length cap0, iN a0, iN (a0 + tn), cutV A0 (a0 + tn) cap0 a0, .int .i64 0, .bool false, .bool false, pT b 0, .tuple #[.agg (B (Kec.sum (x.take (a0 + tn)))).toArray, .int .i64 0], iN (a0 + tn), undef, undef, undef, undef, undef, undef, undef, undef, undef, undef, undef, undef, undef, undef, undef, undef, undef, undef, undef, undef, undef, undef, undef, undef, undef, undef, undef, undef, undef, undef, undef, undef, undef, undef, undef, undef, undef, undef, undef, undef, undef, undef, undef, undef, undef, undef, undef, undef, undef, undef, undef, undef, undef, undef, undef, undef], []⟩ ?_
      refine then_n ?_
      refine ⟨⟨i + 1, a0 + tn, u4, (iN (a0 + tn)), (iN i), (.slice A ls.length cap), (iN ls.length), (.bool true), (iN i), (iN (i + 1)), (.slice A0 x.length cap0), (iN x.length), (iN i), (.slice A ls.length cap), (iN ls.length), (.bool true), (iN a0), (.slice A ls.length cap), (iN i), (pT b_ (o_ + i)), (.int .i64 q), (.slice A0 x.length cap0), (iN x.length), (iN a0), (iN (x.length - a0)), (iN ((x.length - a0) + 1)), (iN tn), (iN (a0 + tn)), (pT b 0), (.slice A0 x.length cap0), (iN a0), (iN (a0 + tn)), (cutV A0 (a0 + tn) cap0 a0), (.int .i64 0), (.bool false), (.bool false), (pT b' 0), (.slice A0 x.length cap0), (iN a0), (iN (a0 + tn)), (cutV A0 (a0 + tn) cap0 a0), (.int .i64 0), (.bool false), (.bool false), (pT b 0), (.tuple #[.agg (B (Kec.sum (x.take (a0 + tn)))).toArray, .int .i64 0]), (iN (a0 + tn)), by kernel_rfl, by omega, by omega, by omega, h36, h37, h38, h39, K40⟩, ?_⟩
      exact lt_meas (x := (ls.length + 1) - (i + 1)) (y := (ls.length + 1) - i) (by kernel_rfl) (by kernel_rfl) (by omega)
    · have hle2 := hA
      refine sy_sq (part_KeccakWhole 2024) (part_KeccakWhole 2025) ?_
      refine sy_sq (part_KeccakWhole 4048) (part_KeccakWhole 4049) ?_
      refine sy_reg ?_
      refine rg_plain 7 (opsAt (part_KeccakWhole 4048)) [0, 1, 2, 3] (by kernel_rfl) (by kernel_rfl) ?_
      refine ps_k (o_KeccakWhole 4048 0) (iN i) ?_
      refine ps_k (o_KeccakWhole 4048 1) (.slice A ls.length cap) ?_
      refine ps_p (o_KeccakWhole 4048 2) (iN ls.length) (exec_len (.tmp 29) 58 _ (by kernel_rfl) Try.underlying58 A ls.length cap (by kernel_rfl)) ?_
      refine ps_p (o_KeccakWhole 4048 3) (.bool true) (exec_cast (congrArg Value.bool (show (decide ((((i : Nat) : Int)) ≤ (((ls.length : Nat) : Int)))) = true from by simp only [decide_eq_true_eq]; omega)) (by kernel_rfl)) ?_
      refine ps_end ?_
      refine sy_a ⟨#[.slice A0 x.length cap0, .slice A ls.length cap, undef, undef, u4, .bool true, pT b 0, pT b' 0, iN a0, iN i, u10, undef, undef, undef, undef, undef, .bool true, .slice A0 x.length cap0, iN x.length, .bool false, .bool false, .slice A ls.length cap, iN ls.length, .bool false, .bool false, undef, pT b 0, pT b' 0, iN i, .slice A ls.length cap, iN ls.length, .bool true, u32, u33, u34, u35, u36, u37, u38, u39, u40, u41, u42, u43, u44, u45, u46, u47, u48, u49, u50, u51, u52, u53, u54, u55, u56, u57, u58, u59, u60, u61, u62, u63, u64, u65, u66, u67, u68, u69, u70, undef, undef, undef, undef, undef, undef, undef, undef, undef, undef, undef, undef, undef, undef, undef, undef, undef, undef, undef, undef, undef, undef, undef, undef, undef, undef, undef, undef, undef, undef, undef, undef, undef, undef, undef, undef, undef, undef, undef, undef, undef, undef, undef, undef, undef, undef, undef, undef, undef, undef, undef, undef, undef, undef, undef, undef], []⟩ ?_
      refine then_n ?_
      refine sy_ys (.tmp 31) (part_KeccakWhole 8098) (part_KeccakWhole 8099) ?_
      refine sy_sk ?_
      refine then_n ?_
      refine sy_sq (part_KeccakWhole 4050) (part_KeccakWhole 4051) ?_
      refine sy_bk 1 (part_KeccakWhole 8100) ?_
      refine sy_sq (part_KeccakWhole 16200) (part_KeccakWhole 16201) ?_
      refine sy_reg ?_
      refine rg_plain 9 (opsAt (part_KeccakWhole 16200)) [0, 1, 2] (by kernel_rfl) (by kernel_rfl) ?_
      refine ps_k (o_KeccakWhole 16200 0) (.slice A0 x.length cap0) ?_
      refine ps_p (o_KeccakWhole 16200 1) (iN x.length) (exec_len (.tmp 34) 22 _ (by kernel_rfl) Try.underlying22 A0 x.length cap0 (by kernel_rfl)) ?_
      refine ps_k (o_KeccakWhole 16200 2) (iN x.length) ?_
      refine ps_end ?_
      refine sy_a ⟨#[.slice A0 x.length cap0, .slice A ls.length cap, undef, undef, u4, .bool true, pT b 0, pT b' 0, iN a0, iN i, iN x.length, undef, undef, undef, undef, undef, .bool true, .slice A0 x.length cap0, iN x.length, .bool false, .bool false, .slice A ls.length cap, iN ls.length, .bool false, .bool false, undef, pT b 0, pT b' 0, iN i, .slice A ls.length cap, iN ls.length, .bool true, u32, u33, .slice A0 x.length cap0, iN x.length, u36, u37, u38, u39, u40, u41, u42, u43, u44, u45, u46, u47, u48, u49, u50, u51, u52, u53, u54, u55, u56, u57, u58, u59, u60, u61, u62, u63, u64, u65, u66, u67, u68, u69, u70, undef, undef, undef, undef, undef, undef, undef, undef, undef, undef, undef, undef, undef, undef, undef, undef, undef, undef, undef, undef, undef, undef, undef, undef, undef, undef, undef, undef, undef, undef, undef, undef, undef, undef, undef, undef, undef, undef, undef, undef, undef, undef, undef, undef, undef, undef, undef, undef, undef, undef, undef, undef, undef, undef, undef, undef], []⟩ ?_
      refine then_n ?_
      refine sy_sq (part_KeccakWhole 32402) (part_KeccakWhole 32403) ?_
      refine sy_sq (part_KeccakWhole 64804) (part_KeccakWhole 64805) ?_
      refine sy_reg ?_
      refine rg_plain 10 (opsAt (part_KeccakWhole 64804)) [0, 1, 2, 3] (by kernel_rfl) (by kernel_rfl) ?_
      refine ps_k (o_KeccakWhole 64804 0) (iN i) ?_
      refine ps_k (o_KeccakWhole 64804 1) (.slice A ls.length cap) ?_
      refine ps_p (o_KeccakWhole 64804 2) (iN ls.length) (exec_len (.tmp 37) 58 _ (by kernel_rfl) Try.underlying58 A ls.length cap (by kernel_rfl)) ?_
      refine ps_p (o_KeccakWhole 64804 3) (.bool false) (exec_cast (congrArg Value.bool (show (decide ((((i : Nat) : Int)) < (((ls.length : Nat) : Int)))) = false from by simp only [decide_eq_false_iff_not]; omega)) (by kernel_rfl)) ?_
      refine ps_end ?_
      refine sy_a ⟨#[.slice A0 x.length cap0, .slice A ls.length cap, undef, undef, u4, .bool true, pT b 0, pT b' 0, iN a0, iN i, iN x.length, undef, undef, undef, undef, undef, .bool true, .slice A0 x.length cap0, iN x.length, .bool false, .bool false, .slice A ls.length cap, iN ls.length, .bool false, .bool false, undef, pT b 0, pT b' 0, iN i, .slice A ls.length cap, iN ls.length, .bool true, u32, u33, .slice A0 x.length cap0, iN x.length, iN i, .slice A ls.length cap, iN ls.length, .bool false, u40, u41, u42, u43, u44, u45, u46, u47, u48, u49, u50, u51, u52, u53, u54, u55, u56, u57, u58, u59, u60, u61, u62, u63, u64, u65, u66, u67, u68, u69, u70, undef, undef, undef, undef, undef, undef, undef, undef, undef, undef, undef, undef, undef, undef, undef, undef, undef, undef, undef, undef, undef, undef, undef, undef, undef, undef, undef, undef, undef, undef, undef, undef, undef, undef, undef, undef, undef, undef, undef, undef, undef, undef, undef, undef, undef, undef, undef, undef, undef, undef, undef, undef, undef, undef, undef, undef], []⟩ ?_
      refine then_n ?_
      refine sy_n (.tmp 39) (part_KeccakWhole 129610) (part_KeccakWhole 129611) ?_
      refine sy_sk ?_
      refine then_n ?_
      refine sy_sq (part_KeccakWhole 64806) (part_KeccakWhole 64807) ?_
      refine sy_sq (part_KeccakWhole 129612) (part_KeccakWhole 129613) ?_
      refine sy_reg ?_
      refine rg_plain 12 (opsAt (part_KeccakWhole 129612)) [0, 1, 2, 3, 4, 5, 6, 7, 8, 9, 10, 11, 12, 13, 14, 15] (by kernel_rfl) (by kernel_rfl) ?_
      refine ps_k (o_KeccakWhole 129612 0) (pT b 0) ?_
      refine ps_k (o_KeccakWhole 129612 1) (.slice A0 x.length cap0) ?_
      refine ps_k (o_KeccakWhole 129612 2) (iN a0) ?_
      refine ps_k (o_KeccakWhole 129612 3) (iN x.length) ?_
      refine ps_p (o_KeccakWhole 129612 4) (cutV A0 x.length cap0 a0) (exec_slice_lh 22 (.tmp 53) (.tmp 54) (.tmp 55) (by kernel_rfl) A0 x.length cap0 (by kernel_rfl) .i64 a0 x.length (by kernel_rfl) (by kernel_rfl) 5 Try.underlying22 (by kernel_rfl) (by omega) (by omega)) ?_
      refine ps_call (o_KeccakWhole 129612 5) 11 #[pT b 0, cutV A0 x.length cap0 a0] (by kernel_rfl) (by kernel_rfl) (by kernel_rfl) (by kernel_rfl) (enters_of Try.func11 (by kernel_rfl) rfl) ((kHWrite_any b p (x.take a0) _ _ _ h20 (BytesAt.drop (BytesAt.take h18 x.length (by omega) _ _ _ rfl) a0 (by rw [List.length_take]; omega) _ _ _ rfl) (fun hn j hj e => by have := hx.blockLt (by simp only [List.length_drop, List.length_take] at hn; omega) j (cutV_own2 hj); omega) (by simp only [List.length_drop, List.length_take]; omega)).mono ?_)
      rintro e V42 ⟨rfl, hV42, kV42⟩
      rw [take_piece (by omega)] at hV42
      refine ⟨_, rfl, ?_⟩
      have h43 : BytesAt V42 (.slice A0 x.length cap0) x := h18.keeps0 kV42 (fun hn j hj e => by have := hx.blockLt hn j hj; unfold Own.One at e; omega)
      have h44 : IntsAt V42 (.slice A ls.length cap) ls := IntsAt.keepsB h0 h19 kV42 (fun j hj e => by first | exact e.elim | (unfold Own.One at e; omega) | omega)
      have h45 : HashAt V42 b' p' (x.take a0) := h21.off kV42 (fun j e => by have := h21.bp; unfold Own.One at e; omega)
      have K46 : Keeps Nob w V42 := K22.then kV42 (fun i hi hm => absurd hi (by unfold Own.One at hm; omega))
      have z47 := kV42.size
      refine ps_k (o_KeccakWhole 129612 6) (.bool false) ?_
      refine ps_k (o_KeccakWhole 129612 7) (.bool false) ?_
      refine ps_k (o_KeccakWhole 129612 8) (pT b' 0) ?_
      refine ps_k (o_KeccakWhole 129612 9) (.slice A0 x.length cap0) ?_
      refine ps_k (o_KeccakWhole 129612 10) (iN a0) ?_
      refine ps_k (o_KeccakWhole 129612 11) (iN x.length) ?_
      refine ps_p (o_KeccakWhole 129612 12) (cutV A0 x.length cap0 a0) (exec_slice_lh 22 (.tmp 61) (.tmp 62) (.tmp 63) (by kernel_rfl) A0 x.length cap0 (by kernel_rfl) .i64 a0 x.length (by kernel_rfl) (by kernel_rfl) 5 Try.underlying22 (by kernel_rfl) (by omega) (by omega)) ?_
      refine ps_call (o_KeccakWhole 129612 13) 11 #[pT b' 0, cutV A0 x.length cap0 a0] (by kernel_rfl) (by kernel_rfl) (by kernel_rfl) (by kernel_rfl) (enters_of Try.func11 (by kernel_rfl) rfl) ((kHWrite_any b' p' (x.take a0) _ _ _ h45 (BytesAt.drop (BytesAt.take h43 x.length (by omega) _ _ _ rfl) a0 (by rw [List.length_take]; omega) _ _ _ rfl) (fun hn j hj e => by have := hx.blockLt (by simp only [List.length_drop, List.length_take] at hn; omega) j (cutV_own2 hj); omega) (by simp only [List.length_drop, List.length_take]; omega)).mono ?_)
      rintro e V48 ⟨rfl, hV48, kV48⟩
      rw [take_piece (by omega)] at hV48
      refine ⟨_, rfl, ?_⟩
      have h49 : BytesAt V48 (.slice A0 x.length cap0) x := h43.keeps0 kV48 (fun hn j hj e => by have := hx.blockLt hn j hj; unfold Own.One at e; omega)
      have h50 : IntsAt V48 (.slice A ls.length cap) ls := IntsAt.keepsB h0 h44 kV48 (fun j hj e => by first | exact e.elim | (unfold Own.One at e; omega) | omega)
      have h51 : HashAt V48 b p (x.take x.length) := hV42.off kV48 (fun j e => by have := hV42.bp; unfold Own.One at e; omega)
      have K52 : Keeps Nob w V48 := K46.then kV48 (fun i hi hm => absurd hi (by unfold Own.One at hm; omega))
      have z53 := kV48.size
      refine ps_k (o_KeccakWhole 129612 14) (.bool false) ?_
      refine ps_k (o_KeccakWhole 129612 15) (.bool false) ?_
      refine ps_end ?_
      refine sy_a ⟨#[.slice A0 x.length cap0, .slice A ls.length cap, undef, undef, u4, .bool true, pT b 0, pT b' 0, iN a0, iN i, iN x.length, undef, undef, undef, undef, undef, .bool true, .slice A0 x.length cap0, iN x.length, .bool false, .bool false, .slice A ls.length cap, iN ls.length, .bool false, .bool false, undef, pT b 0, pT b' 0, iN i, .slice A ls.length cap, iN ls.length, .bool true, u32, u33, .slice A0 x.length cap0, iN x.length, iN i, .slice A ls.length cap, iN ls.length, .bool false, u40, u41, u42, u43, u44, u45, u46, u47, u48, u49, u50, u51, pT b 0, .slice A0 x.length cap0, iN a0, iN x.length, cutV A0 x.length cap0 a0, .int .i64 0, .bool false, .bool false, pT b' 0, .slice A0 x.length cap0, iN a0, iN x.length, cutV A0 x.length cap0 a0, .int .i64 0, .bool false, .bool false, u68, u69, u70, undef, undef, undef, undef, undef, undef, undef, undef, undef, undef, undef, undef, undef, undef, undef, undef, undef, undef, undef, undef, undef, undef, undef, undef, undef, undef, undef, undef, undef, undef, undef, undef, undef, undef, undef, undef, undef, undef, undef, undef, undef, undef, undef, undef, undef, undef, undef, undef, undef, undef, undef, undef, undef, undef, undef, undef], []⟩ ?_
      refine then_n ?_
      refine sy_n (.tmp 67) (part_KeccakWhole 259226) (part_KeccakWhole 259227) ?_
      refine sy_sk ?_
      refine then_n ?_
      refine sy_sq (part_KeccakWhole 129614) (part_KeccakWhole 129615) ?_
      refine sy_reg ?_
      refine rg_plain 14 (opsAt (part_KeccakWhole 129614)) [0, 1] (by kernel_rfl) (by kernel_rfl) ?_
      refine ps_k (o_KeccakWhole 129614 0) (pT b 0) ?_
      refine ps_call (o_KeccakWhole 129614 1) 10 #[pT b 0] (by kernel_rfl) (by kernel_rfl) (by kernel_rfl) (by kernel_rfl) (enters_of Try.func10 (by kernel_rfl) rfl) ((kHSum_ok b p (x.take x.length) _ h51).mono ?_)
      rintro e V54 ⟨rfl, kV54⟩
      refine ⟨_, rfl, ?_⟩
      have h55 : BytesAt V54 (.slice A0 x.length cap0) x := h49.keepsN kV54
      have h56 : IntsAt V54 (.slice A ls.length cap) ls := h50.keeps kV54
      have h57 : HashAt V54 b p (x.take x.length) := h51.keepsN kV54
      have h58 : HashAt V54 b' p' (x.take x.length) := hV48.keepsN kV54
      have K59 : Keeps Nob w V54 := K52.then kV54 (fun _ _ x => x.elim)
      have z60 := kV54.size
      refine ps_end ?_
      refine sy_a ⟨#[.slice A0 x.length cap0, .slice A ls.length cap, undef, undef, u4, .bool true, pT b 0, pT b' 0, iN a0, iN i, iN x.length, undef, undef, undef, undef, undef, .bool true, .slice A0 x.length cap0, iN x.length, .bool false, .bool false, .slice A ls.length cap, iN ls.length, .bool false, .bool false, undef, pT b 0, pT b' 0, iN i, .slice A ls.length cap, iN ls.length, .bool true, u32, u33, .slice A0 x.length cap0, iN x.length, iN i, .slice A ls.length cap, iN ls.length, .bool false, u40, u41, u42, u43, u44, u45, u46, u47, u48, u49, u50, u51, pT b 0, .slice A0 x.length cap0, iN a0, iN x.length, cutV A0 x.length cap0 a0, .int .i64 0, .bool false, .bool false, pT b' 0, .slice A0 x.length cap0, iN a0, iN x.length, cutV A0 x.length cap0 a0, .int .i64 0, .bool false, .bool false, pT b 0, .tuple #[.agg (B (Kec.sum (x.take x.length))).toArray, .int .i64 0], u70, undef, undef, undef, undef, undef, undef, undef, undef, undef, undef, undef, undef, undef, undef, undef, undef, undef, undef, undef, undef, undef, undef, undef, undef, undef, undef, undef, undef, undef, undef, undef, undef, undef, undef, undef, undef, undef, undef, undef, undef, undef, undef, undef, undef, undef, undef, undef, undef, undef, undef, undef, undef, undef, undef, undef, undef], []⟩ ?_
      refine then_n ?_
      refine sy_reg ?_
      refine rg_plain 15 (opsAt (part_KeccakWhole 129615)) [0, 1] (by kernel_rfl) (by kernel_rfl) ?_
      refine ps_k (o_KeccakWhole 129615 0) (iN x.length) ?_
      refine ps_k (o_KeccakWhole 129615 1) (iN x.length) ?_
      refine ps_end ?_
      refine sy_a ⟨#[.slice A0 x.length cap0, .slice A ls.length cap, undef, undef, u4, .bool true, pT b 0, pT b' 0, iN x.length, iN i, iN x.length, undef, undef, undef, undef, undef, .bool true, .slice A0 x.length cap0, iN x.length, .bool false, .bool false, .slice A ls.length cap, iN ls.length, .bool false, .bool false, undef, pT b 0, pT b' 0, iN i, .slice A ls.length cap, iN ls.length, .bool true, u32, u33, .slice A0 x.length cap0, iN x.length, iN i, .slice A ls.length cap, iN ls.length, .bool false, u40, u41, u42, u43, u44, u45, u46, u47, u48, u49, u50, u51, pT b 0, .slice A0 x.length cap0, iN a0, iN x.length, cutV A0 x.length cap0 a0, .int .i64 0, .bool false, .bool false, pT b' 0, .slice A0 x.length cap0, iN a0, iN x.length, cutV A0 x.length cap0 a0, .int .i64 0, .bool false, .bool false, pT b 0, .tuple #[.agg (B (Kec.sum (x.take x.length))).toArray, .int .i64 0], iN x.length, undef, undef, undef, undef, undef, undef, undef, undef, undef, undef, undef, undef, undef, undef, undef, undef, undef, undef, undef, undef, undef, undef, undef, undef, undef, undef, undef, undef, undef, undef, undef, undef, undef, undef, undef, undef, undef, undef, undef, undef, undef, undef, undef, undef, undef, undef, undef, undef, undef, undef, undef, undef, undef, undef, undef, undef], []⟩ ?_
      refine blk_n ?_
      refine then_n ?_
      refine sy_reg ?_
      refine rg_plain 8 (opsAt (part_KeccakWhole 4051)) [0, 1, 2] (by kernel_rfl) (by kernel_rfl) ?_
      refine ps_k (o_KeccakWhole 4051 0) (iN i) ?_
      refine ps_p (o_KeccakWhole 4051 1) (iN (i + 1)) (exec_cast (congrArg (Value.int .i64) (wrapN (i + 1) (by omega))) (by kernel_rfl)) ?_
      refine ps_k (o_KeccakWhole 4051 2) (iN (i + 1)) ?_
      refine ps_end ?_
      refine sy_a ⟨#[.slice A0 x.length cap0, .slice A ls.length cap, undef, undef, u4, .bool true, pT b 0, pT b' 0, iN x.length, iN (i + 1), iN x.length, undef, undef, undef, undef, undef, .bool true, .slice A0 x.length cap0, iN x.length, .bool false, .bool false, .slice A ls.length cap, iN ls.length, .bool false, .bool false, undef, pT b 0, pT b' 0, iN i, .slice A ls.length cap, iN ls.length, .bool true, iN i, iN (i + 1), .slice A0 x.length cap0, iN x.length, iN i, .slice A ls.length cap, iN ls.length, .bool false, u40, u41, u42, u43, u44, u45, u46, u47, u48, u49, u50, u51, pT b 0, .slice A0 x.length cap0, iN a0, iN x.length, cutV A0 x.length cap0 a0, .int .i64 0, .bool false, .bool false, pT b' 0, .slice A0 x.length cap0, iN a0, iN x.length, cutV A0 x.length cap0 a0, .int .i64 0, .bool false, .bool false, pT b 0, .tuple #[.agg (B (Kec.sum (x.take x.length))).toArray, .int .i64 0], iN x.length, undef, undef, undef, undef, undef, undef, undef, undef, undef, undef, undef, undef, undef, undef, undef, undef, undef, undef, undef, undef, undef, undef, undef, undef, undef, undef, undef, undef, undef, undef, undef, undef, undef, undef, undef, undef, undef, undef, undef, undef, undef, undef, undef, undef, undef, undef, undef, undef, undef, undef, undef, undef, undef, undef, undef, undef], []⟩ ?_
      refine then_n ?_
      refine ⟨⟨i + 1, x.length, u4, (iN x.length), (iN i), (.slice A ls.length cap), (iN ls.length), (.bool true), (iN i), (iN (i + 1)), (.slice A0 x.length cap0), (iN x.length), (iN i), (.slice A ls.length cap), (iN ls.length), (.bool false), u40, u41, u42, u43, u44, u45, u46, u47, u48, u49, u50, u51, (pT b 0), (.slice A0 x.length cap0), (iN a0), (iN x.length), (cutV A0 x.length cap0 a0), (.int .i64 0), (.bool false), (.bool false), (pT b' 0), (.slice A0 x.length cap0), (iN a0), (iN x.length), (cutV A0 x.length cap0 a0), (.int .i64 0), (.bool false), (.bool false), (pT b 0), (.tuple #[.agg (B (Kec.sum (x.take x.length))).toArray, .int .i64 0]), (iN x.length), by kernel_rfl, by omega, by omega, by omega, h55, h56, h57, h58, K59⟩, ?_⟩
      exact lt_meas (x := (ls.length + 1) - (i + 1)) (y := (ls.length + 1) - i) (by kernel_rfl) (by kernel_rfl) (by omega)
    · have eqE := hE gt_i
      have h61 : HashAt V17 b p (x) := (by have e := h20; rw [hE (by omega), List.take_length] at e; exact e)
      have h62 : HashAt V17 b' p' (x) := (by have e := h21; rw [hE (by omega), List.take_length] at e; exact e)
      refine sy_sq (part_KeccakWhole 2024) (part_KeccakWhole 2025) ?_
      refine sy_sq (part_KeccakWhole 4048) (part_KeccakWhole 4049) ?_
      refine sy_reg ?_
      refine rg_plain 7 (opsAt (part_KeccakWhole 4048)) [0, 1, 2, 3] (by kernel_rfl) (by kernel_rfl) ?_
      refine ps_k (o_KeccakWhole 4048 0) (iN i) ?_
      refine ps_k (o_KeccakWhole 4048 1) (.slice A ls.length cap) ?_
      refine ps_p (o_KeccakWhole 4048 2) (iN ls.length) (exec_len (.tmp 29) 58 _ (by kernel_rfl) Try.underlying58 A ls.length cap (by kernel_rfl)) ?_
      refine ps_p (o_KeccakWhole 4048 3) (.bool false) (exec_cast (congrArg Value.bool (show (decide ((((i : Nat) : Int)) ≤ (((ls.length : Nat) : Int)))) = false from by simp only [decide_eq_false_iff_not]; omega)) (by kernel_rfl)) ?_
      refine ps_end ?_
      refine sy_a ⟨#[.slice A0 x.length cap0, .slice A ls.length cap, undef, undef, u4, .bool true, pT b 0, pT b' 0, iN a0, iN i, u10, undef, undef, undef, undef, undef, .bool true, .slice A0 x.length cap0, iN x.length, .bool false, .bool false, .slice A ls.length cap, iN ls.length, .bool false, .bool false, undef, pT b 0, pT b' 0, iN i, .slice A ls.length cap, iN ls.length, .bool false, u32, u33, u34, u35, u36, u37, u38, u39, u40, u41, u42, u43, u44, u45, u46, u47, u48, u49, u50, u51, u52, u53, u54, u55, u56, u57, u58, u59, u60, u61, u62, u63, u64, u65, u66, u67, u68, u69, u70, undef, undef, undef, undef, undef, undef, undef, undef, undef, undef, undef, undef, undef, undef, undef, undef, undef, undef, undef, undef, undef, undef, undef, undef, undef, undef, undef, undef, undef, undef, undef, undef, undef, undef, undef, undef, undef, undef, undef, undef, undef, undef, undef, undef, undef, undef, undef, undef, undef, undef, undef, undef, undef, undef, undef, undef], []⟩ ?_
      refine then_n ?_
      refine sy_n (.tmp 31) (part_KeccakWhole 8098) (part_KeccakWhole 8099) ?_
      refine sy_exit 0 (by kernel_rfl) ?_
      refine then_e ?_
      refine then_e ?_
      refine blk_e ?_
      refine then_n ?_
      refine sy_sq (part_KeccakWhole 254) (part_KeccakWhole 255) ?_
      refine sy_reg ?_
      refine rg_plain 16 (opsAt (part_KeccakWhole 254)) [0, 1, 2, 3, 4, 5, 6, 7] (by kernel_rfl) (by kernel_rfl) ?_
      refine ps_k (o_KeccakWhole 254 0) (pT b 0) ?_
      refine ps_call (o_KeccakWhole 254 1) 10 #[pT b 0] (by kernel_rfl) (by kernel_rfl) (by kernel_rfl) (by kernel_rfl) (enters_of Try.func10 (by kernel_rfl) rfl) ((kHSum_ok b p (x) _ h61).mono ?_)
      rintro e V63 ⟨rfl, kV63⟩
      refine ⟨_, rfl, ?_⟩
      have h64 : BytesAt V63 (.slice A0 x.length cap0) x := h18.keepsN kV63
      have h65 : IntsAt V63 (.slice A ls.length cap) ls := h19.keeps kV63
      have h66 : HashAt V63 b p (x) := h61.keepsN kV63
      have h67 : HashAt V63 b' p' (x) := h62.keepsN kV63
      have K68 : Keeps Nob w V63 := K22.then kV63 (fun _ _ x => x.elim)
      have z69 := kV63.size
      refine ps_k (o_KeccakWhole 254 2) (.tuple #[.agg (B (Kec.sum (x))).toArray, .int .i64 0]) ?_
      refine ps_k (o_KeccakWhole 254 3) (.agg (B (Kec.sum (x))).toArray) ?_
      refine ps_k (o_KeccakWhole 254 4) (.int .i64 0) ?_
      obtain ⟨V70, eV70⟩ : ∃ V, V63.alloc (.cells (zr_u8_32) 29) = V := ⟨_, rfl⟩
      obtain ⟨gx, egx⟩ : ∃ g, V63.heap.size = g := ⟨_, rfl⟩
      have n72 : w.heap.size ≤ gx := egx ▸ K68.size
      have h71 : V70.heap[gx]? = some (.cells (zr_u8_32) 29 (0, 0)) := by rw [← eV70, ← egx]; exact heap_alloc_new _ _
      have kV70 : Keeps Nob V63 V70 := eV70 ▸ (Keeps.refl _ _).alloc _
      refine ps_run (o_KeccakWhole 254 5) (pT gx 0) (w' := V70) (by kernel_rfl) (by kernel_rfl) (by rw [← eV70, ← egx]; exact exec_alloc0 29 (by kernel_rfl) (.agg (zr_u8_32)) (by kernel_rfl)) ?_
      clear eV70
      have h73 : BytesAt V70 (.slice A0 x.length cap0) x := h64.keepsN kV70
      have h74 : IntsAt V70 (.slice A ls.length cap) ls := h65.keeps kV70
      have h75 : HashAt V70 b p (x) := h66.keepsN kV70
      have h76 : HashAt V70 b' p' (x) := h67.keepsN kV70
      have K77 : Keeps Nob w V70 := K68.then kV70 (fun _ _ x => x.elim)
      have z78 := kV70.size
      obtain ⟨V79, eV79⟩ : ∃ V, V70.setRow gx ((B (Kec.sum (x))).toArray) = V := ⟨_, rfl⟩
      have kV79 : Keeps (One gx) V70 V79 := eV79 ▸ (Keeps.refl (One gx) _).setRow (fun _ => (rfl : Own.One gx gx)) _
      have h80 : V79.heap[gx]? = some (.cells ((B (Kec.sum x)).toArray) 29 (0, 0)) := eV79 ▸ setRow_heap _ _ _ _ _ _ h71
      refine ps_skip (o_KeccakWhole 254 6) (w' := V79) (by kernel_rfl) (by kernel_rfl) (by rw [← eV79]; exact exec_store_row 29 (.tmp 11) (.tmp 74) (by kernel_rfl) gx ((B (Kec.sum (x))).toArray) (by kernel_rfl) (by kernel_rfl) 29 (zr_u8_32) h71 (by rw [Bz_size, Kec.sum_len]; kernel_rfl) (by rw [Bz_size, Kec.sum_len]; first | rfl | rw [Bz_size, Kec.sum_len]) (by rw [List.all_toArray]; exact List.all_eq_true.2 (B_one _))) ?_
      clear eV79
      have h81 : BytesAt V79 (.slice A0 x.length cap0) x := h73.keeps0 kV79 (fun hn j hj e => by have := hx.blockLt hn j hj; unfold Own.One at e; omega)
      have h82 : IntsAt V79 (.slice A ls.length cap) ls := IntsAt.keepsB h0 h74 kV79 (fun j hj e => by first | exact e.elim | (unfold Own.One at e; omega) | omega)
      have h83 : HashAt V79 b p (x) := h75.offH kV79 h71
      have h84 : HashAt V79 b' p' (x) := h76.offH kV79 h71
      have K85 : Keeps Nob w V79 := K77.then kV79 (fun i hi hm => absurd hi (by unfold Own.One at hm; omega))
      have z86 := kV79.size
      refine ps_k (o_KeccakWhole 254 7) (.int .i64 0) ?_
      refine ps_end ?_
      refine sy_a ⟨#[.slice A0 x.length cap0, .slice A ls.length cap, undef, undef, u4, .bool true, pT b 0, pT b' 0, iN a0, iN i, u10, pT gx 0, .int .i64 0, undef, undef, undef, .bool true, .slice A0 x.length cap0, iN x.length, .bool false, .bool false, .slice A ls.length cap, iN ls.length, .bool false, .bool false, undef, pT b 0, pT b' 0, iN i, .slice A ls.length cap, iN ls.length, .bool false, u32, u33, u34, u35, u36, u37, u38, u39, u40, u41, u42, u43, u44, u45, u46, u47, u48, u49, u50, u51, u52, u53, u54, u55, u56, u57, u58, u59, u60, u61, u62, u63, u64, u65, u66, u67, u68, u69, u70, .tuple #[.agg (B (Kec.sum (x))).toArray, .int .i64 0], pT b 0, .tuple #[.agg (B (Kec.sum (x))).toArray, .int .i64 0], .agg (B (Kec.sum (x))).toArray, .int .i64 0, undef, undef, undef, undef, undef, undef, undef, undef, undef, undef, undef, undef, undef, undef, undef, undef, undef, undef, undef, undef, undef, undef, undef, undef, undef, undef, undef, undef, undef, undef, undef, undef, undef, undef, undef, undef, undef, undef, undef, undef, undef, undef, undef, undef, undef, undef, undef, undef, undef, undef, undef], []⟩ ?_
      refine then_n ?_
      refine sy_sq (part_KeccakWhole 510) (part_KeccakWhole 511) ?_
      refine sy_reg ?_
      refine rg_plain 17 (opsAt (part_KeccakWhole 510)) [0, 1, 2, 3, 4, 5, 6, 7] (by kernel_rfl) (by kernel_rfl) ?_
      refine ps_k (o_KeccakWhole 510 0) (pT b' 0) ?_
      refine ps_call (o_KeccakWhole 510 1) 10 #[pT b' 0] (by kernel_rfl) (by kernel_rfl) (by kernel_rfl) (by kernel_rfl) (enters_of Try.func10 (by kernel_rfl) rfl) ((kHSum_ok b' p' (x) _ h84).mono ?_)
      rintro e V87 ⟨rfl, kV87⟩
      refine ⟨_, rfl, ?_⟩
      have h88 : BytesAt V87 (.slice A0 x.length cap0) x := h81.keepsN kV87
      have h89 : IntsAt V87 (.slice A ls.length cap) ls := h82.keeps kV87
      have h90 : HashAt V87 b p (x) := h83.keepsN kV87
      have h91 : HashAt V87 b' p' (x) := h84.keepsN kV87
      have h92 : V87.heap[gx]? = some (.cells ((B (Kec.sum x)).toArray) 29 (0, 0)) := (kV87.block gx (lt_of_block h80) (fun x => x)).trans h80
      have K93 : Keeps Nob w V87 := K85.then kV87 (fun _ _ x => x.elim)
      have z94 := kV87.size
      refine ps_k (o_KeccakWhole 510 2) (.tuple #[.agg (B (Kec.sum (x))).toArray, .int .i64 0]) ?_
      refine ps_k (o_KeccakWhole 510 3) (.agg (B (Kec.sum (x))).toArray) ?_
      refine ps_k (o_KeccakWhole 510 4) (.int .i64 0) ?_
      obtain ⟨V95, eV95⟩ : ∃ V, V87.alloc (.cells (zr_u8_32) 29) = V := ⟨_, rfl⟩
      obtain ⟨gy, egy⟩ : ∃ g, V87.heap.size = g := ⟨_, rfl⟩
      have n97 : gx < gy := egy ▸ lt_of_block h92
      have n98 : w.heap.size ≤ gy := egy ▸ K93.size
      have h96 : V95.heap[gy]? = some (.cells (zr_u8_32) 29 (0, 0)) := by rw [← eV95, ← egy]; exact heap_alloc_new _ _
      have kV95 : Keeps Nob V87 V95 := eV95 ▸ (Keeps.refl _ _).alloc _
      refine ps_run (o_KeccakWhole 510 5) (pT gy 0) (w' := V95) (by kernel_rfl) (by kernel_rfl) (by rw [← eV95, ← egy]; exact exec_alloc0 29 (by kernel_rfl) (.agg (zr_u8_32)) (by kernel_rfl)) ?_
      clear eV95
      have h99 : BytesAt V95 (.slice A0 x.length cap0) x := h88.keepsN kV95
      have h100 : IntsAt V95 (.slice A ls.length cap) ls := h89.keeps kV95
      have h101 : HashAt V95 b p (x) := h90.keepsN kV95
      have h102 : HashAt V95 b' p' (x) := h91.keepsN kV95
      have h103 : V95.heap[gx]? = some (.cells ((B (Kec.sum x)).toArray) 29 (0, 0)) := (kV95.block gx (lt_of_block h92) (fun x => x)).trans h92
      have K104 : Keeps Nob w V95 := K93.then kV95 (fun _ _ x => x.elim)
      have z105 := kV95.size
      obtain ⟨V106, eV106⟩ : ∃ V, V95.setRow gy ((B (Kec.sum (x))).toArray) = V := ⟨_, rfl⟩
      have kV106 : Keeps (One gy) V95 V106 := eV106 ▸ (Keeps.refl (One gy) _).setRow (fun _ => (rfl : Own.One gy gy)) _
      have h107 : V106.heap[gy]? = some (.cells ((B (Kec.sum x)).toArray) 29 (0, 0)) := eV106 ▸ setRow_heap _ _ _ _ _ _ h96
      refine ps_skip (o_KeccakWhole 510 6) (w' := V106) (by kernel_rfl) (by kernel_rfl) (by rw [← eV106]; exact exec_store_row 29 (.tmp 13) (.tmp 79) (by kernel_rfl) gy ((B (Kec.sum (x))).toArray) (by kernel_rfl) (by kernel_rfl) 29 (zr_u8_32) h96 (by rw [Bz_size, Kec.sum_len]; kernel_rfl) (by rw [Bz_size, Kec.sum_len]; first | rfl | rw [Bz_size, Kec.sum_len]) (by rw [List.all_toArray]; exact List.all_eq_true.2 (B_one _))) ?_
      clear eV106
      have h108 : BytesAt V106 (.slice A0 x.length cap0) x := h99.keeps0 kV106 (fun hn j hj e => by have := hx.blockLt hn j hj; unfold Own.One at e; omega)
      have h109 : IntsAt V106 (.slice A ls.length cap) ls := IntsAt.keepsB h0 h100 kV106 (fun j hj e => by first | exact e.elim | (unfold Own.One at e; omega) | omega)
      have h110 : HashAt V106 b p (x) := h101.offH kV106 h96
      have h111 : HashAt V106 b' p' (x) := h102.offH kV106 h96
      have h112 : V106.heap[gx]? = some (.cells ((B (Kec.sum x)).toArray) 29 (0, 0)) := (kV106.block gx (lt_of_block h103) (fun e => by unfold Own.One at e; omega)).trans h103
      have K113 : Keeps Nob w V106 := K104.then kV106 (fun i hi hm => absurd hi (by unfold Own.One at hm; omega))
      have z114 := kV106.size
      refine ps_k (o_KeccakWhole 510 7) (.int .i64 0) ?_
      refine ps_end ?_
      refine sy_a ⟨#[.slice A0 x.length cap0, .slice A ls.length cap, undef, undef, u4, .bool true, pT b 0, pT b' 0, iN a0, iN i, u10, pT gx 0, .int .i64 0, pT gy 0, .int .i64 0, undef, .bool true, .slice A0 x.length cap0, iN x.length, .bool false, .bool false, .slice A ls.length cap, iN ls.length, .bool false, .bool false, undef, pT b 0, pT b' 0, iN i, .slice A ls.length cap, iN ls.length, .bool false, u32, u33, u34, u35, u36, u37, u38, u39, u40, u41, u42, u43, u44, u45, u46, u47, u48, u49, u50, u51, u52, u53, u54, u55, u56, u57, u58, u59, u60, u61, u62, u63, u64, u65, u66, u67, u68, u69, u70, .tuple #[.agg (B (Kec.sum (x))).toArray, .int .i64 0], pT b 0, .tuple #[.agg (B (Kec.sum (x))).toArray, .int .i64 0], .agg (B (Kec.sum (x))).toArray, .int .i64 0, .tuple #[.agg (B (Kec.sum (x))).toArray, .int .i64 0], pT b' 0, .tuple #[.agg (B (Kec.sum (x))).toArray, .int .i64 0], .agg (B (Kec.sum (x))).toArray, .int .i64 0, undef, undef, undef, undef, undef, undef, undef, undef, undef, undef, undef, undef, undef, undef, undef, undef, undef, undef, undef, undef, undef, undef, undef, undef, undef, undef, undef, undef, undef, undef, undef, undef, undef, undef, undef, undef, undef, undef, undef, undef, undef, undef, undef, undef, undef, undef], []⟩ ?_
      refine then_n ?_
      refine sy_sq (part_KeccakWhole 1022) (part_KeccakWhole 1023) ?_
      refine sy_reg ?_
      refine rg_plain 18 (opsAt (part_KeccakWhole 1022)) [0, 1, 2, 3, 4, 5, 6, 7, 8, 9, 10, 11] (by kernel_rfl) (by kernel_rfl) ?_
      refine ps_k (o_KeccakWhole 1022 0) (.slice A0 x.length cap0) ?_
      refine ps_p (o_KeccakWhole 1022 1) (iN x.length) (exec_len (.tmp 81) 22 _ (by kernel_rfl) Try.underlying22 A0 x.length cap0 (by kernel_rfl)) ?_
      refine ps_k (o_KeccakWhole 1022 2) (iN (x.length % 256)) ?_
      refine ps_p (o_KeccakWhole 1022 3) (cN ((UInt8.ofNat (x.length % 256)).toNat)) (exec_cast (congrArg (Value.int .u8) (wrap8 (x.length % 256))) (by kernel_rfl)) ?_
      refine ps_k (o_KeccakWhole 1022 4) (.slice A0 x.length cap0) ?_
      refine ps_p (o_KeccakWhole 1022 5) (iN x.length) (exec_len (.tmp 85) 22 _ (by kernel_rfl) Try.underlying22 A0 x.length cap0 (by kernel_rfl)) ?_
      refine ps_p (o_KeccakWhole 1022 6) (iN (x.length / 256)) (exec_cast (congrArg (Value.int .i64) (wrapN (x.length / 256) (by omega))) (by kernel_rfl)) ?_
      refine ps_p (o_KeccakWhole 1022 7) (cN ((UInt8.ofNat (x.length / 256)).toNat)) (exec_cast (congrArg (Value.int .u8) (wrap8 (x.length / 256))) (by kernel_rfl)) ?_
      obtain ⟨V115, eV115⟩ : ∃ V, V106.alloc (.cells (#[.int .u8 7, .int .u8 (((UInt8.ofNat (x.length % 256)).toNat : Nat) : Int), .int .u8 (((UInt8.ofNat (x.length / 256)).toNat : Nat) : Int), .int .u8 0, .int .u8 0, .int .u8 0, .int .u8 0, .int .u8 0, .int .u8 0]) 5) = V := ⟨_, rfl⟩
      obtain ⟨g9, eg9⟩ : ∃ g, V106.heap.size = g := ⟨_, rfl⟩
      have n117 : gx < g9 := eg9 ▸ lt_of_block h112
      have n118 : gy < g9 := eg9 ▸ lt_of_block h107
      have n119 : w.heap.size ≤ g9 := eg9 ▸ K113.size
      have h116 : V115.heap[g9]? = some (.cells (#[.int .u8 7, .int .u8 (((UInt8.ofNat (x.length % 256)).toNat : Nat) : Int), .int .u8 (((UInt8.ofNat (x.length / 256)).toNat : Nat) : Int), .int .u8 0, .int .u8 0, .int .u8 0, .int .u8 0, .int .u8 0, .int .u8 0]) 5 (0, 0)) := by rw [← eV115, ← eg9]; exact heap_alloc_new _ _
      have kV115 : Keeps Nob V106 V115 := eV115 ▸ (Keeps.refl _ _).alloc _
      refine ps_run (o_KeccakWhole 1022 8) (.slice (some ⟨g9, 0, none⟩) 9 9) (w' := V115) (by kernel_rfl) (by kernel_rfl) (by rw [← eV115, ← eg9]; kernel_rfl) ?_
      have h120 : BytesAt V115 (.slice A0 x.length cap0) x := h108.keepsN kV115
      have h121 : IntsAt V115 (.slice A ls.length cap) ls := h109.keeps kV115
      have h122 : HashAt V115 b p (x) := h110.keepsN kV115
      have h123 : HashAt V115 b' p' (x) := h111.keepsN kV115
      have h124 : V115.heap[gx]? = some (.cells ((B (Kec.sum x)).toArray) 29 (0, 0)) := (kV115.block gx (lt_of_block h112) (fun x => x)).trans h112
      have h125 : V115.heap[gy]? = some (.cells ((B (Kec.sum x)).toArray) 29 (0, 0)) := (kV115.block gy (lt_of_block h107) (fun x => x)).trans h107
      have K126 : Keeps Nob w V115 := K113.then kV115 (fun _ _ x => x.elim)
      have z127 := kV115.size
      refine ps_k (o_KeccakWhole 1022 9) (.slice A0 x.length cap0) ?_
      have h128 : Row V115 5 1 (.slice (some ⟨g9, 0, none⟩) 9 9) 9 (B (ahead x.length)) := row_of_block h116 rfl (by decide)
      have hw129 : NewFrom (gy + 1) (.slice (some ⟨g9, 0, none⟩) 9 9) := NewFrom.ptr (by omega) _ _
      obtain ⟨v130, V131, hr132, h133, hg134, hn135, ha136⟩ := run_append_any (P := Try.prog) (w := V115) 22 (Oper.type (o_KeccakWhole 1022 10)) 5 i0 (.int .u8 0) 1 1 Try.underlying22 hi0 hz0 hz1 hz2 rfl (by decide) (.slice (some ⟨g9, 0, none⟩) 9 9) 9 (B (ahead x.length)) h128 (.slice A0 x.length cap0) x.length (B x) (h120.src) (by unfold maxLen; omega) (by omega)
      have kV131 : Keeps (fun j => (.slice (some ⟨g9, 0, none⟩) 9 9 : Value).ownBlock = some j) V115 V131 := Keeps.rowAdd hg134
      have hw137 : NewFrom (gy + 1) v130 := hw129.next (lt_of_block h125) ha136
      refine ps_run (o_KeccakWhole 1022 10) v130 (w' := V131) (by kernel_rfl) (by kernel_rfl) (exec_append (.tmp 89) (.tmp 90) 22 (by kernel_rfl) (.slice (some ⟨g9, 0, none⟩) 9 9) (.slice A0 x.length cap0) (by kernel_rfl) (by kernel_rfl) hr132) ?_
      have h138 : Row V131 5 1 v130 (9 + x.length) ((B (ahead x.length)) ++ (B x)) := h133
      have h139 : BytesAt V131 (.slice A0 x.length cap0) x := h120.keeps0 kV131 (fun hn j hj e => by have := hx.blockLt hn j hj; have := hw129 j e; omega)
      have h140 : IntsAt V131 (.slice A ls.length cap) ls := IntsAt.keepsB h0 h121 kV131 (fun j hj e => by have := hw129 j e; omega)
      have h141 : HashAt V131 b p (x) := h122.keepsRow kV131 h128
      have h142 : HashAt V131 b' p' (x) := h123.keepsRow kV131 h128
      have h143 : V131.heap[gx]? = some (.cells ((B (Kec.sum x)).toArray) 29 (0, 0)) := (kV131.block gx (lt_of_block h124) (fun e => by have := hw129 _ e; omega)).trans h124
      have h144 : V131.heap[gy]? = some (.cells ((B (Kec.sum x)).toArray) 29 (0, 0)) := (kV131.block gy (lt_of_block h125) (fun e => by have := hw129 _ e; omega)).trans h125
      have K145 : Keeps Nob w V131 := K126.then kV131 (fun i hi hm => absurd hi (by have := hw129 i hm; omega))
      have z146 := kV131.size
      refine ps_k (o_KeccakWhole 1022 11) (v130) ?_
      refine ps_end ?_
      refine sy_a ⟨#[.slice A0 x.length cap0, .slice A ls.length cap, undef, undef, u4, .bool true, pT b 0, pT b' 0, iN a0, iN i, u10, pT gx 0, .int .i64 0, pT gy 0, .int .i64 0, v130, .bool true, .slice A0 x.length cap0, iN x.length, .bool false, .bool false, .slice A ls.length cap, iN ls.length, .bool false, .bool false, undef, pT b 0, pT b' 0, iN i, .slice A ls.length cap, iN ls.length, .bool false, u32, u33, u34, u35, u36, u37, u38, u39, u40, u41, u42, u43, u44, u45, u46, u47, u48, u49, u50, u51, u52, u53, u54, u55, u56, u57, u58, u59, u60, u61, u62, u63, u64, u65, u66, u67, u68, u69, u70, .tuple #[.agg (B (Kec.sum (x))).toArray, .int .i64 0], pT b 0, .tuple #[.agg (B (Kec.sum (x))).toArray, .int .i64 0], .agg (B (Kec.sum (x))).toArray, .int .i64 0, .tuple #[.agg (B (Kec.sum (x))).toArray, .int .i64 0], pT b' 0, .tuple #[.agg (B (Kec.sum (x))).toArray, .int .i64 0], .agg (B (Kec.sum (x))).toArray, .int .i64 0, .slice A0 x.length cap0, iN x.length, iN (x.length % 256), cN ((UInt8.ofNat (x.length % 256)).toNat), .slice A0 x.length cap0, iN x.length, iN (x.length / 256), cN ((UInt8.ofNat (x.length / 256)).toNat), .slice (some ⟨g9, 0, none⟩) 9 9, .slice A0 x.length cap0, v130, undef, undef, undef, undef, undef, undef, undef, undef, undef, undef, undef, undef, undef, undef, undef, undef, undef, undef, undef, undef, undef, undef, undef, undef, undef, undef, undef, undef, undef, undef, undef, undef, undef, undef, undef], []⟩ ?_
      refine then_n ?_
      refine sy_sq (part_KeccakWhole 2046) (part_KeccakWhole 2047) ?_
      refine sy_np ?_
      refine sy_reg ?_
      refine an_begin 19 36 (opsAt (part_KeccakWhole 2046)) (fun W => (W.heap[gx]? = some (.cells ((B (Kec.sum x)).toArray) 29 (0, 0))) ∧ (W.heap[gy]? = some (.cells ((B (Kec.sum x)).toArray) 29 (0, 0)))) #[false, false, false, false, false, false, false, false, false, false, false, false, false, false, false, false, false, false, false, false, false, false, false, false, false, false, false, false, false, false, false, false, false, false, false, false] (by kernel_rfl) (by kernel_rfl) (by kernel_rfl) (by kernel_rfl) ?_
      obtain ⟨V147, eV147⟩ : ∃ V, V131.drew = V := ⟨_, rfl⟩
      have kV147 : Keeps Nob V131 V147 := eV147 ▸ (Keeps.refl _ _).drew
      rw [eV147]
      clear eV147
      have h148 : BytesAt V147 (.slice A0 x.length cap0) x := h139.keepsN kV147
      have h149 : IntsAt V147 (.slice A ls.length cap) ls := h140.keeps kV147
      have h150 : HashAt V147 b p (x) := h141.keepsN kV147
      have h151 : HashAt V147 b' p' (x) := h142.keepsN kV147
      have h152 : V147.heap[gx]? = some (.cells ((B (Kec.sum x)).toArray) 29 (0, 0)) := (kV147.block gx (lt_of_block h143) (fun x => x)).trans h143
      have h153 : V147.heap[gy]? = some (.cells ((B (Kec.sum x)).toArray) 29 (0, 0)) := (kV147.block gy (lt_of_block h144) (fun x => x)).trans h144
      have h154 : Row V147 5 1 v130 (9 + x.length) ((B (ahead x.length)) ++ (B x)) := h138.keeps kV147 (fun _ _ x => x)
      have K155 : Keeps Nob w V147 := K145.then kV147 (fun _ _ x => x.elim)
      have z156 := kV147.size
      refine an_val 0 (o_KeccakWhole 2046 0) (.bool true) (by kernel_rfl) (by kernel_rfl) (by kernel_rfl) (by kernel_rfl) (by kernel_rfl) (fun W hS => by kernel_rfl) ⟨h152, h153⟩ ?_
      refine an_val 1 (o_KeccakWhole 2046 1) (.bool true) (by kernel_rfl) (by kernel_rfl) (by kernel_rfl) (by kernel_rfl) (by kernel_rfl) (fun W hS => by kernel_rfl) ⟨h152, h153⟩ ?_
      refine an_val 2 (o_KeccakWhole 2046 2) (.int .i64 0) (by kernel_rfl) (by kernel_rfl) (by kernel_rfl) (by kernel_rfl) (by kernel_rfl) (fun W hS => by kernel_rfl) ⟨h152, h153⟩ ?_
      refine an_val 3 (o_KeccakWhole 2046 3) (.bool true) (by kernel_rfl) (by kernel_rfl) (by kernel_rfl) (by kernel_rfl) (by kernel_rfl) (fun W hS => by kernel_rfl) ⟨h152, h153⟩ ?_
      refine an_val 4 (o_KeccakWhole 2046 4) (.bool true) (by kernel_rfl) (by kernel_rfl) (by kernel_rfl) (by kernel_rfl) (by kernel_rfl) (fun W hS => by kernel_rfl) ⟨h152, h153⟩ ?_
      refine an_val 5 (o_KeccakWhole 2046 5) (.bool true) (by kernel_rfl) (by kernel_rfl) (by kernel_rfl) (by kernel_rfl) (by kernel_rfl) (fun W hS => by kernel_rfl) ⟨h152, h153⟩ ?_
      refine an_val 6 (o_KeccakWhole 2046 6) (.int .i64 0) (by kernel_rfl) (by kernel_rfl) (by kernel_rfl) (by kernel_rfl) (by kernel_rfl) (fun W hS => by kernel_rfl) ⟨h152, h153⟩ ?_
      refine an_val 7 (o_KeccakWhole 2046 7) (.bool true) (by kernel_rfl) (by kernel_rfl) (by kernel_rfl) (by kernel_rfl) (by kernel_rfl) (fun W hS => by kernel_rfl) ⟨h152, h153⟩ ?_
      refine an_val 8 (o_KeccakWhole 2046 8) (.bool true) (by kernel_rfl) (by kernel_rfl) (by kernel_rfl) (by kernel_rfl) (by kernel_rfl) (fun W hS => by kernel_rfl) ⟨h152, h153⟩ ?_
      refine an_val 9 (o_KeccakWhole 2046 9) (.bool true) (by kernel_rfl) (by kernel_rfl) (by kernel_rfl) (by kernel_rfl) (by kernel_rfl) (fun W hS => by kernel_rfl) ⟨h152, h153⟩ ?_
      refine an_val 10 (o_KeccakWhole 2046 10) (.agg ((B (Kec.sum x)).toArray)) (by kernel_rfl) (by kernel_rfl) (by kernel_rfl) (by kernel_rfl) (by kernel_rfl) (fun W hS => exec_load_row 29 (.tmp 11) (by kernel_rfl) gx (by kernel_rfl) _ _ (0, 0) _ (hS.1) Try.underlying29 rfl (by rw [Bz_size, (Kec.sum_len _)]; kernel_rfl)) ⟨h152, h153⟩ ?_
      refine an_val 11 (o_KeccakWhole 2046 11) (.agg ((B (Kec.sum x)).toArray)) (by kernel_rfl) (by kernel_rfl) (by kernel_rfl) (by kernel_rfl) (by kernel_rfl) (fun W hS => exec_load_row 29 (.tmp 13) (by kernel_rfl) gy (by kernel_rfl) _ _ (0, 0) _ (hS.2) Try.underlying29 rfl (by rw [Bz_size, (Kec.sum_len _)]; kernel_rfl)) ⟨h152, h153⟩ ?_
      refine an_val 12 (o_KeccakWhole 2046 12) (.bool true) (by kernel_rfl) (by kernel_rfl) (by kernel_rfl) (by kernel_rfl) (by kernel_rfl) (fun W hS => exec_cast (congrArg Value.bool (by simp)) (exec_binop .eql 29 29 (.tmp 102) (.tmp 103) (by kernel_rfl) (.agg (B (Kec.sum (x))).toArray) (.agg (B (Kec.sum (x))).toArray) _ (by kernel_rfl) (by kernel_rfl) (run_eqGuard_agg _ _ _ _ _ _ _ khash_guard) (khash_eql _ _ (Kec.sum_len _) (Kec.sum_len _) _))) ⟨h152, h153⟩ ?_
      refine an_val 13 (o_KeccakWhole 2046 13) (.bool true) (by kernel_rfl) (by kernel_rfl) (by kernel_rfl) (by kernel_rfl) (by kernel_rfl) (fun W hS => by kernel_rfl) ⟨h152, h153⟩ ?_
      refine an_val 14 (o_KeccakWhole 2046 14) (.bool true) (by kernel_rfl) (by kernel_rfl) (by kernel_rfl) (by kernel_rfl) (by kernel_rfl) (fun W hS => by kernel_rfl) ⟨h152, h153⟩ ?_
      refine an_val 15 (o_KeccakWhole 2046 15) (.agg ((B (Kec.sum x)).toArray)) (by kernel_rfl) (by kernel_rfl) (by kernel_rfl) (by kernel_rfl) (by kernel_rfl) (fun W hS => exec_load_row 29 (.tmp 11) (by kernel_rfl) gx (by kernel_rfl) _ _ (0, 0) _ (hS.1) Try.underlying29 rfl (by rw [Bz_size, (Kec.sum_len _)]; kernel_rfl)) ⟨h152, h153⟩ ?_
      refine an_val 16 (o_KeccakWhole 2046 16) (.slice A0 x.length cap0) (by kernel_rfl) (by kernel_rfl) (by kernel_rfl) (by kernel_rfl) (by kernel_rfl) (fun W hS => by kernel_rfl) ⟨h152, h153⟩ ?_
      refine an_one 17 (by kernel_rfl) ?_
      refine on_call (o_KeccakWhole 2046 17) 24 #[.slice A0 x.length cap0] (by kernel_rfl) (by kernel_rfl) (by kernel_rfl) (by kernel_rfl) (enters_of Try.func24 (by kernel_rfl) rfl) ((kSum_ok x _ _ _ h148 (by omega)).mono ?_)
      rintro e V157 ⟨rfl, kV157⟩
      refine ⟨_, rfl, ?_⟩
      have h158 : BytesAt V157 (.slice A0 x.length cap0) x := h148.keepsN kV157
      have h159 : IntsAt V157 (.slice A ls.length cap) ls := h149.keeps kV157
      have h160 : HashAt V157 b p (x) := h150.keepsN kV157
      have h161 : HashAt V157 b' p' (x) := h151.keepsN kV157
      have h162 : V157.heap[gx]? = some (.cells ((B (Kec.sum x)).toArray) 29 (0, 0)) := (kV157.block gx (lt_of_block h152) (fun x => x)).trans h152
      have h163 : V157.heap[gy]? = some (.cells ((B (Kec.sum x)).toArray) 29 (0, 0)) := (kV157.block gy (lt_of_block h153) (fun x => x)).trans h153
      have h164 : Row V157 5 1 v130 (9 + x.length) ((B (ahead x.length)) ++ (B x)) := h154.keeps kV157 (fun _ _ x => x)
      have K165 : Keeps Nob w V157 := K155.then kV157 (fun _ _ x => x.elim)
      have z166 := kV157.size
      refine ⟨⟨h162, h163⟩, ?_⟩
      refine an_val 18 (o_KeccakWhole 2046 18) (.bool true) (by kernel_rfl) (by kernel_rfl) (by kernel_rfl) (by kernel_rfl) (by kernel_rfl) (fun W hS => exec_cast (congrArg Value.bool (by simp)) (exec_binop .eql 29 29 (.tmp 107) (.tmp 109) (by kernel_rfl) (.agg (B (Kec.sum (x))).toArray) (.agg (B (Kec.sum (x))).toArray) _ (by kernel_rfl) (by kernel_rfl) (run_eqGuard_agg _ _ _ _ _ _ _ khash_guard) (khash_eql _ _ (Kec.sum_len _) (Kec.sum_len _) _))) ⟨h162, h163⟩ ?_
      refine an_val 19 (o_KeccakWhole 2046 19) (.bool true) (by kernel_rfl) (by kernel_rfl) (by kernel_rfl) (by kernel_rfl) (by kernel_rfl) (fun W hS => by kernel_rfl) ⟨h162, h163⟩ ?_
      refine an_val 20 (o_KeccakWhole 2046 20) (.bool true) (by kernel_rfl) (by kernel_rfl) (by kernel_rfl) (by kernel_rfl) (by kernel_rfl) (fun W hS => by kernel_rfl) ⟨h162, h163⟩ ?_
      refine an_val 21 (o_KeccakWhole 2046 21) (pT b 0) (by kernel_rfl) (by kernel_rfl) (by kernel_rfl) (by kernel_rfl) (by kernel_rfl) (fun W hS => by kernel_rfl) ⟨h162, h163⟩ ?_
      refine an_val 23 (o_KeccakWhole 2046 23) (.slice A0 x.length cap0) (by kernel_rfl) (by kernel_rfl) (by kernel_rfl) (by kernel_rfl) (by kernel_rfl) (fun W hS => by kernel_rfl) ⟨h162, h163⟩ ?_
      refine an_val 24 (o_KeccakWhole 2046 24) (iN x.length) (by kernel_rfl) (by kernel_rfl) (by kernel_rfl) (by kernel_rfl) (by kernel_rfl) (fun W hS => exec_len (.tmp 115) 22 _ (by kernel_rfl) Try.underlying22 A0 x.length cap0 (by kernel_rfl)) ⟨h162, h163⟩ ?_
      refine an_one 22 (by kernel_rfl) ?_
      refine on_call (o_KeccakWhole 2046 22) 12 #[pT b 0] (by kernel_rfl) (by kernel_rfl) (by kernel_rfl) (by kernel_rfl) (enters_of Try.func12 (by kernel_rfl) rfl) ((kHLen_ok b p x _ h160).mono ?_)
      rintro e w1 ⟨rfl, rfl⟩
      refine ⟨_, rfl, ?_⟩
      refine ⟨⟨h162, h163⟩, ?_⟩
      refine an_val 25 (o_KeccakWhole 2046 25) (.bool true) (by kernel_rfl) (by kernel_rfl) (by kernel_rfl) (by kernel_rfl) (by kernel_rfl) (fun W hS => exec_cast (congrArg Value.bool (show (((((x.length : Nat) : Int)) == (((x.length : Nat) : Int)))) = true from by simp)) (by kernel_rfl)) ⟨h162, h163⟩ ?_
      refine an_val 26 (o_KeccakWhole 2046 26) (.bool true) (by kernel_rfl) (by kernel_rfl) (by kernel_rfl) (by kernel_rfl) (by kernel_rfl) (fun W hS => by kernel_rfl) ⟨h162, h163⟩ ?_
      refine an_val 27 (o_KeccakWhole 2046 27) (.bool true) (by kernel_rfl) (by kernel_rfl) (by kernel_rfl) (by kernel_rfl) (by kernel_rfl) (fun W hS => by kernel_rfl) ⟨h162, h163⟩ ?_
      refine an_val 28 (o_KeccakWhole 2046 28) (.slice A0 x.length cap0) (by kernel_rfl) (by kernel_rfl) (by kernel_rfl) (by kernel_rfl) (by kernel_rfl) (fun W hS => by kernel_rfl) ⟨h162, h163⟩ ?_
      refine an_val 31 (o_KeccakWhole 2046 31) (v130) (by kernel_rfl) (by kernel_rfl) (by kernel_rfl) (by kernel_rfl) (by kernel_rfl) (fun W hS => by kernel_rfl) ⟨h162, h163⟩ ?_
      refine an_one 29 (by kernel_rfl) ?_
      obtain ⟨V167, eV167⟩ : ∃ V, V157.alloc (.cells (#[.slice A0 x.length cap0]) 22) = V := ⟨_, rfl⟩
      obtain ⟨gl, egl⟩ : ∃ g, V157.heap.size = g := ⟨_, rfl⟩
      have n169 : gx < gl := egl ▸ lt_of_block h162
      have n170 : gy < gl := egl ▸ lt_of_block h163
      have n171 : w.heap.size ≤ gl := egl ▸ K165.size
      have h168 : V167.heap[gl]? = some (.cells (#[.slice A0 x.length cap0]) 22 (0, 0)) := by rw [← eV167, ← egl]; exact heap_alloc_new _ _
      have kV167 : Keeps Nob V157 V167 := eV167 ▸ (Keeps.refl _ _).alloc _
      refine on_run (o_KeccakWhole 2046 29) (.slice (some ⟨gl, 0, none⟩) 1 1) (w' := V167) (by kernel_rfl) (by kernel_rfl) (by rw [← eV167, ← egl]; kernel_rfl) ?_
      have h172 : BytesAt V167 (.slice A0 x.length cap0) x := h158.keepsN kV167
      have h173 : IntsAt V167 (.slice A ls.length cap) ls := h159.keeps kV167
      have h174 : HashAt V167 b p (x) := h160.keepsN kV167
      have h175 : HashAt V167 b' p' (x) := h161.keepsN kV167
      have h176 : V167.heap[gx]? = some (.cells ((B (Kec.sum x)).toArray) 29 (0, 0)) := (kV167.block gx (lt_of_block h162) (fun x => x)).trans h162
      have h177 : V167.heap[gy]? = some (.cells ((B (Kec.sum x)).toArray) 29 (0, 0)) := (kV167.block gy (lt_of_block h163) (fun x => x)).trans h163
      have h178 : Row V167 5 1 v130 (9 + x.length) ((B (ahead x.length)) ++ (B x)) := h164.keeps kV167 (fun _ _ x => x)
      have K179 : Keeps Nob w V167 := K165.then kV167 (fun _ _ x => x.elim)
      have z180 := kV167.size
      refine ⟨⟨h176, h177⟩, ?_⟩
      refine an_one 30 (by kernel_rfl) ?_
      refine on_call (o_KeccakWhole 2046 30) 25 #[.int .u8 7, .slice (some ⟨gl, 0, none⟩) 1 1] (by kernel_rfl) (by kernel_rfl) (by kernel_rfl) (by kernel_rfl) (enters_of Try.func25 (by kernel_rfl) rfl) ((kJoin7 _ _ x _ (one_list h168 h172) (by omega)).mono ?_)
      rintro e V181 ⟨rfl, kV181⟩
      refine ⟨_, rfl, ?_⟩
      have h182 : BytesAt V181 (.slice A0 x.length cap0) x := h172.keepsN kV181
      have h183 : IntsAt V181 (.slice A ls.length cap) ls := h173.keeps kV181
      have h184 : HashAt V181 b p (x) := h174.keepsN kV181
      have h185 : HashAt V181 b' p' (x) := h175.keepsN kV181
      have h186 : V181.heap[gx]? = some (.cells ((B (Kec.sum x)).toArray) 29 (0, 0)) := (kV181.block gx (lt_of_block h176) (fun x => x)).trans h176
      have h187 : V181.heap[gy]? = some (.cells ((B (Kec.sum x)).toArray) 29 (0, 0)) := (kV181.block gy (lt_of_block h177) (fun x => x)).trans h177
      have h188 : Row V181 5 1 v130 (9 + x.length) ((B (ahead x.length)) ++ (B x)) := h178.keeps kV181 (fun _ _ x => x)
      have h189 : V181.heap[gl]? = some (.cells (#[.slice A0 x.length cap0]) 22 (0, 0)) := (kV181.block gl (lt_of_block h168) (fun x => x)).trans h168
      have K190 : Keeps Nob w V181 := K179.then kV181 (fun _ _ x => x.elim)
      have z191 := kV181.size
      refine ⟨⟨h186, h187⟩, ?_⟩
      refine an_one 32 (by kernel_rfl) ?_
      refine on_call (o_KeccakWhole 2046 32) 24 #[v130] (by kernel_rfl) (by kernel_rfl) (by kernel_rfl) (by kernel_rfl) (enters_of Try.func24 (by kernel_rfl) rfl) ((kSum_any _ (ahead x.length ++ x) _ (row_ahead h188) (by simp [ahead]; omega)).mono ?_)
      rintro e V192 ⟨rfl, kV192⟩
      refine ⟨_, rfl, ?_⟩
      have h193 : BytesAt V192 (.slice A0 x.length cap0) x := h182.keepsN kV192
      have h194 : IntsAt V192 (.slice A ls.length cap) ls := h183.keeps kV192
      have h195 : HashAt V192 b p (x) := h184.keepsN kV192
      have h196 : HashAt V192 b' p' (x) := h185.keepsN kV192
      have h197 : V192.heap[gx]? = some (.cells ((B (Kec.sum x)).toArray) 29 (0, 0)) := (kV192.block gx (lt_of_block h186) (fun x => x)).trans h186
      have h198 : V192.heap[gy]? = some (.cells ((B (Kec.sum x)).toArray) 29 (0, 0)) := (kV192.block gy (lt_of_block h187) (fun x => x)).trans h187
      have h199 : Row V192 5 1 v130 (9 + x.length) ((B (ahead x.length)) ++ (B x)) := h188.keeps kV192 (fun _ _ x => x)
      have h200 : V192.heap[gl]? = some (.cells (#[.slice A0 x.length cap0]) 22 (0, 0)) := (kV192.block gl (lt_of_block h189) (fun x => x)).trans h189
      have K201 : Keeps Nob w V192 := K190.then kV192 (fun _ _ x => x.elim)
      have z202 := kV192.size
      refine ⟨⟨h197, h198⟩, ?_⟩
      refine an_val 33 (o_KeccakWhole 2046 33) (.bool true) (by kernel_rfl) (by kernel_rfl) (by kernel_rfl) (by kernel_rfl) (by kernel_rfl) (fun W hS => exec_cast (congrArg Value.bool (by simp)) (exec_binop .eql 29 29 (.tmp 122) (.tmp 124) (by kernel_rfl) (.agg (B (Kec.sum (ahead x.length ++ x))).toArray) (.agg (B (Kec.sum (ahead x.length ++ x))).toArray) _ (by kernel_rfl) (by kernel_rfl) (run_eqGuard_agg _ _ _ _ _ _ _ khash_guard) (khash_eql _ _ (Kec.sum_len _) (Kec.sum_len _) _))) ⟨h197, h198⟩ ?_
      refine an_val 34 (o_KeccakWhole 2046 34) (.bool true) (by kernel_rfl) (by kernel_rfl) (by kernel_rfl) (by kernel_rfl) (by kernel_rfl) (fun W hS => by kernel_rfl) ⟨h197, h198⟩ ?_
      refine an_one 35 (by kernel_rfl) ?_
      refine on_run (o_KeccakWhole 2046 35) (.bool true) (w' := V192) (by kernel_rfl) (by kernel_rfl) (by kernel_rfl) ?_
      refine ⟨⟨h197, h198⟩, ?_⟩
      refine an_end (by kernel_rfl) ?_
      refine sy_a ⟨#[.slice A0 x.length cap0, .slice A ls.length cap, undef, undef, .bool true, .bool true, pT b 0, pT b' 0, iN a0, iN i, u10, pT gx 0, .int .i64 0, pT gy 0, .int .i64 0, v130, .bool true, .slice A0 x.length cap0, iN x.length, .bool false, .bool false, .slice A ls.length cap, iN ls.length, .bool false, .bool false, undef, pT b 0, pT b' 0, iN i, .slice A ls.length cap, iN ls.length, .bool false, u32, u33, u34, u35, u36, u37, u38, u39, u40, u41, u42, u43, u44, u45, u46, u47, u48, u49, u50, u51, u52, u53, u54, u55, u56, u57, u58, u59, u60, u61, u62, u63, u64, u65, u66, u67, u68, u69, u70, .tuple #[.agg (B (Kec.sum (x))).toArray, .int .i64 0], pT b 0, .tuple #[.agg (B (Kec.sum (x))).toArray, .int .i64 0], .agg (B (Kec.sum (x))).toArray, .int .i64 0, .tuple #[.agg (B (Kec.sum (x))).toArray, .int .i64 0], pT b' 0, .tuple #[.agg (B (Kec.sum (x))).toArray, .int .i64 0], .agg (B (Kec.sum (x))).toArray, .int .i64 0, .slice A0 x.length cap0, iN x.length, iN (x.length % 256), cN ((UInt8.ofNat (x.length % 256)).toNat), .slice A0 x.length cap0, iN x.length, iN (x.length / 256), cN ((UInt8.ofNat (x.length / 256)).toNat), .slice (some ⟨g9, 0, none⟩) 9 9, .slice A0 x.length cap0, v130, .bool true, .bool true, .int .i64 0, .bool true, .bool true, .bool true, .int .i64 0, .bool true, .bool true, .bool true, .agg ((B (Kec.sum x)).toArray), .agg ((B (Kec.sum x)).toArray), .bool true, .bool true, .bool true, .agg ((B (Kec.sum x)).toArray), .slice A0 x.length cap0, .agg (B (Kec.sum x)).toArray, .bool true, .bool true, .bool true, pT b 0, iN x.length, .slice A0 x.length cap0, iN x.length, .bool true, .bool true, .bool true, .slice A0 x.length cap0, .slice (some ⟨gl, 0, none⟩) 1 1, .agg (B (Kec.sum (ahead x.length ++ x))).toArray, v130, .agg (B (Kec.sum (ahead x.length ++ x))).toArray, .bool true, .bool true], []⟩ ?_
      refine then_n ?_
      refine sy_ret (by kernel_rfl) ?_
      refine sy_out (.bool true) rfl (by kernel_rfl) ?_
      exact ⟨rfl, K201⟩
theorem whole_ok (v0 : Value) (x : List UInt8) (lv : Value) (ls : List Int) (w : World) (hx : BytesAt w v0 x) (h0 : IntsAt w lv ls) :
    Calls Try.prog 9 #[v0, lv] w fun e w' => e = .returned (.bool true) ∧ Keeps Nob w w' := by
  obtain ⟨A0, cap0, rfl⟩ := hx.len
  obtain ⟨A, cap, rfl⟩ := h0.len
  by_cases hb : 500 < x.length
  · exact whole_b A0 A cap0 cap x ls w hx h0 hb
  · by_cases hc : 20 < ls.length
    · exact whole_c A0 A cap0 cap x ls w hx h0 (by omega) hc
    · exact whole_main A0 A cap0 cap x ls w hx h0 (by omega) (by omega)
end Go.Proofs.Ytolbdhgclcemlaa
