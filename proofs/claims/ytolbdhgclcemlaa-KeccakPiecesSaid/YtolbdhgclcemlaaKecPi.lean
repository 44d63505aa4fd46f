/-
  Keccak: what came in pieces, and a copy that goes on by itself (printed by kec20.py). Conditions: none.
-/
import Derived.Test.YtolbdhgclcemlaaKecY
import Derived.Test.YtolbdhgclcemlaaKecL
namespace Go.Proofs.Ytolbdhgclcemlaa
open Go Go.RowKit Go.Own Go.Shelf
theorem khash_neq (l m : List UInt8) (hl : l.length = 32) (hm : m.length = 32) (w : World) : (binOp .neq 29 (.agg (B l).toArray) (.agg (B m).toArray)).run Try.prog w = .ok (.bool (!(l == m))) w := by
  obtain ⟨i0, hi, _, _, _⟩ := info_parts u8_infoK
  have h := run_equalIn_bytes (P := Try.prog) (t := 29) (e := 5) (n := 32) Try.underlying29 hi (by kernel_rfl) Try.underlying5 (by kernel_rfl) 9998 l m w hl hm
  rw [run_neq_struct, h]
  rfl
theorem llong_any {b : Bool} (v : Value) (us : List Value) (ls : List (List UInt8)) (w : World) (h : ListsAt w v us ls) (hB : ∀ (k : Nat) (l : List UInt8), ls[k]? = some l → l.length ≤ 9223372036854775000) (hb : lng ls = b) : Calls Try.prog 15 #[v] w fun e w' => e = .returned (.bool b) ∧ w = w' := by
  subst hb; obtain ⟨A, cap, rfl, _⟩ := h.form; exact llong_ok A cap us ls w h hB
/-- The first pieces together. -/
def cat (ls : List (List UInt8)) (i : Nat) : List UInt8 := (ls.take i).flatten
theorem cat_succ {ls : List (List UInt8)} {i : Nat} {l : List UInt8} (h : ls[i]? = some l) : cat ls (i + 1) = cat ls i ++ l := by unfold cat; rw [List.take_add_one, h]; simp
theorem cat_len (ls : List (List UInt8)) (i : Nat) : (cat ls i).length = tot ls i := by unfold cat tot; rw [List.length_flatten]
theorem cat_split (ls : List (List UInt8)) {i j : Nat} (h : i ≤ j) : ∃ r, cat ls j = cat ls i ++ r := by
  refine ⟨((ls.take j).drop i).flatten, ?_⟩
  unfold cat
  rw [← List.flatten_append, ← show (ls.take j).take i = ls.take i by rw [List.take_take, Nat.min_eq_left h], List.take_append_drop]
theorem cat_take (ls : List (List UInt8)) {i j : Nat} (h : i ≤ j) : (cat ls j).take (cat ls i).length = cat ls i := by
  obtain ⟨r, e⟩ := cat_split ls h; rw [e, List.take_left]
theorem cat_drop (ls : List (List UInt8)) {i j : Nat} (h : i ≤ j) : cat ls i ++ (cat ls j).drop (cat ls i).length = cat ls j := by
  obtain ⟨r, e⟩ := cat_split ls h; rw [e, List.drop_left]
theorem row_cat {w : World} {t : TypeId} {v : Value} {i : Nat} {l : List UInt8} {ls : List (List UInt8)} (hl : ls[i]? = some l) (h : Row w t 1 v ((cat ls i).length + l.length) (B (cat ls i) ++ B l)) : Row w t 1 v (cat ls (i + 1)).length (B (cat ls (i + 1))) := by
  rw [cat_succ hl, B_append, List.length_append]; exact h
theorem HashAt.off {w w' : World} {M : Nat → Prop} {b p : Nat} {l : List UInt8} (h : HashAt w b p l) (k : Keeps M w w') (hm : ∀ j, M j → j ≠ b ∧ j ≠ p) : HashAt w' b p l := h.keeps k (fun e => (hm _ e).1 rfl) (fun e => (hm _ e).2 rfl)
theorem HashAt.keepsRow {w w' : World} {b p n : Nat} {l : List UInt8} {v : Value} {xs : List Value} (h : HashAt w b p l) (k : Keeps (fun j => v.ownBlock = some j) w w') (hv : Row w 5 1 v n xs) : HashAt w' b p l :=
  h.keeps k (Row.ne hv h.cell (by decide)) (Row.ne hv h.sp (by decide))
theorem HashAt.bp {w : World} {b p : Nat} {l : List UInt8} (h : HashAt w b p l) : b < w.heap.size ∧ p < w.heap.size := ⟨lt_of_block h.cell, lt_of_block h.sp⟩
theorem HashAt.offH {w w' : World} {g b p : Nat} {l : List UInt8} {cs : Array Value} {fr : Nat × Nat} (h : HashAt w b p l) (k : Keeps (One g) w w') (hg : w.heap[g]? = some (.cells cs 29 fr)) : HashAt w' b p l :=
  h.off k fun j e => by
    unfold Own.One at e; subst e
    refine ⟨fun e => ?_, fun e => ?_⟩
    · subst e; have := h.cell; rw [hg] at this; simp only [Option.some.injEq, Obj.cells.injEq] at this; exact absurd this.2.1 (by decide)
    · subst e; have := h.sp; unfold SpAt at this; rw [hg] at this; simp only [Option.some.injEq, Obj.cells.injEq] at this; exact absurd this.2.1 (by decide)
theorem row_offH {w w' : World} {g n : Nat} {v : Value} {xs : List Value} {cs : Array Value} {fr : Nat × Nat} (h : Row w 5 1 v n xs) (k : Keeps (One g) w w') (hg : w.heap[g]? = some (.cells cs 29 fr)) : Row w' 5 1 v n xs :=
  h.keeps k fun j hj e => by unfold Own.One at e; subst e; exact Row.ne h hg (by decide) hj
theorem exec_len_rowW {P : Program} {o : Oper} {ρ : Operand → Value} {w0 w : World} (x : Operand) (t e : TypeId) (ho : o.op = .call { callee := .builtin .len, args := #[x], argTypes := #[t] }) (ht : P.underlying t = some (.slice e)) {v : Value} (hx : ρ x = v) {e' : TypeId} {s n : Nat} {xs : List Value} (hr : Row w0 e' s v n xs) :
    (execOp ρ o).run P w = .ok (.value (.int .i64 (n : Int))) w := by
  obtain ⟨_, ⟨rfl, rfl⟩ | ⟨g, cap, cur, rfl, _⟩⟩ := hr
  · exact exec_len x t e ho ht none 0 0 hx
  · exact exec_len x t e ho ht _ n cap hx
/-- The copy: none yet, or one that took what had come. -/
def CSt (w : World) (N p i at_ : Nat) (ls : List (List UInt8)) (v : Value) : Prop :=
  (i ≤ at_ ∧ v = .pointer none) ∨ (at_ < i ∧ ∃ b2 p2, v = .pointer (some ⟨b2, 0, none⟩) ∧ HashAt w b2 p2 (cat ls at_) ∧ b2 ≠ p ∧ p2 ≠ p ∧ N ≤ p2)
theorem CSt.off {w w' : World} {M : Nat → Prop} {N p i at_ : Nat} {ls : List (List UInt8)} {v : Value} (h : CSt w N p i at_ ls v) (k : Keeps M w w') (hm : ∀ j, M j → j = p ∨ w.heap.size ≤ j) : CSt w' N p i at_ ls v := by
  rcases h with h | ⟨h, b2, p2, e, hh, h1, h2, h3⟩
  · exact .inl h
  · have := hh.bp
    exact .inr ⟨h, b2, p2, e, hh.off k (fun j hj => by have := hm j hj; omega), h1, h2, h3⟩
theorem CSt.offH {w w' : World} {g N p i at_ : Nat} {ls : List (List UInt8)} {v : Value} {cs : Array Value} {fr : Nat × Nat} (h : CSt w N p i at_ ls v) (k : Keeps (One g) w w') (hg : w.heap[g]? = some (.cells cs 29 fr)) : CSt w' N p i at_ ls v := by
  rcases h with h | ⟨h, b2, p2, e, hh, h1, h2, h3⟩
  · exact .inl h
  · exact .inr ⟨h, b2, p2, e, hh.offH k hg, h1, h2, h3⟩
theorem CSt.keepsRow {w w' : World} {N p i at_ n : Nat} {ls : List (List UInt8)} {u v : Value} {xs : List Value} (h : CSt w N p i at_ ls v) (k : Keeps (fun j => u.ownBlock = some j) w w') (hv : Row w 5 1 u n xs) : CSt w' N p i at_ ls v := by
  rcases h with h | ⟨h, b2, p2, e, hh, h1, h2, h3⟩
  · exact .inl h
  · exact .inr ⟨h, b2, p2, e, hh.keepsRow k hv, h1, h2, h3⟩
theorem CSt.next {w : World} {N p i at_ : Nat} {ls : List (List UInt8)} {v : Value} (h : CSt w N p i at_ ls v) (hi : i ≠ at_) : CSt w N p (i + 1) at_ ls v := by
  rcases h with ⟨h, e⟩ | ⟨h, r⟩
  · exact .inl ⟨by omega, e⟩
  · exact .inr ⟨by omega, r⟩
theorem pick_at (x : Int) (n : Nat) (w : World) (hx : -9223372036854775808 ≤ x ∧ x ≤ 9223372036854775807) (hn : n + 1 ≤ 9223372036854775807) : Calls Try.prog 16 #[.int .i64 x, .int .i64 ((n + 1 : Nat) : Int)] w fun e w' => ∃ tn : Nat, tn ≤ n ∧ e = .returned (.int .i64 ((tn : Nat) : Int)) ∧ w = w' :=
  (pick_ok x ((n + 1 : Nat) : Int) w hx (by omega)).mono fun e w' ⟨h1, h2⟩ => by
    rw [if_neg (by omega)] at h1
    have h3 := Int.emod_nonneg x (show ((n + 1 : Nat) : Int) ≠ 0 by omega)
    have h4 := Int.emod_lt_of_pos x (show (0 : Int) < ((n + 1 : Nat) : Int) by omega)
    exact ⟨(x % ((n + 1 : Nat) : Int)).toNat, by omega, by rw [h1, Int.toNat_of_nonneg h3], h2⟩
theorem kHWrite_any (b p : Nat) (l x : List UInt8) (v : Value) (w : World) (h : HashAt w b p l) (hx : BytesAt w v x) (hA : 0 < x.length → ∀ j, v.ownBlock = some j → j ≠ p) (hl : l.length + x.length ≤ 9000000000000000000) :
    Calls Try.prog 11 #[.pointer (some ⟨b, 0, none⟩), v] w fun e w' => e = .returned (.int .i64 0) ∧ HashAt w' b p (l ++ x) ∧ Keeps (One p) w w' := by
  obtain ⟨A, cap, rfl⟩ := hx.len; exact kHWrite_ok b p l x A cap w h hx hA hl
theorem cutV_own {A : Option Addr} {n cap k j : Nat} (h : (cutV A n cap k).ownBlock = some j) : (Value.slice A n cap).ownBlock = some j := by
  unfold cutV at h
  cases A with
  | none => by_cases hc : cap = k <;> simp [hc, Value.ownBlock] at h
  | some a =>
    have e : (a.add k).block = a.block := by unfold Addr.add; split <;> rfl
    by_cases hc : cap = k <;> simpa [hc, Value.ownBlock, e] using h

theorem cat_bytes {w : World} {A : Option Addr} {t : TypeId} (ls : List (List UInt8)) {i j : Nat} (h : i ≤ j) (cap : Nat) (hr : Row w t 1 (.slice A (cat ls j).length cap) (cat ls j).length (B (cat ls j))) : BytesAt w (.slice A (cat ls i).length cap) (cat ls i) := by
  have := (Row.bytes hr).take (cat ls i).length (by rw [cat_len, cat_len]; exact tot_mono ls h) _ _ _ rfl
  rwa [cat_take ls h] at this
noncomputable def part_KeccakPieces (n : Nat) : Code := partOf Try.f4 n
noncomputable abbrev o_KeccakPieces (n k : Nat) : Oper := (opsAt (part_KeccakPieces n)).getD k default
set_option maxRecDepth 100000 in
set_option maxHeartbeats 4000000 in
theorem pieces_long (A : Option Addr) (cap : Nat) (us : List Value) (ls : List (List UInt8)) (at_ : Int) (hat : -9223372036854775808 ≤ at_ ∧ at_ ≤ 9223372036854775807) (w : World) (h0 : ListsAt w (.slice A ls.length cap) us ls) (hB : ∀ (k : Nat) (l : List UInt8), ls[k]? = some l → l.length ≤ 9223372036854775000) (hL : lng ls = true) :
    Calls Try.prog 4 #[.slice A ls.length cap, .int .i64 at_] w (fun e w' => e = .returned (.bool true) ∧ Keeps Nob w w') := by
  obtain ⟨i0, hi0, hz0, hz1, hz2⟩ := info_parts u8_infoK
  have K0 : Keeps Nob w w := Keeps.refl _ _
  refine sy_enter (part_KeccakPieces 1) ⟨#[.slice A ls.length cap, .int .i64 at_, undef, undef, undef, undef, undef, undef, undef, undef, undef, undef, undef, undef, undef, undef, undef, undef, undef, undef, undef, undef, undef, undef, undef, undef, undef, undef, undef, undef, undef, undef, undef, undef, undef, undef, undef, undef, undef, undef, undef, undef, undef, undef, undef, undef, undef, undef, undef, undef, undef, undef, undef, undef, undef, undef, undef, undef, undef, undef, undef, undef, undef, undef, undef, undef, undef, undef, undef, undef, undef, undef, undef, undef, undef, undef, undef, undef, undef, undef, undef, undef, undef, undef, undef, undef, undef, undef, undef, undef, undef, undef, undef, undef, undef, undef, undef, undef, undef, undef, undef, undef, undef, undef, undef, undef, undef, undef, undef, undef, undef, undef, undef, undef, undef, undef, undef, undef, undef, undef, undef, undef, undef, undef, undef, undef, undef], []⟩ Try.func4 (by kernel_rfl) (by kernel_rfl) ?_
  refine sy_sq (part_KeccakPieces 2) (part_KeccakPieces 3) ?_
  refine sy_reg ?_
  refine rg_plain 0 (opsAt (part_KeccakPieces 2)) [0] (by kernel_rfl) (by kernel_rfl) ?_
  refine ps_k (o_KeccakPieces 2 0) (.bool false) ?_
  refine ps_end ?_
  refine sy_a ⟨#[.slice A ls.length cap, .int .i64 at_, undef, undef, .bool false, undef, undef, undef, undef, undef, undef, undef, undef, undef, undef, undef, undef, undef, undef, undef, undef, undef, undef, undef, undef, undef, undef, undef, undef, undef, undef, undef, undef, undef, undef, undef, undef, undef, undef, undef, undef, undef, undef, undef, undef, undef, undef, undef, undef, undef, undef, undef, undef, undef, undef, undef, undef, undef, undef, undef, undef, undef, undef, undef, undef, undef, undef, undef, undef, undef, undef, undef, undef, undef, undef, undef, undef, undef, undef, undef, undef, undef, undef, undef, undef, undef, undef, undef, undef, undef, undef, undef, undef, undef, undef, undef, undef, undef, undef, undef, undef, undef, undef, undef, undef, undef, undef, undef, undef, undef, undef, undef, undef, undef, undef, undef, undef, undef, undef, undef, undef, undef, undef, undef, undef, undef, undef], []⟩ ?_
  refine then_n ?_
  refine sy_sq (part_KeccakPieces 6) (part_KeccakPieces 7) ?_
  refine sy_sq (part_KeccakPieces 12) (part_KeccakPieces 13) ?_
  refine sy_reg ?_
  refine rg_plain 1 (opsAt (part_KeccakPieces 12)) [0, 1] (by kernel_rfl) (by kernel_rfl) ?_
  refine ps_k (o_KeccakPieces 12 0) (.slice A ls.length cap) ?_
  refine ps_call (o_KeccakPieces 12 1) 15 #[.slice A ls.length cap] (by kernel_rfl) (by kernel_rfl) (by kernel_rfl) (by kernel_rfl) (enters_of Try.func15 (by kernel_rfl) rfl) ((llong_any _ _ ls _ h0 hB hL).mono ?_)
  rintro e w1 ⟨rfl, rfl⟩
  refine ⟨_, rfl, ?_⟩
  refine ps_end ?_
  refine sy_a ⟨#[.slice A ls.length cap, .int .i64 at_, undef, undef, .bool false, undef, undef, undef, undef, undef, undef, undef, undef, undef, undef, .slice A ls.length cap, .bool true, undef, undef, undef, undef, undef, undef, undef, undef, undef, undef, undef, undef, undef, undef, undef, undef, undef, undef, undef, undef, undef, undef, undef, undef, undef, undef, undef, undef, undef, undef, undef, undef, undef, undef, undef, undef, undef, undef, undef, undef, undef, undef, undef, undef, undef, undef, undef, undef, undef, undef, undef, undef, undef, undef, undef, undef, undef, undef, undef, undef, undef, undef, undef, undef, undef, undef, undef, undef, undef, undef, undef, undef, undef, undef, undef, undef, undef, undef, undef, undef, undef, undef, undef, undef, undef, undef, undef, undef, undef, undef, undef, undef, undef, undef, undef, undef, undef, undef, undef, undef, undef, undef, undef, undef, undef, undef, undef, undef, undef, undef], []⟩ ?_
  refine then_n ?_
  refine sy_ys (.tmp 16) (part_KeccakPieces 26) (part_KeccakPieces 27) ?_
  refine sy_sq (part_KeccakPieces 52) (part_KeccakPieces 53) ?_
  refine sy_reg ?_
  refine rg_plain 2 (opsAt (part_KeccakPieces 52)) [0, 1] (by kernel_rfl) (by kernel_rfl) ?_
  refine ps_call (o_KeccakPieces 52 0) 14 #[] (by kernel_rfl) (by kernel_rfl) (by kernel_rfl) (by kernel_rfl) (enters_of Try.func14 (by kernel_rfl) rfl) ((lawake_ok _).mono ?_)
  rintro e V1 ⟨rfl, kV1⟩
  refine ⟨_, rfl, ?_⟩
  have h2 : ListsAt V1 (.slice A ls.length cap) us ls := h0.keepsN kV1
  have K3 : Keeps Nob w V1 := K0.then kV1 (fun _ _ x => x.elim)
  have z4 := kV1.size
  refine ps_k (o_KeccakPieces 52 1) (.bool true) ?_
  refine ps_end ?_
  refine sy_a ⟨#[.slice A ls.length cap, .int .i64 at_, undef, undef, .bool true, undef, undef, undef, undef, undef, undef, undef, undef, undef, undef, .slice A ls.length cap, .bool true, .bool true, undef, undef, undef, undef, undef, undef, undef, undef, undef, undef, undef, undef, undef, undef, undef, undef, undef, undef, undef, undef, undef, undef, undef, undef, undef, undef, undef, undef, undef, undef, undef, undef, undef, undef, undef, undef, undef, undef, undef, undef, undef, undef, undef, undef, undef, undef, undef, undef, undef, undef, undef, undef, undef, undef, undef, undef, undef, undef, undef, undef, undef, undef, undef, undef, undef, undef, undef, undef, undef, undef, undef, undef, undef, undef, undef, undef, undef, undef, undef, undef, undef, undef, undef, undef, undef, undef, undef, undef, undef, undef, undef, undef, undef, undef, undef, undef, undef, undef, undef, undef, undef, undef, undef, undef, undef, undef, undef, undef, undef], []⟩ ?_
  refine then_n ?_
  refine sy_ret (by kernel_rfl) ?_
  refine then_r ?_
  refine sy_out (.bool true) rfl (by kernel_rfl) ?_
  exact ⟨rfl, K3⟩
set_option maxRecDepth 100000 in
set_option maxHeartbeats 4000000 in
theorem pieces_main (A : Option Addr) (cap : Nat) (us : List Value) (ls : List (List UInt8)) (at_ : Int) (hat : -9223372036854775808 ≤ at_ ∧ at_ ≤ 9223372036854775807) (w : World) (h0 : ListsAt w (.slice A ls.length cap) us ls) (hB : ∀ (k : Nat) (l : List UInt8), ls[k]? = some l → l.length ≤ 9223372036854775000) (hL : lng ls = false) :
    Calls Try.prog 4 #[.slice A ls.length cap, .int .i64 at_] w (fun e w' => e = .returned (.bool true) ∧ Keeps Nob w w') := by
  obtain ⟨i0, hi0, hz0, hz1, hz2⟩ := info_parts u8_infoK
  obtain ⟨hS1, hS2⟩ := lng_small hL
  have r0 : Row w 5 1 (.slice none 0 0) (cat ls 0).length (B (cat ls 0)) := World.ownsRow_nil _ _ _ _
  have nw0 := NewFrom.nil w.heap.size
  have K0 : Keeps Nob w w := Keeps.refl _ _
  refine sy_enter (part_KeccakPieces 1) ⟨#[.slice A ls.length cap, .int .i64 at_, undef, undef, undef, undef, undef, undef, undef, undef, undef, undef, undef, undef, undef, undef, undef, undef, undef, undef, undef, undef, undef, undef, undef, undef, undef, undef, undef, undef, undef, undef, undef, undef, undef, undef, undef, undef, undef, undef, undef, undef, undef, undef, undef, undef, undef, undef, undef, undef, undef, undef, undef, undef, undef, undef, undef, undef, undef, undef, undef, undef, undef, undef, undef, undef, undef, undef, undef, undef, undef, undef, undef, undef, undef, undef, undef, undef, undef, undef, undef, undef, undef, undef, undef, undef, undef, undef, undef, undef, undef, undef, undef, undef, undef, undef, undef, undef, undef, undef, undef, undef, undef, undef, undef, undef, undef, undef, undef, undef, undef, undef, undef, undef, undef, undef, undef, undef, undef, undef, undef, undef, undef, undef, undef, undef, undef], []⟩ Try.func4 (by kernel_rfl) (by kernel_rfl) ?_
  refine sy_sq (part_KeccakPieces 2) (part_KeccakPieces 3) ?_
  refine sy_reg ?_
  refine rg_plain 0 (opsAt (part_KeccakPieces 2)) [0] (by kernel_rfl) (by kernel_rfl) ?_
  refine ps_k (o_KeccakPieces 2 0) (.bool false) ?_
  refine ps_end ?_
  refine sy_a ⟨#[.slice A ls.length cap, .int .i64 at_, undef, undef, .bool false, undef, undef, undef, undef, undef, undef, undef, undef, undef, undef, undef, undef, undef, undef, undef, undef, undef, undef, undef, undef, undef, undef, undef, undef, undef, undef, undef, undef, undef, undef, undef, undef, undef, undef, undef, undef, undef, undef, undef, undef, undef, undef, undef, undef, undef, undef, undef, undef, undef, undef, undef, undef, undef, undef, undef, undef, undef, undef, undef, undef, undef, undef, undef, undef, undef, undef, undef, undef, undef, undef, undef, undef, undef, undef, undef, undef, undef, undef, undef, undef, undef, undef, undef, undef, undef, undef, undef, undef, undef, undef, undef, undef, undef, undef, undef, undef, undef, undef, undef, undef, undef, undef, undef, undef, undef, undef, undef, undef, undef, undef, undef, undef, undef, undef, undef, undef, undef, undef, undef, undef, undef, undef], []⟩ ?_
  refine then_n ?_
  refine sy_sq (part_KeccakPieces 6) (part_KeccakPieces 7) ?_
  refine sy_sq (part_KeccakPieces 12) (part_KeccakPieces 13) ?_
  refine sy_reg ?_
  refine rg_plain 1 (opsAt (part_KeccakPieces 12)) [0, 1] (by kernel_rfl) (by kernel_rfl) ?_
  refine ps_k (o_KeccakPieces 12 0) (.slice A ls.length cap) ?_
  refine ps_call (o_KeccakPieces 12 1) 15 #[.slice A ls.length cap] (by kernel_rfl) (by kernel_rfl) (by kernel_rfl) (by kernel_rfl) (enters_of Try.func15 (by kernel_rfl) rfl) ((llong_any _ _ ls _ h0 hB hL).mono ?_)
  rintro e w1 ⟨rfl, rfl⟩
  refine ⟨_, rfl, ?_⟩
  refine ps_end ?_
  refine sy_a ⟨#[.slice A ls.length cap, .int .i64 at_, undef, undef, .bool false, undef, undef, undef, undef, undef, undef, undef, undef, undef, undef, .slice A ls.length cap, .bool false, undef, undef, undef, undef, undef, undef, undef, undef, undef, undef, undef, undef, undef, undef, undef, undef, undef, undef, undef, undef, undef, undef, undef, undef, undef, undef, undef, undef, undef, undef, undef, undef, undef, undef, undef, undef, undef, undef, undef, undef, undef, undef, undef, undef, undef, undef, undef, undef, undef, undef, undef, undef, undef, undef, undef, undef, undef, undef, undef, undef, undef, undef, undef, undef, undef, undef, undef, undef, undef, undef, undef, undef, undef, undef, undef, undef, undef, undef, undef, undef, undef, undef, undef, undef, undef, undef, undef, undef, undef, undef, undef, undef, undef, undef, undef, undef, undef, undef, undef, undef, undef, undef, undef, undef, undef, undef, undef, undef, undef, undef], []⟩ ?_
  refine then_n ?_
  refine sy_n (.tmp 16) (part_KeccakPieces 26) (part_KeccakPieces 27) ?_
  refine sy_sk ?_
  refine then_n ?_
  refine sy_sq (part_KeccakPieces 14) (part_KeccakPieces 15) ?_
  refine sy_reg ?_
  refine rg_plain 3 (opsAt (part_KeccakPieces 14)) [0, 1, 2, 3, 4, 5] (by kernel_rfl) (by kernel_rfl) ?_
  refine ps_k (o_KeccakPieces 14 0) (.int .i64 at_) ?_
  refine ps_k (o_KeccakPieces 14 1) (.slice A ls.length cap) ?_
  refine ps_p (o_KeccakPieces 14 2) (iN ls.length) (exec_len (.tmp 19) 38 _ (by kernel_rfl) Try.underlying38 A ls.length cap (by kernel_rfl)) ?_
  refine ps_p (o_KeccakPieces 14 3) (iN (ls.length + 1)) (exec_cast (congrArg (Value.int .i64) (wrapN (ls.length + 1) (by omega))) (by kernel_rfl)) ?_
  refine ps_call (o_KeccakPieces 14 4) 16 #[.int .i64 at_, iN (ls.length + 1)] (by kernel_rfl) (by kernel_rfl) (by kernel_rfl) (by kernel_rfl) (enters_of Try.func16 (by kernel_rfl) rfl) ((pick_at at_ ls.length _ hat (by omega)).mono ?_)
  rintro e w1 ⟨AT, hAT, rfl, rfl⟩
  refine ⟨_, rfl, ?_⟩
  refine ps_k (o_KeccakPieces 14 5) (iN AT) ?_
  refine ps_end ?_
  refine sy_a ⟨#[.slice A ls.length cap, iN AT, undef, undef, .bool false, undef, undef, undef, undef, undef, undef, undef, undef, undef, undef, .slice A ls.length cap, .bool false, undef, .int .i64 at_, .slice A ls.length cap, iN ls.length, iN (ls.length + 1), iN AT, undef, undef, undef, undef, undef, undef, undef, undef, undef, undef, undef, undef, undef, undef, undef, undef, undef, undef, undef, undef, undef, undef, undef, undef, undef, undef, undef, undef, undef, undef, undef, undef, undef, undef, undef, undef, undef, undef, undef, undef, undef, undef, undef, undef, undef, undef, undef, undef, undef, undef, undef, undef, undef, undef, undef, undef, undef, undef, undef, undef, undef, undef, undef, undef, undef, undef, undef, undef, undef, undef, undef, undef, undef, undef, undef, undef, undef, undef, undef, undef, undef, undef, undef, undef, undef, undef, undef, undef, undef, undef, undef, undef, undef, undef, undef, undef, undef, undef, undef, undef, undef, undef, undef, undef], []⟩ ?_
  refine then_n ?_
  refine sy_sq (part_KeccakPieces 30) (part_KeccakPieces 31) ?_
  refine sy_reg ?_
  refine rg_plain 4 (opsAt (part_KeccakPieces 30)) [0, 1] (by kernel_rfl) (by kernel_rfl) ?_
  refine ps_call (o_KeccakPieces 30 0) 17 #[] (by kernel_rfl) (by kernel_rfl) (by kernel_rfl) (by kernel_rfl) (enters_of Try.func17 (by kernel_rfl) rfl) ((kNew_ok _).mono ?_)
  rintro e V1 ⟨b, p, rfl, hV1, hb0, hp0, kV1⟩
  have hb1 := hV1.bp
  have cs0 : CSt V1 w.heap.size p 0 AT ls (.pointer none) := .inl ⟨Nat.zero_le _, rfl⟩
  refine ⟨_, rfl, ?_⟩
  have h2 : ListsAt V1 (.slice A ls.length cap) us ls := h0.keepsN kV1
  have h3 : Row V1 5 1 (.slice none 0 0) ((cat ls 0).length) (B (cat ls 0)) := r0.keeps kV1 (fun _ _ x => x)
  have K4 : Keeps Nob w V1 := K0.then kV1 (fun _ _ x => x.elim)
  have z5 := kV1.size
  refine ps_k (o_KeccakPieces 30 1) (pT b 0) ?_
  refine ps_end ?_
  refine sy_a ⟨#[.slice A ls.length cap, iN AT, undef, undef, .bool false, pT b 0, undef, undef, undef, undef, undef, undef, undef, undef, undef, .slice A ls.length cap, .bool false, undef, .int .i64 at_, .slice A ls.length cap, iN ls.length, iN (ls.length + 1), iN AT, pT b 0, undef, undef, undef, undef, undef, undef, undef, undef, undef, undef, undef, undef, undef, undef, undef, undef, undef, undef, undef, undef, undef, undef, undef, undef, undef, undef, undef, undef, undef, undef, undef, undef, undef, undef, undef, undef, undef, undef, undef, undef, undef, undef, undef, undef, undef, undef, undef, undef, undef, undef, undef, undef, undef, undef, undef, undef, undef, undef, undef, undef, undef, undef, undef, undef, undef, undef, undef, undef, undef, undef, undef, undef, undef, undef, undef, undef, undef, undef, undef, undef, undef, undef, undef, undef, undef, undef, undef, undef, undef, undef, undef, undef, undef, undef, undef, undef, undef, undef, undef, undef, undef, undef, undef], []⟩ ?_
  refine then_n ?_
  refine sy_sq (part_KeccakPieces 62) (part_KeccakPieces 63) ?_
  refine sy_reg ?_
  refine rg_plain 5 (opsAt (part_KeccakPieces 62)) [0] (by kernel_rfl) (by kernel_rfl) ?_
  refine ps_k (o_KeccakPieces 62 0) (.pointer none) ?_
  refine ps_end ?_
  refine sy_a ⟨#[.slice A ls.length cap, iN AT, undef, undef, .bool false, pT b 0, .pointer none, undef, undef, undef, undef, undef, undef, undef, undef, .slice A ls.length cap, .bool false, undef, .int .i64 at_, .slice A ls.length cap, iN ls.length, iN (ls.length + 1), iN AT, pT b 0, undef, undef, undef, undef, undef, undef, undef, undef, undef, undef, undef, undef, undef, undef, undef, undef, undef, undef, undef, undef, undef, undef, undef, undef, undef, undef, undef, undef, undef, undef, undef, undef, undef, undef, undef, undef, undef, undef, undef, undef, undef, undef, undef, undef, undef, undef, undef, undef, undef, undef, undef, undef, undef, undef, undef, undef, undef, undef, undef, undef, undef, undef, undef, undef, undef, undef, undef, undef, undef, undef, undef, undef, undef, undef, undef, undef, undef, undef, undef, undef, undef, undef, undef, undef, undef, undef, undef, undef, undef, undef, undef, undef, undef, undef, undef, undef, undef, undef, undef, undef, undef, undef, undef], []⟩ ?_
  refine then_n ?_
  refine sy_sq (part_KeccakPieces 126) (part_KeccakPieces 127) ?_
  refine sy_reg ?_
  refine rg_plain 6 (opsAt (part_KeccakPieces 126)) [0] (by kernel_rfl) (by kernel_rfl) ?_
  refine ps_k (o_KeccakPieces 126 0) (.slice none 0 0) ?_
  refine ps_end ?_
  refine sy_a ⟨#[.slice A ls.length cap, iN AT, undef, undef, .bool false, pT b 0, .pointer none, .slice none 0 0, undef, undef, undef, undef, undef, undef, undef, .slice A ls.length cap, .bool false, undef, .int .i64 at_, .slice A ls.length cap, iN ls.length, iN (ls.length + 1), iN AT, pT b 0, undef, undef, undef, undef, undef, undef, undef, undef, undef, undef, undef, undef, undef, undef, undef, undef, undef, undef, undef, undef, undef, undef, undef, undef, undef, undef, undef, undef, undef, undef, undef, undef, undef, undef, undef, undef, undef, undef, undef, undef, undef, undef, undef, undef, undef, undef, undef, undef, undef, undef, undef, undef, undef, undef, undef, undef, undef, undef, undef, undef, undef, undef, undef, undef, undef, undef, undef, undef, undef, undef, undef, undef, undef, undef, undef, undef, undef, undef, undef, undef, undef, undef, undef, undef, undef, undef, undef, undef, undef, undef, undef, undef, undef, undef, undef, undef, undef, undef, undef, undef, undef, undef, undef], []⟩ ?_
  refine then_n ?_
  refine sy_sq (part_KeccakPieces 254) (part_KeccakPieces 255) ?_
  refine sy_sq (part_KeccakPieces 508) (part_KeccakPieces 509) ?_
  refine sy_reg ?_
  refine rg_plain 7 (opsAt (part_KeccakPieces 508)) [0] (by kernel_rfl) (by kernel_rfl) ?_
  refine ps_k (o_KeccakPieces 508 0) (.int .i64 0) ?_
  refine ps_end ?_
  refine sy_a ⟨#[.slice A ls.length cap, iN AT, undef, undef, .bool false, pT b 0, .pointer none, .slice none 0 0, .int .i64 0, undef, undef, undef, undef, undef, undef, .slice A ls.length cap, .bool false, undef, .int .i64 at_, .slice A ls.length cap, iN ls.length, iN (ls.length + 1), iN AT, pT b 0, undef, undef, undef, undef, undef, undef, undef, undef, undef, undef, undef, undef, undef, undef, undef, undef, undef, undef, undef, undef, undef, undef, undef, undef, undef, undef, undef, undef, undef, undef, undef, undef, undef, undef, undef, undef, undef, undef, undef, undef, undef, undef, undef, undef, undef, undef, undef, undef, undef, undef, undef, undef, undef, undef, undef, undef, undef, undef, undef, undef, undef, undef, undef, undef, undef, undef, undef, undef, undef, undef, undef, undef, undef, undef, undef, undef, undef, undef, undef, undef, undef, undef, undef, undef, undef, undef, undef, undef, undef, undef, undef, undef, undef, undef, undef, undef, undef, undef, undef, undef, undef, undef, undef], []⟩ ?_
  refine then_n ?_
  refine sy_bk 0 (part_KeccakPieces 1018) ?_
  refine sy_loop (part_KeccakPieces 2036) (fun a V => ∃ (i : Nat) (cv : Value) (v : Value) (u4 u9 u10 u11 u24 u25 u26 u27 u28 u29 u30 u31 u32 u33 u34 u35 u36 u37 u38 u39 u40 u41 u42 u43 u44 u45 u46 u47 u48 u49 u50 u51 u52 u53 u54 u55 u56 u57 u58 u59 u60 u61 u62 u63 u64 u65 u66 u67 u68 u69 u70 u71 : Value), (a = ⟨#[.slice A ls.length cap, iN AT, undef, undef, u4, pT b 0, cv, v, iN i, u9, u10, u11, undef, undef, undef, .slice A ls.length cap, .bool false, undef, .int .i64 at_, .slice A ls.length cap, iN ls.length, iN (ls.length + 1), iN AT, pT b 0, u24, u25, u26, u27, u28, u29, u30, u31, u32, u33, u34, u35, u36, u37, u38, u39, u40, u41, u42, u43, u44, u45, u46, u47, u48, u49, u50, u51, u52, u53, u54, u55, u56, u57, u58, u59, u60, u61, u62, u63, u64, u65, u66, u67, u68, u69, u70, u71, undef, undef, undef, undef, undef, undef, undef, undef, undef, undef, undef, undef, undef, undef, undef, undef, undef, undef, undef, undef, undef, undef, undef, undef, undef, undef, undef, undef, undef, undef, undef, undef, undef, undef, undef, undef, undef, undef, undef, undef, undef, undef, undef, undef, undef, undef, undef, undef, undef, undef, undef, undef, undef, undef, undef], []⟩) ∧ (i ≤ ls.length) ∧ (ListsAt V (.slice A ls.length cap) us ls) ∧ (Row V 5 1 v ((cat ls i).length) (B (cat ls i))) ∧ (HashAt V b p (cat ls i)) ∧ (CSt V w.heap.size p i AT ls cv) ∧ (Keeps Nob w V) ∧ (NewFrom w.heap.size v)) (fun a _ => ls.length - (intOf (a.tmps.getD 8 undef)).toNat) (by kernel_rfl) ?_ ?_
  · exact ⟨0, .pointer none, .slice none 0 0, (.bool false), undef, undef, undef, undef, undef, undef, undef, undef, undef, undef, undef, undef, undef, undef, undef, undef, undef, undef, undef, undef, undef, undef, undef, undef, undef, undef, undef, undef, undef, undef, undef, undef, undef, undef, undef, undef, undef, undef, undef, undef, undef, undef, undef, undef, undef, undef, undef, undef, undef, undef, undef, by kernel_rfl, by omega, h2, h3, hV1, cs0, K4, NewFrom.nil _⟩
  · rintro a V6 ⟨i, cv, v, u4, u9, u10, u11, u24, u25, u26, u27, u28, u29, u30, u31, u32, u33, u34, u35, u36, u37, u38, u39, u40, u41, u42, u43, u44, u45, u46, u47, u48, u49, u50, u51, u52, u53, u54, u55, u56, u57, u58, u59, u60, u61, u62, u63, u64, u65, u66, u67, u68, u69, u70, u71, rfl, hi, h7, h8, h9, h10, K11, hnw⟩
    rcases (by omega : (i < ls.length ∧ i = AT) ∨ (i < ls.length ∧ i ≠ AT) ∨ (ls.length = i ∧ AT = ls.length) ∨ (ls.length = i ∧ AT ≠ ls.length)) with ⟨lt_i, eqAT⟩ | ⟨lt_i, neAT⟩ | ⟨eq_i0, eqAT⟩ | ⟨eq_i0, neAT⟩
    · obtain ⟨u, l, b_, o_, c_, hu, hl, hv⟩ := h0.open_ i lt_i
      have hll := len_le_tall hl
      have htl := tot_le ls i
      have htl2 := tot_le ls (i + 1)
      have hts := tot_succ hl
      have hcl := cat_len ls i
      have hcl2 := cat_len ls (i + 1)
      refine sy_sq (part_KeccakPieces 4072) (part_KeccakPieces 4073) ?_
      refine sy_sq (part_KeccakPieces 8144) (part_KeccakPieces 8145) ?_
      refine sy_reg ?_
      refine rg_plain 8 (opsAt (part_KeccakPieces 8144)) [0, 1, 2, 3] (by kernel_rfl) (by kernel_rfl) ?_
      refine ps_k (o_KeccakPieces 8144 0) (iN i) ?_
      refine ps_k (o_KeccakPieces 8144 1) (.slice A ls.length cap) ?_
      refine ps_p (o_KeccakPieces 8144 2) (iN ls.length) (exec_len (.tmp 25) 38 _ (by kernel_rfl) Try.underlying38 A ls.length cap (by kernel_rfl)) ?_
      refine ps_p (o_KeccakPieces 8144 3) (.bool true) (exec_cast (congrArg Value.bool (show (decide ((((i : Nat) : Int)) < (((ls.length : Nat) : Int)))) = true from by simp only [decide_eq_true_eq]; omega)) (by kernel_rfl)) ?_
      refine ps_end ?_
      refine sy_a ⟨#[.slice A ls.length cap, iN AT, undef, undef, u4, pT b 0, cv, v, iN i, u9, u10, u11, undef, undef, undef, .slice A ls.length cap, .bool false, undef, .int .i64 at_, .slice A ls.length cap, iN ls.length, iN (ls.length + 1), iN AT, pT b 0, iN i, .slice A ls.length cap, iN ls.length, .bool true, u28, u29, u30, u31, u32, u33, u34, u35, u36, u37, u38, u39, u40, u41, u42, u43, u44, u45, u46, u47, u48, u49, u50, u51, u52, u53, u54, u55, u56, u57, u58, u59, u60, u61, u62, u63, u64, u65, u66, u67, u68, u69, u70, u71, undef, undef, undef, undef, undef, undef, undef, undef, undef, undef, undef, undef, undef, undef, undef, undef, undef, undef, undef, undef, undef, undef, undef, undef, undef, undef, undef, undef, undef, undef, undef, undef, undef, undef, undef, undef, undef, undef, undef, undef, undef, undef, undef, undef, undef, undef, undef, undef, undef, undef, undef, undef, undef, undef, undef], []⟩ ?_
      refine then_n ?_
      refine sy_ys (.tmp 27) (part_KeccakPieces 16290) (part_KeccakPieces 16291) ?_
      refine sy_sk ?_
      refine then_n ?_
      refine sy_sq (part_KeccakPieces 8146) (part_KeccakPieces 8147) ?_
      refine sy_bk 1 (part_KeccakPieces 16292) ?_
      refine sy_sq (part_KeccakPieces 32584) (part_KeccakPieces 32585) ?_
      refine sy_sq (part_KeccakPieces 65168) (part_KeccakPieces 65169) ?_
      refine sy_reg ?_
      refine rg_plain 10 (opsAt (part_KeccakPieces 65168)) [0, 1, 2] (by kernel_rfl) (by kernel_rfl) ?_
      refine ps_k (o_KeccakPieces 65168 0) (iN i) ?_
      refine ps_k (o_KeccakPieces 65168 1) (iN AT) ?_
      refine ps_p (o_KeccakPieces 65168 2) (.bool true) (exec_cast (congrArg Value.bool (show (((((i : Nat) : Int)) == (((AT : Nat) : Int)))) = true from by simp only [beq_iff_eq]; omega)) (by kernel_rfl)) ?_
      refine ps_end ?_
      refine sy_a ⟨#[.slice A ls.length cap, iN AT, undef, undef, u4, pT b 0, cv, v, iN i, u9, u10, u11, undef, undef, undef, .slice A ls.length cap, .bool false, undef, .int .i64 at_, .slice A ls.length cap, iN ls.length, iN (ls.length + 1), iN AT, pT b 0, iN i, .slice A ls.length cap, iN ls.length, .bool true, u28, u29, iN i, iN AT, .bool true, u33, u34, u35, u36, u37, u38, u39, u40, u41, u42, u43, u44, u45, u46, u47, u48, u49, u50, u51, u52, u53, u54, u55, u56, u57, u58, u59, u60, u61, u62, u63, u64, u65, u66, u67, u68, u69, u70, u71, undef, undef, undef, undef, undef, undef, undef, undef, undef, undef, undef, undef, undef, undef, undef, undef, undef, undef, undef, undef, undef, undef, undef, undef, undef, undef, undef, undef, undef, undef, undef, undef, undef, undef, undef, undef, undef, undef, undef, undef, undef, undef, undef, undef, undef, undef, undef, undef, undef, undef, undef, undef, undef, undef, undef], []⟩ ?_
      refine then_n ?_
      refine sy_ys (.tmp 32) (part_KeccakPieces 130338) (part_KeccakPieces 130339) ?_
      refine sy_reg ?_
      refine rg_plain 11 (opsAt (part_KeccakPieces 130338)) [0, 1, 2] (by kernel_rfl) (by kernel_rfl) ?_
      refine ps_k (o_KeccakPieces 130338 0) (pT b 0) ?_
      refine ps_call (o_KeccakPieces 130338 1) 13 #[pT b 0] (by kernel_rfl) (by kernel_rfl) (by kernel_rfl) (by kernel_rfl) (enters_of Try.func13 (by kernel_rfl) rfl) ((kHCopy_ok b p (cat ls i) _ h9).mono ?_)
      rintro e V12 ⟨b2, p2, rfl, hV12, hb2, hp2, kV12⟩
      have hbc := hV12.bp
      have hnb := h9.bp
      have hCV12 : CSt V12 w.heap.size p (i + 1) AT ls (.pointer (some ⟨b2, 0, none⟩)) := .inr ⟨by omega, b2, p2, rfl, by rw [← eqAT]; exact hV12, by omega, by omega, by have := K11.size; omega⟩
      refine ⟨_, rfl, ?_⟩
      have h13 : ListsAt V12 (.slice A ls.length cap) us ls := h7.keepsN kV12
      have h14 : Row V12 5 1 v ((cat ls i).length) (B (cat ls i)) := h8.keeps kV12 (fun _ _ x => x)
      have h15 : HashAt V12 b p (cat ls i) := h9.keepsN kV12
      have K16 : Keeps Nob w V12 := K11.then kV12 (fun _ _ x => x.elim)
      have z17 := kV12.size
      refine ps_k (o_KeccakPieces 130338 2) (pT b2 0) ?_
      refine ps_end ?_
      refine sy_a ⟨#[.slice A ls.length cap, iN AT, undef, undef, u4, pT b 0, pT b2 0, v, iN i, u9, u10, u11, undef, undef, undef, .slice A ls.length cap, .bool false, undef, .int .i64 at_, .slice A ls.length cap, iN ls.length, iN (ls.length + 1), iN AT, pT b 0, iN i, .slice A ls.length cap, iN ls.length, .bool true, u28, u29, iN i, iN AT, .bool true, pT b 0, pT b2 0, u35, u36, u37, u38, u39, u40, u41, u42, u43, u44, u45, u46, u47, u48, u49, u50, u51, u52, u53, u54, u55, u56, u57, u58, u59, u60, u61, u62, u63, u64, u65, u66, u67, u68, u69, u70, u71, undef, undef, undef, undef, undef, undef, undef, undef, undef, undef, undef, undef, undef, undef, undef, undef, undef, undef, undef, undef, undef, undef, undef, undef, undef, undef, undef, undef, undef, undef, undef, undef, undef, undef, undef, undef, undef, undef, undef, undef, undef, undef, undef, undef, undef, undef, undef, undef, undef, undef, undef, undef, undef, undef, undef], []⟩ ?_
      refine then_n ?_
      refine sy_sq (part_KeccakPieces 65170) (part_KeccakPieces 65171) ?_
      refine sy_reg ?_
      refine rg_plain 12 (opsAt (part_KeccakPieces 65170)) [0, 1, 2, 3, 4, 5] (by kernel_rfl) (by kernel_rfl) ?_
      refine ps_k (o_KeccakPieces 65170 0) (.slice A ls.length cap) ?_
      refine ps_k (o_KeccakPieces 65170 1) (iN i) ?_
      refine ps_p (o_KeccakPieces 65170 2) (pT b_ (o_ + i)) (exec_cast (v := pT b_ (o_ + i * 1)) (by simp) (exec_indexAt_slice 38 (.tmp 35) (.tmp 36) (by kernel_rfl) b_ o_ ls.length c_ (Eq.trans (b := .slice A ls.length cap) (by kernel_rfl) hv) .i64 i (by kernel_rfl) _ 1 Try.underlying38 (by kernel_rfl) (by omega))) ?_
      refine ps_p (o_KeccakPieces 65170 3) (u) (exec_load_cell 22 (.tmp 37) (by kernel_rfl) ⟨b_, o_ + i, none⟩ (by kernel_rfl) _ _ Try.underlying22 rfl (ListsAt.cell h13 hu hv)) ?_
      have hltA : ∀ j, v.ownBlock = some j → j < V12.heap.size := fun j hj => Row.lt h14 hj
      have hbh := h15.bp
      refine ps_call (o_KeccakPieces 65170 4) 18 #[u] (by kernel_rfl) (by kernel_rfl) (by kernel_rfl) (by kernel_rfl) (enters_of Try.func18 (by kernel_rfl) rfl) ((copyBytes_ok u l _ (ListsAt.bytes h13 _ _ _ hu hl) (by omega)).mono ?_)
      rintro e V18 ⟨c0, rfl, h19, hnI, hnz, kV18⟩
      obtain ⟨g1, cap1, rfl⟩ := h19.slice hnz
      have lg1 := h19.lt (k := g1) rfl
      have lh1 := hnI g1 rfl
      refine ⟨_, rfl, ?_⟩
      have h20 : ListsAt V18 (.slice A ls.length cap) us ls := h13.keepsN kV18
      have h21 : Row V18 5 1 v ((cat ls i).length) (B (cat ls i)) := h14.keeps kV18 (fun _ _ x => x)
      have h22 : HashAt V18 b p (cat ls i) := h15.keepsN kV18
      have h23 : CSt V18 w.heap.size p (i + 1) AT ls (.pointer (some ⟨b2, 0, none⟩)) := hCV12.off kV18 (fun _ x => x.elim)
      have K24 : Keeps Nob w V18 := K16.then kV18 (fun _ _ x => x.elim)
      have z25 := kV18.size
      refine ps_k (o_KeccakPieces 65170 5) (.slice (some ⟨g1, 0, none⟩) l.length cap1) ?_
      refine ps_end ?_
      refine sy_a ⟨#[.slice A ls.length cap, iN AT, undef, undef, u4, pT b 0, pT b2 0, v, iN i, .slice (some ⟨g1, 0, none⟩) l.length cap1, u10, u11, undef, undef, undef, .slice A ls.length cap, .bool false, undef, .int .i64 at_, .slice A ls.length cap, iN ls.length, iN (ls.length + 1), iN AT, pT b 0, iN i, .slice A ls.length cap, iN ls.length, .bool true, u28, u29, iN i, iN AT, .bool true, pT b 0, pT b2 0, .slice A ls.length cap, iN i, pT b_ (o_ + i), u, .slice (some ⟨g1, 0, none⟩) l.length cap1, u40, u41, u42, u43, u44, u45, u46, u47, u48, u49, u50, u51, u52, u53, u54, u55, u56, u57, u58, u59, u60, u61, u62, u63, u64, u65, u66, u67, u68, u69, u70, u71, undef, undef, undef, undef, undef, undef, undef, undef, undef, undef, undef, undef, undef, undef, undef, undef, undef, undef, undef, undef, undef, undef, undef, undef, undef, undef, undef, undef, undef, undef, undef, undef, undef, undef, undef, undef, undef, undef, undef, undef, undef, undef, undef, undef, undef, undef, undef, undef, undef, undef, undef, undef, undef, undef, undef], []⟩ ?_
      refine then_n ?_
      refine sy_sq (part_KeccakPieces 130342) (part_KeccakPieces 130343) ?_
      refine sy_sq (part_KeccakPieces 260684) (part_KeccakPieces 260685) ?_
      refine sy_reg ?_
      refine rg_plain 13 (opsAt (part_KeccakPieces 260684)) [0, 1, 2, 3] (by kernel_rfl) (by kernel_rfl) ?_
      refine ps_k (o_KeccakPieces 260684 0) (pT b 0) ?_
      refine ps_k (o_KeccakPieces 260684 1) (.slice (some ⟨g1, 0, none⟩) l.length cap1) ?_
      refine ps_call (o_KeccakPieces 260684 2) 11 #[pT b 0, .slice (some ⟨g1, 0, none⟩) l.length cap1] (by kernel_rfl) (by kernel_rfl) (by kernel_rfl) (by kernel_rfl) (enters_of Try.func11 (by kernel_rfl) rfl) ((kHWrite_ok b p (cat ls i) l _ _ _ h22 (Row.bytes h19) (fun _ j hj => by simp only [Value.ownBlock, Option.some.injEq] at hj; omega) (by rw [cat_len]; omega)).mono ?_)
      rintro e V26 ⟨rfl, hV26, kV26⟩
      rw [← cat_succ hl] at hV26
      refine ⟨_, rfl, ?_⟩
      have h27 : ListsAt V26 (.slice A ls.length cap) us ls := ListsAt.keepsB h0 h20 kV26 (fun j hj e => by first | exact e.elim | (unfold Own.One at e; omega) | omega)
      have h28 : Row V26 5 1 v ((cat ls i).length) (B (cat ls i)) := h21.keeps kV26 (fun j hj e => by unfold Own.One at e; subst e; exact Row.ne h21 h22.sp (by decide) hj)
      have h29 : CSt V26 w.heap.size p (i + 1) AT ls (.pointer (some ⟨b2, 0, none⟩)) := h23.off kV26 (fun j e => .inl e)
      have h30 : Row V26 5 1 (.slice (some ⟨g1, 0, none⟩) l.length cap1) l.length (B l) := h19.keeps kV26 (fun j hj e => by simp only [Value.ownBlock, Option.some.injEq] at hj; unfold Own.One at e; omega)
      have K31 : Keeps Nob w V26 := K24.then kV26 (fun i hi hm => absurd hi (by unfold Own.One at hm; omega))
      have z32 := kV26.size
      refine ps_k (o_KeccakPieces 260684 3) (.bool false) ?_
      refine ps_end ?_
      refine sy_a ⟨#[.slice A ls.length cap, iN AT, undef, undef, u4, pT b 0, pT b2 0, v, iN i, .slice (some ⟨g1, 0, none⟩) l.length cap1, u10, u11, undef, undef, undef, .slice A ls.length cap, .bool false, undef, .int .i64 at_, .slice A ls.length cap, iN ls.length, iN (ls.length + 1), iN AT, pT b 0, iN i, .slice A ls.length cap, iN ls.length, .bool true, u28, u29, iN i, iN AT, .bool true, pT b 0, pT b2 0, .slice A ls.length cap, iN i, pT b_ (o_ + i), u, .slice (some ⟨g1, 0, none⟩) l.length cap1, pT b 0, .slice (some ⟨g1, 0, none⟩) l.length cap1, .int .i64 0, .bool false, u44, u45, u46, u47, u48, u49, u50, u51, u52, u53, u54, u55, u56, u57, u58, u59, u60, u61, u62, u63, u64, u65, u66, u67, u68, u69, u70, u71, undef, undef, undef, undef, undef, undef, undef, undef, undef, undef, undef, undef, undef, undef, undef, undef, undef, undef, undef, undef, undef, undef, undef, undef, undef, undef, undef, undef, undef, undef, undef, undef, undef, undef, undef, undef, undef, undef, undef, undef, undef, undef, undef, undef, undef, undef, undef, undef, undef, undef, undef, undef, undef, undef, undef], []⟩ ?_
      refine then_n ?_
      refine sy_n (.tmp 43) (part_KeccakPieces 521370) (part_KeccakPieces 521371) ?_
      refine sy_sk ?_
      refine then_n ?_
      refine sy_sq (part_KeccakPieces 260686) (part_KeccakPieces 260687) ?_
      refine sy_reg ?_
      refine rg_plain 15 (opsAt (part_KeccakPieces 260686)) [0, 1] (by kernel_rfl) (by kernel_rfl) ?_
      refine ps_k (o_KeccakPieces 260686 0) (.slice (some ⟨g1, 0, none⟩) l.length cap1) ?_
      refine ps_call (o_KeccakPieces 260686 1) 19 #[.slice (some ⟨g1, 0, none⟩) l.length cap1] (by kernel_rfl) (by kernel_rfl) (by kernel_rfl) (by kernel_rfl) (enters_of Try.func19 (by kernel_rfl) rfl) ((overBytes_ok _ l _ h30).mono ?_)
      rintro e V33 ⟨⟨r0, rfl⟩, kV33⟩
      refine ⟨_, rfl, ?_⟩
      have h34 : ListsAt V33 (.slice A ls.length cap) us ls := ListsAt.keepsB h0 h27 kV33 (fun j hj e => by have := hnI j e; omega)
      have h35 : Row V33 5 1 v ((cat ls i).length) (B (cat ls i)) := h28.keeps kV33 (fun j hj e => by have := hltA j hj; have := hnI j e; omega)
      have h36 : CSt V33 w.heap.size p (i + 1) AT ls (.pointer (some ⟨b2, 0, none⟩)) := h29.keepsRow kV33 h30
      have h37 : HashAt V33 b p (cat ls (i + 1)) := hV26.keepsRow kV33 h30
      have K38 : Keeps Nob w V33 := K31.then kV33 (fun i hi hm => absurd hi (by have := hnI i hm; omega))
      have z39 := kV33.size
      refine ps_end ?_
      refine sy_a ⟨#[.slice A ls.length cap, iN AT, undef, undef, u4, pT b 0, pT b2 0, v, iN i, .slice (some ⟨g1, 0, none⟩) l.length cap1, u10, u11, undef, undef, undef, .slice A ls.length cap, .bool false, undef, .int .i64 at_, .slice A ls.length cap, iN ls.length, iN (ls.length + 1), iN AT, pT b 0, iN i, .slice A ls.length cap, iN ls.length, .bool true, u28, u29, iN i, iN AT, .bool true, pT b 0, pT b2 0, .slice A ls.length cap, iN i, pT b_ (o_ + i), u, .slice (some ⟨g1, 0, none⟩) l.length cap1, pT b 0, .slice (some ⟨g1, 0, none⟩) l.length cap1, .int .i64 0, .bool false, .slice (some ⟨g1, 0, none⟩) l.length cap1, r0, u46, u47, u48, u49, u50, u51, u52, u53, u54, u55, u56, u57, u58, u59, u60, u61, u62, u63, u64, u65, u66, u67, u68, u69, u70, u71, undef, undef, undef, undef, undef, undef, undef, undef, undef, undef, undef, undef, undef, undef, undef, undef, undef, undef, undef, undef, undef, undef, undef, undef, undef, undef, undef, undef, undef, undef, undef, undef, undef, undef, undef, undef, undef, undef, undef, undef, undef, undef, undef, undef, undef, undef, undef, undef, undef, undef, undef, undef, undef, undef, undef], []⟩ ?_
      refine then_n ?_
      refine sy_sq (part_KeccakPieces 521374) (part_KeccakPieces 521375) ?_
      refine sy_reg ?_
      refine rg_plain 16 (opsAt (part_KeccakPieces 521374)) [0, 1, 2, 3, 4, 5, 6] (by kernel_rfl) (by kernel_rfl) ?_
      refine ps_k (o_KeccakPieces 521374 0) (v) ?_
      refine ps_k (o_KeccakPieces 521374 1) (.slice A ls.length cap) ?_
      refine ps_k (o_KeccakPieces 521374 2) (iN i) ?_
      refine ps_p (o_KeccakPieces 521374 3) (pT b_ (o_ + i)) (exec_cast (v := pT b_ (o_ + i * 1)) (by simp) (exec_indexAt_slice 38 (.tmp 47) (.tmp 48) (by kernel_rfl) b_ o_ ls.length c_ (Eq.trans (b := .slice A ls.length cap) (by kernel_rfl) hv) .i64 i (by kernel_rfl) _ 1 Try.underlying38 (by kernel_rfl) (by omega))) ?_
      refine ps_p (o_KeccakPieces 521374 4) (u) (exec_load_cell 22 (.tmp 49) (by kernel_rfl) ⟨b_, o_ + i, none⟩ (by kernel_rfl) _ _ Try.underlying22 rfl (ListsAt.cell h34 hu hv)) ?_
      obtain ⟨v40, V41, hr42, h43, hg44, hn45, ha46⟩ := run_append_any (P := Try.prog) (w := V33) 22 (Oper.type (o_KeccakPieces 521374 5)) 5 i0 (.int .u8 0) 1 1 Try.underlying22 hi0 hz0 hz1 hz2 rfl (by decide) v ((cat ls i).length) (B (cat ls i)) h35 u l.length (B l) ((ListsAt.bytes h34 _ _ _ hu hl).src) (by unfold maxLen; omega) (by omega)
      have kV41 : Keeps (fun j => v.ownBlock = some j) V33 V41 := Keeps.rowAdd hg44
      have hw47 : NewFrom w.heap.size v40 := hnw.next K38.size ha46
      refine ps_run (o_KeccakPieces 521374 5) v40 (w' := V41) (by kernel_rfl) (by kernel_rfl) (exec_append (.tmp 46) (.tmp 50) 22 (by kernel_rfl) v u (by kernel_rfl) (by kernel_rfl) hr42) ?_
      have h48 : Row V41 5 1 v40 ((cat ls (i + 1)).length) (B (cat ls (i + 1))) := row_cat hl h43
      have h49 : ListsAt V41 (.slice A ls.length cap) us ls := ListsAt.keepsB h0 h34 kV41 (fun j hj e => by have := hnw j e; omega)
      have h50 : CSt V41 w.heap.size p (i + 1) AT ls (.pointer (some ⟨b2, 0, none⟩)) := h36.keepsRow kV41 h35
      have h51 : HashAt V41 b p (cat ls (i + 1)) := h37.keepsRow kV41 h35
      have K52 : Keeps Nob w V41 := K38.then kV41 (fun i hi hm => absurd hi (by have := hnw i hm; omega))
      have z53 := kV41.size
      refine ps_k (o_KeccakPieces 521374 6) (v40) ?_
      refine ps_end ?_
      refine sy_a ⟨#[.slice A ls.length cap, iN AT, undef, undef, u4, pT b 0, pT b2 0, v40, iN i, .slice (some ⟨g1, 0, none⟩) l.length cap1, u10, u11, undef, undef, undef, .slice A ls.length cap, .bool false, undef, .int .i64 at_, .slice A ls.length cap, iN ls.length, iN (ls.length + 1), iN AT, pT b 0, iN i, .slice A ls.length cap, iN ls.length, .bool true, u28, u29, iN i, iN AT, .bool true, pT b 0, pT b2 0, .slice A ls.length cap, iN i, pT b_ (o_ + i), u, .slice (some ⟨g1, 0, none⟩) l.length cap1, pT b 0, .slice (some ⟨g1, 0, none⟩) l.length cap1, .int .i64 0, .bool false, .slice (some ⟨g1, 0, none⟩) l.length cap1, r0, v, .slice A ls.length cap, iN i, pT b_ (o_ + i), u, v40, u52, u53, u54, u55, u56, u57, u58, u59, u60, u61, u62, u63, u64, u65, u66, u67, u68, u69, u70, u71, undef, undef, undef, undef, undef, undef, undef, undef, undef, undef, undef, undef, undef, undef, undef, undef, undef, undef, undef, undef, undef, undef, undef, undef, undef, undef, undef, undef, undef, undef, undef, undef, undef, undef, undef, undef, undef, undef, undef, undef, undef, undef, undef, undef, undef, undef, undef, undef, undef, undef, undef, undef, undef, undef, undef], []⟩ ?_
      refine then_n ?_
      refine sy_sq (part_KeccakPieces 1042750) (part_KeccakPieces 1042751) ?_
      refine sy_reg ?_
      refine rg_plain 17 (opsAt (part_KeccakPieces 1042750)) [0, 1, 2, 3, 4, 5, 6, 7] (by kernel_rfl) (by kernel_rfl) ?_
      refine ps_k (o_KeccakPieces 1042750 0) (pT b 0) ?_
      have hcb17 := h51.bp
      refine ps_call (o_KeccakPieces 1042750 1) 10 #[pT b 0] (by kernel_rfl) (by kernel_rfl) (by kernel_rfl) (by kernel_rfl) (enters_of Try.func10 (by kernel_rfl) rfl) ((kHSum_ok b p (cat ls (i + 1)) _ h51).mono ?_)
      rintro e V54 ⟨rfl, kV54⟩
      refine ⟨_, rfl, ?_⟩
      have h55 : ListsAt V54 (.slice A ls.length cap) us ls := h49.keepsN kV54
      have h56 : CSt V54 w.heap.size p (i + 1) AT ls (.pointer (some ⟨b2, 0, none⟩)) := h50.off kV54 (fun _ x => x.elim)
      have h57 : HashAt V54 b p (cat ls (i + 1)) := h51.keepsN kV54
      have h58 : Row V54 5 1 v40 ((cat ls (i + 1)).length) (B (cat ls (i + 1))) := h48.keeps kV54 (fun _ _ x => x)
      have K59 : Keeps Nob w V54 := K52.then kV54 (fun _ _ x => x.elim)
      have z60 := kV54.size
      refine ps_k (o_KeccakPieces 1042750 2) (.tuple #[.agg (B (Kec.sum (cat ls (i + 1)))).toArray, .int .i64 0]) ?_
      refine ps_k (o_KeccakPieces 1042750 3) (.agg (B (Kec.sum (cat ls (i + 1)))).toArray) ?_
      refine ps_k (o_KeccakPieces 1042750 4) (.int .i64 0) ?_
      obtain ⟨V61, eV61⟩ : ∃ V, V54.alloc (.cells (zr_u8_32) 29) = V := ⟨_, rfl⟩
      obtain ⟨gt, egt⟩ : ∃ g, V54.heap.size = g := ⟨_, rfl⟩
      have n63 : w.heap.size ≤ gt := egt ▸ K59.size
      have h62 : V61.heap[gt]? = some (.cells (zr_u8_32) 29 (0, 0)) := by rw [← eV61, ← egt]; exact heap_alloc_new _ _
      have kV61 : Keeps Nob V54 V61 := eV61 ▸ (Keeps.refl _ _).alloc _
      refine ps_run (o_KeccakPieces 1042750 5) (pT gt 0) (w' := V61) (by kernel_rfl) (by kernel_rfl) (by rw [← eV61, ← egt]; exact exec_alloc0 29 (by kernel_rfl) (.agg (zr_u8_32)) (by kernel_rfl)) ?_
      clear eV61
      have h64 : ListsAt V61 (.slice A ls.length cap) us ls := h55.keepsN kV61
      have h65 : CSt V61 w.heap.size p (i + 1) AT ls (.pointer (some ⟨b2, 0, none⟩)) := h56.off kV61 (fun _ x => x.elim)
      have h66 : HashAt V61 b p (cat ls (i + 1)) := h57.keepsN kV61
      have h67 : Row V61 5 1 v40 ((cat ls (i + 1)).length) (B (cat ls (i + 1))) := h58.keeps kV61 (fun _ _ x => x)
      have K68 : Keeps Nob w V61 := K59.then kV61 (fun _ _ x => x.elim)
      have z69 := kV61.size
      obtain ⟨V70, eV70⟩ : ∃ V, V61.setRow gt ((B (Kec.sum (cat ls (i + 1)))).toArray) = V := ⟨_, rfl⟩
      have kV70 : Keeps (One gt) V61 V70 := eV70 ▸ (Keeps.refl (One gt) _).setRow (fun _ => (rfl : Own.One gt gt)) _
      have h71 : V70.heap[gt]? = some (.cells ((B (Kec.sum (cat ls (i + 1)))).toArray) 29 (0, 0)) := eV70 ▸ setRow_heap _ _ _ _ _ _ h62
      refine ps_skip (o_KeccakPieces 1042750 6) (w' := V70) (by kernel_rfl) (by kernel_rfl) (by rw [← eV70]; exact exec_store_row 29 (.tmp 10) (.tmp 55) (by kernel_rfl) gt ((B (Kec.sum (cat ls (i + 1)))).toArray) (by kernel_rfl) (by kernel_rfl) 29 (zr_u8_32) h62 (by rw [Bz_size, Kec.sum_len]; kernel_rfl) (by rw [Bz_size, Kec.sum_len]; first | rfl | rw [Bz_size, Kec.sum_len]) (by rw [List.all_toArray]; exact List.all_eq_true.2 (B_one _))) ?_
      clear eV70
      have h72 : ListsAt V70 (.slice A ls.length cap) us ls := ListsAt.keepsB h0 h64 kV70 (fun j hj e => by first | exact e.elim | (unfold Own.One at e; omega) | omega)
      have h73 : CSt V70 w.heap.size p (i + 1) AT ls (.pointer (some ⟨b2, 0, none⟩)) := h65.offH kV70 h62
      have h74 : HashAt V70 b p (cat ls (i + 1)) := h66.offH kV70 h62
      have h75 : Row V70 5 1 v40 ((cat ls (i + 1)).length) (B (cat ls (i + 1))) := row_offH h67 kV70 h62
      have K76 : Keeps Nob w V70 := K68.then kV70 (fun i hi hm => absurd hi (by unfold Own.One at hm; omega))
      have z77 := kV70.size
      refine ps_k (o_KeccakPieces 1042750 7) (.int .i64 0) ?_
      refine ps_end ?_
      refine sy_a ⟨#[.slice A ls.length cap, iN AT, undef, undef, u4, pT b 0, pT b2 0, v40, iN i, .slice (some ⟨g1, 0, none⟩) l.length cap1, pT gt 0, .int .i64 0, undef, undef, undef, .slice A ls.length cap, .bool false, undef, .int .i64 at_, .slice A ls.length cap, iN ls.length, iN (ls.length + 1), iN AT, pT b 0, iN i, .slice A ls.length cap, iN ls.length, .bool true, u28, u29, iN i, iN AT, .bool true, pT b 0, pT b2 0, .slice A ls.length cap, iN i, pT b_ (o_ + i), u, .slice (some ⟨g1, 0, none⟩) l.length cap1, pT b 0, .slice (some ⟨g1, 0, none⟩) l.length cap1, .int .i64 0, .bool false, .slice (some ⟨g1, 0, none⟩) l.length cap1, r0, v, .slice A ls.length cap, iN i, pT b_ (o_ + i), u, v40, .tuple #[.agg (B (Kec.sum (cat ls (i + 1)))).toArray, .int .i64 0], pT b 0, .tuple #[.agg (B (Kec.sum (cat ls (i + 1)))).toArray, .int .i64 0], .agg (B (Kec.sum (cat ls (i + 1)))).toArray, .int .i64 0, u57, u58, u59, u60, u61, u62, u63, u64, u65, u66, u67, u68, u69, u70, u71, undef, undef, undef, undef, undef, undef, undef, undef, undef, undef, undef, undef, undef, undef, undef, undef, undef, undef, undef, undef, undef, undef, undef, undef, undef, undef, undef, undef, undef, undef, undef, undef, undef, undef, undef, undef, undef, undef, undef, undef, undef, undef, undef, undef, undef, undef, undef, undef, undef, undef, undef, undef, undef, undef, undef], []⟩ ?_
      refine then_n ?_
      refine sy_sq (part_KeccakPieces 2085502) (part_KeccakPieces 2085503) ?_
      refine sy_np ?_
      refine sy_reg ?_
      refine an_begin 18 15 (opsAt (part_KeccakPieces 2085502)) (fun W => (W.heap[gt]? = some (.cells ((B (Kec.sum (cat ls (i + 1)))).toArray) 29 (0, 0)))) #[false, false, false, false, false, false, false, false, false, false, false, false, false, false, false] (by kernel_rfl) (by kernel_rfl) (by kernel_rfl) (by kernel_rfl) ?_
      obtain ⟨V78, eV78⟩ : ∃ V, V70.drew = V := ⟨_, rfl⟩
      have kV78 : Keeps Nob V70 V78 := eV78 ▸ (Keeps.refl _ _).drew
      rw [eV78]
      clear eV78
      have h79 : ListsAt V78 (.slice A ls.length cap) us ls := h72.keepsN kV78
      have h80 : CSt V78 w.heap.size p (i + 1) AT ls (.pointer (some ⟨b2, 0, none⟩)) := h73.off kV78 (fun _ x => x.elim)
      have h81 : HashAt V78 b p (cat ls (i + 1)) := h74.keepsN kV78
      have h82 : Row V78 5 1 v40 ((cat ls (i + 1)).length) (B (cat ls (i + 1))) := h75.keeps kV78 (fun _ _ x => x)
      have h83 : V78.heap[gt]? = some (.cells ((B (Kec.sum (cat ls (i + 1)))).toArray) 29 (0, 0)) := (kV78.block gt (lt_of_block h71) (fun x => x)).trans h71
      have K84 : Keeps Nob w V78 := K76.then kV78 (fun _ _ x => x.elim)
      have z85 := kV78.size
      refine an_val 0 (o_KeccakPieces 2085502 0) (.agg ((B (Kec.sum (cat ls (i + 1)))).toArray)) (by kernel_rfl) (by kernel_rfl) (by kernel_rfl) (by kernel_rfl) (by kernel_rfl) (fun W hS => exec_load_row 29 (.tmp 10) (by kernel_rfl) gt (by kernel_rfl) _ _ (0, 0) _ (hS) Try.underlying29 rfl (by rw [Bz_size, (Kec.sum_len _)]; kernel_rfl)) h83 ?_
      refine an_val 1 (o_KeccakPieces 2085502 1) (v40) (by kernel_rfl) (by kernel_rfl) (by kernel_rfl) (by kernel_rfl) (by kernel_rfl) (fun W hS => by kernel_rfl) h83 ?_
      refine an_one 2 (by kernel_rfl) ?_
      refine on_call (o_KeccakPieces 2085502 2) 20 #[v40] (by kernel_rfl) (by kernel_rfl) (by kernel_rfl) (by kernel_rfl) (enters_of Try.func20 (by kernel_rfl) rfl) ((hSum_ok (cat ls (i + 1)) _ _ (Row.bytes h82) (by rw [cat_len]; omega)).mono ?_)
      rintro e V86 ⟨rfl, kV86⟩
      refine ⟨_, rfl, ?_⟩
      have h87 : ListsAt V86 (.slice A ls.length cap) us ls := h79.keepsN kV86
      have h88 : CSt V86 w.heap.size p (i + 1) AT ls (.pointer (some ⟨b2, 0, none⟩)) := h80.off kV86 (fun _ x => x.elim)
      have h89 : HashAt V86 b p (cat ls (i + 1)) := h81.keepsN kV86
      have h90 : Row V86 5 1 v40 ((cat ls (i + 1)).length) (B (cat ls (i + 1))) := h82.keeps kV86 (fun _ _ x => x)
      have h91 : V86.heap[gt]? = some (.cells ((B (Kec.sum (cat ls (i + 1)))).toArray) 29 (0, 0)) := (kV86.block gt (lt_of_block h83) (fun x => x)).trans h83
      have K92 : Keeps Nob w V86 := K84.then kV86 (fun _ _ x => x.elim)
      have z93 := kV86.size
      refine ⟨h91, ?_⟩
      refine an_val 3 (o_KeccakPieces 2085502 3) (.bool false) (by kernel_rfl) (by kernel_rfl) (by kernel_rfl) (by kernel_rfl) (by kernel_rfl) (fun W hS => exec_cast (congrArg Value.bool (by simp)) (exec_binop .neq 29 29 (.tmp 57) (.tmp 59) (by kernel_rfl) (.agg (B (Kec.sum (cat ls (i + 1)))).toArray) (.agg (B (Kec.sum (cat ls (i + 1)))).toArray) _ (by kernel_rfl) (by kernel_rfl) (run_eqGuard_agg _ _ _ _ _ _ _ khash_guard) (khash_neq _ _ (Kec.sum_len _) (Kec.sum_len _) _))) h91 ?_
      refine an_val 4 (o_KeccakPieces 2085502 4) (.bool false) (by kernel_rfl) (by kernel_rfl) (by kernel_rfl) (by kernel_rfl) (by kernel_rfl) (fun W hS => by kernel_rfl) h91 ?_
      refine an_val 5 (o_KeccakPieces 2085502 5) (.int .i64 0) (by kernel_rfl) (by kernel_rfl) (by kernel_rfl) (by kernel_rfl) (by kernel_rfl) (fun W hS => by kernel_rfl) h91 ?_
      refine an_val 6 (o_KeccakPieces 2085502 6) (.bool false) (by kernel_rfl) (by kernel_rfl) (by kernel_rfl) (by kernel_rfl) (by kernel_rfl) (fun W hS => by kernel_rfl) h91 ?_
      refine an_val 7 (o_KeccakPieces 2085502 7) (.bool false) (by kernel_rfl) (by kernel_rfl) (by kernel_rfl) (by kernel_rfl) (by kernel_rfl) (fun W hS => by kernel_rfl) h91 ?_
      refine an_val 8 (o_KeccakPieces 2085502 8) (.bool false) (by kernel_rfl) (by kernel_rfl) (by kernel_rfl) (by kernel_rfl) (by kernel_rfl) (fun W hS => by kernel_rfl) h91 ?_
      refine an_val 9 (o_KeccakPieces 2085502 9) (pT b 0) (by kernel_rfl) (by kernel_rfl) (by kernel_rfl) (by kernel_rfl) (by kernel_rfl) (fun W hS => by kernel_rfl) h91 ?_
      refine an_val 11 (o_KeccakPieces 2085502 11) (v40) (by kernel_rfl) (by kernel_rfl) (by kernel_rfl) (by kernel_rfl) (by kernel_rfl) (fun W hS => by kernel_rfl) h91 ?_
      refine an_val 12 (o_KeccakPieces 2085502 12) (iN ((cat ls (i + 1)).length)) (by kernel_rfl) (by kernel_rfl) (by kernel_rfl) (by kernel_rfl) (by kernel_rfl) (fun W hS => exec_len_rowW (.tmp 68) 22 5 (by kernel_rfl) Try.underlying22 (by kernel_rfl) h90) h91 ?_
      refine an_one 10 (by kernel_rfl) ?_
      refine on_call (o_KeccakPieces 2085502 10) 12 #[pT b 0] (by kernel_rfl) (by kernel_rfl) (by kernel_rfl) (by kernel_rfl) (enters_of Try.func12 (by kernel_rfl) rfl) ((kHLen_ok b p (cat ls (i + 1)) _ h89).mono ?_)
      rintro e w1 ⟨rfl, rfl⟩
      refine ⟨_, rfl, ?_⟩
      refine ⟨h91, ?_⟩
      refine an_val 13 (o_KeccakPieces 2085502 13) (.bool false) (by kernel_rfl) (by kernel_rfl) (by kernel_rfl) (by kernel_rfl) (by kernel_rfl) (fun W hS => exec_cast (congrArg Value.bool (show ((((((cat ls (i + 1)).length : Nat) : Int)) != ((((cat ls (i + 1)).length : Nat) : Int)))) = false from by simp)) (by kernel_rfl)) h91 ?_
      refine an_val 14 (o_KeccakPieces 2085502 14) (.bool false) (by kernel_rfl) (by kernel_rfl) (by kernel_rfl) (by kernel_rfl) (by kernel_rfl) (fun W hS => by kernel_rfl) h91 ?_
      refine an_end (by kernel_rfl) ?_
      refine sy_a ⟨#[.slice A ls.length cap, iN AT, undef, undef, u4, pT b 0, pT b2 0, v40, iN i, .slice (some ⟨g1, 0, none⟩) l.length cap1, pT gt 0, .int .i64 0, undef, undef, undef, .slice A ls.length cap, .bool false, undef, .int .i64 at_, .slice A ls.length cap, iN ls.length, iN (ls.length + 1), iN AT, pT b 0, iN i, .slice A ls.length cap, iN ls.length, .bool true, u28, u29, iN i, iN AT, .bool true, pT b 0, pT b2 0, .slice A ls.length cap, iN i, pT b_ (o_ + i), u, .slice (some ⟨g1, 0, none⟩) l.length cap1, pT b 0, .slice (some ⟨g1, 0, none⟩) l.length cap1, .int .i64 0, .bool false, .slice (some ⟨g1, 0, none⟩) l.length cap1, r0, v, .slice A ls.length cap, iN i, pT b_ (o_ + i), u, v40, .tuple #[.agg (B (Kec.sum (cat ls (i + 1)))).toArray, .int .i64 0], pT b 0, .tuple #[.agg (B (Kec.sum (cat ls (i + 1)))).toArray, .int .i64 0], .agg (B (Kec.sum (cat ls (i + 1)))).toArray, .int .i64 0, .agg ((B (Kec.sum (cat ls (i + 1)))).toArray), v40, .agg (B (Kec.sum (cat ls (i + 1)))).toArray, .bool false, .bool false, .int .i64 0, .bool false, .bool false, .bool false, pT b 0, iN ((cat ls (i + 1)).length), v40, iN ((cat ls (i + 1)).length), .bool false, .bool false, undef, undef, undef, undef, undef, undef, undef, undef, undef, undef, undef, undef, undef, undef, undef, undef, undef, undef, undef, undef, undef, undef, undef, undef, undef, undef, undef, undef, undef, undef, undef, undef, undef, undef, undef, undef, undef, undef, undef, undef, undef, undef, undef, undef, undef, undef, undef, undef, undef, undef, undef, undef, undef, undef, undef], []⟩ ?_
      refine then_n ?_
      refine sy_n (.tmp 71) (part_KeccakPieces 4171006) (part_KeccakPieces 4171007) ?_
      refine sy_sk ?_
      refine blk_n ?_
      refine then_n ?_
      refine sy_reg ?_
      refine rg_plain 9 (opsAt (part_KeccakPieces 8147)) [0, 1, 2] (by kernel_rfl) (by kernel_rfl) ?_
      refine ps_k (o_KeccakPieces 8147 0) (iN i) ?_
      refine ps_p (o_KeccakPieces 8147 1) (iN (i + 1)) (exec_cast (congrArg (Value.int .i64) (wrapN (i + 1) (by omega))) (by kernel_rfl)) ?_
      refine ps_k (o_KeccakPieces 8147 2) (iN (i + 1)) ?_
      refine ps_end ?_
      refine sy_a ⟨#[.slice A ls.length cap, iN AT, undef, undef, u4, pT b 0, pT b2 0, v40, iN (i + 1), .slice (some ⟨g1, 0, none⟩) l.length cap1, pT gt 0, .int .i64 0, undef, undef, undef, .slice A ls.length cap, .bool false, undef, .int .i64 at_, .slice A ls.length cap, iN ls.length, iN (ls.length + 1), iN AT, pT b 0, iN i, .slice A ls.length cap, iN ls.length, .bool true, iN i, iN (i + 1), iN i, iN AT, .bool true, pT b 0, pT b2 0, .slice A ls.length cap, iN i, pT b_ (o_ + i), u, .slice (some ⟨g1, 0, none⟩) l.length cap1, pT b 0, .slice (some ⟨g1, 0, none⟩) l.length cap1, .int .i64 0, .bool false, .slice (some ⟨g1, 0, none⟩) l.length cap1, r0, v, .slice A ls.length cap, iN i, pT b_ (o_ + i), u, v40, .tuple #[.agg (B (Kec.sum (cat ls (i + 1)))).toArray, .int .i64 0], pT b 0, .tuple #[.agg (B (Kec.sum (cat ls (i + 1)))).toArray, .int .i64 0], .agg (B (Kec.sum (cat ls (i + 1)))).toArray, .int .i64 0, .agg ((B (Kec.sum (cat ls (i + 1)))).toArray), v40, .agg (B (Kec.sum (cat ls (i + 1)))).toArray, .bool false, .bool false, .int .i64 0, .bool false, .bool false, .bool false, pT b 0, iN ((cat ls (i + 1)).length), v40, iN ((cat ls (i + 1)).length), .bool false, .bool false, undef, undef, undef, undef, undef, undef, undef, undef, undef, undef, undef, undef, undef, undef, undef, undef, undef, undef, undef, undef, undef, undef, undef, undef, undef, undef, undef, undef, undef, undef, undef, undef, undef, undef, undef, undef, undef, undef, undef, undef, undef, undef, undef, undef, undef, undef, undef, undef, undef, undef, undef, undef, undef, undef, undef], []⟩ ?_
      refine then_n ?_
      refine ⟨⟨i + 1, pT b2 0, v40, u4, (.slice (some ⟨g1, 0, none⟩) l.length cap1), (pT gt 0), (.int .i64 0), (iN i), (.slice A ls.length cap), (iN ls.length), (.bool true), (iN i), (iN (i + 1)), (iN i), (iN AT), (.bool true), (pT b 0), (pT b2 0), (.slice A ls.length cap), (iN i), (pT b_ (o_ + i)), u, (.slice (some ⟨g1, 0, none⟩) l.length cap1), (pT b 0), (.slice (some ⟨g1, 0, none⟩) l.length cap1), (.int .i64 0), (.bool false), (.slice (some ⟨g1, 0, none⟩) l.length cap1), r0, v, (.slice A ls.length cap), (iN i), (pT b_ (o_ + i)), u, v40, (.tuple #[.agg (B (Kec.sum (cat ls (i + 1)))).toArray, .int .i64 0]), (pT b 0), (.tuple #[.agg (B (Kec.sum (cat ls (i + 1)))).toArray, .int .i64 0]), (.agg (B (Kec.sum (cat ls (i + 1)))).toArray), (.int .i64 0), (.agg ((B (Kec.sum (cat ls (i + 1)))).toArray)), v40, (.agg (B (Kec.sum (cat ls (i + 1)))).toArray), (.bool false), (.bool false), (.int .i64 0), (.bool false), (.bool false), (.bool false), (pT b 0), (iN ((cat ls (i + 1)).length)), v40, (iN ((cat ls (i + 1)).length)), (.bool false), (.bool false), by kernel_rfl, by omega, h87, h90, h89, h88, K92, hw47⟩, ?_⟩
      exact lt_meas (x := ls.length - (i + 1)) (y := ls.length - i) (by kernel_rfl) (by kernel_rfl) (by omega)
    · obtain ⟨u, l, b_, o_, c_, hu, hl, hv⟩ := h0.open_ i lt_i
      have hll := len_le_tall hl
      have htl := tot_le ls i
      have htl2 := tot_le ls (i + 1)
      have hts := tot_succ hl
      have hcl := cat_len ls i
      have hcl2 := cat_len ls (i + 1)
      refine sy_sq (part_KeccakPieces 4072) (part_KeccakPieces 4073) ?_
      refine sy_sq (part_KeccakPieces 8144) (part_KeccakPieces 8145) ?_
      refine sy_reg ?_
      refine rg_plain 8 (opsAt (part_KeccakPieces 8144)) [0, 1, 2, 3] (by kernel_rfl) (by kernel_rfl) ?_
      refine ps_k (o_KeccakPieces 8144 0) (iN i) ?_
      refine ps_k (o_KeccakPieces 8144 1) (.slice A ls.length cap) ?_
      refine ps_p (o_KeccakPieces 8144 2) (iN ls.length) (exec_len (.tmp 25) 38 _ (by kernel_rfl) Try.underlying38 A ls.length cap (by kernel_rfl)) ?_
      refine ps_p (o_KeccakPieces 8144 3) (.bool true) (exec_cast (congrArg Value.bool (show (decide ((((i : Nat) : Int)) < (((ls.length : Nat) : Int)))) = true from by simp only [decide_eq_true_eq]; omega)) (by kernel_rfl)) ?_
      refine ps_end ?_
      refine sy_a ⟨#[.slice A ls.length cap, iN AT, undef, undef, u4, pT b 0, cv, v, iN i, u9, u10, u11, undef, undef, undef, .slice A ls.length cap, .bool false, undef, .int .i64 at_, .slice A ls.length cap, iN ls.length, iN (ls.length + 1), iN AT, pT b 0, iN i, .slice A ls.length cap, iN ls.length, .bool true, u28, u29, u30, u31, u32, u33, u34, u35, u36, u37, u38, u39, u40, u41, u42, u43, u44, u45, u46, u47, u48, u49, u50, u51, u52, u53, u54, u55, u56, u57, u58, u59, u60, u61, u62, u63, u64, u65, u66, u67, u68, u69, u70, u71, undef, undef, undef, undef, undef, undef, undef, undef, undef, undef, undef, undef, undef, undef, undef, undef, undef, undef, undef, undef, undef, undef, undef, undef, undef, undef, undef, undef, undef, undef, undef, undef, undef, undef, undef, undef, undef, undef, undef, undef, undef, undef, undef, undef, undef, undef, undef, undef, undef, undef, undef, undef, undef, undef, undef], []⟩ ?_
      refine then_n ?_
      refine sy_ys (.tmp 27) (part_KeccakPieces 16290) (part_KeccakPieces 16291) ?_
      refine sy_sk ?_
      refine then_n ?_
      refine sy_sq (part_KeccakPieces 8146) (part_KeccakPieces 8147) ?_
      refine sy_bk 1 (part_KeccakPieces 16292) ?_
      refine sy_sq (part_KeccakPieces 32584) (part_KeccakPieces 32585) ?_
      refine sy_sq (part_KeccakPieces 65168) (part_KeccakPieces 65169) ?_
      refine sy_reg ?_
      refine rg_plain 10 (opsAt (part_KeccakPieces 65168)) [0, 1, 2] (by kernel_rfl) (by kernel_rfl) ?_
      refine ps_k (o_KeccakPieces 65168 0) (iN i) ?_
      refine ps_k (o_KeccakPieces 65168 1) (iN AT) ?_
      refine ps_p (o_KeccakPieces 65168 2) (.bool false) (exec_cast (congrArg Value.bool (show (((((i : Nat) : Int)) == (((AT : Nat) : Int)))) = false from by simp only [beq_eq_false_iff_ne, ne_eq]; omega)) (by kernel_rfl)) ?_
      refine ps_end ?_
      refine sy_a ⟨#[.slice A ls.length cap, iN AT, undef, undef, u4, pT b 0, cv, v, iN i, u9, u10, u11, undef, undef, undef, .slice A ls.length cap, .bool false, undef, .int .i64 at_, .slice A ls.length cap, iN ls.length, iN (ls.length + 1), iN AT, pT b 0, iN i, .slice A ls.length cap, iN ls.length, .bool true, u28, u29, iN i, iN AT, .bool false, u33, u34, u35, u36, u37, u38, u39, u40, u41, u42, u43, u44, u45, u46, u47, u48, u49, u50, u51, u52, u53, u54, u55, u56, u57, u58, u59, u60, u61, u62, u63, u64, u65, u66, u67, u68, u69, u70, u71, undef, undef, undef, undef, undef, undef, undef, undef, undef, undef, undef, undef, undef, undef, undef, undef, undef, undef, undef, undef, undef, undef, undef, undef, undef, undef, undef, undef, undef, undef, undef, undef, undef, undef, undef, undef, undef, undef, undef, undef, undef, undef, undef, undef, undef, undef, undef, undef, undef, undef, undef, undef, undef, undef, undef], []⟩ ?_
      refine then_n ?_
      refine sy_n (.tmp 32) (part_KeccakPieces 130338) (part_KeccakPieces 130339) ?_
      refine sy_sk ?_
      refine then_n ?_
      refine sy_sq (part_KeccakPieces 65170) (part_KeccakPieces 65171) ?_
      refine sy_reg ?_
      refine rg_plain 12 (opsAt (part_KeccakPieces 65170)) [0, 1, 2, 3, 4, 5] (by kernel_rfl) (by kernel_rfl) ?_
      refine ps_k (o_KeccakPieces 65170 0) (.slice A ls.length cap) ?_
      refine ps_k (o_KeccakPieces 65170 1) (iN i) ?_
      refine ps_p (o_KeccakPieces 65170 2) (pT b_ (o_ + i)) (exec_cast (v := pT b_ (o_ + i * 1)) (by simp) (exec_indexAt_slice 38 (.tmp 35) (.tmp 36) (by kernel_rfl) b_ o_ ls.length c_ (Eq.trans (b := .slice A ls.length cap) (by kernel_rfl) hv) .i64 i (by kernel_rfl) _ 1 Try.underlying38 (by kernel_rfl) (by omega))) ?_
      refine ps_p (o_KeccakPieces 65170 3) (u) (exec_load_cell 22 (.tmp 37) (by kernel_rfl) ⟨b_, o_ + i, none⟩ (by kernel_rfl) _ _ Try.underlying22 rfl (ListsAt.cell h7 hu hv)) ?_
      have hltA : ∀ j, v.ownBlock = some j → j < V6.heap.size := fun j hj => Row.lt h8 hj
      have hbh := h9.bp
      refine ps_call (o_KeccakPieces 65170 4) 18 #[u] (by kernel_rfl) (by kernel_rfl) (by kernel_rfl) (by kernel_rfl) (enters_of Try.func18 (by kernel_rfl) rfl) ((copyBytes_ok u l _ (ListsAt.bytes h7 _ _ _ hu hl) (by omega)).mono ?_)
      rintro e V94 ⟨c0, rfl, h95, hnI, hnz, kV94⟩
      obtain ⟨g1, cap1, rfl⟩ := h95.slice hnz
      have lg1 := h95.lt (k := g1) rfl
      have lh1 := hnI g1 rfl
      refine ⟨_, rfl, ?_⟩
      have h96 : ListsAt V94 (.slice A ls.length cap) us ls := h7.keepsN kV94
      have h97 : Row V94 5 1 v ((cat ls i).length) (B (cat ls i)) := h8.keeps kV94 (fun _ _ x => x)
      have h98 : HashAt V94 b p (cat ls i) := h9.keepsN kV94
      have h99 : CSt V94 w.heap.size p i AT ls cv := h10.off kV94 (fun _ x => x.elim)
      have K100 : Keeps Nob w V94 := K11.then kV94 (fun _ _ x => x.elim)
      have z101 := kV94.size
      refine ps_k (o_KeccakPieces 65170 5) (.slice (some ⟨g1, 0, none⟩) l.length cap1) ?_
      refine ps_end ?_
      refine sy_a ⟨#[.slice A ls.length cap, iN AT, undef, undef, u4, pT b 0, cv, v, iN i, .slice (some ⟨g1, 0, none⟩) l.length cap1, u10, u11, undef, undef, undef, .slice A ls.length cap, .bool false, undef, .int .i64 at_, .slice A ls.length cap, iN ls.length, iN (ls.length + 1), iN AT, pT b 0, iN i, .slice A ls.length cap, iN ls.length, .bool true, u28, u29, iN i, iN AT, .bool false, u33, u34, .slice A ls.length cap, iN i, pT b_ (o_ + i), u, .slice (some ⟨g1, 0, none⟩) l.length cap1, u40, u41, u42, u43, u44, u45, u46, u47, u48, u49, u50, u51, u52, u53, u54, u55, u56, u57, u58, u59, u60, u61, u62, u63, u64, u65, u66, u67, u68, u69, u70, u71, undef, undef, undef, undef, undef, undef, undef, undef, undef, undef, undef, undef, undef, undef, undef, undef, undef, undef, undef, undef, undef, undef, undef, undef, undef, undef, undef, undef, undef, undef, undef, undef, undef, undef, undef, undef, undef, undef, undef, undef, undef, undef, undef, undef, undef, undef, undef, undef, undef, undef, undef, undef, undef, undef, undef], []⟩ ?_
      refine then_n ?_
      refine sy_sq (part_KeccakPieces 130342) (part_KeccakPieces 130343) ?_
      refine sy_sq (part_KeccakPieces 260684) (part_KeccakPieces 260685) ?_
      refine sy_reg ?_
      refine rg_plain 13 (opsAt (part_KeccakPieces 260684)) [0, 1, 2, 3] (by kernel_rfl) (by kernel_rfl) ?_
      refine ps_k (o_KeccakPieces 260684 0) (pT b 0) ?_
      refine ps_k (o_KeccakPieces 260684 1) (.slice (some ⟨g1, 0, none⟩) l.length cap1) ?_
      refine ps_call (o_KeccakPieces 260684 2) 11 #[pT b 0, .slice (some ⟨g1, 0, none⟩) l.length cap1] (by kernel_rfl) (by kernel_rfl) (by kernel_rfl) (by kernel_rfl) (enters_of Try.func11 (by kernel_rfl) rfl) ((kHWrite_ok b p (cat ls i) l _ _ _ h98 (Row.bytes h95) (fun _ j hj => by simp only [Value.ownBlock, Option.some.injEq] at hj; omega) (by rw [cat_len]; omega)).mono ?_)
      rintro e V102 ⟨rfl, hV102, kV102⟩
      rw [← cat_succ hl] at hV102
      refine ⟨_, rfl, ?_⟩
      have h103 : ListsAt V102 (.slice A ls.length cap) us ls := ListsAt.keepsB h0 h96 kV102 (fun j hj e => by first | exact e.elim | (unfold Own.One at e; omega) | omega)
      have h104 : Row V102 5 1 v ((cat ls i).length) (B (cat ls i)) := h97.keeps kV102 (fun j hj e => by unfold Own.One at e; subst e; exact Row.ne h97 h98.sp (by decide) hj)
      have h105 : CSt V102 w.heap.size p i AT ls cv := h99.off kV102 (fun j e => .inl e)
      have h106 : Row V102 5 1 (.slice (some ⟨g1, 0, none⟩) l.length cap1) l.length (B l) := h95.keeps kV102 (fun j hj e => by simp only [Value.ownBlock, Option.some.injEq] at hj; unfold Own.One at e; omega)
      have K107 : Keeps Nob w V102 := K100.then kV102 (fun i hi hm => absurd hi (by unfold Own.One at hm; omega))
      have z108 := kV102.size
      refine ps_k (o_KeccakPieces 260684 3) (.bool false) ?_
      refine ps_end ?_
      refine sy_a ⟨#[.slice A ls.length cap, iN AT, undef, undef, u4, pT b 0, cv, v, iN i, .slice (some ⟨g1, 0, none⟩) l.length cap1, u10, u11, undef, undef, undef, .slice A ls.length cap, .bool false, undef, .int .i64 at_, .slice A ls.length cap, iN ls.length, iN (ls.length + 1), iN AT, pT b 0, iN i, .slice A ls.length cap, iN ls.length, .bool true, u28, u29, iN i, iN AT, .bool false, u33, u34, .slice A ls.length cap, iN i, pT b_ (o_ + i), u, .slice (some ⟨g1, 0, none⟩) l.length cap1, pT b 0, .slice (some ⟨g1, 0, none⟩) l.length cap1, .int .i64 0, .bool false, u44, u45, u46, u47, u48, u49, u50, u51, u52, u53, u54, u55, u56, u57, u58, u59, u60, u61, u62, u63, u64, u65, u66, u67, u68, u69, u70, u71, undef, undef, undef, undef, undef, undef, undef, undef, undef, undef, undef, undef, undef, undef, undef, undef, undef, undef, undef, undef, undef, undef, undef, undef, undef, undef, undef, undef, undef, undef, undef, undef, undef, undef, undef, undef, undef, undef, undef, undef, undef, undef, undef, undef, undef, undef, undef, undef, undef, undef, undef, undef, undef, undef, undef], []⟩ ?_
      refine then_n ?_
      refine sy_n (.tmp 43) (part_KeccakPieces 521370) (part_KeccakPieces 521371) ?_
      refine sy_sk ?_
      refine then_n ?_
      refine sy_sq (part_KeccakPieces 260686) (part_KeccakPieces 260687) ?_
      refine sy_reg ?_
      refine rg_plain 15 (opsAt (part_KeccakPieces 260686)) [0, 1] (by kernel_rfl) (by kernel_rfl) ?_
      refine ps_k (o_KeccakPieces 260686 0) (.slice (some ⟨g1, 0, none⟩) l.length cap1) ?_
      refine ps_call (o_KeccakPieces 260686 1) 19 #[.slice (some ⟨g1, 0, none⟩) l.length cap1] (by kernel_rfl) (by kernel_rfl) (by kernel_rfl) (by kernel_rfl) (enters_of Try.func19 (by kernel_rfl) rfl) ((overBytes_ok _ l _ h106).mono ?_)
      rintro e V109 ⟨⟨r0, rfl⟩, kV109⟩
      refine ⟨_, rfl, ?_⟩
      have h110 : ListsAt V109 (.slice A ls.length cap) us ls := ListsAt.keepsB h0 h103 kV109 (fun j hj e => by have := hnI j e; omega)
      have h111 : Row V109 5 1 v ((cat ls i).length) (B (cat ls i)) := h104.keeps kV109 (fun j hj e => by have := hltA j hj; have := hnI j e; omega)
      have h112 : CSt V109 w.heap.size p i AT ls cv := h105.keepsRow kV109 h106
      have h113 : HashAt V109 b p (cat ls (i + 1)) := hV102.keepsRow kV109 h106
      have K114 : Keeps Nob w V109 := K107.then kV109 (fun i hi hm => absurd hi (by have := hnI i hm; omega))
      have z115 := kV109.size
      refine ps_end ?_
      refine sy_a ⟨#[.slice A ls.length cap, iN AT, undef, undef, u4, pT b 0, cv, v, iN i, .slice (some ⟨g1, 0, none⟩) l.length cap1, u10, u11, undef, undef, undef, .slice A ls.length cap, .bool false, undef, .int .i64 at_, .slice A ls.length cap, iN ls.length, iN (ls.length + 1), iN AT, pT b 0, iN i, .slice A ls.length cap, iN ls.length, .bool true, u28, u29, iN i, iN AT, .bool false, u33, u34, .slice A ls.length cap, iN i, pT b_ (o_ + i), u, .slice (some ⟨g1, 0, none⟩) l.length cap1, pT b 0, .slice (some ⟨g1, 0, none⟩) l.length cap1, .int .i64 0, .bool false, .slice (some ⟨g1, 0, none⟩) l.length cap1, r0, u46, u47, u48, u49, u50, u51, u52, u53, u54, u55, u56, u57, u58, u59, u60, u61, u62, u63, u64, u65, u66, u67, u68, u69, u70, u71, undef, undef, undef, undef, undef, undef, undef, undef, undef, undef, undef, undef, undef, undef, undef, undef, undef, undef, undef, undef, undef, undef, undef, undef, undef, undef, undef, undef, undef, undef, undef, undef, undef, undef, undef, undef, undef, undef, undef, undef, undef, undef, undef, undef, undef, undef, undef, undef, undef, undef, undef, undef, undef, undef, undef], []⟩ ?_
      refine then_n ?_
      refine sy_sq (part_KeccakPieces 521374) (part_KeccakPieces 521375) ?_
      refine sy_reg ?_
      refine rg_plain 16 (opsAt (part_KeccakPieces 521374)) [0, 1, 2, 3, 4, 5, 6] (by kernel_rfl) (by kernel_rfl) ?_
      refine ps_k (o_KeccakPieces 521374 0) (v) ?_
      refine ps_k (o_KeccakPieces 521374 1) (.slice A ls.length cap) ?_
      refine ps_k (o_KeccakPieces 521374 2) (iN i) ?_
      refine ps_p (o_KeccakPieces 521374 3) (pT b_ (o_ + i)) (exec_cast (v := pT b_ (o_ + i * 1)) (by simp) (exec_indexAt_slice 38 (.tmp 47) (.tmp 48) (by kernel_rfl) b_ o_ ls.length c_ (Eq.trans (b := .slice A ls.length cap) (by kernel_rfl) hv) .i64 i (by kernel_rfl) _ 1 Try.underlying38 (by kernel_rfl) (by omega))) ?_
      refine ps_p (o_KeccakPieces 521374 4) (u) (exec_load_cell 22 (.tmp 49) (by kernel_rfl) ⟨b_, o_ + i, none⟩ (by kernel_rfl) _ _ Try.underlying22 rfl (ListsAt.cell h110 hu hv)) ?_
      obtain ⟨v116, V117, hr118, h119, hg120, hn121, ha122⟩ := run_append_any (P := Try.prog) (w := V109) 22 (Oper.type (o_KeccakPieces 521374 5)) 5 i0 (.int .u8 0) 1 1 Try.underlying22 hi0 hz0 hz1 hz2 rfl (by decide) v ((cat ls i).length) (B (cat ls i)) h111 u l.length (B l) ((ListsAt.bytes h110 _ _ _ hu hl).src) (by unfold maxLen; omega) (by omega)
      have kV117 : Keeps (fun j => v.ownBlock = some j) V109 V117 := Keeps.rowAdd hg120
      have hw123 : NewFrom w.heap.size v116 := hnw.next K114.size ha122
      refine ps_run (o_KeccakPieces 521374 5) v116 (w' := V117) (by kernel_rfl) (by kernel_rfl) (exec_append (.tmp 46) (.tmp 50) 22 (by kernel_rfl) v u (by kernel_rfl) (by kernel_rfl) hr118) ?_
      have h124 : Row V117 5 1 v116 ((cat ls (i + 1)).length) (B (cat ls (i + 1))) := row_cat hl h119
      have h125 : ListsAt V117 (.slice A ls.length cap) us ls := ListsAt.keepsB h0 h110 kV117 (fun j hj e => by have := hnw j e; omega)
      have h126 : CSt V117 w.heap.size p i AT ls cv := h112.keepsRow kV117 h111
      have h127 : HashAt V117 b p (cat ls (i + 1)) := h113.keepsRow kV117 h111
      have K128 : Keeps Nob w V117 := K114.then kV117 (fun i hi hm => absurd hi (by have := hnw i hm; omega))
      have z129 := kV117.size
      refine ps_k (o_KeccakPieces 521374 6) (v116) ?_
      refine ps_end ?_
      refine sy_a ⟨#[.slice A ls.length cap, iN AT, undef, undef, u4, pT b 0, cv, v116, iN i, .slice (some ⟨g1, 0, none⟩) l.length cap1, u10, u11, undef, undef, undef, .slice A ls.length cap, .bool false, undef, .int .i64 at_, .slice A ls.length cap, iN ls.length, iN (ls.length + 1), iN AT, pT b 0, iN i, .slice A ls.length cap, iN ls.length, .bool true, u28, u29, iN i, iN AT, .bool false, u33, u34, .slice A ls.length cap, iN i, pT b_ (o_ + i), u, .slice (some ⟨g1, 0, none⟩) l.length cap1, pT b 0, .slice (some ⟨g1, 0, none⟩) l.length cap1, .int .i64 0, .bool false, .slice (some ⟨g1, 0, none⟩) l.length cap1, r0, v, .slice A ls.length cap, iN i, pT b_ (o_ + i), u, v116, u52, u53, u54, u55, u56, u57, u58, u59, u60, u61, u62, u63, u64, u65, u66, u67, u68, u69, u70, u71, undef, undef, undef, undef, undef, undef, undef, undef, undef, undef, undef, undef, undef, undef, undef, undef, undef, undef, undef, undef, undef, undef, undef, undef, undef, undef, undef, undef, undef, undef, undef, undef, undef, undef, undef, undef, undef, undef, undef, undef, undef, undef, undef, undef, undef, undef, undef, undef, undef, undef, undef, undef, undef, undef, undef], []⟩ ?_
      refine then_n ?_
      refine sy_sq (part_KeccakPieces 1042750) (part_KeccakPieces 1042751) ?_
      refine sy_reg ?_
      refine rg_plain 17 (opsAt (part_KeccakPieces 1042750)) [0, 1, 2, 3, 4, 5, 6, 7] (by kernel_rfl) (by kernel_rfl) ?_
      refine ps_k (o_KeccakPieces 1042750 0) (pT b 0) ?_
      have hcb17 := h127.bp
      refine ps_call (o_KeccakPieces 1042750 1) 10 #[pT b 0] (by kernel_rfl) (by kernel_rfl) (by kernel_rfl) (by kernel_rfl) (enters_of Try.func10 (by kernel_rfl) rfl) ((kHSum_ok b p (cat ls (i + 1)) _ h127).mono ?_)
      rintro e V130 ⟨rfl, kV130⟩
      refine ⟨_, rfl, ?_⟩
      have h131 : ListsAt V130 (.slice A ls.length cap) us ls := h125.keepsN kV130
      have h132 : CSt V130 w.heap.size p i AT ls cv := h126.off kV130 (fun _ x => x.elim)
      have h133 : HashAt V130 b p (cat ls (i + 1)) := h127.keepsN kV130
      have h134 : Row V130 5 1 v116 ((cat ls (i + 1)).length) (B (cat ls (i + 1))) := h124.keeps kV130 (fun _ _ x => x)
      have K135 : Keeps Nob w V130 := K128.then kV130 (fun _ _ x => x.elim)
      have z136 := kV130.size
      refine ps_k (o_KeccakPieces 1042750 2) (.tuple #[.agg (B (Kec.sum (cat ls (i + 1)))).toArray, .int .i64 0]) ?_
      refine ps_k (o_KeccakPieces 1042750 3) (.agg (B (Kec.sum (cat ls (i + 1)))).toArray) ?_
      refine ps_k (o_KeccakPieces 1042750 4) (.int .i64 0) ?_
      obtain ⟨V137, eV137⟩ : ∃ V, V130.alloc (.cells (zr_u8_32) 29) = V := ⟨_, rfl⟩
      obtain ⟨gt, egt⟩ : ∃ g, V130.heap.size = g := ⟨_, rfl⟩
      have n139 : w.heap.size ≤ gt := egt ▸ K135.size
      have h138 : V137.heap[gt]? = some (.cells (zr_u8_32) 29 (0, 0)) := by rw [← eV137, ← egt]; exact heap_alloc_new _ _
      have kV137 : Keeps Nob V130 V137 := eV137 ▸ (Keeps.refl _ _).alloc _
      refine ps_run (o_KeccakPieces 1042750 5) (pT gt 0) (w' := V137) (by kernel_rfl) (by kernel_rfl) (by rw [← eV137, ← egt]; exact exec_alloc0 29 (by kernel_rfl) (.agg (zr_u8_32)) (by kernel_rfl)) ?_
      clear eV137
      have h140 : ListsAt V137 (.slice A ls.length cap) us ls := h131.keepsN kV137
      have h141 : CSt V137 w.heap.size p i AT ls cv := h132.off kV137 (fun _ x => x.elim)
      have h142 : HashAt V137 b p (cat ls (i + 1)) := h133.keepsN kV137
      have h143 : Row V137 5 1 v116 ((cat ls (i + 1)).length) (B (cat ls (i + 1))) := h134.keeps kV137 (fun _ _ x => x)
      have K144 : Keeps Nob w V137 := K135.then kV137 (fun _ _ x => x.elim)
      have z145 := kV137.size
      obtain ⟨V146, eV146⟩ : ∃ V, V137.setRow gt ((B (Kec.sum (cat ls (i + 1)))).toArray) = V := ⟨_, rfl⟩
      have kV146 : Keeps (One gt) V137 V146 := eV146 ▸ (Keeps.refl (One gt) _).setRow (fun _ => (rfl : Own.One gt gt)) _
      have h147 : V146.heap[gt]? = some (.cells ((B (Kec.sum (cat ls (i + 1)))).toArray) 29 (0, 0)) := eV146 ▸ setRow_heap _ _ _ _ _ _ h138
      refine ps_skip (o_KeccakPieces 1042750 6) (w' := V146) (by kernel_rfl) (by kernel_rfl) (by rw [← eV146]; exact exec_store_row 29 (.tmp 10) (.tmp 55) (by kernel_rfl) gt ((B (Kec.sum (cat ls (i + 1)))).toArray) (by kernel_rfl) (by kernel_rfl) 29 (zr_u8_32) h138 (by rw [Bz_size, Kec.sum_len]; kernel_rfl) (by rw [Bz_size, Kec.sum_len]; first | rfl | rw [Bz_size, Kec.sum_len]) (by rw [List.all_toArray]; exact List.all_eq_true.2 (B_one _))) ?_
      clear eV146
      have h148 : ListsAt V146 (.slice A ls.length cap) us ls := ListsAt.keepsB h0 h140 kV146 (fun j hj e => by first | exact e.elim | (unfold Own.One at e; omega) | omega)
      have h149 : CSt V146 w.heap.size p i AT ls cv := h141.offH kV146 h138
      have h150 : HashAt V146 b p (cat ls (i + 1)) := h142.offH kV146 h138
      have h151 : Row V146 5 1 v116 ((cat ls (i + 1)).length) (B (cat ls (i + 1))) := row_offH h143 kV146 h138
      have K152 : Keeps Nob w V146 := K144.then kV146 (fun i hi hm => absurd hi (by unfold Own.One at hm; omega))
      have z153 := kV146.size
      refine ps_k (o_KeccakPieces 1042750 7) (.int .i64 0) ?_
      refine ps_end ?_
      refine sy_a ⟨#[.slice A ls.length cap, iN AT, undef, undef, u4, pT b 0, cv, v116, iN i, .slice (some ⟨g1, 0, none⟩) l.length cap1, pT gt 0, .int .i64 0, undef, undef, undef, .slice A ls.length cap, .bool false, undef, .int .i64 at_, .slice A ls.length cap, iN ls.length, iN (ls.length + 1), iN AT, pT b 0, iN i, .slice A ls.length cap, iN ls.length, .bool true, u28, u29, iN i, iN AT, .bool false, u33, u34, .slice A ls.length cap, iN i, pT b_ (o_ + i), u, .slice (some ⟨g1, 0, none⟩) l.length cap1, pT b 0, .slice (some ⟨g1, 0, none⟩) l.length cap1, .int .i64 0, .bool false, .slice (some ⟨g1, 0, none⟩) l.length cap1, r0, v, .slice A ls.length cap, iN i, pT b_ (o_ + i), u, v116, .tuple #[.agg (B (Kec.sum (cat ls (i + 1)))).toArray, .int .i64 0], pT b 0, .tuple #[.agg (B (Kec.sum (cat ls (i + 1)))).toArray, .int .i64 0], .agg (B (Kec.sum (cat ls (i + 1)))).toArray, .int .i64 0, u57, u58, u59, u60, u61, u62, u63, u64, u65, u66, u67, u68, u69, u70, u71, undef, undef, undef, undef, undef, undef, undef, undef, undef, undef, undef, undef, undef, undef, undef, undef, undef, undef, undef, undef, undef, undef, undef, undef, undef, undef, undef, undef, undef, undef, undef, undef, undef, undef, undef, undef, undef, undef, undef, undef, undef, undef, undef, undef, undef, undef, undef, undef, undef, undef, undef, undef, undef, undef, undef], []⟩ ?_
      refine then_n ?_
      refine sy_sq (part_KeccakPieces 2085502) (part_KeccakPieces 2085503) ?_
      refine sy_np ?_
      refine sy_reg ?_
      refine an_begin 18 15 (opsAt (part_KeccakPieces 2085502)) (fun W => (W.heap[gt]? = some (.cells ((B (Kec.sum (cat ls (i + 1)))).toArray) 29 (0, 0)))) #[false, false, false, false, false, false, false, false, false, false, false, false, false, false, false] (by kernel_rfl) (by kernel_rfl) (by kernel_rfl) (by kernel_rfl) ?_
      obtain ⟨V154, eV154⟩ : ∃ V, V146.drew = V := ⟨_, rfl⟩
      have kV154 : Keeps Nob V146 V154 := eV154 ▸ (Keeps.refl _ _).drew
      rw [eV154]
      clear eV154
      have h155 : ListsAt V154 (.slice A ls.length cap) us ls := h148.keepsN kV154
      have h156 : CSt V154 w.heap.size p i AT ls cv := h149.off kV154 (fun _ x => x.elim)
      have h157 : HashAt V154 b p (cat ls (i + 1)) := h150.keepsN kV154
      have h158 : Row V154 5 1 v116 ((cat ls (i + 1)).length) (B (cat ls (i + 1))) := h151.keeps kV154 (fun _ _ x => x)
      have h159 : V154.heap[gt]? = some (.cells ((B (Kec.sum (cat ls (i + 1)))).toArray) 29 (0, 0)) := (kV154.block gt (lt_of_block h147) (fun x => x)).trans h147
      have K160 : Keeps Nob w V154 := K152.then kV154 (fun _ _ x => x.elim)
      have z161 := kV154.size
      refine an_val 0 (o_KeccakPieces 2085502 0) (.agg ((B (Kec.sum (cat ls (i + 1)))).toArray)) (by kernel_rfl) (by kernel_rfl) (by kernel_rfl) (by kernel_rfl) (by kernel_rfl) (fun W hS => exec_load_row 29 (.tmp 10) (by kernel_rfl) gt (by kernel_rfl) _ _ (0, 0) _ (hS) Try.underlying29 rfl (by rw [Bz_size, (Kec.sum_len _)]; kernel_rfl)) h159 ?_
      refine an_val 1 (o_KeccakPieces 2085502 1) (v116) (by kernel_rfl) (by kernel_rfl) (by kernel_rfl) (by kernel_rfl) (by kernel_rfl) (fun W hS => by kernel_rfl) h159 ?_
      refine an_one 2 (by kernel_rfl) ?_
      refine on_call (o_KeccakPieces 2085502 2) 20 #[v116] (by kernel_rfl) (by kernel_rfl) (by kernel_rfl) (by kernel_rfl) (enters_of Try.func20 (by kernel_rfl) rfl) ((hSum_ok (cat ls (i + 1)) _ _ (Row.bytes h158) (by rw [cat_len]; omega)).mono ?_)
      rintro e V162 ⟨rfl, kV162⟩
      refine ⟨_, rfl, ?_⟩
      have h163 : ListsAt V162 (.slice A ls.length cap) us ls := h155.keepsN kV162
      have h164 : CSt V162 w.heap.size p i AT ls cv := h156.off kV162 (fun _ x => x.elim)
      have h165 : HashAt V162 b p (cat ls (i + 1)) := h157.keepsN kV162
      have h166 : Row V162 5 1 v116 ((cat ls (i + 1)).length) (B (cat ls (i + 1))) := h158.keeps kV162 (fun _ _ x => x)
      have h167 : V162.heap[gt]? = some (.cells ((B (Kec.sum (cat ls (i + 1)))).toArray) 29 (0, 0)) := (kV162.block gt (lt_of_block h159) (fun x => x)).trans h159
      have K168 : Keeps Nob w V162 := K160.then kV162 (fun _ _ x => x.elim)
      have z169 := kV162.size
      refine ⟨h167, ?_⟩
      refine an_val 3 (o_KeccakPieces 2085502 3) (.bool false) (by kernel_rfl) (by kernel_rfl) (by kernel_rfl) (by kernel_rfl) (by kernel_rfl) (fun W hS => exec_cast (congrArg Value.bool (by simp)) (exec_binop .neq 29 29 (.tmp 57) (.tmp 59) (by kernel_rfl) (.agg (B (Kec.sum (cat ls (i + 1)))).toArray) (.agg (B (Kec.sum (cat ls (i + 1)))).toArray) _ (by kernel_rfl) (by kernel_rfl) (run_eqGuard_agg _ _ _ _ _ _ _ khash_guard) (khash_neq _ _ (Kec.sum_len _) (Kec.sum_len _) _))) h167 ?_
      refine an_val 4 (o_KeccakPieces 2085502 4) (.bool false) (by kernel_rfl) (by kernel_rfl) (by kernel_rfl) (by kernel_rfl) (by kernel_rfl) (fun W hS => by kernel_rfl) h167 ?_
      refine an_val 5 (o_KeccakPieces 2085502 5) (.int .i64 0) (by kernel_rfl) (by kernel_rfl) (by kernel_rfl) (by kernel_rfl) (by kernel_rfl) (fun W hS => by kernel_rfl) h167 ?_
      refine an_val 6 (o_KeccakPieces 2085502 6) (.bool false) (by kernel_rfl) (by kernel_rfl) (by kernel_rfl) (by kernel_rfl) (by kernel_rfl) (fun W hS => by kernel_rfl) h167 ?_
      refine an_val 7 (o_KeccakPieces 2085502 7) (.bool false) (by kernel_rfl) (by kernel_rfl) (by kernel_rfl) (by kernel_rfl) (by kernel_rfl) (fun W hS => by kernel_rfl) h167 ?_
      refine an_val 8 (o_KeccakPieces 2085502 8) (.bool false) (by kernel_rfl) (by kernel_rfl) (by kernel_rfl) (by kernel_rfl) (by kernel_rfl) (fun W hS => by kernel_rfl) h167 ?_
      refine an_val 9 (o_KeccakPieces 2085502 9) (pT b 0) (by kernel_rfl) (by kernel_rfl) (by kernel_rfl) (by kernel_rfl) (by kernel_rfl) (fun W hS => by kernel_rfl) h167 ?_
      refine an_val 11 (o_KeccakPieces 2085502 11) (v116) (by kernel_rfl) (by kernel_rfl) (by kernel_rfl) (by kernel_rfl) (by kernel_rfl) (fun W hS => by kernel_rfl) h167 ?_
      refine an_val 12 (o_KeccakPieces 2085502 12) (iN ((cat ls (i + 1)).length)) (by kernel_rfl) (by kernel_rfl) (by kernel_rfl) (by kernel_rfl) (by kernel_rfl) (fun W hS => exec_len_rowW (.tmp 68) 22 5 (by kernel_rfl) Try.underlying22 (by kernel_rfl) h166) h167 ?_
      refine an_one 10 (by kernel_rfl) ?_
      refine on_call (o_KeccakPieces 2085502 10) 12 #[pT b 0] (by kernel_rfl) (by kernel_rfl) (by kernel_rfl) (by kernel_rfl) (enters_of Try.func12 (by kernel_rfl) rfl) ((kHLen_ok b p (cat ls (i + 1)) _ h165).mono ?_)
      rintro e w1 ⟨rfl, rfl⟩
      refine ⟨_, rfl, ?_⟩
      refine ⟨h167, ?_⟩
      refine an_val 13 (o_KeccakPieces 2085502 13) (.bool false) (by kernel_rfl) (by kernel_rfl) (by kernel_rfl) (by kernel_rfl) (by kernel_rfl) (fun W hS => exec_cast (congrArg Value.bool (show ((((((cat ls (i + 1)).length : Nat) : Int)) != ((((cat ls (i + 1)).length : Nat) : Int)))) = false from by simp)) (by kernel_rfl)) h167 ?_
      refine an_val 14 (o_KeccakPieces 2085502 14) (.bool false) (by kernel_rfl) (by kernel_rfl) (by kernel_rfl) (by kernel_rfl) (by kernel_rfl) (fun W hS => by kernel_rfl) h167 ?_
      refine an_end (by kernel_rfl) ?_
      refine sy_a ⟨#[.slice A ls.length cap, iN AT, undef, undef, u4, pT b 0, cv, v116, iN i, .slice (some ⟨g1, 0, none⟩) l.length cap1, pT gt 0, .int .i64 0, undef, undef, undef, .slice A ls.length cap, .bool false, undef, .int .i64 at_, .slice A ls.length cap, iN ls.length, iN (ls.length + 1), iN AT, pT b 0, iN i, .slice A ls.length cap, iN ls.length, .bool true, u28, u29, iN i, iN AT, .bool false, u33, u34, .slice A ls.length cap, iN i, pT b_ (o_ + i), u, .slice (some ⟨g1, 0, none⟩) l.length cap1, pT b 0, .slice (some ⟨g1, 0, none⟩) l.length cap1, .int .i64 0, .bool false, .slice (some ⟨g1, 0, none⟩) l.length cap1, r0, v, .slice A ls.length cap, iN i, pT b_ (o_ + i), u, v116, .tuple #[.agg (B (Kec.sum (cat ls (i + 1)))).toArray, .int .i64 0], pT b 0, .tuple #[.agg (B (Kec.sum (cat ls (i + 1)))).toArray, .int .i64 0], .agg (B (Kec.sum (cat ls (i + 1)))).toArray, .int .i64 0, .agg ((B (Kec.sum (cat ls (i + 1)))).toArray), v116, .agg (B (Kec.sum (cat ls (i + 1)))).toArray, .bool false, .bool false, .int .i64 0, .bool false, .bool false, .bool false, pT b 0, iN ((cat ls (i + 1)).length), v116, iN ((cat ls (i + 1)).length), .bool false, .bool false, undef, undef, undef, undef, undef, undef, undef, undef, undef, undef, undef, undef, undef, undef, undef, undef, undef, undef, undef, undef, undef, undef, undef, undef, undef, undef, undef, undef, undef, undef, undef, undef, undef, undef, undef, undef, undef, undef, undef, undef, undef, undef, undef, undef, undef, undef, undef, undef, undef, undef, undef, undef, undef, undef, undef], []⟩ ?_
      refine then_n ?_
      refine sy_n (.tmp 71) (part_KeccakPieces 4171006) (part_KeccakPieces 4171007) ?_
      refine sy_sk ?_
      refine blk_n ?_
      refine then_n ?_
      refine sy_reg ?_
      refine rg_plain 9 (opsAt (part_KeccakPieces 8147)) [0, 1, 2] (by kernel_rfl) (by kernel_rfl) ?_
      refine ps_k (o_KeccakPieces 8147 0) (iN i) ?_
      refine ps_p (o_KeccakPieces 8147 1) (iN (i + 1)) (exec_cast (congrArg (Value.int .i64) (wrapN (i + 1) (by omega))) (by kernel_rfl)) ?_
      refine ps_k (o_KeccakPieces 8147 2) (iN (i + 1)) ?_
      refine ps_end ?_
      refine sy_a ⟨#[.slice A ls.length cap, iN AT, undef, undef, u4, pT b 0, cv, v116, iN (i + 1), .slice (some ⟨g1, 0, none⟩) l.length cap1, pT gt 0, .int .i64 0, undef, undef, undef, .slice A ls.length cap, .bool false, undef, .int .i64 at_, .slice A ls.length cap, iN ls.length, iN (ls.length + 1), iN AT, pT b 0, iN i, .slice A ls.length cap, iN ls.length, .bool true, iN i, iN (i + 1), iN i, iN AT, .bool false, u33, u34, .slice A ls.length cap, iN i, pT b_ (o_ + i), u, .slice (some ⟨g1, 0, none⟩) l.length cap1, pT b 0, .slice (some ⟨g1, 0, none⟩) l.length cap1, .int .i64 0, .bool false, .slice (some ⟨g1, 0, none⟩) l.length cap1, r0, v, .slice A ls.length cap, iN i, pT b_ (o_ + i), u, v116, .tuple #[.agg (B (Kec.sum (cat ls (i + 1)))).toArray, .int .i64 0], pT b 0, .tuple #[.agg (B (Kec.sum (cat ls (i + 1)))).toArray, .int .i64 0], .agg (B (Kec.sum (cat ls (i + 1)))).toArray, .int .i64 0, .agg ((B (Kec.sum (cat ls (i + 1)))).toArray), v116, .agg (B (Kec.sum (cat ls (i + 1)))).toArray, .bool false, .bool false, .int .i64 0, .bool false, .bool false, .bool false, pT b 0, iN ((cat ls (i + 1)).length), v116, iN ((cat ls (i + 1)).length), .bool false, .bool false, undef, undef, undef, undef, undef, undef, undef, undef, undef, undef, undef, undef, undef, undef, undef, undef, undef, undef, undef, undef, undef, undef, undef, undef, undef, undef, undef, undef, undef, undef, undef, undef, undef, undef, undef, undef, undef, undef, undef, undef, undef, undef, undef, undef, undef, undef, undef, undef, undef, undef, undef, undef, undef, undef, undef], []⟩ ?_
      refine then_n ?_
      refine ⟨⟨i + 1, cv, v116, u4, (.slice (some ⟨g1, 0, none⟩) l.length cap1), (pT gt 0), (.int .i64 0), (iN i), (.slice A ls.length cap), (iN ls.length), (.bool true), (iN i), (iN (i + 1)), (iN i), (iN AT), (.bool false), u33, u34, (.slice A ls.length cap), (iN i), (pT b_ (o_ + i)), u, (.slice (some ⟨g1, 0, none⟩) l.length cap1), (pT b 0), (.slice (some ⟨g1, 0, none⟩) l.length cap1), (.int .i64 0), (.bool false), (.slice (some ⟨g1, 0, none⟩) l.length cap1), r0, v, (.slice A ls.length cap), (iN i), (pT b_ (o_ + i)), u, v116, (.tuple #[.agg (B (Kec.sum (cat ls (i + 1)))).toArray, .int .i64 0]), (pT b 0), (.tuple #[.agg (B (Kec.sum (cat ls (i + 1)))).toArray, .int .i64 0]), (.agg (B (Kec.sum (cat ls (i + 1)))).toArray), (.int .i64 0), (.agg ((B (Kec.sum (cat ls (i + 1)))).toArray)), v116, (.agg (B (Kec.sum (cat ls (i + 1)))).toArray), (.bool false), (.bool false), (.int .i64 0), (.bool false), (.bool false), (.bool false), (pT b 0), (iN ((cat ls (i + 1)).length)), v116, (iN ((cat ls (i + 1)).length)), (.bool false), (.bool false), by kernel_rfl, by omega, h163, h166, h165, h164.next neAT, K168, hw123⟩, ?_⟩
      exact lt_meas (x := ls.length - (i + 1)) (y := ls.length - i) (by kernel_rfl) (by kernel_rfl) (by omega)
    · have hcl := cat_len ls ls.length
      have hcl2 := cat_len ls AT
      have htl := tot_le ls ls.length
      have htl2 := tot_le ls AT
      have hle : (cat ls AT).length ≤ (cat ls ls.length).length := by rw [cat_len, cat_len]; exact tot_mono ls hAT
      subst eq_i0
      obtain ⟨A3, cap3, hcap3, rfl⟩ : ∃ A3 cap3, (cat ls ls.length).length ≤ cap3 ∧ v = .slice A3 (cat ls ls.length).length cap3 := by obtain ⟨A3, c, e, h1, _⟩ := (Row.bytes h8).form; exact ⟨A3, c, h1, e⟩
      have h170 : Row V6 5 1 (.slice A3 (cat ls ls.length).length cap3) ((cat ls ls.length).length) (B (cat ls ls.length)) := h8
      have h171 : HashAt V6 b p (cat ls ls.length) := h9
      refine sy_sq (part_KeccakPieces 4072) (part_KeccakPieces 4073) ?_
      refine sy_sq (part_KeccakPieces 8144) (part_KeccakPieces 8145) ?_
      refine sy_reg ?_
      refine rg_plain 8 (opsAt (part_KeccakPieces 8144)) [0, 1, 2, 3] (by kernel_rfl) (by kernel_rfl) ?_
      refine ps_k (o_KeccakPieces 8144 0) (iN ls.length) ?_
      refine ps_k (o_KeccakPieces 8144 1) (.slice A ls.length cap) ?_
      refine ps_p (o_KeccakPieces 8144 2) (iN ls.length) (exec_len (.tmp 25) 38 _ (by kernel_rfl) Try.underlying38 A ls.length cap (by kernel_rfl)) ?_
      refine ps_p (o_KeccakPieces 8144 3) (.bool false) (exec_cast (congrArg Value.bool (show (decide ((((ls.length : Nat) : Int)) < (((ls.length : Nat) : Int)))) = false from by simp only [decide_eq_false_iff_not]; omega)) (by kernel_rfl)) ?_
      refine ps_end ?_
      refine sy_a ⟨#[.slice A ls.length cap, iN AT, undef, undef, u4, pT b 0, cv, .slice A3 (cat ls ls.length).length cap3, iN ls.length, u9, u10, u11, undef, undef, undef, .slice A ls.length cap, .bool false, undef, .int .i64 at_, .slice A ls.length cap, iN ls.length, iN (ls.length + 1), iN AT, pT b 0, iN ls.length, .slice A ls.length cap, iN ls.length, .bool false, u28, u29, u30, u31, u32, u33, u34, u35, u36, u37, u38, u39, u40, u41, u42, u43, u44, u45, u46, u47, u48, u49, u50, u51, u52, u53, u54, u55, u56, u57, u58, u59, u60, u61, u62, u63, u64, u65, u66, u67, u68, u69, u70, u71, undef, undef, undef, undef, undef, undef, undef, undef, undef, undef, undef, undef, undef, undef, undef, undef, undef, undef, undef, undef, undef, undef, undef, undef, undef, undef, undef, undef, undef, undef, undef, undef, undef, undef, undef, undef, undef, undef, undef, undef, undef, undef, undef, undef, undef, undef, undef, undef, undef, undef, undef, undef, undef, undef, undef], []⟩ ?_
      refine then_n ?_
      refine sy_n (.tmp 27) (part_KeccakPieces 16290) (part_KeccakPieces 16291) ?_
      refine sy_exit 0 (by kernel_rfl) ?_
      refine then_e ?_
      refine then_e ?_
      refine blk_e ?_
      refine then_n ?_
      refine sy_sq (part_KeccakPieces 510) (part_KeccakPieces 511) ?_
      refine sy_sq (part_KeccakPieces 1020) (part_KeccakPieces 1021) ?_
      refine sy_reg ?_
      refine rg_plain 20 (opsAt (part_KeccakPieces 1020)) [0, 1, 2, 3] (by kernel_rfl) (by kernel_rfl) ?_
      refine ps_k (o_KeccakPieces 1020 0) (iN AT) ?_
      refine ps_k (o_KeccakPieces 1020 1) (.slice A ls.length cap) ?_
      refine ps_p (o_KeccakPieces 1020 2) (iN ls.length) (exec_len (.tmp 73) 38 _ (by kernel_rfl) Try.underlying38 A ls.length cap (by kernel_rfl)) ?_
      refine ps_p (o_KeccakPieces 1020 3) (.bool true) (exec_cast (congrArg Value.bool (show (((((AT : Nat) : Int)) == (((ls.length : Nat) : Int)))) = true from by simp only [beq_iff_eq]; omega)) (by kernel_rfl)) ?_
      refine ps_end ?_
      refine sy_a ⟨#[.slice A ls.length cap, iN AT, undef, undef, u4, pT b 0, cv, .slice A3 (cat ls ls.length).length cap3, iN ls.length, u9, u10, u11, undef, undef, undef, .slice A ls.length cap, .bool false, undef, .int .i64 at_, .slice A ls.length cap, iN ls.length, iN (ls.length + 1), iN AT, pT b 0, iN ls.length, .slice A ls.length cap, iN ls.length, .bool false, u28, u29, u30, u31, u32, u33, u34, u35, u36, u37, u38, u39, u40, u41, u42, u43, u44, u45, u46, u47, u48, u49, u50, u51, u52, u53, u54, u55, u56, u57, u58, u59, u60, u61, u62, u63, u64, u65, u66, u67, u68, u69, u70, u71, iN AT, .slice A ls.length cap, iN ls.length, .bool true, undef, undef, undef, undef, undef, undef, undef, undef, undef, undef, undef, undef, undef, undef, undef, undef, undef, undef, undef, undef, undef, undef, undef, undef, undef, undef, undef, undef, undef, undef, undef, undef, undef, undef, undef, undef, undef, undef, undef, undef, undef, undef, undef, undef, undef, undef, undef, undef, undef, undef, undef], []⟩ ?_
      refine then_n ?_
      refine sy_ys (.tmp 75) (part_KeccakPieces 2042) (part_KeccakPieces 2043) ?_
      refine sy_reg ?_
      refine rg_plain 21 (opsAt (part_KeccakPieces 2042)) [0, 1, 2] (by kernel_rfl) (by kernel_rfl) ?_
      refine ps_k (o_KeccakPieces 2042 0) (pT b 0) ?_
      refine ps_call (o_KeccakPieces 2042 1) 13 #[pT b 0] (by kernel_rfl) (by kernel_rfl) (by kernel_rfl) (by kernel_rfl) (enters_of Try.func13 (by kernel_rfl) rfl) ((kHCopy_ok b p (cat ls ls.length) _ h171).mono ?_)
      rintro e V172 ⟨b2, p2, rfl, hV172, hb2, hp2, kV172⟩
      have hbc := hV172.bp
      have hnb := h171.bp
      have hDV172 : HashAt V172 b2 p2 (cat ls AT) := by rw [eqAT]; exact hV172
      have hp2N : w.heap.size ≤ p2 := by have := K11.size; omega
      refine ⟨_, rfl, ?_⟩
      have h173 : ListsAt V172 (.slice A ls.length cap) us ls := h7.keepsN kV172
      have h174 : Row V172 5 1 (.slice A3 (cat ls ls.length).length cap3) ((cat ls ls.length).length) (B (cat ls ls.length)) := h170.keeps kV172 (fun _ _ x => x)
      have h175 : HashAt V172 b p (cat ls ls.length) := h171.keepsN kV172
      have K176 : Keeps Nob w V172 := K11.then kV172 (fun _ _ x => x.elim)
      have z177 := kV172.size
      refine ps_k (o_KeccakPieces 2042 2) (pT b2 0) ?_
      refine ps_end ?_
      refine sy_a ⟨#[.slice A ls.length cap, iN AT, undef, undef, u4, pT b 0, pT b2 0, .slice A3 (cat ls ls.length).length cap3, iN ls.length, u9, u10, u11, undef, undef, undef, .slice A ls.length cap, .bool false, undef, .int .i64 at_, .slice A ls.length cap, iN ls.length, iN (ls.length + 1), iN AT, pT b 0, iN ls.length, .slice A ls.length cap, iN ls.length, .bool false, u28, u29, u30, u31, u32, u33, u34, u35, u36, u37, u38, u39, u40, u41, u42, u43, u44, u45, u46, u47, u48, u49, u50, u51, u52, u53, u54, u55, u56, u57, u58, u59, u60, u61, u62, u63, u64, u65, u66, u67, u68, u69, u70, u71, iN AT, .slice A ls.length cap, iN ls.length, .bool true, pT b 0, pT b2 0, undef, undef, undef, undef, undef, undef, undef, undef, undef, undef, undef, undef, undef, undef, undef, undef, undef, undef, undef, undef, undef, undef, undef, undef, undef, undef, undef, undef, undef, undef, undef, undef, undef, undef, undef, undef, undef, undef, undef, undef, undef, undef, undef, undef, undef, undef, undef, undef, undef], []⟩ ?_
      refine then_n ?_
      refine sy_sq (part_KeccakPieces 1022) (part_KeccakPieces 1023) ?_
      refine sy_reg ?_
      refine rg_plain 22 (opsAt (part_KeccakPieces 1022)) [0, 1, 2] (by kernel_rfl) (by kernel_rfl) ?_
      refine ps_k (o_KeccakPieces 1022 0) (pT b2 0) ?_
      refine ps_call (o_KeccakPieces 1022 1) 12 #[pT b2 0] (by kernel_rfl) (by kernel_rfl) (by kernel_rfl) (by kernel_rfl) (enters_of Try.func12 (by kernel_rfl) rfl) ((kHLen_ok b2 p2 (cat ls AT) _ hDV172).mono ?_)
      rintro e w1 ⟨rfl, rfl⟩
      refine ⟨_, rfl, ?_⟩
      refine ps_k (o_KeccakPieces 1022 2) (iN ((cat ls AT).length)) ?_
      refine ps_end ?_
      refine sy_a ⟨#[.slice A ls.length cap, iN AT, undef, undef, u4, pT b 0, pT b2 0, .slice A3 (cat ls ls.length).length cap3, iN ls.length, u9, u10, u11, iN ((cat ls AT).length), undef, undef, .slice A ls.length cap, .bool false, undef, .int .i64 at_, .slice A ls.length cap, iN ls.length, iN (ls.length + 1), iN AT, pT b 0, iN ls.length, .slice A ls.length cap, iN ls.length, .bool false, u28, u29, u30, u31, u32, u33, u34, u35, u36, u37, u38, u39, u40, u41, u42, u43, u44, u45, u46, u47, u48, u49, u50, u51, u52, u53, u54, u55, u56, u57, u58, u59, u60, u61, u62, u63, u64, u65, u66, u67, u68, u69, u70, u71, iN AT, .slice A ls.length cap, iN ls.length, .bool true, pT b 0, pT b2 0, pT b2 0, iN ((cat ls AT).length), undef, undef, undef, undef, undef, undef, undef, undef, undef, undef, undef, undef, undef, undef, undef, undef, undef, undef, undef, undef, undef, undef, undef, undef, undef, undef, undef, undef, undef, undef, undef, undef, undef, undef, undef, undef, undef, undef, undef, undef, undef, undef, undef, undef, undef, undef, undef], []⟩ ?_
      refine then_n ?_
      refine sy_sq (part_KeccakPieces 2046) (part_KeccakPieces 2047) ?_
      refine sy_sq (part_KeccakPieces 4092) (part_KeccakPieces 4093) ?_
      refine sy_reg ?_
      refine rg_plain 23 (opsAt (part_KeccakPieces 4092)) [0, 1, 2, 3, 4, 5, 6, 7] (by kernel_rfl) (by kernel_rfl) ?_
      refine ps_k (o_KeccakPieces 4092 0) (iN ((cat ls AT).length)) ?_
      refine ps_k (o_KeccakPieces 4092 1) (.slice A3 (cat ls ls.length).length cap3) ?_
      refine ps_p (o_KeccakPieces 4092 2) (iN ((cat ls ls.length).length)) (exec_len (.tmp 81) 22 _ (by kernel_rfl) Try.underlying22 A3 (cat ls ls.length).length cap3 (by kernel_rfl)) ?_
      refine ps_p (o_KeccakPieces 4092 3) (.bool false) (exec_cast (congrArg Value.bool (show (decide (((((cat ls AT).length : Nat) : Int)) > ((((cat ls ls.length).length : Nat) : Int)))) = false from by simp only [decide_eq_false_iff_not]; omega)) (by kernel_rfl)) ?_
      refine ps_k (o_KeccakPieces 4092 4) (.bool false) ?_
      refine ps_k (o_KeccakPieces 4092 5) (iN ((cat ls AT).length)) ?_
      refine ps_p (o_KeccakPieces 4092 6) (.bool false) (exec_cast (congrArg Value.bool (show (decide (((((cat ls AT).length : Nat) : Int)) < ((0) : Int))) = false from by simp only [decide_eq_false_iff_not]; omega)) (by kernel_rfl)) ?_
      refine ps_k (o_KeccakPieces 4092 7) (.bool false) ?_
      refine ps_end ?_
      refine sy_a ⟨#[.slice A ls.length cap, iN AT, undef, undef, u4, pT b 0, pT b2 0, .slice A3 (cat ls ls.length).length cap3, iN ls.length, u9, u10, u11, iN ((cat ls AT).length), undef, undef, .slice A ls.length cap, .bool false, undef, .int .i64 at_, .slice A ls.length cap, iN ls.length, iN (ls.length + 1), iN AT, pT b 0, iN ls.length, .slice A ls.length cap, iN ls.length, .bool false, u28, u29, u30, u31, u32, u33, u34, u35, u36, u37, u38, u39, u40, u41, u42, u43, u44, u45, u46, u47, u48, u49, u50, u51, u52, u53, u54, u55, u56, u57, u58, u59, u60, u61, u62, u63, u64, u65, u66, u67, u68, u69, u70, u71, iN AT, .slice A ls.length cap, iN ls.length, .bool true, pT b 0, pT b2 0, pT b2 0, iN ((cat ls AT).length), iN ((cat ls AT).length), .slice A3 (cat ls ls.length).length cap3, iN ((cat ls ls.length).length), .bool false, .bool false, iN ((cat ls AT).length), .bool false, .bool false, undef, undef, undef, undef, undef, undef, undef, undef, undef, undef, undef, undef, undef, undef, undef, undef, undef, undef, undef, undef, undef, undef, undef, undef, undef, undef, undef, undef, undef, undef, undef, undef, undef, undef, undef, undef, undef, undef, undef], []⟩ ?_
      refine then_n ?_
      refine sy_n (.tmp 87) (part_KeccakPieces 8186) (part_KeccakPieces 8187) ?_
      refine sy_sk ?_
      refine then_n ?_
      refine sy_sq (part_KeccakPieces 4094) (part_KeccakPieces 4095) ?_
      refine sy_reg ?_
      refine rg_plain 25 (opsAt (part_KeccakPieces 4094)) [0, 1, 2, 3, 4, 5, 6, 7] (by kernel_rfl) (by kernel_rfl) ?_
      refine ps_k (o_KeccakPieces 4094 0) (pT b2 0) ?_
      have hcb25 := hDV172.bp
      refine ps_call (o_KeccakPieces 4094 1) 10 #[pT b2 0] (by kernel_rfl) (by kernel_rfl) (by kernel_rfl) (by kernel_rfl) (enters_of Try.func10 (by kernel_rfl) rfl) ((kHSum_ok b2 p2 (cat ls AT) _ hDV172).mono ?_)
      rintro e V178 ⟨rfl, kV178⟩
      refine ⟨_, rfl, ?_⟩
      have h179 : ListsAt V178 (.slice A ls.length cap) us ls := h173.keepsN kV178
      have h180 : Row V178 5 1 (.slice A3 (cat ls ls.length).length cap3) ((cat ls ls.length).length) (B (cat ls ls.length)) := h174.keeps kV178 (fun _ _ x => x)
      have h181 : HashAt V178 b2 p2 (cat ls AT) := hDV172.keepsN kV178
      have K182 : Keeps Nob w V178 := K176.then kV178 (fun _ _ x => x.elim)
      have z183 := kV178.size
      refine ps_k (o_KeccakPieces 4094 2) (.tuple #[.agg (B (Kec.sum (cat ls AT))).toArray, .int .i64 0]) ?_
      refine ps_k (o_KeccakPieces 4094 3) (.agg (B (Kec.sum (cat ls AT))).toArray) ?_
      refine ps_k (o_KeccakPieces 4094 4) (.int .i64 0) ?_
      obtain ⟨V184, eV184⟩ : ∃ V, V178.alloc (.cells (zr_u8_32) 29) = V := ⟨_, rfl⟩
      obtain ⟨gz, egz⟩ : ∃ g, V178.heap.size = g := ⟨_, rfl⟩
      have n186 : w.heap.size ≤ gz := egz ▸ K182.size
      have h185 : V184.heap[gz]? = some (.cells (zr_u8_32) 29 (0, 0)) := by rw [← eV184, ← egz]; exact heap_alloc_new _ _
      have kV184 : Keeps Nob V178 V184 := eV184 ▸ (Keeps.refl _ _).alloc _
      refine ps_run (o_KeccakPieces 4094 5) (pT gz 0) (w' := V184) (by kernel_rfl) (by kernel_rfl) (by rw [← eV184, ← egz]; exact exec_alloc0 29 (by kernel_rfl) (.agg (zr_u8_32)) (by kernel_rfl)) ?_
      clear eV184
      have h187 : ListsAt V184 (.slice A ls.length cap) us ls := h179.keepsN kV184
      have h188 : Row V184 5 1 (.slice A3 (cat ls ls.length).length cap3) ((cat ls ls.length).length) (B (cat ls ls.length)) := h180.keeps kV184 (fun _ _ x => x)
      have h189 : HashAt V184 b2 p2 (cat ls AT) := h181.keepsN kV184
      have K190 : Keeps Nob w V184 := K182.then kV184 (fun _ _ x => x.elim)
      have z191 := kV184.size
      obtain ⟨V192, eV192⟩ : ∃ V, V184.setRow gz ((B (Kec.sum (cat ls AT))).toArray) = V := ⟨_, rfl⟩
      have kV192 : Keeps (One gz) V184 V192 := eV192 ▸ (Keeps.refl (One gz) _).setRow (fun _ => (rfl : Own.One gz gz)) _
      have h193 : V192.heap[gz]? = some (.cells ((B (Kec.sum (cat ls AT))).toArray) 29 (0, 0)) := eV192 ▸ setRow_heap _ _ _ _ _ _ h185
      refine ps_skip (o_KeccakPieces 4094 6) (w' := V192) (by kernel_rfl) (by kernel_rfl) (by rw [← eV192]; exact exec_store_row 29 (.tmp 13) (.tmp 91) (by kernel_rfl) gz ((B (Kec.sum (cat ls AT))).toArray) (by kernel_rfl) (by kernel_rfl) 29 (zr_u8_32) h185 (by rw [Bz_size, Kec.sum_len]; kernel_rfl) (by rw [Bz_size, Kec.sum_len]; first | rfl | rw [Bz_size, Kec.sum_len]) (by rw [List.all_toArray]; exact List.all_eq_true.2 (B_one _))) ?_
      clear eV192
      have h194 : ListsAt V192 (.slice A ls.length cap) us ls := ListsAt.keepsB h0 h187 kV192 (fun j hj e => by first | exact e.elim | (unfold Own.One at e; omega) | omega)
      have h195 : Row V192 5 1 (.slice A3 (cat ls ls.length).length cap3) ((cat ls ls.length).length) (B (cat ls ls.length)) := row_offH h188 kV192 h185
      have h196 : HashAt V192 b2 p2 (cat ls AT) := h189.offH kV192 h185
      have K197 : Keeps Nob w V192 := K190.then kV192 (fun i hi hm => absurd hi (by unfold Own.One at hm; omega))
      have z198 := kV192.size
      refine ps_k (o_KeccakPieces 4094 7) (.int .i64 0) ?_
      refine ps_end ?_
      refine sy_a ⟨#[.slice A ls.length cap, iN AT, undef, undef, u4, pT b 0, pT b2 0, .slice A3 (cat ls ls.length).length cap3, iN ls.length, u9, u10, u11, iN ((cat ls AT).length), pT gz 0, .int .i64 0, .slice A ls.length cap, .bool false, undef, .int .i64 at_, .slice A ls.length cap, iN ls.length, iN (ls.length + 1), iN AT, pT b 0, iN ls.length, .slice A ls.length cap, iN ls.length, .bool false, u28, u29, u30, u31, u32, u33, u34, u35, u36, u37, u38, u39, u40, u41, u42, u43, u44, u45, u46, u47, u48, u49, u50, u51, u52, u53, u54, u55, u56, u57, u58, u59, u60, u61, u62, u63, u64, u65, u66, u67, u68, u69, u70, u71, iN AT, .slice A ls.length cap, iN ls.length, .bool true, pT b 0, pT b2 0, pT b2 0, iN ((cat ls AT).length), iN ((cat ls AT).length), .slice A3 (cat ls ls.length).length cap3, iN ((cat ls ls.length).length), .bool false, .bool false, iN ((cat ls AT).length), .bool false, .bool false, .tuple #[.agg (B (Kec.sum (cat ls AT))).toArray, .int .i64 0], pT b2 0, .tuple #[.agg (B (Kec.sum (cat ls AT))).toArray, .int .i64 0], .agg (B (Kec.sum (cat ls AT))).toArray, .int .i64 0, undef, undef, undef, undef, undef, undef, undef, undef, undef, undef, undef, undef, undef, undef, undef, undef, undef, undef, undef, undef, undef, undef, undef, undef, undef, undef, undef, undef, undef, undef, undef, undef, undef, undef], []⟩ ?_
      refine then_n ?_
      refine sy_sq (part_KeccakPieces 8190) (part_KeccakPieces 8191) ?_
      refine sy_sq (part_KeccakPieces 16380) (part_KeccakPieces 16381) ?_
      refine sy_np ?_
      refine sy_reg ?_
      refine an_begin 26 18 (opsAt (part_KeccakPieces 16380)) (fun W => (W.heap[gz]? = some (.cells ((B (Kec.sum (cat ls AT))).toArray) 29 (0, 0)))) #[false, false, false, false, false, false, false, false, false, false, false, false, false, false, false, false, false, false] (by kernel_rfl) (by kernel_rfl) (by kernel_rfl) (by kernel_rfl) ?_
      obtain ⟨V199, eV199⟩ : ∃ V, V192.drew = V := ⟨_, rfl⟩
      have kV199 : Keeps Nob V192 V199 := eV199 ▸ (Keeps.refl _ _).drew
      rw [eV199]
      clear eV199
      have h200 : ListsAt V199 (.slice A ls.length cap) us ls := h194.keepsN kV199
      have h201 : Row V199 5 1 (.slice A3 (cat ls ls.length).length cap3) ((cat ls ls.length).length) (B (cat ls ls.length)) := h195.keeps kV199 (fun _ _ x => x)
      have h202 : HashAt V199 b2 p2 (cat ls AT) := h196.keepsN kV199
      have h203 : V199.heap[gz]? = some (.cells ((B (Kec.sum (cat ls AT))).toArray) 29 (0, 0)) := (kV199.block gz (lt_of_block h193) (fun x => x)).trans h193
      have K204 : Keeps Nob w V199 := K197.then kV199 (fun _ _ x => x.elim)
      have z205 := kV199.size
      refine an_val 0 (o_KeccakPieces 16380 0) (.agg ((B (Kec.sum (cat ls AT))).toArray)) (by kernel_rfl) (by kernel_rfl) (by kernel_rfl) (by kernel_rfl) (by kernel_rfl) (fun W hS => exec_load_row 29 (.tmp 13) (by kernel_rfl) gz (by kernel_rfl) _ _ (0, 0) _ (hS) Try.underlying29 rfl (by rw [Bz_size, (Kec.sum_len _)]; kernel_rfl)) h203 ?_
      refine an_val 1 (o_KeccakPieces 16380 1) (.slice A3 (cat ls ls.length).length cap3) (by kernel_rfl) (by kernel_rfl) (by kernel_rfl) (by kernel_rfl) (by kernel_rfl) (fun W hS => by kernel_rfl) h203 ?_
      refine an_val 2 (o_KeccakPieces 16380 2) (iN ((cat ls AT).length)) (by kernel_rfl) (by kernel_rfl) (by kernel_rfl) (by kernel_rfl) (by kernel_rfl) (fun W hS => by kernel_rfl) h203 ?_
      refine an_val 3 (o_KeccakPieces 16380 3) (.slice A3 (cat ls AT).length cap3) (by kernel_rfl) (by kernel_rfl) (by kernel_rfl) (by kernel_rfl) (by kernel_rfl) (fun W hS => exec_slice_to 22 (.tmp 94) (.tmp 95) (by kernel_rfl) A3 (cat ls ls.length).length cap3 (by kernel_rfl) .i64 (cat ls AT).length (by kernel_rfl) 5 Try.underlying22 (by kernel_rfl) (by omega)) h203 ?_
      refine an_one 4 (by kernel_rfl) ?_
      refine on_call (o_KeccakPieces 16380 4) 20 #[.slice A3 (cat ls AT).length cap3] (by kernel_rfl) (by kernel_rfl) (by kernel_rfl) (by kernel_rfl) (enters_of Try.func20 (by kernel_rfl) rfl) ((hSum_ok (cat ls AT) _ _ (cat_bytes ls hAT _ h201) (by rw [cat_len]; omega)).mono ?_)
      rintro e V206 ⟨rfl, kV206⟩
      refine ⟨_, rfl, ?_⟩
      have h207 : ListsAt V206 (.slice A ls.length cap) us ls := h200.keepsN kV206
      have h208 : Row V206 5 1 (.slice A3 (cat ls ls.length).length cap3) ((cat ls ls.length).length) (B (cat ls ls.length)) := h201.keeps kV206 (fun _ _ x => x)
      have h209 : HashAt V206 b2 p2 (cat ls AT) := h202.keepsN kV206
      have h210 : V206.heap[gz]? = some (.cells ((B (Kec.sum (cat ls AT))).toArray) 29 (0, 0)) := (kV206.block gz (lt_of_block h203) (fun x => x)).trans h203
      have K211 : Keeps Nob w V206 := K204.then kV206 (fun _ _ x => x.elim)
      have z212 := kV206.size
      refine ⟨h210, ?_⟩
      refine an_val 5 (o_KeccakPieces 16380 5) (.bool false) (by kernel_rfl) (by kernel_rfl) (by kernel_rfl) (by kernel_rfl) (by kernel_rfl) (fun W hS => exec_cast (congrArg Value.bool (by simp)) (exec_binop .neq 29 29 (.tmp 93) (.tmp 97) (by kernel_rfl) (.agg (B (Kec.sum (cat ls AT))).toArray) (.agg (B (Kec.sum (cat ls AT))).toArray) _ (by kernel_rfl) (by kernel_rfl) (run_eqGuard_agg _ _ _ _ _ _ _ khash_guard) (khash_neq _ _ (Kec.sum_len _) (Kec.sum_len _) _))) h210 ?_
      refine an_val 6 (o_KeccakPieces 16380 6) (.bool false) (by kernel_rfl) (by kernel_rfl) (by kernel_rfl) (by kernel_rfl) (by kernel_rfl) (fun W hS => by kernel_rfl) h210 ?_
      refine an_val 7 (o_KeccakPieces 16380 7) (.int .i64 0) (by kernel_rfl) (by kernel_rfl) (by kernel_rfl) (by kernel_rfl) (by kernel_rfl) (fun W hS => by kernel_rfl) h210 ?_
      refine an_val 8 (o_KeccakPieces 16380 8) (.bool false) (by kernel_rfl) (by kernel_rfl) (by kernel_rfl) (by kernel_rfl) (by kernel_rfl) (fun W hS => by kernel_rfl) h210 ?_
      refine an_val 9 (o_KeccakPieces 16380 9) (.bool false) (by kernel_rfl) (by kernel_rfl) (by kernel_rfl) (by kernel_rfl) (by kernel_rfl) (fun W hS => by kernel_rfl) h210 ?_
      refine an_val 10 (o_KeccakPieces 16380 10) (.bool false) (by kernel_rfl) (by kernel_rfl) (by kernel_rfl) (by kernel_rfl) (by kernel_rfl) (fun W hS => by kernel_rfl) h210 ?_
      refine an_val 11 (o_KeccakPieces 16380 11) (pT b2 0) (by kernel_rfl) (by kernel_rfl) (by kernel_rfl) (by kernel_rfl) (by kernel_rfl) (fun W hS => by kernel_rfl) h210 ?_
      refine an_val 12 (o_KeccakPieces 16380 12) (.slice A3 (cat ls ls.length).length cap3) (by kernel_rfl) (by kernel_rfl) (by kernel_rfl) (by kernel_rfl) (by kernel_rfl) (fun W hS => by kernel_rfl) h210 ?_
      refine an_val 13 (o_KeccakPieces 16380 13) (iN ((cat ls AT).length)) (by kernel_rfl) (by kernel_rfl) (by kernel_rfl) (by kernel_rfl) (by kernel_rfl) (fun W hS => by kernel_rfl) h210 ?_
      refine an_val 14 (o_KeccakPieces 16380 14) (cutV A3 (cat ls ls.length).length cap3 (cat ls AT).length) (by kernel_rfl) (by kernel_rfl) (by kernel_rfl) (by kernel_rfl) (by kernel_rfl) (fun W hS => exec_slice_from 22 (.tmp 105) (.tmp 106) (by kernel_rfl) A3 (cat ls ls.length).length cap3 (by kernel_rfl) .i64 (cat ls AT).length (by kernel_rfl) 5 Try.underlying22 (by kernel_rfl) hle) h210 ?_
      refine an_one 15 (by kernel_rfl) ?_
      refine on_call (o_KeccakPieces 16380 15) 11 #[pT b2 0, cutV A3 (cat ls ls.length).length cap3 (cat ls AT).length] (by kernel_rfl) (by kernel_rfl) (by kernel_rfl) (by kernel_rfl) (enters_of Try.func11 (by kernel_rfl) rfl) ((kHWrite_any b2 p2 (cat ls AT) _ _ _ h209 (BytesAt.drop (Row.bytes h208) _ hle _ _ _ rfl) (fun _ j hj e => by subst e; exact Row.ne h208 h209.sp (by decide) (cutV_own hj)) (by rw [List.length_drop, cat_len, cat_len]; omega)).mono ?_)
      rintro e V213 ⟨rfl, hV213, kV213⟩
      rw [cat_drop ls hAT] at hV213
      refine ⟨_, rfl, ?_⟩
      have h214 : ListsAt V213 (.slice A ls.length cap) us ls := ListsAt.keepsB h0 h207 kV213 (fun j hj e => by first | exact e.elim | (unfold Own.One at e; omega) | omega)
      have h215 : Row V213 5 1 (.slice A3 (cat ls ls.length).length cap3) ((cat ls ls.length).length) (B (cat ls ls.length)) := h208.keeps kV213 (fun j hj e => by unfold Own.One at e; subst e; exact Row.ne h208 h209.sp (by decide) hj)
      have h216 : V213.heap[gz]? = some (.cells ((B (Kec.sum (cat ls AT))).toArray) 29 (0, 0)) := (kV213.block gz (lt_of_block h210) (fun e => by unfold Own.One at e; omega)).trans h210
      have K217 : Keeps Nob w V213 := K211.then kV213 (fun i hi hm => absurd hi (by unfold Own.One at hm; omega))
      have z218 := kV213.size
      refine ⟨h216, ?_⟩
      refine an_val 16 (o_KeccakPieces 16380 16) (.bool false) (by kernel_rfl) (by kernel_rfl) (by kernel_rfl) (by kernel_rfl) (by kernel_rfl) (fun W hS => by kernel_rfl) h216 ?_
      refine an_val 17 (o_KeccakPieces 16380 17) (.bool false) (by kernel_rfl) (by kernel_rfl) (by kernel_rfl) (by kernel_rfl) (by kernel_rfl) (fun W hS => by kernel_rfl) h216 ?_
      refine an_end (by kernel_rfl) ?_
      refine sy_a ⟨#[.slice A ls.length cap, iN AT, undef, undef, u4, pT b 0, pT b2 0, .slice A3 (cat ls ls.length).length cap3, iN ls.length, u9, u10, u11, iN ((cat ls AT).length), pT gz 0, .int .i64 0, .slice A ls.length cap, .bool false, undef, .int .i64 at_, .slice A ls.length cap, iN ls.length, iN (ls.length + 1), iN AT, pT b 0, iN ls.length, .slice A ls.length cap, iN ls.length, .bool false, u28, u29, u30, u31, u32, u33, u34, u35, u36, u37, u38, u39, u40, u41, u42, u43, u44, u45, u46, u47, u48, u49, u50, u51, u52, u53, u54, u55, u56, u57, u58, u59, u60, u61, u62, u63, u64, u65, u66, u67, u68, u69, u70, u71, iN AT, .slice A ls.length cap, iN ls.length, .bool true, pT b 0, pT b2 0, pT b2 0, iN ((cat ls AT).length), iN ((cat ls AT).length), .slice A3 (cat ls ls.length).length cap3, iN ((cat ls ls.length).length), .bool false, .bool false, iN ((cat ls AT).length), .bool false, .bool false, .tuple #[.agg (B (Kec.sum (cat ls AT))).toArray, .int .i64 0], pT b2 0, .tuple #[.agg (B (Kec.sum (cat ls AT))).toArray, .int .i64 0], .agg (B (Kec.sum (cat ls AT))).toArray, .int .i64 0, .agg ((B (Kec.sum (cat ls AT))).toArray), .slice A3 (cat ls ls.length).length cap3, iN ((cat ls AT).length), .slice A3 (cat ls AT).length cap3, .agg (B (Kec.sum (cat ls AT))).toArray, .bool false, .bool false, .int .i64 0, .bool false, .bool false, .bool false, pT b2 0, .slice A3 (cat ls ls.length).length cap3, iN ((cat ls AT).length), cutV A3 (cat ls ls.length).length cap3 (cat ls AT).length, .int .i64 0, .bool false, .bool false, undef, undef, undef, undef, undef, undef, undef, undef, undef, undef, undef, undef, undef, undef, undef, undef], []⟩ ?_
      refine then_n ?_
      refine sy_n (.tmp 110) (part_KeccakPieces 32762) (part_KeccakPieces 32763) ?_
      refine sy_sk ?_
      refine then_n ?_
      refine sy_sq (part_KeccakPieces 16382) (part_KeccakPieces 16383) ?_
      refine sy_reg ?_
      refine rg_plain 28 (opsAt (part_KeccakPieces 16382)) [0, 1, 2, 3, 4, 5, 6] (by kernel_rfl) (by kernel_rfl) ?_
      refine ps_k (o_KeccakPieces 16382 0) (pT b2 0) ?_
      have hcb28 := hV213.bp
      refine ps_call (o_KeccakPieces 16382 1) 10 #[pT b2 0] (by kernel_rfl) (by kernel_rfl) (by kernel_rfl) (by kernel_rfl) (enters_of Try.func10 (by kernel_rfl) rfl) ((kHSum_ok b2 p2 (cat ls ls.length) _ hV213).mono ?_)
      rintro e V219 ⟨rfl, kV219⟩
      refine ⟨_, rfl, ?_⟩
      have h220 : ListsAt V219 (.slice A ls.length cap) us ls := h214.keepsN kV219
      have h221 : Row V219 5 1 (.slice A3 (cat ls ls.length).length cap3) ((cat ls ls.length).length) (B (cat ls ls.length)) := h215.keeps kV219 (fun _ _ x => x)
      have h222 : V219.heap[gz]? = some (.cells ((B (Kec.sum (cat ls AT))).toArray) 29 (0, 0)) := (kV219.block gz (lt_of_block h216) (fun x => x)).trans h216
      have h223 : HashAt V219 b2 p2 (cat ls ls.length) := hV213.keepsN kV219
      have K224 : Keeps Nob w V219 := K217.then kV219 (fun _ _ x => x.elim)
      have z225 := kV219.size
      refine ps_k (o_KeccakPieces 16382 2) (.tuple #[.agg (B (Kec.sum (cat ls ls.length))).toArray, .int .i64 0]) ?_
      refine ps_k (o_KeccakPieces 16382 3) (.agg (B (Kec.sum (cat ls ls.length))).toArray) ?_
      refine ps_k (o_KeccakPieces 16382 4) (.int .i64 0) ?_
      obtain ⟨V226, eV226⟩ : ∃ V, V219.setRow gz ((B (Kec.sum (cat ls ls.length))).toArray) = V := ⟨_, rfl⟩
      have kV226 : Keeps (One gz) V219 V226 := eV226 ▸ (Keeps.refl (One gz) _).setRow (fun _ => (rfl : Own.One gz gz)) _
      have h227 : V226.heap[gz]? = some (.cells ((B (Kec.sum (cat ls ls.length))).toArray) 29 (0, 0)) := eV226 ▸ setRow_heap _ _ _ _ _ _ h222
      refine ps_skip (o_KeccakPieces 16382 5) (w' := V226) (by kernel_rfl) (by kernel_rfl) (by rw [← eV226]; exact exec_store_row 29 (.tmp 13) (.tmp 114) (by kernel_rfl) gz ((B (Kec.sum (cat ls ls.length))).toArray) (by kernel_rfl) (by kernel_rfl) 29 ((B (Kec.sum (cat ls AT))).toArray) h222 (by rw [Bz_size, Kec.sum_len]; kernel_rfl) (by rw [Bz_size, Kec.sum_len]; first | rfl | rw [Bz_size, Kec.sum_len]) (by rw [List.all_toArray]; exact List.all_eq_true.2 (B_one _))) ?_
      clear eV226
      have h228 : ListsAt V226 (.slice A ls.length cap) us ls := ListsAt.keepsB h0 h220 kV226 (fun j hj e => by first | exact e.elim | (unfold Own.One at e; omega) | omega)
      have h229 : Row V226 5 1 (.slice A3 (cat ls ls.length).length cap3) ((cat ls ls.length).length) (B (cat ls ls.length)) := row_offH h221 kV226 h222
      have h230 : HashAt V226 b2 p2 (cat ls ls.length) := h223.offH kV226 h222
      have K231 : Keeps Nob w V226 := K224.then kV226 (fun i hi hm => absurd hi (by unfold Own.One at hm; omega))
      have z232 := kV226.size
      refine ps_k (o_KeccakPieces 16382 6) (.int .i64 0) ?_
      refine ps_end ?_
      refine sy_a ⟨#[.slice A ls.length cap, iN AT, undef, undef, u4, pT b 0, pT b2 0, .slice A3 (cat ls ls.length).length cap3, iN ls.length, u9, u10, u11, iN ((cat ls AT).length), pT gz 0, .int .i64 0, .slice A ls.length cap, .bool false, undef, .int .i64 at_, .slice A ls.length cap, iN ls.length, iN (ls.length + 1), iN AT, pT b 0, iN ls.length, .slice A ls.length cap, iN ls.length, .bool false, u28, u29, u30, u31, u32, u33, u34, u35, u36, u37, u38, u39, u40, u41, u42, u43, u44, u45, u46, u47, u48, u49, u50, u51, u52, u53, u54, u55, u56, u57, u58, u59, u60, u61, u62, u63, u64, u65, u66, u67, u68, u69, u70, u71, iN AT, .slice A ls.length cap, iN ls.length, .bool true, pT b 0, pT b2 0, pT b2 0, iN ((cat ls AT).length), iN ((cat ls AT).length), .slice A3 (cat ls ls.length).length cap3, iN ((cat ls ls.length).length), .bool false, .bool false, iN ((cat ls AT).length), .bool false, .bool false, .tuple #[.agg (B (Kec.sum (cat ls AT))).toArray, .int .i64 0], pT b2 0, .tuple #[.agg (B (Kec.sum (cat ls AT))).toArray, .int .i64 0], .agg (B (Kec.sum (cat ls AT))).toArray, .int .i64 0, .agg ((B (Kec.sum (cat ls AT))).toArray), .slice A3 (cat ls ls.length).length cap3, iN ((cat ls AT).length), .slice A3 (cat ls AT).length cap3, .agg (B (Kec.sum (cat ls AT))).toArray, .bool false, .bool false, .int .i64 0, .bool false, .bool false, .bool false, pT b2 0, .slice A3 (cat ls ls.length).length cap3, iN ((cat ls AT).length), cutV A3 (cat ls ls.length).length cap3 (cat ls AT).length, .int .i64 0, .bool false, .bool false, .tuple #[.agg (B (Kec.sum (cat ls ls.length))).toArray, .int .i64 0], pT b2 0, .tuple #[.agg (B (Kec.sum (cat ls ls.length))).toArray, .int .i64 0], .agg (B (Kec.sum (cat ls ls.length))).toArray, .int .i64 0, undef, undef, undef, undef, undef, undef, undef, undef, undef, undef, undef], []⟩ ?_
      refine then_n ?_
      refine sy_sq (part_KeccakPieces 32766) (part_KeccakPieces 32767) ?_
      refine sy_np ?_
      refine sy_reg ?_
      refine an_begin 29 12 (opsAt (part_KeccakPieces 32766)) (fun W => (W.heap[gz]? = some (.cells ((B (Kec.sum (cat ls ls.length))).toArray) 29 (0, 0)))) #[false, false, false, false, false, false, false, false, false, false, false, false] (by kernel_rfl) (by kernel_rfl) (by kernel_rfl) (by kernel_rfl) ?_
      obtain ⟨V233, eV233⟩ : ∃ V, V226.drew = V := ⟨_, rfl⟩
      have kV233 : Keeps Nob V226 V233 := eV233 ▸ (Keeps.refl _ _).drew
      rw [eV233]
      clear eV233
      have h234 : ListsAt V233 (.slice A ls.length cap) us ls := h228.keepsN kV233
      have h235 : Row V233 5 1 (.slice A3 (cat ls ls.length).length cap3) ((cat ls ls.length).length) (B (cat ls ls.length)) := h229.keeps kV233 (fun _ _ x => x)
      have h236 : HashAt V233 b2 p2 (cat ls ls.length) := h230.keepsN kV233
      have h237 : V233.heap[gz]? = some (.cells ((B (Kec.sum (cat ls ls.length))).toArray) 29 (0, 0)) := (kV233.block gz (lt_of_block h227) (fun x => x)).trans h227
      have K238 : Keeps Nob w V233 := K231.then kV233 (fun _ _ x => x.elim)
      have z239 := kV233.size
      refine an_val 0 (o_KeccakPieces 32766 0) (.agg ((B (Kec.sum (cat ls ls.length))).toArray)) (by kernel_rfl) (by kernel_rfl) (by kernel_rfl) (by kernel_rfl) (by kernel_rfl) (fun W hS => exec_load_row 29 (.tmp 13) (by kernel_rfl) gz (by kernel_rfl) _ _ (0, 0) _ (hS) Try.underlying29 rfl (by rw [Bz_size, (Kec.sum_len _)]; kernel_rfl)) h237 ?_
      refine an_val 1 (o_KeccakPieces 32766 1) (.slice A3 (cat ls ls.length).length cap3) (by kernel_rfl) (by kernel_rfl) (by kernel_rfl) (by kernel_rfl) (by kernel_rfl) (fun W hS => by kernel_rfl) h237 ?_
      refine an_one 2 (by kernel_rfl) ?_
      refine on_call (o_KeccakPieces 32766 2) 20 #[.slice A3 (cat ls ls.length).length cap3] (by kernel_rfl) (by kernel_rfl) (by kernel_rfl) (by kernel_rfl) (enters_of Try.func20 (by kernel_rfl) rfl) ((hSum_ok (cat ls ls.length) _ _ (Row.bytes h235) (by rw [cat_len]; omega)).mono ?_)
      rintro e V240 ⟨rfl, kV240⟩
      refine ⟨_, rfl, ?_⟩
      have h241 : ListsAt V240 (.slice A ls.length cap) us ls := h234.keepsN kV240
      have h242 : Row V240 5 1 (.slice A3 (cat ls ls.length).length cap3) ((cat ls ls.length).length) (B (cat ls ls.length)) := h235.keeps kV240 (fun _ _ x => x)
      have h243 : HashAt V240 b2 p2 (cat ls ls.length) := h236.keepsN kV240
      have h244 : V240.heap[gz]? = some (.cells ((B (Kec.sum (cat ls ls.length))).toArray) 29 (0, 0)) := (kV240.block gz (lt_of_block h237) (fun x => x)).trans h237
      have K245 : Keeps Nob w V240 := K238.then kV240 (fun _ _ x => x.elim)
      have z246 := kV240.size
      refine ⟨h244, ?_⟩
      refine an_val 3 (o_KeccakPieces 32766 3) (.bool true) (by kernel_rfl) (by kernel_rfl) (by kernel_rfl) (by kernel_rfl) (by kernel_rfl) (fun W hS => exec_cast (congrArg Value.bool (by simp)) (exec_binop .eql 29 29 (.tmp 116) (.tmp 118) (by kernel_rfl) (.agg (B (Kec.sum (cat ls ls.length))).toArray) (.agg (B (Kec.sum (cat ls ls.length))).toArray) _ (by kernel_rfl) (by kernel_rfl) (run_eqGuard_agg _ _ _ _ _ _ _ khash_guard) (khash_eql _ _ (Kec.sum_len _) (Kec.sum_len _) _))) h244 ?_
      refine an_val 4 (o_KeccakPieces 32766 4) (.bool true) (by kernel_rfl) (by kernel_rfl) (by kernel_rfl) (by kernel_rfl) (by kernel_rfl) (fun W hS => by kernel_rfl) h244 ?_
      refine an_val 5 (o_KeccakPieces 32766 5) (.int .i64 0) (by kernel_rfl) (by kernel_rfl) (by kernel_rfl) (by kernel_rfl) (by kernel_rfl) (fun W hS => by kernel_rfl) h244 ?_
      refine an_val 6 (o_KeccakPieces 32766 6) (.bool true) (by kernel_rfl) (by kernel_rfl) (by kernel_rfl) (by kernel_rfl) (by kernel_rfl) (fun W hS => by kernel_rfl) h244 ?_
      refine an_val 7 (o_KeccakPieces 32766 7) (.bool true) (by kernel_rfl) (by kernel_rfl) (by kernel_rfl) (by kernel_rfl) (by kernel_rfl) (fun W hS => by kernel_rfl) h244 ?_
      refine an_val 8 (o_KeccakPieces 32766 8) (.bool true) (by kernel_rfl) (by kernel_rfl) (by kernel_rfl) (by kernel_rfl) (by kernel_rfl) (fun W hS => by kernel_rfl) h244 ?_
      refine an_one 9 (by kernel_rfl) ?_
      refine on_call (o_KeccakPieces 32766 9) 14 #[] (by kernel_rfl) (by kernel_rfl) (by kernel_rfl) (by kernel_rfl) (enters_of Try.func14 (by kernel_rfl) rfl) ((lawake_ok _).mono ?_)
      rintro e V247 ⟨rfl, kV247⟩
      refine ⟨_, rfl, ?_⟩
      have h248 : ListsAt V247 (.slice A ls.length cap) us ls := h241.keepsN kV247
      have h249 : Row V247 5 1 (.slice A3 (cat ls ls.length).length cap3) ((cat ls ls.length).length) (B (cat ls ls.length)) := h242.keeps kV247 (fun _ _ x => x)
      have h250 : HashAt V247 b2 p2 (cat ls ls.length) := h243.keepsN kV247
      have h251 : V247.heap[gz]? = some (.cells ((B (Kec.sum (cat ls ls.length))).toArray) 29 (0, 0)) := (kV247.block gz (lt_of_block h244) (fun x => x)).trans h244
      have K252 : Keeps Nob w V247 := K245.then kV247 (fun _ _ x => x.elim)
      have z253 := kV247.size
      refine ⟨h251, ?_⟩
      refine an_val 10 (o_KeccakPieces 32766 10) (.bool true) (by kernel_rfl) (by kernel_rfl) (by kernel_rfl) (by kernel_rfl) (by kernel_rfl) (fun W hS => by kernel_rfl) h251 ?_
      refine an_one 11 (by kernel_rfl) ?_
      refine on_run (o_KeccakPieces 32766 11) (.bool true) (w' := V247) (by kernel_rfl) (by kernel_rfl) (by kernel_rfl) ?_
      refine ⟨h251, ?_⟩
      refine an_end (by kernel_rfl) ?_
      refine sy_a ⟨#[.slice A ls.length cap, iN AT, undef, undef, .bool true, pT b 0, pT b2 0, .slice A3 (cat ls ls.length).length cap3, iN ls.length, u9, u10, u11, iN ((cat ls AT).length), pT gz 0, .int .i64 0, .slice A ls.length cap, .bool false, undef, .int .i64 at_, .slice A ls.length cap, iN ls.length, iN (ls.length + 1), iN AT, pT b 0, iN ls.length, .slice A ls.length cap, iN ls.length, .bool false, u28, u29, u30, u31, u32, u33, u34, u35, u36, u37, u38, u39, u40, u41, u42, u43, u44, u45, u46, u47, u48, u49, u50, u51, u52, u53, u54, u55, u56, u57, u58, u59, u60, u61, u62, u63, u64, u65, u66, u67, u68, u69, u70, u71, iN AT, .slice A ls.length cap, iN ls.length, .bool true, pT b 0, pT b2 0, pT b2 0, iN ((cat ls AT).length), iN ((cat ls AT).length), .slice A3 (cat ls ls.length).length cap3, iN ((cat ls ls.length).length), .bool false, .bool false, iN ((cat ls AT).length), .bool false, .bool false, .tuple #[.agg (B (Kec.sum (cat ls AT))).toArray, .int .i64 0], pT b2 0, .tuple #[.agg (B (Kec.sum (cat ls AT))).toArray, .int .i64 0], .agg (B (Kec.sum (cat ls AT))).toArray, .int .i64 0, .agg ((B (Kec.sum (cat ls AT))).toArray), .slice A3 (cat ls ls.length).length cap3, iN ((cat ls AT).length), .slice A3 (cat ls AT).length cap3, .agg (B (Kec.sum (cat ls AT))).toArray, .bool false, .bool false, .int .i64 0, .bool false, .bool false, .bool false, pT b2 0, .slice A3 (cat ls ls.length).length cap3, iN ((cat ls AT).length), cutV A3 (cat ls ls.length).length cap3 (cat ls AT).length, .int .i64 0, .bool false, .bool false, .tuple #[.agg (B (Kec.sum (cat ls ls.length))).toArray, .int .i64 0], pT b2 0, .tuple #[.agg (B (Kec.sum (cat ls ls.length))).toArray, .int .i64 0], .agg (B (Kec.sum (cat ls ls.length))).toArray, .int .i64 0, .agg ((B (Kec.sum (cat ls ls.length))).toArray), .slice A3 (cat ls ls.length).length cap3, .agg (B (Kec.sum (cat ls ls.length))).toArray, .bool true, .bool true, .int .i64 0, .bool true, .bool true, .bool true, .bool true, .bool true], []⟩ ?_
      refine then_n ?_
      refine sy_ret (by kernel_rfl) ?_
      refine sy_out (.bool true) rfl (by kernel_rfl) ?_
      exact ⟨rfl, K252⟩
    · have hcl := cat_len ls ls.length
      have hcl2 := cat_len ls AT
      have htl := tot_le ls ls.length
      have htl2 := tot_le ls AT
      have hle : (cat ls AT).length ≤ (cat ls ls.length).length := by rw [cat_len, cat_len]; exact tot_mono ls hAT
      subst eq_i0
      obtain ⟨A3, cap3, hcap3, rfl⟩ : ∃ A3 cap3, (cat ls ls.length).length ≤ cap3 ∧ v = .slice A3 (cat ls ls.length).length cap3 := by obtain ⟨A3, c, e, h1, _⟩ := (Row.bytes h8).form; exact ⟨A3, c, h1, e⟩
      obtain ⟨b2, p2, rfl, hcc, hb2p, hp2p, hp2N⟩ : ∃ b2 p2, cv = .pointer (some ⟨b2, 0, none⟩) ∧ HashAt V6 b2 p2 (cat ls AT) ∧ b2 ≠ p ∧ p2 ≠ p ∧ w.heap.size ≤ p2 := by rcases h10 with ⟨h, _⟩ | ⟨_, b2, p2, h⟩ <;> first | omega | exact ⟨b2, p2, h⟩
      have h254 : Row V6 5 1 (.slice A3 (cat ls ls.length).length cap3) ((cat ls ls.length).length) (B (cat ls ls.length)) := h8
      have h255 : HashAt V6 b p (cat ls ls.length) := h9
      refine sy_sq (part_KeccakPieces 4072) (part_KeccakPieces 4073) ?_
      refine sy_sq (part_KeccakPieces 8144) (part_KeccakPieces 8145) ?_
      refine sy_reg ?_
      refine rg_plain 8 (opsAt (part_KeccakPieces 8144)) [0, 1, 2, 3] (by kernel_rfl) (by kernel_rfl) ?_
      refine ps_k (o_KeccakPieces 8144 0) (iN ls.length) ?_
      refine ps_k (o_KeccakPieces 8144 1) (.slice A ls.length cap) ?_
      refine ps_p (o_KeccakPieces 8144 2) (iN ls.length) (exec_len (.tmp 25) 38 _ (by kernel_rfl) Try.underlying38 A ls.length cap (by kernel_rfl)) ?_
      refine ps_p (o_KeccakPieces 8144 3) (.bool false) (exec_cast (congrArg Value.bool (show (decide ((((ls.length : Nat) : Int)) < (((ls.length : Nat) : Int)))) = false from by simp only [decide_eq_false_iff_not]; omega)) (by kernel_rfl)) ?_
      refine ps_end ?_
      refine sy_a ⟨#[.slice A ls.length cap, iN AT, undef, undef, u4, pT b 0, pT b2 0, .slice A3 (cat ls ls.length).length cap3, iN ls.length, u9, u10, u11, undef, undef, undef, .slice A ls.length cap, .bool false, undef, .int .i64 at_, .slice A ls.length cap, iN ls.length, iN (ls.length + 1), iN AT, pT b 0, iN ls.length, .slice A ls.length cap, iN ls.length, .bool false, u28, u29, u30, u31, u32, u33, u34, u35, u36, u37, u38, u39, u40, u41, u42, u43, u44, u45, u46, u47, u48, u49, u50, u51, u52, u53, u54, u55, u56, u57, u58, u59, u60, u61, u62, u63, u64, u65, u66, u67, u68, u69, u70, u71, undef, undef, undef, undef, undef, undef, undef, undef, undef, undef, undef, undef, undef, undef, undef, undef, undef, undef, undef, undef, undef, undef, undef, undef, undef, undef, undef, undef, undef, undef, undef, undef, undef, undef, undef, undef, undef, undef, undef, undef, undef, undef, undef, undef, undef, undef, undef, undef, undef, undef, undef, undef, undef, undef, undef], []⟩ ?_
      refine then_n ?_
      refine sy_n (.tmp 27) (part_KeccakPieces 16290) (part_KeccakPieces 16291) ?_
      refine sy_exit 0 (by kernel_rfl) ?_
      refine then_e ?_
      refine then_e ?_
      refine blk_e ?_
      refine then_n ?_
      refine sy_sq (part_KeccakPieces 510) (part_KeccakPieces 511) ?_
      refine sy_sq (part_KeccakPieces 1020) (part_KeccakPieces 1021) ?_
      refine sy_reg ?_
      refine rg_plain 20 (opsAt (part_KeccakPieces 1020)) [0, 1, 2, 3] (by kernel_rfl) (by kernel_rfl) ?_
      refine ps_k (o_KeccakPieces 1020 0) (iN AT) ?_
      refine ps_k (o_KeccakPieces 1020 1) (.slice A ls.length cap) ?_
      refine ps_p (o_KeccakPieces 1020 2) (iN ls.length) (exec_len (.tmp 73) 38 _ (by kernel_rfl) Try.underlying38 A ls.length cap (by kernel_rfl)) ?_
      refine ps_p (o_KeccakPieces 1020 3) (.bool false) (exec_cast (congrArg Value.bool (show (((((AT : Nat) : Int)) == (((ls.length : Nat) : Int)))) = false from by simp only [beq_eq_false_iff_ne, ne_eq]; omega)) (by kernel_rfl)) ?_
      refine ps_end ?_
      refine sy_a ⟨#[.slice A ls.length cap, iN AT, undef, undef, u4, pT b 0, pT b2 0, .slice A3 (cat ls ls.length).length cap3, iN ls.length, u9, u10, u11, undef, undef, undef, .slice A ls.length cap, .bool false, undef, .int .i64 at_, .slice A ls.length cap, iN ls.length, iN (ls.length + 1), iN AT, pT b 0, iN ls.length, .slice A ls.length cap, iN ls.length, .bool false, u28, u29, u30, u31, u32, u33, u34, u35, u36, u37, u38, u39, u40, u41, u42, u43, u44, u45, u46, u47, u48, u49, u50, u51, u52, u53, u54, u55, u56, u57, u58, u59, u60, u61, u62, u63, u64, u65, u66, u67, u68, u69, u70, u71, iN AT, .slice A ls.length cap, iN ls.length, .bool false, undef, undef, undef, undef, undef, undef, undef, undef, undef, undef, undef, undef, undef, undef, undef, undef, undef, undef, undef, undef, undef, undef, undef, undef, undef, undef, undef, undef, undef, undef, undef, undef, undef, undef, undef, undef, undef, undef, undef, undef, undef, undef, undef, undef, undef, undef, undef, undef, undef, undef, undef], []⟩ ?_
      refine then_n ?_
      refine sy_n (.tmp 75) (part_KeccakPieces 2042) (part_KeccakPieces 2043) ?_
      refine sy_sk ?_
      refine then_n ?_
      refine sy_sq (part_KeccakPieces 1022) (part_KeccakPieces 1023) ?_
      refine sy_reg ?_
      refine rg_plain 22 (opsAt (part_KeccakPieces 1022)) [0, 1, 2] (by kernel_rfl) (by kernel_rfl) ?_
      refine ps_k (o_KeccakPieces 1022 0) (pT b2 0) ?_
      refine ps_call (o_KeccakPieces 1022 1) 12 #[pT b2 0] (by kernel_rfl) (by kernel_rfl) (by kernel_rfl) (by kernel_rfl) (enters_of Try.func12 (by kernel_rfl) rfl) ((kHLen_ok b2 p2 (cat ls AT) _ hcc).mono ?_)
      rintro e w1 ⟨rfl, rfl⟩
      refine ⟨_, rfl, ?_⟩
      refine ps_k (o_KeccakPieces 1022 2) (iN ((cat ls AT).length)) ?_
      refine ps_end ?_
      refine sy_a ⟨#[.slice A ls.length cap, iN AT, undef, undef, u4, pT b 0, pT b2 0, .slice A3 (cat ls ls.length).length cap3, iN ls.length, u9, u10, u11, iN ((cat ls AT).length), undef, undef, .slice A ls.length cap, .bool false, undef, .int .i64 at_, .slice A ls.length cap, iN ls.length, iN (ls.length + 1), iN AT, pT b 0, iN ls.length, .slice A ls.length cap, iN ls.length, .bool false, u28, u29, u30, u31, u32, u33, u34, u35, u36, u37, u38, u39, u40, u41, u42, u43, u44, u45, u46, u47, u48, u49, u50, u51, u52, u53, u54, u55, u56, u57, u58, u59, u60, u61, u62, u63, u64, u65, u66, u67, u68, u69, u70, u71, iN AT, .slice A ls.length cap, iN ls.length, .bool false, undef, undef, pT b2 0, iN ((cat ls AT).length), undef, undef, undef, undef, undef, undef, undef, undef, undef, undef, undef, undef, undef, undef, undef, undef, undef, undef, undef, undef, undef, undef, undef, undef, undef, undef, undef, undef, undef, undef, undef, undef, undef, undef, undef, undef, undef, undef, undef, undef, undef, undef, undef, undef, undef, undef, undef], []⟩ ?_
      refine then_n ?_
      refine sy_sq (part_KeccakPieces 2046) (part_KeccakPieces 2047) ?_
      refine sy_sq (part_KeccakPieces 4092) (part_KeccakPieces 4093) ?_
      refine sy_reg ?_
      refine rg_plain 23 (opsAt (part_KeccakPieces 4092)) [0, 1, 2, 3, 4, 5, 6, 7] (by kernel_rfl) (by kernel_rfl) ?_
      refine ps_k (o_KeccakPieces 4092 0) (iN ((cat ls AT).length)) ?_
      refine ps_k (o_KeccakPieces 4092 1) (.slice A3 (cat ls ls.length).length cap3) ?_
      refine ps_p (o_KeccakPieces 4092 2) (iN ((cat ls ls.length).length)) (exec_len (.tmp 81) 22 _ (by kernel_rfl) Try.underlying22 A3 (cat ls ls.length).length cap3 (by kernel_rfl)) ?_
      refine ps_p (o_KeccakPieces 4092 3) (.bool false) (exec_cast (congrArg Value.bool (show (decide (((((cat ls AT).length : Nat) : Int)) > ((((cat ls ls.length).length : Nat) : Int)))) = false from by simp only [decide_eq_false_iff_not]; omega)) (by kernel_rfl)) ?_
      refine ps_k (o_KeccakPieces 4092 4) (.bool false) ?_
      refine ps_k (o_KeccakPieces 4092 5) (iN ((cat ls AT).length)) ?_
      refine ps_p (o_KeccakPieces 4092 6) (.bool false) (exec_cast (congrArg Value.bool (show (decide (((((cat ls AT).length : Nat) : Int)) < ((0) : Int))) = false from by simp only [decide_eq_false_iff_not]; omega)) (by kernel_rfl)) ?_
      refine ps_k (o_KeccakPieces 4092 7) (.bool false) ?_
      refine ps_end ?_
      refine sy_a ⟨#[.slice A ls.length cap, iN AT, undef, undef, u4, pT b 0, pT b2 0, .slice A3 (cat ls ls.length).length cap3, iN ls.length, u9, u10, u11, iN ((cat ls AT).length), undef, undef, .slice A ls.length cap, .bool false, undef, .int .i64 at_, .slice A ls.length cap, iN ls.length, iN (ls.length + 1), iN AT, pT b 0, iN ls.length, .slice A ls.length cap, iN ls.length, .bool false, u28, u29, u30, u31, u32, u33, u34, u35, u36, u37, u38, u39, u40, u41, u42, u43, u44, u45, u46, u47, u48, u49, u50, u51, u52, u53, u54, u55, u56, u57, u58, u59, u60, u61, u62, u63, u64, u65, u66, u67, u68, u69, u70, u71, iN AT, .slice A ls.length cap, iN ls.length, .bool false, undef, undef, pT b2 0, iN ((cat ls AT).length), iN ((cat ls AT).length), .slice A3 (cat ls ls.length).length cap3, iN ((cat ls ls.length).length), .bool false, .bool false, iN ((cat ls AT).length), .bool false, .bool false, undef, undef, undef, undef, undef, undef, undef, undef, undef, undef, undef, undef, undef, undef, undef, undef, undef, undef, undef, undef, undef, undef, undef, undef, undef, undef, undef, undef, undef, undef, undef, undef, undef, undef, undef, undef, undef, undef, undef], []⟩ ?_
      refine then_n ?_
      refine sy_n (.tmp 87) (part_KeccakPieces 8186) (part_KeccakPieces 8187) ?_
      refine sy_sk ?_
      refine then_n ?_
      refine sy_sq (part_KeccakPieces 4094) (part_KeccakPieces 4095) ?_
      refine sy_reg ?_
      refine rg_plain 25 (opsAt (part_KeccakPieces 4094)) [0, 1, 2, 3, 4, 5, 6, 7] (by kernel_rfl) (by kernel_rfl) ?_
      refine ps_k (o_KeccakPieces 4094 0) (pT b2 0) ?_
      have hcb25 := hcc.bp
      refine ps_call (o_KeccakPieces 4094 1) 10 #[pT b2 0] (by kernel_rfl) (by kernel_rfl) (by kernel_rfl) (by kernel_rfl) (enters_of Try.func10 (by kernel_rfl) rfl) ((kHSum_ok b2 p2 (cat ls AT) _ hcc).mono ?_)
      rintro e V256 ⟨rfl, kV256⟩
      refine ⟨_, rfl, ?_⟩
      have h257 : ListsAt V256 (.slice A ls.length cap) us ls := h7.keepsN kV256
      have h258 : Row V256 5 1 (.slice A3 (cat ls ls.length).length cap3) ((cat ls ls.length).length) (B (cat ls ls.length)) := h254.keeps kV256 (fun _ _ x => x)
      have h259 : HashAt V256 b2 p2 (cat ls AT) := hcc.keepsN kV256
      have K260 : Keeps Nob w V256 := K11.then kV256 (fun _ _ x => x.elim)
      have z261 := kV256.size
      refine ps_k (o_KeccakPieces 4094 2) (.tuple #[.agg (B (Kec.sum (cat ls AT))).toArray, .int .i64 0]) ?_
      refine ps_k (o_KeccakPieces 4094 3) (.agg (B (Kec.sum (cat ls AT))).toArray) ?_
      refine ps_k (o_KeccakPieces 4094 4) (.int .i64 0) ?_
      obtain ⟨V262, eV262⟩ : ∃ V, V256.alloc (.cells (zr_u8_32) 29) = V := ⟨_, rfl⟩
      obtain ⟨gz, egz⟩ : ∃ g, V256.heap.size = g := ⟨_, rfl⟩
      have n264 : w.heap.size ≤ gz := egz ▸ K260.size
      have h263 : V262.heap[gz]? = some (.cells (zr_u8_32) 29 (0, 0)) := by rw [← eV262, ← egz]; exact heap_alloc_new _ _
      have kV262 : Keeps Nob V256 V262 := eV262 ▸ (Keeps.refl _ _).alloc _
      refine ps_run (o_KeccakPieces 4094 5) (pT gz 0) (w' := V262) (by kernel_rfl) (by kernel_rfl) (by rw [← eV262, ← egz]; exact exec_alloc0 29 (by kernel_rfl) (.agg (zr_u8_32)) (by kernel_rfl)) ?_
      clear eV262
      have h265 : ListsAt V262 (.slice A ls.length cap) us ls := h257.keepsN kV262
      have h266 : Row V262 5 1 (.slice A3 (cat ls ls.length).length cap3) ((cat ls ls.length).length) (B (cat ls ls.length)) := h258.keeps kV262 (fun _ _ x => x)
      have h267 : HashAt V262 b2 p2 (cat ls AT) := h259.keepsN kV262
      have K268 : Keeps Nob w V262 := K260.then kV262 (fun _ _ x => x.elim)
      have z269 := kV262.size
      obtain ⟨V270, eV270⟩ : ∃ V, V262.setRow gz ((B (Kec.sum (cat ls AT))).toArray) = V := ⟨_, rfl⟩
      have kV270 : Keeps (One gz) V262 V270 := eV270 ▸ (Keeps.refl (One gz) _).setRow (fun _ => (rfl : Own.One gz gz)) _
      have h271 : V270.heap[gz]? = some (.cells ((B (Kec.sum (cat ls AT))).toArray) 29 (0, 0)) := eV270 ▸ setRow_heap _ _ _ _ _ _ h263
      refine ps_skip (o_KeccakPieces 4094 6) (w' := V270) (by kernel_rfl) (by kernel_rfl) (by rw [← eV270]; exact exec_store_row 29 (.tmp 13) (.tmp 91) (by kernel_rfl) gz ((B (Kec.sum (cat ls AT))).toArray) (by kernel_rfl) (by kernel_rfl) 29 (zr_u8_32) h263 (by rw [Bz_size, Kec.sum_len]; kernel_rfl) (by rw [Bz_size, Kec.sum_len]; first | rfl | rw [Bz_size, Kec.sum_len]) (by rw [List.all_toArray]; exact List.all_eq_true.2 (B_one _))) ?_
      clear eV270
      have h272 : ListsAt V270 (.slice A ls.length cap) us ls := ListsAt.keepsB h0 h265 kV270 (fun j hj e => by first | exact e.elim | (unfold Own.One at e; omega) | omega)
      have h273 : Row V270 5 1 (.slice A3 (cat ls ls.length).length cap3) ((cat ls ls.length).length) (B (cat ls ls.length)) := row_offH h266 kV270 h263
      have h274 : HashAt V270 b2 p2 (cat ls AT) := h267.offH kV270 h263
      have K275 : Keeps Nob w V270 := K268.then kV270 (fun i hi hm => absurd hi (by unfold Own.One at hm; omega))
      have z276 := kV270.size
      refine ps_k (o_KeccakPieces 4094 7) (.int .i64 0) ?_
      refine ps_end ?_
      refine sy_a ⟨#[.slice A ls.length cap, iN AT, undef, undef, u4, pT b 0, pT b2 0, .slice A3 (cat ls ls.length).length cap3, iN ls.length, u9, u10, u11, iN ((cat ls AT).length), pT gz 0, .int .i64 0, .slice A ls.length cap, .bool false, undef, .int .i64 at_, .slice A ls.length cap, iN ls.length, iN (ls.length + 1), iN AT, pT b 0, iN ls.length, .slice A ls.length cap, iN ls.length, .bool false, u28, u29, u30, u31, u32, u33, u34, u35, u36, u37, u38, u39, u40, u41, u42, u43, u44, u45, u46, u47, u48, u49, u50, u51, u52, u53, u54, u55, u56, u57, u58, u59, u60, u61, u62, u63, u64, u65, u66, u67, u68, u69, u70, u71, iN AT, .slice A ls.length cap, iN ls.length, .bool false, undef, undef, pT b2 0, iN ((cat ls AT).length), iN ((cat ls AT).length), .slice A3 (cat ls ls.length).length cap3, iN ((cat ls ls.length).length), .bool false, .bool false, iN ((cat ls AT).length), .bool false, .bool false, .tuple #[.agg (B (Kec.sum (cat ls AT))).toArray, .int .i64 0], pT b2 0, .tuple #[.agg (B (Kec.sum (cat ls AT))).toArray, .int .i64 0], .agg (B (Kec.sum (cat ls AT))).toArray, .int .i64 0, undef, undef, undef, undef, undef, undef, undef, undef, undef, undef, undef, undef, undef, undef, undef, undef, undef, undef, undef, undef, undef, undef, undef, undef, undef, undef, undef, undef, undef, undef, undef, undef, undef, undef], []⟩ ?_
      refine then_n ?_
      refine sy_sq (part_KeccakPieces 8190) (part_KeccakPieces 8191) ?_
      refine sy_sq (part_KeccakPieces 16380) (part_KeccakPieces 16381) ?_
      refine sy_np ?_
      refine sy_reg ?_
      refine an_begin 26 18 (opsAt (part_KeccakPieces 16380)) (fun W => (W.heap[gz]? = some (.cells ((B (Kec.sum (cat ls AT))).toArray) 29 (0, 0)))) #[false, false, false, false, false, false, false, false, false, false, false, false, false, false, false, false, false, false] (by kernel_rfl) (by kernel_rfl) (by kernel_rfl) (by kernel_rfl) ?_
      obtain ⟨V277, eV277⟩ : ∃ V, V270.drew = V := ⟨_, rfl⟩
      have kV277 : Keeps Nob V270 V277 := eV277 ▸ (Keeps.refl _ _).drew
      rw [eV277]
      clear eV277
      have h278 : ListsAt V277 (.slice A ls.length cap) us ls := h272.keepsN kV277
      have h279 : Row V277 5 1 (.slice A3 (cat ls ls.length).length cap3) ((cat ls ls.length).length) (B (cat ls ls.length)) := h273.keeps kV277 (fun _ _ x => x)
      have h280 : HashAt V277 b2 p2 (cat ls AT) := h274.keepsN kV277
      have h281 : V277.heap[gz]? = some (.cells ((B (Kec.sum (cat ls AT))).toArray) 29 (0, 0)) := (kV277.block gz (lt_of_block h271) (fun x => x)).trans h271
      have K282 : Keeps Nob w V277 := K275.then kV277 (fun _ _ x => x.elim)
      have z283 := kV277.size
      refine an_val 0 (o_KeccakPieces 16380 0) (.agg ((B (Kec.sum (cat ls AT))).toArray)) (by kernel_rfl) (by kernel_rfl) (by kernel_rfl) (by kernel_rfl) (by kernel_rfl) (fun W hS => exec_load_row 29 (.tmp 13) (by kernel_rfl) gz (by kernel_rfl) _ _ (0, 0) _ (hS) Try.underlying29 rfl (by rw [Bz_size, (Kec.sum_len _)]; kernel_rfl)) h281 ?_
      refine an_val 1 (o_KeccakPieces 16380 1) (.slice A3 (cat ls ls.length).length cap3) (by kernel_rfl) (by kernel_rfl) (by kernel_rfl) (by kernel_rfl) (by kernel_rfl) (fun W hS => by kernel_rfl) h281 ?_
      refine an_val 2 (o_KeccakPieces 16380 2) (iN ((cat ls AT).length)) (by kernel_rfl) (by kernel_rfl) (by kernel_rfl) (by kernel_rfl) (by kernel_rfl) (fun W hS => by kernel_rfl) h281 ?_
      refine an_val 3 (o_KeccakPieces 16380 3) (.slice A3 (cat ls AT).length cap3) (by kernel_rfl) (by kernel_rfl) (by kernel_rfl) (by kernel_rfl) (by kernel_rfl) (fun W hS => exec_slice_to 22 (.tmp 94) (.tmp 95) (by kernel_rfl) A3 (cat ls ls.length).length cap3 (by kernel_rfl) .i64 (cat ls AT).length (by kernel_rfl) 5 Try.underlying22 (by kernel_rfl) (by omega)) h281 ?_
      refine an_one 4 (by kernel_rfl) ?_
      refine on_call (o_KeccakPieces 16380 4) 20 #[.slice A3 (cat ls AT).length cap3] (by kernel_rfl) (by kernel_rfl) (by kernel_rfl) (by kernel_rfl) (enters_of Try.func20 (by kernel_rfl) rfl) ((hSum_ok (cat ls AT) _ _ (cat_bytes ls hAT _ h279) (by rw [cat_len]; omega)).mono ?_)
      rintro e V284 ⟨rfl, kV284⟩
      refine ⟨_, rfl, ?_⟩
      have h285 : ListsAt V284 (.slice A ls.length cap) us ls := h278.keepsN kV284
      have h286 : Row V284 5 1 (.slice A3 (cat ls ls.length).length cap3) ((cat ls ls.length).length) (B (cat ls ls.length)) := h279.keeps kV284 (fun _ _ x => x)
      have h287 : HashAt V284 b2 p2 (cat ls AT) := h280.keepsN kV284
      have h288 : V284.heap[gz]? = some (.cells ((B (Kec.sum (cat ls AT))).toArray) 29 (0, 0)) := (kV284.block gz (lt_of_block h281) (fun x => x)).trans h281
      have K289 : Keeps Nob w V284 := K282.then kV284 (fun _ _ x => x.elim)
      have z290 := kV284.size
      refine ⟨h288, ?_⟩
      refine an_val 5 (o_KeccakPieces 16380 5) (.bool false) (by kernel_rfl) (by kernel_rfl) (by kernel_rfl) (by kernel_rfl) (by kernel_rfl) (fun W hS => exec_cast (congrArg Value.bool (by simp)) (exec_binop .neq 29 29 (.tmp 93) (.tmp 97) (by kernel_rfl) (.agg (B (Kec.sum (cat ls AT))).toArray) (.agg (B (Kec.sum (cat ls AT))).toArray) _ (by kernel_rfl) (by kernel_rfl) (run_eqGuard_agg _ _ _ _ _ _ _ khash_guard) (khash_neq _ _ (Kec.sum_len _) (Kec.sum_len _) _))) h288 ?_
      refine an_val 6 (o_KeccakPieces 16380 6) (.bool false) (by kernel_rfl) (by kernel_rfl) (by kernel_rfl) (by kernel_rfl) (by kernel_rfl) (fun W hS => by kernel_rfl) h288 ?_
      refine an_val 7 (o_KeccakPieces 16380 7) (.int .i64 0) (by kernel_rfl) (by kernel_rfl) (by kernel_rfl) (by kernel_rfl) (by kernel_rfl) (fun W hS => by kernel_rfl) h288 ?_
      refine an_val 8 (o_KeccakPieces 16380 8) (.bool false) (by kernel_rfl) (by kernel_rfl) (by kernel_rfl) (by kernel_rfl) (by kernel_rfl) (fun W hS => by kernel_rfl) h288 ?_
      refine an_val 9 (o_KeccakPieces 16380 9) (.bool false) (by kernel_rfl) (by kernel_rfl) (by kernel_rfl) (by kernel_rfl) (by kernel_rfl) (fun W hS => by kernel_rfl) h288 ?_
      refine an_val 10 (o_KeccakPieces 16380 10) (.bool false) (by kernel_rfl) (by kernel_rfl) (by kernel_rfl) (by kernel_rfl) (by kernel_rfl) (fun W hS => by kernel_rfl) h288 ?_
      refine an_val 11 (o_KeccakPieces 16380 11) (pT b2 0) (by kernel_rfl) (by kernel_rfl) (by kernel_rfl) (by kernel_rfl) (by kernel_rfl) (fun W hS => by kernel_rfl) h288 ?_
      refine an_val 12 (o_KeccakPieces 16380 12) (.slice A3 (cat ls ls.length).length cap3) (by kernel_rfl) (by kernel_rfl) (by kernel_rfl) (by kernel_rfl) (by kernel_rfl) (fun W hS => by kernel_rfl) h288 ?_
      refine an_val 13 (o_KeccakPieces 16380 13) (iN ((cat ls AT).length)) (by kernel_rfl) (by kernel_rfl) (by kernel_rfl) (by kernel_rfl) (by kernel_rfl) (fun W hS => by kernel_rfl) h288 ?_
      refine an_val 14 (o_KeccakPieces 16380 14) (cutV A3 (cat ls ls.length).length cap3 (cat ls AT).length) (by kernel_rfl) (by kernel_rfl) (by kernel_rfl) (by kernel_rfl) (by kernel_rfl) (fun W hS => exec_slice_from 22 (.tmp 105) (.tmp 106) (by kernel_rfl) A3 (cat ls ls.length).length cap3 (by kernel_rfl) .i64 (cat ls AT).length (by kernel_rfl) 5 Try.underlying22 (by kernel_rfl) hle) h288 ?_
      refine an_one 15 (by kernel_rfl) ?_
      refine on_call (o_KeccakPieces 16380 15) 11 #[pT b2 0, cutV A3 (cat ls ls.length).length cap3 (cat ls AT).length] (by kernel_rfl) (by kernel_rfl) (by kernel_rfl) (by kernel_rfl) (enters_of Try.func11 (by kernel_rfl) rfl) ((kHWrite_any b2 p2 (cat ls AT) _ _ _ h287 (BytesAt.drop (Row.bytes h286) _ hle _ _ _ rfl) (fun _ j hj e => by subst e; exact Row.ne h286 h287.sp (by decide) (cutV_own hj)) (by rw [List.length_drop, cat_len, cat_len]; omega)).mono ?_)
      rintro e V291 ⟨rfl, hV291, kV291⟩
      rw [cat_drop ls hAT] at hV291
      refine ⟨_, rfl, ?_⟩
      have h292 : ListsAt V291 (.slice A ls.length cap) us ls := ListsAt.keepsB h0 h285 kV291 (fun j hj e => by first | exact e.elim | (unfold Own.One at e; omega) | omega)
      have h293 : Row V291 5 1 (.slice A3 (cat ls ls.length).length cap3) ((cat ls ls.length).length) (B (cat ls ls.length)) := h286.keeps kV291 (fun j hj e => by unfold Own.One at e; subst e; exact Row.ne h286 h287.sp (by decide) hj)
      have h294 : V291.heap[gz]? = some (.cells ((B (Kec.sum (cat ls AT))).toArray) 29 (0, 0)) := (kV291.block gz (lt_of_block h288) (fun e => by unfold Own.One at e; omega)).trans h288
      have K295 : Keeps Nob w V291 := K289.then kV291 (fun i hi hm => absurd hi (by unfold Own.One at hm; omega))
      have z296 := kV291.size
      refine ⟨h294, ?_⟩
      refine an_val 16 (o_KeccakPieces 16380 16) (.bool false) (by kernel_rfl) (by kernel_rfl) (by kernel_rfl) (by kernel_rfl) (by kernel_rfl) (fun W hS => by kernel_rfl) h294 ?_
      refine an_val 17 (o_KeccakPieces 16380 17) (.bool false) (by kernel_rfl) (by kernel_rfl) (by kernel_rfl) (by kernel_rfl) (by kernel_rfl) (fun W hS => by kernel_rfl) h294 ?_
      refine an_end (by kernel_rfl) ?_
      refine sy_a ⟨#[.slice A ls.length cap, iN AT, undef, undef, u4, pT b 0, pT b2 0, .slice A3 (cat ls ls.length).length cap3, iN ls.length, u9, u10, u11, iN ((cat ls AT).length), pT gz 0, .int .i64 0, .slice A ls.length cap, .bool false, undef, .int .i64 at_, .slice A ls.length cap, iN ls.length, iN (ls.length + 1), iN AT, pT b 0, iN ls.length, .slice A ls.length cap, iN ls.length, .bool false, u28, u29, u30, u31, u32, u33, u34, u35, u36, u37, u38, u39, u40, u41, u42, u43, u44, u45, u46, u47, u48, u49, u50, u51, u52, u53, u54, u55, u56, u57, u58, u59, u60, u61, u62, u63, u64, u65, u66, u67, u68, u69, u70, u71, iN AT, .slice A ls.length cap, iN ls.length, .bool false, undef, undef, pT b2 0, iN ((cat ls AT).length), iN ((cat ls AT).length), .slice A3 (cat ls ls.length).length cap3, iN ((cat ls ls.length).length), .bool false, .bool false, iN ((cat ls AT).length), .bool false, .bool false, .tuple #[.agg (B (Kec.sum (cat ls AT))).toArray, .int .i64 0], pT b2 0, .tuple #[.agg (B (Kec.sum (cat ls AT))).toArray, .int .i64 0], .agg (B (Kec.sum (cat ls AT))).toArray, .int .i64 0, .agg ((B (Kec.sum (cat ls AT))).toArray), .slice A3 (cat ls ls.length).length cap3, iN ((cat ls AT).length), .slice A3 (cat ls AT).length cap3, .agg (B (Kec.sum (cat ls AT))).toArray, .bool false, .bool false, .int .i64 0, .bool false, .bool false, .bool false, pT b2 0, .slice A3 (cat ls ls.length).length cap3, iN ((cat ls AT).length), cutV A3 (cat ls ls.length).length cap3 (cat ls AT).length, .int .i64 0, .bool false, .bool false, undef, undef, undef, undef, undef, undef, undef, undef, undef, undef, undef, undef, undef, undef, undef, undef], []⟩ ?_
      refine then_n ?_
      refine sy_n (.tmp 110) (part_KeccakPieces 32762) (part_KeccakPieces 32763) ?_
      refine sy_sk ?_
      refine then_n ?_
      refine sy_sq (part_KeccakPieces 16382) (part_KeccakPieces 16383) ?_
      refine sy_reg ?_
      refine rg_plain 28 (opsAt (part_KeccakPieces 16382)) [0, 1, 2, 3, 4, 5, 6] (by kernel_rfl) (by kernel_rfl) ?_
      refine ps_k (o_KeccakPieces 16382 0) (pT b2 0) ?_
      have hcb28 := hV291.bp
      refine ps_call (o_KeccakPieces 16382 1) 10 #[pT b2 0] (by kernel_rfl) (by kernel_rfl) (by kernel_rfl) (by kernel_rfl) (enters_of Try.func10 (by kernel_rfl) rfl) ((kHSum_ok b2 p2 (cat ls ls.length) _ hV291).mono ?_)
      rintro e V297 ⟨rfl, kV297⟩
      refine ⟨_, rfl, ?_⟩
      have h298 : ListsAt V297 (.slice A ls.length cap) us ls := h292.keepsN kV297
      have h299 : Row V297 5 1 (.slice A3 (cat ls ls.length).length cap3) ((cat ls ls.length).length) (B (cat ls ls.length)) := h293.keeps kV297 (fun _ _ x => x)
      have h300 : V297.heap[gz]? = some (.cells ((B (Kec.sum (cat ls AT))).toArray) 29 (0, 0)) := (kV297.block gz (lt_of_block h294) (fun x => x)).trans h294
      have h301 : HashAt V297 b2 p2 (cat ls ls.length) := hV291.keepsN kV297
      have K302 : Keeps Nob w V297 := K295.then kV297 (fun _ _ x => x.elim)
      have z303 := kV297.size
      refine ps_k (o_KeccakPieces 16382 2) (.tuple #[.agg (B (Kec.sum (cat ls ls.length))).toArray, .int .i64 0]) ?_
      refine ps_k (o_KeccakPieces 16382 3) (.agg (B (Kec.sum (cat ls ls.length))).toArray) ?_
      refine ps_k (o_KeccakPieces 16382 4) (.int .i64 0) ?_
      obtain ⟨V304, eV304⟩ : ∃ V, V297.setRow gz ((B (Kec.sum (cat ls ls.length))).toArray) = V := ⟨_, rfl⟩
      have kV304 : Keeps (One gz) V297 V304 := eV304 ▸ (Keeps.refl (One gz) _).setRow (fun _ => (rfl : Own.One gz gz)) _
      have h305 : V304.heap[gz]? = some (.cells ((B (Kec.sum (cat ls ls.length))).toArray) 29 (0, 0)) := eV304 ▸ setRow_heap _ _ _ _ _ _ h300
      refine ps_skip (o_KeccakPieces 16382 5) (w' := V304) (by kernel_rfl) (by kernel_rfl) (by rw [← eV304]; exact exec_store_row 29 (.tmp 13) (.tmp 114) (by kernel_rfl) gz ((B (Kec.sum (cat ls ls.length))).toArray) (by kernel_rfl) (by kernel_rfl) 29 ((B (Kec.sum (cat ls AT))).toArray) h300 (by rw [Bz_size, Kec.sum_len]; kernel_rfl) (by rw [Bz_size, Kec.sum_len]; first | rfl | rw [Bz_size, Kec.sum_len]) (by rw [List.all_toArray]; exact List.all_eq_true.2 (B_one _))) ?_
      clear eV304
      have h306 : ListsAt V304 (.slice A ls.length cap) us ls := ListsAt.keepsB h0 h298 kV304 (fun j hj e => by first | exact e.elim | (unfold Own.One at e; omega) | omega)
      have h307 : Row V304 5 1 (.slice A3 (cat ls ls.length).length cap3) ((cat ls ls.length).length) (B (cat ls ls.length)) := row_offH h299 kV304 h300
      have h308 : HashAt V304 b2 p2 (cat ls ls.length) := h301.offH kV304 h300
      have K309 : Keeps Nob w V304 := K302.then kV304 (fun i hi hm => absurd hi (by unfold Own.One at hm; omega))
      have z310 := kV304.size
      refine ps_k (o_KeccakPieces 16382 6) (.int .i64 0) ?_
      refine ps_end ?_
      refine sy_a ⟨#[.slice A ls.length cap, iN AT, undef, undef, u4, pT b 0, pT b2 0, .slice A3 (cat ls ls.length).length cap3, iN ls.length, u9, u10, u11, iN ((cat ls AT).length), pT gz 0, .int .i64 0, .slice A ls.length cap, .bool false, undef, .int .i64 at_, .slice A ls.length cap, iN ls.length, iN (ls.length + 1), iN AT, pT b 0, iN ls.length, .slice A ls.length cap, iN ls.length, .bool false, u28, u29, u30, u31, u32, u33, u34, u35, u36, u37, u38, u39, u40, u41, u42, u43, u44, u45, u46, u47, u48, u49, u50, u51, u52, u53, u54, u55, u56, u57, u58, u59, u60, u61, u62, u63, u64, u65, u66, u67, u68, u69, u70, u71, iN AT, .slice A ls.length cap, iN ls.length, .bool false, undef, undef, pT b2 0, iN ((cat ls AT).length), iN ((cat ls AT).length), .slice A3 (cat ls ls.length).length cap3, iN ((cat ls ls.length).length), .bool false, .bool false, iN ((cat ls AT).length), .bool false, .bool false, .tuple #[.agg (B (Kec.sum (cat ls AT))).toArray, .int .i64 0], pT b2 0, .tuple #[.agg (B (Kec.sum (cat ls AT))).toArray, .int .i64 0], .agg (B (Kec.sum (cat ls AT))).toArray, .int .i64 0, .agg ((B (Kec.sum (cat ls AT))).toArray), .slice A3 (cat ls ls.length).length cap3, iN ((cat ls AT).length), .slice A3 (cat ls AT).length cap3, .agg (B (Kec.sum (cat ls AT))).toArray, .bool false, .bool false, .int .i64 0, .bool false, .bool false, .bool false, pT b2 0, .slice A3 (cat ls ls.length).length cap3, iN ((cat ls AT).length), cutV A3 (cat ls ls.length).length cap3 (cat ls AT).length, .int .i64 0, .bool false, .bool false, .tuple #[.agg (B (Kec.sum (cat ls ls.length))).toArray, .int .i64 0], pT b2 0, .tuple #[.agg (B (Kec.sum (cat ls ls.length))).toArray, .int .i64 0], .agg (B (Kec.sum (cat ls ls.length))).toArray, .int .i64 0, undef, undef, undef, undef, undef, undef, undef, undef, undef, undef, undef], []⟩ ?_
      refine then_n ?_
      refine sy_sq (part_KeccakPieces 32766) (part_KeccakPieces 32767) ?_
      refine sy_np ?_
      refine sy_reg ?_
      refine an_begin 29 12 (opsAt (part_KeccakPieces 32766)) (fun W => (W.heap[gz]? = some (.cells ((B (Kec.sum (cat ls ls.length))).toArray) 29 (0, 0)))) #[false, false, false, false, false, false, false, false, false, false, false, false] (by kernel_rfl) (by kernel_rfl) (by kernel_rfl) (by kernel_rfl) ?_
      obtain ⟨V311, eV311⟩ : ∃ V, V304.drew = V := ⟨_, rfl⟩
      have kV311 : Keeps Nob V304 V311 := eV311 ▸ (Keeps.refl _ _).drew
      rw [eV311]
      clear eV311
      have h312 : ListsAt V311 (.slice A ls.length cap) us ls := h306.keepsN kV311
      have h313 : Row V311 5 1 (.slice A3 (cat ls ls.length).length cap3) ((cat ls ls.length).length) (B (cat ls ls.length)) := h307.keeps kV311 (fun _ _ x => x)
      have h314 : HashAt V311 b2 p2 (cat ls ls.length) := h308.keepsN kV311
      have h315 : V311.heap[gz]? = some (.cells ((B (Kec.sum (cat ls ls.length))).toArray) 29 (0, 0)) := (kV311.block gz (lt_of_block h305) (fun x => x)).trans h305
      have K316 : Keeps Nob w V311 := K309.then kV311 (fun _ _ x => x.elim)
      have z317 := kV311.size
      refine an_val 0 (o_KeccakPieces 32766 0) (.agg ((B (Kec.sum (cat ls ls.length))).toArray)) (by kernel_rfl) (by kernel_rfl) (by kernel_rfl) (by kernel_rfl) (by kernel_rfl) (fun W hS => exec_load_row 29 (.tmp 13) (by kernel_rfl) gz (by kernel_rfl) _ _ (0, 0) _ (hS) Try.underlying29 rfl (by rw [Bz_size, (Kec.sum_len _)]; kernel_rfl)) h315 ?_
      refine an_val 1 (o_KeccakPieces 32766 1) (.slice A3 (cat ls ls.length).length cap3) (by kernel_rfl) (by kernel_rfl) (by kernel_rfl) (by kernel_rfl) (by kernel_rfl) (fun W hS => by kernel_rfl) h315 ?_
      refine an_one 2 (by kernel_rfl) ?_
      refine on_call (o_KeccakPieces 32766 2) 20 #[.slice A3 (cat ls ls.length).length cap3] (by kernel_rfl) (by kernel_rfl) (by kernel_rfl) (by kernel_rfl) (enters_of Try.func20 (by kernel_rfl) rfl) ((hSum_ok (cat ls ls.length) _ _ (Row.bytes h313) (by rw [cat_len]; omega)).mono ?_)
      rintro e V318 ⟨rfl, kV318⟩
      refine ⟨_, rfl, ?_⟩
      have h319 : ListsAt V318 (.slice A ls.length cap) us ls := h312.keepsN kV318
      have h320 : Row V318 5 1 (.slice A3 (cat ls ls.length).length cap3) ((cat ls ls.length).length) (B (cat ls ls.length)) := h313.keeps kV318 (fun _ _ x => x)
      have h321 : HashAt V318 b2 p2 (cat ls ls.length) := h314.keepsN kV318
      have h322 : V318.heap[gz]? = some (.cells ((B (Kec.sum (cat ls ls.length))).toArray) 29 (0, 0)) := (kV318.block gz (lt_of_block h315) (fun x => x)).trans h315
      have K323 : Keeps Nob w V318 := K316.then kV318 (fun _ _ x => x.elim)
      have z324 := kV318.size
      refine ⟨h322, ?_⟩
      refine an_val 3 (o_KeccakPieces 32766 3) (.bool true) (by kernel_rfl) (by kernel_rfl) (by kernel_rfl) (by kernel_rfl) (by kernel_rfl) (fun W hS => exec_cast (congrArg Value.bool (by simp)) (exec_binop .eql 29 29 (.tmp 116) (.tmp 118) (by kernel_rfl) (.agg (B (Kec.sum (cat ls ls.length))).toArray) (.agg (B (Kec.sum (cat ls ls.length))).toArray) _ (by kernel_rfl) (by kernel_rfl) (run_eqGuard_agg _ _ _ _ _ _ _ khash_guard) (khash_eql _ _ (Kec.sum_len _) (Kec.sum_len _) _))) h322 ?_
      refine an_val 4 (o_KeccakPieces 32766 4) (.bool true) (by kernel_rfl) (by kernel_rfl) (by kernel_rfl) (by kernel_rfl) (by kernel_rfl) (fun W hS => by kernel_rfl) h322 ?_
      refine an_val 5 (o_KeccakPieces 32766 5) (.int .i64 0) (by kernel_rfl) (by kernel_rfl) (by kernel_rfl) (by kernel_rfl) (by kernel_rfl) (fun W hS => by kernel_rfl) h322 ?_
      refine an_val 6 (o_KeccakPieces 32766 6) (.bool true) (by kernel_rfl) (by kernel_rfl) (by kernel_rfl) (by kernel_rfl) (by kernel_rfl) (fun W hS => by kernel_rfl) h322 ?_
      refine an_val 7 (o_KeccakPieces 32766 7) (.bool true) (by kernel_rfl) (by kernel_rfl) (by kernel_rfl) (by kernel_rfl) (by kernel_rfl) (fun W hS => by kernel_rfl) h322 ?_
      refine an_val 8 (o_KeccakPieces 32766 8) (.bool true) (by kernel_rfl) (by kernel_rfl) (by kernel_rfl) (by kernel_rfl) (by kernel_rfl) (fun W hS => by kernel_rfl) h322 ?_
      refine an_one 9 (by kernel_rfl) ?_
      refine on_call (o_KeccakPieces 32766 9) 14 #[] (by kernel_rfl) (by kernel_rfl) (by kernel_rfl) (by kernel_rfl) (enters_of Try.func14 (by kernel_rfl) rfl) ((lawake_ok _).mono ?_)
      rintro e V325 ⟨rfl, kV325⟩
      refine ⟨_, rfl, ?_⟩
      have h326 : ListsAt V325 (.slice A ls.length cap) us ls := h319.keepsN kV325
      have h327 : Row V325 5 1 (.slice A3 (cat ls ls.length).length cap3) ((cat ls ls.length).length) (B (cat ls ls.length)) := h320.keeps kV325 (fun _ _ x => x)
      have h328 : HashAt V325 b2 p2 (cat ls ls.length) := h321.keepsN kV325
      have h329 : V325.heap[gz]? = some (.cells ((B (Kec.sum (cat ls ls.length))).toArray) 29 (0, 0)) := (kV325.block gz (lt_of_block h322) (fun x => x)).trans h322
      have K330 : Keeps Nob w V325 := K323.then kV325 (fun _ _ x => x.elim)
      have z331 := kV325.size
      refine ⟨h329, ?_⟩
      refine an_val 10 (o_KeccakPieces 32766 10) (.bool true) (by kernel_rfl) (by kernel_rfl) (by kernel_rfl) (by kernel_rfl) (by kernel_rfl) (fun W hS => by kernel_rfl) h329 ?_
      refine an_one 11 (by kernel_rfl) ?_
      refine on_run (o_KeccakPieces 32766 11) (.bool true) (w' := V325) (by kernel_rfl) (by kernel_rfl) (by kernel_rfl) ?_
      refine ⟨h329, ?_⟩
      refine an_end (by kernel_rfl) ?_
      refine sy_a ⟨#[.slice A ls.length cap, iN AT, undef, undef, .bool true, pT b 0, pT b2 0, .slice A3 (cat ls ls.length).length cap3, iN ls.length, u9, u10, u11, iN ((cat ls AT).length), pT gz 0, .int .i64 0, .slice A ls.length cap, .bool false, undef, .int .i64 at_, .slice A ls.length cap, iN ls.length, iN (ls.length + 1), iN AT, pT b 0, iN ls.length, .slice A ls.length cap, iN ls.length, .bool false, u28, u29, u30, u31, u32, u33, u34, u35, u36, u37, u38, u39, u40, u41, u42, u43, u44, u45, u46, u47, u48, u49, u50, u51, u52, u53, u54, u55, u56, u57, u58, u59, u60, u61, u62, u63, u64, u65, u66, u67, u68, u69, u70, u71, iN AT, .slice A ls.length cap, iN ls.length, .bool false, undef, undef, pT b2 0, iN ((cat ls AT).length), iN ((cat ls AT).length), .slice A3 (cat ls ls.length).length cap3, iN ((cat ls ls.length).length), .bool false, .bool false, iN ((cat ls AT).length), .bool false, .bool false, .tuple #[.agg (B (Kec.sum (cat ls AT))).toArray, .int .i64 0], pT b2 0, .tuple #[.agg (B (Kec.sum (cat ls AT))).toArray, .int .i64 0], .agg (B (Kec.sum (cat ls AT))).toArray, .int .i64 0, .agg ((B (Kec.sum (cat ls AT))).toArray), .slice A3 (cat ls ls.length).length cap3, iN ((cat ls AT).length), .slice A3 (cat ls AT).length cap3, .agg (B (Kec.sum (cat ls AT))).toArray, .bool false, .bool false, .int .i64 0, .bool false, .bool false, .bool false, pT b2 0, .slice A3 (cat ls ls.length).length cap3, iN ((cat ls AT).length), cutV A3 (cat ls ls.length).length cap3 (cat ls AT).length, .int .i64 0, .bool false, .bool false, .tuple #[.agg (B (Kec.sum (cat ls ls.length))).toArray, .int .i64 0], pT b2 0, .tuple #[.agg (B (Kec.sum (cat ls ls.length))).toArray, .int .i64 0], .agg (B (Kec.sum (cat ls ls.length))).toArray, .int .i64 0, .agg ((B (Kec.sum (cat ls ls.length))).toArray), .slice A3 (cat ls ls.length).length cap3, .agg (B (Kec.sum (cat ls ls.length))).toArray, .bool true, .bool true, .int .i64 0, .bool true, .bool true, .bool true, .bool true, .bool true], []⟩ ?_
      refine then_n ?_
      refine sy_ret (by kernel_rfl) ?_
      refine sy_out (.bool true) rfl (by kernel_rfl) ?_
      exact ⟨rfl, K330⟩
theorem pieces_ok (lv : Value) (us : List Value) (ls : List (List UInt8)) (at_ : Int) (hat : -9223372036854775808 ≤ at_ ∧ at_ ≤ 9223372036854775807) (w : World) (h0 : ListsAt w lv us ls) (_hln : ls.length * 24 ≤ 140737488351232) (hB : ∀ (k : Nat) (l : List UInt8), ls[k]? = some l → l.length ≤ 140737488351232) :
    Calls Try.prog 4 #[lv, .int .i64 at_] w fun e w' => e = .returned (.bool true) ∧ Keeps Nob w w' := by
  obtain ⟨A, cap, rfl, _⟩ := h0.form
  have hB' : ∀ (k : Nat) (l : List UInt8), ls[k]? = some l → l.length ≤ 9223372036854775000 := fun k l h => by have := hB k l h; omega
  by_cases hL : lng ls = true
  · exact pieces_long A cap us ls at_ hat w h0 hB' hL
  · exact pieces_main A cap us ls at_ hat w h0 hB' (by simpa using hL)
end Go.Proofs.Ytolbdhgclcemlaa
