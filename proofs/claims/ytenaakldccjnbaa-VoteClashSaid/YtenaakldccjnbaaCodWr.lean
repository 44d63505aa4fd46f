/-
  Codec: a writer in memory; what it takes, and what it tells. Conditions: none.
-/
import Derived.Test.YtenaakldccjnbaaCat
import Derived.Test.YtenaakldccjnbaaCodC
import Derived.Test.YtenaakldccjnbaaCodI
namespace Go.Proofs.Ytenaakldccjnbaa
open Go Go.RowKit Go.Own Go.Shelf

/-- A writer's state: its limit, its bytes, its error. -/
structure WS where
  lim : Int
  out : List UInt8
  err : Int
def WS.add (s : WS) (bs : List UInt8) : WS := if s.err = 0 then (if s.lim - s.out.length < bs.length then { s with err := 4 } else { s with out := s.out ++ bs }) else s
structure WrAt (w : World) (b : Nat) (v : Value) (s : WS) : Prop where
  blk : w.heap[b]? = some (.cells #[v, .int .i64 s.lim, .bool true, .int .i64 s.err] 129 (0, 0))
  row : Row w 5 1 v s.out.length (B s.out)
  own : v.ownBlock ≠ some b
  l0 : 0 ≤ s.lim
  l1 : s.lim ≤ 1048576
  fits : (s.out.length : Int) ≤ s.lim
/-- Its blocks. -/
def WBlk (b : Nat) (v : Value) : Nat → Prop := fun j => j = b ∨ v.ownBlock = some j
theorem WrAt.lt {w : World} {b : Nat} {v : Value} {s : WS} (h : WrAt w b v s) : b < w.heap.size := lt_of_block h.blk
theorem WrAt.blk_lt {w : World} {b : Nat} {v : Value} {s : WS} (h : WrAt w b v s) : ∀ j, WBlk b v j → j < w.heap.size := fun j hj => by
  rcases hj with rfl | hj
  · exact h.lt
  · exact h.row.lt hj
theorem WrAt.keeps {w w' : World} {M : Nat → Prop} {b : Nat} {v : Value} {s : WS} (h : WrAt w b v s) (k : Keeps M w w') (hm : ∀ j, WBlk b v j → ¬ M j) : WrAt w' b v s :=
  ⟨(k.block b h.lt (hm b (.inl rfl))).trans h.blk, h.row.keeps k (fun j hj => hm j (.inr hj)), h.own, h.l0, h.l1, h.fits⟩

set_option maxRecDepth 100000 in
set_option maxHeartbeats 1000000 in
theorem wstate_ok (b : Nat) (v : Value) (s : WS) (w : World) (h : WrAt w b v s) :
    Calls Try.prog 95 #[.pointer (some ⟨b, 0, none⟩)] w fun e w' => e = .returned (.int .i64 s.err) ∧ w = w' := by
  have c2 : w.cell? ⟨b, 2, none⟩ = some (.bool true) := (cell_of_row w b 2 _ _ _ h.blk).trans rfl
  have c3 : w.cell? ⟨b, 3, none⟩ = some (.int .i64 s.err) := (cell_of_row w b 3 _ _ _ h.blk).trans rfl
  clear h
  go_enter Try.func95, Try.ntmps95
  go_wp2
  go_ret
  exact ⟨rfl, rfl⟩

set_option maxRecDepth 100000 in
set_option maxHeartbeats 1000000 in
theorem newWriter_ok (lim : Int) (w : World) (h0 : 0 ≤ lim) (h1 : lim ≤ 1048576) :
    Calls Try.prog 81 #[.int .i64 lim] w fun e w' => ∃ b, e = .returned (.tuple #[.pointer (some ⟨b, 0, none⟩), .int .i64 0]) ∧ WrAt w' b (.slice none 0 0) ⟨lim, [], 0⟩ ∧ w.heap.size ≤ b ∧ Keeps Nob w w' := by
  have d0 : decide (lim < 0) = false := by simpa using h0
  have d1 : decide (1048576 < lim) = false := by simpa using h1
  go_enter Try.func81, Try.ntmps81
  go_wp2
  go_ret2
  exact ⟨_, rfl, ⟨heap_alloc_new _ _, ⟨rfl, .inl ⟨rfl, rfl⟩⟩, by simp [Value.ownBlock], h0, h1, by simpa using h0⟩, Nat.le_refl _, (Keeps.refl _ _).alloc _⟩

/-- What a step leaves of a writer. -/
def WPost (b : Nat) (v : Value) (s : WS) (w : World) (e : Ending) (w' : World) : Prop :=
  e = .returned (.int .i64 s.err) ∧ (∃ v', WrAt w' b v' s ∧ ∀ j, v'.ownBlock = some j → v.ownBlock = some j ∨ w.heap.size ≤ j) ∧ Keeps (WBlk b v) w w'

set_option maxRecDepth 100000 in
set_option maxHeartbeats 4000000 in
theorem wadd_ok (b : Nat) (v : Value) (s : WS) (x : Value) (bs : List UInt8) (w : World) (h : WrAt w b v s) (hx : BytesAt w x bs) (hl : bs.length ≤ 10000000) :
    Calls Try.prog 100 #[.pointer (some ⟨b, 0, none⟩), x] w (WPost b v (s.add bs) w) := by
  have HS := Lib.hid (wstate_ok b v s w h)
  have H := Lib.hid h
  obtain ⟨A, cap, rfl⟩ := hx.len
  obtain ⟨Av, cv, rfl⟩ := (Row.bytes h.row).len
  have c0 : w.cell? ⟨b, 0, none⟩ = some (.slice Av s.out.length cv) := (cell_of_row w b 0 _ _ _ h.blk).trans rfl
  have c1 : w.cell? ⟨b, 1, none⟩ = some (.int .i64 s.lim) := (cell_of_row w b 1 _ _ _ h.blk).trans rfl
  have c3 : w.cell? ⟨b, 3, none⟩ = some (.int .i64 s.err) := (cell_of_row w b 3 _ _ _ h.blk).trans rfl
  have f3 : w.frozen? ⟨b, 3, none⟩ = false := frozen_of_row w b 3 _ _ h.blk
  have hlt := h.lt
  have l0 := h.l0
  have l1 := h.l1
  have hfit := h.fits
  have HX := Lib.hid hx
  clear h hx
  by_cases h0 : s.err = 0
  · have d0 : (s.err != 0) = false := by simpa using h0
    have ew : IntKind.i64.wrap (s.lim - (s.out.length : Int)) = s.lim - (s.out.length : Int) := by rw [IntKind.wrap_i64]; omega
    by_cases h1 : s.lim - (s.out.length : Int) < (bs.length : Int)
    · have e1 : s.add bs = { s with err := 4 } := by unfold WS.add; rw [if_pos h0, if_pos h1]
      rw [e1]
      have d1 : decide (s.lim - (s.out.length : Int) < (bs.length : Int)) = true := by simpa using h1
      clear e1 h0
      go_enter Try.func100, Try.ntmps100
      go_wp2_with (go_at_call 95; refine HS.out.mono ?_; rintro e w' ⟨rfl, rfl⟩)
      go_quiet (fail)
      revert nq; intro n1
      go_wp2
      go_ret
      have hb2 := heap_setCell_same (w.drewN n1) b 3 _ _ (.int .i64 4) H.out.blk
      have hk : Keeps (One b) w ((w.drewN n1).setCell ⟨b, 3, none⟩ (.int .i64 4)) := ((Keeps.refl _ _).drewN n1).setOne _
      exact ⟨rfl, ⟨_, ⟨hb2, H.out.row.keeps hk (fun j hj (e : j = b) => H.out.own (by rw [hj, e])), H.out.own, l0, l1, hfit⟩, fun j hj => .inl hj⟩, hk.mono (fun _ _ e => .inl e)⟩
    · have e1 : s.add bs = { s with out := s.out ++ bs } := by unfold WS.add; rw [if_pos h0, if_neg h1]
      rw [e1]
      have d1 : decide (s.lim - (s.out.length : Int) < (bs.length : Int)) = false := by simpa using h1
      obtain ⟨i0, hi, hz0, hz1, hz2⟩ := info_parts u8_info0
      have HI := Lib.hid hi
      have HZ0 := Lib.hid hz0
      have HZ1 := Lib.hid hz1
      have HZ2 := Lib.hid hz2
      have H0 := Lib.hid h0
      clear e1 h0 hi hz0 hz1 hz2
      go_enter Try.func100, Try.ntmps100
      go_wp2_with (go_at_call 95; refine HS.out.mono ?_; rintro e w' ⟨rfl, rfl⟩)
      go_quiet (fail)
      revert nq; intro n1
      have kd : Hid (Keeps Nob w (w.drewN n1)) := Lib.hid ((Keeps.refl _ _).drewN n1)
      have HR1 := Lib.hid (H.out.row.keeps kd.out (fun _ _ x => x))
      have HS1 := Lib.hid (HX.out.keepsN kd.out).src
      go_wp2_with (at_builtin; refine own_append2 rfl _ _ 22 rfl 5 i0 (.int .u8 0) 1 1 Try.underlying22 HI.out HZ0.out HZ1.out HZ2.out rfl (by decide) _ _ _ rfl HR1.out (.slice A bs.length cap) bs.length (B bs) rfl HS1.out (len_small _ _ (by omega)) (len_bytes _ _ (by omega)) ?_; intro v' w1 hown' hgrow hnil hat; rw [← B_append, ← List.length_append] at hown'; obtain ⟨Av', cv', hv'⟩ := (Row.bytes hown').len; subst hv'; have hk1 : Keeps (fun j => (Value.slice Av s.out.length cv).ownBlock = some j) (w.drewN n1) w1 := (Keeps.refl _ _).grown hgrow (fun j hj _ => hj); have hb1 := (hk1.block b hlt (fun e => H.out.own e)).trans H.out.blk; have q0 : w1.cell? ⟨b, 0, none⟩ = some (.slice Av s.out.length cv) := (cell_of_row w1 b 0 _ _ _ hb1).trans rfl; have q1 : w1.frozen? ⟨b, 0, none⟩ = false := frozen_of_row w1 b 0 _ _ hb1; have H1 := Lib.hid hown'; have H3 := Lib.hid hat; have HB := Lib.hid hb1; have HK := Lib.hid hk1; clear hown' hnil hat hgrow hb1 hk1)
      go_ret
      obtain ⟨v', hv'⟩ : ∃ v', (Value.slice Av' (s.out.length + bs.length) cv') = v' := ⟨_, rfl⟩
      rw [List.length_append, hv'] at H1 H3
      rw [hv']
      have hb2 := heap_setCell_same w1 b 0 _ _ v' HB.out
      have hkS : Keeps (One b) w1 (w1.setCell ⟨b, 0, none⟩ v') := (Keeps.refl _ _).setOne _
      have hown : ∀ j, v'.ownBlock = some j → (Value.slice Av s.out.length cv).ownBlock = some j ∨ w.heap.size ≤ j := fun j hj => by
        rcases H3.out j hj with h | ⟨h, _⟩
        · exact .inl h
        · simp at h; exact .inr (by omega)
      have hvb : v'.ownBlock ≠ some b := fun hj => by
        rcases hown b hj with h | h
        · exact H.out.own h
        · omega
      refine ⟨by show Ending.returned (.int .i64 0) = .returned (.int .i64 s.err); rw [H0.out], ⟨v', ⟨hb2, ?_, hvb, l0, l1, by simp; omega⟩, hown⟩, (((Keeps.refl _ w).drewN n1).trans (HK.out.mono (fun _ _ e => .inr e))).trans (hkS.mono (fun _ _ e => .inl e))⟩
      rw [← List.length_append] at H1
      exact H1.out.keeps hkS (fun j hj (e : j = b) => hvb (by rw [hj, e]))
  · have e1 : s.add bs = s := by unfold WS.add; rw [if_neg h0]
    rw [e1]
    have d0 : (s.err != 0) = true := by simpa using h0
    clear h0 e1
    go_enter Try.func100, Try.ntmps100
    go_wp2_with (go_at_call 95; refine HS.out.mono ?_; rintro e w' ⟨rfl, rfl⟩)
    go_ret
    exact ⟨rfl, ⟨_, H.out, fun j hj => .inl hj⟩, Keeps.refl _ _⟩
end Go.Proofs.Ytenaakldccjnbaa
