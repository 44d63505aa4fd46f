/-
  slices.Grow and slices.Concat at bytes. Conditions: none.
-/
import Derived.Test.YtmapcghgdbfmhaaKitB
import Derived.Lib.AppendZerosOnto
namespace Go.Proofs.Ytmapcghgdbfmhaa
open Go Go.RowKit Go.Own

theorem own_append_run {P : Program} {ops : Array Oper} {rest : List Oper} {o : Oper} {a : Act} {w w' : World} {Q : Exit → Act → World → Prop} (hgd : o.guard = none) (s x : Operand) (ts : Array TypeId)
    (ho : o.op = .call { callee := .builtin .append, args := #[s, x], argTypes := ts }) (vs vx v : Value) (hs : a.eval s = vs) (hx : a.eval x = vx) (hr : (Builtin.append_ ts o.type #[vs, vx]).run P w = .ok v w')
    (h : wpList P ops Q rest (a.put o.dst v) w') : wpList P ops Q (o :: rest) a w := by
  refine own_run hgd (v := v) (w' := w') ?_ h
  unfold execOp
  simp only [ho, resolve, invoke, builtin, Sem.run_bind, Sem.run_pure, Result.andThen_ok, List.map_toArray, List.map_cons, List.map_nil, hs, hx, hr]
theorem zeros_size (n : Nat) : (Builtin.zeroCells (Value.int .u8 0).cells n).size = n := by simp [Builtin.zeroCells, Value.cells]
theorem grown_zeros (w : World) (n : Nat) (h0 : 0 < n) (hn : n ≤ 100000000) : ∃ (cap : Nat) (cur : Array Value), n ≤ cap ∧ cap ≤ maxLen ∧ cur.size = cap ∧
    ∀ kq ty, (Builtin.append_ #[22, 3] ty #[.slice none 0 0, .int kq (n : Int)]).run Try.prog w = .ok (.slice (some ⟨w.heap.size, 0, none⟩) n cap) (w.drew.alloc (.cells cur 5)) := by
  obtain ⟨i0, hi, hz0, hz1, hz2⟩ := info_parts u8_info0
  refine ⟨grownCap w n 0 5, ([] : List Value).toArray ++ Builtin.zeroCells (Value.int .u8 0).cells n ++ Builtin.zeroCells (Value.int .u8 0).cells (grownCap w n 0 5 - n), grownCap_ge w n 0 5, grownCap_le_maxLen w n 0 5 (by unfold maxLen; omega), ?_, fun kq ty => ?_⟩
  · have := grownCap_ge w n 0 5
    simp [zeros_size]
    omega
  · have := Lib.run_append_grow_zeros (P := Try.prog) w 22 3 ty 5 i0 (.int .u8 0) kq .i64 Try.underlying22 Try.underlying3 hi hz0 none 0 0 [] (by simp [Builtin.firstCells]) n h0 (by omega) (by omega) (by omega) (by rw [hz2]; omega) (by rw [Nat.zero_add, nextslicecap_zero h0, hz2]; omega)
    simpa using this

set_option maxRecDepth 100000 in
set_option maxHeartbeats 1000000 in
theorem grow_ok (n : Nat) (hn : n ≤ 100000000) (w : World) :
    Calls Try.prog 105 #[.slice none 0 0, .int .i64 (n : Int)] w fun e w' => ∃ X, e = .returned X ∧ Row w' 5 1 X 0 [] ∧ (∀ j, X.ownBlock = some j → w.heap.size ≤ j) ∧ Keeps Nob w w' := by
  by_cases h0 : 0 < n
  · obtain ⟨cap, cur, h1, h2, h3, hr⟩ := grown_zeros w n h0 hn
    have HR := Lib.hid hr
    have H3 := Lib.hid h3
    have H2 := Lib.hid h2
    clear hr h3 h2
    have hd : decide ((0 : Int) < (n : Int)) = true := by simp; omega
    go_enter Try.func105, Try.ntmps105
    go_wp2_with (refine own_append_run rfl _ _ #[22, 3] rfl (.slice none 0 0) (.int .i64 (n : Int)) _ rfl rfl (HR.out _ _) ?_)
    go_ret
    refine ⟨_, rfl, ⟨rfl, .inr ⟨_, _, cur, rfl, Nat.zero_le _, heap_alloc_new _ _, Nat.zero_le _, H2.out, by rw [H3.out]; omega, rfl⟩⟩, fun j hj => by simp [Value.ownBlock] at hj; omega, ((Keeps.refl _ _).drew).alloc _⟩
  · obtain rfl : n = 0 := by omega
    go_enter Try.func105, Try.ntmps105
    go_wp2
    go_ret
    exact ⟨_, rfl, ⟨rfl, .inl ⟨rfl, rfl⟩⟩, fun j hj => by simp [Value.ownBlock] at hj, Keeps.refl _ _⟩

/-- Two slices of bytes, in a slice of their own. -/
structure TwoAt (w : World) (g : Nat) (x1 x2 : Value) (l1 l2 : List UInt8) : Prop where
  c0 : w.cell? ⟨g, 0, none⟩ = some x1
  c1 : w.cell? ⟨g, 1, none⟩ = some x2
  h1 : BytesAt w x1 l1
  h2 : BytesAt w x2 l2
theorem TwoAt.keeps {w w' : World} {g : Nat} {x1 x2 : Value} {l1 l2 : List UInt8} (h : TwoAt w g x1 x2 l1 l2) (k : Keeps Nob w w') : TwoAt w' g x1 x2 l1 l2 :=
  ⟨(k.cell (World.block_lt_of_cell? w _ h.c0) (fun x => x)).trans h.c0, (k.cell (World.block_lt_of_cell? w _ h.c1) (fun x => x)).trans h.c1, h.h1.keepsN k, h.h2.keepsN k⟩

theorem len_small (n m : Nat) (h : n + m ≤ 100000000) : n + m ≤ maxLen := by unfold maxLen; omega
theorem len_bytes (n m : Nat) (h : n + m ≤ 100000000) : (n + m) * 1 ≤ 140737488355328 := by omega
/-- What is together so far. -/
def Got (w V : World) (v : Value) (bs : List UInt8) : Prop := Row V 5 1 v bs.length (B bs) ∧ (∀ j, v.ownBlock = some j → w.heap.size ≤ j) ∧ Keeps Nob w V
theorem Got.step {w V V' : World} {v v' : Value} {bs xs : List UInt8} (h : Got w V v bs) (hr : Row V' 5 1 v' (bs.length + xs.length) (B bs ++ B xs)) (hg : V.grownBy V' v.ownBlock) (ha : ∀ k, v'.ownBlock = some k → v.ownBlock = some k ∨ k = V.heap.size ∧ V.heap.size < V'.heap.size) : Got w V' v' (bs ++ xs) := by
  refine ⟨by rw [B_append, List.length_append]; exact hr, fun j hj => ?_, h.2.2.grown hg (fun j hj hlt => by have := h.2.1 j hj; omega)⟩
  rcases ha j hj with h1 | ⟨h1, _⟩
  · exact h.2.1 j h1
  · have := h.2.2.size; omega

set_option maxRecDepth 100000 in
set_option maxHeartbeats 4000000 in
theorem concat_ok (g : Nat) (x1 x2 : Value) (l1 l2 : List UInt8) (w : World) (h : TwoAt w g x1 x2 l1 l2) (hl1 : l1.length ≤ 10000000) (hl2 : l2.length ≤ 10000000) :
    Calls Try.prog 82 #[.slice (some ⟨g, 0, none⟩) 2 2] w fun e w' => ∃ X, e = .returned X ∧ Row w' 5 1 X (l1 ++ l2).length (B (l1 ++ l2)) ∧ (∀ j, X.ownBlock = some j → w.heap.size ≤ j) ∧ Keeps Nob w w' := by
  obtain ⟨i0, hi, hz0, hz1, hz2⟩ := info_parts u8_info0
  have H := Lib.hid h
  have c0 := h.c0
  have c1 := h.c1
  obtain ⟨A1, cap1, rfl⟩ := h.h1.len
  obtain ⟨A2, cap2, rfl⟩ := h.h2.len
  have HI := Lib.hid hi
  have HZ0 := Lib.hid hz0
  have HZ1 := Lib.hid hz1
  have HZ2 := Lib.hid hz2
  clear h hi hz0 hz1 hz2
  go_enter Try.func82, Try.ntmps82
  go_wp2
  go_loop [3, 11] (fun s i => (s = .int .i64 0 ∧ i = .int .i64 0) ∨ (s = .int .i64 (l1.length : Int) ∧ i = .int .i64 1) ∨ (s = .int .i64 ((l1.length : Int) + l2.length) ∧ i = .int .i64 2)) (fun _ i => 2 - (intOf i).toNat)
  case atStart => exact .inl ⟨rfl, rfl⟩
  case round =>
    rcases hrel with ⟨rfl, rfl⟩ | ⟨rfl, rfl⟩ | ⟨rfl, rfl⟩
    · go_wp2
      go_round
      case rel => exact .inr (.inl ⟨rfl, rfl⟩)
      case measure => simp [intOf]
    · go_wp2
      go_round
      case rel => exact .inr (.inr ⟨rfl, rfl⟩)
      case measure => simp [intOf]
    · go_wp2_with (go_at_call 105; rw [show (l1.length : Int) + (l2.length : Int) = ((l1.length + l2.length : Nat) : Int) by omega]; refine (grow_ok (l1.length + l2.length) (by omega) w).mono ?_; rintro e w0 ⟨X, rfl, hX, hf, hk⟩; have HX : Hid (Got w w0 X []) := Lib.hid ⟨hX, hf, hk⟩; clear hX hf hk)
      clear c0 c1
      go_loopw [6, 27] (fun v i V => ∃ Y, v = Y ∧ ((i = .int .i64 0 ∧ Hid (Got w V Y [])) ∨ (i = .int .i64 1 ∧ Hid (Got w V Y l1)) ∨ (i = .int .i64 2 ∧ Hid (Got w V Y (l1 ++ l2))))) (fun _ i _ => 2 - (intOf i).toNat)
      case atStart => exact ⟨_, rfl, .inl ⟨rfl, HX⟩⟩
      case round =>
        obtain ⟨v, rfl, ⟨rfl, HG⟩ | ⟨rfl, HG⟩ | ⟨rfl, HG⟩⟩ := hrel
        · have HT := H.out.keeps HG.out.2.2
          have c0 := HT.c0
          have HS := Lib.hid HT.h1.src
          clear HT
          go_wp2_with (at_builtin; refine own_append2 rfl _ _ 22 rfl 5 i0 (.int .u8 0) 1 1 Try.underlying22 HI.out HZ0.out HZ1.out HZ2.out rfl (by decide) _ _ _ rfl HG.out.1 (.slice A1 l1.length cap1) l1.length (B l1) rfl HS.out (len_small _ _ (by first | omega | (simp; omega))) (len_bytes _ _ (by first | omega | (simp; omega))) ?_; intro v' w1 hown' hgrow hnil hat; have H1 := Lib.hid (HG.out.step hown' hgrow hat); clear hown' hnil hat hgrow)
          go_roundw
          case rel => exact ⟨_, rfl, .inr (.inl ⟨rfl, H1⟩)⟩
          case measure => simp [intOf]
        · have HT := H.out.keeps HG.out.2.2
          have c1 := HT.c1
          have HS := Lib.hid HT.h2.src
          clear HT
          go_wp2_with (at_builtin; refine own_append2 rfl _ _ 22 rfl 5 i0 (.int .u8 0) 1 1 Try.underlying22 HI.out HZ0.out HZ1.out HZ2.out rfl (by decide) _ _ _ rfl HG.out.1 (.slice A2 l2.length cap2) l2.length (B l2) rfl HS.out (len_small _ _ (by first | omega | (simp; omega))) (len_bytes _ _ (by first | omega | (simp; omega))) ?_; intro v' w1 hown' hgrow hnil hat; have H1 := Lib.hid (HG.out.step hown' hgrow hat); clear hown' hnil hat hgrow)
          go_roundw
          case rel => exact ⟨_, rfl, .inr (.inr ⟨rfl, H1⟩)⟩
          case measure => simp [intOf]
        · go_wp2
          go_ret
          exact ⟨_, rfl, HG.out.1, HG.out.2.1, HG.out.2.2⟩
end Go.Proofs.Ytmapcghgdbfmhaa
