/-
  Codec: the document's reader in memory; what it tells. Conditions: none.
-/
import Derived.Test.YtmapcghgdbfmhaaCodP
import Derived.Test.YtmapcghgdbfmhaaCodO
namespace Go.Proofs.Ytmapcghgdbfmhaa
open Go Go.RowKit Go.Own Go.Shelf

/-- The document's reader at block b: its bytes' slice v; the same state. -/
structure RrAt (w : World) (b : Nat) (v : Value) (l : List UInt8) (s : RS) : Prop where
  ex : ∃ (at_ : Nat) (ea : Int), w.heap[b]? = some (.cells #[v, .int .i64 (at_ : Int), .int .i64 s.err, .int .i64 ea] 112 (0, 0)) ∧ at_ ≤ l.length ∧ (s.err = 0 → s.pos = at_ ∧ ea = 0) ∧ (s.err ≠ 0 → s.pos = ea)
  bytes : BytesAt w v l
  own : v.ownBlock ≠ some b
theorem RrAt.keeps {w w' : World} {M : Nat → Prop} {b : Nat} {v : Value} {l : List UInt8} {s : RS} (h : RrAt w b v l s) (k : Keeps M w w') (hb : ¬ M b) (hm : ∀ j, v.ownBlock = some j → ¬ M j) : RrAt w' b v l s := by
  obtain ⟨at_, ea, hbk, r⟩ := h.ex
  exact ⟨⟨at_, ea, (k.block b (lt_of_block hbk) hb).trans hbk, r⟩, h.bytes.keeps k hm, h.own⟩
theorem RrAt.lt {w : World} {b : Nat} {v : Value} {l : List UInt8} {s : RS} (h : RrAt w b v l s) : b < w.heap.size := by
  obtain ⟨at_, ea, hb, _⟩ := h.ex
  exact lt_of_block hb
theorem RrAt.pos {w : World} {b : Nat} {v : Value} {l : List UInt8} {s : RS} (h : RrAt w b v l s) (h0 : s.err = 0) : 0 ≤ s.pos ∧ s.pos ≤ l.length := by
  obtain ⟨at_, ea, hb, hl, h1, _⟩ := h.ex
  have := (h1 h0).1
  omega

set_option maxRecDepth 100000 in
set_option maxHeartbeats 2000000 in
theorem rrEnd_ok (b : Nat) (v : Value) (l : List UInt8) (s : RS) (w : World) (h : RrAt w b v l s) :
    Calls Try.prog 46 #[.pointer (some ⟨b, 0, none⟩)] w fun e w' => e = .returned (.agg #[.int .i64 (s.fin l).1, .int .i64 (s.fin l).2]) ∧ Keeps Nob w w' := by
  have hk0 : Keeps Nob w (w.alloc (.cells #[.int .i64 0, .int .i64 0] 38)) := (Keeps.refl _ _).alloc _
  have hA := h.keeps hk0 (fun x => x) (fun _ _ x => x)
  have hll := h.bytes.length_le
  obtain ⟨A, cap, rfl⟩ := h.bytes.len
  obtain ⟨at_, ea, hb, hl, h1, h2⟩ := hA.ex
  have hlt := h.lt
  have c0 := (cell_of_row _ b 0 _ _ _ hb).trans (show _ = some (.slice A l.length cap) from rfl)
  have c1 := (cell_of_row _ b 1 _ _ _ hb).trans (show _ = some (.int .i64 (at_ : Int)) from rfl)
  have c2 := (cell_of_row _ b 2 _ _ _ hb).trans (show _ = some (.int .i64 s.err) from rfl)
  have c3 := (cell_of_row _ b 3 _ _ _ hb).trans (show _ = some (.int .i64 ea) from rfl)
  clear h hA hb
  by_cases h0 : s.err = 0
  · obtain ⟨hp, rfl⟩ := h1 h0
    have d0 : (s.err == 0) = true := by simpa using h0
    by_cases h1' : at_ < l.length
    · have hs : s.fin l = (4, (at_ : Int)) := by unfold RS.fin; rw [if_pos h0, hp, if_pos (by omega)]
      rw [hs]
      clear hs h0 hp h1 h2
      go_enter Try.func46, Try.ntmps46
      go_wp2
      go_quiet (fail)
      go_wp2
      exact bodyPost_ret (v := .agg #[.int .i64 4, .int .i64 (at_ : Int)]) (by simp [results, Try.results46, go_sem]) rfl ⟨rfl, ((hk0.drewN _).setCell_new (p := ⟨w.heap.size, 0, none⟩) (Nat.le_refl _) _).setCell_new (p := ⟨w.heap.size, 1, none⟩) (Nat.le_refl _) _⟩
    · have hs : s.fin l = (0, 0) := by unfold RS.fin; rw [if_pos h0, hp, if_neg (by omega)]
      rw [hs]
      rw [h0] at c2
      clear hs h0 hp h1 h2 d0
      go_enter Try.func46, Try.ntmps46
      go_wp2
      go_quiet (fail)
      go_wp2
      exact bodyPost_ret (v := .agg #[.int .i64 0, .int .i64 0]) (by simp [results, Try.results46, go_sem]) rfl ⟨rfl, ((hk0.drewN _).setCell_new (p := ⟨w.heap.size, 0, none⟩) (Nat.le_refl _) _).setCell_new (p := ⟨w.heap.size, 1, none⟩) (Nat.le_refl _) _⟩
  · have hs : s.fin l = (s.err, ea) := by unfold RS.fin; rw [if_neg h0, h2 h0]
    rw [hs]
    have d0 : (s.err == 0) = false := by simpa using h0
    clear hs h0 h1 h2
    go_enter Try.func46, Try.ntmps46
    go_wp2
    go_quiet (fail)
    go_wp2
    exact bodyPost_ret (v := .agg #[.int .i64 s.err, .int .i64 ea]) (by simp [results, Try.results46, go_sem]) rfl ⟨rfl, ((hk0.drewN _).setCell_new (p := ⟨w.heap.size, 0, none⟩) (Nat.le_refl _) _).setCell_new (p := ⟨w.heap.size, 1, none⟩) (Nat.le_refl _) _⟩

set_option maxRecDepth 100000 in
set_option maxHeartbeats 2000000 in
theorem rrFail_ok (b : Nat) (v : Value) (l : List UInt8) (s : RS) (e p : Int) (w : World) (h : RrAt w b v l s) :
    Calls Try.prog 67 #[.pointer (some ⟨b, 0, none⟩), .int .i64 e, .int .i64 p] w fun x w' => (∃ r, x = .returned r) ∧ RrAt w' b v l (s.fail e p) ∧ Keeps (One b) w w' := by
  have H := Lib.hid h
  obtain ⟨at_, ea, hb, hl, h1, h2⟩ := h.ex
  have c2 : w.cell? ⟨b, 2, none⟩ = some (.int .i64 s.err) := (cell_of_row w b 2 _ _ _ hb).trans rfl
  have c3 : w.cell? ⟨b, 3, none⟩ = some (.int .i64 ea) := (cell_of_row w b 3 _ _ _ hb).trans rfl
  have f2 : w.frozen? ⟨b, 2, none⟩ = false := frozen_of_row w b 2 _ _ hb
  have f3 : w.frozen? ⟨b, 3, none⟩ = false := frozen_of_row w b 3 _ _ hb
  have HBK := Lib.hid hb
  have K1 := Lib.hid h1
  have K2 := Lib.hid h2
  clear h hb h1 h2
  by_cases hc : s.err = 0 ∧ e ≠ 0
  · have hs : s.fail e p = ⟨e, p⟩ := by unfold RS.fail; rw [if_pos hc]
    rw [hs]
    obtain ⟨h0, he⟩ := hc
    have d0 : (s.err == 0) = true := by simpa using h0
    have d1 : (e != 0) = true := by simpa using he
    have HE := Lib.hid he
    clear hs h0 he
    go_enter Try.func67, Try.ntmps67
    go_wp2
    go_end0
    have hb2 := heap_setCell_same _ b 3 _ _ (.int .i64 p) (heap_setCell_same w b 2 _ _ (.int .i64 e) HBK.out)
    have hkF : Keeps (One b) w ((w.setCell ⟨b, 2, none⟩ (.int .i64 e)).setCell ⟨b, 3, none⟩ (.int .i64 p)) := ((Keeps.refl _ _).setOne _).setOne _
    exact ⟨⟨_, rfl⟩, ⟨⟨at_, p, hb2, hl, fun h => absurd h HE.out, fun _ => rfl⟩, H.out.bytes.keeps hkF (fun j hj (e : j = b) => H.out.own (by rw [hj, e])), H.out.own⟩, hkF⟩
  · have hs : s.fail e p = s := by unfold RS.fail; rw [if_neg hc]
    rw [hs]
    by_cases h0 : s.err = 0
    · have d0 : (s.err == 0) = true := by simpa using h0
      have d1 : (e != 0) = false := by simp; exact Classical.byContradiction fun he => hc ⟨h0, he⟩
      clear hs h0 hc
      go_enter Try.func67, Try.ntmps67
      go_wp2
      go_end0
      exact ⟨⟨_, rfl⟩, H.out, Keeps.refl _ _⟩
    · have d0 : (s.err == 0) = false := by simpa using h0
      clear hs h0 hc
      go_enter Try.func67, Try.ntmps67
      go_wp2
      go_end0
      exact ⟨⟨_, rfl⟩, H.out, Keeps.refl _ _⟩

set_option maxRecDepth 100000 in
set_option maxHeartbeats 1000000 in
theorem rrNew_ok (a : Value) (l : List UInt8) (w : World) (ha : BytesAt w a l) (hl : l.length ≤ 100000000) :
    Calls Try.prog 43 #[a] w fun e w' => ∃ b v, e = .returned (.pointer (some ⟨b, 0, none⟩)) ∧ RrAt w' b v l ⟨0, 0⟩ ∧ w.heap.size ≤ b ∧ (∀ j, v.ownBlock = some j → w.heap.size ≤ j ∧ j < w'.heap.size) ∧ Keeps Nob w w' := by
  have HC := Lib.hid (copyBytes_ok a l w ha hl)
  clear ha
  go_enter Try.func43, Try.ntmps43
  go_wp2_with (go_at_call 56; refine HC.out.mono ?_; rintro e w' ⟨v, rfl, h1, h2, h3, h4⟩; obtain ⟨A, cap, rfl⟩ := (Row.bytes h1).len; have H1 := Lib.hid h1; have H2 := Lib.hid h2; clear h1 h2 h3)
  go_ret
  have hkA : Keeps Nob w' (w'.alloc (.cells #[.slice A l.length cap, .int .i64 0, .int .i64 0, .int .i64 0] 112)) := (Keeps.refl _ _).alloc _
  refine ⟨w'.heap.size, .slice A l.length cap, rfl, ⟨⟨0, 0, heap_alloc_new _ _, Nat.zero_le _, fun _ => ⟨rfl, rfl⟩, fun h => absurd rfl h⟩, (Row.bytes H1.out).keepsN hkA, fun h => ?_⟩, h4.size, fun j hj => ⟨H2.out j hj, Nat.lt_of_lt_of_le (H1.out.lt hj) hkA.size⟩, h4.trans hkA⟩
  exact absurd (H1.out.lt h) (by omega)
end Go.Proofs.Ytmapcghgdbfmhaa
