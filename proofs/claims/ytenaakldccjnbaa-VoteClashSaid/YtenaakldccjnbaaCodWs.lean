/-
  Codec: what a writer takes, and what it tells. Conditions: none.
-/
import Derived.Test.YtenaakldccjnbaaCodWr
import Derived.Deep.MidRow
namespace Go.Proofs.Ytenaakldccjnbaa
open Go Go.RowKit Go.Own Go.Shelf

theorem WPost.mono {b : Nat} {v : Value} {s : WS} {w w0 : World} {e : Ending} {w' : World} (h : WPost b v s w e w') (k : Keeps Nob w0 w) : WPost b v s w0 e w' := by
  obtain ⟨h1, ⟨v', h2, h3⟩, h4⟩ := h
  refine ⟨h1, ⟨v', h2, fun j hj => ?_⟩, (k.mono (fun _ _ x => x.elim)).trans h4⟩
  rcases h3 j hj with h | h
  · exact .inl h
  · exact .inr (Nat.le_trans k.size h)

set_option maxRecDepth 100000 in
set_option maxHeartbeats 1000000 in
theorem wU_ok (b : Nat) (v : Value) (s : WS) (n : Nat) (w : World) (h : WrAt w b v s) (hn : n < 2 ^ 64) :
    Calls Try.prog 86 #[.pointer (some ⟨b, 0, none⟩), .int .u64 (n : Int)] w (WPost b v (s.add (Cod.enc n)) w) := by
  have H := Lib.hid h
  have HP := Lib.hid (cPut_ok n hn w)
  clear h hn
  go_enter Try.func86, Try.ntmps86
  go_wp2_with (first
    | (go_at_call 101; refine HP.out.mono ?_; rintro e w1 ⟨x, rfl, h1, h2, h3, h4⟩; have H1 := Lib.hid h1; have H4 := Lib.hid h4; clear h1 h2 h3 h4)
    | (go_at_call 100; refine (wadd_ok b v s x (Cod.enc n) w1 (H.out.keeps H4.out (fun _ _ x => x)) (Row.bytes H1.out) (by have := Cod.enc_length n; omega)).mono ?_; rintro e w2 hp; have HQ := Lib.hid (hp.mono H4.out); obtain ⟨rfl, -, -⟩ := hp))
  go_ret
  exact HQ.out

set_option maxRecDepth 100000 in
set_option maxHeartbeats 1000000 in
theorem wN_ok (b : Nat) (v : Value) (s : WS) (n : Int) (w : World) (h : WrAt w b v s) (h0 : 0 ≤ n) (h1 : n ≤ 9223372036854775807) :
    Calls Try.prog 97 #[.pointer (some ⟨b, 0, none⟩), .int .i64 n] w (WPost b v (s.add (Cod.enc n.toNat)) w) := by
  have H := Lib.hid h
  have HS := Lib.hid (wstate_ok b v s w h)
  obtain ⟨k, rfl⟩ : ∃ k : Nat, n = (k : Int) := ⟨n.toNat, by omega⟩
  have HU := Lib.hid (wU_ok b v s k w h (by omega))
  rw [Int.toNat_natCast]
  have w1' : IntKind.u64.wrap (k : Int) = (k : Int) := by simp [IntKind.wrap, IntKind.bits, IntKind.signed]; omega
  have d0 : decide ((0 : Int) ≤ (k : Int)) = true := by simp
  clear h
  by_cases he : s.err = 0
  · have d1 : (s.err != 0) = false := by simpa using he
    clear he
    go_enter Try.func97, Try.ntmps97
    go_wp2_with (first
      | (go_at_call 95; refine HS.out.mono ?_; rintro e w' ⟨rfl, rfl⟩)
      | (go_at_call 86; refine HU.out.mono ?_; rintro e w2 hp; have HQ := Lib.hid hp; obtain ⟨rfl, -, -⟩ := hp))
    go_ret
    exact HQ.out
  · have d1 : (s.err != 0) = true := by simpa using he
    clear he
    go_enter Try.func97, Try.ntmps97
    go_wp2_with (first
      | (go_at_call 95; refine HS.out.mono ?_; rintro e w' ⟨rfl, rfl⟩)
      | (go_at_call 86; refine HU.out.mono ?_; rintro e w2 hp; have HQ := Lib.hid hp; obtain ⟨rfl, -, -⟩ := hp))
    go_ret
    exact HQ.out

/-- The cells of an array, as a slice of bytes. -/
theorem bytes_of_block {w : World} {g : Nat} {l : List UInt8} {t : TypeId} {fr : Nat × Nat} (hg : w.heap[g]? = some (.cells (B l).toArray t fr)) (hl : l.length ≤ maxLen) : BytesAt w (.slice (some ⟨g, 0, none⟩) l.length l.length) l :=
  ⟨⟨_, _, rfl, Nat.le_refl _, hl, fun h => by cases h⟩, fun k x hk => ⟨g, 0, _, rfl, lt_of_block hg, by rw [Nat.zero_add]; exact (cell_of_row w g k _ _ _ hg).trans (by simpa using B_get l k x hk)⟩⟩

set_option maxRecDepth 100000 in
set_option maxHeartbeats 1000000 in
theorem wHash_ok (b : Nat) (v : Value) (s : WS) (l : List UInt8) (w : World) (h : WrAt w b v s) (hl : l.length = 32) :
    Calls Try.prog 99 #[.pointer (some ⟨b, 0, none⟩), .agg (B l).toArray] w (WPost b v (s.add l) w) := by
  have k0 : Keeps Nob w (w.alloc (.cells (B l).toArray 26)) := (Keeps.refl _ _).alloc _
  have hb := bytes_of_block (heap_alloc_new w (.cells (B l).toArray 26)) (by rw [hl]; decide)
  rw [hl] at hb
  have HA := Lib.hid (wadd_ok b v s _ l _ (h.keeps k0 (fun _ _ x => x)) hb (by omega))
  have K0 := Lib.hid k0
  obtain ⟨X, hX⟩ : ∃ X, (B l).toArray = X := ⟨_, rfl⟩
  rw [hX] at HA K0 ⊢
  clear h k0 hb hX hl
  go_enter Try.func99, Try.ntmps99
  go_wp2_with (go_at_call 100; refine HA.out.mono ?_; rintro e w2 hp; have HQ := Lib.hid (hp.mono K0.out); obtain ⟨rfl, -, -⟩ := hp)
  go_ret
  exact HQ.out

/-- Done: the bytes, or why none. -/
def DPost (s : WS) (w : World) (e : Ending) (w' : World) : Prop :=
  ∃ X, e = .returned (.tuple #[X, .int .i64 s.err]) ∧ (Row w' 5 1 X (if s.err = 0 then s.out else []).length (B (if s.err = 0 then s.out else [])) ∧ ∀ j, X.ownBlock = some j → w.heap.size ≤ j) ∧ Keeps Nob w w'
set_option maxRecDepth 100000 in
set_option maxHeartbeats 1000000 in
theorem wDone_ok (b : Nat) (v : Value) (s : WS) (w : World) (h : WrAt w b v s) :
    Calls Try.prog 82 #[.pointer (some ⟨b, 0, none⟩)] w (DPost s w) := by
  have HS := Lib.hid (wstate_ok b v s w h)
  have hf := h.fits
  have hl := h.l1
  have HC := Lib.hid (clone_ok v s.out w (Row.bytes h.row) (by omega))
  have c0 : w.cell? ⟨b, 0, none⟩ = some v := (cell_of_row w b 0 _ _ _ h.blk).trans rfl
  clear h
  by_cases he : s.err = 0
  · have d1 : (s.err != 0) = false := by simpa using he
    have HE := Lib.hid he
    clear he
    go_enter Try.func82, Try.ntmps82
    go_wp2_with (first
      | (go_at_call 95; refine HS.out.mono ?_; rintro e w' ⟨rfl, rfl⟩)
      | (go_at_call 69; refine HC.out.mono ?_; rintro e w1 ⟨X, rfl, h1, h2, h3⟩; have H1 := Lib.hid h1; have H2 := Lib.hid h2; have H3 := Lib.hid h3; clear h1 h2 h3))
    go_ret2
    exact ⟨X, by rw [HE.out]; rfl, ⟨by rw [if_pos HE.out]; exact H1.out, H2.out⟩, H3.out⟩
  · have d1 : (s.err != 0) = true := by simpa using he
    have HE := Lib.hid he
    clear he
    go_enter Try.func82, Try.ntmps82
    go_wp2_with (go_at_call 95; refine HS.out.mono ?_; rintro e w' ⟨rfl, rfl⟩)
    go_ret2
    exact ⟨_, rfl, ⟨by rw [if_neg HE.out]; exact ⟨rfl, .inl ⟨rfl, rfl⟩⟩, fun j hj => by cases hj⟩, Keeps.refl _ _⟩
end Go.Proofs.Ytenaakldccjnbaa
