/-
  Codec: a writer in memory; what it takes, and what it tells. Conditions: none.
  Codec: what a writer takes, and what it tells. Conditions: none.
-/
import Derived.Test.YtmapcghgdbfmhaaCat
import Derived.Test.YtmapcghgdbfmhaaCodC
import Derived.Test.YtmapcghgdbfmhaaCodI
import Derived.Deep.MidRow
namespace Go.Proofs.Ytmapcghgdbfmhaa
open Go Go.RowKit Go.Own Go.Shelf

/-- A writer's state: its limit, its bytes, its error. -/
structure WS where
  lim : Int
  out : List UInt8
  err : Int
def WS.add (s : WS) (bs : List UInt8) : WS := if s.err = 0 then (if s.lim - s.out.length < bs.length then { s with err := 4 } else { s with out := s.out ++ bs }) else s
structure WrAt (w : World) (b : Nat) (v : Value) (s : WS) : Prop where
  blk : w.heap[b]? = some (.cells #[v, .int .i64 s.lim, .bool true, .int .i64 s.err] 119 (0, 0))
  row : Row w 5 1 v s.out.length (B s.out)
  own : v.ownBlock ≠ some b
  l0 : 0 ≤ s.lim
  l1 : s.lim ≤ 1048576
  fits : (s.out.length : Int) ≤ s.lim
/-- Its blocks. -/
def WBlk (b : Nat) (v : Value) : Nat → Prop := fun j => j = b ∨ v.ownBlock = some j
theorem WrAt.lt {w : World} {b : Nat} {v : Value} {s : WS} (h : WrAt w b v s) : b < w.heap.size := lt_of_block h.blk
theorem WrAt.blk_lt {w : World} {b : Nat} {v : Value} {s : WS} (h : WrAt w b v s) : ∀ j, WBlk b v j → j < w.heap.size := fun j hj => by
  rcases hj with rfl | hj
  · exact h.lt
  · exact h.row.lt hj
theorem WrAt.keeps {w w' : World} {M : Nat → Prop} {b : Nat} {v : Value} {s : WS} (h : WrAt w b v s) (k : Keeps M w w') (hm : ∀ j, WBlk b v j → ¬ M j) : WrAt w' b v s :=
  ⟨(k.block b h.lt (hm b (.inl rfl))).trans h.blk, h.row.keeps k (fun j hj => hm j (.inr hj)), h.own, h.l0, h.l1, h.fits⟩

set_option maxRecDepth 100000 in
set_option maxHeartbeats 1000000 in
theorem wstate_ok (b : Nat) (v : Value) (s : WS) (w : World) (h : WrAt w b v s) :
    Calls Try.prog 71 #[.pointer (some ⟨b, 0, none⟩)] w fun e w' => e = .returned (.int .i64 s.err) ∧ w = w' := by
  have c2 : w.cell? ⟨b, 2, none⟩ = some (.bool true) := (cell_of_row w b 2 _ _ _ h.blk).trans rfl
  have c3 : w.cell? ⟨b, 3, none⟩ = some (.int .i64 s.err) := (cell_of_row w b 3 _ _ _ h.blk).trans rfl
  clear h
  go_enter Try.func71, Try.ntmps71
  go_wp2
  go_ret
  exact ⟨rfl, rfl⟩

set_option maxRecDepth 100000 in
set_option maxHeartbeats 1000000 in
theorem newWriter_ok (lim : Int) (w : World) (h0 : 0 ≤ lim) (h1 : lim ≤ 1048576) :
    Calls Try.prog 47 #[.int .i64 lim] w fun e w' => ∃ b, e = .returned (.tuple #[.pointer (some ⟨b, 0, none⟩), .int .i64 0]) ∧ WrAt w' b (.slice none 0 0) ⟨lim, [], 0⟩ ∧ w.heap.size ≤ b ∧ Keeps Nob w w' := by
  have d0 : decide (lim < 0) = false := by simpa using h0
  have d1 : decide (1048576 < lim) = false := by simpa using h1
  go_enter Try.func47, Try.ntmps47
  go_wp2
  go_ret2
  exact ⟨_, rfl, ⟨heap_alloc_new _ _, ⟨rfl, .inl ⟨rfl, rfl⟩⟩, by simp [Value.ownBlock], h0, h1, by simpa using h0⟩, Nat.le_refl _, (Keeps.refl _ _).alloc _⟩

/-- What a step leaves of a writer. -/
def WPost (b : Nat) (v : Value) (s : WS) (w : World) (e : Ending) (w' : World) : Prop :=
  e = .returned (.int .i64 s.err) ∧ (∃ v', WrAt w' b v' s ∧ ∀ j, v'.ownBlock = some j → v.ownBlock = some j ∨ w.heap.size ≤ j) ∧ Keeps (WBlk b v) w w'

set_option maxRecDepth 100000 in
set_option maxHeartbeats 4000000 in
theorem wadd_ok (b : Nat) (v : Value) (s : WS) (x : Value) (bs : List UInt8) (w : World) (h : WrAt w b v s) (hx : BytesAt w x bs) (hl : bs.length ≤ 10000000) :
    Calls Try.prog 81 #[.pointer (some ⟨b, 0, none⟩), x] w (WPost b v (s.add bs) w) := by
  have HS := Lib.hid (wstate_ok b v s w h)
  have H := Lib.hid h
  obtain ⟨A, cap, rfl⟩ := hx.len
  obtain ⟨Av, cv, rfl⟩ := (Row.bytes h.row).len
  have c0 : w.cell? ⟨b, 0, none⟩ = some (.slice Av s.out.length cv) := (cell_of_row w b 0 _ _ _ h.blk).trans rfl
  have c1 : w.cell? ⟨b, 1, none⟩ = some (.int .i64 s.lim) := (cell_of_row w b 1 _ _ _ h.blk).trans rfl
  have c3 : w.cell? ⟨b, 3, none⟩ = some (.int .i64 s.err) := (cell_of_row w b 3 _ _ _ h.blk).trans rfl
  have f3 : w.frozen? ⟨b, 3, none⟩ = false := frozen_of_row w b 3 _ _ h.blk
  have hlt := h.lt
  have l0 := h.l0
  have l1 := h.l1
  have hfit := h.fits
  have HX := Lib.hid hx
  clear h hx
  by_cases h0 : s.err = 0
  · have d0 : (s.err != 0) = false := by simpa using h0
    have ew : IntKind.i64.wrap (s.lim - (s.out.length : Int)) = s.lim - (s.out.length : Int) := by rw [IntKind.wrap_i64]; omega
    by_cases h1 : s.lim - (s.out.length : Int) < (bs.length : Int)
    · have e1 : s.add bs = { s with err := 4 } := by unfold WS.add; rw [if_pos h0, if_pos h1]
      rw [e1]
      have d1 : decide (s.lim - (s.out.length : Int) < (bs.length : Int)) = true := by simpa using h1
      clear e1 h0
      go_enter Try.func81, Try.ntmps81
      go_wp2_with (go_at_call 71; refine HS.out.mono ?_; rintro e w' ⟨rfl, rfl⟩)
      go_quiet (fail)
      revert nq; intro n1
      go_wp2
      go_ret
      have hb2 := heap_setCell_same (w.drewN n1) b 3 _ _ (.int .i64 4) H.out.blk
      have hk : Keeps (One b) w ((w.drewN n1).setCell ⟨b, 3, none⟩ (.int .i64 4)) := ((Keeps.refl _ _).drewN n1).setOne _
      exact ⟨rfl, ⟨_, ⟨hb2, H.out.row.keeps hk (fun j hj (e : j = b) => H.out.own (by rw [hj, e])), H.out.own, l0, l1, hfit⟩, fun j hj => .inl hj⟩, hk.mono (fun _ _ e => .inl e)⟩
    · have e1 : s.add bs = { s with out := s.out ++ bs } := by unfold WS.add; rw [if_pos h0, if_neg h1]
      rw [e1]
      have d1 : decide (s.lim - (s.out.length : Int) < (bs.length : Int)) = false := by simpa using h1
      obtain ⟨i0, hi, hz0, hz1, hz2⟩ := info_parts u8_info0
      have HI := Lib.hid hi
      have HZ0 := Lib.hid hz0
      have HZ1 := Lib.hid hz1
      have HZ2 := Lib.hid hz2
      have H0 := Lib.hid h0
      clear e1 h0 hi hz0 hz1 hz2
      go_enter Try.func81, Try.ntmps81
      go_wp2_with (go_at_call 71; refine HS.out.mono ?_; rintro e w' ⟨rfl, rfl⟩)
      go_quiet (fail)
      revert nq; intro n1
      have kd : Hid (Keeps Nob w (w.drewN n1)) := Lib.hid ((Keeps.refl _ _).drewN n1)
      have HR1 := Lib.hid (H.out.row.keeps kd.out (fun _ _ x => x))
      have HS1 := Lib.hid (HX.out.keepsN kd.out).src
      go_wp2_with (at_builtin; refine own_append2 rfl _ _ 22 rfl 5 i0 (.int .u8 0) 1 1 Try.underlying22 HI.out HZ0.out HZ1.out HZ2.out rfl (by decide) _ _ _ rfl HR1.out (.slice A bs.length cap) bs.length (B bs) rfl HS1.out (len_small _ _ (by omega)) (len_bytes _ _ (by omega)) ?_; intro v' w1 hown' hgrow hnil hat; rw [← B_append, ← List.length_append] at hown'; obtain ⟨Av', cv', hv'⟩ := (Row.bytes hown').len; subst hv'; have hk1 : Keeps (fun j => (Value.slice Av s.out.length cv).ownBlock = some j) (w.drewN n1) w1 := (Keeps.refl _ _).grown hgrow (fun j hj _ => hj); have hb1 := (hk1.block b hlt (fun e => H.out.own e)).trans H.out.blk; have q0 : w1.cell? ⟨b, 0, none⟩ = some (.slice Av s.out.length cv) := (cell_of_row w1 b 0 _ _ _ hb1).trans rfl; have q1 : w1.frozen? ⟨b, 0, none⟩ = false := frozen_of_row w1 b 0 _ _ hb1; have H1 := Lib.hid hown'; have H3 := Lib.hid hat; have HB := Lib.hid hb1; have HK := Lib.hid hk1; clear hown' hnil hat hgrow hb1 hk1)
      go_ret
      obtain ⟨v', hv'⟩ : ∃ v', (Value.slice Av' (s.out.length + bs.length) cv') = v' := ⟨_, rfl⟩
      rw [List.length_append, hv'] at H1 H3
      rw [hv']
      have hb2 := heap_setCell_same w1 b 0 _ _ v' HB.out
      have hkS : Keeps (One b) w1 (w1.setCell ⟨b, 0, none⟩ v') := (Keeps.refl _ _).setOne _
      have hown : ∀ j, v'.ownBlock = some j → (Value.slice Av s.out.length cv).ownBlock = some j ∨ w.heap.size ≤ j := fun j hj => by
        rcases H3.out j hj with h | ⟨h, _⟩
        · exact .inl h
        · simp at h; exact .inr (by omega)
      have hvb : v'.ownBlock ≠ some b := fun hj => by
        rcases hown b hj with h | h
        · exact H.out.own h
        · omega
      refine ⟨by show Ending.returned (.int .i64 0) = .returned (.int .i64 s.err); rw [H0.out], ⟨v', ⟨hb2, ?_, hvb, l0, l1, by simp; omega⟩, hown⟩, (((Keeps.refl _ w).drewN n1).trans (HK.out.mono (fun _ _ e => .inr e))).trans (hkS.mono (fun _ _ e => .inl e))⟩
      rw [← List.length_append] at H1
      exact H1.out.keeps hkS (fun j hj (e : j = b) => hvb (by rw [hj, e]))
  · have e1 : s.add bs = s := by unfold WS.add; rw [if_neg h0]
    rw [e1]
    have d0 : (s.err != 0) = true := by simpa using h0
    clear h0 e1
    go_enter Try.func81, Try.ntmps81
    go_wp2_with (go_at_call 71; refine HS.out.mono ?_; rintro e w' ⟨rfl, rfl⟩)
    go_ret
    exact ⟨rfl, ⟨_, H.out, fun j hj => .inl hj⟩, Keeps.refl _ _⟩
end Go.Proofs.Ytmapcghgdbfmhaa
namespace Go.Proofs.Ytmapcghgdbfmhaa
open Go Go.RowKit Go.Own Go.Shelf

theorem WPost.mono {b : Nat} {v : Value} {s : WS} {w w0 : World} {e : Ending} {w' : World} (h : WPost b v s w e w') (k : Keeps Nob w0 w) : WPost b v s w0 e w' := by
  obtain ⟨h1, ⟨v', h2, h3⟩, h4⟩ := h
  refine ⟨h1, ⟨v', h2, fun j hj => ?_⟩, (k.mono (fun _ _ x => x.elim)).trans h4⟩
  rcases h3 j hj with h | h
  · exact .inl h
  · exact .inr (Nat.le_trans k.size h)

set_option maxRecDepth 100000 in
set_option maxHeartbeats 1000000 in
theorem wU_ok (b : Nat) (v : Value) (s : WS) (n : Nat) (w : World) (h : WrAt w b v s) (hn : n < 2 ^ 64) :
    Calls Try.prog 72 #[.pointer (some ⟨b, 0, none⟩), .int .u64 (n : Int)] w (WPost b v (s.add (Cod.enc n)) w) := by
  have H := Lib.hid h
  have HP := Lib.hid (cPut_ok n hn w)
  clear h hn
  go_enter Try.func72, Try.ntmps72
  go_wp2_with (first
    | (go_at_call 83; refine HP.out.mono ?_; rintro e w1 ⟨x, rfl, h1, h2, h3, h4⟩; have H1 := Lib.hid h1; have H4 := Lib.hid h4; clear h1 h2 h3 h4)
    | (go_at_call 81; refine (wadd_ok b v s x (Cod.enc n) w1 (H.out.keeps H4.out (fun _ _ x => x)) (Row.bytes H1.out) (by have := Cod.enc_length n; omega)).mono ?_; rintro e w2 hp; have HQ := Lib.hid (hp.mono H4.out); obtain ⟨rfl, -, -⟩ := hp))
  go_ret
  exact HQ.out

set_option maxRecDepth 100000 in
set_option maxHeartbeats 1000000 in
theorem wN_ok (b : Nat) (v : Value) (s : WS) (n : Int) (w : World) (h : WrAt w b v s) (h0 : 0 ≤ n) (h1 : n ≤ 9223372036854775807) :
    Calls Try.prog 48 #[.pointer (some ⟨b, 0, none⟩), .int .i64 n] w (WPost b v (s.add (Cod.enc n.toNat)) w) := by
  have H := Lib.hid h
  have HS := Lib.hid (wstate_ok b v s w h)
  obtain ⟨k, rfl⟩ : ∃ k : Nat, n = (k : Int) := ⟨n.toNat, by omega⟩
  have HU := Lib.hid (wU_ok b v s k w h (by omega))
  rw [Int.toNat_natCast]
  have w1' : IntKind.u64.wrap (k : Int) = (k : Int) := by simp [IntKind.wrap, IntKind.bits, IntKind.signed]; omega
  have d0 : decide ((0 : Int) ≤ (k : Int)) = true := by simp
  clear h
  by_cases he : s.err = 0
  · have d1 : (s.err != 0) = false := by simpa using he
    clear he
    go_enter Try.func48, Try.ntmps48
    go_wp2_with (first
      | (go_at_call 71; refine HS.out.mono ?_; rintro e w' ⟨rfl, rfl⟩)
      | (go_at_call 72; refine HU.out.mono ?_; rintro e w2 hp; have HQ := Lib.hid hp; obtain ⟨rfl, -, -⟩ := hp))
    go_ret
    exact HQ.out
  · have d1 : (s.err != 0) = true := by simpa using he
    clear he
    go_enter Try.func48, Try.ntmps48
    go_wp2_with (first
      | (go_at_call 71; refine HS.out.mono ?_; rintro e w' ⟨rfl, rfl⟩)
      | (go_at_call 72; refine HU.out.mono ?_; rintro e w2 hp; have HQ := Lib.hid hp; obtain ⟨rfl, -, -⟩ := hp))
    go_ret
    exact HQ.out

/-- The cells of an array, as a slice of bytes. -/
theorem bytes_of_block {w : World} {g : Nat} {l : List UInt8} {t : TypeId} {fr : Nat × Nat} (hg : w.heap[g]? = some (.cells (B l).toArray t fr)) (hl : l.length ≤ maxLen) : BytesAt w (.slice (some ⟨g, 0, none⟩) l.length l.length) l :=
  ⟨⟨_, _, rfl, Nat.le_refl _, hl, fun h => by cases h⟩, fun k x hk => ⟨g, 0, _, rfl, lt_of_block hg, by rw [Nat.zero_add]; exact (cell_of_row w g k _ _ _ hg).trans (by simpa using B_get l k x hk)⟩⟩

set_option maxRecDepth 100000 in
set_option maxHeartbeats 1000000 in
theorem wHash_ok (b : Nat) (v : Value) (s : WS) (l : List UInt8) (w : World) (h : WrAt w b v s) (hl : l.length = 32) :
    Calls Try.prog 147 #[.pointer (some ⟨b, 0, none⟩), .agg (B l).toArray] w (WPost b v (s.add l) w) := by
  have k0 : Keeps Nob w (w.alloc (.cells (B l).toArray 29)) := (Keeps.refl _ _).alloc _
  have hb := bytes_of_block (heap_alloc_new w (.cells (B l).toArray 29)) (by rw [hl]; decide)
  rw [hl] at hb
  have HA := Lib.hid (wadd_ok b v s _ l _ (h.keeps k0 (fun _ _ x => x)) hb (by omega))
  have K0 := Lib.hid k0
  obtain ⟨X, hX⟩ : ∃ X, (B l).toArray = X := ⟨_, rfl⟩
  rw [hX] at HA K0 ⊢
  clear h k0 hb hX hl
  go_enter Try.func147, Try.ntmps147
  go_wp2_with (go_at_call 81; refine HA.out.mono ?_; rintro e w2 hp; have HQ := Lib.hid (hp.mono K0.out); obtain ⟨rfl, -, -⟩ := hp)
  go_ret
  exact HQ.out

set_option maxRecDepth 100000 in
set_option maxHeartbeats 2000000 in
theorem wBlob_ok (b : Nat) (v : Value) (s : WS) (x : Value) (l : List UInt8) (w : World) (h : WrAt w b v s) (hx : BytesAt w x l) (hl : l.length ≤ 9000000) :
    Calls Try.prog 57 #[.pointer (some ⟨b, 0, none⟩), x] w (WPost b v (s.add (Cod.enc l.length ++ l)) w) := by
  have H := Lib.hid h
  obtain ⟨A, cap, rfl⟩ := hx.len
  have HX := Lib.hid hx
  have HP := Lib.hid (cPut_ok l.length (by omega) w)
  have w1' : IntKind.u64.wrap (l.length : Int) = (l.length : Int) := by simp [IntKind.wrap, IntKind.bits, IntKind.signed]; omega
  have hel := Cod.enc_length l.length
  generalize Cod.enc l.length = en at *
  clear h hx
  go_enter Try.func57, Try.ntmps57
  go_wp2_with (first
    | (go_at_call 83; refine HP.out.mono ?_; rintro e w1 ⟨p, rfl, h1, h2, h3, h4⟩; obtain ⟨Ap, cp, rfl⟩ := (Row.bytes h1).len; have H1 := Lib.hid h1; have H4 := Lib.hid h4; clear h1 h2 h3 h4)
    | (go_at_call 82; have hg := heap_alloc_new w1 (.cells #[.slice Ap en.length cp, .slice A l.length cap] 22); refine (concat_ok w1.heap.size (.slice Ap en.length cp) (.slice A l.length cap) en l _ ⟨(cell_of_row _ _ 0 _ _ _ hg).trans rfl, (cell_of_row _ _ 1 _ _ _ hg).trans rfl, (Row.bytes H1.out).keepsN ((Keeps.refl _ _).alloc _), HX.out.keepsN (H4.out.trans ((Keeps.refl _ _).alloc _))⟩ (by omega) (by omega)).mono ?_; clear hg; rintro e w2 ⟨y, rfl, h1, h2, h3⟩; have H5 := Lib.hid h1; have H6 : Hid (Keeps Nob w w2) := Lib.hid (H4.out.trans (((Keeps.refl _ _).alloc _).trans h3)); clear h1 h2 h3)
    | (go_at_call 81; refine (wadd_ok b v s y (en ++ l) w2 (H.out.keeps H6.out (fun _ _ x => x)) (Row.bytes H5.out) (by rw [List.length_append]; omega)).mono ?_; rintro e w3 hp; have HQ := Lib.hid (hp.mono H6.out); obtain ⟨rfl, -, -⟩ := hp))
  go_ret
  exact HQ.out

/-- Done: the bytes, or why none. -/
def DPost (s : WS) (w : World) (e : Ending) (w' : World) : Prop :=
  ∃ X, e = .returned (.tuple #[X, .int .i64 s.err]) ∧ (Row w' 5 1 X (if s.err = 0 then s.out else []).length (B (if s.err = 0 then s.out else [])) ∧ ∀ j, X.ownBlock = some j → w.heap.size ≤ j) ∧ Keeps Nob w w'
set_option maxRecDepth 100000 in
set_option maxHeartbeats 1000000 in
theorem wDone_ok (b : Nat) (v : Value) (s : WS) (w : World) (h : WrAt w b v s) :
    Calls Try.prog 49 #[.pointer (some ⟨b, 0, none⟩)] w (DPost s w) := by
  have HS := Lib.hid (wstate_ok b v s w h)
  have hf := h.fits
  have hl := h.l1
  have HC := Lib.hid (clone_ok v s.out w (Row.bytes h.row) (by omega))
  have c0 : w.cell? ⟨b, 0, none⟩ = some v := (cell_of_row w b 0 _ _ _ h.blk).trans rfl
  clear h
  by_cases he : s.err = 0
  · have d1 : (s.err != 0) = false := by simpa using he
    have HE := Lib.hid he
    clear he
    go_enter Try.func49, Try.ntmps49
    go_wp2_with (first
      | (go_at_call 71; refine HS.out.mono ?_; rintro e w' ⟨rfl, rfl⟩)
      | (go_at_call 60; refine HC.out.mono ?_; rintro e w1 ⟨X, rfl, h1, h2, h3⟩; have H1 := Lib.hid h1; have H2 := Lib.hid h2; have H3 := Lib.hid h3; clear h1 h2 h3))
    go_ret2
    exact ⟨X, by rw [HE.out]; rfl, ⟨by rw [if_pos HE.out]; exact H1.out, H2.out⟩, H3.out⟩
  · have d1 : (s.err != 0) = true := by simpa using he
    have HE := Lib.hid he
    clear he
    go_enter Try.func49, Try.ntmps49
    go_wp2_with (go_at_call 71; refine HS.out.mono ?_; rintro e w' ⟨rfl, rfl⟩)
    go_ret2
    exact ⟨_, rfl, ⟨by rw [if_neg HE.out]; exact ⟨rfl, .inl ⟨rfl, rfl⟩⟩, fun j hj => by cases hj⟩, Keeps.refl _ _⟩
end Go.Proofs.Ytmapcghgdbfmhaa
