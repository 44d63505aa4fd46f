import Derived.Test.YtkkecoodefjnbaaSpanJ
import Derived.Test.YtkkecoodefjnbaaOwnRow
namespace Go.Proofs.Ytkkecoodefjnbaa
open Go Go.RowKit Go.Own Go.Shelf

/-- The cells of a list of votes. -/
def flat2 (L : List (Int × Int)) : List Value := L.flatMap fun x => [.int .i64 x.1, .int .i64 x.2]
theorem flat2_len (L : List (Int × Int)) : (flat2 L).length = L.length * 2 := by induction L with | nil => rfl | cons x L ih => simp [flat2] at *; omega
theorem flat2_snoc (L : List (Int × Int)) (s t : Int) : flat2 (L ++ [(s, t)]) = flat2 L ++ [.int .i64 s, .int .i64 t] := by simp [flat2]
theorem flat2_get (L : List (Int × Int)) (k : Nat) (s t : Int) (h : L[k]? = some (s, t)) : (flat2 L)[k * 2]? = some (.int .i64 s) ∧ (flat2 L)[k * 2 + 1]? = some (.int .i64 t) := by
  induction L generalizing k with
  | nil => simp at h
  | cons x L ih =>
    cases k with
    | zero => simp at h; subst h; exact ⟨rfl, rfl⟩
    | succ k =>
      have := ih k (by simpa using h)
      rw [show (k + 1) * 2 = k * 2 + 2 by omega]
      exact this

/-- A span of the reference: its blocks M, its numbers, its votes. -/
structure RefSpan (w : World) (M : Nat → Prop) (b : Nat) (W E : Int) (L : List (Int × Int)) : Prop where
  shape : ∃ cs : Array Value, w.heap[b]? = some (.cells cs 53 (0, 0))
  cW : w.cell? ⟨b, 0, none⟩ = some (.int .i64 W)
  cE : w.cell? ⟨b, 1, none⟩ = some (.int .i64 E)
  row : ∃ v, w.cell? ⟨b, 2, none⟩ = some v ∧ w.ownsRow 0 40 2 v L.length (flat2 L) ∧ v.ownBlock ≠ some b ∧ ∀ k, v.ownBlock = some k → M k
  mb : M b
  ml : ∀ k, M k → k < w.heap.size
  w1 : 1 ≤ W
  w2 : W ≤ 256
  e1 : 0 ≤ E
  e2 : E ≤ 4294967296

theorem RefSpan.unfrozen {w : World} {M : Nat → Prop} {b : Nat} {W E : Int} {L : List (Int × Int)} (h : RefSpan w M b W E L) (o : Nat) : w.frozen? ⟨b, o, none⟩ = false := by
  obtain ⟨cs, h1⟩ := h.shape
  simp [World.frozen?, h1]
theorem ownsRow_heap {w w' : World} {base size n : Nat} {e : TypeId} {v : Value} {xs : List Value} (h : w.ownsRow base e size v n xs) (hk : ∀ k, v.ownBlock = some k → w'.heap[k]? = w.heap[k]?) : w'.ownsRow base e size v n xs := by
  obtain ⟨h1, h2⟩ := h
  refine ⟨h1, ?_⟩
  rcases h2 with h2 | ⟨g, cap, cur, rfl, hb, hg, r⟩
  · exact .inl h2
  · exact .inr ⟨g, cap, cur, rfl, hb, (hk g rfl).trans hg, r⟩
theorem RefSpan.of_keeps {w w' : World} {M M' : Nat → Prop} {b : Nat} {W E : Int} {L : List (Int × Int)} (h : RefSpan w M b W E L) (k : Keeps M' w w') (hd : ∀ j, M j → ¬ M' j) : RefSpan w' M b W E L := by
  obtain ⟨cs, hc⟩ := h.shape
  obtain ⟨v, c2, ho, hn, hm⟩ := h.row
  have hb := h.ml b h.mb
  have hnb := hd b h.mb
  exact ⟨⟨cs, (k.block b hb hnb).trans hc⟩, (k.cell hb hnb).trans h.cW, (k.cell hb hnb).trans h.cE, ⟨v, (k.cell hb hnb).trans c2, ownsRow_heap ho (fun j hj => k.block j (h.ml j (hm j hj)) (hd j (hm j hj))), hn, hm⟩, h.mb,
    fun j hj => Nat.lt_of_lt_of_le (h.ml j hj) k.size, h.w1, h.w2, h.e1, h.e2⟩

set_option maxHeartbeats 400000 in
theorem ref_low (b : Nat) (W E : Int) (w : World) (h : w.cell? ⟨b, 0, none⟩ = some (.int .i64 W)) (h1 : w.cell? ⟨b, 1, none⟩ = some (.int .i64 E))
   (w0 : 1 ≤ W) (w1 : W ≤ 256) (e0 : 0 ≤ E) (e1 : E ≤ 4294967296) :
    Calls Try.prog 28 #[.pointer (some ⟨b, 0, none⟩)] w fun e w' => e = .returned (.int .i64 (max 0 (E - W + 1))) ∧ w.drew = w' := by
  go_enter Try.func28, Try.ntmps28
  go_wp2
  go_region
  go_wp2
  all_goals (go_ret; exact ⟨ret_int (by omega), rfl⟩)

set_option maxHeartbeats 400000 in
theorem ref_new_no (n : Int) (w : World) (h : n < 1 ∨ 256 < n) :
    Calls Try.prog 21 #[.int .i64 n] w fun e w' => e = .returned (.tuple #[.pointer none, .int .i64 3]) ∧ w = w' := by
  rcases h with h | h
  · go_enter Try.func21, Try.ntmps21
    go_wp2
    go_ret2
    exact ⟨rfl, rfl⟩
  · have : ¬ n < 1 := by omega
    go_enter Try.func21, Try.ntmps21
    go_wp2
    go_ret2
    exact ⟨rfl, rfl⟩

set_option maxHeartbeats 400000 in
theorem ref_new (n : Int) (w : World) (h1 : 1 ≤ n) (h2 : n ≤ 256) :
    Calls Try.prog 21 #[.int .i64 n] w fun e w' => e = .returned (.tuple #[.pointer (some ⟨w.heap.size, 0, none⟩), .int .i64 0]) ∧ RefSpan w' (One w.heap.size) w.heap.size n 0 [] ∧ Keeps Nob w w' := by
  go_enter Try.func21, Try.ntmps21
  go_wp2
  go_ret2
  refine ⟨rfl, ⟨⟨_, World.alloc_heap_new w _⟩, ?_, ?_, ⟨.slice none 0 0, ?_, World.ownsRow_nil _ _ _ _, by simp [Value.ownBlock], fun k hk => by simp [Value.ownBlock] at hk⟩, rfl, fun k hk => by unfold Own.One at hk; simp; omega, h1, h2, by omega, by omega⟩, (Keeps.refl _ _).alloc _⟩
  all_goals (rw [World.cell?_alloc_at _ _ _ _ rfl]; rfl)

set_option maxHeartbeats 1000000 in
theorem ref_move (b : Nat) (W E e : Int) (w : World) (M : Nat → Prop) (L : List (Int × Int)) (h : RefSpan w M b W E L) :
    Calls Try.prog 23 #[.pointer (some ⟨b, 0, none⟩), .int .i64 e] w fun v w' => v = .returned (.int .i64 (moveErr E e)) ∧ RefSpan w' M b W (if moveErr E e = 0 then e else E) L ∧ Keeps M w w' := by
  have c0 := h.cW; have c1 := h.cE; have hf := h.unfrozen
  have H := Lib.hid h; clear h
  by_cases h1 : e < 0
  · have hm : moveErr E e = 3 := by simp [moveErr, h1]
    rw [hm]; clear hm
    go_enter Try.func23, Try.ntmps23
    go_wp2
    go_ret
    exact ⟨rfl, H.out, Keeps.refl _ _⟩
  by_cases h2 : 4294967296 < e
  · have hm : moveErr E e = 3 := by simp [moveErr, h2]
    rw [hm]; clear hm
    go_enter Try.func23, Try.ntmps23
    go_wp2
    go_ret
    exact ⟨rfl, H.out, Keeps.refl _ _⟩
  by_cases h3 : e < E
  · have hm : moveErr E e = 9 := by simp [moveErr, h1, h2, h3]
    rw [hm]; clear hm
    go_enter Try.func23, Try.ntmps23
    go_wp2
    go_ret
    exact ⟨rfl, H.out, Keeps.refl _ _⟩
  · have hm : moveErr E e = 0 := by simp [moveErr, h1, h2, h3]
    rw [hm, if_pos rfl]; clear hm
    go_enter Try.func23, Try.ntmps23
    go_wp2
    go_ret
    have h := H.out
    obtain ⟨cs, hc⟩ := h.shape
    obtain ⟨v, c2, ho, hn, hm⟩ := h.row
    refine ⟨rfl, ⟨⟨_, heap_setCell_same w b 1 cs _ _ hc⟩, ?_, World.cell?_setCell_same _ _ _ c1, ⟨v, ?_, ownsRow_setCell_other ho hn _, hn, hm⟩, h.mb, fun k hk => by simpa using h.ml k hk, h.w1, h.w2, by omega, by omega⟩,
      (Keeps.refl _ _).setCell (p := ⟨b, 1, none⟩) (fun _ => h.mb) _⟩
    · rw [World.cell?_setCell_other _ _ _ _ (by simp)]; exact c0
    · rw [World.cell?_setCell_other _ _ _ _ (by simp)]; exact c2

theorem info_arr : (Try.prog.info? 40).map (fun i => (i.zero, i.size, i.bytes)) = some (some (.agg #[.int .i64 0, .int .i64 0]), 2, 16) := by kernel_rfl

set_option maxHeartbeats 1000000 in
theorem ref_put_no (b : Nat) (W E s t : Int) (w : World) (M : Nat → Prop) (L : List (Int × Int)) (h : RefSpan w M b W E L) (hno : s < 0 ∨ t < s ∨ t < lowOf W E ∨ E < t) :
    Calls Try.prog 22 #[.pointer (some ⟨b, 0, none⟩), .int .i64 s, .int .i64 t] w fun v w' => v = .returned (.int .i64 (putErr W E s t)) ∧ Keeps Nob w w' := by
  have c0 := h.cW; have c1 := h.cE
  have w0 := h.w1; have w1 := h.w2; have e0 := h.e1; have e1 := h.e2
  clear h
  by_cases h1 : s < 0
  · have hp : putErr W E s t = 3 := by simp [putErr, h1]
    rw [hp]; clear hp
    go_enter Try.func22, Try.ntmps22
    go_wp2
    go_ret
    exact ⟨rfl, Keeps.refl _ _⟩
  by_cases h2 : t < s
  · have hp : putErr W E s t = 9 := by simp [putErr, h1, h2]
    rw [hp]; clear hp
    go_enter Try.func22, Try.ntmps22
    go_wp2
    go_ret
    exact ⟨rfl, Keeps.refl _ _⟩
  by_cases h3 : t < lowOf W E
  · have hp : putErr W E s t = 16 := by simp [putErr, h1, h2, h3]
    rw [hp]; clear hp
    unfold lowOf at h3
    go_enter Try.func22, Try.ntmps22
    go_wp2_with (go_at_call 28; refine (ref_low b W E _ c0 c1 w0 w1 e0 e1).mono ?_; rintro v V ⟨rfl, rfl⟩)
    go_ret
    exact ⟨rfl, (Keeps.refl _ _).drew⟩
  · have h4 : E < t := by omega
    have hp : putErr W E s t = 17 := by simp [putErr, h1, h2, h3, h4]
    rw [hp]; clear hp
    unfold lowOf at h3
    go_enter Try.func22, Try.ntmps22
    go_wp2_with (go_at_call 28; refine (ref_low b W E _ c0 c1 w0 w1 e0 e1).mono ?_; rintro v V ⟨rfl, rfl⟩)
    go_ret
    exact ⟨rfl, (Keeps.refl _ _).drew⟩

set_option maxHeartbeats 1000000 in
theorem ref_put_ok (b : Nat) (W E s t : Int) (w : World) (M : Nat → Prop) (L : List (Int × Int)) (h : RefSpan w M b W E L) (h1 : ¬ s < 0) (h2 : ¬ t < s) (h3 : ¬ t < lowOf W E) (h4 : ¬ E < t) (hL : L.length ≤ 1000000) :
    Calls Try.prog 22 #[.pointer (some ⟨b, 0, none⟩), .int .i64 s, .int .i64 t] w fun v w' => v = .returned (.int .i64 0) ∧
      RefSpan w' (fun k => M k ∨ w.heap.size ≤ k ∧ k < w'.heap.size) b W E (L ++ [(s, t)]) ∧ Keeps M w w' := by
  have c0 := h.cW; have c1 := h.cE; have hf := h.unfrozen
  have w0 := h.w1; have w1' := h.w2; have e0 := h.e1; have e1 := h.e2
  obtain ⟨v, c2, ho, hn, hm⟩ := h.row
  have H := Lib.hid h; clear h
  unfold lowOf at h3
  obtain ⟨i0, hi, hz0, hz1, hz2⟩ := info_parts info_arr
  have HO := Lib.hid ho; clear ho
  go_enter Try.func22, Try.ntmps22
  go_wp2_with (first
    | (go_at_call 28; refine (ref_low b W E _ c0 c1 w0 w1' e0 e1).mono ?_; rintro v V ⟨rfl, rfl⟩)
    | (at_builtin; refine own_append rfl _ _ 37 rfl 40 i0 _ 2 16 Try.underlying37 hi hz0 hz1 hz2 rfl (by decide) v L.length (flat2 L) rfl (HO.out.drew.alloc _) ⟨w.heap.size, 0, none⟩ 1 1 [.int .i64 s, .int .i64 t] rfl rfl ?c1 ?c2 ?c3 ?c4 ?_))
  case c1 =>
    intro j u hj
    match j, hj with
    | 0, hj => simp at hj; subst hj; exact (World.cell?_alloc_at _ _ _ _ rfl).trans rfl
    | 1, hj => simp at hj; subst hj; exact (World.cell?_alloc_at _ _ _ _ rfl).trans rfl
  case c2 =>
    intro u hu
    simp at hu
    rcases hu with rfl | rfl <;> rfl
  case c3 => unfold maxLen; omega
  case c4 => omega
  intro v' w1 hown hgrow _ hnew
  obtain ⟨g, cap, rfl⟩ := ownsRow_succ hown
  have hb : b < w.heap.size := World.block_lt_of_cell? w _ c0
  have hbk := hgrow.block b (by simp; omega) (fun e => hn e.symm)
  have hbk2 : w1.heap[b]? = w.heap[b]? := hbk.trans (Below.heap_alloc w _ b hb)
  have d0 := (World.cell?_of_block (w := w) (a := ⟨b, 0, none⟩) hbk2).trans c0
  have d1 := (World.cell?_of_block (w := w) (a := ⟨b, 1, none⟩) hbk2).trans c1
  have d2 := (World.cell?_of_block (w := w) (a := ⟨b, 2, none⟩) hbk2).trans c2
  have f2 := (World.frozen?_of_block (w := w) (a := ⟨b, 2, none⟩) hbk2).trans (hf 2)
  have hsz := hgrow.size
  simp at hsz
  have HG := Lib.hid hgrow; clear hgrow
  have HW := Lib.hid hown; clear hown
  have HB := Lib.hid hbk2; clear hbk hbk2
  have HN := Lib.hid hnew; clear hnew
  go_wp2
  go_ret
  have hlt : g < w1.heap.size := HW.out.lt rfl
  have hgM : M g ∧ g ≠ b ∨ w.heap.size ≤ g := by
    rcases HN.out g rfl with h' | h'
    · exact .inl ⟨hm g h', fun e => hn (e ▸ h')⟩
    · exact .inr (by have := h'.1; omega)
  have hgb : g ≠ b := by
    rcases hgM with h' | h'
    · exact h'.2
    · omega
  have hg1 := HG.out
  have h := H.out
  obtain ⟨cs, hcs⟩ := h.shape
  have hcs1 : w1.heap[b]? = some (.cells cs 53 (0, 0)) := HB.out.trans hcs
  have hk1 : Keeps M w w1 := ((Keeps.refl M w).alloc _).drew.grown hg1 (fun k e _ => hm k e)
  refine ⟨rfl, ⟨⟨_, heap_setCell_same w1 b 2 cs _ _ hcs1⟩, ?_, ?_, ⟨_, World.cell?_setCell_same _ _ _ d2, ?_, ?_, ?_⟩, .inl h.mb, ?_, w0, w1', e0, e1⟩, hk1.setCell (p := ⟨b, 2, none⟩) (fun _ => h.mb) _⟩
  · rw [World.cell?_setCell_other _ _ _ _ (by simp)]; exact d0
  · rw [World.cell?_setCell_other _ _ _ _ (by simp)]; exact d1
  · rw [flat2_snoc, List.length_append]
    exact ownsRow_setCell_other HW.out (by simp [Value.ownBlock]; exact hgb) _
  · simp [Value.ownBlock]; exact hgb
  · intro k hk
    simp [Value.ownBlock] at hk
    subst hk
    simp
    rcases hgM with h' | h'
    · exact .inl h'.1
    · exact .inr ⟨h', hlt⟩
  · intro k hk
    simp at hk ⊢
    rcases hk with hk | hk
    · have := h.ml k hk; omega
    · exact hk.2
end Go.Proofs.Ytkkecoodefjnbaa
