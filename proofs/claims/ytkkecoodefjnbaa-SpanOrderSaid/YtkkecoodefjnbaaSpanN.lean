import Derived.Test.YtkkecoodefjnbaaSpanM
import Derived.Test.YtkkecoodefjnbaaSpanU
import Derived.Test.YtkkecoodefjnbaaKit
import Derived.Test.YtkkecoodefjnbaaLaw
import Derived.Test.YtkkecoodefjnbaaOwnRow
import Derived.Deep.LoopGhost
namespace Go.Proofs.Ytkkecoodefjnbaa
open Go Go.RowKit Go.Own Go.Shelf

/-- A span that was played, with its votes. -/
structure PlayedAt (w : World) (FP M : Nat → Prop) (bp b : Nat) (W E : Int) (L : List (Int × Int)) : Prop where
  sp : SpanView w FP b W E (viewOf L)
  shape : ∃ cs : Array Value, w.heap[bp]? = some (.cells cs 39 (0, 0))
  c0 : w.cell? ⟨bp, 0, none⟩ = some (.pointer (some ⟨b, 0, none⟩))
  row : ∃ v, w.cell? ⟨bp, 1, none⟩ = some v ∧ Row w 40 2 v L.length (flat2 L) ∧ v.ownBlock ≠ some bp ∧ ∀ k, v.ownBlock = some k → M k
  mp : M bp
  mb : ¬ M b
  fm : ∀ j, FP j → ¬ M j
  ml : ∀ k, M k → k < w.heap.size
  top : ∀ v ∈ L, v.1 ≤ v.2 ∧ v.2 ≤ E
  fit : Fit L

theorem PlayedAt.unfrozen {w : World} {FP M : Nat → Prop} {bp b : Nat} {W E : Int} {L : List (Int × Int)} (h : PlayedAt w FP M bp b W E L) (o : Nat) : w.frozen? ⟨bp, o, none⟩ = false := by
  obtain ⟨cs, h1⟩ := h.shape
  simp [World.frozen?, h1]

/-- Behind a step that turns the span alone, or neither. -/
theorem PlayedAt.left {w w' : World} {FP M : Nat → Prop} {bp b : Nat} {W E E' : Int} {L : List (Int × Int)} (h : PlayedAt w FP M bp b W E L) (hs : SpanView w' FP b W E' (viewOf L)) (k : Keeps (Own.One b) w w') (hE : E ≤ E') : PlayedAt w' FP M bp b W E' L := by
  obtain ⟨cs, hc⟩ := h.shape
  obtain ⟨v, p1, p2, p3, p4⟩ := h.row
  have hb := h.ml bp h.mp
  have hne : ∀ j, M j → ¬ Own.One b j := fun j hj e => h.mb (by unfold Own.One at e; exact e ▸ hj)
  exact ⟨hs, ⟨cs, (k.block bp hb (hne bp h.mp)).trans hc⟩, (k.cell hb (hne bp h.mp)).trans h.c0, ⟨v, (k.cell hb (hne bp h.mp)).trans p1, p2.keeps k (fun j hj => hne j (p4 j hj)), p3, p4⟩, h.mp, h.mb, h.fm,
    fun j hj => Nat.lt_of_lt_of_le (h.ml j hj) k.size, fun v hv => by have := h.top v hv; omega, h.fit⟩
theorem PlayedAt.keep {w w' : World} {FP M : Nat → Prop} {bp b : Nat} {W E : Int} {L : List (Int × Int)} (h : PlayedAt w FP M bp b W E L) (k : Keeps Nob w w') : PlayedAt w' FP M bp b W E L :=
  h.left (h.sp.of_keeps k (fun x => x) (fun _ _ x => x) (fun _ x => x) h.sp.nb (fun j hj => Nat.lt_of_lt_of_le (h.sp.fp j hj) k.size)) (k.mono (fun _ _ x => x.elim)) (Int.le_refl _)

theorem viewOf_snoc' (L : List (Int × Int)) (s t : Int) : (fun e => putAt s t e (viewOf L e)) = viewOf (L ++ [(s, t)]) := by funext e; rw [viewOf_snoc]

/-- A vote has been put, and appended to the list. -/
theorem PlayedAt.put {w V V1 V2 : World} {FP M : Nat → Prop} {bp b g cap : Nat} {W E s t : Int} {L : List (Int × Int)} {v : Value} (h : PlayedAt V FP M bp b W E L) (hst : 0 ≤ s ∧ s ≤ t ∧ t ≤ E)
    (hsp : SpanView V1 (fun j => FP j ∨ j = V.heap.size + 1 + 1) b W E (fun e => putAt s t e (viewOf L e))) (h1 : Keeps (Own.One b) V V1)
    (hv : V1.cell? ⟨bp, 1, none⟩ = some v) (hvb : v.ownBlock ≠ some bp) (hvM : ∀ k, v.ownBlock = some k → M k)
    (hown : Row V2 40 2 (.slice (some ⟨g, 0, none⟩) (L.length + 1) cap) (L.length + 1) (flat2 L ++ [.int .i64 s, .int .i64 t]))
    (hg : (V1.alloc (.cells #[.int .i64 s, .int .i64 t] 40)).grownBy V2 v.ownBlock) (hnew : v.ownBlock = some g ∨ V1.heap.size ≤ g) (hM0 : ∀ j, M j → w.heap.size ≤ j) (hw : Keeps Nob w V) (hb : w.heap.size ≤ b) :
    ∃ M', PlayedAt (V2.setCell ⟨bp, 1, none⟩ (.slice (some ⟨g, 0, none⟩) (L.length + 1) cap)) (fun j => FP j ∨ j = V.heap.size + 1 + 1) M' bp b W E (L ++ [(s, t)]) ∧
      Keeps Nob w (V2.setCell ⟨bp, 1, none⟩ (.slice (some ⟨g, 0, none⟩) (L.length + 1) cap)) ∧ ∀ j, M' j → w.heap.size ≤ j := by
  have s1 := h1.size
  have hk2 : Keeps M V1 V2 := ((Keeps.refl M V1).alloc _).grown hg (fun k e _ => hvM k e)
  have s2 := hk2.size
  have hs0 := hw.size
  have hbp := h.ml bp h.mp
  have hbpne : bp ≠ b := fun e => h.mb (e ▸ h.mp)
  have hne : ∀ j, M j → ¬ Own.One b j := fun j hj e => h.mb (by unfold Own.One at e; exact e ▸ hj)
  have hgl : g < V2.heap.size := hown.lt rfl
  have hgM : M g ∧ g ≠ bp ∨ V1.heap.size ≤ g := by
    rcases hnew with e | e
    · exact .inl ⟨hvM g e, fun x => hvb (by rw [e, x])⟩
    · exact .inr e
  have hgbp : g ≠ bp := by
    rcases hgM with e | e
    · exact e.2
    · omega
  have hblk : V2.heap[bp]? = V1.heap[bp]? := (hg.block bp (by simp; omega) (fun e => hvb e.symm)).trans (Below.heap_alloc V1 _ bp (by omega))
  obtain ⟨cs, hcs⟩ := h.shape
  have hcs2 : V2.heap[bp]? = some (.cells cs 39 (0, 0)) := hblk.trans ((h1.block bp hbp (hne bp h.mp)).trans hcs)
  have hc0 : V2.cell? ⟨bp, 0, none⟩ = some (.pointer (some ⟨b, 0, none⟩)) := (World.cell?_of_block (w := V1) (a := ⟨bp, 0, none⟩) hblk).trans ((h1.cell hbp (hne bp h.mp)).trans h.c0)
  have hc1 : V2.cell? ⟨bp, 1, none⟩ = some v := (World.cell?_of_block (w := V1) (a := ⟨bp, 1, none⟩) hblk).trans hv
  have hset : Keeps M V1 (V2.setCell ⟨bp, 1, none⟩ (.slice (some ⟨g, 0, none⟩) (L.length + 1) cap)) := hk2.setCell (p := ⟨bp, 1, none⟩) (fun _ => h.mp) _
  have hfm : ∀ j, (FP j ∨ j = V.heap.size + 1 + 1) → ¬ M j := fun j hj hm => hj.elim (fun x => h.fm j x hm) (fun x => by have := h.ml j hm; omega)
  rw [viewOf_snoc'] at hsp
  have hfp := hsp.fp
  have hbl : b < V.heap.size := h.sp.cells.2.2.2.1
  refine ⟨fun k => M k ∨ V1.heap.size ≤ k ∧ k < V2.heap.size, ⟨hsp.of_keeps hset h.mb hfm (fun _ x => x) hsp.nb (fun j hj => Nat.lt_of_lt_of_le (hfp j hj) (by simp; omega)), ⟨_, heap_setCell_same V2 bp 1 cs _ _ hcs2⟩, ?_, ⟨_, World.cell?_setCell_same _ _ _ hc1, ?_, ?_, ?_⟩, .inl h.mp, ?_, ?_, ?_, ?_, ?_⟩, ?_, ?_⟩
  · rw [World.cell?_setCell_other _ _ _ _ (by simp)]; exact hc0
  · rw [flat2_snoc, List.length_append]
    exact ownsRow_setCell_other hown (by simp [Value.ownBlock]; exact hgbp) _
  · simp [Value.ownBlock]; exact hgbp
  · intro k hk
    simp [Value.ownBlock] at hk
    subst hk
    rcases hgM with e | e
    · exact .inl e.1
    · exact .inr ⟨e, hgl⟩
  · intro hm
    rcases hm with hm | hm
    · exact h.mb hm
    · omega
  · intro j hj hm
    have := hfp j hj
    rcases hm with hm | hm
    · exact hfm j hj hm
    · omega
  · intro k hk
    simp
    rcases hk with hk | hk
    · have := h.ml k hk; omega
    · exact hk.2
  · intro u hu
    simp at hu
    rcases hu with hu | rfl
    · exact h.top u hu
    · exact ⟨hst.2.1, hst.2.2⟩
  · intro u hu
    simp at hu
    rcases hu with hu | rfl
    · exact h.fit u hu
    · exact ⟨hst.1, hst.2.1⟩
  · refine (hw.then h1 (fun i hi x => by unfold Own.One at x; omega)).then hset (fun i hi x => ?_)
    have := hM0 i x; omega
  · intro j hj
    rcases hj with hj | hj
    · exact hM0 j hj
    · omega

/-- A new one, of blocks of its own. -/
def IsPlayed (w0 : World) (W : Int) (n : Nat) (e : Ending) (V : World) : Prop :=
  ∃ bp b FP M E L, e = .returned (.pointer (some ⟨bp, 0, none⟩)) ∧ PlayedAt V FP M bp b W E L ∧ L.length ≤ n ∧ E ≤ 1048577 ∧ Keeps Nob w0 V ∧ w0.heap.size ≤ b ∧ ∀ j, M j → w0.heap.size ≤ j

theorem info_arr2 : (Try.prog.info? 40).map (fun i => (i.zero, i.size, i.bytes)) = some (some (.agg #[.int .i64 0, .int .i64 0]), 2, 16) := by kernel_rfl

set_option maxRecDepth 100000 in
set_option maxHeartbeats 4000000 in
theorem plays_ok (W : Int) (hW1 : 1 ≤ W) (hW2 : W ≤ 12) (v : Value) (l : List Int) (w : World) (hl : l.length ≤ 80) (hv : IntsAt w v l) : Calls Try.prog 19 #[.int .i64 W, v] w (IsPlayed w W l.length) := by
  obtain ⟨a0, cap, rfl⟩ := hv.len
  have HV := Lib.hid hv; clear hv
  obtain ⟨i0, hi, hz0, hz1, hz2⟩ := info_parts info_arr2
  go_enter Try.func19, Try.ntmps19
  go_wp2_with (go_at_call 16; refine (span_new_view W _ hW1 (by omega)).mono ?_; rintro x V1 ⟨rfl, hv1, hk1, hs1⟩)
  have hV : Keeps Nob V1 (V1.alloc (.cells #[.pointer (some ⟨w.heap.size, 0, none⟩), .slice none 0 0] 39)) := (Keeps.refl _ _).alloc _
  have q0 : (V1.alloc (.cells #[.pointer (some ⟨w.heap.size, 0, none⟩), .slice none 0 0] 39)).cell? ⟨w.heap.size + 1, 0, none⟩ = some (.pointer (some ⟨w.heap.size, 0, none⟩)) := (World.cell?_alloc_at _ _ _ _ hs1.symm).trans rfl
  have q1 : (V1.alloc (.cells #[.pointer (some ⟨w.heap.size, 0, none⟩), .slice none 0 0] 39)).cell? ⟨w.heap.size + 1, 1, none⟩ = some (.slice none 0 0) := (World.cell?_alloc_at _ _ _ _ hs1.symm).trans rfl
  have q2 : ∃ cs : Array Value, (V1.alloc (.cells #[.pointer (some ⟨w.heap.size, 0, none⟩), .slice none 0 0] 39)).heap[w.heap.size + 1]? = some (.cells cs 39 (0, 0)) := ⟨_, by rw [← hs1]; exact World.alloc_heap_new V1 _⟩
  have q3 : w.heap.size + 1 < (V1.alloc (.cells #[.pointer (some ⟨w.heap.size, 0, none⟩), .slice none 0 0] 39)).heap.size := by simp; omega
  generalize V1.alloc (.cells #[.pointer (some ⟨w.heap.size, 0, none⟩), .slice none 0 0] 39) = V2 at *
  have HP : PlayedAt V2 Nob (Own.One (w.heap.size + 1)) (w.heap.size + 1) w.heap.size W 0 [] :=
    ⟨hv1.of_keeps hV (fun x => x) (fun _ _ x => x) (fun _ x => x) hv1.nb (fun j hj => hj.elim), q2, q0, ⟨_, q1, World.ownsRow_nil _ _ _ _, by simp [Value.ownBlock], fun k hk => by simp [Value.ownBlock] at hk⟩, rfl,
      fun x => by unfold Own.One at x; omega, fun j hj => hj.elim, fun k hk => by unfold Own.One at hk; omega, fun _ hv => by simp at hv, fun _ hv => by simp at hv⟩
  have HK := Lib.hid (hk1.trans hV)
  have HP := Lib.hid HP
  clear hv1 hk1 hs1 hV q0 q1 q2 q3
  go_loopg [8] l.length (fun g i V => ∃ k : Nat, k ≤ l.length ∧ g = l.length - k ∧ i = .int .i64 k ∧ ∃ FP M E L, Hid (PlayedAt V FP M (w.heap.size + 1) w.heap.size W E L) ∧ L.length ≤ k ∧ 0 ≤ E ∧ E ≤ 1048577 ∧ Keeps Nob w V ∧ ∀ j, M j → w.heap.size ≤ j)
  case atStart => exact ⟨0, by omega, rfl, rfl, _, _, _, _, HP, Nat.le_refl _, by omega, by omega, HK.out, fun j hj => by unfold Own.One at hj; omega⟩
  case round =>
    obtain ⟨k, hk, hg, rfl, FP, M, E, L, H, hLk, hE0, hE1, hkp, hM0⟩ := hrel
    have HG := Lib.hid hg; clear hg HP HK
    by_cases hlt : k < l.length
    · obtain ⟨x, hx⟩ : ∃ x, l[k]? = some x := ⟨l[k], List.getElem?_eq_getElem hlt⟩
      obtain ⟨bx1, bx2, bl, ol, cl, hvl, hbl, q0⟩ := HV.out.at_ k _ hx
      simp only [Value.slice.injEq, true_and] at hvl
      obtain ⟨rfl, rfl⟩ := hvl
      have p0 := (hkp.cell hbl (fun x => x)).trans q0
      clear q0 hx
      have pk := fun V => pick_ok x 1048576 V ⟨bx1, bx2⟩ (by omega) (by omega)
      obtain ⟨n, hn⟩ : ∃ n, x % 1048576 = n := ⟨_, rfl⟩
      have hn0 : 0 ≤ n := by omega
      have hn1 : n < 1048576 := by omega
      rw [hn] at pk
      have PK := Lib.hid pk; clear pk hn
      have hW0 : W ≠ 0 := by omega
      have a1 : 0 ≤ n / 3 % W := Int.emod_nonneg _ (by omega)
      have a2 : n / 3 % W < W := Int.emod_lt_of_pos _ (by omega)
      have a3 : 0 ≤ n / 3 / W := Int.ediv_nonneg (by omega) (by omega)
      have a4 : 0 ≤ n / 3 / W % (W + 2) := Int.emod_nonneg _ (by omega)
      have a5 : n / 3 / W % (W + 2) < W + 2 := Int.emod_lt_of_pos _ (by omega)
      have a6 : n / 3 / W ≤ n / 3 := Int.ediv_le_self _ (by omega)
      have cells := H.out.sp.cells
      have cc0 := H.out.c0
      by_cases c : n % 3 = 0 ∧ E < 1048576
      · obtain ⟨c1, c2⟩ := c
        have hm : moveErr E (E + n / 3 % 3) = 0 := by unfold moveErr; rw [if_neg (by omega), if_neg (by omega)]
        have HM := Lib.hid hm; clear hm
        go_wp2_with (first
          | (go_at_call 18; refine (PK.out _).mono ?_; rintro e V ⟨rfl, rfl⟩)
          | (go_at_call 15; refine (span_epoch w.heap.size W E _ cells.1 cells.2.1 cells.2.2.1).mono ?_; rintro e V ⟨rfl, rfl⟩)
          | (go_at_call 12; refine (move_any w.heap.size W E (E + n / 3 % 3) _ FP (viewOf L) H.out.sp (fun y hy => viewOf_above L E y H.out.top hy) 0 (E + n / 3 % 3) HM.out rfl).mono ?_; rintro e V ⟨rfl, hsp, hq⟩))
        go_roundg (l.length - (k + 1))
        case measure => have := HG.out; omega
        case rel => exact ⟨k + 1, by omega, rfl, by go_num, FP, M, _, L, H.out.left hsp hq (by omega), by omega, by omega, by omega, hkp.then hq (fun i hi x => by unfold Own.One at x; omega), hM0⟩
      · by_cases c1 : n % 3 = 0
        · have c2 : decide (E < 1048576) = false := decide_eq_false (fun x => c ⟨c1, x⟩)
          have c3 : ¬ E < 1048576 := fun x => c ⟨c1, x⟩
          clear c
          by_cases ht : E - n / 3 % W < 0
          · omega
          · obtain ⟨v, cv, hrow, hvb, hvM⟩ := H.out.row
            have HR := Lib.hid hrow; clear hrow
            have hbp : w.heap.size + 1 < wr.heap.size := H.out.ml _ H.out.mp
            have hbpn : ¬ Own.One w.heap.size (w.heap.size + 1) := by unfold Own.One; omega
            have hfz := H.out.unfrozen 1
            by_cases hS : 0 < E - n / 3 % W - n / 3 / W % (W + 2)
            · skip
              have he : putErr W E (E - n / 3 % W - n / 3 / W % (W + 2)) (E - n / 3 % W) = 0 := by unfold putErr lowOf; rw [if_neg (by omega), if_neg (by omega), if_neg (by omega), if_neg (by omega)]
              have HE := Lib.hid he; clear he
              go_wp2_with (first
                | (go_at_call 18; refine (PK.out _).mono ?_; rintro e V ⟨rfl, rfl⟩)
                | (go_at_call 15; refine (span_epoch w.heap.size W E _ cells.1 cells.2.1 cells.2.2.1).mono ?_; rintro e V ⟨rfl, rfl⟩)
                | (go_at_call 14; refine (put_yes w.heap.size W E (E - n / 3 % W - n / 3 / W % (W + 2)) (E - n / 3 % W) _ FP (viewOf L) H.out.sp HE.out).mono ?_; rintro e V ⟨rfl, hsp, hq⟩; have r0 := (hq.cell hbp hbpn).trans cc0; have r1 := (hq.cell hbp hbpn).trans cv; have rf : V.frozen? ⟨w.heap.size + 1, 1, none⟩ = false := (hq.frozen hbp hbpn).trans hfz; have ROW := Lib.hid (HR.out.keeps hq (fun j hj e => H.out.mb (by unfold Own.One at e; exact e ▸ hvM j hj))))
                | (at_builtin; refine own_append rfl _ _ 37 rfl 40 i0 _ 2 16 Try.underlying37 hi hz0 hz1 hz2 rfl (by decide) v L.length (flat2 L) rfl (World.ownsRow.alloc ROW.out _) ⟨V.heap.size, 0, none⟩ 1 1 [.int .i64 (E - n / 3 % W - n / 3 / W % (W + 2)), .int .i64 (E - n / 3 % W)] rfl rfl (cell_two_new _ _ _ _) (by intro u hu; simp at hu; rcases hu with rfl | rfl <;> rfl) (by unfold maxLen; omega) (by omega) ?_; intro v' V2 hown hgrow _ hnew; obtain ⟨g, cap', rfl⟩ := ownsRow_succ hown; have sV := hgrow.size; simp at sV; have hbk := (hgrow.block (w.heap.size + 1) (by simp; have := hq.size; omega) (fun e => hvb e.symm)).trans (Below.heap_alloc V _ (w.heap.size + 1) (by have := hq.size; omega)); have t0 := (World.cell?_of_block (w := V) (a := ⟨w.heap.size + 1, 0, none⟩) hbk).trans r0; have t1 := (World.cell?_of_block (w := V) (a := ⟨w.heap.size + 1, 1, none⟩) hbk).trans r1; have tf := (World.frozen?_of_block (w := V) (a := ⟨w.heap.size + 1, 1, none⟩) hbk).trans rf; have HG2 := Lib.hid hgrow; have HO2 := Lib.hid hown; have HN2 := Lib.hid hnew; have HB2 := Lib.hid hbk; clear hgrow hown hnew hbk))
              have hnew2 : v.ownBlock = some g ∨ V.heap.size ≤ g := (HN2.out g rfl).elim .inl (fun e => .inr (by have := e.1; simp at this; omega))
              obtain ⟨M', hP, hkk, hMM⟩ := H.out.put (w := w) (by omega) hsp hq r1 hvb hvM HO2.out HG2.out hnew2 hM0 hkp (Nat.le_refl _)
              go_roundg (l.length - (k + 1))
              case measure => have := HG.out; omega
              case rel => exact ⟨k + 1, by omega, rfl, by go_num, _, M', E, _, hP, (by simp <;> omega), by omega, by omega, hkk, hMM⟩
            · omega
        · clear c
          by_cases ht : E - n / 3 % W < 0
          · go_wp2_with (first
              | (go_at_call 18; refine (PK.out _).mono ?_; rintro e V ⟨rfl, rfl⟩)
              | (go_at_call 15; refine (span_epoch w.heap.size W E _ cells.1 cells.2.1 cells.2.2.1).mono ?_; rintro e V ⟨rfl, rfl⟩))
            go_roundg (l.length - (k + 1))
            case measure => have := HG.out; omega
            case rel => exact ⟨k + 1, by omega, rfl, by go_num, FP, M, E, L, H.out, by omega, by omega, by omega, hkp, hM0⟩
          · obtain ⟨v, cv, hrow, hvb, hvM⟩ := H.out.row
            have HR := Lib.hid hrow; clear hrow
            have hbp : w.heap.size + 1 < wr.heap.size := H.out.ml _ H.out.mp
            have hbpn : ¬ Own.One w.heap.size (w.heap.size + 1) := by unfold Own.One; omega
            have hfz := H.out.unfrozen 1
            by_cases hS : 0 < E - n / 3 % W - n / 3 / W % (W + 2)
            · skip
              have he : putErr W E (E - n / 3 % W - n / 3 / W % (W + 2)) (E - n / 3 % W) = 0 := by unfold putErr lowOf; rw [if_neg (by omega), if_neg (by omega), if_neg (by omega), if_neg (by omega)]
              have HE := Lib.hid he; clear he
              go_wp2_with (first
                | (go_at_call 18; refine (PK.out _).mono ?_; rintro e V ⟨rfl, rfl⟩)
                | (go_at_call 15; refine (span_epoch w.heap.size W E _ cells.1 cells.2.1 cells.2.2.1).mono ?_; rintro e V ⟨rfl, rfl⟩)
                | (go_at_call 14; refine (put_yes w.heap.size W E (E - n / 3 % W - n / 3 / W % (W + 2)) (E - n / 3 % W) _ FP (viewOf L) H.out.sp HE.out).mono ?_; rintro e V ⟨rfl, hsp, hq⟩; have r0 := (hq.cell hbp hbpn).trans cc0; have r1 := (hq.cell hbp hbpn).trans cv; have rf : V.frozen? ⟨w.heap.size + 1, 1, none⟩ = false := (hq.frozen hbp hbpn).trans hfz; have ROW := Lib.hid (HR.out.keeps hq (fun j hj e => H.out.mb (by unfold Own.One at e; exact e ▸ hvM j hj))))
                | (at_builtin; refine own_append rfl _ _ 37 rfl 40 i0 _ 2 16 Try.underlying37 hi hz0 hz1 hz2 rfl (by decide) v L.length (flat2 L) rfl (World.ownsRow.alloc ROW.out _) ⟨V.heap.size, 0, none⟩ 1 1 [.int .i64 (E - n / 3 % W - n / 3 / W % (W + 2)), .int .i64 (E - n / 3 % W)] rfl rfl (cell_two_new _ _ _ _) (by intro u hu; simp at hu; rcases hu with rfl | rfl <;> rfl) (by unfold maxLen; omega) (by omega) ?_; intro v' V2 hown hgrow _ hnew; obtain ⟨g, cap', rfl⟩ := ownsRow_succ hown; have sV := hgrow.size; simp at sV; have hbk := (hgrow.block (w.heap.size + 1) (by simp; have := hq.size; omega) (fun e => hvb e.symm)).trans (Below.heap_alloc V _ (w.heap.size + 1) (by have := hq.size; omega)); have t0 := (World.cell?_of_block (w := V) (a := ⟨w.heap.size + 1, 0, none⟩) hbk).trans r0; have t1 := (World.cell?_of_block (w := V) (a := ⟨w.heap.size + 1, 1, none⟩) hbk).trans r1; have tf := (World.frozen?_of_block (w := V) (a := ⟨w.heap.size + 1, 1, none⟩) hbk).trans rf; have HG2 := Lib.hid hgrow; have HO2 := Lib.hid hown; have HN2 := Lib.hid hnew; have HB2 := Lib.hid hbk; clear hgrow hown hnew hbk))
              have hnew2 : v.ownBlock = some g ∨ V.heap.size ≤ g := (HN2.out g rfl).elim .inl (fun e => .inr (by have := e.1; simp at this; omega))
              obtain ⟨M', hP, hkk, hMM⟩ := H.out.put (w := w) (by omega) hsp hq r1 hvb hvM HO2.out HG2.out hnew2 hM0 hkp (Nat.le_refl _)
              go_roundg (l.length - (k + 1))
              case measure => have := HG.out; omega
              case rel => exact ⟨k + 1, by omega, rfl, by go_num, _, M', E, _, hP, (by simp <;> omega), by omega, by omega, hkk, hMM⟩
            · skip
              have he : putErr W E (0) (E - n / 3 % W) = 0 := by unfold putErr lowOf; rw [if_neg (by omega), if_neg (by omega), if_neg (by omega), if_neg (by omega)]
              have HE := Lib.hid he; clear he
              go_wp2_with (first
                | (go_at_call 18; refine (PK.out _).mono ?_; rintro e V ⟨rfl, rfl⟩)
                | (go_at_call 15; refine (span_epoch w.heap.size W E _ cells.1 cells.2.1 cells.2.2.1).mono ?_; rintro e V ⟨rfl, rfl⟩)
                | (go_at_call 14; refine (put_yes w.heap.size W E (0) (E - n / 3 % W) _ FP (viewOf L) H.out.sp HE.out).mono ?_; rintro e V ⟨rfl, hsp, hq⟩; have r0 := (hq.cell hbp hbpn).trans cc0; have r1 := (hq.cell hbp hbpn).trans cv; have rf : V.frozen? ⟨w.heap.size + 1, 1, none⟩ = false := (hq.frozen hbp hbpn).trans hfz; have ROW := Lib.hid (HR.out.keeps hq (fun j hj e => H.out.mb (by unfold Own.One at e; exact e ▸ hvM j hj))))
                | (at_builtin; refine own_append rfl _ _ 37 rfl 40 i0 _ 2 16 Try.underlying37 hi hz0 hz1 hz2 rfl (by decide) v L.length (flat2 L) rfl (World.ownsRow.alloc ROW.out _) ⟨V.heap.size, 0, none⟩ 1 1 [.int .i64 (0), .int .i64 (E - n / 3 % W)] rfl rfl (cell_two_new _ _ _ _) (by intro u hu; simp at hu; rcases hu with rfl | rfl <;> rfl) (by unfold maxLen; omega) (by omega) ?_; intro v' V2 hown hgrow _ hnew; obtain ⟨g, cap', rfl⟩ := ownsRow_succ hown; have sV := hgrow.size; simp at sV; have hbk := (hgrow.block (w.heap.size + 1) (by simp; have := hq.size; omega) (fun e => hvb e.symm)).trans (Below.heap_alloc V _ (w.heap.size + 1) (by have := hq.size; omega)); have t0 := (World.cell?_of_block (w := V) (a := ⟨w.heap.size + 1, 0, none⟩) hbk).trans r0; have t1 := (World.cell?_of_block (w := V) (a := ⟨w.heap.size + 1, 1, none⟩) hbk).trans r1; have tf := (World.frozen?_of_block (w := V) (a := ⟨w.heap.size + 1, 1, none⟩) hbk).trans rf; have HG2 := Lib.hid hgrow; have HO2 := Lib.hid hown; have HN2 := Lib.hid hnew; have HB2 := Lib.hid hbk; clear hgrow hown hnew hbk))
              have hnew2 : v.ownBlock = some g ∨ V.heap.size ≤ g := (HN2.out g rfl).elim .inl (fun e => .inr (by have := e.1; simp at this; omega))
              obtain ⟨M', hP, hkk, hMM⟩ := H.out.put (w := w) (by omega) hsp hq r1 hvb hvM HO2.out HG2.out hnew2 hM0 hkp (Nat.le_refl _)
              go_roundg (l.length - (k + 1))
              case measure => have := HG.out; omega
              case rel => exact ⟨k + 1, by omega, rfl, by go_num, _, M', E, _, hP, (by simp <;> omega), by omega, by omega, hkk, hMM⟩
    · have d1 : decide ((k : Int) < (l.length : Int)) = false := by simp; omega
      go_wp2_with fail
      go_ret
      exact ⟨_, _, FP, M, E, L, rfl, H.out, by omega, hE1, hkp, Nat.le_refl _, hM0⟩
end Go.Proofs.Ytkkecoodefjnbaa
