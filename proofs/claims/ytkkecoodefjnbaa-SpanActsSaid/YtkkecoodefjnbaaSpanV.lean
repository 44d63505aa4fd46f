import Derived.Test.YtkkecoodefjnbaaSpanU
import Derived.Test.YtkkecoodefjnbaaLaw
import Derived.Deep.DeepCutAuto
import Derived.Deep.CutBlock
namespace Go.Proofs.Ytkkecoodefjnbaa
open Go Go.RowKit Go.Own Go.Shelf

/-- An act, and the list of acts as it lies in memory. -/
structure ActsAt (w : World) (v : Value) (l : List (Int × Int × Int)) : Prop where
  len : ∃ a cap, v = .slice a l.length cap
  at_ : ∀ k x, l[k]? = some x → ∃ b o cap, v = .slice (some ⟨b, o, none⟩) l.length cap ∧ b < w.heap.size ∧ w.cell? ⟨b, o + k * 3, none⟩ = some (.int .i64 x.1) ∧ w.cell? ⟨b, o + k * 3 + 1, none⟩ = some (.int .i64 x.2.1) ∧ w.cell? ⟨b, o + k * 3 + 2, none⟩ = some (.int .i64 x.2.2)

theorem open_acts {H : Type} {enc : TypeId × Value → H} {W : World} {sp : Nat → Bool} {held : Bool} {v : Value} {d : DataW H} {ps : List MemPlace} (h : DataW.Trod enc Try.prog W 0 sp held 44 v d ps) (hv : ∃ a len cap, v = .slice a len cap) : ∃ l, ActsAt W v l := by
  have hC : Try.prog.cellsOf 49 = 3 := by kernel_rfl
  have hC3 : Try.prog.cellsOf 3 = 1 := by kernel_rfl
  obtain ⟨a, len, cap, rfl, hl, hm, hi⟩ := open_elems Try.underlying44 (by rw [hC]; omega) h hv
  rw [hC] at hi
  obtain ⟨l, hll, hq⟩ := list_of (fun i (x : Int × Int × Int) => ∃ b o, a = some ⟨b, o, none⟩ ∧ W.cell? ⟨b, o + i * 3, none⟩ = some (.int .i64 x.1) ∧ W.cell? ⟨b, o + i * 3 + 1, none⟩ = some (.int .i64 x.2.1) ∧ W.cell? ⟨b, o + i * 3 + 2, none⟩ = some (.int .i64 x.2.2)) len (fun i hlt => by
    obtain ⟨b, o, cs, n, y, ha, hcl, hcell, ht⟩ := hi i hlt
    obtain ⟨xs, n', _, _, _, hxl, hf⟩ := DataW.trod_struct Try.underlying49 ht
    obtain ⟨q0, e0, _⟩ := field_int Try.underlying3 hC3 (hf 0 _ rfl) (List.getElem?_eq_getElem (by rw [hxl]; decide))
    obtain ⟨q1, e1, _⟩ := field_int Try.underlying3 hC3 (hf 1 _ rfl) (List.getElem?_eq_getElem (by rw [hxl]; decide))
    obtain ⟨q2, e2, _⟩ := field_int Try.underlying3 hC3 (hf 2 _ rfl) (List.getElem?_eq_getElem (by rw [hxl]; decide))
    exact ⟨(q0, q1, q2), b, o, ha, (hcell 0 (by omega)).trans e0, (hcell 1 (by omega)).trans e1, (hcell 2 (by omega)).trans e2⟩)
  subst hll
  refine ⟨l, ⟨a, cap, rfl⟩, fun k x hk => ?_⟩
  obtain ⟨b, o, rfl, c0, c1, c2⟩ := hq k x hk
  exact ⟨b, o, cap, rfl, World.block_lt_of_cell? W _ c0, c0, c1, c2⟩

def votesPut (r s t : Int) (L : List (Int × Int)) : List (Int × Int) := if r = 0 then L ++ [(s, t)] else L
theorem viewOf_put (r s t : Int) (L : List (Int × Int)) : (fun e => if r = 0 then putAt s t e (viewOf L e) else viewOf L e) = viewOf (votesPut r s t L) := by
  funext e
  unfold votesPut
  split
  · rw [viewOf_snoc]
  · rfl
theorem votesPut_len (r s t : Int) (L : List (Int × Int)) : (votesPut r s t L).length ≤ L.length + 1 := by unfold votesPut; split <;> simp

theorem ref_put_any (b : Nat) (W E s t : Int) (w : World) (M : Nat → Prop) (L : List (Int × Int)) (h : RefSpan w M b W E L) (hL : L.length ≤ 1000000) (r : Int) (hr : putErr W E s t = r) :
    Calls Try.prog 22 #[.pointer (some ⟨b, 0, none⟩), .int .i64 s, .int .i64 t] w fun v w' => v = .returned (.int .i64 r) ∧ RefSpan w' (fun k => M k ∨ w.heap.size ≤ k ∧ k < w'.heap.size) b W E (votesPut r s t L) ∧ Keeps M w w' := by
  by_cases h1 : s < 0 ∨ t < s ∨ t < lowOf W E ∨ E < t
  · refine (ref_put_no b W E s t w M L h h1).mono ?_
    rintro v w' ⟨rfl, hk⟩
    have h0 : r ≠ 0 := by
      rw [← hr]; unfold putErr; repeat' split
      all_goals first | decide | omega
    have hR := h.of_keeps hk (fun _ _ x => x)
    refine ⟨by rw [hr], ?_, hk.mono (fun _ _ x => x.elim)⟩
    unfold votesPut
    rw [if_neg h0]
    obtain ⟨v, p1, p2, p3, p4⟩ := hR.row
    exact ⟨hR.shape, hR.cW, hR.cE, ⟨v, p1, p2, p3, fun k hk => .inl (p4 k hk)⟩, .inl hR.mb, fun k hk' => hk'.elim (hR.ml k) (·.2), hR.w1, hR.w2, hR.e1, hR.e2⟩
  · have h0 : r = 0 := by rw [← hr]; unfold putErr; rw [if_neg (by omega), if_neg (by omega), if_neg (by omega), if_neg (by omega)]
    subst h0
    have hv : votesPut 0 s t L = L ++ [(s, t)] := by simp [votesPut]
    rw [hv]
    exact ref_put_ok b W E s t w M L h (by omega) (by omega) (by omega) (by omega) hL

theorem ref_move_any (b : Nat) (W E e : Int) (w : World) (M : Nat → Prop) (L : List (Int × Int)) (h : RefSpan w M b W E L) (r E' : Int) (hr : moveErr E e = r) (hE : (if r = 0 then e else E) = E') :
    Calls Try.prog 23 #[.pointer (some ⟨b, 0, none⟩), .int .i64 e] w fun v w' => v = .returned (.int .i64 r) ∧ RefSpan w' M b W E' L ∧ Keeps M w w' := by
  subst hr; subst hE; exact ref_move b W E e w M L h

/-- What holds between two acts. -/
structure Inv (w0 : World) (W : Int) (k : Nat) (p5 p7 : Value) (V : World) : Prop where
  ex : ∃ b bw FP M E L, p5 = .pointer (some ⟨b, 0, none⟩) ∧ p7 = .pointer (some ⟨bw, 0, none⟩) ∧ Both V FP M b bw W E L ∧ L.length ≤ k ∧ Keeps Nob w0 V ∧ w0.heap.size ≤ b ∧ ∀ j, M j → w0.heap.size ≤ j

theorem put_top {W E s t r : Int} {L : List (Int × Int)} (hr : putErr W E s t = r) (h : ∀ v ∈ L, v.1 ≤ v.2 ∧ v.2 ≤ E) : ∀ v ∈ votesPut r s t L, v.1 ≤ v.2 ∧ v.2 ≤ E := by
  intro v hv
  unfold votesPut at hv
  split at hv
  · rename_i h0
    simp at hv
    rcases hv with hv | rfl
    · exact h v hv
    · unfold putErr at hr
      dsimp only
      (repeat' split at hr) <;> omega
  · exact h v hv

/-- Both have taken a vote. -/
theorem inv_put {w V V1 V2 : World} {FP M : Nat → Prop} {b bw k : Nat} {W E s t r : Int} {L : List (Int × Int)} (hb : Both V FP M b bw W E L) (hr : putErr W E s t = r)
    (hsp : SpanView V1 (fun j => FP j ∨ j = V.heap.size + 1 + 1 ∧ r = 0) b W E (fun e => if r = 0 then putAt s t e (viewOf L e) else viewOf L e)) (h1 : Keeps (Own.One b) V V1)
    (hrf : RefSpan V2 (fun k => M k ∨ V1.heap.size ≤ k ∧ k < V2.heap.size) bw W E (votesPut r s t L)) (h2 : Keeps M V1 V2) (hk : L.length ≤ k) (h0 : Keeps Nob w V) (hbw : w.heap.size ≤ b) (hM : ∀ j, M j → w.heap.size ≤ j) :
    Inv w W (k + 1) (.pointer (some ⟨b, 0, none⟩)) (.pointer (some ⟨bw, 0, none⟩)) V2 := by
  have s1 := h1.size; have s2 := h2.size; have s0 := h0.size
  have hml := hb.rf.ml
  have hfm : ∀ j, (FP j ∨ j = V.heap.size + 1 + 1 ∧ r = 0) → ¬ M j := fun j hj hm => hj.elim (fun x => hb.fm j x hm) (fun x => by have := hml j hm; omega)
  have hbl : b < V.heap.size := hb.sp.cells.2.2.2.1
  rw [viewOf_put] at hsp
  refine ⟨b, bw, _, _, E, votesPut r s t L, rfl, rfl, ⟨hsp.of_keeps h2 hb.mb hfm (fun _ x => x) hsp.nb (fun j hj => Nat.lt_of_lt_of_le (hsp.fp j hj) s2), hrf, ?_, ?_, put_top hr hb.top⟩, ?_, ?_, hbw, ?_⟩
  · intro hm
    rcases hm with hm | hm
    · exact hb.mb hm
    · omega
  · intro j hj hm
    have := hsp.fp j hj
    rcases hm with hm | hm
    · exact hfm j hj hm
    · omega
  · have := votesPut_len r s t L; omega
  · refine (h0.then h1 (fun i hi x => ?_)).then h2 (fun i hi x => ?_)
    · unfold Own.One at x; omega
    · have := hM i x; omega
  · intro j hj
    rcases hj with hj | hj
    · exact hM j hj
    · omega

theorem inv_move {w V V1 V2 : World} {FP M : Nat → Prop} {b bw k : Nat} {W E E' : Int} {L : List (Int × Int)} (hb : Both V FP M b bw W E L) (hE : E ≤ E')
    (hsp : SpanView V1 FP b W E' (viewOf L)) (h1 : Keeps (Own.One b) V V1) (hrf : RefSpan V2 M bw W E' L) (h2 : Keeps M V1 V2) (hk : L.length ≤ k) (h0 : Keeps Nob w V) (hbw : w.heap.size ≤ b) (hM : ∀ j, M j → w.heap.size ≤ j) :
    Inv w W (k + 1) (.pointer (some ⟨b, 0, none⟩)) (.pointer (some ⟨bw, 0, none⟩)) V2 := by
  have s2 := h2.size
  refine ⟨b, bw, FP, M, E', L, rfl, rfl, ⟨hsp.of_keeps h2 hb.mb hb.fm (fun _ x => x) hsp.nb (fun j hj => Nat.lt_of_lt_of_le (hsp.fp j hj) s2), hrf, hb.mb, hb.fm, fun v hv => by have := hb.top v hv; omega⟩, by omega, ?_, hbw, hM⟩
  refine (h0.then h1 (fun i hi x => ?_)).then h2 (fun i hi x => ?_)
  · unfold Own.One at x; omega
  · have := hM i x; omega

theorem inv_same {w V V1 : World} {FP M : Nat → Prop} {b bw k : Nat} {W E : Int} {L : List (Int × Int)} (hb : Both V1 FP M b bw W E L) (h1 : Keeps (Own.One b) V V1) (hk : L.length ≤ k) (h0 : Keeps Nob w V) (hbw : w.heap.size ≤ b) (hM : ∀ j, M j → w.heap.size ≤ j) :
    Inv w W (k + 1) (.pointer (some ⟨b, 0, none⟩)) (.pointer (some ⟨bw, 0, none⟩)) V1 :=
  ⟨b, bw, FP, M, E, L, rfl, rfl, hb, by omega, h0.then h1 (fun i hi x => by unfold Own.One at x; omega), hbw, hM⟩

theorem putErr_ne (W E s t : Int) : (putErr W E s t != 1) = true := by
  unfold putErr; repeat' split
  all_goals rfl

/-- Both have been copied, and the program's old one has taken something since. -/
theorem inv_copy {w V V1 V2 V3 : World} {FP M : Nat → Prop} {b bw b2 k : Nat} {W E : Int} {L : List (Int × Int)} (hb : Both V FP M b bw W E L)
    (hrf : RefSpan V1 (fun j => V.heap.size ≤ j ∧ j < V1.heap.size) b2 W E L) (h1 : Keeps Nob V V1) (hsp : SpanView V2 FP V1.heap.size W E (viewOf L)) (h2 : Keeps Nob V1 V2) (hlt : V1.heap.size < V2.heap.size)
    (h3 : Keeps (Own.One b) V2 V3) (hk : L.length ≤ k) (h0 : Keeps Nob w V) (hbw : w.heap.size ≤ b) :
    Inv w W (k + 1) (.pointer (some ⟨V1.heap.size, 0, none⟩)) (.pointer (some ⟨b2, 0, none⟩)) V3 := by
  have s0 := h0.size; have s1 := h1.size; have s2 := h2.size; have s3 := h3.size
  have hbl : b < V.heap.size := hb.sp.cells.2.2.2.1
  have hfp : ∀ j, FP j → j < V.heap.size := hb.sp.fp
  refine ⟨V1.heap.size, b2, FP, _, E, L, rfl, rfl, ⟨hsp.of_keeps h3 (fun x => by unfold Own.One at x; omega) (fun j hj x => ?_) (fun _ x => x) hsp.nb (fun j hj => Nat.lt_of_lt_of_le (hsp.fp j hj) s3),
    (hrf.of_keeps h2 (fun _ _ x => x)).of_keeps h3 (fun j hj x => by unfold Own.One at x; omega), fun hm => by omega, fun j hj hm => by have := hfp j hj; omega, hb.top⟩, by omega, ?_, by omega, fun j hj => by omega⟩
  · unfold Own.One at x; subst x; exact hb.sp.nb hj
  · exact ((h0.trans h1).trans h2).then h3 (fun i hi x => by unfold Own.One at x; omega)

set_option maxRecDepth 100000 in
set_option maxHeartbeats 8000000 in
theorem acts_ok (window : Int) (ww : (Lit.int .i64 window).wf = true) (v : Value) (l : List (Int × Int × Int)) (w : World) (hv : ActsAt w v l) : Calls Try.prog 5 #[.int .i64 window, v] w fun e w' => e = .returned (.bool true) ∧ Keeps Nob w w' := by
  obtain ⟨a0, cap, rfl⟩ := hv.len
  by_cases hlen : l.length ≤ 60
  · by_cases hw : 1 ≤ window ∧ window ≤ 256
    · obtain ⟨hw1, hw2⟩ := hw
      have HV := Lib.hid hv; clear hv
      go_enter Try.func5, Try.ntmps5
      go_wp2_with (first
        | (go_at_call 16; refine (span_new_view window _ hw1 hw2).mono ?_; rintro x V1 ⟨rfl, hv1, hk1, hs1⟩)
        | (go_at_call 21; refine (ref_new window _ hw1 hw2).mono ?_; rintro x V2 ⟨rfl, hv2, hk2⟩))
      have hbs : V1.heap.size = w.heap.size + 1 := hs1
      rw [hs1] at hv2
      have HB : Both V2 Nob (Own.One (w.heap.size + 1)) w.heap.size (w.heap.size + 1) window 0 [] :=
        ⟨hv1.of_keeps hk2 (fun x => x) (fun _ _ x => x) (fun _ x => x) hv1.nb (fun j hj => hj.elim), hv2, fun x => by unfold Own.One at x; omega, fun j hj => hj.elim, fun _ hv => by simp at hv⟩
      have HI : Inv w window 0 (.pointer (some ⟨w.heap.size, 0, none⟩)) (.pointer (some ⟨w.heap.size + 1, 0, none⟩)) V2 :=
        ⟨_, _, _, _, _, _, rfl, rfl, HB, Nat.le_refl _, hk1.trans hk2, Nat.le_refl _, fun j hj => by unfold Own.One at hj; omega⟩
      clear HB hv1 hk1 hv2 hk2 hbs hs1
      go_loopg [5, 7, 9] l.length (fun g p5 p7 i V => ∃ k : Nat, k ≤ l.length ∧ g = l.length - k ∧ i = .int .i64 k ∧ Inv w window k p5 p7 V)
      case atStart => exact ⟨0, by omega, rfl, rfl, HI⟩
      case round =>
        obtain ⟨k, hk, hg, rfl, hinv⟩ := hrel
        obtain ⟨b, bw, FP, M, E, L, rfl, rfl, HB, hLk, hkp, hb0, hM0⟩ := hinv.ex
        have HB := Lib.hid HB
        clear HI hinv
        have HG := Lib.hid hg; clear hg
        by_cases hlt : k < l.length
        · obtain ⟨⟨wh, A, B⟩, hx⟩ : ∃ x, l[k]? = some x := ⟨l[k], List.getElem?_eq_getElem hlt⟩
          obtain ⟨bl, ol, cl, hvl, hbl, q0, q1, q2⟩ := HV.out.at_ k _ hx
          simp only [Value.slice.injEq, true_and] at hvl
          obtain ⟨rfl, rfl⟩ := hvl
          have p0 := (hkp.cell hbl (fun x => x)).trans q0
          have p1 := (hkp.cell hbl (fun x => x)).trans q1
          have p2 := (hkp.cell hbl (fun x => x)).trans q2
          clear q0 q1 q2 hx
          go_upto_block 2 with fail
          have hw0 := hkp.size
          have hk0 : Keeps Nob wr (wr.alloc (.cells #[.int .i64 wh, .int .i64 A, .int .i64 B] 49)) := (Keeps.refl _ _).alloc _
          have x1 : (wr.alloc (.cells #[.int .i64 wh, .int .i64 A, .int .i64 B] 49)).cell? ⟨wr.heap.size, 1, none⟩ = some (.int .i64 A) := (World.cell?_alloc_at _ _ _ _ rfl).trans rfl
          have x2 : (wr.alloc (.cells #[.int .i64 wh, .int .i64 A, .int .i64 B] 49)).cell? ⟨wr.heap.size, 2, none⟩ = some (.int .i64 B) := (World.cell?_alloc_at _ _ _ _ rfl).trans rfl
          have xs : wr.heap.size < (wr.alloc (.cells #[.int .i64 wh, .int .i64 A, .int .i64 B] 49)).heap.size := by simp
          have HB0 := Lib.hid (HB.out.none hk0)
          have hkp0 : Keeps Nob w (wr.alloc (.cells #[.int .i64 wh, .int .i64 A, .int .i64 B] 49)) := hkp.trans hk0
          have hMX : ∀ j, M j → j < wr.heap.size := HB.out.rf.ml
          have hbX : b < wr.heap.size := HB.out.sp.cells.2.2.2.1
          generalize hX : wr.heap.size = X at *
          generalize wr.alloc (.cells #[.int .i64 wh, .int .i64 A, .int .i64 B] 49) = V0 at *
          clear hX hk0 p0 p1 p2
          have hX := True.intro
          go_cut [5, 7, 11] (fun p5 p7 p11 V => p11 = .bool true ∧ p5 ≠ .pointer (some ⟨X, 0, none⟩) ∧ Inv w window (k + 1) p5 p7 V ∧ V.cell? ⟨X, 1, none⟩ = some (.int .i64 A) ∧ V.cell? ⟨X, 2, none⟩ = some (.int .i64 B) ∧ X < V.heap.size ∧ w.heap.size ≤ X)
          case first =>
            by_cases h0 : wh = 0
            · subst h0
              obtain ⟨r, hr⟩ : ∃ r, putErr window E A B = r := ⟨_, rfl⟩
              have HR := Lib.hid hr; clear hr
              go_wp2_with fail
              go_region_held3 (fun V => V.cell? ⟨X, 1, none⟩ = some (.int .i64 A) ∧ V.cell? ⟨X, 2, none⟩ = some (.int .i64 B))
                (first
                  | go_keep
                  | exact ⟨(hq2.cell xs1 (by intro hm; have := hMX _ hm; omega)).trans y1, (hq2.cell xs1 (by intro hm; have := hMX _ hm; omega)).trans y2⟩
                  | exact ⟨(hq1.cell xs (by unfold Own.One; omega)).trans x1, (hq1.cell xs (by unfold Own.One; omega)).trans x2⟩)
                (first
                  | (go_at_call 14; refine (put_any b window E _ FP (viewOf L) (HB0.out.none ((Keeps.refl _ _).drew)).sp A B r HR.out).mono ?_; rintro e V1 ⟨rfl, hsp1, hq1⟩; have y1 := (hq1.cell xs (by unfold Own.One; omega)).trans x1; have y2 := (hq1.cell xs (by unfold Own.One; omega)).trans x2; have xs1 : X < V1.heap.size := by have := hq1.size; simp at this; omega)
                  | (go_at_call 22; refine (ref_put_any bw window E A B _ M L ((HB0.out.none ((Keeps.refl _ _).drew)).rf.of_keeps hq1 (fun j hj e => HB0.out.mb (by unfold Own.One at e; exact e ▸ hj))) (by omega) r HR.out).mono ?_; rintro e V2' ⟨rfl, hrf2, hq2⟩))
              go_wp2
              go_meet
              case rel =>
                refine ⟨rfl, by simp <;> omega, inv_put (HB0.out.none ((Keeps.refl _ _).drew)) HR.out hsp1 hq1 hrf2 hq2 hLk hkp0.drew hb0 hM0, ?_, ?_, ?_, by omega⟩
                · exact (hq2.cell xs1 (by intro hm; have := hMX _ hm; omega)).trans y1
                · exact (hq2.cell xs1 (by intro hm; have := hMX _ hm; omega)).trans y2
                · have := hq2.size; omega
            · have d0 : (wh == 0) = false := by simpa using h0
              by_cases h1 : wh = 1
              · subst h1
                obtain ⟨r, hr⟩ : ∃ r, moveErr E A = r := ⟨_, rfl⟩
                obtain ⟨E', hE⟩ : ∃ E', (if r = 0 then A else E) = E' := ⟨_, rfl⟩
                have hEE : E ≤ E' := by
                  rw [← hE]; split
                  · rename_i h; rw [← hr] at h; unfold moveErr at h; (repeat' split at h) <;> omega
                  · exact Int.le_refl _
                have HR := Lib.hid hr; clear hr
                have HE := Lib.hid hE; clear hE
                go_wp2_with fail
                go_region_held3 (fun V => V.cell? ⟨X, 1, none⟩ = some (.int .i64 A) ∧ V.cell? ⟨X, 2, none⟩ = some (.int .i64 B))
                  (first
                    | go_keep
                    | exact ⟨(hq2.cell xs1 (by intro hm; have := hMX _ hm; omega)).trans y1, (hq2.cell xs1 (by intro hm; have := hMX _ hm; omega)).trans y2⟩
                    | exact ⟨(hq1.cell xs (by unfold Own.One; omega)).trans x1, (hq1.cell xs (by unfold Own.One; omega)).trans x2⟩)
                  (first
                    | (go_at_call 12; refine (move_any b window E A _ FP (viewOf L) (HB0.out.none ((Keeps.refl _ _).drew)).sp (fun x hx => viewOf_above L E x HB0.out.top hx) r E' HR.out HE.out).mono ?_; rintro e V1 ⟨rfl, hsp1, hq1⟩; have y1 := (hq1.cell xs (by unfold Own.One; omega)).trans x1; have y2 := (hq1.cell xs (by unfold Own.One; omega)).trans x2; have xs1 : X < V1.heap.size := by have := hq1.size; simp at this; omega)
                    | (go_at_call 23; refine (ref_move_any bw window E A _ M L ((HB0.out.none ((Keeps.refl _ _).drew)).rf.of_keeps hq1 (fun j hj e => HB0.out.mb (by unfold Own.One at e; exact e ▸ hj))) r E' HR.out HE.out).mono ?_; rintro e V2' ⟨rfl, hrf2, hq2⟩))
                go_wp2
                go_meet
                case rel =>
                  refine ⟨rfl, by simp <;> omega, inv_move (HB0.out.none ((Keeps.refl _ _).drew)) hEE hsp1 hq1 hrf2 hq2 hLk hkp0.drew hb0 hM0, ?_, ?_, ?_, by omega⟩
                  · exact (hq2.cell xs1 (by intro hm; have := hMX _ hm; omega)).trans y1
                  · exact (hq2.cell xs1 (by intro hm; have := hMX _ hm; omega)).trans y2
                  · have := hq2.size; omega
              have d1 : (wh == 1) = false := by simpa using h1
              by_cases h2 : wh = 2
              · subst h2
                obtain ⟨p, hp⟩ : ∃ p, clashOf window E A B (viewOf L) = p := ⟨_, rfl⟩
                have c1 := fun V (hV : Both V FP M b bw window E L) => span_clash b window E A B V FP (viewOf L) hV.sp
                have c2 := fun V (hV : Both V FP M b bw window E L) => ref_clash bw window E A B V M L hV.rf (by omega)
                rw [hp] at c1 c2
                have C1 := Lib.hid c1; have C2 := Lib.hid c2
                clear c1 c2 hp
                go_wp2_with (first
                  | (go_at_call 20; refine (C1.out _ HB0.out).mono ?_; rintro e V1 ⟨rfl, hsp1, hq1⟩; have HB1 := Lib.hid (HB0.out.left hsp1 hq1); have y1 := (hq1.cell xs (by unfold Own.One; omega)).trans x1; have y2 := (hq1.cell xs (by unfold Own.One; omega)).trans x2; have xs1 : X < V1.heap.size := (by have := hq1.size; omega))
                  | (go_at_call 24; refine (C2.out _ HB1.out).mono ?_; rintro e V2' ⟨rfl, hq2⟩))
                go_meet
                case rel =>
                  refine ⟨rfl, by simp <;> omega, inv_same (HB1.out.none hq2) (hq1.trans (hq2.mono (fun _ _ x => x.elim))) hLk hkp0 hb0 hM0, ?_, ?_, ?_, by omega⟩
                  · exact (hq2.cell xs1 (fun x => x)).trans y1
                  · exact (hq2.cell xs1 (fun x => x)).trans y2
                  · have := hq2.size; omega
              have d2 : (wh == 2) = false := by simpa using h2
              by_cases h3 : wh = 3
              · subst h3
                obtain ⟨m, hm⟩ : ∃ m : Int, (if 0 < A then A else 0) = m := ⟨_, rfl⟩
                obtain ⟨r, hr⟩ : ∃ r, putErr window E m m = r := ⟨_, rfl⟩
                have hne : (r != 1) = true := by rw [← hr]; exact putErr_ne _ _ _ _
                have HR := Lib.hid hr; clear hr
                by_cases hA : 0 < A
                · obtain rfl : A = m := by simpa [hA] using hm
                  clear hm
                  go_wp2_with (first
                    | (go_at_call 25; refine (ref_copy bw window E _ M L HB0.out.rf (by omega)).mono ?_; rintro e V1 ⟨b2, rfl, hrf1, hq1⟩; have HB1 := Lib.hid (HB0.out.none hq1); have y1 := (hq1.cell xs (fun x => x)).trans x1; have y2 := (hq1.cell xs (fun x => x)).trans x2; have xs1 : X < V1.heap.size := (by have := hq1.size; omega))
                    | (go_at_call 26; refine (span_copy b window E _ FP (viewOf L) HB1.out.sp).mono ?_; rintro e V2' ⟨rfl, hsp2, hold2, hq2, hlt2⟩; have z1 := (hq2.cell xs1 (fun x => x)).trans y1; have z2 := (hq2.cell xs1 (fun x => x)).trans y2; have xs2 : X < V2'.heap.size := (by have := hq2.size; omega))
                    | (go_at_call 14; refine (put_any b window E _ FP (viewOf L) hold2 A A r HR.out).mono ?_; rintro e V3' ⟨rfl, hsp3, hq3⟩))
                  go_meet
                  case rel =>
                    refine ⟨rfl, by simp <;> omega, inv_copy HB0.out hrf1 hq1 hsp2 hq2 hlt2 hq3 hLk hkp0 hb0, ?_, ?_, ?_, by omega⟩
                    · exact (hq3.cell xs2 (by unfold Own.One; omega)).trans z1
                    · exact (hq3.cell xs2 (by unfold Own.One; omega)).trans z2
                    · have := hq3.size; omega
                · obtain rfl : 0 = m := by simpa [hA] using hm
                  clear hm
                  go_wp2_with (first
                    | (go_at_call 25; refine (ref_copy bw window E _ M L HB0.out.rf (by omega)).mono ?_; rintro e V1 ⟨b2, rfl, hrf1, hq1⟩; have HB1 := Lib.hid (HB0.out.none hq1); have y1 := (hq1.cell xs (fun x => x)).trans x1; have y2 := (hq1.cell xs (fun x => x)).trans x2; have xs1 : X < V1.heap.size := (by have := hq1.size; omega))
                    | (go_at_call 26; refine (span_copy b window E _ FP (viewOf L) HB1.out.sp).mono ?_; rintro e V2' ⟨rfl, hsp2, hold2, hq2, hlt2⟩; have z1 := (hq2.cell xs1 (fun x => x)).trans y1; have z2 := (hq2.cell xs1 (fun x => x)).trans y2; have xs2 : X < V2'.heap.size := (by have := hq2.size; omega))
                    | (go_at_call 14; refine (put_any b window E _ FP (viewOf L) hold2 0 0 r HR.out).mono ?_; rintro e V3' ⟨rfl, hsp3, hq3⟩))
                  go_meet
                  case rel =>
                    refine ⟨rfl, by simp <;> omega, inv_copy HB0.out hrf1 hq1 hsp2 hq2 hlt2 hq3 hLk hkp0 hb0, ?_, ?_, ?_, by omega⟩
                    · exact (hq3.cell xs2 (by unfold Own.One; omega)).trans z1
                    · exact (hq3.cell xs2 (by unfold Own.One; omega)).trans z2
                    · have := hq3.size; omega
              · have d3 : (wh == 3) = false := by simpa using h3
                go_wp2
                go_meet
                case rel => exact ⟨rfl, by simp <;> omega, inv_same HB0.out (Keeps.refl _ _) hLk hkp0 hb0 hM0, x1, x2, xs, by omega⟩
          case rest =>
            clear x1 x2 xs HB0 hkp0 hMX hbX HB hkp hb0 hM0 hLk
            obtain ⟨rfl, hne, hinv, y1, y2, ys, yw⟩ := hcut
            obtain ⟨b, bw, FP, M, E, L, rfl, rfl, HB, hLk, hkp, hb0, hM0⟩ := hinv.ex
            clear hinv
            have hbX : b ≠ X := fun e => hne (by rw [e])
            clear hne
            have HB := Lib.hid HB
            have cE := HB.out.rf.cE
            have cW := HB.out.rf.cW
            have e0 := HB.out.rf.e1; have e1 := HB.out.rf.e2
            go_wp2_with fail
            refine (alike_ok b bw window E A L FP M _ HB.out (by omega)).mono ?_
            rintro e V ⟨rfl, HB', hq⟩
            replace y1 := (hq.cell ys (by unfold Own.One; omega)).trans y1
            replace y2 := (hq.cell ys (by unfold Own.One; omega)).trans y2
            replace ys : X < V.heap.size := by have := hq.size; first | omega | (simp at this; omega)
            replace hkp := hkp.then hq (fun i hi x => by unfold Own.One at x; omega)
            clear HB
            have HB := Lib.hid HB'; clear HB' hq
            replace cE := HB.out.rf.cE
            replace cW := HB.out.rf.cW
            go_wp2_with fail
            refine (alike_ok b bw window E B L FP M _ HB.out (by omega)).mono ?_
            rintro e V ⟨rfl, HB', hq⟩
            replace y1 := (hq.cell ys (by unfold Own.One; omega)).trans y1
            replace y2 := (hq.cell ys (by unfold Own.One; omega)).trans y2
            replace ys : X < V.heap.size := by have := hq.size; first | omega | (simp at this; omega)
            replace hkp := hkp.then hq (fun i hi x => by unfold Own.One at x; omega)
            clear HB
            have HB := Lib.hid HB'; clear HB' hq
            replace cE := HB.out.rf.cE
            replace cW := HB.out.rf.cW
            go_wp2_with fail
            refine (alike_ok b bw window E E L FP M _ HB.out (by omega)).mono ?_
            rintro e V ⟨rfl, HB', hq⟩
            replace y1 := (hq.cell ys (by unfold Own.One; omega)).trans y1
            replace y2 := (hq.cell ys (by unfold Own.One; omega)).trans y2
            replace ys : X < V.heap.size := by have := hq.size; first | omega | (simp at this; omega)
            replace hkp := hkp.then hq (fun i hi x => by unfold Own.One at x; omega)
            clear HB
            have HB := Lib.hid HB'; clear HB' hq
            replace cE := HB.out.rf.cE
            replace cW := HB.out.rf.cW
            go_wp2_with fail
            refine (ref_low bw window E _ cW cE hw1 hw2 e0 e1).mono ?_
            rintro e V ⟨rfl, rfl⟩
            replace hkp := hkp.drew
            have HB' := Lib.hid (HB.out.none ((Keeps.refl _ _).drew)); clear HB; have HB := HB'; clear HB'
            replace cE := HB.out.rf.cE
            replace cW := HB.out.rf.cW
            go_wp2_with fail
            refine (alike_ok b bw window E (max 0 (E - window + 1)) L FP M _ HB.out (by omega)).mono ?_
            rintro e V ⟨rfl, HB', hq⟩
            replace y1 := (hq.cell ys (by unfold Own.One; omega)).trans y1
            replace y2 := (hq.cell ys (by unfold Own.One; omega)).trans y2
            replace ys : X < V.heap.size := by have := hq.size; first | omega | (simp at this; omega)
            replace hkp := hkp.then hq (fun i hi x => by unfold Own.One at x; omega)
            clear HB
            have HB := Lib.hid HB'; clear HB' hq
            replace cE := HB.out.rf.cE
            replace cW := HB.out.rf.cW
            go_wp2_with fail
            refine (ref_low bw window E _ cW cE hw1 hw2 e0 e1).mono ?_
            rintro e V ⟨rfl, rfl⟩
            replace hkp := hkp.drew
            have HB' := Lib.hid (HB.out.none ((Keeps.refl _ _).drew)); clear HB; have HB := HB'; clear HB'
            replace cE := HB.out.rf.cE
            replace cW := HB.out.rf.cW
            go_wp2_with fail
            have HLo := Lib.hid hk; clear hk y1 y2 ys yw hbX
            have hE1 : max 0 (E - window + 1) ≤ E + 1 := by omega
            have hE0 : 0 ≤ max 0 (E - window + 1) := by omega
            go_loopg [18] (E + 1 - max 0 (E - window + 1)).toNat (fun g p V => ∃ kk : Int, max 0 (E - window + 1) ≤ kk ∧ kk ≤ E + 1 ∧ g = (E + 1 - kk).toNat ∧ p = .int .i64 kk ∧ Hid (Both V FP M b bw window E L) ∧ Keeps Nob w V)
            case atStart => exact ⟨_, by omega, hE1, rfl, rfl, HB, hkp⟩
            case round =>
              obtain ⟨kk, hl1, hl2, hgk, rfl, HBv, hkp2⟩ := hrel
              have HGK := Lib.hid hgk; clear hgk
              have cE2 := HBv.out.rf.cE
              have cW2 := HBv.out.rf.cW
              clear HB hkp cE cW
              by_cases h1 : kk ≤ E
              · by_cases h2 : kk < max 0 (E - window + 1) + 40
                · go_wp2_with fail
                  refine (ref_low bw window E _ cW2 cE2 hw1 hw2 e0 e1).mono ?_
                  rintro e V ⟨rfl, rfl⟩
                  go_wp2_with fail
                  refine (alike_ok b bw window E kk L FP M _ (HBv.out.none ((Keeps.refl _ _).drew)) (by omega)).mono ?_
                  rintro e V ⟨rfl, HB', hq⟩
                  go_wp2_with fail
                  go_roundg (E + 1 - (kk + 1)).toNat
                  case measure => have := HGK.out; omega
                  case rel => exact ⟨kk + 1, by omega, by omega, rfl, rfl, HB', hkp2.drew.then hq (fun i hi x => by unfold Own.One at x; omega)⟩
                · have d2 : decide (kk < max 0 (E - window + 1) + 40) = false := decide_eq_false h2
                  go_wp2_with fail
                  refine (ref_low bw window E _ cW2 cE2 hw1 hw2 e0 e1).mono ?_
                  rintro e V ⟨rfl, rfl⟩
                  go_wp2_with fail
                  go_roundg (l.length - (k + 1))
                  case measure => have := HG.out; omega
                  case rel => exact ⟨k + 1, by omega, rfl, by go_num, b, bw, FP, M, E, L, rfl, rfl, HBv.out.none ((Keeps.refl _ _).drew), hLk, hkp2.drew, hb0, hM0⟩
              · have d1 : decide (kk ≤ E) = false := decide_eq_false h1
                go_wp2_with fail
                go_roundg (l.length - (k + 1))
                case measure => have := HG.out; omega
                case rel => exact ⟨k + 1, by omega, rfl, by go_num, b, bw, FP, M, E, L, rfl, rfl, HBv.out, hLk, hkp2, hb0, hM0⟩
        · have d1 : decide ((k : Int) < (l.length : Int)) = false := by simp; omega
          go_wp2_with fail
          refine (awake_ok _).mono ?_
          rintro e V ⟨rfl, hq⟩
          go_wp2_with fail
          go_ret
          exact ⟨rfl, hkp.trans hq⟩
    · have hw' : window < 1 ∨ 256 < window := by omega
      clear hv
      go_enter Try.func5, Try.ntmps5
      go_wp2_with (first
        | (go_at_call 16; refine (span_new_no window _ hw').mono ?_; rintro x V1 ⟨rfl, rfl⟩)
        | (go_at_call 21; refine (ref_new_no window _ hw').mono ?_; rintro x V2 ⟨rfl, rfl⟩))
      refine wp_loop_rounds 1 ?_
      rw [rounds_succ]
      go_wp2_with (go_at_call 17; refine (awake_ok _).mono ?_; rintro x V1 ⟨rfl, hq⟩)
      go_ret
      exact ⟨rfl, hq⟩
  · clear hv
    have d : decide ((60 : Int) < (l.length : Int)) = true := by simp; omega
    go_enter Try.func5, Try.ntmps5
    go_wp2_with (go_at_call 17; refine (awake_ok _).mono ?_; rintro x V1 ⟨rfl, hq⟩)
    go_ret
    exact ⟨rfl, hq⟩
end Go.Proofs.Ytkkecoodefjnbaa
