import Derived.Test.YtkkecoodefjnbaaSpanN
import Derived.Test.YtkkecoodefjnbaaSpanJ
namespace Go.Proofs.Ytkkecoodefjnbaa
open Go Go.RowKit Go.Own Go.Shelf

/-- What is read of one vote that was put. -/
theorem PlayedAt.vote {w : World} {FP M : Nat → Prop} {bp b : Nat} {W E : Int} {L : List (Int × Int)} (h : PlayedAt w FP M bp b W E L) :
    ∃ v, w.cell? ⟨bp, 1, none⟩ = some v ∧ ((v = .slice none 0 0 ∧ L = []) ∨ ∃ g cap, v = .slice (some ⟨g, 0, none⟩) L.length cap ∧ g < w.heap.size ∧ M g ∧ g ≠ bp ∧ L.length ≤ cap ∧ cap ≤ maxLen ∧
      ∀ k s t, L[k]? = some (s, t) → w.cell? ⟨g, k * 2, none⟩ = some (.int .i64 s) ∧ w.cell? ⟨g, k * 2 + 1, none⟩ = some (.int .i64 t)) := by
  obtain ⟨v, c2, ho, hn, hm⟩ := h.row
  refine ⟨v, c2, ?_⟩
  have ho2 := ho
  rcases ho.2 with ⟨rfl, hl⟩ | ⟨g, cap, cur, rfl, hb, hg, hc, hcm, hcs, ht⟩
  · exact .inl ⟨rfl, List.eq_nil_of_length_eq_zero hl⟩
  · refine .inr ⟨g, cap, rfl, Row.lt ho2 rfl, hm g rfl, fun e => hn (by rw [← e]; rfl), hc, hcm, fun k s t hk => ?_⟩
    have hlt : k < L.length := (List.getElem?_eq_some_iff.1 hk).1
    obtain ⟨q1, q2⟩ := flat2_get L k s t hk
    exact ⟨(World.ownsRow.cellAt ho2 (k * 2) (by omega)).trans q1, (World.ownsRow.cellAt ho2 (k * 2 + 1) (by omega)).trans q2⟩

set_option maxRecDepth 100000 in
set_option maxHeartbeats 4000000 in
theorem finds_ok (a0 : Int) (w0 : (Lit.int .i64 a0).wf = true) (v : Value) (l : List Int) (a2 : Int) (w2 : (Lit.int .i64 a2).wf = true) (a3 : Int) (w3 : (Lit.int .i64 a3).wf = true) (w : World) (hv : IntsAt w v l) :
    Calls Try.prog 4 #[.int .i64 a0, v, .int .i64 a2, .int .i64 a3] w fun e w' => e = .returned (.bool true) ∧ Keeps Nob w w' := by
  obtain ⟨p, cap, rfl⟩ := hv.len
  by_cases hl : l.length ≤ 80
  · have W1 : 0 ≤ a0 % 12 := by omega
    have W2 : a0 % 12 < 12 := by omega
    have PK0 := Lib.hid (fun V => pick_ok a0 12 V (bounds_i64 w0) (by omega) (by omega))
    have HV := Lib.hid hv
    clear hv
    obtain ⟨p0, hp0⟩ : ∃ p0, a0 % 12 = p0 := ⟨_, rfl⟩
    rw [hp0] at W1 W2 PK0
    go_enter Try.func4, Try.ntmps4
    go_wp2_with (first
      | (go_at_call 3; refine (known_ok _).mono ?_; rintro e V0 ⟨rfl, hk0⟩)
      | (go_at_call 18; refine (PK0.out _).mono ?_; rintro e V1 ⟨rfl, rfl⟩)
      | (go_at_call 19; refine (plays_ok (1 + p0) (by omega) (by omega) _ l _ hl (HV.out.keeps hk0)).mono ?_; rintro e V2 ⟨bp, b, FP, M, E, L, rfl, HP, hLn, hE, hk2, hb, hM⟩))
    generalize 1 + p0 = W at *
    have hW1 := HP.sp.w1
    have hE0 := HP.sp.e1
    obtain ⟨lo, hlo⟩ : ∃ lo, max 0 (E - W + 1) = lo := ⟨_, rfl⟩
    have hl0 : 0 ≤ lo := by omega
    have hl1 : lo ≤ E := by omega
    have hle : lo ≤ lowOf W E ∧ lowOf W E ≤ lo := by unfold lowOf; omega
    have m1 : 0 ≤ a2 % (E - lo + 1) := Int.emod_nonneg _ (by omega)
    have m2 : a2 % (E - lo + 1) < E - lo + 1 := Int.emod_lt_of_pos _ (by omega)
    have PK2 := Lib.hid (fun V => pick_ok a2 (E - lo + 1) V (bounds_i64 w2) (by omega) (by omega))
    obtain ⟨p2, hp2⟩ : ∃ p2, a2 % (E - lo + 1) = p2 := ⟨_, rfl⟩
    rw [hp2] at m1 m2 PK2
    have m3 : 0 ≤ a3 % (E - (lo + p2) + 1) := Int.emod_nonneg _ (by omega)
    have m4 : a3 % (E - (lo + p2) + 1) < E - (lo + p2) + 1 := Int.emod_lt_of_pos _ (by omega)
    have PK3 := Lib.hid (fun V => pick_ok a3 (E - (lo + p2) + 1) V (bounds_i64 w3) (by omega) (by omega))
    obtain ⟨p3, hp3⟩ : ∃ p3, a3 % (E - (lo + p2) + 1) = p3 := ⟨_, rfl⟩
    rw [hp3] at m3 m4 PK3
    clear hp2 hp3
    have cells := HP.sp.cells
    have cc0 := HP.c0
    have LOW := Lib.hid (fun V (h : V.cell? ⟨b, 0, none⟩ = some (.int .i64 W)) (h1 : V.cell? ⟨b, 1, none⟩ = some (.int .i64 E)) => span_low b W E V h h1 cells.2.2.1 HP.sp.w1 HP.sp.w2 HP.sp.e1 HP.sp.e2)
    rw [hlo] at LOW
    clear hlo
    have hwb : w.heap.size ≤ b := Nat.le_trans hk0.size hb
    have HPH := Lib.hid HP
    have HKH := Lib.hid (hk0.trans hk2)
    obtain ⟨v, c1, hv⟩ := HP.vote
    have hb1 : bp < V2.heap.size := HP.ml _ HP.mp
    have hb2 : b < V2.heap.size := cells.2.2.2.1
    clear HP hk0 hk2 
    obtain ⟨src, hsrc⟩ : ∃ src, lo + p2 = src := ⟨_, rfl⟩
    obtain ⟨tgt, htgt⟩ : ∃ tgt, src + p3 = tgt := ⟨_, rfl⟩
    rw [hsrc] at PK3 m4
    have hs1 : lo ≤ src := by omega
    have hs2 : src ≤ E := by omega
    have hs3 : src ≤ tgt := by omega
    have hs4 : tgt ≤ E := by omega
    go_wp2_with fail
    go_quiet (first | (go_at_call 13; exact Calls.quiet_drew (LOW.out _ cells.1 cells.2.1)) | (go_at_call 15; exact Calls.quiet_eq (span_epoch b W E _ cells.1 cells.2.1 cells.2.2.1)) | (go_at_call 18; exact Calls.quiet_eq (PK2.out _)))
    go_wp2_with (first
      | (go_at_call 15; refine (span_epoch b W E (V2.drewN nq) cells.1 cells.2.1 cells.2.2.1).mono ?_; rintro e V ⟨rfl, rfl⟩)
      | (go_at_call 18; refine (PK3.out _).mono ?_; rintro e V ⟨rfl, rfl⟩))
    have hk3 : Keeps Nob V2 (V2.drewN nq) := (Keeps.refl _ _).drewN _
    have HP3 := Lib.hid (HPH.out.keep hk3)
    have HK3 := Lib.hid (HKH.out.trans hk3)
    have hb1 : bp < (V2.drewN nq).heap.size := hb1
    have c1 : (V2.drewN nq).cell? ⟨bp, 1, none⟩ = some v := c1
    clear hb2 HPH HKH
    have hv : v = Value.slice none 0 0 ∧ L = [] ∨ ∃ g cap, v = Value.slice (some ⟨g, 0, none⟩) L.length cap ∧ g < (V2.drewN nq).heap.size ∧ M g ∧ g ≠ bp ∧ L.length ≤ cap ∧ cap ≤ maxLen ∧
      ∀ (k : Nat) (s t : Int), L[k]? = some (s, t) → (V2.drewN nq).cell? ⟨g, k * 2, none⟩ = some (.int .i64 s) ∧ (V2.drewN nq).cell? ⟨g, k * 2 + 1, none⟩ = some (.int .i64 t) := hv
    clear hk3
    generalize V2.drewN nq = V3 at *
    have HH := Lib.hid (clash_found W E src tgt L (by omega) hs2 hs3 HP3.out.fit (by omega))
    go_loopg [11, 12, 13, 14] L.length (fun g a b c i V => ∃ k : Nat, k ≤ L.length ∧ g = L.length - k ∧ i = .int .i64 k ∧ ∃ A B C, a = .int .i64 A ∧ b = .int .i64 B ∧ c = .int .i64 C ∧ Hid (found src tgt (viewOf (L.take k) src) = (A, B, C)) ∧ Keeps Nob V3 V)
    case atStart => exact ⟨0, by omega, rfl, rfl, _, _, _, rfl, rfl, rfl, Lib.hid (by simp [viewOf, found]), Keeps.refl _ _⟩
    case round =>
      obtain ⟨k, hk, hg, rfl, A, B, C, rfl, rfl, rfl, HF, hkp⟩ := hrel
      have HG := Lib.hid hg; clear hg
      have c2 := (hkp.cell hb1 (fun x => x)).trans c1
      have cc := (HP3.out.keep hkp).c0
      have HSP := (HP3.out.keep hkp).sp
      have HS := Lib.hid HSP; clear HSP
      by_cases hlt : k < L.length
      · rcases hv with ⟨_, rfl⟩ | ⟨gb, cap2, rfl, hgb, _, _, hcap, hcm, hcells⟩
        · simp at hlt
        · unfold maxLen at hcm
          obtain ⟨⟨s, t⟩, hst⟩ : ∃ x, L[k]? = some x := ⟨L[k], List.getElem?_eq_getElem hlt⟩
          obtain ⟨q1, q2⟩ := hcells k s t hst
          have p1 := (hkp.cell (i := k * 2) hgb (fun x => x)).trans q1
          have p2 := (hkp.cell (i := k * 2 + 1) hgb (fun x => x)).trans q2
          clear q1 q2 hcells
          have hfit := HP3.out.fit (s, t) (List.mem_of_getElem? hst)
          have hpos := view_pos (L.take k) src (by omega) (fun u hu => HP3.out.fit u (List.mem_of_mem_take hu))
          have hts : found src tgt (viewOf (L.take (k + 1)) src) = ((if src < s ∧ t < tgt then 1 else A), (if s < src ∧ tgt < t then max B t else B), (if src < s ∧ (C = 0 ∨ t < C) then t else C)) := by
            rw [take_snoc2 L k _ hst, viewOf_snoc, found_step src tgt s t _ (by omega) hs3 hfit.1 hfit.2 hpos.1 hpos.2, HF.out]
          have HT := Lib.hid hts; clear hts hst hpos HF
          have key : (src < s ∧ C = 0 ∧ t < tgt) ∨ (src < s ∧ C = 0 ∧ decide (t < tgt) = false) ∨ (src < s ∧ C ≠ 0 ∧ t < C ∧ t < tgt) ∨ (src < s ∧ C ≠ 0 ∧ t < C ∧ decide (t < tgt) = false) ∨ (src < s ∧ C ≠ 0 ∧ decide (t < C) = false ∧ t < tgt) ∨ (src < s ∧ C ≠ 0 ∧ decide (t < C) = false ∧ decide (t < tgt) = false) ∨
            (decide (src < s) = false ∧ s < src ∧ tgt < t ∧ t ≤ B) ∨ (decide (src < s) = false ∧ s < src ∧ tgt < t ∧ ¬ t ≤ B) ∨ (decide (src < s) = false ∧ s < src ∧ decide (tgt < t) = false ∧ src ≤ tgt) ∨ (decide (src < s) = false ∧ decide (s < src) = false) := by
            simp only [decide_eq_false_iff_not]; omega
          rcases key with ⟨k1, k2, k3⟩ | ⟨k1, k2, k3⟩ | ⟨k1, k2, k3, k4⟩ | ⟨k1, k2, k3, k4⟩ | ⟨k1, k2, k3, k4⟩ | ⟨k1, k2, k3, k4⟩ | ⟨k1, k2, k3, k4⟩ | ⟨k1, k2, k3, k4⟩ | ⟨k1, k2, k3, _⟩ | ⟨k1, k2⟩
          all_goals
            go_wp2_with fail
            go_roundg (L.length - (k + 1))
            case measure => have := HG.out; omega
            case rel =>
              refine ⟨k + 1, by omega, rfl, by go_num, _, _, _, rfl, rfl, rfl, Lib.hid ?_, hkp.alloc _⟩
              rw [HT.out]
              try simp only [decide_eq_false_iff_not] at *
              simp only [Prod.mk.injEq]
              refine ⟨?_, ?_, ?_⟩ <;> (split <;> omega)
      · have h1 : decide ((k : Int) < (L.length : Int)) = false := by simp; omega
        have hfin : L.take k = L := List.take_of_length_le (by omega)
        have hF := HF.out
        rw [hfin] at hF
        have hlen : ∃ o cp, v = .slice o L.length cp := by
          rcases hv with ⟨rfl, rfl⟩ | ⟨gb, cap2, rfl, _⟩
          · exact ⟨_, _, rfl⟩
          · exact ⟨_, _, rfl⟩
        obtain ⟨o, cp, rfl⟩ := hlen
        obtain ⟨z1, z2, z3⟩ := HH.out
        rw [hF] at z1 z2 z3
        simp only at z1 z2 z3
        have CL := fun V (hV : SpanView V FP b W E (viewOf L)) => span_clash b W E src tgt V FP _ hV
        have key : (0 < A ∧ True ∧ (clashOf W E src tgt (viewOf L)).1 = 3 ∧ (clashOf W E src tgt (viewOf L)).2 = C ∧ C < tgt) ∨ (¬ 0 < A ∧ 0 < B ∧ (clashOf W E src tgt (viewOf L)).1 = 4 ∧ (clashOf W E src tgt (viewOf L)).2 = B ∧ True) ∨ (¬ 0 < A ∧ ¬ 0 < B ∧ (clashOf W E src tgt (viewOf L)).1 = 0 ∧ (clashOf W E src tgt (viewOf L)).2 = 0 ∧ True) := by
          by_cases x : 0 < A
          · obtain ⟨y1, y2, y3⟩ := z1 x
            exact .inl ⟨x, trivial, y1, y2, by rw [← y2]; exact y3⟩
          · by_cases y : 0 < B
            · obtain ⟨y1, y2⟩ := z2 x y
              exact .inr (.inl ⟨x, y, y1, y2, trivial⟩)
            · obtain ⟨y1, y2⟩ := z3 x y
              exact .inr (.inr ⟨x, y, y1, y2, trivial⟩)
        clear z1 z2 z3
        rcases key with ⟨k1, k2, k3, k4, k5⟩ | ⟨k1, k2, k3, k4, k5⟩ | ⟨k1, k2, k3, k4, k5⟩
        all_goals
          rw [k3, k4] at CL
          have CL2 := Lib.hid CL
          clear CL k3 k4
          go_wp2_with (go_at_call 20; refine (CL2.out _ HS.out).mono ?_; rintro e V ⟨rfl, _, hkc⟩)
          go_ret
          exact ⟨rfl, (HK3.out.trans hkp).then hkc (fun i hi x => by unfold Own.One at x; omega)⟩
  · go_enter Try.func4, Try.ntmps4
    go_wp2_with (first
      | (go_at_call 3; refine (known_ok _).mono ?_; rintro e V0 ⟨rfl, hk0⟩))
    go_ret
    exact ⟨rfl, hk0⟩
end Go.Proofs.Ytkkecoodefjnbaa
