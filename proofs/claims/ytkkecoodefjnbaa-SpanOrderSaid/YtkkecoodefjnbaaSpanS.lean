import Derived.Test.YtkkecoodefjnbaaSpanR
namespace Go.Proofs.Ytkkecoodefjnbaa
open Go Go.RowKit Go.Own Go.Shelf

/-- What votes make of an epoch. -/
def viewOf (L : List (Int × Int)) (e : Int) : Option Int × Option Int := L.foldl (fun p v => putAt v.1 v.2 e p) (none, none)
theorem viewOf_snoc (L : List (Int × Int)) (s t e : Int) : viewOf (L ++ [(s, t)]) e = putAt s t e (viewOf L e) := by simp [viewOf, List.foldl_append]
theorem take_snoc2 (L : List (Int × Int)) (k : Nat) (x : Int × Int) (h : L[k]? = some x) : L.take (k + 1) = L.take k ++ [x] := by
  obtain ⟨hk, he⟩ := List.getElem?_eq_some_iff.1 h
  rw [List.take_succ_eq_append_getElem hk, he]

section
variable (b : Nat) (W E e : Int) (w : World) (M : Nat → Prop) (L : List (Int × Int))

set_option maxHeartbeats 400000 in
theorem ref_in (h : RefSpan w M b W E L) (hin : lowOf W E ≤ e ∧ e ≤ E) :
    Calls Try.prog 40 #[.pointer (some ⟨b, 0, none⟩), .int .i64 e] w fun v w' => v = .returned (.bool true) ∧ w.drew = w' := by
  obtain ⟨h1, h2⟩ := hin
  unfold lowOf at h1
  have c0 := h.cW; have c1 := h.cE; have w0 := h.w1; have w1' := h.w2; have e0 := h.e1; have e1 := h.e2
  clear h
  go_enter Try.func40, Try.ntmps40
  go_wp2_with (go_at_call 28; refine (ref_low b W E _ c0 c1 w0 w1' e0 e1).mono ?_; rintro v V ⟨rfl, rfl⟩)
  go_ret
  exact ⟨rfl, rfl⟩
set_option maxHeartbeats 400000 in
theorem ref_out (h : RefSpan w M b W E L) (hin : ¬ (lowOf W E ≤ e ∧ e ≤ E)) :
    Calls Try.prog 40 #[.pointer (some ⟨b, 0, none⟩), .int .i64 e] w fun v w' => v = .returned (.bool false) ∧ w.drew = w' := by
  have c0 := h.cW; have c1 := h.cE; have w0 := h.w1; have w1' := h.w2; have e0 := h.e1; have e1 := h.e2
  clear h
  by_cases h1 : lowOf W E ≤ e
  · have h2 : ¬ e ≤ E := fun x => hin ⟨h1, x⟩
    clear hin
    unfold lowOf at h1
    go_enter Try.func40, Try.ntmps40
    go_wp2_with (go_at_call 28; refine (ref_low b W E _ c0 c1 w0 w1' e0 e1).mono ?_; rintro v V ⟨rfl, rfl⟩)
    go_ret
    exact ⟨ret_bool (by simp; omega), rfl⟩
  · clear hin
    unfold lowOf at h1
    go_enter Try.func40, Try.ntmps40
    go_wp2_with (go_at_call 28; refine (ref_low b W E _ c0 c1 w0 w1' e0 e1).mono ?_; rintro v V ⟨rfl, rfl⟩)
    go_ret
    exact ⟨rfl, rfl⟩

/-- What the reference reads of one vote. -/
theorem RefSpan.vote {w : World} {M : Nat → Prop} {b : Nat} {W E : Int} {L : List (Int × Int)} (h : RefSpan w M b W E L) :
    ∃ v, w.cell? ⟨b, 2, none⟩ = some v ∧ ((v = .slice none 0 0 ∧ L = []) ∨ ∃ g cap, v = .slice (some ⟨g, 0, none⟩) L.length cap ∧ g < w.heap.size ∧ M g ∧ g ≠ b ∧ L.length ≤ cap ∧ cap ≤ maxLen ∧
      ∀ k s t, L[k]? = some (s, t) → w.cell? ⟨g, k * 2, none⟩ = some (.int .i64 s) ∧ w.cell? ⟨g, k * 2 + 1, none⟩ = some (.int .i64 t)) := by
  obtain ⟨v, c2, ho, hn, hm⟩ := h.row
  refine ⟨v, c2, ?_⟩
  have ho2 := ho
  rcases ho.2 with ⟨rfl, hl⟩ | ⟨g, cap, cur, rfl, hb, hg, hc, hcm, hcs, ht⟩
  · exact .inl ⟨rfl, List.eq_nil_of_length_eq_zero hl⟩
  · refine .inr ⟨g, cap, rfl, Row.lt ho2 rfl, hm g rfl, fun e => hn (by rw [← e]; rfl), hc, hcm, fun k s t hk => ?_⟩
    have hlt : k < L.length := (List.getElem?_eq_some_iff.1 hk).1
    obtain ⟨q1, q2⟩ := flat2_get L k s t hk
    exact ⟨(World.ownsRow.cellAt ho2 (k * 2) (by omega)).trans q1, (World.ownsRow.cellAt ho2 (k * 2 + 1) (by omega)).trans q2⟩

set_option maxHeartbeats 1000000 in
theorem ref_min_out (h : RefSpan w M b W E L) (hin : ¬ (lowOf W E ≤ e ∧ e ≤ E)) :
    Calls Try.prog 34 #[.pointer (some ⟨b, 0, none⟩), .int .i64 e] w fun v w' => v = .returned (.tuple #[.int .i64 0, .bool false]) ∧ Keeps Nob w w' := by
  obtain ⟨v, c2, hv⟩ := h.vote
  rcases hv with ⟨rfl, rfl⟩ | ⟨g, cap, rfl, hg, hgM, hgb, hcap, hcm, hcells⟩
  · go_enter Try.func34, Try.ntmps34
    go_wp2
    refine wp_loop_rounds 1 ?_
    rw [rounds_succ]
    go_wp2
    go_ret2
    exact ⟨rfl, Keeps.refl _ _⟩
  · clear hcells
    by_cases h0 : 0 < L.length
    · go_enter Try.func34, Try.ntmps34
      go_wp2
      refine wp_loop_rounds 1 ?_
      rw [rounds_succ]
      go_wp2_with (go_at_call 40; refine (ref_out b W E e _ M L h hin).mono ?_; rintro v V ⟨rfl, rfl⟩)
      go_ret2
      exact ⟨rfl, (Keeps.refl _ _).drew⟩
    · have h1 : decide (0 < L.length) = false := decide_eq_false h0
      go_enter Try.func34, Try.ntmps34
      go_wp2
      refine wp_loop_rounds 1 ?_
      rw [rounds_succ]
      go_wp2
      go_ret2
      exact ⟨rfl, Keeps.refl _ _⟩

set_option maxHeartbeats 2000000 in
theorem ref_min_in (h : RefSpan w M b W E L) (hin : lowOf W E ≤ e ∧ e ≤ E) (hL : L.length ≤ 1000000) :
    Calls Try.prog 34 #[.pointer (some ⟨b, 0, none⟩), .int .i64 e] w fun v w' => v = .returned (.tuple #[.int .i64 ((viewOf L e).1.getD 0), .bool (viewOf L e).1.isSome]) ∧ Keeps Nob w w' := by
  obtain ⟨v, c2, hv⟩ := h.vote
  rcases hv with ⟨rfl, rfl⟩ | ⟨g, cap, rfl, hg, hgM, hgb, hcap, hcm, hcells⟩
  · go_enter Try.func34, Try.ntmps34
    go_wp2
    refine wp_loop_rounds 1 ?_
    rw [rounds_succ]
    go_wp2
    go_ret2
    exact ⟨rfl, Keeps.refl _ _⟩
  · have HC := Lib.hid hcells; clear hcells
    have hb : b < w.heap.size := h.ml b h.mb
    unfold maxLen at hcm
    go_enter Try.func34, Try.ntmps34
    go_wp2
    go_loopw [6, 7, 8] (fun n is i wr => ∃ k : Nat, k ≤ L.length ∧ i = .int .i64 k ∧ n = .int .i64 ((viewOf (L.take k) e).1.getD 0) ∧ is = .bool (viewOf (L.take k) e).1.isSome ∧ Keeps Nob w wr) (fun _ _ i _ => L.length - (intOf i).toNat)
    case atStart => exact ⟨0, by omega, rfl, rfl, rfl, Keeps.refl _ _⟩
    case round =>
      obtain ⟨k, hk, rfl, rfl, rfl, hkp⟩ := hrel
      have hw2 := (hkp.cell (i := 2) hb (fun x => x)).trans c2
      have hr := h.of_keeps hkp (fun _ _ x => x)
      by_cases hlt : k < L.length
      · obtain ⟨⟨s, t⟩, hst⟩ : ∃ x, L[k]? = some x := ⟨L[k], List.getElem?_eq_getElem hlt⟩
        obtain ⟨q1, q2⟩ := HC.out k s t hst
        have p1 := (hkp.cell (i := k * 2) hg (fun x => x)).trans q1
        have p2 := (hkp.cell (i := k * 2 + 1) hg (fun x => x)).trans q2
        clear q1 q2
        have hts : viewOf (L.take (k + 1)) e = putAt s t e (viewOf (L.take k) e) := by rw [take_snoc2 L k _ hst, viewOf_snoc]
        have HT := Lib.hid hts; clear hts hst
        have HKP := Lib.hid hkp; clear hkp
        obtain ⟨o, ho⟩ : ∃ o, o = (viewOf (L.take k) e).1 := ⟨_, rfl⟩
        rw [← ho]
        have HO := Lib.hid ho; clear ho
        have done : ∀ o', (putAt s t e (viewOf (L.take k) e)).1 = o' → o' = (viewOf (L.take (k + 1)) e).1 := fun o' h => by rw [HT.out, h]
        have HD := Lib.hid done; clear done
        by_cases g1 : e < s
        · cases o with
          | none =>
            have HN := Lib.hid (HD.out (some t) (by simp [putAt, g1, ← HO.out, optMin]))
            clear HD
            go_wp2_with (go_at_call 40; refine (ref_in b W E e _ M L hr hin).mono ?_; rintro v V ⟨rfl, rfl⟩)
            go_roundw
            case rel => exact ⟨k + 1, by omega, by go_num, by rw [← HN.out] <;> rfl, by rw [← HN.out] <;> rfl, ((HKP.out.drew).alloc _)⟩
            case measure => simp only [intOf]; omega
          | some m =>
            by_cases g2 : t < m
            · skip
              have HN := Lib.hid (HD.out (some t) (by simp [putAt, g1, ← HO.out, optMin, g2]))
              clear HD
              go_wp2_with (go_at_call 40; refine (ref_in b W E e _ M L hr hin).mono ?_; rintro v V ⟨rfl, rfl⟩)
              go_roundw
              case rel => exact ⟨k + 1, by omega, by go_num, by rw [← HN.out] <;> rfl, by rw [← HN.out] <;> rfl, ((HKP.out.drew).alloc _)⟩
              case measure => simp only [intOf]; omega
            · have g3 : decide (t < m) = false := by simpa using g2
              have HN := Lib.hid (HD.out (some m) (by simp [putAt, g1, ← HO.out, optMin, g2]))
              clear HD
              go_wp2_with (go_at_call 40; refine (ref_in b W E e _ M L hr hin).mono ?_; rintro v V ⟨rfl, rfl⟩)
              go_roundw
              case rel => exact ⟨k + 1, by omega, by go_num, by rw [← HN.out] <;> rfl, by rw [← HN.out] <;> rfl, ((HKP.out.drew).alloc _)⟩
              case measure => simp only [intOf]; omega
        · have g3 : decide (e < s) = false := by simpa using g1
          have HN := Lib.hid (HD.out (o) (by simp only [putAt, g1, if_false]; split <;> exact HO.out.symm))
          clear HD
          go_wp2_with (go_at_call 40; refine (ref_in b W E e _ M L hr hin).mono ?_; rintro v V ⟨rfl, rfl⟩)
          go_roundw
          case rel => exact ⟨k + 1, by omega, by go_num, by rw [← HN.out] <;> rfl, by rw [← HN.out] <;> rfl, ((HKP.out.drew).alloc _)⟩
          case measure => simp only [intOf]; omega
      · have hle : L.length = k := by omega
        have h1 : decide ((k : Int) < (L.length : Int)) = false := by simp; omega
        have hfin : L.take k = L := List.take_of_length_le (by omega)
        have HF := Lib.hid hfin; clear hfin
        have HKP := Lib.hid hkp; clear hkp hle
        go_wp2_with fail
        go_ret2
        rw [HF.out]
        exact ⟨rfl, HKP.out⟩

theorem ref_min (h : RefSpan w M b W E L) (hL : L.length ≤ 1000000) :
    Calls Try.prog 34 #[.pointer (some ⟨b, 0, none⟩), .int .i64 e] w fun v w' => v = .returned (.tuple #[.int .i64 (tellOf W E e (viewOf L e).1).1, .bool (tellOf W E e (viewOf L e).1).2]) ∧ Keeps Nob w w' := by
  by_cases hin : lowOf W E ≤ e ∧ e ≤ E
  · have ht : tellOf W E e (viewOf L e).1 = ((viewOf L e).1.getD 0, (viewOf L e).1.isSome) := by simp [tellOf, hin]
    rw [ht]; exact ref_min_in b W E e w M L h hin hL
  · have ht : tellOf W E e (viewOf L e).1 = (0, false) := by simp [tellOf, hin]
    rw [ht]; exact ref_min_out b W E e w M L h hin

set_option maxHeartbeats 1000000 in
theorem ref_max_out (h : RefSpan w M b W E L) (hin : ¬ (lowOf W E ≤ e ∧ e ≤ E)) :
    Calls Try.prog 35 #[.pointer (some ⟨b, 0, none⟩), .int .i64 e] w fun v w' => v = .returned (.tuple #[.int .i64 0, .bool false]) ∧ Keeps Nob w w' := by
  obtain ⟨v, c2, hv⟩ := h.vote
  rcases hv with ⟨rfl, rfl⟩ | ⟨g, cap, rfl, hg, hgM, hgb, hcap, hcm, hcells⟩
  · go_enter Try.func35, Try.ntmps35
    go_wp2
    refine wp_loop_rounds 1 ?_
    rw [rounds_succ]
    go_wp2
    go_ret2
    exact ⟨rfl, Keeps.refl _ _⟩
  · clear hcells
    by_cases h0 : 0 < L.length
    · go_enter Try.func35, Try.ntmps35
      go_wp2
      refine wp_loop_rounds 1 ?_
      rw [rounds_succ]
      go_wp2_with (go_at_call 40; refine (ref_out b W E e _ M L h hin).mono ?_; rintro v V ⟨rfl, rfl⟩)
      go_ret2
      exact ⟨rfl, (Keeps.refl _ _).drew⟩
    · have h1 : decide (0 < L.length) = false := decide_eq_false h0
      go_enter Try.func35, Try.ntmps35
      go_wp2
      refine wp_loop_rounds 1 ?_
      rw [rounds_succ]
      go_wp2
      go_ret2
      exact ⟨rfl, Keeps.refl _ _⟩

set_option maxHeartbeats 2000000 in
theorem ref_max_in (h : RefSpan w M b W E L) (hin : lowOf W E ≤ e ∧ e ≤ E) (hL : L.length ≤ 1000000) :
    Calls Try.prog 35 #[.pointer (some ⟨b, 0, none⟩), .int .i64 e] w fun v w' => v = .returned (.tuple #[.int .i64 ((viewOf L e).2.getD 0), .bool (viewOf L e).2.isSome]) ∧ Keeps Nob w w' := by
  obtain ⟨v, c2, hv⟩ := h.vote
  rcases hv with ⟨rfl, rfl⟩ | ⟨g, cap, rfl, hg, hgM, hgb, hcap, hcm, hcells⟩
  · go_enter Try.func35, Try.ntmps35
    go_wp2
    refine wp_loop_rounds 1 ?_
    rw [rounds_succ]
    go_wp2
    go_ret2
    exact ⟨rfl, Keeps.refl _ _⟩
  · have HC := Lib.hid hcells; clear hcells
    have hb : b < w.heap.size := h.ml b h.mb
    unfold maxLen at hcm
    go_enter Try.func35, Try.ntmps35
    go_wp2
    go_loopw [6, 7, 8] (fun n is i wr => ∃ k : Nat, k ≤ L.length ∧ i = .int .i64 k ∧ n = .int .i64 ((viewOf (L.take k) e).2.getD 0) ∧ is = .bool (viewOf (L.take k) e).2.isSome ∧ Keeps Nob w wr) (fun _ _ i _ => L.length - (intOf i).toNat)
    case atStart => exact ⟨0, by omega, rfl, rfl, rfl, Keeps.refl _ _⟩
    case round =>
      obtain ⟨k, hk, rfl, rfl, rfl, hkp⟩ := hrel
      have hw2 := (hkp.cell (i := 2) hb (fun x => x)).trans c2
      have hr := h.of_keeps hkp (fun _ _ x => x)
      by_cases hlt : k < L.length
      · obtain ⟨⟨s, t⟩, hst⟩ : ∃ x, L[k]? = some x := ⟨L[k], List.getElem?_eq_getElem hlt⟩
        obtain ⟨q1, q2⟩ := HC.out k s t hst
        have p1 := (hkp.cell (i := k * 2) hg (fun x => x)).trans q1
        have p2 := (hkp.cell (i := k * 2 + 1) hg (fun x => x)).trans q2
        clear q1 q2
        have hts : viewOf (L.take (k + 1)) e = putAt s t e (viewOf (L.take k) e) := by rw [take_snoc2 L k _ hst, viewOf_snoc]
        have HT := Lib.hid hts; clear hts hst
        have HKP := Lib.hid hkp; clear hkp
        obtain ⟨o, ho⟩ : ∃ o, o = (viewOf (L.take k) e).2 := ⟨_, rfl⟩
        rw [← ho]
        have HO := Lib.hid ho; clear ho
        have done : ∀ o', (putAt s t e (viewOf (L.take k) e)).2 = o' → o' = (viewOf (L.take (k + 1)) e).2 := fun o' h => by rw [HT.out, h]
        have HD := Lib.hid done; clear done
        by_cases g1 : s < e
        · have g4 : ¬ e < s := by omega
          by_cases g5 : e < t
          · cases o with
            | none =>
              have HN := Lib.hid (HD.out (some t) (by simp [putAt, g1, g4, g5, ← HO.out, optMax]))
              clear HD
              go_wp2_with (go_at_call 40; refine (ref_in b W E e _ M L hr hin).mono ?_; rintro v V ⟨rfl, rfl⟩)
              go_roundw
              case rel => exact ⟨k + 1, by omega, by go_num, by rw [← HN.out] <;> rfl, by rw [← HN.out] <;> rfl, ((HKP.out.drew).alloc _)⟩
              case measure => simp only [intOf]; omega
            | some m =>
              by_cases g2 : m < t
              · skip
                have HN := Lib.hid (HD.out (some t) (by simp [putAt, g1, g4, g5, ← HO.out, optMax, g2]))
                clear HD
                go_wp2_with (go_at_call 40; refine (ref_in b W E e _ M L hr hin).mono ?_; rintro v V ⟨rfl, rfl⟩)
                go_roundw
                case rel => exact ⟨k + 1, by omega, by go_num, by rw [← HN.out] <;> rfl, by rw [← HN.out] <;> rfl, ((HKP.out.drew).alloc _)⟩
                case measure => simp only [intOf]; omega
              · have g3 : decide (m < t) = false := by simpa using g2
                have HN := Lib.hid (HD.out (some m) (by simp [putAt, g1, g4, g5, ← HO.out, optMax, g2]))
                clear HD
                go_wp2_with (go_at_call 40; refine (ref_in b W E e _ M L hr hin).mono ?_; rintro v V ⟨rfl, rfl⟩)
                go_roundw
                case rel => exact ⟨k + 1, by omega, by go_num, by rw [← HN.out] <;> rfl, by rw [← HN.out] <;> rfl, ((HKP.out.drew).alloc _)⟩
                case measure => simp only [intOf]; omega
          · have g3 : decide (e < t) = false := by simpa using g5
            have HN := Lib.hid (HD.out (o) (by simp only [putAt, g4, g5, if_false, and_false]; exact HO.out.symm))
            clear HD
            go_wp2_with (go_at_call 40; refine (ref_in b W E e _ M L hr hin).mono ?_; rintro v V ⟨rfl, rfl⟩)
            go_roundw
            case rel => exact ⟨k + 1, by omega, by go_num, by rw [← HN.out] <;> rfl, by rw [← HN.out] <;> rfl, ((HKP.out.drew).alloc _)⟩
            case measure => simp only [intOf]; omega
        · have g3 : decide (s < e) = false := by simpa using g1
          have HN := Lib.hid (HD.out (o) (by simp only [putAt, g1, false_and, if_false]; split <;> exact HO.out.symm))
          clear HD
          go_wp2_with (go_at_call 40; refine (ref_in b W E e _ M L hr hin).mono ?_; rintro v V ⟨rfl, rfl⟩)
          go_roundw
          case rel => exact ⟨k + 1, by omega, by go_num, by rw [← HN.out] <;> rfl, by rw [← HN.out] <;> rfl, ((HKP.out.drew).alloc _)⟩
          case measure => simp only [intOf]; omega
      · have hle : L.length = k := by omega
        have h1 : decide ((k : Int) < (L.length : Int)) = false := by simp; omega
        have hfin : L.take k = L := List.take_of_length_le (by omega)
        have HF := Lib.hid hfin; clear hfin
        have HKP := Lib.hid hkp; clear hkp hle
        go_wp2_with fail
        go_ret2
        rw [HF.out]
        exact ⟨rfl, HKP.out⟩

theorem ref_max (h : RefSpan w M b W E L) (hL : L.length ≤ 1000000) :
    Calls Try.prog 35 #[.pointer (some ⟨b, 0, none⟩), .int .i64 e] w fun v w' => v = .returned (.tuple #[.int .i64 (tellOf W E e (viewOf L e).2).1, .bool (tellOf W E e (viewOf L e).2).2]) ∧ Keeps Nob w w' := by
  by_cases hin : lowOf W E ≤ e ∧ e ≤ E
  · have ht : tellOf W E e (viewOf L e).2 = ((viewOf L e).2.getD 0, (viewOf L e).2.isSome) := by simp [tellOf, hin]
    rw [ht]; exact ref_max_in b W E e w M L h hin hL
  · have ht : tellOf W E e (viewOf L e).2 = (0, false) := by simp [tellOf, hin]
    rw [ht]; exact ref_max_out b W E e w M L h hin

end
end Go.Proofs.Ytkkecoodefjnbaa
