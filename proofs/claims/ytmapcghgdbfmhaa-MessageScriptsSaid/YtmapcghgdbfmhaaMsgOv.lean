/-
  Lists of byte slices, written over (printed by msg17.py). Conditions: none.
-/
import Derived.Test.YtmapcghgdbfmhaaMsgU
namespace Go.Proofs.Ytmapcghgdbfmhaa
open Go Go.RowKit Go.Own Go.Shelf
/-- From i on, each is a row of its own. -/
def Ovr (w : World) (N : Nat) (xs : List Value) (i : Nat) : Prop := ∀ (k : Nat) (u : Value), i ≤ k → xs[k]? = some u → ∃ l : List UInt8, Row w 5 1 u l.length (B l) ∧ NewFrom N u
theorem Ovr.keepsN {w w' : World} {N i : Nat} {xs : List Value} (h : Ovr w N xs i) (k : Keeps Nob w w') : Ovr w' N xs i := fun j u hj hu => by
  obtain ⟨l, hr, hn⟩ := h j u hj hu; exact ⟨l, hr.keeps k (fun _ _ x => x), hn⟩
theorem Ovr.keepsT {w w' : World} {N g i : Nat} {xs : List Value} {cs : Array Value} {T : TypeId} {fr : Nat × Nat} (h : Ovr w N xs i) (k : Keeps (One g) w w') (hg : w.heap[g]? = some (.cells cs T fr)) (hne : 5 ≠ T) : Ovr w' N xs i := fun j u hj hu => by
  obtain ⟨l, hr, hn⟩ := h j u hj hu; exact ⟨l, hr.keeps k (fun j hj e => Row.ne hr hg hne ((show j = g from e) ▸ hj)), hn⟩
theorem Ovr.over {w w' : World} {N i : Nat} {xs : List Value} {x : Value} (h : Ovr w N xs i) (hA : Apart xs) (hx : xs[i]? = some x) (k : Keeps (fun j => x.ownBlock = some j) w w') : Ovr w' N xs (i + 1) := fun j u hj hu => by
  obtain ⟨l, hr, hn⟩ := h j u (by omega) hu
  exact ⟨l, hr.keeps k (fun b hb e => hA i j x u hx hu (by omega) b e hb), hn⟩

noncomputable def part_kOverLists (n : Nat) : Code := partOf Try.f34 n
noncomputable abbrev o_kOverLists (n k : Nat) : Oper := (opsAt (part_kOverLists n)).getD k default
set_option maxRecDepth 100000 in
set_option maxHeartbeats 4000000 in
theorem kOverLists_at (g cap n N : Nat) (cs0 : Array Value) (xs : List Value) (w : World) (h0 : w.heap[g]? = some (.cells cs0 22 (0, 0))) (hn : xs.length = n) (hm : n ≤ 9223372036854775807) (hcs0 : ∀ (k : Nat) (u : Value), xs[k]? = some u → cs0[k]? = some u) (hC : Ovr w N xs 0) (hA : Apart xs) (hg : N ≤ g) :
    Calls Try.prog 34 #[.slice (some ⟨g, 0, none⟩) n cap] w (fun e w' => (∃ r, e = .returned r) ∧ Keeps (fun j => N ≤ j) w w') := by
  have K0 : Keeps (fun j => N ≤ j) w w := Keeps.refl _ _
  refine sy_enter (part_kOverLists 1) ⟨#[.slice (some ⟨g, 0, none⟩) n cap, undef, undef, undef, undef, undef, undef, undef, undef, undef, undef, undef, undef, undef, undef, undef, undef], []⟩ Try.func34 (by kernel_rfl) (by kernel_rfl) ?_
  refine sy_sq (part_kOverLists 2) (part_kOverLists 3) ?_
  refine sy_reg ?_
  refine rg_plain 0 (opsAt (part_kOverLists 2)) [0] (by kernel_rfl) (by kernel_rfl) ?_
  refine ps_k (o_kOverLists 2 0) (.int .i64 0) ?_
  refine ps_end ?_
  refine then_n ?_
  refine sy_bk 0 (part_kOverLists 6) ?_
  refine sy_loop (part_kOverLists 12) (fun a V => ∃ (i : Nat) (cs : Array Value) (u3 u4 u5 u6 u7 u8 u9 u10 u11 u12 u13 u14 u15 u16 : Value), (a = ⟨#[.slice (some ⟨g, 0, none⟩) n cap, undef, iN i, u3, u4, u5, u6, u7, u8, u9, u10, u11, u12, u13, u14, u15, u16], []⟩) ∧ (i ≤ n) ∧ (∀ (k : Nat) (u : Value), i ≤ k → xs[k]? = some u → cs[k]? = some u) ∧ (V.heap[g]? = some (.cells cs 22 (0, 0))) ∧ (Ovr V N xs i) ∧ (Keeps (fun j => N ≤ j) w V)) (fun a _ => n - (intOf (a.tmps.getD 2 undef)).toNat) (by kernel_rfl) ?_ ?_
  · exact ⟨0, cs0, undef, undef, undef, undef, undef, undef, undef, undef, undef, undef, undef, undef, undef, undef, by kernel_rfl, Nat.zero_le _, (fun k u _ h => hcs0 k u h), h0, hC, K0⟩
  · rintro a V1 ⟨i, cs, u3, u4, u5, u6, u7, u8, u9, u10, u11, u12, u13, u14, u15, u16, rfl, hi, hcs, h2, h3, K4⟩
    by_cases lt_i : i < n
    · obtain ⟨u, hu⟩ : ∃ u, xs[i]? = some u := ⟨_, List.getElem?_eq_getElem (by omega)⟩
      have hcu := hcs i u (Nat.le_refl _) hu
      refine sy_sq (part_kOverLists 24) (part_kOverLists 25) ?_
      refine sy_sq (part_kOverLists 48) (part_kOverLists 49) ?_
      refine sy_reg ?_
      refine rg_plain 1 (opsAt (part_kOverLists 48)) [0, 1, 2, 3] (by kernel_rfl) (by kernel_rfl) ?_
      refine ps_k (o_kOverLists 48 0) (iN i) ?_
      refine ps_k (o_kOverLists 48 1) (.slice (some ⟨g, 0, none⟩) n cap) ?_
      refine ps_p (o_kOverLists 48 2) (iN n) (exec_len (.tmp 4) 54 _ (by kernel_rfl) Try.underlying54 (some ⟨g, 0, none⟩) n cap (by kernel_rfl)) ?_
      refine ps_p (o_kOverLists 48 3) (.bool true) (dct ((((i : Nat) : Int)) < (((n : Nat) : Int))) (by omega)) ?_
      refine ps_end ?_
      refine then_n ?_
      refine sy_ys (.tmp 6) (part_kOverLists 98) (part_kOverLists 99) ?_
      refine sy_sk ?_
      refine then_n ?_
      refine sy_sq (part_kOverLists 50) (part_kOverLists 51) ?_
      refine sy_bk 1 (part_kOverLists 100) ?_
      refine sy_sq (part_kOverLists 200) (part_kOverLists 201) ?_
      refine sy_reg ?_
      refine rg_plain 3 (opsAt (part_kOverLists 200)) [0, 1, 2, 3, 4] (by kernel_rfl) (by kernel_rfl) ?_
      refine ps_k (o_kOverLists 200 0) (.slice (some ⟨g, 0, none⟩) n cap) ?_
      refine ps_k (o_kOverLists 200 1) (iN i) ?_
      refine ps_p (o_kOverLists 200 2) (pT g i) (exec_cast (v := pT g (0 + i * 1)) (by simp) (exec_indexAt_slice 54 (.tmp 9) (.tmp 10) (by kernel_rfl) g 0 n cap (by kernel_rfl) .i64 i (by kernel_rfl) _ 1 Try.underlying54 (by kernel_rfl) (by omega))) ?_
      refine ps_p (o_kOverLists 200 3) (u) (exec_ld 22 (.tmp 11) g i Try.underlying22 ((cell_of_row _ _ _ _ _ _ h2).trans hcu)) ?_
      obtain ⟨l, hrow, hnew⟩ := h3 i u (Nat.le_refl _) hu
      refine ps_c (o_kOverLists 200 4) 19 #[u] Try.func19 ((overBytes_ok u l _ hrow).mono ?_)
      rintro e V5 ⟨⟨rr, rfl⟩, kV5⟩
      have hC' : Ovr V5 N xs (i + 1) := h3.over hA hu kV5
      refine ⟨_, rfl, ?_⟩
      have h6 : V5.heap[g]? = some (.cells cs 22 (0, 0)) := (kV5.block g (lt_of_block h2) (fun e => Row.ne hrow h2 (by decide) e)).trans h2
      have K7 : Keeps (fun j => N ≤ j) w V5 := K4.then kV5 (fun i _ hm => hnew i hm)
      have z8 := kV5.size
      refine ps_end ?_
      refine then_n ?_
      refine sy_reg ?_
      refine rg_plain 4 (opsAt (part_kOverLists 201)) [0, 1, 2, 3] (by kernel_rfl) (by kernel_rfl) ?_
      refine ps_k (o_kOverLists 201 0) (.slice (some ⟨g, 0, none⟩) n cap) ?_
      refine ps_k (o_kOverLists 201 1) (iN i) ?_
      refine ps_p (o_kOverLists 201 2) (pT g i) (exec_cast (v := pT g (0 + i * 1)) (by simp) (exec_indexAt_slice 54 (.tmp 14) (.tmp 15) (by kernel_rfl) g 0 n cap (by kernel_rfl) .i64 i (by kernel_rfl) _ 1 Try.underlying54 (by kernel_rfl) (by omega))) ?_
      obtain ⟨V9, eV9, kV9⟩ := cell_step V5 g i (.slice none 0 0)
      have h10 : V9.heap[g]? = some (.cells (cs.setIfInBounds i (.slice none 0 0)) 22 (0, 0)) := eV9 ▸ ((heap_setCell_same _ g i _ _ (.slice none 0 0) h6).trans (congrArg (fun c => some (Obj.cells c 22 (0, 0))) (show (cs : Array Value).setIfInBounds i (.slice none 0 0) = cs.setIfInBounds i (.slice none 0 0) from rfl)))
      refine ps_s (o_kOverLists 201 3) (w' := V9) (by rw [← eV9]; exact exec_store_cell 22 (.tmp 16) (.const (.slice none 0 0)) (by kernel_rfl) g i (by kernel_rfl) (.slice none 0 0) (by kernel_rfl) (by kernel_rfl) (by kernel_rfl) u (rc (h6) (hcu)) (frozen_of_row _ _ _ _ _ h6) (by kernel_rfl)) ?_
      clear eV9
      have h11 : Ovr V9 N xs (i + 1) := hC'.keepsT kV9 h6 (by decide)
      have K12 : Keeps (fun j => N ≤ j) w V9 := K7.then kV9 (fun i _ hm => by unfold Own.One at hm; subst hm; exact hg)
      have z13 := kV9.size
      refine ps_end ?_
      refine blk_n ?_
      refine then_n ?_
      refine sy_reg ?_
      refine rg_plain 2 (opsAt (part_kOverLists 51)) [0, 1, 2] (by kernel_rfl) (by kernel_rfl) ?_
      refine ps_k (o_kOverLists 51 0) (iN i) ?_
      refine ps_p (o_kOverLists 51 1) (iN (i + 1)) (exec_cast (congrArg (Value.int .i64) (wrapN (i + 1) (by omega))) (by kernel_rfl)) ?_
      refine ps_k (o_kOverLists 51 2) (iN (i + 1)) ?_
      refine ps_end ?_
      refine then_n ?_
      refine ⟨⟨i + 1, cs.setIfInBounds i (.slice none 0 0), (iN i), (.slice (some ⟨g, 0, none⟩) n cap), (iN n), (.bool true), (iN i), (iN (i + 1)), (.slice (some ⟨g, 0, none⟩) n cap), (iN i), (pT g i), u, rr, (.slice (some ⟨g, 0, none⟩) n cap), (iN i), (pT g i), by kernel_rfl, by omega, (fun k u hk hu => (Array.getElem?_setIfInBounds_ne (by omega)).trans (hcs k u (by omega) hu)), h10, h11, K12⟩, ?_⟩
      exact lt_meas (x := n - (i + 1)) (y := n - i) (by kernel_rfl) (by kernel_rfl) (by omega)
    · skip
      refine sy_sq (part_kOverLists 24) (part_kOverLists 25) ?_
      refine sy_sq (part_kOverLists 48) (part_kOverLists 49) ?_
      refine sy_reg ?_
      refine rg_plain 1 (opsAt (part_kOverLists 48)) [0, 1, 2, 3] (by kernel_rfl) (by kernel_rfl) ?_
      refine ps_k (o_kOverLists 48 0) (iN i) ?_
      refine ps_k (o_kOverLists 48 1) (.slice (some ⟨g, 0, none⟩) n cap) ?_
      refine ps_p (o_kOverLists 48 2) (iN n) (exec_len (.tmp 4) 54 _ (by kernel_rfl) Try.underlying54 (some ⟨g, 0, none⟩) n cap (by kernel_rfl)) ?_
      refine ps_p (o_kOverLists 48 3) (.bool false) (dcf ((((i : Nat) : Int)) < (((n : Nat) : Int))) (by omega)) ?_
      refine ps_end ?_
      refine then_n ?_
      refine sy_n (.tmp 6) (part_kOverLists 98) (part_kOverLists 99) ?_
      refine sy_exit 0 (by kernel_rfl) ?_
      refine then_e ?_
      refine then_e ?_
      refine blk_e ?_
      refine sy_fall (.tuple #[]) rfl (by kernel_rfl) ?_
      exact ⟨⟨_, rfl⟩, K4⟩
set_option maxRecDepth 100000 in
set_option maxHeartbeats 4000000 in
theorem kOverLists_nil (cap : Nat) (N : Nat) (w : World) :
    Calls Try.prog 34 #[.slice none 0 cap] w (fun e w' => (∃ r, e = .returned r) ∧ Keeps (fun j => N ≤ j) w w') := by
  have K0 : Keeps (fun j => N ≤ j) w w := Keeps.refl _ _
  refine sy_enter (part_kOverLists 1) ⟨#[.slice none 0 cap, undef, undef, undef, undef, undef, undef, undef, undef, undef, undef, undef, undef, undef, undef, undef, undef], []⟩ Try.func34 (by kernel_rfl) (by kernel_rfl) ?_
  refine sy_sq (part_kOverLists 2) (part_kOverLists 3) ?_
  refine sy_reg ?_
  refine rg_plain 0 (opsAt (part_kOverLists 2)) [0] (by kernel_rfl) (by kernel_rfl) ?_
  refine ps_k (o_kOverLists 2 0) (.int .i64 0) ?_
  refine ps_end ?_
  refine then_n ?_
  refine sy_bk 0 (part_kOverLists 6) ?_
  refine sy_loop (part_kOverLists 12) (fun a V => ∃ (i : Nat) (u3 u4 u5 u6 u7 u8 u9 u10 u11 u12 u13 u14 u15 u16 : Value), (a = ⟨#[.slice none 0 cap, undef, iN i, u3, u4, u5, u6, u7, u8, u9, u10, u11, u12, u13, u14, u15, u16], []⟩) ∧ (i = 0) ∧ (Keeps (fun j => N ≤ j) w V)) (fun a _ => 0) (by kernel_rfl) ?_ ?_
  · exact ⟨0, undef, undef, undef, undef, undef, undef, undef, undef, undef, undef, undef, undef, undef, undef, by kernel_rfl, rfl, K0⟩
  · rintro a V1 ⟨i, u3, u4, u5, u6, u7, u8, u9, u10, u11, u12, u13, u14, u15, u16, rfl, hi, K2⟩
    rcases (show i = 0 ∨ i = 0 from .inl hi) with eq_i | eq_i
    · skip
      refine sy_sq (part_kOverLists 24) (part_kOverLists 25) ?_
      refine sy_sq (part_kOverLists 48) (part_kOverLists 49) ?_
      refine sy_reg ?_
      refine rg_plain 1 (opsAt (part_kOverLists 48)) [0, 1, 2, 3] (by kernel_rfl) (by kernel_rfl) ?_
      refine ps_k (o_kOverLists 48 0) (iN i) ?_
      refine ps_k (o_kOverLists 48 1) (.slice none 0 cap) ?_
      refine ps_p (o_kOverLists 48 2) (.int .i64 0) (exec_len (.tmp 4) 54 _ (by kernel_rfl) Try.underlying54 none 0 cap (by kernel_rfl)) ?_
      refine ps_p (o_kOverLists 48 3) (.bool false) (dcf ((((i : Nat) : Int)) < ((0) : Int)) (by omega)) ?_
      refine ps_end ?_
      refine then_n ?_
      refine sy_n (.tmp 6) (part_kOverLists 98) (part_kOverLists 99) ?_
      refine sy_exit 0 (by kernel_rfl) ?_
      refine then_e ?_
      refine then_e ?_
      refine blk_e ?_
      refine sy_fall (.tuple #[]) rfl (by kernel_rfl) ?_
      exact ⟨⟨_, rfl⟩, K2⟩
    · skip
      refine sy_sq (part_kOverLists 24) (part_kOverLists 25) ?_
      refine sy_sq (part_kOverLists 48) (part_kOverLists 49) ?_
      refine sy_reg ?_
      refine rg_plain 1 (opsAt (part_kOverLists 48)) [0, 1, 2, 3] (by kernel_rfl) (by kernel_rfl) ?_
      refine ps_k (o_kOverLists 48 0) (iN i) ?_
      refine ps_k (o_kOverLists 48 1) (.slice none 0 cap) ?_
      refine ps_p (o_kOverLists 48 2) (.int .i64 0) (exec_len (.tmp 4) 54 _ (by kernel_rfl) Try.underlying54 none 0 cap (by kernel_rfl)) ?_
      refine ps_p (o_kOverLists 48 3) (.bool false) (dcf ((((i : Nat) : Int)) < ((0) : Int)) (by omega)) ?_
      refine ps_end ?_
      refine then_n ?_
      refine sy_n (.tmp 6) (part_kOverLists 98) (part_kOverLists 99) ?_
      refine sy_exit 0 (by kernel_rfl) ?_
      refine then_e ?_
      refine then_e ?_
      refine blk_e ?_
      refine sy_fall (.tuple #[]) rfl (by kernel_rfl) ?_
      exact ⟨⟨_, rfl⟩, K2⟩
theorem kOverLists_ok (v : Value) (n N : Nat) (xs : List Value) (ls : List (List UInt8)) (w : World) (hr : Row w 22 1 v n xs) (hN : NewFrom N v) (hC : Copied w N xs ls) (hA : Apart xs) : Calls Try.prog 34 #[v] w fun e w' => (∃ r, e = .returned r) ∧ Keeps (fun j => N ≤ j) w w' := by
  have hx : xs.length = n := by have := hr.1; omega
  rcases hr.2 with ⟨rfl, h0⟩ | ⟨g, cap, cur, rfl, _, hg, hn, hc, hs, ht⟩
  · exact kOverLists_nil 0 N w
  · refine kOverLists_at g cap n N cur xs w hg hx (by unfold maxLen at hc; omega) (fun k u hu => ?_) (fun k u _ hu => ?_) hA (hN g rfl)
    · have hk := (List.getElem?_eq_some_iff.1 hu).1
      rw [← ht, List.getElem?_take_of_lt (by omega)] at hu
      simpa using hu
    · obtain ⟨l, _, hl, hn⟩ := hC k u hu; exact ⟨l, hl, hn⟩
end Go.Proofs.Ytmapcghgdbfmhaa
