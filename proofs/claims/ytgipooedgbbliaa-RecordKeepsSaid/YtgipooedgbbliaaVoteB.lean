/-
  Votes: which may be (printed by vote1.py). Conditions: none.
-/
import Derived.Test.YtgipooedgbbliaaVoteA
namespace Go.Proofs.Ytgipooedgbbliaa
open Go Go.RowKit Go.Own Go.Shelf

theorem within_split (bs : List (Int × Int × Int)) (i : Nat) (hi : i ≤ bs.length) : (i < bs.length ∧ ∃ b, bs[i]? = some b ∧ b.1 < b.2.1) ∨ (i < bs.length ∧ ∃ b, bs[i]? = some b ∧ ¬ b.1 < b.2.1 ∧ b.2.2 < b.1) ∨ (i < bs.length ∧ ∃ b, bs[i]? = some b ∧ ¬ b.1 < b.2.1 ∧ ¬ b.2.2 < b.1) ∨ i = bs.length := by
  rcases Nat.lt_or_eq_of_le hi with h | h
  · have hb : bs[i]? = some bs[i] := List.getElem?_eq_getElem h
    by_cases h1 : bs[i].1 < bs[i].2.1
    · exact .inl ⟨h, _, hb, h1⟩
    · by_cases h2 : bs[i].2.2 < bs[i].1
      · exact .inr (.inl ⟨h, _, hb, h1, h2⟩)
      · exact .inr (.inr (.inl ⟨h, _, hb, h1, h2⟩))
  · exact .inr (.inr (.inr h))
noncomputable def part_vwithin (n : Nat) : Code := partOf Try.f59 n
noncomputable abbrev o_vwithin (n k : Nat) : Oper := (opsAt (part_vwithin n)).getD k default
set_option maxRecDepth 100000 in
set_option maxHeartbeats 4000000 in
theorem vwithin_ok (g cap : Nat) (bs : List (Int × Int × Int)) (rest : List Value) (w : World) (h0 : w.heap[g]? = some (.cells (bC bs ++ rest).toArray 104 (0, 0))) (hmax : bs.length ≤ 1000) :
    Calls Try.prog 59 #[.slice (some ⟨g, 0, none⟩) bs.length cap] w (fun e w' => e = .returned (.int .i64 (bErr bs)) ∧ Keeps Nob w w') := by
  have K0 : Keeps Nob w w := Keeps.refl _ _
  refine sy_enter (part_vwithin 1) ⟨#[.slice (some ⟨g, 0, none⟩) bs.length cap, undef, undef, undef, undef, undef, undef, undef, undef, undef, undef, undef, undef, undef, undef, undef, undef, undef, undef, undef, undef, undef, undef, undef], []⟩ Try.func59 (by kernel_rfl) (by kernel_rfl) ?_
  refine sy_sq (part_vwithin 2) (part_vwithin 3) ?_
  refine sy_reg ?_
  refine rg_plain 0 (opsAt (part_vwithin 2)) [0] (by kernel_rfl) (by kernel_rfl) ?_
  refine ps_k (o_vwithin 2 0) (.int .i64 0) ?_
  refine ps_end ?_
  refine then_n ?_
  refine sy_sq (part_vwithin 6) (part_vwithin 7) ?_
  refine sy_sq (part_vwithin 12) (part_vwithin 13) ?_
  refine sy_reg ?_
  refine rg_plain 1 (opsAt (part_vwithin 12)) [0, 1, 2] (by kernel_rfl) (by kernel_rfl) ?_
  refine ps_k (o_vwithin 12 0) (.slice (some ⟨g, 0, none⟩) bs.length cap) ?_
  refine ps_p (o_vwithin 12 1) (iN bs.length) (exec_len (.tmp 5) 111 _ (by kernel_rfl) Try.underlying111 (some ⟨g, 0, none⟩) bs.length cap (by kernel_rfl)) ?_
  refine ps_k (o_vwithin 12 2) (.int .i64 0) ?_
  refine ps_end ?_
  refine then_n ?_
  refine sy_bk 0 (part_vwithin 26) ?_
  refine sy_loop (part_vwithin 52) (fun a V => ∃ (i : Nat) (u2 u4 u8 u9 u10 u11 u12 u13 u14 u15 u16 u17 u18 u19 u20 u21 u22 u23 : Value), (a = ⟨#[.slice (some ⟨g, 0, none⟩) bs.length cap, undef, u2, undef, u4, .slice (some ⟨g, 0, none⟩) bs.length cap, iN bs.length, iN i, u8, u9, u10, u11, u12, u13, u14, u15, u16, u17, u18, u19, u20, u21, u22, u23], []⟩) ∧ (i ≤ bs.length) ∧ (∀ (k : Nat) (b : Int × Int × Int), k < i → bs[k]? = some b → bIn b = true) ∧ (Keeps Nob w V)) (fun a _ => bs.length - (intOf (a.tmps.getD 7 undef)).toNat) (by kernel_rfl) ?_ ?_
  · exact ⟨0, (.int .i64 0), undef, undef, undef, undef, undef, undef, undef, undef, undef, undef, undef, undef, undef, undef, undef, undef, undef, by kernel_rfl, by omega, (fun k b h => absurd h (Nat.not_lt_zero _)), K0⟩
  · rintro a V1 ⟨i, u2, u4, u8, u9, u10, u11, u12, u13, u14, u15, u16, u17, u18, u19, u20, u21, u22, u23, rfl, hi, hok, K2⟩
    rcases (show (i < bs.length ∧ ∃ b, bs[i]? = some b ∧ b.1 < b.2.1) ∨ (i < bs.length ∧ ∃ b, bs[i]? = some b ∧ ¬ b.1 < b.2.1 ∧ b.2.2 < b.1) ∨ (i < bs.length ∧ ∃ b, bs[i]? = some b ∧ ¬ b.1 < b.2.1 ∧ ¬ b.2.2 < b.1) ∨ i = bs.length from within_split bs i hi) with ⟨lt_i, ⟨n, lo, hi⟩, hb, hlo⟩ | ⟨lt_i, ⟨n, lo, hi⟩, hb, hlo, hhi⟩ | ⟨lt_i, ⟨n, lo, hi⟩, hb, hlo, hhi⟩ | eq_i
    · have hlo : n < lo := hlo
      refine sy_sq (part_vwithin 104) (part_vwithin 105) ?_
      refine sy_reg ?_
      refine rg_plain 2 (opsAt (part_vwithin 104)) [0] (by kernel_rfl) (by kernel_rfl) ?_
      refine ps_p (o_vwithin 104 0) (.bool true) (dct ((((i : Nat) : Int)) < (((bs.length : Nat) : Int))) (by omega)) ?_
      refine ps_end ?_
      refine then_n ?_
      refine sy_sq (part_vwithin 210) (part_vwithin 211) ?_
      refine sy_ys (.tmp 8) (part_vwithin 420) (part_vwithin 421) ?_
      refine sy_sk ?_
      refine then_n ?_
      refine sy_sq (part_vwithin 422) (part_vwithin 423) ?_
      refine sy_bk 1 (part_vwithin 844) ?_
      refine sy_sq (part_vwithin 1688) (part_vwithin 1689) ?_
      refine sy_reg ?_
      refine rg_plain 3 (opsAt (part_vwithin 1688)) [0, 1, 2, 3] (by kernel_rfl) (by kernel_rfl) ?_
      refine ps_p (o_vwithin 1688 0) (pT g (i * 3)) (exec_cast (v := pT g (0 + i * 3)) (by simp) (exec_indexAt_slice 111 (.tmp 5) (.tmp 7) (by kernel_rfl) g 0 bs.length cap (by kernel_rfl) .i64 i (by kernel_rfl) _ 3 Try.underlying111 (by kernel_rfl) (by omega))) ?_
      refine ps_p (o_vwithin 1688 1) (.agg #[.int .i64 n, .int .i64 lo, .int .i64 hi]) (exec_load_seg 104 (.tmp 9) (by kernel_rfl) g (i * 3) (by kernel_rfl) [.int .i64 n, .int .i64 lo, .int .i64 hi] _ _ _ ((K2.block g (lt_of_block h0) (fun x => x)).trans h0) (fun j x hx => by rw [List.getElem?_toArray, List.getElem?_append_left (List.getElem?_eq_some_iff.1 (bC_get bs i (n, lo, hi) hb j x hx)).1]; exact bC_get bs i (n, lo, hi) hb j x hx) Try.underlying104 rfl (by kernel_rfl)) ?_
      obtain ⟨V3, eV3, gb, egb, h4, kV3⟩ := alloc_step V1 (#[.int .i64 0, .int .i64 0, .int .i64 0]) 104
      have n5 : w.heap.size ≤ gb := egb ▸ K2.size
      refine ps_r (o_vwithin 1688 2) (pT gb 0) (w' := V3) (by rw [← eV3, ← egb]; exact exec_alloc0 104 (by kernel_rfl) (.agg (#[.int .i64 0, .int .i64 0, .int .i64 0])) (by kernel_rfl)) ?_
      clear eV3
      have K6 := K2.nn kV3
      have z7 := kV3.size
      obtain ⟨V8, eV8, kV8⟩ := rowset_step V3 gb (#[.int .i64 n, .int .i64 lo, .int .i64 hi])
      have h9 : V8.heap[gb]? = some (.cells (#[.int .i64 n, .int .i64 lo, .int .i64 hi]) 104 (0, 0)) := eV8 ▸ setRow_heap _ _ _ _ _ _ h4
      refine ps_s (o_vwithin 1688 3) (w' := V8) (by rw [← eV8]; exact exec_store_row 104 (.tmp 4) (.tmp 10) (by kernel_rfl) gb (#[.int .i64 n, .int .i64 lo, .int .i64 hi]) (by kernel_rfl) (by kernel_rfl) 104 (#[.int .i64 0, .int .i64 0, .int .i64 0]) h4 (by kernel_rfl) rfl (by kernel_rfl)) ?_
      clear eV8
      have K10 := K6.no kV8 (by omega)
      have z11 := kV8.size
      refine ps_end ?_
      refine then_n ?_
      refine sy_sq (part_vwithin 3378) (part_vwithin 3379) ?_
      refine sy_reg ?_
      refine rg_plain 4 (opsAt (part_vwithin 3378)) [0, 1, 2, 3, 4, 5, 6, 7, 8, 9, 10, 11] (by kernel_rfl) (by kernel_rfl) ?_
      refine ps_k (o_vwithin 3378 0) (pT gb 0) ?_
      refine ps_p (o_vwithin 3378 1) (.int .i64 n) (exec_ld 3 (.tmp 11) gb 0 Try.underlying3 (rc (h9) (by kernel_rfl))) ?_
      refine ps_k (o_vwithin 3378 2) (pT gb 1) ?_
      refine ps_p (o_vwithin 3378 3) (.int .i64 lo) (exec_ld 3 (.tmp 13) gb 1 Try.underlying3 (rc (h9) (by kernel_rfl))) ?_
      refine ps_p (o_vwithin 3378 4) (.bool true) (dct (((n) : Int) < ((lo) : Int)) (by omega)) ?_
      refine ps_k (o_vwithin 3378 5) (.bool true) ?_
      refine ps_n (o_vwithin 3378 6) ?_
      refine ps_n (o_vwithin 3378 7) ?_
      refine ps_n (o_vwithin 3378 8) ?_
      refine ps_n (o_vwithin 3378 9) ?_
      refine ps_n (o_vwithin 3378 10) ?_
      refine ps_k (o_vwithin 3378 11) (.bool true) ?_
      refine ps_end ?_
      refine then_n ?_
      refine sy_ys (.tmp 22) (part_vwithin 6758) (part_vwithin 6759) ?_
      refine sy_sq (part_vwithin 13516) (part_vwithin 13517) ?_
      refine sy_reg ?_
      refine rg_plain 5 (opsAt (part_vwithin 13516)) [0] (by kernel_rfl) (by kernel_rfl) ?_
      refine ps_k (o_vwithin 13516 0) (.int .i64 3) ?_
      refine ps_end ?_
      refine then_n ?_
      refine sy_ret (by kernel_rfl) ?_
      refine blk_r ?_
      refine then_r ?_
      refine then_r ?_
      refine blk_r ?_
      refine then_r ?_
      refine sy_out (.int .i64 3) rfl (by kernel_rfl) ?_
      exact ⟨by rw [bErr_no hb (decide_eq_false (fun h => by have h1 := h.1; have h2 := h.2; simp only at h1 h2; omega))], K10⟩
    · have hlo : ¬ n < lo := hlo
      have hhi : hi < n := hhi
      refine sy_sq (part_vwithin 104) (part_vwithin 105) ?_
      refine sy_reg ?_
      refine rg_plain 2 (opsAt (part_vwithin 104)) [0] (by kernel_rfl) (by kernel_rfl) ?_
      refine ps_p (o_vwithin 104 0) (.bool true) (dct ((((i : Nat) : Int)) < (((bs.length : Nat) : Int))) (by omega)) ?_
      refine ps_end ?_
      refine then_n ?_
      refine sy_sq (part_vwithin 210) (part_vwithin 211) ?_
      refine sy_ys (.tmp 8) (part_vwithin 420) (part_vwithin 421) ?_
      refine sy_sk ?_
      refine then_n ?_
      refine sy_sq (part_vwithin 422) (part_vwithin 423) ?_
      refine sy_bk 1 (part_vwithin 844) ?_
      refine sy_sq (part_vwithin 1688) (part_vwithin 1689) ?_
      refine sy_reg ?_
      refine rg_plain 3 (opsAt (part_vwithin 1688)) [0, 1, 2, 3] (by kernel_rfl) (by kernel_rfl) ?_
      refine ps_p (o_vwithin 1688 0) (pT g (i * 3)) (exec_cast (v := pT g (0 + i * 3)) (by simp) (exec_indexAt_slice 111 (.tmp 5) (.tmp 7) (by kernel_rfl) g 0 bs.length cap (by kernel_rfl) .i64 i (by kernel_rfl) _ 3 Try.underlying111 (by kernel_rfl) (by omega))) ?_
      refine ps_p (o_vwithin 1688 1) (.agg #[.int .i64 n, .int .i64 lo, .int .i64 hi]) (exec_load_seg 104 (.tmp 9) (by kernel_rfl) g (i * 3) (by kernel_rfl) [.int .i64 n, .int .i64 lo, .int .i64 hi] _ _ _ ((K2.block g (lt_of_block h0) (fun x => x)).trans h0) (fun j x hx => by rw [List.getElem?_toArray, List.getElem?_append_left (List.getElem?_eq_some_iff.1 (bC_get bs i (n, lo, hi) hb j x hx)).1]; exact bC_get bs i (n, lo, hi) hb j x hx) Try.underlying104 rfl (by kernel_rfl)) ?_
      obtain ⟨V12, eV12, gb, egb, h13, kV12⟩ := alloc_step V1 (#[.int .i64 0, .int .i64 0, .int .i64 0]) 104
      have n14 : w.heap.size ≤ gb := egb ▸ K2.size
      refine ps_r (o_vwithin 1688 2) (pT gb 0) (w' := V12) (by rw [← eV12, ← egb]; exact exec_alloc0 104 (by kernel_rfl) (.agg (#[.int .i64 0, .int .i64 0, .int .i64 0])) (by kernel_rfl)) ?_
      clear eV12
      have K15 := K2.nn kV12
      have z16 := kV12.size
      obtain ⟨V17, eV17, kV17⟩ := rowset_step V12 gb (#[.int .i64 n, .int .i64 lo, .int .i64 hi])
      have h18 : V17.heap[gb]? = some (.cells (#[.int .i64 n, .int .i64 lo, .int .i64 hi]) 104 (0, 0)) := eV17 ▸ setRow_heap _ _ _ _ _ _ h13
      refine ps_s (o_vwithin 1688 3) (w' := V17) (by rw [← eV17]; exact exec_store_row 104 (.tmp 4) (.tmp 10) (by kernel_rfl) gb (#[.int .i64 n, .int .i64 lo, .int .i64 hi]) (by kernel_rfl) (by kernel_rfl) 104 (#[.int .i64 0, .int .i64 0, .int .i64 0]) h13 (by kernel_rfl) rfl (by kernel_rfl)) ?_
      clear eV17
      have K19 := K15.no kV17 (by omega)
      have z20 := kV17.size
      refine ps_end ?_
      refine then_n ?_
      refine sy_sq (part_vwithin 3378) (part_vwithin 3379) ?_
      refine sy_reg ?_
      refine rg_plain 4 (opsAt (part_vwithin 3378)) [0, 1, 2, 3, 4, 5, 6, 7, 8, 9, 10, 11] (by kernel_rfl) (by kernel_rfl) ?_
      refine ps_k (o_vwithin 3378 0) (pT gb 0) ?_
      refine ps_p (o_vwithin 3378 1) (.int .i64 n) (exec_ld 3 (.tmp 11) gb 0 Try.underlying3 (rc (h18) (by kernel_rfl))) ?_
      refine ps_k (o_vwithin 3378 2) (pT gb 1) ?_
      refine ps_p (o_vwithin 3378 3) (.int .i64 lo) (exec_ld 3 (.tmp 13) gb 1 Try.underlying3 (rc (h18) (by kernel_rfl))) ?_
      refine ps_p (o_vwithin 3378 4) (.bool false) (dcf (((n) : Int) < ((lo) : Int)) (by omega)) ?_
      refine ps_k (o_vwithin 3378 5) (.bool false) ?_
      refine ps_k (o_vwithin 3378 6) (pT gb 0) ?_
      refine ps_p (o_vwithin 3378 7) (.int .i64 n) (exec_ld 3 (.tmp 17) gb 0 Try.underlying3 (rc (h18) (by kernel_rfl))) ?_
      refine ps_k (o_vwithin 3378 8) (pT gb 2) ?_
      refine ps_p (o_vwithin 3378 9) (.int .i64 hi) (exec_ld 3 (.tmp 19) gb 2 Try.underlying3 (rc (h18) (by kernel_rfl))) ?_
      refine ps_p (o_vwithin 3378 10) (.bool true) (dct (((n) : Int) > ((hi) : Int)) (by omega)) ?_
      refine ps_k (o_vwithin 3378 11) (.bool true) ?_
      refine ps_end ?_
      refine then_n ?_
      refine sy_ys (.tmp 22) (part_vwithin 6758) (part_vwithin 6759) ?_
      refine sy_sq (part_vwithin 13516) (part_vwithin 13517) ?_
      refine sy_reg ?_
      refine rg_plain 5 (opsAt (part_vwithin 13516)) [0] (by kernel_rfl) (by kernel_rfl) ?_
      refine ps_k (o_vwithin 13516 0) (.int .i64 3) ?_
      refine ps_end ?_
      refine then_n ?_
      refine sy_ret (by kernel_rfl) ?_
      refine blk_r ?_
      refine then_r ?_
      refine then_r ?_
      refine blk_r ?_
      refine then_r ?_
      refine sy_out (.int .i64 3) rfl (by kernel_rfl) ?_
      exact ⟨by rw [bErr_no hb (decide_eq_false (fun h => by have h1 := h.1; have h2 := h.2; simp only at h1 h2; omega))], K19⟩
    · have hlo : ¬ n < lo := hlo
      have hhi : ¬ hi < n := hhi
      refine sy_sq (part_vwithin 104) (part_vwithin 105) ?_
      refine sy_reg ?_
      refine rg_plain 2 (opsAt (part_vwithin 104)) [0] (by kernel_rfl) (by kernel_rfl) ?_
      refine ps_p (o_vwithin 104 0) (.bool true) (dct ((((i : Nat) : Int)) < (((bs.length : Nat) : Int))) (by omega)) ?_
      refine ps_end ?_
      refine then_n ?_
      refine sy_sq (part_vwithin 210) (part_vwithin 211) ?_
      refine sy_ys (.tmp 8) (part_vwithin 420) (part_vwithin 421) ?_
      refine sy_sk ?_
      refine then_n ?_
      refine sy_sq (part_vwithin 422) (part_vwithin 423) ?_
      refine sy_bk 1 (part_vwithin 844) ?_
      refine sy_sq (part_vwithin 1688) (part_vwithin 1689) ?_
      refine sy_reg ?_
      refine rg_plain 3 (opsAt (part_vwithin 1688)) [0, 1, 2, 3] (by kernel_rfl) (by kernel_rfl) ?_
      refine ps_p (o_vwithin 1688 0) (pT g (i * 3)) (exec_cast (v := pT g (0 + i * 3)) (by simp) (exec_indexAt_slice 111 (.tmp 5) (.tmp 7) (by kernel_rfl) g 0 bs.length cap (by kernel_rfl) .i64 i (by kernel_rfl) _ 3 Try.underlying111 (by kernel_rfl) (by omega))) ?_
      refine ps_p (o_vwithin 1688 1) (.agg #[.int .i64 n, .int .i64 lo, .int .i64 hi]) (exec_load_seg 104 (.tmp 9) (by kernel_rfl) g (i * 3) (by kernel_rfl) [.int .i64 n, .int .i64 lo, .int .i64 hi] _ _ _ ((K2.block g (lt_of_block h0) (fun x => x)).trans h0) (fun j x hx => by rw [List.getElem?_toArray, List.getElem?_append_left (List.getElem?_eq_some_iff.1 (bC_get bs i (n, lo, hi) hb j x hx)).1]; exact bC_get bs i (n, lo, hi) hb j x hx) Try.underlying104 rfl (by kernel_rfl)) ?_
      obtain ⟨V21, eV21, gb, egb, h22, kV21⟩ := alloc_step V1 (#[.int .i64 0, .int .i64 0, .int .i64 0]) 104
      have n23 : w.heap.size ≤ gb := egb ▸ K2.size
      refine ps_r (o_vwithin 1688 2) (pT gb 0) (w' := V21) (by rw [← eV21, ← egb]; exact exec_alloc0 104 (by kernel_rfl) (.agg (#[.int .i64 0, .int .i64 0, .int .i64 0])) (by kernel_rfl)) ?_
      clear eV21
      have K24 := K2.nn kV21
      have z25 := kV21.size
      obtain ⟨V26, eV26, kV26⟩ := rowset_step V21 gb (#[.int .i64 n, .int .i64 lo, .int .i64 hi])
      have h27 : V26.heap[gb]? = some (.cells (#[.int .i64 n, .int .i64 lo, .int .i64 hi]) 104 (0, 0)) := eV26 ▸ setRow_heap _ _ _ _ _ _ h22
      refine ps_s (o_vwithin 1688 3) (w' := V26) (by rw [← eV26]; exact exec_store_row 104 (.tmp 4) (.tmp 10) (by kernel_rfl) gb (#[.int .i64 n, .int .i64 lo, .int .i64 hi]) (by kernel_rfl) (by kernel_rfl) 104 (#[.int .i64 0, .int .i64 0, .int .i64 0]) h22 (by kernel_rfl) rfl (by kernel_rfl)) ?_
      clear eV26
      have K28 := K24.no kV26 (by omega)
      have z29 := kV26.size
      refine ps_end ?_
      refine then_n ?_
      refine sy_sq (part_vwithin 3378) (part_vwithin 3379) ?_
      refine sy_reg ?_
      refine rg_plain 4 (opsAt (part_vwithin 3378)) [0, 1, 2, 3, 4, 5, 6, 7, 8, 9, 10, 11] (by kernel_rfl) (by kernel_rfl) ?_
      refine ps_k (o_vwithin 3378 0) (pT gb 0) ?_
      refine ps_p (o_vwithin 3378 1) (.int .i64 n) (exec_ld 3 (.tmp 11) gb 0 Try.underlying3 (rc (h27) (by kernel_rfl))) ?_
      refine ps_k (o_vwithin 3378 2) (pT gb 1) ?_
      refine ps_p (o_vwithin 3378 3) (.int .i64 lo) (exec_ld 3 (.tmp 13) gb 1 Try.underlying3 (rc (h27) (by kernel_rfl))) ?_
      refine ps_p (o_vwithin 3378 4) (.bool false) (dcf (((n) : Int) < ((lo) : Int)) (by omega)) ?_
      refine ps_k (o_vwithin 3378 5) (.bool false) ?_
      refine ps_k (o_vwithin 3378 6) (pT gb 0) ?_
      refine ps_p (o_vwithin 3378 7) (.int .i64 n) (exec_ld 3 (.tmp 17) gb 0 Try.underlying3 (rc (h27) (by kernel_rfl))) ?_
      refine ps_k (o_vwithin 3378 8) (pT gb 2) ?_
      refine ps_p (o_vwithin 3378 9) (.int .i64 hi) (exec_ld 3 (.tmp 19) gb 2 Try.underlying3 (rc (h27) (by kernel_rfl))) ?_
      refine ps_p (o_vwithin 3378 10) (.bool false) (dcf (((n) : Int) > ((hi) : Int)) (by omega)) ?_
      refine ps_k (o_vwithin 3378 11) (.bool false) ?_
      refine ps_end ?_
      refine then_n ?_
      refine sy_n (.tmp 22) (part_vwithin 6758) (part_vwithin 6759) ?_
      refine sy_sk ?_
      refine blk_n ?_
      refine then_n ?_
      refine sy_reg ?_
      refine rg_plain 6 (opsAt (part_vwithin 423)) [0, 1] (by kernel_rfl) (by kernel_rfl) ?_
      refine ps_p (o_vwithin 423 0) (iN (i + 1)) (exec_cast (congrArg (Value.int .i64) (wrapN (i + 1) (by omega))) (by kernel_rfl)) ?_
      refine ps_k (o_vwithin 423 1) (iN (i + 1)) ?_
      refine ps_end ?_
      refine then_n ?_
      refine ⟨⟨i + 1, u2, (pT gb 0), (.bool true), (pT g (i * 3)), (.agg #[.int .i64 n, .int .i64 lo, .int .i64 hi]), (pT gb 0), (.int .i64 n), (pT gb 1), (.int .i64 lo), (.bool false), (.bool false), (pT gb 0), (.int .i64 n), (pT gb 2), (.int .i64 hi), (.bool false), (.bool false), (iN (i + 1)), by kernel_rfl, by omega, (fun k b h hk => (by omega : k < i ∨ k = i).elim (fun h => hok k b h hk) (fun h => by subst h; rw [hb] at hk; cases hk; exact decide_eq_true ⟨by omega, by omega⟩)), K28⟩, ?_⟩
      exact lt_meas (x := bs.length - (i + 1)) (y := bs.length - i) (by kernel_rfl) (by kernel_rfl) (by omega)
    · show _
      refine sy_sq (part_vwithin 104) (part_vwithin 105) ?_
      refine sy_reg ?_
      refine rg_plain 2 (opsAt (part_vwithin 104)) [0] (by kernel_rfl) (by kernel_rfl) ?_
      refine ps_p (o_vwithin 104 0) (.bool false) (dcf ((((i : Nat) : Int)) < (((bs.length : Nat) : Int))) (by omega)) ?_
      refine ps_end ?_
      refine then_n ?_
      refine sy_sq (part_vwithin 210) (part_vwithin 211) ?_
      refine sy_n (.tmp 8) (part_vwithin 420) (part_vwithin 421) ?_
      refine sy_exit 0 (by kernel_rfl) ?_
      refine then_e ?_
      refine then_e ?_
      refine blk_e ?_
      refine then_n ?_
      refine sy_sq (part_vwithin 14) (part_vwithin 15) ?_
      refine sy_reg ?_
      refine rg_plain 7 (opsAt (part_vwithin 14)) [0] (by kernel_rfl) (by kernel_rfl) ?_
      refine ps_k (o_vwithin 14 0) (.int .i64 0) ?_
      refine ps_end ?_
      refine then_n ?_
      refine sy_ret (by kernel_rfl) ?_
      refine sy_out (.int .i64 0) rfl (by kernel_rfl) ?_
      exact ⟨by rw [bErr_ok fun k b h => hok k b (by have := (List.getElem?_eq_some_iff.1 h).1; omega) h], K2⟩
noncomputable def part_vwho (n : Nat) : Code := partOf Try.f60 n
noncomputable abbrev o_vwho (n k : Nat) : Oper := (opsAt (part_vwho n)).getD k default
set_option maxRecDepth 100000 in
set_option maxHeartbeats 4000000 in
theorem vwho_ok (x : Int) (w : World) :
    Calls Try.prog 60 #[.int .i64 x] w (fun e w' => e = .returned (.agg #[.int .i64 x, .int .i64 0, .int .i64 31]) ∧ Keeps Nob w w') := by
  have K0 : Keeps Nob w w := Keeps.refl _ _
  refine sy_enter (part_vwho 1) ⟨#[.int .i64 x, undef, undef, undef, undef], []⟩ Try.func60 (by kernel_rfl) (by kernel_rfl) ?_
  refine sy_sq (part_vwho 2) (part_vwho 3) ?_
  refine sy_reg ?_
  refine rg_plain 0 (opsAt (part_vwho 2)) [0] (by kernel_rfl) (by kernel_rfl) ?_
  obtain ⟨V1, eV1, gr, egr, h2, kV1⟩ := alloc_step w (#[.int .i64 0, .int .i64 0, .int .i64 0]) 104
  have n3 : w.heap.size ≤ gr := egr ▸ K0.size
  refine ps_r (o_vwho 2 0) (pT gr 0) (w' := V1) (by rw [← eV1, ← egr]; exact exec_alloc0 104 (by kernel_rfl) (.agg (#[.int .i64 0, .int .i64 0, .int .i64 0])) (by kernel_rfl)) ?_
  clear eV1
  have K4 := K0.nn kV1
  have z5 := kV1.size
  refine ps_end ?_
  refine then_n ?_
  refine sy_sq (part_vwho 6) (part_vwho 7) ?_
  refine sy_reg ?_
  refine rg_plain 1 (opsAt (part_vwho 6)) [0, 1, 2] (by kernel_rfl) (by kernel_rfl) ?_
  refine ps_k (o_vwho 6 0) (.int .i64 x) ?_
  refine ps_k (o_vwho 6 1) (.agg #[.int .i64 x, .int .i64 0, .int .i64 31]) ?_
  obtain ⟨V6, eV6, kV6⟩ := rowset_step V1 gr (#[.int .i64 x, .int .i64 0, .int .i64 31])
  have h7 : V6.heap[gr]? = some (.cells (#[.int .i64 x, .int .i64 0, .int .i64 31]) 104 (0, 0)) := eV6 ▸ setRow_heap _ _ _ _ _ _ h2
  refine ps_s (o_vwho 6 2) (w' := V6) (by rw [← eV6]; exact exec_store_row 104 (.tmp 2) (.tmp 4) (by kernel_rfl) gr (#[.int .i64 x, .int .i64 0, .int .i64 31]) (by kernel_rfl) (by kernel_rfl) 104 (#[.int .i64 0, .int .i64 0, .int .i64 0]) h2 (by kernel_rfl) rfl (by kernel_rfl)) ?_
  clear eV6
  have K8 := K4.no kV6 (by omega)
  have z9 := kV6.size
  refine ps_end ?_
  refine then_n ?_
  refine sy_ret (by kernel_rfl) ?_
  refine sy_out (.agg (#[.int .i64 x, .int .i64 0, .int .i64 31])) rfl (results_cell_row (p := 2) (ty := 104) (by kernel_rfl) _ _ gr 104 (#[.int .i64 x, .int .i64 0, .int .i64 31]) (0, 0) _ (by kernel_rfl) h7 Try.underlying104 rfl (by kernel_rfl)) ?_
  exact ⟨rfl, K8⟩
theorem within_Att (a : Att) {g : Nat} (w : World) (h0 : w.heap[g]? = some (.cells (bC [(a.v, 0, 31), (a.s, 0, 4294967296), (a.t, 0, 4294967296)]).toArray 104 (0, 0))) : Calls Try.prog 59 #[.slice (some ⟨g, 0, none⟩) 3 3] w fun e w' => e = .returned (.int .i64 a.err) ∧ Keeps Nob w w' := by
  have := vwithin_ok g 3 [(a.v, 0, 31), (a.s, 0, 4294967296), (a.t, 0, 4294967296)] [] w (by rw [List.append_nil]; exact h0) (by simp)
  rwa [bErr_att] at this
noncomputable def part_vCheck (n : Nat) : Code := partOf Try.f33 n
noncomputable abbrev o_vCheck (n k : Nat) : Oper := (opsAt (part_vCheck n)).getD k default
set_option maxRecDepth 100000 in
set_option maxHeartbeats 4000000 in
theorem vCheck_ok (a : Att) (w : World) (hr : a.r.length = 32) :
    Calls Try.prog 33 #[.agg (Att.c a)] w (fun e w' => e = .returned (.int .i64 a.err) ∧ Keeps Nob w w') := by
  have K0 : Keeps Nob w w := Keeps.refl _ _
  refine sy_enter (part_vCheck 1) ⟨#[.agg (Att.c a), undef, undef, undef, undef, undef, undef, undef, undef, undef, undef, undef, undef, undef], []⟩ Try.func33 (by kernel_rfl) (by kernel_rfl) ?_
  refine sy_sq (part_vCheck 2) (part_vCheck 3) ?_
  refine sy_reg ?_
  refine rg_plain 0 (opsAt (part_vCheck 2)) [0, 1] (by kernel_rfl) (by kernel_rfl) ?_
  obtain ⟨V1, eV1, ga, ega, h2, kV1⟩ := alloc_step w ((Att.c a)) 28
  have n3 : w.heap.size ≤ ga := ega ▸ K0.size
  refine ps_r (o_vCheck 2 0) (pT ga 0) (w' := V1) (by rw [← eV1, ← ega]; exact exec_box 28 (.tmp 0) (by kernel_rfl) (.agg (Att.c a)) (by kernel_rfl)) ?_
  clear eV1
  have K4 := K0.nn kV1
  have z5 := kV1.size
  refine ps_k (o_vCheck 2 1) (.int .i64 0) ?_
  refine ps_end ?_
  refine then_n ?_
  refine sy_sq (part_vCheck 6) (part_vCheck 7) ?_
  refine sy_np ?_
  refine sy_reg ?_
  refine an_begin 1 12 (opsAt (part_vCheck 6)) (fun W => (W.heap[ga]? = some (.cells (Att.c a) 28 (0, 0)))) #[false, false, false, false, false, false, false, false, false, false, false, false] (by kernel_rfl) (by kernel_rfl) (by kernel_rfl) (by kernel_rfl) ?_
  obtain ⟨V6, eV6, kV6⟩ := drew_step V1
  rw [eV6]
  clear eV6
  have h7 := kV6.bk h2
  have K8 := K4.nn kV6
  have z9 := kV6.size
  refine an_k 0 (o_vCheck 6 0) (pT ga 0) h7 ?_
  refine an_v 1 (o_vCheck 6 1) (.int .i64 a.v) (fun W hS => exec_ld 3 (.tmp 3) ga 0 Try.underlying3 (rc (hS) (Att.c_0 _))) h7 ?_
  refine an_k 3 (o_vCheck 6 3) (pT ga 1) h7 ?_
  refine an_v 4 (o_vCheck 6 4) (.int .i64 a.s) (fun W hS => exec_ld 3 (.tmp 6) ga 1 Try.underlying3 (rc (hS) (Att.c_1 _))) h7 ?_
  refine an_k 5 (o_vCheck 6 5) (.agg #[.int .i64 a.s, .int .i64 0, .int .i64 4294967296]) h7 ?_
  refine an_k 6 (o_vCheck 6 6) (pT ga 2) h7 ?_
  refine an_v 7 (o_vCheck 6 7) (.int .i64 a.t) (fun W hS => exec_ld 3 (.tmp 9) ga 2 Try.underlying3 (rc (hS) (Att.c_2 _))) h7 ?_
  refine an_k 8 (o_vCheck 6 8) (.agg #[.int .i64 a.t, .int .i64 0, .int .i64 4294967296]) h7 ?_
  refine an_o 2 ?_
  refine on_c (o_vCheck 6 2) 60 #[.int .i64 a.v] Try.func60 ((vwho_ok a.v _).mono ?_)
  rintro e V10 ⟨rfl, kV10⟩
  refine ⟨_, rfl, ?_⟩
  have h11 := kV10.bk h7
  have K12 := K8.nn kV10
  have z13 := kV10.size
  refine ⟨h11, ?_⟩
  refine an_o 9 ?_
  obtain ⟨V14, eV14, gl, egl, h15, kV14⟩ := alloc_step V10 (#[.int .i64 a.v, .int .i64 0, .int .i64 31, .int .i64 a.s, .int .i64 0, .int .i64 4294967296, .int .i64 a.t, .int .i64 0, .int .i64 4294967296]) 104
  have n16 : ga < gl := egl ▸ lt_of_block h11
  have n17 : w.heap.size ≤ gl := egl ▸ K12.size
  refine on_r (o_vCheck 6 9) (.slice (some ⟨gl, 0, none⟩) 3 3) (w' := V14) (by rw [← eV14, ← egl]; kernel_rfl) ?_
  have h18 := kV14.bk h11
  have K19 := K12.nn kV14
  have z20 := kV14.size
  refine ⟨h18, ?_⟩
  refine an_o 10 ?_
  refine on_c (o_vCheck 6 10) 59 #[.slice (some ⟨gl, 0, none⟩) 3 3] Try.func59 ((within_Att a _ h15).mono ?_)
  rintro e V21 ⟨rfl, kV21⟩
  refine ⟨_, rfl, ?_⟩
  have h22 := kV21.bk h18
  have h23 := kV21.bk h15
  have K24 := K19.nn kV21
  have z25 := kV21.size
  refine ⟨h22, ?_⟩
  refine an_o 11 ?_
  refine on_r (o_vCheck 6 11) (.int .i64 a.err) (w' := V21) (by kernel_rfl) ?_
  refine ⟨h22, ?_⟩
  refine an_end (by kernel_rfl) ?_
  refine then_n ?_
  refine sy_ret (by kernel_rfl) ?_
  refine sy_out (.int .i64 a.err) rfl (by kernel_rfl) ?_
  exact ⟨rfl, K24⟩
theorem within_Pro (a : Pro) {g : Nat} (w : World) (h0 : w.heap[g]? = some (.cells (bC [(a.v, 0, 31), (a.h, 1, 4294967296)]).toArray 104 (0, 0))) : Calls Try.prog 59 #[.slice (some ⟨g, 0, none⟩) 2 2] w fun e w' => e = .returned (.int .i64 a.err) ∧ Keeps Nob w w' := by
  have := vwithin_ok g 2 [(a.v, 0, 31), (a.h, 1, 4294967296)] [] w (by rw [List.append_nil]; exact h0) (by simp)
  rwa [bErr_pro] at this
noncomputable def part_vCheckBlock (n : Nat) : Code := partOf Try.f36 n
noncomputable abbrev o_vCheckBlock (n k : Nat) : Oper := (opsAt (part_vCheckBlock n)).getD k default
set_option maxRecDepth 100000 in
set_option maxHeartbeats 4000000 in
theorem vCheckBlock_ok (a : Pro) (w : World) (hr : a.r.length = 32) :
    Calls Try.prog 36 #[.agg (Pro.c a)] w (fun e w' => e = .returned (.int .i64 a.err) ∧ Keeps Nob w w') := by
  have K0 : Keeps Nob w w := Keeps.refl _ _
  refine sy_enter (part_vCheckBlock 1) ⟨#[.agg (Pro.c a), undef, undef, undef, undef, undef, undef, undef, undef, undef, undef], []⟩ Try.func36 (by kernel_rfl) (by kernel_rfl) ?_
  refine sy_sq (part_vCheckBlock 2) (part_vCheckBlock 3) ?_
  refine sy_reg ?_
  refine rg_plain 0 (opsAt (part_vCheckBlock 2)) [0, 1] (by kernel_rfl) (by kernel_rfl) ?_
  obtain ⟨V1, eV1, ga, ega, h2, kV1⟩ := alloc_step w ((Pro.c a)) 35
  have n3 : w.heap.size ≤ ga := ega ▸ K0.size
  refine ps_r (o_vCheckBlock 2 0) (pT ga 0) (w' := V1) (by rw [← eV1, ← ega]; exact exec_box 35 (.tmp 0) (by kernel_rfl) (.agg (Pro.c a)) (by kernel_rfl)) ?_
  clear eV1
  have K4 := K0.nn kV1
  have z5 := kV1.size
  refine ps_k (o_vCheckBlock 2 1) (.int .i64 0) ?_
  refine ps_end ?_
  refine then_n ?_
  refine sy_sq (part_vCheckBlock 6) (part_vCheckBlock 7) ?_
  refine sy_np ?_
  refine sy_reg ?_
  refine an_begin 1 9 (opsAt (part_vCheckBlock 6)) (fun W => (W.heap[ga]? = some (.cells (Pro.c a) 35 (0, 0)))) #[false, false, false, false, false, false, false, false, false] (by kernel_rfl) (by kernel_rfl) (by kernel_rfl) (by kernel_rfl) ?_
  obtain ⟨V6, eV6, kV6⟩ := drew_step V1
  rw [eV6]
  clear eV6
  have h7 := kV6.bk h2
  have K8 := K4.nn kV6
  have z9 := kV6.size
  refine an_k 0 (o_vCheckBlock 6 0) (pT ga 0) h7 ?_
  refine an_v 1 (o_vCheckBlock 6 1) (.int .i64 a.v) (fun W hS => exec_ld 3 (.tmp 3) ga 0 Try.underlying3 (rc (hS) (Pro.c_0 _))) h7 ?_
  refine an_k 3 (o_vCheckBlock 6 3) (pT ga 1) h7 ?_
  refine an_v 4 (o_vCheckBlock 6 4) (.int .i64 a.h) (fun W hS => exec_ld 3 (.tmp 6) ga 1 Try.underlying3 (rc (hS) (Pro.c_1 _))) h7 ?_
  refine an_k 5 (o_vCheckBlock 6 5) (.agg #[.int .i64 a.h, .int .i64 1, .int .i64 4294967296]) h7 ?_
  refine an_o 2 ?_
  refine on_c (o_vCheckBlock 6 2) 60 #[.int .i64 a.v] Try.func60 ((vwho_ok a.v _).mono ?_)
  rintro e V10 ⟨rfl, kV10⟩
  refine ⟨_, rfl, ?_⟩
  have h11 := kV10.bk h7
  have K12 := K8.nn kV10
  have z13 := kV10.size
  refine ⟨h11, ?_⟩
  refine an_o 6 ?_
  obtain ⟨V14, eV14, gl, egl, h15, kV14⟩ := alloc_step V10 (#[.int .i64 a.v, .int .i64 0, .int .i64 31, .int .i64 a.h, .int .i64 1, .int .i64 4294967296]) 104
  have n16 : ga < gl := egl ▸ lt_of_block h11
  have n17 : w.heap.size ≤ gl := egl ▸ K12.size
  refine on_r (o_vCheckBlock 6 6) (.slice (some ⟨gl, 0, none⟩) 2 2) (w' := V14) (by rw [← eV14, ← egl]; kernel_rfl) ?_
  have h18 := kV14.bk h11
  have K19 := K12.nn kV14
  have z20 := kV14.size
  refine ⟨h18, ?_⟩
  refine an_o 7 ?_
  refine on_c (o_vCheckBlock 6 7) 59 #[.slice (some ⟨gl, 0, none⟩) 2 2] Try.func59 ((within_Pro a _ h15).mono ?_)
  rintro e V21 ⟨rfl, kV21⟩
  refine ⟨_, rfl, ?_⟩
  have h22 := kV21.bk h18
  have h23 := kV21.bk h15
  have K24 := K19.nn kV21
  have z25 := kV21.size
  refine ⟨h22, ?_⟩
  refine an_o 8 ?_
  refine on_r (o_vCheckBlock 6 8) (.int .i64 a.err) (w' := V21) (by kernel_rfl) ?_
  refine ⟨h22, ?_⟩
  refine an_end (by kernel_rfl) ?_
  refine then_n ?_
  refine sy_ret (by kernel_rfl) ?_
  refine sy_out (.int .i64 a.err) rfl (by kernel_rfl) ?_
  exact ⟨rfl, K24⟩
noncomputable def part_rwithin (n : Nat) : Code := partOf Try.f68 n
noncomputable abbrev o_rwithin (n k : Nat) : Oper := (opsAt (part_rwithin n)).getD k default
set_option maxRecDepth 100000 in
set_option maxHeartbeats 4000000 in
theorem rwithin_0 (n lo hi : Int) (w : World) (h : n < lo) :
    Calls Try.prog 68 #[.int .i64 n, .int .i64 lo, .int .i64 hi] w (fun e w' => e = .returned (.bool false) ∧ w = w') := by
  have K0 : Keeps Nob w w := Keeps.refl _ _
  refine sy_enter (part_rwithin 1) ⟨#[.int .i64 n, .int .i64 lo, .int .i64 hi, undef, undef, undef, undef, undef, undef, undef, undef, undef, undef, undef, undef], []⟩ Try.func68 (by kernel_rfl) (by kernel_rfl) ?_
  refine sy_sq (part_rwithin 2) (part_rwithin 3) ?_
  refine sy_reg ?_
  refine rg_plain 0 (opsAt (part_rwithin 2)) [0] (by kernel_rfl) (by kernel_rfl) ?_
  refine ps_k (o_rwithin 2 0) (.bool false) ?_
  refine ps_end ?_
  refine then_n ?_
  refine sy_sq (part_rwithin 6) (part_rwithin 7) ?_
  refine sy_reg ?_
  refine rg_plain 1 (opsAt (part_rwithin 6)) [0, 1, 2, 3, 4, 5, 6, 7, 8] (by kernel_rfl) (by kernel_rfl) ?_
  refine ps_k (o_rwithin 6 0) (.int .i64 n) ?_
  refine ps_k (o_rwithin 6 1) (.int .i64 lo) ?_
  refine ps_p (o_rwithin 6 2) (.bool false) (dcf (((n) : Int) ≥ ((lo) : Int)) (by omega)) ?_
  refine ps_k (o_rwithin 6 3) (.bool false) ?_
  refine ps_n (o_rwithin 6 4) ?_
  refine ps_n (o_rwithin 6 5) ?_
  refine ps_n (o_rwithin 6 6) ?_
  refine ps_k (o_rwithin 6 7) (.bool false) ?_
  refine ps_k (o_rwithin 6 8) (.bool false) ?_
  refine ps_end ?_
  refine then_n ?_
  refine sy_ret (by kernel_rfl) ?_
  refine sy_out (.bool false) rfl (by kernel_rfl) ?_
  exact ⟨rfl, rfl⟩
set_option maxRecDepth 100000 in
set_option maxHeartbeats 4000000 in
theorem rwithin_1 (n lo hi : Int) (w : World) (h : lo ≤ n) (h2 : hi < n) :
    Calls Try.prog 68 #[.int .i64 n, .int .i64 lo, .int .i64 hi] w (fun e w' => e = .returned (.bool false) ∧ w = w') := by
  have K0 : Keeps Nob w w := Keeps.refl _ _
  refine sy_enter (part_rwithin 1) ⟨#[.int .i64 n, .int .i64 lo, .int .i64 hi, undef, undef, undef, undef, undef, undef, undef, undef, undef, undef, undef, undef], []⟩ Try.func68 (by kernel_rfl) (by kernel_rfl) ?_
  refine sy_sq (part_rwithin 2) (part_rwithin 3) ?_
  refine sy_reg ?_
  refine rg_plain 0 (opsAt (part_rwithin 2)) [0] (by kernel_rfl) (by kernel_rfl) ?_
  refine ps_k (o_rwithin 2 0) (.bool false) ?_
  refine ps_end ?_
  refine then_n ?_
  refine sy_sq (part_rwithin 6) (part_rwithin 7) ?_
  refine sy_reg ?_
  refine rg_plain 1 (opsAt (part_rwithin 6)) [0, 1, 2, 3, 4, 5, 6, 7, 8] (by kernel_rfl) (by kernel_rfl) ?_
  refine ps_k (o_rwithin 6 0) (.int .i64 n) ?_
  refine ps_k (o_rwithin 6 1) (.int .i64 lo) ?_
  refine ps_p (o_rwithin 6 2) (.bool true) (dct (((n) : Int) ≥ ((lo) : Int)) (by omega)) ?_
  refine ps_k (o_rwithin 6 3) (.bool true) ?_
  refine ps_k (o_rwithin 6 4) (.int .i64 n) ?_
  refine ps_k (o_rwithin 6 5) (.int .i64 hi) ?_
  refine ps_p (o_rwithin 6 6) (.bool false) (dcf (((n) : Int) ≤ ((hi) : Int)) (by omega)) ?_
  refine ps_k (o_rwithin 6 7) (.bool false) ?_
  refine ps_k (o_rwithin 6 8) (.bool false) ?_
  refine ps_end ?_
  refine then_n ?_
  refine sy_ret (by kernel_rfl) ?_
  refine sy_out (.bool false) rfl (by kernel_rfl) ?_
  exact ⟨rfl, rfl⟩
set_option maxRecDepth 100000 in
set_option maxHeartbeats 4000000 in
theorem rwithin_2 (n lo hi : Int) (w : World) (h : lo ≤ n) (h2 : n ≤ hi) :
    Calls Try.prog 68 #[.int .i64 n, .int .i64 lo, .int .i64 hi] w (fun e w' => e = .returned (.bool true) ∧ w = w') := by
  have K0 : Keeps Nob w w := Keeps.refl _ _
  refine sy_enter (part_rwithin 1) ⟨#[.int .i64 n, .int .i64 lo, .int .i64 hi, undef, undef, undef, undef, undef, undef, undef, undef, undef, undef, undef, undef], []⟩ Try.func68 (by kernel_rfl) (by kernel_rfl) ?_
  refine sy_sq (part_rwithin 2) (part_rwithin 3) ?_
  refine sy_reg ?_
  refine rg_plain 0 (opsAt (part_rwithin 2)) [0] (by kernel_rfl) (by kernel_rfl) ?_
  refine ps_k (o_rwithin 2 0) (.bool false) ?_
  refine ps_end ?_
  refine then_n ?_
  refine sy_sq (part_rwithin 6) (part_rwithin 7) ?_
  refine sy_reg ?_
  refine rg_plain 1 (opsAt (part_rwithin 6)) [0, 1, 2, 3, 4, 5, 6, 7, 8] (by kernel_rfl) (by kernel_rfl) ?_
  refine ps_k (o_rwithin 6 0) (.int .i64 n) ?_
  refine ps_k (o_rwithin 6 1) (.int .i64 lo) ?_
  refine ps_p (o_rwithin 6 2) (.bool true) (dct (((n) : Int) ≥ ((lo) : Int)) (by omega)) ?_
  refine ps_k (o_rwithin 6 3) (.bool true) ?_
  refine ps_k (o_rwithin 6 4) (.int .i64 n) ?_
  refine ps_k (o_rwithin 6 5) (.int .i64 hi) ?_
  refine ps_p (o_rwithin 6 6) (.bool true) (dct (((n) : Int) ≤ ((hi) : Int)) (by omega)) ?_
  refine ps_k (o_rwithin 6 7) (.bool true) ?_
  refine ps_k (o_rwithin 6 8) (.bool true) ?_
  refine ps_end ?_
  refine then_n ?_
  refine sy_ret (by kernel_rfl) ?_
  refine sy_out (.bool true) rfl (by kernel_rfl) ?_
  exact ⟨rfl, rfl⟩
theorem rwithin_yes (n lo hi : Int) (w : World) (h : lo ≤ n ∧ n ≤ hi) : Calls Try.prog 68 #[.int .i64 n, .int .i64 lo, .int .i64 hi] w fun e w' => e = .returned (.bool true) ∧ w = w' := rwithin_2 n lo hi w h.1 h.2
theorem rwithin_no (n lo hi : Int) (w : World) (h : ¬ (lo ≤ n ∧ n ≤ hi)) : Calls Try.prog 68 #[.int .i64 n, .int .i64 lo, .int .i64 hi] w fun e w' => e = .returned (.bool false) ∧ w = w' := by
  by_cases h1 : n < lo
  · exact rwithin_0 n lo hi w h1
  · exact rwithin_1 n lo hi w (by omega) (by omega)
noncomputable def part_rvCheck (n : Nat) : Code := partOf Try.f63 n
noncomputable abbrev o_rvCheck (n k : Nat) : Oper := (opsAt (part_rvCheck n)).getD k default
set_option maxRecDepth 100000 in
set_option maxHeartbeats 4000000 in
theorem rvCheck_0 (a : Att) (w : World) (hr : a.r.length = 32) (c0 : ¬ (0 ≤ a.v ∧ a.v ≤ 31)) :
    Calls Try.prog 63 #[.agg (Att.c a)] w (fun e w' => e = .returned (.int .i64 a.err) ∧ Keeps Nob w w') := by
  have K0 : Keeps Nob w w := Keeps.refl _ _
  refine sy_enter (part_rvCheck 1) ⟨#[.agg (Att.c a), undef, undef, undef, undef, undef, undef, undef, undef, undef, undef, undef, undef, undef, undef, undef, undef, undef, undef], []⟩ Try.func63 (by kernel_rfl) (by kernel_rfl) ?_
  refine sy_sq (part_rvCheck 2) (part_rvCheck 3) ?_
  refine sy_reg ?_
  refine rg_plain 0 (opsAt (part_rvCheck 2)) [0, 1] (by kernel_rfl) (by kernel_rfl) ?_
  obtain ⟨V1, eV1, ga, ega, h2, kV1⟩ := alloc_step w ((Att.c a)) 28
  have n3 : w.heap.size ≤ ga := ega ▸ K0.size
  refine ps_r (o_rvCheck 2 0) (pT ga 0) (w' := V1) (by rw [← eV1, ← ega]; exact exec_box 28 (.tmp 0) (by kernel_rfl) (.agg (Att.c a)) (by kernel_rfl)) ?_
  clear eV1
  have K4 := K0.nn kV1
  have z5 := kV1.size
  refine ps_k (o_rvCheck 2 1) (.int .i64 0) ?_
  refine ps_end ?_
  refine then_n ?_
  refine sy_sq (part_rvCheck 6) (part_rvCheck 7) ?_
  refine sy_sq (part_rvCheck 12) (part_rvCheck 13) ?_
  refine sy_reg ?_
  refine rg_plain 1 (opsAt (part_rvCheck 12)) [0, 1, 2, 3, 4, 5, 6, 7, 8, 9, 10, 11, 12, 13, 14, 15] (by kernel_rfl) (by kernel_rfl) ?_
  refine ps_k (o_rvCheck 12 0) (pT ga 0) ?_
  refine ps_p (o_rvCheck 12 1) (.int .i64 a.v) (exec_ld 3 (.tmp 3) ga 0 Try.underlying3 (rc (h2) (Att.c_0 _))) ?_
  refine ps_c (o_rvCheck 12 2) 68 #[.int .i64 a.v, .int .i64 0, .int .i64 31] Try.func68 ((rwithin_no a.v 0 31 _ c0).mono ?_)
  rintro e w1 ⟨rfl, rfl⟩
  refine ⟨_, rfl, ?_⟩
  refine ps_k (o_rvCheck 12 3) (.bool true) ?_
  refine ps_k (o_rvCheck 12 4) (.bool true) ?_
  refine ps_n (o_rvCheck 12 5) ?_
  refine ps_n (o_rvCheck 12 6) ?_
  refine ps_n (o_rvCheck 12 7) ?_
  refine ps_n (o_rvCheck 12 8) ?_
  refine ps_k (o_rvCheck 12 9) (.bool true) ?_
  refine ps_k (o_rvCheck 12 10) (.bool true) ?_
  refine ps_n (o_rvCheck 12 11) ?_
  refine ps_n (o_rvCheck 12 12) ?_
  refine ps_n (o_rvCheck 12 13) ?_
  refine ps_n (o_rvCheck 12 14) ?_
  refine ps_k (o_rvCheck 12 15) (.bool true) ?_
  refine ps_end ?_
  refine then_n ?_
  refine sy_ys (.tmp 18) (part_rvCheck 26) (part_rvCheck 27) ?_
  refine sy_sq (part_rvCheck 52) (part_rvCheck 53) ?_
  refine sy_reg ?_
  refine rg_plain 2 (opsAt (part_rvCheck 52)) [0] (by kernel_rfl) (by kernel_rfl) ?_
  refine ps_k (o_rvCheck 52 0) (.int .i64 3) ?_
  refine ps_end ?_
  refine then_n ?_
  refine sy_ret (by kernel_rfl) ?_
  refine then_r ?_
  refine sy_out (.int .i64 3) rfl (by kernel_rfl) ?_
  exact ⟨by rw [Att.err_no (by unfold Att.fine; omega)], K4⟩
set_option maxRecDepth 100000 in
set_option maxHeartbeats 4000000 in
theorem rvCheck_1 (a : Att) (w : World) (hr : a.r.length = 32) (c0 : (0 ≤ a.v ∧ a.v ≤ 31)) (c1 : ¬ (0 ≤ a.s ∧ a.s ≤ 4294967296)) :
    Calls Try.prog 63 #[.agg (Att.c a)] w (fun e w' => e = .returned (.int .i64 a.err) ∧ Keeps Nob w w') := by
  have K0 : Keeps Nob w w := Keeps.refl _ _
  refine sy_enter (part_rvCheck 1) ⟨#[.agg (Att.c a), undef, undef, undef, undef, undef, undef, undef, undef, undef, undef, undef, undef, undef, undef, undef, undef, undef, undef], []⟩ Try.func63 (by kernel_rfl) (by kernel_rfl) ?_
  refine sy_sq (part_rvCheck 2) (part_rvCheck 3) ?_
  refine sy_reg ?_
  refine rg_plain 0 (opsAt (part_rvCheck 2)) [0, 1] (by kernel_rfl) (by kernel_rfl) ?_
  obtain ⟨V1, eV1, ga, ega, h2, kV1⟩ := alloc_step w ((Att.c a)) 28
  have n3 : w.heap.size ≤ ga := ega ▸ K0.size
  refine ps_r (o_rvCheck 2 0) (pT ga 0) (w' := V1) (by rw [← eV1, ← ega]; exact exec_box 28 (.tmp 0) (by kernel_rfl) (.agg (Att.c a)) (by kernel_rfl)) ?_
  clear eV1
  have K4 := K0.nn kV1
  have z5 := kV1.size
  refine ps_k (o_rvCheck 2 1) (.int .i64 0) ?_
  refine ps_end ?_
  refine then_n ?_
  refine sy_sq (part_rvCheck 6) (part_rvCheck 7) ?_
  refine sy_sq (part_rvCheck 12) (part_rvCheck 13) ?_
  refine sy_reg ?_
  refine rg_plain 1 (opsAt (part_rvCheck 12)) [0, 1, 2, 3, 4, 5, 6, 7, 8, 9, 10, 11, 12, 13, 14, 15] (by kernel_rfl) (by kernel_rfl) ?_
  refine ps_k (o_rvCheck 12 0) (pT ga 0) ?_
  refine ps_p (o_rvCheck 12 1) (.int .i64 a.v) (exec_ld 3 (.tmp 3) ga 0 Try.underlying3 (rc (h2) (Att.c_0 _))) ?_
  refine ps_c (o_rvCheck 12 2) 68 #[.int .i64 a.v, .int .i64 0, .int .i64 31] Try.func68 ((rwithin_yes a.v 0 31 _ c0).mono ?_)
  rintro e w1 ⟨rfl, rfl⟩
  refine ⟨_, rfl, ?_⟩
  refine ps_k (o_rvCheck 12 3) (.bool false) ?_
  refine ps_k (o_rvCheck 12 4) (.bool false) ?_
  refine ps_k (o_rvCheck 12 5) (pT ga 1) ?_
  refine ps_p (o_rvCheck 12 6) (.int .i64 a.s) (exec_ld 3 (.tmp 8) ga 1 Try.underlying3 (rc (h2) (Att.c_1 _))) ?_
  refine ps_c (o_rvCheck 12 7) 68 #[.int .i64 a.s, .int .i64 0, .int .i64 4294967296] Try.func68 ((rwithin_no a.s 0 4294967296 _ c1).mono ?_)
  rintro e w1 ⟨rfl, rfl⟩
  refine ⟨_, rfl, ?_⟩
  refine ps_k (o_rvCheck 12 8) (.bool true) ?_
  refine ps_k (o_rvCheck 12 9) (.bool true) ?_
  refine ps_k (o_rvCheck 12 10) (.bool true) ?_
  refine ps_n (o_rvCheck 12 11) ?_
  refine ps_n (o_rvCheck 12 12) ?_
  refine ps_n (o_rvCheck 12 13) ?_
  refine ps_n (o_rvCheck 12 14) ?_
  refine ps_k (o_rvCheck 12 15) (.bool true) ?_
  refine ps_end ?_
  refine then_n ?_
  refine sy_ys (.tmp 18) (part_rvCheck 26) (part_rvCheck 27) ?_
  refine sy_sq (part_rvCheck 52) (part_rvCheck 53) ?_
  refine sy_reg ?_
  refine rg_plain 2 (opsAt (part_rvCheck 52)) [0] (by kernel_rfl) (by kernel_rfl) ?_
  refine ps_k (o_rvCheck 52 0) (.int .i64 3) ?_
  refine ps_end ?_
  refine then_n ?_
  refine sy_ret (by kernel_rfl) ?_
  refine then_r ?_
  refine sy_out (.int .i64 3) rfl (by kernel_rfl) ?_
  exact ⟨by rw [Att.err_no (by unfold Att.fine; omega)], K4⟩
set_option maxRecDepth 100000 in
set_option maxHeartbeats 4000000 in
theorem rvCheck_2 (a : Att) (w : World) (hr : a.r.length = 32) (c0 : (0 ≤ a.v ∧ a.v ≤ 31)) (c1 : (0 ≤ a.s ∧ a.s ≤ 4294967296)) (c2 : ¬ (0 ≤ a.t ∧ a.t ≤ 4294967296)) :
    Calls Try.prog 63 #[.agg (Att.c a)] w (fun e w' => e = .returned (.int .i64 a.err) ∧ Keeps Nob w w') := by
  have K0 : Keeps Nob w w := Keeps.refl _ _
  refine sy_enter (part_rvCheck 1) ⟨#[.agg (Att.c a), undef, undef, undef, undef, undef, undef, undef, undef, undef, undef, undef, undef, undef, undef, undef, undef, undef, undef], []⟩ Try.func63 (by kernel_rfl) (by kernel_rfl) ?_
  refine sy_sq (part_rvCheck 2) (part_rvCheck 3) ?_
  refine sy_reg ?_
  refine rg_plain 0 (opsAt (part_rvCheck 2)) [0, 1] (by kernel_rfl) (by kernel_rfl) ?_
  obtain ⟨V1, eV1, ga, ega, h2, kV1⟩ := alloc_step w ((Att.c a)) 28
  have n3 : w.heap.size ≤ ga := ega ▸ K0.size
  refine ps_r (o_rvCheck 2 0) (pT ga 0) (w' := V1) (by rw [← eV1, ← ega]; exact exec_box 28 (.tmp 0) (by kernel_rfl) (.agg (Att.c a)) (by kernel_rfl)) ?_
  clear eV1
  have K4 := K0.nn kV1
  have z5 := kV1.size
  refine ps_k (o_rvCheck 2 1) (.int .i64 0) ?_
  refine ps_end ?_
  refine then_n ?_
  refine sy_sq (part_rvCheck 6) (part_rvCheck 7) ?_
  refine sy_sq (part_rvCheck 12) (part_rvCheck 13) ?_
  refine sy_reg ?_
  refine rg_plain 1 (opsAt (part_rvCheck 12)) [0, 1, 2, 3, 4, 5, 6, 7, 8, 9, 10, 11, 12, 13, 14, 15] (by kernel_rfl) (by kernel_rfl) ?_
  refine ps_k (o_rvCheck 12 0) (pT ga 0) ?_
  refine ps_p (o_rvCheck 12 1) (.int .i64 a.v) (exec_ld 3 (.tmp 3) ga 0 Try.underlying3 (rc (h2) (Att.c_0 _))) ?_
  refine ps_c (o_rvCheck 12 2) 68 #[.int .i64 a.v, .int .i64 0, .int .i64 31] Try.func68 ((rwithin_yes a.v 0 31 _ c0).mono ?_)
  rintro e w1 ⟨rfl, rfl⟩
  refine ⟨_, rfl, ?_⟩
  refine ps_k (o_rvCheck 12 3) (.bool false) ?_
  refine ps_k (o_rvCheck 12 4) (.bool false) ?_
  refine ps_k (o_rvCheck 12 5) (pT ga 1) ?_
  refine ps_p (o_rvCheck 12 6) (.int .i64 a.s) (exec_ld 3 (.tmp 8) ga 1 Try.underlying3 (rc (h2) (Att.c_1 _))) ?_
  refine ps_c (o_rvCheck 12 7) 68 #[.int .i64 a.s, .int .i64 0, .int .i64 4294967296] Try.func68 ((rwithin_yes a.s 0 4294967296 _ c1).mono ?_)
  rintro e w1 ⟨rfl, rfl⟩
  refine ⟨_, rfl, ?_⟩
  refine ps_k (o_rvCheck 12 8) (.bool false) ?_
  refine ps_k (o_rvCheck 12 9) (.bool false) ?_
  refine ps_k (o_rvCheck 12 10) (.bool false) ?_
  refine ps_k (o_rvCheck 12 11) (pT ga 2) ?_
  refine ps_p (o_rvCheck 12 12) (.int .i64 a.t) (exec_ld 3 (.tmp 14) ga 2 Try.underlying3 (rc (h2) (Att.c_2 _))) ?_
  refine ps_c (o_rvCheck 12 13) 68 #[.int .i64 a.t, .int .i64 0, .int .i64 4294967296] Try.func68 ((rwithin_no a.t 0 4294967296 _ c2).mono ?_)
  rintro e w1 ⟨rfl, rfl⟩
  refine ⟨_, rfl, ?_⟩
  refine ps_k (o_rvCheck 12 14) (.bool true) ?_
  refine ps_k (o_rvCheck 12 15) (.bool true) ?_
  refine ps_end ?_
  refine then_n ?_
  refine sy_ys (.tmp 18) (part_rvCheck 26) (part_rvCheck 27) ?_
  refine sy_sq (part_rvCheck 52) (part_rvCheck 53) ?_
  refine sy_reg ?_
  refine rg_plain 2 (opsAt (part_rvCheck 52)) [0] (by kernel_rfl) (by kernel_rfl) ?_
  refine ps_k (o_rvCheck 52 0) (.int .i64 3) ?_
  refine ps_end ?_
  refine then_n ?_
  refine sy_ret (by kernel_rfl) ?_
  refine then_r ?_
  refine sy_out (.int .i64 3) rfl (by kernel_rfl) ?_
  exact ⟨by rw [Att.err_no (by unfold Att.fine; omega)], K4⟩
set_option maxRecDepth 100000 in
set_option maxHeartbeats 4000000 in
theorem rvCheck_3 (a : Att) (w : World) (hr : a.r.length = 32) (c0 : (0 ≤ a.v ∧ a.v ≤ 31)) (c1 : (0 ≤ a.s ∧ a.s ≤ 4294967296)) (c2 : (0 ≤ a.t ∧ a.t ≤ 4294967296)) :
    Calls Try.prog 63 #[.agg (Att.c a)] w (fun e w' => e = .returned (.int .i64 a.err) ∧ Keeps Nob w w') := by
  have K0 : Keeps Nob w w := Keeps.refl _ _
  refine sy_enter (part_rvCheck 1) ⟨#[.agg (Att.c a), undef, undef, undef, undef, undef, undef, undef, undef, undef, undef, undef, undef, undef, undef, undef, undef, undef, undef], []⟩ Try.func63 (by kernel_rfl) (by kernel_rfl) ?_
  refine sy_sq (part_rvCheck 2) (part_rvCheck 3) ?_
  refine sy_reg ?_
  refine rg_plain 0 (opsAt (part_rvCheck 2)) [0, 1] (by kernel_rfl) (by kernel_rfl) ?_
  obtain ⟨V1, eV1, ga, ega, h2, kV1⟩ := alloc_step w ((Att.c a)) 28
  have n3 : w.heap.size ≤ ga := ega ▸ K0.size
  refine ps_r (o_rvCheck 2 0) (pT ga 0) (w' := V1) (by rw [← eV1, ← ega]; exact exec_box 28 (.tmp 0) (by kernel_rfl) (.agg (Att.c a)) (by kernel_rfl)) ?_
  clear eV1
  have K4 := K0.nn kV1
  have z5 := kV1.size
  refine ps_k (o_rvCheck 2 1) (.int .i64 0) ?_
  refine ps_end ?_
  refine then_n ?_
  refine sy_sq (part_rvCheck 6) (part_rvCheck 7) ?_
  refine sy_sq (part_rvCheck 12) (part_rvCheck 13) ?_
  refine sy_reg ?_
  refine rg_plain 1 (opsAt (part_rvCheck 12)) [0, 1, 2, 3, 4, 5, 6, 7, 8, 9, 10, 11, 12, 13, 14, 15] (by kernel_rfl) (by kernel_rfl) ?_
  refine ps_k (o_rvCheck 12 0) (pT ga 0) ?_
  refine ps_p (o_rvCheck 12 1) (.int .i64 a.v) (exec_ld 3 (.tmp 3) ga 0 Try.underlying3 (rc (h2) (Att.c_0 _))) ?_
  refine ps_c (o_rvCheck 12 2) 68 #[.int .i64 a.v, .int .i64 0, .int .i64 31] Try.func68 ((rwithin_yes a.v 0 31 _ c0).mono ?_)
  rintro e w1 ⟨rfl, rfl⟩
  refine ⟨_, rfl, ?_⟩
  refine ps_k (o_rvCheck 12 3) (.bool false) ?_
  refine ps_k (o_rvCheck 12 4) (.bool false) ?_
  refine ps_k (o_rvCheck 12 5) (pT ga 1) ?_
  refine ps_p (o_rvCheck 12 6) (.int .i64 a.s) (exec_ld 3 (.tmp 8) ga 1 Try.underlying3 (rc (h2) (Att.c_1 _))) ?_
  refine ps_c (o_rvCheck 12 7) 68 #[.int .i64 a.s, .int .i64 0, .int .i64 4294967296] Try.func68 ((rwithin_yes a.s 0 4294967296 _ c1).mono ?_)
  rintro e w1 ⟨rfl, rfl⟩
  refine ⟨_, rfl, ?_⟩
  refine ps_k (o_rvCheck 12 8) (.bool false) ?_
  refine ps_k (o_rvCheck 12 9) (.bool false) ?_
  refine ps_k (o_rvCheck 12 10) (.bool false) ?_
  refine ps_k (o_rvCheck 12 11) (pT ga 2) ?_
  refine ps_p (o_rvCheck 12 12) (.int .i64 a.t) (exec_ld 3 (.tmp 14) ga 2 Try.underlying3 (rc (h2) (Att.c_2 _))) ?_
  refine ps_c (o_rvCheck 12 13) 68 #[.int .i64 a.t, .int .i64 0, .int .i64 4294967296] Try.func68 ((rwithin_yes a.t 0 4294967296 _ c2).mono ?_)
  rintro e w1 ⟨rfl, rfl⟩
  refine ⟨_, rfl, ?_⟩
  refine ps_k (o_rvCheck 12 14) (.bool false) ?_
  refine ps_k (o_rvCheck 12 15) (.bool false) ?_
  refine ps_end ?_
  refine then_n ?_
  refine sy_n (.tmp 18) (part_rvCheck 26) (part_rvCheck 27) ?_
  refine sy_sk ?_
  refine then_n ?_
  refine sy_sq (part_rvCheck 14) (part_rvCheck 15) ?_
  refine sy_reg ?_
  refine rg_plain 3 (opsAt (part_rvCheck 14)) [0] (by kernel_rfl) (by kernel_rfl) ?_
  refine ps_k (o_rvCheck 14 0) (.int .i64 0) ?_
  refine ps_end ?_
  refine then_n ?_
  refine sy_ret (by kernel_rfl) ?_
  refine sy_out (.int .i64 0) rfl (by kernel_rfl) ?_
  exact ⟨by rw [Att.err_ok (by unfold Att.fine; omega)], K4⟩
theorem rvCheck_ok (a : Att) (w : World) (hr : a.r.length = 32) : Calls Try.prog 63 #[.agg (Att.c a)] w fun e w' => e = .returned (.int .i64 a.err) ∧ Keeps Nob w w' := by
  by_cases c0 : (0 ≤ a.v ∧ a.v ≤ 31)
  case neg => exact rvCheck_0 a w hr c0
  by_cases c1 : (0 ≤ a.s ∧ a.s ≤ 4294967296)
  case neg => exact rvCheck_1 a w hr c0 c1
  by_cases c2 : (0 ≤ a.t ∧ a.t ≤ 4294967296)
  case neg => exact rvCheck_2 a w hr c0 c1 c2
  exact rvCheck_3 a w hr c0 c1 c2
noncomputable def part_rvCheckBlock (n : Nat) : Code := partOf Try.f64 n
noncomputable abbrev o_rvCheckBlock (n k : Nat) : Oper := (opsAt (part_rvCheckBlock n)).getD k default
set_option maxRecDepth 100000 in
set_option maxHeartbeats 4000000 in
theorem rvCheckBlock_0 (a : Pro) (w : World) (hr : a.r.length = 32) (c0 : ¬ (0 ≤ a.v ∧ a.v ≤ 31)) :
    Calls Try.prog 64 #[.agg (Pro.c a)] w (fun e w' => e = .returned (.int .i64 a.err) ∧ Keeps Nob w w') := by
  have K0 : Keeps Nob w w := Keeps.refl _ _
  refine sy_enter (part_rvCheckBlock 1) ⟨#[.agg (Pro.c a), undef, undef, undef, undef, undef, undef, undef, undef, undef, undef, undef, undef], []⟩ Try.func64 (by kernel_rfl) (by kernel_rfl) ?_
  refine sy_sq (part_rvCheckBlock 2) (part_rvCheckBlock 3) ?_
  refine sy_reg ?_
  refine rg_plain 0 (opsAt (part_rvCheckBlock 2)) [0, 1] (by kernel_rfl) (by kernel_rfl) ?_
  obtain ⟨V1, eV1, ga, ega, h2, kV1⟩ := alloc_step w ((Pro.c a)) 35
  have n3 : w.heap.size ≤ ga := ega ▸ K0.size
  refine ps_r (o_rvCheckBlock 2 0) (pT ga 0) (w' := V1) (by rw [← eV1, ← ega]; exact exec_box 35 (.tmp 0) (by kernel_rfl) (.agg (Pro.c a)) (by kernel_rfl)) ?_
  clear eV1
  have K4 := K0.nn kV1
  have z5 := kV1.size
  refine ps_k (o_rvCheckBlock 2 1) (.int .i64 0) ?_
  refine ps_end ?_
  refine then_n ?_
  refine sy_sq (part_rvCheckBlock 6) (part_rvCheckBlock 7) ?_
  refine sy_sq (part_rvCheckBlock 12) (part_rvCheckBlock 13) ?_
  refine sy_reg ?_
  refine rg_plain 1 (opsAt (part_rvCheckBlock 12)) [0, 1, 2, 3, 4, 5, 6, 7, 8, 9] (by kernel_rfl) (by kernel_rfl) ?_
  refine ps_k (o_rvCheckBlock 12 0) (pT ga 0) ?_
  refine ps_p (o_rvCheckBlock 12 1) (.int .i64 a.v) (exec_ld 3 (.tmp 3) ga 0 Try.underlying3 (rc (h2) (Pro.c_0 _))) ?_
  refine ps_c (o_rvCheckBlock 12 2) 68 #[.int .i64 a.v, .int .i64 0, .int .i64 31] Try.func68 ((rwithin_no a.v 0 31 _ c0).mono ?_)
  rintro e w1 ⟨rfl, rfl⟩
  refine ⟨_, rfl, ?_⟩
  refine ps_k (o_rvCheckBlock 12 3) (.bool true) ?_
  refine ps_k (o_rvCheckBlock 12 4) (.bool true) ?_
  refine ps_n (o_rvCheckBlock 12 5) ?_
  refine ps_n (o_rvCheckBlock 12 6) ?_
  refine ps_n (o_rvCheckBlock 12 7) ?_
  refine ps_n (o_rvCheckBlock 12 8) ?_
  refine ps_k (o_rvCheckBlock 12 9) (.bool true) ?_
  refine ps_end ?_
  refine then_n ?_
  refine sy_ys (.tmp 12) (part_rvCheckBlock 26) (part_rvCheckBlock 27) ?_
  refine sy_sq (part_rvCheckBlock 52) (part_rvCheckBlock 53) ?_
  refine sy_reg ?_
  refine rg_plain 2 (opsAt (part_rvCheckBlock 52)) [0] (by kernel_rfl) (by kernel_rfl) ?_
  refine ps_k (o_rvCheckBlock 52 0) (.int .i64 3) ?_
  refine ps_end ?_
  refine then_n ?_
  refine sy_ret (by kernel_rfl) ?_
  refine then_r ?_
  refine sy_out (.int .i64 3) rfl (by kernel_rfl) ?_
  exact ⟨by rw [Pro.err_no (by unfold Pro.fine; omega)], K4⟩
set_option maxRecDepth 100000 in
set_option maxHeartbeats 4000000 in
theorem rvCheckBlock_1 (a : Pro) (w : World) (hr : a.r.length = 32) (c0 : (0 ≤ a.v ∧ a.v ≤ 31)) (c1 : ¬ (1 ≤ a.h ∧ a.h ≤ 4294967296)) :
    Calls Try.prog 64 #[.agg (Pro.c a)] w (fun e w' => e = .returned (.int .i64 a.err) ∧ Keeps Nob w w') := by
  have K0 : Keeps Nob w w := Keeps.refl _ _
  refine sy_enter (part_rvCheckBlock 1) ⟨#[.agg (Pro.c a), undef, undef, undef, undef, undef, undef, undef, undef, undef, undef, undef, undef], []⟩ Try.func64 (by kernel_rfl) (by kernel_rfl) ?_
  refine sy_sq (part_rvCheckBlock 2) (part_rvCheckBlock 3) ?_
  refine sy_reg ?_
  refine rg_plain 0 (opsAt (part_rvCheckBlock 2)) [0, 1] (by kernel_rfl) (by kernel_rfl) ?_
  obtain ⟨V1, eV1, ga, ega, h2, kV1⟩ := alloc_step w ((Pro.c a)) 35
  have n3 : w.heap.size ≤ ga := ega ▸ K0.size
  refine ps_r (o_rvCheckBlock 2 0) (pT ga 0) (w' := V1) (by rw [← eV1, ← ega]; exact exec_box 35 (.tmp 0) (by kernel_rfl) (.agg (Pro.c a)) (by kernel_rfl)) ?_
  clear eV1
  have K4 := K0.nn kV1
  have z5 := kV1.size
  refine ps_k (o_rvCheckBlock 2 1) (.int .i64 0) ?_
  refine ps_end ?_
  refine then_n ?_
  refine sy_sq (part_rvCheckBlock 6) (part_rvCheckBlock 7) ?_
  refine sy_sq (part_rvCheckBlock 12) (part_rvCheckBlock 13) ?_
  refine sy_reg ?_
  refine rg_plain 1 (opsAt (part_rvCheckBlock 12)) [0, 1, 2, 3, 4, 5, 6, 7, 8, 9] (by kernel_rfl) (by kernel_rfl) ?_
  refine ps_k (o_rvCheckBlock 12 0) (pT ga 0) ?_
  refine ps_p (o_rvCheckBlock 12 1) (.int .i64 a.v) (exec_ld 3 (.tmp 3) ga 0 Try.underlying3 (rc (h2) (Pro.c_0 _))) ?_
  refine ps_c (o_rvCheckBlock 12 2) 68 #[.int .i64 a.v, .int .i64 0, .int .i64 31] Try.func68 ((rwithin_yes a.v 0 31 _ c0).mono ?_)
  rintro e w1 ⟨rfl, rfl⟩
  refine ⟨_, rfl, ?_⟩
  refine ps_k (o_rvCheckBlock 12 3) (.bool false) ?_
  refine ps_k (o_rvCheckBlock 12 4) (.bool false) ?_
  refine ps_k (o_rvCheckBlock 12 5) (pT ga 1) ?_
  refine ps_p (o_rvCheckBlock 12 6) (.int .i64 a.h) (exec_ld 3 (.tmp 8) ga 1 Try.underlying3 (rc (h2) (Pro.c_1 _))) ?_
  refine ps_c (o_rvCheckBlock 12 7) 68 #[.int .i64 a.h, .int .i64 1, .int .i64 4294967296] Try.func68 ((rwithin_no a.h 1 4294967296 _ c1).mono ?_)
  rintro e w1 ⟨rfl, rfl⟩
  refine ⟨_, rfl, ?_⟩
  refine ps_k (o_rvCheckBlock 12 8) (.bool true) ?_
  refine ps_k (o_rvCheckBlock 12 9) (.bool true) ?_
  refine ps_end ?_
  refine then_n ?_
  refine sy_ys (.tmp 12) (part_rvCheckBlock 26) (part_rvCheckBlock 27) ?_
  refine sy_sq (part_rvCheckBlock 52) (part_rvCheckBlock 53) ?_
  refine sy_reg ?_
  refine rg_plain 2 (opsAt (part_rvCheckBlock 52)) [0] (by kernel_rfl) (by kernel_rfl) ?_
  refine ps_k (o_rvCheckBlock 52 0) (.int .i64 3) ?_
  refine ps_end ?_
  refine then_n ?_
  refine sy_ret (by kernel_rfl) ?_
  refine then_r ?_
  refine sy_out (.int .i64 3) rfl (by kernel_rfl) ?_
  exact ⟨by rw [Pro.err_no (by unfold Pro.fine; omega)], K4⟩
set_option maxRecDepth 100000 in
set_option maxHeartbeats 4000000 in
theorem rvCheckBlock_2 (a : Pro) (w : World) (hr : a.r.length = 32) (c0 : (0 ≤ a.v ∧ a.v ≤ 31)) (c1 : (1 ≤ a.h ∧ a.h ≤ 4294967296)) :
    Calls Try.prog 64 #[.agg (Pro.c a)] w (fun e w' => e = .returned (.int .i64 a.err) ∧ Keeps Nob w w') := by
  have K0 : Keeps Nob w w := Keeps.refl _ _
  refine sy_enter (part_rvCheckBlock 1) ⟨#[.agg (Pro.c a), undef, undef, undef, undef, undef, undef, undef, undef, undef, undef, undef, undef], []⟩ Try.func64 (by kernel_rfl) (by kernel_rfl) ?_
  refine sy_sq (part_rvCheckBlock 2) (part_rvCheckBlock 3) ?_
  refine sy_reg ?_
  refine rg_plain 0 (opsAt (part_rvCheckBlock 2)) [0, 1] (by kernel_rfl) (by kernel_rfl) ?_
  obtain ⟨V1, eV1, ga, ega, h2, kV1⟩ := alloc_step w ((Pro.c a)) 35
  have n3 : w.heap.size ≤ ga := ega ▸ K0.size
  refine ps_r (o_rvCheckBlock 2 0) (pT ga 0) (w' := V1) (by rw [← eV1, ← ega]; exact exec_box 35 (.tmp 0) (by kernel_rfl) (.agg (Pro.c a)) (by kernel_rfl)) ?_
  clear eV1
  have K4 := K0.nn kV1
  have z5 := kV1.size
  refine ps_k (o_rvCheckBlock 2 1) (.int .i64 0) ?_
  refine ps_end ?_
  refine then_n ?_
  refine sy_sq (part_rvCheckBlock 6) (part_rvCheckBlock 7) ?_
  refine sy_sq (part_rvCheckBlock 12) (part_rvCheckBlock 13) ?_
  refine sy_reg ?_
  refine rg_plain 1 (opsAt (part_rvCheckBlock 12)) [0, 1, 2, 3, 4, 5, 6, 7, 8, 9] (by kernel_rfl) (by kernel_rfl) ?_
  refine ps_k (o_rvCheckBlock 12 0) (pT ga 0) ?_
  refine ps_p (o_rvCheckBlock 12 1) (.int .i64 a.v) (exec_ld 3 (.tmp 3) ga 0 Try.underlying3 (rc (h2) (Pro.c_0 _))) ?_
  refine ps_c (o_rvCheckBlock 12 2) 68 #[.int .i64 a.v, .int .i64 0, .int .i64 31] Try.func68 ((rwithin_yes a.v 0 31 _ c0).mono ?_)
  rintro e w1 ⟨rfl, rfl⟩
  refine ⟨_, rfl, ?_⟩
  refine ps_k (o_rvCheckBlock 12 3) (.bool false) ?_
  refine ps_k (o_rvCheckBlock 12 4) (.bool false) ?_
  refine ps_k (o_rvCheckBlock 12 5) (pT ga 1) ?_
  refine ps_p (o_rvCheckBlock 12 6) (.int .i64 a.h) (exec_ld 3 (.tmp 8) ga 1 Try.underlying3 (rc (h2) (Pro.c_1 _))) ?_
  refine ps_c (o_rvCheckBlock 12 7) 68 #[.int .i64 a.h, .int .i64 1, .int .i64 4294967296] Try.func68 ((rwithin_yes a.h 1 4294967296 _ c1).mono ?_)
  rintro e w1 ⟨rfl, rfl⟩
  refine ⟨_, rfl, ?_⟩
  refine ps_k (o_rvCheckBlock 12 8) (.bool false) ?_
  refine ps_k (o_rvCheckBlock 12 9) (.bool false) ?_
  refine ps_end ?_
  refine then_n ?_
  refine sy_n (.tmp 12) (part_rvCheckBlock 26) (part_rvCheckBlock 27) ?_
  refine sy_sk ?_
  refine then_n ?_
  refine sy_sq (part_rvCheckBlock 14) (part_rvCheckBlock 15) ?_
  refine sy_reg ?_
  refine rg_plain 3 (opsAt (part_rvCheckBlock 14)) [0] (by kernel_rfl) (by kernel_rfl) ?_
  refine ps_k (o_rvCheckBlock 14 0) (.int .i64 0) ?_
  refine ps_end ?_
  refine then_n ?_
  refine sy_ret (by kernel_rfl) ?_
  refine sy_out (.int .i64 0) rfl (by kernel_rfl) ?_
  exact ⟨by rw [Pro.err_ok (by unfold Pro.fine; omega)], K4⟩
theorem rvCheckBlock_ok (a : Pro) (w : World) (hr : a.r.length = 32) : Calls Try.prog 64 #[.agg (Pro.c a)] w fun e w' => e = .returned (.int .i64 a.err) ∧ Keeps Nob w w' := by
  by_cases c0 : (0 ≤ a.v ∧ a.v ≤ 31)
  case neg => exact rvCheckBlock_0 a w hr c0
  by_cases c1 : (1 ≤ a.h ∧ a.h ≤ 4294967296)
  case neg => exact rvCheckBlock_1 a w hr c0 c1
  exact rvCheckBlock_2 a w hr c0 c1
end Go.Proofs.Ytgipooedgbbliaa
