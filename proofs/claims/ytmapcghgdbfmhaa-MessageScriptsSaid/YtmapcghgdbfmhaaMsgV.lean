/-
  Messages: scripts packed and unpacked, by the document (printed by msg14.py). Conditions: none.
-/
import Derived.Test.YtmapcghgdbfmhaaMsgU
import Derived.Test.YtmapcghgdbfmhaaMsgPut
import Derived.Test.YtmapcghgdbfmhaaCodU
import Derived.Test.YtmapcghgdbfmhaaVoteEq
namespace Go.Proofs.Ytmapcghgdbfmhaa
open Go Go.RowKit Go.Own Go.Shelf
theorem ufin_zero {s : RS} {l : List UInt8} (h : (s.fin l).1 = 0) : (s.fin l).2 = 0 := by
  unfold RS.fin at h ⊢
  by_cases h0 : s.err = 0
  · rw [if_pos h0] at h ⊢
    by_cases h1 : s.pos < l.length
    · rw [if_pos h1] at h; cases h
    · rw [if_neg h1]
  · rw [if_neg h0] at h; exact absurd h h0
theorem packR_fit {ls : List (List UInt8)} (h : ¬ longs ls) (h1 : (pbi ls ls.length).length ≤ 1048576) : packR ls = (pbi ls ls.length, 0) := by
  unfold packR; rw [if_neg h, ← pbi_all, if_pos h1]
theorem packR_over {ls : List (List UInt8)} (h : ¬ longs ls) (h1 : ¬ (pbi ls ls.length).length ≤ 1048576) : packR ls = ([], 4) := by
  unfold packR; rw [if_neg h, ← pbi_all, if_neg h1]
theorem pbi_0 (ls : List (List UInt8)) : pbi ls 0 = encs [ls.length] := by simp [pbi, encs]
theorem one1_encs (l : List UInt8) : one1 l = encs [l.length] ++ l := by simp [one1, encs]
theorem encs1_le (n : Nat) : (encs [n]).length ≤ 10 := by have := encs_len [n]; simpa using this

noncomputable def part_rmPack (n : Nat) : Code := partOf Try.f30 n
noncomputable abbrev o_rmPack (n k : Nat) : Oper := (opsAt (part_rmPack n)).getD k default
set_option maxRecDepth 100000 in
set_option maxHeartbeats 4000000 in
theorem rmPack_many (A : Option Addr) (cap : Nat) (us : List Value) (ls : List (List UInt8)) (w : World) (h0 : ListsAt w (.slice A ls.length cap) us ls) (hB : ∀ (k : Nat) (l : List UInt8), ls[k]? = some l → l.length ≤ 9223372036854775807) (hl : 1000 < ls.length) :
    Calls Try.prog 30 #[.slice A ls.length cap] w (fun e w' => ∃ X, e = .returned (.tuple #[X, .int .i64 (packR ls).2]) ∧ Row w' 5 1 X (packR ls).1.length (B (packR ls).1) ∧ NewFrom w.heap.size X ∧ Keeps Nob w w') := by
  have hmax : ls.length ≤ 9223372036854775807 := by obtain ⟨_, _, e, h1, h2, _⟩ := h0.form; simp only [Value.slice.injEq] at e; obtain ⟨_, _, rfl⟩ := e; unfold maxLen at h2; omega
  obtain ⟨i8, hi8, hz80, hz81, hz82⟩ := info_parts u8_info0
  have K0 : Keeps Nob w w := Keeps.refl _ _
  refine sy_enter (part_rmPack 1) ⟨#[.slice A ls.length cap, undef, undef, undef, undef, undef, undef, undef, undef, undef, undef, undef, undef, undef, undef, undef, undef, undef, undef, undef, undef, undef, undef, undef, undef, undef, undef, undef, undef, undef, undef, undef, undef, undef, undef, undef, undef, undef, undef, undef, undef, undef, undef, undef, undef], []⟩ Try.func30 (by kernel_rfl) (by kernel_rfl) ?_
  refine sy_sq (part_rmPack 2) (part_rmPack 3) ?_
  refine sy_reg ?_
  refine rg_plain 0 (opsAt (part_rmPack 2)) [0, 1] (by kernel_rfl) (by kernel_rfl) ?_
  refine ps_k (o_rmPack 2 0) (.slice none 0 0) ?_
  refine ps_k (o_rmPack 2 1) (.int .i64 0) ?_
  refine ps_end ?_
  refine then_n ?_
  refine sy_sq (part_rmPack 6) (part_rmPack 7) ?_
  refine sy_sq (part_rmPack 12) (part_rmPack 13) ?_
  refine sy_reg ?_
  refine rg_plain 1 (opsAt (part_rmPack 12)) [0, 1, 2] (by kernel_rfl) (by kernel_rfl) ?_
  refine ps_k (o_rmPack 12 0) (.slice A ls.length cap) ?_
  refine ps_p (o_rmPack 12 1) (iN ls.length) (exec_len (.tmp 6) 54 _ (by kernel_rfl) Try.underlying54 A ls.length cap (by kernel_rfl)) ?_
  refine ps_p (o_rmPack 12 2) (.bool true) (dct ((((ls.length : Nat) : Int)) > ((1000) : Int)) (by omega)) ?_
  refine ps_end ?_
  refine then_n ?_
  refine sy_ys (.tmp 8) (part_rmPack 26) (part_rmPack 27) ?_
  refine sy_sq (part_rmPack 52) (part_rmPack 53) ?_
  refine sy_reg ?_
  refine rg_plain 2 (opsAt (part_rmPack 52)) [0, 1] (by kernel_rfl) (by kernel_rfl) ?_
  refine ps_k (o_rmPack 52 0) (.slice none 0 0) ?_
  refine ps_k (o_rmPack 52 1) (.int .i64 4) ?_
  refine ps_end ?_
  refine then_n ?_
  refine sy_ret (by kernel_rfl) ?_
  refine then_r ?_
  refine sy_out (.tuple #[.slice none 0 0, .int .i64 4]) rfl (by kernel_rfl) ?_
  exact ⟨_, by rw [packR_long (.inl hl)], by rw [packR_long (.inl hl)]; exact World.ownsRow_nil _ _ _ _, NewFrom.nil _, K0⟩
set_option maxRecDepth 100000 in
set_option maxHeartbeats 4000000 in
theorem rmPack_ok (A : Option Addr) (cap : Nat) (us : List Value) (ls : List (List UInt8)) (w : World) (h0 : ListsAt w (.slice A ls.length cap) us ls) (hB : ∀ (k : Nat) (l : List UInt8), ls[k]? = some l → l.length ≤ 9223372036854775807) (hm : ¬ 1000 < ls.length) :
    Calls Try.prog 30 #[.slice A ls.length cap] w (fun e w' => ∃ X, e = .returned (.tuple #[X, .int .i64 (packR ls).2]) ∧ Row w' 5 1 X (packR ls).1.length (B (packR ls).1) ∧ NewFrom w.heap.size X ∧ Keeps Nob w w') := by
  have hmax : ls.length ≤ 9223372036854775807 := by obtain ⟨_, _, e, h1, h2, _⟩ := h0.form; simp only [Value.slice.injEq] at e; obtain ⟨_, _, rfl⟩ := e; unfold maxLen at h2; omega
  obtain ⟨i8, hi8, hz80, hz81, hz82⟩ := info_parts u8_info0
  have K0 : Keeps Nob w w := Keeps.refl _ _
  refine sy_enter (part_rmPack 1) ⟨#[.slice A ls.length cap, undef, undef, undef, undef, undef, undef, undef, undef, undef, undef, undef, undef, undef, undef, undef, undef, undef, undef, undef, undef, undef, undef, undef, undef, undef, undef, undef, undef, undef, undef, undef, undef, undef, undef, undef, undef, undef, undef, undef, undef, undef, undef, undef, undef], []⟩ Try.func30 (by kernel_rfl) (by kernel_rfl) ?_
  refine sy_sq (part_rmPack 2) (part_rmPack 3) ?_
  refine sy_reg ?_
  refine rg_plain 0 (opsAt (part_rmPack 2)) [0, 1] (by kernel_rfl) (by kernel_rfl) ?_
  refine ps_k (o_rmPack 2 0) (.slice none 0 0) ?_
  refine ps_k (o_rmPack 2 1) (.int .i64 0) ?_
  refine ps_end ?_
  refine then_n ?_
  refine sy_sq (part_rmPack 6) (part_rmPack 7) ?_
  refine sy_sq (part_rmPack 12) (part_rmPack 13) ?_
  refine sy_reg ?_
  refine rg_plain 1 (opsAt (part_rmPack 12)) [0, 1, 2] (by kernel_rfl) (by kernel_rfl) ?_
  refine ps_k (o_rmPack 12 0) (.slice A ls.length cap) ?_
  refine ps_p (o_rmPack 12 1) (iN ls.length) (exec_len (.tmp 6) 54 _ (by kernel_rfl) Try.underlying54 A ls.length cap (by kernel_rfl)) ?_
  refine ps_p (o_rmPack 12 2) (.bool false) (dcf ((((ls.length : Nat) : Int)) > ((1000) : Int)) (by omega)) ?_
  refine ps_end ?_
  refine then_n ?_
  refine sy_n (.tmp 8) (part_rmPack 26) (part_rmPack 27) ?_
  refine sy_sk ?_
  refine then_n ?_
  refine sy_sq (part_rmPack 14) (part_rmPack 15) ?_
  refine sy_reg ?_
  refine rg_plain 3 (opsAt (part_rmPack 14)) [0, 1, 2, 3, 4, 5] (by kernel_rfl) (by kernel_rfl) ?_
  refine ps_k (o_rmPack 14 0) (.slice A ls.length cap) ?_
  refine ps_p (o_rmPack 14 1) (iN ls.length) (exec_len (.tmp 9) 54 _ (by kernel_rfl) Try.underlying54 A ls.length cap (by kernel_rfl)) ?_
  refine ps_p (o_rmPack 14 2) (uN ls.length) (exec_cast (congrArg (Value.int .u64) (wrapU ls.length (by omega))) (by kernel_rfl)) ?_
  obtain ⟨V1, eV1, g0, eg0, h2, kV1⟩ := alloc_step w (#[.int .u64 ((ls.length : Nat) : Int)]) 25
  have n3 : w.heap.size ≤ g0 := eg0 ▸ K0.size
  refine ps_r (o_rmPack 14 3) (.slice (some ⟨g0, 0, none⟩) 1 1) (w' := V1) (by rw [← eV1, ← eg0]; kernel_rfl) ?_
  have K4 := K0.nn kV1
  have z5 := kV1.size
  have hz3 := K4.size
  refine ps_c (o_rmPack 14 4) 50 #[.slice (some ⟨g0, 0, none⟩) 1 1] Try.func50 ((rmput_1 g0 ls.length _ h2 (by omega)).mono ?_)
  rintro e V6 ⟨X0, rfl, hX0, hnX0, kV6⟩
  have hX0' : Row V6 5 1 X0 (pbi ls 0).length (B (pbi ls 0)) := by rw [pbi_0]; exact hX0
  have hw0 : NewFrom w.heap.size X0 := fun j hj => by have := hnX0 j hj; omega
  refine ⟨_, rfl, ?_⟩
  have K7 := K4.nn kV6
  have z8 := kV6.size
  refine ps_k (o_rmPack 14 5) (X0) ?_
  refine ps_end ?_
  refine then_n ?_
  refine sy_sq (part_rmPack 30) (part_rmPack 31) ?_
  refine sy_sq (part_rmPack 60) (part_rmPack 61) ?_
  refine sy_reg ?_
  refine rg_plain 4 (opsAt (part_rmPack 60)) [0] (by kernel_rfl) (by kernel_rfl) ?_
  refine ps_k (o_rmPack 60 0) (.int .i64 0) ?_
  refine ps_end ?_
  refine then_n ?_
  refine sy_bk 0 (part_rmPack 122) ?_
  refine sy_loop (part_rmPack 244) (fun a V => ∃ (i : Nat) (v : Value) (u2 u3 u14 u15 u16 u17 u18 u19 u20 u21 u22 u23 u24 u25 u26 u27 u28 u29 u30 u31 u32 u33 u34 u35 u36 u37 u38 u39 u40 : Value), (a = ⟨#[.slice A ls.length cap, undef, u2, u3, v, iN i, .slice A ls.length cap, iN ls.length, .bool false, .slice A ls.length cap, iN ls.length, uN ls.length, .slice (some ⟨g0, 0, none⟩) 1 1, X0, u14, u15, u16, u17, u18, u19, u20, u21, u22, u23, u24, u25, u26, u27, u28, u29, u30, u31, u32, u33, u34, u35, u36, u37, u38, u39, u40, undef, undef, undef, undef], []⟩) ∧ (i ≤ ls.length) ∧ ((pbi ls i).length ≤ 10 + i * 4106) ∧ (∀ (j : Nat) (l : List UInt8), j < i → ls[j]? = some l → l.length ≤ 4096) ∧ (Row V 5 1 v ((pbi ls i).length) (B (pbi ls i))) ∧ (Keeps Nob w V) ∧ (NewFrom w.heap.size v)) (fun a _ => ls.length - (intOf (a.tmps.getD 5 undef)).toNat) (by kernel_rfl) ?_ ?_
  · exact ⟨0, X0, (.slice none 0 0), (.int .i64 0), undef, undef, undef, undef, undef, undef, undef, undef, undef, undef, undef, undef, undef, undef, undef, undef, undef, undef, undef, undef, undef, undef, undef, undef, undef, undef, undef, by kernel_rfl, Nat.zero_le _, by rw [pbi_0]; have := encs1_le ls.length; omega, fun j l h => absurd h (by omega), hX0', K7, hw0⟩
  · rintro a V9 ⟨i, v, u2, u3, u14, u15, u16, u17, u18, u19, u20, u21, u22, u23, u24, u25, u26, u27, u28, u29, u30, u31, u32, u33, u34, u35, u36, u37, u38, u39, u40, rfl, hi, hp, hs, h10, K11, hnw⟩
    rcases (show (i < ls.length ∧ ∃ l, ls[i]? = some l ∧ 4096 < l.length) ∨ (i < ls.length ∧ ∃ l, ls[i]? = some l ∧ l.length ≤ 4096) ∨ i = ls.length by
        by_cases h : i < ls.length
        · by_cases h3 : 4096 < (ls[i]'h).length
          · exact .inl ⟨h, _, List.getElem?_eq_getElem h, h3⟩
          · exact .inr (.inl ⟨h, _, List.getElem?_eq_getElem h, by omega⟩)
        · exact .inr (.inr (by omega))) with ⟨lt_i, l, hl, big⟩ | ⟨lt_i, l, hl, big⟩ | eq_i
    · obtain ⟨u, l', b_, o_, c_, hu, hl', hv⟩ := h0.open_ i lt_i
      obtain rfl : l = l' := Option.some.inj (hl.symm.trans hl')
      have hln := hB _ _ hl
      refine sy_sq (part_rmPack 488) (part_rmPack 489) ?_
      refine sy_sq (part_rmPack 976) (part_rmPack 977) ?_
      refine sy_reg ?_
      refine rg_plain 5 (opsAt (part_rmPack 976)) [0, 1, 2, 3] (by kernel_rfl) (by kernel_rfl) ?_
      refine ps_k (o_rmPack 976 0) (iN i) ?_
      refine ps_k (o_rmPack 976 1) (.slice A ls.length cap) ?_
      refine ps_p (o_rmPack 976 2) (iN ls.length) (exec_len (.tmp 15) 54 _ (by kernel_rfl) Try.underlying54 A ls.length cap (by kernel_rfl)) ?_
      refine ps_p (o_rmPack 976 3) (.bool true) (dct ((((i : Nat) : Int)) < (((ls.length : Nat) : Int))) (by omega)) ?_
      refine ps_end ?_
      refine then_n ?_
      refine sy_ys (.tmp 17) (part_rmPack 1954) (part_rmPack 1955) ?_
      refine sy_sk ?_
      refine then_n ?_
      refine sy_sq (part_rmPack 978) (part_rmPack 979) ?_
      refine sy_bk 1 (part_rmPack 1956) ?_
      refine sy_sq (part_rmPack 3912) (part_rmPack 3913) ?_
      refine sy_sq (part_rmPack 7824) (part_rmPack 7825) ?_
      refine sy_reg ?_
      refine rg_plain 7 (opsAt (part_rmPack 7824)) [0, 1, 2, 3, 4, 5] (by kernel_rfl) (by kernel_rfl) ?_
      refine ps_k (o_rmPack 7824 0) (.slice A ls.length cap) ?_
      refine ps_k (o_rmPack 7824 1) (iN i) ?_
      refine ps_p (o_rmPack 7824 2) (pT b_ (o_ + i)) (exec_cast (v := pT b_ (o_ + i * 1)) (by simp) (exec_indexAt_slice 54 (.tmp 20) (.tmp 21) (by kernel_rfl) b_ o_ ls.length c_ (Eq.trans (b := .slice A ls.length cap) (by kernel_rfl) hv) .i64 i (by kernel_rfl) _ 1 Try.underlying54 (by kernel_rfl) (by omega))) ?_
      refine ps_p (o_rmPack 7824 3) (u) (exec_ld 22 (.tmp 22) b_ (o_ + i) Try.underlying22 (ListsAt.cell (h0.keepsN K11) hu hv)) ?_
      refine ps_p (o_rmPack 7824 4) (iN l.length) (exec_len_bytes (.tmp 23) 22 5 (by kernel_rfl) Try.underlying22 (by kernel_rfl) (ListsAt.bytes (h0.keepsN K11) _ _ _ hu hl)) ?_
      refine ps_p (o_rmPack 7824 5) (.bool true) (dct ((((l.length : Nat) : Int)) > ((4096) : Int)) (by omega)) ?_
      refine ps_end ?_
      refine then_n ?_
      refine sy_ys (.tmp 25) (part_rmPack 15650) (part_rmPack 15651) ?_
      refine sy_sq (part_rmPack 31300) (part_rmPack 31301) ?_
      refine sy_reg ?_
      refine rg_plain 8 (opsAt (part_rmPack 31300)) [0, 1] (by kernel_rfl) (by kernel_rfl) ?_
      refine ps_k (o_rmPack 31300 0) (.slice none 0 0) ?_
      refine ps_k (o_rmPack 31300 1) (.int .i64 4) ?_
      refine ps_end ?_
      refine then_n ?_
      refine sy_ret (by kernel_rfl) ?_
      refine then_r ?_
      refine blk_r ?_
      refine then_r ?_
      refine then_r ?_
      refine blk_r ?_
      refine then_r ?_
      refine sy_out (.tuple #[.slice none 0 0, .int .i64 4]) rfl (by kernel_rfl) ?_
      exact ⟨_, by rw [packR_long (.inr ⟨l, List.mem_of_getElem? hl, big⟩)], by rw [packR_long (.inr ⟨l, List.mem_of_getElem? hl, big⟩)]; exact World.ownsRow_nil _ _ _ _, NewFrom.nil _, K11⟩
    · obtain ⟨u, l', b_, o_, c_, hu, hl', hv⟩ := h0.open_ i lt_i
      obtain rfl : l = l' := Option.some.inj (hl.symm.trans hl')
      have hen := encs1_le l.length
      have hla : (pbi ls i ++ encs [l.length]).length = (pbi ls i).length + (encs [l.length]).length := List.length_append
      refine sy_sq (part_rmPack 488) (part_rmPack 489) ?_
      refine sy_sq (part_rmPack 976) (part_rmPack 977) ?_
      refine sy_reg ?_
      refine rg_plain 5 (opsAt (part_rmPack 976)) [0, 1, 2, 3] (by kernel_rfl) (by kernel_rfl) ?_
      refine ps_k (o_rmPack 976 0) (iN i) ?_
      refine ps_k (o_rmPack 976 1) (.slice A ls.length cap) ?_
      refine ps_p (o_rmPack 976 2) (iN ls.length) (exec_len (.tmp 15) 54 _ (by kernel_rfl) Try.underlying54 A ls.length cap (by kernel_rfl)) ?_
      refine ps_p (o_rmPack 976 3) (.bool true) (dct ((((i : Nat) : Int)) < (((ls.length : Nat) : Int))) (by omega)) ?_
      refine ps_end ?_
      refine then_n ?_
      refine sy_ys (.tmp 17) (part_rmPack 1954) (part_rmPack 1955) ?_
      refine sy_sk ?_
      refine then_n ?_
      refine sy_sq (part_rmPack 978) (part_rmPack 979) ?_
      refine sy_bk 1 (part_rmPack 1956) ?_
      refine sy_sq (part_rmPack 3912) (part_rmPack 3913) ?_
      refine sy_sq (part_rmPack 7824) (part_rmPack 7825) ?_
      refine sy_reg ?_
      refine rg_plain 7 (opsAt (part_rmPack 7824)) [0, 1, 2, 3, 4, 5] (by kernel_rfl) (by kernel_rfl) ?_
      refine ps_k (o_rmPack 7824 0) (.slice A ls.length cap) ?_
      refine ps_k (o_rmPack 7824 1) (iN i) ?_
      refine ps_p (o_rmPack 7824 2) (pT b_ (o_ + i)) (exec_cast (v := pT b_ (o_ + i * 1)) (by simp) (exec_indexAt_slice 54 (.tmp 20) (.tmp 21) (by kernel_rfl) b_ o_ ls.length c_ (Eq.trans (b := .slice A ls.length cap) (by kernel_rfl) hv) .i64 i (by kernel_rfl) _ 1 Try.underlying54 (by kernel_rfl) (by omega))) ?_
      refine ps_p (o_rmPack 7824 3) (u) (exec_ld 22 (.tmp 22) b_ (o_ + i) Try.underlying22 (ListsAt.cell (h0.keepsN K11) hu hv)) ?_
      refine ps_p (o_rmPack 7824 4) (iN l.length) (exec_len_bytes (.tmp 23) 22 5 (by kernel_rfl) Try.underlying22 (by kernel_rfl) (ListsAt.bytes (h0.keepsN K11) _ _ _ hu hl)) ?_
      refine ps_p (o_rmPack 7824 5) (.bool false) (dcf ((((l.length : Nat) : Int)) > ((4096) : Int)) (by omega)) ?_
      refine ps_end ?_
      refine then_n ?_
      refine sy_n (.tmp 25) (part_rmPack 15650) (part_rmPack 15651) ?_
      refine sy_sk ?_
      refine then_n ?_
      refine sy_np ?_
      refine sy_reg ?_
      refine an_begin 9 16 (opsAt (part_rmPack 3913)) (fun W => (ListsAt W (.slice A ls.length cap) us ls)) #[false, false, false, false, false, false, false, false, false, false, false, false, false, false, false, false] (by kernel_rfl) (by kernel_rfl) (by kernel_rfl) (by kernel_rfl) ?_
      obtain ⟨V12, eV12, kV12⟩ := drew_step V9
      rw [eV12]
      clear eV12
      have h13 : Row V12 5 1 v ((pbi ls i).length) (B (pbi ls i)) := h10.keeps kV12 (fun _ _ x => x)
      have K14 := K11.nn kV12
      have z15 := kV12.size
      refine an_k 0 (o_rmPack 3913 0) (v) (h0.keepsN K14) ?_
      refine an_k 1 (o_rmPack 3913 1) (.slice A ls.length cap) (h0.keepsN K14) ?_
      refine an_k 2 (o_rmPack 3913 2) (iN i) (h0.keepsN K14) ?_
      refine an_v 3 (o_rmPack 3913 3) (pT b_ (o_ + i)) (fun W hS => exec_cast (v := pT b_ (o_ + i * 1)) (by simp) (exec_indexAt_slice 54 (.tmp 27) (.tmp 28) (by kernel_rfl) b_ o_ ls.length c_ (Eq.trans (b := .slice A ls.length cap) (by kernel_rfl) hv) .i64 i (by kernel_rfl) _ 1 Try.underlying54 (by kernel_rfl) (by omega))) (h0.keepsN K14) ?_
      refine an_v 4 (o_rmPack 3913 4) (u) (fun W hS => exec_ld 22 (.tmp 29) b_ (o_ + i) Try.underlying22 (ListsAt.cell hS hu hv)) (h0.keepsN K14) ?_
      refine an_v 5 (o_rmPack 3913 5) (iN l.length) (fun W hS => exec_len_bytes (.tmp 30) 22 5 (by kernel_rfl) Try.underlying22 (by kernel_rfl) (ListsAt.bytes hS _ _ _ hu hl)) (h0.keepsN K14) ?_
      refine an_v 6 (o_rmPack 3913 6) (uN l.length) (fun W hS => exec_cast (congrArg (Value.int .u64) (wrapU l.length (by omega))) (by kernel_rfl)) (h0.keepsN K14) ?_
      refine an_k 10 (o_rmPack 3913 10) (.slice A ls.length cap) (h0.keepsN K14) ?_
      refine an_k 11 (o_rmPack 3913 11) (iN i) (h0.keepsN K14) ?_
      refine an_v 12 (o_rmPack 3913 12) (pT b_ (o_ + i)) (fun W hS => exec_cast (v := pT b_ (o_ + i * 1)) (by simp) (exec_indexAt_slice 54 (.tmp 36) (.tmp 37) (by kernel_rfl) b_ o_ ls.length c_ (Eq.trans (b := .slice A ls.length cap) (by kernel_rfl) hv) .i64 i (by kernel_rfl) _ 1 Try.underlying54 (by kernel_rfl) (by omega))) (h0.keepsN K14) ?_
      refine an_v 13 (o_rmPack 3913 13) (u) (fun W hS => exec_ld 22 (.tmp 38) b_ (o_ + i) Try.underlying22 (ListsAt.cell hS hu hv)) (h0.keepsN K14) ?_
      refine an_o 7 ?_
      obtain ⟨V16, eV16, gl, egl, h17, kV16⟩ := alloc_step V12 (#[.int .u64 ((l.length : Nat) : Int)]) 25
      have n18 : w.heap.size ≤ gl := egl ▸ K14.size
      refine on_r (o_rmPack 3913 7) (.slice (some ⟨gl, 0, none⟩) 1 1) (w' := V16) (by rw [← eV16, ← egl]; kernel_rfl) ?_
      have h19 : Row V16 5 1 v ((pbi ls i).length) (B (pbi ls i)) := h13.keeps kV16 (fun _ _ x => x)
      have K20 := K14.nn kV16
      have z21 := kV16.size
      refine ⟨(h0.keepsN K20), ?_⟩
      refine an_o 8 ?_
      have zpX23 : w.heap.size ≤ V16.heap.size := K20.size
      refine on_c (o_rmPack 3913 8) 50 #[.slice (some ⟨gl, 0, none⟩) 1 1] Try.func50 ((rmput_1 gl l.length _ h17 (by omega)).mono ?_)
      rintro e V22 ⟨X23, rfl, hX23, hnX23, kV22⟩
      have hlX23 : ∀ j, X23.ownBlock = some j → j < V22.heap.size := fun j hj => hX23.lt hj
      refine ⟨_, rfl, ?_⟩
      have h24 : Row V22 5 1 v ((pbi ls i).length) (B (pbi ls i)) := h19.keeps kV22 (fun _ _ x => x)
      have K25 := K20.nn kV22
      have z26 := kV22.size
      refine ⟨(h0.keepsN K25), ?_⟩
      refine an_o 9 ?_
      obtain ⟨v27, V28, hr29, h30, hg31, hn32, ha33⟩ := run_append_any (P := Try.prog) (w := V22) 22 (Oper.type (o_rmPack 3913 9)) 5 i8 (.int .u8 0) 1 1 Try.underlying22 hi8 hz80 hz81 hz82 rfl (by decide) v ((pbi ls i).length) (B (pbi ls i)) h24 X23 ((encs [l.length]).length) (B (encs [l.length])) (Row.src hX23 (B_one _)) (by unfold maxLen; omega) (by omega)
      have kV28 : Keeps (fun j => v.ownBlock = some j) V22 V28 := Keeps.rowAdd hg31
      have hw34 : NewFrom w.heap.size v27 := hnw.next K25.size ha33
      refine on_r (o_rmPack 3913 9) v27 (w' := V28) (exec_append (.tmp 26) (.tmp 34) 22 (by kernel_rfl) v X23 (by kernel_rfl) (by kernel_rfl) hr29) ?_
      have h35 : Row V28 5 1 v27 ((pbi ls i ++ encs [l.length]).length) (B (pbi ls i ++ encs [l.length])) := row_castM h30 rfl (by rw [List.length_append])
      have K36 : Keeps Nob w V28 := K25.then kV28 (fun i hi hm => absurd hi (by have := hnw i hm; omega))
      have z37 := kV28.size
      refine ⟨(h0.keepsN K36), ?_⟩
      refine an_o 14 ?_
      obtain ⟨v38, V39, hr40, h41, hg42, hn43, ha44⟩ := run_append_any (P := Try.prog) (w := V28) 22 (Oper.type (o_rmPack 3913 14)) 5 i8 (.int .u8 0) 1 1 Try.underlying22 hi8 hz80 hz81 hz82 rfl (by decide) v27 ((pbi ls i ++ encs [l.length]).length) (B (pbi ls i ++ encs [l.length])) h35 u l.length (B l) ((ListsAt.bytes (h0.keepsN K36) _ _ _ hu hl).src) (by unfold maxLen; omega) (by omega)
      have kV39 : Keeps (fun j => v27.ownBlock = some j) V28 V39 := Keeps.rowAdd hg42
      have hw45 : NewFrom w.heap.size v38 := hw34.next K36.size ha44
      refine on_r (o_rmPack 3913 14) v38 (w' := V39) (exec_append (.tmp 35) (.tmp 39) 22 (by kernel_rfl) v27 u (by kernel_rfl) (by kernel_rfl) hr40) ?_
      have h46 : Row V39 5 1 v38 ((pbi ls (i + 1)).length) (B (pbi ls (i + 1))) := row_castM h41 (by rw [pbi_succ hl, one1_encs, List.append_assoc]) (by rw [pbi_succ hl, one1_encs, List.length_append, List.length_append, List.length_append]; omega)
      have K47 : Keeps Nob w V39 := K36.then kV39 (fun i hi hm => absurd hi (by have := hw34 i hm; omega))
      have z48 := kV39.size
      refine ⟨(h0.keepsN K47), ?_⟩
      refine an_o 15 ?_
      refine on_r (o_rmPack 3913 15) (v38) (w' := V39) (by kernel_rfl) ?_
      refine ⟨(h0.keepsN K47), ?_⟩
      refine an_end (by kernel_rfl) ?_
      refine sy_a ⟨#[.slice A ls.length cap, undef, u2, u3, v38, iN i, .slice A ls.length cap, iN ls.length, .bool false, .slice A ls.length cap, iN ls.length, uN ls.length, .slice (some ⟨g0, 0, none⟩) 1 1, X0, iN i, .slice A ls.length cap, iN ls.length, .bool true, u18, u19, .slice A ls.length cap, iN i, pT b_ (o_ + i), u, iN l.length, .bool false, v, .slice A ls.length cap, iN i, pT b_ (o_ + i), u, iN l.length, uN l.length, .slice (some ⟨gl, 0, none⟩) 1 1, X23, v27, .slice A ls.length cap, iN i, pT b_ (o_ + i), u, v38, undef, undef, undef, undef], []⟩ ?_
      refine blk_n ?_
      refine then_n ?_
      refine sy_reg ?_
      refine rg_plain 6 (opsAt (part_rmPack 979)) [0, 1, 2] (by kernel_rfl) (by kernel_rfl) ?_
      refine ps_k (o_rmPack 979 0) (iN i) ?_
      refine ps_p (o_rmPack 979 1) (iN (i + 1)) (exec_cast (congrArg (Value.int .i64) (wrapN (i + 1) (by omega))) (by kernel_rfl)) ?_
      refine ps_k (o_rmPack 979 2) (iN (i + 1)) ?_
      refine ps_end ?_
      refine then_n ?_
      refine ⟨⟨i + 1, v38, u2, u3, (iN i), (.slice A ls.length cap), (iN ls.length), (.bool true), (iN i), (iN (i + 1)), (.slice A ls.length cap), (iN i), (pT b_ (o_ + i)), u, (iN l.length), (.bool false), v, (.slice A ls.length cap), (iN i), (pT b_ (o_ + i)), u, (iN l.length), (uN l.length), (.slice (some ⟨gl, 0, none⟩) 1 1), X23, v27, (.slice A ls.length cap), (iN i), (pT b_ (o_ + i)), u, v38, by kernel_rfl, by omega, by rw [pbi_succ hl, one1_encs, List.length_append, List.length_append]; omega, fun j l2 hj hl2 => by by_cases e : j = i; (rw [e, hl] at hl2; exact Option.some.inj hl2 ▸ big); exact hs j l2 (by omega) hl2, h46, K47, hw45⟩, ?_⟩
      exact lt_meas (x := ls.length - (i + 1)) (y := ls.length - i) (by kernel_rfl) (by kernel_rfl) (by omega)
    · skip
      refine sy_sq (part_rmPack 488) (part_rmPack 489) ?_
      refine sy_sq (part_rmPack 976) (part_rmPack 977) ?_
      refine sy_reg ?_
      refine rg_plain 5 (opsAt (part_rmPack 976)) [0, 1, 2, 3] (by kernel_rfl) (by kernel_rfl) ?_
      refine ps_k (o_rmPack 976 0) (iN i) ?_
      refine ps_k (o_rmPack 976 1) (.slice A ls.length cap) ?_
      refine ps_p (o_rmPack 976 2) (iN ls.length) (exec_len (.tmp 15) 54 _ (by kernel_rfl) Try.underlying54 A ls.length cap (by kernel_rfl)) ?_
      refine ps_p (o_rmPack 976 3) (.bool false) (dcf ((((i : Nat) : Int)) < (((ls.length : Nat) : Int))) (by omega)) ?_
      refine ps_end ?_
      refine then_n ?_
      refine sy_n (.tmp 17) (part_rmPack 1954) (part_rmPack 1955) ?_
      refine sy_exit 0 (by kernel_rfl) ?_
      refine then_e ?_
      refine then_e ?_
      refine blk_e ?_
      refine then_n ?_
      refine sy_sq (part_rmPack 62) (part_rmPack 63) ?_
      refine sy_sq (part_rmPack 124) (part_rmPack 125) ?_
      refine sy_reg ?_
      refine rg_plain 10 (opsAt (part_rmPack 124)) [0, 1, 2] (by kernel_rfl) (by kernel_rfl) ?_
      refine ps_k (o_rmPack 124 0) (v) ?_
      refine ps_p (o_rmPack 124 1) (iN ((pbi ls ls.length).length)) (exec_len_bytes (.tmp 41) 22 5 (by kernel_rfl) Try.underlying22 (by kernel_rfl) (Row.bytes (eq_i ▸ h10))) ?_
      by_cases hfit : (pbi ls ls.length).length ≤ 1048576
      · refine ps_p (o_rmPack 124 2) (.bool false) (dcf (((((pbi ls ls.length).length : Nat) : Int)) > ((1048576) : Int)) (by omega)) ?_
        refine ps_end ?_
        refine then_n ?_
        refine sy_n (.tmp 43) (part_rmPack 250) (part_rmPack 251) ?_
        refine sy_sk ?_
        refine then_n ?_
        refine sy_sq (part_rmPack 126) (part_rmPack 127) ?_
        refine sy_reg ?_
        refine rg_plain 12 (opsAt (part_rmPack 126)) [0, 1, 2] (by kernel_rfl) (by kernel_rfl) ?_
        refine ps_k (o_rmPack 126 0) (v) ?_
        refine ps_k (o_rmPack 126 1) (v) ?_
        refine ps_k (o_rmPack 126 2) (.int .i64 0) ?_
        refine ps_end ?_
        refine then_n ?_
        refine sy_ret (by kernel_rfl) ?_
        refine sy_out (.tuple #[v, .int .i64 0]) rfl (by kernel_rfl) ?_
        have hnl : ¬ longs ls := fun h => h.elim (fun h => by omega) (fun ⟨x, hx, hb⟩ => by obtain ⟨j, hj⟩ := List.getElem?_of_mem hx; have := hs j x (by rw [eq_i]; exact (List.getElem?_eq_some_iff.1 hj).1) hj; omega)
        exact ⟨_, by rw [packR_fit hnl hfit], by rw [packR_fit hnl hfit]; exact eq_i ▸ h10, hnw, K11⟩
      · refine ps_p (o_rmPack 124 2) (.bool true) (dct (((((pbi ls ls.length).length : Nat) : Int)) > ((1048576) : Int)) (by omega)) ?_
        refine ps_end ?_
        refine then_n ?_
        refine sy_ys (.tmp 43) (part_rmPack 250) (part_rmPack 251) ?_
        refine sy_sq (part_rmPack 500) (part_rmPack 501) ?_
        refine sy_reg ?_
        refine rg_plain 11 (opsAt (part_rmPack 500)) [0, 1] (by kernel_rfl) (by kernel_rfl) ?_
        refine ps_k (o_rmPack 500 0) (.slice none 0 0) ?_
        refine ps_k (o_rmPack 500 1) (.int .i64 4) ?_
        refine ps_end ?_
        refine then_n ?_
        refine sy_ret (by kernel_rfl) ?_
        refine then_r ?_
        refine sy_out (.tuple #[.slice none 0 0, .int .i64 4]) rfl (by kernel_rfl) ?_
        have hnl : ¬ longs ls := fun h => h.elim (fun h => by omega) (fun ⟨x, hx, hb⟩ => by obtain ⟨j, hj⟩ := List.getElem?_of_mem hx; have := hs j x (by rw [eq_i]; exact (List.getElem?_eq_some_iff.1 hj).1) hj; omega)
        exact ⟨_, by rw [packR_over hnl hfit], by rw [packR_over hnl hfit]; exact World.ownsRow_nil _ _ _ _, NewFrom.nil _, K11⟩
theorem rmPack_any (A : Option Addr) (cap : Nat) (us : List Value) (ls : List (List UInt8)) (w : World) (h0 : ListsAt w (.slice A ls.length cap) us ls) (hB : ∀ (k : Nat) (l : List UInt8), ls[k]? = some l → l.length ≤ 9223372036854775807) : Calls Try.prog 30 #[.slice A ls.length cap] w (fun e w' => ∃ X, e = .returned (.tuple #[X, .int .i64 (packR ls).2]) ∧ Row w' 5 1 X (packR ls).1.length (B (packR ls).1) ∧ NewFrom w.heap.size X ∧ Keeps Nob w w') := by
  by_cases hl : 1000 < ls.length
  · exact rmPack_many A cap us ls w h0 hB hl
  · exact rmPack_ok A cap us ls w h0 hB hl
noncomputable def part_rmUnpack (n : Nat) : Code := partOf Try.f33 n
noncomputable abbrev o_rmUnpack (n k : Nat) : Oper := (opsAt (part_rmUnpack n)).getD k default
set_option maxRecDepth 100000 in
set_option maxHeartbeats 4000000 in
theorem rmUnpack_big (A0 : Option Addr) (cap0 : Nat) (l : List UInt8) (w : World) (hx : BytesAt w (.slice A0 l.length cap0) l) (hlm : l.length ≤ 9223372036854775807) (hl : 1048576 < l.length) :
    Calls Try.prog 33 #[.slice A0 l.length cap0] w (fun e w' => ∃ X xs, e = .returned (.tuple #[X, .agg #[.int .i64 (unR l).2.1, .int .i64 (unR l).2.2]]) ∧ Row w' 22 1 X (unR l).1.length xs ∧ NewFrom w.heap.size X ∧ Copied w' w.heap.size xs (unR l).1 ∧ Apart xs ∧ Keeps Nob w w') := by
  obtain ⟨i0, hi0, hz0, hz1, hz2⟩ := info_parts bytes_info0
  have hN := unN_le l
  have K0 : Keeps Nob w w := Keeps.refl _ _
  refine sy_enter (part_rmUnpack 1) ⟨#[.slice A0 l.length cap0, undef, undef, undef, undef, undef, undef, undef, undef, undef, undef, undef, undef, undef, undef, undef, undef, undef, undef, undef, undef, undef, undef, undef, undef, undef, undef, undef, undef, undef, undef, undef, undef, undef, undef], []⟩ Try.func33 (by kernel_rfl) (by kernel_rfl) ?_
  refine sy_sq (part_rmUnpack 2) (part_rmUnpack 3) ?_
  refine sy_reg ?_
  refine rg_plain 0 (opsAt (part_rmUnpack 2)) [0, 1] (by kernel_rfl) (by kernel_rfl) ?_
  refine ps_k (o_rmUnpack 2 0) (.slice none 0 0) ?_
  obtain ⟨V1, eV1, gf, egf, h2, kV1⟩ := alloc_step w (#[.int .i64 0, .int .i64 0]) 38
  have n3 : w.heap.size ≤ gf := egf ▸ K0.size
  refine ps_r (o_rmUnpack 2 1) (pT gf 0) (w' := V1) (by rw [← eV1, ← egf]; exact exec_alloc0 38 (by kernel_rfl) (.agg (#[.int .i64 0, .int .i64 0])) (by kernel_rfl)) ?_
  clear eV1
  have K4 := K0.nn kV1
  refine ps_end ?_
  refine then_n ?_
  refine sy_sq (part_rmUnpack 6) (part_rmUnpack 7) ?_
  refine sy_sq (part_rmUnpack 12) (part_rmUnpack 13) ?_
  refine sy_reg ?_
  refine rg_plain 1 (opsAt (part_rmUnpack 12)) [0, 1, 2] (by kernel_rfl) (by kernel_rfl) ?_
  refine ps_k (o_rmUnpack 12 0) (.slice A0 l.length cap0) ?_
  refine ps_p (o_rmUnpack 12 1) (iN l.length) (exec_len (.tmp 9) 22 _ (by kernel_rfl) Try.underlying22 A0 l.length cap0 (by kernel_rfl)) ?_
  refine ps_p (o_rmUnpack 12 2) (.bool true) (dct ((((l.length : Nat) : Int)) > ((1048576) : Int)) (by omega)) ?_
  refine ps_end ?_
  refine then_n ?_
  refine sy_ys (.tmp 11) (part_rmUnpack 26) (part_rmUnpack 27) ?_
  refine sy_sq (part_rmUnpack 52) (part_rmUnpack 53) ?_
  refine sy_reg ?_
  refine rg_plain 2 (opsAt (part_rmUnpack 52)) [0, 1, 2] (by kernel_rfl) (by kernel_rfl) ?_
  refine ps_k (o_rmUnpack 52 0) (.agg #[.int .i64 4, .int .i64 1048576]) ?_
  refine ps_k (o_rmUnpack 52 1) (.slice none 0 0) ?_
  obtain ⟨V5, eV5, kV5⟩ := rowset_step V1 gf (#[.int .i64 4, .int .i64 1048576])
  have h6 : V5.heap[gf]? = some (.cells (#[.int .i64 4, .int .i64 1048576]) 38 (0, 0)) := eV5 ▸ setRow_heap _ _ _ _ _ _ h2
  refine ps_s (o_rmUnpack 52 2) (w' := V5) (by rw [← eV5]; exact exec_store_row 38 (.tmp 3) (.tmp 12) (by kernel_rfl) gf (#[.int .i64 4, .int .i64 1048576]) (by kernel_rfl) (by kernel_rfl) 38 (#[.int .i64 0, .int .i64 0]) h2 (by kernel_rfl) rfl (by kernel_rfl)) ?_
  clear eV5
  have K7 := K4.no kV5 (by omega)
  refine ps_end ?_
  refine then_n ?_
  refine sy_ret (by kernel_rfl) ?_
  refine then_r ?_
  refine sy_out (.tuple #[.slice none 0 0, .agg #[.int .i64 4, .int .i64 1048576]]) rfl (results_tmp_row (p := 2) (q := 3) (ty := 38) (by kernel_rfl) _ _ gf 38 (#[.int .i64 4, .int .i64 1048576]) (0, 0) _ (.slice none 0 0) (by kernel_rfl) h6 Try.underlying38 rfl (by kernel_rfl) (by kernel_rfl)) ?_
  exact ⟨_, [], by rw [unR, if_pos hl], by rw [unR, if_pos hl]; exact World.ownsRow_nil _ _ _ _, NewFrom.nil _, fun k u h => by simp at h, Apart.nil, K7⟩
set_option maxRecDepth 100000 in
set_option maxHeartbeats 4000000 in
theorem rmUnpack_bad (A0 : Option Addr) (cap0 : Nat) (l : List UInt8) (w : World) (hx : BytesAt w (.slice A0 l.length cap0) l) (hlm : l.length ≤ 9223372036854775807) (hl : ¬ 1048576 < l.length) (hz : ¬ ((unI l (unN l)).2.fin l).1 = 0) :
    Calls Try.prog 33 #[.slice A0 l.length cap0] w (fun e w' => ∃ X xs, e = .returned (.tuple #[X, .agg #[.int .i64 (unR l).2.1, .int .i64 (unR l).2.2]]) ∧ Row w' 22 1 X (unR l).1.length xs ∧ NewFrom w.heap.size X ∧ Copied w' w.heap.size xs (unR l).1 ∧ Apart xs ∧ Keeps Nob w w') := by
  obtain ⟨i0, hi0, hz0, hz1, hz2⟩ := info_parts bytes_info0
  have hN := unN_le l
  have K0 : Keeps Nob w w := Keeps.refl _ _
  refine sy_enter (part_rmUnpack 1) ⟨#[.slice A0 l.length cap0, undef, undef, undef, undef, undef, undef, undef, undef, undef, undef, undef, undef, undef, undef, undef, undef, undef, undef, undef, undef, undef, undef, undef, undef, undef, undef, undef, undef, undef, undef, undef, undef, undef, undef], []⟩ Try.func33 (by kernel_rfl) (by kernel_rfl) ?_
  refine sy_sq (part_rmUnpack 2) (part_rmUnpack 3) ?_
  refine sy_reg ?_
  refine rg_plain 0 (opsAt (part_rmUnpack 2)) [0, 1] (by kernel_rfl) (by kernel_rfl) ?_
  refine ps_k (o_rmUnpack 2 0) (.slice none 0 0) ?_
  obtain ⟨V1, eV1, gf, egf, h2, kV1⟩ := alloc_step w (#[.int .i64 0, .int .i64 0]) 38
  have n3 : w.heap.size ≤ gf := egf ▸ K0.size
  refine ps_r (o_rmUnpack 2 1) (pT gf 0) (w' := V1) (by rw [← eV1, ← egf]; exact exec_alloc0 38 (by kernel_rfl) (.agg (#[.int .i64 0, .int .i64 0])) (by kernel_rfl)) ?_
  clear eV1
  have K4 := K0.nn kV1
  refine ps_end ?_
  refine then_n ?_
  refine sy_sq (part_rmUnpack 6) (part_rmUnpack 7) ?_
  refine sy_sq (part_rmUnpack 12) (part_rmUnpack 13) ?_
  refine sy_reg ?_
  refine rg_plain 1 (opsAt (part_rmUnpack 12)) [0, 1, 2] (by kernel_rfl) (by kernel_rfl) ?_
  refine ps_k (o_rmUnpack 12 0) (.slice A0 l.length cap0) ?_
  refine ps_p (o_rmUnpack 12 1) (iN l.length) (exec_len (.tmp 9) 22 _ (by kernel_rfl) Try.underlying22 A0 l.length cap0 (by kernel_rfl)) ?_
  refine ps_p (o_rmUnpack 12 2) (.bool false) (dcf ((((l.length : Nat) : Int)) > ((1048576) : Int)) (by omega)) ?_
  refine ps_end ?_
  refine then_n ?_
  refine sy_n (.tmp 11) (part_rmUnpack 26) (part_rmUnpack 27) ?_
  refine sy_sk ?_
  refine then_n ?_
  refine sy_sq (part_rmUnpack 14) (part_rmUnpack 15) ?_
  refine sy_reg ?_
  refine rg_plain 3 (opsAt (part_rmUnpack 14)) [0, 1, 2] (by kernel_rfl) (by kernel_rfl) ?_
  refine ps_k (o_rmUnpack 14 0) (.slice A0 l.length cap0) ?_
  have hlf := lt_of_block h2
  have hKs := K4.size
  refine ps_c (o_rmUnpack 14 1) 43 #[.slice A0 l.length cap0] Try.func43 ((rrNew_ok _ l _ (hx.keepsN K4) (by omega)).mono ?_)
  rintro e V5 ⟨b, rv, rfl, hR0, hb0, hov', kV5⟩
  have hk5 := kV5.size
  have hbl := hR0.lt
  obtain ⟨N5, hN5⟩ : ∃ n, n = V5.heap.size := ⟨_, rfl⟩
  have hov : ∀ j, rv.ownBlock = some j → V1.heap.size ≤ j ∧ j < N5 := fun j h => hN5 ▸ hov' j h
  refine ⟨_, rfl, ?_⟩
  have h6 := kV5.bk h2
  have K7 := K4.nn kV5
  refine ps_k (o_rmUnpack 14 2) (pT b 0) ?_
  refine ps_end ?_
  refine then_n ?_
  refine sy_sq (part_rmUnpack 30) (part_rmUnpack 31) ?_
  refine sy_reg ?_
  refine rg_plain 4 (opsAt (part_rmUnpack 30)) [0, 1, 2] (by kernel_rfl) (by kernel_rfl) ?_
  refine ps_k (o_rmUnpack 30 0) (pT b 0) ?_
  have hun : (rdN l ⟨0, 0⟩ 0 1000).1 = ((unN l : Nat) : Int) := by have := rdN_le l ⟨0, 0⟩ 0 1000; unfold unN; omega
  refine ps_c (o_rmUnpack 30 1) 44 #[pT b 0, .int .i64 0, .int .i64 1000] Try.func44 (((hun ▸ rrN_ok b rv l ⟨0, 0⟩ 0 1000 _ hR0 (by decide) (by decide))).mono ?_)
  rintro e V8 ⟨rfl, hR1, kV8⟩
  refine ⟨_, rfl, ?_⟩
  have h9 := kV8.bo h6 (by omega)
  have h10 : N5 ≤ V8.heap.size := Nat.le_trans (Nat.le_of_eq hN5) kV8.size
  have K11 := K7.no kV8 (by omega)
  refine ps_k (o_rmUnpack 30 2) (iN (unN l)) ?_
  refine ps_end ?_
  refine then_n ?_
  refine sy_sq (part_rmUnpack 62) (part_rmUnpack 63) ?_
  refine sy_reg ?_
  refine rg_plain 5 (opsAt (part_rmUnpack 62)) [0] (by kernel_rfl) (by kernel_rfl) ?_
  refine ps_k (o_rmUnpack 62 0) (.slice none 0 0) ?_
  refine ps_end ?_
  refine then_n ?_
  refine sy_sq (part_rmUnpack 126) (part_rmUnpack 127) ?_
  refine sy_sq (part_rmUnpack 252) (part_rmUnpack 253) ?_
  refine sy_reg ?_
  refine rg_plain 6 (opsAt (part_rmUnpack 252)) [0] (by kernel_rfl) (by kernel_rfl) ?_
  refine ps_k (o_rmUnpack 252 0) (.int .i64 0) ?_
  refine ps_end ?_
  refine then_n ?_
  refine sy_bk 0 (part_rmUnpack 506) ?_
  refine sy_loop (part_rmUnpack 1012) (fun a V => ∃ (i : Nat) (v : Value) (xs : List Value) (u17 u18 u19 u20 u21 u22 u23 u24 u25 u26 : Value), (a = ⟨#[.slice A0 l.length cap0, undef, .slice none 0 0, pT gf 0, pT b 0, iN (unN l), v, iN i, undef, .slice A0 l.length cap0, iN l.length, .bool false, undef, .slice A0 l.length cap0, pT b 0, pT b 0, iN (unN l), u17, u18, u19, u20, u21, u22, u23, u24, u25, u26, undef, undef, undef, undef, undef, undef, undef, undef], []⟩) ∧ (i ≤ unN l) ∧ (V.heap[gf]? = some (.cells (#[.int .i64 0, .int .i64 0]) 38 (0, 0))) ∧ (N5 ≤ V.heap.size) ∧ (RrAt V b rv l (unI l i).2) ∧ (Row V 22 1 v i xs) ∧ (Copied V w.heap.size xs (unI l (unN l)).1) ∧ (Keeps Nob w V) ∧ (NewFrom w.heap.size v) ∧ (∀ j, v.ownBlock = some j → ¬ (fun j => j = b ∨ rv.ownBlock = some j) j) ∧ (Off xs (fun j => j = b ∨ rv.ownBlock = some j)) ∧ (Apart xs)) (fun a _ => unN l - (intOf (a.tmps.getD 7 undef)).toNat) (by kernel_rfl) ?_ ?_
  · exact ⟨0, .slice none 0 0, [], undef, undef, undef, undef, undef, undef, undef, undef, undef, undef, by kernel_rfl, Nat.zero_le _, h9, h10, hR1, (World.ownsRow_nil _ _ _ _), (fun k u h => by simp at h), K11, NewFrom.nil _, (fun j h => by cases h), Off.nil _, Apart.nil⟩
  · rintro a V12 ⟨i, v, xs, u17, u18, u19, u20, u21, u22, u23, u24, u25, u26, rfl, hi, h13, h14, h15, h16, h17, K18, hnw, hvF, hoff, hap⟩
    by_cases lt_i : i < unN l
    · skip
      refine sy_sq (part_rmUnpack 2024) (part_rmUnpack 2025) ?_
      refine sy_sq (part_rmUnpack 4048) (part_rmUnpack 4049) ?_
      refine sy_reg ?_
      refine rg_plain 7 (opsAt (part_rmUnpack 4048)) [0, 1, 2] (by kernel_rfl) (by kernel_rfl) ?_
      refine ps_k (o_rmUnpack 4048 0) (iN i) ?_
      refine ps_k (o_rmUnpack 4048 1) (iN (unN l)) ?_
      refine ps_p (o_rmUnpack 4048 2) (.bool true) (dct ((((i : Nat) : Int)) < (((unN l : Nat) : Int))) (by omega)) ?_
      refine ps_end ?_
      refine then_n ?_
      refine sy_ys (.tmp 19) (part_rmUnpack 8098) (part_rmUnpack 8099) ?_
      refine sy_sk ?_
      refine then_n ?_
      refine sy_sq (part_rmUnpack 4050) (part_rmUnpack 4051) ?_
      refine sy_bk 1 (part_rmUnpack 8100) ?_
      refine sy_reg ?_
      refine rg_plain 9 (opsAt (part_rmUnpack 8100)) [0, 1, 2, 3, 4, 5] (by kernel_rfl) (by kernel_rfl) ?_
      refine ps_k (o_rmUnpack 8100 0) (v) ?_
      refine ps_k (o_rmUnpack 8100 1) (pT b 0) ?_
      have hK7 := K18.size
      have hcl := h17.ltOld
      have hbW := h15.lt
      have hvW : ∀ j, v.ownBlock = some j → j < V12.heap.size := fun j hj => h16.lt hj
      refine ps_c (o_rmUnpack 8100 2) 59 #[pT b 0, .int .i64 4096] Try.func59 ((rrBlob_ok b rv l (unI l i).2 4096 _ h15 (by omega) (by decide)).mono ?_)
      rintro e V19 ⟨X, rfl, ⟨hX, hXn⟩, hRj, hkj⟩
      have hrowj : Row V19 22 1 v i xs := h16.keeps hkj (fun j hj e => hvF j hj (.inl e))
      have hcpj : Copied V19 w.heap.size xs (unI l (unN l)).1 := h17.keepsF hkj (fun u hu j hj e => hoff u hu j hj (.inl e))
      have hvFj := hvF
      have hoffj := hoff
      have one' := hX.one
      have hnX : NewFrom w.heap.size X := fun j hj => Nat.le_trans hK7 (hXn j hj)
      have hapX : ∀ u ∈ xs, ∀ j, u.ownBlock = some j → ¬ X.ownBlock = some j := fun u hu j h1 h2 => by have := hcl u hu j h1; have := hXn j h2; omega
      have hsz5 := h14
      have hXF : ∀ j, X.ownBlock = some j → ¬ (j = b ∨ rv.ownBlock = some j) := fun j hj h => by have := hXn j hj; (rcases h with h | h) <;> first | omega | (have := hov j h; omega)
      refine ⟨_, rfl, ?_⟩
      have h20 := hkj.bo h13 (by omega)
      have h21 : N5 ≤ V19.heap.size := Nat.le_trans h14 hkj.size
      have K22 := K18.no hkj (by omega)
      obtain ⟨V23, eV23, gl, egl, h24, kV23⟩ := alloc_step V19 (#[X]) 22
      have n25 : gf < gl := egl ▸ lt_of_block h20
      have n26 : w.heap.size ≤ gl := egl ▸ K22.size
      refine ps_r (o_rmUnpack 8100 3) (.slice (some ⟨gl, 0, none⟩) 1 1) (w' := V23) (by rw [← eV23, ← egl, ← Row.cells1 hX]; exact exec_build1 54 22 (.tmp 24) (by kernel_rfl) X (by kernel_rfl) i0 _ Try.underlying54 hi0 hz0 1 hz1 (by decide) (by decide) (by rw [Row.cells1 hX]; rfl)) ?_
      clear eV23
      have h27 := kV23.bk h20
      have h28 : N5 ≤ V23.heap.size := Nat.le_trans h21 kV23.size
      have h29 : RrAt V23 b rv l (unI l (i + 1)).2 := hRj.keeps kV23 (fun x => x) (fun _ _ x => x)
      have h30 : Row V23 22 1 v i xs := hrowj.keeps kV23 (fun _ _ x => x)
      have h31 : Copied V23 w.heap.size xs (unI l (unN l)).1 := hcpj.keepsN kV23
      have h32 : Row V23 5 1 X (rdB l (unI l i).2 4096).1.length (B (rdB l (unI l i).2 4096).1) := hX.keeps kV23 (fun _ _ x => x)
      have K33 := K22.nn kV23
      obtain ⟨v34, V35, hr36, h37, hg38, hn39, ha40⟩ := run_append_any (P := Try.prog) (w := V23) 54 (Oper.type (o_rmUnpack 8100 4)) 22 i0 (.slice none 0 0) 1 24 Try.underlying54 hi0 hz0 hz1 hz2 rfl (by decide) v i xs h30 (.slice (some ⟨gl, 0, none⟩) 1 1) 1 [X] (src_block h24 1 1 rfl (by simp [one'])) (by unfold maxLen; omega) (by omega)
      have kV35 : Keeps (fun j => v.ownBlock = some j) V23 V35 := Keeps.rowAdd hg38
      have hw41 : NewFrom w.heap.size v34 := hnw.next K33.size ha40
      refine ps_r (o_rmUnpack 8100 4) v34 (w' := V35) (exec_append (.tmp 22) (.tmp 25) 54 (by kernel_rfl) v (.slice (some ⟨gl, 0, none⟩) 1 1) (by kernel_rfl) (by kernel_rfl) hr36) ?_
      have h42 : Row V35 22 1 v34 (i + 1) (xs ++ [X]) := h37
      have hvFn : ∀ j, (v34 : Value).ownBlock = some j → ¬ (fun j => j = b ∨ rv.ownBlock = some j) j := fun j hj hf => (ha40 j hj).elim (fun h => hvFj j h hf) (fun h => by have := h29.lt; have := h28; (rcases hf with hf | hf) <;> first | omega | (have := hov j hf; omega))
      have h43 : V35.heap[gf]? = some (.cells (#[.int .i64 0, .int .i64 0]) 38 (0, 0)) := (kV35.block gf (lt_of_block h27) (fun e => Row.ne h30 h27 (by decide) e)).trans h27
      have h44 : N5 ≤ V35.heap.size := Nat.le_trans h28 kV35.size
      have h45 : RrAt V35 b rv l (unI l (i + 1)).2 := h29.keeps kV35 (fun e => hvFj b e (.inl rfl)) (fun j hj e => hvFj j e (.inr hj))
      have h46 : Copied V35 w.heap.size xs (unI l (unN l)).1 := h31.keepsRow kV35 h30
      have h47 : Row V35 5 1 X (rdB l (unI l i).2 4096).1.length (B (rdB l (unI l i).2 4096).1) := row_other h32 kV35 h30 (by decide)
      have K48 : Keeps Nob w V35 := K33.then kV35 (fun i hi hm => absurd hi (by have := hnw i hm; omega))
      refine ps_k (o_rmUnpack 8100 5) (v34) ?_
      refine ps_end ?_
      refine blk_n ?_
      refine then_n ?_
      refine sy_reg ?_
      refine rg_plain 8 (opsAt (part_rmUnpack 4051)) [0, 1, 2] (by kernel_rfl) (by kernel_rfl) ?_
      refine ps_k (o_rmUnpack 4051 0) (iN i) ?_
      refine ps_p (o_rmUnpack 4051 1) (iN (i + 1)) (exec_cast (congrArg (Value.int .i64) (wrapN (i + 1) (by omega))) (by kernel_rfl)) ?_
      refine ps_k (o_rmUnpack 4051 2) (iN (i + 1)) ?_
      refine ps_end ?_
      refine then_n ?_
      refine ⟨⟨i + 1, v34, xs ++ [X], (iN i), (iN (unN l)), (.bool true), (iN i), (iN (i + 1)), v, (pT b 0), X, (.slice (some ⟨gl, 0, none⟩) 1 1), v34, by kernel_rfl, by omega, h43, h44, h45, h42, h46.snoc (by have := (h30).1; omega) (unI_get l (unN l) i lt_i) h47 hnX, K48, hw41, hvFn, hoffj.snoc hXF, hap.snoc hapX⟩, ?_⟩
      exact lt_meas (x := unN l - (i + 1)) (y := unN l - i) (by kernel_rfl) (by kernel_rfl) (by omega)
    · have eq_i : i = unN l := by omega
      refine sy_sq (part_rmUnpack 2024) (part_rmUnpack 2025) ?_
      refine sy_sq (part_rmUnpack 4048) (part_rmUnpack 4049) ?_
      refine sy_reg ?_
      refine rg_plain 7 (opsAt (part_rmUnpack 4048)) [0, 1, 2] (by kernel_rfl) (by kernel_rfl) ?_
      refine ps_k (o_rmUnpack 4048 0) (iN i) ?_
      refine ps_k (o_rmUnpack 4048 1) (iN (unN l)) ?_
      refine ps_p (o_rmUnpack 4048 2) (.bool false) (dcf ((((i : Nat) : Int)) < (((unN l : Nat) : Int))) (by omega)) ?_
      refine ps_end ?_
      refine then_n ?_
      refine sy_n (.tmp 19) (part_rmUnpack 8098) (part_rmUnpack 8099) ?_
      refine sy_exit 0 (by kernel_rfl) ?_
      refine then_e ?_
      refine then_e ?_
      refine blk_e ?_
      refine then_n ?_
      refine sy_sq (part_rmUnpack 254) (part_rmUnpack 255) ?_
      refine sy_sq (part_rmUnpack 508) (part_rmUnpack 509) ?_
      refine sy_reg ?_
      refine rg_plain 10 (opsAt (part_rmUnpack 508)) [0, 1, 2, 3] (by kernel_rfl) (by kernel_rfl) ?_
      refine ps_k (o_rmUnpack 508 0) (pT b 0) ?_
      refine ps_c (o_rmUnpack 508 1) 46 #[pT b 0] Try.func46 ((rrEnd_ok b rv l (unI l (unN l)).2 _ (eq_i ▸ h15)).mono ?_)
      rintro e V49 ⟨rfl, kV49⟩
      refine ⟨_, rfl, ?_⟩
      have h50 := kV49.bk h13
      have h51 : N5 ≤ V49.heap.size := Nat.le_trans h14 kV49.size
      have h52 : Row V49 22 1 v i xs := h16.keeps kV49 (fun _ _ x => x)
      have h53 : Copied V49 w.heap.size xs (unI l (unN l)).1 := h17.keepsN kV49
      have K54 := K18.nn kV49
      obtain ⟨V55, eV55, gx, egx, h56, kV55⟩ := alloc_step V49 (#[.int .i64 0, .int .i64 0]) 38
      have n57 : gf < gx := egx ▸ lt_of_block h50
      have n58 : w.heap.size ≤ gx := egx ▸ K54.size
      refine ps_r (o_rmUnpack 508 2) (pT gx 0) (w' := V55) (by rw [← eV55, ← egx]; exact exec_alloc0 38 (by kernel_rfl) (.agg (#[.int .i64 0, .int .i64 0])) (by kernel_rfl)) ?_
      clear eV55
      have h59 := kV55.bk h50
      have h60 : N5 ≤ V55.heap.size := Nat.le_trans h51 kV55.size
      have h61 : Row V55 22 1 v i xs := h52.keeps kV55 (fun _ _ x => x)
      have h62 : Copied V55 w.heap.size xs (unI l (unN l)).1 := h53.keepsN kV55
      have K63 := K54.nn kV55
      obtain ⟨V64, eV64, kV64⟩ := rowset_step V55 gx (#[.int .i64 ((unI l (unN l)).2.fin l).1, .int .i64 ((unI l (unN l)).2.fin l).2])
      have h65 : V64.heap[gx]? = some (.cells (#[.int .i64 ((unI l (unN l)).2.fin l).1, .int .i64 ((unI l (unN l)).2.fin l).2]) 38 (0, 0)) := eV64 ▸ setRow_heap _ _ _ _ _ _ h56
      refine ps_s (o_rmUnpack 508 3) (w' := V64) (by rw [← eV64]; exact exec_store_row 38 (.tmp 8) (.tmp 28) (by kernel_rfl) gx (#[.int .i64 ((unI l (unN l)).2.fin l).1, .int .i64 ((unI l (unN l)).2.fin l).2]) (by kernel_rfl) (by kernel_rfl) 38 (#[.int .i64 0, .int .i64 0]) h56 (by kernel_rfl) rfl (by kernel_rfl)) ?_
      clear eV64
      have h66 := kV64.bo h59 (by omega)
      have h67 : N5 ≤ V64.heap.size := Nat.le_trans h60 kV64.size
      have h68 : Row V64 22 1 v i xs := h61.keeps kV64 (fun j hj e => Row.ne h61 h56 (by decide) ((show j = gx from e) ▸ hj))
      have h69 : Copied V64 w.heap.size xs (unI l (unN l)).1 := h62.keepsT kV64 h56 (by decide)
      have K70 := K63.no kV64 (by omega)
      refine ps_end ?_
      refine then_n ?_
      refine sy_sq (part_rmUnpack 1018) (part_rmUnpack 1019) ?_
      refine sy_reg ?_
      refine rg_plain 11 (opsAt (part_rmUnpack 1018)) [0, 1, 2] (by kernel_rfl) (by kernel_rfl) ?_
      refine ps_p (o_rmUnpack 1018 0) (.agg #[.int .i64 ((unI l (unN l)).2.fin l).1, .int .i64 ((unI l (unN l)).2.fin l).2]) (exec_load_row 38 (.tmp 8) (by kernel_rfl) gx (by kernel_rfl) _ _ (0, 0) _ (h65) Try.underlying38 rfl (by kernel_rfl)) ?_
      refine ps_k (o_rmUnpack 1018 1) (.agg #[.int .i64 0, .int .i64 0]) ?_
      refine ps_p (o_rmUnpack 1018 2) (.bool true) (exec_cast (congrArg Value.bool (fault_no hz)) (exec_binop .neq 38 38 (.tmp 29) (.tmp 30) (by kernel_rfl) (.agg #[.int .i64 ((unI l (unN l)).2.fin l).1, .int .i64 ((unI l (unN l)).2.fin l).2]) (.agg #[.int .i64 0, .int .i64 0]) _ (by kernel_rfl) (by kernel_rfl) (run_eqGuard_agg _ _ _ _ _ _ _ fault_guard) (fault_ne _ _ _ _ _))) ?_
      refine ps_end ?_
      refine then_n ?_
      refine sy_ys (.tmp 31) (part_rmUnpack 2038) (part_rmUnpack 2039) ?_
      refine sy_sq (part_rmUnpack 4076) (part_rmUnpack 4077) ?_
      refine sy_np ?_
      refine sy_reg ?_
      refine an_begin 12 3 (opsAt (part_rmUnpack 4076)) (fun W => (W.heap[gx]? = some (.cells (#[.int .i64 ((unI l (unN l)).2.fin l).1, .int .i64 ((unI l (unN l)).2.fin l).2]) 38 (0, 0)))) #[false, false, false] (by kernel_rfl) (by kernel_rfl) (by kernel_rfl) (by kernel_rfl) ?_
      obtain ⟨V71, eV71, kV71⟩ := drew_step V64
      rw [eV71]
      clear eV71
      have h72 := kV71.bk h66
      have h73 : N5 ≤ V71.heap.size := Nat.le_trans h67 kV71.size
      have h74 : Row V71 22 1 v i xs := h68.keeps kV71 (fun _ _ x => x)
      have h75 : Copied V71 w.heap.size xs (unI l (unN l)).1 := h69.keepsN kV71
      have h76 := kV71.bk h65
      have K77 := K70.nn kV71
      refine an_v 0 (o_rmUnpack 4076 0) (.agg #[.int .i64 ((unI l (unN l)).2.fin l).1, .int .i64 ((unI l (unN l)).2.fin l).2]) (fun W hS => exec_load_row 38 (.tmp 8) (by kernel_rfl) gx (by kernel_rfl) _ _ (0, 0) _ (hS) Try.underlying38 rfl (by kernel_rfl)) h76 ?_
      refine an_o 1 ?_
      refine on_r (o_rmUnpack 4076 1) (.slice none 0 0) (w' := V71) (by kernel_rfl) ?_
      refine ⟨h76, ?_⟩
      refine an_o 2 ?_
      obtain ⟨V78, eV78, kV78⟩ := rowset_step V71 gf (#[.int .i64 ((unI l (unN l)).2.fin l).1, .int .i64 ((unI l (unN l)).2.fin l).2])
      have h79 : V78.heap[gf]? = some (.cells (#[.int .i64 ((unI l (unN l)).2.fin l).1, .int .i64 ((unI l (unN l)).2.fin l).2]) 38 (0, 0)) := eV78 ▸ setRow_heap _ _ _ _ _ _ h72
      refine on_s (o_rmUnpack 4076 2) (w' := V78) (by rw [← eV78]; exact exec_store_row 38 (.tmp 3) (.tmp 32) (by kernel_rfl) gf (#[.int .i64 ((unI l (unN l)).2.fin l).1, .int .i64 ((unI l (unN l)).2.fin l).2]) (by kernel_rfl) (by kernel_rfl) 38 (#[.int .i64 0, .int .i64 0]) h72 (by kernel_rfl) rfl (by kernel_rfl)) ?_
      clear eV78
      have h80 : N5 ≤ V78.heap.size := Nat.le_trans h73 kV78.size
      have h81 : Row V78 22 1 v i xs := h74.keeps kV78 (fun j hj e => Row.ne h74 h72 (by decide) ((show j = gf from e) ▸ hj))
      have h82 : Copied V78 w.heap.size xs (unI l (unN l)).1 := h75.keepsT kV78 h72 (by decide)
      have h83 := kV78.bo h76 (by omega)
      have K84 := K77.no kV78 (by omega)
      refine ⟨h83, ?_⟩
      refine an_end (by kernel_rfl) ?_
      refine then_n ?_
      refine sy_ret (by kernel_rfl) ?_
      refine then_r ?_
      refine sy_out (.tuple #[.slice none 0 0, .agg #[.int .i64 ((unI l (unN l)).2.fin l).1, .int .i64 ((unI l (unN l)).2.fin l).2]]) rfl (results_tmp_row (p := 2) (q := 3) (ty := 38) (by kernel_rfl) _ _ gf 38 (#[.int .i64 ((unI l (unN l)).2.fin l).1, .int .i64 ((unI l (unN l)).2.fin l).2]) (0, 0) _ (.slice none 0 0) (by kernel_rfl) h79 Try.underlying38 rfl (by kernel_rfl) (by kernel_rfl)) ?_
      exact ⟨_, [], by rw [unR, if_neg hl, if_neg hz], by rw [unR, if_neg hl, if_neg hz]; exact World.ownsRow_nil _ _ _ _, NewFrom.nil _, fun k u h => by simp at h, Apart.nil, K84⟩
set_option maxRecDepth 100000 in
set_option maxHeartbeats 4000000 in
theorem rmUnpack_ok (A0 : Option Addr) (cap0 : Nat) (l : List UInt8) (w : World) (hx : BytesAt w (.slice A0 l.length cap0) l) (hlm : l.length ≤ 9223372036854775807) (hl : ¬ 1048576 < l.length) (hz : ((unI l (unN l)).2.fin l).1 = 0) :
    Calls Try.prog 33 #[.slice A0 l.length cap0] w (fun e w' => ∃ X xs, e = .returned (.tuple #[X, .agg #[.int .i64 (unR l).2.1, .int .i64 (unR l).2.2]]) ∧ Row w' 22 1 X (unR l).1.length xs ∧ NewFrom w.heap.size X ∧ Copied w' w.heap.size xs (unR l).1 ∧ Apart xs ∧ Keeps Nob w w') := by
  obtain ⟨i0, hi0, hz0, hz1, hz2⟩ := info_parts bytes_info0
  have hN := unN_le l
  have K0 : Keeps Nob w w := Keeps.refl _ _
  refine sy_enter (part_rmUnpack 1) ⟨#[.slice A0 l.length cap0, undef, undef, undef, undef, undef, undef, undef, undef, undef, undef, undef, undef, undef, undef, undef, undef, undef, undef, undef, undef, undef, undef, undef, undef, undef, undef, undef, undef, undef, undef, undef, undef, undef, undef], []⟩ Try.func33 (by kernel_rfl) (by kernel_rfl) ?_
  refine sy_sq (part_rmUnpack 2) (part_rmUnpack 3) ?_
  refine sy_reg ?_
  refine rg_plain 0 (opsAt (part_rmUnpack 2)) [0, 1] (by kernel_rfl) (by kernel_rfl) ?_
  refine ps_k (o_rmUnpack 2 0) (.slice none 0 0) ?_
  obtain ⟨V1, eV1, gf, egf, h2, kV1⟩ := alloc_step w (#[.int .i64 0, .int .i64 0]) 38
  have n3 : w.heap.size ≤ gf := egf ▸ K0.size
  refine ps_r (o_rmUnpack 2 1) (pT gf 0) (w' := V1) (by rw [← eV1, ← egf]; exact exec_alloc0 38 (by kernel_rfl) (.agg (#[.int .i64 0, .int .i64 0])) (by kernel_rfl)) ?_
  clear eV1
  have K4 := K0.nn kV1
  refine ps_end ?_
  refine then_n ?_
  refine sy_sq (part_rmUnpack 6) (part_rmUnpack 7) ?_
  refine sy_sq (part_rmUnpack 12) (part_rmUnpack 13) ?_
  refine sy_reg ?_
  refine rg_plain 1 (opsAt (part_rmUnpack 12)) [0, 1, 2] (by kernel_rfl) (by kernel_rfl) ?_
  refine ps_k (o_rmUnpack 12 0) (.slice A0 l.length cap0) ?_
  refine ps_p (o_rmUnpack 12 1) (iN l.length) (exec_len (.tmp 9) 22 _ (by kernel_rfl) Try.underlying22 A0 l.length cap0 (by kernel_rfl)) ?_
  refine ps_p (o_rmUnpack 12 2) (.bool false) (dcf ((((l.length : Nat) : Int)) > ((1048576) : Int)) (by omega)) ?_
  refine ps_end ?_
  refine then_n ?_
  refine sy_n (.tmp 11) (part_rmUnpack 26) (part_rmUnpack 27) ?_
  refine sy_sk ?_
  refine then_n ?_
  refine sy_sq (part_rmUnpack 14) (part_rmUnpack 15) ?_
  refine sy_reg ?_
  refine rg_plain 3 (opsAt (part_rmUnpack 14)) [0, 1, 2] (by kernel_rfl) (by kernel_rfl) ?_
  refine ps_k (o_rmUnpack 14 0) (.slice A0 l.length cap0) ?_
  have hlf := lt_of_block h2
  have hKs := K4.size
  refine ps_c (o_rmUnpack 14 1) 43 #[.slice A0 l.length cap0] Try.func43 ((rrNew_ok _ l _ (hx.keepsN K4) (by omega)).mono ?_)
  rintro e V5 ⟨b, rv, rfl, hR0, hb0, hov', kV5⟩
  have hk5 := kV5.size
  have hbl := hR0.lt
  obtain ⟨N5, hN5⟩ : ∃ n, n = V5.heap.size := ⟨_, rfl⟩
  have hov : ∀ j, rv.ownBlock = some j → V1.heap.size ≤ j ∧ j < N5 := fun j h => hN5 ▸ hov' j h
  refine ⟨_, rfl, ?_⟩
  have h6 := kV5.bk h2
  have K7 := K4.nn kV5
  refine ps_k (o_rmUnpack 14 2) (pT b 0) ?_
  refine ps_end ?_
  refine then_n ?_
  refine sy_sq (part_rmUnpack 30) (part_rmUnpack 31) ?_
  refine sy_reg ?_
  refine rg_plain 4 (opsAt (part_rmUnpack 30)) [0, 1, 2] (by kernel_rfl) (by kernel_rfl) ?_
  refine ps_k (o_rmUnpack 30 0) (pT b 0) ?_
  have hun : (rdN l ⟨0, 0⟩ 0 1000).1 = ((unN l : Nat) : Int) := by have := rdN_le l ⟨0, 0⟩ 0 1000; unfold unN; omega
  refine ps_c (o_rmUnpack 30 1) 44 #[pT b 0, .int .i64 0, .int .i64 1000] Try.func44 (((hun ▸ rrN_ok b rv l ⟨0, 0⟩ 0 1000 _ hR0 (by decide) (by decide))).mono ?_)
  rintro e V8 ⟨rfl, hR1, kV8⟩
  refine ⟨_, rfl, ?_⟩
  have h9 := kV8.bo h6 (by omega)
  have h10 : N5 ≤ V8.heap.size := Nat.le_trans (Nat.le_of_eq hN5) kV8.size
  have K11 := K7.no kV8 (by omega)
  refine ps_k (o_rmUnpack 30 2) (iN (unN l)) ?_
  refine ps_end ?_
  refine then_n ?_
  refine sy_sq (part_rmUnpack 62) (part_rmUnpack 63) ?_
  refine sy_reg ?_
  refine rg_plain 5 (opsAt (part_rmUnpack 62)) [0] (by kernel_rfl) (by kernel_rfl) ?_
  refine ps_k (o_rmUnpack 62 0) (.slice none 0 0) ?_
  refine ps_end ?_
  refine then_n ?_
  refine sy_sq (part_rmUnpack 126) (part_rmUnpack 127) ?_
  refine sy_sq (part_rmUnpack 252) (part_rmUnpack 253) ?_
  refine sy_reg ?_
  refine rg_plain 6 (opsAt (part_rmUnpack 252)) [0] (by kernel_rfl) (by kernel_rfl) ?_
  refine ps_k (o_rmUnpack 252 0) (.int .i64 0) ?_
  refine ps_end ?_
  refine then_n ?_
  refine sy_bk 0 (part_rmUnpack 506) ?_
  refine sy_loop (part_rmUnpack 1012) (fun a V => ∃ (i : Nat) (v : Value) (xs : List Value) (u17 u18 u19 u20 u21 u22 u23 u24 u25 u26 : Value), (a = ⟨#[.slice A0 l.length cap0, undef, .slice none 0 0, pT gf 0, pT b 0, iN (unN l), v, iN i, undef, .slice A0 l.length cap0, iN l.length, .bool false, undef, .slice A0 l.length cap0, pT b 0, pT b 0, iN (unN l), u17, u18, u19, u20, u21, u22, u23, u24, u25, u26, undef, undef, undef, undef, undef, undef, undef, undef], []⟩) ∧ (i ≤ unN l) ∧ (V.heap[gf]? = some (.cells (#[.int .i64 0, .int .i64 0]) 38 (0, 0))) ∧ (N5 ≤ V.heap.size) ∧ (RrAt V b rv l (unI l i).2) ∧ (Row V 22 1 v i xs) ∧ (Copied V w.heap.size xs (unI l (unN l)).1) ∧ (Keeps Nob w V) ∧ (NewFrom w.heap.size v) ∧ (∀ j, v.ownBlock = some j → ¬ (fun j => j = b ∨ rv.ownBlock = some j) j) ∧ (Off xs (fun j => j = b ∨ rv.ownBlock = some j)) ∧ (Apart xs)) (fun a _ => unN l - (intOf (a.tmps.getD 7 undef)).toNat) (by kernel_rfl) ?_ ?_
  · exact ⟨0, .slice none 0 0, [], undef, undef, undef, undef, undef, undef, undef, undef, undef, undef, by kernel_rfl, Nat.zero_le _, h9, h10, hR1, (World.ownsRow_nil _ _ _ _), (fun k u h => by simp at h), K11, NewFrom.nil _, (fun j h => by cases h), Off.nil _, Apart.nil⟩
  · rintro a V12 ⟨i, v, xs, u17, u18, u19, u20, u21, u22, u23, u24, u25, u26, rfl, hi, h13, h14, h15, h16, h17, K18, hnw, hvF, hoff, hap⟩
    by_cases lt_i : i < unN l
    · skip
      refine sy_sq (part_rmUnpack 2024) (part_rmUnpack 2025) ?_
      refine sy_sq (part_rmUnpack 4048) (part_rmUnpack 4049) ?_
      refine sy_reg ?_
      refine rg_plain 7 (opsAt (part_rmUnpack 4048)) [0, 1, 2] (by kernel_rfl) (by kernel_rfl) ?_
      refine ps_k (o_rmUnpack 4048 0) (iN i) ?_
      refine ps_k (o_rmUnpack 4048 1) (iN (unN l)) ?_
      refine ps_p (o_rmUnpack 4048 2) (.bool true) (dct ((((i : Nat) : Int)) < (((unN l : Nat) : Int))) (by omega)) ?_
      refine ps_end ?_
      refine then_n ?_
      refine sy_ys (.tmp 19) (part_rmUnpack 8098) (part_rmUnpack 8099) ?_
      refine sy_sk ?_
      refine then_n ?_
      refine sy_sq (part_rmUnpack 4050) (part_rmUnpack 4051) ?_
      refine sy_bk 1 (part_rmUnpack 8100) ?_
      refine sy_reg ?_
      refine rg_plain 9 (opsAt (part_rmUnpack 8100)) [0, 1, 2, 3, 4, 5] (by kernel_rfl) (by kernel_rfl) ?_
      refine ps_k (o_rmUnpack 8100 0) (v) ?_
      refine ps_k (o_rmUnpack 8100 1) (pT b 0) ?_
      have hK7 := K18.size
      have hcl := h17.ltOld
      have hbW := h15.lt
      have hvW : ∀ j, v.ownBlock = some j → j < V12.heap.size := fun j hj => h16.lt hj
      refine ps_c (o_rmUnpack 8100 2) 59 #[pT b 0, .int .i64 4096] Try.func59 ((rrBlob_ok b rv l (unI l i).2 4096 _ h15 (by omega) (by decide)).mono ?_)
      rintro e V19 ⟨X, rfl, ⟨hX, hXn⟩, hRj, hkj⟩
      have hrowj : Row V19 22 1 v i xs := h16.keeps hkj (fun j hj e => hvF j hj (.inl e))
      have hcpj : Copied V19 w.heap.size xs (unI l (unN l)).1 := h17.keepsF hkj (fun u hu j hj e => hoff u hu j hj (.inl e))
      have hvFj := hvF
      have hoffj := hoff
      have one' := hX.one
      have hnX : NewFrom w.heap.size X := fun j hj => Nat.le_trans hK7 (hXn j hj)
      have hapX : ∀ u ∈ xs, ∀ j, u.ownBlock = some j → ¬ X.ownBlock = some j := fun u hu j h1 h2 => by have := hcl u hu j h1; have := hXn j h2; omega
      have hsz5 := h14
      have hXF : ∀ j, X.ownBlock = some j → ¬ (j = b ∨ rv.ownBlock = some j) := fun j hj h => by have := hXn j hj; (rcases h with h | h) <;> first | omega | (have := hov j h; omega)
      refine ⟨_, rfl, ?_⟩
      have h20 := hkj.bo h13 (by omega)
      have h21 : N5 ≤ V19.heap.size := Nat.le_trans h14 hkj.size
      have K22 := K18.no hkj (by omega)
      obtain ⟨V23, eV23, gl, egl, h24, kV23⟩ := alloc_step V19 (#[X]) 22
      have n25 : gf < gl := egl ▸ lt_of_block h20
      have n26 : w.heap.size ≤ gl := egl ▸ K22.size
      refine ps_r (o_rmUnpack 8100 3) (.slice (some ⟨gl, 0, none⟩) 1 1) (w' := V23) (by rw [← eV23, ← egl, ← Row.cells1 hX]; exact exec_build1 54 22 (.tmp 24) (by kernel_rfl) X (by kernel_rfl) i0 _ Try.underlying54 hi0 hz0 1 hz1 (by decide) (by decide) (by rw [Row.cells1 hX]; rfl)) ?_
      clear eV23
      have h27 := kV23.bk h20
      have h28 : N5 ≤ V23.heap.size := Nat.le_trans h21 kV23.size
      have h29 : RrAt V23 b rv l (unI l (i + 1)).2 := hRj.keeps kV23 (fun x => x) (fun _ _ x => x)
      have h30 : Row V23 22 1 v i xs := hrowj.keeps kV23 (fun _ _ x => x)
      have h31 : Copied V23 w.heap.size xs (unI l (unN l)).1 := hcpj.keepsN kV23
      have h32 : Row V23 5 1 X (rdB l (unI l i).2 4096).1.length (B (rdB l (unI l i).2 4096).1) := hX.keeps kV23 (fun _ _ x => x)
      have K33 := K22.nn kV23
      obtain ⟨v34, V35, hr36, h37, hg38, hn39, ha40⟩ := run_append_any (P := Try.prog) (w := V23) 54 (Oper.type (o_rmUnpack 8100 4)) 22 i0 (.slice none 0 0) 1 24 Try.underlying54 hi0 hz0 hz1 hz2 rfl (by decide) v i xs h30 (.slice (some ⟨gl, 0, none⟩) 1 1) 1 [X] (src_block h24 1 1 rfl (by simp [one'])) (by unfold maxLen; omega) (by omega)
      have kV35 : Keeps (fun j => v.ownBlock = some j) V23 V35 := Keeps.rowAdd hg38
      have hw41 : NewFrom w.heap.size v34 := hnw.next K33.size ha40
      refine ps_r (o_rmUnpack 8100 4) v34 (w' := V35) (exec_append (.tmp 22) (.tmp 25) 54 (by kernel_rfl) v (.slice (some ⟨gl, 0, none⟩) 1 1) (by kernel_rfl) (by kernel_rfl) hr36) ?_
      have h42 : Row V35 22 1 v34 (i + 1) (xs ++ [X]) := h37
      have hvFn : ∀ j, (v34 : Value).ownBlock = some j → ¬ (fun j => j = b ∨ rv.ownBlock = some j) j := fun j hj hf => (ha40 j hj).elim (fun h => hvFj j h hf) (fun h => by have := h29.lt; have := h28; (rcases hf with hf | hf) <;> first | omega | (have := hov j hf; omega))
      have h43 : V35.heap[gf]? = some (.cells (#[.int .i64 0, .int .i64 0]) 38 (0, 0)) := (kV35.block gf (lt_of_block h27) (fun e => Row.ne h30 h27 (by decide) e)).trans h27
      have h44 : N5 ≤ V35.heap.size := Nat.le_trans h28 kV35.size
      have h45 : RrAt V35 b rv l (unI l (i + 1)).2 := h29.keeps kV35 (fun e => hvFj b e (.inl rfl)) (fun j hj e => hvFj j e (.inr hj))
      have h46 : Copied V35 w.heap.size xs (unI l (unN l)).1 := h31.keepsRow kV35 h30
      have h47 : Row V35 5 1 X (rdB l (unI l i).2 4096).1.length (B (rdB l (unI l i).2 4096).1) := row_other h32 kV35 h30 (by decide)
      have K48 : Keeps Nob w V35 := K33.then kV35 (fun i hi hm => absurd hi (by have := hnw i hm; omega))
      refine ps_k (o_rmUnpack 8100 5) (v34) ?_
      refine ps_end ?_
      refine blk_n ?_
      refine then_n ?_
      refine sy_reg ?_
      refine rg_plain 8 (opsAt (part_rmUnpack 4051)) [0, 1, 2] (by kernel_rfl) (by kernel_rfl) ?_
      refine ps_k (o_rmUnpack 4051 0) (iN i) ?_
      refine ps_p (o_rmUnpack 4051 1) (iN (i + 1)) (exec_cast (congrArg (Value.int .i64) (wrapN (i + 1) (by omega))) (by kernel_rfl)) ?_
      refine ps_k (o_rmUnpack 4051 2) (iN (i + 1)) ?_
      refine ps_end ?_
      refine then_n ?_
      refine ⟨⟨i + 1, v34, xs ++ [X], (iN i), (iN (unN l)), (.bool true), (iN i), (iN (i + 1)), v, (pT b 0), X, (.slice (some ⟨gl, 0, none⟩) 1 1), v34, by kernel_rfl, by omega, h43, h44, h45, h42, h46.snoc (by have := (h30).1; omega) (unI_get l (unN l) i lt_i) h47 hnX, K48, hw41, hvFn, hoffj.snoc hXF, hap.snoc hapX⟩, ?_⟩
      exact lt_meas (x := unN l - (i + 1)) (y := unN l - i) (by kernel_rfl) (by kernel_rfl) (by omega)
    · have eq_i : i = unN l := by omega
      refine sy_sq (part_rmUnpack 2024) (part_rmUnpack 2025) ?_
      refine sy_sq (part_rmUnpack 4048) (part_rmUnpack 4049) ?_
      refine sy_reg ?_
      refine rg_plain 7 (opsAt (part_rmUnpack 4048)) [0, 1, 2] (by kernel_rfl) (by kernel_rfl) ?_
      refine ps_k (o_rmUnpack 4048 0) (iN i) ?_
      refine ps_k (o_rmUnpack 4048 1) (iN (unN l)) ?_
      refine ps_p (o_rmUnpack 4048 2) (.bool false) (dcf ((((i : Nat) : Int)) < (((unN l : Nat) : Int))) (by omega)) ?_
      refine ps_end ?_
      refine then_n ?_
      refine sy_n (.tmp 19) (part_rmUnpack 8098) (part_rmUnpack 8099) ?_
      refine sy_exit 0 (by kernel_rfl) ?_
      refine then_e ?_
      refine then_e ?_
      refine blk_e ?_
      refine then_n ?_
      refine sy_sq (part_rmUnpack 254) (part_rmUnpack 255) ?_
      refine sy_sq (part_rmUnpack 508) (part_rmUnpack 509) ?_
      refine sy_reg ?_
      refine rg_plain 10 (opsAt (part_rmUnpack 508)) [0, 1, 2, 3] (by kernel_rfl) (by kernel_rfl) ?_
      refine ps_k (o_rmUnpack 508 0) (pT b 0) ?_
      refine ps_c (o_rmUnpack 508 1) 46 #[pT b 0] Try.func46 ((rrEnd_ok b rv l (unI l (unN l)).2 _ (eq_i ▸ h15)).mono ?_)
      rintro e V49 ⟨rfl, kV49⟩
      refine ⟨_, rfl, ?_⟩
      have h50 := kV49.bk h13
      have h51 : N5 ≤ V49.heap.size := Nat.le_trans h14 kV49.size
      have h52 : Row V49 22 1 v i xs := h16.keeps kV49 (fun _ _ x => x)
      have h53 : Copied V49 w.heap.size xs (unI l (unN l)).1 := h17.keepsN kV49
      have K54 := K18.nn kV49
      obtain ⟨V55, eV55, gx, egx, h56, kV55⟩ := alloc_step V49 (#[.int .i64 0, .int .i64 0]) 38
      have n57 : gf < gx := egx ▸ lt_of_block h50
      have n58 : w.heap.size ≤ gx := egx ▸ K54.size
      refine ps_r (o_rmUnpack 508 2) (pT gx 0) (w' := V55) (by rw [← eV55, ← egx]; exact exec_alloc0 38 (by kernel_rfl) (.agg (#[.int .i64 0, .int .i64 0])) (by kernel_rfl)) ?_
      clear eV55
      have h59 := kV55.bk h50
      have h60 : N5 ≤ V55.heap.size := Nat.le_trans h51 kV55.size
      have h61 : Row V55 22 1 v i xs := h52.keeps kV55 (fun _ _ x => x)
      have h62 : Copied V55 w.heap.size xs (unI l (unN l)).1 := h53.keepsN kV55
      have K63 := K54.nn kV55
      obtain ⟨V64, eV64, kV64⟩ := rowset_step V55 gx (#[.int .i64 ((unI l (unN l)).2.fin l).1, .int .i64 ((unI l (unN l)).2.fin l).2])
      have h65 : V64.heap[gx]? = some (.cells (#[.int .i64 ((unI l (unN l)).2.fin l).1, .int .i64 ((unI l (unN l)).2.fin l).2]) 38 (0, 0)) := eV64 ▸ setRow_heap _ _ _ _ _ _ h56
      refine ps_s (o_rmUnpack 508 3) (w' := V64) (by rw [← eV64]; exact exec_store_row 38 (.tmp 8) (.tmp 28) (by kernel_rfl) gx (#[.int .i64 ((unI l (unN l)).2.fin l).1, .int .i64 ((unI l (unN l)).2.fin l).2]) (by kernel_rfl) (by kernel_rfl) 38 (#[.int .i64 0, .int .i64 0]) h56 (by kernel_rfl) rfl (by kernel_rfl)) ?_
      clear eV64
      have h66 := kV64.bo h59 (by omega)
      have h67 : N5 ≤ V64.heap.size := Nat.le_trans h60 kV64.size
      have h68 : Row V64 22 1 v i xs := h61.keeps kV64 (fun j hj e => Row.ne h61 h56 (by decide) ((show j = gx from e) ▸ hj))
      have h69 : Copied V64 w.heap.size xs (unI l (unN l)).1 := h62.keepsT kV64 h56 (by decide)
      have K70 := K63.no kV64 (by omega)
      refine ps_end ?_
      refine then_n ?_
      refine sy_sq (part_rmUnpack 1018) (part_rmUnpack 1019) ?_
      refine sy_reg ?_
      refine rg_plain 11 (opsAt (part_rmUnpack 1018)) [0, 1, 2] (by kernel_rfl) (by kernel_rfl) ?_
      refine ps_p (o_rmUnpack 1018 0) (.agg #[.int .i64 ((unI l (unN l)).2.fin l).1, .int .i64 ((unI l (unN l)).2.fin l).2]) (exec_load_row 38 (.tmp 8) (by kernel_rfl) gx (by kernel_rfl) _ _ (0, 0) _ (h65) Try.underlying38 rfl (by kernel_rfl)) ?_
      refine ps_k (o_rmUnpack 1018 1) (.agg #[.int .i64 0, .int .i64 0]) ?_
      refine ps_p (o_rmUnpack 1018 2) (.bool false) (exec_cast (congrArg Value.bool (fault_ok ⟨hz, ufin_zero hz⟩)) (exec_binop .neq 38 38 (.tmp 29) (.tmp 30) (by kernel_rfl) (.agg #[.int .i64 ((unI l (unN l)).2.fin l).1, .int .i64 ((unI l (unN l)).2.fin l).2]) (.agg #[.int .i64 0, .int .i64 0]) _ (by kernel_rfl) (by kernel_rfl) (run_eqGuard_agg _ _ _ _ _ _ _ fault_guard) (fault_ne _ _ _ _ _))) ?_
      refine ps_end ?_
      refine then_n ?_
      refine sy_n (.tmp 31) (part_rmUnpack 2038) (part_rmUnpack 2039) ?_
      refine sy_sk ?_
      refine then_n ?_
      refine sy_sq (part_rmUnpack 510) (part_rmUnpack 511) ?_
      refine sy_reg ?_
      refine rg_plain 13 (opsAt (part_rmUnpack 510)) [0, 1, 2, 3] (by kernel_rfl) (by kernel_rfl) ?_
      refine ps_k (o_rmUnpack 510 0) (v) ?_
      refine ps_k (o_rmUnpack 510 1) (.agg #[.int .i64 0, .int .i64 0]) ?_
      refine ps_k (o_rmUnpack 510 2) (v) ?_
      obtain ⟨V71, eV71, kV71⟩ := rowset_step V64 gf (#[.int .i64 0, .int .i64 0])
      have h72 : V71.heap[gf]? = some (.cells (#[.int .i64 0, .int .i64 0]) 38 (0, 0)) := eV71 ▸ setRow_heap _ _ _ _ _ _ h66
      refine ps_s (o_rmUnpack 510 3) (w' := V71) (by rw [← eV71]; exact exec_store_row 38 (.tmp 3) (.tmp 34) (by kernel_rfl) gf (#[.int .i64 0, .int .i64 0]) (by kernel_rfl) (by kernel_rfl) 38 (#[.int .i64 0, .int .i64 0]) h66 (by kernel_rfl) rfl (by kernel_rfl)) ?_
      clear eV71
      have h73 : N5 ≤ V71.heap.size := Nat.le_trans h67 kV71.size
      have h74 : Row V71 22 1 v i xs := h68.keeps kV71 (fun j hj e => Row.ne h68 h66 (by decide) ((show j = gf from e) ▸ hj))
      have h75 : Copied V71 w.heap.size xs (unI l (unN l)).1 := h69.keepsT kV71 h66 (by decide)
      have h76 := kV71.bo h65 (by omega)
      have K77 := K70.no kV71 (by omega)
      refine ps_end ?_
      refine then_n ?_
      refine sy_ret (by kernel_rfl) ?_
      refine sy_out (.tuple #[v, .agg #[.int .i64 0, .int .i64 0]]) rfl (results_tmp_row (p := 2) (q := 3) (ty := 38) (by kernel_rfl) _ _ gf 38 (#[.int .i64 0, .int .i64 0]) (0, 0) _ (v) (by kernel_rfl) h72 Try.underlying38 rfl (by kernel_rfl) (by kernel_rfl)) ?_
      have hu : unR l = ((unI l (unN l)).1, (0, 0)) := by rw [unR, if_neg hl, if_pos hz]
      exact ⟨v, xs, by rw [hu], by rw [hu]; show Row _ _ _ _ (unI l (unN l)).1.length _; rw [unI_len]; have e := h74; rw [eq_i] at e; exact e, hnw, by rw [hu]; exact h75, hap, K77⟩
theorem rmUnpack_any (v0 : Value) (l : List UInt8) (w : World) (hx : BytesAt w v0 l) (hlm : l.length ≤ 9223372036854775807) : Calls Try.prog 33 #[v0] w (fun e w' => ∃ X xs, e = .returned (.tuple #[X, .agg #[.int .i64 (unR l).2.1, .int .i64 (unR l).2.2]]) ∧ Row w' 22 1 X (unR l).1.length xs ∧ NewFrom w.heap.size X ∧ Copied w' w.heap.size xs (unR l).1 ∧ Apart xs ∧ Keeps Nob w w') := by
  obtain ⟨A0, cap0, rfl⟩ := hx.len
  by_cases hl : 1048576 < l.length
  · exact rmUnpack_big A0 cap0 l w hx hlm hl
  · by_cases hz : ((unI l (unN l)).2.fin l).1 = 0
    · exact rmUnpack_ok A0 cap0 l w hx hlm hl hz
    · exact rmUnpack_bad A0 cap0 l w hx hlm hl hz
end Go.Proofs.Ytmapcghgdbfmhaa
