/-
  Messages: scripts packed and unpacked (printed by msg14.py). Conditions: none.
-/
import Derived.Test.YtmapcghgdbfmhaaMsgT
import Derived.Test.YtmapcghgdbfmhaaCodSp
import Derived.Test.YtmapcghgdbfmhaaSymE
namespace Go.Proofs.Ytmapcghgdbfmhaa
open Go Go.RowKit Go.Own Go.Shelf
def one1 (l : List UInt8) : List UInt8 := Cod.enc l.length ++ l
def pbi (ls : List (List UInt8)) (i : Nat) : List UInt8 := Cod.enc ls.length ++ (ls.take i).flatMap one1
def packB (ls : List (List UInt8)) : List UInt8 := Cod.enc ls.length ++ ls.flatMap one1
theorem pbi_all (ls : List (List UInt8)) : pbi ls ls.length = packB ls := by unfold pbi packB; rw [List.take_length]
theorem pbi_succ {ls : List (List UInt8)} {i : Nat} {l : List UInt8} (h : ls[i]? = some l) : pbi ls (i + 1) = pbi ls i ++ one1 l := by unfold pbi; rw [List.take_add_one, h]; simp
def wsI (ls : List (List UInt8)) (i : Nat) : WS := if (pbi ls i).length ≤ 1048576 then ⟨1048576, pbi ls i, 0⟩ else (wsO ls i)
where wsO (ls : List (List UInt8)) : Nat → WS
  | 0 => ⟨1048576, [], 4⟩
  | i + 1 => if (pbi ls i).length ≤ 1048576 then ⟨1048576, pbi ls i, 4⟩ else wsO ls i
theorem wsO_err (ls : List (List UInt8)) (i : Nat) : (wsI.wsO ls i).err = 4 := by
  induction i with
  | zero => rfl
  | succ i ih =>
    unfold wsI.wsO
    split
    · rfl
    · exact ih
theorem wsI_0 (ls : List (List UInt8)) : (⟨1048576, [], 0⟩ : WS).add (Cod.enc ls.length) = wsI ls 0 := by
  have h := Cod.enc_length ls.length
  have e : pbi ls 0 = Cod.enc ls.length := by simp [pbi]
  unfold wsI; rw [e, if_pos (by omega)]
  unfold WS.add; rw [if_pos rfl, if_neg (by show ¬ (1048576 : Int) - 0 < _; omega)]; rfl
theorem wsI_succ {ls : List (List UInt8)} {i : Nat} {l : List UInt8} (h : ls[i]? = some l) : (wsI ls i).add (one1 l) = wsI ls (i + 1) := by
  have e := pbi_succ h
  have el := congrArg List.length e
  rw [List.length_append] at el
  by_cases h1 : (pbi ls i).length ≤ 1048576
  · have e1 : wsI ls i = ⟨1048576, pbi ls i, 0⟩ := if_pos h1
    rw [e1]; unfold WS.add; rw [if_pos rfl]
    by_cases h2 : (pbi ls (i + 1)).length ≤ 1048576
    · rw [if_neg (by show ¬ (1048576 : Int) - ((pbi ls i).length : Int) < _; omega)]
      unfold wsI; rw [if_pos h2, e]
    · rw [if_pos (by show (1048576 : Int) - ((pbi ls i).length : Int) < _; omega)]
      have e2 : wsI ls (i + 1) = wsI.wsO ls (i + 1) := if_neg h2
      rw [e2]; unfold wsI.wsO; rw [if_pos h1]
  · have e1 : wsI ls i = wsI.wsO ls i := if_neg h1
    have e2 : wsI ls (i + 1) = wsI.wsO ls (i + 1) := if_neg (by omega)
    rw [e1, e2]; unfold WS.add; rw [if_neg (by rw [wsO_err]; decide)]
    conv => rhs; unfold wsI.wsO
    rw [if_neg h1]
def longs (ls : List (List UInt8)) : Prop := 1000 < ls.length ∨ ∃ l ∈ ls, 4096 < l.length
instance (ls : List (List UInt8)) : Decidable (longs ls) := by unfold longs; infer_instance
/-- What packing tells. -/
def packR (ls : List (List UInt8)) : List UInt8 × Int := if longs ls then ([], 4) else if (packB ls).length ≤ 1048576 then (packB ls, 0) else ([], 4)
theorem packR_long {ls : List (List UInt8)} (h : longs ls) : packR ls = ([], 4) := if_pos h
theorem packR_ws {ls : List (List UInt8)} (h : ¬ longs ls) : packR ls = (if (wsI ls ls.length).err = 0 then (wsI ls ls.length).out else [], (wsI ls ls.length).err) := by
  unfold packR; rw [if_neg h, ← pbi_all]
  by_cases h1 : (pbi ls ls.length).length ≤ 1048576
  · rw [if_pos h1, show wsI ls ls.length = ⟨1048576, pbi ls ls.length, 0⟩ from if_pos h1]; rfl
  · rw [if_neg h1, show wsI ls ls.length = wsI.wsO ls ls.length from if_neg h1, wsO_err]; rfl

noncomputable def part_mPack (n : Nat) : Code := partOf Try.f29 n
noncomputable abbrev o_mPack (n k : Nat) : Oper := (opsAt (part_mPack n)).getD k default
set_option maxRecDepth 100000 in
set_option maxHeartbeats 4000000 in
theorem mPack_many (A : Option Addr) (cap : Nat) (us : List Value) (ls : List (List UInt8)) (w : World) (h0 : ListsAt w (.slice A ls.length cap) us ls) (hB : ∀ (k : Nat) (l : List UInt8), ls[k]? = some l → l.length ≤ 9223372036854775807) (hl : 1000 < ls.length) :
    Calls Try.prog 29 #[.slice A ls.length cap] w (fun e w' => ∃ X, e = .returned (.tuple #[X, .int .i64 (packR ls).2]) ∧ Row w' 5 1 X (packR ls).1.length (B (packR ls).1) ∧ NewFrom w.heap.size X ∧ Keeps Nob w w') := by
  have hmax : ls.length ≤ 9223372036854775807 := by obtain ⟨_, _, e, h1, h2, _⟩ := h0.form; simp only [Value.slice.injEq] at e; obtain ⟨_, _, rfl⟩ := e; unfold maxLen at h2; omega
  have K0 : Keeps Nob w w := Keeps.refl _ _
  refine sy_enter (part_mPack 1) ⟨#[.slice A ls.length cap, undef, undef, undef, undef, undef, undef, undef, undef, undef, undef, undef, undef, undef, undef, undef, undef, undef, undef, undef, undef, undef, undef, undef, undef, undef, undef, undef, undef, undef, undef, undef, undef, undef, undef, undef], []⟩ Try.func29 (by kernel_rfl) (by kernel_rfl) ?_
  refine sy_sq (part_mPack 2) (part_mPack 3) ?_
  refine sy_reg ?_
  refine rg_plain 0 (opsAt (part_mPack 2)) [0, 1] (by kernel_rfl) (by kernel_rfl) ?_
  refine ps_k (o_mPack 2 0) (.slice none 0 0) ?_
  refine ps_k (o_mPack 2 1) (.int .i64 0) ?_
  refine ps_end ?_
  refine then_n ?_
  refine sy_sq (part_mPack 6) (part_mPack 7) ?_
  refine sy_sq (part_mPack 12) (part_mPack 13) ?_
  refine sy_reg ?_
  refine rg_plain 1 (opsAt (part_mPack 12)) [0, 1, 2] (by kernel_rfl) (by kernel_rfl) ?_
  refine ps_k (o_mPack 12 0) (.slice A ls.length cap) ?_
  refine ps_p (o_mPack 12 1) (iN ls.length) (exec_len (.tmp 8) 54 _ (by kernel_rfl) Try.underlying54 A ls.length cap (by kernel_rfl)) ?_
  refine ps_p (o_mPack 12 2) (.bool true) (dct ((((ls.length : Nat) : Int)) > ((1000) : Int)) (by omega)) ?_
  refine ps_end ?_
  refine then_n ?_
  refine sy_ys (.tmp 10) (part_mPack 26) (part_mPack 27) ?_
  refine sy_sq (part_mPack 52) (part_mPack 53) ?_
  refine sy_reg ?_
  refine rg_plain 2 (opsAt (part_mPack 52)) [0, 1] (by kernel_rfl) (by kernel_rfl) ?_
  refine ps_k (o_mPack 52 0) (.slice none 0 0) ?_
  refine ps_k (o_mPack 52 1) (.int .i64 4) ?_
  refine ps_end ?_
  refine then_n ?_
  refine sy_ret (by kernel_rfl) ?_
  refine then_r ?_
  refine sy_out (.tuple #[.slice none 0 0, .int .i64 4]) rfl (by kernel_rfl) ?_
  exact ⟨_, by rw [packR_long (.inl hl)], by rw [packR_long (.inl hl)]; exact World.ownsRow_nil _ _ _ _, NewFrom.nil _, K0⟩
set_option maxRecDepth 100000 in
set_option maxHeartbeats 4000000 in
theorem mPack_ok (A : Option Addr) (cap : Nat) (us : List Value) (ls : List (List UInt8)) (w : World) (h0 : ListsAt w (.slice A ls.length cap) us ls) (hB : ∀ (k : Nat) (l : List UInt8), ls[k]? = some l → l.length ≤ 9223372036854775807) (hm : ¬ 1000 < ls.length) :
    Calls Try.prog 29 #[.slice A ls.length cap] w (fun e w' => ∃ X, e = .returned (.tuple #[X, .int .i64 (packR ls).2]) ∧ Row w' 5 1 X (packR ls).1.length (B (packR ls).1) ∧ NewFrom w.heap.size X ∧ Keeps Nob w w') := by
  have hmax : ls.length ≤ 9223372036854775807 := by obtain ⟨_, _, e, h1, h2, _⟩ := h0.form; simp only [Value.slice.injEq] at e; obtain ⟨_, _, rfl⟩ := e; unfold maxLen at h2; omega
  have K0 : Keeps Nob w w := Keeps.refl _ _
  refine sy_enter (part_mPack 1) ⟨#[.slice A ls.length cap, undef, undef, undef, undef, undef, undef, undef, undef, undef, undef, undef, undef, undef, undef, undef, undef, undef, undef, undef, undef, undef, undef, undef, undef, undef, undef, undef, undef, undef, undef, undef, undef, undef, undef, undef], []⟩ Try.func29 (by kernel_rfl) (by kernel_rfl) ?_
  refine sy_sq (part_mPack 2) (part_mPack 3) ?_
  refine sy_reg ?_
  refine rg_plain 0 (opsAt (part_mPack 2)) [0, 1] (by kernel_rfl) (by kernel_rfl) ?_
  refine ps_k (o_mPack 2 0) (.slice none 0 0) ?_
  refine ps_k (o_mPack 2 1) (.int .i64 0) ?_
  refine ps_end ?_
  refine then_n ?_
  refine sy_sq (part_mPack 6) (part_mPack 7) ?_
  refine sy_sq (part_mPack 12) (part_mPack 13) ?_
  refine sy_reg ?_
  refine rg_plain 1 (opsAt (part_mPack 12)) [0, 1, 2] (by kernel_rfl) (by kernel_rfl) ?_
  refine ps_k (o_mPack 12 0) (.slice A ls.length cap) ?_
  refine ps_p (o_mPack 12 1) (iN ls.length) (exec_len (.tmp 8) 54 _ (by kernel_rfl) Try.underlying54 A ls.length cap (by kernel_rfl)) ?_
  refine ps_p (o_mPack 12 2) (.bool false) (dcf ((((ls.length : Nat) : Int)) > ((1000) : Int)) (by omega)) ?_
  refine ps_end ?_
  refine then_n ?_
  refine sy_n (.tmp 10) (part_mPack 26) (part_mPack 27) ?_
  refine sy_sk ?_
  refine then_n ?_
  refine sy_sq (part_mPack 14) (part_mPack 15) ?_
  refine sy_reg ?_
  refine rg_plain 3 (opsAt (part_mPack 14)) [0, 1, 2, 3, 4, 5] (by kernel_rfl) (by kernel_rfl) ?_
  refine ps_c (o_mPack 14 0) 47 #[.int .i64 1048576] Try.func47 ((wr_new 1048576 _ (by decide) (by decide)).mono ?_)
  rintro e V1 ⟨b, F0, rfl, hV1, hge0, kV1⟩
  have hk1 := kV1.size
  refine ⟨_, rfl, ?_⟩
  have K2 := K0.nn kV1
  refine ps_k (o_mPack 14 1) (.tuple #[pT b 0, .int .i64 0]) ?_
  refine ps_k (o_mPack 14 2) (pT b 0) ?_
  refine ps_k (o_mPack 14 3) (.int .i64 0) ?_
  refine ps_k (o_mPack 14 4) (pT b 0) ?_
  refine ps_k (o_mPack 14 5) (.int .i64 0) ?_
  refine ps_end ?_
  refine then_n ?_
  refine sy_sq (part_mPack 30) (part_mPack 31) ?_
  refine sy_reg ?_
  refine rg_plain 4 (opsAt (part_mPack 30)) [0, 1, 2, 3] (by kernel_rfl) (by kernel_rfl) ?_
  refine ps_k (o_mPack 30 0) (pT b 0) ?_
  refine ps_k (o_mPack 30 1) (.slice A ls.length cap) ?_
  refine ps_p (o_mPack 30 2) (iN ls.length) (exec_len (.tmp 16) 54 _ (by kernel_rfl) Try.underlying54 A ls.length cap (by kernel_rfl)) ?_
  refine ps_c (o_mPack 30 3) 48 #[pT b 0, iN ls.length] Try.func48 (((wsI_0 ls ▸ Wr.n hV1 ((ls.length : Nat) : Int) (by omega) (by omega))).mono ?_)
  rintro e V3 ⟨rfl, F1, hV3, hS1⟩
  have hge1 : ∀ j, F1 j → w.heap.size ≤ j := hS1.ge hge0 (by first | exact Nat.le_refl _ | omega)
  refine ⟨_, rfl, ?_⟩
  have K4 : Keeps Nob w V3 := K2.then hS1.1 (fun i hi hm => absurd hi (by have := hge0 i hm; omega))
  refine ps_end ?_
  refine then_n ?_
  refine sy_sq (part_mPack 62) (part_mPack 63) ?_
  refine sy_sq (part_mPack 124) (part_mPack 125) ?_
  refine sy_reg ?_
  refine rg_plain 5 (opsAt (part_mPack 124)) [0, 1, 2] (by kernel_rfl) (by kernel_rfl) ?_
  refine ps_k (o_mPack 124 0) (.slice A ls.length cap) ?_
  refine ps_p (o_mPack 124 1) (iN ls.length) (exec_len (.tmp 19) 54 _ (by kernel_rfl) Try.underlying54 A ls.length cap (by kernel_rfl)) ?_
  refine ps_k (o_mPack 124 2) (.int .i64 0) ?_
  refine ps_end ?_
  refine then_n ?_
  refine sy_bk 0 (part_mPack 250) ?_
  refine sy_loop (part_mPack 500) (fun a V => ∃ (i : Nat) (Fi : Nat → Prop) (u2 u3 u7 u22 u23 u24 u25 u26 u27 u28 u29 u30 u31 : Value), (a = ⟨#[.slice A ls.length cap, undef, u2, u3, pT b 0, .int .i64 0, undef, u7, .slice A ls.length cap, iN ls.length, .bool false, .tuple #[pT b 0, .int .i64 0], .tuple #[pT b 0, .int .i64 0], pT b 0, .int .i64 0, pT b 0, .slice A ls.length cap, iN ls.length, .int .i64 (wsI ls 0).err, .slice A ls.length cap, iN ls.length, iN i, u22, u23, u24, u25, u26, u27, u28, u29, u30, u31, undef, undef, undef, undef], []⟩) ∧ (i ≤ ls.length) ∧ (∀ (j : Nat) (l : List UInt8), j < i → ls[j]? = some l → l.length ≤ 4096) ∧ (Wr V Fi b (wsI ls i)) ∧ (Keeps Nob w V) ∧ (∀ j, Fi j → w.heap.size ≤ j)) (fun a _ => ls.length - (intOf (a.tmps.getD 21 undef)).toNat) (by kernel_rfl) ?_ ?_
  · exact ⟨0, F1, (.slice none 0 0), (.int .i64 0), undef, undef, undef, undef, undef, undef, undef, undef, undef, undef, undef, by kernel_rfl, Nat.zero_le _, fun j l h => absurd h (by omega), hV3, K4, hge1⟩
  · rintro a V5 ⟨i, Fi, u2, u3, u7, u22, u23, u24, u25, u26, u27, u28, u29, u30, u31, rfl, hi, hs, h6, K7, hgei⟩
    rcases (show (i < ls.length ∧ ∃ l, ls[i]? = some l ∧ 4096 < l.length) ∨ (i < ls.length ∧ ∃ l, ls[i]? = some l ∧ l.length ≤ 4096) ∨ i = ls.length by
        by_cases h : i < ls.length
        · by_cases h3 : 4096 < (ls[i]'h).length
          · exact .inl ⟨h, _, List.getElem?_eq_getElem h, h3⟩
          · exact .inr (.inl ⟨h, _, List.getElem?_eq_getElem h, by omega⟩)
        · exact .inr (.inr (by omega))) with ⟨lt_i, l, hl, big⟩ | ⟨lt_i, l, hl, big⟩ | eq_i
    · obtain ⟨u, l', b_, o_, c_, hu, hl', hv⟩ := h0.open_ i lt_i
      obtain rfl : l = l' := Option.some.inj (hl.symm.trans hl')
      have hln := hB _ _ hl
      refine sy_sq (part_mPack 1000) (part_mPack 1001) ?_
      refine sy_reg ?_
      refine rg_plain 6 (opsAt (part_mPack 1000)) [0] (by kernel_rfl) (by kernel_rfl) ?_
      refine ps_p (o_mPack 1000 0) (.bool true) (dct ((((i : Nat) : Int)) < (((ls.length : Nat) : Int))) (by omega)) ?_
      refine ps_end ?_
      refine then_n ?_
      refine sy_sq (part_mPack 2002) (part_mPack 2003) ?_
      refine sy_ys (.tmp 22) (part_mPack 4004) (part_mPack 4005) ?_
      refine sy_sk ?_
      refine then_n ?_
      refine sy_sq (part_mPack 4006) (part_mPack 4007) ?_
      refine sy_bk 1 (part_mPack 8012) ?_
      refine sy_sq (part_mPack 16024) (part_mPack 16025) ?_
      refine sy_reg ?_
      refine rg_plain 7 (opsAt (part_mPack 16024)) [0, 1, 2] (by kernel_rfl) (by kernel_rfl) ?_
      refine ps_p (o_mPack 16024 0) (pT b_ (o_ + i)) (exec_cast (v := pT b_ (o_ + i * 1)) (by simp) (exec_indexAt_slice 54 (.tmp 19) (.tmp 21) (by kernel_rfl) b_ o_ ls.length c_ (Eq.trans (b := .slice A ls.length cap) (by kernel_rfl) hv) .i64 i (by kernel_rfl) _ 1 Try.underlying54 (by kernel_rfl) (by omega))) ?_
      refine ps_p (o_mPack 16024 1) (u) (exec_ld 22 (.tmp 23) b_ (o_ + i) Try.underlying22 (ListsAt.cell (h0.keepsN K7) hu hv)) ?_
      refine ps_k (o_mPack 16024 2) (u) ?_
      refine ps_end ?_
      refine then_n ?_
      refine sy_sq (part_mPack 32050) (part_mPack 32051) ?_
      refine sy_sq (part_mPack 64100) (part_mPack 64101) ?_
      refine sy_reg ?_
      refine rg_plain 8 (opsAt (part_mPack 64100)) [0, 1, 2] (by kernel_rfl) (by kernel_rfl) ?_
      refine ps_k (o_mPack 64100 0) (u) ?_
      refine ps_p (o_mPack 64100 1) (iN l.length) (exec_len_bytes (.tmp 25) 22 5 (by kernel_rfl) Try.underlying22 (by kernel_rfl) (ListsAt.bytes (h0.keepsN K7) _ _ _ hu hl)) ?_
      refine ps_p (o_mPack 64100 2) (.bool true) (dct ((((l.length : Nat) : Int)) > ((4096) : Int)) (by omega)) ?_
      refine ps_end ?_
      refine then_n ?_
      refine sy_ys (.tmp 27) (part_mPack 128202) (part_mPack 128203) ?_
      refine sy_sq (part_mPack 256404) (part_mPack 256405) ?_
      refine sy_reg ?_
      refine rg_plain 9 (opsAt (part_mPack 256404)) [0, 1] (by kernel_rfl) (by kernel_rfl) ?_
      refine ps_k (o_mPack 256404 0) (.slice none 0 0) ?_
      refine ps_k (o_mPack 256404 1) (.int .i64 4) ?_
      refine ps_end ?_
      refine then_n ?_
      refine sy_ret (by kernel_rfl) ?_
      refine then_r ?_
      refine blk_r ?_
      refine then_r ?_
      refine then_r ?_
      refine blk_r ?_
      refine then_r ?_
      refine sy_out (.tuple #[.slice none 0 0, .int .i64 4]) rfl (by kernel_rfl) ?_
      exact ⟨_, by rw [packR_long (.inr ⟨l, List.mem_of_getElem? hl, big⟩)], by rw [packR_long (.inr ⟨l, List.mem_of_getElem? hl, big⟩)]; exact World.ownsRow_nil _ _ _ _, NewFrom.nil _, K7⟩
    · obtain ⟨u, l', b_, o_, c_, hu, hl', hv⟩ := h0.open_ i lt_i
      obtain rfl : l = l' := Option.some.inj (hl.symm.trans hl')
      refine sy_sq (part_mPack 1000) (part_mPack 1001) ?_
      refine sy_reg ?_
      refine rg_plain 6 (opsAt (part_mPack 1000)) [0] (by kernel_rfl) (by kernel_rfl) ?_
      refine ps_p (o_mPack 1000 0) (.bool true) (dct ((((i : Nat) : Int)) < (((ls.length : Nat) : Int))) (by omega)) ?_
      refine ps_end ?_
      refine then_n ?_
      refine sy_sq (part_mPack 2002) (part_mPack 2003) ?_
      refine sy_ys (.tmp 22) (part_mPack 4004) (part_mPack 4005) ?_
      refine sy_sk ?_
      refine then_n ?_
      refine sy_sq (part_mPack 4006) (part_mPack 4007) ?_
      refine sy_bk 1 (part_mPack 8012) ?_
      refine sy_sq (part_mPack 16024) (part_mPack 16025) ?_
      refine sy_reg ?_
      refine rg_plain 7 (opsAt (part_mPack 16024)) [0, 1, 2] (by kernel_rfl) (by kernel_rfl) ?_
      refine ps_p (o_mPack 16024 0) (pT b_ (o_ + i)) (exec_cast (v := pT b_ (o_ + i * 1)) (by simp) (exec_indexAt_slice 54 (.tmp 19) (.tmp 21) (by kernel_rfl) b_ o_ ls.length c_ (Eq.trans (b := .slice A ls.length cap) (by kernel_rfl) hv) .i64 i (by kernel_rfl) _ 1 Try.underlying54 (by kernel_rfl) (by omega))) ?_
      refine ps_p (o_mPack 16024 1) (u) (exec_ld 22 (.tmp 23) b_ (o_ + i) Try.underlying22 (ListsAt.cell (h0.keepsN K7) hu hv)) ?_
      refine ps_k (o_mPack 16024 2) (u) ?_
      refine ps_end ?_
      refine then_n ?_
      refine sy_sq (part_mPack 32050) (part_mPack 32051) ?_
      refine sy_sq (part_mPack 64100) (part_mPack 64101) ?_
      refine sy_reg ?_
      refine rg_plain 8 (opsAt (part_mPack 64100)) [0, 1, 2] (by kernel_rfl) (by kernel_rfl) ?_
      refine ps_k (o_mPack 64100 0) (u) ?_
      refine ps_p (o_mPack 64100 1) (iN l.length) (exec_len_bytes (.tmp 25) 22 5 (by kernel_rfl) Try.underlying22 (by kernel_rfl) (ListsAt.bytes (h0.keepsN K7) _ _ _ hu hl)) ?_
      refine ps_p (o_mPack 64100 2) (.bool false) (dcf ((((l.length : Nat) : Int)) > ((4096) : Int)) (by omega)) ?_
      refine ps_end ?_
      refine then_n ?_
      refine sy_n (.tmp 27) (part_mPack 128202) (part_mPack 128203) ?_
      refine sy_sk ?_
      refine then_n ?_
      refine sy_reg ?_
      refine rg_plain 10 (opsAt (part_mPack 32051)) [0, 1, 2] (by kernel_rfl) (by kernel_rfl) ?_
      refine ps_k (o_mPack 32051 0) (pT b 0) ?_
      refine ps_k (o_mPack 32051 1) (u) ?_
      have hKs := K7.size
      refine ps_c (o_mPack 32051 2) 57 #[pT b 0, u] Try.func57 (((wsI_succ hl ▸ Wr.blob h6 u l (ListsAt.bytes (h0.keepsN K7) _ _ _ hu hl) (by omega))).mono ?_)
      rintro e V8 ⟨rfl, Fj, hV8, hSj⟩
      have hgej : ∀ j, Fj j → w.heap.size ≤ j := hSj.ge hgei hKs
      refine ⟨_, rfl, ?_⟩
      have K9 : Keeps Nob w V8 := K7.then hSj.1 (fun i hi hm => absurd hi (by have := hgei i hm; omega))
      refine ps_end ?_
      refine blk_n ?_
      refine then_n ?_
      refine sy_reg ?_
      refine rg_plain 11 (opsAt (part_mPack 4007)) [0, 1] (by kernel_rfl) (by kernel_rfl) ?_
      refine ps_p (o_mPack 4007 0) (iN (i + 1)) (exec_cast (congrArg (Value.int .i64) (wrapN (i + 1) (by omega))) (by kernel_rfl)) ?_
      refine ps_k (o_mPack 4007 1) (iN (i + 1)) ?_
      refine ps_end ?_
      refine then_n ?_
      refine ⟨⟨i + 1, Fj, u2, u3, u, (.bool true), (pT b_ (o_ + i)), u, u, (iN l.length), (.bool false), (pT b 0), u, (.int .i64 (wsI ls (i + 1)).err), (iN (i + 1)), by kernel_rfl, by omega, fun j l2 hj hl2 => by by_cases e : j = i; (rw [e, hl] at hl2; exact Option.some.inj hl2 ▸ big); exact hs j l2 (by omega) hl2, hV8, K9, hgej⟩, ?_⟩
      exact lt_meas (x := ls.length - (i + 1)) (y := ls.length - i) (by kernel_rfl) (by kernel_rfl) (by omega)
    · skip
      refine sy_sq (part_mPack 1000) (part_mPack 1001) ?_
      refine sy_reg ?_
      refine rg_plain 6 (opsAt (part_mPack 1000)) [0] (by kernel_rfl) (by kernel_rfl) ?_
      refine ps_p (o_mPack 1000 0) (.bool false) (dcf ((((i : Nat) : Int)) < (((ls.length : Nat) : Int))) (by omega)) ?_
      refine ps_end ?_
      refine then_n ?_
      refine sy_sq (part_mPack 2002) (part_mPack 2003) ?_
      refine sy_n (.tmp 22) (part_mPack 4004) (part_mPack 4005) ?_
      refine sy_exit 0 (by kernel_rfl) ?_
      refine then_e ?_
      refine then_e ?_
      refine blk_e ?_
      refine then_n ?_
      refine sy_sq (part_mPack 126) (part_mPack 127) ?_
      refine sy_reg ?_
      refine rg_plain 12 (opsAt (part_mPack 126)) [0, 1, 2, 3, 4, 5] (by kernel_rfl) (by kernel_rfl) ?_
      refine ps_k (o_mPack 126 0) (pT b 0) ?_
      have hK9 := K7.size
      refine ps_c (o_mPack 126 1) 49 #[pT b 0] Try.func49 ((Wr.done (eq_i ▸ h6)).mono ?_)
      rintro e V10 ⟨X, rfl, ⟨hX, hXn⟩, kV10⟩
      refine ⟨_, rfl, ?_⟩
      have K11 := K7.nn kV10
      refine ps_k (o_mPack 126 2) (X) ?_
      refine ps_k (o_mPack 126 3) (.int .i64 (wsI ls ls.length).err) ?_
      refine ps_k (o_mPack 126 4) (X) ?_
      refine ps_k (o_mPack 126 5) (.int .i64 (wsI ls ls.length).err) ?_
      refine ps_end ?_
      refine then_n ?_
      refine sy_ret (by kernel_rfl) ?_
      refine sy_out (.tuple #[X, .int .i64 (wsI ls ls.length).err]) rfl (by kernel_rfl) ?_
      have hnl : ¬ longs ls := fun h => h.elim (fun h => by omega) (fun ⟨x, hx, hb⟩ => by obtain ⟨j, hj⟩ := List.getElem?_of_mem hx; have := hs j x (by rw [eq_i]; exact (List.getElem?_eq_some_iff.1 hj).1) hj; omega)
      exact ⟨X, by rw [packR_ws hnl], by rw [packR_ws hnl]; exact hX, fun j hj => Nat.le_trans hK9 (hXn j hj), K11⟩
theorem mPack_any (A : Option Addr) (cap : Nat) (us : List Value) (ls : List (List UInt8)) (w : World) (h0 : ListsAt w (.slice A ls.length cap) us ls) (hB : ∀ (k : Nat) (l : List UInt8), ls[k]? = some l → l.length ≤ 9223372036854775807) : Calls Try.prog 29 #[.slice A ls.length cap] w (fun e w' => ∃ X, e = .returned (.tuple #[X, .int .i64 (packR ls).2]) ∧ Row w' 5 1 X (packR ls).1.length (B (packR ls).1) ∧ NewFrom w.heap.size X ∧ Keeps Nob w w') := by
  by_cases hl : 1000 < ls.length
  · exact mPack_many A cap us ls w h0 hB hl
  · exact mPack_ok A cap us ls w h0 hB hl
def unN (l : List UInt8) : Nat := (rdN l ⟨0, 0⟩ 0 1000).1.toNat
def unI (l : List UInt8) : Nat → List (List UInt8) × RS
  | 0 => ([], (rdN l ⟨0, 0⟩ 0 1000).2)
  | i + 1 => ((unI l i).1 ++ [(rdB l (unI l i).2 4096).1], (rdB l (unI l i).2 4096).2)
theorem unI_len (l : List UInt8) (i : Nat) : (unI l i).1.length = i := by
  induction i with
  | zero => rfl
  | succ i ih => simp [unI, ih]
theorem unI_get (l : List UInt8) (n : Nat) : ∀ i, i < n → (unI l n).1[i]? = some (rdB l (unI l i).2 4096).1 := by
  induction n with
  | zero => intro i h; omega
  | succ n ih =>
    intro i h
    show ((unI l n).1 ++ [(rdB l (unI l n).2 4096).1])[i]? = _
    by_cases e : i = n
    · subst e; rw [List.getElem?_append_right (by rw [unI_len]; exact Nat.le_refl _), unI_len, Nat.sub_self]; rfl
    · rw [List.getElem?_append_left (by rw [unI_len]; omega)]; exact ih i (by omega)
/-- What unpacking tells. -/
def unR (l : List UInt8) : List (List UInt8) × (Int × Int) :=
  if 1048576 < l.length then ([], (4, 1048576)) else if ((unI l (unN l)).2.fin l).1 = 0 then ((unI l (unN l)).1, (0, 0)) else ([], (unI l (unN l)).2.fin l)
theorem Copied.keepsT {w w' : World} {N g : Nat} {xs : List Value} {ls : List (List UInt8)} {cs : Array Value} {T : TypeId} {fr : Nat × Nat} (h : Copied w N xs ls) (k : Keeps (One g) w w') (hg : w.heap[g]? = some (.cells cs T fr)) (hne : 5 ≠ T) : Copied w' N xs ls := fun i u hi => by
  obtain ⟨l, hl, hr, hn⟩ := h i u hi
  exact ⟨l, hl, hr.keeps k (fun j hj e => Row.ne hr hg hne ((show j = g from e) ▸ hj)), hn⟩
/-- No two of them have a block in common. -/
def Apart (xs : List Value) : Prop := ∀ (i k : Nat) (u v : Value), xs[i]? = some u → xs[k]? = some v → i ≠ k → ∀ j, u.ownBlock = some j → ¬ v.ownBlock = some j
theorem Apart.nil : Apart [] := fun i k u v h => by simp at h
theorem Apart.snoc {xs : List Value} {x : Value} (h : Apart xs) (hx : ∀ u ∈ xs, ∀ j, u.ownBlock = some j → ¬ x.ownBlock = some j) : Apart (xs ++ [x]) := fun i k u v hu hv hne j h1 h2 => by
  rw [List.getElem?_append] at hu hv
  split at hu
  · split at hv
    · exact h i k u v hu hv hne j h1 h2
    · have : k - xs.length = 0 := by have := (List.getElem?_eq_some_iff.1 hv).1; simp at this; omega
      rw [this] at hv; simp at hv; subst hv
      exact hx u (List.mem_of_getElem? hu) j h1 h2
  · have e1 : i - xs.length = 0 := by have := (List.getElem?_eq_some_iff.1 hu).1; simp at this; omega
    rw [e1] at hu; simp at hu; subst hu
    split at hv
    · exact hx v (List.mem_of_getElem? hv) j h2 h1
    · have : k - xs.length = 0 := by have := (List.getElem?_eq_some_iff.1 hv).1; simp at this; omega
      omega
/-- Rows that stay apart from an object's blocks. -/
def Off (xs : List Value) (F : Nat → Prop) : Prop := ∀ u ∈ xs, ∀ j, u.ownBlock = some j → ¬ F j
theorem Off.nil (F : Nat → Prop) : Off [] F := fun u h => by cases h
theorem Copied.keepsF {w w' : World} {N : Nat} {xs : List Value} {ls : List (List UInt8)} {F : Nat → Prop} (h : Copied w N xs ls) (k : Keeps F w w') (ho : Off xs F) : Copied w' N xs ls := fun i u hi => by
  obtain ⟨l, hl, hr, hn⟩ := h i u hi; exact ⟨l, hl, hr.keeps k (ho u (List.mem_of_getElem? hi)), hn⟩
theorem Off.step {w w' : World} {N : Nat} {xs : List Value} {ls : List (List UInt8)} {F F' : Nat → Prop} (ho : Off xs F) (h : Copied w N xs ls) (hS : Step w w' F F') : Off xs F' := fun u hu j hj hf => by
  obtain ⟨i, hi⟩ := List.getElem?_of_mem hu
  obtain ⟨l, _, hr, _⟩ := h i u hi
  rcases hS.2 j hf with h1 | ⟨h1, _⟩
  · exact ho u hu j hj h1
  · have := hr.lt hj; omega
theorem Off.snoc {xs : List Value} {x : Value} {F : Nat → Prop} (ho : Off xs F) (hx : ∀ j, x.ownBlock = some j → ¬ F j) : Off (xs ++ [x]) F := fun u hu => by
  rcases List.mem_append.1 hu with h | h
  · exact ho u h
  · obtain rfl : u = x := by simpa using h
    exact hx
theorem Copied.ltOld {w : World} {N : Nat} {xs : List Value} {ls : List (List UInt8)} (h : Copied w N xs ls) : ∀ u ∈ xs, ∀ j, u.ownBlock = some j → j < w.heap.size := fun u hu j hj => by
  obtain ⟨i, hi⟩ := List.getElem?_of_mem hu
  obtain ⟨l, _, hr, _⟩ := h i u hi
  exact hr.lt hj
theorem results_tmp_row {P : Program} {fn : Func} {p q : Tmp} {ty : TypeId} (h : fn.results = #[.tmp p, .cell q ty]) (tmps : Array Value) (w : World) (g : Nat) (t : TypeId) (cs : Array Value) (fr : Nat × Nat) (d : TypeDesc) (v : Value)
    (hp : tmps.getD q undef = .pointer (some ⟨g, 0, none⟩)) (hg : w.heap[g]? = some (.cells cs t fr))
    (hu : P.underlying ty = some d) (hd : (match d with | .struct _ | .array _ _ => true | _ => false) = true) (hi : (P.info? ty).map (·.size) = some cs.size) (hq : tmps.getD p undef = v) :
    (results fn tmps).run P w = .ok (.tuple #[v, .agg cs]) w := by
  have hp' : tmps[q]?.getD undef = .pointer (some ⟨g, 0, none⟩) := by simpa using hp
  have hq' : tmps[p]?.getD undef = v := by simpa using hq
  simp [results, h, hp', hq', asAddr, run_loadVar_row w g t ty cs fr d hg hu hd hi]
theorem rdN_le (l : List UInt8) (s : RS) (lo hi : Int) : 0 ≤ (rdN l s lo hi).1 ∧ ((rdN l s lo hi).1 ≤ hi ∨ (rdN l s lo hi).1 = 0) := by
  unfold rdN
  dsimp only
  split
  · rename_i h
    have := errN_zero h.2
    omega
  · omega
theorem unN_le (l : List UInt8) : unN l ≤ 1000 := by have := rdN_le l ⟨0, 0⟩ 0 1000; unfold unN; omega
noncomputable def part_mUnpack (n : Nat) : Code := partOf Try.f32 n
noncomputable abbrev o_mUnpack (n k : Nat) : Oper := (opsAt (part_mUnpack n)).getD k default
set_option maxRecDepth 100000 in
set_option maxHeartbeats 4000000 in
theorem mUnpack_big (A0 : Option Addr) (cap0 : Nat) (l : List UInt8) (w : World) (hx : BytesAt w (.slice A0 l.length cap0) l) (hlm : l.length ≤ 9223372036854775807) (hl : 1048576 < l.length) :
    Calls Try.prog 32 #[.slice A0 l.length cap0] w (fun e w' => ∃ X xs, e = .returned (.tuple #[X, .agg #[.int .i64 (unR l).2.1, .int .i64 (unR l).2.2]]) ∧ Row w' 22 1 X (unR l).1.length xs ∧ NewFrom w.heap.size X ∧ Copied w' w.heap.size xs (unR l).1 ∧ Apart xs ∧ Keeps Nob w w') := by
  obtain ⟨i0, hi0, hz0, hz1, hz2⟩ := info_parts bytes_info0
  have hN := unN_le l
  have K0 : Keeps Nob w w := Keeps.refl _ _
  refine sy_enter (part_mUnpack 1) ⟨#[.slice A0 l.length cap0, undef, undef, undef, undef, undef, undef, undef, undef, undef, undef, undef, undef, undef, undef, undef, undef, undef, undef, undef, undef, undef, undef, undef, undef, undef, undef, undef, undef, undef, undef], []⟩ Try.func32 (by kernel_rfl) (by kernel_rfl) ?_
  refine sy_sq (part_mUnpack 2) (part_mUnpack 3) ?_
  refine sy_reg ?_
  refine rg_plain 0 (opsAt (part_mUnpack 2)) [0, 1] (by kernel_rfl) (by kernel_rfl) ?_
  refine ps_k (o_mUnpack 2 0) (.slice none 0 0) ?_
  obtain ⟨V1, eV1, gf, egf, h2, kV1⟩ := alloc_step w (#[.int .i64 0, .int .i64 0]) 38
  have n3 : w.heap.size ≤ gf := egf ▸ K0.size
  refine ps_r (o_mUnpack 2 1) (pT gf 0) (w' := V1) (by rw [← eV1, ← egf]; exact exec_alloc0 38 (by kernel_rfl) (.agg (#[.int .i64 0, .int .i64 0])) (by kernel_rfl)) ?_
  clear eV1
  have K4 := K0.nn kV1
  refine ps_end ?_
  refine then_n ?_
  refine sy_sq (part_mUnpack 6) (part_mUnpack 7) ?_
  refine sy_sq (part_mUnpack 12) (part_mUnpack 13) ?_
  refine sy_reg ?_
  refine rg_plain 1 (opsAt (part_mUnpack 12)) [0, 1, 2] (by kernel_rfl) (by kernel_rfl) ?_
  refine ps_k (o_mUnpack 12 0) (.slice A0 l.length cap0) ?_
  refine ps_p (o_mUnpack 12 1) (iN l.length) (exec_len (.tmp 7) 22 _ (by kernel_rfl) Try.underlying22 A0 l.length cap0 (by kernel_rfl)) ?_
  refine ps_p (o_mUnpack 12 2) (.bool true) (dct ((((l.length : Nat) : Int)) > ((1048576) : Int)) (by omega)) ?_
  refine ps_end ?_
  refine then_n ?_
  refine sy_ys (.tmp 9) (part_mUnpack 26) (part_mUnpack 27) ?_
  refine sy_sq (part_mUnpack 52) (part_mUnpack 53) ?_
  refine sy_reg ?_
  refine rg_plain 2 (opsAt (part_mUnpack 52)) [0, 1, 2] (by kernel_rfl) (by kernel_rfl) ?_
  refine ps_k (o_mUnpack 52 0) (.agg #[.int .i64 4, .int .i64 1048576]) ?_
  refine ps_k (o_mUnpack 52 1) (.slice none 0 0) ?_
  obtain ⟨V5, eV5, kV5⟩ := rowset_step V1 gf (#[.int .i64 4, .int .i64 1048576])
  have h6 : V5.heap[gf]? = some (.cells (#[.int .i64 4, .int .i64 1048576]) 38 (0, 0)) := eV5 ▸ setRow_heap _ _ _ _ _ _ h2
  refine ps_s (o_mUnpack 52 2) (w' := V5) (by rw [← eV5]; exact exec_store_row 38 (.tmp 3) (.tmp 10) (by kernel_rfl) gf (#[.int .i64 4, .int .i64 1048576]) (by kernel_rfl) (by kernel_rfl) 38 (#[.int .i64 0, .int .i64 0]) h2 (by kernel_rfl) rfl (by kernel_rfl)) ?_
  clear eV5
  have K7 := K4.no kV5 (by omega)
  refine ps_end ?_
  refine then_n ?_
  refine sy_ret (by kernel_rfl) ?_
  refine then_r ?_
  refine sy_out (.tuple #[.slice none 0 0, .agg #[.int .i64 4, .int .i64 1048576]]) rfl (results_tmp_row (p := 2) (q := 3) (ty := 38) (by kernel_rfl) _ _ gf 38 (#[.int .i64 4, .int .i64 1048576]) (0, 0) _ (.slice none 0 0) (by kernel_rfl) h6 Try.underlying38 rfl (by kernel_rfl) (by kernel_rfl)) ?_
  exact ⟨_, [], by rw [unR, if_pos hl], by rw [unR, if_pos hl]; exact World.ownsRow_nil _ _ _ _, NewFrom.nil _, fun k u h => by simp at h, Apart.nil, K7⟩
set_option maxRecDepth 100000 in
set_option maxHeartbeats 4000000 in
theorem mUnpack_bad (A0 : Option Addr) (cap0 : Nat) (l : List UInt8) (w : World) (hx : BytesAt w (.slice A0 l.length cap0) l) (hlm : l.length ≤ 9223372036854775807) (hl : ¬ 1048576 < l.length) (hz : ¬ ((unI l (unN l)).2.fin l).1 = 0) :
    Calls Try.prog 32 #[.slice A0 l.length cap0] w (fun e w' => ∃ X xs, e = .returned (.tuple #[X, .agg #[.int .i64 (unR l).2.1, .int .i64 (unR l).2.2]]) ∧ Row w' 22 1 X (unR l).1.length xs ∧ NewFrom w.heap.size X ∧ Copied w' w.heap.size xs (unR l).1 ∧ Apart xs ∧ Keeps Nob w w') := by
  obtain ⟨i0, hi0, hz0, hz1, hz2⟩ := info_parts bytes_info0
  have hN := unN_le l
  have K0 : Keeps Nob w w := Keeps.refl _ _
  refine sy_enter (part_mUnpack 1) ⟨#[.slice A0 l.length cap0, undef, undef, undef, undef, undef, undef, undef, undef, undef, undef, undef, undef, undef, undef, undef, undef, undef, undef, undef, undef, undef, undef, undef, undef, undef, undef, undef, undef, undef, undef], []⟩ Try.func32 (by kernel_rfl) (by kernel_rfl) ?_
  refine sy_sq (part_mUnpack 2) (part_mUnpack 3) ?_
  refine sy_reg ?_
  refine rg_plain 0 (opsAt (part_mUnpack 2)) [0, 1] (by kernel_rfl) (by kernel_rfl) ?_
  refine ps_k (o_mUnpack 2 0) (.slice none 0 0) ?_
  obtain ⟨V1, eV1, gf, egf, h2, kV1⟩ := alloc_step w (#[.int .i64 0, .int .i64 0]) 38
  have n3 : w.heap.size ≤ gf := egf ▸ K0.size
  refine ps_r (o_mUnpack 2 1) (pT gf 0) (w' := V1) (by rw [← eV1, ← egf]; exact exec_alloc0 38 (by kernel_rfl) (.agg (#[.int .i64 0, .int .i64 0])) (by kernel_rfl)) ?_
  clear eV1
  have K4 := K0.nn kV1
  refine ps_end ?_
  refine then_n ?_
  refine sy_sq (part_mUnpack 6) (part_mUnpack 7) ?_
  refine sy_sq (part_mUnpack 12) (part_mUnpack 13) ?_
  refine sy_reg ?_
  refine rg_plain 1 (opsAt (part_mUnpack 12)) [0, 1, 2] (by kernel_rfl) (by kernel_rfl) ?_
  refine ps_k (o_mUnpack 12 0) (.slice A0 l.length cap0) ?_
  refine ps_p (o_mUnpack 12 1) (iN l.length) (exec_len (.tmp 7) 22 _ (by kernel_rfl) Try.underlying22 A0 l.length cap0 (by kernel_rfl)) ?_
  refine ps_p (o_mUnpack 12 2) (.bool false) (dcf ((((l.length : Nat) : Int)) > ((1048576) : Int)) (by omega)) ?_
  refine ps_end ?_
  refine then_n ?_
  refine sy_n (.tmp 9) (part_mUnpack 26) (part_mUnpack 27) ?_
  refine sy_sk ?_
  refine then_n ?_
  refine sy_sq (part_mUnpack 14) (part_mUnpack 15) ?_
  refine sy_reg ?_
  refine rg_plain 3 (opsAt (part_mUnpack 14)) [0, 1, 2] (by kernel_rfl) (by kernel_rfl) ?_
  refine ps_k (o_mUnpack 14 0) (.slice A0 l.length cap0) ?_
  have hlf := lt_of_block h2
  have hKs := K4.size
  refine ps_c (o_mUnpack 14 1) 38 #[.slice A0 l.length cap0] Try.func38 ((rd_new _ l _ (hx.keepsN K4) (by omega)).mono ?_)
  rintro e V5 ⟨b, F0, rfl, hR0, hge0, kV5⟩
  have hk5 := kV5.size
  have hltR := hR0.lt
  refine ⟨_, rfl, ?_⟩
  have h6 := kV5.bk h2
  have K7 := K4.nn kV5
  refine ps_k (o_mUnpack 14 2) (pT b 0) ?_
  refine ps_end ?_
  refine then_n ?_
  refine sy_sq (part_mUnpack 30) (part_mUnpack 31) ?_
  refine sy_reg ?_
  refine rg_plain 4 (opsAt (part_mUnpack 30)) [0] (by kernel_rfl) (by kernel_rfl) ?_
  refine ps_k (o_mUnpack 30 0) (.slice none 0 0) ?_
  refine ps_end ?_
  refine then_n ?_
  refine sy_sq (part_mUnpack 62) (part_mUnpack 63) ?_
  refine sy_sq (part_mUnpack 124) (part_mUnpack 125) ?_
  refine sy_reg ?_
  refine rg_plain 5 (opsAt (part_mUnpack 124)) [0, 1, 2] (by kernel_rfl) (by kernel_rfl) ?_
  refine ps_k (o_mUnpack 124 0) (pT b 0) ?_
  have hun : (rdN l ⟨0, 0⟩ 0 1000).1 = ((unN l : Nat) : Int) := by have := rdN_le l ⟨0, 0⟩ 0 1000; unfold unN; omega
  have hK6 := K7.size
  refine ps_c (o_mUnpack 124 1) 39 #[pT b 0, .int .i64 0, .int .i64 1000] Try.func39 (((hun ▸ Rd.n hR0 0 1000 (by decide) (by decide))).mono ?_)
  rintro e V8 ⟨rfl, F1, hR1, hS1⟩
  have hlt1 := hR1.lt
  have hge1 : ∀ j, F1 j → w.heap.size ≤ j ∧ j ≠ gf := fun j h => (hS1.2 j h).elim (fun h => by have := hge0 j h; omega) (fun h => by have := h.1; omega)
  refine ⟨_, rfl, ?_⟩
  have h9 : V8.heap[gf]? = some (.cells (#[.int .i64 0, .int .i64 0]) 38 (0, 0)) := (hS1.1.block gf (lt_of_block h6) (fun e => by have := hge0 _ e; omega)).trans h6
  have K10 : Keeps Nob w V8 := K7.then hS1.1 (fun i hi hm => absurd hi (by have := hge0 i hm; omega))
  refine ps_k (o_mUnpack 124 2) (.int .i64 0) ?_
  refine ps_end ?_
  refine then_n ?_
  refine sy_bk 0 (part_mUnpack 250) ?_
  refine sy_loop (part_mUnpack 500) (fun a V => ∃ (i : Nat) (v : Value) (xs : List Value) (Fi : Nat → Prop) (u16 u17 u18 u19 u20 u21 u22 : Value), (a = ⟨#[.slice A0 l.length cap0, undef, .slice none 0 0, pT gf 0, pT b 0, v, undef, .slice A0 l.length cap0, iN l.length, .bool false, undef, .slice A0 l.length cap0, pT b 0, pT b 0, iN (unN l), iN i, u16, u17, u18, u19, u20, u21, u22, undef, undef, undef, undef, undef, undef, undef, undef], []⟩) ∧ (i ≤ unN l) ∧ (V.heap[gf]? = some (.cells (#[.int .i64 0, .int .i64 0]) 38 (0, 0))) ∧ (Rd V Fi b l (unI l i).2) ∧ (Row V 22 1 v i xs) ∧ (Copied V w.heap.size xs (unI l (unN l)).1) ∧ (Keeps Nob w V) ∧ (NewFrom w.heap.size v) ∧ (∀ j, v.ownBlock = some j → ¬ Fi j) ∧ (Off xs Fi) ∧ (Apart xs) ∧ (∀ j, Fi j → w.heap.size ≤ j ∧ j ≠ gf)) (fun a _ => unN l - (intOf (a.tmps.getD 15 undef)).toNat) (by kernel_rfl) ?_ ?_
  · exact ⟨0, .slice none 0 0, [], F1, undef, undef, undef, undef, undef, undef, undef, by kernel_rfl, Nat.zero_le _, h9, hR1, (World.ownsRow_nil _ _ _ _), (fun k u h => by simp at h), K10, NewFrom.nil _, (fun j h => by cases h), Off.nil _, Apart.nil, hge1⟩
  · rintro a V11 ⟨i, v, xs, Fi, u16, u17, u18, u19, u20, u21, u22, rfl, hi, h12, h13, h14, h15, K16, hnw, hvF, hoff, hap, hgeI⟩
    by_cases lt_i : i < unN l
    · have hltR := h13.lt
      refine sy_sq (part_mUnpack 1000) (part_mUnpack 1001) ?_
      refine sy_reg ?_
      refine rg_plain 6 (opsAt (part_mUnpack 1000)) [0] (by kernel_rfl) (by kernel_rfl) ?_
      refine ps_p (o_mUnpack 1000 0) (.bool true) (dct ((((i : Nat) : Int)) < (((unN l : Nat) : Int))) (by omega)) ?_
      refine ps_end ?_
      refine then_n ?_
      refine sy_sq (part_mUnpack 2002) (part_mUnpack 2003) ?_
      refine sy_ys (.tmp 16) (part_mUnpack 4004) (part_mUnpack 4005) ?_
      refine sy_sk ?_
      refine then_n ?_
      refine sy_sq (part_mUnpack 4006) (part_mUnpack 4007) ?_
      refine sy_bk 1 (part_mUnpack 8012) ?_
      refine sy_reg ?_
      refine rg_plain 7 (opsAt (part_mUnpack 8012)) [0, 1, 2, 3, 4, 5] (by kernel_rfl) (by kernel_rfl) ?_
      refine ps_k (o_mUnpack 8012 0) (v) ?_
      refine ps_k (o_mUnpack 8012 1) (pT b 0) ?_
      have hK7 := K16.size
      have hcl := h15.ltOld
      refine ps_c (o_mUnpack 8012 2) 58 #[pT b 0, .int .i64 4096] Try.func58 ((Rd.blob h13 (by omega) 4096 (by decide)).mono ?_)
      rintro e V17 ⟨X, rfl, hX, Fj, hRj, hSj, hXn, hXF⟩
      have hrowj : Row V17 22 1 v i xs := h14.keeps hSj.1 hvF
      have hcpj : Copied V17 w.heap.size xs (unI l (unN l)).1 := h15.keepsF hSj.1 hoff
      have hoffj : Off xs Fj := hoff.step h15 hSj
      have hvFj : ∀ j, v.ownBlock = some j → ¬ Fj j := fun j hj hf => (hSj.2 j hf).elim (hvF j hj) (fun h => by have := h14.lt hj; omega)
      have hltR := hRj.lt
      have one' := hX.one
      have hgej : ∀ j, Fj j → w.heap.size ≤ j ∧ j ≠ gf := fun j h => (hSj.2 j h).elim (hgeI j) (fun h => by have := lt_of_block h12; omega)
      have hnX : NewFrom w.heap.size X := fun j hj => Nat.le_trans hK7 (hXn j hj)
      have hapX : ∀ u ∈ xs, ∀ j, u.ownBlock = some j → ¬ X.ownBlock = some j := fun u hu j h1 h2 => by have := hcl u hu j h1; have := hXn j h2; omega
      refine ⟨_, rfl, ?_⟩
      have h18 : V17.heap[gf]? = some (.cells (#[.int .i64 0, .int .i64 0]) 38 (0, 0)) := (hSj.1.block gf (lt_of_block h12) (fun e => (hgeI _ e).2 rfl)).trans h12
      have K19 : Keeps Nob w V17 := K16.then hSj.1 (fun i hi hm => absurd hi (by have := (hgeI i hm).1; omega))
      obtain ⟨V20, eV20, gl, egl, h21, kV20⟩ := alloc_step V17 (#[X]) 22
      have n22 : gf < gl := egl ▸ lt_of_block h18
      have n23 : w.heap.size ≤ gl := egl ▸ K19.size
      refine ps_r (o_mUnpack 8012 3) (.slice (some ⟨gl, 0, none⟩) 1 1) (w' := V20) (by rw [← eV20, ← egl, ← Row.cells1 hX]; exact exec_build1 54 22 (.tmp 19) (by kernel_rfl) X (by kernel_rfl) i0 _ Try.underlying54 hi0 hz0 1 hz1 (by decide) (by decide) (by rw [Row.cells1 hX]; rfl)) ?_
      clear eV20
      have h24 := kV20.bk h18
      have h25 : Rd V20 Fj b l (unI l (i + 1)).2 := hRj.keepsN kV20
      have h26 : Row V20 22 1 v i xs := hrowj.keeps kV20 (fun _ _ x => x)
      have h27 : Copied V20 w.heap.size xs (unI l (unN l)).1 := hcpj.keepsN kV20
      have h28 : Row V20 5 1 X (rdB l (unI l i).2 4096).1.length (B (rdB l (unI l i).2 4096).1) := hX.keeps kV20 (fun _ _ x => x)
      have K29 := K19.nn kV20
      obtain ⟨v30, V31, hr32, h33, hg34, hn35, ha36⟩ := run_append_any (P := Try.prog) (w := V20) 54 (Oper.type (o_mUnpack 8012 4)) 22 i0 (.slice none 0 0) 1 24 Try.underlying54 hi0 hz0 hz1 hz2 rfl (by decide) v i xs h26 (.slice (some ⟨gl, 0, none⟩) 1 1) 1 [X] (src_block h21 1 1 rfl (by simp [one'])) (by unfold maxLen; omega) (by omega)
      have kV31 : Keeps (fun j => v.ownBlock = some j) V20 V31 := Keeps.rowAdd hg34
      have hw37 : NewFrom w.heap.size v30 := hnw.next K29.size ha36
      refine ps_r (o_mUnpack 8012 4) v30 (w' := V31) (exec_append (.tmp 17) (.tmp 20) 54 (by kernel_rfl) v (.slice (some ⟨gl, 0, none⟩) 1 1) (by kernel_rfl) (by kernel_rfl) hr32) ?_
      have h38 : Row V31 22 1 v30 (i + 1) (xs ++ [X]) := h33
      have hvFn : ∀ j, (v30 : Value).ownBlock = some j → ¬ Fj j := fun j hj hf => (ha36 j hj).elim (fun h => hvFj j h hf) (fun h => by have := h25.lt j hf; omega)
      have h39 : V31.heap[gf]? = some (.cells (#[.int .i64 0, .int .i64 0]) 38 (0, 0)) := (kV31.block gf (lt_of_block h24) (fun e => Row.ne h26 h24 (by decide) e)).trans h24
      have h40 : Rd V31 Fj b l (unI l (i + 1)).2 := h25.keeps kV31 (fun j hj e => hvFj j e hj)
      have h41 : Copied V31 w.heap.size xs (unI l (unN l)).1 := h27.keepsRow kV31 h26
      have h42 : Row V31 5 1 X (rdB l (unI l i).2 4096).1.length (B (rdB l (unI l i).2 4096).1) := row_other h28 kV31 h26 (by decide)
      have K43 : Keeps Nob w V31 := K29.then kV31 (fun i hi hm => absurd hi (by have := hnw i hm; omega))
      refine ps_k (o_mUnpack 8012 5) (v30) ?_
      refine ps_end ?_
      refine blk_n ?_
      refine then_n ?_
      refine sy_reg ?_
      refine rg_plain 8 (opsAt (part_mUnpack 4007)) [0, 1] (by kernel_rfl) (by kernel_rfl) ?_
      refine ps_p (o_mUnpack 4007 0) (iN (i + 1)) (exec_cast (congrArg (Value.int .i64) (wrapN (i + 1) (by omega))) (by kernel_rfl)) ?_
      refine ps_k (o_mUnpack 4007 1) (iN (i + 1)) ?_
      refine ps_end ?_
      refine then_n ?_
      refine ⟨⟨i + 1, v30, xs ++ [X], Fj, (.bool true), v, (pT b 0), X, (.slice (some ⟨gl, 0, none⟩) 1 1), v30, (iN (i + 1)), by kernel_rfl, by omega, h39, h40, h38, h41.snoc (by have := (h26).1; omega) (unI_get l (unN l) i lt_i) h42 hnX, K43, hw37, hvFn, hoffj.snoc hXF, hap.snoc hapX, hgej⟩, ?_⟩
      exact lt_meas (x := unN l - (i + 1)) (y := unN l - i) (by kernel_rfl) (by kernel_rfl) (by omega)
    · have eq_i : i = unN l := by omega
      have hltR := h13.lt
      refine sy_sq (part_mUnpack 1000) (part_mUnpack 1001) ?_
      refine sy_reg ?_
      refine rg_plain 6 (opsAt (part_mUnpack 1000)) [0] (by kernel_rfl) (by kernel_rfl) ?_
      refine ps_p (o_mUnpack 1000 0) (.bool false) (dcf ((((i : Nat) : Int)) < (((unN l : Nat) : Int))) (by omega)) ?_
      refine ps_end ?_
      refine then_n ?_
      refine sy_sq (part_mUnpack 2002) (part_mUnpack 2003) ?_
      refine sy_n (.tmp 16) (part_mUnpack 4004) (part_mUnpack 4005) ?_
      refine sy_exit 0 (by kernel_rfl) ?_
      refine then_e ?_
      refine then_e ?_
      refine blk_e ?_
      refine then_n ?_
      refine sy_sq (part_mUnpack 126) (part_mUnpack 127) ?_
      refine sy_sq (part_mUnpack 252) (part_mUnpack 253) ?_
      refine sy_reg ?_
      refine rg_plain 9 (opsAt (part_mUnpack 252)) [0, 1, 2, 3] (by kernel_rfl) (by kernel_rfl) ?_
      refine ps_k (o_mUnpack 252 0) (pT b 0) ?_
      refine ps_c (o_mUnpack 252 1) 42 #[pT b 0] Try.func42 ((Rd.fin (eq_i ▸ h13)).mono ?_)
      rintro e V44 ⟨rfl, kV44⟩
      refine ⟨_, rfl, ?_⟩
      have h45 := kV44.bk h12
      have h46 : Row V44 22 1 v i xs := h14.keeps kV44 (fun _ _ x => x)
      have h47 : Copied V44 w.heap.size xs (unI l (unN l)).1 := h15.keepsN kV44
      have K48 := K16.nn kV44
      obtain ⟨V49, eV49, gx, egx, h50, kV49⟩ := alloc_step V44 (#[.int .i64 0, .int .i64 0]) 38
      have n51 : gf < gx := egx ▸ lt_of_block h45
      have n52 : w.heap.size ≤ gx := egx ▸ K48.size
      refine ps_r (o_mUnpack 252 2) (pT gx 0) (w' := V49) (by rw [← eV49, ← egx]; exact exec_alloc0 38 (by kernel_rfl) (.agg (#[.int .i64 0, .int .i64 0])) (by kernel_rfl)) ?_
      clear eV49
      have h53 := kV49.bk h45
      have h54 : Row V49 22 1 v i xs := h46.keeps kV49 (fun _ _ x => x)
      have h55 : Copied V49 w.heap.size xs (unI l (unN l)).1 := h47.keepsN kV49
      have K56 := K48.nn kV49
      obtain ⟨V57, eV57, kV57⟩ := rowset_step V49 gx (#[.int .i64 ((unI l (unN l)).2.fin l).1, .int .i64 ((unI l (unN l)).2.fin l).2])
      have h58 : V57.heap[gx]? = some (.cells (#[.int .i64 ((unI l (unN l)).2.fin l).1, .int .i64 ((unI l (unN l)).2.fin l).2]) 38 (0, 0)) := eV57 ▸ setRow_heap _ _ _ _ _ _ h50
      refine ps_s (o_mUnpack 252 3) (w' := V57) (by rw [← eV57]; exact exec_store_row 38 (.tmp 6) (.tmp 24) (by kernel_rfl) gx (#[.int .i64 ((unI l (unN l)).2.fin l).1, .int .i64 ((unI l (unN l)).2.fin l).2]) (by kernel_rfl) (by kernel_rfl) 38 (#[.int .i64 0, .int .i64 0]) h50 (by kernel_rfl) rfl (by kernel_rfl)) ?_
      clear eV57
      have h59 := kV57.bo h53 (by omega)
      have h60 : Row V57 22 1 v i xs := h54.keeps kV57 (fun j hj e => Row.ne h54 h50 (by decide) ((show j = gx from e) ▸ hj))
      have h61 : Copied V57 w.heap.size xs (unI l (unN l)).1 := h55.keepsT kV57 h50 (by decide)
      have K62 := K56.no kV57 (by omega)
      refine ps_end ?_
      refine then_n ?_
      refine sy_sq (part_mUnpack 506) (part_mUnpack 507) ?_
      refine sy_reg ?_
      refine rg_plain 10 (opsAt (part_mUnpack 506)) [0, 1, 2] (by kernel_rfl) (by kernel_rfl) ?_
      refine ps_k (o_mUnpack 506 0) (pT gx 0) ?_
      refine ps_p (o_mUnpack 506 1) (.int .i64 ((unI l (unN l)).2.fin l).1) (exec_ld 36 (.tmp 25) gx 0 Try.underlying36 (rc (h58) (by kernel_rfl))) ?_
      refine ps_p (o_mUnpack 506 2) (.bool true) (nqt ((((unI l (unN l)).2.fin l).1) : Int) ((0) : Int) (by omega)) ?_
      refine ps_end ?_
      refine then_n ?_
      refine sy_ys (.tmp 27) (part_mUnpack 1014) (part_mUnpack 1015) ?_
      refine sy_sq (part_mUnpack 2028) (part_mUnpack 2029) ?_
      refine sy_np ?_
      refine sy_reg ?_
      refine an_begin 11 3 (opsAt (part_mUnpack 2028)) (fun W => (W.heap[gx]? = some (.cells (#[.int .i64 ((unI l (unN l)).2.fin l).1, .int .i64 ((unI l (unN l)).2.fin l).2]) 38 (0, 0)))) #[false, false, false] (by kernel_rfl) (by kernel_rfl) (by kernel_rfl) (by kernel_rfl) ?_
      obtain ⟨V63, eV63, kV63⟩ := drew_step V57
      rw [eV63]
      clear eV63
      have h64 := kV63.bk h59
      have h65 : Row V63 22 1 v i xs := h60.keeps kV63 (fun _ _ x => x)
      have h66 : Copied V63 w.heap.size xs (unI l (unN l)).1 := h61.keepsN kV63
      have h67 := kV63.bk h58
      have K68 := K62.nn kV63
      refine an_v 0 (o_mUnpack 2028 0) (.agg #[.int .i64 ((unI l (unN l)).2.fin l).1, .int .i64 ((unI l (unN l)).2.fin l).2]) (fun W hS => exec_load_row 38 (.tmp 6) (by kernel_rfl) gx (by kernel_rfl) _ _ (0, 0) _ (hS) Try.underlying38 rfl (by kernel_rfl)) h67 ?_
      refine an_o 1 ?_
      refine on_r (o_mUnpack 2028 1) (.slice none 0 0) (w' := V63) (by kernel_rfl) ?_
      refine ⟨h67, ?_⟩
      refine an_o 2 ?_
      obtain ⟨V69, eV69, kV69⟩ := rowset_step V63 gf (#[.int .i64 ((unI l (unN l)).2.fin l).1, .int .i64 ((unI l (unN l)).2.fin l).2])
      have h70 : V69.heap[gf]? = some (.cells (#[.int .i64 ((unI l (unN l)).2.fin l).1, .int .i64 ((unI l (unN l)).2.fin l).2]) 38 (0, 0)) := eV69 ▸ setRow_heap _ _ _ _ _ _ h64
      refine on_s (o_mUnpack 2028 2) (w' := V69) (by rw [← eV69]; exact exec_store_row 38 (.tmp 3) (.tmp 28) (by kernel_rfl) gf (#[.int .i64 ((unI l (unN l)).2.fin l).1, .int .i64 ((unI l (unN l)).2.fin l).2]) (by kernel_rfl) (by kernel_rfl) 38 (#[.int .i64 0, .int .i64 0]) h64 (by kernel_rfl) rfl (by kernel_rfl)) ?_
      clear eV69
      have h71 : Row V69 22 1 v i xs := h65.keeps kV69 (fun j hj e => Row.ne h65 h64 (by decide) ((show j = gf from e) ▸ hj))
      have h72 : Copied V69 w.heap.size xs (unI l (unN l)).1 := h66.keepsT kV69 h64 (by decide)
      have h73 := kV69.bo h67 (by omega)
      have K74 := K68.no kV69 (by omega)
      refine ⟨h73, ?_⟩
      refine an_end (by kernel_rfl) ?_
      refine then_n ?_
      refine sy_ret (by kernel_rfl) ?_
      refine then_r ?_
      refine sy_out (.tuple #[.slice none 0 0, .agg #[.int .i64 ((unI l (unN l)).2.fin l).1, .int .i64 ((unI l (unN l)).2.fin l).2]]) rfl (results_tmp_row (p := 2) (q := 3) (ty := 38) (by kernel_rfl) _ _ gf 38 (#[.int .i64 ((unI l (unN l)).2.fin l).1, .int .i64 ((unI l (unN l)).2.fin l).2]) (0, 0) _ (.slice none 0 0) (by kernel_rfl) h70 Try.underlying38 rfl (by kernel_rfl) (by kernel_rfl)) ?_
      exact ⟨_, [], by rw [unR, if_neg hl, if_neg hz], by rw [unR, if_neg hl, if_neg hz]; exact World.ownsRow_nil _ _ _ _, NewFrom.nil _, fun k u h => by simp at h, Apart.nil, K74⟩
set_option maxRecDepth 100000 in
set_option maxHeartbeats 4000000 in
theorem mUnpack_ok (A0 : Option Addr) (cap0 : Nat) (l : List UInt8) (w : World) (hx : BytesAt w (.slice A0 l.length cap0) l) (hlm : l.length ≤ 9223372036854775807) (hl : ¬ 1048576 < l.length) (hz : ((unI l (unN l)).2.fin l).1 = 0) :
    Calls Try.prog 32 #[.slice A0 l.length cap0] w (fun e w' => ∃ X xs, e = .returned (.tuple #[X, .agg #[.int .i64 (unR l).2.1, .int .i64 (unR l).2.2]]) ∧ Row w' 22 1 X (unR l).1.length xs ∧ NewFrom w.heap.size X ∧ Copied w' w.heap.size xs (unR l).1 ∧ Apart xs ∧ Keeps Nob w w') := by
  obtain ⟨i0, hi0, hz0, hz1, hz2⟩ := info_parts bytes_info0
  have hN := unN_le l
  have K0 : Keeps Nob w w := Keeps.refl _ _
  refine sy_enter (part_mUnpack 1) ⟨#[.slice A0 l.length cap0, undef, undef, undef, undef, undef, undef, undef, undef, undef, undef, undef, undef, undef, undef, undef, undef, undef, undef, undef, undef, undef, undef, undef, undef, undef, undef, undef, undef, undef, undef], []⟩ Try.func32 (by kernel_rfl) (by kernel_rfl) ?_
  refine sy_sq (part_mUnpack 2) (part_mUnpack 3) ?_
  refine sy_reg ?_
  refine rg_plain 0 (opsAt (part_mUnpack 2)) [0, 1] (by kernel_rfl) (by kernel_rfl) ?_
  refine ps_k (o_mUnpack 2 0) (.slice none 0 0) ?_
  obtain ⟨V1, eV1, gf, egf, h2, kV1⟩ := alloc_step w (#[.int .i64 0, .int .i64 0]) 38
  have n3 : w.heap.size ≤ gf := egf ▸ K0.size
  refine ps_r (o_mUnpack 2 1) (pT gf 0) (w' := V1) (by rw [← eV1, ← egf]; exact exec_alloc0 38 (by kernel_rfl) (.agg (#[.int .i64 0, .int .i64 0])) (by kernel_rfl)) ?_
  clear eV1
  have K4 := K0.nn kV1
  refine ps_end ?_
  refine then_n ?_
  refine sy_sq (part_mUnpack 6) (part_mUnpack 7) ?_
  refine sy_sq (part_mUnpack 12) (part_mUnpack 13) ?_
  refine sy_reg ?_
  refine rg_plain 1 (opsAt (part_mUnpack 12)) [0, 1, 2] (by kernel_rfl) (by kernel_rfl) ?_
  refine ps_k (o_mUnpack 12 0) (.slice A0 l.length cap0) ?_
  refine ps_p (o_mUnpack 12 1) (iN l.length) (exec_len (.tmp 7) 22 _ (by kernel_rfl) Try.underlying22 A0 l.length cap0 (by kernel_rfl)) ?_
  refine ps_p (o_mUnpack 12 2) (.bool false) (dcf ((((l.length : Nat) : Int)) > ((1048576) : Int)) (by omega)) ?_
  refine ps_end ?_
  refine then_n ?_
  refine sy_n (.tmp 9) (part_mUnpack 26) (part_mUnpack 27) ?_
  refine sy_sk ?_
  refine then_n ?_
  refine sy_sq (part_mUnpack 14) (part_mUnpack 15) ?_
  refine sy_reg ?_
  refine rg_plain 3 (opsAt (part_mUnpack 14)) [0, 1, 2] (by kernel_rfl) (by kernel_rfl) ?_
  refine ps_k (o_mUnpack 14 0) (.slice A0 l.length cap0) ?_
  have hlf := lt_of_block h2
  have hKs := K4.size
  refine ps_c (o_mUnpack 14 1) 38 #[.slice A0 l.length cap0] Try.func38 ((rd_new _ l _ (hx.keepsN K4) (by omega)).mono ?_)
  rintro e V5 ⟨b, F0, rfl, hR0, hge0, kV5⟩
  have hk5 := kV5.size
  have hltR := hR0.lt
  refine ⟨_, rfl, ?_⟩
  have h6 := kV5.bk h2
  have K7 := K4.nn kV5
  refine ps_k (o_mUnpack 14 2) (pT b 0) ?_
  refine ps_end ?_
  refine then_n ?_
  refine sy_sq (part_mUnpack 30) (part_mUnpack 31) ?_
  refine sy_reg ?_
  refine rg_plain 4 (opsAt (part_mUnpack 30)) [0] (by kernel_rfl) (by kernel_rfl) ?_
  refine ps_k (o_mUnpack 30 0) (.slice none 0 0) ?_
  refine ps_end ?_
  refine then_n ?_
  refine sy_sq (part_mUnpack 62) (part_mUnpack 63) ?_
  refine sy_sq (part_mUnpack 124) (part_mUnpack 125) ?_
  refine sy_reg ?_
  refine rg_plain 5 (opsAt (part_mUnpack 124)) [0, 1, 2] (by kernel_rfl) (by kernel_rfl) ?_
  refine ps_k (o_mUnpack 124 0) (pT b 0) ?_
  have hun : (rdN l ⟨0, 0⟩ 0 1000).1 = ((unN l : Nat) : Int) := by have := rdN_le l ⟨0, 0⟩ 0 1000; unfold unN; omega
  have hK6 := K7.size
  refine ps_c (o_mUnpack 124 1) 39 #[pT b 0, .int .i64 0, .int .i64 1000] Try.func39 (((hun ▸ Rd.n hR0 0 1000 (by decide) (by decide))).mono ?_)
  rintro e V8 ⟨rfl, F1, hR1, hS1⟩
  have hlt1 := hR1.lt
  have hge1 : ∀ j, F1 j → w.heap.size ≤ j ∧ j ≠ gf := fun j h => (hS1.2 j h).elim (fun h => by have := hge0 j h; omega) (fun h => by have := h.1; omega)
  refine ⟨_, rfl, ?_⟩
  have h9 : V8.heap[gf]? = some (.cells (#[.int .i64 0, .int .i64 0]) 38 (0, 0)) := (hS1.1.block gf (lt_of_block h6) (fun e => by have := hge0 _ e; omega)).trans h6
  have K10 : Keeps Nob w V8 := K7.then hS1.1 (fun i hi hm => absurd hi (by have := hge0 i hm; omega))
  refine ps_k (o_mUnpack 124 2) (.int .i64 0) ?_
  refine ps_end ?_
  refine then_n ?_
  refine sy_bk 0 (part_mUnpack 250) ?_
  refine sy_loop (part_mUnpack 500) (fun a V => ∃ (i : Nat) (v : Value) (xs : List Value) (Fi : Nat → Prop) (u16 u17 u18 u19 u20 u21 u22 : Value), (a = ⟨#[.slice A0 l.length cap0, undef, .slice none 0 0, pT gf 0, pT b 0, v, undef, .slice A0 l.length cap0, iN l.length, .bool false, undef, .slice A0 l.length cap0, pT b 0, pT b 0, iN (unN l), iN i, u16, u17, u18, u19, u20, u21, u22, undef, undef, undef, undef, undef, undef, undef, undef], []⟩) ∧ (i ≤ unN l) ∧ (V.heap[gf]? = some (.cells (#[.int .i64 0, .int .i64 0]) 38 (0, 0))) ∧ (Rd V Fi b l (unI l i).2) ∧ (Row V 22 1 v i xs) ∧ (Copied V w.heap.size xs (unI l (unN l)).1) ∧ (Keeps Nob w V) ∧ (NewFrom w.heap.size v) ∧ (∀ j, v.ownBlock = some j → ¬ Fi j) ∧ (Off xs Fi) ∧ (Apart xs) ∧ (∀ j, Fi j → w.heap.size ≤ j ∧ j ≠ gf)) (fun a _ => unN l - (intOf (a.tmps.getD 15 undef)).toNat) (by kernel_rfl) ?_ ?_
  · exact ⟨0, .slice none 0 0, [], F1, undef, undef, undef, undef, undef, undef, undef, by kernel_rfl, Nat.zero_le _, h9, hR1, (World.ownsRow_nil _ _ _ _), (fun k u h => by simp at h), K10, NewFrom.nil _, (fun j h => by cases h), Off.nil _, Apart.nil, hge1⟩
  · rintro a V11 ⟨i, v, xs, Fi, u16, u17, u18, u19, u20, u21, u22, rfl, hi, h12, h13, h14, h15, K16, hnw, hvF, hoff, hap, hgeI⟩
    by_cases lt_i : i < unN l
    · have hltR := h13.lt
      refine sy_sq (part_mUnpack 1000) (part_mUnpack 1001) ?_
      refine sy_reg ?_
      refine rg_plain 6 (opsAt (part_mUnpack 1000)) [0] (by kernel_rfl) (by kernel_rfl) ?_
      refine ps_p (o_mUnpack 1000 0) (.bool true) (dct ((((i : Nat) : Int)) < (((unN l : Nat) : Int))) (by omega)) ?_
      refine ps_end ?_
      refine then_n ?_
      refine sy_sq (part_mUnpack 2002) (part_mUnpack 2003) ?_
      refine sy_ys (.tmp 16) (part_mUnpack 4004) (part_mUnpack 4005) ?_
      refine sy_sk ?_
      refine then_n ?_
      refine sy_sq (part_mUnpack 4006) (part_mUnpack 4007) ?_
      refine sy_bk 1 (part_mUnpack 8012) ?_
      refine sy_reg ?_
      refine rg_plain 7 (opsAt (part_mUnpack 8012)) [0, 1, 2, 3, 4, 5] (by kernel_rfl) (by kernel_rfl) ?_
      refine ps_k (o_mUnpack 8012 0) (v) ?_
      refine ps_k (o_mUnpack 8012 1) (pT b 0) ?_
      have hK7 := K16.size
      have hcl := h15.ltOld
      refine ps_c (o_mUnpack 8012 2) 58 #[pT b 0, .int .i64 4096] Try.func58 ((Rd.blob h13 (by omega) 4096 (by decide)).mono ?_)
      rintro e V17 ⟨X, rfl, hX, Fj, hRj, hSj, hXn, hXF⟩
      have hrowj : Row V17 22 1 v i xs := h14.keeps hSj.1 hvF
      have hcpj : Copied V17 w.heap.size xs (unI l (unN l)).1 := h15.keepsF hSj.1 hoff
      have hoffj : Off xs Fj := hoff.step h15 hSj
      have hvFj : ∀ j, v.ownBlock = some j → ¬ Fj j := fun j hj hf => (hSj.2 j hf).elim (hvF j hj) (fun h => by have := h14.lt hj; omega)
      have hltR := hRj.lt
      have one' := hX.one
      have hgej : ∀ j, Fj j → w.heap.size ≤ j ∧ j ≠ gf := fun j h => (hSj.2 j h).elim (hgeI j) (fun h => by have := lt_of_block h12; omega)
      have hnX : NewFrom w.heap.size X := fun j hj => Nat.le_trans hK7 (hXn j hj)
      have hapX : ∀ u ∈ xs, ∀ j, u.ownBlock = some j → ¬ X.ownBlock = some j := fun u hu j h1 h2 => by have := hcl u hu j h1; have := hXn j h2; omega
      refine ⟨_, rfl, ?_⟩
      have h18 : V17.heap[gf]? = some (.cells (#[.int .i64 0, .int .i64 0]) 38 (0, 0)) := (hSj.1.block gf (lt_of_block h12) (fun e => (hgeI _ e).2 rfl)).trans h12
      have K19 : Keeps Nob w V17 := K16.then hSj.1 (fun i hi hm => absurd hi (by have := (hgeI i hm).1; omega))
      obtain ⟨V20, eV20, gl, egl, h21, kV20⟩ := alloc_step V17 (#[X]) 22
      have n22 : gf < gl := egl ▸ lt_of_block h18
      have n23 : w.heap.size ≤ gl := egl ▸ K19.size
      refine ps_r (o_mUnpack 8012 3) (.slice (some ⟨gl, 0, none⟩) 1 1) (w' := V20) (by rw [← eV20, ← egl, ← Row.cells1 hX]; exact exec_build1 54 22 (.tmp 19) (by kernel_rfl) X (by kernel_rfl) i0 _ Try.underlying54 hi0 hz0 1 hz1 (by decide) (by decide) (by rw [Row.cells1 hX]; rfl)) ?_
      clear eV20
      have h24 := kV20.bk h18
      have h25 : Rd V20 Fj b l (unI l (i + 1)).2 := hRj.keepsN kV20
      have h26 : Row V20 22 1 v i xs := hrowj.keeps kV20 (fun _ _ x => x)
      have h27 : Copied V20 w.heap.size xs (unI l (unN l)).1 := hcpj.keepsN kV20
      have h28 : Row V20 5 1 X (rdB l (unI l i).2 4096).1.length (B (rdB l (unI l i).2 4096).1) := hX.keeps kV20 (fun _ _ x => x)
      have K29 := K19.nn kV20
      obtain ⟨v30, V31, hr32, h33, hg34, hn35, ha36⟩ := run_append_any (P := Try.prog) (w := V20) 54 (Oper.type (o_mUnpack 8012 4)) 22 i0 (.slice none 0 0) 1 24 Try.underlying54 hi0 hz0 hz1 hz2 rfl (by decide) v i xs h26 (.slice (some ⟨gl, 0, none⟩) 1 1) 1 [X] (src_block h21 1 1 rfl (by simp [one'])) (by unfold maxLen; omega) (by omega)
      have kV31 : Keeps (fun j => v.ownBlock = some j) V20 V31 := Keeps.rowAdd hg34
      have hw37 : NewFrom w.heap.size v30 := hnw.next K29.size ha36
      refine ps_r (o_mUnpack 8012 4) v30 (w' := V31) (exec_append (.tmp 17) (.tmp 20) 54 (by kernel_rfl) v (.slice (some ⟨gl, 0, none⟩) 1 1) (by kernel_rfl) (by kernel_rfl) hr32) ?_
      have h38 : Row V31 22 1 v30 (i + 1) (xs ++ [X]) := h33
      have hvFn : ∀ j, (v30 : Value).ownBlock = some j → ¬ Fj j := fun j hj hf => (ha36 j hj).elim (fun h => hvFj j h hf) (fun h => by have := h25.lt j hf; omega)
      have h39 : V31.heap[gf]? = some (.cells (#[.int .i64 0, .int .i64 0]) 38 (0, 0)) := (kV31.block gf (lt_of_block h24) (fun e => Row.ne h26 h24 (by decide) e)).trans h24
      have h40 : Rd V31 Fj b l (unI l (i + 1)).2 := h25.keeps kV31 (fun j hj e => hvFj j e hj)
      have h41 : Copied V31 w.heap.size xs (unI l (unN l)).1 := h27.keepsRow kV31 h26
      have h42 : Row V31 5 1 X (rdB l (unI l i).2 4096).1.length (B (rdB l (unI l i).2 4096).1) := row_other h28 kV31 h26 (by decide)
      have K43 : Keeps Nob w V31 := K29.then kV31 (fun i hi hm => absurd hi (by have := hnw i hm; omega))
      refine ps_k (o_mUnpack 8012 5) (v30) ?_
      refine ps_end ?_
      refine blk_n ?_
      refine then_n ?_
      refine sy_reg ?_
      refine rg_plain 8 (opsAt (part_mUnpack 4007)) [0, 1] (by kernel_rfl) (by kernel_rfl) ?_
      refine ps_p (o_mUnpack 4007 0) (iN (i + 1)) (exec_cast (congrArg (Value.int .i64) (wrapN (i + 1) (by omega))) (by kernel_rfl)) ?_
      refine ps_k (o_mUnpack 4007 1) (iN (i + 1)) ?_
      refine ps_end ?_
      refine then_n ?_
      refine ⟨⟨i + 1, v30, xs ++ [X], Fj, (.bool true), v, (pT b 0), X, (.slice (some ⟨gl, 0, none⟩) 1 1), v30, (iN (i + 1)), by kernel_rfl, by omega, h39, h40, h38, h41.snoc (by have := (h26).1; omega) (unI_get l (unN l) i lt_i) h42 hnX, K43, hw37, hvFn, hoffj.snoc hXF, hap.snoc hapX, hgej⟩, ?_⟩
      exact lt_meas (x := unN l - (i + 1)) (y := unN l - i) (by kernel_rfl) (by kernel_rfl) (by omega)
    · have eq_i : i = unN l := by omega
      have hltR := h13.lt
      refine sy_sq (part_mUnpack 1000) (part_mUnpack 1001) ?_
      refine sy_reg ?_
      refine rg_plain 6 (opsAt (part_mUnpack 1000)) [0] (by kernel_rfl) (by kernel_rfl) ?_
      refine ps_p (o_mUnpack 1000 0) (.bool false) (dcf ((((i : Nat) : Int)) < (((unN l : Nat) : Int))) (by omega)) ?_
      refine ps_end ?_
      refine then_n ?_
      refine sy_sq (part_mUnpack 2002) (part_mUnpack 2003) ?_
      refine sy_n (.tmp 16) (part_mUnpack 4004) (part_mUnpack 4005) ?_
      refine sy_exit 0 (by kernel_rfl) ?_
      refine then_e ?_
      refine then_e ?_
      refine blk_e ?_
      refine then_n ?_
      refine sy_sq (part_mUnpack 126) (part_mUnpack 127) ?_
      refine sy_sq (part_mUnpack 252) (part_mUnpack 253) ?_
      refine sy_reg ?_
      refine rg_plain 9 (opsAt (part_mUnpack 252)) [0, 1, 2, 3] (by kernel_rfl) (by kernel_rfl) ?_
      refine ps_k (o_mUnpack 252 0) (pT b 0) ?_
      refine ps_c (o_mUnpack 252 1) 42 #[pT b 0] Try.func42 ((Rd.fin (eq_i ▸ h13)).mono ?_)
      rintro e V44 ⟨rfl, kV44⟩
      refine ⟨_, rfl, ?_⟩
      have h45 := kV44.bk h12
      have h46 : Row V44 22 1 v i xs := h14.keeps kV44 (fun _ _ x => x)
      have h47 : Copied V44 w.heap.size xs (unI l (unN l)).1 := h15.keepsN kV44
      have K48 := K16.nn kV44
      obtain ⟨V49, eV49, gx, egx, h50, kV49⟩ := alloc_step V44 (#[.int .i64 0, .int .i64 0]) 38
      have n51 : gf < gx := egx ▸ lt_of_block h45
      have n52 : w.heap.size ≤ gx := egx ▸ K48.size
      refine ps_r (o_mUnpack 252 2) (pT gx 0) (w' := V49) (by rw [← eV49, ← egx]; exact exec_alloc0 38 (by kernel_rfl) (.agg (#[.int .i64 0, .int .i64 0])) (by kernel_rfl)) ?_
      clear eV49
      have h53 := kV49.bk h45
      have h54 : Row V49 22 1 v i xs := h46.keeps kV49 (fun _ _ x => x)
      have h55 : Copied V49 w.heap.size xs (unI l (unN l)).1 := h47.keepsN kV49
      have K56 := K48.nn kV49
      obtain ⟨V57, eV57, kV57⟩ := rowset_step V49 gx (#[.int .i64 ((unI l (unN l)).2.fin l).1, .int .i64 ((unI l (unN l)).2.fin l).2])
      have h58 : V57.heap[gx]? = some (.cells (#[.int .i64 ((unI l (unN l)).2.fin l).1, .int .i64 ((unI l (unN l)).2.fin l).2]) 38 (0, 0)) := eV57 ▸ setRow_heap _ _ _ _ _ _ h50
      refine ps_s (o_mUnpack 252 3) (w' := V57) (by rw [← eV57]; exact exec_store_row 38 (.tmp 6) (.tmp 24) (by kernel_rfl) gx (#[.int .i64 ((unI l (unN l)).2.fin l).1, .int .i64 ((unI l (unN l)).2.fin l).2]) (by kernel_rfl) (by kernel_rfl) 38 (#[.int .i64 0, .int .i64 0]) h50 (by kernel_rfl) rfl (by kernel_rfl)) ?_
      clear eV57
      have h59 := kV57.bo h53 (by omega)
      have h60 : Row V57 22 1 v i xs := h54.keeps kV57 (fun j hj e => Row.ne h54 h50 (by decide) ((show j = gx from e) ▸ hj))
      have h61 : Copied V57 w.heap.size xs (unI l (unN l)).1 := h55.keepsT kV57 h50 (by decide)
      have K62 := K56.no kV57 (by omega)
      refine ps_end ?_
      refine then_n ?_
      refine sy_sq (part_mUnpack 506) (part_mUnpack 507) ?_
      refine sy_reg ?_
      refine rg_plain 10 (opsAt (part_mUnpack 506)) [0, 1, 2] (by kernel_rfl) (by kernel_rfl) ?_
      refine ps_k (o_mUnpack 506 0) (pT gx 0) ?_
      refine ps_p (o_mUnpack 506 1) (.int .i64 ((unI l (unN l)).2.fin l).1) (exec_ld 36 (.tmp 25) gx 0 Try.underlying36 (rc (h58) (by kernel_rfl))) ?_
      refine ps_p (o_mUnpack 506 2) (.bool false) (nqf ((((unI l (unN l)).2.fin l).1) : Int) ((0) : Int) (by omega)) ?_
      refine ps_end ?_
      refine then_n ?_
      refine sy_n (.tmp 27) (part_mUnpack 1014) (part_mUnpack 1015) ?_
      refine sy_sk ?_
      refine then_n ?_
      refine sy_sq (part_mUnpack 254) (part_mUnpack 255) ?_
      refine sy_reg ?_
      refine rg_plain 12 (opsAt (part_mUnpack 254)) [0, 1, 2, 3] (by kernel_rfl) (by kernel_rfl) ?_
      refine ps_k (o_mUnpack 254 0) (v) ?_
      refine ps_k (o_mUnpack 254 1) (.agg #[.int .i64 0, .int .i64 0]) ?_
      refine ps_k (o_mUnpack 254 2) (v) ?_
      obtain ⟨V63, eV63, kV63⟩ := rowset_step V57 gf (#[.int .i64 0, .int .i64 0])
      have h64 : V63.heap[gf]? = some (.cells (#[.int .i64 0, .int .i64 0]) 38 (0, 0)) := eV63 ▸ setRow_heap _ _ _ _ _ _ h59
      refine ps_s (o_mUnpack 254 3) (w' := V63) (by rw [← eV63]; exact exec_store_row 38 (.tmp 3) (.tmp 30) (by kernel_rfl) gf (#[.int .i64 0, .int .i64 0]) (by kernel_rfl) (by kernel_rfl) 38 (#[.int .i64 0, .int .i64 0]) h59 (by kernel_rfl) rfl (by kernel_rfl)) ?_
      clear eV63
      have h65 : Row V63 22 1 v i xs := h60.keeps kV63 (fun j hj e => Row.ne h60 h59 (by decide) ((show j = gf from e) ▸ hj))
      have h66 : Copied V63 w.heap.size xs (unI l (unN l)).1 := h61.keepsT kV63 h59 (by decide)
      have h67 := kV63.bo h58 (by omega)
      have K68 := K62.no kV63 (by omega)
      refine ps_end ?_
      refine then_n ?_
      refine sy_ret (by kernel_rfl) ?_
      refine sy_out (.tuple #[v, .agg #[.int .i64 0, .int .i64 0]]) rfl (results_tmp_row (p := 2) (q := 3) (ty := 38) (by kernel_rfl) _ _ gf 38 (#[.int .i64 0, .int .i64 0]) (0, 0) _ (v) (by kernel_rfl) h64 Try.underlying38 rfl (by kernel_rfl) (by kernel_rfl)) ?_
      have hu : unR l = ((unI l (unN l)).1, (0, 0)) := by rw [unR, if_neg hl, if_pos hz]
      exact ⟨v, xs, by rw [hu], by rw [hu]; show Row _ _ _ _ (unI l (unN l)).1.length _; rw [unI_len]; have e := h65; rw [eq_i] at e; exact e, hnw, by rw [hu]; exact h66, hap, K68⟩
theorem mUnpack_any (v0 : Value) (l : List UInt8) (w : World) (hx : BytesAt w v0 l) (hlm : l.length ≤ 9223372036854775807) : Calls Try.prog 32 #[v0] w (fun e w' => ∃ X xs, e = .returned (.tuple #[X, .agg #[.int .i64 (unR l).2.1, .int .i64 (unR l).2.2]]) ∧ Row w' 22 1 X (unR l).1.length xs ∧ NewFrom w.heap.size X ∧ Copied w' w.heap.size xs (unR l).1 ∧ Apart xs ∧ Keeps Nob w w') := by
  obtain ⟨A0, cap0, rfl⟩ := hx.len
  by_cases hl : 1048576 < l.length
  · exact mUnpack_big A0 cap0 l w hx hlm hl
  · by_cases hz : ((unI l (unN l)).2.fin l).1 = 0
    · exact mUnpack_ok A0 cap0 l w hx hlm hl hz
    · exact mUnpack_bad A0 cap0 l w hx hlm hl hz
end Go.Proofs.Ytmapcghgdbfmhaa
