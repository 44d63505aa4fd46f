/-
  Params: names, the default (printed by par1.py). Conditions: none.
-/
import Derived.Test.YtpflmldmbpnllaaDoorPmT
import Derived.Test.YtpflmldmbpnllaaDoorParE
import Derived.Test.YtpflmldmbpnllaaDoorSymE
import Derived.Test.YtpflmldmbpnllaaDoorSymD
import Derived.Test.YtpflmldmbpnllaaDoorSeg
namespace Go.Proofs.YtpflmldmbpnllaaDoor
open Go Go.RowKit Go.Own Go.Shelf
def Tx (ss : List ByteArray) : List Value := ss.map .string
def parDef : Par := ⟨100, 100, 10, 8, 7, 8, 20, 50000000, 3, 50, 100000000⟩

noncomputable def part_r7Names (n : Nat) : Code := partOf Tryd.f17 n
noncomputable abbrev o_r7Names (n k : Nat) : Oper := (opsAt (part_r7Names n)).getD k default
set_option maxRecDepth 100000 in
set_option maxHeartbeats 4000000 in
theorem r7Names_ok (w : World) :
    Calls Tryd.prog 17 #[] w (fun e w' => ∃ g, e = .returned (.slice (some ⟨g, 0, none⟩) 11 11) ∧ w'.heap[g]? = some (.cells (Tx parName).toArray 9 (0, 0)) ∧ w.heap.size ≤ g ∧ Keeps Nob w w') := by
  have K0 : Keeps Nob w w := Keeps.refl _ _
  refine sy_enter (part_r7Names 1) ⟨#[undef, undef], []⟩ Tryd.func17 (by kernel_rfl) (by kernel_rfl) ?_
  refine sy_sq (part_r7Names 2) (part_r7Names 3) ?_
  refine sy_reg ?_
  refine rg_plain 0 (opsAt (part_r7Names 2)) [0] (by kernel_rfl) (by kernel_rfl) ?_
  refine ps_k (o_r7Names 2 0) (.slice none 0 0) ?_
  refine ps_end ?_
  refine then_n ?_
  refine sy_sq (part_r7Names 6) (part_r7Names 7) ?_
  refine sy_reg ?_
  refine rg_plain 1 (opsAt (part_r7Names 6)) [0, 1] (by kernel_rfl) (by kernel_rfl) ?_
  obtain ⟨V1, eV1, g, eg, h2, kV1⟩ := alloc_step w (#[.string { data := #[117, 110, 98, 111, 110, 100, 105, 110, 103] }, .string { data := #[109, 97, 120, 97, 103, 101] }, .string { data := #[101, 112, 111, 99, 104, 108, 101, 110] }, .string { data := #[119, 105, 110, 100, 111, 119] }, .string { data := #[101, 110, 116, 114, 105, 101, 115] }, .string { data := #[109, 97, 120, 97, 99, 116, 105, 118, 101] }, .string { data := #[106, 97, 105, 108, 116, 105, 109, 101] }, .string { data := #[98, 97, 115, 101] }, .string { data := #[109, 117, 108, 116] }, .string { data := #[99, 111, 114, 114, 119, 105, 110, 100, 111, 119] }, .string { data := #[114, 101, 119, 97, 114, 100] }]) 9
  have n3 : w.heap.size ≤ g := eg ▸ K0.size
  refine ps_r (o_r7Names 6 0) (.slice (some ⟨g, 0, none⟩) 11 11) (w' := V1) (by rw [← eV1, ← eg]; kernel_rfl) ?_
  have K4 := K0.nn kV1
  have z5 := kV1.size
  refine ps_k (o_r7Names 6 1) (.slice (some ⟨g, 0, none⟩) 11 11) ?_
  refine ps_end ?_
  refine then_n ?_
  refine sy_ret (by kernel_rfl) ?_
  refine sy_out (.slice (some ⟨g, 0, none⟩) 11 11) rfl (by kernel_rfl) ?_
  exact ⟨g, rfl, h2.trans (by kernel_rfl), by omega, K4⟩
noncomputable def part_pDefault (n : Nat) : Code := partOf Tryd.f18 n
noncomputable abbrev o_pDefault (n k : Nat) : Oper := (opsAt (part_pDefault n)).getD k default
set_option maxRecDepth 100000 in
set_option maxHeartbeats 4000000 in
theorem pDefault_ok (w : World) :
    Calls Tryd.prog 18 #[] w (fun e w' => e = .returned (.agg parDef.cells) ∧ Keeps Nob w w') := by
  have K0 : Keeps Nob w w := Keeps.refl _ _
  refine sy_enter (part_pDefault 1) ⟨#[undef, undef], []⟩ Tryd.func18 (by kernel_rfl) (by kernel_rfl) ?_
  refine sy_sq (part_pDefault 2) (part_pDefault 3) ?_
  refine sy_reg ?_
  refine rg_plain 0 (opsAt (part_pDefault 2)) [0] (by kernel_rfl) (by kernel_rfl) ?_
  obtain ⟨V1, eV1, g, eg, h2, kV1⟩ := alloc_step w (#[.int .i64 0, .int .i64 0, .int .i64 0, .int .i64 0, .int .i64 0, .int .i64 0, .int .i64 0, .int .u64 0, .int .u64 0, .int .i64 0, .int .u64 0]) 24
  have n3 : w.heap.size ≤ g := eg ▸ K0.size
  refine ps_r (o_pDefault 2 0) (pT g 0) (w' := V1) (by rw [← eV1, ← eg]; exact exec_alloc0 24 (by kernel_rfl) (.agg (#[.int .i64 0, .int .i64 0, .int .i64 0, .int .i64 0, .int .i64 0, .int .i64 0, .int .i64 0, .int .u64 0, .int .u64 0, .int .i64 0, .int .u64 0])) (by kernel_rfl)) ?_
  clear eV1
  have K4 := K0.nn kV1
  have z5 := kV1.size
  refine ps_end ?_
  refine then_n ?_
  refine sy_sq (part_pDefault 6) (part_pDefault 7) ?_
  refine sy_reg ?_
  refine rg_plain 1 (opsAt (part_pDefault 6)) [0, 1] (by kernel_rfl) (by kernel_rfl) ?_
  refine ps_k (o_pDefault 6 0) (.agg parDef.cells) ?_
  obtain ⟨V6, eV6, kV6⟩ := rowset_step V1 g parDef.cells
  have h7 : V6.heap[g]? = some (.cells parDef.cells 24 (0, 0)) := eV6 ▸ setRow_heap _ _ _ _ _ _ h2
  refine ps_s (o_pDefault 6 1) (w' := V6) (by rw [← eV6]; exact exec_store_row 24 (.tmp 0) (.tmp 1) (by kernel_rfl) g parDef.cells (by kernel_rfl) (by kernel_rfl) 24 (#[.int .i64 0, .int .i64 0, .int .i64 0, .int .i64 0, .int .i64 0, .int .i64 0, .int .i64 0, .int .u64 0, .int .u64 0, .int .i64 0, .int .u64 0]) h2 (by kernel_rfl) rfl (by kernel_rfl)) ?_
  clear eV6
  have K8 := K4.no kV6 (by omega)
  have z9 := kV6.size
  refine ps_end ?_
  refine then_n ?_
  refine sy_ret (by kernel_rfl) ?_
  refine sy_out (.agg parDef.cells) rfl (results_cell_row (p := 0) (ty := 24) (by kernel_rfl) _ _ g 24 parDef.cells (0, 0) _ (by kernel_rfl) h7 Tryd.underlying24 rfl (by kernel_rfl)) ?_
  exact ⟨rfl, K8⟩
noncomputable def part_lpchecks (n : Nat) : Code := partOf Tryd.f31 n
noncomputable abbrev o_lpchecks (n k : Nat) : Oper := (opsAt (part_lpchecks n)).getD k default
set_option maxRecDepth 100000 in
set_option maxHeartbeats 4000000 in
theorem lpchecks_ok (p : Par) (x y : Int) (w : World) (hp : p.Ok) (hx1 : p.check.1 = x) (hy1 : p.check.2 = y) :
    Calls Tryd.prog 31 #[.agg p.cells, .int .i64 x, .int .i64 y] w (fun e w' => e = .returned (.bool true) ∧ Keeps Nob w w') := by
  have K0 : Keeps Nob w w := Keeps.refl _ _
  refine sy_enter (part_lpchecks 1) ⟨#[.agg p.cells, .int .i64 x, .int .i64 y, undef, undef, undef, undef, undef, undef, undef, undef, undef, undef, undef, undef, undef, undef, undef, undef, undef, undef, undef], []⟩ Tryd.func31 (by kernel_rfl) (by kernel_rfl) ?_
  refine sy_sq (part_lpchecks 2) (part_lpchecks 3) ?_
  refine sy_reg ?_
  refine rg_plain 0 (opsAt (part_lpchecks 2)) [0, 1] (by kernel_rfl) (by kernel_rfl) ?_
  obtain ⟨V1, eV1, g, eg, h2, kV1⟩ := alloc_step w p.cells 24
  have n3 : w.heap.size ≤ g := eg ▸ K0.size
  refine ps_r (o_lpchecks 2 0) (pT g 0) (w' := V1) (by rw [← eV1, ← eg]; exact exec_box 24 (.tmp 0) (by kernel_rfl) (.agg p.cells) (by kernel_rfl)) ?_
  clear eV1
  have K4 := K0.nn kV1
  have z5 := kV1.size
  refine ps_k (o_lpchecks 2 1) (.bool false) ?_
  refine ps_end ?_
  refine then_n ?_
  refine sy_sq (part_lpchecks 6) (part_lpchecks 7) ?_
  refine sy_reg ?_
  refine rg_plain 1 (opsAt (part_lpchecks 6)) [0, 1, 2, 3, 4, 5, 6] (by kernel_rfl) (by kernel_rfl) ?_
  refine ps_p (o_lpchecks 6 0) (.agg (p.cells)) (exec_load_row 24 (.tmp 3) (by kernel_rfl) g (by kernel_rfl) _ _ (0, 0) _ (h2) Tryd.underlying24 rfl (by kernel_rfl)) ?_
  refine ps_c (o_lpchecks 6 1) 9 #[.agg (p.cells)] Tryd.func9 ((pCheck_ok p hp _).mono ?_)
  rintro e V6 ⟨rfl, kV6⟩
  refine ⟨_, rfl, ?_⟩
  have h7 := kV6.bk h2
  have K8 := K4.nn kV6
  have z9 := kV6.size
  refine ps_k (o_lpchecks 6 2) (.tuple #[.int .i64 p.check.1, .int .i64 p.check.2]) ?_
  refine ps_k (o_lpchecks 6 3) (.int .i64 p.check.1) ?_
  refine ps_k (o_lpchecks 6 4) (.int .i64 p.check.2) ?_
  refine ps_k (o_lpchecks 6 5) (.int .i64 p.check.1) ?_
  refine ps_k (o_lpchecks 6 6) (.int .i64 p.check.2) ?_
  refine ps_end ?_
  refine then_n ?_
  refine sy_sq (part_lpchecks 14) (part_lpchecks 15) ?_
  refine sy_reg ?_
  refine rg_plain 2 (opsAt (part_lpchecks 14)) [0, 1, 2, 3, 4, 5, 6, 7, 8] (by kernel_rfl) (by kernel_rfl) ?_
  refine ps_k (o_lpchecks 14 0) (.int .i64 x) ?_
  refine ps_k (o_lpchecks 14 1) (.int .i64 p.check.1) ?_
  refine ps_p (o_lpchecks 14 2) (.bool true) (exec_cast (congrArg Value.bool (show ((((x) : Int) == ((p.check.1) : Int))) = true from by simp [hx1])) (by kernel_rfl)) ?_
  refine ps_k (o_lpchecks 14 3) (.bool true) ?_
  refine ps_k (o_lpchecks 14 4) (.int .i64 p.check.2) ?_
  refine ps_k (o_lpchecks 14 5) (.int .i64 y) ?_
  refine ps_p (o_lpchecks 14 6) (.bool true) (exec_cast (congrArg Value.bool (show ((((p.check.2) : Int) == ((y) : Int))) = true from by simp [hy1])) (by kernel_rfl)) ?_
  refine ps_k (o_lpchecks 14 7) (.bool true) ?_
  refine ps_k (o_lpchecks 14 8) (.bool true) ?_
  refine ps_end ?_
  refine then_n ?_
  refine sy_ret (by kernel_rfl) ?_
  refine sy_out (.bool true) rfl (by kernel_rfl) ?_
  exact ⟨rfl, K8⟩
theorem str_eql (a b : ByteArray) (w : World) : (binOp .eql 9 (.string a) (.string b)).run Tryd.prog w = .ok (.bool (decide (a = b))) w := by
  rw [binOp_string_eql]
  obtain ⟨⟨a⟩⟩ := a; obtain ⟨⟨b⟩⟩ := b
  rw [ByteArray.toList_eq, ByteArray.toList_eq]
  have : (a == b) = decide ((⟨⟨a⟩⟩ : ByteArray) = ⟨⟨b⟩⟩) := by rw [Bool.eq_iff_iff]; simp
  rw [this]; rfl
theorem Tx_get {ss : List ByteArray} {i : Nat} {s : ByteArray} (h : ss[i]? = some s) : (Tx ss).toArray[i]? = some (.string s) := by simp [Tx, h]
/-- A name's number; -1: there is none. -/
def pfind (s : ByteArray) : Int := match parName.findIdx? (fun x => decide (x = s)) with | some i => (i : Int) | none => -1
theorem pfind_hit {s : ByteArray} {i : Nat} (h : ∀ j, j < i → parName[j]? ≠ some s) (hi : parName[i]? = some s) : pfind s = (i : Int) := by
  have : parName.findIdx? (fun x => decide (x = s)) = some i := by
    rw [List.findIdx?_eq_some_iff_getElem]
    obtain ⟨h1, h2⟩ := List.getElem?_eq_some_iff.1 hi
    refine ⟨h1, by simpa using h2, fun j hj => ?_⟩
    have := h j hj
    rw [List.getElem?_eq_getElem (by omega)] at this
    simpa using this
  unfold pfind; rw [this]
theorem pfind_none {s : ByteArray} (h : ∀ j, j < 11 → parName[j]? ≠ some s) : pfind s = -1 := by
  have : parName.findIdx? (fun x => decide (x = s)) = none := by
    rw [List.findIdx?_eq_none_iff]
    intro x hx
    obtain ⟨j, hj⟩ := List.getElem?_of_mem hx
    have h1 := (List.getElem?_eq_some_iff.1 hj).1
    have h2 := h j h1
    rw [hj] at h2
    simpa using h2
  unfold pfind; rw [this]
noncomputable def part_r7find (n : Nat) : Code := partOf Tryd.f40 n
noncomputable abbrev o_r7find (n k : Nat) : Oper := (opsAt (part_r7find n)).getD k default
set_option maxRecDepth 100000 in
set_option maxHeartbeats 4000000 in
theorem r7find_ok (s : ByteArray) (w : World) :
    Calls Tryd.prog 40 #[.string s] w (fun e w' => e = .returned (.int .i64 (pfind s)) ∧ Keeps Nob w w') := by
  have K0 : Keeps Nob w w := Keeps.refl _ _
  refine sy_enter (part_r7find 1) ⟨#[.string s, undef, undef, undef, undef, undef, undef, undef, undef, undef, undef, undef, undef, undef, undef, undef, undef], []⟩ Tryd.func40 (by kernel_rfl) (by kernel_rfl) ?_
  refine sy_sq (part_r7find 2) (part_r7find 3) ?_
  refine sy_reg ?_
  refine rg_plain 0 (opsAt (part_r7find 2)) [0] (by kernel_rfl) (by kernel_rfl) ?_
  refine ps_k (o_r7find 2 0) (.int .i64 0) ?_
  refine ps_end ?_
  refine then_n ?_
  refine sy_sq (part_r7find 6) (part_r7find 7) ?_
  refine sy_reg ?_
  refine rg_plain 1 (opsAt (part_r7find 6)) [0, 1] (by kernel_rfl) (by kernel_rfl) ?_
  refine ps_c (o_r7find 6 0) 17 #[] Tryd.func17 ((r7Names_ok _).mono ?_)
  rintro e V1 ⟨g, rfl, hg, hgw, kV1⟩
  refine ⟨_, rfl, ?_⟩
  have K2 := K0.nn kV1
  have z3 := kV1.size
  refine ps_k (o_r7find 6 1) (.slice (some ⟨g, 0, none⟩) 11 11) ?_
  refine ps_end ?_
  refine then_n ?_
  refine sy_sq (part_r7find 14) (part_r7find 15) ?_
  refine sy_sq (part_r7find 28) (part_r7find 29) ?_
  refine sy_reg ?_
  refine rg_plain 2 (opsAt (part_r7find 28)) [0] (by kernel_rfl) (by kernel_rfl) ?_
  refine ps_k (o_r7find 28 0) (.int .i64 0) ?_
  refine ps_end ?_
  refine then_n ?_
  refine sy_bk 0 (part_r7find 58) ?_
  refine sy_loop (part_r7find 116) (fun a V => ∃ (i : Nat) (u2 u6 u7 u8 u9 u10 u11 u12 u13 u14 u15 u16 : Value), (a = ⟨#[.string s, undef, u2, .slice (some ⟨g, 0, none⟩) 11 11, iN i, .slice (some ⟨g, 0, none⟩) 11 11, u6, u7, u8, u9, u10, u11, u12, u13, u14, u15, u16], []⟩) ∧ (i ≤ 11) ∧ (∀ j, j < i → parName[j]? ≠ some s) ∧ (V.heap[g]? = some (.cells ((Tx parName).toArray) 9 (0, 0))) ∧ (Keeps Nob w V)) (fun a _ => 11 - (intOf (a.tmps.getD 4 undef)).toNat) (by kernel_rfl) ?_ ?_
  · exact ⟨0, (.int .i64 0), undef, undef, undef, undef, undef, undef, undef, undef, undef, undef, undef, by kernel_rfl, by omega, fun j h => absurd h (by omega), hg, K2⟩
  · rintro a V4 ⟨i, u2, u6, u7, u8, u9, u10, u11, u12, u13, u14, u15, u16, rfl, hi, hs, h5, K6⟩
    rcases (show (∃ x, i < 11 ∧ parName[i]? = some x ∧ x = s) ∨ (∃ x, i < 11 ∧ parName[i]? = some x ∧ ¬ x = s) ∨ i = 11 by
        by_cases h : i < 11
        · obtain ⟨x, hx⟩ : ∃ x, parName[i]? = some x := ⟨_, List.getElem?_eq_getElem h⟩
          by_cases e : x = s
          · exact .inl ⟨x, h, hx, e⟩
          · exact .inr (.inl ⟨x, h, hx, e⟩)
        · exact .inr (.inr (by omega))) with ⟨x, lt_i, hx, hxs⟩ | ⟨x, lt_i, hx, hxs⟩ | eq_i
    · skip
      refine sy_sq (part_r7find 232) (part_r7find 233) ?_
      refine sy_sq (part_r7find 464) (part_r7find 465) ?_
      refine sy_reg ?_
      refine rg_plain 3 (opsAt (part_r7find 464)) [0, 1] (by kernel_rfl) (by kernel_rfl) ?_
      refine ps_k (o_r7find 464 0) (iN i) ?_
      refine ps_p (o_r7find 464 1) (.bool true) (dct ((((i : Nat) : Int)) < ((11) : Int)) (by omega)) ?_
      refine ps_end ?_
      refine then_n ?_
      refine sy_ys (.tmp 7) (part_r7find 930) (part_r7find 931) ?_
      refine sy_sk ?_
      refine then_n ?_
      refine sy_sq (part_r7find 466) (part_r7find 467) ?_
      refine sy_bk 1 (part_r7find 932) ?_
      refine sy_sq (part_r7find 1864) (part_r7find 1865) ?_
      refine sy_reg ?_
      refine rg_plain 5 (opsAt (part_r7find 1864)) [0, 1, 2, 3, 4, 5] (by kernel_rfl) (by kernel_rfl) ?_
      refine ps_k (o_r7find 1864 0) (.slice (some ⟨g, 0, none⟩) 11 11) ?_
      refine ps_k (o_r7find 1864 1) (iN i) ?_
      refine ps_p (o_r7find 1864 2) (pT g i) (exec_cast (v := pT g (0 + i * 1)) (by simp) (exec_indexAt_slice 33 (.tmp 10) (.tmp 11) (by kernel_rfl) g 0 11 11 (by kernel_rfl) .i64 i (by kernel_rfl) _ 1 Tryd.underlying33 (by kernel_rfl) (by omega))) ?_
      refine ps_p (o_r7find 1864 3) (.string x) (exec_ld 9 (.tmp 12) g i Tryd.underlying9 (rc h5 (Tx_get hx))) ?_
      refine ps_k (o_r7find 1864 4) (.string s) ?_
      refine ps_p (o_r7find 1864 5) (.bool true) (exec_cast (congrArg Value.bool (decide_eq_true hxs)) (exec_binop .eql 9 9 (.tmp 13) (.tmp 14) (by kernel_rfl) (.string x) (.string s) _ (by kernel_rfl) (by kernel_rfl) (by kernel_rfl) (str_eql x s _))) ?_
      refine ps_end ?_
      refine then_n ?_
      refine sy_ys (.tmp 15) (part_r7find 3730) (part_r7find 3731) ?_
      refine sy_sq (part_r7find 7460) (part_r7find 7461) ?_
      refine sy_reg ?_
      refine rg_plain 6 (opsAt (part_r7find 7460)) [0, 1] (by kernel_rfl) (by kernel_rfl) ?_
      refine ps_k (o_r7find 7460 0) (iN i) ?_
      refine ps_k (o_r7find 7460 1) (iN i) ?_
      refine ps_end ?_
      refine then_n ?_
      refine sy_ret (by kernel_rfl) ?_
      refine blk_r ?_
      refine then_r ?_
      refine then_r ?_
      refine blk_r ?_
      refine then_r ?_
      refine sy_out (.int .i64 ((i : Nat) : Int)) rfl (by kernel_rfl) ?_
      exact ⟨by rw [pfind_hit hs (hxs ▸ hx)], K6⟩
    · skip
      refine sy_sq (part_r7find 232) (part_r7find 233) ?_
      refine sy_sq (part_r7find 464) (part_r7find 465) ?_
      refine sy_reg ?_
      refine rg_plain 3 (opsAt (part_r7find 464)) [0, 1] (by kernel_rfl) (by kernel_rfl) ?_
      refine ps_k (o_r7find 464 0) (iN i) ?_
      refine ps_p (o_r7find 464 1) (.bool true) (dct ((((i : Nat) : Int)) < ((11) : Int)) (by omega)) ?_
      refine ps_end ?_
      refine then_n ?_
      refine sy_ys (.tmp 7) (part_r7find 930) (part_r7find 931) ?_
      refine sy_sk ?_
      refine then_n ?_
      refine sy_sq (part_r7find 466) (part_r7find 467) ?_
      refine sy_bk 1 (part_r7find 932) ?_
      refine sy_sq (part_r7find 1864) (part_r7find 1865) ?_
      refine sy_reg ?_
      refine rg_plain 5 (opsAt (part_r7find 1864)) [0, 1, 2, 3, 4, 5] (by kernel_rfl) (by kernel_rfl) ?_
      refine ps_k (o_r7find 1864 0) (.slice (some ⟨g, 0, none⟩) 11 11) ?_
      refine ps_k (o_r7find 1864 1) (iN i) ?_
      refine ps_p (o_r7find 1864 2) (pT g i) (exec_cast (v := pT g (0 + i * 1)) (by simp) (exec_indexAt_slice 33 (.tmp 10) (.tmp 11) (by kernel_rfl) g 0 11 11 (by kernel_rfl) .i64 i (by kernel_rfl) _ 1 Tryd.underlying33 (by kernel_rfl) (by omega))) ?_
      refine ps_p (o_r7find 1864 3) (.string x) (exec_ld 9 (.tmp 12) g i Tryd.underlying9 (rc h5 (Tx_get hx))) ?_
      refine ps_k (o_r7find 1864 4) (.string s) ?_
      refine ps_p (o_r7find 1864 5) (.bool false) (exec_cast (congrArg Value.bool (decide_eq_false hxs)) (exec_binop .eql 9 9 (.tmp 13) (.tmp 14) (by kernel_rfl) (.string x) (.string s) _ (by kernel_rfl) (by kernel_rfl) (by kernel_rfl) (str_eql x s _))) ?_
      refine ps_end ?_
      refine then_n ?_
      refine sy_n (.tmp 15) (part_r7find 3730) (part_r7find 3731) ?_
      refine sy_sk ?_
      refine blk_n ?_
      refine then_n ?_
      refine sy_reg ?_
      refine rg_plain 4 (opsAt (part_r7find 467)) [0, 1, 2] (by kernel_rfl) (by kernel_rfl) ?_
      refine ps_k (o_r7find 467 0) (iN i) ?_
      refine ps_p (o_r7find 467 1) (iN (i + 1)) (exec_cast (congrArg (Value.int .i64) (wrapN (i + 1) (by omega))) (by kernel_rfl)) ?_
      refine ps_k (o_r7find 467 2) (iN (i + 1)) ?_
      refine ps_end ?_
      refine then_n ?_
      refine ⟨⟨i + 1, u2, (iN i), (.bool true), (iN i), (iN (i + 1)), (.slice (some ⟨g, 0, none⟩) 11 11), (iN i), (pT g i), (.string x), (.string s), (.bool false), u16, by kernel_rfl, by omega, fun j hj => by by_cases e : j = i; (subst e; rw [hx]; simpa using hxs); exact hs j (by omega), h5, K6⟩, ?_⟩
      exact lt_meas (x := 11 - (i + 1)) (y := 11 - i) (by kernel_rfl) (by kernel_rfl) (by omega)
    · skip
      refine sy_sq (part_r7find 232) (part_r7find 233) ?_
      refine sy_sq (part_r7find 464) (part_r7find 465) ?_
      refine sy_reg ?_
      refine rg_plain 3 (opsAt (part_r7find 464)) [0, 1] (by kernel_rfl) (by kernel_rfl) ?_
      refine ps_k (o_r7find 464 0) (iN i) ?_
      refine ps_p (o_r7find 464 1) (.bool false) (dcf ((((i : Nat) : Int)) < ((11) : Int)) (by omega)) ?_
      refine ps_end ?_
      refine then_n ?_
      refine sy_n (.tmp 7) (part_r7find 930) (part_r7find 931) ?_
      refine sy_exit 0 (by kernel_rfl) ?_
      refine then_e ?_
      refine then_e ?_
      refine blk_e ?_
      refine then_n ?_
      refine sy_sq (part_r7find 30) (part_r7find 31) ?_
      refine sy_reg ?_
      refine rg_plain 7 (opsAt (part_r7find 30)) [0] (by kernel_rfl) (by kernel_rfl) ?_
      refine ps_k (o_r7find 30 0) (.int .i64 (-1)) ?_
      refine ps_end ?_
      refine then_n ?_
      refine sy_ret (by kernel_rfl) ?_
      refine sy_out (.int .i64 (-1)) rfl (by kernel_rfl) ?_
      exact ⟨by rw [pfind_none (fun j hj => hs j (by omega))], K6⟩
noncomputable def part_kFields (n : Nat) : Code := partOf Tryd.f36 n
noncomputable abbrev o_kFields (n k : Nat) : Oper := (opsAt (part_kFields n)).getD k default
set_option maxRecDepth 100000 in
set_option maxHeartbeats 4000000 in
theorem kFields_blk (p : Par) (w : World) (hp : p.Ok) :
    Calls Tryd.prog 36 #[.agg p.cells] w (fun e w' => ∃ g, e = .returned (.slice (some ⟨g, 0, none⟩) 11 11) ∧ w'.heap[g]? = some (.cells (I p.r).toArray 3 (0, 0)) ∧ w.heap.size ≤ g ∧ Keeps Nob w w') := by
  have hb0 := hp.base.1
  have hm0 := hp.mult.1
  have hr0 := hp.rew.1
  have K0 : Keeps Nob w w := Keeps.refl _ _
  refine sy_enter (part_kFields 1) ⟨#[.agg p.cells, undef, undef, undef, undef, undef, undef, undef, undef, undef, undef, undef, undef, undef, undef, undef, undef, undef, undef, undef, undef, undef, undef, undef, undef, undef, undef, undef, undef, undef, undef, undef], []⟩ Tryd.func36 (by kernel_rfl) (by kernel_rfl) ?_
  refine sy_sq (part_kFields 2) (part_kFields 3) ?_
  refine sy_reg ?_
  refine rg_plain 0 (opsAt (part_kFields 2)) [0, 1] (by kernel_rfl) (by kernel_rfl) ?_
  obtain ⟨V1, eV1, gm, egm, h2, kV1⟩ := alloc_step w p.cells 24
  have n3 : w.heap.size ≤ gm := egm ▸ K0.size
  refine ps_r (o_kFields 2 0) (pT gm 0) (w' := V1) (by rw [← eV1, ← egm]; exact exec_box 24 (.tmp 0) (by kernel_rfl) (.agg p.cells) (by kernel_rfl)) ?_
  clear eV1
  have K4 := K0.nn kV1
  have z5 := kV1.size
  refine ps_k (o_kFields 2 1) (.slice none 0 0) ?_
  refine ps_end ?_
  refine then_n ?_
  refine sy_sq (part_kFields 6) (part_kFields 7) ?_
  refine sy_reg ?_
  refine rg_plain 1 (opsAt (part_kFields 6)) [0, 1, 2, 3, 4, 5, 6, 7, 8, 9, 10, 11, 12, 13, 14, 15, 16, 17, 18, 19, 20, 21, 22, 23, 24, 25, 26, 27, 28, 29] (by kernel_rfl) (by kernel_rfl) ?_
  refine ps_k (o_kFields 6 0) (pT gm 0) ?_
  refine ps_p (o_kFields 6 1) (.int .i64 p.unb) (exec_ld 3 (.tmp 3) gm 0 Tryd.underlying3 (rc (h2) (rfl))) ?_
  refine ps_k (o_kFields 6 2) (pT gm 1) ?_
  refine ps_p (o_kFields 6 3) (.int .i64 p.mage) (exec_ld 3 (.tmp 5) gm 1 Tryd.underlying3 (rc (h2) (rfl))) ?_
  refine ps_k (o_kFields 6 4) (pT gm 2) ?_
  refine ps_p (o_kFields 6 5) (.int .i64 p.elen) (exec_ld 3 (.tmp 7) gm 2 Tryd.underlying3 (rc (h2) (rfl))) ?_
  refine ps_k (o_kFields 6 6) (pT gm 3) ?_
  refine ps_p (o_kFields 6 7) (.int .i64 p.win) (exec_ld 3 (.tmp 9) gm 3 Tryd.underlying3 (rc (h2) (rfl))) ?_
  refine ps_k (o_kFields 6 8) (pT gm 4) ?_
  refine ps_p (o_kFields 6 9) (.int .i64 p.ent) (exec_ld 3 (.tmp 11) gm 4 Tryd.underlying3 (rc (h2) (rfl))) ?_
  refine ps_k (o_kFields 6 10) (pT gm 5) ?_
  refine ps_p (o_kFields 6 11) (.int .i64 p.act) (exec_ld 3 (.tmp 13) gm 5 Tryd.underlying3 (rc (h2) (rfl))) ?_
  refine ps_k (o_kFields 6 12) (pT gm 6) ?_
  refine ps_p (o_kFields 6 13) (.int .i64 p.jail) (exec_ld 3 (.tmp 15) gm 6 Tryd.underlying3 (rc (h2) (rfl))) ?_
  refine ps_k (o_kFields 6 14) (pT gm 7) ?_
  refine ps_p (o_kFields 6 15) (.int .u64 p.base) (exec_ld 22 (.tmp 17) gm 7 Tryd.underlying22 (rc (h2) (rfl))) ?_
  refine ps_p (o_kFields 6 16) (.int .u64 (min p.base 1099511627776)) (exec_min (.tmp 18) (.const (.int .u64 1099511627776)) #[22, 22] (by kernel_rfl) .u64 p.base 1099511627776 (by kernel_rfl) (by kernel_rfl)) ?_
  refine ps_r (o_kFields 6 17) (.int .i64 (min p.base 1099511627776)) (w' := V1) (exec_convert 22 3 (.tmp 19) (by kernel_rfl) _ (by kernel_rfl) (conv_u64 _ _ (by omega) (by omega))) ?_
  refine ps_k (o_kFields 6 18) (pT gm 8) ?_
  refine ps_p (o_kFields 6 19) (.int .u64 p.mult) (exec_ld 22 (.tmp 21) gm 8 Tryd.underlying22 (rc (h2) (rfl))) ?_
  refine ps_p (o_kFields 6 20) (.int .u64 (min p.mult 1099511627776)) (exec_min (.tmp 22) (.const (.int .u64 1099511627776)) #[22, 22] (by kernel_rfl) .u64 p.mult 1099511627776 (by kernel_rfl) (by kernel_rfl)) ?_
  refine ps_r (o_kFields 6 21) (.int .i64 (min p.mult 1099511627776)) (w' := V1) (exec_convert 22 3 (.tmp 23) (by kernel_rfl) _ (by kernel_rfl) (conv_u64 _ _ (by omega) (by omega))) ?_
  refine ps_k (o_kFields 6 22) (pT gm 9) ?_
  refine ps_p (o_kFields 6 23) (.int .i64 p.corr) (exec_ld 3 (.tmp 25) gm 9 Tryd.underlying3 (rc (h2) (rfl))) ?_
  refine ps_k (o_kFields 6 24) (pT gm 10) ?_
  refine ps_p (o_kFields 6 25) (.int .u64 p.rew) (exec_ld 22 (.tmp 27) gm 10 Tryd.underlying22 (rc (h2) (rfl))) ?_
  refine ps_p (o_kFields 6 26) (.int .u64 (min p.rew 1099511627776)) (exec_min (.tmp 28) (.const (.int .u64 1099511627776)) #[22, 22] (by kernel_rfl) .u64 p.rew 1099511627776 (by kernel_rfl) (by kernel_rfl)) ?_
  refine ps_r (o_kFields 6 27) (.int .i64 (min p.rew 1099511627776)) (w' := V1) (exec_convert 22 3 (.tmp 29) (by kernel_rfl) _ (by kernel_rfl) (conv_u64 _ _ (by omega) (by omega))) ?_
  obtain ⟨V6, eV6, g, eg, h7, kV6⟩ := alloc_step V1 (#[.int .i64 p.unb, .int .i64 p.mage, .int .i64 p.elen, .int .i64 p.win, .int .i64 p.ent, .int .i64 p.act, .int .i64 p.jail, .int .i64 (min p.base 1099511627776), .int .i64 (min p.mult 1099511627776), .int .i64 p.corr, .int .i64 (min p.rew 1099511627776)]) 3
  have n8 : gm < g := eg ▸ lt_of_block h2
  have n9 : w.heap.size ≤ g := eg ▸ K4.size
  refine ps_r (o_kFields 6 28) (.slice (some ⟨g, 0, none⟩) 11 11) (w' := V6) (by rw [← eV6, ← eg]; kernel_rfl) ?_
  have h10 := kV6.bk h2
  have K11 := K4.nn kV6
  have z12 := kV6.size
  refine ps_k (o_kFields 6 29) (.slice (some ⟨g, 0, none⟩) 11 11) ?_
  refine ps_end ?_
  refine sy_a ⟨#[.agg p.cells, pT gm 0, .slice (some ⟨g, 0, none⟩) 11 11, pT gm 0, .int .i64 p.unb, pT gm 1, .int .i64 p.mage, pT gm 2, .int .i64 p.elen, pT gm 3, .int .i64 p.win, pT gm 4, .int .i64 p.ent, pT gm 5, .int .i64 p.act, pT gm 6, .int .i64 p.jail, pT gm 7, .int .u64 p.base, .int .u64 (min p.base 1099511627776), .int .i64 (min p.base 1099511627776), pT gm 8, .int .u64 p.mult, .int .u64 (min p.mult 1099511627776), .int .i64 (min p.mult 1099511627776), pT gm 9, .int .i64 p.corr, pT gm 10, .int .u64 p.rew, .int .u64 (min p.rew 1099511627776), .int .i64 (min p.rew 1099511627776), .slice (some ⟨g, 0, none⟩) 11 11], []⟩ ?_
  refine then_n ?_
  refine sy_ret (by kernel_rfl) ?_
  refine sy_out (.slice (some ⟨g, 0, none⟩) 11 11) rfl (by kernel_rfl) ?_
  exact ⟨g, rfl, h7.trans (by kernel_rfl), by omega, K11⟩
/-- The params of eleven numbers. -/
def parOf (x0 x1 x2 x3 x4 x5 x6 x7 x8 x9 x10 : Int) : Par := ⟨x0, x1, x2, x3, x4, x5, x6, x7, x8, x9, x10⟩
theorem ints_made : madeCells (Value.int .i64 0).cells (11 * 1) = (I [0, 0, 0, 0, 0, 0, 0, 0, 0, 0, 0]).toArray := by kernel_rfl
theorem int_info0 : (Tryd.prog.info? 3).map (fun i => (i.zero, i.size, i.bytes)) = some (some (.int .i64 0), 1, 8) := by kernel_rfl
noncomputable def part_kRecord (n : Nat) : Code := partOf Tryd.f41 n
noncomputable abbrev o_kRecord (n k : Nat) : Oper := (opsAt (part_kRecord n)).getD k default
set_option maxRecDepth 100000 in
set_option maxHeartbeats 4000000 in
theorem kRecord_ok (g : Nat) (x0 x1 x2 x3 x4 x5 x6 x7 x8 x9 x10 : Int) (w : World) (h0 : w.heap[g]? = some (.cells (I [x0, x1, x2, x3, x4, x5, x6, x7, x8, x9, x10]).toArray 3 (0, 0))) (hq7 : 0 ≤ x7 ∧ x7 ≤ 9223372036854775807) (hq8 : 0 ≤ x8 ∧ x8 ≤ 9223372036854775807) (hq10 : 0 ≤ x10 ∧ x10 ≤ 9223372036854775807) :
    Calls Tryd.prog 41 #[.slice (some ⟨g, 0, none⟩) 11 11] w (fun e w' => e = .returned (.agg (parOf x0 x1 x2 x3 x4 x5 x6 x7 x8 x9 x10).cells) ∧ Keeps Nob w w') := by
  obtain ⟨i0, hi0, hz0, hz1, hz2⟩ := info_parts int_info0
  have hgl := lt_of_block h0
  have K0 : Keeps Nob w w := Keeps.refl _ _
  refine sy_enter (part_kRecord 1) ⟨#[.slice (some ⟨g, 0, none⟩) 11 11, undef, undef, undef, undef, undef, undef, undef, undef, undef, undef, undef, undef, undef, undef, undef, undef, undef, undef, undef, undef, undef, undef, undef, undef, undef, undef, undef, undef, undef, undef, undef, undef, undef, undef, undef, undef, undef, undef, undef, undef, undef, undef, undef, undef], []⟩ Tryd.func41 (by kernel_rfl) (by kernel_rfl) ?_
  refine sy_sq (part_kRecord 2) (part_kRecord 3) ?_
  refine sy_reg ?_
  refine rg_plain 0 (opsAt (part_kRecord 2)) [0] (by kernel_rfl) (by kernel_rfl) ?_
  obtain ⟨V1, eV1, gr, egr, h2, kV1⟩ := alloc_step w (#[.int .i64 0, .int .i64 0, .int .i64 0, .int .i64 0, .int .i64 0, .int .i64 0, .int .i64 0, .int .u64 0, .int .u64 0, .int .i64 0, .int .u64 0]) 24
  have n3 : g < gr := egr ▸ lt_of_block h0
  have n4 : w.heap.size ≤ gr := egr ▸ K0.size
  refine ps_r (o_kRecord 2 0) (pT gr 0) (w' := V1) (by rw [← eV1, ← egr]; exact exec_alloc0 24 (by kernel_rfl) (.agg (#[.int .i64 0, .int .i64 0, .int .i64 0, .int .i64 0, .int .i64 0, .int .i64 0, .int .i64 0, .int .u64 0, .int .u64 0, .int .i64 0, .int .u64 0])) (by kernel_rfl)) ?_
  clear eV1
  have h5 := kV1.bk h0
  have K6 := K0.nn kV1
  have z7 := kV1.size
  refine ps_end ?_
  refine then_n ?_
  refine sy_sq (part_kRecord 6) (part_kRecord 7) ?_
  refine sy_reg ?_
  refine rg_plain 1 (opsAt (part_kRecord 6)) [0, 1] (by kernel_rfl) (by kernel_rfl) ?_
  obtain ⟨V8, eV8, s, es, h9, kV8⟩ := alloc_step V1 (madeCells (Value.int .i64 0).cells (11 * i0.size)) 3
  have h10 : V8.heap[s]? = some (.cells ((I [0, 0, 0, 0, 0, 0, 0, 0, 0, 0, 0]).toArray) 3 (0, 0)) := h9.trans (by rw [hz1]; exact congrArg (fun c => some (Obj.cells c 3 (0, 0))) ints_made)
  refine ps_r (o_kRecord 6 0) (.slice (some ⟨s, 0, none⟩) 11 11) (w' := V8) (by rw [← eV8, ← es]; exact exec_makeSlice 55 (.const (.int .i64 11)) (.const (.int .i64 11)) (by kernel_rfl) 3 i0 (.int .i64 0) Tryd.underlying55 hi0 hz0 11 (by kernel_rfl) (by kernel_rfl) (by rw [hz2]; omega) (by omega)) ?_
  clear eV8
  have ns : w.heap.size ≤ s := es ▸ K6.size
  have ngs : gr < s := es ▸ lt_of_block h2
  have ngg : g < s := es ▸ lt_of_block h5
  have h11 := kV8.bk h5
  have h12 := kV8.bk h2
  have K13 := K6.nn kV8
  have z14 := kV8.size
  refine ps_k (o_kRecord 6 1) (.slice (some ⟨s, 0, none⟩) 11 11) ?_
  refine ps_end ?_
  refine then_n ?_
  refine sy_sq (part_kRecord 14) (part_kRecord 15) ?_
  refine sy_reg ?_
  refine rg_plain 2 (opsAt (part_kRecord 14)) [0, 1, 2] (by kernel_rfl) (by kernel_rfl) ?_
  refine ps_k (o_kRecord 14 0) (.slice (some ⟨s, 0, none⟩) 11 11) ?_
  refine ps_k (o_kRecord 14 1) (.slice (some ⟨g, 0, none⟩) 11 11) ?_
  obtain ⟨V15, eV15, kV15⟩ := rowset_step V8 s (I [x0, x1, x2, x3, x4, x5, x6, x7, x8, x9, x10]).toArray
  have h16 : V15.heap[s]? = some (.cells ((I [x0, x1, x2, x3, x4, x5, x6, x7, x8, x9, x10]).toArray) 3 (0, 0)) := eV15 ▸ setRow_heap _ _ _ _ _ _ h10
  refine ps_r (o_kRecord 14 2) (iN 11) (w' := V15) (by rw [← eV15]; exact exec_copy_row (.tmp 5) (.tmp 6) 55 (by kernel_rfl) 3 Tryd.underlying55 (by kernel_rfl) s 11 g 11 (by kernel_rfl) (by kernel_rfl) _ _ h10 (by kernel_rfl) (I [x0, x1, x2, x3, x4, x5, x6, x7, x8, x9, x10]) rfl _ h11 (I_one _)) ?_
  clear eV15
  have h17 := kV15.bo h11 (by omega)
  have h18 := kV15.bo h12 (by omega)
  have K19 := K13.no kV15 (by omega)
  have z20 := kV15.size
  refine ps_end ?_
  refine then_n ?_
  refine sy_sq (part_kRecord 30) (part_kRecord 31) ?_
  refine sy_reg ?_
  refine rg_still 3 37 (opsAt (part_kRecord 30)) [o_kRecord 30 0, o_kRecord 30 1, o_kRecord 30 2, o_kRecord 30 3, o_kRecord 30 4, o_kRecord 30 5, o_kRecord 30 6, o_kRecord 30 7, o_kRecord 30 8, o_kRecord 30 9, o_kRecord 30 10, o_kRecord 30 11, o_kRecord 30 12, o_kRecord 30 13, o_kRecord 30 14, o_kRecord 30 15, o_kRecord 30 16, o_kRecord 30 17, o_kRecord 30 18, o_kRecord 30 19, o_kRecord 30 20, o_kRecord 30 21, o_kRecord 30 22, o_kRecord 30 23, o_kRecord 30 24, o_kRecord 30 25, o_kRecord 30 26, o_kRecord 30 27, o_kRecord 30 28, o_kRecord 30 29, o_kRecord 30 30, o_kRecord 30 31, o_kRecord 30 32, o_kRecord 30 33, o_kRecord 30 34, o_kRecord 30 35, o_kRecord 30 36] [o_kRecord 30 37] (by kernel_rfl) (by kernel_rfl) (by kernel_rfl) (by kernel_rfl) (by kernel_rfl) ?_
  obtain ⟨V22, eV22, kV22⟩ := drew_step V15
  rw [eV22]
  clear eV22
  have h23 := kV22.bk h17
  have h24 := kV22.bk h18
  have h25 := kV22.bk h16
  have K26 := K19.nn kV22
  have z27 := kV22.size
  refine st_k (o_kRecord 30 0) (.slice (some ⟨s, 0, none⟩) 11 11) ?_
  refine st_p (o_kRecord 30 1) (pT s 0) (exec_cast (v := pT s (0 + 0 * 1)) (by simp) (exec_indexAt_slice 55 (.tmp 8) (.const (.int .i64 0)) (by kernel_rfl) s 0 11 11 (by kernel_rfl) .i64 0 (by kernel_rfl) _ 1 Tryd.underlying55 (by kernel_rfl) (by omega))) ?_
  refine st_p (o_kRecord 30 2) (.int .i64 x0) (exec_ld 3 (.tmp 9) s 0 Tryd.underlying3 (rc (h25) (rfl))) ?_
  refine st_k (o_kRecord 30 3) (.slice (some ⟨s, 0, none⟩) 11 11) ?_
  refine st_p (o_kRecord 30 4) (pT s 1) (exec_cast (v := pT s (0 + 1 * 1)) (by simp) (exec_indexAt_slice 55 (.tmp 11) (.const (.int .i64 1)) (by kernel_rfl) s 0 11 11 (by kernel_rfl) .i64 1 (by kernel_rfl) _ 1 Tryd.underlying55 (by kernel_rfl) (by omega))) ?_
  refine st_p (o_kRecord 30 5) (.int .i64 x1) (exec_ld 3 (.tmp 12) s 1 Tryd.underlying3 (rc (h25) (rfl))) ?_
  refine st_k (o_kRecord 30 6) (.slice (some ⟨s, 0, none⟩) 11 11) ?_
  refine st_p (o_kRecord 30 7) (pT s 2) (exec_cast (v := pT s (0 + 2 * 1)) (by simp) (exec_indexAt_slice 55 (.tmp 14) (.const (.int .i64 2)) (by kernel_rfl) s 0 11 11 (by kernel_rfl) .i64 2 (by kernel_rfl) _ 1 Tryd.underlying55 (by kernel_rfl) (by omega))) ?_
  refine st_p (o_kRecord 30 8) (.int .i64 x2) (exec_ld 3 (.tmp 15) s 2 Tryd.underlying3 (rc (h25) (rfl))) ?_
  refine st_k (o_kRecord 30 9) (.slice (some ⟨s, 0, none⟩) 11 11) ?_
  refine st_p (o_kRecord 30 10) (pT s 3) (exec_cast (v := pT s (0 + 3 * 1)) (by simp) (exec_indexAt_slice 55 (.tmp 17) (.const (.int .i64 3)) (by kernel_rfl) s 0 11 11 (by kernel_rfl) .i64 3 (by kernel_rfl) _ 1 Tryd.underlying55 (by kernel_rfl) (by omega))) ?_
  refine st_p (o_kRecord 30 11) (.int .i64 x3) (exec_ld 3 (.tmp 18) s 3 Tryd.underlying3 (rc (h25) (rfl))) ?_
  refine st_k (o_kRecord 30 12) (.slice (some ⟨s, 0, none⟩) 11 11) ?_
  refine st_p (o_kRecord 30 13) (pT s 4) (exec_cast (v := pT s (0 + 4 * 1)) (by simp) (exec_indexAt_slice 55 (.tmp 20) (.const (.int .i64 4)) (by kernel_rfl) s 0 11 11 (by kernel_rfl) .i64 4 (by kernel_rfl) _ 1 Tryd.underlying55 (by kernel_rfl) (by omega))) ?_
  refine st_p (o_kRecord 30 14) (.int .i64 x4) (exec_ld 3 (.tmp 21) s 4 Tryd.underlying3 (rc (h25) (rfl))) ?_
  refine st_k (o_kRecord 30 15) (.slice (some ⟨s, 0, none⟩) 11 11) ?_
  refine st_p (o_kRecord 30 16) (pT s 5) (exec_cast (v := pT s (0 + 5 * 1)) (by simp) (exec_indexAt_slice 55 (.tmp 23) (.const (.int .i64 5)) (by kernel_rfl) s 0 11 11 (by kernel_rfl) .i64 5 (by kernel_rfl) _ 1 Tryd.underlying55 (by kernel_rfl) (by omega))) ?_
  refine st_p (o_kRecord 30 17) (.int .i64 x5) (exec_ld 3 (.tmp 24) s 5 Tryd.underlying3 (rc (h25) (rfl))) ?_
  refine st_k (o_kRecord 30 18) (.slice (some ⟨s, 0, none⟩) 11 11) ?_
  refine st_p (o_kRecord 30 19) (pT s 6) (exec_cast (v := pT s (0 + 6 * 1)) (by simp) (exec_indexAt_slice 55 (.tmp 26) (.const (.int .i64 6)) (by kernel_rfl) s 0 11 11 (by kernel_rfl) .i64 6 (by kernel_rfl) _ 1 Tryd.underlying55 (by kernel_rfl) (by omega))) ?_
  refine st_p (o_kRecord 30 20) (.int .i64 x6) (exec_ld 3 (.tmp 27) s 6 Tryd.underlying3 (rc (h25) (rfl))) ?_
  refine st_k (o_kRecord 30 21) (.slice (some ⟨s, 0, none⟩) 11 11) ?_
  refine st_p (o_kRecord 30 22) (pT s 7) (exec_cast (v := pT s (0 + 7 * 1)) (by simp) (exec_indexAt_slice 55 (.tmp 29) (.const (.int .i64 7)) (by kernel_rfl) s 0 11 11 (by kernel_rfl) .i64 7 (by kernel_rfl) _ 1 Tryd.underlying55 (by kernel_rfl) (by omega))) ?_
  refine st_p (o_kRecord 30 23) (.int .i64 x7) (exec_ld 3 (.tmp 30) s 7 Tryd.underlying3 (rc (h25) (rfl))) ?_
  refine st_p (o_kRecord 30 24) (.int .u64 x7) (exec_convert 3 22 (.tmp 31) (by kernel_rfl) _ (by kernel_rfl) (conv_i64 _ _ hq7.1 hq7.2)) ?_
  refine st_k (o_kRecord 30 25) (.slice (some ⟨s, 0, none⟩) 11 11) ?_
  refine st_p (o_kRecord 30 26) (pT s 8) (exec_cast (v := pT s (0 + 8 * 1)) (by simp) (exec_indexAt_slice 55 (.tmp 33) (.const (.int .i64 8)) (by kernel_rfl) s 0 11 11 (by kernel_rfl) .i64 8 (by kernel_rfl) _ 1 Tryd.underlying55 (by kernel_rfl) (by omega))) ?_
  refine st_p (o_kRecord 30 27) (.int .i64 x8) (exec_ld 3 (.tmp 34) s 8 Tryd.underlying3 (rc (h25) (rfl))) ?_
  refine st_p (o_kRecord 30 28) (.int .u64 x8) (exec_convert 3 22 (.tmp 35) (by kernel_rfl) _ (by kernel_rfl) (conv_i64 _ _ hq8.1 hq8.2)) ?_
  refine st_k (o_kRecord 30 29) (.slice (some ⟨s, 0, none⟩) 11 11) ?_
  refine st_p (o_kRecord 30 30) (pT s 9) (exec_cast (v := pT s (0 + 9 * 1)) (by simp) (exec_indexAt_slice 55 (.tmp 37) (.const (.int .i64 9)) (by kernel_rfl) s 0 11 11 (by kernel_rfl) .i64 9 (by kernel_rfl) _ 1 Tryd.underlying55 (by kernel_rfl) (by omega))) ?_
  refine st_p (o_kRecord 30 31) (.int .i64 x9) (exec_ld 3 (.tmp 38) s 9 Tryd.underlying3 (rc (h25) (rfl))) ?_
  refine st_k (o_kRecord 30 32) (.slice (some ⟨s, 0, none⟩) 11 11) ?_
  refine st_p (o_kRecord 30 33) (pT s 10) (exec_cast (v := pT s (0 + 10 * 1)) (by simp) (exec_indexAt_slice 55 (.tmp 40) (.const (.int .i64 10)) (by kernel_rfl) s 0 11 11 (by kernel_rfl) .i64 10 (by kernel_rfl) _ 1 Tryd.underlying55 (by kernel_rfl) (by omega))) ?_
  refine st_p (o_kRecord 30 34) (.int .i64 x10) (exec_ld 3 (.tmp 41) s 10 Tryd.underlying3 (rc (h25) (rfl))) ?_
  refine st_p (o_kRecord 30 35) (.int .u64 x10) (exec_convert 3 22 (.tmp 42) (by kernel_rfl) _ (by kernel_rfl) (conv_i64 _ _ hq10.1 hq10.2)) ?_
  refine st_k (o_kRecord 30 36) (.agg (parOf x0 x1 x2 x3 x4 x5 x6 x7 x8 x9 x10).cells) ?_
  refine st_end ?_
  obtain ⟨V28, eV28, kV28⟩ := rowset_step V22 gr ((parOf x0 x1 x2 x3 x4 x5 x6 x7 x8 x9 x10).cells)
  have h29 : V28.heap[gr]? = some (.cells ((parOf x0 x1 x2 x3 x4 x5 x6 x7 x8 x9 x10).cells) 24 (0, 0)) := eV28 ▸ setRow_heap _ _ _ _ _ _ h24
  refine ls_skip (o_kRecord 30 37) (w' := V28) (by kernel_rfl) (by rw [← eV28]; exact exec_store_row 24 (.tmp 2) (.tmp 44) (by kernel_rfl) gr ((parOf x0 x1 x2 x3 x4 x5 x6 x7 x8 x9 x10).cells) (by kernel_rfl) (by kernel_rfl) 24 (#[.int .i64 0, .int .i64 0, .int .i64 0, .int .i64 0, .int .i64 0, .int .i64 0, .int .i64 0, .int .u64 0, .int .u64 0, .int .i64 0, .int .u64 0]) h24 (by kernel_rfl) rfl (by kernel_rfl)) ?_
  clear eV28
  have h30 := kV28.bo h23 (by omega)
  have h31 := kV28.bo h25 (by omega)
  have K32 := K26.no kV28 (by omega)
  have z33 := kV28.size
  refine ls_end ?_
  refine sy_a ⟨#[.slice (some ⟨g, 0, none⟩) 11 11, undef, pT gr 0, .slice (some ⟨s, 0, none⟩) 11 11, .slice (some ⟨s, 0, none⟩) 11 11, .slice (some ⟨s, 0, none⟩) 11 11, .slice (some ⟨g, 0, none⟩) 11 11, .int .i64 11, .slice (some ⟨s, 0, none⟩) 11 11, pT s 0, .int .i64 x0, .slice (some ⟨s, 0, none⟩) 11 11, pT s 1, .int .i64 x1, .slice (some ⟨s, 0, none⟩) 11 11, pT s 2, .int .i64 x2, .slice (some ⟨s, 0, none⟩) 11 11, pT s 3, .int .i64 x3, .slice (some ⟨s, 0, none⟩) 11 11, pT s 4, .int .i64 x4, .slice (some ⟨s, 0, none⟩) 11 11, pT s 5, .int .i64 x5, .slice (some ⟨s, 0, none⟩) 11 11, pT s 6, .int .i64 x6, .slice (some ⟨s, 0, none⟩) 11 11, pT s 7, .int .i64 x7, .int .u64 x7, .slice (some ⟨s, 0, none⟩) 11 11, pT s 8, .int .i64 x8, .int .u64 x8, .slice (some ⟨s, 0, none⟩) 11 11, pT s 9, .int .i64 x9, .slice (some ⟨s, 0, none⟩) 11 11, pT s 10, .int .i64 x10, .int .u64 x10, .agg (parOf x0 x1 x2 x3 x4 x5 x6 x7 x8 x9 x10).cells], []⟩ ?_
  refine then_n ?_
  refine sy_ret (by kernel_rfl) ?_
  refine sy_out (.agg ((parOf x0 x1 x2 x3 x4 x5 x6 x7 x8 x9 x10).cells)) rfl (results_cell_row (p := 2) (ty := 24) (by kernel_rfl) _ _ gr 24 ((parOf x0 x1 x2 x3 x4 x5 x6 x7 x8 x9 x10).cells) (0, 0) _ (by kernel_rfl) h29 Tryd.underlying24 rfl (by kernel_rfl)) ?_
  exact ⟨rfl, K32⟩
noncomputable def part_r7Default (n : Nat) : Code := partOf Tryd.f19 n
noncomputable abbrev o_r7Default (n k : Nat) : Oper := (opsAt (part_r7Default n)).getD k default
set_option maxRecDepth 100000 in
set_option maxHeartbeats 4000000 in
theorem r7Default_ok (w : World) :
    Calls Tryd.prog 19 #[] w (fun e w' => e = .returned (.agg parDef.cells) ∧ Keeps Nob w w') := by
  have K0 : Keeps Nob w w := Keeps.refl _ _
  refine sy_enter (part_r7Default 1) ⟨#[undef, undef, undef], []⟩ Tryd.func19 (by kernel_rfl) (by kernel_rfl) ?_
  refine sy_sq (part_r7Default 2) (part_r7Default 3) ?_
  refine sy_reg ?_
  refine rg_plain 0 (opsAt (part_r7Default 2)) [0] (by kernel_rfl) (by kernel_rfl) ?_
  obtain ⟨V1, eV1, gr, egr, h2, kV1⟩ := alloc_step w (#[.int .i64 0, .int .i64 0, .int .i64 0, .int .i64 0, .int .i64 0, .int .i64 0, .int .i64 0, .int .u64 0, .int .u64 0, .int .i64 0, .int .u64 0]) 24
  have n3 : w.heap.size ≤ gr := egr ▸ K0.size
  refine ps_r (o_r7Default 2 0) (pT gr 0) (w' := V1) (by rw [← eV1, ← egr]; exact exec_alloc0 24 (by kernel_rfl) (.agg (#[.int .i64 0, .int .i64 0, .int .i64 0, .int .i64 0, .int .i64 0, .int .i64 0, .int .i64 0, .int .u64 0, .int .u64 0, .int .i64 0, .int .u64 0])) (by kernel_rfl)) ?_
  clear eV1
  have K4 := K0.nn kV1
  have z5 := kV1.size
  refine ps_end ?_
  refine then_n ?_
  refine sy_sq (part_r7Default 6) (part_r7Default 7) ?_
  refine sy_reg ?_
  refine rg_plain 1 (opsAt (part_r7Default 6)) [0, 1, 2] (by kernel_rfl) (by kernel_rfl) ?_
  obtain ⟨V6, eV6, g1, eg1, h7, kV6⟩ := alloc_step V1 (#[.int .i64 100, .int .i64 100, .int .i64 10, .int .i64 8, .int .i64 7, .int .i64 8, .int .i64 20, .int .i64 50000000, .int .i64 3, .int .i64 50, .int .i64 100000000]) 3
  have n8 : gr < g1 := eg1 ▸ lt_of_block h2
  have n9 : w.heap.size ≤ g1 := eg1 ▸ K4.size
  refine ps_r (o_r7Default 6 0) (.slice (some ⟨g1, 0, none⟩) 11 11) (w' := V6) (by rw [← eV6, ← eg1]; kernel_rfl) ?_
  have h10 := kV6.bk h2
  have K11 := K4.nn kV6
  have z12 := kV6.size
  refine ps_c (o_r7Default 6 1) 41 #[.slice (some ⟨g1, 0, none⟩) 11 11] Tryd.func41 ((kRecord_ok g1 100 100 10 8 7 8 20 50000000 3 50 100000000 _ (h7.trans (by kernel_rfl)) (by omega) (by omega) (by omega)).mono ?_)
  rintro e V13 ⟨rfl, kV13⟩
  refine ⟨_, rfl, ?_⟩
  have h14 := kV13.bk h10
  have h15 := kV13.bk h7
  have K16 := K11.nn kV13
  have z17 := kV13.size
  obtain ⟨V18, eV18, kV18⟩ := rowset_step V13 gr ((parOf 100 100 10 8 7 8 20 50000000 3 50 100000000).cells)
  have h19 : V18.heap[gr]? = some (.cells ((parOf 100 100 10 8 7 8 20 50000000 3 50 100000000).cells) 24 (0, 0)) := eV18 ▸ setRow_heap _ _ _ _ _ _ h14
  refine ps_s (o_r7Default 6 2) (w' := V18) (by rw [← eV18]; exact exec_store_row 24 (.tmp 0) (.tmp 2) (by kernel_rfl) gr ((parOf 100 100 10 8 7 8 20 50000000 3 50 100000000).cells) (by kernel_rfl) (by kernel_rfl) 24 (#[.int .i64 0, .int .i64 0, .int .i64 0, .int .i64 0, .int .i64 0, .int .i64 0, .int .i64 0, .int .u64 0, .int .u64 0, .int .i64 0, .int .u64 0]) h14 (by kernel_rfl) rfl (by kernel_rfl)) ?_
  clear eV18
  have h20 := kV18.bo h15 (by omega)
  have K21 := K16.no kV18 (by omega)
  have z22 := kV18.size
  refine ps_end ?_
  refine then_n ?_
  refine sy_ret (by kernel_rfl) ?_
  refine sy_out (.agg ((parOf 100 100 10 8 7 8 20 50000000 3 50 100000000).cells)) rfl (results_cell_row (p := 0) (ty := 24) (by kernel_rfl) _ _ gr 24 ((parOf 100 100 10 8 7 8 20 50000000 3 50 100000000).cells) (0, 0) _ (by kernel_rfl) h19 Tryd.underlying24 rfl (by kernel_rfl)) ?_
  exact ⟨rfl, K21⟩
theorem I_get (xs : List Int) (i : Nat) (h : i < xs.length) : (I xs).toArray[i]? = some (.int .i64 (xs[i]?.getD 0)) := by
  simp [I, List.getElem?_eq_getElem h]
theorem Par.r_len (p : Par) : p.r.length = 11 := rfl
theorem pfind_cases (s : ByteArray) : pfind s = -1 ∨ ∃ i : Nat, i < 11 ∧ pfind s = (i : Int) := by
  unfold pfind
  cases h : parName.findIdx? (fun x => decide (x = s)) with
  | none => exact .inl rfl
  | some i =>
    rw [List.findIdx?_eq_some_iff_getElem] at h
    obtain ⟨h1, _⟩ := h
    exact .inr ⟨i, h1, rfl⟩
theorem Par.check_0 {p : Par} (h : p.check.1 = 0) : (∀ j, j < 11 → p.good j) ∧ p.mage ≤ p.unb := by
  by_cases hg : ∀ j, j < 11 → p.good j
  · refine ⟨hg, ?_⟩
    rw [p.check_good hg] at h
    split at h
    · cases h
    · omega
  · exfalso
    obtain ⟨i, hi, hb, hm⟩ : ∃ i, i < 11 ∧ ¬ p.good i ∧ ∀ j, j < i → p.good j := by
      have : ∃ i, i < 11 ∧ ¬ p.good i := by
        refine Classical.byContradiction fun hc => hg fun j hj => Classical.byContradiction fun hn => hc ⟨j, hj, hn⟩
      obtain ⟨i, h1, h2⟩ := this
      induction i using Nat.strongRecOn with
      | ind i ih =>
        by_cases hq : ∀ j, j < i → p.good j
        · exact ⟨i, h1, h2, hq⟩
        · have : ∃ j, j < i ∧ ¬ p.good j := Classical.byContradiction fun hc => hq fun j hj => Classical.byContradiction fun hn => hc ⟨j, hj, hn⟩
          obtain ⟨j, hj, hn⟩ := this
          exact ih j hj (by omega) hn
    rw [p.check_bad i hi hm hb] at h
    cases h
theorem parLo_nn (i : Nat) : 0 ≤ parLo[i]?.getD 0 := by
  by_cases h : i < 11
  · have h' : i = 0 ∨ i = 1 ∨ i = 2 ∨ i = 3 ∨ i = 4 ∨ i = 5 ∨ i = 6 ∨ i = 7 ∨ i = 8 ∨ i = 9 ∨ i = 10 := by omega
    rcases h' with rfl | rfl | rfl | rfl | rfl | rfl | rfl | rfl | rfl | rfl | rfl <;> decide
  · rw [List.getElem?_eq_none (by show 11 ≤ i; omega)]; decide
theorem parHi_le (i : Nat) : parHi[i]?.getD 0 ≤ 1000000000 := by
  by_cases h : i < 11
  · have h' : i = 0 ∨ i = 1 ∨ i = 2 ∨ i = 3 ∨ i = 4 ∨ i = 5 ∨ i = 6 ∨ i = 7 ∨ i = 8 ∨ i = 9 ∨ i = 10 := by omega
    rcases h' with rfl | rfl | rfl | rfl | rfl | rfl | rfl | rfl | rfl | rfl | rfl <;> decide
  · rw [List.getElem?_eq_none (by show 11 ≤ i; omega)]; decide
theorem Par.r_in {p : Par} (h : ∀ j, j < 11 → p.good j) (i : Nat) (hi : i < 11) : 0 ≤ p.r[i]?.getD 0 ∧ p.r[i]?.getD 0 ≤ 9223372036854775807 ∧ p.r[i]?.getD 0 = p.l[i]?.getD 0 := by
  have h1 := (p.good_r i hi).1 (h i hi)
  have h2 := h i hi
  have := parLo_nn i; have := parHi_le i
  refine ⟨by omega, by omega, ?_⟩
  unfold Par.good at h2
  have h' : i = 0 ∨ i = 1 ∨ i = 2 ∨ i = 3 ∨ i = 4 ∨ i = 5 ∨ i = 6 ∨ i = 7 ∨ i = 8 ∨ i = 9 ∨ i = 10 := by omega
  rcases h' with rfl | rfl | rfl | rfl | rfl | rfl | rfl | rfl | rfl | rfl | rfl <;> first | rfl | (simp [Par.r, Par.l, parHi] at h2 ⊢; omega)
theorem r7Check_is (p : Par) (x : Int) (w : World) (hp : p.Ok) (h : p.check.1 = x) : Calls Tryd.prog 10 #[.agg p.cells] w fun e w' => e = .returned (.tuple #[.int .i64 x, .int .i64 p.check.2]) ∧ Keeps Nob w w' := h ▸ r7Check_ok p hp w
theorem pCheck_is (p : Par) (x : Int) (w : World) (hp : p.Ok) (h : p.check.1 = x) : Calls Tryd.prog 9 #[.agg p.cells] w fun e w' => e = .returned (.tuple #[.int .i64 x, .int .i64 p.check.2]) ∧ Keeps Nob w w' := h ▸ pCheck_ok p hp w
theorem r7find_is (s : ByteArray) (x : Int) (w : World) (h : pfind s = x) : Calls Tryd.prog 40 #[.string s] w fun e w' => e = .returned (.int .i64 x) ∧ Keeps Nob w w' := h ▸ r7find_ok s w
/-- What a field of a name is. -/
def pget (p : Par) (s : ByteArray) : Int × Int := if p.check.1 = 0 then (if pfind s = -1 then (0, 10) else (p.l[(pfind s).toNat]?.getD 0, 0)) else (0, p.check.1)
noncomputable def part_r7Get (n : Nat) : Code := partOf Tryd.f12 n
noncomputable abbrev o_r7Get (n k : Nat) : Oper := (opsAt (part_r7Get n)).getD k default
set_option maxRecDepth 100000 in
set_option maxHeartbeats 4000000 in
theorem r7Get_bad (p : Par) (s : ByteArray) (w : World) (hp : p.Ok) (hc : ¬ p.check.1 = 0) :
    Calls Tryd.prog 12 #[.agg p.cells, .string s] w (fun e w' => e = .returned (.tuple #[.int .u64 (pget p s).1, .int .i64 (pget p s).2]) ∧ Keeps Nob w w') := by
  have K0 : Keeps Nob w w := Keeps.refl _ _
  refine sy_enter (part_r7Get 1) ⟨#[.agg p.cells, .string s, undef, undef, undef, undef, undef, undef, undef, undef, undef, undef, undef, undef, undef, undef, undef, undef, undef, undef, undef, undef, undef, undef, undef, undef, undef], []⟩ Tryd.func12 (by kernel_rfl) (by kernel_rfl) ?_
  refine sy_sq (part_r7Get 2) (part_r7Get 3) ?_
  refine sy_reg ?_
  refine rg_plain 0 (opsAt (part_r7Get 2)) [0, 1, 2] (by kernel_rfl) (by kernel_rfl) ?_
  obtain ⟨V1, eV1, gm, egm, h2, kV1⟩ := alloc_step w p.cells 24
  have n3 : w.heap.size ≤ gm := egm ▸ K0.size
  refine ps_r (o_r7Get 2 0) (pT gm 0) (w' := V1) (by rw [← eV1, ← egm]; exact exec_box 24 (.tmp 0) (by kernel_rfl) (.agg p.cells) (by kernel_rfl)) ?_
  clear eV1
  have K4 := K0.nn kV1
  have z5 := kV1.size
  refine ps_k (o_r7Get 2 1) (.int .u64 0) ?_
  refine ps_k (o_r7Get 2 2) (.int .i64 0) ?_
  refine ps_end ?_
  refine then_n ?_
  refine sy_sq (part_r7Get 6) (part_r7Get 7) ?_
  refine sy_sq (part_r7Get 12) (part_r7Get 13) ?_
  refine sy_reg ?_
  refine rg_plain 1 (opsAt (part_r7Get 12)) [0, 1, 2, 3, 4, 5, 6] (by kernel_rfl) (by kernel_rfl) ?_
  refine ps_p (o_r7Get 12 0) (.agg (p.cells)) (exec_load_row 24 (.tmp 2) (by kernel_rfl) gm (by kernel_rfl) _ _ (0, 0) _ (h2) Tryd.underlying24 rfl (by kernel_rfl)) ?_
  refine ps_c (o_r7Get 12 1) 10 #[.agg (p.cells)] Tryd.func10 ((r7Check_is p _ _ hp rfl).mono ?_)
  rintro e V6 ⟨rfl, kV6⟩
  refine ⟨_, rfl, ?_⟩
  have h7 := kV6.bk h2
  have K8 := K4.nn kV6
  have z9 := kV6.size
  refine ps_k (o_r7Get 12 2) (.tuple #[.int .i64 p.check.1, .int .i64 p.check.2]) ?_
  refine ps_k (o_r7Get 12 3) (.int .i64 p.check.1) ?_
  refine ps_k (o_r7Get 12 4) (.int .i64 p.check.2) ?_
  refine ps_k (o_r7Get 12 5) (.int .i64 p.check.1) ?_
  refine ps_k (o_r7Get 12 6) (.int .i64 p.check.2) ?_
  refine ps_end ?_
  refine then_n ?_
  refine sy_sq (part_r7Get 26) (part_r7Get 27) ?_
  refine sy_reg ?_
  refine rg_plain 2 (opsAt (part_r7Get 26)) [0, 1] (by kernel_rfl) (by kernel_rfl) ?_
  refine ps_k (o_r7Get 26 0) (.int .i64 p.check.1) ?_
  refine ps_p (o_r7Get 26 1) (.bool true) (nqt ((p.check.1) : Int) ((0) : Int) (by omega)) ?_
  refine ps_end ?_
  refine then_n ?_
  refine sy_ys (.tmp 15) (part_r7Get 54) (part_r7Get 55) ?_
  refine sy_sq (part_r7Get 108) (part_r7Get 109) ?_
  refine sy_reg ?_
  refine rg_plain 3 (opsAt (part_r7Get 108)) [0, 1, 2] (by kernel_rfl) (by kernel_rfl) ?_
  refine ps_k (o_r7Get 108 0) (.int .i64 p.check.1) ?_
  refine ps_k (o_r7Get 108 1) (.int .u64 0) ?_
  refine ps_k (o_r7Get 108 2) (.int .i64 p.check.1) ?_
  refine ps_end ?_
  refine then_n ?_
  refine sy_ret (by kernel_rfl) ?_
  refine then_r ?_
  refine sy_out (.tuple #[.int .u64 0, .int .i64 p.check.1]) rfl (by kernel_rfl) ?_
  exact ⟨by rw [pget, if_neg hc], K8⟩
set_option maxRecDepth 100000 in
set_option maxHeartbeats 4000000 in
theorem r7Get_none (p : Par) (s : ByteArray) (w : World) (hp : p.Ok) (hc : p.check.1 = 0) (hf : pfind s = -1) :
    Calls Tryd.prog 12 #[.agg p.cells, .string s] w (fun e w' => e = .returned (.tuple #[.int .u64 (pget p s).1, .int .i64 (pget p s).2]) ∧ Keeps Nob w w') := by
  have K0 : Keeps Nob w w := Keeps.refl _ _
  refine sy_enter (part_r7Get 1) ⟨#[.agg p.cells, .string s, undef, undef, undef, undef, undef, undef, undef, undef, undef, undef, undef, undef, undef, undef, undef, undef, undef, undef, undef, undef, undef, undef, undef, undef, undef], []⟩ Tryd.func12 (by kernel_rfl) (by kernel_rfl) ?_
  refine sy_sq (part_r7Get 2) (part_r7Get 3) ?_
  refine sy_reg ?_
  refine rg_plain 0 (opsAt (part_r7Get 2)) [0, 1, 2] (by kernel_rfl) (by kernel_rfl) ?_
  obtain ⟨V1, eV1, gm, egm, h2, kV1⟩ := alloc_step w p.cells 24
  have n3 : w.heap.size ≤ gm := egm ▸ K0.size
  refine ps_r (o_r7Get 2 0) (pT gm 0) (w' := V1) (by rw [← eV1, ← egm]; exact exec_box 24 (.tmp 0) (by kernel_rfl) (.agg p.cells) (by kernel_rfl)) ?_
  clear eV1
  have K4 := K0.nn kV1
  have z5 := kV1.size
  refine ps_k (o_r7Get 2 1) (.int .u64 0) ?_
  refine ps_k (o_r7Get 2 2) (.int .i64 0) ?_
  refine ps_end ?_
  refine then_n ?_
  refine sy_sq (part_r7Get 6) (part_r7Get 7) ?_
  refine sy_sq (part_r7Get 12) (part_r7Get 13) ?_
  refine sy_reg ?_
  refine rg_plain 1 (opsAt (part_r7Get 12)) [0, 1, 2, 3, 4, 5, 6] (by kernel_rfl) (by kernel_rfl) ?_
  refine ps_p (o_r7Get 12 0) (.agg (p.cells)) (exec_load_row 24 (.tmp 2) (by kernel_rfl) gm (by kernel_rfl) _ _ (0, 0) _ (h2) Tryd.underlying24 rfl (by kernel_rfl)) ?_
  refine ps_c (o_r7Get 12 1) 10 #[.agg (p.cells)] Tryd.func10 ((r7Check_is p 0 _ hp hc).mono ?_)
  rintro e V6 ⟨rfl, kV6⟩
  refine ⟨_, rfl, ?_⟩
  have h7 := kV6.bk h2
  have K8 := K4.nn kV6
  have z9 := kV6.size
  refine ps_k (o_r7Get 12 2) (.tuple #[.int .i64 0, .int .i64 p.check.2]) ?_
  refine ps_k (o_r7Get 12 3) (.int .i64 0) ?_
  refine ps_k (o_r7Get 12 4) (.int .i64 p.check.2) ?_
  refine ps_k (o_r7Get 12 5) (.int .i64 0) ?_
  refine ps_k (o_r7Get 12 6) (.int .i64 p.check.2) ?_
  refine ps_end ?_
  refine then_n ?_
  refine sy_sq (part_r7Get 26) (part_r7Get 27) ?_
  refine sy_reg ?_
  refine rg_plain 2 (opsAt (part_r7Get 26)) [0, 1] (by kernel_rfl) (by kernel_rfl) ?_
  refine ps_k (o_r7Get 26 0) (.int .i64 0) ?_
  refine ps_k (o_r7Get 26 1) (.bool false) ?_
  refine ps_end ?_
  refine then_n ?_
  refine sy_n (.tmp 15) (part_r7Get 54) (part_r7Get 55) ?_
  refine sy_sk ?_
  refine then_n ?_
  refine sy_sq (part_r7Get 14) (part_r7Get 15) ?_
  refine sy_reg ?_
  refine rg_plain 4 (opsAt (part_r7Get 14)) [0, 1, 2] (by kernel_rfl) (by kernel_rfl) ?_
  refine ps_k (o_r7Get 14 0) (.string s) ?_
  refine ps_c (o_r7Get 14 1) 40 #[.string s] Tryd.func40 ((r7find_is s _ _ hf).mono ?_)
  rintro e V10 ⟨rfl, kV10⟩
  refine ⟨_, rfl, ?_⟩
  have h11 := kV10.bk h7
  have K12 := K8.nn kV10
  have z13 := kV10.size
  refine ps_k (o_r7Get 14 2) (.int .i64 (-1)) ?_
  refine ps_end ?_
  refine then_n ?_
  refine sy_sq (part_r7Get 30) (part_r7Get 31) ?_
  refine sy_sq (part_r7Get 60) (part_r7Get 61) ?_
  refine sy_reg ?_
  refine rg_plain 5 (opsAt (part_r7Get 60)) [0, 1] (by kernel_rfl) (by kernel_rfl) ?_
  refine ps_k (o_r7Get 60 0) (.int .i64 (-1)) ?_
  refine ps_p (o_r7Get 60 1) (.bool true) (dct (((-1) : Int) < ((0) : Int)) (by omega)) ?_
  refine ps_end ?_
  refine then_n ?_
  refine sy_ys (.tmp 20) (part_r7Get 122) (part_r7Get 123) ?_
  refine sy_sq (part_r7Get 244) (part_r7Get 245) ?_
  refine sy_reg ?_
  refine rg_plain 6 (opsAt (part_r7Get 244)) [0, 1] (by kernel_rfl) (by kernel_rfl) ?_
  refine ps_k (o_r7Get 244 0) (.int .u64 0) ?_
  refine ps_k (o_r7Get 244 1) (.int .i64 10) ?_
  refine ps_end ?_
  refine then_n ?_
  refine sy_ret (by kernel_rfl) ?_
  refine then_r ?_
  refine sy_out (.tuple #[.int .u64 0, .int .i64 10]) rfl (by kernel_rfl) ?_
  exact ⟨by rw [pget, if_pos hc, if_pos hf], K12⟩
set_option maxRecDepth 100000 in
set_option maxHeartbeats 4000000 in
theorem r7Get_hit (p : Par) (s : ByteArray) (w : World) (hp : p.Ok) (i : Nat) (hi : i < 11) (hc : p.check.1 = 0) (hf : pfind s = (i : Int)) :
    Calls Tryd.prog 12 #[.agg p.cells, .string s] w (fun e w' => e = .returned (.tuple #[.int .u64 (pget p s).1, .int .i64 (pget p s).2]) ∧ Keeps Nob w w') := by
  have hri := Par.r_in (Par.check_0 hc).1 i hi
  have K0 : Keeps Nob w w := Keeps.refl _ _
  refine sy_enter (part_r7Get 1) ⟨#[.agg p.cells, .string s, undef, undef, undef, undef, undef, undef, undef, undef, undef, undef, undef, undef, undef, undef, undef, undef, undef, undef, undef, undef, undef, undef, undef, undef, undef], []⟩ Tryd.func12 (by kernel_rfl) (by kernel_rfl) ?_
  refine sy_sq (part_r7Get 2) (part_r7Get 3) ?_
  refine sy_reg ?_
  refine rg_plain 0 (opsAt (part_r7Get 2)) [0, 1, 2] (by kernel_rfl) (by kernel_rfl) ?_
  obtain ⟨V1, eV1, gm, egm, h2, kV1⟩ := alloc_step w p.cells 24
  have n3 : w.heap.size ≤ gm := egm ▸ K0.size
  refine ps_r (o_r7Get 2 0) (pT gm 0) (w' := V1) (by rw [← eV1, ← egm]; exact exec_box 24 (.tmp 0) (by kernel_rfl) (.agg p.cells) (by kernel_rfl)) ?_
  clear eV1
  have K4 := K0.nn kV1
  have z5 := kV1.size
  refine ps_k (o_r7Get 2 1) (.int .u64 0) ?_
  refine ps_k (o_r7Get 2 2) (.int .i64 0) ?_
  refine ps_end ?_
  refine then_n ?_
  refine sy_sq (part_r7Get 6) (part_r7Get 7) ?_
  refine sy_sq (part_r7Get 12) (part_r7Get 13) ?_
  refine sy_reg ?_
  refine rg_plain 1 (opsAt (part_r7Get 12)) [0, 1, 2, 3, 4, 5, 6] (by kernel_rfl) (by kernel_rfl) ?_
  refine ps_p (o_r7Get 12 0) (.agg (p.cells)) (exec_load_row 24 (.tmp 2) (by kernel_rfl) gm (by kernel_rfl) _ _ (0, 0) _ (h2) Tryd.underlying24 rfl (by kernel_rfl)) ?_
  refine ps_c (o_r7Get 12 1) 10 #[.agg (p.cells)] Tryd.func10 ((r7Check_is p 0 _ hp hc).mono ?_)
  rintro e V6 ⟨rfl, kV6⟩
  refine ⟨_, rfl, ?_⟩
  have h7 := kV6.bk h2
  have K8 := K4.nn kV6
  have z9 := kV6.size
  refine ps_k (o_r7Get 12 2) (.tuple #[.int .i64 0, .int .i64 p.check.2]) ?_
  refine ps_k (o_r7Get 12 3) (.int .i64 0) ?_
  refine ps_k (o_r7Get 12 4) (.int .i64 p.check.2) ?_
  refine ps_k (o_r7Get 12 5) (.int .i64 0) ?_
  refine ps_k (o_r7Get 12 6) (.int .i64 p.check.2) ?_
  refine ps_end ?_
  refine then_n ?_
  refine sy_sq (part_r7Get 26) (part_r7Get 27) ?_
  refine sy_reg ?_
  refine rg_plain 2 (opsAt (part_r7Get 26)) [0, 1] (by kernel_rfl) (by kernel_rfl) ?_
  refine ps_k (o_r7Get 26 0) (.int .i64 0) ?_
  refine ps_k (o_r7Get 26 1) (.bool false) ?_
  refine ps_end ?_
  refine then_n ?_
  refine sy_n (.tmp 15) (part_r7Get 54) (part_r7Get 55) ?_
  refine sy_sk ?_
  refine then_n ?_
  refine sy_sq (part_r7Get 14) (part_r7Get 15) ?_
  refine sy_reg ?_
  refine rg_plain 4 (opsAt (part_r7Get 14)) [0, 1, 2] (by kernel_rfl) (by kernel_rfl) ?_
  refine ps_k (o_r7Get 14 0) (.string s) ?_
  refine ps_c (o_r7Get 14 1) 40 #[.string s] Tryd.func40 ((r7find_is s _ _ hf).mono ?_)
  rintro e V10 ⟨rfl, kV10⟩
  refine ⟨_, rfl, ?_⟩
  have h11 := kV10.bk h7
  have K12 := K8.nn kV10
  have z13 := kV10.size
  refine ps_k (o_r7Get 14 2) (iN i) ?_
  refine ps_end ?_
  refine then_n ?_
  refine sy_sq (part_r7Get 30) (part_r7Get 31) ?_
  refine sy_sq (part_r7Get 60) (part_r7Get 61) ?_
  refine sy_reg ?_
  refine rg_plain 5 (opsAt (part_r7Get 60)) [0, 1] (by kernel_rfl) (by kernel_rfl) ?_
  refine ps_k (o_r7Get 60 0) (iN i) ?_
  refine ps_p (o_r7Get 60 1) (.bool false) (dcf ((((i : Nat) : Int)) < ((0) : Int)) (by omega)) ?_
  refine ps_end ?_
  refine then_n ?_
  refine sy_n (.tmp 20) (part_r7Get 122) (part_r7Get 123) ?_
  refine sy_sk ?_
  refine then_n ?_
  refine sy_sq (part_r7Get 62) (part_r7Get 63) ?_
  refine sy_reg ?_
  refine rg_plain 7 (opsAt (part_r7Get 62)) [0, 1, 2, 3, 4, 5, 6, 7] (by kernel_rfl) (by kernel_rfl) ?_
  refine ps_p (o_r7Get 62 0) (.agg (p.cells)) (exec_load_row 24 (.tmp 2) (by kernel_rfl) gm (by kernel_rfl) _ _ (0, 0) _ (h11) Tryd.underlying24 rfl (by kernel_rfl)) ?_
  refine ps_c (o_r7Get 62 1) 36 #[.agg (p.cells)] Tryd.func36 ((kFields_blk p _ hp).mono ?_)
  rintro e V14 ⟨g, rfl, hg, hgw, kV14⟩
  refine ⟨_, rfl, ?_⟩
  have h15 := kV14.bk h11
  have K16 := K12.nn kV14
  have z17 := kV14.size
  refine ps_k (o_r7Get 62 2) (iN i) ?_
  refine ps_p (o_r7Get 62 3) (pT g i) (exec_cast (v := pT g (0 + i * 1)) (by simp) (exec_indexAt_slice 55 (.tmp 22) (.tmp 23) (by kernel_rfl) g 0 11 11 (by kernel_rfl) .i64 i (by kernel_rfl) _ 1 Tryd.underlying55 (by kernel_rfl) (by omega))) ?_
  refine ps_p (o_r7Get 62 4) (.int .i64 (p.r[i]?.getD 0)) (exec_ld 3 (.tmp 24) g i Tryd.underlying3 (rc hg (I_get _ _ hi))) ?_
  refine ps_r (o_r7Get 62 5) (.int .u64 (p.r[i]?.getD 0)) (w' := V14) (exec_convert 3 22 (.tmp 25) (by kernel_rfl) _ (by kernel_rfl) (conv_i64 _ _ hri.1 hri.2.1)) ?_
  refine ps_k (o_r7Get 62 6) (.int .u64 (p.r[i]?.getD 0)) ?_
  refine ps_k (o_r7Get 62 7) (.int .i64 0) ?_
  refine ps_end ?_
  refine sy_a ⟨#[.agg p.cells, .string s, pT gm 0, undef, .int .u64 (p.r[i]?.getD 0), .int .i64 0, .int .i64 0, .int .i64 p.check.2, iN i, .tuple #[.int .i64 0, .int .i64 p.check.2], .agg (p.cells), .tuple #[.int .i64 0, .int .i64 p.check.2], .int .i64 0, .int .i64 p.check.2, .int .i64 0, .bool false, undef, .string s, iN i, iN i, .bool false, .agg (p.cells), .slice (some ⟨g, 0, none⟩) 11 11, iN i, pT g i, .int .i64 (p.r[i]?.getD 0), .int .u64 (p.r[i]?.getD 0)], []⟩ ?_
  refine then_n ?_
  refine sy_ret (by kernel_rfl) ?_
  refine sy_out (.tuple #[.int .u64 (p.r[i]?.getD 0), .int .i64 0]) rfl (by kernel_rfl) ?_
  exact ⟨by rw [pget, if_pos hc, if_neg (by omega), hf, Int.toNat_natCast, ← hri.2.2], K16⟩
theorem r7Get_ok (p : Par) (s : ByteArray) (w : World) (hp : p.Ok) : Calls Tryd.prog 12 #[.agg p.cells, .string s] w (fun e w' => e = .returned (.tuple #[.int .u64 (pget p s).1, .int .i64 (pget p s).2]) ∧ Keeps Nob w w') := by
  by_cases hc : p.check.1 = 0
  · rcases pfind_cases s with hf | ⟨i, hi, hf⟩
    · exact r7Get_none p s w hp hc hf
    · exact r7Get_hit p s w hp i hi hc hf
  · exact r7Get_bad p s w hp hc
/-- The params of a list. -/
def parOfL (l : List Int) : Par := parOf (l[0]?.getD 0) (l[1]?.getD 0) (l[2]?.getD 0) (l[3]?.getD 0) (l[4]?.getD 0) (l[5]?.getD 0) (l[6]?.getD 0) (l[7]?.getD 0) (l[8]?.getD 0) (l[9]?.getD 0) (l[10]?.getD 0)
theorem eleven {l : List Int} (h : l.length = 11) : l = [l[0]?.getD 0, l[1]?.getD 0, l[2]?.getD 0, l[3]?.getD 0, l[4]?.getD 0, l[5]?.getD 0, l[6]?.getD 0, l[7]?.getD 0, l[8]?.getD 0, l[9]?.getD 0, l[10]?.getD 0] := by
  match l, h with
  | [a, b, c, d, e, f, g, i, j, k, m], _ => rfl
theorem kRecord_list (g : Nat) (l : List Int) (w : World) (hl : l.length = 11) (h0 : w.heap[g]? = some (.cells (I l).toArray 3 (0, 0))) (hq : ∀ i, i < 11 → 0 ≤ l[i]?.getD 0 ∧ l[i]?.getD 0 ≤ 9223372036854775807) : Calls Tryd.prog 41 #[.slice (some ⟨g, 0, none⟩) 11 11] w (fun e w' => e = .returned (.agg (parOfL l).cells) ∧ Keeps Nob w w') :=
  kRecord_ok g _ _ _ _ _ _ _ _ _ _ _ w (by rw [← eleven hl]; exact h0) (hq 7 (by omega)) (hq 8 (by omega)) (hq 10 (by omega))
theorem I_set (xs : List Int) (i : Nat) (x : Int) : (I xs).toArray.setIfInBounds i (.int .i64 x) = (I (xs.set i x)).toArray := by simp [I, List.map_set]
def parZ : Par := ⟨0, 0, 0, 0, 0, 0, 0, 0, 0, 0, 0⟩
/-- The params with another number in a field. -/
def pwith (p : Par) (i : Nat) (n : Nat) : Par := parOfL (p.r.set i (min (n : Int) 1099511627776))
theorem set_in {p : Par} (h : ∀ j, j < 11 → p.good j) (i n : Nat) : ∀ k, k < 11 → 0 ≤ (p.r.set i (min (n : Int) 1099511627776))[k]?.getD 0 ∧ (p.r.set i (min (n : Int) 1099511627776))[k]?.getD 0 ≤ 9223372036854775807 := by
  intro k hk
  have := Par.r_in h k hk
  rw [List.getElem?_set]
  split
  · split
    · simp only [Option.getD_some]; omega
    · simp only [Option.getD_none]; omega
  · exact ⟨this.1, this.2.1⟩
theorem pwith_Ok {p : Par} (h : ∀ j, j < 11 → p.good j) (i n : Nat) : (pwith p i n).Ok := by
  have H := set_in h i n
  have ii : ∀ k, k < 11 → i64ok ((p.r.set i (min (n : Int) 1099511627776))[k]?.getD 0) := fun k hk => ⟨by have := H k hk; omega, (H k hk).2⟩
  have uu : ∀ k, k < 11 → u64ok ((p.r.set i (min (n : Int) 1099511627776))[k]?.getD 0) := fun k hk => ⟨(H k hk).1, by have := H k hk; omega⟩
  exact ⟨ii 0 (by omega), ii 1 (by omega), ii 2 (by omega), ii 3 (by omega), ii 4 (by omega), ii 5 (by omega), ii 6 (by omega), uu 7 (by omega), uu 8 (by omega), ii 9 (by omega), uu 10 (by omega)⟩
def pset (p : Par) (s : ByteArray) (n : Nat) : Par × Int :=
  if p.check.1 = 0 then (if pfind s = -1 then (parZ, 10) else (if (pwith p (pfind s).toNat n).check.1 = 0 then (pwith p (pfind s).toNat n, 0) else (parZ, (pwith p (pfind s).toNat n).check.1))) else (parZ, p.check.1)
noncomputable def part_r7Set (n : Nat) : Code := partOf Tryd.f14 n
noncomputable abbrev o_r7Set (n k : Nat) : Oper := (opsAt (part_r7Set n)).getD k default
set_option maxRecDepth 100000 in
set_option maxHeartbeats 4000000 in
theorem r7Set_bad (p : Par) (s : ByteArray) (n : Nat) (w : World) (hp : p.Ok) (hc : ¬ p.check.1 = 0) :
    Calls Tryd.prog 14 #[.agg p.cells, .string s, .int .u64 ((n : Nat) : Int)] w (fun e w' => e = .returned (.tuple #[.agg (pset p s n).1.cells, .int .i64 (pset p s n).2]) ∧ Keeps Nob w w') := by
  have K0 : Keeps Nob w w := Keeps.refl _ _
  refine sy_enter (part_r7Set 1) ⟨#[.agg p.cells, .string s, uN n, undef, undef, undef, undef, undef, undef, undef, undef, undef, undef, undef, undef, undef, undef, undef, undef, undef, undef, undef, undef, undef, undef, undef, undef, undef, undef, undef, undef, undef, undef, undef, undef, undef, undef, undef, undef, undef, undef, undef, undef, undef, undef, undef, undef, undef, undef], []⟩ Tryd.func14 (by kernel_rfl) (by kernel_rfl) ?_
  refine sy_sq (part_r7Set 2) (part_r7Set 3) ?_
  refine sy_reg ?_
  refine rg_plain 0 (opsAt (part_r7Set 2)) [0, 1, 2] (by kernel_rfl) (by kernel_rfl) ?_
  obtain ⟨V1, eV1, gm, egm, h2, kV1⟩ := alloc_step w p.cells 24
  have n3 : w.heap.size ≤ gm := egm ▸ K0.size
  refine ps_r (o_r7Set 2 0) (pT gm 0) (w' := V1) (by rw [← eV1, ← egm]; exact exec_box 24 (.tmp 0) (by kernel_rfl) (.agg p.cells) (by kernel_rfl)) ?_
  clear eV1
  have K4 := K0.nn kV1
  have z5 := kV1.size
  obtain ⟨V6, eV6, go, ego, h7, kV6⟩ := alloc_step V1 (#[.int .i64 0, .int .i64 0, .int .i64 0, .int .i64 0, .int .i64 0, .int .i64 0, .int .i64 0, .int .u64 0, .int .u64 0, .int .i64 0, .int .u64 0]) 24
  have n8 : gm < go := ego ▸ lt_of_block h2
  have n9 : w.heap.size ≤ go := ego ▸ K4.size
  refine ps_r (o_r7Set 2 1) (pT go 0) (w' := V6) (by rw [← eV6, ← ego]; exact exec_alloc0 24 (by kernel_rfl) (.agg (#[.int .i64 0, .int .i64 0, .int .i64 0, .int .i64 0, .int .i64 0, .int .i64 0, .int .i64 0, .int .u64 0, .int .u64 0, .int .i64 0, .int .u64 0])) (by kernel_rfl)) ?_
  clear eV6
  have h10 := kV6.bk h2
  have K11 := K4.nn kV6
  have z12 := kV6.size
  refine ps_k (o_r7Set 2 2) (.int .i64 0) ?_
  refine ps_end ?_
  refine then_n ?_
  refine sy_sq (part_r7Set 6) (part_r7Set 7) ?_
  refine sy_sq (part_r7Set 12) (part_r7Set 13) ?_
  refine sy_reg ?_
  refine rg_plain 1 (opsAt (part_r7Set 12)) [0, 1, 2, 3, 4, 5, 6] (by kernel_rfl) (by kernel_rfl) ?_
  refine ps_p (o_r7Set 12 0) (.agg (p.cells)) (exec_load_row 24 (.tmp 3) (by kernel_rfl) gm (by kernel_rfl) _ _ (0, 0) _ (h10) Tryd.underlying24 rfl (by kernel_rfl)) ?_
  refine ps_c (o_r7Set 12 1) 10 #[.agg (p.cells)] Tryd.func10 ((r7Check_is p _ _ hp rfl).mono ?_)
  rintro e V13 ⟨rfl, kV13⟩
  refine ⟨_, rfl, ?_⟩
  have h14 := kV13.bk h10
  have h15 := kV13.bk h7
  have K16 := K11.nn kV13
  have z17 := kV13.size
  refine ps_k (o_r7Set 12 2) (.tuple #[.int .i64 p.check.1, .int .i64 p.check.2]) ?_
  refine ps_k (o_r7Set 12 3) (.int .i64 p.check.1) ?_
  refine ps_k (o_r7Set 12 4) (.int .i64 p.check.2) ?_
  refine ps_k (o_r7Set 12 5) (.int .i64 p.check.1) ?_
  refine ps_k (o_r7Set 12 6) (.int .i64 p.check.2) ?_
  refine ps_end ?_
  refine then_n ?_
  refine sy_sq (part_r7Set 26) (part_r7Set 27) ?_
  refine sy_reg ?_
  refine rg_plain 2 (opsAt (part_r7Set 26)) [0, 1] (by kernel_rfl) (by kernel_rfl) ?_
  refine ps_k (o_r7Set 26 0) (.int .i64 p.check.1) ?_
  refine ps_p (o_r7Set 26 1) (.bool true) (nqt ((p.check.1) : Int) ((0) : Int) (by omega)) ?_
  refine ps_end ?_
  refine then_n ?_
  refine sy_ys (.tmp 21) (part_r7Set 54) (part_r7Set 55) ?_
  refine sy_sq (part_r7Set 108) (part_r7Set 109) ?_
  refine sy_reg ?_
  refine rg_plain 3 (opsAt (part_r7Set 108)) [0, 1, 2, 3] (by kernel_rfl) (by kernel_rfl) ?_
  refine ps_k (o_r7Set 108 0) (.agg parZ.cells) ?_
  refine ps_k (o_r7Set 108 1) (.int .i64 p.check.1) ?_
  obtain ⟨V18, eV18, kV18⟩ := rowset_step V13 go parZ.cells
  have h19 : V18.heap[go]? = some (.cells parZ.cells 24 (0, 0)) := eV18 ▸ setRow_heap _ _ _ _ _ _ h15
  refine ps_s (o_r7Set 108 2) (w' := V18) (by rw [← eV18]; exact exec_store_row 24 (.tmp 6) (.tmp 22) (by kernel_rfl) go parZ.cells (by kernel_rfl) (by kernel_rfl) 24 (#[.int .i64 0, .int .i64 0, .int .i64 0, .int .i64 0, .int .i64 0, .int .i64 0, .int .i64 0, .int .u64 0, .int .u64 0, .int .i64 0, .int .u64 0]) h15 (by kernel_rfl) rfl (by kernel_rfl)) ?_
  clear eV18
  have h20 := kV18.bo h14 (by omega)
  have K21 := K16.no kV18 (by omega)
  have z22 := kV18.size
  refine ps_k (o_r7Set 108 3) (.int .i64 p.check.1) ?_
  refine ps_end ?_
  refine then_n ?_
  refine sy_ret (by kernel_rfl) ?_
  refine then_r ?_
  refine sy_out (.tuple #[.agg parZ.cells, .int .i64 p.check.1]) rfl (results_row_tmp (p := 6) (q := 7) (ty := 24) (by kernel_rfl) _ _ go 24 parZ.cells (0, 0) _ (.int .i64 p.check.1) (by kernel_rfl) h19 Tryd.underlying24 rfl (by kernel_rfl) (by kernel_rfl)) ?_
  exact ⟨by rw [pset, if_neg hc], K21⟩
set_option maxRecDepth 100000 in
set_option maxHeartbeats 4000000 in
theorem r7Set_none (p : Par) (s : ByteArray) (n : Nat) (w : World) (hp : p.Ok) (hc : p.check.1 = 0) (hf : pfind s = -1) :
    Calls Tryd.prog 14 #[.agg p.cells, .string s, .int .u64 ((n : Nat) : Int)] w (fun e w' => e = .returned (.tuple #[.agg (pset p s n).1.cells, .int .i64 (pset p s n).2]) ∧ Keeps Nob w w') := by
  have K0 : Keeps Nob w w := Keeps.refl _ _
  refine sy_enter (part_r7Set 1) ⟨#[.agg p.cells, .string s, uN n, undef, undef, undef, undef, undef, undef, undef, undef, undef, undef, undef, undef, undef, undef, undef, undef, undef, undef, undef, undef, undef, undef, undef, undef, undef, undef, undef, undef, undef, undef, undef, undef, undef, undef, undef, undef, undef, undef, undef, undef, undef, undef, undef, undef, undef, undef], []⟩ Tryd.func14 (by kernel_rfl) (by kernel_rfl) ?_
  refine sy_sq (part_r7Set 2) (part_r7Set 3) ?_
  refine sy_reg ?_
  refine rg_plain 0 (opsAt (part_r7Set 2)) [0, 1, 2] (by kernel_rfl) (by kernel_rfl) ?_
  obtain ⟨V1, eV1, gm, egm, h2, kV1⟩ := alloc_step w p.cells 24
  have n3 : w.heap.size ≤ gm := egm ▸ K0.size
  refine ps_r (o_r7Set 2 0) (pT gm 0) (w' := V1) (by rw [← eV1, ← egm]; exact exec_box 24 (.tmp 0) (by kernel_rfl) (.agg p.cells) (by kernel_rfl)) ?_
  clear eV1
  have K4 := K0.nn kV1
  have z5 := kV1.size
  obtain ⟨V6, eV6, go, ego, h7, kV6⟩ := alloc_step V1 (#[.int .i64 0, .int .i64 0, .int .i64 0, .int .i64 0, .int .i64 0, .int .i64 0, .int .i64 0, .int .u64 0, .int .u64 0, .int .i64 0, .int .u64 0]) 24
  have n8 : gm < go := ego ▸ lt_of_block h2
  have n9 : w.heap.size ≤ go := ego ▸ K4.size
  refine ps_r (o_r7Set 2 1) (pT go 0) (w' := V6) (by rw [← eV6, ← ego]; exact exec_alloc0 24 (by kernel_rfl) (.agg (#[.int .i64 0, .int .i64 0, .int .i64 0, .int .i64 0, .int .i64 0, .int .i64 0, .int .i64 0, .int .u64 0, .int .u64 0, .int .i64 0, .int .u64 0])) (by kernel_rfl)) ?_
  clear eV6
  have h10 := kV6.bk h2
  have K11 := K4.nn kV6
  have z12 := kV6.size
  refine ps_k (o_r7Set 2 2) (.int .i64 0) ?_
  refine ps_end ?_
  refine then_n ?_
  refine sy_sq (part_r7Set 6) (part_r7Set 7) ?_
  refine sy_sq (part_r7Set 12) (part_r7Set 13) ?_
  refine sy_reg ?_
  refine rg_plain 1 (opsAt (part_r7Set 12)) [0, 1, 2, 3, 4, 5, 6] (by kernel_rfl) (by kernel_rfl) ?_
  refine ps_p (o_r7Set 12 0) (.agg (p.cells)) (exec_load_row 24 (.tmp 3) (by kernel_rfl) gm (by kernel_rfl) _ _ (0, 0) _ (h10) Tryd.underlying24 rfl (by kernel_rfl)) ?_
  refine ps_c (o_r7Set 12 1) 10 #[.agg (p.cells)] Tryd.func10 ((r7Check_is p _ _ hp hc).mono ?_)
  rintro e V13 ⟨rfl, kV13⟩
  refine ⟨_, rfl, ?_⟩
  have h14 := kV13.bk h10
  have h15 := kV13.bk h7
  have K16 := K11.nn kV13
  have z17 := kV13.size
  refine ps_k (o_r7Set 12 2) (.tuple #[.int .i64 0, .int .i64 p.check.2]) ?_
  refine ps_k (o_r7Set 12 3) (.int .i64 0) ?_
  refine ps_k (o_r7Set 12 4) (.int .i64 p.check.2) ?_
  refine ps_k (o_r7Set 12 5) (.int .i64 0) ?_
  refine ps_k (o_r7Set 12 6) (.int .i64 p.check.2) ?_
  refine ps_end ?_
  refine then_n ?_
  refine sy_sq (part_r7Set 26) (part_r7Set 27) ?_
  refine sy_reg ?_
  refine rg_plain 2 (opsAt (part_r7Set 26)) [0, 1] (by kernel_rfl) (by kernel_rfl) ?_
  refine ps_k (o_r7Set 26 0) (.int .i64 0) ?_
  refine ps_k (o_r7Set 26 1) (.bool false) ?_
  refine ps_end ?_
  refine then_n ?_
  refine sy_n (.tmp 21) (part_r7Set 54) (part_r7Set 55) ?_
  refine sy_sk ?_
  refine then_n ?_
  refine sy_sq (part_r7Set 14) (part_r7Set 15) ?_
  refine sy_reg ?_
  refine rg_plain 4 (opsAt (part_r7Set 14)) [0, 1, 2] (by kernel_rfl) (by kernel_rfl) ?_
  refine ps_k (o_r7Set 14 0) (.string s) ?_
  refine ps_c (o_r7Set 14 1) 40 #[.string s] Tryd.func40 ((r7find_is s _ _ hf).mono ?_)
  rintro e V18 ⟨rfl, kV18⟩
  refine ⟨_, rfl, ?_⟩
  have h19 := kV18.bk h14
  have h20 := kV18.bk h15
  have K21 := K16.nn kV18
  have z22 := kV18.size
  refine ps_k (o_r7Set 14 2) (.int .i64 (-1)) ?_
  refine ps_end ?_
  refine then_n ?_
  refine sy_sq (part_r7Set 30) (part_r7Set 31) ?_
  refine sy_sq (part_r7Set 60) (part_r7Set 61) ?_
  refine sy_reg ?_
  refine rg_plain 5 (opsAt (part_r7Set 60)) [0, 1] (by kernel_rfl) (by kernel_rfl) ?_
  refine ps_k (o_r7Set 60 0) (.int .i64 (-1)) ?_
  refine ps_p (o_r7Set 60 1) (.bool true) (dct (((-1) : Int) < ((0) : Int)) (by omega)) ?_
  refine ps_end ?_
  refine then_n ?_
  refine sy_ys (.tmp 27) (part_r7Set 122) (part_r7Set 123) ?_
  refine sy_sq (part_r7Set 244) (part_r7Set 245) ?_
  refine sy_reg ?_
  refine rg_plain 6 (opsAt (part_r7Set 244)) [0, 1, 2] (by kernel_rfl) (by kernel_rfl) ?_
  refine ps_k (o_r7Set 244 0) (.agg parZ.cells) ?_
  obtain ⟨V23, eV23, kV23⟩ := rowset_step V18 go parZ.cells
  have h24 : V23.heap[go]? = some (.cells parZ.cells 24 (0, 0)) := eV23 ▸ setRow_heap _ _ _ _ _ _ h20
  refine ps_s (o_r7Set 244 1) (w' := V23) (by rw [← eV23]; exact exec_store_row 24 (.tmp 6) (.tmp 28) (by kernel_rfl) go parZ.cells (by kernel_rfl) (by kernel_rfl) 24 (#[.int .i64 0, .int .i64 0, .int .i64 0, .int .i64 0, .int .i64 0, .int .i64 0, .int .i64 0, .int .u64 0, .int .u64 0, .int .i64 0, .int .u64 0]) h20 (by kernel_rfl) rfl (by kernel_rfl)) ?_
  clear eV23
  have h25 := kV23.bo h19 (by omega)
  have K26 := K21.no kV23 (by omega)
  have z27 := kV23.size
  refine ps_k (o_r7Set 244 2) (.int .i64 10) ?_
  refine ps_end ?_
  refine then_n ?_
  refine sy_ret (by kernel_rfl) ?_
  refine then_r ?_
  refine sy_out (.tuple #[.agg parZ.cells, .int .i64 10]) rfl (results_row_tmp (p := 6) (q := 7) (ty := 24) (by kernel_rfl) _ _ go 24 parZ.cells (0, 0) _ (.int .i64 10) (by kernel_rfl) h24 Tryd.underlying24 rfl (by kernel_rfl) (by kernel_rfl)) ?_
  exact ⟨by rw [pset, if_pos hc, if_pos hf], K26⟩
set_option maxRecDepth 100000 in
set_option maxHeartbeats 4000000 in
theorem r7Set_no (p : Par) (s : ByteArray) (n : Nat) (w : World) (hp : p.Ok) (i : Nat) (hi : i < 11) (hc : p.check.1 = 0) (hf : pfind s = (i : Int)) (hq0 : ¬ (pwith p i n).check.1 = 0) :
    Calls Tryd.prog 14 #[.agg p.cells, .string s, .int .u64 ((n : Nat) : Int)] w (fun e w' => e = .returned (.tuple #[.agg (pset p s n).1.cells, .int .i64 (pset p s n).2]) ∧ Keeps Nob w w') := by
  have hqo := pwith_Ok (Par.check_0 hc).1 i n
  have K0 : Keeps Nob w w := Keeps.refl _ _
  refine sy_enter (part_r7Set 1) ⟨#[.agg p.cells, .string s, uN n, undef, undef, undef, undef, undef, undef, undef, undef, undef, undef, undef, undef, undef, undef, undef, undef, undef, undef, undef, undef, undef, undef, undef, undef, undef, undef, undef, undef, undef, undef, undef, undef, undef, undef, undef, undef, undef, undef, undef, undef, undef, undef, undef, undef, undef, undef], []⟩ Tryd.func14 (by kernel_rfl) (by kernel_rfl) ?_
  refine sy_sq (part_r7Set 2) (part_r7Set 3) ?_
  refine sy_reg ?_
  refine rg_plain 0 (opsAt (part_r7Set 2)) [0, 1, 2] (by kernel_rfl) (by kernel_rfl) ?_
  obtain ⟨V1, eV1, gm, egm, h2, kV1⟩ := alloc_step w p.cells 24
  have n3 : w.heap.size ≤ gm := egm ▸ K0.size
  refine ps_r (o_r7Set 2 0) (pT gm 0) (w' := V1) (by rw [← eV1, ← egm]; exact exec_box 24 (.tmp 0) (by kernel_rfl) (.agg p.cells) (by kernel_rfl)) ?_
  clear eV1
  have K4 := K0.nn kV1
  have z5 := kV1.size
  obtain ⟨V6, eV6, go, ego, h7, kV6⟩ := alloc_step V1 (#[.int .i64 0, .int .i64 0, .int .i64 0, .int .i64 0, .int .i64 0, .int .i64 0, .int .i64 0, .int .u64 0, .int .u64 0, .int .i64 0, .int .u64 0]) 24
  have n8 : gm < go := ego ▸ lt_of_block h2
  have n9 : w.heap.size ≤ go := ego ▸ K4.size
  refine ps_r (o_r7Set 2 1) (pT go 0) (w' := V6) (by rw [← eV6, ← ego]; exact exec_alloc0 24 (by kernel_rfl) (.agg (#[.int .i64 0, .int .i64 0, .int .i64 0, .int .i64 0, .int .i64 0, .int .i64 0, .int .i64 0, .int .u64 0, .int .u64 0, .int .i64 0, .int .u64 0])) (by kernel_rfl)) ?_
  clear eV6
  have h10 := kV6.bk h2
  have K11 := K4.nn kV6
  have z12 := kV6.size
  refine ps_k (o_r7Set 2 2) (.int .i64 0) ?_
  refine ps_end ?_
  refine then_n ?_
  refine sy_sq (part_r7Set 6) (part_r7Set 7) ?_
  refine sy_sq (part_r7Set 12) (part_r7Set 13) ?_
  refine sy_reg ?_
  refine rg_plain 1 (opsAt (part_r7Set 12)) [0, 1, 2, 3, 4, 5, 6] (by kernel_rfl) (by kernel_rfl) ?_
  refine ps_p (o_r7Set 12 0) (.agg (p.cells)) (exec_load_row 24 (.tmp 3) (by kernel_rfl) gm (by kernel_rfl) _ _ (0, 0) _ (h10) Tryd.underlying24 rfl (by kernel_rfl)) ?_
  refine ps_c (o_r7Set 12 1) 10 #[.agg (p.cells)] Tryd.func10 ((r7Check_is p _ _ hp hc).mono ?_)
  rintro e V13 ⟨rfl, kV13⟩
  refine ⟨_, rfl, ?_⟩
  have h14 := kV13.bk h10
  have h15 := kV13.bk h7
  have K16 := K11.nn kV13
  have z17 := kV13.size
  refine ps_k (o_r7Set 12 2) (.tuple #[.int .i64 0, .int .i64 p.check.2]) ?_
  refine ps_k (o_r7Set 12 3) (.int .i64 0) ?_
  refine ps_k (o_r7Set 12 4) (.int .i64 p.check.2) ?_
  refine ps_k (o_r7Set 12 5) (.int .i64 0) ?_
  refine ps_k (o_r7Set 12 6) (.int .i64 p.check.2) ?_
  refine ps_end ?_
  refine then_n ?_
  refine sy_sq (part_r7Set 26) (part_r7Set 27) ?_
  refine sy_reg ?_
  refine rg_plain 2 (opsAt (part_r7Set 26)) [0, 1] (by kernel_rfl) (by kernel_rfl) ?_
  refine ps_k (o_r7Set 26 0) (.int .i64 0) ?_
  refine ps_k (o_r7Set 26 1) (.bool false) ?_
  refine ps_end ?_
  refine then_n ?_
  refine sy_n (.tmp 21) (part_r7Set 54) (part_r7Set 55) ?_
  refine sy_sk ?_
  refine then_n ?_
  refine sy_sq (part_r7Set 14) (part_r7Set 15) ?_
  refine sy_reg ?_
  refine rg_plain 4 (opsAt (part_r7Set 14)) [0, 1, 2] (by kernel_rfl) (by kernel_rfl) ?_
  refine ps_k (o_r7Set 14 0) (.string s) ?_
  refine ps_c (o_r7Set 14 1) 40 #[.string s] Tryd.func40 ((r7find_is s _ _ hf).mono ?_)
  rintro e V18 ⟨rfl, kV18⟩
  refine ⟨_, rfl, ?_⟩
  have h19 := kV18.bk h14
  have h20 := kV18.bk h15
  have K21 := K16.nn kV18
  have z22 := kV18.size
  refine ps_k (o_r7Set 14 2) (iN i) ?_
  refine ps_end ?_
  refine then_n ?_
  refine sy_sq (part_r7Set 30) (part_r7Set 31) ?_
  refine sy_sq (part_r7Set 60) (part_r7Set 61) ?_
  refine sy_reg ?_
  refine rg_plain 5 (opsAt (part_r7Set 60)) [0, 1] (by kernel_rfl) (by kernel_rfl) ?_
  refine ps_k (o_r7Set 60 0) (iN i) ?_
  refine ps_p (o_r7Set 60 1) (.bool false) (dcf ((((i : Nat) : Int)) < ((0) : Int)) (by omega)) ?_
  refine ps_end ?_
  refine then_n ?_
  refine sy_n (.tmp 27) (part_r7Set 122) (part_r7Set 123) ?_
  refine sy_sk ?_
  refine then_n ?_
  refine sy_sq (part_r7Set 62) (part_r7Set 63) ?_
  refine sy_reg ?_
  refine rg_plain 7 (opsAt (part_r7Set 62)) [0, 1, 2] (by kernel_rfl) (by kernel_rfl) ?_
  refine ps_p (o_r7Set 62 0) (.agg (p.cells)) (exec_load_row 24 (.tmp 3) (by kernel_rfl) gm (by kernel_rfl) _ _ (0, 0) _ (h19) Tryd.underlying24 rfl (by kernel_rfl)) ?_
  have hgo5 := lt_of_block h20
  refine ps_c (o_r7Set 62 1) 36 #[.agg (p.cells)] Tryd.func36 ((kFields_blk p _ hp).mono ?_)
  rintro e V23 ⟨g, rfl, hg, hgw, kV23⟩
  refine ⟨_, rfl, ?_⟩
  have h24 := kV23.bk h19
  have h25 := kV23.bk h20
  have K26 := K21.nn kV23
  have z27 := kV23.size
  refine ps_k (o_r7Set 62 2) (.slice (some ⟨g, 0, none⟩) 11 11) ?_
  refine ps_end ?_
  refine then_n ?_
  refine sy_sq (part_r7Set 126) (part_r7Set 127) ?_
  refine sy_reg ?_
  refine rg_plain 8 (opsAt (part_r7Set 126)) [0, 1, 2, 3, 4, 5, 6] (by kernel_rfl) (by kernel_rfl) ?_
  refine ps_k (o_r7Set 126 0) (.slice (some ⟨g, 0, none⟩) 11 11) ?_
  refine ps_k (o_r7Set 126 1) (iN i) ?_
  refine ps_k (o_r7Set 126 2) (uN n) ?_
  refine ps_p (o_r7Set 126 3) (.int .u64 (min (n : Int) 1099511627776)) (exec_min (.tmp 33) (.const (.int .u64 1099511627776)) #[22, 22] (by kernel_rfl) .u64 (n : Int) 1099511627776 (by kernel_rfl) (by kernel_rfl)) ?_
  refine ps_r (o_r7Set 126 4) (.int .i64 (min (n : Int) 1099511627776)) (w' := V23) (exec_convert 22 3 (.tmp 34) (by kernel_rfl) _ (by kernel_rfl) (conv_u64 _ _ (by omega) (by omega))) ?_
  refine ps_p (o_r7Set 126 5) (pT g i) (exec_cast (v := pT g (0 + i * 1)) (by simp) (exec_indexAt_slice 55 (.tmp 31) (.tmp 32) (by kernel_rfl) g 0 11 11 (by kernel_rfl) .i64 i (by kernel_rfl) _ 1 Tryd.underlying55 (by kernel_rfl) (by omega))) ?_
  obtain ⟨V28, eV28, kV28⟩ := cell_step V23 g i (.int .i64 (min (n : Int) 1099511627776))
  have h29 : V28.heap[g]? = some (.cells ((I (p.r.set i (min (n : Int) 1099511627776))).toArray) 3 (0, 0)) := eV28 ▸ ((heap_setCell_same _ g i _ _ (.int .i64 (min (n : Int) 1099511627776)) hg).trans (congrArg (fun c => some (Obj.cells c 3 (0, 0))) (show ((I p.r).toArray : Array Value).setIfInBounds i (.int .i64 (min (n : Int) 1099511627776)) = (I (p.r.set i (min (n : Int) 1099511627776))).toArray from I_set _ _ _)))
  refine ps_s (o_r7Set 126 6) (w' := V28) (by rw [← eV28]; exact exec_store_cell 3 (.tmp 36) (.tmp 35) (by kernel_rfl) g i (by kernel_rfl) (.int .i64 (min (n : Int) 1099511627776)) (by kernel_rfl) (by kernel_rfl) (by kernel_rfl) (.int .i64 (p.r[i]?.getD 0)) (rc (hg) (I_get _ _ hi)) (frozen_of_row _ _ _ _ _ hg) (by kernel_rfl)) ?_
  clear eV28
  have h30 := kV28.bo h24 (by omega)
  have h31 := kV28.bo h25 (by omega)
  have K32 := K26.no kV28 (by omega)
  have z33 := kV28.size
  refine ps_end ?_
  refine sy_a ⟨#[.agg p.cells, .string s, uN n, pT gm 0, undef, undef, pT go 0, .int .i64 0, .int .i64 0, .int .i64 p.check.2, iN i, .slice (some ⟨g, 0, none⟩) 11 11, undef, undef, undef, .tuple #[.int .i64 0, .int .i64 p.check.2], .agg (p.cells), .tuple #[.int .i64 0, .int .i64 p.check.2], .int .i64 0, .int .i64 p.check.2, .int .i64 0, .bool false, undef, undef, .string s, iN i, iN i, .bool false, undef, .agg (p.cells), .slice (some ⟨g, 0, none⟩) 11 11, .slice (some ⟨g, 0, none⟩) 11 11, iN i, uN n, .int .u64 (min (n : Int) 1099511627776), .int .i64 (min (n : Int) 1099511627776), pT g i, undef, undef, undef, undef, undef, undef, undef, undef, undef, undef, undef, undef], []⟩ ?_
  refine then_n ?_
  refine sy_sq (part_r7Set 254) (part_r7Set 255) ?_
  refine sy_reg ?_
  refine rg_plain 9 (opsAt (part_r7Set 254)) [0, 1, 2, 3] (by kernel_rfl) (by kernel_rfl) ?_
  refine ps_k (o_r7Set 254 0) (.slice (some ⟨g, 0, none⟩) 11 11) ?_
  refine ps_c (o_r7Set 254 1) 41 #[.slice (some ⟨g, 0, none⟩) 11 11] Tryd.func41 ((kRecord_list g _ _ (by rw [List.length_set]; rfl) h29 (set_in (Par.check_0 hc).1 i n)).mono ?_)
  rintro e V34 ⟨rfl, kV34⟩
  refine ⟨_, rfl, ?_⟩
  have h35 := kV34.bk h30
  have h36 := kV34.bk h31
  have h37 := kV34.bk h29
  have K38 := K32.nn kV34
  have z39 := kV34.size
  obtain ⟨V40, eV40, gq, egq, h41, kV40⟩ := alloc_step V34 (#[.int .i64 0, .int .i64 0, .int .i64 0, .int .i64 0, .int .i64 0, .int .i64 0, .int .i64 0, .int .u64 0, .int .u64 0, .int .i64 0, .int .u64 0]) 24
  have n42 : gm < gq := egq ▸ lt_of_block h35
  have n43 : go < gq := egq ▸ lt_of_block h36
  have n44 : g < gq := egq ▸ lt_of_block h37
  have n45 : w.heap.size ≤ gq := egq ▸ K38.size
  refine ps_r (o_r7Set 254 2) (pT gq 0) (w' := V40) (by rw [← eV40, ← egq]; exact exec_alloc0 24 (by kernel_rfl) (.agg (#[.int .i64 0, .int .i64 0, .int .i64 0, .int .i64 0, .int .i64 0, .int .i64 0, .int .i64 0, .int .u64 0, .int .u64 0, .int .i64 0, .int .u64 0])) (by kernel_rfl)) ?_
  clear eV40
  have h46 := kV40.bk h35
  have h47 := kV40.bk h36
  have h48 := kV40.bk h37
  have K49 := K38.nn kV40
  have z50 := kV40.size
  obtain ⟨V51, eV51, kV51⟩ := rowset_step V40 gq ((pwith p i n).cells)
  have h52 : V51.heap[gq]? = some (.cells ((pwith p i n).cells) 24 (0, 0)) := eV51 ▸ setRow_heap _ _ _ _ _ _ h41
  refine ps_s (o_r7Set 254 3) (w' := V51) (by rw [← eV51]; exact exec_store_row 24 (.tmp 12) (.tmp 38) (by kernel_rfl) gq ((pwith p i n).cells) (by kernel_rfl) (by kernel_rfl) 24 (#[.int .i64 0, .int .i64 0, .int .i64 0, .int .i64 0, .int .i64 0, .int .i64 0, .int .i64 0, .int .u64 0, .int .u64 0, .int .i64 0, .int .u64 0]) h41 (by kernel_rfl) rfl (by kernel_rfl)) ?_
  clear eV51
  have h53 := kV51.bo h46 (by omega)
  have h54 := kV51.bo h47 (by omega)
  have h55 := kV51.bo h48 (by omega)
  have K56 := K49.no kV51 (by omega)
  have z57 := kV51.size
  refine ps_end ?_
  refine then_n ?_
  refine sy_sq (part_r7Set 510) (part_r7Set 511) ?_
  refine sy_sq (part_r7Set 1020) (part_r7Set 1021) ?_
  refine sy_reg ?_
  refine rg_plain 10 (opsAt (part_r7Set 1020)) [0, 1, 2, 3, 4, 5, 6] (by kernel_rfl) (by kernel_rfl) ?_
  refine ps_p (o_r7Set 1020 0) (.agg ((pwith p i n).cells)) (exec_load_row 24 (.tmp 12) (by kernel_rfl) gq (by kernel_rfl) _ _ (0, 0) _ (h52) Tryd.underlying24 rfl (by kernel_rfl)) ?_
  refine ps_c (o_r7Set 1020 1) 10 #[.agg ((pwith p i n).cells)] Tryd.func10 ((r7Check_is (pwith p i n) _ _ hqo rfl).mono ?_)
  rintro e V58 ⟨rfl, kV58⟩
  refine ⟨_, rfl, ?_⟩
  have h59 := kV58.bk h53
  have h60 := kV58.bk h54
  have h61 := kV58.bk h55
  have h62 := kV58.bk h52
  have K63 := K56.nn kV58
  have z64 := kV58.size
  refine ps_k (o_r7Set 1020 2) (.tuple #[.int .i64 (pwith p i n).check.1, .int .i64 (pwith p i n).check.2]) ?_
  refine ps_k (o_r7Set 1020 3) (.int .i64 (pwith p i n).check.1) ?_
  refine ps_k (o_r7Set 1020 4) (.int .i64 (pwith p i n).check.2) ?_
  refine ps_k (o_r7Set 1020 5) (.int .i64 (pwith p i n).check.1) ?_
  refine ps_k (o_r7Set 1020 6) (.int .i64 (pwith p i n).check.2) ?_
  refine ps_end ?_
  refine then_n ?_
  refine sy_sq (part_r7Set 2042) (part_r7Set 2043) ?_
  refine sy_reg ?_
  refine rg_plain 11 (opsAt (part_r7Set 2042)) [0, 1] (by kernel_rfl) (by kernel_rfl) ?_
  refine ps_k (o_r7Set 2042 0) (.int .i64 (pwith p i n).check.1) ?_
  refine ps_p (o_r7Set 2042 1) (.bool true) (nqt (((pwith p i n).check.1) : Int) ((0) : Int) (by omega)) ?_
  refine ps_end ?_
  refine then_n ?_
  refine sy_ys (.tmp 45) (part_r7Set 4086) (part_r7Set 4087) ?_
  refine sy_sq (part_r7Set 8172) (part_r7Set 8173) ?_
  refine sy_reg ?_
  refine rg_plain 12 (opsAt (part_r7Set 8172)) [0, 1, 2, 3] (by kernel_rfl) (by kernel_rfl) ?_
  refine ps_k (o_r7Set 8172 0) (.agg parZ.cells) ?_
  refine ps_k (o_r7Set 8172 1) (.int .i64 (pwith p i n).check.1) ?_
  obtain ⟨V65, eV65, kV65⟩ := rowset_step V58 go parZ.cells
  have h66 : V65.heap[go]? = some (.cells parZ.cells 24 (0, 0)) := eV65 ▸ setRow_heap _ _ _ _ _ _ h60
  refine ps_s (o_r7Set 8172 2) (w' := V65) (by rw [← eV65]; exact exec_store_row 24 (.tmp 6) (.tmp 46) (by kernel_rfl) go parZ.cells (by kernel_rfl) (by kernel_rfl) 24 (#[.int .i64 0, .int .i64 0, .int .i64 0, .int .i64 0, .int .i64 0, .int .i64 0, .int .i64 0, .int .u64 0, .int .u64 0, .int .i64 0, .int .u64 0]) h60 (by kernel_rfl) rfl (by kernel_rfl)) ?_
  clear eV65
  have h67 := kV65.bo h59 (by omega)
  have h68 := kV65.bo h61 (by omega)
  have h69 := kV65.bo h62 (by omega)
  have K70 := K63.no kV65 (by omega)
  have z71 := kV65.size
  refine ps_k (o_r7Set 8172 3) (.int .i64 (pwith p i n).check.1) ?_
  refine ps_end ?_
  refine then_n ?_
  refine sy_ret (by kernel_rfl) ?_
  refine then_r ?_
  refine sy_out (.tuple #[.agg parZ.cells, .int .i64 (pwith p i n).check.1]) rfl (results_row_tmp (p := 6) (q := 7) (ty := 24) (by kernel_rfl) _ _ go 24 parZ.cells (0, 0) _ (.int .i64 (pwith p i n).check.1) (by kernel_rfl) h66 Tryd.underlying24 rfl (by kernel_rfl) (by kernel_rfl)) ?_
  exact ⟨by rw [pset, if_pos hc, if_neg (by omega), hf, Int.toNat_natCast, if_neg hq0], K70⟩
set_option maxRecDepth 100000 in
set_option maxHeartbeats 4000000 in
theorem r7Set_yes (p : Par) (s : ByteArray) (n : Nat) (w : World) (hp : p.Ok) (i : Nat) (hi : i < 11) (hc : p.check.1 = 0) (hf : pfind s = (i : Int)) (hq0 : (pwith p i n).check.1 = 0) :
    Calls Tryd.prog 14 #[.agg p.cells, .string s, .int .u64 ((n : Nat) : Int)] w (fun e w' => e = .returned (.tuple #[.agg (pset p s n).1.cells, .int .i64 (pset p s n).2]) ∧ Keeps Nob w w') := by
  have hqo := pwith_Ok (Par.check_0 hc).1 i n
  have K0 : Keeps Nob w w := Keeps.refl _ _
  refine sy_enter (part_r7Set 1) ⟨#[.agg p.cells, .string s, uN n, undef, undef, undef, undef, undef, undef, undef, undef, undef, undef, undef, undef, undef, undef, undef, undef, undef, undef, undef, undef, undef, undef, undef, undef, undef, undef, undef, undef, undef, undef, undef, undef, undef, undef, undef, undef, undef, undef, undef, undef, undef, undef, undef, undef, undef, undef], []⟩ Tryd.func14 (by kernel_rfl) (by kernel_rfl) ?_
  refine sy_sq (part_r7Set 2) (part_r7Set 3) ?_
  refine sy_reg ?_
  refine rg_plain 0 (opsAt (part_r7Set 2)) [0, 1, 2] (by kernel_rfl) (by kernel_rfl) ?_
  obtain ⟨V1, eV1, gm, egm, h2, kV1⟩ := alloc_step w p.cells 24
  have n3 : w.heap.size ≤ gm := egm ▸ K0.size
  refine ps_r (o_r7Set 2 0) (pT gm 0) (w' := V1) (by rw [← eV1, ← egm]; exact exec_box 24 (.tmp 0) (by kernel_rfl) (.agg p.cells) (by kernel_rfl)) ?_
  clear eV1
  have K4 := K0.nn kV1
  have z5 := kV1.size
  obtain ⟨V6, eV6, go, ego, h7, kV6⟩ := alloc_step V1 (#[.int .i64 0, .int .i64 0, .int .i64 0, .int .i64 0, .int .i64 0, .int .i64 0, .int .i64 0, .int .u64 0, .int .u64 0, .int .i64 0, .int .u64 0]) 24
  have n8 : gm < go := ego ▸ lt_of_block h2
  have n9 : w.heap.size ≤ go := ego ▸ K4.size
  refine ps_r (o_r7Set 2 1) (pT go 0) (w' := V6) (by rw [← eV6, ← ego]; exact exec_alloc0 24 (by kernel_rfl) (.agg (#[.int .i64 0, .int .i64 0, .int .i64 0, .int .i64 0, .int .i64 0, .int .i64 0, .int .i64 0, .int .u64 0, .int .u64 0, .int .i64 0, .int .u64 0])) (by kernel_rfl)) ?_
  clear eV6
  have h10 := kV6.bk h2
  have K11 := K4.nn kV6
  have z12 := kV6.size
  refine ps_k (o_r7Set 2 2) (.int .i64 0) ?_
  refine ps_end ?_
  refine then_n ?_
  refine sy_sq (part_r7Set 6) (part_r7Set 7) ?_
  refine sy_sq (part_r7Set 12) (part_r7Set 13) ?_
  refine sy_reg ?_
  refine rg_plain 1 (opsAt (part_r7Set 12)) [0, 1, 2, 3, 4, 5, 6] (by kernel_rfl) (by kernel_rfl) ?_
  refine ps_p (o_r7Set 12 0) (.agg (p.cells)) (exec_load_row 24 (.tmp 3) (by kernel_rfl) gm (by kernel_rfl) _ _ (0, 0) _ (h10) Tryd.underlying24 rfl (by kernel_rfl)) ?_
  refine ps_c (o_r7Set 12 1) 10 #[.agg (p.cells)] Tryd.func10 ((r7Check_is p _ _ hp hc).mono ?_)
  rintro e V13 ⟨rfl, kV13⟩
  refine ⟨_, rfl, ?_⟩
  have h14 := kV13.bk h10
  have h15 := kV13.bk h7
  have K16 := K11.nn kV13
  have z17 := kV13.size
  refine ps_k (o_r7Set 12 2) (.tuple #[.int .i64 0, .int .i64 p.check.2]) ?_
  refine ps_k (o_r7Set 12 3) (.int .i64 0) ?_
  refine ps_k (o_r7Set 12 4) (.int .i64 p.check.2) ?_
  refine ps_k (o_r7Set 12 5) (.int .i64 0) ?_
  refine ps_k (o_r7Set 12 6) (.int .i64 p.check.2) ?_
  refine ps_end ?_
  refine then_n ?_
  refine sy_sq (part_r7Set 26) (part_r7Set 27) ?_
  refine sy_reg ?_
  refine rg_plain 2 (opsAt (part_r7Set 26)) [0, 1] (by kernel_rfl) (by kernel_rfl) ?_
  refine ps_k (o_r7Set 26 0) (.int .i64 0) ?_
  refine ps_k (o_r7Set 26 1) (.bool false) ?_
  refine ps_end ?_
  refine then_n ?_
  refine sy_n (.tmp 21) (part_r7Set 54) (part_r7Set 55) ?_
  refine sy_sk ?_
  refine then_n ?_
  refine sy_sq (part_r7Set 14) (part_r7Set 15) ?_
  refine sy_reg ?_
  refine rg_plain 4 (opsAt (part_r7Set 14)) [0, 1, 2] (by kernel_rfl) (by kernel_rfl) ?_
  refine ps_k (o_r7Set 14 0) (.string s) ?_
  refine ps_c (o_r7Set 14 1) 40 #[.string s] Tryd.func40 ((r7find_is s _ _ hf).mono ?_)
  rintro e V18 ⟨rfl, kV18⟩
  refine ⟨_, rfl, ?_⟩
  have h19 := kV18.bk h14
  have h20 := kV18.bk h15
  have K21 := K16.nn kV18
  have z22 := kV18.size
  refine ps_k (o_r7Set 14 2) (iN i) ?_
  refine ps_end ?_
  refine then_n ?_
  refine sy_sq (part_r7Set 30) (part_r7Set 31) ?_
  refine sy_sq (part_r7Set 60) (part_r7Set 61) ?_
  refine sy_reg ?_
  refine rg_plain 5 (opsAt (part_r7Set 60)) [0, 1] (by kernel_rfl) (by kernel_rfl) ?_
  refine ps_k (o_r7Set 60 0) (iN i) ?_
  refine ps_p (o_r7Set 60 1) (.bool false) (dcf ((((i : Nat) : Int)) < ((0) : Int)) (by omega)) ?_
  refine ps_end ?_
  refine then_n ?_
  refine sy_n (.tmp 27) (part_r7Set 122) (part_r7Set 123) ?_
  refine sy_sk ?_
  refine then_n ?_
  refine sy_sq (part_r7Set 62) (part_r7Set 63) ?_
  refine sy_reg ?_
  refine rg_plain 7 (opsAt (part_r7Set 62)) [0, 1, 2] (by kernel_rfl) (by kernel_rfl) ?_
  refine ps_p (o_r7Set 62 0) (.agg (p.cells)) (exec_load_row 24 (.tmp 3) (by kernel_rfl) gm (by kernel_rfl) _ _ (0, 0) _ (h19) Tryd.underlying24 rfl (by kernel_rfl)) ?_
  have hgo5 := lt_of_block h20
  refine ps_c (o_r7Set 62 1) 36 #[.agg (p.cells)] Tryd.func36 ((kFields_blk p _ hp).mono ?_)
  rintro e V23 ⟨g, rfl, hg, hgw, kV23⟩
  refine ⟨_, rfl, ?_⟩
  have h24 := kV23.bk h19
  have h25 := kV23.bk h20
  have K26 := K21.nn kV23
  have z27 := kV23.size
  refine ps_k (o_r7Set 62 2) (.slice (some ⟨g, 0, none⟩) 11 11) ?_
  refine ps_end ?_
  refine then_n ?_
  refine sy_sq (part_r7Set 126) (part_r7Set 127) ?_
  refine sy_reg ?_
  refine rg_plain 8 (opsAt (part_r7Set 126)) [0, 1, 2, 3, 4, 5, 6] (by kernel_rfl) (by kernel_rfl) ?_
  refine ps_k (o_r7Set 126 0) (.slice (some ⟨g, 0, none⟩) 11 11) ?_
  refine ps_k (o_r7Set 126 1) (iN i) ?_
  refine ps_k (o_r7Set 126 2) (uN n) ?_
  refine ps_p (o_r7Set 126 3) (.int .u64 (min (n : Int) 1099511627776)) (exec_min (.tmp 33) (.const (.int .u64 1099511627776)) #[22, 22] (by kernel_rfl) .u64 (n : Int) 1099511627776 (by kernel_rfl) (by kernel_rfl)) ?_
  refine ps_r (o_r7Set 126 4) (.int .i64 (min (n : Int) 1099511627776)) (w' := V23) (exec_convert 22 3 (.tmp 34) (by kernel_rfl) _ (by kernel_rfl) (conv_u64 _ _ (by omega) (by omega))) ?_
  refine ps_p (o_r7Set 126 5) (pT g i) (exec_cast (v := pT g (0 + i * 1)) (by simp) (exec_indexAt_slice 55 (.tmp 31) (.tmp 32) (by kernel_rfl) g 0 11 11 (by kernel_rfl) .i64 i (by kernel_rfl) _ 1 Tryd.underlying55 (by kernel_rfl) (by omega))) ?_
  obtain ⟨V28, eV28, kV28⟩ := cell_step V23 g i (.int .i64 (min (n : Int) 1099511627776))
  have h29 : V28.heap[g]? = some (.cells ((I (p.r.set i (min (n : Int) 1099511627776))).toArray) 3 (0, 0)) := eV28 ▸ ((heap_setCell_same _ g i _ _ (.int .i64 (min (n : Int) 1099511627776)) hg).trans (congrArg (fun c => some (Obj.cells c 3 (0, 0))) (show ((I p.r).toArray : Array Value).setIfInBounds i (.int .i64 (min (n : Int) 1099511627776)) = (I (p.r.set i (min (n : Int) 1099511627776))).toArray from I_set _ _ _)))
  refine ps_s (o_r7Set 126 6) (w' := V28) (by rw [← eV28]; exact exec_store_cell 3 (.tmp 36) (.tmp 35) (by kernel_rfl) g i (by kernel_rfl) (.int .i64 (min (n : Int) 1099511627776)) (by kernel_rfl) (by kernel_rfl) (by kernel_rfl) (.int .i64 (p.r[i]?.getD 0)) (rc (hg) (I_get _ _ hi)) (frozen_of_row _ _ _ _ _ hg) (by kernel_rfl)) ?_
  clear eV28
  have h30 := kV28.bo h24 (by omega)
  have h31 := kV28.bo h25 (by omega)
  have K32 := K26.no kV28 (by omega)
  have z33 := kV28.size
  refine ps_end ?_
  refine sy_a ⟨#[.agg p.cells, .string s, uN n, pT gm 0, undef, undef, pT go 0, .int .i64 0, .int .i64 0, .int .i64 p.check.2, iN i, .slice (some ⟨g, 0, none⟩) 11 11, undef, undef, undef, .tuple #[.int .i64 0, .int .i64 p.check.2], .agg (p.cells), .tuple #[.int .i64 0, .int .i64 p.check.2], .int .i64 0, .int .i64 p.check.2, .int .i64 0, .bool false, undef, undef, .string s, iN i, iN i, .bool false, undef, .agg (p.cells), .slice (some ⟨g, 0, none⟩) 11 11, .slice (some ⟨g, 0, none⟩) 11 11, iN i, uN n, .int .u64 (min (n : Int) 1099511627776), .int .i64 (min (n : Int) 1099511627776), pT g i, undef, undef, undef, undef, undef, undef, undef, undef, undef, undef, undef, undef], []⟩ ?_
  refine then_n ?_
  refine sy_sq (part_r7Set 254) (part_r7Set 255) ?_
  refine sy_reg ?_
  refine rg_plain 9 (opsAt (part_r7Set 254)) [0, 1, 2, 3] (by kernel_rfl) (by kernel_rfl) ?_
  refine ps_k (o_r7Set 254 0) (.slice (some ⟨g, 0, none⟩) 11 11) ?_
  refine ps_c (o_r7Set 254 1) 41 #[.slice (some ⟨g, 0, none⟩) 11 11] Tryd.func41 ((kRecord_list g _ _ (by rw [List.length_set]; rfl) h29 (set_in (Par.check_0 hc).1 i n)).mono ?_)
  rintro e V34 ⟨rfl, kV34⟩
  refine ⟨_, rfl, ?_⟩
  have h35 := kV34.bk h30
  have h36 := kV34.bk h31
  have h37 := kV34.bk h29
  have K38 := K32.nn kV34
  have z39 := kV34.size
  obtain ⟨V40, eV40, gq, egq, h41, kV40⟩ := alloc_step V34 (#[.int .i64 0, .int .i64 0, .int .i64 0, .int .i64 0, .int .i64 0, .int .i64 0, .int .i64 0, .int .u64 0, .int .u64 0, .int .i64 0, .int .u64 0]) 24
  have n42 : gm < gq := egq ▸ lt_of_block h35
  have n43 : go < gq := egq ▸ lt_of_block h36
  have n44 : g < gq := egq ▸ lt_of_block h37
  have n45 : w.heap.size ≤ gq := egq ▸ K38.size
  refine ps_r (o_r7Set 254 2) (pT gq 0) (w' := V40) (by rw [← eV40, ← egq]; exact exec_alloc0 24 (by kernel_rfl) (.agg (#[.int .i64 0, .int .i64 0, .int .i64 0, .int .i64 0, .int .i64 0, .int .i64 0, .int .i64 0, .int .u64 0, .int .u64 0, .int .i64 0, .int .u64 0])) (by kernel_rfl)) ?_
  clear eV40
  have h46 := kV40.bk h35
  have h47 := kV40.bk h36
  have h48 := kV40.bk h37
  have K49 := K38.nn kV40
  have z50 := kV40.size
  obtain ⟨V51, eV51, kV51⟩ := rowset_step V40 gq ((pwith p i n).cells)
  have h52 : V51.heap[gq]? = some (.cells ((pwith p i n).cells) 24 (0, 0)) := eV51 ▸ setRow_heap _ _ _ _ _ _ h41
  refine ps_s (o_r7Set 254 3) (w' := V51) (by rw [← eV51]; exact exec_store_row 24 (.tmp 12) (.tmp 38) (by kernel_rfl) gq ((pwith p i n).cells) (by kernel_rfl) (by kernel_rfl) 24 (#[.int .i64 0, .int .i64 0, .int .i64 0, .int .i64 0, .int .i64 0, .int .i64 0, .int .i64 0, .int .u64 0, .int .u64 0, .int .i64 0, .int .u64 0]) h41 (by kernel_rfl) rfl (by kernel_rfl)) ?_
  clear eV51
  have h53 := kV51.bo h46 (by omega)
  have h54 := kV51.bo h47 (by omega)
  have h55 := kV51.bo h48 (by omega)
  have K56 := K49.no kV51 (by omega)
  have z57 := kV51.size
  refine ps_end ?_
  refine then_n ?_
  refine sy_sq (part_r7Set 510) (part_r7Set 511) ?_
  refine sy_sq (part_r7Set 1020) (part_r7Set 1021) ?_
  refine sy_reg ?_
  refine rg_plain 10 (opsAt (part_r7Set 1020)) [0, 1, 2, 3, 4, 5, 6] (by kernel_rfl) (by kernel_rfl) ?_
  refine ps_p (o_r7Set 1020 0) (.agg ((pwith p i n).cells)) (exec_load_row 24 (.tmp 12) (by kernel_rfl) gq (by kernel_rfl) _ _ (0, 0) _ (h52) Tryd.underlying24 rfl (by kernel_rfl)) ?_
  refine ps_c (o_r7Set 1020 1) 10 #[.agg ((pwith p i n).cells)] Tryd.func10 ((r7Check_is (pwith p i n) _ _ hqo hq0).mono ?_)
  rintro e V58 ⟨rfl, kV58⟩
  refine ⟨_, rfl, ?_⟩
  have h59 := kV58.bk h53
  have h60 := kV58.bk h54
  have h61 := kV58.bk h55
  have h62 := kV58.bk h52
  have K63 := K56.nn kV58
  have z64 := kV58.size
  refine ps_k (o_r7Set 1020 2) (.tuple #[.int .i64 0, .int .i64 (pwith p i n).check.2]) ?_
  refine ps_k (o_r7Set 1020 3) (.int .i64 0) ?_
  refine ps_k (o_r7Set 1020 4) (.int .i64 (pwith p i n).check.2) ?_
  refine ps_k (o_r7Set 1020 5) (.int .i64 0) ?_
  refine ps_k (o_r7Set 1020 6) (.int .i64 (pwith p i n).check.2) ?_
  refine ps_end ?_
  refine then_n ?_
  refine sy_sq (part_r7Set 2042) (part_r7Set 2043) ?_
  refine sy_reg ?_
  refine rg_plain 11 (opsAt (part_r7Set 2042)) [0, 1] (by kernel_rfl) (by kernel_rfl) ?_
  refine ps_k (o_r7Set 2042 0) (.int .i64 0) ?_
  refine ps_k (o_r7Set 2042 1) (.bool false) ?_
  refine ps_end ?_
  refine then_n ?_
  refine sy_n (.tmp 45) (part_r7Set 4086) (part_r7Set 4087) ?_
  refine sy_sk ?_
  refine then_n ?_
  refine sy_sq (part_r7Set 1022) (part_r7Set 1023) ?_
  refine sy_reg ?_
  refine rg_plain 13 (opsAt (part_r7Set 1022)) [0, 1, 2] (by kernel_rfl) (by kernel_rfl) ?_
  refine ps_p (o_r7Set 1022 0) (.agg ((pwith p i n).cells)) (exec_load_row 24 (.tmp 12) (by kernel_rfl) gq (by kernel_rfl) _ _ (0, 0) _ (h62) Tryd.underlying24 rfl (by kernel_rfl)) ?_
  obtain ⟨V65, eV65, kV65⟩ := rowset_step V58 go (((pwith p i n).cells))
  have h66 : V65.heap[go]? = some (.cells ((pwith p i n).cells) 24 (0, 0)) := eV65 ▸ setRow_heap _ _ _ _ _ _ h60
  refine ps_s (o_r7Set 1022 1) (w' := V65) (by rw [← eV65]; exact exec_store_row 24 (.tmp 6) (.tmp 48) (by kernel_rfl) go (((pwith p i n).cells)) (by kernel_rfl) (by kernel_rfl) 24 (#[.int .i64 0, .int .i64 0, .int .i64 0, .int .i64 0, .int .i64 0, .int .i64 0, .int .i64 0, .int .u64 0, .int .u64 0, .int .i64 0, .int .u64 0]) h60 (by kernel_rfl) rfl (by kernel_rfl)) ?_
  clear eV65
  have h67 := kV65.bo h59 (by omega)
  have h68 := kV65.bo h61 (by omega)
  have h69 := kV65.bo h62 (by omega)
  have K70 := K63.no kV65 (by omega)
  have z71 := kV65.size
  refine ps_k (o_r7Set 1022 2) (.int .i64 0) ?_
  refine ps_end ?_
  refine then_n ?_
  refine sy_ret (by kernel_rfl) ?_
  refine sy_out (.tuple #[.agg ((pwith p i n).cells), .int .i64 0]) rfl (results_row_tmp (p := 6) (q := 7) (ty := 24) (by kernel_rfl) _ _ go 24 ((pwith p i n).cells) (0, 0) _ (.int .i64 0) (by kernel_rfl) h66 Tryd.underlying24 rfl (by kernel_rfl) (by kernel_rfl)) ?_
  exact ⟨by rw [pset, if_pos hc, if_neg (by omega), hf, Int.toNat_natCast, if_pos hq0], K70⟩
theorem r7Set_ok (p : Par) (s : ByteArray) (n : Nat) (w : World) (hp : p.Ok) : Calls Tryd.prog 14 #[.agg p.cells, .string s, .int .u64 ((n : Nat) : Int)] w (fun e w' => e = .returned (.tuple #[.agg (pset p s n).1.cells, .int .i64 (pset p s n).2]) ∧ Keeps Nob w w') := by
  by_cases hc : p.check.1 = 0
  · rcases pfind_cases s with hf | ⟨i, hi, hf⟩
    · exact r7Set_none p s n w hp hc hf
    · by_cases hq : (pwith p i n).check.1 = 0
      · exact r7Set_yes p s n w hp i hi hc hf hq
      · exact r7Set_no p s n w hp i hi hc hf hq
  · exact r7Set_bad p s n w hp hc
end Go.Proofs.YtpflmldmbpnllaaDoor
