/-
  Messages: all fields of one are gone through (printed by msg3.py). Conditions: none.
-/
import Derived.Test.YtmapcghgdbfmhaaMsgD
namespace Go.Proofs.Ytmapcghgdbfmhaa
open Go Go.RowKit Go.Own Go.Shelf
def kindsC : Array Value := #[.nilFunc, .func (.func 88) #[] #[], .func (.func 89) #[] #[], .func (.func 90) #[] #[], .func (.func 91) #[] #[], .func (.func 92) #[] #[], .func (.func 93) #[] #[], .func (.func 94) #[] #[], .func (.func 95) #[] #[], .func (.func 96) #[] #[], .func (.func 97) #[] #[], .func (.func 98) #[] #[]]

noncomputable def part_mknown (n : Nat) : Code := partOf Try.f40 n
noncomputable abbrev o_mknown (n k : Nat) : Oper := (opsAt (part_mknown n)).getD k default
set_option maxRecDepth 100000 in
set_option maxHeartbeats 4000000 in
theorem mknown_yes (k : Int) (w : World) (h1 : 1 ≤ k) (h2 : k ≤ 11) :
    Calls Try.prog 40 #[.int .i64 k] w (fun e w' => e = .returned (.bool true) ∧ w = w') := by
  have K0 : Keeps Nob w w := Keeps.refl _ _
  refine sy_enter (part_mknown 1) ⟨#[.int .i64 k, undef, undef, undef, undef, undef, undef, undef, undef], []⟩ Try.func40 (by kernel_rfl) (by kernel_rfl) ?_
  refine sy_sq (part_mknown 2) (part_mknown 3) ?_
  refine sy_reg ?_
  refine rg_plain 0 (opsAt (part_mknown 2)) [0] (by kernel_rfl) (by kernel_rfl) ?_
  refine ps_k (o_mknown 2 0) (.bool false) ?_
  refine ps_end ?_
  refine then_n ?_
  refine sy_sq (part_mknown 6) (part_mknown 7) ?_
  refine sy_reg ?_
  refine rg_plain 1 (opsAt (part_mknown 6)) [0, 1, 2, 3, 4, 5, 6] (by kernel_rfl) (by kernel_rfl) ?_
  refine ps_k (o_mknown 6 0) (.int .i64 k) ?_
  refine ps_p (o_mknown 6 1) (.bool true) (dct (((k) : Int) ≥ ((1) : Int)) (by omega)) ?_
  refine ps_k (o_mknown 6 2) (.bool true) ?_
  refine ps_k (o_mknown 6 3) (.int .i64 k) ?_
  refine ps_p (o_mknown 6 4) (.bool true) (dct (((k) : Int) ≤ ((11) : Int)) (by omega)) ?_
  refine ps_k (o_mknown 6 5) (.bool true) ?_
  refine ps_k (o_mknown 6 6) (.bool true) ?_
  refine ps_end ?_
  refine then_n ?_
  refine sy_ret (by kernel_rfl) ?_
  refine sy_out (.bool true) rfl (by kernel_rfl) ?_
  exact ⟨rfl, rfl⟩
set_option maxRecDepth 100000 in
set_option maxHeartbeats 4000000 in
theorem mknown_lo (k : Int) (w : World) (h : k < 1) :
    Calls Try.prog 40 #[.int .i64 k] w (fun e w' => e = .returned (.bool false) ∧ w = w') := by
  have K0 : Keeps Nob w w := Keeps.refl _ _
  refine sy_enter (part_mknown 1) ⟨#[.int .i64 k, undef, undef, undef, undef, undef, undef, undef, undef], []⟩ Try.func40 (by kernel_rfl) (by kernel_rfl) ?_
  refine sy_sq (part_mknown 2) (part_mknown 3) ?_
  refine sy_reg ?_
  refine rg_plain 0 (opsAt (part_mknown 2)) [0] (by kernel_rfl) (by kernel_rfl) ?_
  refine ps_k (o_mknown 2 0) (.bool false) ?_
  refine ps_end ?_
  refine then_n ?_
  refine sy_sq (part_mknown 6) (part_mknown 7) ?_
  refine sy_reg ?_
  refine rg_plain 1 (opsAt (part_mknown 6)) [0, 1, 2, 3, 4, 5, 6] (by kernel_rfl) (by kernel_rfl) ?_
  refine ps_k (o_mknown 6 0) (.int .i64 k) ?_
  refine ps_p (o_mknown 6 1) (.bool false) (dcf (((k) : Int) ≥ ((1) : Int)) (by omega)) ?_
  refine ps_k (o_mknown 6 2) (.bool false) ?_
  refine ps_n (o_mknown 6 3) ?_
  refine ps_n (o_mknown 6 4) ?_
  refine ps_k (o_mknown 6 5) (.bool false) ?_
  refine ps_k (o_mknown 6 6) (.bool false) ?_
  refine ps_end ?_
  refine then_n ?_
  refine sy_ret (by kernel_rfl) ?_
  refine sy_out (.bool false) rfl (by kernel_rfl) ?_
  exact ⟨rfl, rfl⟩
set_option maxRecDepth 100000 in
set_option maxHeartbeats 4000000 in
theorem mknown_hi (k : Int) (w : World) (h0 : 1 ≤ k) (h : 11 < k) :
    Calls Try.prog 40 #[.int .i64 k] w (fun e w' => e = .returned (.bool false) ∧ w = w') := by
  have K0 : Keeps Nob w w := Keeps.refl _ _
  refine sy_enter (part_mknown 1) ⟨#[.int .i64 k, undef, undef, undef, undef, undef, undef, undef, undef], []⟩ Try.func40 (by kernel_rfl) (by kernel_rfl) ?_
  refine sy_sq (part_mknown 2) (part_mknown 3) ?_
  refine sy_reg ?_
  refine rg_plain 0 (opsAt (part_mknown 2)) [0] (by kernel_rfl) (by kernel_rfl) ?_
  refine ps_k (o_mknown 2 0) (.bool false) ?_
  refine ps_end ?_
  refine then_n ?_
  refine sy_sq (part_mknown 6) (part_mknown 7) ?_
  refine sy_reg ?_
  refine rg_plain 1 (opsAt (part_mknown 6)) [0, 1, 2, 3, 4, 5, 6] (by kernel_rfl) (by kernel_rfl) ?_
  refine ps_k (o_mknown 6 0) (.int .i64 k) ?_
  refine ps_p (o_mknown 6 1) (.bool true) (dct (((k) : Int) ≥ ((1) : Int)) (by omega)) ?_
  refine ps_k (o_mknown 6 2) (.bool true) ?_
  refine ps_k (o_mknown 6 3) (.int .i64 k) ?_
  refine ps_p (o_mknown 6 4) (.bool false) (dcf (((k) : Int) ≤ ((11) : Int)) (by omega)) ?_
  refine ps_k (o_mknown 6 5) (.bool false) ?_
  refine ps_k (o_mknown 6 6) (.bool false) ?_
  refine ps_end ?_
  refine then_n ?_
  refine sy_ret (by kernel_rfl) ?_
  refine sy_out (.bool false) rfl (by kernel_rfl) ?_
  exact ⟨rfl, rfl⟩
theorem mknown_no (k : Int) (w : World) (h : ¬ (1 ≤ k ∧ k ≤ 11)) : Calls Try.prog 40 #[.int .i64 k] w (fun e w' => e = .returned (.bool false) ∧ w = w') := by
  by_cases h1 : 1 ≤ k
  · exact mknown_hi k w h1 (by omega)
  · exact mknown_lo k w (by omega)
noncomputable def part_mkinds (n : Nat) : Code := partOf Try.f64 n
noncomputable abbrev o_mkinds (n k : Nat) : Oper := (opsAt (part_mkinds n)).getD k default
set_option maxRecDepth 100000 in
set_option maxHeartbeats 4000000 in
theorem mkinds_ok (w : World) :
    Calls Try.prog 64 #[] w (fun e w' => e = .returned (.agg kindsC) ∧ Keeps Nob w w') := by
  have K0 : Keeps Nob w w := Keeps.refl _ _
  refine sy_enter (part_mkinds 1) ⟨#[undef, undef], []⟩ Try.func64 (by kernel_rfl) (by kernel_rfl) ?_
  refine sy_sq (part_mkinds 2) (part_mkinds 3) ?_
  refine sy_reg ?_
  refine rg_plain 0 (opsAt (part_mkinds 2)) [0] (by kernel_rfl) (by kernel_rfl) ?_
  obtain ⟨V1, eV1, g2, eg2, h3, kV1⟩ := alloc_step w (#[.nilFunc, .nilFunc, .nilFunc, .nilFunc, .nilFunc, .nilFunc, .nilFunc, .nilFunc, .nilFunc, .nilFunc, .nilFunc, .nilFunc]) 109
  have n4 : w.heap.size ≤ g2 := eg2 ▸ K0.size
  refine ps_r (o_mkinds 2 0) (pT g2 0) (w' := V1) (by rw [← eV1, ← eg2]; exact exec_alloc0 109 (by kernel_rfl) (.agg (#[.nilFunc, .nilFunc, .nilFunc, .nilFunc, .nilFunc, .nilFunc, .nilFunc, .nilFunc, .nilFunc, .nilFunc, .nilFunc, .nilFunc])) (by kernel_rfl)) ?_
  clear eV1
  have K5 := K0.nn kV1
  refine ps_end ?_
  refine then_n ?_
  refine sy_sq (part_mkinds 6) (part_mkinds 7) ?_
  refine sy_reg ?_
  refine rg_plain 1 (opsAt (part_mkinds 6)) [0, 1] (by kernel_rfl) (by kernel_rfl) ?_
  refine ps_k (o_mkinds 6 0) (.agg #[.nilFunc, .func (.func 88) #[] #[], .func (.func 89) #[] #[], .func (.func 90) #[] #[], .func (.func 91) #[] #[], .func (.func 92) #[] #[], .func (.func 93) #[] #[], .func (.func 94) #[] #[], .func (.func 95) #[] #[], .func (.func 96) #[] #[], .func (.func 97) #[] #[], .func (.func 98) #[] #[]]) ?_
  obtain ⟨V6, eV6, kV6⟩ := rowset_step V1 g2 (#[.nilFunc, .func (.func 88) #[] #[], .func (.func 89) #[] #[], .func (.func 90) #[] #[], .func (.func 91) #[] #[], .func (.func 92) #[] #[], .func (.func 93) #[] #[], .func (.func 94) #[] #[], .func (.func 95) #[] #[], .func (.func 96) #[] #[], .func (.func 97) #[] #[], .func (.func 98) #[] #[]])
  have h7 : V6.heap[g2]? = some (.cells (#[.nilFunc, .func (.func 88) #[] #[], .func (.func 89) #[] #[], .func (.func 90) #[] #[], .func (.func 91) #[] #[], .func (.func 92) #[] #[], .func (.func 93) #[] #[], .func (.func 94) #[] #[], .func (.func 95) #[] #[], .func (.func 96) #[] #[], .func (.func 97) #[] #[], .func (.func 98) #[] #[]]) 109 (0, 0)) := eV6 ▸ setRow_heap _ _ _ _ _ _ h3
  refine ps_s (o_mkinds 6 1) (w' := V6) (by rw [← eV6]; exact exec_store_row 109 (.tmp 0) (.tmp 1) (by kernel_rfl) g2 (#[.nilFunc, .func (.func 88) #[] #[], .func (.func 89) #[] #[], .func (.func 90) #[] #[], .func (.func 91) #[] #[], .func (.func 92) #[] #[], .func (.func 93) #[] #[], .func (.func 94) #[] #[], .func (.func 95) #[] #[], .func (.func 96) #[] #[], .func (.func 97) #[] #[], .func (.func 98) #[] #[]]) (by kernel_rfl) (by kernel_rfl) 109 (#[.nilFunc, .nilFunc, .nilFunc, .nilFunc, .nilFunc, .nilFunc, .nilFunc, .nilFunc, .nilFunc, .nilFunc, .nilFunc, .nilFunc]) h3 (by kernel_rfl) (by kernel_rfl) (by kernel_rfl)) ?_
  clear eV6
  have K8 := K5.no kV6 (by omega)
  refine ps_end ?_
  refine then_n ?_
  refine sy_ret (by kernel_rfl) ?_
  refine sy_out (.agg (#[.nilFunc, .func (.func 88) #[] #[], .func (.func 89) #[] #[], .func (.func 90) #[] #[], .func (.func 91) #[] #[], .func (.func 92) #[] #[], .func (.func 93) #[] #[], .func (.func 94) #[] #[], .func (.func 95) #[] #[], .func (.func 96) #[] #[], .func (.func 97) #[] #[], .func (.func 98) #[] #[]])) rfl (results_cell_row (p := 0) (ty := 109) (by kernel_rfl) _ _ g2 109 (#[.nilFunc, .func (.func 88) #[] #[], .func (.func 89) #[] #[], .func (.func 90) #[] #[], .func (.func 91) #[] #[], .func (.func 92) #[] #[], .func (.func 93) #[] #[], .func (.func 94) #[] #[], .func (.func 95) #[] #[], .func (.func 96) #[] #[], .func (.func 97) #[] #[], .func (.func 98) #[] #[]]) (0, 0) _ (by kernel_rfl) h7 Try.underlying109 rfl (by kernel_rfl)) ?_
  exact ⟨rfl, K8⟩
noncomputable def part_mall (n : Nat) : Code := partOf Try.f41 n
noncomputable abbrev o_mall (n k : Nat) : Oper := (opsAt (part_mall n)).getD k default
set_option maxRecDepth 100000 in
set_option maxHeartbeats 4000000 in
theorem mall_1 (V : Vis) (hV : V.Ok) (g : Nat) (K : World → Prop) (E : List PanicEntry → World → Prop) (cs : Array Value) (T : TypeId) (w : World) (hb : w.heap[g]? = some (.cells cs T (0, 0))) (hc : cs[0]? = some (.int .i64 1)) (H : Run V g [.n 1 0 63, .n 3 0 63, .a 4] K E w) :
    Calls Try.prog 41 #[.pointer (some ⟨g, 0, none⟩), V.v] w (PEnd K E) := by
  have K0 : Keeps Nob w w := Keeps.refl _ _
  refine sy_enter (part_mall 1) ⟨#[pT g 0, V.v, undef, undef, undef, undef, undef, undef, undef, undef, undef, undef, undef, undef, undef], []⟩ Try.func41 (by kernel_rfl) (by kernel_rfl) ?_
  refine sy_sq (part_mall 2) (part_mall 3) ?_
  refine sy_reg ?_
  refine rg_plain 0 (opsAt (part_mall 2)) [0, 1, 2] (by kernel_rfl) (by kernel_rfl) ?_
  refine ps_c (o_mall 2 0) 64 #[] Try.func64 ((mkinds_ok _).mono ?_)
  rintro e V1 ⟨rfl, kV1⟩
  refine ⟨_, rfl, ?_⟩
  have h2 := kV1.bk hb
  have K3 := K0.nn kV1
  obtain ⟨V4, eV4, ga, ega, h5, kV4⟩ := alloc_step V1 (#[.nilFunc, .nilFunc, .nilFunc, .nilFunc, .nilFunc, .nilFunc, .nilFunc, .nilFunc, .nilFunc, .nilFunc, .nilFunc, .nilFunc]) 109
  have n6 : g < ga := ega ▸ lt_of_block h2
  have n7 : w.heap.size ≤ ga := ega ▸ K3.size
  refine ps_r (o_mall 2 1) (pT ga 0) (w' := V4) (by rw [← eV4, ← ega]; exact exec_alloc0 109 (by kernel_rfl) (.agg (#[.nilFunc, .nilFunc, .nilFunc, .nilFunc, .nilFunc, .nilFunc, .nilFunc, .nilFunc, .nilFunc, .nilFunc, .nilFunc, .nilFunc])) (by kernel_rfl)) ?_
  clear eV4
  have h8 := kV4.bk h2
  have K9 := K3.nn kV4
  obtain ⟨V10, eV10, kV10⟩ := rowset_step V4 ga (#[.nilFunc, .func (.func 88) #[] #[], .func (.func 89) #[] #[], .func (.func 90) #[] #[], .func (.func 91) #[] #[], .func (.func 92) #[] #[], .func (.func 93) #[] #[], .func (.func 94) #[] #[], .func (.func 95) #[] #[], .func (.func 96) #[] #[], .func (.func 97) #[] #[], .func (.func 98) #[] #[]])
  have h11 : V10.heap[ga]? = some (.cells (#[.nilFunc, .func (.func 88) #[] #[], .func (.func 89) #[] #[], .func (.func 90) #[] #[], .func (.func 91) #[] #[], .func (.func 92) #[] #[], .func (.func 93) #[] #[], .func (.func 94) #[] #[], .func (.func 95) #[] #[], .func (.func 96) #[] #[], .func (.func 97) #[] #[], .func (.func 98) #[] #[]]) 109 (0, 0)) := eV10 ▸ setRow_heap _ _ _ _ _ _ h5
  refine ps_s (o_mall 2 2) (w' := V10) (by rw [← eV10]; exact exec_store_row 109 (.tmp 4) (.tmp 5) (by kernel_rfl) ga (#[.nilFunc, .func (.func 88) #[] #[], .func (.func 89) #[] #[], .func (.func 90) #[] #[], .func (.func 91) #[] #[], .func (.func 92) #[] #[], .func (.func 93) #[] #[], .func (.func 94) #[] #[], .func (.func 95) #[] #[], .func (.func 96) #[] #[], .func (.func 97) #[] #[], .func (.func 98) #[] #[]]) (by kernel_rfl) (by kernel_rfl) 109 (#[.nilFunc, .nilFunc, .nilFunc, .nilFunc, .nilFunc, .nilFunc, .nilFunc, .nilFunc, .nilFunc, .nilFunc, .nilFunc, .nilFunc]) h5 (by kernel_rfl) (by kernel_rfl) (by kernel_rfl)) ?_
  clear eV10
  have h12 := kV10.bo h8 (by omega)
  have K13 := K9.no kV10 (by omega)
  refine ps_end ?_
  refine then_n ?_
  refine sy_reg ?_
  refine rg_plain 1 (opsAt (part_mall 3)) [0, 1, 2, 3, 4, 5, 6, 7, 8] (by kernel_rfl) (by kernel_rfl) ?_
  refine ps_k (o_mall 3 0) (pT g 0) ?_
  refine ps_k (o_mall 3 1) (pT g 0) ?_
  refine ps_k (o_mall 3 2) (pT g 0) ?_
  refine ps_p (o_mall 3 3) (.int .i64 1) (exec_ld 3 (.tmp 8) g 0 Try.underlying3 (rc (h12) (hc))) ?_
  refine ps_p (o_mall 3 4) (pT ga 1) (exec_cast (v := pT ga (0 + 1 * 1)) (by simp) (exec_indexAt_arr 109 (.tmp 4) (.tmp 9) (by kernel_rfl) ga 0 (by kernel_rfl) .i64 1 (by kernel_rfl) _ _ 1 Try.underlying109 (by kernel_rfl) (by omega))) ?_
  refine ps_p (o_mall 3 5) (.func (.func 88) #[] #[]) (exec_ld 108 (.tmp 10) ga 1 Try.underlying108 (rc (h11) (by kernel_rfl))) ?_
  refine ps_k (o_mall 3 6) (pT g 0) ?_
  refine ps_k (o_mall 3 7) (V.v) ?_
  refine ps_P (o_mall 3 8) 88 #[.pointer (some ⟨g, 0, none⟩), V.v] _ _ (run_callV (o_mall 3 8) (.tmp 11) 88 #[] #[] #[.pointer (some ⟨g, 0, none⟩), V.v] (by kernel_rfl) (by kernel_rfl) (by kernel_rfl) (enters_of Try.func88 (by kernel_rfl) rfl)) (mtransfer_ok V hV g K E _ (Run.keepsN H K13)) (fun c w' h => ⟨rfl, .inr ⟨c, rfl, h⟩⟩) ?_
  rintro V14 hE
  refine ps_end ?_
  refine sy_fall (.tuple #[]) rfl (by kernel_rfl) ?_
  exact .inl ⟨rfl, hE⟩
set_option maxRecDepth 100000 in
set_option maxHeartbeats 4000000 in
theorem mall_2 (V : Vis) (hV : V.Ok) (g : Nat) (K : World → Prop) (E : List PanicEntry → World → Prop) (cs : Array Value) (T : TypeId) (w : World) (hb : w.heap[g]? = some (.cells cs T (0, 0))) (hc : cs[0]? = some (.int .i64 2)) (H : Run V g [.n 1 0 63, .a 5, .a 4] K E w) :
    Calls Try.prog 41 #[.pointer (some ⟨g, 0, none⟩), V.v] w (PEnd K E) := by
  have K0 : Keeps Nob w w := Keeps.refl _ _
  refine sy_enter (part_mall 1) ⟨#[pT g 0, V.v, undef, undef, undef, undef, undef, undef, undef, undef, undef, undef, undef, undef, undef], []⟩ Try.func41 (by kernel_rfl) (by kernel_rfl) ?_
  refine sy_sq (part_mall 2) (part_mall 3) ?_
  refine sy_reg ?_
  refine rg_plain 0 (opsAt (part_mall 2)) [0, 1, 2] (by kernel_rfl) (by kernel_rfl) ?_
  refine ps_c (o_mall 2 0) 64 #[] Try.func64 ((mkinds_ok _).mono ?_)
  rintro e V1 ⟨rfl, kV1⟩
  refine ⟨_, rfl, ?_⟩
  have h2 := kV1.bk hb
  have K3 := K0.nn kV1
  obtain ⟨V4, eV4, ga, ega, h5, kV4⟩ := alloc_step V1 (#[.nilFunc, .nilFunc, .nilFunc, .nilFunc, .nilFunc, .nilFunc, .nilFunc, .nilFunc, .nilFunc, .nilFunc, .nilFunc, .nilFunc]) 109
  have n6 : g < ga := ega ▸ lt_of_block h2
  have n7 : w.heap.size ≤ ga := ega ▸ K3.size
  refine ps_r (o_mall 2 1) (pT ga 0) (w' := V4) (by rw [← eV4, ← ega]; exact exec_alloc0 109 (by kernel_rfl) (.agg (#[.nilFunc, .nilFunc, .nilFunc, .nilFunc, .nilFunc, .nilFunc, .nilFunc, .nilFunc, .nilFunc, .nilFunc, .nilFunc, .nilFunc])) (by kernel_rfl)) ?_
  clear eV4
  have h8 := kV4.bk h2
  have K9 := K3.nn kV4
  obtain ⟨V10, eV10, kV10⟩ := rowset_step V4 ga (#[.nilFunc, .func (.func 88) #[] #[], .func (.func 89) #[] #[], .func (.func 90) #[] #[], .func (.func 91) #[] #[], .func (.func 92) #[] #[], .func (.func 93) #[] #[], .func (.func 94) #[] #[], .func (.func 95) #[] #[], .func (.func 96) #[] #[], .func (.func 97) #[] #[], .func (.func 98) #[] #[]])
  have h11 : V10.heap[ga]? = some (.cells (#[.nilFunc, .func (.func 88) #[] #[], .func (.func 89) #[] #[], .func (.func 90) #[] #[], .func (.func 91) #[] #[], .func (.func 92) #[] #[], .func (.func 93) #[] #[], .func (.func 94) #[] #[], .func (.func 95) #[] #[], .func (.func 96) #[] #[], .func (.func 97) #[] #[], .func (.func 98) #[] #[]]) 109 (0, 0)) := eV10 ▸ setRow_heap _ _ _ _ _ _ h5
  refine ps_s (o_mall 2 2) (w' := V10) (by rw [← eV10]; exact exec_store_row 109 (.tmp 4) (.tmp 5) (by kernel_rfl) ga (#[.nilFunc, .func (.func 88) #[] #[], .func (.func 89) #[] #[], .func (.func 90) #[] #[], .func (.func 91) #[] #[], .func (.func 92) #[] #[], .func (.func 93) #[] #[], .func (.func 94) #[] #[], .func (.func 95) #[] #[], .func (.func 96) #[] #[], .func (.func 97) #[] #[], .func (.func 98) #[] #[]]) (by kernel_rfl) (by kernel_rfl) 109 (#[.nilFunc, .nilFunc, .nilFunc, .nilFunc, .nilFunc, .nilFunc, .nilFunc, .nilFunc, .nilFunc, .nilFunc, .nilFunc, .nilFunc]) h5 (by kernel_rfl) (by kernel_rfl) (by kernel_rfl)) ?_
  clear eV10
  have h12 := kV10.bo h8 (by omega)
  have K13 := K9.no kV10 (by omega)
  refine ps_end ?_
  refine then_n ?_
  refine sy_reg ?_
  refine rg_plain 1 (opsAt (part_mall 3)) [0, 1, 2, 3, 4, 5, 6, 7, 8] (by kernel_rfl) (by kernel_rfl) ?_
  refine ps_k (o_mall 3 0) (pT g 0) ?_
  refine ps_k (o_mall 3 1) (pT g 0) ?_
  refine ps_k (o_mall 3 2) (pT g 0) ?_
  refine ps_p (o_mall 3 3) (.int .i64 2) (exec_ld 3 (.tmp 8) g 0 Try.underlying3 (rc (h12) (hc))) ?_
  refine ps_p (o_mall 3 4) (pT ga 2) (exec_cast (v := pT ga (0 + 2 * 1)) (by simp) (exec_indexAt_arr 109 (.tmp 4) (.tmp 9) (by kernel_rfl) ga 0 (by kernel_rfl) .i64 2 (by kernel_rfl) _ _ 1 Try.underlying109 (by kernel_rfl) (by omega))) ?_
  refine ps_p (o_mall 3 5) (.func (.func 89) #[] #[]) (exec_ld 108 (.tmp 10) ga 2 Try.underlying108 (rc (h11) (by kernel_rfl))) ?_
  refine ps_k (o_mall 3 6) (pT g 0) ?_
  refine ps_k (o_mall 3 7) (V.v) ?_
  refine ps_P (o_mall 3 8) 89 #[.pointer (some ⟨g, 0, none⟩), V.v] _ _ (run_callV (o_mall 3 8) (.tmp 11) 89 #[] #[] #[.pointer (some ⟨g, 0, none⟩), V.v] (by kernel_rfl) (by kernel_rfl) (by kernel_rfl) (enters_of Try.func89 (by kernel_rfl) rfl)) (mcreate_ok V hV g K E _ (Run.keepsN H K13)) (fun c w' h => ⟨rfl, .inr ⟨c, rfl, h⟩⟩) ?_
  rintro V14 hE
  refine ps_end ?_
  refine sy_fall (.tuple #[]) rfl (by kernel_rfl) ?_
  exact .inl ⟨rfl, hE⟩
set_option maxRecDepth 100000 in
set_option maxHeartbeats 4000000 in
theorem mall_3 (V : Vis) (hV : V.Ok) (g : Nat) (K : World → Prop) (E : List PanicEntry → World → Prop) (cs : Array Value) (T : TypeId) (w : World) (hb : w.heap[g]? = some (.cells cs T (0, 0))) (hc : cs[0]? = some (.int .i64 3)) (H : Run V g [.n 1 0 63, .n 2 0 31, .a 4] K E w) :
    Calls Try.prog 41 #[.pointer (some ⟨g, 0, none⟩), V.v] w (PEnd K E) := by
  have K0 : Keeps Nob w w := Keeps.refl _ _
  refine sy_enter (part_mall 1) ⟨#[pT g 0, V.v, undef, undef, undef, undef, undef, undef, undef, undef, undef, undef, undef, undef, undef], []⟩ Try.func41 (by kernel_rfl) (by kernel_rfl) ?_
  refine sy_sq (part_mall 2) (part_mall 3) ?_
  refine sy_reg ?_
  refine rg_plain 0 (opsAt (part_mall 2)) [0, 1, 2] (by kernel_rfl) (by kernel_rfl) ?_
  refine ps_c (o_mall 2 0) 64 #[] Try.func64 ((mkinds_ok _).mono ?_)
  rintro e V1 ⟨rfl, kV1⟩
  refine ⟨_, rfl, ?_⟩
  have h2 := kV1.bk hb
  have K3 := K0.nn kV1
  obtain ⟨V4, eV4, ga, ega, h5, kV4⟩ := alloc_step V1 (#[.nilFunc, .nilFunc, .nilFunc, .nilFunc, .nilFunc, .nilFunc, .nilFunc, .nilFunc, .nilFunc, .nilFunc, .nilFunc, .nilFunc]) 109
  have n6 : g < ga := ega ▸ lt_of_block h2
  have n7 : w.heap.size ≤ ga := ega ▸ K3.size
  refine ps_r (o_mall 2 1) (pT ga 0) (w' := V4) (by rw [← eV4, ← ega]; exact exec_alloc0 109 (by kernel_rfl) (.agg (#[.nilFunc, .nilFunc, .nilFunc, .nilFunc, .nilFunc, .nilFunc, .nilFunc, .nilFunc, .nilFunc, .nilFunc, .nilFunc, .nilFunc])) (by kernel_rfl)) ?_
  clear eV4
  have h8 := kV4.bk h2
  have K9 := K3.nn kV4
  obtain ⟨V10, eV10, kV10⟩ := rowset_step V4 ga (#[.nilFunc, .func (.func 88) #[] #[], .func (.func 89) #[] #[], .func (.func 90) #[] #[], .func (.func 91) #[] #[], .func (.func 92) #[] #[], .func (.func 93) #[] #[], .func (.func 94) #[] #[], .func (.func 95) #[] #[], .func (.func 96) #[] #[], .func (.func 97) #[] #[], .func (.func 98) #[] #[]])
  have h11 : V10.heap[ga]? = some (.cells (#[.nilFunc, .func (.func 88) #[] #[], .func (.func 89) #[] #[], .func (.func 90) #[] #[], .func (.func 91) #[] #[], .func (.func 92) #[] #[], .func (.func 93) #[] #[], .func (.func 94) #[] #[], .func (.func 95) #[] #[], .func (.func 96) #[] #[], .func (.func 97) #[] #[], .func (.func 98) #[] #[]]) 109 (0, 0)) := eV10 ▸ setRow_heap _ _ _ _ _ _ h5
  refine ps_s (o_mall 2 2) (w' := V10) (by rw [← eV10]; exact exec_store_row 109 (.tmp 4) (.tmp 5) (by kernel_rfl) ga (#[.nilFunc, .func (.func 88) #[] #[], .func (.func 89) #[] #[], .func (.func 90) #[] #[], .func (.func 91) #[] #[], .func (.func 92) #[] #[], .func (.func 93) #[] #[], .func (.func 94) #[] #[], .func (.func 95) #[] #[], .func (.func 96) #[] #[], .func (.func 97) #[] #[], .func (.func 98) #[] #[]]) (by kernel_rfl) (by kernel_rfl) 109 (#[.nilFunc, .nilFunc, .nilFunc, .nilFunc, .nilFunc, .nilFunc, .nilFunc, .nilFunc, .nilFunc, .nilFunc, .nilFunc, .nilFunc]) h5 (by kernel_rfl) (by kernel_rfl) (by kernel_rfl)) ?_
  clear eV10
  have h12 := kV10.bo h8 (by omega)
  have K13 := K9.no kV10 (by omega)
  refine ps_end ?_
  refine then_n ?_
  refine sy_reg ?_
  refine rg_plain 1 (opsAt (part_mall 3)) [0, 1, 2, 3, 4, 5, 6, 7, 8] (by kernel_rfl) (by kernel_rfl) ?_
  refine ps_k (o_mall 3 0) (pT g 0) ?_
  refine ps_k (o_mall 3 1) (pT g 0) ?_
  refine ps_k (o_mall 3 2) (pT g 0) ?_
  refine ps_p (o_mall 3 3) (.int .i64 3) (exec_ld 3 (.tmp 8) g 0 Try.underlying3 (rc (h12) (hc))) ?_
  refine ps_p (o_mall 3 4) (pT ga 3) (exec_cast (v := pT ga (0 + 3 * 1)) (by simp) (exec_indexAt_arr 109 (.tmp 4) (.tmp 9) (by kernel_rfl) ga 0 (by kernel_rfl) .i64 3 (by kernel_rfl) _ _ 1 Try.underlying109 (by kernel_rfl) (by omega))) ?_
  refine ps_p (o_mall 3 5) (.func (.func 90) #[] #[]) (exec_ld 108 (.tmp 10) ga 3 Try.underlying108 (rc (h11) (by kernel_rfl))) ?_
  refine ps_k (o_mall 3 6) (pT g 0) ?_
  refine ps_k (o_mall 3 7) (V.v) ?_
  refine ps_P (o_mall 3 8) 90 #[.pointer (some ⟨g, 0, none⟩), V.v] _ _ (run_callV (o_mall 3 8) (.tmp 11) 90 #[] #[] #[.pointer (some ⟨g, 0, none⟩), V.v] (by kernel_rfl) (by kernel_rfl) (by kernel_rfl) (enters_of Try.func90 (by kernel_rfl) rfl)) (mdelegate_ok V hV g K E _ (Run.keepsN H K13)) (fun c w' h => ⟨rfl, .inr ⟨c, rfl, h⟩⟩) ?_
  rintro V14 hE
  refine ps_end ?_
  refine sy_fall (.tuple #[]) rfl (by kernel_rfl) ?_
  exact .inl ⟨rfl, hE⟩
set_option maxRecDepth 100000 in
set_option maxHeartbeats 4000000 in
theorem mall_4 (V : Vis) (hV : V.Ok) (g : Nat) (K : World → Prop) (E : List PanicEntry → World → Prop) (cs : Array Value) (T : TypeId) (w : World) (hb : w.heap[g]? = some (.cells cs T (0, 0))) (hc : cs[0]? = some (.int .i64 4)) (H : Run V g [.n 1 0 63, .n 6 0 31, .n 7 1 4294967296, .n 8 (-1) 31, .n 9 0 4294967296, .a 4] K E w) :
    Calls Try.prog 41 #[.pointer (some ⟨g, 0, none⟩), V.v] w (PEnd K E) := by
  have K0 : Keeps Nob w w := Keeps.refl _ _
  refine sy_enter (part_mall 1) ⟨#[pT g 0, V.v, undef, undef, undef, undef, undef, undef, undef, undef, undef, undef, undef, undef, undef], []⟩ Try.func41 (by kernel_rfl) (by kernel_rfl) ?_
  refine sy_sq (part_mall 2) (part_mall 3) ?_
  refine sy_reg ?_
  refine rg_plain 0 (opsAt (part_mall 2)) [0, 1, 2] (by kernel_rfl) (by kernel_rfl) ?_
  refine ps_c (o_mall 2 0) 64 #[] Try.func64 ((mkinds_ok _).mono ?_)
  rintro e V1 ⟨rfl, kV1⟩
  refine ⟨_, rfl, ?_⟩
  have h2 := kV1.bk hb
  have K3 := K0.nn kV1
  obtain ⟨V4, eV4, ga, ega, h5, kV4⟩ := alloc_step V1 (#[.nilFunc, .nilFunc, .nilFunc, .nilFunc, .nilFunc, .nilFunc, .nilFunc, .nilFunc, .nilFunc, .nilFunc, .nilFunc, .nilFunc]) 109
  have n6 : g < ga := ega ▸ lt_of_block h2
  have n7 : w.heap.size ≤ ga := ega ▸ K3.size
  refine ps_r (o_mall 2 1) (pT ga 0) (w' := V4) (by rw [← eV4, ← ega]; exact exec_alloc0 109 (by kernel_rfl) (.agg (#[.nilFunc, .nilFunc, .nilFunc, .nilFunc, .nilFunc, .nilFunc, .nilFunc, .nilFunc, .nilFunc, .nilFunc, .nilFunc, .nilFunc])) (by kernel_rfl)) ?_
  clear eV4
  have h8 := kV4.bk h2
  have K9 := K3.nn kV4
  obtain ⟨V10, eV10, kV10⟩ := rowset_step V4 ga (#[.nilFunc, .func (.func 88) #[] #[], .func (.func 89) #[] #[], .func (.func 90) #[] #[], .func (.func 91) #[] #[], .func (.func 92) #[] #[], .func (.func 93) #[] #[], .func (.func 94) #[] #[], .func (.func 95) #[] #[], .func (.func 96) #[] #[], .func (.func 97) #[] #[], .func (.func 98) #[] #[]])
  have h11 : V10.heap[ga]? = some (.cells (#[.nilFunc, .func (.func 88) #[] #[], .func (.func 89) #[] #[], .func (.func 90) #[] #[], .func (.func 91) #[] #[], .func (.func 92) #[] #[], .func (.func 93) #[] #[], .func (.func 94) #[] #[], .func (.func 95) #[] #[], .func (.func 96) #[] #[], .func (.func 97) #[] #[], .func (.func 98) #[] #[]]) 109 (0, 0)) := eV10 ▸ setRow_heap _ _ _ _ _ _ h5
  refine ps_s (o_mall 2 2) (w' := V10) (by rw [← eV10]; exact exec_store_row 109 (.tmp 4) (.tmp 5) (by kernel_rfl) ga (#[.nilFunc, .func (.func 88) #[] #[], .func (.func 89) #[] #[], .func (.func 90) #[] #[], .func (.func 91) #[] #[], .func (.func 92) #[] #[], .func (.func 93) #[] #[], .func (.func 94) #[] #[], .func (.func 95) #[] #[], .func (.func 96) #[] #[], .func (.func 97) #[] #[], .func (.func 98) #[] #[]]) (by kernel_rfl) (by kernel_rfl) 109 (#[.nilFunc, .nilFunc, .nilFunc, .nilFunc, .nilFunc, .nilFunc, .nilFunc, .nilFunc, .nilFunc, .nilFunc, .nilFunc, .nilFunc]) h5 (by kernel_rfl) (by kernel_rfl) (by kernel_rfl)) ?_
  clear eV10
  have h12 := kV10.bo h8 (by omega)
  have K13 := K9.no kV10 (by omega)
  refine ps_end ?_
  refine then_n ?_
  refine sy_reg ?_
  refine rg_plain 1 (opsAt (part_mall 3)) [0, 1, 2, 3, 4, 5, 6, 7, 8] (by kernel_rfl) (by kernel_rfl) ?_
  refine ps_k (o_mall 3 0) (pT g 0) ?_
  refine ps_k (o_mall 3 1) (pT g 0) ?_
  refine ps_k (o_mall 3 2) (pT g 0) ?_
  refine ps_p (o_mall 3 3) (.int .i64 4) (exec_ld 3 (.tmp 8) g 0 Try.underlying3 (rc (h12) (hc))) ?_
  refine ps_p (o_mall 3 4) (pT ga 4) (exec_cast (v := pT ga (0 + 4 * 1)) (by simp) (exec_indexAt_arr 109 (.tmp 4) (.tmp 9) (by kernel_rfl) ga 0 (by kernel_rfl) .i64 4 (by kernel_rfl) _ _ 1 Try.underlying109 (by kernel_rfl) (by omega))) ?_
  refine ps_p (o_mall 3 5) (.func (.func 91) #[] #[]) (exec_ld 108 (.tmp 10) ga 4 Try.underlying108 (rc (h11) (by kernel_rfl))) ?_
  refine ps_k (o_mall 3 6) (pT g 0) ?_
  refine ps_k (o_mall 3 7) (V.v) ?_
  refine ps_P (o_mall 3 8) 91 #[.pointer (some ⟨g, 0, none⟩), V.v] _ _ (run_callV (o_mall 3 8) (.tmp 11) 91 #[] #[] #[.pointer (some ⟨g, 0, none⟩), V.v] (by kernel_rfl) (by kernel_rfl) (by kernel_rfl) (enters_of Try.func91 (by kernel_rfl) rfl)) (mundelegate_ok V hV g K E _ (Run.keepsN H K13)) (fun c w' h => ⟨rfl, .inr ⟨c, rfl, h⟩⟩) ?_
  rintro V14 hE
  refine ps_end ?_
  refine sy_fall (.tuple #[]) rfl (by kernel_rfl) ?_
  exact .inl ⟨rfl, hE⟩
set_option maxRecDepth 100000 in
set_option maxHeartbeats 4000000 in
theorem mall_5 (V : Vis) (hV : V.Ok) (g : Nat) (K : World → Prop) (E : List PanicEntry → World → Prop) (cs : Array Value) (T : TypeId) (w : World) (hb : w.heap[g]? = some (.cells cs T (0, 0))) (hc : cs[0]? = some (.int .i64 5)) (H : Run V g [.n 1 0 63, .n 6 0 31, .n 7 1 4294967296, .n 8 (-1) 31, .n 9 0 4294967296, .a 4, .n 3 0 31] K E w) :
    Calls Try.prog 41 #[.pointer (some ⟨g, 0, none⟩), V.v] w (PEnd K E) := by
  have K0 : Keeps Nob w w := Keeps.refl _ _
  refine sy_enter (part_mall 1) ⟨#[pT g 0, V.v, undef, undef, undef, undef, undef, undef, undef, undef, undef, undef, undef, undef, undef], []⟩ Try.func41 (by kernel_rfl) (by kernel_rfl) ?_
  refine sy_sq (part_mall 2) (part_mall 3) ?_
  refine sy_reg ?_
  refine rg_plain 0 (opsAt (part_mall 2)) [0, 1, 2] (by kernel_rfl) (by kernel_rfl) ?_
  refine ps_c (o_mall 2 0) 64 #[] Try.func64 ((mkinds_ok _).mono ?_)
  rintro e V1 ⟨rfl, kV1⟩
  refine ⟨_, rfl, ?_⟩
  have h2 := kV1.bk hb
  have K3 := K0.nn kV1
  obtain ⟨V4, eV4, ga, ega, h5, kV4⟩ := alloc_step V1 (#[.nilFunc, .nilFunc, .nilFunc, .nilFunc, .nilFunc, .nilFunc, .nilFunc, .nilFunc, .nilFunc, .nilFunc, .nilFunc, .nilFunc]) 109
  have n6 : g < ga := ega ▸ lt_of_block h2
  have n7 : w.heap.size ≤ ga := ega ▸ K3.size
  refine ps_r (o_mall 2 1) (pT ga 0) (w' := V4) (by rw [← eV4, ← ega]; exact exec_alloc0 109 (by kernel_rfl) (.agg (#[.nilFunc, .nilFunc, .nilFunc, .nilFunc, .nilFunc, .nilFunc, .nilFunc, .nilFunc, .nilFunc, .nilFunc, .nilFunc, .nilFunc])) (by kernel_rfl)) ?_
  clear eV4
  have h8 := kV4.bk h2
  have K9 := K3.nn kV4
  obtain ⟨V10, eV10, kV10⟩ := rowset_step V4 ga (#[.nilFunc, .func (.func 88) #[] #[], .func (.func 89) #[] #[], .func (.func 90) #[] #[], .func (.func 91) #[] #[], .func (.func 92) #[] #[], .func (.func 93) #[] #[], .func (.func 94) #[] #[], .func (.func 95) #[] #[], .func (.func 96) #[] #[], .func (.func 97) #[] #[], .func (.func 98) #[] #[]])
  have h11 : V10.heap[ga]? = some (.cells (#[.nilFunc, .func (.func 88) #[] #[], .func (.func 89) #[] #[], .func (.func 90) #[] #[], .func (.func 91) #[] #[], .func (.func 92) #[] #[], .func (.func 93) #[] #[], .func (.func 94) #[] #[], .func (.func 95) #[] #[], .func (.func 96) #[] #[], .func (.func 97) #[] #[], .func (.func 98) #[] #[]]) 109 (0, 0)) := eV10 ▸ setRow_heap _ _ _ _ _ _ h5
  refine ps_s (o_mall 2 2) (w' := V10) (by rw [← eV10]; exact exec_store_row 109 (.tmp 4) (.tmp 5) (by kernel_rfl) ga (#[.nilFunc, .func (.func 88) #[] #[], .func (.func 89) #[] #[], .func (.func 90) #[] #[], .func (.func 91) #[] #[], .func (.func 92) #[] #[], .func (.func 93) #[] #[], .func (.func 94) #[] #[], .func (.func 95) #[] #[], .func (.func 96) #[] #[], .func (.func 97) #[] #[], .func (.func 98) #[] #[]]) (by kernel_rfl) (by kernel_rfl) 109 (#[.nilFunc, .nilFunc, .nilFunc, .nilFunc, .nilFunc, .nilFunc, .nilFunc, .nilFunc, .nilFunc, .nilFunc, .nilFunc, .nilFunc]) h5 (by kernel_rfl) (by kernel_rfl) (by kernel_rfl)) ?_
  clear eV10
  have h12 := kV10.bo h8 (by omega)
  have K13 := K9.no kV10 (by omega)
  refine ps_end ?_
  refine then_n ?_
  refine sy_reg ?_
  refine rg_plain 1 (opsAt (part_mall 3)) [0, 1, 2, 3, 4, 5, 6, 7, 8] (by kernel_rfl) (by kernel_rfl) ?_
  refine ps_k (o_mall 3 0) (pT g 0) ?_
  refine ps_k (o_mall 3 1) (pT g 0) ?_
  refine ps_k (o_mall 3 2) (pT g 0) ?_
  refine ps_p (o_mall 3 3) (.int .i64 5) (exec_ld 3 (.tmp 8) g 0 Try.underlying3 (rc (h12) (hc))) ?_
  refine ps_p (o_mall 3 4) (pT ga 5) (exec_cast (v := pT ga (0 + 5 * 1)) (by simp) (exec_indexAt_arr 109 (.tmp 4) (.tmp 9) (by kernel_rfl) ga 0 (by kernel_rfl) .i64 5 (by kernel_rfl) _ _ 1 Try.underlying109 (by kernel_rfl) (by omega))) ?_
  refine ps_p (o_mall 3 5) (.func (.func 92) #[] #[]) (exec_ld 108 (.tmp 10) ga 5 Try.underlying108 (rc (h11) (by kernel_rfl))) ?_
  refine ps_k (o_mall 3 6) (pT g 0) ?_
  refine ps_k (o_mall 3 7) (V.v) ?_
  refine ps_P (o_mall 3 8) 92 #[.pointer (some ⟨g, 0, none⟩), V.v] _ _ (run_callV (o_mall 3 8) (.tmp 11) 92 #[] #[] #[.pointer (some ⟨g, 0, none⟩), V.v] (by kernel_rfl) (by kernel_rfl) (by kernel_rfl) (enters_of Try.func92 (by kernel_rfl) rfl)) (mredelegate_ok V hV g K E _ (Run.keepsN H K13)) (fun c w' h => ⟨rfl, .inr ⟨c, rfl, h⟩⟩) ?_
  rintro V14 hE
  refine ps_end ?_
  refine sy_fall (.tuple #[]) rfl (by kernel_rfl) ?_
  exact .inl ⟨rfl, hE⟩
set_option maxRecDepth 100000 in
set_option maxHeartbeats 4000000 in
theorem mall_6 (V : Vis) (hV : V.Ok) (g : Nat) (K : World → Prop) (E : List PanicEntry → World → Prop) (cs : Array Value) (T : TypeId) (w : World) (hb : w.heap[g]? = some (.cells cs T (0, 0))) (hc : cs[0]? = some (.int .i64 6)) (H : Run V g [.n 1 0 63, .k 1, .n 12 0 31, .n 13 0 4294967296, .n 14 0 4294967296, .h 15, .a 47] K E w) :
    Calls Try.prog 41 #[.pointer (some ⟨g, 0, none⟩), V.v] w (PEnd K E) := by
  have K0 : Keeps Nob w w := Keeps.refl _ _
  refine sy_enter (part_mall 1) ⟨#[pT g 0, V.v, undef, undef, undef, undef, undef, undef, undef, undef, undef, undef, undef, undef, undef], []⟩ Try.func41 (by kernel_rfl) (by kernel_rfl) ?_
  refine sy_sq (part_mall 2) (part_mall 3) ?_
  refine sy_reg ?_
  refine rg_plain 0 (opsAt (part_mall 2)) [0, 1, 2] (by kernel_rfl) (by kernel_rfl) ?_
  refine ps_c (o_mall 2 0) 64 #[] Try.func64 ((mkinds_ok _).mono ?_)
  rintro e V1 ⟨rfl, kV1⟩
  refine ⟨_, rfl, ?_⟩
  have h2 := kV1.bk hb
  have K3 := K0.nn kV1
  obtain ⟨V4, eV4, ga, ega, h5, kV4⟩ := alloc_step V1 (#[.nilFunc, .nilFunc, .nilFunc, .nilFunc, .nilFunc, .nilFunc, .nilFunc, .nilFunc, .nilFunc, .nilFunc, .nilFunc, .nilFunc]) 109
  have n6 : g < ga := ega ▸ lt_of_block h2
  have n7 : w.heap.size ≤ ga := ega ▸ K3.size
  refine ps_r (o_mall 2 1) (pT ga 0) (w' := V4) (by rw [← eV4, ← ega]; exact exec_alloc0 109 (by kernel_rfl) (.agg (#[.nilFunc, .nilFunc, .nilFunc, .nilFunc, .nilFunc, .nilFunc, .nilFunc, .nilFunc, .nilFunc, .nilFunc, .nilFunc, .nilFunc])) (by kernel_rfl)) ?_
  clear eV4
  have h8 := kV4.bk h2
  have K9 := K3.nn kV4
  obtain ⟨V10, eV10, kV10⟩ := rowset_step V4 ga (#[.nilFunc, .func (.func 88) #[] #[], .func (.func 89) #[] #[], .func (.func 90) #[] #[], .func (.func 91) #[] #[], .func (.func 92) #[] #[], .func (.func 93) #[] #[], .func (.func 94) #[] #[], .func (.func 95) #[] #[], .func (.func 96) #[] #[], .func (.func 97) #[] #[], .func (.func 98) #[] #[]])
  have h11 : V10.heap[ga]? = some (.cells (#[.nilFunc, .func (.func 88) #[] #[], .func (.func 89) #[] #[], .func (.func 90) #[] #[], .func (.func 91) #[] #[], .func (.func 92) #[] #[], .func (.func 93) #[] #[], .func (.func 94) #[] #[], .func (.func 95) #[] #[], .func (.func 96) #[] #[], .func (.func 97) #[] #[], .func (.func 98) #[] #[]]) 109 (0, 0)) := eV10 ▸ setRow_heap _ _ _ _ _ _ h5
  refine ps_s (o_mall 2 2) (w' := V10) (by rw [← eV10]; exact exec_store_row 109 (.tmp 4) (.tmp 5) (by kernel_rfl) ga (#[.nilFunc, .func (.func 88) #[] #[], .func (.func 89) #[] #[], .func (.func 90) #[] #[], .func (.func 91) #[] #[], .func (.func 92) #[] #[], .func (.func 93) #[] #[], .func (.func 94) #[] #[], .func (.func 95) #[] #[], .func (.func 96) #[] #[], .func (.func 97) #[] #[], .func (.func 98) #[] #[]]) (by kernel_rfl) (by kernel_rfl) 109 (#[.nilFunc, .nilFunc, .nilFunc, .nilFunc, .nilFunc, .nilFunc, .nilFunc, .nilFunc, .nilFunc, .nilFunc, .nilFunc, .nilFunc]) h5 (by kernel_rfl) (by kernel_rfl) (by kernel_rfl)) ?_
  clear eV10
  have h12 := kV10.bo h8 (by omega)
  have K13 := K9.no kV10 (by omega)
  refine ps_end ?_
  refine then_n ?_
  refine sy_reg ?_
  refine rg_plain 1 (opsAt (part_mall 3)) [0, 1, 2, 3, 4, 5, 6, 7, 8] (by kernel_rfl) (by kernel_rfl) ?_
  refine ps_k (o_mall 3 0) (pT g 0) ?_
  refine ps_k (o_mall 3 1) (pT g 0) ?_
  refine ps_k (o_mall 3 2) (pT g 0) ?_
  refine ps_p (o_mall 3 3) (.int .i64 6) (exec_ld 3 (.tmp 8) g 0 Try.underlying3 (rc (h12) (hc))) ?_
  refine ps_p (o_mall 3 4) (pT ga 6) (exec_cast (v := pT ga (0 + 6 * 1)) (by simp) (exec_indexAt_arr 109 (.tmp 4) (.tmp 9) (by kernel_rfl) ga 0 (by kernel_rfl) .i64 6 (by kernel_rfl) _ _ 1 Try.underlying109 (by kernel_rfl) (by omega))) ?_
  refine ps_p (o_mall 3 5) (.func (.func 93) #[] #[]) (exec_ld 108 (.tmp 10) ga 6 Try.underlying108 (rc (h11) (by kernel_rfl))) ?_
  refine ps_k (o_mall 3 6) (pT g 0) ?_
  refine ps_k (o_mall 3 7) (V.v) ?_
  refine ps_P (o_mall 3 8) 93 #[.pointer (some ⟨g, 0, none⟩), V.v] _ _ (run_callV (o_mall 3 8) (.tmp 11) 93 #[] #[] #[.pointer (some ⟨g, 0, none⟩), V.v] (by kernel_rfl) (by kernel_rfl) (by kernel_rfl) (enters_of Try.func93 (by kernel_rfl) rfl)) (mattest_ok V hV g K E _ (Run.keepsN H K13)) (fun c w' h => ⟨rfl, .inr ⟨c, rfl, h⟩⟩) ?_
  rintro V14 hE
  refine ps_end ?_
  refine sy_fall (.tuple #[]) rfl (by kernel_rfl) ?_
  exact .inl ⟨rfl, hE⟩
set_option maxRecDepth 100000 in
set_option maxHeartbeats 4000000 in
theorem mall_7 (V : Vis) (hV : V.Ok) (g : Nat) (K : World → Prop) (E : List PanicEntry → World → Prop) (cs : Array Value) (T : TypeId) (w : World) (hb : w.heap[g]? = some (.cells cs T (0, 0))) (hc : cs[0]? = some (.int .i64 7)) (H : Run V g [.n 1 0 63, .k 2, .n 84 0 31, .n 85 1 4294967296, .h 86, .a 118] K E w) :
    Calls Try.prog 41 #[.pointer (some ⟨g, 0, none⟩), V.v] w (PEnd K E) := by
  have K0 : Keeps Nob w w := Keeps.refl _ _
  refine sy_enter (part_mall 1) ⟨#[pT g 0, V.v, undef, undef, undef, undef, undef, undef, undef, undef, undef, undef, undef, undef, undef], []⟩ Try.func41 (by kernel_rfl) (by kernel_rfl) ?_
  refine sy_sq (part_mall 2) (part_mall 3) ?_
  refine sy_reg ?_
  refine rg_plain 0 (opsAt (part_mall 2)) [0, 1, 2] (by kernel_rfl) (by kernel_rfl) ?_
  refine ps_c (o_mall 2 0) 64 #[] Try.func64 ((mkinds_ok _).mono ?_)
  rintro e V1 ⟨rfl, kV1⟩
  refine ⟨_, rfl, ?_⟩
  have h2 := kV1.bk hb
  have K3 := K0.nn kV1
  obtain ⟨V4, eV4, ga, ega, h5, kV4⟩ := alloc_step V1 (#[.nilFunc, .nilFunc, .nilFunc, .nilFunc, .nilFunc, .nilFunc, .nilFunc, .nilFunc, .nilFunc, .nilFunc, .nilFunc, .nilFunc]) 109
  have n6 : g < ga := ega ▸ lt_of_block h2
  have n7 : w.heap.size ≤ ga := ega ▸ K3.size
  refine ps_r (o_mall 2 1) (pT ga 0) (w' := V4) (by rw [← eV4, ← ega]; exact exec_alloc0 109 (by kernel_rfl) (.agg (#[.nilFunc, .nilFunc, .nilFunc, .nilFunc, .nilFunc, .nilFunc, .nilFunc, .nilFunc, .nilFunc, .nilFunc, .nilFunc, .nilFunc])) (by kernel_rfl)) ?_
  clear eV4
  have h8 := kV4.bk h2
  have K9 := K3.nn kV4
  obtain ⟨V10, eV10, kV10⟩ := rowset_step V4 ga (#[.nilFunc, .func (.func 88) #[] #[], .func (.func 89) #[] #[], .func (.func 90) #[] #[], .func (.func 91) #[] #[], .func (.func 92) #[] #[], .func (.func 93) #[] #[], .func (.func 94) #[] #[], .func (.func 95) #[] #[], .func (.func 96) #[] #[], .func (.func 97) #[] #[], .func (.func 98) #[] #[]])
  have h11 : V10.heap[ga]? = some (.cells (#[.nilFunc, .func (.func 88) #[] #[], .func (.func 89) #[] #[], .func (.func 90) #[] #[], .func (.func 91) #[] #[], .func (.func 92) #[] #[], .func (.func 93) #[] #[], .func (.func 94) #[] #[], .func (.func 95) #[] #[], .func (.func 96) #[] #[], .func (.func 97) #[] #[], .func (.func 98) #[] #[]]) 109 (0, 0)) := eV10 ▸ setRow_heap _ _ _ _ _ _ h5
  refine ps_s (o_mall 2 2) (w' := V10) (by rw [← eV10]; exact exec_store_row 109 (.tmp 4) (.tmp 5) (by kernel_rfl) ga (#[.nilFunc, .func (.func 88) #[] #[], .func (.func 89) #[] #[], .func (.func 90) #[] #[], .func (.func 91) #[] #[], .func (.func 92) #[] #[], .func (.func 93) #[] #[], .func (.func 94) #[] #[], .func (.func 95) #[] #[], .func (.func 96) #[] #[], .func (.func 97) #[] #[], .func (.func 98) #[] #[]]) (by kernel_rfl) (by kernel_rfl) 109 (#[.nilFunc, .nilFunc, .nilFunc, .nilFunc, .nilFunc, .nilFunc, .nilFunc, .nilFunc, .nilFunc, .nilFunc, .nilFunc, .nilFunc]) h5 (by kernel_rfl) (by kernel_rfl) (by kernel_rfl)) ?_
  clear eV10
  have h12 := kV10.bo h8 (by omega)
  have K13 := K9.no kV10 (by omega)
  refine ps_end ?_
  refine then_n ?_
  refine sy_reg ?_
  refine rg_plain 1 (opsAt (part_mall 3)) [0, 1, 2, 3, 4, 5, 6, 7, 8] (by kernel_rfl) (by kernel_rfl) ?_
  refine ps_k (o_mall 3 0) (pT g 0) ?_
  refine ps_k (o_mall 3 1) (pT g 0) ?_
  refine ps_k (o_mall 3 2) (pT g 0) ?_
  refine ps_p (o_mall 3 3) (.int .i64 7) (exec_ld 3 (.tmp 8) g 0 Try.underlying3 (rc (h12) (hc))) ?_
  refine ps_p (o_mall 3 4) (pT ga 7) (exec_cast (v := pT ga (0 + 7 * 1)) (by simp) (exec_indexAt_arr 109 (.tmp 4) (.tmp 9) (by kernel_rfl) ga 0 (by kernel_rfl) .i64 7 (by kernel_rfl) _ _ 1 Try.underlying109 (by kernel_rfl) (by omega))) ?_
  refine ps_p (o_mall 3 5) (.func (.func 94) #[] #[]) (exec_ld 108 (.tmp 10) ga 7 Try.underlying108 (rc (h11) (by kernel_rfl))) ?_
  refine ps_k (o_mall 3 6) (pT g 0) ?_
  refine ps_k (o_mall 3 7) (V.v) ?_
  refine ps_P (o_mall 3 8) 94 #[.pointer (some ⟨g, 0, none⟩), V.v] _ _ (run_callV (o_mall 3 8) (.tmp 11) 94 #[] #[] #[.pointer (some ⟨g, 0, none⟩), V.v] (by kernel_rfl) (by kernel_rfl) (by kernel_rfl) (enters_of Try.func94 (by kernel_rfl) rfl)) (mpropose_ok V hV g K E _ (Run.keepsN H K13)) (fun c w' h => ⟨rfl, .inr ⟨c, rfl, h⟩⟩) ?_
  rintro V14 hE
  refine ps_end ?_
  refine sy_fall (.tuple #[]) rfl (by kernel_rfl) ?_
  exact .inl ⟨rfl, hE⟩
set_option maxRecDepth 100000 in
set_option maxHeartbeats 4000000 in
theorem mall_8 (V : Vis) (hV : V.Ok) (g : Nat) (K : World → Prop) (E : List PanicEntry → World → Prop) (cs : Array Value) (T : TypeId) (w : World) (hb : w.heap[g]? = some (.cells cs T (0, 0))) (hc : cs[0]? = some (.int .i64 8)) (H : Run V g [.n 1 0 63] (EvA V g K E) E w) :
    Calls Try.prog 41 #[.pointer (some ⟨g, 0, none⟩), V.v] w (PEnd K E) := by
  have K0 : Keeps Nob w w := Keeps.refl _ _
  refine sy_enter (part_mall 1) ⟨#[pT g 0, V.v, undef, undef, undef, undef, undef, undef, undef, undef, undef, undef, undef, undef, undef], []⟩ Try.func41 (by kernel_rfl) (by kernel_rfl) ?_
  refine sy_sq (part_mall 2) (part_mall 3) ?_
  refine sy_reg ?_
  refine rg_plain 0 (opsAt (part_mall 2)) [0, 1, 2] (by kernel_rfl) (by kernel_rfl) ?_
  refine ps_c (o_mall 2 0) 64 #[] Try.func64 ((mkinds_ok _).mono ?_)
  rintro e V1 ⟨rfl, kV1⟩
  refine ⟨_, rfl, ?_⟩
  have h2 := kV1.bk hb
  have K3 := K0.nn kV1
  obtain ⟨V4, eV4, ga, ega, h5, kV4⟩ := alloc_step V1 (#[.nilFunc, .nilFunc, .nilFunc, .nilFunc, .nilFunc, .nilFunc, .nilFunc, .nilFunc, .nilFunc, .nilFunc, .nilFunc, .nilFunc]) 109
  have n6 : g < ga := ega ▸ lt_of_block h2
  have n7 : w.heap.size ≤ ga := ega ▸ K3.size
  refine ps_r (o_mall 2 1) (pT ga 0) (w' := V4) (by rw [← eV4, ← ega]; exact exec_alloc0 109 (by kernel_rfl) (.agg (#[.nilFunc, .nilFunc, .nilFunc, .nilFunc, .nilFunc, .nilFunc, .nilFunc, .nilFunc, .nilFunc, .nilFunc, .nilFunc, .nilFunc])) (by kernel_rfl)) ?_
  clear eV4
  have h8 := kV4.bk h2
  have K9 := K3.nn kV4
  obtain ⟨V10, eV10, kV10⟩ := rowset_step V4 ga (#[.nilFunc, .func (.func 88) #[] #[], .func (.func 89) #[] #[], .func (.func 90) #[] #[], .func (.func 91) #[] #[], .func (.func 92) #[] #[], .func (.func 93) #[] #[], .func (.func 94) #[] #[], .func (.func 95) #[] #[], .func (.func 96) #[] #[], .func (.func 97) #[] #[], .func (.func 98) #[] #[]])
  have h11 : V10.heap[ga]? = some (.cells (#[.nilFunc, .func (.func 88) #[] #[], .func (.func 89) #[] #[], .func (.func 90) #[] #[], .func (.func 91) #[] #[], .func (.func 92) #[] #[], .func (.func 93) #[] #[], .func (.func 94) #[] #[], .func (.func 95) #[] #[], .func (.func 96) #[] #[], .func (.func 97) #[] #[], .func (.func 98) #[] #[]]) 109 (0, 0)) := eV10 ▸ setRow_heap _ _ _ _ _ _ h5
  refine ps_s (o_mall 2 2) (w' := V10) (by rw [← eV10]; exact exec_store_row 109 (.tmp 4) (.tmp 5) (by kernel_rfl) ga (#[.nilFunc, .func (.func 88) #[] #[], .func (.func 89) #[] #[], .func (.func 90) #[] #[], .func (.func 91) #[] #[], .func (.func 92) #[] #[], .func (.func 93) #[] #[], .func (.func 94) #[] #[], .func (.func 95) #[] #[], .func (.func 96) #[] #[], .func (.func 97) #[] #[], .func (.func 98) #[] #[]]) (by kernel_rfl) (by kernel_rfl) 109 (#[.nilFunc, .nilFunc, .nilFunc, .nilFunc, .nilFunc, .nilFunc, .nilFunc, .nilFunc, .nilFunc, .nilFunc, .nilFunc, .nilFunc]) h5 (by kernel_rfl) (by kernel_rfl) (by kernel_rfl)) ?_
  clear eV10
  have h12 := kV10.bo h8 (by omega)
  have K13 := K9.no kV10 (by omega)
  refine ps_end ?_
  refine then_n ?_
  refine sy_reg ?_
  refine rg_plain 1 (opsAt (part_mall 3)) [0, 1, 2, 3, 4, 5, 6, 7, 8] (by kernel_rfl) (by kernel_rfl) ?_
  refine ps_k (o_mall 3 0) (pT g 0) ?_
  refine ps_k (o_mall 3 1) (pT g 0) ?_
  refine ps_k (o_mall 3 2) (pT g 0) ?_
  refine ps_p (o_mall 3 3) (.int .i64 8) (exec_ld 3 (.tmp 8) g 0 Try.underlying3 (rc (h12) (hc))) ?_
  refine ps_p (o_mall 3 4) (pT ga 8) (exec_cast (v := pT ga (0 + 8 * 1)) (by simp) (exec_indexAt_arr 109 (.tmp 4) (.tmp 9) (by kernel_rfl) ga 0 (by kernel_rfl) .i64 8 (by kernel_rfl) _ _ 1 Try.underlying109 (by kernel_rfl) (by omega))) ?_
  refine ps_p (o_mall 3 5) (.func (.func 95) #[] #[]) (exec_ld 108 (.tmp 10) ga 8 Try.underlying108 (rc (h11) (by kernel_rfl))) ?_
  refine ps_k (o_mall 3 6) (pT g 0) ?_
  refine ps_k (o_mall 3 7) (V.v) ?_
  refine ps_P (o_mall 3 8) 95 #[.pointer (some ⟨g, 0, none⟩), V.v] _ _ (run_callV (o_mall 3 8) (.tmp 11) 95 #[] #[] #[.pointer (some ⟨g, 0, none⟩), V.v] (by kernel_rfl) (by kernel_rfl) (by kernel_rfl) (enters_of Try.func95 (by kernel_rfl) rfl)) (mevidence_ok V hV g K E _ (Run.keepsN H K13)) (fun c w' h => ⟨rfl, .inr ⟨c, rfl, h⟩⟩) ?_
  rintro V14 hE
  refine ps_end ?_
  refine sy_fall (.tuple #[]) rfl (by kernel_rfl) ?_
  exact .inl ⟨rfl, hE⟩
set_option maxRecDepth 100000 in
set_option maxHeartbeats 4000000 in
theorem mall_9 (V : Vis) (hV : V.Ok) (g : Nat) (K : World → Prop) (E : List PanicEntry → World → Prop) (cs : Array Value) (T : TypeId) (w : World) (hb : w.heap[g]? = some (.cells cs T (0, 0))) (hc : cs[0]? = some (.int .i64 9)) (H : Run V g [.n 1 0 63, .n 2 0 31] K E w) :
    Calls Try.prog 41 #[.pointer (some ⟨g, 0, none⟩), V.v] w (PEnd K E) := by
  have K0 : Keeps Nob w w := Keeps.refl _ _
  refine sy_enter (part_mall 1) ⟨#[pT g 0, V.v, undef, undef, undef, undef, undef, undef, undef, undef, undef, undef, undef, undef, undef], []⟩ Try.func41 (by kernel_rfl) (by kernel_rfl) ?_
  refine sy_sq (part_mall 2) (part_mall 3) ?_
  refine sy_reg ?_
  refine rg_plain 0 (opsAt (part_mall 2)) [0, 1, 2] (by kernel_rfl) (by kernel_rfl) ?_
  refine ps_c (o_mall 2 0) 64 #[] Try.func64 ((mkinds_ok _).mono ?_)
  rintro e V1 ⟨rfl, kV1⟩
  refine ⟨_, rfl, ?_⟩
  have h2 := kV1.bk hb
  have K3 := K0.nn kV1
  obtain ⟨V4, eV4, ga, ega, h5, kV4⟩ := alloc_step V1 (#[.nilFunc, .nilFunc, .nilFunc, .nilFunc, .nilFunc, .nilFunc, .nilFunc, .nilFunc, .nilFunc, .nilFunc, .nilFunc, .nilFunc]) 109
  have n6 : g < ga := ega ▸ lt_of_block h2
  have n7 : w.heap.size ≤ ga := ega ▸ K3.size
  refine ps_r (o_mall 2 1) (pT ga 0) (w' := V4) (by rw [← eV4, ← ega]; exact exec_alloc0 109 (by kernel_rfl) (.agg (#[.nilFunc, .nilFunc, .nilFunc, .nilFunc, .nilFunc, .nilFunc, .nilFunc, .nilFunc, .nilFunc, .nilFunc, .nilFunc, .nilFunc])) (by kernel_rfl)) ?_
  clear eV4
  have h8 := kV4.bk h2
  have K9 := K3.nn kV4
  obtain ⟨V10, eV10, kV10⟩ := rowset_step V4 ga (#[.nilFunc, .func (.func 88) #[] #[], .func (.func 89) #[] #[], .func (.func 90) #[] #[], .func (.func 91) #[] #[], .func (.func 92) #[] #[], .func (.func 93) #[] #[], .func (.func 94) #[] #[], .func (.func 95) #[] #[], .func (.func 96) #[] #[], .func (.func 97) #[] #[], .func (.func 98) #[] #[]])
  have h11 : V10.heap[ga]? = some (.cells (#[.nilFunc, .func (.func 88) #[] #[], .func (.func 89) #[] #[], .func (.func 90) #[] #[], .func (.func 91) #[] #[], .func (.func 92) #[] #[], .func (.func 93) #[] #[], .func (.func 94) #[] #[], .func (.func 95) #[] #[], .func (.func 96) #[] #[], .func (.func 97) #[] #[], .func (.func 98) #[] #[]]) 109 (0, 0)) := eV10 ▸ setRow_heap _ _ _ _ _ _ h5
  refine ps_s (o_mall 2 2) (w' := V10) (by rw [← eV10]; exact exec_store_row 109 (.tmp 4) (.tmp 5) (by kernel_rfl) ga (#[.nilFunc, .func (.func 88) #[] #[], .func (.func 89) #[] #[], .func (.func 90) #[] #[], .func (.func 91) #[] #[], .func (.func 92) #[] #[], .func (.func 93) #[] #[], .func (.func 94) #[] #[], .func (.func 95) #[] #[], .func (.func 96) #[] #[], .func (.func 97) #[] #[], .func (.func 98) #[] #[]]) (by kernel_rfl) (by kernel_rfl) 109 (#[.nilFunc, .nilFunc, .nilFunc, .nilFunc, .nilFunc, .nilFunc, .nilFunc, .nilFunc, .nilFunc, .nilFunc, .nilFunc, .nilFunc]) h5 (by kernel_rfl) (by kernel_rfl) (by kernel_rfl)) ?_
  clear eV10
  have h12 := kV10.bo h8 (by omega)
  have K13 := K9.no kV10 (by omega)
  refine ps_end ?_
  refine then_n ?_
  refine sy_reg ?_
  refine rg_plain 1 (opsAt (part_mall 3)) [0, 1, 2, 3, 4, 5, 6, 7, 8] (by kernel_rfl) (by kernel_rfl) ?_
  refine ps_k (o_mall 3 0) (pT g 0) ?_
  refine ps_k (o_mall 3 1) (pT g 0) ?_
  refine ps_k (o_mall 3 2) (pT g 0) ?_
  refine ps_p (o_mall 3 3) (.int .i64 9) (exec_ld 3 (.tmp 8) g 0 Try.underlying3 (rc (h12) (hc))) ?_
  refine ps_p (o_mall 3 4) (pT ga 9) (exec_cast (v := pT ga (0 + 9 * 1)) (by simp) (exec_indexAt_arr 109 (.tmp 4) (.tmp 9) (by kernel_rfl) ga 0 (by kernel_rfl) .i64 9 (by kernel_rfl) _ _ 1 Try.underlying109 (by kernel_rfl) (by omega))) ?_
  refine ps_p (o_mall 3 5) (.func (.func 96) #[] #[]) (exec_ld 108 (.tmp 10) ga 9 Try.underlying108 (rc (h11) (by kernel_rfl))) ?_
  refine ps_k (o_mall 3 6) (pT g 0) ?_
  refine ps_k (o_mall 3 7) (V.v) ?_
  refine ps_P (o_mall 3 8) 96 #[.pointer (some ⟨g, 0, none⟩), V.v] _ _ (run_callV (o_mall 3 8) (.tmp 11) 96 #[] #[] #[.pointer (some ⟨g, 0, none⟩), V.v] (by kernel_rfl) (by kernel_rfl) (by kernel_rfl) (enters_of Try.func96 (by kernel_rfl) rfl)) (munjail_ok V hV g K E _ (Run.keepsN H K13)) (fun c w' h => ⟨rfl, .inr ⟨c, rfl, h⟩⟩) ?_
  rintro V14 hE
  refine ps_end ?_
  refine sy_fall (.tuple #[]) rfl (by kernel_rfl) ?_
  exact .inl ⟨rfl, hE⟩
set_option maxRecDepth 100000 in
set_option maxHeartbeats 4000000 in
theorem mall_10 (V : Vis) (hV : V.Ok) (g : Nat) (K : World → Prop) (E : List PanicEntry → World → Prop) (cs : Array Value) (T : TypeId) (w : World) (hb : w.heap[g]? = some (.cells cs T (0, 0))) (hc : cs[0]? = some (.int .i64 10)) (H : Run V g [.n 1 0 63] K E w) :
    Calls Try.prog 41 #[.pointer (some ⟨g, 0, none⟩), V.v] w (PEnd K E) := by
  have K0 : Keeps Nob w w := Keeps.refl _ _
  refine sy_enter (part_mall 1) ⟨#[pT g 0, V.v, undef, undef, undef, undef, undef, undef, undef, undef, undef, undef, undef, undef, undef], []⟩ Try.func41 (by kernel_rfl) (by kernel_rfl) ?_
  refine sy_sq (part_mall 2) (part_mall 3) ?_
  refine sy_reg ?_
  refine rg_plain 0 (opsAt (part_mall 2)) [0, 1, 2] (by kernel_rfl) (by kernel_rfl) ?_
  refine ps_c (o_mall 2 0) 64 #[] Try.func64 ((mkinds_ok _).mono ?_)
  rintro e V1 ⟨rfl, kV1⟩
  refine ⟨_, rfl, ?_⟩
  have h2 := kV1.bk hb
  have K3 := K0.nn kV1
  obtain ⟨V4, eV4, ga, ega, h5, kV4⟩ := alloc_step V1 (#[.nilFunc, .nilFunc, .nilFunc, .nilFunc, .nilFunc, .nilFunc, .nilFunc, .nilFunc, .nilFunc, .nilFunc, .nilFunc, .nilFunc]) 109
  have n6 : g < ga := ega ▸ lt_of_block h2
  have n7 : w.heap.size ≤ ga := ega ▸ K3.size
  refine ps_r (o_mall 2 1) (pT ga 0) (w' := V4) (by rw [← eV4, ← ega]; exact exec_alloc0 109 (by kernel_rfl) (.agg (#[.nilFunc, .nilFunc, .nilFunc, .nilFunc, .nilFunc, .nilFunc, .nilFunc, .nilFunc, .nilFunc, .nilFunc, .nilFunc, .nilFunc])) (by kernel_rfl)) ?_
  clear eV4
  have h8 := kV4.bk h2
  have K9 := K3.nn kV4
  obtain ⟨V10, eV10, kV10⟩ := rowset_step V4 ga (#[.nilFunc, .func (.func 88) #[] #[], .func (.func 89) #[] #[], .func (.func 90) #[] #[], .func (.func 91) #[] #[], .func (.func 92) #[] #[], .func (.func 93) #[] #[], .func (.func 94) #[] #[], .func (.func 95) #[] #[], .func (.func 96) #[] #[], .func (.func 97) #[] #[], .func (.func 98) #[] #[]])
  have h11 : V10.heap[ga]? = some (.cells (#[.nilFunc, .func (.func 88) #[] #[], .func (.func 89) #[] #[], .func (.func 90) #[] #[], .func (.func 91) #[] #[], .func (.func 92) #[] #[], .func (.func 93) #[] #[], .func (.func 94) #[] #[], .func (.func 95) #[] #[], .func (.func 96) #[] #[], .func (.func 97) #[] #[], .func (.func 98) #[] #[]]) 109 (0, 0)) := eV10 ▸ setRow_heap _ _ _ _ _ _ h5
  refine ps_s (o_mall 2 2) (w' := V10) (by rw [← eV10]; exact exec_store_row 109 (.tmp 4) (.tmp 5) (by kernel_rfl) ga (#[.nilFunc, .func (.func 88) #[] #[], .func (.func 89) #[] #[], .func (.func 90) #[] #[], .func (.func 91) #[] #[], .func (.func 92) #[] #[], .func (.func 93) #[] #[], .func (.func 94) #[] #[], .func (.func 95) #[] #[], .func (.func 96) #[] #[], .func (.func 97) #[] #[], .func (.func 98) #[] #[]]) (by kernel_rfl) (by kernel_rfl) 109 (#[.nilFunc, .nilFunc, .nilFunc, .nilFunc, .nilFunc, .nilFunc, .nilFunc, .nilFunc, .nilFunc, .nilFunc, .nilFunc, .nilFunc]) h5 (by kernel_rfl) (by kernel_rfl) (by kernel_rfl)) ?_
  clear eV10
  have h12 := kV10.bo h8 (by omega)
  have K13 := K9.no kV10 (by omega)
  refine ps_end ?_
  refine then_n ?_
  refine sy_reg ?_
  refine rg_plain 1 (opsAt (part_mall 3)) [0, 1, 2, 3, 4, 5, 6, 7, 8] (by kernel_rfl) (by kernel_rfl) ?_
  refine ps_k (o_mall 3 0) (pT g 0) ?_
  refine ps_k (o_mall 3 1) (pT g 0) ?_
  refine ps_k (o_mall 3 2) (pT g 0) ?_
  refine ps_p (o_mall 3 3) (.int .i64 10) (exec_ld 3 (.tmp 8) g 0 Try.underlying3 (rc (h12) (hc))) ?_
  refine ps_p (o_mall 3 4) (pT ga 10) (exec_cast (v := pT ga (0 + 10 * 1)) (by simp) (exec_indexAt_arr 109 (.tmp 4) (.tmp 9) (by kernel_rfl) ga 0 (by kernel_rfl) .i64 10 (by kernel_rfl) _ _ 1 Try.underlying109 (by kernel_rfl) (by omega))) ?_
  refine ps_p (o_mall 3 5) (.func (.func 97) #[] #[]) (exec_ld 108 (.tmp 10) ga 10 Try.underlying108 (rc (h11) (by kernel_rfl))) ?_
  refine ps_k (o_mall 3 6) (pT g 0) ?_
  refine ps_k (o_mall 3 7) (V.v) ?_
  refine ps_P (o_mall 3 8) 97 #[.pointer (some ⟨g, 0, none⟩), V.v] _ _ (run_callV (o_mall 3 8) (.tmp 11) 97 #[] #[] #[.pointer (some ⟨g, 0, none⟩), V.v] (by kernel_rfl) (by kernel_rfl) (by kernel_rfl) (enters_of Try.func97 (by kernel_rfl) rfl)) (mclaim_ok V hV g K E _ (Run.keepsN H K13)) (fun c w' h => ⟨rfl, .inr ⟨c, rfl, h⟩⟩) ?_
  rintro V14 hE
  refine ps_end ?_
  refine sy_fall (.tuple #[]) rfl (by kernel_rfl) ?_
  exact .inl ⟨rfl, hE⟩
set_option maxRecDepth 100000 in
set_option maxHeartbeats 4000000 in
theorem mall_11 (V : Vis) (hV : V.Ok) (g : Nat) (K : World → Prop) (E : List PanicEntry → World → Prop) (cs : Array Value) (T : TypeId) (w : World) (hb : w.heap[g]? = some (.cells cs T (0, 0))) (hc : cs[0]? = some (.int .i64 11)) (H : Run V g [.n 10 1 1000] K E w) :
    Calls Try.prog 41 #[.pointer (some ⟨g, 0, none⟩), V.v] w (PEnd K E) := by
  have K0 : Keeps Nob w w := Keeps.refl _ _
  refine sy_enter (part_mall 1) ⟨#[pT g 0, V.v, undef, undef, undef, undef, undef, undef, undef, undef, undef, undef, undef, undef, undef], []⟩ Try.func41 (by kernel_rfl) (by kernel_rfl) ?_
  refine sy_sq (part_mall 2) (part_mall 3) ?_
  refine sy_reg ?_
  refine rg_plain 0 (opsAt (part_mall 2)) [0, 1, 2] (by kernel_rfl) (by kernel_rfl) ?_
  refine ps_c (o_mall 2 0) 64 #[] Try.func64 ((mkinds_ok _).mono ?_)
  rintro e V1 ⟨rfl, kV1⟩
  refine ⟨_, rfl, ?_⟩
  have h2 := kV1.bk hb
  have K3 := K0.nn kV1
  obtain ⟨V4, eV4, ga, ega, h5, kV4⟩ := alloc_step V1 (#[.nilFunc, .nilFunc, .nilFunc, .nilFunc, .nilFunc, .nilFunc, .nilFunc, .nilFunc, .nilFunc, .nilFunc, .nilFunc, .nilFunc]) 109
  have n6 : g < ga := ega ▸ lt_of_block h2
  have n7 : w.heap.size ≤ ga := ega ▸ K3.size
  refine ps_r (o_mall 2 1) (pT ga 0) (w' := V4) (by rw [← eV4, ← ega]; exact exec_alloc0 109 (by kernel_rfl) (.agg (#[.nilFunc, .nilFunc, .nilFunc, .nilFunc, .nilFunc, .nilFunc, .nilFunc, .nilFunc, .nilFunc, .nilFunc, .nilFunc, .nilFunc])) (by kernel_rfl)) ?_
  clear eV4
  have h8 := kV4.bk h2
  have K9 := K3.nn kV4
  obtain ⟨V10, eV10, kV10⟩ := rowset_step V4 ga (#[.nilFunc, .func (.func 88) #[] #[], .func (.func 89) #[] #[], .func (.func 90) #[] #[], .func (.func 91) #[] #[], .func (.func 92) #[] #[], .func (.func 93) #[] #[], .func (.func 94) #[] #[], .func (.func 95) #[] #[], .func (.func 96) #[] #[], .func (.func 97) #[] #[], .func (.func 98) #[] #[]])
  have h11 : V10.heap[ga]? = some (.cells (#[.nilFunc, .func (.func 88) #[] #[], .func (.func 89) #[] #[], .func (.func 90) #[] #[], .func (.func 91) #[] #[], .func (.func 92) #[] #[], .func (.func 93) #[] #[], .func (.func 94) #[] #[], .func (.func 95) #[] #[], .func (.func 96) #[] #[], .func (.func 97) #[] #[], .func (.func 98) #[] #[]]) 109 (0, 0)) := eV10 ▸ setRow_heap _ _ _ _ _ _ h5
  refine ps_s (o_mall 2 2) (w' := V10) (by rw [← eV10]; exact exec_store_row 109 (.tmp 4) (.tmp 5) (by kernel_rfl) ga (#[.nilFunc, .func (.func 88) #[] #[], .func (.func 89) #[] #[], .func (.func 90) #[] #[], .func (.func 91) #[] #[], .func (.func 92) #[] #[], .func (.func 93) #[] #[], .func (.func 94) #[] #[], .func (.func 95) #[] #[], .func (.func 96) #[] #[], .func (.func 97) #[] #[], .func (.func 98) #[] #[]]) (by kernel_rfl) (by kernel_rfl) 109 (#[.nilFunc, .nilFunc, .nilFunc, .nilFunc, .nilFunc, .nilFunc, .nilFunc, .nilFunc, .nilFunc, .nilFunc, .nilFunc, .nilFunc]) h5 (by kernel_rfl) (by kernel_rfl) (by kernel_rfl)) ?_
  clear eV10
  have h12 := kV10.bo h8 (by omega)
  have K13 := K9.no kV10 (by omega)
  refine ps_end ?_
  refine then_n ?_
  refine sy_reg ?_
  refine rg_plain 1 (opsAt (part_mall 3)) [0, 1, 2, 3, 4, 5, 6, 7, 8] (by kernel_rfl) (by kernel_rfl) ?_
  refine ps_k (o_mall 3 0) (pT g 0) ?_
  refine ps_k (o_mall 3 1) (pT g 0) ?_
  refine ps_k (o_mall 3 2) (pT g 0) ?_
  refine ps_p (o_mall 3 3) (.int .i64 11) (exec_ld 3 (.tmp 8) g 0 Try.underlying3 (rc (h12) (hc))) ?_
  refine ps_p (o_mall 3 4) (pT ga 11) (exec_cast (v := pT ga (0 + 11 * 1)) (by simp) (exec_indexAt_arr 109 (.tmp 4) (.tmp 9) (by kernel_rfl) ga 0 (by kernel_rfl) .i64 11 (by kernel_rfl) _ _ 1 Try.underlying109 (by kernel_rfl) (by omega))) ?_
  refine ps_p (o_mall 3 5) (.func (.func 98) #[] #[]) (exec_ld 108 (.tmp 10) ga 11 Try.underlying108 (rc (h11) (by kernel_rfl))) ?_
  refine ps_k (o_mall 3 6) (pT g 0) ?_
  refine ps_k (o_mall 3 7) (V.v) ?_
  refine ps_P (o_mall 3 8) 98 #[.pointer (some ⟨g, 0, none⟩), V.v] _ _ (run_callV (o_mall 3 8) (.tmp 11) 98 #[] #[] #[.pointer (some ⟨g, 0, none⟩), V.v] (by kernel_rfl) (by kernel_rfl) (by kernel_rfl) (enters_of Try.func98 (by kernel_rfl) rfl)) (mtick_ok V hV g K E _ (Run.keepsN H K13)) (fun c w' h => ⟨rfl, .inr ⟨c, rfl, h⟩⟩) ?_
  rintro V14 hE
  refine ps_end ?_
  refine sy_fall (.tuple #[]) rfl (by kernel_rfl) ?_
  exact .inl ⟨rfl, hE⟩
theorem mall_ok (V : Vis) (hV : V.Ok) (g k : Nat) (K : World → Prop) (E : List PanicEntry → World → Prop) (cs : Array Value) (T : TypeId) (w : World) (h1 : 1 ≤ k) (h2 : k ≤ 11) (hb : w.heap[g]? = some (.cells cs T (0, 0))) (hc : cs[0]? = some (.int .i64 ((k : Nat) : Int))) (H : RunAll V g k K E w) :
    Calls Try.prog 41 #[.pointer (some ⟨g, 0, none⟩), V.v] w (PEnd K E) := by
  rcases (show k = 1 ∨ k = 2 ∨ k = 3 ∨ k = 4 ∨ k = 5 ∨ k = 6 ∨ k = 7 ∨ k = 8 ∨ k = 9 ∨ k = 10 ∨ k = 11 by omega) with rfl | rfl | rfl | rfl | rfl | rfl | rfl | rfl | rfl | rfl | rfl
  · exact mall_1 V hV g K E cs T w hb hc ((if_neg (by decide) : RunAll V g 1 K E w = _) ▸ H)
  · exact mall_2 V hV g K E cs T w hb hc ((if_neg (by decide) : RunAll V g 2 K E w = _) ▸ H)
  · exact mall_3 V hV g K E cs T w hb hc ((if_neg (by decide) : RunAll V g 3 K E w = _) ▸ H)
  · exact mall_4 V hV g K E cs T w hb hc ((if_neg (by decide) : RunAll V g 4 K E w = _) ▸ H)
  · exact mall_5 V hV g K E cs T w hb hc ((if_neg (by decide) : RunAll V g 5 K E w = _) ▸ H)
  · exact mall_6 V hV g K E cs T w hb hc ((if_neg (by decide) : RunAll V g 6 K E w = _) ▸ H)
  · exact mall_7 V hV g K E cs T w hb hc ((if_neg (by decide) : RunAll V g 7 K E w = _) ▸ H)
  · exact mall_8 V hV g K E cs T w hb hc ((if_pos rfl : RunAll V g 8 K E w = _) ▸ H)
  · exact mall_9 V hV g K E cs T w hb hc ((if_neg (by decide) : RunAll V g 9 K E w = _) ▸ H)
  · exact mall_10 V hV g K E cs T w hb hc ((if_neg (by decide) : RunAll V g 10 K E w = _) ▸ H)
  · exact mall_11 V hV g K E cs T w hb hc ((if_neg (by decide) : RunAll V g 11 K E w = _) ▸ H)
def voteM (v1 s1 t1 : NF) (r : HF) (g : AF) : List MIt := [.k 1, .n v1 0 31, .n s1 0 4294967296, .n t1 0 4294967296, .h r, .a g]
def blockM (v h : NF) (r : HF) (g : AF) : List MIt := [.k 2, .n v 0 31, .n h 1 4294967296, .h r, .a g]
def lotM : List MIt := [.n .sv 0 31, .n .ss 1 4294967296, .n .sp (-1) 31, .n .sf 0 4294967296]
def kM : Nat → List MIt
  | 1 => [.n .f 0 63, .n .t 0 63, .a .am]
  | 2 => [.n .f 0 63, .a .mn, .a .am]
  | 3 => [.n .f 0 63, .n .vl 0 31, .a .am]
  | 4 => [.n .f 0 63] ++ (lotM ++ [.a .am])
  | 5 => [.n .f 0 63] ++ (lotM ++ [.a .am, .n .t 0 31])
  | 6 => [.n .f 0 63] ++ voteM .av .as_ .at_ .ar .ag
  | 7 => [.n .f 0 63] ++ blockM .pv .ph .pr .pg
  | 9 => [.n .f 0 63, .n .vl 0 31]
  | 10 => [.n .f 0 63]
  | 11 => [.n .n 1 1000]
  | _ => []
def evM (p : Int) : List MIt := if p = 3 then blockM .pv .ph .pr .pg ++ blockM .qv .qh .qr .qg else voteM .av .as_ .at_ .ar .ag ++ voteM .bv .bs .bt .br .bg
theorem kM_low (k : Nat) : (kM k).map MIt.low = kItems k := by
  match k with
  | 0 => rfl
  | 1 => rfl
  | 2 => rfl
  | 3 => rfl
  | 4 => rfl
  | 5 => rfl
  | 6 => rfl
  | 7 => rfl
  | 8 => rfl
  | 9 => rfl
  | 10 => rfl
  | 11 => rfl
  | n + 12 => rfl
theorem evM_low (p : Int) : (evM p).map MIt.low = evI p := by unfold evM evI; split <;> rfl
theorem kM_fit (k : Nat) : ∀ i ∈ kM k, i.Fit := by unfold kM; split <;> simp [MIt.Fit, lotM, voteM, blockM]
theorem evM_fit (p : Int) : ∀ i ∈ evM p, i.Fit := by unfold evM; split <;> simp [MIt.Fit, lotM, voteM, blockM]
/-- What of a message is gone through. -/
def Msg.items (m : Msg) : List MIt := if m.k = 8 then [.n .f 0 63] ++ ([.n .pf 1 3] ++ evM m.pf) else kM m.k.toNat
theorem Msg.items_fit (m : Msg) : ∀ i ∈ m.items, i.Fit := by
  unfold Msg.items
  split
  · intro i hi
    rcases List.mem_append.1 hi with h | h
    · obtain rfl : i = .n .f 0 63 := by simpa using h
      simp [MIt.Fit]
    · rcases List.mem_append.1 h with h | h
      · obtain rfl : i = .n .pf 1 3 := by simpa using h
        simp [MIt.Fit]
      · exact evM_fit _ i h
  · exact kM_fit _
theorem Msg.items8 {m : Msg} (h : m.k = 8) : m.items = [.n .f 0 63] ++ ([.n .pf 1 3] ++ evM m.pf) := if_pos h
theorem Msg.itemsk {m : Msg} {k : Nat} (h : m.k = (k : Int)) (h8 : ¬ k = 8) : m.items = kM k := by unfold Msg.items; rw [if_neg (by omega), h]; rfl
def clrAll (m : Msg) : Msg := m.items.foldl clrIt m
def wrAll (m : Msg) (s : WS) : WS := m.items.foldl (wrIt m) s
def rdAll (l : List UInt8) (k : Nat) (ms : Msg × RS) : Msg × RS :=
  if k = 8 then (evM (if (rdIt l (rdIt l ms (.n .f 0 63)) (.n .pf 1 3)).1.pf ≠ 0 then (rdIt l (rdIt l ms (.n .f 0 63)) (.n .pf 1 3)).1.pf else (rdIt l ms (.n .f 0 63)).1.pf)).foldl (rdIt l) (rdIt l (rdIt l ms (.n .f 0 63)) (.n .pf 1 3)) else (kM k).foldl (rdIt l) ms
theorem clrs_R (l : List MIt) : ∀ m : Msg, m.R → (l.foldl clrIt m).R := by
  induction l with
  | nil => intro m h; exact h
  | cons i r ih => intro m h; exact ih _ (clr_R i h)
theorem clrAll_R {m : Msg} (h : m.R) : (clrAll m).R := clrs_R _ m h
theorem rds_R (l : List UInt8) (its : List MIt) : ∀ ms : Msg × RS, ms.1.R → (its.foldl (rdIt l) ms).1.R := by
  induction its with
  | nil => intro m h; exact h
  | cons i r ih => intro m h; exact ih _ (rd_R i h)
theorem rdAll_R {l : List UInt8} {k : Nat} {ms : Msg × RS} (h : ms.1.R) : (rdAll l k ms).1.R := by
  unfold rdAll
  split
  · exact rds_R _ _ _ (rd_R _ (rd_R _ h))
  · exact rds_R _ _ _ h
section
variable {g : Nat} {K : World → Prop} {E : List PanicEntry → World → Prop}
theorem all_chk (m : Msg) (hr : m.R) (k : Nat) (hk : m.k = (k : Int)) (w : World) (hb : w.heap[g]? = some (.cells m.c 70 (0, 0))) (hK : m.items.all (chkIt m) = true → ∀ w', Keeps Nob w w' → K w') (hE : m.items.all (chkIt m) = false → ∀ w', Keeps Nob w w' → E [outP] w') : RunAll chkV g k K E w := by
  unfold RunAll
  by_cases h8 : k = 8
  · rw [if_pos h8]
    rw [Msg.items8 (by omega), List.all_append, List.all_append] at hK hE
    refine run_chk m hr [.n .f 0 63] w hb (fun h1 w1 k1 => ?_) (fun h1 w1 k1 => hE (by rw [h1]; rfl) w1 k1)
    refine ⟨m.c, m.pf, k1.bk hb, Msg.get_n hr .pf, ?_⟩
    refine run_chk m hr [.n .pf 1 3] w1 (k1.bk hb) (fun h2 w2 k2 => ?_) (fun h2 w2 k2 => hE (by rw [h1, h2]; rfl) w2 (k1.nn k2))
    refine ⟨m.c, m.pf, (k1.nn k2).bk hb, Msg.get_n hr .pf, ?_⟩
    rw [ite_self, ← evM_low]
    exact run_chk m hr (evM m.pf) w2 ((k1.nn k2).bk hb) (fun h3 w3 k3 => hK (by rw [h1, h2, h3]; rfl) w3 ((k1.nn k2).nn k3)) (fun h3 w3 k3 => hE (by rw [h1, h2, h3]; rfl) w3 ((k1.nn k2).nn k3))
  · rw [if_neg h8, ← kM_low]
    rw [Msg.itemsk hk h8] at hK hE
    exact run_chk m hr (kM k) w hb hK hE
theorem all_clr (m : Msg) (hr : m.R) (k : Nat) (hk : m.k = (k : Int)) (w : World) (hb : w.heap[g]? = some (.cells m.c 70 (0, 0))) (hK : ∀ w', w'.heap[g]? = some (.cells (clrAll m).c 70 (0, 0)) → Keeps (One g) w w' → K w') : RunAll clrV g k K E w := by
  unfold RunAll
  unfold clrAll at hK
  have tr : ∀ {a b c : World}, Keeps (One g) a b → Keeps (One g) b c → Keeps (One g) a c := fun h1 h2 => h1.then h2 (fun _ _ x => x)
  by_cases h8 : k = 8
  · rw [if_pos h8]
    rw [Msg.items8 (by omega), List.foldl_append, List.foldl_append] at hK
    refine run_clr [.n .f 0 63] m w hr hb (fun w1 b1 k1 => ?_)
    refine ⟨_, m.pf, b1, Msg.get_n (clrs_R [.n .f 0 63] m hr) .pf, ?_⟩
    refine run_clr [.n .pf 1 3] _ w1 (clrs_R [.n .f 0 63] m hr) b1 (fun w2 b2 k2 => ?_)
    refine ⟨_, 0, b2, Msg.get_n (clrs_R [.n .pf 1 3] _ (clrs_R [.n .f 0 63] m hr)) .pf, ?_⟩
    rw [if_neg (by decide), ← evM_low]
    exact run_clr (evM m.pf) _ w2 (clrs_R [.n .pf 1 3] _ (clrs_R [.n .f 0 63] m hr)) b2 (fun w3 b3 k3 => hK w3 b3 (tr (tr k1 k2) k3))
  · rw [if_neg h8, ← kM_low]
    rw [Msg.itemsk hk h8] at hK
    exact run_clr (kM k) m w hr hb hK
theorem all_wr (b : Nat) (m : Msg) (hr : m.R) (ha : Am m) (k : Nat) (hk : m.k = (k : Int)) (s : WS) (F : Nat → Prop) (w : World) (hb : w.heap[g]? = some (.cells m.c 70 (0, 0))) (hR : Wr w F b s) (hg : ¬ F g) (hall : m.items.all (chkIt m) = true)
    (hK : ∀ w' F', Wr w' F' b (wrAll m s) → Step w w' F F' → K w') : RunAll (wrV b) g k K E w := by
  unfold RunAll
  unfold wrAll at hK
  have hfit := m.items_fit
  have keep : ∀ {w w' : World} {F F'}, w.heap[g]? = some (.cells m.c 70 (0, 0)) → Step w w' F F' → ¬ F g → w'.heap[g]? = some (.cells m.c 70 (0, 0)) ∧ ¬ F' g := fun hb hS hg => ⟨(hS.1.block g (lt_of_block hb) hg).trans hb, fun h => (hS.2 g h).elim hg (fun x => by have := lt_of_block hb; omega)⟩
  by_cases h8 : k = 8
  · rw [if_pos h8]
    rw [Msg.items8 (by omega)] at hK hall hfit
    rw [List.foldl_append, List.foldl_append] at hK
    rw [List.all_append, List.all_append, Bool.and_eq_true, Bool.and_eq_true] at hall
    refine run_wr b m hr ha [.n .f 0 63] s F w hb hR hg hall.1 (fun i hi => hfit i (List.mem_append.2 (.inl hi))) (fun w1 F1 r1 s1 => ?_)
    have q1 := keep hb s1 hg
    refine ⟨m.c, m.pf, q1.1, Msg.get_n hr .pf, ?_⟩
    refine run_wr b m hr ha [.n .pf 1 3] _ F1 w1 q1.1 r1 q1.2 hall.2.1 (fun i hi => hfit i (List.mem_append.2 (.inr (List.mem_append.2 (.inl hi))))) (fun w2 F2 r2 s2 => ?_)
    have q2 := keep q1.1 s2 q1.2
    refine ⟨m.c, m.pf, q2.1, Msg.get_n hr .pf, ?_⟩
    rw [ite_self, ← evM_low]
    exact run_wr b m hr ha (evM m.pf) _ F2 w2 q2.1 r2 q2.2 hall.2.2 (evM_fit _) (fun w3 F3 r3 s3 => hK w3 F3 r3 ((s1.trans s2).trans s3))
  · rw [if_neg h8, ← kM_low]
    rw [Msg.itemsk hk h8] at hK hall
    exact run_wr b m hr ha (kM k) s F w hb hR hg hall (kM_fit k) hK
theorem all_rd (b : Nat) (l : List UInt8) (hl : l.length ≤ 100000000) (k : Nat) (m : Msg) (s : RS) (F : Nat → Prop) (w : World) (hr : m.R) (hb : w.heap[g]? = some (.cells m.c 70 (0, 0))) (hR : Rd w F b l s) (hg : ¬ F g)
    (hK : ∀ w' F', w'.heap[g]? = some (.cells (rdAll l k (m, s)).1.c 70 (0, 0)) → Rd w' F' b l (rdAll l k (m, s)).2 → ¬ F' g → Step w w' (Or2 F (One g)) (Or2 F' (One g)) → K w') : RunAll (rdV b) g k K E w := by
  unfold RunAll
  unfold rdAll at hK
  by_cases h8 : k = 8
  · rw [if_pos h8]
    simp only [if_pos h8] at hK
    refine run_rd b l hl [.n .f 0 63] m s F w hr hb hR hg (by simp [MIt.Fit]) (fun w1 F1 b1 r1 g1 s1 => ?_)
    have hr1 := rds_R l [.n .f 0 63] (m, s) hr
    refine ⟨_, _, b1, Msg.get_n hr1 .pf, ?_⟩
    refine run_rd b l hl [.n .pf 1 3] _ _ F1 w1 hr1 b1 r1 g1 (by simp [MIt.Fit]) (fun w2 F2 b2 r2 g2 s2 => ?_)
    have hr2 := rds_R l [.n .pf 1 3] _ hr1
    refine ⟨_, _, b2, Msg.get_n hr2 .pf, ?_⟩
    rw [← evM_low]
    exact run_rd b l hl (evM _) _ _ F2 w2 hr2 b2 r2 g2 (evM_fit _) (fun w3 F3 b3 r3 g3 s3 => hK w3 F3 b3 r3 g3 ((s1.trans s2).trans s3))
  · rw [if_neg h8, ← kM_low]
    simp only [if_neg h8] at hK
    exact run_rd b l hl (kM k) m s F w hr hb hR hg (kM_fit k) hK
end
end Go.Proofs.Ytmapcghgdbfmhaa
