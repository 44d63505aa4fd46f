/-
  Keccak: the document's words and bytes, walked (printed by kec13.py). Conditions: none.
-/
import Derived.Test.YtenaakldccjnbaaKecR
namespace Go.Proofs.Ytenaakldccjnbaa
open Go Go.RowKit Go.Own Go.Shelf
/-- The word of the bytes from m to 8. -/
def wd8 (l : List UInt8) (m : Nat) : Nat := Kec.word ((l.take 8).drop m)
theorem wd8_lt (l : List UInt8) (m : Nat) (h : 0 < m) : 256 * wd8 l m + 256 ≤ Kec.W := by
  have h1 := Kec.word_lt ((l.take 8).drop m)
  have h2 : ((l.take 8).drop m).length ≤ 7 := by rw [List.length_drop, List.length_take]; omega
  have h3 : (256 : Nat) ^ ((l.take 8).drop m).length ≤ 256 ^ 7 := Nat.pow_le_pow_right (by decide) h2
  have h4 : (256 : Nat) ^ 7 * 256 = Kec.W := by decide
  unfold wd8
  omega
theorem wd8_step (l : List UInt8) (m : Nat) (h : 0 < m) (h8 : m ≤ 8) (hl : 8 ≤ l.length) : 256 * wd8 l m + (l.getD (m - 1) 0).toNat = wd8 l (m - 1) := by
  have hlt : m - 1 < (l.take 8).length := by rw [List.length_take]; omega
  unfold wd8
  rw [List.drop_eq_getElem_cons hlt, show m - 1 + 1 = m by omega, Kec.word, List.getElem_take, List.getD_eq_getElem?_getD, List.getElem?_eq_getElem (by omega)]
  show _ = _ + _
  rw [Nat.add_comm]; rfl
theorem wd8_all (l : List UInt8) : wd8 l 0 = Kec.word (l.take 8) := rfl
theorem wd8_none (l : List UInt8) : wd8 l 8 = 0 := by unfold wd8; rw [List.drop_of_length_le (by rw [List.length_take]; omega)]; rfl
theorem eight_snoc (n k : Nat) : B ((List.range (k + 1)).map fun i => UInt8.ofNat (n / 256 ^ i)) = B ((List.range k).map fun i => UInt8.ofNat (n / 256 ^ i)) ++ [.int .u8 (((UInt8.ofNat (n / 256 ^ k)).toNat : Nat) : Int)] := by
  rw [List.range_succ, List.map_append, B_append]; rfl

noncomputable def part_hword (n : Nat) : Code := partOf Try.f88 n
noncomputable abbrev o_hword (n k : Nat) : Oper := (opsAt (part_hword n)).getD k default
set_option maxRecDepth 100000 in
set_option maxHeartbeats 4000000 in
theorem hword_ok (g o n cap : Nat) (l : List UInt8) (w : World) (hn : l.length = n) (h8 : 8 ≤ n) (hc : n ≤ cap) (hv : BytesAt w (.slice (some ⟨g, o, none⟩) n cap) l) :
    Calls Try.prog 88 #[.slice (some ⟨g, o, none⟩) n cap] w (fun e w' => e = .returned (.int .u64 ((Kec.word (l.take 8) : Nat) : Int)) ∧ w = w') := by
  have hW : Kec.W = 18446744073709551616 := rfl
  have K0 : Keeps Nob w w := Keeps.refl _ _
  refine sy_enter (part_hword 1) ⟨#[.slice (some ⟨g, o, none⟩) n cap, undef, undef, undef, undef, undef, undef, undef, undef, undef, undef, undef, undef, undef, undef, undef, undef, undef], []⟩ Try.func88 (by kernel_rfl) (by kernel_rfl) ?_
  refine sy_sq (part_hword 2) (part_hword 3) ?_
  refine sy_reg ?_
  refine rg_plain 0 (opsAt (part_hword 2)) [0] (by kernel_rfl) (by kernel_rfl) ?_
  refine ps_k (o_hword 2 0) (.int .u64 0) ?_
  refine ps_end ?_
  refine then_n ?_
  refine sy_sq (part_hword 6) (part_hword 7) ?_
  refine sy_reg ?_
  refine rg_plain 1 (opsAt (part_hword 6)) [0] (by kernel_rfl) (by kernel_rfl) ?_
  refine ps_k (o_hword 6 0) (.int .u64 0) ?_
  refine ps_end ?_
  refine then_n ?_
  refine sy_sq (part_hword 14) (part_hword 15) ?_
  refine sy_sq (part_hword 28) (part_hword 29) ?_
  refine sy_reg ?_
  refine rg_plain 2 (opsAt (part_hword 28)) [0] (by kernel_rfl) (by kernel_rfl) ?_
  refine ps_k (o_hword 28 0) (.int .i64 7) ?_
  refine ps_end ?_
  refine then_n ?_
  refine sy_bk 0 (part_hword 58) ?_
  refine sy_loop (part_hword 116) (fun a V => ∃ (m : Nat) (r : Nat) (u5 u6 u7 u8 u9 u10 u11 u12 u13 u14 u15 u16 : Value), (a = ⟨#[.slice (some ⟨g, o, none⟩) n cap, undef, .int .u64 0, uN r, .int .i64 (((m : Nat) : Int) - 1), u5, u6, u7, u8, u9, u10, u11, u12, u13, u14, u15, u16, undef], []⟩) ∧ (m ≤ 8) ∧ (r = wd8 l m) ∧ (w = V)) (fun a _ => (intOf (a.tmps.getD 4 undef) + 1).toNat) (by kernel_rfl) ?_ ?_
  · exact ⟨8, 0, undef, undef, undef, undef, undef, undef, undef, undef, undef, undef, undef, undef, by kernel_rfl, by omega, (wd8_none l).symm, rfl⟩
  · rintro a V1 ⟨m, r, u5, u6, u7, u8, u9, u10, u11, u12, u13, u14, u15, u16, rfl, hm, hr, rfl⟩
    by_cases pos_m : 0 < m
    · show _
      refine sy_sq (part_hword 232) (part_hword 233) ?_
      refine sy_sq (part_hword 464) (part_hword 465) ?_
      refine sy_reg ?_
      refine rg_plain 3 (opsAt (part_hword 464)) [0, 1] (by kernel_rfl) (by kernel_rfl) ?_
      refine ps_k (o_hword 464 0) (.int .i64 (((m : Nat) : Int) - 1)) ?_
      refine ps_p (o_hword 464 1) (.bool true) (dct ((((((m : Nat) : Int) - 1)) : Int) ≥ ((0) : Int)) (by omega)) ?_
      refine ps_end ?_
      refine then_n ?_
      refine sy_ys (.tmp 6) (part_hword 930) (part_hword 931) ?_
      refine sy_sk ?_
      refine then_n ?_
      refine sy_sq (part_hword 466) (part_hword 467) ?_
      refine sy_bk 1 (part_hword 932) ?_
      refine sy_reg ?_
      refine rg_plain 5 (opsAt (part_hword 932)) [0, 1, 2, 3, 4, 5, 6, 7, 8] (by kernel_rfl) (by kernel_rfl) ?_
      refine ps_k (o_hword 932 0) (uN r) ?_
      refine ps_p (o_hword 932 1) (uN (256 * r)) (exec_cast (v := .int .u64 (IntKind.u64.wrap (256 * ((r : Nat) : Int)))) (congrArg (Value.int .u64) (by rw [show (256 : Int) * ((r : Nat) : Int) = ((256 * r : Nat) : Int) by omega]; exact wrapU _ (by have := wd8_lt l m pos_m; omega))) (by kernel_rfl)) ?_
      refine ps_k (o_hword 932 2) (.slice (some ⟨g, o, none⟩) n cap) ?_
      refine ps_p (o_hword 932 3) (iN (m - 1)) (exec_cast (v := .int .i64 (((m : Nat) : Int) - 1)) (congrArg (Value.int .i64) (by omega)) (by kernel_rfl)) ?_
      refine ps_p (o_hword 932 4) (.pointer (some ⟨g, o + (m - 1), none⟩)) (exec_cast (v := .pointer (some ⟨g, o + (m - 1) * 1, none⟩)) (by simp) (exec_indexAt_slice 22 (.tmp 11) (.tmp 12) (by kernel_rfl) g o n cap (by kernel_rfl) .i64 (m - 1) (by kernel_rfl) _ 1 Try.underlying22 (by kernel_rfl) (by omega))) ?_
      refine ps_p (o_hword 932 5) (cN ((l.getD (m - 1) 0).toNat)) (exec_ld 5 (.tmp 13) g (o + (m - 1)) Try.underlying5 (bytes_cell hv (m - 1) (by rw [hn]; omega))) ?_
      refine ps_p (o_hword 932 6) (uN ((l.getD (m - 1) 0).toNat)) (exec_cast (congrArg (Value.int .u64) (wrapU (l.getD (m - 1) 0).toNat (by have := (l.getD (m - 1) 0).toNat_lt; omega))) (by kernel_rfl)) ?_
      refine ps_p (o_hword 932 7) (uN (wd8 l (m - 1))) (exec_cast (v := .int .u64 (IntKind.u64.wrap (((256 * r : Nat) : Int) + (((l.getD (m - 1) 0).toNat : Nat) : Int)))) (congrArg (Value.int .u64) (by rw [show ((256 * r : Nat) : Int) + (((l.getD (m - 1) 0).toNat : Nat) : Int) = ((256 * r + (l.getD (m - 1) 0).toNat : Nat) : Int) by omega, hr, wd8_step l m pos_m hm (by omega)]; exact wrapU _ (by have := wd8_lt l m pos_m; have := (l.getD (m - 1) 0).toNat_lt; have := wd8_step l m pos_m hm (by omega); omega))) (by kernel_rfl)) ?_
      refine ps_k (o_hword 932 8) (uN (wd8 l (m - 1))) ?_
      refine ps_end ?_
      refine blk_n ?_
      refine then_n ?_
      refine sy_reg ?_
      refine rg_plain 4 (opsAt (part_hword 467)) [0, 1, 2] (by kernel_rfl) (by kernel_rfl) ?_
      refine ps_k (o_hword 467 0) (.int .i64 (((m : Nat) : Int) - 1)) ?_
      refine ps_p (o_hword 467 1) (.int .i64 (((m - 1 : Nat) : Int) - 1)) (exec_cast (v := .int .i64 (IntKind.i64.wrap ((((m : Nat) : Int) - 1) - 1))) (congrArg (Value.int .i64) (wrapI _ _ (by omega) (by omega) (by omega))) (by kernel_rfl)) ?_
      refine ps_k (o_hword 467 2) (.int .i64 (((m - 1 : Nat) : Int) - 1)) ?_
      refine ps_end ?_
      refine then_n ?_
      refine ⟨⟨m - 1, wd8 l (m - 1), (.int .i64 (((m : Nat) : Int) - 1)), (.bool true), (.int .i64 (((m : Nat) : Int) - 1)), (.int .i64 (((m - 1 : Nat) : Int) - 1)), (uN r), (uN (256 * r)), (.slice (some ⟨g, o, none⟩) n cap), (iN (m - 1)), (.pointer (some ⟨g, o + (m - 1), none⟩)), (cN ((l.getD (m - 1) 0).toNat)), (uN ((l.getD (m - 1) 0).toNat)), (uN (wd8 l (m - 1))), by kernel_rfl, by omega, rfl, rfl⟩, ?_⟩
      exact lt_meas (x := ((((m - 1 : Nat) : Int) - 1) + 1).toNat) (y := ((((m : Nat) : Int) - 1) + 1).toNat) (by kernel_rfl) (by kernel_rfl) (by omega)
    · have eq_m : m = 0 := by omega
      refine sy_sq (part_hword 232) (part_hword 233) ?_
      refine sy_sq (part_hword 464) (part_hword 465) ?_
      refine sy_reg ?_
      refine rg_plain 3 (opsAt (part_hword 464)) [0, 1] (by kernel_rfl) (by kernel_rfl) ?_
      refine ps_k (o_hword 464 0) (.int .i64 (((m : Nat) : Int) - 1)) ?_
      refine ps_p (o_hword 464 1) (.bool false) (dcf ((((((m : Nat) : Int) - 1)) : Int) ≥ ((0) : Int)) (by omega)) ?_
      refine ps_end ?_
      refine then_n ?_
      refine sy_n (.tmp 6) (part_hword 930) (part_hword 931) ?_
      refine sy_exit 0 (by kernel_rfl) ?_
      refine then_e ?_
      refine then_e ?_
      refine blk_e ?_
      refine then_n ?_
      refine sy_sq (part_hword 30) (part_hword 31) ?_
      refine sy_reg ?_
      refine rg_plain 6 (opsAt (part_hword 30)) [0, 1] (by kernel_rfl) (by kernel_rfl) ?_
      refine ps_k (o_hword 30 0) (uN r) ?_
      refine ps_k (o_hword 30 1) (uN r) ?_
      refine ps_end ?_
      refine then_n ?_
      refine sy_ret (by kernel_rfl) ?_
      refine sy_out (.int .u64 ((r : Nat) : Int)) rfl (by kernel_rfl) ?_
      subst eq_m; subst hr; exact ⟨rfl, rfl⟩
noncomputable def part_hbytes (n : Nat) : Code := partOf Try.f90 n
noncomputable abbrev o_hbytes (n k : Nat) : Oper := (opsAt (part_hbytes n)).getD k default
set_option maxRecDepth 100000 in
set_option maxHeartbeats 4000000 in
theorem hbytes_ok (n : Nat) (w : World) (hn : n < Kec.W) :
    Calls Try.prog 90 #[.int .u64 ((n : Nat) : Int)] w (fun e w' => ∃ v, e = .returned v ∧ Row w' 5 1 v 8 (B (Kec.eight n)) ∧ NewFrom w.heap.size v ∧ Keeps Nob w w') := by
  obtain ⟨i0, hi, hz0, hz1, hz2⟩ := info_parts u8_infoK
  have r0 : Row w 5 1 (.slice none 0 0) 0 (B ((List.range 0).map (fun i => UInt8.ofNat (n / 256 ^ i)))) := World.ownsRow_nil _ _ _ _
  have nw0 := NewFrom.nil w.heap.size
  have hW : Kec.W = 18446744073709551616 := rfl
  have K0 : Keeps Nob w w := Keeps.refl _ _
  refine sy_enter (part_hbytes 1) ⟨#[uN n, undef, undef, undef, undef, undef, undef, undef, undef, undef, undef, undef, undef, undef, undef, undef, undef, undef], []⟩ Try.func90 (by kernel_rfl) (by kernel_rfl) ?_
  refine sy_sq (part_hbytes 2) (part_hbytes 3) ?_
  refine sy_reg ?_
  refine rg_plain 0 (opsAt (part_hbytes 2)) [0] (by kernel_rfl) (by kernel_rfl) ?_
  refine ps_k (o_hbytes 2 0) (.slice none 0 0) ?_
  refine ps_end ?_
  refine then_n ?_
  refine sy_sq (part_hbytes 6) (part_hbytes 7) ?_
  refine sy_reg ?_
  refine rg_plain 1 (opsAt (part_hbytes 6)) [0] (by kernel_rfl) (by kernel_rfl) ?_
  refine ps_k (o_hbytes 6 0) (.slice none 0 0) ?_
  refine ps_end ?_
  refine then_n ?_
  refine sy_sq (part_hbytes 14) (part_hbytes 15) ?_
  refine sy_sq (part_hbytes 28) (part_hbytes 29) ?_
  refine sy_reg ?_
  refine rg_plain 2 (opsAt (part_hbytes 28)) [0] (by kernel_rfl) (by kernel_rfl) ?_
  refine ps_k (o_hbytes 28 0) (.int .i64 0) ?_
  refine ps_end ?_
  refine then_n ?_
  refine sy_bk 0 (part_hbytes 58) ?_
  refine sy_loop (part_hbytes 116) (fun a V => ∃ (k : Nat) (v : Value) (q : Nat) (u5 u6 u7 u8 u9 u10 u11 u12 u13 u14 u15 u16 : Value), (a = ⟨#[uN q, undef, .slice none 0 0, v, iN k, u5, u6, u7, u8, u9, u10, u11, u12, u13, u14, u15, u16, undef], []⟩) ∧ (k ≤ 8) ∧ (q = n / 256 ^ k) ∧ (Row V 5 1 v k (B ((List.range k).map (fun i => UInt8.ofNat (n / 256 ^ i))))) ∧ (Keeps Nob w V) ∧ (NewFrom w.heap.size v)) (fun a _ => 8 - (intOf (a.tmps.getD 4 undef)).toNat) (by kernel_rfl) ?_ ?_
  · exact ⟨0, .slice none 0 0, n, undef, undef, undef, undef, undef, undef, undef, undef, undef, undef, undef, undef, by kernel_rfl, by omega, by simp, r0, K0, NewFrom.nil _⟩
  · rintro a V1 ⟨k, v, q, u5, u6, u7, u8, u9, u10, u11, u12, u13, u14, u15, u16, rfl, hk, hq, h2, K3, hnw⟩
    by_cases lt_k : k < 8
    · have hqn : q ≤ n := by rw [hq]; exact Nat.div_le_self _ _
      refine sy_sq (part_hbytes 232) (part_hbytes 233) ?_
      refine sy_sq (part_hbytes 464) (part_hbytes 465) ?_
      refine sy_reg ?_
      refine rg_plain 3 (opsAt (part_hbytes 464)) [0, 1] (by kernel_rfl) (by kernel_rfl) ?_
      refine ps_k (o_hbytes 464 0) (iN k) ?_
      refine ps_p (o_hbytes 464 1) (.bool true) (dct ((((k : Nat) : Int)) < ((8) : Int)) (by omega)) ?_
      refine ps_end ?_
      refine then_n ?_
      refine sy_ys (.tmp 6) (part_hbytes 930) (part_hbytes 931) ?_
      refine sy_sk ?_
      refine then_n ?_
      refine sy_sq (part_hbytes 466) (part_hbytes 467) ?_
      refine sy_bk 1 (part_hbytes 932) ?_
      refine sy_sq (part_hbytes 1864) (part_hbytes 1865) ?_
      refine sy_reg ?_
      refine rg_plain 5 (opsAt (part_hbytes 1864)) [0, 1, 2, 3, 4, 5, 6] (by kernel_rfl) (by kernel_rfl) ?_
      refine ps_k (o_hbytes 1864 0) (v) ?_
      refine ps_k (o_hbytes 1864 1) (uN q) ?_
      refine ps_k (o_hbytes 1864 2) (uN (q % 256)) ?_
      refine ps_p (o_hbytes 1864 3) (cN ((UInt8.ofNat (n / 256 ^ k)).toNat)) (exec_cast (v := .int .u8 (IntKind.u8.wrap ((q % 256 : Nat) : Int))) (congrArg (Value.int .u8) ((wrap8 (q % 256)).trans (by rw [← hq, UInt8.toNat_ofNat', UInt8.toNat_ofNat', Nat.mod_mod]))) (by kernel_rfl)) ?_
      obtain ⟨V4, eV4, gs, egs, h5, kV4⟩ := alloc_step V1 (#[.int .u8 (((UInt8.ofNat (n / 256 ^ k)).toNat : Nat) : Int)]) 5
      have n6 : w.heap.size ≤ gs := egs ▸ K3.size
      refine ps_r (o_hbytes 1864 4) (.slice (some ⟨gs, 0, none⟩) 1 1) (w' := V4) (by rw [← eV4, ← egs]; kernel_rfl) ?_
      have h7 : Row V4 5 1 v k (B ((List.range k).map (fun i => UInt8.ofNat (n / 256 ^ i)))) := h2.keeps kV4 (fun _ _ x => x)
      have K8 := K3.nn kV4
      obtain ⟨v9, V10, hr11, h12, hg13, hn14, ha15⟩ := run_append_any (P := Try.prog) (w := V4) 22 (Oper.type (o_hbytes 1864 5)) 5 i0 (.int .u8 0) 1 1 Try.underlying22 hi hz0 hz1 hz2 rfl (by decide) v k (B ((List.range k).map (fun i => UInt8.ofNat (n / 256 ^ i)))) h7 (.slice (some ⟨gs, 0, none⟩) 1 1) 1 (#[.int .u8 (((UInt8.ofNat (n / 256 ^ k)).toNat : Nat) : Int)].toList) (src_block h5 1 1 rfl (by kernel_rfl)) (by unfold maxLen; omega) (by omega)
      have kV10 : Keeps (fun j => v.ownBlock = some j) V4 V10 := Keeps.rowAdd hg13
      have hw16 : NewFrom w.heap.size v9 := hnw.next K8.size ha15
      refine ps_r (o_hbytes 1864 5) v9 (w' := V10) (exec_append (.tmp 9) (.tmp 13) 22 (by kernel_rfl) v (.slice (some ⟨gs, 0, none⟩) 1 1) (by kernel_rfl) (by kernel_rfl) hr11) ?_
      have h17 : Row V10 5 1 v9 (k + 1) (B ((List.range (k + 1)).map (fun i => UInt8.ofNat (n / 256 ^ i)))) := (by rw [eight_snoc]; exact h12)
      have K18 : Keeps Nob w V10 := K8.then kV10 (fun i hi hm => absurd hi (by have := hnw i hm; omega))
      refine ps_k (o_hbytes 1864 6) (v9) ?_
      refine ps_end ?_
      refine then_n ?_
      refine sy_reg ?_
      refine rg_plain 6 (opsAt (part_hbytes 1865)) [0, 1, 2] (by kernel_rfl) (by kernel_rfl) ?_
      refine ps_k (o_hbytes 1865 0) (uN q) ?_
      refine ps_p (o_hbytes 1865 1) (uN (q / 256)) (exec_cast (v := .int .u64 (IntKind.u64.wrap ((q / 256 : Nat) : Int))) (congrArg (Value.int .u64) (wrapU _ (by omega))) (by kernel_rfl)) ?_
      refine ps_k (o_hbytes 1865 2) (uN (q / 256)) ?_
      refine ps_end ?_
      refine blk_n ?_
      refine then_n ?_
      refine sy_reg ?_
      refine rg_plain 4 (opsAt (part_hbytes 467)) [0, 1, 2] (by kernel_rfl) (by kernel_rfl) ?_
      refine ps_k (o_hbytes 467 0) (iN k) ?_
      refine ps_p (o_hbytes 467 1) (iN (k + 1)) (exec_cast (congrArg (Value.int .i64) (wrapN (k + 1) (by omega))) (by kernel_rfl)) ?_
      refine ps_k (o_hbytes 467 2) (iN (k + 1)) ?_
      refine ps_end ?_
      refine then_n ?_
      refine ⟨⟨k + 1, v9, q / 256, (iN k), (.bool true), (iN k), (iN (k + 1)), v, (uN q), (uN (q % 256)), (cN ((UInt8.ofNat (n / 256 ^ k)).toNat)), (.slice (some ⟨gs, 0, none⟩) 1 1), v9, (uN q), (uN (q / 256)), by kernel_rfl, by omega, by rw [hq, Nat.div_div_eq_div_mul, ← Nat.pow_succ], h17, K18, hw16⟩, ?_⟩
      exact lt_meas (x := 8 - (k + 1)) (y := 8 - k) (by kernel_rfl) (by kernel_rfl) (by omega)
    · have eq_k : k = 8 := by omega
      refine sy_sq (part_hbytes 232) (part_hbytes 233) ?_
      refine sy_sq (part_hbytes 464) (part_hbytes 465) ?_
      refine sy_reg ?_
      refine rg_plain 3 (opsAt (part_hbytes 464)) [0, 1] (by kernel_rfl) (by kernel_rfl) ?_
      refine ps_k (o_hbytes 464 0) (iN k) ?_
      refine ps_p (o_hbytes 464 1) (.bool false) (dcf ((((k : Nat) : Int)) < ((8) : Int)) (by omega)) ?_
      refine ps_end ?_
      refine then_n ?_
      refine sy_n (.tmp 6) (part_hbytes 930) (part_hbytes 931) ?_
      refine sy_exit 0 (by kernel_rfl) ?_
      refine then_e ?_
      refine then_e ?_
      refine blk_e ?_
      refine then_n ?_
      refine sy_sq (part_hbytes 30) (part_hbytes 31) ?_
      refine sy_reg ?_
      refine rg_plain 7 (opsAt (part_hbytes 30)) [0, 1] (by kernel_rfl) (by kernel_rfl) ?_
      refine ps_k (o_hbytes 30 0) (v) ?_
      refine ps_k (o_hbytes 30 1) (v) ?_
      refine ps_end ?_
      refine then_n ?_
      refine sy_ret (by kernel_rfl) ?_
      refine sy_out (v) rfl (by kernel_rfl) ?_
      exact ⟨v, rfl, by have e := h2; rw [eq_k] at e; exact e, hnw, K3⟩
end Go.Proofs.Ytenaakldccjnbaa
