/-
  Keccak: texts there and back (printed by kec10.py). Conditions: none.
-/
import Derived.Test.YtolbdhgclcemlaaKecP
namespace Go.Proofs.Ytolbdhgclcemlaa
open Go Go.RowKit Go.Own Go.Shelf
theorem eq_strs (a b : List UInt8) (w : World) : (binOp .eql 9 (.string ⟨a.toArray⟩) (.string ⟨b.toArray⟩)).run Try.prog w = .ok (.bool (a == b)) w := by
  rw [binOp_string_eql, ByteArray.toList_eq, ByteArray.toList_eq]
  rfl
theorem khash_neq (l m : List UInt8) (hl : l.length = 32) (hm : m.length = 32) (w : World) : (binOp .neq 29 (.agg (B l).toArray) (.agg (B m).toArray)).run Try.prog w = .ok (.bool (!(l == m))) w := by
  obtain ⟨i0, hi, _, _, _⟩ := info_parts u8_info
  have h := run_equalIn_bytes (P := Try.prog) (t := 29) (e := 5) (n := 32) Try.underlying29 hi (by kernel_rfl) Try.underlying5 (by kernel_rfl) 9998 l m w hl hm
  rw [run_neq_struct, h]
  rfl
theorem neq_bools (b : Bool) (w : World) : (binOp .neq 4 (.bool b) (.bool b)).run Try.prog w = .ok (.bool false) w := by
  cases b <;> kernel_rfl
theorem reads_hex (h : List UInt8) (hh : h.length = 32) (w : World) : Calls Try.prog 22 #[.string ⟨(hexOf h).toArray⟩] w fun x w' => x = .returned (.tuple #[.agg (B h).toArray, .int .i64 0]) ∧ Keeps Nob w w' :=
  reads_of _ _ _ (fun v e hr => reads_hexOf h v e hh hr) w
theorem reads_bad (l : List UInt8) (h : ¬ isHex l) (w : World) : Calls Try.prog 22 #[.string ⟨l.toArray⟩] w fun x w' => x = .returned (.tuple #[.agg (B zero32).toArray, .int .i64 5]) ∧ Keeps Nob w w' :=
  reads_of _ _ _ (fun v e hr => by
    rcases hr with ⟨h1, _⟩ | ⟨_, h1, h2⟩
    · exact absurd h1 h
    · exact ⟨h1, h2⟩) w

noncomputable def part_KeccakTexts (n : Nat) : Code := partOf Try.f7 n
set_option maxRecDepth 100000 in
set_option maxHeartbeats 4000000 in
theorem texts_long (a b t : List UInt8) (w : World) (ha : a.length = 32) (hb : b.length = 32) (hl : t.length > 100) :
    Calls Try.prog 7 #[.agg (B a).toArray, .agg (B b).toArray, .string ⟨(t).toArray⟩] w (fun e w' => e = .returned (.bool true) ∧ Keeps Nob w w') := by
  have K0 : Keeps Nob w w := Keeps.refl _ _
  refine sy_enter (part_KeccakTexts 1) ⟨#[.agg (B a).toArray, .agg (B b).toArray, .string ⟨(t).toArray⟩, undef, undef, undef, undef, undef, undef, undef, undef, undef, undef, undef, undef, undef, undef, undef, undef, undef, undef, undef, undef, undef, undef, undef, undef, undef, undef, undef, undef, undef, undef, undef, undef, undef, undef, undef, undef, undef, undef, undef, undef, undef, undef, undef, undef, undef, undef, undef, undef, undef, undef, undef, undef, undef, undef, undef, undef, undef, undef, undef, undef, undef, undef, undef, undef, undef, undef, undef, undef], []⟩ Try.func7 (by kernel_rfl) (by kernel_rfl) ?_
  refine sy_seq (part_KeccakTexts 2) (part_KeccakTexts 3) (by kernel_rfl) ?_
  refine sy_reg ?_
  refine rg_plain 0 (opsAt (part_KeccakTexts 2)) [0, 1, 2] (by kernel_rfl) (by kernel_rfl) ?_
  obtain ⟨V1, eV1⟩ : ∃ V, w.alloc (.cells ((B a).toArray) 29) = V := ⟨_, rfl⟩
  obtain ⟨ga, ega⟩ : ∃ g, w.heap.size = g := ⟨_, rfl⟩
  have n3 : w.heap.size ≤ ga := ega ▸ K0.size
  have h2 : V1.heap[ga]? = some (.cells ((B a).toArray) 29 (0, 0)) := by rw [← eV1, ← ega]; exact heap_alloc_new _ _
  have kV1 : Keeps Nob w V1 := eV1 ▸ (Keeps.refl _ _).alloc _
  refine ps_run ((opsAt (part_KeccakTexts 2)).getD 0 default) (.pointer (some ⟨ga, 0, none⟩)) (w' := V1) (by kernel_rfl) (by kernel_rfl) (by rw [← eV1, ← ega]; exact exec_box 29 (.tmp 0) (by kernel_rfl) (.agg (B a).toArray) (by kernel_rfl)) ?_
  clear eV1
  have K4 : Keeps Nob w V1 := K0.then kV1 (fun _ _ x => x.elim)
  have z5 := kV1.size
  obtain ⟨V6, eV6⟩ : ∃ V, V1.alloc (.cells ((B b).toArray) 29) = V := ⟨_, rfl⟩
  obtain ⟨gb, egb⟩ : ∃ g, V1.heap.size = g := ⟨_, rfl⟩
  have n8 : ga < gb := egb ▸ lt_of_block h2
  have n9 : w.heap.size ≤ gb := egb ▸ K4.size
  have h7 : V6.heap[gb]? = some (.cells ((B b).toArray) 29 (0, 0)) := by rw [← eV6, ← egb]; exact heap_alloc_new _ _
  have kV6 : Keeps Nob V1 V6 := eV6 ▸ (Keeps.refl _ _).alloc _
  refine ps_run ((opsAt (part_KeccakTexts 2)).getD 1 default) (.pointer (some ⟨gb, 0, none⟩)) (w' := V6) (by kernel_rfl) (by kernel_rfl) (by rw [← eV6, ← egb]; exact exec_box 29 (.tmp 1) (by kernel_rfl) (.agg (B b).toArray) (by kernel_rfl)) ?_
  clear eV6
  have h10 : V6.heap[ga]? = some (.cells ((B a).toArray) 29 (0, 0)) := (kV6.block ga (lt_of_block h2) (fun x => x)).trans h2
  have K11 : Keeps Nob w V6 := K4.then kV6 (fun _ _ x => x.elim)
  have z12 := kV6.size
  refine ps_run ((opsAt (part_KeccakTexts 2)).getD 2 default) (.bool false) (w' := V6) (by kernel_rfl) (by kernel_rfl) (by kernel_rfl) ?_
  refine ps_end ?_
  refine sy_act ⟨#[.agg (B a).toArray, .agg (B b).toArray, .string ⟨(t).toArray⟩, .pointer (some ⟨ga, 0, none⟩), .pointer (some ⟨gb, 0, none⟩), undef, .bool false, undef, undef, undef, undef, undef, undef, undef, undef, undef, undef, undef, undef, undef, undef, undef, undef, undef, undef, undef, undef, undef, undef, undef, undef, undef, undef, undef, undef, undef, undef, undef, undef, undef, undef, undef, undef, undef, undef, undef, undef, undef, undef, undef, undef, undef, undef, undef, undef, undef, undef, undef, undef, undef, undef, undef, undef, undef, undef, undef, undef, undef, undef, undef, undef], []⟩ (by kernel_rfl) ?_
  refine then_n ?_
  refine sy_seq (part_KeccakTexts 6) (part_KeccakTexts 7) (by kernel_rfl) ?_
  refine sy_reg ?_
  refine rg_plain 1 (opsAt (part_KeccakTexts 6)) [0, 1] (by kernel_rfl) (by kernel_rfl) ?_
  refine ps_call ((opsAt (part_KeccakTexts 6)).getD 0 default) 6 #[] (by kernel_rfl) (by kernel_rfl) (by kernel_rfl) (by kernel_rfl) (enters_of Try.func6 (by kernel_rfl) rfl) ((known_ok _).mono ?_)
  rintro e V13 ⟨rfl, kV13⟩
  refine ⟨_, rfl, ?_⟩
  have h14 : V13.heap[ga]? = some (.cells ((B a).toArray) 29 (0, 0)) := (kV13.block ga (lt_of_block h10) (fun x => x)).trans h10
  have h15 : V13.heap[gb]? = some (.cells ((B b).toArray) 29 (0, 0)) := (kV13.block gb (lt_of_block h7) (fun x => x)).trans h7
  have K16 : Keeps Nob w V13 := K11.then kV13 (fun _ _ x => x.elim)
  have z17 := kV13.size
  refine ps_run ((opsAt (part_KeccakTexts 6)).getD 1 default) (.bool true) (w' := V13) (by kernel_rfl) (by kernel_rfl) (by kernel_rfl) ?_
  refine ps_end ?_
  refine sy_act ⟨#[.agg (B a).toArray, .agg (B b).toArray, .string ⟨(t).toArray⟩, .pointer (some ⟨ga, 0, none⟩), .pointer (some ⟨gb, 0, none⟩), undef, .bool false, .bool true, undef, undef, undef, undef, .bool true, undef, undef, undef, undef, undef, undef, undef, undef, undef, undef, undef, undef, undef, undef, undef, undef, undef, undef, undef, undef, undef, undef, undef, undef, undef, undef, undef, undef, undef, undef, undef, undef, undef, undef, undef, undef, undef, undef, undef, undef, undef, undef, undef, undef, undef, undef, undef, undef, undef, undef, undef, undef, undef, undef, undef, undef, undef, undef], []⟩ (by kernel_rfl) ?_
  refine then_n ?_
  refine sy_seq (part_KeccakTexts 14) (part_KeccakTexts 15) (by kernel_rfl) ?_
  refine sy_seq (part_KeccakTexts 28) (part_KeccakTexts 29) (by kernel_rfl) ?_
  refine sy_reg ?_
  refine rg_plain 2 (opsAt (part_KeccakTexts 28)) [0, 1, 2] (by kernel_rfl) (by kernel_rfl) ?_
  refine ps_run ((opsAt (part_KeccakTexts 28)).getD 0 default) (.string ⟨(t).toArray⟩) (w' := V13) (by kernel_rfl) (by kernel_rfl) (by kernel_rfl) ?_
  refine ps_run ((opsAt (part_KeccakTexts 28)).getD 1 default) (.int .i64 ((t.length : Nat) : Int)) (w' := V13) (by kernel_rfl) (by kernel_rfl) (exec_cast (congrArg (Value.int .i64) (by simp [ByteArray.size])) (exec_len_str (.tmp 13) 9 (by kernel_rfl) Try.underlying9 ⟨(t).toArray⟩ (by kernel_rfl))) ?_
  refine ps_run ((opsAt (part_KeccakTexts 28)).getD 2 default) (.bool true) (w' := V13) (by kernel_rfl) (by kernel_rfl) (exec_cast (congrArg Value.bool (show (decide ((((t.length : Nat) : Int)) > ((100) : Int))) = true from by simp only [decide_eq_true_eq]; omega)) (by kernel_rfl)) ?_
  refine ps_end ?_
  refine sy_act ⟨#[.agg (B a).toArray, .agg (B b).toArray, .string ⟨(t).toArray⟩, .pointer (some ⟨ga, 0, none⟩), .pointer (some ⟨gb, 0, none⟩), undef, .bool false, .bool true, undef, undef, undef, undef, .bool true, .string ⟨(t).toArray⟩, .int .i64 ((t.length : Nat) : Int), .bool true, undef, undef, undef, undef, undef, undef, undef, undef, undef, undef, undef, undef, undef, undef, undef, undef, undef, undef, undef, undef, undef, undef, undef, undef, undef, undef, undef, undef, undef, undef, undef, undef, undef, undef, undef, undef, undef, undef, undef, undef, undef, undef, undef, undef, undef, undef, undef, undef, undef, undef, undef, undef, undef, undef, undef], []⟩ (by kernel_rfl) ?_
  refine then_n ?_
  refine sy_yes (.tmp 15) (part_KeccakTexts 58) (part_KeccakTexts 59) (by kernel_rfl) (by kernel_rfl) ?_
  refine sy_seq (part_KeccakTexts 116) (part_KeccakTexts 117) (by kernel_rfl) ?_
  refine sy_reg ?_
  refine rg_plain 3 (opsAt (part_KeccakTexts 116)) [0, 1] (by kernel_rfl) (by kernel_rfl) ?_
  refine ps_run ((opsAt (part_KeccakTexts 116)).getD 0 default) (.bool true) (w' := V13) (by kernel_rfl) (by kernel_rfl) (by kernel_rfl) ?_
  refine ps_run ((opsAt (part_KeccakTexts 116)).getD 1 default) (.bool true) (w' := V13) (by kernel_rfl) (by kernel_rfl) (by kernel_rfl) ?_
  refine ps_end ?_
  refine sy_act ⟨#[.agg (B a).toArray, .agg (B b).toArray, .string ⟨(t).toArray⟩, .pointer (some ⟨ga, 0, none⟩), .pointer (some ⟨gb, 0, none⟩), undef, .bool true, .bool true, undef, undef, undef, undef, .bool true, .string ⟨(t).toArray⟩, .int .i64 ((t.length : Nat) : Int), .bool true, .bool true, undef, undef, undef, undef, undef, undef, undef, undef, undef, undef, undef, undef, undef, undef, undef, undef, undef, undef, undef, undef, undef, undef, undef, undef, undef, undef, undef, undef, undef, undef, undef, undef, undef, undef, undef, undef, undef, undef, undef, undef, undef, undef, undef, undef, undef, undef, undef, undef, undef, undef, undef, undef, undef, undef], []⟩ (by kernel_rfl) ?_
  refine then_n ?_
  refine sy_ret (by kernel_rfl) ?_
  refine then_r ?_
  refine sy_out (.bool true) rfl (by kernel_rfl) ?_
  exact ⟨rfl, K16⟩
set_option maxRecDepth 100000 in
set_option maxHeartbeats 4000000 in
theorem texts_hex (a b v : List UInt8) (w : World) (ha : a.length = 32) (hb : b.length = 32) (hv : v.length = 32) :
    Calls Try.prog 7 #[.agg (B a).toArray, .agg (B b).toArray, .string ⟨(hexOf v).toArray⟩] w (fun e w' => e = .returned (.bool true) ∧ Keeps Nob w w') := by
  have K0 : Keeps Nob w w := Keeps.refl _ _
  refine sy_enter (part_KeccakTexts 1) ⟨#[.agg (B a).toArray, .agg (B b).toArray, .string ⟨(hexOf v).toArray⟩, undef, undef, undef, undef, undef, undef, undef, undef, undef, undef, undef, undef, undef, undef, undef, undef, undef, undef, undef, undef, undef, undef, undef, undef, undef, undef, undef, undef, undef, undef, undef, undef, undef, undef, undef, undef, undef, undef, undef, undef, undef, undef, undef, undef, undef, undef, undef, undef, undef, undef, undef, undef, undef, undef, undef, undef, undef, undef, undef, undef, undef, undef, undef, undef, undef, undef, undef, undef], []⟩ Try.func7 (by kernel_rfl) (by kernel_rfl) ?_
  refine sy_seq (part_KeccakTexts 2) (part_KeccakTexts 3) (by kernel_rfl) ?_
  refine sy_reg ?_
  refine rg_plain 0 (opsAt (part_KeccakTexts 2)) [0, 1, 2] (by kernel_rfl) (by kernel_rfl) ?_
  obtain ⟨V1, eV1⟩ : ∃ V, w.alloc (.cells ((B a).toArray) 29) = V := ⟨_, rfl⟩
  obtain ⟨ga, ega⟩ : ∃ g, w.heap.size = g := ⟨_, rfl⟩
  have n3 : w.heap.size ≤ ga := ega ▸ K0.size
  have h2 : V1.heap[ga]? = some (.cells ((B a).toArray) 29 (0, 0)) := by rw [← eV1, ← ega]; exact heap_alloc_new _ _
  have kV1 : Keeps Nob w V1 := eV1 ▸ (Keeps.refl _ _).alloc _
  refine ps_run ((opsAt (part_KeccakTexts 2)).getD 0 default) (.pointer (some ⟨ga, 0, none⟩)) (w' := V1) (by kernel_rfl) (by kernel_rfl) (by rw [← eV1, ← ega]; exact exec_box 29 (.tmp 0) (by kernel_rfl) (.agg (B a).toArray) (by kernel_rfl)) ?_
  clear eV1
  have K4 : Keeps Nob w V1 := K0.then kV1 (fun _ _ x => x.elim)
  have z5 := kV1.size
  obtain ⟨V6, eV6⟩ : ∃ V, V1.alloc (.cells ((B b).toArray) 29) = V := ⟨_, rfl⟩
  obtain ⟨gb, egb⟩ : ∃ g, V1.heap.size = g := ⟨_, rfl⟩
  have n8 : ga < gb := egb ▸ lt_of_block h2
  have n9 : w.heap.size ≤ gb := egb ▸ K4.size
  have h7 : V6.heap[gb]? = some (.cells ((B b).toArray) 29 (0, 0)) := by rw [← eV6, ← egb]; exact heap_alloc_new _ _
  have kV6 : Keeps Nob V1 V6 := eV6 ▸ (Keeps.refl _ _).alloc _
  refine ps_run ((opsAt (part_KeccakTexts 2)).getD 1 default) (.pointer (some ⟨gb, 0, none⟩)) (w' := V6) (by kernel_rfl) (by kernel_rfl) (by rw [← eV6, ← egb]; exact exec_box 29 (.tmp 1) (by kernel_rfl) (.agg (B b).toArray) (by kernel_rfl)) ?_
  clear eV6
  have h10 : V6.heap[ga]? = some (.cells ((B a).toArray) 29 (0, 0)) := (kV6.block ga (lt_of_block h2) (fun x => x)).trans h2
  have K11 : Keeps Nob w V6 := K4.then kV6 (fun _ _ x => x.elim)
  have z12 := kV6.size
  refine ps_run ((opsAt (part_KeccakTexts 2)).getD 2 default) (.bool false) (w' := V6) (by kernel_rfl) (by kernel_rfl) (by kernel_rfl) ?_
  refine ps_end ?_
  refine sy_act ⟨#[.agg (B a).toArray, .agg (B b).toArray, .string ⟨(hexOf v).toArray⟩, .pointer (some ⟨ga, 0, none⟩), .pointer (some ⟨gb, 0, none⟩), undef, .bool false, undef, undef, undef, undef, undef, undef, undef, undef, undef, undef, undef, undef, undef, undef, undef, undef, undef, undef, undef, undef, undef, undef, undef, undef, undef, undef, undef, undef, undef, undef, undef, undef, undef, undef, undef, undef, undef, undef, undef, undef, undef, undef, undef, undef, undef, undef, undef, undef, undef, undef, undef, undef, undef, undef, undef, undef, undef, undef, undef, undef, undef, undef, undef, undef], []⟩ (by kernel_rfl) ?_
  refine then_n ?_
  refine sy_seq (part_KeccakTexts 6) (part_KeccakTexts 7) (by kernel_rfl) ?_
  refine sy_reg ?_
  refine rg_plain 1 (opsAt (part_KeccakTexts 6)) [0, 1] (by kernel_rfl) (by kernel_rfl) ?_
  refine ps_call ((opsAt (part_KeccakTexts 6)).getD 0 default) 6 #[] (by kernel_rfl) (by kernel_rfl) (by kernel_rfl) (by kernel_rfl) (enters_of Try.func6 (by kernel_rfl) rfl) ((known_ok _).mono ?_)
  rintro e V13 ⟨rfl, kV13⟩
  refine ⟨_, rfl, ?_⟩
  have h14 : V13.heap[ga]? = some (.cells ((B a).toArray) 29 (0, 0)) := (kV13.block ga (lt_of_block h10) (fun x => x)).trans h10
  have h15 : V13.heap[gb]? = some (.cells ((B b).toArray) 29 (0, 0)) := (kV13.block gb (lt_of_block h7) (fun x => x)).trans h7
  have K16 : Keeps Nob w V13 := K11.then kV13 (fun _ _ x => x.elim)
  have z17 := kV13.size
  refine ps_run ((opsAt (part_KeccakTexts 6)).getD 1 default) (.bool true) (w' := V13) (by kernel_rfl) (by kernel_rfl) (by kernel_rfl) ?_
  refine ps_end ?_
  refine sy_act ⟨#[.agg (B a).toArray, .agg (B b).toArray, .string ⟨(hexOf v).toArray⟩, .pointer (some ⟨ga, 0, none⟩), .pointer (some ⟨gb, 0, none⟩), undef, .bool false, .bool true, undef, undef, undef, undef, .bool true, undef, undef, undef, undef, undef, undef, undef, undef, undef, undef, undef, undef, undef, undef, undef, undef, undef, undef, undef, undef, undef, undef, undef, undef, undef, undef, undef, undef, undef, undef, undef, undef, undef, undef, undef, undef, undef, undef, undef, undef, undef, undef, undef, undef, undef, undef, undef, undef, undef, undef, undef, undef, undef, undef, undef, undef, undef, undef], []⟩ (by kernel_rfl) ?_
  refine then_n ?_
  refine sy_seq (part_KeccakTexts 14) (part_KeccakTexts 15) (by kernel_rfl) ?_
  refine sy_seq (part_KeccakTexts 28) (part_KeccakTexts 29) (by kernel_rfl) ?_
  refine sy_reg ?_
  refine rg_plain 2 (opsAt (part_KeccakTexts 28)) [0, 1, 2] (by kernel_rfl) (by kernel_rfl) ?_
  refine ps_run ((opsAt (part_KeccakTexts 28)).getD 0 default) (.string ⟨(hexOf v).toArray⟩) (w' := V13) (by kernel_rfl) (by kernel_rfl) (by kernel_rfl) ?_
  refine ps_run ((opsAt (part_KeccakTexts 28)).getD 1 default) (.int .i64 64) (w' := V13) (by kernel_rfl) (by kernel_rfl) (exec_cast (congrArg (Value.int .i64) (by simp [ByteArray.size, hexOf_len, hv])) (exec_len_str (.tmp 13) 9 (by kernel_rfl) Try.underlying9 ⟨(hexOf v).toArray⟩ (by kernel_rfl))) ?_
  refine ps_run ((opsAt (part_KeccakTexts 28)).getD 2 default) (.bool false) (w' := V13) (by kernel_rfl) (by kernel_rfl) (by kernel_rfl) ?_
  refine ps_end ?_
  refine sy_act ⟨#[.agg (B a).toArray, .agg (B b).toArray, .string ⟨(hexOf v).toArray⟩, .pointer (some ⟨ga, 0, none⟩), .pointer (some ⟨gb, 0, none⟩), undef, .bool false, .bool true, undef, undef, undef, undef, .bool true, .string ⟨(hexOf v).toArray⟩, .int .i64 64, .bool false, undef, undef, undef, undef, undef, undef, undef, undef, undef, undef, undef, undef, undef, undef, undef, undef, undef, undef, undef, undef, undef, undef, undef, undef, undef, undef, undef, undef, undef, undef, undef, undef, undef, undef, undef, undef, undef, undef, undef, undef, undef, undef, undef, undef, undef, undef, undef, undef, undef, undef, undef, undef, undef, undef, undef], []⟩ (by kernel_rfl) ?_
  refine then_n ?_
  refine sy_no (.tmp 15) (part_KeccakTexts 58) (part_KeccakTexts 59) (by kernel_rfl) (by kernel_rfl) ?_
  refine sy_skip (by kernel_rfl) ?_
  refine then_n ?_
  refine sy_seq (part_KeccakTexts 30) (part_KeccakTexts 31) (by kernel_rfl) ?_
  refine sy_np ?_
  refine sy_reg ?_
  refine an_begin 4 6 (opsAt (part_KeccakTexts 30)) (fun W => (W.heap[ga]? = some (.cells ((B a).toArray) 29 (0, 0))) ∧ (W.heap[gb]? = some (.cells ((B b).toArray) 29 (0, 0)))) #[false, false, false, false, false, false] (by kernel_rfl) (by kernel_rfl) (by kernel_rfl) (by kernel_rfl) ?_
  obtain ⟨V18, eV18⟩ : ∃ V, V13.drew = V := ⟨_, rfl⟩
  have kV18 : Keeps Nob V13 V18 := eV18 ▸ (Keeps.refl _ _).drew
  rw [eV18]
  clear eV18
  have h19 : V18.heap[ga]? = some (.cells ((B a).toArray) 29 (0, 0)) := (kV18.block ga (lt_of_block h14) (fun x => x)).trans h14
  have h20 : V18.heap[gb]? = some (.cells ((B b).toArray) 29 (0, 0)) := (kV18.block gb (lt_of_block h15) (fun x => x)).trans h15
  have K21 : Keeps Nob w V18 := K16.then kV18 (fun _ _ x => x.elim)
  have z22 := kV18.size
  refine an_val 0 ((opsAt (part_KeccakTexts 30)).getD 0 default) (.agg ((B a).toArray)) (by kernel_rfl) (by kernel_rfl) (by kernel_rfl) (by kernel_rfl) (by kernel_rfl) (fun W hS => exec_load_row 29 (.tmp 3) (by kernel_rfl) ga (by kernel_rfl) _ _ (0, 0) _ (hS.1) Try.underlying29 rfl (by rw [Bz_size, ha]; kernel_rfl)) ⟨h19, h20⟩ ?_
  refine an_val 2 ((opsAt (part_KeccakTexts 30)).getD 2 default) (.agg ((B b).toArray)) (by kernel_rfl) (by kernel_rfl) (by kernel_rfl) (by kernel_rfl) (by kernel_rfl) (fun W hS => exec_load_row 29 (.tmp 4) (by kernel_rfl) gb (by kernel_rfl) _ _ (0, 0) _ (hS.2) Try.underlying29 rfl (by rw [Bz_size, hb]; kernel_rfl)) ⟨h19, h20⟩ ?_
  refine an_one 1 (by kernel_rfl) ?_
  refine on_call ((opsAt (part_KeccakTexts 30)).getD 1 default) 27 #[.agg ((B a).toArray)] (by kernel_rfl) (by kernel_rfl) (by kernel_rfl) (by kernel_rfl) (enters_of Try.func27 (by kernel_rfl) rfl) ((kText_ok a _ ha).mono ?_)
  rintro e V23 ⟨rfl, kV23⟩
  refine ⟨_, rfl, ?_⟩
  have h24 : V23.heap[ga]? = some (.cells ((B a).toArray) 29 (0, 0)) := (kV23.block ga (lt_of_block h19) (fun x => x)).trans h19
  have h25 : V23.heap[gb]? = some (.cells ((B b).toArray) 29 (0, 0)) := (kV23.block gb (lt_of_block h20) (fun x => x)).trans h20
  have K26 : Keeps Nob w V23 := K21.then kV23 (fun _ _ x => x.elim)
  have z27 := kV23.size
  refine ⟨⟨h24, h25⟩, ?_⟩
  refine an_one 3 (by kernel_rfl) ?_
  refine on_call ((opsAt (part_KeccakTexts 30)).getD 3 default) 27 #[.agg ((B b).toArray)] (by kernel_rfl) (by kernel_rfl) (by kernel_rfl) (by kernel_rfl) (enters_of Try.func27 (by kernel_rfl) rfl) ((kText_ok b _ hb).mono ?_)
  rintro e V28 ⟨rfl, kV28⟩
  refine ⟨_, rfl, ?_⟩
  have h29 : V28.heap[ga]? = some (.cells ((B a).toArray) 29 (0, 0)) := (kV28.block ga (lt_of_block h24) (fun x => x)).trans h24
  have h30 : V28.heap[gb]? = some (.cells ((B b).toArray) 29 (0, 0)) := (kV28.block gb (lt_of_block h25) (fun x => x)).trans h25
  have K31 : Keeps Nob w V28 := K26.then kV28 (fun _ _ x => x.elim)
  have z32 := kV28.size
  refine ⟨⟨h29, h30⟩, ?_⟩
  refine an_one 4 (by kernel_rfl) ?_
  refine on_run ((opsAt (part_KeccakTexts 30)).getD 4 default) (.string ⟨(hexOf a).toArray⟩) (w' := V28) (by kernel_rfl) (by kernel_rfl) (by kernel_rfl) ?_
  refine ⟨⟨h29, h30⟩, ?_⟩
  refine an_one 5 (by kernel_rfl) ?_
  refine on_run ((opsAt (part_KeccakTexts 30)).getD 5 default) (.string ⟨(hexOf b).toArray⟩) (w' := V28) (by kernel_rfl) (by kernel_rfl) (by kernel_rfl) ?_
  refine ⟨⟨h29, h30⟩, ?_⟩
  refine an_end (by kernel_rfl) ?_
  refine sy_act ⟨#[.agg (B a).toArray, .agg (B b).toArray, .string ⟨(hexOf v).toArray⟩, .pointer (some ⟨ga, 0, none⟩), .pointer (some ⟨gb, 0, none⟩), undef, .bool false, .bool true, .string ⟨(hexOf a).toArray⟩, .string ⟨(hexOf b).toArray⟩, undef, undef, .bool true, .string ⟨(hexOf v).toArray⟩, .int .i64 64, .bool false, undef, .agg ((B a).toArray), .string ⟨(hexOf a).toArray⟩, .agg ((B b).toArray), .string ⟨(hexOf b).toArray⟩, undef, undef, undef, undef, undef, undef, undef, undef, undef, undef, undef, undef, undef, undef, undef, undef, undef, undef, undef, undef, undef, undef, undef, undef, undef, undef, undef, undef, undef, undef, undef, undef, undef, undef, undef, undef, undef, undef, undef, undef, undef, undef, undef, undef, undef, undef, undef, undef, undef, undef], []⟩ (by kernel_rfl) ?_
  refine then_n ?_
  refine sy_seq (part_KeccakTexts 62) (part_KeccakTexts 63) (by kernel_rfl) ?_
  refine sy_reg ?_
  refine rg_plain 5 (opsAt (part_KeccakTexts 62)) [0, 1, 2, 3, 4, 5, 6, 7] (by kernel_rfl) (by kernel_rfl) ?_
  refine ps_run ((opsAt (part_KeccakTexts 62)).getD 0 default) (.string ⟨(hexOf a).toArray⟩) (w' := V28) (by kernel_rfl) (by kernel_rfl) (by kernel_rfl) ?_
  refine ps_call ((opsAt (part_KeccakTexts 62)).getD 1 default) 22 #[.string ⟨(hexOf a).toArray⟩] (by kernel_rfl) (by kernel_rfl) (by kernel_rfl) (by kernel_rfl) (enters_of Try.func22 (by kernel_rfl) rfl) ((reads_hex a ha _).mono ?_)
  rintro e V33 ⟨rfl, kV33⟩
  refine ⟨_, rfl, ?_⟩
  have h34 : V33.heap[ga]? = some (.cells ((B a).toArray) 29 (0, 0)) := (kV33.block ga (lt_of_block h29) (fun x => x)).trans h29
  have h35 : V33.heap[gb]? = some (.cells ((B b).toArray) 29 (0, 0)) := (kV33.block gb (lt_of_block h30) (fun x => x)).trans h30
  have K36 : Keeps Nob w V33 := K31.then kV33 (fun _ _ x => x.elim)
  have z37 := kV33.size
  refine ps_run ((opsAt (part_KeccakTexts 62)).getD 2 default) (.tuple #[.agg (B a).toArray, .int .i64 0]) (w' := V33) (by kernel_rfl) (by kernel_rfl) (by kernel_rfl) ?_
  refine ps_run ((opsAt (part_KeccakTexts 62)).getD 3 default) (.agg (B a).toArray) (w' := V33) (by kernel_rfl) (by kernel_rfl) (by kernel_rfl) ?_
  refine ps_run ((opsAt (part_KeccakTexts 62)).getD 4 default) (.int .i64 0) (w' := V33) (by kernel_rfl) (by kernel_rfl) (by kernel_rfl) ?_
  obtain ⟨V38, eV38⟩ : ∃ V, V33.alloc (.cells (#[.int .u8 0, .int .u8 0, .int .u8 0, .int .u8 0, .int .u8 0, .int .u8 0, .int .u8 0, .int .u8 0, .int .u8 0, .int .u8 0, .int .u8 0, .int .u8 0, .int .u8 0, .int .u8 0, .int .u8 0, .int .u8 0, .int .u8 0, .int .u8 0, .int .u8 0, .int .u8 0, .int .u8 0, .int .u8 0, .int .u8 0, .int .u8 0, .int .u8 0, .int .u8 0, .int .u8 0, .int .u8 0, .int .u8 0, .int .u8 0, .int .u8 0, .int .u8 0]) 29) = V := ⟨_, rfl⟩
  obtain ⟨gr, egr⟩ : ∃ g, V33.heap.size = g := ⟨_, rfl⟩
  have n40 : ga < gr := egr ▸ lt_of_block h34
  have n41 : gb < gr := egr ▸ lt_of_block h35
  have n42 : w.heap.size ≤ gr := egr ▸ K36.size
  have h39 : V38.heap[gr]? = some (.cells (#[.int .u8 0, .int .u8 0, .int .u8 0, .int .u8 0, .int .u8 0, .int .u8 0, .int .u8 0, .int .u8 0, .int .u8 0, .int .u8 0, .int .u8 0, .int .u8 0, .int .u8 0, .int .u8 0, .int .u8 0, .int .u8 0, .int .u8 0, .int .u8 0, .int .u8 0, .int .u8 0, .int .u8 0, .int .u8 0, .int .u8 0, .int .u8 0, .int .u8 0, .int .u8 0, .int .u8 0, .int .u8 0, .int .u8 0, .int .u8 0, .int .u8 0, .int .u8 0]) 29 (0, 0)) := by rw [← eV38, ← egr]; exact heap_alloc_new _ _
  have kV38 : Keeps Nob V33 V38 := eV38 ▸ (Keeps.refl _ _).alloc _
  refine ps_run ((opsAt (part_KeccakTexts 62)).getD 5 default) (.pointer (some ⟨gr, 0, none⟩)) (w' := V38) (by kernel_rfl) (by kernel_rfl) (by rw [← eV38, ← egr]; exact exec_alloc0 29 (by kernel_rfl) (.agg (#[.int .u8 0, .int .u8 0, .int .u8 0, .int .u8 0, .int .u8 0, .int .u8 0, .int .u8 0, .int .u8 0, .int .u8 0, .int .u8 0, .int .u8 0, .int .u8 0, .int .u8 0, .int .u8 0, .int .u8 0, .int .u8 0, .int .u8 0, .int .u8 0, .int .u8 0, .int .u8 0, .int .u8 0, .int .u8 0, .int .u8 0, .int .u8 0, .int .u8 0, .int .u8 0, .int .u8 0, .int .u8 0, .int .u8 0, .int .u8 0, .int .u8 0, .int .u8 0])) (by kernel_rfl)) ?_
  clear eV38
  have h43 : V38.heap[ga]? = some (.cells ((B a).toArray) 29 (0, 0)) := (kV38.block ga (lt_of_block h34) (fun x => x)).trans h34
  have h44 : V38.heap[gb]? = some (.cells ((B b).toArray) 29 (0, 0)) := (kV38.block gb (lt_of_block h35) (fun x => x)).trans h35
  have K45 : Keeps Nob w V38 := K36.then kV38 (fun _ _ x => x.elim)
  have z46 := kV38.size
  obtain ⟨V47, eV47⟩ : ∃ V, V38.setRow gr ((B a).toArray) = V := ⟨_, rfl⟩
  have kV47 : Keeps (One gr) V38 V47 := eV47 ▸ (Keeps.refl (One gr) _).setRow (fun _ => (rfl : Own.One gr gr)) _
  have h48 : V47.heap[gr]? = some (.cells ((B a).toArray) 29 (0, 0)) := eV47 ▸ setRow_heap _ _ _ _ _ _ h39
  refine ps_skip ((opsAt (part_KeccakTexts 62)).getD 6 default) (w' := V47) (by kernel_rfl) (by kernel_rfl) (by rw [← eV47]; exact exec_store_row 29 (.tmp 10) (.tmp 24) (by kernel_rfl) gr ((B a).toArray) (by kernel_rfl) (by kernel_rfl) 29 (#[.int .u8 0, .int .u8 0, .int .u8 0, .int .u8 0, .int .u8 0, .int .u8 0, .int .u8 0, .int .u8 0, .int .u8 0, .int .u8 0, .int .u8 0, .int .u8 0, .int .u8 0, .int .u8 0, .int .u8 0, .int .u8 0, .int .u8 0, .int .u8 0, .int .u8 0, .int .u8 0, .int .u8 0, .int .u8 0, .int .u8 0, .int .u8 0, .int .u8 0, .int .u8 0, .int .u8 0, .int .u8 0, .int .u8 0, .int .u8 0, .int .u8 0, .int .u8 0]) h39 (by rw [Bz_size, ha]; kernel_rfl) (by rw [Bz_size, ha]; rfl) (by rw [List.all_toArray]; exact List.all_eq_true.2 (B_one _))) ?_
  clear eV47
  have h49 : V47.heap[ga]? = some (.cells ((B a).toArray) 29 (0, 0)) := (kV47.block ga (lt_of_block h43) (fun e => by unfold Own.One at e; omega)).trans h43
  have h50 : V47.heap[gb]? = some (.cells ((B b).toArray) 29 (0, 0)) := (kV47.block gb (lt_of_block h44) (fun e => by unfold Own.One at e; omega)).trans h44
  have K51 : Keeps Nob w V47 := K45.then kV47 (fun i hi hm => absurd hi (by unfold Own.One at hm; omega))
  have z52 := kV47.size
  refine ps_run ((opsAt (part_KeccakTexts 62)).getD 7 default) (.int .i64 0) (w' := V47) (by kernel_rfl) (by kernel_rfl) (by kernel_rfl) ?_
  refine ps_end ?_
  refine sy_act ⟨#[.agg (B a).toArray, .agg (B b).toArray, .string ⟨(hexOf v).toArray⟩, .pointer (some ⟨ga, 0, none⟩), .pointer (some ⟨gb, 0, none⟩), undef, .bool false, .bool true, .string ⟨(hexOf a).toArray⟩, .string ⟨(hexOf b).toArray⟩, .pointer (some ⟨gr, 0, none⟩), .int .i64 0, .bool true, .string ⟨(hexOf v).toArray⟩, .int .i64 64, .bool false, undef, .agg ((B a).toArray), .string ⟨(hexOf a).toArray⟩, .agg ((B b).toArray), .string ⟨(hexOf b).toArray⟩, .tuple #[.agg (B a).toArray, .int .i64 0], .string ⟨(hexOf a).toArray⟩, .tuple #[.agg (B a).toArray, .int .i64 0], .agg (B a).toArray, .int .i64 0, undef, undef, undef, undef, undef, undef, undef, undef, undef, undef, undef, undef, undef, undef, undef, undef, undef, undef, undef, undef, undef, undef, undef, undef, undef, undef, undef, undef, undef, undef, undef, undef, undef, undef, undef, undef, undef, undef, undef, undef, undef, undef, undef, undef, undef], []⟩ (by kernel_rfl) ?_
  refine then_n ?_
  refine sy_seq (part_KeccakTexts 126) (part_KeccakTexts 127) (by kernel_rfl) ?_
  refine sy_seq (part_KeccakTexts 252) (part_KeccakTexts 253) (by kernel_rfl) ?_
  refine sy_reg ?_
  refine rg_plain 6 (opsAt (part_KeccakTexts 252)) [0, 1, 2, 3, 4, 5, 6, 7, 8, 9, 10, 11, 12, 13, 14, 15, 16, 17, 18, 19, 20] (by kernel_rfl) (by kernel_rfl) ?_
  refine ps_run ((opsAt (part_KeccakTexts 252)).getD 0 default) (.string ⟨(hexOf a).toArray⟩) (w' := V47) (by kernel_rfl) (by kernel_rfl) (by kernel_rfl) ?_
  refine ps_run ((opsAt (part_KeccakTexts 252)).getD 1 default) (.int .i64 64) (w' := V47) (by kernel_rfl) (by kernel_rfl) (exec_cast (congrArg (Value.int .i64) (by simp [ByteArray.size, hexOf_len, ha])) (exec_len_str (.tmp 26) 9 (by kernel_rfl) Try.underlying9 ⟨(hexOf a).toArray⟩ (by kernel_rfl))) ?_
  refine ps_run ((opsAt (part_KeccakTexts 252)).getD 2 default) (.bool false) (w' := V47) (by kernel_rfl) (by kernel_rfl) (by kernel_rfl) ?_
  refine ps_run ((opsAt (part_KeccakTexts 252)).getD 3 default) (.bool false) (w' := V47) (by kernel_rfl) (by kernel_rfl) (by kernel_rfl) ?_
  refine ps_run ((opsAt (part_KeccakTexts 252)).getD 4 default) (.agg ((B a).toArray)) (w' := V47) (by kernel_rfl) (by kernel_rfl) (exec_load_row 29 (.tmp 10) (by kernel_rfl) gr (by kernel_rfl) _ _ (0, 0) _ (h48) Try.underlying29 rfl (by rw [Bz_size, ha]; kernel_rfl)) ?_
  refine ps_run ((opsAt (part_KeccakTexts 252)).getD 5 default) (.agg ((B a).toArray)) (w' := V47) (by kernel_rfl) (by kernel_rfl) (exec_load_row 29 (.tmp 3) (by kernel_rfl) ga (by kernel_rfl) _ _ (0, 0) _ (h49) Try.underlying29 rfl (by rw [Bz_size, ha]; kernel_rfl)) ?_
  refine ps_run ((opsAt (part_KeccakTexts 252)).getD 6 default) (.bool false) (w' := V47) (by kernel_rfl) (by kernel_rfl) (exec_cast (congrArg Value.bool (by simp)) (exec_binop .neq 29 29 (.tmp 30) (.tmp 31) (by kernel_rfl) (.agg (B a).toArray) (.agg (B a).toArray) _ (by kernel_rfl) (by kernel_rfl) (run_eqGuard_agg _ _ _ _ _ _ _ khash_guard) (khash_neq a a ha ha _))) ?_
  refine ps_run ((opsAt (part_KeccakTexts 252)).getD 7 default) (.bool false) (w' := V47) (by kernel_rfl) (by kernel_rfl) (by kernel_rfl) ?_
  refine ps_run ((opsAt (part_KeccakTexts 252)).getD 8 default) (.bool false) (w' := V47) (by kernel_rfl) (by kernel_rfl) (by kernel_rfl) ?_
  refine ps_run ((opsAt (part_KeccakTexts 252)).getD 9 default) (.int .i64 0) (w' := V47) (by kernel_rfl) (by kernel_rfl) (by kernel_rfl) ?_
  refine ps_run ((opsAt (part_KeccakTexts 252)).getD 10 default) (.bool false) (w' := V47) (by kernel_rfl) (by kernel_rfl) (by kernel_rfl) ?_
  refine ps_run ((opsAt (part_KeccakTexts 252)).getD 11 default) (.bool false) (w' := V47) (by kernel_rfl) (by kernel_rfl) (by kernel_rfl) ?_
  refine ps_run ((opsAt (part_KeccakTexts 252)).getD 12 default) (.bool false) (w' := V47) (by kernel_rfl) (by kernel_rfl) (by kernel_rfl) ?_
  refine ps_run ((opsAt (part_KeccakTexts 252)).getD 13 default) (.string ⟨(hexOf a).toArray⟩) (w' := V47) (by kernel_rfl) (by kernel_rfl) (by kernel_rfl) ?_
  refine ps_run ((opsAt (part_KeccakTexts 252)).getD 14 default) (.string ⟨(hexOf b).toArray⟩) (w' := V47) (by kernel_rfl) (by kernel_rfl) (by kernel_rfl) ?_
  refine ps_run ((opsAt (part_KeccakTexts 252)).getD 15 default) (.bool (a == b)) (w' := V47) (by kernel_rfl) (by kernel_rfl) (exec_cast (congrArg Value.bool (hexOf_beq ha hb)) (exec_binop .eql 9 9 (.tmp 39) (.tmp 40) (by kernel_rfl) (.string ⟨(hexOf a).toArray⟩) (.string ⟨(hexOf b).toArray⟩) _ (by kernel_rfl) (by kernel_rfl) (by kernel_rfl) (eq_strs (hexOf a) (hexOf b) _))) ?_
  refine ps_run ((opsAt (part_KeccakTexts 252)).getD 16 default) (.agg ((B a).toArray)) (w' := V47) (by kernel_rfl) (by kernel_rfl) (exec_load_row 29 (.tmp 3) (by kernel_rfl) ga (by kernel_rfl) _ _ (0, 0) _ (h49) Try.underlying29 rfl (by rw [Bz_size, ha]; kernel_rfl)) ?_
  refine ps_run ((opsAt (part_KeccakTexts 252)).getD 17 default) (.agg ((B b).toArray)) (w' := V47) (by kernel_rfl) (by kernel_rfl) (exec_load_row 29 (.tmp 4) (by kernel_rfl) gb (by kernel_rfl) _ _ (0, 0) _ (h50) Try.underlying29 rfl (by rw [Bz_size, hb]; kernel_rfl)) ?_
  refine ps_run ((opsAt (part_KeccakTexts 252)).getD 18 default) (.bool (a == b)) (w' := V47) (by kernel_rfl) (by kernel_rfl) (exec_cast (congrArg Value.bool (rfl)) (exec_binop .eql 29 29 (.tmp 42) (.tmp 43) (by kernel_rfl) (.agg (B a).toArray) (.agg (B b).toArray) _ (by kernel_rfl) (by kernel_rfl) (run_eqGuard_agg _ _ _ _ _ _ _ khash_guard) (khash_eql a b ha hb _))) ?_
  refine ps_run ((opsAt (part_KeccakTexts 252)).getD 19 default) (.bool false) (w' := V47) (by kernel_rfl) (by kernel_rfl) (exec_binop .neq 4 4 (.tmp 41) (.tmp 44) (by kernel_rfl) (.bool (a == b)) (.bool (a == b)) _ (by kernel_rfl) (by kernel_rfl) (by kernel_rfl) (neq_bools _ _)) ?_
  refine ps_run ((opsAt (part_KeccakTexts 252)).getD 20 default) (.bool false) (w' := V47) (by kernel_rfl) (by kernel_rfl) (by kernel_rfl) ?_
  refine ps_end ?_
  refine sy_act ⟨#[.agg (B a).toArray, .agg (B b).toArray, .string ⟨(hexOf v).toArray⟩, .pointer (some ⟨ga, 0, none⟩), .pointer (some ⟨gb, 0, none⟩), undef, .bool false, .bool true, .string ⟨(hexOf a).toArray⟩, .string ⟨(hexOf b).toArray⟩, .pointer (some ⟨gr, 0, none⟩), .int .i64 0, .bool true, .string ⟨(hexOf v).toArray⟩, .int .i64 64, .bool false, undef, .agg ((B a).toArray), .string ⟨(hexOf a).toArray⟩, .agg ((B b).toArray), .string ⟨(hexOf b).toArray⟩, .tuple #[.agg (B a).toArray, .int .i64 0], .string ⟨(hexOf a).toArray⟩, .tuple #[.agg (B a).toArray, .int .i64 0], .agg (B a).toArray, .int .i64 0, .string ⟨(hexOf a).toArray⟩, .int .i64 64, .bool false, .bool false, .agg ((B a).toArray), .agg ((B a).toArray), .bool false, .bool false, .bool false, .int .i64 0, .bool false, .bool false, .bool false, .string ⟨(hexOf a).toArray⟩, .string ⟨(hexOf b).toArray⟩, .bool (a == b), .agg ((B a).toArray), .agg ((B b).toArray), .bool (a == b), .bool false, .bool false, undef, undef, undef, undef, undef, undef, undef, undef, undef, undef, undef, undef, undef, undef, undef, undef, undef, undef, undef, undef, undef, undef, undef, undef], []⟩ (by kernel_rfl) ?_
  refine then_n ?_
  refine sy_no (.tmp 46) (part_KeccakTexts 506) (part_KeccakTexts 507) (by kernel_rfl) (by kernel_rfl) ?_
  refine sy_skip (by kernel_rfl) ?_
  refine then_n ?_
  refine sy_seq (part_KeccakTexts 254) (part_KeccakTexts 255) (by kernel_rfl) ?_
  refine sy_reg ?_
  refine rg_plain 8 (opsAt (part_KeccakTexts 254)) [0, 1, 2, 3, 4, 5, 6] (by kernel_rfl) (by kernel_rfl) ?_
  refine ps_run ((opsAt (part_KeccakTexts 254)).getD 0 default) (.string ⟨(hexOf v).toArray⟩) (w' := V47) (by kernel_rfl) (by kernel_rfl) (by kernel_rfl) ?_
  refine ps_call ((opsAt (part_KeccakTexts 254)).getD 1 default) 22 #[.string ⟨(hexOf v).toArray⟩] (by kernel_rfl) (by kernel_rfl) (by kernel_rfl) (by kernel_rfl) (enters_of Try.func22 (by kernel_rfl) rfl) ((reads_hex v hv _).mono ?_)
  rintro e V53 ⟨rfl, kV53⟩
  refine ⟨_, rfl, ?_⟩
  have h54 : V53.heap[ga]? = some (.cells ((B a).toArray) 29 (0, 0)) := (kV53.block ga (lt_of_block h49) (fun x => x)).trans h49
  have h55 : V53.heap[gb]? = some (.cells ((B b).toArray) 29 (0, 0)) := (kV53.block gb (lt_of_block h50) (fun x => x)).trans h50
  have h56 : V53.heap[gr]? = some (.cells ((B a).toArray) 29 (0, 0)) := (kV53.block gr (lt_of_block h48) (fun x => x)).trans h48
  have K57 : Keeps Nob w V53 := K51.then kV53 (fun _ _ x => x.elim)
  have z58 := kV53.size
  refine ps_run ((opsAt (part_KeccakTexts 254)).getD 2 default) (.tuple #[.agg (B v).toArray, .int .i64 0]) (w' := V53) (by kernel_rfl) (by kernel_rfl) (by kernel_rfl) ?_
  refine ps_run ((opsAt (part_KeccakTexts 254)).getD 3 default) (.agg (B v).toArray) (w' := V53) (by kernel_rfl) (by kernel_rfl) (by kernel_rfl) ?_
  refine ps_run ((opsAt (part_KeccakTexts 254)).getD 4 default) (.int .i64 0) (w' := V53) (by kernel_rfl) (by kernel_rfl) (by kernel_rfl) ?_
  obtain ⟨V59, eV59⟩ : ∃ V, V53.setRow gr ((B v).toArray) = V := ⟨_, rfl⟩
  have kV59 : Keeps (One gr) V53 V59 := eV59 ▸ (Keeps.refl (One gr) _).setRow (fun _ => (rfl : Own.One gr gr)) _
  have h60 : V59.heap[gr]? = some (.cells ((B v).toArray) 29 (0, 0)) := eV59 ▸ setRow_heap _ _ _ _ _ _ h56
  refine ps_skip ((opsAt (part_KeccakTexts 254)).getD 5 default) (w' := V59) (by kernel_rfl) (by kernel_rfl) (by rw [← eV59]; exact exec_store_row 29 (.tmp 10) (.tmp 50) (by kernel_rfl) gr ((B v).toArray) (by kernel_rfl) (by kernel_rfl) 29 ((B a).toArray) h56 (by rw [Bz_size, hv]; kernel_rfl) (by rw [Bz_size, Bz_size, hv, ha]) (by rw [List.all_toArray]; exact List.all_eq_true.2 (B_one _))) ?_
  clear eV59
  have h61 : V59.heap[ga]? = some (.cells ((B a).toArray) 29 (0, 0)) := (kV59.block ga (lt_of_block h54) (fun e => by unfold Own.One at e; omega)).trans h54
  have h62 : V59.heap[gb]? = some (.cells ((B b).toArray) 29 (0, 0)) := (kV59.block gb (lt_of_block h55) (fun e => by unfold Own.One at e; omega)).trans h55
  have K63 : Keeps Nob w V59 := K57.then kV59 (fun i hi hm => absurd hi (by unfold Own.One at hm; omega))
  have z64 := kV59.size
  refine ps_run ((opsAt (part_KeccakTexts 254)).getD 6 default) (.int .i64 0) (w' := V59) (by kernel_rfl) (by kernel_rfl) (by kernel_rfl) ?_
  refine ps_end ?_
  refine sy_act ⟨#[.agg (B a).toArray, .agg (B b).toArray, .string ⟨(hexOf v).toArray⟩, .pointer (some ⟨ga, 0, none⟩), .pointer (some ⟨gb, 0, none⟩), undef, .bool false, .bool true, .string ⟨(hexOf a).toArray⟩, .string ⟨(hexOf b).toArray⟩, .pointer (some ⟨gr, 0, none⟩), .int .i64 0, .bool true, .string ⟨(hexOf v).toArray⟩, .int .i64 64, .bool false, undef, .agg ((B a).toArray), .string ⟨(hexOf a).toArray⟩, .agg ((B b).toArray), .string ⟨(hexOf b).toArray⟩, .tuple #[.agg (B a).toArray, .int .i64 0], .string ⟨(hexOf a).toArray⟩, .tuple #[.agg (B a).toArray, .int .i64 0], .agg (B a).toArray, .int .i64 0, .string ⟨(hexOf a).toArray⟩, .int .i64 64, .bool false, .bool false, .agg ((B a).toArray), .agg ((B a).toArray), .bool false, .bool false, .bool false, .int .i64 0, .bool false, .bool false, .bool false, .string ⟨(hexOf a).toArray⟩, .string ⟨(hexOf b).toArray⟩, .bool (a == b), .agg ((B a).toArray), .agg ((B b).toArray), .bool (a == b), .bool false, .bool false, .tuple #[.agg (B v).toArray, .int .i64 0], .string ⟨(hexOf v).toArray⟩, .tuple #[.agg (B v).toArray, .int .i64 0], .agg (B v).toArray, .int .i64 0, undef, undef, undef, undef, undef, undef, undef, undef, undef, undef, undef, undef, undef, undef, undef, undef, undef, undef, undef], []⟩ (by kernel_rfl) ?_
  refine then_n ?_
  refine sy_seq (part_KeccakTexts 510) (part_KeccakTexts 511) (by kernel_rfl) ?_
  refine sy_seq (part_KeccakTexts 1020) (part_KeccakTexts 1021) (by kernel_rfl) ?_
  refine sy_reg ?_
  refine rg_plain 9 (opsAt (part_KeccakTexts 1020)) [0, 1] (by kernel_rfl) (by kernel_rfl) ?_
  refine ps_run ((opsAt (part_KeccakTexts 1020)).getD 0 default) (.int .i64 0) (w' := V59) (by kernel_rfl) (by kernel_rfl) (by kernel_rfl) ?_
  refine ps_run ((opsAt (part_KeccakTexts 1020)).getD 1 default) (.bool false) (w' := V59) (by kernel_rfl) (by kernel_rfl) (by kernel_rfl) ?_
  refine ps_end ?_
  refine sy_act ⟨#[.agg (B a).toArray, .agg (B b).toArray, .string ⟨(hexOf v).toArray⟩, .pointer (some ⟨ga, 0, none⟩), .pointer (some ⟨gb, 0, none⟩), undef, .bool false, .bool true, .string ⟨(hexOf a).toArray⟩, .string ⟨(hexOf b).toArray⟩, .pointer (some ⟨gr, 0, none⟩), .int .i64 0, .bool true, .string ⟨(hexOf v).toArray⟩, .int .i64 64, .bool false, undef, .agg ((B a).toArray), .string ⟨(hexOf a).toArray⟩, .agg ((B b).toArray), .string ⟨(hexOf b).toArray⟩, .tuple #[.agg (B a).toArray, .int .i64 0], .string ⟨(hexOf a).toArray⟩, .tuple #[.agg (B a).toArray, .int .i64 0], .agg (B a).toArray, .int .i64 0, .string ⟨(hexOf a).toArray⟩, .int .i64 64, .bool false, .bool false, .agg ((B a).toArray), .agg ((B a).toArray), .bool false, .bool false, .bool false, .int .i64 0, .bool false, .bool false, .bool false, .string ⟨(hexOf a).toArray⟩, .string ⟨(hexOf b).toArray⟩, .bool (a == b), .agg ((B a).toArray), .agg ((B b).toArray), .bool (a == b), .bool false, .bool false, .tuple #[.agg (B v).toArray, .int .i64 0], .string ⟨(hexOf v).toArray⟩, .tuple #[.agg (B v).toArray, .int .i64 0], .agg (B v).toArray, .int .i64 0, .int .i64 0, .bool false, undef, undef, undef, undef, undef, undef, undef, undef, undef, undef, undef, undef, undef, undef, undef, undef, undef], []⟩ (by kernel_rfl) ?_
  refine then_n ?_
  refine sy_no (.tmp 53) (part_KeccakTexts 2042) (part_KeccakTexts 2043) (by kernel_rfl) (by kernel_rfl) ?_
  refine sy_skip (by kernel_rfl) ?_
  refine then_n ?_
  refine sy_seq (part_KeccakTexts 1022) (part_KeccakTexts 1023) (by kernel_rfl) ?_
  refine sy_reg ?_
  refine rg_plain 11 (opsAt (part_KeccakTexts 1022)) [0, 1, 2, 3, 4, 5, 6, 7] (by kernel_rfl) (by kernel_rfl) ?_
  refine ps_run ((opsAt (part_KeccakTexts 1022)).getD 0 default) (.bool true) (w' := V59) (by kernel_rfl) (by kernel_rfl) (by kernel_rfl) ?_
  refine ps_run ((opsAt (part_KeccakTexts 1022)).getD 1 default) (.bool true) (w' := V59) (by kernel_rfl) (by kernel_rfl) (by kernel_rfl) ?_
  refine ps_run ((opsAt (part_KeccakTexts 1022)).getD 2 default) (.agg ((B v).toArray)) (w' := V59) (by kernel_rfl) (by kernel_rfl) (exec_load_row 29 (.tmp 10) (by kernel_rfl) gr (by kernel_rfl) _ _ (0, 0) _ (h60) Try.underlying29 rfl (by rw [Bz_size, hv]; kernel_rfl)) ?_
  refine ps_call ((opsAt (part_KeccakTexts 1022)).getD 3 default) 27 #[.agg ((B v).toArray)] (by kernel_rfl) (by kernel_rfl) (by kernel_rfl) (by kernel_rfl) (enters_of Try.func27 (by kernel_rfl) rfl) ((kText_ok v _ hv).mono ?_)
  rintro e V65 ⟨rfl, kV65⟩
  refine ⟨_, rfl, ?_⟩
  have h66 : V65.heap[ga]? = some (.cells ((B a).toArray) 29 (0, 0)) := (kV65.block ga (lt_of_block h61) (fun x => x)).trans h61
  have h67 : V65.heap[gb]? = some (.cells ((B b).toArray) 29 (0, 0)) := (kV65.block gb (lt_of_block h62) (fun x => x)).trans h62
  have h68 : V65.heap[gr]? = some (.cells ((B v).toArray) 29 (0, 0)) := (kV65.block gr (lt_of_block h60) (fun x => x)).trans h60
  have K69 : Keeps Nob w V65 := K63.then kV65 (fun _ _ x => x.elim)
  have z70 := kV65.size
  refine ps_run ((opsAt (part_KeccakTexts 1022)).getD 4 default) (.string ⟨(hexOf v).toArray⟩) (w' := V65) (by kernel_rfl) (by kernel_rfl) (by kernel_rfl) ?_
  refine ps_run ((opsAt (part_KeccakTexts 1022)).getD 5 default) (.bool true) (w' := V65) (by kernel_rfl) (by kernel_rfl) (exec_cast (congrArg Value.bool (by simp)) (exec_binop .eql 9 9 (.tmp 67) (.tmp 68) (by kernel_rfl) (.string ⟨(hexOf v).toArray⟩) (.string ⟨(hexOf v).toArray⟩) _ (by kernel_rfl) (by kernel_rfl) (by kernel_rfl) (eq_strs (hexOf v) (hexOf v) _))) ?_
  refine ps_run ((opsAt (part_KeccakTexts 1022)).getD 6 default) (.bool true) (w' := V65) (by kernel_rfl) (by kernel_rfl) (by kernel_rfl) ?_
  refine ps_run ((opsAt (part_KeccakTexts 1022)).getD 7 default) (.bool true) (w' := V65) (by kernel_rfl) (by kernel_rfl) (by kernel_rfl) ?_
  refine ps_end ?_
  refine sy_act ⟨#[.agg (B a).toArray, .agg (B b).toArray, .string ⟨(hexOf v).toArray⟩, .pointer (some ⟨ga, 0, none⟩), .pointer (some ⟨gb, 0, none⟩), undef, .bool true, .bool true, .string ⟨(hexOf a).toArray⟩, .string ⟨(hexOf b).toArray⟩, .pointer (some ⟨gr, 0, none⟩), .int .i64 0, .bool true, .string ⟨(hexOf v).toArray⟩, .int .i64 64, .bool false, undef, .agg ((B a).toArray), .string ⟨(hexOf a).toArray⟩, .agg ((B b).toArray), .string ⟨(hexOf b).toArray⟩, .tuple #[.agg (B a).toArray, .int .i64 0], .string ⟨(hexOf a).toArray⟩, .tuple #[.agg (B a).toArray, .int .i64 0], .agg (B a).toArray, .int .i64 0, .string ⟨(hexOf a).toArray⟩, .int .i64 64, .bool false, .bool false, .agg ((B a).toArray), .agg ((B a).toArray), .bool false, .bool false, .bool false, .int .i64 0, .bool false, .bool false, .bool false, .string ⟨(hexOf a).toArray⟩, .string ⟨(hexOf b).toArray⟩, .bool (a == b), .agg ((B a).toArray), .agg ((B b).toArray), .bool (a == b), .bool false, .bool false, .tuple #[.agg (B v).toArray, .int .i64 0], .string ⟨(hexOf v).toArray⟩, .tuple #[.agg (B v).toArray, .int .i64 0], .agg (B v).toArray, .int .i64 0, .int .i64 0, .bool false, undef, undef, undef, undef, undef, undef, undef, undef, undef, undef, .bool true, .bool true, .agg ((B v).toArray), .string ⟨(hexOf v).toArray⟩, .string ⟨(hexOf v).toArray⟩, .bool true, .bool true], []⟩ (by kernel_rfl) ?_
  refine then_n ?_
  refine sy_ret (by kernel_rfl) ?_
  refine sy_out (.bool true) rfl (by kernel_rfl) ?_
  exact ⟨rfl, K69⟩
set_option maxRecDepth 100000 in
set_option maxHeartbeats 4000000 in
theorem texts_no (a b t : List UInt8) (w : World) (ha : a.length = 32) (hb : b.length = 32) (hl : ¬ t.length > 100) (hn : ¬ isHex t) :
    Calls Try.prog 7 #[.agg (B a).toArray, .agg (B b).toArray, .string ⟨(t).toArray⟩] w (fun e w' => e = .returned (.bool true) ∧ Keeps Nob w w') := by
  have K0 : Keeps Nob w w := Keeps.refl _ _
  refine sy_enter (part_KeccakTexts 1) ⟨#[.agg (B a).toArray, .agg (B b).toArray, .string ⟨(t).toArray⟩, undef, undef, undef, undef, undef, undef, undef, undef, undef, undef, undef, undef, undef, undef, undef, undef, undef, undef, undef, undef, undef, undef, undef, undef, undef, undef, undef, undef, undef, undef, undef, undef, undef, undef, undef, undef, undef, undef, undef, undef, undef, undef, undef, undef, undef, undef, undef, undef, undef, undef, undef, undef, undef, undef, undef, undef, undef, undef, undef, undef, undef, undef, undef, undef, undef, undef, undef, undef], []⟩ Try.func7 (by kernel_rfl) (by kernel_rfl) ?_
  refine sy_seq (part_KeccakTexts 2) (part_KeccakTexts 3) (by kernel_rfl) ?_
  refine sy_reg ?_
  refine rg_plain 0 (opsAt (part_KeccakTexts 2)) [0, 1, 2] (by kernel_rfl) (by kernel_rfl) ?_
  obtain ⟨V1, eV1⟩ : ∃ V, w.alloc (.cells ((B a).toArray) 29) = V := ⟨_, rfl⟩
  obtain ⟨ga, ega⟩ : ∃ g, w.heap.size = g := ⟨_, rfl⟩
  have n3 : w.heap.size ≤ ga := ega ▸ K0.size
  have h2 : V1.heap[ga]? = some (.cells ((B a).toArray) 29 (0, 0)) := by rw [← eV1, ← ega]; exact heap_alloc_new _ _
  have kV1 : Keeps Nob w V1 := eV1 ▸ (Keeps.refl _ _).alloc _
  refine ps_run ((opsAt (part_KeccakTexts 2)).getD 0 default) (.pointer (some ⟨ga, 0, none⟩)) (w' := V1) (by kernel_rfl) (by kernel_rfl) (by rw [← eV1, ← ega]; exact exec_box 29 (.tmp 0) (by kernel_rfl) (.agg (B a).toArray) (by kernel_rfl)) ?_
  clear eV1
  have K4 : Keeps Nob w V1 := K0.then kV1 (fun _ _ x => x.elim)
  have z5 := kV1.size
  obtain ⟨V6, eV6⟩ : ∃ V, V1.alloc (.cells ((B b).toArray) 29) = V := ⟨_, rfl⟩
  obtain ⟨gb, egb⟩ : ∃ g, V1.heap.size = g := ⟨_, rfl⟩
  have n8 : ga < gb := egb ▸ lt_of_block h2
  have n9 : w.heap.size ≤ gb := egb ▸ K4.size
  have h7 : V6.heap[gb]? = some (.cells ((B b).toArray) 29 (0, 0)) := by rw [← eV6, ← egb]; exact heap_alloc_new _ _
  have kV6 : Keeps Nob V1 V6 := eV6 ▸ (Keeps.refl _ _).alloc _
  refine ps_run ((opsAt (part_KeccakTexts 2)).getD 1 default) (.pointer (some ⟨gb, 0, none⟩)) (w' := V6) (by kernel_rfl) (by kernel_rfl) (by rw [← eV6, ← egb]; exact exec_box 29 (.tmp 1) (by kernel_rfl) (.agg (B b).toArray) (by kernel_rfl)) ?_
  clear eV6
  have h10 : V6.heap[ga]? = some (.cells ((B a).toArray) 29 (0, 0)) := (kV6.block ga (lt_of_block h2) (fun x => x)).trans h2
  have K11 : Keeps Nob w V6 := K4.then kV6 (fun _ _ x => x.elim)
  have z12 := kV6.size
  refine ps_run ((opsAt (part_KeccakTexts 2)).getD 2 default) (.bool false) (w' := V6) (by kernel_rfl) (by kernel_rfl) (by kernel_rfl) ?_
  refine ps_end ?_
  refine sy_act ⟨#[.agg (B a).toArray, .agg (B b).toArray, .string ⟨(t).toArray⟩, .pointer (some ⟨ga, 0, none⟩), .pointer (some ⟨gb, 0, none⟩), undef, .bool false, undef, undef, undef, undef, undef, undef, undef, undef, undef, undef, undef, undef, undef, undef, undef, undef, undef, undef, undef, undef, undef, undef, undef, undef, undef, undef, undef, undef, undef, undef, undef, undef, undef, undef, undef, undef, undef, undef, undef, undef, undef, undef, undef, undef, undef, undef, undef, undef, undef, undef, undef, undef, undef, undef, undef, undef, undef, undef, undef, undef, undef, undef, undef, undef], []⟩ (by kernel_rfl) ?_
  refine then_n ?_
  refine sy_seq (part_KeccakTexts 6) (part_KeccakTexts 7) (by kernel_rfl) ?_
  refine sy_reg ?_
  refine rg_plain 1 (opsAt (part_KeccakTexts 6)) [0, 1] (by kernel_rfl) (by kernel_rfl) ?_
  refine ps_call ((opsAt (part_KeccakTexts 6)).getD 0 default) 6 #[] (by kernel_rfl) (by kernel_rfl) (by kernel_rfl) (by kernel_rfl) (enters_of Try.func6 (by kernel_rfl) rfl) ((known_ok _).mono ?_)
  rintro e V13 ⟨rfl, kV13⟩
  refine ⟨_, rfl, ?_⟩
  have h14 : V13.heap[ga]? = some (.cells ((B a).toArray) 29 (0, 0)) := (kV13.block ga (lt_of_block h10) (fun x => x)).trans h10
  have h15 : V13.heap[gb]? = some (.cells ((B b).toArray) 29 (0, 0)) := (kV13.block gb (lt_of_block h7) (fun x => x)).trans h7
  have K16 : Keeps Nob w V13 := K11.then kV13 (fun _ _ x => x.elim)
  have z17 := kV13.size
  refine ps_run ((opsAt (part_KeccakTexts 6)).getD 1 default) (.bool true) (w' := V13) (by kernel_rfl) (by kernel_rfl) (by kernel_rfl) ?_
  refine ps_end ?_
  refine sy_act ⟨#[.agg (B a).toArray, .agg (B b).toArray, .string ⟨(t).toArray⟩, .pointer (some ⟨ga, 0, none⟩), .pointer (some ⟨gb, 0, none⟩), undef, .bool false, .bool true, undef, undef, undef, undef, .bool true, undef, undef, undef, undef, undef, undef, undef, undef, undef, undef, undef, undef, undef, undef, undef, undef, undef, undef, undef, undef, undef, undef, undef, undef, undef, undef, undef, undef, undef, undef, undef, undef, undef, undef, undef, undef, undef, undef, undef, undef, undef, undef, undef, undef, undef, undef, undef, undef, undef, undef, undef, undef, undef, undef, undef, undef, undef, undef], []⟩ (by kernel_rfl) ?_
  refine then_n ?_
  refine sy_seq (part_KeccakTexts 14) (part_KeccakTexts 15) (by kernel_rfl) ?_
  refine sy_seq (part_KeccakTexts 28) (part_KeccakTexts 29) (by kernel_rfl) ?_
  refine sy_reg ?_
  refine rg_plain 2 (opsAt (part_KeccakTexts 28)) [0, 1, 2] (by kernel_rfl) (by kernel_rfl) ?_
  refine ps_run ((opsAt (part_KeccakTexts 28)).getD 0 default) (.string ⟨(t).toArray⟩) (w' := V13) (by kernel_rfl) (by kernel_rfl) (by kernel_rfl) ?_
  refine ps_run ((opsAt (part_KeccakTexts 28)).getD 1 default) (.int .i64 ((t.length : Nat) : Int)) (w' := V13) (by kernel_rfl) (by kernel_rfl) (exec_cast (congrArg (Value.int .i64) (by simp [ByteArray.size])) (exec_len_str (.tmp 13) 9 (by kernel_rfl) Try.underlying9 ⟨(t).toArray⟩ (by kernel_rfl))) ?_
  refine ps_run ((opsAt (part_KeccakTexts 28)).getD 2 default) (.bool false) (w' := V13) (by kernel_rfl) (by kernel_rfl) (exec_cast (congrArg Value.bool (show (decide ((((t.length : Nat) : Int)) > ((100) : Int))) = false from by simp only [decide_eq_false_iff_not]; omega)) (by kernel_rfl)) ?_
  refine ps_end ?_
  refine sy_act ⟨#[.agg (B a).toArray, .agg (B b).toArray, .string ⟨(t).toArray⟩, .pointer (some ⟨ga, 0, none⟩), .pointer (some ⟨gb, 0, none⟩), undef, .bool false, .bool true, undef, undef, undef, undef, .bool true, .string ⟨(t).toArray⟩, .int .i64 ((t.length : Nat) : Int), .bool false, undef, undef, undef, undef, undef, undef, undef, undef, undef, undef, undef, undef, undef, undef, undef, undef, undef, undef, undef, undef, undef, undef, undef, undef, undef, undef, undef, undef, undef, undef, undef, undef, undef, undef, undef, undef, undef, undef, undef, undef, undef, undef, undef, undef, undef, undef, undef, undef, undef, undef, undef, undef, undef, undef, undef], []⟩ (by kernel_rfl) ?_
  refine then_n ?_
  refine sy_no (.tmp 15) (part_KeccakTexts 58) (part_KeccakTexts 59) (by kernel_rfl) (by kernel_rfl) ?_
  refine sy_skip (by kernel_rfl) ?_
  refine then_n ?_
  refine sy_seq (part_KeccakTexts 30) (part_KeccakTexts 31) (by kernel_rfl) ?_
  refine sy_np ?_
  refine sy_reg ?_
  refine an_begin 4 6 (opsAt (part_KeccakTexts 30)) (fun W => (W.heap[ga]? = some (.cells ((B a).toArray) 29 (0, 0))) ∧ (W.heap[gb]? = some (.cells ((B b).toArray) 29 (0, 0)))) #[false, false, false, false, false, false] (by kernel_rfl) (by kernel_rfl) (by kernel_rfl) (by kernel_rfl) ?_
  obtain ⟨V18, eV18⟩ : ∃ V, V13.drew = V := ⟨_, rfl⟩
  have kV18 : Keeps Nob V13 V18 := eV18 ▸ (Keeps.refl _ _).drew
  rw [eV18]
  clear eV18
  have h19 : V18.heap[ga]? = some (.cells ((B a).toArray) 29 (0, 0)) := (kV18.block ga (lt_of_block h14) (fun x => x)).trans h14
  have h20 : V18.heap[gb]? = some (.cells ((B b).toArray) 29 (0, 0)) := (kV18.block gb (lt_of_block h15) (fun x => x)).trans h15
  have K21 : Keeps Nob w V18 := K16.then kV18 (fun _ _ x => x.elim)
  have z22 := kV18.size
  refine an_val 0 ((opsAt (part_KeccakTexts 30)).getD 0 default) (.agg ((B a).toArray)) (by kernel_rfl) (by kernel_rfl) (by kernel_rfl) (by kernel_rfl) (by kernel_rfl) (fun W hS => exec_load_row 29 (.tmp 3) (by kernel_rfl) ga (by kernel_rfl) _ _ (0, 0) _ (hS.1) Try.underlying29 rfl (by rw [Bz_size, ha]; kernel_rfl)) ⟨h19, h20⟩ ?_
  refine an_val 2 ((opsAt (part_KeccakTexts 30)).getD 2 default) (.agg ((B b).toArray)) (by kernel_rfl) (by kernel_rfl) (by kernel_rfl) (by kernel_rfl) (by kernel_rfl) (fun W hS => exec_load_row 29 (.tmp 4) (by kernel_rfl) gb (by kernel_rfl) _ _ (0, 0) _ (hS.2) Try.underlying29 rfl (by rw [Bz_size, hb]; kernel_rfl)) ⟨h19, h20⟩ ?_
  refine an_one 1 (by kernel_rfl) ?_
  refine on_call ((opsAt (part_KeccakTexts 30)).getD 1 default) 27 #[.agg ((B a).toArray)] (by kernel_rfl) (by kernel_rfl) (by kernel_rfl) (by kernel_rfl) (enters_of Try.func27 (by kernel_rfl) rfl) ((kText_ok a _ ha).mono ?_)
  rintro e V23 ⟨rfl, kV23⟩
  refine ⟨_, rfl, ?_⟩
  have h24 : V23.heap[ga]? = some (.cells ((B a).toArray) 29 (0, 0)) := (kV23.block ga (lt_of_block h19) (fun x => x)).trans h19
  have h25 : V23.heap[gb]? = some (.cells ((B b).toArray) 29 (0, 0)) := (kV23.block gb (lt_of_block h20) (fun x => x)).trans h20
  have K26 : Keeps Nob w V23 := K21.then kV23 (fun _ _ x => x.elim)
  have z27 := kV23.size
  refine ⟨⟨h24, h25⟩, ?_⟩
  refine an_one 3 (by kernel_rfl) ?_
  refine on_call ((opsAt (part_KeccakTexts 30)).getD 3 default) 27 #[.agg ((B b).toArray)] (by kernel_rfl) (by kernel_rfl) (by kernel_rfl) (by kernel_rfl) (enters_of Try.func27 (by kernel_rfl) rfl) ((kText_ok b _ hb).mono ?_)
  rintro e V28 ⟨rfl, kV28⟩
  refine ⟨_, rfl, ?_⟩
  have h29 : V28.heap[ga]? = some (.cells ((B a).toArray) 29 (0, 0)) := (kV28.block ga (lt_of_block h24) (fun x => x)).trans h24
  have h30 : V28.heap[gb]? = some (.cells ((B b).toArray) 29 (0, 0)) := (kV28.block gb (lt_of_block h25) (fun x => x)).trans h25
  have K31 : Keeps Nob w V28 := K26.then kV28 (fun _ _ x => x.elim)
  have z32 := kV28.size
  refine ⟨⟨h29, h30⟩, ?_⟩
  refine an_one 4 (by kernel_rfl) ?_
  refine on_run ((opsAt (part_KeccakTexts 30)).getD 4 default) (.string ⟨(hexOf a).toArray⟩) (w' := V28) (by kernel_rfl) (by kernel_rfl) (by kernel_rfl) ?_
  refine ⟨⟨h29, h30⟩, ?_⟩
  refine an_one 5 (by kernel_rfl) ?_
  refine on_run ((opsAt (part_KeccakTexts 30)).getD 5 default) (.string ⟨(hexOf b).toArray⟩) (w' := V28) (by kernel_rfl) (by kernel_rfl) (by kernel_rfl) ?_
  refine ⟨⟨h29, h30⟩, ?_⟩
  refine an_end (by kernel_rfl) ?_
  refine sy_act ⟨#[.agg (B a).toArray, .agg (B b).toArray, .string ⟨(t).toArray⟩, .pointer (some ⟨ga, 0, none⟩), .pointer (some ⟨gb, 0, none⟩), undef, .bool false, .bool true, .string ⟨(hexOf a).toArray⟩, .string ⟨(hexOf b).toArray⟩, undef, undef, .bool true, .string ⟨(t).toArray⟩, .int .i64 ((t.length : Nat) : Int), .bool false, undef, .agg ((B a).toArray), .string ⟨(hexOf a).toArray⟩, .agg ((B b).toArray), .string ⟨(hexOf b).toArray⟩, undef, undef, undef, undef, undef, undef, undef, undef, undef, undef, undef, undef, undef, undef, undef, undef, undef, undef, undef, undef, undef, undef, undef, undef, undef, undef, undef, undef, undef, undef, undef, undef, undef, undef, undef, undef, undef, undef, undef, undef, undef, undef, undef, undef, undef, undef, undef, undef, undef, undef], []⟩ (by kernel_rfl) ?_
  refine then_n ?_
  refine sy_seq (part_KeccakTexts 62) (part_KeccakTexts 63) (by kernel_rfl) ?_
  refine sy_reg ?_
  refine rg_plain 5 (opsAt (part_KeccakTexts 62)) [0, 1, 2, 3, 4, 5, 6, 7] (by kernel_rfl) (by kernel_rfl) ?_
  refine ps_run ((opsAt (part_KeccakTexts 62)).getD 0 default) (.string ⟨(hexOf a).toArray⟩) (w' := V28) (by kernel_rfl) (by kernel_rfl) (by kernel_rfl) ?_
  refine ps_call ((opsAt (part_KeccakTexts 62)).getD 1 default) 22 #[.string ⟨(hexOf a).toArray⟩] (by kernel_rfl) (by kernel_rfl) (by kernel_rfl) (by kernel_rfl) (enters_of Try.func22 (by kernel_rfl) rfl) ((reads_hex a ha _).mono ?_)
  rintro e V33 ⟨rfl, kV33⟩
  refine ⟨_, rfl, ?_⟩
  have h34 : V33.heap[ga]? = some (.cells ((B a).toArray) 29 (0, 0)) := (kV33.block ga (lt_of_block h29) (fun x => x)).trans h29
  have h35 : V33.heap[gb]? = some (.cells ((B b).toArray) 29 (0, 0)) := (kV33.block gb (lt_of_block h30) (fun x => x)).trans h30
  have K36 : Keeps Nob w V33 := K31.then kV33 (fun _ _ x => x.elim)
  have z37 := kV33.size
  refine ps_run ((opsAt (part_KeccakTexts 62)).getD 2 default) (.tuple #[.agg (B a).toArray, .int .i64 0]) (w' := V33) (by kernel_rfl) (by kernel_rfl) (by kernel_rfl) ?_
  refine ps_run ((opsAt (part_KeccakTexts 62)).getD 3 default) (.agg (B a).toArray) (w' := V33) (by kernel_rfl) (by kernel_rfl) (by kernel_rfl) ?_
  refine ps_run ((opsAt (part_KeccakTexts 62)).getD 4 default) (.int .i64 0) (w' := V33) (by kernel_rfl) (by kernel_rfl) (by kernel_rfl) ?_
  obtain ⟨V38, eV38⟩ : ∃ V, V33.alloc (.cells (#[.int .u8 0, .int .u8 0, .int .u8 0, .int .u8 0, .int .u8 0, .int .u8 0, .int .u8 0, .int .u8 0, .int .u8 0, .int .u8 0, .int .u8 0, .int .u8 0, .int .u8 0, .int .u8 0, .int .u8 0, .int .u8 0, .int .u8 0, .int .u8 0, .int .u8 0, .int .u8 0, .int .u8 0, .int .u8 0, .int .u8 0, .int .u8 0, .int .u8 0, .int .u8 0, .int .u8 0, .int .u8 0, .int .u8 0, .int .u8 0, .int .u8 0, .int .u8 0]) 29) = V := ⟨_, rfl⟩
  obtain ⟨gr, egr⟩ : ∃ g, V33.heap.size = g := ⟨_, rfl⟩
  have n40 : ga < gr := egr ▸ lt_of_block h34
  have n41 : gb < gr := egr ▸ lt_of_block h35
  have n42 : w.heap.size ≤ gr := egr ▸ K36.size
  have h39 : V38.heap[gr]? = some (.cells (#[.int .u8 0, .int .u8 0, .int .u8 0, .int .u8 0, .int .u8 0, .int .u8 0, .int .u8 0, .int .u8 0, .int .u8 0, .int .u8 0, .int .u8 0, .int .u8 0, .int .u8 0, .int .u8 0, .int .u8 0, .int .u8 0, .int .u8 0, .int .u8 0, .int .u8 0, .int .u8 0, .int .u8 0, .int .u8 0, .int .u8 0, .int .u8 0, .int .u8 0, .int .u8 0, .int .u8 0, .int .u8 0, .int .u8 0, .int .u8 0, .int .u8 0, .int .u8 0]) 29 (0, 0)) := by rw [← eV38, ← egr]; exact heap_alloc_new _ _
  have kV38 : Keeps Nob V33 V38 := eV38 ▸ (Keeps.refl _ _).alloc _
  refine ps_run ((opsAt (part_KeccakTexts 62)).getD 5 default) (.pointer (some ⟨gr, 0, none⟩)) (w' := V38) (by kernel_rfl) (by kernel_rfl) (by rw [← eV38, ← egr]; exact exec_alloc0 29 (by kernel_rfl) (.agg (#[.int .u8 0, .int .u8 0, .int .u8 0, .int .u8 0, .int .u8 0, .int .u8 0, .int .u8 0, .int .u8 0, .int .u8 0, .int .u8 0, .int .u8 0, .int .u8 0, .int .u8 0, .int .u8 0, .int .u8 0, .int .u8 0, .int .u8 0, .int .u8 0, .int .u8 0, .int .u8 0, .int .u8 0, .int .u8 0, .int .u8 0, .int .u8 0, .int .u8 0, .int .u8 0, .int .u8 0, .int .u8 0, .int .u8 0, .int .u8 0, .int .u8 0, .int .u8 0])) (by kernel_rfl)) ?_
  clear eV38
  have h43 : V38.heap[ga]? = some (.cells ((B a).toArray) 29 (0, 0)) := (kV38.block ga (lt_of_block h34) (fun x => x)).trans h34
  have h44 : V38.heap[gb]? = some (.cells ((B b).toArray) 29 (0, 0)) := (kV38.block gb (lt_of_block h35) (fun x => x)).trans h35
  have K45 : Keeps Nob w V38 := K36.then kV38 (fun _ _ x => x.elim)
  have z46 := kV38.size
  obtain ⟨V47, eV47⟩ : ∃ V, V38.setRow gr ((B a).toArray) = V := ⟨_, rfl⟩
  have kV47 : Keeps (One gr) V38 V47 := eV47 ▸ (Keeps.refl (One gr) _).setRow (fun _ => (rfl : Own.One gr gr)) _
  have h48 : V47.heap[gr]? = some (.cells ((B a).toArray) 29 (0, 0)) := eV47 ▸ setRow_heap _ _ _ _ _ _ h39
  refine ps_skip ((opsAt (part_KeccakTexts 62)).getD 6 default) (w' := V47) (by kernel_rfl) (by kernel_rfl) (by rw [← eV47]; exact exec_store_row 29 (.tmp 10) (.tmp 24) (by kernel_rfl) gr ((B a).toArray) (by kernel_rfl) (by kernel_rfl) 29 (#[.int .u8 0, .int .u8 0, .int .u8 0, .int .u8 0, .int .u8 0, .int .u8 0, .int .u8 0, .int .u8 0, .int .u8 0, .int .u8 0, .int .u8 0, .int .u8 0, .int .u8 0, .int .u8 0, .int .u8 0, .int .u8 0, .int .u8 0, .int .u8 0, .int .u8 0, .int .u8 0, .int .u8 0, .int .u8 0, .int .u8 0, .int .u8 0, .int .u8 0, .int .u8 0, .int .u8 0, .int .u8 0, .int .u8 0, .int .u8 0, .int .u8 0, .int .u8 0]) h39 (by rw [Bz_size, ha]; kernel_rfl) (by rw [Bz_size, ha]; rfl) (by rw [List.all_toArray]; exact List.all_eq_true.2 (B_one _))) ?_
  clear eV47
  have h49 : V47.heap[ga]? = some (.cells ((B a).toArray) 29 (0, 0)) := (kV47.block ga (lt_of_block h43) (fun e => by unfold Own.One at e; omega)).trans h43
  have h50 : V47.heap[gb]? = some (.cells ((B b).toArray) 29 (0, 0)) := (kV47.block gb (lt_of_block h44) (fun e => by unfold Own.One at e; omega)).trans h44
  have K51 : Keeps Nob w V47 := K45.then kV47 (fun i hi hm => absurd hi (by unfold Own.One at hm; omega))
  have z52 := kV47.size
  refine ps_run ((opsAt (part_KeccakTexts 62)).getD 7 default) (.int .i64 0) (w' := V47) (by kernel_rfl) (by kernel_rfl) (by kernel_rfl) ?_
  refine ps_end ?_
  refine sy_act ⟨#[.agg (B a).toArray, .agg (B b).toArray, .string ⟨(t).toArray⟩, .pointer (some ⟨ga, 0, none⟩), .pointer (some ⟨gb, 0, none⟩), undef, .bool false, .bool true, .string ⟨(hexOf a).toArray⟩, .string ⟨(hexOf b).toArray⟩, .pointer (some ⟨gr, 0, none⟩), .int .i64 0, .bool true, .string ⟨(t).toArray⟩, .int .i64 ((t.length : Nat) : Int), .bool false, undef, .agg ((B a).toArray), .string ⟨(hexOf a).toArray⟩, .agg ((B b).toArray), .string ⟨(hexOf b).toArray⟩, .tuple #[.agg (B a).toArray, .int .i64 0], .string ⟨(hexOf a).toArray⟩, .tuple #[.agg (B a).toArray, .int .i64 0], .agg (B a).toArray, .int .i64 0, undef, undef, undef, undef, undef, undef, undef, undef, undef, undef, undef, undef, undef, undef, undef, undef, undef, undef, undef, undef, undef, undef, undef, undef, undef, undef, undef, undef, undef, undef, undef, undef, undef, undef, undef, undef, undef, undef, undef, undef, undef, undef, undef, undef, undef], []⟩ (by kernel_rfl) ?_
  refine then_n ?_
  refine sy_seq (part_KeccakTexts 126) (part_KeccakTexts 127) (by kernel_rfl) ?_
  refine sy_seq (part_KeccakTexts 252) (part_KeccakTexts 253) (by kernel_rfl) ?_
  refine sy_reg ?_
  refine rg_plain 6 (opsAt (part_KeccakTexts 252)) [0, 1, 2, 3, 4, 5, 6, 7, 8, 9, 10, 11, 12, 13, 14, 15, 16, 17, 18, 19, 20] (by kernel_rfl) (by kernel_rfl) ?_
  refine ps_run ((opsAt (part_KeccakTexts 252)).getD 0 default) (.string ⟨(hexOf a).toArray⟩) (w' := V47) (by kernel_rfl) (by kernel_rfl) (by kernel_rfl) ?_
  refine ps_run ((opsAt (part_KeccakTexts 252)).getD 1 default) (.int .i64 64) (w' := V47) (by kernel_rfl) (by kernel_rfl) (exec_cast (congrArg (Value.int .i64) (by simp [ByteArray.size, hexOf_len, ha])) (exec_len_str (.tmp 26) 9 (by kernel_rfl) Try.underlying9 ⟨(hexOf a).toArray⟩ (by kernel_rfl))) ?_
  refine ps_run ((opsAt (part_KeccakTexts 252)).getD 2 default) (.bool false) (w' := V47) (by kernel_rfl) (by kernel_rfl) (by kernel_rfl) ?_
  refine ps_run ((opsAt (part_KeccakTexts 252)).getD 3 default) (.bool false) (w' := V47) (by kernel_rfl) (by kernel_rfl) (by kernel_rfl) ?_
  refine ps_run ((opsAt (part_KeccakTexts 252)).getD 4 default) (.agg ((B a).toArray)) (w' := V47) (by kernel_rfl) (by kernel_rfl) (exec_load_row 29 (.tmp 10) (by kernel_rfl) gr (by kernel_rfl) _ _ (0, 0) _ (h48) Try.underlying29 rfl (by rw [Bz_size, ha]; kernel_rfl)) ?_
  refine ps_run ((opsAt (part_KeccakTexts 252)).getD 5 default) (.agg ((B a).toArray)) (w' := V47) (by kernel_rfl) (by kernel_rfl) (exec_load_row 29 (.tmp 3) (by kernel_rfl) ga (by kernel_rfl) _ _ (0, 0) _ (h49) Try.underlying29 rfl (by rw [Bz_size, ha]; kernel_rfl)) ?_
  refine ps_run ((opsAt (part_KeccakTexts 252)).getD 6 default) (.bool false) (w' := V47) (by kernel_rfl) (by kernel_rfl) (exec_cast (congrArg Value.bool (by simp)) (exec_binop .neq 29 29 (.tmp 30) (.tmp 31) (by kernel_rfl) (.agg (B a).toArray) (.agg (B a).toArray) _ (by kernel_rfl) (by kernel_rfl) (run_eqGuard_agg _ _ _ _ _ _ _ khash_guard) (khash_neq a a ha ha _))) ?_
  refine ps_run ((opsAt (part_KeccakTexts 252)).getD 7 default) (.bool false) (w' := V47) (by kernel_rfl) (by kernel_rfl) (by kernel_rfl) ?_
  refine ps_run ((opsAt (part_KeccakTexts 252)).getD 8 default) (.bool false) (w' := V47) (by kernel_rfl) (by kernel_rfl) (by kernel_rfl) ?_
  refine ps_run ((opsAt (part_KeccakTexts 252)).getD 9 default) (.int .i64 0) (w' := V47) (by kernel_rfl) (by kernel_rfl) (by kernel_rfl) ?_
  refine ps_run ((opsAt (part_KeccakTexts 252)).getD 10 default) (.bool false) (w' := V47) (by kernel_rfl) (by kernel_rfl) (by kernel_rfl) ?_
  refine ps_run ((opsAt (part_KeccakTexts 252)).getD 11 default) (.bool false) (w' := V47) (by kernel_rfl) (by kernel_rfl) (by kernel_rfl) ?_
  refine ps_run ((opsAt (part_KeccakTexts 252)).getD 12 default) (.bool false) (w' := V47) (by kernel_rfl) (by kernel_rfl) (by kernel_rfl) ?_
  refine ps_run ((opsAt (part_KeccakTexts 252)).getD 13 default) (.string ⟨(hexOf a).toArray⟩) (w' := V47) (by kernel_rfl) (by kernel_rfl) (by kernel_rfl) ?_
  refine ps_run ((opsAt (part_KeccakTexts 252)).getD 14 default) (.string ⟨(hexOf b).toArray⟩) (w' := V47) (by kernel_rfl) (by kernel_rfl) (by kernel_rfl) ?_
  refine ps_run ((opsAt (part_KeccakTexts 252)).getD 15 default) (.bool (a == b)) (w' := V47) (by kernel_rfl) (by kernel_rfl) (exec_cast (congrArg Value.bool (hexOf_beq ha hb)) (exec_binop .eql 9 9 (.tmp 39) (.tmp 40) (by kernel_rfl) (.string ⟨(hexOf a).toArray⟩) (.string ⟨(hexOf b).toArray⟩) _ (by kernel_rfl) (by kernel_rfl) (by kernel_rfl) (eq_strs (hexOf a) (hexOf b) _))) ?_
  refine ps_run ((opsAt (part_KeccakTexts 252)).getD 16 default) (.agg ((B a).toArray)) (w' := V47) (by kernel_rfl) (by kernel_rfl) (exec_load_row 29 (.tmp 3) (by kernel_rfl) ga (by kernel_rfl) _ _ (0, 0) _ (h49) Try.underlying29 rfl (by rw [Bz_size, ha]; kernel_rfl)) ?_
  refine ps_run ((opsAt (part_KeccakTexts 252)).getD 17 default) (.agg ((B b).toArray)) (w' := V47) (by kernel_rfl) (by kernel_rfl) (exec_load_row 29 (.tmp 4) (by kernel_rfl) gb (by kernel_rfl) _ _ (0, 0) _ (h50) Try.underlying29 rfl (by rw [Bz_size, hb]; kernel_rfl)) ?_
  refine ps_run ((opsAt (part_KeccakTexts 252)).getD 18 default) (.bool (a == b)) (w' := V47) (by kernel_rfl) (by kernel_rfl) (exec_cast (congrArg Value.bool (rfl)) (exec_binop .eql 29 29 (.tmp 42) (.tmp 43) (by kernel_rfl) (.agg (B a).toArray) (.agg (B b).toArray) _ (by kernel_rfl) (by kernel_rfl) (run_eqGuard_agg _ _ _ _ _ _ _ khash_guard) (khash_eql a b ha hb _))) ?_
  refine ps_run ((opsAt (part_KeccakTexts 252)).getD 19 default) (.bool false) (w' := V47) (by kernel_rfl) (by kernel_rfl) (exec_binop .neq 4 4 (.tmp 41) (.tmp 44) (by kernel_rfl) (.bool (a == b)) (.bool (a == b)) _ (by kernel_rfl) (by kernel_rfl) (by kernel_rfl) (neq_bools _ _)) ?_
  refine ps_run ((opsAt (part_KeccakTexts 252)).getD 20 default) (.bool false) (w' := V47) (by kernel_rfl) (by kernel_rfl) (by kernel_rfl) ?_
  refine ps_end ?_
  refine sy_act ⟨#[.agg (B a).toArray, .agg (B b).toArray, .string ⟨(t).toArray⟩, .pointer (some ⟨ga, 0, none⟩), .pointer (some ⟨gb, 0, none⟩), undef, .bool false, .bool true, .string ⟨(hexOf a).toArray⟩, .string ⟨(hexOf b).toArray⟩, .pointer (some ⟨gr, 0, none⟩), .int .i64 0, .bool true, .string ⟨(t).toArray⟩, .int .i64 ((t.length : Nat) : Int), .bool false, undef, .agg ((B a).toArray), .string ⟨(hexOf a).toArray⟩, .agg ((B b).toArray), .string ⟨(hexOf b).toArray⟩, .tuple #[.agg (B a).toArray, .int .i64 0], .string ⟨(hexOf a).toArray⟩, .tuple #[.agg (B a).toArray, .int .i64 0], .agg (B a).toArray, .int .i64 0, .string ⟨(hexOf a).toArray⟩, .int .i64 64, .bool false, .bool false, .agg ((B a).toArray), .agg ((B a).toArray), .bool false, .bool false, .bool false, .int .i64 0, .bool false, .bool false, .bool false, .string ⟨(hexOf a).toArray⟩, .string ⟨(hexOf b).toArray⟩, .bool (a == b), .agg ((B a).toArray), .agg ((B b).toArray), .bool (a == b), .bool false, .bool false, undef, undef, undef, undef, undef, undef, undef, undef, undef, undef, undef, undef, undef, undef, undef, undef, undef, undef, undef, undef, undef, undef, undef, undef], []⟩ (by kernel_rfl) ?_
  refine then_n ?_
  refine sy_no (.tmp 46) (part_KeccakTexts 506) (part_KeccakTexts 507) (by kernel_rfl) (by kernel_rfl) ?_
  refine sy_skip (by kernel_rfl) ?_
  refine then_n ?_
  refine sy_seq (part_KeccakTexts 254) (part_KeccakTexts 255) (by kernel_rfl) ?_
  refine sy_reg ?_
  refine rg_plain 8 (opsAt (part_KeccakTexts 254)) [0, 1, 2, 3, 4, 5, 6] (by kernel_rfl) (by kernel_rfl) ?_
  refine ps_run ((opsAt (part_KeccakTexts 254)).getD 0 default) (.string ⟨(t).toArray⟩) (w' := V47) (by kernel_rfl) (by kernel_rfl) (by kernel_rfl) ?_
  refine ps_call ((opsAt (part_KeccakTexts 254)).getD 1 default) 22 #[.string ⟨(t).toArray⟩] (by kernel_rfl) (by kernel_rfl) (by kernel_rfl) (by kernel_rfl) (enters_of Try.func22 (by kernel_rfl) rfl) ((reads_bad t hn _).mono ?_)
  rintro e V53 ⟨rfl, kV53⟩
  refine ⟨_, rfl, ?_⟩
  have h54 : V53.heap[ga]? = some (.cells ((B a).toArray) 29 (0, 0)) := (kV53.block ga (lt_of_block h49) (fun x => x)).trans h49
  have h55 : V53.heap[gb]? = some (.cells ((B b).toArray) 29 (0, 0)) := (kV53.block gb (lt_of_block h50) (fun x => x)).trans h50
  have h56 : V53.heap[gr]? = some (.cells ((B a).toArray) 29 (0, 0)) := (kV53.block gr (lt_of_block h48) (fun x => x)).trans h48
  have K57 : Keeps Nob w V53 := K51.then kV53 (fun _ _ x => x.elim)
  have z58 := kV53.size
  refine ps_run ((opsAt (part_KeccakTexts 254)).getD 2 default) (.tuple #[.agg (B zero32).toArray, .int .i64 5]) (w' := V53) (by kernel_rfl) (by kernel_rfl) (by kernel_rfl) ?_
  refine ps_run ((opsAt (part_KeccakTexts 254)).getD 3 default) (.agg (B zero32).toArray) (w' := V53) (by kernel_rfl) (by kernel_rfl) (by kernel_rfl) ?_
  refine ps_run ((opsAt (part_KeccakTexts 254)).getD 4 default) (.int .i64 5) (w' := V53) (by kernel_rfl) (by kernel_rfl) (by kernel_rfl) ?_
  obtain ⟨V59, eV59⟩ : ∃ V, V53.setRow gr ((B zero32).toArray) = V := ⟨_, rfl⟩
  have kV59 : Keeps (One gr) V53 V59 := eV59 ▸ (Keeps.refl (One gr) _).setRow (fun _ => (rfl : Own.One gr gr)) _
  have h60 : V59.heap[gr]? = some (.cells ((B zero32).toArray) 29 (0, 0)) := eV59 ▸ setRow_heap _ _ _ _ _ _ h56
  refine ps_skip ((opsAt (part_KeccakTexts 254)).getD 5 default) (w' := V59) (by kernel_rfl) (by kernel_rfl) (by rw [← eV59]; exact exec_store_row 29 (.tmp 10) (.tmp 50) (by kernel_rfl) gr ((B zero32).toArray) (by kernel_rfl) (by kernel_rfl) 29 ((B a).toArray) h56 (by rw [Bz_size, zero32_len]; kernel_rfl) (by rw [Bz_size, Bz_size, zero32_len, ha]) (by rw [List.all_toArray]; exact List.all_eq_true.2 (B_one _))) ?_
  clear eV59
  have h61 : V59.heap[ga]? = some (.cells ((B a).toArray) 29 (0, 0)) := (kV59.block ga (lt_of_block h54) (fun e => by unfold Own.One at e; omega)).trans h54
  have h62 : V59.heap[gb]? = some (.cells ((B b).toArray) 29 (0, 0)) := (kV59.block gb (lt_of_block h55) (fun e => by unfold Own.One at e; omega)).trans h55
  have K63 : Keeps Nob w V59 := K57.then kV59 (fun i hi hm => absurd hi (by unfold Own.One at hm; omega))
  have z64 := kV59.size
  refine ps_run ((opsAt (part_KeccakTexts 254)).getD 6 default) (.int .i64 5) (w' := V59) (by kernel_rfl) (by kernel_rfl) (by kernel_rfl) ?_
  refine ps_end ?_
  refine sy_act ⟨#[.agg (B a).toArray, .agg (B b).toArray, .string ⟨(t).toArray⟩, .pointer (some ⟨ga, 0, none⟩), .pointer (some ⟨gb, 0, none⟩), undef, .bool false, .bool true, .string ⟨(hexOf a).toArray⟩, .string ⟨(hexOf b).toArray⟩, .pointer (some ⟨gr, 0, none⟩), .int .i64 5, .bool true, .string ⟨(t).toArray⟩, .int .i64 ((t.length : Nat) : Int), .bool false, undef, .agg ((B a).toArray), .string ⟨(hexOf a).toArray⟩, .agg ((B b).toArray), .string ⟨(hexOf b).toArray⟩, .tuple #[.agg (B a).toArray, .int .i64 0], .string ⟨(hexOf a).toArray⟩, .tuple #[.agg (B a).toArray, .int .i64 0], .agg (B a).toArray, .int .i64 0, .string ⟨(hexOf a).toArray⟩, .int .i64 64, .bool false, .bool false, .agg ((B a).toArray), .agg ((B a).toArray), .bool false, .bool false, .bool false, .int .i64 0, .bool false, .bool false, .bool false, .string ⟨(hexOf a).toArray⟩, .string ⟨(hexOf b).toArray⟩, .bool (a == b), .agg ((B a).toArray), .agg ((B b).toArray), .bool (a == b), .bool false, .bool false, .tuple #[.agg (B zero32).toArray, .int .i64 5], .string ⟨(t).toArray⟩, .tuple #[.agg (B zero32).toArray, .int .i64 5], .agg (B zero32).toArray, .int .i64 5, undef, undef, undef, undef, undef, undef, undef, undef, undef, undef, undef, undef, undef, undef, undef, undef, undef, undef, undef], []⟩ (by kernel_rfl) ?_
  refine then_n ?_
  refine sy_seq (part_KeccakTexts 510) (part_KeccakTexts 511) (by kernel_rfl) ?_
  refine sy_seq (part_KeccakTexts 1020) (part_KeccakTexts 1021) (by kernel_rfl) ?_
  refine sy_reg ?_
  refine rg_plain 9 (opsAt (part_KeccakTexts 1020)) [0, 1] (by kernel_rfl) (by kernel_rfl) ?_
  refine ps_run ((opsAt (part_KeccakTexts 1020)).getD 0 default) (.int .i64 5) (w' := V59) (by kernel_rfl) (by kernel_rfl) (by kernel_rfl) ?_
  refine ps_run ((opsAt (part_KeccakTexts 1020)).getD 1 default) (.bool true) (w' := V59) (by kernel_rfl) (by kernel_rfl) (by kernel_rfl) ?_
  refine ps_end ?_
  refine sy_act ⟨#[.agg (B a).toArray, .agg (B b).toArray, .string ⟨(t).toArray⟩, .pointer (some ⟨ga, 0, none⟩), .pointer (some ⟨gb, 0, none⟩), undef, .bool false, .bool true, .string ⟨(hexOf a).toArray⟩, .string ⟨(hexOf b).toArray⟩, .pointer (some ⟨gr, 0, none⟩), .int .i64 5, .bool true, .string ⟨(t).toArray⟩, .int .i64 ((t.length : Nat) : Int), .bool false, undef, .agg ((B a).toArray), .string ⟨(hexOf a).toArray⟩, .agg ((B b).toArray), .string ⟨(hexOf b).toArray⟩, .tuple #[.agg (B a).toArray, .int .i64 0], .string ⟨(hexOf a).toArray⟩, .tuple #[.agg (B a).toArray, .int .i64 0], .agg (B a).toArray, .int .i64 0, .string ⟨(hexOf a).toArray⟩, .int .i64 64, .bool false, .bool false, .agg ((B a).toArray), .agg ((B a).toArray), .bool false, .bool false, .bool false, .int .i64 0, .bool false, .bool false, .bool false, .string ⟨(hexOf a).toArray⟩, .string ⟨(hexOf b).toArray⟩, .bool (a == b), .agg ((B a).toArray), .agg ((B b).toArray), .bool (a == b), .bool false, .bool false, .tuple #[.agg (B zero32).toArray, .int .i64 5], .string ⟨(t).toArray⟩, .tuple #[.agg (B zero32).toArray, .int .i64 5], .agg (B zero32).toArray, .int .i64 5, .int .i64 5, .bool true, undef, undef, undef, undef, undef, undef, undef, undef, undef, undef, undef, undef, undef, undef, undef, undef, undef], []⟩ (by kernel_rfl) ?_
  refine then_n ?_
  refine sy_yes (.tmp 53) (part_KeccakTexts 2042) (part_KeccakTexts 2043) (by kernel_rfl) (by kernel_rfl) ?_
  refine sy_seq (part_KeccakTexts 4084) (part_KeccakTexts 4085) (by kernel_rfl) ?_
  refine sy_reg ?_
  refine rg_plain 10 (opsAt (part_KeccakTexts 4084)) [0, 1, 2, 3, 4, 5, 6, 7, 8, 9, 10] (by kernel_rfl) (by kernel_rfl) ?_
  refine ps_run ((opsAt (part_KeccakTexts 4084)).getD 0 default) (.bool true) (w' := V59) (by kernel_rfl) (by kernel_rfl) (by kernel_rfl) ?_
  refine ps_run ((opsAt (part_KeccakTexts 4084)).getD 1 default) (.bool true) (w' := V59) (by kernel_rfl) (by kernel_rfl) (by kernel_rfl) ?_
  refine ps_run ((opsAt (part_KeccakTexts 4084)).getD 2 default) (.int .i64 5) (w' := V59) (by kernel_rfl) (by kernel_rfl) (by kernel_rfl) ?_
  refine ps_run ((opsAt (part_KeccakTexts 4084)).getD 3 default) (.bool true) (w' := V59) (by kernel_rfl) (by kernel_rfl) (by kernel_rfl) ?_
  refine ps_run ((opsAt (part_KeccakTexts 4084)).getD 4 default) (.bool true) (w' := V59) (by kernel_rfl) (by kernel_rfl) (by kernel_rfl) ?_
  refine ps_run ((opsAt (part_KeccakTexts 4084)).getD 5 default) (.bool true) (w' := V59) (by kernel_rfl) (by kernel_rfl) (by kernel_rfl) ?_
  refine ps_run ((opsAt (part_KeccakTexts 4084)).getD 6 default) (.agg ((B zero32).toArray)) (w' := V59) (by kernel_rfl) (by kernel_rfl) (exec_load_row 29 (.tmp 10) (by kernel_rfl) gr (by kernel_rfl) _ _ (0, 0) _ (h60) Try.underlying29 rfl (by rw [Bz_size, zero32_len]; kernel_rfl)) ?_
  refine ps_run ((opsAt (part_KeccakTexts 4084)).getD 7 default) (.agg (B zero32).toArray) (w' := V59) (by kernel_rfl) (by kernel_rfl) (by kernel_rfl) ?_
  refine ps_run ((opsAt (part_KeccakTexts 4084)).getD 8 default) (.bool true) (w' := V59) (by kernel_rfl) (by kernel_rfl) (exec_cast (congrArg Value.bool (by simp)) (exec_binop .eql 29 29 (.tmp 60) (.tmp 61) (by kernel_rfl) (.agg (B zero32).toArray) (.agg (B zero32).toArray) _ (by kernel_rfl) (by kernel_rfl) (run_eqGuard_agg _ _ _ _ _ _ _ khash_guard) (khash_eql zero32 zero32 zero32_len zero32_len _))) ?_
  refine ps_run ((opsAt (part_KeccakTexts 4084)).getD 9 default) (.bool true) (w' := V59) (by kernel_rfl) (by kernel_rfl) (by kernel_rfl) ?_
  refine ps_run ((opsAt (part_KeccakTexts 4084)).getD 10 default) (.bool true) (w' := V59) (by kernel_rfl) (by kernel_rfl) (by kernel_rfl) ?_
  refine ps_end ?_
  refine sy_act ⟨#[.agg (B a).toArray, .agg (B b).toArray, .string ⟨(t).toArray⟩, .pointer (some ⟨ga, 0, none⟩), .pointer (some ⟨gb, 0, none⟩), undef, .bool true, .bool true, .string ⟨(hexOf a).toArray⟩, .string ⟨(hexOf b).toArray⟩, .pointer (some ⟨gr, 0, none⟩), .int .i64 5, .bool true, .string ⟨(t).toArray⟩, .int .i64 ((t.length : Nat) : Int), .bool false, undef, .agg ((B a).toArray), .string ⟨(hexOf a).toArray⟩, .agg ((B b).toArray), .string ⟨(hexOf b).toArray⟩, .tuple #[.agg (B a).toArray, .int .i64 0], .string ⟨(hexOf a).toArray⟩, .tuple #[.agg (B a).toArray, .int .i64 0], .agg (B a).toArray, .int .i64 0, .string ⟨(hexOf a).toArray⟩, .int .i64 64, .bool false, .bool false, .agg ((B a).toArray), .agg ((B a).toArray), .bool false, .bool false, .bool false, .int .i64 0, .bool false, .bool false, .bool false, .string ⟨(hexOf a).toArray⟩, .string ⟨(hexOf b).toArray⟩, .bool (a == b), .agg ((B a).toArray), .agg ((B b).toArray), .bool (a == b), .bool false, .bool false, .tuple #[.agg (B zero32).toArray, .int .i64 5], .string ⟨(t).toArray⟩, .tuple #[.agg (B zero32).toArray, .int .i64 5], .agg (B zero32).toArray, .int .i64 5, .int .i64 5, .bool true, .bool true, .bool true, .int .i64 5, .bool true, .bool true, .bool true, .agg ((B zero32).toArray), .agg (B zero32).toArray, .bool true, .bool true, undef, undef, undef, undef, undef, undef, undef], []⟩ (by kernel_rfl) ?_
  refine then_n ?_
  refine sy_ret (by kernel_rfl) ?_
  refine then_r ?_
  refine sy_out (.bool true) rfl (by kernel_rfl) ?_
  exact ⟨rfl, K63⟩
theorem texts_ok (a b : List UInt8) (t : List UInt8) (w : World) (ha : a.length = 32) (hb : b.length = 32) : Calls Try.prog 7 #[.agg (B a).toArray, .agg (B b).toArray, .string ⟨t.toArray⟩] w fun e w' => e = .returned (.bool true) ∧ Keeps Nob w w' := by
  by_cases hl : t.length > 100
  · exact texts_long a b t w ha hb hl
  · by_cases hn : isHex t
    · have h := texts_hex a b ((List.range 32).map (hv t)) w ha hb (by simp)
      rw [back_hexOf t hn] at h; exact h
    · exact texts_no a b t w ha hb hl hn
end Go.Proofs.Ytolbdhgclcemlaa
