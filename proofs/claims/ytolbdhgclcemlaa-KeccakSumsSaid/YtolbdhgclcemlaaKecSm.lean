/-
  Keccak: sums, on both sides (printed by kec19.py). Conditions: none.
-/
import Derived.Test.YtolbdhgclcemlaaKecZ
import Derived.Test.YtolbdhgclcemlaaKecP
import Derived.Test.YtolbdhgclcemlaaKecL
import Derived.Test.YtolbdhgclcemlaaKecW
import Derived.Test.YtolbdhgclcemlaaKecU
namespace Go.Proofs.Ytolbdhgclcemlaa
open Go Go.RowKit Go.Own Go.Shelf
theorem neq_strs (a : List UInt8) (w : World) : (binOp .neq 9 (.string ⟨a.toArray⟩) (.string ⟨a.toArray⟩)).run Try.prog w = .ok (.bool false) w := by
  rw [binOp_string_neq, beq_self_eq_true]; rfl
theorem khash_neq (l m : List UInt8) (hl : l.length = 32) (hm : m.length = 32) (w : World) : (binOp .neq 29 (.agg (B l).toArray) (.agg (B m).toArray)).run Try.prog w = .ok (.bool (!(l == m))) w := by
  obtain ⟨i0, hi, _, _, _⟩ := info_parts u8_info
  have h := run_equalIn_bytes (P := Try.prog) (t := 29) (e := 5) (n := 32) Try.underlying29 hi (by kernel_rfl) Try.underlying5 (by kernel_rfl) 9998 l m w hl hm
  rw [run_neq_struct, h]
  rfl
theorem reads_one {l v v' : List UInt8} {e e' : Int} (h : ReadsAs l v e) (h' : ReadsAs l v' e') : v' = v ∧ e' = e := by
  rcases h with ⟨h1, rfl, rfl⟩ | ⟨h1, rfl, rfl⟩ <;> rcases h' with ⟨h2, rfl, rfl⟩ | ⟨h2, rfl, rfl⟩
  · exact ⟨rfl, rfl⟩
  · exact absurd h1 h2
  · exact absurd h2 h1
  · exact ⟨rfl, rfl⟩
theorem reads_h (l v : List UInt8) (e : Int) (h : ReadsAs l v e) (w : World) : Calls Try.prog 23 #[.string ⟨l.toArray⟩] w fun x w' => x = .returned (.tuple #[.agg (B v).toArray, .int .i64 e]) ∧ Keeps Nob w w' :=
  (hRead_ok l w).mono fun x w' ⟨v', e', h1, h2, h3⟩ => by
    obtain ⟨rfl, rfl⟩ := reads_one h h2
    exact ⟨h1, h3⟩
theorem llong_any {b : Bool} (v : Value) (us : List Value) (ls : List (List UInt8)) (w : World) (h : ListsAt w v us ls) (hB : ∀ (k : Nat) (l : List UInt8), ls[k]? = some l → l.length ≤ 9223372036854775000) (hb : lng ls = b) : Calls Try.prog 15 #[v] w fun e w' => e = .returned (.bool b) ∧ w = w' := by
  subst hb; obtain ⟨A, cap, rfl, _⟩ := h.form; exact llong_ok A cap us ls w h hB
theorem kJoin_any (kd : UInt8) (v : Value) (us : List Value) (ls : List (List UInt8)) (w : World) (h : ListsAt w v us ls) (hT : tall ls ≤ 10000) (hn : ls.length ≤ 10000) : Calls Try.prog 25 #[.int .u8 ((kd.toNat : Nat) : Int), v] w fun e w' => e = .returned (.agg (B (Kec.join kd ls)).toArray) ∧ Keeps Nob w w' := by
  obtain ⟨A, cap, rfl, _⟩ := h.form; exact kJoin_ok kd A cap us ls w h hT hn
theorem kSameLists_any (v v2 : Value) (us us2 : List Value) (ls : List (List UInt8)) (w : World) (h : ListsAt w v us ls) (h2 : ListsAt w v2 us2 ls) : Calls Try.prog 32 #[v, v2] w fun e w' => e = .returned (.bool true) ∧ Keeps Nob w w' := by
  obtain ⟨A, cap, rfl, _⟩ := h.form; obtain ⟨A2, cap2, rfl, _⟩ := h2.form; exact kSameLists_ok A A2 cap cap2 us us2 ls w h h2

theorem tall_tail (x : List UInt8) (ls : List (List UInt8)) : tall ls ≤ tall (x :: ls) := by
  unfold tall tot; rw [List.take_length, List.take_length]; simp
noncomputable def part_KeccakSums (n : Nat) : Code := partOf Try.f5 n
noncomputable abbrev o_KeccakSums (n k : Nat) : Oper := (opsAt (part_KeccakSums n)).getD k default
set_option maxRecDepth 100000 in
set_option maxHeartbeats 4000000 in
theorem sums_long (A0 A : Option Addr) (cap0 cap : Nat) (x : List UInt8) (kd : UInt8) (us : List Value) (ls : List (List UInt8)) (t : List UInt8) (s : List Nat) (w : World) (hx : BytesAt w (.slice A0 x.length cap0) x) (h0 : ListsAt w (.slice A ls.length cap) us ls) (hs : s.length = 25) (ws : Kec.Ws s) (hB : ∀ (k : Nat) (l : List UInt8), (x :: ls)[k]? = some l → l.length ≤ 9223372036854775000) (hn : ls.length ≤ 5864062014634) (hL : lng (x :: ls) = true) :
    Calls Try.prog 5 #[.slice A0 x.length cap0, .int .u8 ((kd.toNat : Nat) : Int), .slice A ls.length cap, .string ⟨t.toArray⟩, .agg (Wz s)] w (fun e w' => e = .returned (.bool true) ∧ Keeps Nob w w') := by
  obtain ⟨i0, hi0, hz0, hz1, hz2⟩ := info_parts bytes_info0
  have K0 : Keeps Nob w w := Keeps.refl _ _
  refine sy_enter (part_KeccakSums 1) ⟨#[.slice A0 x.length cap0, cN kd.toNat, .slice A ls.length cap, .string ⟨t.toArray⟩, .agg (Wz s), undef, undef, undef, undef, undef, undef, undef, undef, undef, undef, undef, undef, undef, undef, undef, undef, undef, undef, undef, undef, undef, undef, undef, undef, undef, undef, undef, undef, undef, undef, undef, undef, undef, undef, undef, undef, undef, undef, undef, undef, undef, undef, undef, undef, undef, undef, undef, undef, undef, undef, undef, undef, undef, undef, undef, undef, undef, undef, undef, undef, undef, undef, undef, undef, undef, undef, undef, undef, undef, undef, undef, undef, undef, undef, undef, undef, undef, undef, undef, undef, undef, undef, undef, undef, undef, undef, undef, undef], []⟩ Try.func5 (by kernel_rfl) (by kernel_rfl) ?_
  refine sy_sq (part_KeccakSums 2) (part_KeccakSums 3) ?_
  refine sy_reg ?_
  refine rg_plain 0 (opsAt (part_KeccakSums 2)) [0, 1] (by kernel_rfl) (by kernel_rfl) ?_
  obtain ⟨V1, eV1⟩ : ∃ V, w.alloc (.cells ((Wz s)) 46) = V := ⟨_, rfl⟩
  obtain ⟨gs, egs⟩ : ∃ g, w.heap.size = g := ⟨_, rfl⟩
  have n3 : w.heap.size ≤ gs := egs ▸ K0.size
  have h2 : V1.heap[gs]? = some (.cells ((Wz s)) 46 (0, 0)) := by rw [← eV1, ← egs]; exact heap_alloc_new _ _
  have kV1 : Keeps Nob w V1 := eV1 ▸ (Keeps.refl _ _).alloc _
  refine ps_run (o_KeccakSums 2 0) (pT gs 0) (w' := V1) (by kernel_rfl) (by kernel_rfl) (by rw [← eV1, ← egs]; exact exec_box 46 (.tmp 4) (by kernel_rfl) (.agg (Wz s)) (by kernel_rfl)) ?_
  clear eV1
  have h4 : BytesAt V1 (.slice A0 x.length cap0) x := hx.keepsN kV1
  have h5 : ListsAt V1 (.slice A ls.length cap) us ls := h0.keepsN kV1
  have K6 : Keeps Nob w V1 := K0.then kV1 (fun _ _ x => x.elim)
  have z7 := kV1.size
  refine ps_k (o_KeccakSums 2 1) (.bool false) ?_
  refine ps_end ?_
  refine sy_a ⟨#[.slice A0 x.length cap0, cN kd.toNat, .slice A ls.length cap, .string ⟨t.toArray⟩, .agg (Wz s), undef, undef, undef, undef, pT gs 0, .bool false, undef, undef, undef, undef, undef, undef, undef, undef, undef, undef, undef, undef, undef, undef, undef, undef, undef, undef, undef, undef, undef, undef, undef, undef, undef, undef, undef, undef, undef, undef, undef, undef, undef, undef, undef, undef, undef, undef, undef, undef, undef, undef, undef, undef, undef, undef, undef, undef, undef, undef, undef, undef, undef, undef, undef, undef, undef, undef, undef, undef, undef, undef, undef, undef, undef, undef, undef, undef, undef, undef, undef, undef, undef, undef, undef, undef, undef, undef, undef, undef, undef, undef], []⟩ ?_
  refine then_n ?_
  refine sy_sq (part_KeccakSums 6) (part_KeccakSums 7) ?_
  refine sy_sq (part_KeccakSums 12) (part_KeccakSums 13) ?_
  refine sy_reg ?_
  refine rg_plain 1 (opsAt (part_KeccakSums 12)) [0, 1, 2, 3, 4, 5, 6, 7, 8, 9] (by kernel_rfl) (by kernel_rfl) ?_
  refine ps_k (o_KeccakSums 12 0) (.slice A0 x.length cap0) ?_
  obtain ⟨V8, eV8⟩ : ∃ V, V1.alloc (.cells (#[.slice A0 x.length cap0]) 22) = V := ⟨_, rfl⟩
  obtain ⟨gx, egx⟩ : ∃ g, V1.heap.size = g := ⟨_, rfl⟩
  have n10 : gs < gx := egx ▸ lt_of_block h2
  have n11 : w.heap.size ≤ gx := egx ▸ K6.size
  have h9 : V8.heap[gx]? = some (.cells (#[.slice A0 x.length cap0]) 22 (0, 0)) := by rw [← eV8, ← egx]; exact heap_alloc_new _ _
  have kV8 : Keeps Nob V1 V8 := eV8 ▸ (Keeps.refl _ _).alloc _
  refine ps_run (o_KeccakSums 12 1) (.slice (some ⟨gx, 0, none⟩) 1 1) (w' := V8) (by kernel_rfl) (by kernel_rfl) (by rw [← eV8, ← egx]; kernel_rfl) ?_
  have h12 : BytesAt V8 (.slice A0 x.length cap0) x := h4.keepsN kV8
  have h13 : ListsAt V8 (.slice A ls.length cap) us ls := h5.keepsN kV8
  have h14 : V8.heap[gs]? = some (.cells (Wz s) 46 (0, 0)) := (kV8.block gs (lt_of_block h2) (fun x => x)).trans h2
  have K15 : Keeps Nob w V8 := K6.then kV8 (fun _ _ x => x.elim)
  have z16 := kV8.size
  refine ps_k (o_KeccakSums 12 2) (.slice A ls.length cap) ?_
  have h17 : Row V8 22 1 (.slice (some ⟨gx, 0, none⟩) 1 1) 1 ([.slice A0 x.length cap0]) := row_of_block h9 rfl (by decide)
  have hw18 : NewFrom (gs + 1) (.slice (some ⟨gx, 0, none⟩) 1 1) := NewFrom.ptr (by omega) _ _
  obtain ⟨v19, V20, hr21, h22, hg23, hn24, ha25⟩ := run_append_any (P := Try.prog) (w := V8) 38 (Oper.type (o_KeccakSums 12 3)) 22 i0 (.slice none 0 0) 1 24 Try.underlying38 hi0 hz0 hz1 hz2 rfl (by decide) (.slice (some ⟨gx, 0, none⟩) 1 1) 1 ([.slice A0 x.length cap0]) h17 (.slice A ls.length cap) ls.length us (ListsAt.src h13) (by unfold maxLen; omega) (by omega)
  have kV20 : Keeps (fun j => (.slice (some ⟨gx, 0, none⟩) 1 1 : Value).ownBlock = some j) V8 V20 := Keeps.rowAdd hg23
  have hw26 : NewFrom (gs + 1) v19 := hw18.next (lt_of_block h14) ha25
  refine ps_run (o_KeccakSums 12 3) v19 (w' := V20) (by kernel_rfl) (by kernel_rfl) (exec_append (.tmp 19) (.tmp 20) 38 (by kernel_rfl) (.slice (some ⟨gx, 0, none⟩) 1 1) (.slice A ls.length cap) (by kernel_rfl) (by kernel_rfl) hr21) ?_
  have h27 : Row V20 22 1 v19 (1 + ls.length) ([.slice A0 x.length cap0] ++ us) := h22
  have h28 : BytesAt V20 (.slice A0 x.length cap0) x := h12.keeps0 kV20 (fun hn j hj e => by have := hx.blockLt hn j hj; have := hw18 j e; omega)
  have h29 : ListsAt V20 (.slice A ls.length cap) us ls := ListsAt.keepsB h0 h13 kV20 (fun j hj e => by have := hw18 j e; omega)
  have h30 : V20.heap[gs]? = some (.cells (Wz s) 46 (0, 0)) := (kV20.block gs (lt_of_block h14) (fun e => by have := hw18 _ e; omega)).trans h14
  have K31 : Keeps Nob w V20 := K15.then kV20 (fun i hi hm => absurd hi (by have := hw18 i hm; omega))
  have z32 := kV20.size
  refine ps_call (o_KeccakSums 12 4) 15 #[v19] (by kernel_rfl) (by kernel_rfl) (by kernel_rfl) (by kernel_rfl) (enters_of Try.func15 (by kernel_rfl) rfl) ((llong_any _ _ (x :: ls) _ (cons_lists h27 h28 h29) hB hL).mono ?_)
  rintro e w1 ⟨rfl, rfl⟩
  refine ⟨_, rfl, ?_⟩
  refine ps_k (o_KeccakSums 12 5) (.bool true) ?_
  refine ps_no (o_KeccakSums 12 6) (by kernel_rfl) (by kernel_rfl) ?_
  refine ps_no (o_KeccakSums 12 7) (by kernel_rfl) (by kernel_rfl) ?_
  refine ps_no (o_KeccakSums 12 8) (by kernel_rfl) (by kernel_rfl) ?_
  refine ps_k (o_KeccakSums 12 9) (.bool true) ?_
  refine ps_end ?_
  refine sy_a ⟨#[.slice A0 x.length cap0, cN kd.toNat, .slice A ls.length cap, .string ⟨t.toArray⟩, .agg (Wz s), undef, undef, undef, undef, pT gs 0, .bool false, undef, undef, undef, undef, undef, undef, undef, .slice A0 x.length cap0, .slice (some ⟨gx, 0, none⟩) 1 1, .slice A ls.length cap, v19, .bool true, .bool true, undef, undef, undef, .bool true, undef, undef, undef, undef, undef, undef, undef, undef, undef, undef, undef, undef, undef, undef, undef, undef, undef, undef, undef, undef, undef, undef, undef, undef, undef, undef, undef, undef, undef, undef, undef, undef, undef, undef, undef, undef, undef, undef, undef, undef, undef, undef, undef, undef, undef, undef, undef, undef, undef, undef, undef, undef, undef, undef, undef, undef, undef, undef, undef, undef, undef, undef, undef, undef, undef], []⟩ ?_
  refine then_n ?_
  refine sy_ys (.tmp 27) (part_KeccakSums 26) (part_KeccakSums 27) ?_
  refine sy_sq (part_KeccakSums 52) (part_KeccakSums 53) ?_
  refine sy_reg ?_
  refine rg_plain 2 (opsAt (part_KeccakSums 52)) [0, 1] (by kernel_rfl) (by kernel_rfl) ?_
  refine ps_call (o_KeccakSums 52 0) 14 #[] (by kernel_rfl) (by kernel_rfl) (by kernel_rfl) (by kernel_rfl) (enters_of Try.func14 (by kernel_rfl) rfl) ((lawake_ok _).mono ?_)
  rintro e V33 ⟨rfl, kV33⟩
  refine ⟨_, rfl, ?_⟩
  have h34 : BytesAt V33 (.slice A0 x.length cap0) x := h28.keepsN kV33
  have h35 : ListsAt V33 (.slice A ls.length cap) us ls := h29.keepsN kV33
  have h36 : V33.heap[gs]? = some (.cells (Wz s) 46 (0, 0)) := (kV33.block gs (lt_of_block h30) (fun x => x)).trans h30
  have K37 : Keeps Nob w V33 := K31.then kV33 (fun _ _ x => x.elim)
  have z38 := kV33.size
  refine ps_k (o_KeccakSums 52 1) (.bool true) ?_
  refine ps_end ?_
  refine sy_a ⟨#[.slice A0 x.length cap0, cN kd.toNat, .slice A ls.length cap, .string ⟨t.toArray⟩, .agg (Wz s), undef, undef, undef, undef, pT gs 0, .bool true, undef, undef, undef, undef, undef, undef, undef, .slice A0 x.length cap0, .slice (some ⟨gx, 0, none⟩) 1 1, .slice A ls.length cap, v19, .bool true, .bool true, undef, undef, undef, .bool true, .bool true, undef, undef, undef, undef, undef, undef, undef, undef, undef, undef, undef, undef, undef, undef, undef, undef, undef, undef, undef, undef, undef, undef, undef, undef, undef, undef, undef, undef, undef, undef, undef, undef, undef, undef, undef, undef, undef, undef, undef, undef, undef, undef, undef, undef, undef, undef, undef, undef, undef, undef, undef, undef, undef, undef, undef, undef, undef, undef, undef, undef, undef, undef, undef, undef], []⟩ ?_
  refine then_n ?_
  refine sy_ret (by kernel_rfl) ?_
  refine then_r ?_
  refine sy_out (.bool true) rfl (by kernel_rfl) ?_
  exact ⟨rfl, K37⟩
set_option maxRecDepth 100000 in
set_option maxHeartbeats 4000000 in
theorem sums_text (A0 A : Option Addr) (cap0 cap : Nat) (x : List UInt8) (kd : UInt8) (us : List Value) (ls : List (List UInt8)) (t : List UInt8) (s : List Nat) (w : World) (hx : BytesAt w (.slice A0 x.length cap0) x) (h0 : ListsAt w (.slice A ls.length cap) us ls) (hs : s.length = 25) (ws : Kec.Ws s) (hB : ∀ (k : Nat) (l : List UInt8), (x :: ls)[k]? = some l → l.length ≤ 9223372036854775000) (hn : ls.length ≤ 5864062014634) (hL : lng (x :: ls) = false) (ht : t.length > 100) :
    Calls Try.prog 5 #[.slice A0 x.length cap0, .int .u8 ((kd.toNat : Nat) : Int), .slice A ls.length cap, .string ⟨t.toArray⟩, .agg (Wz s)] w (fun e w' => e = .returned (.bool true) ∧ Keeps Nob w w') := by
  obtain ⟨i0, hi0, hz0, hz1, hz2⟩ := info_parts bytes_info0
  obtain ⟨hS1, hS2⟩ := lng_small hL
  have hS3 := len_le_tall (ls := x :: ls) (i := 0) (l := x) rfl
  have hS4 : tall ls ≤ 700 := Nat.le_trans (tall_tail x ls) hS1
  have hS5 : ls.length ≤ 40 := by simp at hS2; omega
  have K0 : Keeps Nob w w := Keeps.refl _ _
  refine sy_enter (part_KeccakSums 1) ⟨#[.slice A0 x.length cap0, cN kd.toNat, .slice A ls.length cap, .string ⟨t.toArray⟩, .agg (Wz s), undef, undef, undef, undef, undef, undef, undef, undef, undef, undef, undef, undef, undef, undef, undef, undef, undef, undef, undef, undef, undef, undef, undef, undef, undef, undef, undef, undef, undef, undef, undef, undef, undef, undef, undef, undef, undef, undef, undef, undef, undef, undef, undef, undef, undef, undef, undef, undef, undef, undef, undef, undef, undef, undef, undef, undef, undef, undef, undef, undef, undef, undef, undef, undef, undef, undef, undef, undef, undef, undef, undef, undef, undef, undef, undef, undef, undef, undef, undef, undef, undef, undef, undef, undef, undef, undef, undef, undef], []⟩ Try.func5 (by kernel_rfl) (by kernel_rfl) ?_
  refine sy_sq (part_KeccakSums 2) (part_KeccakSums 3) ?_
  refine sy_reg ?_
  refine rg_plain 0 (opsAt (part_KeccakSums 2)) [0, 1] (by kernel_rfl) (by kernel_rfl) ?_
  obtain ⟨V1, eV1⟩ : ∃ V, w.alloc (.cells ((Wz s)) 46) = V := ⟨_, rfl⟩
  obtain ⟨gs, egs⟩ : ∃ g, w.heap.size = g := ⟨_, rfl⟩
  have n3 : w.heap.size ≤ gs := egs ▸ K0.size
  have h2 : V1.heap[gs]? = some (.cells ((Wz s)) 46 (0, 0)) := by rw [← eV1, ← egs]; exact heap_alloc_new _ _
  have kV1 : Keeps Nob w V1 := eV1 ▸ (Keeps.refl _ _).alloc _
  refine ps_run (o_KeccakSums 2 0) (pT gs 0) (w' := V1) (by kernel_rfl) (by kernel_rfl) (by rw [← eV1, ← egs]; exact exec_box 46 (.tmp 4) (by kernel_rfl) (.agg (Wz s)) (by kernel_rfl)) ?_
  clear eV1
  have h4 : BytesAt V1 (.slice A0 x.length cap0) x := hx.keepsN kV1
  have h5 : ListsAt V1 (.slice A ls.length cap) us ls := h0.keepsN kV1
  have K6 : Keeps Nob w V1 := K0.then kV1 (fun _ _ x => x.elim)
  have z7 := kV1.size
  refine ps_k (o_KeccakSums 2 1) (.bool false) ?_
  refine ps_end ?_
  refine sy_a ⟨#[.slice A0 x.length cap0, cN kd.toNat, .slice A ls.length cap, .string ⟨t.toArray⟩, .agg (Wz s), undef, undef, undef, undef, pT gs 0, .bool false, undef, undef, undef, undef, undef, undef, undef, undef, undef, undef, undef, undef, undef, undef, undef, undef, undef, undef, undef, undef, undef, undef, undef, undef, undef, undef, undef, undef, undef, undef, undef, undef, undef, undef, undef, undef, undef, undef, undef, undef, undef, undef, undef, undef, undef, undef, undef, undef, undef, undef, undef, undef, undef, undef, undef, undef, undef, undef, undef, undef, undef, undef, undef, undef, undef, undef, undef, undef, undef, undef, undef, undef, undef, undef, undef, undef, undef, undef, undef, undef, undef, undef], []⟩ ?_
  refine then_n ?_
  refine sy_sq (part_KeccakSums 6) (part_KeccakSums 7) ?_
  refine sy_sq (part_KeccakSums 12) (part_KeccakSums 13) ?_
  refine sy_reg ?_
  refine rg_plain 1 (opsAt (part_KeccakSums 12)) [0, 1, 2, 3, 4, 5, 6, 7, 8, 9] (by kernel_rfl) (by kernel_rfl) ?_
  refine ps_k (o_KeccakSums 12 0) (.slice A0 x.length cap0) ?_
  obtain ⟨V8, eV8⟩ : ∃ V, V1.alloc (.cells (#[.slice A0 x.length cap0]) 22) = V := ⟨_, rfl⟩
  obtain ⟨gx, egx⟩ : ∃ g, V1.heap.size = g := ⟨_, rfl⟩
  have n10 : gs < gx := egx ▸ lt_of_block h2
  have n11 : w.heap.size ≤ gx := egx ▸ K6.size
  have h9 : V8.heap[gx]? = some (.cells (#[.slice A0 x.length cap0]) 22 (0, 0)) := by rw [← eV8, ← egx]; exact heap_alloc_new _ _
  have kV8 : Keeps Nob V1 V8 := eV8 ▸ (Keeps.refl _ _).alloc _
  refine ps_run (o_KeccakSums 12 1) (.slice (some ⟨gx, 0, none⟩) 1 1) (w' := V8) (by kernel_rfl) (by kernel_rfl) (by rw [← eV8, ← egx]; kernel_rfl) ?_
  have h12 : BytesAt V8 (.slice A0 x.length cap0) x := h4.keepsN kV8
  have h13 : ListsAt V8 (.slice A ls.length cap) us ls := h5.keepsN kV8
  have h14 : V8.heap[gs]? = some (.cells (Wz s) 46 (0, 0)) := (kV8.block gs (lt_of_block h2) (fun x => x)).trans h2
  have K15 : Keeps Nob w V8 := K6.then kV8 (fun _ _ x => x.elim)
  have z16 := kV8.size
  refine ps_k (o_KeccakSums 12 2) (.slice A ls.length cap) ?_
  have h17 : Row V8 22 1 (.slice (some ⟨gx, 0, none⟩) 1 1) 1 ([.slice A0 x.length cap0]) := row_of_block h9 rfl (by decide)
  have hw18 : NewFrom (gs + 1) (.slice (some ⟨gx, 0, none⟩) 1 1) := NewFrom.ptr (by omega) _ _
  obtain ⟨v19, V20, hr21, h22, hg23, hn24, ha25⟩ := run_append_any (P := Try.prog) (w := V8) 38 (Oper.type (o_KeccakSums 12 3)) 22 i0 (.slice none 0 0) 1 24 Try.underlying38 hi0 hz0 hz1 hz2 rfl (by decide) (.slice (some ⟨gx, 0, none⟩) 1 1) 1 ([.slice A0 x.length cap0]) h17 (.slice A ls.length cap) ls.length us (ListsAt.src h13) (by unfold maxLen; omega) (by omega)
  have kV20 : Keeps (fun j => (.slice (some ⟨gx, 0, none⟩) 1 1 : Value).ownBlock = some j) V8 V20 := Keeps.rowAdd hg23
  have hw26 : NewFrom (gs + 1) v19 := hw18.next (lt_of_block h14) ha25
  refine ps_run (o_KeccakSums 12 3) v19 (w' := V20) (by kernel_rfl) (by kernel_rfl) (exec_append (.tmp 19) (.tmp 20) 38 (by kernel_rfl) (.slice (some ⟨gx, 0, none⟩) 1 1) (.slice A ls.length cap) (by kernel_rfl) (by kernel_rfl) hr21) ?_
  have h27 : Row V20 22 1 v19 (1 + ls.length) ([.slice A0 x.length cap0] ++ us) := h22
  have h28 : BytesAt V20 (.slice A0 x.length cap0) x := h12.keeps0 kV20 (fun hn j hj e => by have := hx.blockLt hn j hj; have := hw18 j e; omega)
  have h29 : ListsAt V20 (.slice A ls.length cap) us ls := ListsAt.keepsB h0 h13 kV20 (fun j hj e => by have := hw18 j e; omega)
  have h30 : V20.heap[gs]? = some (.cells (Wz s) 46 (0, 0)) := (kV20.block gs (lt_of_block h14) (fun e => by have := hw18 _ e; omega)).trans h14
  have K31 : Keeps Nob w V20 := K15.then kV20 (fun i hi hm => absurd hi (by have := hw18 i hm; omega))
  have z32 := kV20.size
  refine ps_call (o_KeccakSums 12 4) 15 #[v19] (by kernel_rfl) (by kernel_rfl) (by kernel_rfl) (by kernel_rfl) (enters_of Try.func15 (by kernel_rfl) rfl) ((llong_any _ _ (x :: ls) _ (cons_lists h27 h28 h29) hB hL).mono ?_)
  rintro e w1 ⟨rfl, rfl⟩
  refine ⟨_, rfl, ?_⟩
  refine ps_k (o_KeccakSums 12 5) (.bool false) ?_
  refine ps_k (o_KeccakSums 12 6) (.string ⟨t.toArray⟩) ?_
  refine ps_p (o_KeccakSums 12 7) (iN t.length) (exec_cast (congrArg (Value.int .i64) (by simp [ByteArray.size])) (exec_len_str (.tmp 24) 9 (by kernel_rfl) Try.underlying9 ⟨t.toArray⟩ (by kernel_rfl))) ?_
  refine ps_p (o_KeccakSums 12 8) (.bool true) (exec_cast (congrArg Value.bool (show (decide ((((t.length : Nat) : Int)) > ((100) : Int))) = true from by simp only [decide_eq_true_eq]; omega)) (by kernel_rfl)) ?_
  refine ps_k (o_KeccakSums 12 9) (.bool true) ?_
  refine ps_end ?_
  refine sy_a ⟨#[.slice A0 x.length cap0, cN kd.toNat, .slice A ls.length cap, .string ⟨t.toArray⟩, .agg (Wz s), undef, undef, undef, undef, pT gs 0, .bool false, undef, undef, undef, undef, undef, undef, undef, .slice A0 x.length cap0, .slice (some ⟨gx, 0, none⟩) 1 1, .slice A ls.length cap, v19, .bool false, .bool false, .string ⟨t.toArray⟩, iN t.length, .bool true, .bool true, undef, undef, undef, undef, undef, undef, undef, undef, undef, undef, undef, undef, undef, undef, undef, undef, undef, undef, undef, undef, undef, undef, undef, undef, undef, undef, undef, undef, undef, undef, undef, undef, undef, undef, undef, undef, undef, undef, undef, undef, undef, undef, undef, undef, undef, undef, undef, undef, undef, undef, undef, undef, undef, undef, undef, undef, undef, undef, undef, undef, undef, undef, undef, undef, undef], []⟩ ?_
  refine then_n ?_
  refine sy_ys (.tmp 27) (part_KeccakSums 26) (part_KeccakSums 27) ?_
  refine sy_sq (part_KeccakSums 52) (part_KeccakSums 53) ?_
  refine sy_reg ?_
  refine rg_plain 2 (opsAt (part_KeccakSums 52)) [0, 1] (by kernel_rfl) (by kernel_rfl) ?_
  refine ps_call (o_KeccakSums 52 0) 14 #[] (by kernel_rfl) (by kernel_rfl) (by kernel_rfl) (by kernel_rfl) (enters_of Try.func14 (by kernel_rfl) rfl) ((lawake_ok _).mono ?_)
  rintro e V33 ⟨rfl, kV33⟩
  refine ⟨_, rfl, ?_⟩
  have h34 : BytesAt V33 (.slice A0 x.length cap0) x := h28.keepsN kV33
  have h35 : ListsAt V33 (.slice A ls.length cap) us ls := h29.keepsN kV33
  have h36 : V33.heap[gs]? = some (.cells (Wz s) 46 (0, 0)) := (kV33.block gs (lt_of_block h30) (fun x => x)).trans h30
  have K37 : Keeps Nob w V33 := K31.then kV33 (fun _ _ x => x.elim)
  have z38 := kV33.size
  refine ps_k (o_KeccakSums 52 1) (.bool true) ?_
  refine ps_end ?_
  refine sy_a ⟨#[.slice A0 x.length cap0, cN kd.toNat, .slice A ls.length cap, .string ⟨t.toArray⟩, .agg (Wz s), undef, undef, undef, undef, pT gs 0, .bool true, undef, undef, undef, undef, undef, undef, undef, .slice A0 x.length cap0, .slice (some ⟨gx, 0, none⟩) 1 1, .slice A ls.length cap, v19, .bool false, .bool false, .string ⟨t.toArray⟩, iN t.length, .bool true, .bool true, .bool true, undef, undef, undef, undef, undef, undef, undef, undef, undef, undef, undef, undef, undef, undef, undef, undef, undef, undef, undef, undef, undef, undef, undef, undef, undef, undef, undef, undef, undef, undef, undef, undef, undef, undef, undef, undef, undef, undef, undef, undef, undef, undef, undef, undef, undef, undef, undef, undef, undef, undef, undef, undef, undef, undef, undef, undef, undef, undef, undef, undef, undef, undef, undef, undef], []⟩ ?_
  refine then_n ?_
  refine sy_ret (by kernel_rfl) ?_
  refine then_r ?_
  refine sy_out (.bool true) rfl (by kernel_rfl) ?_
  exact ⟨rfl, K37⟩
set_option maxRecDepth 100000 in
set_option maxHeartbeats 4000000 in
theorem sums_main (A0 A : Option Addr) (cap0 cap : Nat) (x : List UInt8) (kd : UInt8) (us : List Value) (ls : List (List UInt8)) (t : List UInt8) (s : List Nat) (w : World) (hx : BytesAt w (.slice A0 x.length cap0) x) (h0 : ListsAt w (.slice A ls.length cap) us ls) (hs : s.length = 25) (ws : Kec.Ws s) (hB : ∀ (k : Nat) (l : List UInt8), (x :: ls)[k]? = some l → l.length ≤ 9223372036854775000) (hn : ls.length ≤ 5864062014634) (hL : lng (x :: ls) = false) (ht : ¬ t.length > 100) :
    Calls Try.prog 5 #[.slice A0 x.length cap0, .int .u8 ((kd.toNat : Nat) : Int), .slice A ls.length cap, .string ⟨t.toArray⟩, .agg (Wz s)] w (fun e w' => e = .returned (.bool true) ∧ Keeps Nob w w') := by
  obtain ⟨i0, hi0, hz0, hz1, hz2⟩ := info_parts bytes_info0
  obtain ⟨hS1, hS2⟩ := lng_small hL
  have hS3 := len_le_tall (ls := x :: ls) (i := 0) (l := x) rfl
  have hS4 : tall ls ≤ 700 := Nat.le_trans (tall_tail x ls) hS1
  have hS5 : ls.length ≤ 40 := by simp at hS2; omega
  have K0 : Keeps Nob w w := Keeps.refl _ _
  refine sy_enter (part_KeccakSums 1) ⟨#[.slice A0 x.length cap0, cN kd.toNat, .slice A ls.length cap, .string ⟨t.toArray⟩, .agg (Wz s), undef, undef, undef, undef, undef, undef, undef, undef, undef, undef, undef, undef, undef, undef, undef, undef, undef, undef, undef, undef, undef, undef, undef, undef, undef, undef, undef, undef, undef, undef, undef, undef, undef, undef, undef, undef, undef, undef, undef, undef, undef, undef, undef, undef, undef, undef, undef, undef, undef, undef, undef, undef, undef, undef, undef, undef, undef, undef, undef, undef, undef, undef, undef, undef, undef, undef, undef, undef, undef, undef, undef, undef, undef, undef, undef, undef, undef, undef, undef, undef, undef, undef, undef, undef, undef, undef, undef, undef], []⟩ Try.func5 (by kernel_rfl) (by kernel_rfl) ?_
  refine sy_sq (part_KeccakSums 2) (part_KeccakSums 3) ?_
  refine sy_reg ?_
  refine rg_plain 0 (opsAt (part_KeccakSums 2)) [0, 1] (by kernel_rfl) (by kernel_rfl) ?_
  obtain ⟨V1, eV1⟩ : ∃ V, w.alloc (.cells ((Wz s)) 46) = V := ⟨_, rfl⟩
  obtain ⟨gs, egs⟩ : ∃ g, w.heap.size = g := ⟨_, rfl⟩
  have n3 : w.heap.size ≤ gs := egs ▸ K0.size
  have h2 : V1.heap[gs]? = some (.cells ((Wz s)) 46 (0, 0)) := by rw [← eV1, ← egs]; exact heap_alloc_new _ _
  have kV1 : Keeps Nob w V1 := eV1 ▸ (Keeps.refl _ _).alloc _
  refine ps_run (o_KeccakSums 2 0) (pT gs 0) (w' := V1) (by kernel_rfl) (by kernel_rfl) (by rw [← eV1, ← egs]; exact exec_box 46 (.tmp 4) (by kernel_rfl) (.agg (Wz s)) (by kernel_rfl)) ?_
  clear eV1
  have h4 : BytesAt V1 (.slice A0 x.length cap0) x := hx.keepsN kV1
  have h5 : ListsAt V1 (.slice A ls.length cap) us ls := h0.keepsN kV1
  have K6 : Keeps Nob w V1 := K0.then kV1 (fun _ _ x => x.elim)
  have z7 := kV1.size
  refine ps_k (o_KeccakSums 2 1) (.bool false) ?_
  refine ps_end ?_
  refine sy_a ⟨#[.slice A0 x.length cap0, cN kd.toNat, .slice A ls.length cap, .string ⟨t.toArray⟩, .agg (Wz s), undef, undef, undef, undef, pT gs 0, .bool false, undef, undef, undef, undef, undef, undef, undef, undef, undef, undef, undef, undef, undef, undef, undef, undef, undef, undef, undef, undef, undef, undef, undef, undef, undef, undef, undef, undef, undef, undef, undef, undef, undef, undef, undef, undef, undef, undef, undef, undef, undef, undef, undef, undef, undef, undef, undef, undef, undef, undef, undef, undef, undef, undef, undef, undef, undef, undef, undef, undef, undef, undef, undef, undef, undef, undef, undef, undef, undef, undef, undef, undef, undef, undef, undef, undef, undef, undef, undef, undef, undef, undef], []⟩ ?_
  refine then_n ?_
  refine sy_sq (part_KeccakSums 6) (part_KeccakSums 7) ?_
  refine sy_sq (part_KeccakSums 12) (part_KeccakSums 13) ?_
  refine sy_reg ?_
  refine rg_plain 1 (opsAt (part_KeccakSums 12)) [0, 1, 2, 3, 4, 5, 6, 7, 8, 9] (by kernel_rfl) (by kernel_rfl) ?_
  refine ps_k (o_KeccakSums 12 0) (.slice A0 x.length cap0) ?_
  obtain ⟨V8, eV8⟩ : ∃ V, V1.alloc (.cells (#[.slice A0 x.length cap0]) 22) = V := ⟨_, rfl⟩
  obtain ⟨gx, egx⟩ : ∃ g, V1.heap.size = g := ⟨_, rfl⟩
  have n10 : gs < gx := egx ▸ lt_of_block h2
  have n11 : w.heap.size ≤ gx := egx ▸ K6.size
  have h9 : V8.heap[gx]? = some (.cells (#[.slice A0 x.length cap0]) 22 (0, 0)) := by rw [← eV8, ← egx]; exact heap_alloc_new _ _
  have kV8 : Keeps Nob V1 V8 := eV8 ▸ (Keeps.refl _ _).alloc _
  refine ps_run (o_KeccakSums 12 1) (.slice (some ⟨gx, 0, none⟩) 1 1) (w' := V8) (by kernel_rfl) (by kernel_rfl) (by rw [← eV8, ← egx]; kernel_rfl) ?_
  have h12 : BytesAt V8 (.slice A0 x.length cap0) x := h4.keepsN kV8
  have h13 : ListsAt V8 (.slice A ls.length cap) us ls := h5.keepsN kV8
  have h14 : V8.heap[gs]? = some (.cells (Wz s) 46 (0, 0)) := (kV8.block gs (lt_of_block h2) (fun x => x)).trans h2
  have K15 : Keeps Nob w V8 := K6.then kV8 (fun _ _ x => x.elim)
  have z16 := kV8.size
  refine ps_k (o_KeccakSums 12 2) (.slice A ls.length cap) ?_
  have h17 : Row V8 22 1 (.slice (some ⟨gx, 0, none⟩) 1 1) 1 ([.slice A0 x.length cap0]) := row_of_block h9 rfl (by decide)
  have hw18 : NewFrom (gs + 1) (.slice (some ⟨gx, 0, none⟩) 1 1) := NewFrom.ptr (by omega) _ _
  obtain ⟨v19, V20, hr21, h22, hg23, hn24, ha25⟩ := run_append_any (P := Try.prog) (w := V8) 38 (Oper.type (o_KeccakSums 12 3)) 22 i0 (.slice none 0 0) 1 24 Try.underlying38 hi0 hz0 hz1 hz2 rfl (by decide) (.slice (some ⟨gx, 0, none⟩) 1 1) 1 ([.slice A0 x.length cap0]) h17 (.slice A ls.length cap) ls.length us (ListsAt.src h13) (by unfold maxLen; omega) (by omega)
  have kV20 : Keeps (fun j => (.slice (some ⟨gx, 0, none⟩) 1 1 : Value).ownBlock = some j) V8 V20 := Keeps.rowAdd hg23
  have hw26 : NewFrom (gs + 1) v19 := hw18.next (lt_of_block h14) ha25
  refine ps_run (o_KeccakSums 12 3) v19 (w' := V20) (by kernel_rfl) (by kernel_rfl) (exec_append (.tmp 19) (.tmp 20) 38 (by kernel_rfl) (.slice (some ⟨gx, 0, none⟩) 1 1) (.slice A ls.length cap) (by kernel_rfl) (by kernel_rfl) hr21) ?_
  have h27 : Row V20 22 1 v19 (1 + ls.length) ([.slice A0 x.length cap0] ++ us) := h22
  have h28 : BytesAt V20 (.slice A0 x.length cap0) x := h12.keeps0 kV20 (fun hn j hj e => by have := hx.blockLt hn j hj; have := hw18 j e; omega)
  have h29 : ListsAt V20 (.slice A ls.length cap) us ls := ListsAt.keepsB h0 h13 kV20 (fun j hj e => by have := hw18 j e; omega)
  have h30 : V20.heap[gs]? = some (.cells (Wz s) 46 (0, 0)) := (kV20.block gs (lt_of_block h14) (fun e => by have := hw18 _ e; omega)).trans h14
  have K31 : Keeps Nob w V20 := K15.then kV20 (fun i hi hm => absurd hi (by have := hw18 i hm; omega))
  have z32 := kV20.size
  refine ps_call (o_KeccakSums 12 4) 15 #[v19] (by kernel_rfl) (by kernel_rfl) (by kernel_rfl) (by kernel_rfl) (enters_of Try.func15 (by kernel_rfl) rfl) ((llong_any _ _ (x :: ls) _ (cons_lists h27 h28 h29) hB hL).mono ?_)
  rintro e w1 ⟨rfl, rfl⟩
  refine ⟨_, rfl, ?_⟩
  refine ps_k (o_KeccakSums 12 5) (.bool false) ?_
  refine ps_k (o_KeccakSums 12 6) (.string ⟨t.toArray⟩) ?_
  refine ps_p (o_KeccakSums 12 7) (iN t.length) (exec_cast (congrArg (Value.int .i64) (by simp [ByteArray.size])) (exec_len_str (.tmp 24) 9 (by kernel_rfl) Try.underlying9 ⟨t.toArray⟩ (by kernel_rfl))) ?_
  refine ps_p (o_KeccakSums 12 8) (.bool false) (exec_cast (congrArg Value.bool (show (decide ((((t.length : Nat) : Int)) > ((100) : Int))) = false from by simp only [decide_eq_false_iff_not]; omega)) (by kernel_rfl)) ?_
  refine ps_k (o_KeccakSums 12 9) (.bool false) ?_
  refine ps_end ?_
  refine sy_a ⟨#[.slice A0 x.length cap0, cN kd.toNat, .slice A ls.length cap, .string ⟨t.toArray⟩, .agg (Wz s), undef, undef, undef, undef, pT gs 0, .bool false, undef, undef, undef, undef, undef, undef, undef, .slice A0 x.length cap0, .slice (some ⟨gx, 0, none⟩) 1 1, .slice A ls.length cap, v19, .bool false, .bool false, .string ⟨t.toArray⟩, iN t.length, .bool false, .bool false, undef, undef, undef, undef, undef, undef, undef, undef, undef, undef, undef, undef, undef, undef, undef, undef, undef, undef, undef, undef, undef, undef, undef, undef, undef, undef, undef, undef, undef, undef, undef, undef, undef, undef, undef, undef, undef, undef, undef, undef, undef, undef, undef, undef, undef, undef, undef, undef, undef, undef, undef, undef, undef, undef, undef, undef, undef, undef, undef, undef, undef, undef, undef, undef, undef], []⟩ ?_
  refine then_n ?_
  refine sy_n (.tmp 27) (part_KeccakSums 26) (part_KeccakSums 27) ?_
  refine sy_sk ?_
  refine then_n ?_
  refine sy_sq (part_KeccakSums 14) (part_KeccakSums 15) ?_
  refine sy_reg ?_
  refine rg_plain 3 (opsAt (part_KeccakSums 14)) [0, 1, 2, 3, 4, 5] (by kernel_rfl) (by kernel_rfl) ?_
  refine ps_k (o_KeccakSums 14 0) (.slice A0 x.length cap0) ?_
  refine ps_call (o_KeccakSums 14 1) 18 #[.slice A0 x.length cap0] (by kernel_rfl) (by kernel_rfl) (by kernel_rfl) (by kernel_rfl) (enters_of Try.func18 (by kernel_rfl) rfl) ((copyBytes_ok _ x _ h28 (by omega)).mono ?_)
  rintro e V33 ⟨c0, rfl, h34, hnu, hnz, kV33⟩
  obtain ⟨g1, cap1, rfl⟩ := h34.slice hnz
  have h35 := Row.bytes h34
  have lg1 := h34.lt (k := g1) rfl
  have lh1 := hnu g1 rfl
  refine ⟨_, rfl, ?_⟩
  have h36 : BytesAt V33 (.slice A0 x.length cap0) x := h28.keepsN kV33
  have h37 : ListsAt V33 (.slice A ls.length cap) us ls := h29.keepsN kV33
  have h38 : V33.heap[gs]? = some (.cells (Wz s) 46 (0, 0)) := (kV33.block gs (lt_of_block h30) (fun x => x)).trans h30
  have K39 : Keeps Nob w V33 := K31.then kV33 (fun _ _ x => x.elim)
  have z40 := kV33.size
  refine ps_k (o_KeccakSums 14 2) (.slice A ls.length cap) ?_
  refine ps_call (o_KeccakSums 14 3) 21 #[.slice A ls.length cap] (by kernel_rfl) (by kernel_rfl) (by kernel_rfl) (by kernel_rfl) (enters_of Try.func21 (by kernel_rfl) rfl) ((kCopyLists_ok A cap us ls _ h37 (fun k l h => by have := len_le_tall h; omega) (by omega)).mono ?_)
  rintro e V41 ⟨cv, xs, rfl, h42, hnc, hcp, kV41⟩
  have h43 := hcp.lists h42
  refine ⟨_, rfl, ?_⟩
  have h44 : BytesAt V41 (.slice A0 x.length cap0) x := h36.keepsN kV41
  have h45 : ListsAt V41 (.slice A ls.length cap) us ls := h37.keepsN kV41
  have h46 : V41.heap[gs]? = some (.cells (Wz s) 46 (0, 0)) := (kV41.block gs (lt_of_block h38) (fun x => x)).trans h38
  have h47 : BytesAt V41 (.slice (some ⟨g1, 0, none⟩) x.length cap1) x := h35.keepsN kV41
  have K48 : Keeps Nob w V41 := K39.then kV41 (fun _ _ x => x.elim)
  have z49 := kV41.size
  refine ps_k (o_KeccakSums 14 4) (.slice (some ⟨g1, 0, none⟩) x.length cap1) ?_
  refine ps_k (o_KeccakSums 14 5) (cv) ?_
  refine ps_end ?_
  refine sy_a ⟨#[.slice A0 x.length cap0, cN kd.toNat, .slice A ls.length cap, .string ⟨t.toArray⟩, .agg (Wz s), undef, undef, undef, undef, pT gs 0, .bool false, .slice (some ⟨g1, 0, none⟩) x.length cap1, cv, undef, undef, undef, undef, undef, .slice A0 x.length cap0, .slice (some ⟨gx, 0, none⟩) 1 1, .slice A ls.length cap, v19, .bool false, .bool false, .string ⟨t.toArray⟩, iN t.length, .bool false, .bool false, undef, .slice A0 x.length cap0, .slice (some ⟨g1, 0, none⟩) x.length cap1, .slice A ls.length cap, cv, undef, undef, undef, undef, undef, undef, undef, undef, undef, undef, undef, undef, undef, undef, undef, undef, undef, undef, undef, undef, undef, undef, undef, undef, undef, undef, undef, undef, undef, undef, undef, undef, undef, undef, undef, undef, undef, undef, undef, undef, undef, undef, undef, undef, undef, undef, undef, undef, undef, undef, undef, undef, undef, undef, undef, undef, undef, undef, undef, undef], []⟩ ?_
  refine then_n ?_
  refine sy_sq (part_KeccakSums 30) (part_KeccakSums 31) ?_
  refine sy_reg ?_
  refine rg_plain 4 (opsAt (part_KeccakSums 30)) [0, 1, 2, 3, 4, 5, 6, 7] (by kernel_rfl) (by kernel_rfl) ?_
  refine ps_k (o_KeccakSums 30 0) (.string ⟨t.toArray⟩) ?_
  refine ps_call (o_KeccakSums 30 1) 22 #[.string ⟨t.toArray⟩] (by kernel_rfl) (by kernel_rfl) (by kernel_rfl) (by kernel_rfl) (enters_of Try.func22 (by kernel_rfl) rfl) ((kRead_ok t _).mono ?_)
  rintro e V50 ⟨v, er, rfl, hr, kV50⟩
  have hv := (reads_len t v er hr).1
  refine ⟨_, rfl, ?_⟩
  have h51 : BytesAt V50 (.slice A0 x.length cap0) x := h44.keepsN kV50
  have h52 : ListsAt V50 (.slice A ls.length cap) us ls := h45.keepsN kV50
  have h53 : V50.heap[gs]? = some (.cells (Wz s) 46 (0, 0)) := (kV50.block gs (lt_of_block h46) (fun x => x)).trans h46
  have h54 : BytesAt V50 (.slice (some ⟨g1, 0, none⟩) x.length cap1) x := h47.keepsN kV50
  have h55 : ListsAt V50 cv xs ls := h43.keepsN kV50
  have K56 : Keeps Nob w V50 := K48.then kV50 (fun _ _ x => x.elim)
  have z57 := kV50.size
  refine ps_k (o_KeccakSums 30 2) (.tuple #[.agg (B v).toArray, .int .i64 er]) ?_
  refine ps_k (o_KeccakSums 30 3) (.agg (B v).toArray) ?_
  refine ps_k (o_KeccakSums 30 4) (.int .i64 er) ?_
  obtain ⟨V58, eV58⟩ : ∃ V, V50.alloc (.cells (zr_u8_32) 29) = V := ⟨_, rfl⟩
  obtain ⟨gh, egh⟩ : ∃ g, V50.heap.size = g := ⟨_, rfl⟩
  have n60 : gs < gh := egh ▸ lt_of_block h53
  have n61 : w.heap.size ≤ gh := egh ▸ K56.size
  have h59 : V58.heap[gh]? = some (.cells (zr_u8_32) 29 (0, 0)) := by rw [← eV58, ← egh]; exact heap_alloc_new _ _
  have kV58 : Keeps Nob V50 V58 := eV58 ▸ (Keeps.refl _ _).alloc _
  refine ps_run (o_KeccakSums 30 5) (pT gh 0) (w' := V58) (by kernel_rfl) (by kernel_rfl) (by rw [← eV58, ← egh]; exact exec_alloc0 29 (by kernel_rfl) (.agg (zr_u8_32)) (by kernel_rfl)) ?_
  clear eV58
  have h62 : BytesAt V58 (.slice A0 x.length cap0) x := h51.keepsN kV58
  have h63 : ListsAt V58 (.slice A ls.length cap) us ls := h52.keepsN kV58
  have h64 : V58.heap[gs]? = some (.cells (Wz s) 46 (0, 0)) := (kV58.block gs (lt_of_block h53) (fun x => x)).trans h53
  have h65 : BytesAt V58 (.slice (some ⟨g1, 0, none⟩) x.length cap1) x := h54.keepsN kV58
  have h66 : ListsAt V58 cv xs ls := h55.keepsN kV58
  have K67 : Keeps Nob w V58 := K56.then kV58 (fun _ _ x => x.elim)
  have z68 := kV58.size
  obtain ⟨V69, eV69⟩ : ∃ V, V58.setRow gh ((B v).toArray) = V := ⟨_, rfl⟩
  have kV69 : Keeps (One gh) V58 V69 := eV69 ▸ (Keeps.refl (One gh) _).setRow (fun _ => (rfl : Own.One gh gh)) _
  have h70 : V69.heap[gh]? = some (.cells ((B v).toArray) 29 (0, 0)) := eV69 ▸ setRow_heap _ _ _ _ _ _ h59
  refine ps_skip (o_KeccakSums 30 6) (w' := V69) (by kernel_rfl) (by kernel_rfl) (by rw [← eV69]; exact exec_store_row 29 (.tmp 13) (.tmp 36) (by kernel_rfl) gh ((B v).toArray) (by kernel_rfl) (by kernel_rfl) 29 (zr_u8_32) h59 (by rw [Bz_size]; first | (rw [hv]; kernel_rfl) | (rw [Kec.sum_len]; kernel_rfl)) (by rw [Bz_size]; first | (rw [hv]; rfl) | (rw [Kec.sum_len]; rfl)) (by rw [List.all_toArray]; exact List.all_eq_true.2 (B_one _))) ?_
  clear eV69
  have h71 : BytesAt V69 (.slice A0 x.length cap0) x := h62.keeps0 kV69 (fun hn j hj e => by have := hx.blockLt hn j hj; unfold Own.One at e; omega)
  have h72 : ListsAt V69 (.slice A ls.length cap) us ls := ListsAt.keepsB h0 h63 kV69 (fun j hj e => by first | exact e.elim | (unfold Own.One at e; omega) | omega)
  have h73 : V69.heap[gs]? = some (.cells (Wz s) 46 (0, 0)) := (kV69.block gs (lt_of_block h64) (fun e => by unfold Own.One at e; omega)).trans h64
  have h74 : BytesAt V69 (.slice (some ⟨g1, 0, none⟩) x.length cap1) x := h65.keeps kV69 (fun j hj e => by simp only [Value.ownBlock, Option.some.injEq] at hj; unfold Own.One at e; omega)
  have h75 : ListsAt V69 cv xs ls := ListsAt.keepsB h43 h66 kV69 (fun j hj e => by first | exact e.elim | (unfold Own.One at e; omega) | omega)
  have K76 : Keeps Nob w V69 := K67.then kV69 (fun i hi hm => absurd hi (by unfold Own.One at hm; omega))
  have z77 := kV69.size
  refine ps_k (o_KeccakSums 30 7) (.int .i64 er) ?_
  refine ps_end ?_
  refine sy_a ⟨#[.slice A0 x.length cap0, cN kd.toNat, .slice A ls.length cap, .string ⟨t.toArray⟩, .agg (Wz s), undef, undef, undef, undef, pT gs 0, .bool false, .slice (some ⟨g1, 0, none⟩) x.length cap1, cv, pT gh 0, .int .i64 er, undef, undef, undef, .slice A0 x.length cap0, .slice (some ⟨gx, 0, none⟩) 1 1, .slice A ls.length cap, v19, .bool false, .bool false, .string ⟨t.toArray⟩, iN t.length, .bool false, .bool false, undef, .slice A0 x.length cap0, .slice (some ⟨g1, 0, none⟩) x.length cap1, .slice A ls.length cap, cv, .tuple #[.agg (B v).toArray, .int .i64 er], .string ⟨t.toArray⟩, .tuple #[.agg (B v).toArray, .int .i64 er], .agg (B v).toArray, .int .i64 er, undef, undef, undef, undef, undef, undef, undef, undef, undef, undef, undef, undef, undef, undef, undef, undef, undef, undef, undef, undef, undef, undef, undef, undef, undef, undef, undef, undef, undef, undef, undef, undef, undef, undef, undef, undef, undef, undef, undef, undef, undef, undef, undef, undef, undef, undef, undef, undef, undef, undef, undef, undef, undef, undef, undef], []⟩ ?_
  refine then_n ?_
  refine sy_sq (part_KeccakSums 62) (part_KeccakSums 63) ?_
  refine sy_reg ?_
  refine rg_plain 5 (opsAt (part_KeccakSums 62)) [0, 1, 2, 3, 4, 5, 6, 7] (by kernel_rfl) (by kernel_rfl) ?_
  refine ps_k (o_KeccakSums 62 0) (.string ⟨t.toArray⟩) ?_
  refine ps_call (o_KeccakSums 62 1) 23 #[.string ⟨t.toArray⟩] (by kernel_rfl) (by kernel_rfl) (by kernel_rfl) (by kernel_rfl) (enters_of Try.func23 (by kernel_rfl) rfl) ((reads_h t v er hr _).mono ?_)
  rintro e V78 ⟨rfl, kV78⟩
  refine ⟨_, rfl, ?_⟩
  have h79 : BytesAt V78 (.slice A0 x.length cap0) x := h71.keepsN kV78
  have h80 : ListsAt V78 (.slice A ls.length cap) us ls := h72.keepsN kV78
  have h81 : V78.heap[gs]? = some (.cells (Wz s) 46 (0, 0)) := (kV78.block gs (lt_of_block h73) (fun x => x)).trans h73
  have h82 : BytesAt V78 (.slice (some ⟨g1, 0, none⟩) x.length cap1) x := h74.keepsN kV78
  have h83 : ListsAt V78 cv xs ls := h75.keepsN kV78
  have h84 : V78.heap[gh]? = some (.cells ((B v).toArray) 29 (0, 0)) := (kV78.block gh (lt_of_block h70) (fun x => x)).trans h70
  have K85 : Keeps Nob w V78 := K76.then kV78 (fun _ _ x => x.elim)
  have z86 := kV78.size
  refine ps_k (o_KeccakSums 62 2) (.tuple #[.agg (B v).toArray, .int .i64 er]) ?_
  refine ps_k (o_KeccakSums 62 3) (.agg (B v).toArray) ?_
  refine ps_k (o_KeccakSums 62 4) (.int .i64 er) ?_
  obtain ⟨V87, eV87⟩ : ∃ V, V78.alloc (.cells (zr_u8_32) 29) = V := ⟨_, rfl⟩
  obtain ⟨gk, egk⟩ : ∃ g, V78.heap.size = g := ⟨_, rfl⟩
  have n89 : gs < gk := egk ▸ lt_of_block h81
  have n90 : gh < gk := egk ▸ lt_of_block h84
  have n91 : w.heap.size ≤ gk := egk ▸ K85.size
  have h88 : V87.heap[gk]? = some (.cells (zr_u8_32) 29 (0, 0)) := by rw [← eV87, ← egk]; exact heap_alloc_new _ _
  have kV87 : Keeps Nob V78 V87 := eV87 ▸ (Keeps.refl _ _).alloc _
  refine ps_run (o_KeccakSums 62 5) (pT gk 0) (w' := V87) (by kernel_rfl) (by kernel_rfl) (by rw [← eV87, ← egk]; exact exec_alloc0 29 (by kernel_rfl) (.agg (zr_u8_32)) (by kernel_rfl)) ?_
  clear eV87
  have h92 : BytesAt V87 (.slice A0 x.length cap0) x := h79.keepsN kV87
  have h93 : ListsAt V87 (.slice A ls.length cap) us ls := h80.keepsN kV87
  have h94 : V87.heap[gs]? = some (.cells (Wz s) 46 (0, 0)) := (kV87.block gs (lt_of_block h81) (fun x => x)).trans h81
  have h95 : BytesAt V87 (.slice (some ⟨g1, 0, none⟩) x.length cap1) x := h82.keepsN kV87
  have h96 : ListsAt V87 cv xs ls := h83.keepsN kV87
  have h97 : V87.heap[gh]? = some (.cells ((B v).toArray) 29 (0, 0)) := (kV87.block gh (lt_of_block h84) (fun x => x)).trans h84
  have K98 : Keeps Nob w V87 := K85.then kV87 (fun _ _ x => x.elim)
  have z99 := kV87.size
  obtain ⟨V100, eV100⟩ : ∃ V, V87.setRow gk ((B v).toArray) = V := ⟨_, rfl⟩
  have kV100 : Keeps (One gk) V87 V100 := eV100 ▸ (Keeps.refl (One gk) _).setRow (fun _ => (rfl : Own.One gk gk)) _
  have h101 : V100.heap[gk]? = some (.cells ((B v).toArray) 29 (0, 0)) := eV100 ▸ setRow_heap _ _ _ _ _ _ h88
  refine ps_skip (o_KeccakSums 62 6) (w' := V100) (by kernel_rfl) (by kernel_rfl) (by rw [← eV100]; exact exec_store_row 29 (.tmp 15) (.tmp 41) (by kernel_rfl) gk ((B v).toArray) (by kernel_rfl) (by kernel_rfl) 29 (zr_u8_32) h88 (by rw [Bz_size]; first | (rw [hv]; kernel_rfl) | (rw [Kec.sum_len]; kernel_rfl)) (by rw [Bz_size]; first | (rw [hv]; rfl) | (rw [Kec.sum_len]; rfl)) (by rw [List.all_toArray]; exact List.all_eq_true.2 (B_one _))) ?_
  clear eV100
  have h102 : BytesAt V100 (.slice A0 x.length cap0) x := h92.keeps0 kV100 (fun hn j hj e => by have := hx.blockLt hn j hj; unfold Own.One at e; omega)
  have h103 : ListsAt V100 (.slice A ls.length cap) us ls := ListsAt.keepsB h0 h93 kV100 (fun j hj e => by first | exact e.elim | (unfold Own.One at e; omega) | omega)
  have h104 : V100.heap[gs]? = some (.cells (Wz s) 46 (0, 0)) := (kV100.block gs (lt_of_block h94) (fun e => by unfold Own.One at e; omega)).trans h94
  have h105 : BytesAt V100 (.slice (some ⟨g1, 0, none⟩) x.length cap1) x := h95.keeps kV100 (fun j hj e => by simp only [Value.ownBlock, Option.some.injEq] at hj; unfold Own.One at e; omega)
  have h106 : ListsAt V100 cv xs ls := ListsAt.keepsB h43 h96 kV100 (fun j hj e => by first | exact e.elim | (unfold Own.One at e; omega) | omega)
  have h107 : V100.heap[gh]? = some (.cells ((B v).toArray) 29 (0, 0)) := (kV100.block gh (lt_of_block h97) (fun e => by unfold Own.One at e; omega)).trans h97
  have K108 : Keeps Nob w V100 := K98.then kV100 (fun i hi hm => absurd hi (by unfold Own.One at hm; omega))
  have z109 := kV100.size
  refine ps_k (o_KeccakSums 62 7) (.int .i64 er) ?_
  refine ps_end ?_
  refine sy_a ⟨#[.slice A0 x.length cap0, cN kd.toNat, .slice A ls.length cap, .string ⟨t.toArray⟩, .agg (Wz s), undef, undef, undef, undef, pT gs 0, .bool false, .slice (some ⟨g1, 0, none⟩) x.length cap1, cv, pT gh 0, .int .i64 er, pT gk 0, .int .i64 er, undef, .slice A0 x.length cap0, .slice (some ⟨gx, 0, none⟩) 1 1, .slice A ls.length cap, v19, .bool false, .bool false, .string ⟨t.toArray⟩, iN t.length, .bool false, .bool false, undef, .slice A0 x.length cap0, .slice (some ⟨g1, 0, none⟩) x.length cap1, .slice A ls.length cap, cv, .tuple #[.agg (B v).toArray, .int .i64 er], .string ⟨t.toArray⟩, .tuple #[.agg (B v).toArray, .int .i64 er], .agg (B v).toArray, .int .i64 er, .tuple #[.agg (B v).toArray, .int .i64 er], .string ⟨t.toArray⟩, .tuple #[.agg (B v).toArray, .int .i64 er], .agg (B v).toArray, .int .i64 er, undef, undef, undef, undef, undef, undef, undef, undef, undef, undef, undef, undef, undef, undef, undef, undef, undef, undef, undef, undef, undef, undef, undef, undef, undef, undef, undef, undef, undef, undef, undef, undef, undef, undef, undef, undef, undef, undef, undef, undef, undef, undef, undef, undef, undef, undef, undef, undef, undef, undef], []⟩ ?_
  refine then_n ?_
  refine sy_sq (part_KeccakSums 126) (part_KeccakSums 127) ?_
  refine sy_reg ?_
  refine rg_plain 6 (opsAt (part_KeccakSums 126)) [0, 1, 2, 3] (by kernel_rfl) (by kernel_rfl) ?_
  refine ps_k (o_KeccakSums 126 0) (.slice A0 x.length cap0) ?_
  refine ps_call (o_KeccakSums 126 1) 20 #[.slice A0 x.length cap0] (by kernel_rfl) (by kernel_rfl) (by kernel_rfl) (by kernel_rfl) (enters_of Try.func20 (by kernel_rfl) rfl) ((hSum_ok x _ _ h102 (by omega)).mono ?_)
  rintro e V110 ⟨rfl, kV110⟩
  refine ⟨_, rfl, ?_⟩
  have h111 : BytesAt V110 (.slice A0 x.length cap0) x := h102.keepsN kV110
  have h112 : ListsAt V110 (.slice A ls.length cap) us ls := h103.keepsN kV110
  have h113 : V110.heap[gs]? = some (.cells (Wz s) 46 (0, 0)) := (kV110.block gs (lt_of_block h104) (fun x => x)).trans h104
  have h114 : BytesAt V110 (.slice (some ⟨g1, 0, none⟩) x.length cap1) x := h105.keepsN kV110
  have h115 : ListsAt V110 cv xs ls := h106.keepsN kV110
  have h116 : V110.heap[gh]? = some (.cells ((B v).toArray) 29 (0, 0)) := (kV110.block gh (lt_of_block h107) (fun x => x)).trans h107
  have h117 : V110.heap[gk]? = some (.cells ((B v).toArray) 29 (0, 0)) := (kV110.block gk (lt_of_block h101) (fun x => x)).trans h101
  have K118 : Keeps Nob w V110 := K108.then kV110 (fun _ _ x => x.elim)
  have z119 := kV110.size
  obtain ⟨V120, eV120⟩ : ∃ V, V110.alloc (.cells (zr_u8_32) 29) = V := ⟨_, rfl⟩
  obtain ⟨gm, egm⟩ : ∃ g, V110.heap.size = g := ⟨_, rfl⟩
  have n122 : gs < gm := egm ▸ lt_of_block h113
  have n123 : gh < gm := egm ▸ lt_of_block h116
  have n124 : gk < gm := egm ▸ lt_of_block h117
  have n125 : w.heap.size ≤ gm := egm ▸ K118.size
  have h121 : V120.heap[gm]? = some (.cells (zr_u8_32) 29 (0, 0)) := by rw [← eV120, ← egm]; exact heap_alloc_new _ _
  have kV120 : Keeps Nob V110 V120 := eV120 ▸ (Keeps.refl _ _).alloc _
  refine ps_run (o_KeccakSums 126 2) (pT gm 0) (w' := V120) (by kernel_rfl) (by kernel_rfl) (by rw [← eV120, ← egm]; exact exec_alloc0 29 (by kernel_rfl) (.agg (zr_u8_32)) (by kernel_rfl)) ?_
  clear eV120
  have h126 : BytesAt V120 (.slice A0 x.length cap0) x := h111.keepsN kV120
  have h127 : ListsAt V120 (.slice A ls.length cap) us ls := h112.keepsN kV120
  have h128 : V120.heap[gs]? = some (.cells (Wz s) 46 (0, 0)) := (kV120.block gs (lt_of_block h113) (fun x => x)).trans h113
  have h129 : BytesAt V120 (.slice (some ⟨g1, 0, none⟩) x.length cap1) x := h114.keepsN kV120
  have h130 : ListsAt V120 cv xs ls := h115.keepsN kV120
  have h131 : V120.heap[gh]? = some (.cells ((B v).toArray) 29 (0, 0)) := (kV120.block gh (lt_of_block h116) (fun x => x)).trans h116
  have h132 : V120.heap[gk]? = some (.cells ((B v).toArray) 29 (0, 0)) := (kV120.block gk (lt_of_block h117) (fun x => x)).trans h117
  have K133 : Keeps Nob w V120 := K118.then kV120 (fun _ _ x => x.elim)
  have z134 := kV120.size
  obtain ⟨V135, eV135⟩ : ∃ V, V120.setRow gm ((B (Kec.sum x)).toArray) = V := ⟨_, rfl⟩
  have kV135 : Keeps (One gm) V120 V135 := eV135 ▸ (Keeps.refl (One gm) _).setRow (fun _ => (rfl : Own.One gm gm)) _
  have h136 : V135.heap[gm]? = some (.cells ((B (Kec.sum x)).toArray) 29 (0, 0)) := eV135 ▸ setRow_heap _ _ _ _ _ _ h121
  refine ps_skip (o_KeccakSums 126 3) (w' := V135) (by kernel_rfl) (by kernel_rfl) (by rw [← eV135]; exact exec_store_row 29 (.tmp 17) (.tmp 44) (by kernel_rfl) gm ((B (Kec.sum x)).toArray) (by kernel_rfl) (by kernel_rfl) 29 (zr_u8_32) h121 (by rw [Bz_size]; first | (rw [hv]; kernel_rfl) | (rw [Kec.sum_len]; kernel_rfl)) (by rw [Bz_size]; first | (rw [hv]; rfl) | (rw [Kec.sum_len]; rfl)) (by rw [List.all_toArray]; exact List.all_eq_true.2 (B_one _))) ?_
  clear eV135
  have h137 : BytesAt V135 (.slice A0 x.length cap0) x := h126.keeps0 kV135 (fun hn j hj e => by have := hx.blockLt hn j hj; unfold Own.One at e; omega)
  have h138 : ListsAt V135 (.slice A ls.length cap) us ls := ListsAt.keepsB h0 h127 kV135 (fun j hj e => by first | exact e.elim | (unfold Own.One at e; omega) | omega)
  have h139 : V135.heap[gs]? = some (.cells (Wz s) 46 (0, 0)) := (kV135.block gs (lt_of_block h128) (fun e => by unfold Own.One at e; omega)).trans h128
  have h140 : BytesAt V135 (.slice (some ⟨g1, 0, none⟩) x.length cap1) x := h129.keeps kV135 (fun j hj e => by simp only [Value.ownBlock, Option.some.injEq] at hj; unfold Own.One at e; omega)
  have h141 : ListsAt V135 cv xs ls := ListsAt.keepsB h43 h130 kV135 (fun j hj e => by first | exact e.elim | (unfold Own.One at e; omega) | omega)
  have h142 : V135.heap[gh]? = some (.cells ((B v).toArray) 29 (0, 0)) := (kV135.block gh (lt_of_block h131) (fun e => by unfold Own.One at e; omega)).trans h131
  have h143 : V135.heap[gk]? = some (.cells ((B v).toArray) 29 (0, 0)) := (kV135.block gk (lt_of_block h132) (fun e => by unfold Own.One at e; omega)).trans h132
  have K144 : Keeps Nob w V135 := K133.then kV135 (fun i hi hm => absurd hi (by unfold Own.One at hm; omega))
  have z145 := kV135.size
  refine ps_end ?_
  refine sy_a ⟨#[.slice A0 x.length cap0, cN kd.toNat, .slice A ls.length cap, .string ⟨t.toArray⟩, .agg (Wz s), undef, undef, undef, undef, pT gs 0, .bool false, .slice (some ⟨g1, 0, none⟩) x.length cap1, cv, pT gh 0, .int .i64 er, pT gk 0, .int .i64 er, pT gm 0, .slice A0 x.length cap0, .slice (some ⟨gx, 0, none⟩) 1 1, .slice A ls.length cap, v19, .bool false, .bool false, .string ⟨t.toArray⟩, iN t.length, .bool false, .bool false, undef, .slice A0 x.length cap0, .slice (some ⟨g1, 0, none⟩) x.length cap1, .slice A ls.length cap, cv, .tuple #[.agg (B v).toArray, .int .i64 er], .string ⟨t.toArray⟩, .tuple #[.agg (B v).toArray, .int .i64 er], .agg (B v).toArray, .int .i64 er, .tuple #[.agg (B v).toArray, .int .i64 er], .string ⟨t.toArray⟩, .tuple #[.agg (B v).toArray, .int .i64 er], .agg (B v).toArray, .int .i64 er, .slice A0 x.length cap0, .agg (B (Kec.sum x)).toArray, undef, undef, undef, undef, undef, undef, undef, undef, undef, undef, undef, undef, undef, undef, undef, undef, undef, undef, undef, undef, undef, undef, undef, undef, undef, undef, undef, undef, undef, undef, undef, undef, undef, undef, undef, undef, undef, undef, undef, undef, undef, undef, undef, undef, undef, undef, undef, undef], []⟩ ?_
  refine then_n ?_
  refine sy_sq (part_KeccakSums 254) (part_KeccakSums 255) ?_
  refine sy_sq (part_KeccakSums 508) (part_KeccakSums 509) ?_
  refine sy_np ?_
  refine sy_reg ?_
  refine an_begin 7 37 (opsAt (part_KeccakSums 508)) (fun W => (W.heap[gs]? = some (.cells (Wz s) 46 (0, 0))) ∧ (W.heap[gh]? = some (.cells ((B v).toArray) 29 (0, 0))) ∧ (W.heap[gk]? = some (.cells ((B v).toArray) 29 (0, 0))) ∧ (W.heap[gm]? = some (.cells ((B (Kec.sum x)).toArray) 29 (0, 0)))) #[false, false, false, false, false, false, false, false, false, false, false, false, false, false, false, false, false, false, false, false, false, false, false, false, false, false, false, false, false, false, false, false, false, false, false, false, false] (by kernel_rfl) (by kernel_rfl) (by kernel_rfl) (by kernel_rfl) ?_
  obtain ⟨V146, eV146⟩ : ∃ V, V135.drew = V := ⟨_, rfl⟩
  have kV146 : Keeps Nob V135 V146 := eV146 ▸ (Keeps.refl _ _).drew
  rw [eV146]
  clear eV146
  have h147 : BytesAt V146 (.slice A0 x.length cap0) x := h137.keepsN kV146
  have h148 : ListsAt V146 (.slice A ls.length cap) us ls := h138.keepsN kV146
  have h149 : V146.heap[gs]? = some (.cells (Wz s) 46 (0, 0)) := (kV146.block gs (lt_of_block h139) (fun x => x)).trans h139
  have h150 : BytesAt V146 (.slice (some ⟨g1, 0, none⟩) x.length cap1) x := h140.keepsN kV146
  have h151 : ListsAt V146 cv xs ls := h141.keepsN kV146
  have h152 : V146.heap[gh]? = some (.cells ((B v).toArray) 29 (0, 0)) := (kV146.block gh (lt_of_block h142) (fun x => x)).trans h142
  have h153 : V146.heap[gk]? = some (.cells ((B v).toArray) 29 (0, 0)) := (kV146.block gk (lt_of_block h143) (fun x => x)).trans h143
  have h154 : V146.heap[gm]? = some (.cells ((B (Kec.sum x)).toArray) 29 (0, 0)) := (kV146.block gm (lt_of_block h136) (fun x => x)).trans h136
  have K155 : Keeps Nob w V146 := K144.then kV146 (fun _ _ x => x.elim)
  have z156 := kV146.size
  refine an_val 0 (o_KeccakSums 508 0) (.slice (some ⟨g1, 0, none⟩) x.length cap1) (by kernel_rfl) (by kernel_rfl) (by kernel_rfl) (by kernel_rfl) (by kernel_rfl) (fun W hS => by kernel_rfl) ⟨h149, h152, h153, h154⟩ ?_
  refine an_val 2 (o_KeccakSums 508 2) (.agg ((B (Kec.sum x)).toArray)) (by kernel_rfl) (by kernel_rfl) (by kernel_rfl) (by kernel_rfl) (by kernel_rfl) (fun W hS => exec_load_row 29 (.tmp 17) (by kernel_rfl) gm (by kernel_rfl) _ _ (0, 0) _ (hS.2.2.2) Try.underlying29 rfl (by rw [Bz_size, (Kec.sum_len _)]; kernel_rfl)) ⟨h149, h152, h153, h154⟩ ?_
  refine an_one 1 (by kernel_rfl) ?_
  refine on_call (o_KeccakSums 508 1) 24 #[.slice (some ⟨g1, 0, none⟩) x.length cap1] (by kernel_rfl) (by kernel_rfl) (by kernel_rfl) (by kernel_rfl) (enters_of Try.func24 (by kernel_rfl) rfl) ((kSum_ok x _ _ _ h150 (by omega)).mono ?_)
  rintro e V157 ⟨rfl, kV157⟩
  refine ⟨_, rfl, ?_⟩
  have h158 : BytesAt V157 (.slice A0 x.length cap0) x := h147.keepsN kV157
  have h159 : ListsAt V157 (.slice A ls.length cap) us ls := h148.keepsN kV157
  have h160 : V157.heap[gs]? = some (.cells (Wz s) 46 (0, 0)) := (kV157.block gs (lt_of_block h149) (fun x => x)).trans h149
  have h161 : BytesAt V157 (.slice (some ⟨g1, 0, none⟩) x.length cap1) x := h150.keepsN kV157
  have h162 : ListsAt V157 cv xs ls := h151.keepsN kV157
  have h163 : V157.heap[gh]? = some (.cells ((B v).toArray) 29 (0, 0)) := (kV157.block gh (lt_of_block h152) (fun x => x)).trans h152
  have h164 : V157.heap[gk]? = some (.cells ((B v).toArray) 29 (0, 0)) := (kV157.block gk (lt_of_block h153) (fun x => x)).trans h153
  have h165 : V157.heap[gm]? = some (.cells ((B (Kec.sum x)).toArray) 29 (0, 0)) := (kV157.block gm (lt_of_block h154) (fun x => x)).trans h154
  have K166 : Keeps Nob w V157 := K155.then kV157 (fun _ _ x => x.elim)
  have z167 := kV157.size
  refine ⟨⟨h160, h163, h164, h165⟩, ?_⟩
  refine an_val 3 (o_KeccakSums 508 3) (.bool false) (by kernel_rfl) (by kernel_rfl) (by kernel_rfl) (by kernel_rfl) (by kernel_rfl) (fun W hS => exec_cast (congrArg Value.bool (by simp)) (exec_binop .neq 29 29 (.tmp 46) (.tmp 47) (by kernel_rfl) (.agg (B (Kec.sum x)).toArray) (.agg (B (Kec.sum x)).toArray) _ (by kernel_rfl) (by kernel_rfl) (run_eqGuard_agg _ _ _ _ _ _ _ khash_guard) (khash_neq (Kec.sum x) (Kec.sum x) (Kec.sum_len _) (Kec.sum_len _) _))) ⟨h160, h163, h164, h165⟩ ?_
  refine an_val 4 (o_KeccakSums 508 4) (.bool false) (by kernel_rfl) (by kernel_rfl) (by kernel_rfl) (by kernel_rfl) (by kernel_rfl) (fun W hS => by kernel_rfl) ⟨h160, h163, h164, h165⟩ ?_
  refine an_val 5 (o_KeccakSums 508 5) (cN kd.toNat) (by kernel_rfl) (by kernel_rfl) (by kernel_rfl) (by kernel_rfl) (by kernel_rfl) (fun W hS => by kernel_rfl) ⟨h160, h163, h164, h165⟩ ?_
  refine an_val 6 (o_KeccakSums 508 6) (cv) (by kernel_rfl) (by kernel_rfl) (by kernel_rfl) (by kernel_rfl) (by kernel_rfl) (fun W hS => by kernel_rfl) ⟨h160, h163, h164, h165⟩ ?_
  refine an_val 8 (o_KeccakSums 508 8) (cN kd.toNat) (by kernel_rfl) (by kernel_rfl) (by kernel_rfl) (by kernel_rfl) (by kernel_rfl) (fun W hS => by kernel_rfl) ⟨h160, h163, h164, h165⟩ ?_
  refine an_val 9 (o_KeccakSums 508 9) (.slice A ls.length cap) (by kernel_rfl) (by kernel_rfl) (by kernel_rfl) (by kernel_rfl) (by kernel_rfl) (fun W hS => by kernel_rfl) ⟨h160, h163, h164, h165⟩ ?_
  refine an_one 7 (by kernel_rfl) ?_
  refine on_call (o_KeccakSums 508 7) 25 #[cN kd.toNat, cv] (by kernel_rfl) (by kernel_rfl) (by kernel_rfl) (by kernel_rfl) (enters_of Try.func25 (by kernel_rfl) rfl) ((kJoin_any kd _ _ ls _ h162 (by omega) (by omega)).mono ?_)
  rintro e V168 ⟨rfl, kV168⟩
  refine ⟨_, rfl, ?_⟩
  have h169 : BytesAt V168 (.slice A0 x.length cap0) x := h158.keepsN kV168
  have h170 : ListsAt V168 (.slice A ls.length cap) us ls := h159.keepsN kV168
  have h171 : V168.heap[gs]? = some (.cells (Wz s) 46 (0, 0)) := (kV168.block gs (lt_of_block h160) (fun x => x)).trans h160
  have h172 : BytesAt V168 (.slice (some ⟨g1, 0, none⟩) x.length cap1) x := h161.keepsN kV168
  have h173 : ListsAt V168 cv xs ls := h162.keepsN kV168
  have h174 : V168.heap[gh]? = some (.cells ((B v).toArray) 29 (0, 0)) := (kV168.block gh (lt_of_block h163) (fun x => x)).trans h163
  have h175 : V168.heap[gk]? = some (.cells ((B v).toArray) 29 (0, 0)) := (kV168.block gk (lt_of_block h164) (fun x => x)).trans h164
  have h176 : V168.heap[gm]? = some (.cells ((B (Kec.sum x)).toArray) 29 (0, 0)) := (kV168.block gm (lt_of_block h165) (fun x => x)).trans h165
  have K177 : Keeps Nob w V168 := K166.then kV168 (fun _ _ x => x.elim)
  have z178 := kV168.size
  refine ⟨⟨h171, h174, h175, h176⟩, ?_⟩
  refine an_one 10 (by kernel_rfl) ?_
  refine on_call (o_KeccakSums 508 10) 26 #[cN kd.toNat, .slice A ls.length cap] (by kernel_rfl) (by kernel_rfl) (by kernel_rfl) (by kernel_rfl) (enters_of Try.func26 (by kernel_rfl) rfl) ((hJoin_ok kd _ _ _ ls _ h170 (by omega) (by omega)).mono ?_)
  rintro e V179 ⟨rfl, kV179⟩
  refine ⟨_, rfl, ?_⟩
  have h180 : BytesAt V179 (.slice A0 x.length cap0) x := h169.keepsN kV179
  have h181 : ListsAt V179 (.slice A ls.length cap) us ls := h170.keepsN kV179
  have h182 : V179.heap[gs]? = some (.cells (Wz s) 46 (0, 0)) := (kV179.block gs (lt_of_block h171) (fun x => x)).trans h171
  have h183 : BytesAt V179 (.slice (some ⟨g1, 0, none⟩) x.length cap1) x := h172.keepsN kV179
  have h184 : ListsAt V179 cv xs ls := h173.keepsN kV179
  have h185 : V179.heap[gh]? = some (.cells ((B v).toArray) 29 (0, 0)) := (kV179.block gh (lt_of_block h174) (fun x => x)).trans h174
  have h186 : V179.heap[gk]? = some (.cells ((B v).toArray) 29 (0, 0)) := (kV179.block gk (lt_of_block h175) (fun x => x)).trans h175
  have h187 : V179.heap[gm]? = some (.cells ((B (Kec.sum x)).toArray) 29 (0, 0)) := (kV179.block gm (lt_of_block h176) (fun x => x)).trans h176
  have K188 : Keeps Nob w V179 := K177.then kV179 (fun _ _ x => x.elim)
  have z189 := kV179.size
  refine ⟨⟨h182, h185, h186, h187⟩, ?_⟩
  refine an_val 11 (o_KeccakSums 508 11) (.bool false) (by kernel_rfl) (by kernel_rfl) (by kernel_rfl) (by kernel_rfl) (by kernel_rfl) (fun W hS => exec_cast (congrArg Value.bool (by simp)) (exec_binop .neq 29 29 (.tmp 52) (.tmp 55) (by kernel_rfl) (.agg (B (Kec.join kd ls)).toArray) (.agg (B (Kec.join kd ls)).toArray) _ (by kernel_rfl) (by kernel_rfl) (run_eqGuard_agg _ _ _ _ _ _ _ khash_guard) (khash_neq (Kec.join kd ls) (Kec.join kd ls) join_len join_len _))) ⟨h182, h185, h186, h187⟩ ?_
  refine an_val 12 (o_KeccakSums 508 12) (.bool false) (by kernel_rfl) (by kernel_rfl) (by kernel_rfl) (by kernel_rfl) (by kernel_rfl) (fun W hS => by kernel_rfl) ⟨h182, h185, h186, h187⟩ ?_
  refine an_val 13 (o_KeccakSums 508 13) (.bool false) (by kernel_rfl) (by kernel_rfl) (by kernel_rfl) (by kernel_rfl) (by kernel_rfl) (fun W hS => by kernel_rfl) ⟨h182, h185, h186, h187⟩ ?_
  refine an_val 14 (o_KeccakSums 508 14) (.agg ((B v).toArray)) (by kernel_rfl) (by kernel_rfl) (by kernel_rfl) (by kernel_rfl) (by kernel_rfl) (fun W hS => exec_load_row 29 (.tmp 13) (by kernel_rfl) gh (by kernel_rfl) _ _ (0, 0) _ (hS.2.1) Try.underlying29 rfl (by rw [Bz_size, hv]; kernel_rfl)) ⟨h182, h185, h186, h187⟩ ?_
  refine an_val 15 (o_KeccakSums 508 15) (.agg ((B v).toArray)) (by kernel_rfl) (by kernel_rfl) (by kernel_rfl) (by kernel_rfl) (by kernel_rfl) (fun W hS => exec_load_row 29 (.tmp 15) (by kernel_rfl) gk (by kernel_rfl) _ _ (0, 0) _ (hS.2.2.1) Try.underlying29 rfl (by rw [Bz_size, hv]; kernel_rfl)) ⟨h182, h185, h186, h187⟩ ?_
  refine an_val 16 (o_KeccakSums 508 16) (.bool false) (by kernel_rfl) (by kernel_rfl) (by kernel_rfl) (by kernel_rfl) (by kernel_rfl) (fun W hS => exec_cast (congrArg Value.bool (by simp)) (exec_binop .neq 29 29 (.tmp 59) (.tmp 60) (by kernel_rfl) (.agg (B v).toArray) (.agg (B v).toArray) _ (by kernel_rfl) (by kernel_rfl) (run_eqGuard_agg _ _ _ _ _ _ _ khash_guard) (khash_neq v v hv hv _))) ⟨h182, h185, h186, h187⟩ ?_
  refine an_val 17 (o_KeccakSums 508 17) (.bool false) (by kernel_rfl) (by kernel_rfl) (by kernel_rfl) (by kernel_rfl) (by kernel_rfl) (fun W hS => by kernel_rfl) ⟨h182, h185, h186, h187⟩ ?_
  refine an_val 18 (o_KeccakSums 508 18) (.bool false) (by kernel_rfl) (by kernel_rfl) (by kernel_rfl) (by kernel_rfl) (by kernel_rfl) (fun W hS => by kernel_rfl) ⟨h182, h185, h186, h187⟩ ?_
  refine an_val 19 (o_KeccakSums 508 19) (.int .i64 er) (by kernel_rfl) (by kernel_rfl) (by kernel_rfl) (by kernel_rfl) (by kernel_rfl) (fun W hS => by kernel_rfl) ⟨h182, h185, h186, h187⟩ ?_
  refine an_val 20 (o_KeccakSums 508 20) (.int .i64 er) (by kernel_rfl) (by kernel_rfl) (by kernel_rfl) (by kernel_rfl) (by kernel_rfl) (fun W hS => by kernel_rfl) ⟨h182, h185, h186, h187⟩ ?_
  refine an_val 21 (o_KeccakSums 508 21) (.bool false) (by kernel_rfl) (by kernel_rfl) (by kernel_rfl) (by kernel_rfl) (by kernel_rfl) (fun W hS => exec_cast (congrArg Value.bool (show ((((er) : Int) != ((er) : Int))) = false from by simp)) (by kernel_rfl)) ⟨h182, h185, h186, h187⟩ ?_
  refine an_val 22 (o_KeccakSums 508 22) (.bool false) (by kernel_rfl) (by kernel_rfl) (by kernel_rfl) (by kernel_rfl) (by kernel_rfl) (fun W hS => by kernel_rfl) ⟨h182, h185, h186, h187⟩ ?_
  refine an_val 23 (o_KeccakSums 508 23) (.bool false) (by kernel_rfl) (by kernel_rfl) (by kernel_rfl) (by kernel_rfl) (by kernel_rfl) (fun W hS => by kernel_rfl) ⟨h182, h185, h186, h187⟩ ?_
  refine an_val 24 (o_KeccakSums 508 24) (.agg ((B (Kec.sum x)).toArray)) (by kernel_rfl) (by kernel_rfl) (by kernel_rfl) (by kernel_rfl) (by kernel_rfl) (fun W hS => exec_load_row 29 (.tmp 17) (by kernel_rfl) gm (by kernel_rfl) _ _ (0, 0) _ (hS.2.2.2) Try.underlying29 rfl (by rw [Bz_size, (Kec.sum_len _)]; kernel_rfl)) ⟨h182, h185, h186, h187⟩ ?_
  refine an_val 26 (o_KeccakSums 508 26) (.agg ((B (Kec.sum x)).toArray)) (by kernel_rfl) (by kernel_rfl) (by kernel_rfl) (by kernel_rfl) (by kernel_rfl) (fun W hS => exec_load_row 29 (.tmp 17) (by kernel_rfl) gm (by kernel_rfl) _ _ (0, 0) _ (hS.2.2.2) Try.underlying29 rfl (by rw [Bz_size, (Kec.sum_len _)]; kernel_rfl)) ⟨h182, h185, h186, h187⟩ ?_
  refine an_one 25 (by kernel_rfl) ?_
  refine on_call (o_KeccakSums 508 25) 27 #[.agg ((B (Kec.sum x)).toArray)] (by kernel_rfl) (by kernel_rfl) (by kernel_rfl) (by kernel_rfl) (enters_of Try.func27 (by kernel_rfl) rfl) ((kText_ok (Kec.sum x) _ (Kec.sum_len _)).mono ?_)
  rintro e V190 ⟨rfl, kV190⟩
  refine ⟨_, rfl, ?_⟩
  have h191 : BytesAt V190 (.slice A0 x.length cap0) x := h180.keepsN kV190
  have h192 : ListsAt V190 (.slice A ls.length cap) us ls := h181.keepsN kV190
  have h193 : V190.heap[gs]? = some (.cells (Wz s) 46 (0, 0)) := (kV190.block gs (lt_of_block h182) (fun x => x)).trans h182
  have h194 : BytesAt V190 (.slice (some ⟨g1, 0, none⟩) x.length cap1) x := h183.keepsN kV190
  have h195 : ListsAt V190 cv xs ls := h184.keepsN kV190
  have h196 : V190.heap[gh]? = some (.cells ((B v).toArray) 29 (0, 0)) := (kV190.block gh (lt_of_block h185) (fun x => x)).trans h185
  have h197 : V190.heap[gk]? = some (.cells ((B v).toArray) 29 (0, 0)) := (kV190.block gk (lt_of_block h186) (fun x => x)).trans h186
  have h198 : V190.heap[gm]? = some (.cells ((B (Kec.sum x)).toArray) 29 (0, 0)) := (kV190.block gm (lt_of_block h187) (fun x => x)).trans h187
  have K199 : Keeps Nob w V190 := K188.then kV190 (fun _ _ x => x.elim)
  have z200 := kV190.size
  refine ⟨⟨h193, h196, h197, h198⟩, ?_⟩
  refine an_one 27 (by kernel_rfl) ?_
  refine on_call (o_KeccakSums 508 27) 28 #[.agg ((B (Kec.sum x)).toArray)] (by kernel_rfl) (by kernel_rfl) (by kernel_rfl) (by kernel_rfl) (enters_of Try.func28 (by kernel_rfl) rfl) ((hText_ok (Kec.sum x) _ (Kec.sum_len _)).mono ?_)
  rintro e V201 ⟨rfl, kV201⟩
  refine ⟨_, rfl, ?_⟩
  have h202 : BytesAt V201 (.slice A0 x.length cap0) x := h191.keepsN kV201
  have h203 : ListsAt V201 (.slice A ls.length cap) us ls := h192.keepsN kV201
  have h204 : V201.heap[gs]? = some (.cells (Wz s) 46 (0, 0)) := (kV201.block gs (lt_of_block h193) (fun x => x)).trans h193
  have h205 : BytesAt V201 (.slice (some ⟨g1, 0, none⟩) x.length cap1) x := h194.keepsN kV201
  have h206 : ListsAt V201 cv xs ls := h195.keepsN kV201
  have h207 : V201.heap[gh]? = some (.cells ((B v).toArray) 29 (0, 0)) := (kV201.block gh (lt_of_block h196) (fun x => x)).trans h196
  have h208 : V201.heap[gk]? = some (.cells ((B v).toArray) 29 (0, 0)) := (kV201.block gk (lt_of_block h197) (fun x => x)).trans h197
  have h209 : V201.heap[gm]? = some (.cells ((B (Kec.sum x)).toArray) 29 (0, 0)) := (kV201.block gm (lt_of_block h198) (fun x => x)).trans h198
  have K210 : Keeps Nob w V201 := K199.then kV201 (fun _ _ x => x.elim)
  have z211 := kV201.size
  refine ⟨⟨h204, h207, h208, h209⟩, ?_⟩
  refine an_val 28 (o_KeccakSums 508 28) (.bool false) (by kernel_rfl) (by kernel_rfl) (by kernel_rfl) (by kernel_rfl) (by kernel_rfl) (fun W hS => exec_binop .neq 9 9 (.tmp 70) (.tmp 72) (by kernel_rfl) (.string ⟨(hexOf (Kec.sum x)).toArray⟩) (.string ⟨(hexOf (Kec.sum x)).toArray⟩) _ (by kernel_rfl) (by kernel_rfl) (by kernel_rfl) (neq_strs _ _)) ⟨h204, h207, h208, h209⟩ ?_
  refine an_val 29 (o_KeccakSums 508 29) (.bool false) (by kernel_rfl) (by kernel_rfl) (by kernel_rfl) (by kernel_rfl) (by kernel_rfl) (fun W hS => by kernel_rfl) ⟨h204, h207, h208, h209⟩ ?_
  refine an_val 30 (o_KeccakSums 508 30) (.bool false) (by kernel_rfl) (by kernel_rfl) (by kernel_rfl) (by kernel_rfl) (by kernel_rfl) (fun W hS => by kernel_rfl) ⟨h204, h207, h208, h209⟩ ?_
  refine an_val 31 (o_KeccakSums 508 31) (.agg (Wz s)) (by kernel_rfl) (by kernel_rfl) (by kernel_rfl) (by kernel_rfl) (by kernel_rfl) (fun W hS => exec_load_row 46 (.tmp 9) (by kernel_rfl) gs (by kernel_rfl) _ _ (0, 0) _ (hS.1) Try.underlying46 rfl (by rw [Wz_size, hs]; kernel_rfl)) ⟨h204, h207, h208, h209⟩ ?_
  refine an_val 33 (o_KeccakSums 508 33) (.agg (Wz s)) (by kernel_rfl) (by kernel_rfl) (by kernel_rfl) (by kernel_rfl) (by kernel_rfl) (fun W hS => exec_load_row 46 (.tmp 9) (by kernel_rfl) gs (by kernel_rfl) _ _ (0, 0) _ (hS.1) Try.underlying46 rfl (by rw [Wz_size, hs]; kernel_rfl)) ⟨h204, h207, h208, h209⟩ ?_
  refine an_one 32 (by kernel_rfl) ?_
  refine on_call (o_KeccakSums 508 32) 29 #[.agg (Wz s)] (by kernel_rfl) (by kernel_rfl) (by kernel_rfl) (by kernel_rfl) (enters_of Try.func29 (by kernel_rfl) rfl) ((kPermute_ok s _ hs ws).mono ?_)
  rintro e V212 ⟨rfl, kV212⟩
  refine ⟨_, rfl, ?_⟩
  have h213 : BytesAt V212 (.slice A0 x.length cap0) x := h202.keepsN kV212
  have h214 : ListsAt V212 (.slice A ls.length cap) us ls := h203.keepsN kV212
  have h215 : V212.heap[gs]? = some (.cells (Wz s) 46 (0, 0)) := (kV212.block gs (lt_of_block h204) (fun x => x)).trans h204
  have h216 : BytesAt V212 (.slice (some ⟨g1, 0, none⟩) x.length cap1) x := h205.keepsN kV212
  have h217 : ListsAt V212 cv xs ls := h206.keepsN kV212
  have h218 : V212.heap[gh]? = some (.cells ((B v).toArray) 29 (0, 0)) := (kV212.block gh (lt_of_block h207) (fun x => x)).trans h207
  have h219 : V212.heap[gk]? = some (.cells ((B v).toArray) 29 (0, 0)) := (kV212.block gk (lt_of_block h208) (fun x => x)).trans h208
  have h220 : V212.heap[gm]? = some (.cells ((B (Kec.sum x)).toArray) 29 (0, 0)) := (kV212.block gm (lt_of_block h209) (fun x => x)).trans h209
  have K221 : Keeps Nob w V212 := K210.then kV212 (fun _ _ x => x.elim)
  have z222 := kV212.size
  refine ⟨⟨h215, h218, h219, h220⟩, ?_⟩
  refine an_one 34 (by kernel_rfl) ?_
  refine on_call (o_KeccakSums 508 34) 30 #[.agg (Wz s)] (by kernel_rfl) (by kernel_rfl) (by kernel_rfl) (by kernel_rfl) (enters_of Try.func30 (by kernel_rfl) rfl) ((hPermute_ok s _ hs ws).mono ?_)
  rintro e V223 ⟨rfl, kV223⟩
  refine ⟨_, rfl, ?_⟩
  have h224 : BytesAt V223 (.slice A0 x.length cap0) x := h213.keepsN kV223
  have h225 : ListsAt V223 (.slice A ls.length cap) us ls := h214.keepsN kV223
  have h226 : V223.heap[gs]? = some (.cells (Wz s) 46 (0, 0)) := (kV223.block gs (lt_of_block h215) (fun x => x)).trans h215
  have h227 : BytesAt V223 (.slice (some ⟨g1, 0, none⟩) x.length cap1) x := h216.keepsN kV223
  have h228 : ListsAt V223 cv xs ls := h217.keepsN kV223
  have h229 : V223.heap[gh]? = some (.cells ((B v).toArray) 29 (0, 0)) := (kV223.block gh (lt_of_block h218) (fun x => x)).trans h218
  have h230 : V223.heap[gk]? = some (.cells ((B v).toArray) 29 (0, 0)) := (kV223.block gk (lt_of_block h219) (fun x => x)).trans h219
  have h231 : V223.heap[gm]? = some (.cells ((B (Kec.sum x)).toArray) 29 (0, 0)) := (kV223.block gm (lt_of_block h220) (fun x => x)).trans h220
  have K232 : Keeps Nob w V223 := K221.then kV223 (fun _ _ x => x.elim)
  have z233 := kV223.size
  refine ⟨⟨h226, h229, h230, h231⟩, ?_⟩
  refine an_val 35 (o_KeccakSums 508 35) (.bool false) (by kernel_rfl) (by kernel_rfl) (by kernel_rfl) (by kernel_rfl) (by kernel_rfl) (fun W hS => exec_cast (congrArg Value.bool (by simp)) (exec_binop .neq 46 46 (.tmp 77) (.tmp 79) (by kernel_rfl) (.agg (Wz (Kec.perm s))) (.agg (Wz (Kec.perm s))) _ (by kernel_rfl) (by kernel_rfl) (run_eqGuard_agg _ _ _ _ _ _ _ w25_guard) (neq25 (Kec.perm s) (Kec.perm s) (Kec.len_perm hs) (Kec.len_perm hs) _))) ⟨h226, h229, h230, h231⟩ ?_
  refine an_val 36 (o_KeccakSums 508 36) (.bool false) (by kernel_rfl) (by kernel_rfl) (by kernel_rfl) (by kernel_rfl) (by kernel_rfl) (fun W hS => by kernel_rfl) ⟨h226, h229, h230, h231⟩ ?_
  refine an_end (by kernel_rfl) ?_
  refine sy_a ⟨#[.slice A0 x.length cap0, cN kd.toNat, .slice A ls.length cap, .string ⟨t.toArray⟩, .agg (Wz s), undef, undef, undef, undef, pT gs 0, .bool false, .slice (some ⟨g1, 0, none⟩) x.length cap1, cv, pT gh 0, .int .i64 er, pT gk 0, .int .i64 er, pT gm 0, .slice A0 x.length cap0, .slice (some ⟨gx, 0, none⟩) 1 1, .slice A ls.length cap, v19, .bool false, .bool false, .string ⟨t.toArray⟩, iN t.length, .bool false, .bool false, undef, .slice A0 x.length cap0, .slice (some ⟨g1, 0, none⟩) x.length cap1, .slice A ls.length cap, cv, .tuple #[.agg (B v).toArray, .int .i64 er], .string ⟨t.toArray⟩, .tuple #[.agg (B v).toArray, .int .i64 er], .agg (B v).toArray, .int .i64 er, .tuple #[.agg (B v).toArray, .int .i64 er], .string ⟨t.toArray⟩, .tuple #[.agg (B v).toArray, .int .i64 er], .agg (B v).toArray, .int .i64 er, .slice A0 x.length cap0, .agg (B (Kec.sum x)).toArray, .slice (some ⟨g1, 0, none⟩) x.length cap1, .agg (B (Kec.sum x)).toArray, .agg ((B (Kec.sum x)).toArray), .bool false, .bool false, cN kd.toNat, cv, .agg (B (Kec.join kd ls)).toArray, cN kd.toNat, .slice A ls.length cap, .agg (B (Kec.join kd ls)).toArray, .bool false, .bool false, .bool false, .agg ((B v).toArray), .agg ((B v).toArray), .bool false, .bool false, .bool false, .int .i64 er, .int .i64 er, .bool false, .bool false, .bool false, .agg ((B (Kec.sum x)).toArray), .string ⟨(hexOf (Kec.sum x)).toArray⟩, .agg ((B (Kec.sum x)).toArray), .string ⟨(hexOf (Kec.sum x)).toArray⟩, .bool false, .bool false, .bool false, .agg (Wz s), .agg (Wz (Kec.perm s)), .agg (Wz s), .agg (Wz (Kec.perm s)), .bool false, .bool false, undef, undef, undef, undef, undef, undef, undef, undef, undef, undef, undef], []⟩ ?_
  refine then_n ?_
  refine sy_n (.tmp 81) (part_KeccakSums 1018) (part_KeccakSums 1019) ?_
  refine sy_sk ?_
  refine then_n ?_
  refine sy_sq (part_KeccakSums 510) (part_KeccakSums 511) ?_
  refine sy_reg ?_
  refine rg_plain 9 (opsAt (part_KeccakSums 510)) [0, 1, 2, 3, 4, 5, 6, 7, 8, 9, 10, 11] (by kernel_rfl) (by kernel_rfl) ?_
  refine ps_k (o_KeccakSums 510 0) (.slice (some ⟨g1, 0, none⟩) x.length cap1) ?_
  refine ps_k (o_KeccakSums 510 1) (.slice A0 x.length cap0) ?_
  refine ps_call (o_KeccakSums 510 2) 31 #[.slice (some ⟨g1, 0, none⟩) x.length cap1, .slice A0 x.length cap0] (by kernel_rfl) (by kernel_rfl) (by kernel_rfl) (by kernel_rfl) (enters_of Try.func31 (by kernel_rfl) rfl) ((sameBytes_same h227 h224 rfl).mono ?_)
  rintro e w1 ⟨rfl, rfl⟩
  refine ⟨_, rfl, ?_⟩
  refine ps_k (o_KeccakSums 510 3) (.bool true) ?_
  refine ps_k (o_KeccakSums 510 4) (cv) ?_
  refine ps_k (o_KeccakSums 510 5) (.slice A ls.length cap) ?_
  refine ps_call (o_KeccakSums 510 6) 32 #[cv, .slice A ls.length cap] (by kernel_rfl) (by kernel_rfl) (by kernel_rfl) (by kernel_rfl) (enters_of Try.func32 (by kernel_rfl) rfl) ((kSameLists_any _ _ _ _ ls _ h228 h225).mono ?_)
  rintro e V234 ⟨rfl, kV234⟩
  refine ⟨_, rfl, ?_⟩
  have h235 : BytesAt V234 (.slice A0 x.length cap0) x := h224.keepsN kV234
  have h236 : ListsAt V234 (.slice A ls.length cap) us ls := h225.keepsN kV234
  have h237 : V234.heap[gs]? = some (.cells (Wz s) 46 (0, 0)) := (kV234.block gs (lt_of_block h226) (fun x => x)).trans h226
  have h238 : BytesAt V234 (.slice (some ⟨g1, 0, none⟩) x.length cap1) x := h227.keepsN kV234
  have h239 : ListsAt V234 cv xs ls := h228.keepsN kV234
  have h240 : V234.heap[gh]? = some (.cells ((B v).toArray) 29 (0, 0)) := (kV234.block gh (lt_of_block h229) (fun x => x)).trans h229
  have h241 : V234.heap[gk]? = some (.cells ((B v).toArray) 29 (0, 0)) := (kV234.block gk (lt_of_block h230) (fun x => x)).trans h230
  have h242 : V234.heap[gm]? = some (.cells ((B (Kec.sum x)).toArray) 29 (0, 0)) := (kV234.block gm (lt_of_block h231) (fun x => x)).trans h231
  have K243 : Keeps Nob w V234 := K232.then kV234 (fun _ _ x => x.elim)
  have z244 := kV234.size
  refine ps_k (o_KeccakSums 510 7) (.bool true) ?_
  refine ps_k (o_KeccakSums 510 8) (.bool true) ?_
  refine ps_call (o_KeccakSums 510 9) 14 #[] (by kernel_rfl) (by kernel_rfl) (by kernel_rfl) (by kernel_rfl) (enters_of Try.func14 (by kernel_rfl) rfl) ((lawake_ok _).mono ?_)
  rintro e V245 ⟨rfl, kV245⟩
  refine ⟨_, rfl, ?_⟩
  have h246 : BytesAt V245 (.slice A0 x.length cap0) x := h235.keepsN kV245
  have h247 : ListsAt V245 (.slice A ls.length cap) us ls := h236.keepsN kV245
  have h248 : V245.heap[gs]? = some (.cells (Wz s) 46 (0, 0)) := (kV245.block gs (lt_of_block h237) (fun x => x)).trans h237
  have h249 : BytesAt V245 (.slice (some ⟨g1, 0, none⟩) x.length cap1) x := h238.keepsN kV245
  have h250 : ListsAt V245 cv xs ls := h239.keepsN kV245
  have h251 : V245.heap[gh]? = some (.cells ((B v).toArray) 29 (0, 0)) := (kV245.block gh (lt_of_block h240) (fun x => x)).trans h240
  have h252 : V245.heap[gk]? = some (.cells ((B v).toArray) 29 (0, 0)) := (kV245.block gk (lt_of_block h241) (fun x => x)).trans h241
  have h253 : V245.heap[gm]? = some (.cells ((B (Kec.sum x)).toArray) 29 (0, 0)) := (kV245.block gm (lt_of_block h242) (fun x => x)).trans h242
  have K254 : Keeps Nob w V245 := K243.then kV245 (fun _ _ x => x.elim)
  have z255 := kV245.size
  refine ps_k (o_KeccakSums 510 10) (.bool true) ?_
  refine ps_k (o_KeccakSums 510 11) (.bool true) ?_
  refine ps_end ?_
  refine sy_a ⟨#[.slice A0 x.length cap0, cN kd.toNat, .slice A ls.length cap, .string ⟨t.toArray⟩, .agg (Wz s), undef, undef, undef, undef, pT gs 0, .bool true, .slice (some ⟨g1, 0, none⟩) x.length cap1, cv, pT gh 0, .int .i64 er, pT gk 0, .int .i64 er, pT gm 0, .slice A0 x.length cap0, .slice (some ⟨gx, 0, none⟩) 1 1, .slice A ls.length cap, v19, .bool false, .bool false, .string ⟨t.toArray⟩, iN t.length, .bool false, .bool false, undef, .slice A0 x.length cap0, .slice (some ⟨g1, 0, none⟩) x.length cap1, .slice A ls.length cap, cv, .tuple #[.agg (B v).toArray, .int .i64 er], .string ⟨t.toArray⟩, .tuple #[.agg (B v).toArray, .int .i64 er], .agg (B v).toArray, .int .i64 er, .tuple #[.agg (B v).toArray, .int .i64 er], .string ⟨t.toArray⟩, .tuple #[.agg (B v).toArray, .int .i64 er], .agg (B v).toArray, .int .i64 er, .slice A0 x.length cap0, .agg (B (Kec.sum x)).toArray, .slice (some ⟨g1, 0, none⟩) x.length cap1, .agg (B (Kec.sum x)).toArray, .agg ((B (Kec.sum x)).toArray), .bool false, .bool false, cN kd.toNat, cv, .agg (B (Kec.join kd ls)).toArray, cN kd.toNat, .slice A ls.length cap, .agg (B (Kec.join kd ls)).toArray, .bool false, .bool false, .bool false, .agg ((B v).toArray), .agg ((B v).toArray), .bool false, .bool false, .bool false, .int .i64 er, .int .i64 er, .bool false, .bool false, .bool false, .agg ((B (Kec.sum x)).toArray), .string ⟨(hexOf (Kec.sum x)).toArray⟩, .agg ((B (Kec.sum x)).toArray), .string ⟨(hexOf (Kec.sum x)).toArray⟩, .bool false, .bool false, .bool false, .agg (Wz s), .agg (Wz (Kec.perm s)), .agg (Wz s), .agg (Wz (Kec.perm s)), .bool false, .bool false, .slice (some ⟨g1, 0, none⟩) x.length cap1, .slice A0 x.length cap0, .bool true, .bool true, cv, .slice A ls.length cap, .bool true, .bool true, .bool true, .bool true, .bool true], []⟩ ?_
  refine then_n ?_
  refine sy_ret (by kernel_rfl) ?_
  refine sy_out (.bool true) rfl (by kernel_rfl) ?_
  exact ⟨rfl, K254⟩
theorem sums_ok (v0 : Value) (x : List UInt8) (kd : UInt8) (lv : Value) (us : List Value) (ls : List (List UInt8)) (t : List UInt8) (s : List Nat) (w : World) (hx : BytesAt w v0 x) (hxn : x.length ≤ 140737488351232) (h0 : ListsAt w lv us ls) (hln : ls.length * 24 ≤ 140737488351232) (hB : ∀ (k : Nat) (l : List UInt8), ls[k]? = some l → l.length ≤ 140737488351232) (hs : s.length = 25) (ws : Kec.Ws s) :
    Calls Try.prog 5 #[v0, .int .u8 ((kd.toNat : Nat) : Int), lv, .string ⟨t.toArray⟩, .agg (Wz s)] w fun e w' => e = .returned (.bool true) ∧ Keeps Nob w w' := by
  obtain ⟨A0, cap0, rfl⟩ := hx.len
  obtain ⟨A, cap, rfl, _⟩ := h0.form
  have hB' : ∀ (k : Nat) (l : List UInt8), (x :: ls)[k]? = some l → l.length ≤ 9223372036854775000 := fun k l h => by
    cases k with
    | zero => simp at h; subst h; omega
    | succ k => have := hB k l (by simpa using h); omega
  by_cases hL : lng (x :: ls) = true
  · exact sums_long A0 A cap0 cap x kd us ls t s w hx h0 hs ws hB' (by omega) hL
  · have hL : lng (x :: ls) = false := by simpa using hL
    by_cases ht : t.length > 100
    · exact sums_text A0 A cap0 cap x kd us ls t s w hx h0 hs ws hB' (by omega) hL ht
    · exact sums_main A0 A cap0 cap x kd us ls t s w hx h0 hs ws hB' (by omega) hL ht
end Go.Proofs.Ytolbdhgclcemlaa
