/-
  Records: rings of proposals made, copied, gone through (printed by rec2.py). Conditions: none.
-/
import Derived.Test.YtgipooedgbbliaaRecC
import Derived.Test.YtgipooedgbbliaaRecD
namespace Go.Proofs.Ytgipooedgbbliaa
open Go Go.RowKit Go.Own Go.Shelf

noncomputable def part_gmadeB (n : Nat) : Code := partOf Try.f44 n
noncomputable abbrev o_gmadeB (n k : Nat) : Oper := (opsAt (part_gmadeB n)).getD k default
set_option maxRecDepth 100000 in
set_option maxHeartbeats 4000000 in
theorem gmadeB_ok (n low : Nat) (w : World) (q1 : 1 ≤ n) (q2 : n ≤ 256000) (q3 : low ≤ 4294967296) :
    Calls Try.prog 44 #[.int .i64 ((n : Nat) : Int), .int .i64 ((low : Nat) : Int), .func (.func 42) #[] #[]] w (fun e w' => ∃ g s, e = .returned (.pointer (some ⟨g, 0, none⟩)) ∧ RingB w' ⟨g, s, low, n, n, fun _ => none, fun _ => none, []⟩ ∧ w.heap.size ≤ g ∧ w.heap.size ≤ s ∧ Keeps Nob w w') := by
  obtain ⟨i0, hi0, hz0, hz1, hz2⟩ := info_parts b_ptr_info
  have K0 : Keeps Nob w w := Keeps.refl _ _
  refine sy_enter (part_gmadeB 1) ⟨#[iN n, iN low, .func (.func 42) #[] #[], undef, undef, undef, undef, undef, undef, undef, undef, undef, undef], []⟩ Try.func44 (by kernel_rfl) (by kernel_rfl) ?_
  refine sy_sq (part_gmadeB 2) (part_gmadeB 3) ?_
  refine sy_reg ?_
  refine rg_plain 0 (opsAt (part_gmadeB 2)) [0] (by kernel_rfl) (by kernel_rfl) ?_
  refine ps_k (o_gmadeB 2 0) (.pointer none) ?_
  refine ps_end ?_
  refine then_n ?_
  refine sy_sq (part_gmadeB 6) (part_gmadeB 7) ?_
  refine sy_reg ?_
  refine rg_plain 1 (opsAt (part_gmadeB 6)) [0, 1, 2, 3, 4, 5, 6] (by kernel_rfl) (by kernel_rfl) ?_
  refine ps_k (o_gmadeB 6 0) (.func (.func 42) #[] #[]) ?_
  refine ps_k (o_gmadeB 6 1) (iN n) ?_
  obtain ⟨V1, eV1, s, es, h2, kV1⟩ := alloc_step w (madeCells (Value.pointer none).cells (n * i0.size)) 74
  have h3 : V1.heap[s]? = some (.cells (Slots n (fun _ => none) []) 74 (0, 0)) := h2.trans (by rw [hz1]; exact congrArg (fun c => some (Obj.cells c 74 (0, 0))) (Slots.made n))
  refine ps_r (o_gmadeB 6 2) (.slice (some ⟨s, 0, none⟩) n n) (w' := V1) (by rw [← eV1, ← es]; exact exec_makeSlice 81 (.tmp 8) (.tmp 8) (by kernel_rfl) 74 i0 (.pointer none) Try.underlying81 hi0 hz0 n (by kernel_rfl) (by kernel_rfl) (by rw [hz2]; omega) (by omega)) ?_
  clear eV1
  have ns : w.heap.size ≤ s := es ▸ K0.size
  have K4 := K0.nn kV1
  have z5 := kV1.size
  refine ps_k (o_gmadeB 6 3) (iN low) ?_
  refine ps_k (o_gmadeB 6 4) (.agg #[.func (.func 42) #[] #[], .slice (some ⟨s, 0, none⟩) n n, iN low]) ?_
  obtain ⟨V6, eV6, g, eg, h7, kV6⟩ := alloc_step V1 (#[.func (.func 42) #[] #[], .slice (some ⟨s, 0, none⟩) n n, .int .i64 ((low : Nat) : Int)]) 83
  have n8 : s < g := eg ▸ lt_of_block h3
  have n9 : w.heap.size ≤ g := eg ▸ K4.size
  refine ps_r (o_gmadeB 6 5) (pT g 0) (w' := V6) (by rw [← eV6, ← eg]; exact exec_box 83 (.tmp 11) (by kernel_rfl) (.agg #[.func (.func 42) #[] #[], .slice (some ⟨s, 0, none⟩) n n, iN low]) (by kernel_rfl)) ?_
  clear eV6
  have h10 := kV6.bk h3
  have K11 := K4.nn kV6
  have z12 := kV6.size
  refine ps_k (o_gmadeB 6 6) (pT g 0) ?_
  refine ps_end ?_
  refine then_n ?_
  refine sy_ret (by kernel_rfl) ?_
  refine sy_out (.pointer (some ⟨g, 0, none⟩)) rfl (by kernel_rfl) ?_
  exact ⟨g, s, rfl, Ring.made h7 h10 q1 q2 q3, by omega, ns, K11⟩
noncomputable def part_cloneB (n : Nat) : Code := partOf Try.f62 n
noncomputable abbrev o_cloneB (n k : Nat) : Oper := (opsAt (part_cloneB n)).getD k default
set_option maxRecDepth 100000 in
set_option maxHeartbeats 4000000 in
theorem cloneB_ok (s n cap : Nat) (S : Nat → Option Nat) (rest : List Value) (w : World) (q1 : 1 ≤ n) (q2 : n ≤ 256000) (hs : w.heap[s]? = some (.cells (Slots n S rest) 74 (0, 0))) :
    Calls Try.prog 62 #[.slice (some ⟨s, 0, none⟩) n cap] w (fun e w' => ∃ g cap' rest', e = .returned (.slice (some ⟨g, 0, none⟩) n cap') ∧ w'.heap[g]? = some (.cells (Slots n S rest') 74 (0, 0)) ∧ w.heap.size ≤ g ∧ Keeps Nob w w') := by
  obtain ⟨i0, hi0, hz0, hz1, hz2⟩ := info_parts b_ptr_info
  have lts := lt_of_block hs
  have K0 : Keeps Nob w w := Keeps.refl _ _
  refine sy_enter (part_cloneB 1) ⟨#[.slice (some ⟨s, 0, none⟩) n cap, undef, undef, undef, undef, undef, undef, undef], []⟩ Try.func62 (by kernel_rfl) (by kernel_rfl) ?_
  refine sy_sq (part_cloneB 2) (part_cloneB 3) ?_
  refine sy_reg ?_
  refine rg_plain 0 (opsAt (part_cloneB 2)) [0] (by kernel_rfl) (by kernel_rfl) ?_
  refine ps_k (o_cloneB 2 0) (.slice none 0 0) ?_
  refine ps_end ?_
  refine then_n ?_
  refine sy_sq (part_cloneB 6) (part_cloneB 7) ?_
  refine sy_sq (part_cloneB 12) (part_cloneB 13) ?_
  refine sy_reg ?_
  refine rg_plain 1 (opsAt (part_cloneB 12)) [0, 1] (by kernel_rfl) (by kernel_rfl) ?_
  refine ps_k (o_cloneB 12 0) (.slice (some ⟨s, 0, none⟩) n cap) ?_
  refine ps_p (o_cloneB 12 1) (.bool false) (exec_cast (congrArg Value.bool rfl) (exec_binop .eql 81 81 (.tmp 3) (.const (.slice none 0 0)) (by kernel_rfl) (.slice (some ⟨s, 0, none⟩) n cap) (.slice none 0 0) _ (by kernel_rfl) (by kernel_rfl) (by kernel_rfl) (Lib.run_eql_slice_nil _ 81 74 _ _ _ _ _ Try.underlying81))) ?_
  refine ps_end ?_
  refine then_n ?_
  refine sy_n (.tmp 4) (part_cloneB 26) (part_cloneB 27) ?_
  refine sy_sk ?_
  refine then_n ?_
  refine sy_sq (part_cloneB 14) (part_cloneB 15) ?_
  refine sy_reg ?_
  refine rg_plain 3 (opsAt (part_cloneB 14)) [0, 1, 2, 3] (by kernel_rfl) (by kernel_rfl) ?_
  obtain ⟨V1, eV1, x, ex, h2, kV1⟩ := alloc_step w #[] 74
  have n3 : w.heap.size ≤ x := ex ▸ K0.size
  refine ps_r (o_cloneB 14 0) (.slice (some ⟨x, 0, none⟩) 0 0) (w' := V1) (by rw [← eV1, ← ex]; kernel_rfl) ?_
  have h4 : V1.heap[s]? = some (.cells (Slots n S rest) 74 (0, 0)) := kV1.bk hs
  have K5 := K0.nn kV1
  refine ps_k (o_cloneB 14 1) (.slice (some ⟨s, 0, none⟩) n cap) ?_
  have h6 : Row V1 74 1 (.slice (some ⟨x, 0, none⟩) 0 0) 0 [] := row_of_block h2 rfl (by decide)
  have hw7 : NewFrom w.heap.size (.slice (some ⟨x, 0, none⟩) 0 0) := NewFrom.ptr (by omega) _ _
  obtain ⟨v8, V9, hr10, h11, hg12, hn13, ha14⟩ := run_append_any (P := Try.prog) (w := V1) 81 (Oper.type (o_cloneB 14 2)) 74 i0 (.pointer none) 1 8 Try.underlying81 hi0 hz0 hz1 hz2 rfl (by decide) (.slice (some ⟨x, 0, none⟩) 0 0) 0 [] h6 (.slice (some ⟨s, 0, none⟩) n cap) n ((List.range n).map fun k => ptrV (S k)) (Slots.src h4) (by unfold maxLen; omega) (by omega)
  have kV9 : Keeps (fun j => (.slice (some ⟨x, 0, none⟩) 0 0 : Value).ownBlock = some j) V1 V9 := Keeps.rowAdd hg12
  have hw15 : NewFrom w.heap.size v8 := hw7.next K5.size ha14
  refine ps_r (o_cloneB 14 2) v8 (w' := V9) (exec_append (.tmp 5) (.tmp 6) 81 (by kernel_rfl) (.slice (some ⟨x, 0, none⟩) 0 0) (.slice (some ⟨s, 0, none⟩) n cap) (by kernel_rfl) (by kernel_rfl) hr10) ?_
  have h16 : Row V9 74 1 v8 n ((List.range n).map fun k => ptrV (S k)) := (by rw [Nat.zero_add, List.nil_append] at h11; exact h11)
  have h17 : V9.heap[s]? = some (.cells (Slots n S rest) 74 (0, 0)) := (kV9.block s (lt_of_block h4) (fun e => by have := hw7 s e; omega)).trans h4
  have K18 : Keeps Nob w V9 := K5.then kV9 (fun i hi hm => absurd hi (by have := hw7 i hm; omega))
  refine ps_k (o_cloneB 14 3) (v8) ?_
  refine ps_end ?_
  refine then_n ?_
  refine sy_ret (by kernel_rfl) ?_
  refine sy_out (v8) rfl (by kernel_rfl) ?_
  obtain ⟨g, cap', rest', hv, hg⟩ := Row.slots h16 q1
  have hw := hw15 g (by rw [hv]; rfl)
  exact ⟨g, cap', rest', by rw [hv], hg, hw, K18⟩
noncomputable def part_gcopB (n : Nat) : Code := partOf Try.f46 n
noncomputable abbrev o_gcopB (n k : Nat) : Oper := (opsAt (part_gcopB n)).getD k default
set_option maxRecDepth 100000 in
set_option maxHeartbeats 4000000 in
theorem gcopB_ok (d : RD Pro) (w : World) (H : RingB w d) :
    Calls Try.prog 46 #[.pointer (some ⟨d.g, 0, none⟩)] w (fun e w' => ∃ g s cap rest, e = .returned (.pointer (some ⟨g, 0, none⟩)) ∧ RingB w' ⟨g, s, d.low, d.n, cap, d.V, d.S, rest⟩ ∧ w.heap.size ≤ g ∧ w.heap.size ≤ s ∧ Keeps Nob w w') := by
  have K0 : Keeps Nob w w := Keeps.refl _ _
  refine sy_enter (part_gcopB 1) ⟨#[.pointer (some ⟨d.g, 0, none⟩), undef, undef, undef, undef, undef, undef, undef, undef, undef, undef, undef, undef, undef, undef, undef, undef, undef], []⟩ Try.func46 (by kernel_rfl) (by kernel_rfl) ?_
  refine sy_sq (part_gcopB 2) (part_gcopB 3) ?_
  refine sy_reg ?_
  refine rg_plain 0 (opsAt (part_gcopB 2)) [0] (by kernel_rfl) (by kernel_rfl) ?_
  refine ps_k (o_gcopB 2 0) (.pointer none) ?_
  refine ps_end ?_
  refine then_n ?_
  refine sy_sq (part_gcopB 6) (part_gcopB 7) ?_
  refine sy_np ?_
  refine sy_reg ?_
  refine an_begin 1 16 (opsAt (part_gcopB 6)) (fun W => (W.heap[d.g]? = some (.cells (#[.func (.func 42) #[] #[], .slice (some ⟨d.s, 0, none⟩) d.n d.cap, .int .i64 ((d.low : Nat) : Int)]) 83 (0, 0))) ∧ (RingB W d)) #[false, false, false, false, false, false, false, false, false, false, false, false, false, false, false, false] (by kernel_rfl) (by kernel_rfl) (by kernel_rfl) (by kernel_rfl) ?_
  obtain ⟨V1, eV1, kV1⟩ := drew_step w
  rw [eV1]
  clear eV1
  have h2 := kV1.bk H.ring
  have h3 : RingB V1 d := H.keepsN kV1
  have K4 := K0.nn kV1
  have z5 := kV1.size
  refine an_k 0 (o_gcopB 6 0) (.pointer (some ⟨d.g, 0, none⟩)) ⟨h2, h3⟩ ?_
  refine an_k 1 (o_gcopB 6 1) (.pointer (some ⟨d.g, 0, none⟩)) ⟨h2, h3⟩ ?_
  refine an_k 2 (o_gcopB 6 2) (.pointer (some ⟨d.g, 0, none⟩)) ⟨h2, h3⟩ ?_
  refine an_v 3 (o_gcopB 6 3) (.func (.func 42) #[] #[]) (fun W hS => exec_load_cell 80 (.tmp 5) (by kernel_rfl) ⟨d.g, 0, none⟩ (by kernel_rfl) _ _ Try.underlying80 rfl (rc (hS.1) (by kernel_rfl))) ⟨h2, h3⟩ ?_
  refine an_k 4 (o_gcopB 6 4) (.pointer (some ⟨d.g, 0, none⟩)) ⟨h2, h3⟩ ?_
  refine an_k 5 (o_gcopB 6 5) (.pointer (some ⟨d.g, 0, none⟩)) ⟨h2, h3⟩ ?_
  refine an_k 6 (o_gcopB 6 6) (.pointer (some ⟨d.g, 1, none⟩)) ⟨h2, h3⟩ ?_
  refine an_v 7 (o_gcopB 6 7) (.slice (some ⟨d.s, 0, none⟩) d.n d.cap) (fun W hS => exec_load_cell 81 (.tmp 9) (by kernel_rfl) ⟨d.g, 1, none⟩ (by kernel_rfl) _ _ Try.underlying81 rfl (rc (hS.1) (by kernel_rfl))) ⟨h2, h3⟩ ?_
  refine an_k 9 (o_gcopB 6 9) (.pointer (some ⟨d.g, 0, none⟩)) ⟨h2, h3⟩ ?_
  refine an_k 10 (o_gcopB 6 10) (.pointer (some ⟨d.g, 0, none⟩)) ⟨h2, h3⟩ ?_
  refine an_k 11 (o_gcopB 6 11) (.pointer (some ⟨d.g, 2, none⟩)) ⟨h2, h3⟩ ?_
  refine an_v 12 (o_gcopB 6 12) (iN d.low) (fun W hS => exec_load_cell 3 (.tmp 14) (by kernel_rfl) ⟨d.g, 2, none⟩ (by kernel_rfl) _ _ Try.underlying3 rfl (rc (hS.1) (by kernel_rfl))) ⟨h2, h3⟩ ?_
  refine an_o 8 ?_
  refine on_c (o_gcopB 6 8) 62 #[.slice (some ⟨d.s, 0, none⟩) d.n d.cap] Try.func62 ((cloneB_ok d.s d.n d.cap d.S d.rest _ H.n1 H.n2 h3.slots).mono ?_)
  rintro e V6 ⟨s', cap', rest', rfl, hs', ns', kV6⟩
  have ns2 : w.heap.size ≤ s' := Nat.le_trans K4.size ns'
  refine ⟨_, rfl, ?_⟩
  have h7 := kV6.bk h2
  have h8 : RingB V6 d := h3.keepsN kV6
  have K9 := K4.nn kV6
  have z10 := kV6.size
  refine ⟨⟨h7, h8⟩, ?_⟩
  refine an_k 13 (o_gcopB 6 13) (.agg #[.func (.func 42) #[] #[], .slice (some ⟨s', 0, none⟩) d.n cap', iN d.low]) ⟨h7, h8⟩ ?_
  refine an_o 14 ?_
  obtain ⟨V11, eV11, g, eg, h12, kV11⟩ := alloc_step V6 (#[.func (.func 42) #[] #[], .slice (some ⟨s', 0, none⟩) d.n cap', .int .i64 ((d.low : Nat) : Int)]) 83
  have n13 : d.g < g := eg ▸ lt_of_block h7
  have n14 : s' < g := eg ▸ lt_of_block hs'
  have n15 : w.heap.size ≤ g := eg ▸ K9.size
  refine on_r (o_gcopB 6 14) (pT g 0) (w' := V11) (by rw [← eV11, ← eg]; exact exec_box 83 (.tmp 16) (by kernel_rfl) (.agg #[.func (.func 42) #[] #[], .slice (some ⟨s', 0, none⟩) d.n cap', iN d.low]) (by kernel_rfl)) ?_
  clear eV11
  have h16 := kV11.bk h7
  have h17 : RingB V11 d := h8.keepsN kV11
  have h18 := kV11.bk hs'
  have K19 := K9.nn kV11
  have z20 := kV11.size
  refine ⟨⟨h16, h17⟩, ?_⟩
  refine an_o 15 ?_
  refine on_r (o_gcopB 6 15) (pT g 0) (w' := V11) (by kernel_rfl) ?_
  refine ⟨⟨h16, h17⟩, ?_⟩
  refine an_end (by kernel_rfl) ?_
  refine then_n ?_
  refine sy_ret (by kernel_rfl) ?_
  refine sy_out (.pointer (some ⟨g, 0, none⟩)) rfl (by kernel_rfl) ?_
  exact ⟨g, s', cap', rest', rfl, Ring.copy H K19 h12 h18, by omega, ns2, K19⟩
noncomputable def part_gallB (n : Nat) : Code := partOf Try.f58 n
noncomputable abbrev o_gallB (n k : Nat) : Oper := (opsAt (part_gallB n)).getD k default
set_option maxRecDepth 100000 in
set_option maxHeartbeats 4000000 in
theorem gallB_ok (g : Nat) (w : World) :
    Calls Try.prog 58 #[.pointer (some ⟨g, 0, none⟩)] w (fun e w' => ∃ bx, e = .returned (.func (.func 67) #[] #[.pointer (some ⟨bx, 0, none⟩)]) ∧ w'.heap[bx]? = some (.cells #[.pointer (some ⟨g, 0, none⟩)] 55 (0, 0)) ∧ w.heap.size ≤ bx ∧ Keeps Nob w w') := by
  have K0 : Keeps Nob w w := Keeps.refl _ _
  refine sy_enter (part_gallB 1) ⟨#[pT g 0, undef, undef, undef], []⟩ Try.func58 (by kernel_rfl) (by kernel_rfl) ?_
  refine sy_sq (part_gallB 2) (part_gallB 3) ?_
  refine sy_reg ?_
  refine rg_plain 0 (opsAt (part_gallB 2)) [0, 1] (by kernel_rfl) (by kernel_rfl) ?_
  obtain ⟨V1, eV1, bx, ebx, h2, kV1⟩ := alloc_step w (#[.pointer (some ⟨g, 0, none⟩)]) 55
  have n3 : w.heap.size ≤ bx := ebx ▸ K0.size
  refine ps_r (o_gallB 2 0) (pT bx 0) (w' := V1) (by rw [← eV1, ← ebx]; exact exec_box 55 (.tmp 0) (by kernel_rfl) (pT g 0) (by kernel_rfl)) ?_
  clear eV1
  have K4 := K0.nn kV1
  have z5 := kV1.size
  refine ps_k (o_gallB 2 1) (.nilFunc) ?_
  refine ps_end ?_
  refine then_n ?_
  refine sy_sq (part_gallB 6) (part_gallB 7) ?_
  refine sy_reg ?_
  refine rg_plain 1 (opsAt (part_gallB 6)) [0, 1] (by kernel_rfl) (by kernel_rfl) ?_
  refine ps_k (o_gallB 6 0) (.func (.func 67) #[] #[pT bx 0]) ?_
  refine ps_k (o_gallB 6 1) (.func (.func 67) #[] #[pT bx 0]) ?_
  refine ps_end ?_
  refine then_n ?_
  refine sy_ret (by kernel_rfl) ?_
  refine sy_out (.func (.func 67) #[] #[.pointer (some ⟨bx, 0, none⟩)]) rfl (by kernel_rfl) ?_
  exact ⟨bx, rfl, h2, by omega, K4⟩
/-- What the iterator reads. -/
def gall1BS (bx : Nat) (d : RD Pro) (W : World) : Prop := W.heap[bx]? = some (.cells #[.pointer (some ⟨d.g, 0, none⟩)] 55 (0, 0)) ∧ RingB W d
theorem gall1BS.turn {bx : Nat} {d : RD Pro} {A B : World} {b : Nat} (h : gall1BS bx d A) (t : Turn b Nob A B) : gall1BS bx d B :=
  ⟨t.same _ _ h.1 (fun x => x) (.inr rfl), h.2.mono fun j cs T _ e => t.same _ _ e (fun x => x) (.inr rfl)⟩
theorem gall1B_cases {d : RD Pro} {W : World} (H : RingB W d) (k : Nat) (hk : k ≤ d.n) : (k < d.n ∧ d.V ((d.low + k : Nat) : Int) = none ∧ slotOf d ((d.low + k : Nat) : Int) = none) ∨
    (∃ a p, k < d.n ∧ d.V ((d.low + k : Nat) : Int) = some a ∧ slotOf d ((d.low + k : Nat) : Int) = some p ∧ W.heap[p]? = some (.cells a.c 35 (0, 0)) ∧ a.Ok) ∨ k = d.n := by
  by_cases h : k < d.n
  · rcases H.none_or ((d.low + k : Nat) : Int) with ⟨h1, h2⟩ | ⟨a, p, h1, h2, h3, _, _, _, h4⟩
    · exact .inl ⟨h, h1, h2⟩
    · exact .inr (.inl ⟨a, p, h, h1, h2, h3, h4⟩)
  · exact .inr (.inr (by omega))
noncomputable def part_gall1B (n : Nat) : Code := partOf Try.f67 n
noncomputable abbrev o_gall1B (n k : Nat) : Oper := (opsAt (part_gall1B n)).getD k default
set_option maxRecDepth 100000 in
set_option maxHeartbeats 4000000 in
theorem gall1B_seq (bx : Nat) (d : RD Pro) (fz : Nat) :
    SeqOwn Fence.wide fz Try.prog 67 #[.pointer (some ⟨bx, 0, none⟩)] (fun x : Pro => #[.agg x.c]) (items d.V d.low d.n) Nob (fun _ => gall1BS bx d) := by
  intro l J Jx W0 hJ hJx hY h0 hS0
  obtain ⟨hb0, hr0⟩ := hS0
  have hn1 := hr0.n1
  have hn2 := hr0.n2
  have hl2 := hr0.l2
  refine syW_enter (part_gall1B 1) ⟨#[.func (.yield l) #[] #[], .pointer (some ⟨bx, 0, none⟩), undef, undef, undef, undef, undef, undef, undef, undef, undef, undef, undef, undef, undef, undef, undef, undef, undef, undef, undef, undef, undef, undef, undef, undef, undef, undef, undef, undef, undef, undef], []⟩ Try.func67 (by kernel_rfl) (by kernel_rfl) ?_
  refine syI_seq (part_gall1B 2) (part_gall1B 3) (by kernel_rfl) ?_
  refine syW_reg ?_
  refine rg_plain 0 (opsAt (part_gall1B 2)) [0, 1, 2, 3, 4, 5] (by kernel_rfl) (by kernel_rfl) ?_
  refine ps_p (o_gall1B 2 0) (.pointer (some ⟨d.g, 0, none⟩)) (exec_ld 55 (.tmp 1) bx 0 Try.underlying55 (rc (hb0) (by kernel_rfl))) ?_
  refine ps_k (o_gall1B 2 1) (.pointer (some ⟨d.g, 0, none⟩)) ?_
  refine ps_k (o_gall1B 2 2) (.pointer (some ⟨d.g, 1, none⟩)) ?_
  refine ps_p (o_gall1B 2 3) (.slice (some ⟨d.s, 0, none⟩) d.n d.cap) (exec_load_cell 81 (.tmp 7) (by kernel_rfl) ⟨d.g, 1, none⟩ (by kernel_rfl) _ _ Try.underlying81 rfl (rc (hr0.ring) (by kernel_rfl))) ?_
  refine ps_p (o_gall1B 2 4) (iN d.n) (exec_len (.tmp 8) 81 _ (by kernel_rfl) Try.underlying81 (some ⟨d.s, 0, none⟩) d.n d.cap (by kernel_rfl)) ?_
  refine ps_k (o_gall1B 2 5) (.int .i64 0) ?_
  refine ps_end ?_
  refine then_n ?_
  refine syI_block 0 (part_gall1B 6) (by kernel_rfl) ?_
  refine syI_loop (part_gall1B 12) (fun a V => ∃ (k : Nat) (u3 u4 u11 u12 u13 u14 u15 u16 u17 u18 u19 u20 u21 u22 u23 u24 u25 u26 u27 u28 u29 u30 u31 : Value), (a = ⟨#[.func (.yield l) #[] #[], pT bx 0, undef, u3, u4, .pointer (some ⟨d.g, 0, none⟩), .pointer (some ⟨d.g, 0, none⟩), .pointer (some ⟨d.g, 1, none⟩), .slice (some ⟨d.s, 0, none⟩) d.n d.cap, iN d.n, iN k, u11, u12, u13, u14, u15, u16, u17, u18, u19, u20, u21, u22, u23, u24, u25, u26, u27, u28, u29, u30, u31], []⟩) ∧ (k ≤ d.n) ∧ (J (cnt d.V d.low k) V) ∧ (V.heap[bx]? = some (.cells (#[.pointer (some ⟨d.g, 0, none⟩)]) 55 (0, 0))) ∧ (RingB V d) ∧ (V.heap[d.g]? = some (.cells (#[.func (.func 42) #[] #[], .slice (some ⟨d.s, 0, none⟩) d.n d.cap, iN d.low]) 83 (0, 0)))) (fun a _ => d.n - (intOf (a.tmps.getD 10 undef)).toNat) (by kernel_rfl) ?_ ?_
  · exact ⟨0, undef, undef, undef, undef, undef, undef, undef, undef, undef, undef, undef, undef, undef, undef, undef, undef, undef, undef, undef, undef, undef, undef, undef, by kernel_rfl, Nat.zero_le _, h0, hb0, hr0, hr0.ring⟩
  · rintro a V1 ⟨k, u3, u4, u11, u12, u13, u14, u15, u16, u17, u18, u19, u20, u21, u22, u23, u24, u25, u26, u27, u28, u29, u30, u31, rfl, hk0, h2, h3, h4, h5⟩
    rcases gall1B_cases h4 k hk0 with ⟨hk, hv, hs⟩ | ⟨a, p, hk, hv, hs, hp, ha⟩ | hk
    · skip
      refine syI_seq (part_gall1B 24) (part_gall1B 25) (by kernel_rfl) ?_
      refine syW_reg ?_
      refine rg_plain 1 (opsAt (part_gall1B 24)) [0] (by kernel_rfl) (by kernel_rfl) ?_
      refine ps_p (o_gall1B 24 0) (.bool true) (dct ((((k : Nat) : Int)) < (((d.n : Nat) : Int))) (by omega)) ?_
      refine ps_end ?_
      refine then_n ?_
      refine syI_seq (part_gall1B 50) (part_gall1B 51) (by kernel_rfl) ?_
      refine syI_yes (.tmp 11) (part_gall1B 100) (part_gall1B 101) (by kernel_rfl) (by kernel_rfl) ?_
      refine syI_skip (by kernel_rfl) ?_
      refine then_n ?_
      refine syI_seq (part_gall1B 102) (part_gall1B 103) (by kernel_rfl) ?_
      refine syI_block 1 (part_gall1B 204) (by kernel_rfl) ?_
      refine syI_seq (part_gall1B 408) (part_gall1B 409) (by kernel_rfl) ?_
      refine syW_reg ?_
      refine rg_plain 2 (opsAt (part_gall1B 408)) [0, 1] (by kernel_rfl) (by kernel_rfl) ?_
      refine ps_k (o_gall1B 408 0) (iN k) ?_
      refine ps_k (o_gall1B 408 1) (iN k) ?_
      refine ps_end ?_
      refine then_n ?_
      refine syI_seq (part_gall1B 818) (part_gall1B 819) (by kernel_rfl) ?_
      refine syI_np ?_
      refine syW_reg ?_
      refine an_begin 3 9 (opsAt (part_gall1B 818)) (fun W => (W.heap[bx]? = some (.cells (#[.pointer (some ⟨d.g, 0, none⟩)]) 55 (0, 0))) ∧ (W.heap[d.g]? = some (.cells (#[.func (.func 42) #[] #[], .slice (some ⟨d.s, 0, none⟩) d.n d.cap, .int .i64 ((d.low : Nat) : Int)]) 83 (0, 0))) ∧ (RingB W d)) #[false, false, false, false, false, false, false, false, false] (by kernel_rfl) (by kernel_rfl) (by kernel_rfl) (by kernel_rfl) ?_
      obtain ⟨V7, eV7, kV7⟩ := drew_step V1
      rw [eV7]
      clear eV7
      have h8 : J (cnt d.V d.low k) V7 := (hJ _ _ _ h2 kV7)
      have h9 := kV7.bk h3
      have h10 : RingB V7 d := h4.keepsN kV7
      have h11 := kV7.bk h5
      refine an_v 0 (o_gall1B 818 0) (.pointer (some ⟨d.g, 0, none⟩)) (fun W hS => exec_ld 55 (.tmp 1) bx 0 Try.underlying55 (rc (hS.1) (by kernel_rfl))) ⟨h9, h11, h10⟩ ?_
      refine an_v 1 (o_gall1B 818 1) (.pointer (some ⟨d.g, 0, none⟩)) (fun W hS => exec_ld 55 (.tmp 1) bx 0 Try.underlying55 (rc (hS.1) (by kernel_rfl))) ⟨h9, h11, h10⟩ ?_
      refine an_k 2 (o_gall1B 818 2) (.pointer (some ⟨d.g, 0, none⟩)) ⟨h9, h11, h10⟩ ?_
      refine an_k 3 (o_gall1B 818 3) (.pointer (some ⟨d.g, 2, none⟩)) ⟨h9, h11, h10⟩ ?_
      refine an_v 4 (o_gall1B 818 4) (iN d.low) (fun W hS => exec_load_cell 3 (.tmp 16) (by kernel_rfl) ⟨d.g, 2, none⟩ (by kernel_rfl) _ _ Try.underlying3 rfl (rc (hS.2.1) (by kernel_rfl))) ⟨h9, h11, h10⟩ ?_
      refine an_k 5 (o_gall1B 818 5) (iN k) ⟨h9, h11, h10⟩ ?_
      refine an_v 6 (o_gall1B 818 6) (iN (d.low + k)) (fun W hS => exec_cast (congrArg (Value.int .i64) (wrapN (d.low + k) (by omega))) (by kernel_rfl)) ⟨h9, h11, h10⟩ ?_
      refine an_o 7 ?_
      refine on_c (o_gall1B 818 7) 35 #[.pointer (some ⟨d.g, 0, none⟩), iN (d.low + k)] Try.func35 ((gatB_none _ _ h10 hs).mono ?_)
      rintro e V12 ⟨rfl, kV12⟩
      refine ⟨_, rfl, ?_⟩
      have h13 : J (cnt d.V d.low k) V12 := (hJ _ _ _ h8 kV12)
      have h14 := kV12.bk h9
      have h15 : RingB V12 d := h10.keepsN kV12
      have h16 := kV12.bk h11
      refine ⟨⟨h14, h16, h15⟩, ?_⟩
      refine an_o 8 ?_
      refine on_r (o_gall1B 818 8) (.pointer none) (w' := V12) (by kernel_rfl) ?_
      refine ⟨⟨h14, h16, h15⟩, ?_⟩
      refine an_end (by kernel_rfl) ?_
      refine then_n ?_
      refine syI_seq (part_gall1B 1638) (part_gall1B 1639) (by kernel_rfl) ?_
      refine rg_yield 4 (opsAt (part_gall1B 1638)) [0, 1, 2, 3, 4, 5, 6, 7, 8, 9] (by kernel_rfl) (by kernel_rfl) ?_
      refine pi_run (o_gall1B 1638 0) (.pointer none) (w' := V12) (by kernel_rfl) (by kernel_rfl) (by kernel_rfl) ?_
      refine pi_run (o_gall1B 1638 1) (.bool false) (w' := V12) (by kernel_rfl) (by kernel_rfl) (by kernel_rfl) ?_
      refine pi_run (o_gall1B 1638 2) (.bool false) (w' := V12) (by kernel_rfl) (by kernel_rfl) (by kernel_rfl) ?_
      refine pi_no (o_gall1B 1638 3) (by kernel_rfl) (by kernel_rfl) ?_
      refine pi_no (o_gall1B 1638 4) (by kernel_rfl) (by kernel_rfl) ?_
      refine pi_no (o_gall1B 1638 5) (by kernel_rfl) (by kernel_rfl) ?_
      refine pi_no (o_gall1B 1638 6) (by kernel_rfl) (by kernel_rfl) ?_
      refine pi_no (o_gall1B 1638 7) (by kernel_rfl) (by kernel_rfl) ?_
      refine pi_no (o_gall1B 1638 8) (by kernel_rfl) (by kernel_rfl) ?_
      refine pi_run (o_gall1B 1638 9) (.bool false) (w' := V12) (by kernel_rfl) (by kernel_rfl) (by kernel_rfl) ?_
      refine pi_end ?_
      refine then_n ?_
      refine syI_no (.tmp 30) (part_gall1B 3278) (part_gall1B 3279) (by kernel_rfl) (by kernel_rfl) ?_
      refine syI_skip (by kernel_rfl) ?_
      refine blk_n ?_
      refine then_n ?_
      refine syW_reg ?_
      refine rg_plain 5 (opsAt (part_gall1B 103)) [0, 1] (by kernel_rfl) (by kernel_rfl) ?_
      refine ps_p (o_gall1B 103 0) (iN (k + 1)) (exec_cast (congrArg (Value.int .i64) (wrapN (k + 1) (by omega))) (by kernel_rfl)) ?_
      refine ps_k (o_gall1B 103 1) (iN (k + 1)) ?_
      refine ps_end ?_
      refine sy_a ⟨#[.func (.yield l) #[] #[], pT bx 0, undef, iN k, .pointer none, .pointer (some ⟨d.g, 0, none⟩), .pointer (some ⟨d.g, 0, none⟩), .pointer (some ⟨d.g, 1, none⟩), .slice (some ⟨d.s, 0, none⟩) d.n d.cap, iN d.n, iN (k + 1), .bool true, iN k, .pointer (some ⟨d.g, 0, none⟩), .pointer (some ⟨d.g, 0, none⟩), .pointer (some ⟨d.g, 0, none⟩), .pointer (some ⟨d.g, 2, none⟩), iN d.low, iN k, iN (d.low + k), .pointer none, .pointer none, .bool false, .bool false, undef, undef, undef, undef, undef, undef, .bool false, iN (k + 1)], []⟩ ?_
      refine then_n ?_
      refine ⟨⟨k + 1, (iN k), (.pointer none), (.bool true), (iN k), (.pointer (some ⟨d.g, 0, none⟩)), (.pointer (some ⟨d.g, 0, none⟩)), (.pointer (some ⟨d.g, 0, none⟩)), (.pointer (some ⟨d.g, 2, none⟩)), (iN d.low), (iN k), (iN (d.low + k)), (.pointer none), (.pointer none), (.bool false), (.bool false), undef, undef, undef, undef, undef, undef, (.bool false), (iN (k + 1)), by kernel_rfl, by omega, (by rw [cnt_none hv]; exact h13), h14, h15, h16⟩, ?_⟩
      exact lt_meas (x := d.n - (k + 1)) (y := d.n - k) (by kernel_rfl) (by kernel_rfl) (by omega)
    · skip
      refine syI_seq (part_gall1B 24) (part_gall1B 25) (by kernel_rfl) ?_
      refine syW_reg ?_
      refine rg_plain 1 (opsAt (part_gall1B 24)) [0] (by kernel_rfl) (by kernel_rfl) ?_
      refine ps_p (o_gall1B 24 0) (.bool true) (dct ((((k : Nat) : Int)) < (((d.n : Nat) : Int))) (by omega)) ?_
      refine ps_end ?_
      refine then_n ?_
      refine syI_seq (part_gall1B 50) (part_gall1B 51) (by kernel_rfl) ?_
      refine syI_yes (.tmp 11) (part_gall1B 100) (part_gall1B 101) (by kernel_rfl) (by kernel_rfl) ?_
      refine syI_skip (by kernel_rfl) ?_
      refine then_n ?_
      refine syI_seq (part_gall1B 102) (part_gall1B 103) (by kernel_rfl) ?_
      refine syI_block 1 (part_gall1B 204) (by kernel_rfl) ?_
      refine syI_seq (part_gall1B 408) (part_gall1B 409) (by kernel_rfl) ?_
      refine syW_reg ?_
      refine rg_plain 2 (opsAt (part_gall1B 408)) [0, 1] (by kernel_rfl) (by kernel_rfl) ?_
      refine ps_k (o_gall1B 408 0) (iN k) ?_
      refine ps_k (o_gall1B 408 1) (iN k) ?_
      refine ps_end ?_
      refine then_n ?_
      refine syI_seq (part_gall1B 818) (part_gall1B 819) (by kernel_rfl) ?_
      refine syI_np ?_
      refine syW_reg ?_
      refine an_begin 3 9 (opsAt (part_gall1B 818)) (fun W => (W.heap[bx]? = some (.cells (#[.pointer (some ⟨d.g, 0, none⟩)]) 55 (0, 0))) ∧ (W.heap[d.g]? = some (.cells (#[.func (.func 42) #[] #[], .slice (some ⟨d.s, 0, none⟩) d.n d.cap, .int .i64 ((d.low : Nat) : Int)]) 83 (0, 0))) ∧ (RingB W d)) #[false, false, false, false, false, false, false, false, false] (by kernel_rfl) (by kernel_rfl) (by kernel_rfl) (by kernel_rfl) ?_
      obtain ⟨V17, eV17, kV17⟩ := drew_step V1
      rw [eV17]
      clear eV17
      have h18 : J (cnt d.V d.low k) V17 := (hJ _ _ _ h2 kV17)
      have h19 := kV17.bk h3
      have h20 : RingB V17 d := h4.keepsN kV17
      have h21 := kV17.bk h5
      have h22 := kV17.bk hp
      refine an_v 0 (o_gall1B 818 0) (.pointer (some ⟨d.g, 0, none⟩)) (fun W hS => exec_ld 55 (.tmp 1) bx 0 Try.underlying55 (rc (hS.1) (by kernel_rfl))) ⟨h19, h21, h20⟩ ?_
      refine an_v 1 (o_gall1B 818 1) (.pointer (some ⟨d.g, 0, none⟩)) (fun W hS => exec_ld 55 (.tmp 1) bx 0 Try.underlying55 (rc (hS.1) (by kernel_rfl))) ⟨h19, h21, h20⟩ ?_
      refine an_k 2 (o_gall1B 818 2) (.pointer (some ⟨d.g, 0, none⟩)) ⟨h19, h21, h20⟩ ?_
      refine an_k 3 (o_gall1B 818 3) (.pointer (some ⟨d.g, 2, none⟩)) ⟨h19, h21, h20⟩ ?_
      refine an_v 4 (o_gall1B 818 4) (iN d.low) (fun W hS => exec_load_cell 3 (.tmp 16) (by kernel_rfl) ⟨d.g, 2, none⟩ (by kernel_rfl) _ _ Try.underlying3 rfl (rc (hS.2.1) (by kernel_rfl))) ⟨h19, h21, h20⟩ ?_
      refine an_k 5 (o_gall1B 818 5) (iN k) ⟨h19, h21, h20⟩ ?_
      refine an_v 6 (o_gall1B 818 6) (iN (d.low + k)) (fun W hS => exec_cast (congrArg (Value.int .i64) (wrapN (d.low + k) (by omega))) (by kernel_rfl)) ⟨h19, h21, h20⟩ ?_
      refine an_o 7 ?_
      refine on_c (o_gall1B 818 7) 35 #[.pointer (some ⟨d.g, 0, none⟩), iN (d.low + k)] Try.func35 ((gatB_some _ p _ h20 hs).mono ?_)
      rintro e V23 ⟨rfl, kV23⟩
      refine ⟨_, rfl, ?_⟩
      have h24 : J (cnt d.V d.low k) V23 := (hJ _ _ _ h18 kV23)
      have h25 := kV23.bk h19
      have h26 : RingB V23 d := h20.keepsN kV23
      have h27 := kV23.bk h21
      have h28 := kV23.bk h22
      refine ⟨⟨h25, h27, h26⟩, ?_⟩
      refine an_o 8 ?_
      refine on_r (o_gall1B 818 8) (pT p 0) (w' := V23) (by kernel_rfl) ?_
      refine ⟨⟨h25, h27, h26⟩, ?_⟩
      refine an_end (by kernel_rfl) ?_
      refine then_n ?_
      refine syI_seq (part_gall1B 1638) (part_gall1B 1639) (by kernel_rfl) ?_
      refine rg_yield 4 (opsAt (part_gall1B 1638)) [0, 1, 2, 3, 4, 5, 6, 7, 8, 9] (by kernel_rfl) (by kernel_rfl) ?_
      refine pi_run (o_gall1B 1638 0) (.pointer (some ⟨p, 0, none⟩)) (w' := V23) (by kernel_rfl) (by kernel_rfl) (by kernel_rfl) ?_
      refine pi_run (o_gall1B 1638 1) (.bool true) (w' := V23) (by kernel_rfl) (by kernel_rfl) (by kernel_rfl) ?_
      refine pi_run (o_gall1B 1638 2) (.bool true) (w' := V23) (by kernel_rfl) (by kernel_rfl) (by kernel_rfl) ?_
      refine pi_run (o_gall1B 1638 3) (.func (.yield l) #[] #[]) (w' := V23) (by kernel_rfl) (by kernel_rfl) (by kernel_rfl) ?_
      refine pi_run (o_gall1B 1638 4) (.pointer (some ⟨p, 0, none⟩)) (w' := V23) (by kernel_rfl) (by kernel_rfl) (by kernel_rfl) ?_
      refine pi_run (o_gall1B 1638 5) (.pointer (some ⟨p, 0, none⟩)) (w' := V23) (by kernel_rfl) (by kernel_rfl) (by kernel_rfl) ?_
      refine pi_run (o_gall1B 1638 6) (.agg (Pro.c a)) (w' := V23) (by kernel_rfl) (by kernel_rfl) (exec_load_row 35 (.tmp 26) (by kernel_rfl) p (by kernel_rfl) _ _ (0, 0) _ (h28) Try.underlying35 rfl (by rw [Pro.c_size _ ha.r]; kernel_rfl)) ?_
      refine pi_yield (o_gall1B 1638 7) (.tmp 24) l #[.agg (Pro.c a)] (by kernel_rfl) (by kernel_rfl) (by kernel_rfl) (by kernel_rfl) (by kernel_rfl) ((hY (cnt d.V d.low k) a _ (items_get hk hv) h24 ⟨h25, h26⟩).mono ?_)
      rintro e V29 (⟨rfl, hj3, hb3, hr3⟩ | ⟨rfl, hx3⟩)
      · refine ⟨_, rfl, ?_⟩
        refine pi_run (o_gall1B 1638 8) (.bool false) (w' := V29) (by kernel_rfl) (by kernel_rfl) (by kernel_rfl) ?_
        refine pi_run (o_gall1B 1638 9) (.bool false) (w' := V29) (by kernel_rfl) (by kernel_rfl) (by kernel_rfl) ?_
        refine pi_end ?_
        refine then_n ?_
        refine syI_no (.tmp 30) (part_gall1B 3278) (part_gall1B 3279) (by kernel_rfl) (by kernel_rfl) ?_
        refine syI_skip (by kernel_rfl) ?_
        refine blk_n ?_
        refine then_n ?_
        refine syW_reg ?_
        refine rg_plain 5 (opsAt (part_gall1B 103)) [0, 1] (by kernel_rfl) (by kernel_rfl) ?_
        refine ps_p (o_gall1B 103 0) (iN (k + 1)) (exec_cast (congrArg (Value.int .i64) (wrapN (k + 1) (by omega))) (by kernel_rfl)) ?_
        refine ps_k (o_gall1B 103 1) (iN (k + 1)) ?_
        refine ps_end ?_
        refine sy_a ⟨#[.func (.yield l) #[] #[], pT bx 0, undef, iN k, pT p 0, .pointer (some ⟨d.g, 0, none⟩), .pointer (some ⟨d.g, 0, none⟩), .pointer (some ⟨d.g, 1, none⟩), .slice (some ⟨d.s, 0, none⟩) d.n d.cap, iN d.n, iN (k + 1), .bool true, iN k, .pointer (some ⟨d.g, 0, none⟩), .pointer (some ⟨d.g, 0, none⟩), .pointer (some ⟨d.g, 0, none⟩), .pointer (some ⟨d.g, 2, none⟩), iN d.low, iN k, iN (d.low + k), pT p 0, pT p 0, .bool true, .bool true, .func (.yield l) #[] #[], pT p 0, pT p 0, .agg (Pro.c a), .bool true, .bool false, .bool false, iN (k + 1)], []⟩ ?_
        refine then_n ?_
        refine ⟨⟨k + 1, (iN k), (pT p 0), (.bool true), (iN k), (.pointer (some ⟨d.g, 0, none⟩)), (.pointer (some ⟨d.g, 0, none⟩)), (.pointer (some ⟨d.g, 0, none⟩)), (.pointer (some ⟨d.g, 2, none⟩)), (iN d.low), (iN k), (iN (d.low + k)), (pT p 0), (pT p 0), (.bool true), (.bool true), (.func (.yield l) #[] #[]), (pT p 0), (pT p 0), (.agg (Pro.c a)), (.bool true), (.bool false), (.bool false), (iN (k + 1)), by kernel_rfl, by omega, (by rw [cnt_some hv]; exact hj3), hb3, hr3, hr3.ring⟩, ?_⟩
        exact lt_meas (x := d.n - (k + 1)) (y := d.n - k) (by kernel_rfl) (by kernel_rfl) (by omega)
      · refine ⟨_, rfl, ?_⟩
        refine pi_run (o_gall1B 1638 8) (.bool true) (w' := V29) (by kernel_rfl) (by kernel_rfl) (by kernel_rfl) ?_
        refine pi_run (o_gall1B 1638 9) (.bool true) (w' := V29) (by kernel_rfl) (by kernel_rfl) (by kernel_rfl) ?_
        refine pi_end ?_
        refine then_n ?_
        refine syI_yes (.tmp 30) (part_gall1B 3278) (part_gall1B 3279) (by kernel_rfl) (by kernel_rfl) ?_
        refine syI_ret (by kernel_rfl) ?_
        refine blk_r ?_
        refine then_r ?_
        refine then_r ?_
        refine blk_r ?_
        refine sy_out (.tuple #[]) rfl (by kernel_rfl) ?_
        exact ⟨⟨_, rfl⟩, .inr hx3⟩
    · skip
      refine syI_seq (part_gall1B 24) (part_gall1B 25) (by kernel_rfl) ?_
      refine syW_reg ?_
      refine rg_plain 1 (opsAt (part_gall1B 24)) [0] (by kernel_rfl) (by kernel_rfl) ?_
      refine ps_p (o_gall1B 24 0) (.bool false) (dcf ((((k : Nat) : Int)) < (((d.n : Nat) : Int))) (by omega)) ?_
      refine ps_end ?_
      refine then_n ?_
      refine syI_seq (part_gall1B 50) (part_gall1B 51) (by kernel_rfl) ?_
      refine syI_no (.tmp 11) (part_gall1B 100) (part_gall1B 101) (by kernel_rfl) (by kernel_rfl) ?_
      refine syI_exit 0 (by kernel_rfl) ?_
      refine then_e ?_
      refine then_e ?_
      refine blk_e ?_
      refine sy_fall (.tuple #[]) rfl (by kernel_rfl) ?_
      exact ⟨⟨_, rfl⟩, .inl (by have hz := h2; rw [hk] at hz; exact hz)⟩
end Go.Proofs.Ytgipooedgbbliaa
