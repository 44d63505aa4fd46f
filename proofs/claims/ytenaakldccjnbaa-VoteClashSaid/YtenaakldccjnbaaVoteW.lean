/-
  Votes: clashes (printed by vote12.py). Conditions: none.
-/
import Derived.Test.YtenaakldccjnbaaVoteU
namespace Go.Proofs.Ytenaakldccjnbaa
open Go Go.RowKit Go.Own Go.Shelf
def Att.tagged (a : Att) (g : Nat) : Att := ⟨a.v, a.s, a.t, a.r, g⟩
def Pro.tagged (a : Pro) (g : Nat) : Pro := ⟨a.v, a.h, a.r, g⟩
theorem Att.tagged_ok {a : Att} (h : a.Ok) {g : Nat} (hg : g < 18446744073709551616) : (Att.mk a.v a.s a.t a.r g).Ok := ⟨h.v, h.s, h.t, h.r, hg⟩
theorem Pro.tagged_ok {a : Pro} (h : a.Ok) {g : Nat} (hg : g < 18446744073709551616) : (Pro.mk a.v a.h a.r g).Ok := ⟨h.v, h.h, h.r, hg⟩
theorem doub_comm (a b : Att) : doub b a = doub a b := by
  unfold doub; exact decide_eq_decide.2 ⟨fun ⟨h1, h2, h3, h4, h5⟩ => ⟨h2, h1, h3.symm, h4.symm, fun h => h5 h.symm⟩, fun ⟨h1, h2, h3, h4, h5⟩ => ⟨h2, h1, h3.symm, h4.symm, fun h => h5 h.symm⟩⟩
theorem doubP_comm (a b : Pro) : doubP b a = doubP a b := by
  unfold doubP; exact decide_eq_decide.2 ⟨fun ⟨h1, h2, h3, h4, h5⟩ => ⟨h2, h1, h3.symm, h4.symm, fun h => h5 h.symm⟩, fun ⟨h1, h2, h3, h4, h5⟩ => ⟨h2, h1, h3.symm, h4.symm, fun h => h5 h.symm⟩⟩
theorem doub_tagged (a b : Att) (g : Nat) : doub ⟨a.v, a.s, a.t, a.r, g⟩ b = doub a b := rfl
theorem doubP_tagged (a b : Pro) (g : Nat) : doubP ⟨a.v, a.h, a.r, g⟩ b = doubP a b := rfl
theorem doub_self (a : Att) (g : Nat) : doub a ⟨a.v, a.s, a.t, a.r, g⟩ = false := decide_eq_false fun h => h.2.2.2.2 rfl
theorem doubP_self (a : Pro) (g : Nat) : doubP a ⟨a.v, a.h, a.r, g⟩ = false := decide_eq_false fun h => h.2.2.2.2 rfl
theorem surr_self (a : Att) (g : Nat) : surr a ⟨a.v, a.s, a.t, a.r, g⟩ = false := decide_eq_false fun h => absurd h.2.2.2.1 (Int.lt_irrefl _)
theorem surr_anti {a b : Att} (h : surr a b = true) : surr b a = false := decide_eq_false fun h' => absurd (Int.lt_trans (of_decide_eq_true h).2.2.2.1 h'.2.2.2.1) (Int.lt_irrefl _)
theorem surr_doub {a b : Att} (h : surr a b = true) : doub a b = false := decide_eq_false fun h' => by
  have h1 := (of_decide_eq_true h).2.2.2.2
  have h2 := h'.2.2.2.1
  omega
theorem surr_trans {a b c : Att} (h : surr a b = true) (h' : surr b c = true) : surr a c = true := by
  have h1 := of_decide_eq_true h
  have h2 := of_decide_eq_true h'
  exact decide_eq_true ⟨h1.1, h2.2.1, h1.2.2.1.trans h2.2.2.1, by omega, by omega⟩
theorem bools_ne (b : Bool) (w : World) : (binOp .neq 4 (.bool b) (.bool b)).run Try.prog w = .ok (.bool false) w := by
  cases b <;> kernel_rfl
theorem doubP_is (a b : Pro) {r : Bool} (w : World) (ha : a.Ok) (hb : b.Ok) (h : doubP a b = r) : Calls Try.prog 34 #[.agg (Pro.c a), .agg (Pro.c b)] w fun e w' => e = .returned (.bool r) ∧ Keeps Nob w w' := by
  subst h; exact vDoublesBlock_ok a b w ha hb

noncomputable def part_VoteClash (n : Nat) : Code := partOf Try.f7 n
noncomputable abbrev o_VoteClash (n k : Nat) : Oper := (opsAt (part_VoteClash n)).getD k default
set_option maxRecDepth 100000 in
set_option maxHeartbeats 4000000 in
theorem clash_ok (a b c : Att) (p q : Pro) (tag : Nat) (ht : tag < 18446744073709551616) (w : World) (ha : a.Ok) (hb : b.Ok) (hc : c.Ok) (hp : p.Ok) (hq : q.Ok) :
    Calls Try.prog 7 #[.agg (Att.c a), .agg (Att.c b), .agg (Att.c c), .agg (Pro.c p), .agg (Pro.c q), .int .u64 ((tag : Nat) : Int)] w (fun e w' => e = .returned (.bool true) ∧ Keeps Nob w w') := by
  have K0 : Keeps Nob w w := Keeps.refl _ _
  refine sy_enter (part_VoteClash 1) ⟨#[.agg (Att.c a), .agg (Att.c b), .agg (Att.c c), .agg (Pro.c p), .agg (Pro.c q), uN tag, undef, undef, undef, undef, undef, undef, undef, undef, undef, undef, undef, undef, undef, undef, undef, undef, undef, undef, undef, undef, undef, undef, undef, undef, undef, undef, undef, undef, undef, undef, undef, undef, undef, undef, undef, undef, undef, undef, undef, undef, undef, undef, undef, undef, undef, undef, undef, undef, undef, undef, undef, undef, undef, undef, undef, undef, undef, undef, undef, undef, undef, undef, undef, undef, undef, undef, undef, undef, undef, undef, undef, undef, undef, undef, undef, undef, undef, undef, undef, undef, undef, undef, undef, undef, undef, undef, undef, undef, undef, undef, undef, undef], []⟩ Try.func7 (by kernel_rfl) (by kernel_rfl) ?_
  refine sy_sq (part_VoteClash 2) (part_VoteClash 3) ?_
  refine sy_reg ?_
  refine rg_plain 0 (opsAt (part_VoteClash 2)) [0, 1, 2, 3, 4, 5] (by kernel_rfl) (by kernel_rfl) ?_
  obtain ⟨V1, eV1, g6, eg6, h2, kV1⟩ := alloc_step w ((Att.c a)) 29
  have n3 : w.heap.size ≤ g6 := eg6 ▸ K0.size
  refine ps_r (o_VoteClash 2 0) (pT g6 0) (w' := V1) (by rw [← eV1, ← eg6]; exact exec_box 29 (.tmp 0) (by kernel_rfl) (.agg (Att.c a)) (by kernel_rfl)) ?_
  clear eV1
  have K4 := K0.nn kV1
  have z5 := kV1.size
  obtain ⟨V6, eV6, g7, eg7, h7, kV6⟩ := alloc_step V1 ((Att.c b)) 29
  have n8 : g6 < g7 := eg7 ▸ lt_of_block h2
  have n9 : w.heap.size ≤ g7 := eg7 ▸ K4.size
  refine ps_r (o_VoteClash 2 1) (pT g7 0) (w' := V6) (by rw [← eV6, ← eg7]; exact exec_box 29 (.tmp 1) (by kernel_rfl) (.agg (Att.c b)) (by kernel_rfl)) ?_
  clear eV6
  have h10 := kV6.bk h2
  have K11 := K4.nn kV6
  have z12 := kV6.size
  obtain ⟨V13, eV13, g8, eg8, h14, kV13⟩ := alloc_step V6 ((Att.c c)) 29
  have n15 : g6 < g8 := eg8 ▸ lt_of_block h10
  have n16 : g7 < g8 := eg8 ▸ lt_of_block h7
  have n17 : w.heap.size ≤ g8 := eg8 ▸ K11.size
  refine ps_r (o_VoteClash 2 2) (pT g8 0) (w' := V13) (by rw [← eV13, ← eg8]; exact exec_box 29 (.tmp 2) (by kernel_rfl) (.agg (Att.c c)) (by kernel_rfl)) ?_
  clear eV13
  have h18 := kV13.bk h10
  have h19 := kV13.bk h7
  have K20 := K11.nn kV13
  have z21 := kV13.size
  obtain ⟨V22, eV22, g9, eg9, h23, kV22⟩ := alloc_step V13 ((Pro.c p)) 36
  have n24 : g6 < g9 := eg9 ▸ lt_of_block h18
  have n25 : g7 < g9 := eg9 ▸ lt_of_block h19
  have n26 : g8 < g9 := eg9 ▸ lt_of_block h14
  have n27 : w.heap.size ≤ g9 := eg9 ▸ K20.size
  refine ps_r (o_VoteClash 2 3) (pT g9 0) (w' := V22) (by rw [← eV22, ← eg9]; exact exec_box 36 (.tmp 3) (by kernel_rfl) (.agg (Pro.c p)) (by kernel_rfl)) ?_
  clear eV22
  have h28 := kV22.bk h18
  have h29 := kV22.bk h19
  have h30 := kV22.bk h14
  have K31 := K20.nn kV22
  have z32 := kV22.size
  obtain ⟨V33, eV33, g10, eg10, h34, kV33⟩ := alloc_step V22 ((Pro.c q)) 36
  have n35 : g6 < g10 := eg10 ▸ lt_of_block h28
  have n36 : g7 < g10 := eg10 ▸ lt_of_block h29
  have n37 : g8 < g10 := eg10 ▸ lt_of_block h30
  have n38 : g9 < g10 := eg10 ▸ lt_of_block h23
  have n39 : w.heap.size ≤ g10 := eg10 ▸ K31.size
  refine ps_r (o_VoteClash 2 4) (pT g10 0) (w' := V33) (by rw [← eV33, ← eg10]; exact exec_box 36 (.tmp 4) (by kernel_rfl) (.agg (Pro.c q)) (by kernel_rfl)) ?_
  clear eV33
  have h40 := kV33.bk h28
  have h41 := kV33.bk h29
  have h42 := kV33.bk h30
  have h43 := kV33.bk h23
  have K44 := K31.nn kV33
  have z45 := kV33.size
  refine ps_k (o_VoteClash 2 5) (.bool false) ?_
  refine ps_end ?_
  refine then_n ?_
  refine sy_sq (part_VoteClash 6) (part_VoteClash 7) ?_
  refine sy_reg ?_
  refine rg_plain 1 (opsAt (part_VoteClash 6)) [0, 1] (by kernel_rfl) (by kernel_rfl) ?_
  refine ps_c (o_VoteClash 6 0) 6 #[] Try.func6 ((voteKnown_ok _).mono ?_)
  rintro e V46 ⟨rfl, kV46⟩
  refine ⟨_, rfl, ?_⟩
  have h47 := kV46.bk h40
  have h48 := kV46.bk h41
  have h49 := kV46.bk h42
  have h50 := kV46.bk h43
  have h51 := kV46.bk h34
  have K52 := K44.nn kV46
  have z53 := kV46.size
  refine ps_k (o_VoteClash 6 1) (.bool true) ?_
  refine ps_end ?_
  refine then_n ?_
  refine sy_sq (part_VoteClash 14) (part_VoteClash 15) ?_
  refine sy_cut (fun aQ VQ => ∃ (g14 g15 : Nat), (aQ = ⟨#[.agg (Att.c a), .agg (Att.c b), .agg (Att.c c), .agg (Pro.c p), .agg (Pro.c q), .int .u64 ((tag : Nat) : Int), .pointer (some ⟨g6, 0, none⟩), .pointer (some ⟨g7, 0, none⟩), .pointer (some ⟨g8, 0, none⟩), .pointer (some ⟨g9, 0, none⟩), .pointer (some ⟨g10, 0, none⟩), undef, .bool false, .bool true, .pointer (some ⟨g14, 0, none⟩), .pointer (some ⟨g15, 0, none⟩), .bool true, .agg (Att.c a), .agg (Pro.c p), undef, undef, undef, undef, undef, undef, undef, undef, undef, undef, undef, undef, undef, undef, undef, undef, undef, undef, undef, undef, undef, undef, undef, undef, undef, undef, undef, undef, undef, undef, undef, undef, undef, undef, undef, undef, undef, undef, undef, undef, undef, undef, undef, undef, undef, undef, undef, undef, undef, undef, undef, undef, undef, undef, undef, undef, undef, undef, undef, undef, undef, undef, undef, undef, undef, undef, undef, undef, undef, undef, undef, undef, undef, undef, undef, undef, undef, undef, undef], []⟩) ∧ (VQ.heap[g6]? = some (.cells (Att.c a) 29 (0, 0))) ∧ (VQ.heap[g7]? = some (.cells (Att.c b) 29 (0, 0))) ∧ (VQ.heap[g8]? = some (.cells (Att.c c) 29 (0, 0))) ∧ (VQ.heap[g9]? = some (.cells (Pro.c p) 36 (0, 0))) ∧ (VQ.heap[g10]? = some (.cells (Pro.c q) 36 (0, 0))) ∧ (VQ.heap[g14]? = some (.cells (Att.c a) 29 (0, 0))) ∧ (VQ.heap[g15]? = some (.cells (Pro.c p) 36 (0, 0))) ∧ (g14 ≠ g15 ∧ g14 ≠ g6 ∧ g14 ≠ g7 ∧ g14 ≠ g8 ∧ g14 ≠ g9 ∧ g14 ≠ g10 ∧ g15 ≠ g6 ∧ g15 ≠ g7 ∧ g15 ≠ g8 ∧ g15 ≠ g9 ∧ g15 ≠ g10 ∧ w.heap.size ≤ g14 ∧ w.heap.size ≤ g15 ∧ V46.heap.size ≤ g14 ∧ V46.heap.size ≤ g15) ∧ (Keeps Nob w VQ)) ?_ ?_
  · refine sy_np ?_
    refine sy_reg ?_
    refine an_begin 2 6 (opsAt (part_VoteClash 14)) (fun W => (W.heap[g6]? = some (.cells (Att.c a) 29 (0, 0))) ∧ (W.heap[g9]? = some (.cells (Pro.c p) 36 (0, 0)))) #[false, false, false, false, false, false] (by kernel_rfl) (by kernel_rfl) (by kernel_rfl) (by kernel_rfl) ?_
    obtain ⟨V54, eV54, kV54⟩ := drew_step V46
    rw [eV54]
    clear eV54
    have h55 := kV54.bk h47
    have h56 := kV54.bk h48
    have h57 := kV54.bk h49
    have h58 := kV54.bk h50
    have h59 := kV54.bk h51
    have K60 := K52.nn kV54
    have z61 := kV54.size
    refine an_v 0 (o_VoteClash 14 0) (.agg (Att.c a)) (fun W hS => exec_load_row 29 (.tmp 6) (by kernel_rfl) g6 (by kernel_rfl) _ _ (0, 0) _ (hS.1) Try.underlying29 rfl (by rw [Att.c_size _ ha.r]; kernel_rfl)) ⟨h55, h58⟩ ?_
    refine an_v 1 (o_VoteClash 14 1) (.agg (Pro.c p)) (fun W hS => exec_load_row 36 (.tmp 9) (by kernel_rfl) g9 (by kernel_rfl) _ _ (0, 0) _ (hS.2) Try.underlying36 rfl (by rw [Pro.c_size _ hp.r]; kernel_rfl)) ⟨h55, h58⟩ ?_
    refine an_two 2 3 (by kernel_rfl) ?_ ?_
    · obtain ⟨V62, eV62, g14, eg14, h63, kV62⟩ := alloc_step V54 (#[.int .i64 0, .int .i64 0, .int .i64 0, .int .u8 0, .int .u8 0, .int .u8 0, .int .u8 0, .int .u8 0, .int .u8 0, .int .u8 0, .int .u8 0, .int .u8 0, .int .u8 0, .int .u8 0, .int .u8 0, .int .u8 0, .int .u8 0, .int .u8 0, .int .u8 0, .int .u8 0, .int .u8 0, .int .u8 0, .int .u8 0, .int .u8 0, .int .u8 0, .int .u8 0, .int .u8 0, .int .u8 0, .int .u8 0, .int .u8 0, .int .u8 0, .int .u8 0, .int .u8 0, .int .u8 0, .int .u8 0, .int .u64 0]) 29
      have n64 : g6 < g14 := eg14 ▸ lt_of_block h55
      have n65 : g7 < g14 := eg14 ▸ lt_of_block h56
      have n66 : g8 < g14 := eg14 ▸ lt_of_block h57
      have n67 : g9 < g14 := eg14 ▸ lt_of_block h58
      have n68 : g10 < g14 := eg14 ▸ lt_of_block h59
      have n69 : w.heap.size ≤ g14 := eg14 ▸ K60.size
      refine on_r (o_VoteClash 14 2) (pT g14 0) (w' := V62) (by rw [← eV62, ← eg14]; exact exec_alloc0 29 (by kernel_rfl) (.agg (#[.int .i64 0, .int .i64 0, .int .i64 0, .int .u8 0, .int .u8 0, .int .u8 0, .int .u8 0, .int .u8 0, .int .u8 0, .int .u8 0, .int .u8 0, .int .u8 0, .int .u8 0, .int .u8 0, .int .u8 0, .int .u8 0, .int .u8 0, .int .u8 0, .int .u8 0, .int .u8 0, .int .u8 0, .int .u8 0, .int .u8 0, .int .u8 0, .int .u8 0, .int .u8 0, .int .u8 0, .int .u8 0, .int .u8 0, .int .u8 0, .int .u8 0, .int .u8 0, .int .u8 0, .int .u8 0, .int .u8 0, .int .u64 0])) (by kernel_rfl)) ?_
      clear eV62
      have h70 := kV62.bk h55
      have h71 := kV62.bk h56
      have h72 := kV62.bk h57
      have h73 := kV62.bk h58
      have h74 := kV62.bk h59
      have K75 := K60.nn kV62
      have z76 := kV62.size
      refine ⟨⟨h70, h73⟩, ?_⟩
      refine an_o 3 ?_
      obtain ⟨V77, eV77, g15, eg15, h78, kV77⟩ := alloc_step V62 (#[.int .i64 0, .int .i64 0, .int .u8 0, .int .u8 0, .int .u8 0, .int .u8 0, .int .u8 0, .int .u8 0, .int .u8 0, .int .u8 0, .int .u8 0, .int .u8 0, .int .u8 0, .int .u8 0, .int .u8 0, .int .u8 0, .int .u8 0, .int .u8 0, .int .u8 0, .int .u8 0, .int .u8 0, .int .u8 0, .int .u8 0, .int .u8 0, .int .u8 0, .int .u8 0, .int .u8 0, .int .u8 0, .int .u8 0, .int .u8 0, .int .u8 0, .int .u8 0, .int .u8 0, .int .u8 0, .int .u64 0]) 36
      have n79 : g6 < g15 := eg15 ▸ lt_of_block h70
      have n80 : g7 < g15 := eg15 ▸ lt_of_block h71
      have n81 : g8 < g15 := eg15 ▸ lt_of_block h72
      have n82 : g9 < g15 := eg15 ▸ lt_of_block h73
      have n83 : g10 < g15 := eg15 ▸ lt_of_block h74
      have n84 : g14 < g15 := eg15 ▸ lt_of_block h63
      have n85 : w.heap.size ≤ g15 := eg15 ▸ K75.size
      refine on_r (o_VoteClash 14 3) (pT g15 0) (w' := V77) (by rw [← eV77, ← eg15]; exact exec_alloc0 36 (by kernel_rfl) (.agg (#[.int .i64 0, .int .i64 0, .int .u8 0, .int .u8 0, .int .u8 0, .int .u8 0, .int .u8 0, .int .u8 0, .int .u8 0, .int .u8 0, .int .u8 0, .int .u8 0, .int .u8 0, .int .u8 0, .int .u8 0, .int .u8 0, .int .u8 0, .int .u8 0, .int .u8 0, .int .u8 0, .int .u8 0, .int .u8 0, .int .u8 0, .int .u8 0, .int .u8 0, .int .u8 0, .int .u8 0, .int .u8 0, .int .u8 0, .int .u8 0, .int .u8 0, .int .u8 0, .int .u8 0, .int .u8 0, .int .u64 0])) (by kernel_rfl)) ?_
      clear eV77
      have h86 := kV77.bk h70
      have h87 := kV77.bk h71
      have h88 := kV77.bk h72
      have h89 := kV77.bk h73
      have h90 := kV77.bk h74
      have h91 := kV77.bk h63
      have K92 := K75.nn kV77
      have z93 := kV77.size
      refine ⟨⟨h86, h89⟩, ?_⟩
      refine an_o 4 ?_
      obtain ⟨V94, eV94, kV94⟩ := rowset_step V77 g14 ((Att.c a))
      have h95 : V94.heap[g14]? = some (.cells (Att.c a) 29 (0, 0)) := eV94 ▸ setRow_heap _ _ _ _ _ _ h91
      refine on_s (o_VoteClash 14 4) (w' := V94) (by rw [← eV94]; exact exec_store_row 29 (.tmp 14) (.tmp 17) (by kernel_rfl) g14 ((Att.c a)) (by kernel_rfl) (by kernel_rfl) 29 (#[.int .i64 0, .int .i64 0, .int .i64 0, .int .u8 0, .int .u8 0, .int .u8 0, .int .u8 0, .int .u8 0, .int .u8 0, .int .u8 0, .int .u8 0, .int .u8 0, .int .u8 0, .int .u8 0, .int .u8 0, .int .u8 0, .int .u8 0, .int .u8 0, .int .u8 0, .int .u8 0, .int .u8 0, .int .u8 0, .int .u8 0, .int .u8 0, .int .u8 0, .int .u8 0, .int .u8 0, .int .u8 0, .int .u8 0, .int .u8 0, .int .u8 0, .int .u8 0, .int .u8 0, .int .u8 0, .int .u8 0, .int .u64 0]) h91 (by rw [Att.c_size _ ha.r]; kernel_rfl) (by rw [Att.c_size _ ha.r]; rfl) (Att.c_one _)) ?_
      clear eV94
      have h96 := kV94.bo h86 (by omega)
      have h97 := kV94.bo h87 (by omega)
      have h98 := kV94.bo h88 (by omega)
      have h99 := kV94.bo h89 (by omega)
      have h100 := kV94.bo h90 (by omega)
      have h101 := kV94.bo h78 (by omega)
      have K102 := K92.no kV94 (by omega)
      have z103 := kV94.size
      refine ⟨⟨h96, h99⟩, ?_⟩
      refine an_o 5 ?_
      obtain ⟨V104, eV104, kV104⟩ := rowset_step V94 g15 ((Pro.c p))
      have h105 : V104.heap[g15]? = some (.cells (Pro.c p) 36 (0, 0)) := eV104 ▸ setRow_heap _ _ _ _ _ _ h101
      refine on_s (o_VoteClash 14 5) (w' := V104) (by rw [← eV104]; exact exec_store_row 36 (.tmp 15) (.tmp 18) (by kernel_rfl) g15 ((Pro.c p)) (by kernel_rfl) (by kernel_rfl) 36 (#[.int .i64 0, .int .i64 0, .int .u8 0, .int .u8 0, .int .u8 0, .int .u8 0, .int .u8 0, .int .u8 0, .int .u8 0, .int .u8 0, .int .u8 0, .int .u8 0, .int .u8 0, .int .u8 0, .int .u8 0, .int .u8 0, .int .u8 0, .int .u8 0, .int .u8 0, .int .u8 0, .int .u8 0, .int .u8 0, .int .u8 0, .int .u8 0, .int .u8 0, .int .u8 0, .int .u8 0, .int .u8 0, .int .u8 0, .int .u8 0, .int .u8 0, .int .u8 0, .int .u8 0, .int .u8 0, .int .u64 0]) h101 (by rw [Pro.c_size _ hp.r]; kernel_rfl) (by rw [Pro.c_size _ hp.r]; rfl) (Pro.c_one _)) ?_
      clear eV104
      have h106 := kV104.bo h96 (by omega)
      have h107 := kV104.bo h97 (by omega)
      have h108 := kV104.bo h98 (by omega)
      have h109 := kV104.bo h99 (by omega)
      have h110 := kV104.bo h100 (by omega)
      have h111 := kV104.bo h95 (by omega)
      have K112 := K102.no kV104 (by omega)
      have z113 := kV104.size
      refine ⟨⟨h106, h109⟩, ?_⟩
      refine an_end (by kernel_rfl) ?_
      exact ⟨rfl, g14, g15, by kernel_rfl, h106, h107, h108, h109, h110, h111, h105, by omega, K112⟩
    · obtain ⟨V114, eV114, g15, eg15, h115, kV114⟩ := alloc_step V54 (#[.int .i64 0, .int .i64 0, .int .u8 0, .int .u8 0, .int .u8 0, .int .u8 0, .int .u8 0, .int .u8 0, .int .u8 0, .int .u8 0, .int .u8 0, .int .u8 0, .int .u8 0, .int .u8 0, .int .u8 0, .int .u8 0, .int .u8 0, .int .u8 0, .int .u8 0, .int .u8 0, .int .u8 0, .int .u8 0, .int .u8 0, .int .u8 0, .int .u8 0, .int .u8 0, .int .u8 0, .int .u8 0, .int .u8 0, .int .u8 0, .int .u8 0, .int .u8 0, .int .u8 0, .int .u8 0, .int .u64 0]) 36
      have n116 : g6 < g15 := eg15 ▸ lt_of_block h55
      have n117 : g7 < g15 := eg15 ▸ lt_of_block h56
      have n118 : g8 < g15 := eg15 ▸ lt_of_block h57
      have n119 : g9 < g15 := eg15 ▸ lt_of_block h58
      have n120 : g10 < g15 := eg15 ▸ lt_of_block h59
      have n121 : w.heap.size ≤ g15 := eg15 ▸ K60.size
      refine on_r (o_VoteClash 14 3) (pT g15 0) (w' := V114) (by rw [← eV114, ← eg15]; exact exec_alloc0 36 (by kernel_rfl) (.agg (#[.int .i64 0, .int .i64 0, .int .u8 0, .int .u8 0, .int .u8 0, .int .u8 0, .int .u8 0, .int .u8 0, .int .u8 0, .int .u8 0, .int .u8 0, .int .u8 0, .int .u8 0, .int .u8 0, .int .u8 0, .int .u8 0, .int .u8 0, .int .u8 0, .int .u8 0, .int .u8 0, .int .u8 0, .int .u8 0, .int .u8 0, .int .u8 0, .int .u8 0, .int .u8 0, .int .u8 0, .int .u8 0, .int .u8 0, .int .u8 0, .int .u8 0, .int .u8 0, .int .u8 0, .int .u8 0, .int .u64 0])) (by kernel_rfl)) ?_
      clear eV114
      have h122 := kV114.bk h55
      have h123 := kV114.bk h56
      have h124 := kV114.bk h57
      have h125 := kV114.bk h58
      have h126 := kV114.bk h59
      have K127 := K60.nn kV114
      have z128 := kV114.size
      refine ⟨⟨h122, h125⟩, ?_⟩
      refine an_o 2 ?_
      obtain ⟨V129, eV129, g14, eg14, h130, kV129⟩ := alloc_step V114 (#[.int .i64 0, .int .i64 0, .int .i64 0, .int .u8 0, .int .u8 0, .int .u8 0, .int .u8 0, .int .u8 0, .int .u8 0, .int .u8 0, .int .u8 0, .int .u8 0, .int .u8 0, .int .u8 0, .int .u8 0, .int .u8 0, .int .u8 0, .int .u8 0, .int .u8 0, .int .u8 0, .int .u8 0, .int .u8 0, .int .u8 0, .int .u8 0, .int .u8 0, .int .u8 0, .int .u8 0, .int .u8 0, .int .u8 0, .int .u8 0, .int .u8 0, .int .u8 0, .int .u8 0, .int .u8 0, .int .u8 0, .int .u64 0]) 29
      have n131 : g6 < g14 := eg14 ▸ lt_of_block h122
      have n132 : g7 < g14 := eg14 ▸ lt_of_block h123
      have n133 : g8 < g14 := eg14 ▸ lt_of_block h124
      have n134 : g9 < g14 := eg14 ▸ lt_of_block h125
      have n135 : g10 < g14 := eg14 ▸ lt_of_block h126
      have n136 : g15 < g14 := eg14 ▸ lt_of_block h115
      have n137 : w.heap.size ≤ g14 := eg14 ▸ K127.size
      refine on_r (o_VoteClash 14 2) (pT g14 0) (w' := V129) (by rw [← eV129, ← eg14]; exact exec_alloc0 29 (by kernel_rfl) (.agg (#[.int .i64 0, .int .i64 0, .int .i64 0, .int .u8 0, .int .u8 0, .int .u8 0, .int .u8 0, .int .u8 0, .int .u8 0, .int .u8 0, .int .u8 0, .int .u8 0, .int .u8 0, .int .u8 0, .int .u8 0, .int .u8 0, .int .u8 0, .int .u8 0, .int .u8 0, .int .u8 0, .int .u8 0, .int .u8 0, .int .u8 0, .int .u8 0, .int .u8 0, .int .u8 0, .int .u8 0, .int .u8 0, .int .u8 0, .int .u8 0, .int .u8 0, .int .u8 0, .int .u8 0, .int .u8 0, .int .u8 0, .int .u64 0])) (by kernel_rfl)) ?_
      clear eV129
      have h138 := kV129.bk h122
      have h139 := kV129.bk h123
      have h140 := kV129.bk h124
      have h141 := kV129.bk h125
      have h142 := kV129.bk h126
      have h143 := kV129.bk h115
      have K144 := K127.nn kV129
      have z145 := kV129.size
      refine ⟨⟨h138, h141⟩, ?_⟩
      refine an_o 4 ?_
      obtain ⟨V146, eV146, kV146⟩ := rowset_step V129 g14 ((Att.c a))
      have h147 : V146.heap[g14]? = some (.cells (Att.c a) 29 (0, 0)) := eV146 ▸ setRow_heap _ _ _ _ _ _ h130
      refine on_s (o_VoteClash 14 4) (w' := V146) (by rw [← eV146]; exact exec_store_row 29 (.tmp 14) (.tmp 17) (by kernel_rfl) g14 ((Att.c a)) (by kernel_rfl) (by kernel_rfl) 29 (#[.int .i64 0, .int .i64 0, .int .i64 0, .int .u8 0, .int .u8 0, .int .u8 0, .int .u8 0, .int .u8 0, .int .u8 0, .int .u8 0, .int .u8 0, .int .u8 0, .int .u8 0, .int .u8 0, .int .u8 0, .int .u8 0, .int .u8 0, .int .u8 0, .int .u8 0, .int .u8 0, .int .u8 0, .int .u8 0, .int .u8 0, .int .u8 0, .int .u8 0, .int .u8 0, .int .u8 0, .int .u8 0, .int .u8 0, .int .u8 0, .int .u8 0, .int .u8 0, .int .u8 0, .int .u8 0, .int .u8 0, .int .u64 0]) h130 (by rw [Att.c_size _ ha.r]; kernel_rfl) (by rw [Att.c_size _ ha.r]; rfl) (Att.c_one _)) ?_
      clear eV146
      have h148 := kV146.bo h138 (by omega)
      have h149 := kV146.bo h139 (by omega)
      have h150 := kV146.bo h140 (by omega)
      have h151 := kV146.bo h141 (by omega)
      have h152 := kV146.bo h142 (by omega)
      have h153 := kV146.bo h143 (by omega)
      have K154 := K144.no kV146 (by omega)
      have z155 := kV146.size
      refine ⟨⟨h148, h151⟩, ?_⟩
      refine an_o 5 ?_
      obtain ⟨V156, eV156, kV156⟩ := rowset_step V146 g15 ((Pro.c p))
      have h157 : V156.heap[g15]? = some (.cells (Pro.c p) 36 (0, 0)) := eV156 ▸ setRow_heap _ _ _ _ _ _ h153
      refine on_s (o_VoteClash 14 5) (w' := V156) (by rw [← eV156]; exact exec_store_row 36 (.tmp 15) (.tmp 18) (by kernel_rfl) g15 ((Pro.c p)) (by kernel_rfl) (by kernel_rfl) 36 (#[.int .i64 0, .int .i64 0, .int .u8 0, .int .u8 0, .int .u8 0, .int .u8 0, .int .u8 0, .int .u8 0, .int .u8 0, .int .u8 0, .int .u8 0, .int .u8 0, .int .u8 0, .int .u8 0, .int .u8 0, .int .u8 0, .int .u8 0, .int .u8 0, .int .u8 0, .int .u8 0, .int .u8 0, .int .u8 0, .int .u8 0, .int .u8 0, .int .u8 0, .int .u8 0, .int .u8 0, .int .u8 0, .int .u8 0, .int .u8 0, .int .u8 0, .int .u8 0, .int .u8 0, .int .u8 0, .int .u64 0]) h153 (by rw [Pro.c_size _ hp.r]; kernel_rfl) (by rw [Pro.c_size _ hp.r]; rfl) (Pro.c_one _)) ?_
      clear eV156
      have h158 := kV156.bo h148 (by omega)
      have h159 := kV156.bo h149 (by omega)
      have h160 := kV156.bo h150 (by omega)
      have h161 := kV156.bo h151 (by omega)
      have h162 := kV156.bo h152 (by omega)
      have h163 := kV156.bo h147 (by omega)
      have K164 := K154.no kV156 (by omega)
      have z165 := kV156.size
      refine ⟨⟨h158, h161⟩, ?_⟩
      refine an_end (by kernel_rfl) ?_
      exact ⟨rfl, g14, g15, by kernel_rfl, h158, h159, h160, h161, h162, h163, h157, by omega, K164⟩
  rintro aQ V166 ⟨g14, g15, rfl, h167, h168, h169, h170, h171, h172, h173, hd174, K175⟩
  have z176 := lt_of_block h172
  refine then_n ?_
  refine sy_sq (part_VoteClash 30) (part_VoteClash 31) ?_
  refine sy_reg ?_
  refine rg_plain 3 (opsAt (part_VoteClash 30)) [0, 1, 2] (by kernel_rfl) (by kernel_rfl) ?_
  refine ps_k (o_VoteClash 30 0) (uN tag) ?_
  refine ps_k (o_VoteClash 30 1) (pT g14 35) ?_
  obtain ⟨V177, eV177, kV177⟩ := cell_step V166 g14 35 (.int .u64 ((tag : Nat) : Int))
  have h178 : V177.heap[g14]? = some (.cells (Att.c ⟨a.v, a.s, a.t, a.r, tag⟩) 29 (0, 0)) := eV177 ▸ ((heap_setCell_same _ g14 35 _ _ (.int .u64 ((tag : Nat) : Int)) h172).trans (congrArg (fun c => some (Obj.cells c 29 (0, 0))) (show (Att.c a : Array Value).setIfInBounds 35 (.int .u64 ((tag : Nat) : Int)) = Att.c ⟨a.v, a.s, a.t, a.r, tag⟩ from Att.c_settag _ _ ha.r)))
  refine ps_s (o_VoteClash 30 2) (w' := V177) (by rw [← eV177]; exact exec_store_cell 27 (.tmp 20) (.tmp 19) (by kernel_rfl) g14 35 (by kernel_rfl) (uN tag) (by kernel_rfl) (by kernel_rfl) (by kernel_rfl) (uN a.g) (rc (h172) (Att.c_tag _ ha.r)) (frozen_of_row _ _ _ _ _ h172) (by kernel_rfl)) ?_
  clear eV177
  have h179 := kV177.bo h167 (by omega)
  have h180 := kV177.bo h168 (by omega)
  have h181 := kV177.bo h169 (by omega)
  have h182 := kV177.bo h170 (by omega)
  have h183 := kV177.bo h171 (by omega)
  have h184 := kV177.bo h173 (by omega)
  have K185 := K175.no kV177 (by omega)
  have z186 := kV177.size
  refine ps_end ?_
  refine then_n ?_
  refine sy_sq (part_VoteClash 62) (part_VoteClash 63) ?_
  refine sy_reg ?_
  refine rg_plain 4 (opsAt (part_VoteClash 62)) [0, 1, 2] (by kernel_rfl) (by kernel_rfl) ?_
  refine ps_k (o_VoteClash 62 0) (uN tag) ?_
  refine ps_k (o_VoteClash 62 1) (pT g15 34) ?_
  obtain ⟨V187, eV187, kV187⟩ := cell_step V177 g15 34 (.int .u64 ((tag : Nat) : Int))
  have h188 : V187.heap[g15]? = some (.cells (Pro.c ⟨p.v, p.h, p.r, tag⟩) 36 (0, 0)) := eV187 ▸ ((heap_setCell_same _ g15 34 _ _ (.int .u64 ((tag : Nat) : Int)) h184).trans (congrArg (fun c => some (Obj.cells c 36 (0, 0))) (show (Pro.c p : Array Value).setIfInBounds 34 (.int .u64 ((tag : Nat) : Int)) = Pro.c ⟨p.v, p.h, p.r, tag⟩ from Pro.c_settag _ _ hp.r)))
  refine ps_s (o_VoteClash 62 2) (w' := V187) (by rw [← eV187]; exact exec_store_cell 27 (.tmp 22) (.tmp 21) (by kernel_rfl) g15 34 (by kernel_rfl) (uN tag) (by kernel_rfl) (by kernel_rfl) (by kernel_rfl) (uN p.g) (rc (h184) (Pro.c_tag _ hp.r)) (frozen_of_row _ _ _ _ _ h184) (by kernel_rfl)) ?_
  clear eV187
  have h189 := kV187.bo h179 (by omega)
  have h190 := kV187.bo h180 (by omega)
  have h191 := kV187.bo h181 (by omega)
  have h192 := kV187.bo h182 (by omega)
  have h193 := kV187.bo h183 (by omega)
  have h194 := kV187.bo h178 (by omega)
  have K195 := K185.no kV187 (by omega)
  have z196 := kV187.size
  refine ps_end ?_
  refine then_n ?_
  refine sy_sq (part_VoteClash 126) (part_VoteClash 127) ?_
  refine sy_sq (part_VoteClash 252) (part_VoteClash 253) ?_
  refine sy_np ?_
  refine sy_reg ?_
  refine an_begin 5 44 (opsAt (part_VoteClash 252)) (fun W => (W.heap[g6]? = some (.cells (Att.c a) 29 (0, 0))) ∧ (W.heap[g7]? = some (.cells (Att.c b) 29 (0, 0))) ∧ (W.heap[g9]? = some (.cells (Pro.c p) 36 (0, 0))) ∧ (W.heap[g10]? = some (.cells (Pro.c q) 36 (0, 0))) ∧ (W.heap[g14]? = some (.cells (Att.c ⟨a.v, a.s, a.t, a.r, tag⟩) 29 (0, 0))) ∧ (W.heap[g15]? = some (.cells (Pro.c ⟨p.v, p.h, p.r, tag⟩) 36 (0, 0)))) #[false, false, false, false, false, false, false, false, false, false, false, false, false, false, false, false, false, false, false, false, false, false, false, false, false, false, false, false, false, false, false, false, false, false, false, false, false, false, false, false, false, false, false, false] (by kernel_rfl) (by kernel_rfl) (by kernel_rfl) (by kernel_rfl) ?_
  obtain ⟨V197, eV197, kV197⟩ := drew_step V187
  rw [eV197]
  clear eV197
  have h198 := kV197.bk h189
  have h199 := kV197.bk h190
  have h200 := kV197.bk h191
  have h201 := kV197.bk h192
  have h202 := kV197.bk h193
  have h203 := kV197.bk h194
  have h204 := kV197.bk h188
  have K205 := K195.nn kV197
  have z206 := kV197.size
  refine an_v 0 (o_VoteClash 252 0) (.agg (Att.c a)) (fun W hS => exec_load_row 29 (.tmp 6) (by kernel_rfl) g6 (by kernel_rfl) _ _ (0, 0) _ (hS.1) Try.underlying29 rfl (by rw [Att.c_size _ ha.r]; kernel_rfl)) ⟨h198, h199, h201, h202, h203, h204⟩ ?_
  refine an_v 1 (o_VoteClash 252 1) (.agg (Att.c b)) (fun W hS => exec_load_row 29 (.tmp 7) (by kernel_rfl) g7 (by kernel_rfl) _ _ (0, 0) _ (hS.2.1) Try.underlying29 rfl (by rw [Att.c_size _ hb.r]; kernel_rfl)) ⟨h198, h199, h201, h202, h203, h204⟩ ?_
  refine an_v 3 (o_VoteClash 252 3) (.agg (Att.c b)) (fun W hS => exec_load_row 29 (.tmp 7) (by kernel_rfl) g7 (by kernel_rfl) _ _ (0, 0) _ (hS.2.1) Try.underlying29 rfl (by rw [Att.c_size _ hb.r]; kernel_rfl)) ⟨h198, h199, h201, h202, h203, h204⟩ ?_
  refine an_v 4 (o_VoteClash 252 4) (.agg (Att.c a)) (fun W hS => exec_load_row 29 (.tmp 6) (by kernel_rfl) g6 (by kernel_rfl) _ _ (0, 0) _ (hS.1) Try.underlying29 rfl (by rw [Att.c_size _ ha.r]; kernel_rfl)) ⟨h198, h199, h201, h202, h203, h204⟩ ?_
  refine an_o 2 ?_
  refine on_c (o_VoteClash 252 2) 30 #[.agg (Att.c a), .agg (Att.c b)] Try.func30 ((doub_is a b _ ha hb rfl).mono ?_)
  rintro e V207 ⟨rfl, kV207⟩
  refine ⟨_, rfl, ?_⟩
  have h208 := kV207.bk h198
  have h209 := kV207.bk h199
  have h210 := kV207.bk h200
  have h211 := kV207.bk h201
  have h212 := kV207.bk h202
  have h213 := kV207.bk h203
  have h214 := kV207.bk h204
  have K215 := K205.nn kV207
  have z216 := kV207.size
  refine ⟨⟨h208, h209, h211, h212, h213, h214⟩, ?_⟩
  refine an_o 5 ?_
  refine on_c (o_VoteClash 252 5) 30 #[.agg (Att.c b), .agg (Att.c a)] Try.func30 ((doub_is b a _ hb ha (doub_comm a b)).mono ?_)
  rintro e V217 ⟨rfl, kV217⟩
  refine ⟨_, rfl, ?_⟩
  have h218 := kV217.bk h208
  have h219 := kV217.bk h209
  have h220 := kV217.bk h210
  have h221 := kV217.bk h211
  have h222 := kV217.bk h212
  have h223 := kV217.bk h213
  have h224 := kV217.bk h214
  have K225 := K215.nn kV217
  have z226 := kV217.size
  refine ⟨⟨h218, h219, h221, h222, h223, h224⟩, ?_⟩
  refine an_v 6 (o_VoteClash 252 6) (.bool false) (fun W hS => exec_binop .neq 4 4 (.tmp 25) (.tmp 28) (by kernel_rfl) (.bool (doub a b)) (.bool (doub a b)) _ (by kernel_rfl) (by kernel_rfl) (by kernel_rfl) (bools_ne _ _)) ⟨h218, h219, h221, h222, h223, h224⟩ ?_
  refine an_k 7 (o_VoteClash 252 7) (.bool false) ⟨h218, h219, h221, h222, h223, h224⟩ ?_
  refine an_v 8 (o_VoteClash 252 8) (.agg (Att.c a)) (fun W hS => exec_load_row 29 (.tmp 6) (by kernel_rfl) g6 (by kernel_rfl) _ _ (0, 0) _ (hS.1) Try.underlying29 rfl (by rw [Att.c_size _ ha.r]; kernel_rfl)) ⟨h218, h219, h221, h222, h223, h224⟩ ?_
  refine an_v 9 (o_VoteClash 252 9) (.agg (Att.c b)) (fun W hS => exec_load_row 29 (.tmp 7) (by kernel_rfl) g7 (by kernel_rfl) _ _ (0, 0) _ (hS.2.1) Try.underlying29 rfl (by rw [Att.c_size _ hb.r]; kernel_rfl)) ⟨h218, h219, h221, h222, h223, h224⟩ ?_
  refine an_v 11 (o_VoteClash 252 11) (.agg (Att.c ⟨a.v, a.s, a.t, a.r, tag⟩)) (fun W hS => exec_load_row 29 (.tmp 14) (by kernel_rfl) g14 (by kernel_rfl) _ _ (0, 0) _ (hS.2.2.2.2.1) Try.underlying29 rfl (by rw [Att.c_size (⟨a.v, a.s, a.t, a.r, tag⟩) ha.r]; kernel_rfl)) ⟨h218, h219, h221, h222, h223, h224⟩ ?_
  refine an_v 12 (o_VoteClash 252 12) (.agg (Att.c b)) (fun W hS => exec_load_row 29 (.tmp 7) (by kernel_rfl) g7 (by kernel_rfl) _ _ (0, 0) _ (hS.2.1) Try.underlying29 rfl (by rw [Att.c_size _ hb.r]; kernel_rfl)) ⟨h218, h219, h221, h222, h223, h224⟩ ?_
  refine an_o 10 ?_
  refine on_c (o_VoteClash 252 10) 30 #[.agg (Att.c a), .agg (Att.c b)] Try.func30 ((doub_is a b _ ha hb rfl).mono ?_)
  rintro e V227 ⟨rfl, kV227⟩
  refine ⟨_, rfl, ?_⟩
  have h228 := kV227.bk h218
  have h229 := kV227.bk h219
  have h230 := kV227.bk h220
  have h231 := kV227.bk h221
  have h232 := kV227.bk h222
  have h233 := kV227.bk h223
  have h234 := kV227.bk h224
  have K235 := K225.nn kV227
  have z236 := kV227.size
  refine ⟨⟨h228, h229, h231, h232, h233, h234⟩, ?_⟩
  refine an_o 13 ?_
  refine on_c (o_VoteClash 252 13) 30 #[.agg (Att.c ⟨a.v, a.s, a.t, a.r, tag⟩), .agg (Att.c b)] Try.func30 ((doub_is ⟨a.v, a.s, a.t, a.r, tag⟩ b _ (Att.tagged_ok ha ht) hb (doub_tagged a b tag)).mono ?_)
  rintro e V237 ⟨rfl, kV237⟩
  refine ⟨_, rfl, ?_⟩
  have h238 := kV237.bk h228
  have h239 := kV237.bk h229
  have h240 := kV237.bk h230
  have h241 := kV237.bk h231
  have h242 := kV237.bk h232
  have h243 := kV237.bk h233
  have h244 := kV237.bk h234
  have K245 := K235.nn kV237
  have z246 := kV237.size
  refine ⟨⟨h238, h239, h241, h242, h243, h244⟩, ?_⟩
  refine an_v 14 (o_VoteClash 252 14) (.bool false) (fun W hS => exec_binop .neq 4 4 (.tmp 33) (.tmp 36) (by kernel_rfl) (.bool (doub a b)) (.bool (doub a b)) _ (by kernel_rfl) (by kernel_rfl) (by kernel_rfl) (bools_ne _ _)) ⟨h238, h239, h241, h242, h243, h244⟩ ?_
  refine an_k 15 (o_VoteClash 252 15) (.bool false) ⟨h238, h239, h241, h242, h243, h244⟩ ?_
  refine an_k 16 (o_VoteClash 252 16) (.bool false) ⟨h238, h239, h241, h242, h243, h244⟩ ?_
  refine an_v 17 (o_VoteClash 252 17) (.agg (Att.c a)) (fun W hS => exec_load_row 29 (.tmp 6) (by kernel_rfl) g6 (by kernel_rfl) _ _ (0, 0) _ (hS.1) Try.underlying29 rfl (by rw [Att.c_size _ ha.r]; kernel_rfl)) ⟨h238, h239, h241, h242, h243, h244⟩ ?_
  refine an_v 18 (o_VoteClash 252 18) (.agg (Att.c ⟨a.v, a.s, a.t, a.r, tag⟩)) (fun W hS => exec_load_row 29 (.tmp 14) (by kernel_rfl) g14 (by kernel_rfl) _ _ (0, 0) _ (hS.2.2.2.2.1) Try.underlying29 rfl (by rw [Att.c_size (⟨a.v, a.s, a.t, a.r, tag⟩) ha.r]; kernel_rfl)) ⟨h238, h239, h241, h242, h243, h244⟩ ?_
  refine an_o 19 ?_
  refine on_c (o_VoteClash 252 19) 30 #[.agg (Att.c a), .agg (Att.c ⟨a.v, a.s, a.t, a.r, tag⟩)] Try.func30 ((doub_is a ⟨a.v, a.s, a.t, a.r, tag⟩ _ ha (Att.tagged_ok ha ht) (doub_self a tag)).mono ?_)
  rintro e V247 ⟨rfl, kV247⟩
  refine ⟨_, rfl, ?_⟩
  have h248 := kV247.bk h238
  have h249 := kV247.bk h239
  have h250 := kV247.bk h240
  have h251 := kV247.bk h241
  have h252 := kV247.bk h242
  have h253 := kV247.bk h243
  have h254 := kV247.bk h244
  have K255 := K245.nn kV247
  have z256 := kV247.size
  refine ⟨⟨h248, h249, h251, h252, h253, h254⟩, ?_⟩
  refine an_k 20 (o_VoteClash 252 20) (.bool false) ⟨h248, h249, h251, h252, h253, h254⟩ ?_
  refine an_k 21 (o_VoteClash 252 21) (.bool false) ⟨h248, h249, h251, h252, h253, h254⟩ ?_
  refine an_v 22 (o_VoteClash 252 22) (.agg (Pro.c p)) (fun W hS => exec_load_row 36 (.tmp 9) (by kernel_rfl) g9 (by kernel_rfl) _ _ (0, 0) _ (hS.2.2.1) Try.underlying36 rfl (by rw [Pro.c_size _ hp.r]; kernel_rfl)) ⟨h248, h249, h251, h252, h253, h254⟩ ?_
  refine an_v 23 (o_VoteClash 252 23) (.agg (Pro.c q)) (fun W hS => exec_load_row 36 (.tmp 10) (by kernel_rfl) g10 (by kernel_rfl) _ _ (0, 0) _ (hS.2.2.2.1) Try.underlying36 rfl (by rw [Pro.c_size _ hq.r]; kernel_rfl)) ⟨h248, h249, h251, h252, h253, h254⟩ ?_
  refine an_v 25 (o_VoteClash 252 25) (.agg (Pro.c q)) (fun W hS => exec_load_row 36 (.tmp 10) (by kernel_rfl) g10 (by kernel_rfl) _ _ (0, 0) _ (hS.2.2.2.1) Try.underlying36 rfl (by rw [Pro.c_size _ hq.r]; kernel_rfl)) ⟨h248, h249, h251, h252, h253, h254⟩ ?_
  refine an_v 26 (o_VoteClash 252 26) (.agg (Pro.c p)) (fun W hS => exec_load_row 36 (.tmp 9) (by kernel_rfl) g9 (by kernel_rfl) _ _ (0, 0) _ (hS.2.2.1) Try.underlying36 rfl (by rw [Pro.c_size _ hp.r]; kernel_rfl)) ⟨h248, h249, h251, h252, h253, h254⟩ ?_
  refine an_o 24 ?_
  refine on_c (o_VoteClash 252 24) 34 #[.agg (Pro.c p), .agg (Pro.c q)] Try.func34 ((doubP_is p q _ hp hq rfl).mono ?_)
  rintro e V257 ⟨rfl, kV257⟩
  refine ⟨_, rfl, ?_⟩
  have h258 := kV257.bk h248
  have h259 := kV257.bk h249
  have h260 := kV257.bk h250
  have h261 := kV257.bk h251
  have h262 := kV257.bk h252
  have h263 := kV257.bk h253
  have h264 := kV257.bk h254
  have K265 := K255.nn kV257
  have z266 := kV257.size
  refine ⟨⟨h258, h259, h261, h262, h263, h264⟩, ?_⟩
  refine an_o 27 ?_
  refine on_c (o_VoteClash 252 27) 34 #[.agg (Pro.c q), .agg (Pro.c p)] Try.func34 ((doubP_is q p _ hq hp (doubP_comm p q)).mono ?_)
  rintro e V267 ⟨rfl, kV267⟩
  refine ⟨_, rfl, ?_⟩
  have h268 := kV267.bk h258
  have h269 := kV267.bk h259
  have h270 := kV267.bk h260
  have h271 := kV267.bk h261
  have h272 := kV267.bk h262
  have h273 := kV267.bk h263
  have h274 := kV267.bk h264
  have K275 := K265.nn kV267
  have z276 := kV267.size
  refine ⟨⟨h268, h269, h271, h272, h273, h274⟩, ?_⟩
  refine an_v 28 (o_VoteClash 252 28) (.bool false) (fun W hS => exec_binop .neq 4 4 (.tmp 47) (.tmp 50) (by kernel_rfl) (.bool (doubP p q)) (.bool (doubP p q)) _ (by kernel_rfl) (by kernel_rfl) (by kernel_rfl) (bools_ne _ _)) ⟨h268, h269, h271, h272, h273, h274⟩ ?_
  refine an_k 29 (o_VoteClash 252 29) (.bool false) ⟨h268, h269, h271, h272, h273, h274⟩ ?_
  refine an_k 30 (o_VoteClash 252 30) (.bool false) ⟨h268, h269, h271, h272, h273, h274⟩ ?_
  refine an_v 31 (o_VoteClash 252 31) (.agg (Pro.c p)) (fun W hS => exec_load_row 36 (.tmp 9) (by kernel_rfl) g9 (by kernel_rfl) _ _ (0, 0) _ (hS.2.2.1) Try.underlying36 rfl (by rw [Pro.c_size _ hp.r]; kernel_rfl)) ⟨h268, h269, h271, h272, h273, h274⟩ ?_
  refine an_v 32 (o_VoteClash 252 32) (.agg (Pro.c q)) (fun W hS => exec_load_row 36 (.tmp 10) (by kernel_rfl) g10 (by kernel_rfl) _ _ (0, 0) _ (hS.2.2.2.1) Try.underlying36 rfl (by rw [Pro.c_size _ hq.r]; kernel_rfl)) ⟨h268, h269, h271, h272, h273, h274⟩ ?_
  refine an_v 34 (o_VoteClash 252 34) (.agg (Pro.c ⟨p.v, p.h, p.r, tag⟩)) (fun W hS => exec_load_row 36 (.tmp 15) (by kernel_rfl) g15 (by kernel_rfl) _ _ (0, 0) _ (hS.2.2.2.2.2) Try.underlying36 rfl (by rw [Pro.c_size (⟨p.v, p.h, p.r, tag⟩) hp.r]; kernel_rfl)) ⟨h268, h269, h271, h272, h273, h274⟩ ?_
  refine an_v 35 (o_VoteClash 252 35) (.agg (Pro.c q)) (fun W hS => exec_load_row 36 (.tmp 10) (by kernel_rfl) g10 (by kernel_rfl) _ _ (0, 0) _ (hS.2.2.2.1) Try.underlying36 rfl (by rw [Pro.c_size _ hq.r]; kernel_rfl)) ⟨h268, h269, h271, h272, h273, h274⟩ ?_
  refine an_o 33 ?_
  refine on_c (o_VoteClash 252 33) 34 #[.agg (Pro.c p), .agg (Pro.c q)] Try.func34 ((doubP_is p q _ hp hq rfl).mono ?_)
  rintro e V277 ⟨rfl, kV277⟩
  refine ⟨_, rfl, ?_⟩
  have h278 := kV277.bk h268
  have h279 := kV277.bk h269
  have h280 := kV277.bk h270
  have h281 := kV277.bk h271
  have h282 := kV277.bk h272
  have h283 := kV277.bk h273
  have h284 := kV277.bk h274
  have K285 := K275.nn kV277
  have z286 := kV277.size
  refine ⟨⟨h278, h279, h281, h282, h283, h284⟩, ?_⟩
  refine an_o 36 ?_
  refine on_c (o_VoteClash 252 36) 34 #[.agg (Pro.c ⟨p.v, p.h, p.r, tag⟩), .agg (Pro.c q)] Try.func34 ((doubP_is ⟨p.v, p.h, p.r, tag⟩ q _ (Pro.tagged_ok hp ht) hq (doubP_tagged p q tag)).mono ?_)
  rintro e V287 ⟨rfl, kV287⟩
  refine ⟨_, rfl, ?_⟩
  have h288 := kV287.bk h278
  have h289 := kV287.bk h279
  have h290 := kV287.bk h280
  have h291 := kV287.bk h281
  have h292 := kV287.bk h282
  have h293 := kV287.bk h283
  have h294 := kV287.bk h284
  have K295 := K285.nn kV287
  have z296 := kV287.size
  refine ⟨⟨h288, h289, h291, h292, h293, h294⟩, ?_⟩
  refine an_v 37 (o_VoteClash 252 37) (.bool false) (fun W hS => exec_binop .neq 4 4 (.tmp 56) (.tmp 59) (by kernel_rfl) (.bool (doubP p q)) (.bool (doubP p q)) _ (by kernel_rfl) (by kernel_rfl) (by kernel_rfl) (bools_ne _ _)) ⟨h288, h289, h291, h292, h293, h294⟩ ?_
  refine an_k 38 (o_VoteClash 252 38) (.bool false) ⟨h288, h289, h291, h292, h293, h294⟩ ?_
  refine an_k 39 (o_VoteClash 252 39) (.bool false) ⟨h288, h289, h291, h292, h293, h294⟩ ?_
  refine an_v 40 (o_VoteClash 252 40) (.agg (Pro.c p)) (fun W hS => exec_load_row 36 (.tmp 9) (by kernel_rfl) g9 (by kernel_rfl) _ _ (0, 0) _ (hS.2.2.1) Try.underlying36 rfl (by rw [Pro.c_size _ hp.r]; kernel_rfl)) ⟨h288, h289, h291, h292, h293, h294⟩ ?_
  refine an_v 41 (o_VoteClash 252 41) (.agg (Pro.c ⟨p.v, p.h, p.r, tag⟩)) (fun W hS => exec_load_row 36 (.tmp 15) (by kernel_rfl) g15 (by kernel_rfl) _ _ (0, 0) _ (hS.2.2.2.2.2) Try.underlying36 rfl (by rw [Pro.c_size (⟨p.v, p.h, p.r, tag⟩) hp.r]; kernel_rfl)) ⟨h288, h289, h291, h292, h293, h294⟩ ?_
  refine an_o 42 ?_
  refine on_c (o_VoteClash 252 42) 34 #[.agg (Pro.c p), .agg (Pro.c ⟨p.v, p.h, p.r, tag⟩)] Try.func34 ((doubP_is p ⟨p.v, p.h, p.r, tag⟩ _ hp (Pro.tagged_ok hp ht) (doubP_self p tag)).mono ?_)
  rintro e V297 ⟨rfl, kV297⟩
  refine ⟨_, rfl, ?_⟩
  have h298 := kV297.bk h288
  have h299 := kV297.bk h289
  have h300 := kV297.bk h290
  have h301 := kV297.bk h291
  have h302 := kV297.bk h292
  have h303 := kV297.bk h293
  have h304 := kV297.bk h294
  have K305 := K295.nn kV297
  have z306 := kV297.size
  refine ⟨⟨h298, h299, h301, h302, h303, h304⟩, ?_⟩
  refine an_k 43 (o_VoteClash 252 43) (.bool false) ⟨h298, h299, h301, h302, h303, h304⟩ ?_
  refine an_end (by kernel_rfl) ?_
  refine sy_a ⟨#[.agg (Att.c a), .agg (Att.c b), .agg (Att.c c), .agg (Pro.c p), .agg (Pro.c q), uN tag, pT g6 0, pT g7 0, pT g8 0, pT g9 0, pT g10 0, undef, .bool false, .bool true, pT g14 0, pT g15 0, .bool true, .agg (Att.c a), .agg (Pro.c p), uN tag, pT g14 35, uN tag, pT g15 34, .agg (Att.c a), .agg (Att.c b), .bool (doub a b), .agg (Att.c b), .agg (Att.c a), .bool (doub a b), .bool false, .bool false, .agg (Att.c a), .agg (Att.c b), .bool (doub a b), .agg (Att.c ⟨a.v, a.s, a.t, a.r, tag⟩), .agg (Att.c b), .bool (doub a b), .bool false, .bool false, .bool false, .agg (Att.c a), .agg (Att.c ⟨a.v, a.s, a.t, a.r, tag⟩), .bool false, .bool false, .bool false, .agg (Pro.c p), .agg (Pro.c q), .bool (doubP p q), .agg (Pro.c q), .agg (Pro.c p), .bool (doubP p q), .bool false, .bool false, .bool false, .agg (Pro.c p), .agg (Pro.c q), .bool (doubP p q), .agg (Pro.c ⟨p.v, p.h, p.r, tag⟩), .agg (Pro.c q), .bool (doubP p q), .bool false, .bool false, .bool false, .agg (Pro.c p), .agg (Pro.c ⟨p.v, p.h, p.r, tag⟩), .bool false, .bool false, undef, undef, undef, undef, undef, undef, undef, undef, undef, undef, undef, undef, undef, undef, undef, undef, undef, undef, undef, undef, undef, undef, undef, undef, undef, undef, undef, undef, undef, undef, undef], []⟩ ?_
  refine then_n ?_
  refine sy_n (.tmp 66) (part_VoteClash 506) (part_VoteClash 507) ?_
  refine sy_sk ?_
  refine then_n ?_
  refine sy_sq (part_VoteClash 254) (part_VoteClash 255) ?_
  refine sy_sq (part_VoteClash 508) (part_VoteClash 509) ?_
  refine sy_reg ?_
  refine rg_plain 7 (opsAt (part_VoteClash 508)) [0, 1, 2, 3, 4, 5, 6, 7, 8, 9, 10, 11, 12, 13, 14, 15, 16, 17, 18, 19, 20, 21, 22, 23] (by kernel_rfl) (by kernel_rfl) ?_
  refine ps_p (o_VoteClash 508 0) (.agg (Att.c a)) (exec_load_row 29 (.tmp 6) (by kernel_rfl) g6 (by kernel_rfl) _ _ (0, 0) _ (h298) Try.underlying29 rfl (by rw [Att.c_size _ ha.r]; kernel_rfl)) ?_
  refine ps_p (o_VoteClash 508 1) (.agg (Att.c b)) (exec_load_row 29 (.tmp 7) (by kernel_rfl) g7 (by kernel_rfl) _ _ (0, 0) _ (h299) Try.underlying29 rfl (by rw [Att.c_size _ hb.r]; kernel_rfl)) ?_
  rcases Bool.eq_false_or_eq_true (surr a b) with h1 | h1
  · refine ps_c (o_VoteClash 508 2) 32 #[.agg (Att.c a), .agg (Att.c b)] Try.func32 ((surr_is a b _ ha hb h1).mono ?_)
    rintro e V307 ⟨rfl, kV307⟩
    refine ⟨_, rfl, ?_⟩
    have h308 := kV307.bk h298
    have h309 := kV307.bk h299
    have h310 := kV307.bk h300
    have h311 := kV307.bk h301
    have h312 := kV307.bk h302
    have h313 := kV307.bk h303
    have h314 := kV307.bk h304
    have K315 := K305.nn kV307
    have z316 := kV307.size
    refine ps_k (o_VoteClash 508 3) (.bool true) ?_
    refine ps_p (o_VoteClash 508 4) (.agg (Att.c b)) (exec_load_row 29 (.tmp 7) (by kernel_rfl) g7 (by kernel_rfl) _ _ (0, 0) _ (h309) Try.underlying29 rfl (by rw [Att.c_size _ hb.r]; kernel_rfl)) ?_
    refine ps_p (o_VoteClash 508 5) (.agg (Att.c a)) (exec_load_row 29 (.tmp 6) (by kernel_rfl) g6 (by kernel_rfl) _ _ (0, 0) _ (h308) Try.underlying29 rfl (by rw [Att.c_size _ ha.r]; kernel_rfl)) ?_
    refine ps_c (o_VoteClash 508 6) 32 #[.agg (Att.c b), .agg (Att.c a)] Try.func32 ((surr_is b a _ hb ha (surr_anti h1)).mono ?_)
    rintro e V317 ⟨rfl, kV317⟩
    refine ⟨_, rfl, ?_⟩
    have h318 := kV317.bk h308
    have h319 := kV317.bk h309
    have h320 := kV317.bk h310
    have h321 := kV317.bk h311
    have h322 := kV317.bk h312
    have h323 := kV317.bk h313
    have h324 := kV317.bk h314
    have K325 := K315.nn kV317
    have z326 := kV317.size
    refine ps_k (o_VoteClash 508 7) (.bool false) ?_
    refine ps_p (o_VoteClash 508 8) (.agg (Att.c a)) (exec_load_row 29 (.tmp 6) (by kernel_rfl) g6 (by kernel_rfl) _ _ (0, 0) _ (h318) Try.underlying29 rfl (by rw [Att.c_size _ ha.r]; kernel_rfl)) ?_
    refine ps_p (o_VoteClash 508 9) (.agg (Att.c b)) (exec_load_row 29 (.tmp 7) (by kernel_rfl) g7 (by kernel_rfl) _ _ (0, 0) _ (h319) Try.underlying29 rfl (by rw [Att.c_size _ hb.r]; kernel_rfl)) ?_
    refine ps_c (o_VoteClash 508 10) 30 #[.agg (Att.c a), .agg (Att.c b)] Try.func30 ((doub_is a b _ ha hb (surr_doub h1)).mono ?_)
    rintro e V327 ⟨rfl, kV327⟩
    refine ⟨_, rfl, ?_⟩
    have h328 := kV327.bk h318
    have h329 := kV327.bk h319
    have h330 := kV327.bk h320
    have h331 := kV327.bk h321
    have h332 := kV327.bk h322
    have h333 := kV327.bk h323
    have h334 := kV327.bk h324
    have K335 := K325.nn kV327
    have z336 := kV327.size
    refine ps_k (o_VoteClash 508 11) (.bool false) ?_
    refine ps_k (o_VoteClash 508 12) (.bool false) ?_
    refine ps_p (o_VoteClash 508 13) (.agg (Att.c b)) (exec_load_row 29 (.tmp 7) (by kernel_rfl) g7 (by kernel_rfl) _ _ (0, 0) _ (h329) Try.underlying29 rfl (by rw [Att.c_size _ hb.r]; kernel_rfl)) ?_
    refine ps_p (o_VoteClash 508 14) (.agg (Att.c c)) (exec_load_row 29 (.tmp 8) (by kernel_rfl) g8 (by kernel_rfl) _ _ (0, 0) _ (h330) Try.underlying29 rfl (by rw [Att.c_size _ hc.r]; kernel_rfl)) ?_
    rcases Bool.eq_false_or_eq_true (surr b c) with h2 | h2
    · refine ps_c (o_VoteClash 508 15) 32 #[.agg (Att.c b), .agg (Att.c c)] Try.func32 ((surr_is b c _ hb hc h2).mono ?_)
      rintro e V337 ⟨rfl, kV337⟩
      refine ⟨_, rfl, ?_⟩
      have h338 := kV337.bk h328
      have h339 := kV337.bk h329
      have h340 := kV337.bk h330
      have h341 := kV337.bk h331
      have h342 := kV337.bk h332
      have h343 := kV337.bk h333
      have h344 := kV337.bk h334
      have K345 := K335.nn kV337
      have z346 := kV337.size
      refine ps_k (o_VoteClash 508 16) (.bool true) ?_
      refine ps_p (o_VoteClash 508 17) (.agg (Att.c a)) (exec_load_row 29 (.tmp 6) (by kernel_rfl) g6 (by kernel_rfl) _ _ (0, 0) _ (h338) Try.underlying29 rfl (by rw [Att.c_size _ ha.r]; kernel_rfl)) ?_
      refine ps_p (o_VoteClash 508 18) (.agg (Att.c c)) (exec_load_row 29 (.tmp 8) (by kernel_rfl) g8 (by kernel_rfl) _ _ (0, 0) _ (h340) Try.underlying29 rfl (by rw [Att.c_size _ hc.r]; kernel_rfl)) ?_
      refine ps_c (o_VoteClash 508 19) 32 #[.agg (Att.c a), .agg (Att.c c)] Try.func32 ((surr_is a c _ ha hc (surr_trans h1 h2)).mono ?_)
      rintro e V347 ⟨rfl, kV347⟩
      refine ⟨_, rfl, ?_⟩
      have h348 := kV347.bk h338
      have h349 := kV347.bk h339
      have h350 := kV347.bk h340
      have h351 := kV347.bk h341
      have h352 := kV347.bk h342
      have h353 := kV347.bk h343
      have h354 := kV347.bk h344
      have K355 := K345.nn kV347
      have z356 := kV347.size
      refine ps_k (o_VoteClash 508 20) (.bool false) ?_
      refine ps_k (o_VoteClash 508 21) (.bool false) ?_
      refine ps_k (o_VoteClash 508 22) (.bool false) ?_
      refine ps_k (o_VoteClash 508 23) (.bool false) ?_
      refine ps_end ?_
      refine sy_a ⟨#[.agg (Att.c a), .agg (Att.c b), .agg (Att.c c), .agg (Pro.c p), .agg (Pro.c q), uN tag, pT g6 0, pT g7 0, pT g8 0, pT g9 0, pT g10 0, undef, .bool false, .bool true, pT g14 0, pT g15 0, .bool true, .agg (Att.c a), .agg (Pro.c p), uN tag, pT g14 35, uN tag, pT g15 34, .agg (Att.c a), .agg (Att.c b), .bool (doub a b), .agg (Att.c b), .agg (Att.c a), .bool (doub a b), .bool false, .bool false, .agg (Att.c a), .agg (Att.c b), .bool (doub a b), .agg (Att.c ⟨a.v, a.s, a.t, a.r, tag⟩), .agg (Att.c b), .bool (doub a b), .bool false, .bool false, .bool false, .agg (Att.c a), .agg (Att.c ⟨a.v, a.s, a.t, a.r, tag⟩), .bool false, .bool false, .bool false, .agg (Pro.c p), .agg (Pro.c q), .bool (doubP p q), .agg (Pro.c q), .agg (Pro.c p), .bool (doubP p q), .bool false, .bool false, .bool false, .agg (Pro.c p), .agg (Pro.c q), .bool (doubP p q), .agg (Pro.c ⟨p.v, p.h, p.r, tag⟩), .agg (Pro.c q), .bool (doubP p q), .bool false, .bool false, .bool false, .agg (Pro.c p), .agg (Pro.c ⟨p.v, p.h, p.r, tag⟩), .bool false, .bool false, .agg (Att.c a), .agg (Att.c b), .bool true, .bool true, .agg (Att.c b), .agg (Att.c a), .bool false, .bool false, .agg (Att.c a), .agg (Att.c b), .bool false, .bool false, .bool false, .agg (Att.c b), .agg (Att.c c), .bool true, .bool true, .agg (Att.c a), .agg (Att.c c), .bool true, .bool false, .bool false, .bool false, .bool false, undef, undef, undef, undef, undef, undef, undef], []⟩ ?_
      refine then_n ?_
      refine sy_n (.tmp 90) (part_VoteClash 1018) (part_VoteClash 1019) ?_
      refine sy_sk ?_
      refine then_n ?_
      refine sy_sq (part_VoteClash 510) (part_VoteClash 511) ?_
      refine sy_reg ?_
      refine rg_plain 9 (opsAt (part_VoteClash 510)) [0, 1, 2, 3, 4, 5, 6, 7] (by kernel_rfl) (by kernel_rfl) ?_
      refine ps_k (o_VoteClash 510 0) (.bool true) ?_
      refine ps_k (o_VoteClash 510 1) (.bool true) ?_
      refine ps_p (o_VoteClash 510 2) (.agg (Att.c a)) (exec_load_row 29 (.tmp 6) (by kernel_rfl) g6 (by kernel_rfl) _ _ (0, 0) _ (h348) Try.underlying29 rfl (by rw [Att.c_size _ ha.r]; kernel_rfl)) ?_
      refine ps_p (o_VoteClash 510 3) (.agg (Att.c ⟨a.v, a.s, a.t, a.r, tag⟩)) (exec_load_row 29 (.tmp 14) (by kernel_rfl) g14 (by kernel_rfl) _ _ (0, 0) _ (h353) Try.underlying29 rfl (by rw [Att.c_size (⟨a.v, a.s, a.t, a.r, tag⟩) ha.r]; kernel_rfl)) ?_
      refine ps_c (o_VoteClash 510 4) 32 #[.agg (Att.c a), .agg (Att.c ⟨a.v, a.s, a.t, a.r, tag⟩)] Try.func32 ((surr_is a ⟨a.v, a.s, a.t, a.r, tag⟩ _ ha (Att.tagged_ok ha ht) (surr_self a tag)).mono ?_)
      rintro e V357 ⟨rfl, kV357⟩
      refine ⟨_, rfl, ?_⟩
      have h358 := kV357.bk h348
      have h359 := kV357.bk h349
      have h360 := kV357.bk h350
      have h361 := kV357.bk h351
      have h362 := kV357.bk h352
      have h363 := kV357.bk h353
      have h364 := kV357.bk h354
      have K365 := K355.nn kV357
      have z366 := kV357.size
      refine ps_k (o_VoteClash 510 5) (.bool true) ?_
      refine ps_k (o_VoteClash 510 6) (.bool true) ?_
      refine ps_k (o_VoteClash 510 7) (.bool true) ?_
      refine ps_end ?_
      refine then_n ?_
      refine sy_ret (by kernel_rfl) ?_
      refine sy_out (.bool true) rfl (by kernel_rfl) ?_
      exact ⟨rfl, K365⟩
    · refine ps_c (o_VoteClash 508 15) 32 #[.agg (Att.c b), .agg (Att.c c)] Try.func32 ((surr_is b c _ hb hc h2).mono ?_)
      rintro e V367 ⟨rfl, kV367⟩
      refine ⟨_, rfl, ?_⟩
      have h368 := kV367.bk h328
      have h369 := kV367.bk h329
      have h370 := kV367.bk h330
      have h371 := kV367.bk h331
      have h372 := kV367.bk h332
      have h373 := kV367.bk h333
      have h374 := kV367.bk h334
      have K375 := K335.nn kV367
      have z376 := kV367.size
      refine ps_k (o_VoteClash 508 16) (.bool false) ?_
      refine ps_n (o_VoteClash 508 17) ?_
      refine ps_n (o_VoteClash 508 18) ?_
      refine ps_n (o_VoteClash 508 19) ?_
      refine ps_n (o_VoteClash 508 20) ?_
      refine ps_k (o_VoteClash 508 21) (.bool false) ?_
      refine ps_k (o_VoteClash 508 22) (.bool false) ?_
      refine ps_k (o_VoteClash 508 23) (.bool false) ?_
      refine ps_end ?_
      refine sy_a ⟨#[.agg (Att.c a), .agg (Att.c b), .agg (Att.c c), .agg (Pro.c p), .agg (Pro.c q), uN tag, pT g6 0, pT g7 0, pT g8 0, pT g9 0, pT g10 0, undef, .bool false, .bool true, pT g14 0, pT g15 0, .bool true, .agg (Att.c a), .agg (Pro.c p), uN tag, pT g14 35, uN tag, pT g15 34, .agg (Att.c a), .agg (Att.c b), .bool (doub a b), .agg (Att.c b), .agg (Att.c a), .bool (doub a b), .bool false, .bool false, .agg (Att.c a), .agg (Att.c b), .bool (doub a b), .agg (Att.c ⟨a.v, a.s, a.t, a.r, tag⟩), .agg (Att.c b), .bool (doub a b), .bool false, .bool false, .bool false, .agg (Att.c a), .agg (Att.c ⟨a.v, a.s, a.t, a.r, tag⟩), .bool false, .bool false, .bool false, .agg (Pro.c p), .agg (Pro.c q), .bool (doubP p q), .agg (Pro.c q), .agg (Pro.c p), .bool (doubP p q), .bool false, .bool false, .bool false, .agg (Pro.c p), .agg (Pro.c q), .bool (doubP p q), .agg (Pro.c ⟨p.v, p.h, p.r, tag⟩), .agg (Pro.c q), .bool (doubP p q), .bool false, .bool false, .bool false, .agg (Pro.c p), .agg (Pro.c ⟨p.v, p.h, p.r, tag⟩), .bool false, .bool false, .agg (Att.c a), .agg (Att.c b), .bool true, .bool true, .agg (Att.c b), .agg (Att.c a), .bool false, .bool false, .agg (Att.c a), .agg (Att.c b), .bool false, .bool false, .bool false, .agg (Att.c b), .agg (Att.c c), .bool false, .bool false, undef, undef, undef, undef, .bool false, .bool false, .bool false, undef, undef, undef, undef, undef, undef, undef], []⟩ ?_
      refine then_n ?_
      refine sy_n (.tmp 90) (part_VoteClash 1018) (part_VoteClash 1019) ?_
      refine sy_sk ?_
      refine then_n ?_
      refine sy_sq (part_VoteClash 510) (part_VoteClash 511) ?_
      refine sy_reg ?_
      refine rg_plain 9 (opsAt (part_VoteClash 510)) [0, 1, 2, 3, 4, 5, 6, 7] (by kernel_rfl) (by kernel_rfl) ?_
      refine ps_k (o_VoteClash 510 0) (.bool true) ?_
      refine ps_k (o_VoteClash 510 1) (.bool true) ?_
      refine ps_p (o_VoteClash 510 2) (.agg (Att.c a)) (exec_load_row 29 (.tmp 6) (by kernel_rfl) g6 (by kernel_rfl) _ _ (0, 0) _ (h368) Try.underlying29 rfl (by rw [Att.c_size _ ha.r]; kernel_rfl)) ?_
      refine ps_p (o_VoteClash 510 3) (.agg (Att.c ⟨a.v, a.s, a.t, a.r, tag⟩)) (exec_load_row 29 (.tmp 14) (by kernel_rfl) g14 (by kernel_rfl) _ _ (0, 0) _ (h373) Try.underlying29 rfl (by rw [Att.c_size (⟨a.v, a.s, a.t, a.r, tag⟩) ha.r]; kernel_rfl)) ?_
      refine ps_c (o_VoteClash 510 4) 32 #[.agg (Att.c a), .agg (Att.c ⟨a.v, a.s, a.t, a.r, tag⟩)] Try.func32 ((surr_is a ⟨a.v, a.s, a.t, a.r, tag⟩ _ ha (Att.tagged_ok ha ht) (surr_self a tag)).mono ?_)
      rintro e V377 ⟨rfl, kV377⟩
      refine ⟨_, rfl, ?_⟩
      have h378 := kV377.bk h368
      have h379 := kV377.bk h369
      have h380 := kV377.bk h370
      have h381 := kV377.bk h371
      have h382 := kV377.bk h372
      have h383 := kV377.bk h373
      have h384 := kV377.bk h374
      have K385 := K375.nn kV377
      have z386 := kV377.size
      refine ps_k (o_VoteClash 510 5) (.bool true) ?_
      refine ps_k (o_VoteClash 510 6) (.bool true) ?_
      refine ps_k (o_VoteClash 510 7) (.bool true) ?_
      refine ps_end ?_
      refine then_n ?_
      refine sy_ret (by kernel_rfl) ?_
      refine sy_out (.bool true) rfl (by kernel_rfl) ?_
      exact ⟨rfl, K385⟩
  · refine ps_c (o_VoteClash 508 2) 32 #[.agg (Att.c a), .agg (Att.c b)] Try.func32 ((surr_is a b _ ha hb h1).mono ?_)
    rintro e V387 ⟨rfl, kV387⟩
    refine ⟨_, rfl, ?_⟩
    have h388 := kV387.bk h298
    have h389 := kV387.bk h299
    have h390 := kV387.bk h300
    have h391 := kV387.bk h301
    have h392 := kV387.bk h302
    have h393 := kV387.bk h303
    have h394 := kV387.bk h304
    have K395 := K305.nn kV387
    have z396 := kV387.size
    refine ps_k (o_VoteClash 508 3) (.bool false) ?_
    refine ps_n (o_VoteClash 508 4) ?_
    refine ps_n (o_VoteClash 508 5) ?_
    refine ps_n (o_VoteClash 508 6) ?_
    refine ps_n (o_VoteClash 508 7) ?_
    refine ps_n (o_VoteClash 508 8) ?_
    refine ps_n (o_VoteClash 508 9) ?_
    refine ps_n (o_VoteClash 508 10) ?_
    refine ps_n (o_VoteClash 508 11) ?_
    refine ps_n (o_VoteClash 508 12) ?_
    refine ps_n (o_VoteClash 508 13) ?_
    refine ps_n (o_VoteClash 508 14) ?_
    rcases Bool.eq_false_or_eq_true (surr b c) with h2 | h2
    · refine ps_n (o_VoteClash 508 15) ?_
      refine ps_n (o_VoteClash 508 16) ?_
      refine ps_n (o_VoteClash 508 17) ?_
      refine ps_n (o_VoteClash 508 18) ?_
      refine ps_n (o_VoteClash 508 19) ?_
      refine ps_n (o_VoteClash 508 20) ?_
      refine ps_n (o_VoteClash 508 21) ?_
      refine ps_n (o_VoteClash 508 22) ?_
      refine ps_k (o_VoteClash 508 23) (.bool false) ?_
      refine ps_end ?_
      refine sy_a ⟨#[.agg (Att.c a), .agg (Att.c b), .agg (Att.c c), .agg (Pro.c p), .agg (Pro.c q), uN tag, pT g6 0, pT g7 0, pT g8 0, pT g9 0, pT g10 0, undef, .bool false, .bool true, pT g14 0, pT g15 0, .bool true, .agg (Att.c a), .agg (Pro.c p), uN tag, pT g14 35, uN tag, pT g15 34, .agg (Att.c a), .agg (Att.c b), .bool (doub a b), .agg (Att.c b), .agg (Att.c a), .bool (doub a b), .bool false, .bool false, .agg (Att.c a), .agg (Att.c b), .bool (doub a b), .agg (Att.c ⟨a.v, a.s, a.t, a.r, tag⟩), .agg (Att.c b), .bool (doub a b), .bool false, .bool false, .bool false, .agg (Att.c a), .agg (Att.c ⟨a.v, a.s, a.t, a.r, tag⟩), .bool false, .bool false, .bool false, .agg (Pro.c p), .agg (Pro.c q), .bool (doubP p q), .agg (Pro.c q), .agg (Pro.c p), .bool (doubP p q), .bool false, .bool false, .bool false, .agg (Pro.c p), .agg (Pro.c q), .bool (doubP p q), .agg (Pro.c ⟨p.v, p.h, p.r, tag⟩), .agg (Pro.c q), .bool (doubP p q), .bool false, .bool false, .bool false, .agg (Pro.c p), .agg (Pro.c ⟨p.v, p.h, p.r, tag⟩), .bool false, .bool false, .agg (Att.c a), .agg (Att.c b), .bool false, .bool false, undef, undef, undef, undef, undef, undef, undef, undef, undef, undef, undef, undef, undef, undef, undef, undef, undef, undef, undef, .bool false, undef, undef, undef, undef, undef, undef, undef], []⟩ ?_
      refine then_n ?_
      refine sy_n (.tmp 90) (part_VoteClash 1018) (part_VoteClash 1019) ?_
      refine sy_sk ?_
      refine then_n ?_
      refine sy_sq (part_VoteClash 510) (part_VoteClash 511) ?_
      refine sy_reg ?_
      refine rg_plain 9 (opsAt (part_VoteClash 510)) [0, 1, 2, 3, 4, 5, 6, 7] (by kernel_rfl) (by kernel_rfl) ?_
      refine ps_k (o_VoteClash 510 0) (.bool true) ?_
      refine ps_k (o_VoteClash 510 1) (.bool true) ?_
      refine ps_p (o_VoteClash 510 2) (.agg (Att.c a)) (exec_load_row 29 (.tmp 6) (by kernel_rfl) g6 (by kernel_rfl) _ _ (0, 0) _ (h388) Try.underlying29 rfl (by rw [Att.c_size _ ha.r]; kernel_rfl)) ?_
      refine ps_p (o_VoteClash 510 3) (.agg (Att.c ⟨a.v, a.s, a.t, a.r, tag⟩)) (exec_load_row 29 (.tmp 14) (by kernel_rfl) g14 (by kernel_rfl) _ _ (0, 0) _ (h393) Try.underlying29 rfl (by rw [Att.c_size (⟨a.v, a.s, a.t, a.r, tag⟩) ha.r]; kernel_rfl)) ?_
      refine ps_c (o_VoteClash 510 4) 32 #[.agg (Att.c a), .agg (Att.c ⟨a.v, a.s, a.t, a.r, tag⟩)] Try.func32 ((surr_is a ⟨a.v, a.s, a.t, a.r, tag⟩ _ ha (Att.tagged_ok ha ht) (surr_self a tag)).mono ?_)
      rintro e V397 ⟨rfl, kV397⟩
      refine ⟨_, rfl, ?_⟩
      have h398 := kV397.bk h388
      have h399 := kV397.bk h389
      have h400 := kV397.bk h390
      have h401 := kV397.bk h391
      have h402 := kV397.bk h392
      have h403 := kV397.bk h393
      have h404 := kV397.bk h394
      have K405 := K395.nn kV397
      have z406 := kV397.size
      refine ps_k (o_VoteClash 510 5) (.bool true) ?_
      refine ps_k (o_VoteClash 510 6) (.bool true) ?_
      refine ps_k (o_VoteClash 510 7) (.bool true) ?_
      refine ps_end ?_
      refine then_n ?_
      refine sy_ret (by kernel_rfl) ?_
      refine sy_out (.bool true) rfl (by kernel_rfl) ?_
      exact ⟨rfl, K405⟩
    · refine ps_n (o_VoteClash 508 15) ?_
      refine ps_n (o_VoteClash 508 16) ?_
      refine ps_n (o_VoteClash 508 17) ?_
      refine ps_n (o_VoteClash 508 18) ?_
      refine ps_n (o_VoteClash 508 19) ?_
      refine ps_n (o_VoteClash 508 20) ?_
      refine ps_n (o_VoteClash 508 21) ?_
      refine ps_n (o_VoteClash 508 22) ?_
      refine ps_k (o_VoteClash 508 23) (.bool false) ?_
      refine ps_end ?_
      refine sy_a ⟨#[.agg (Att.c a), .agg (Att.c b), .agg (Att.c c), .agg (Pro.c p), .agg (Pro.c q), uN tag, pT g6 0, pT g7 0, pT g8 0, pT g9 0, pT g10 0, undef, .bool false, .bool true, pT g14 0, pT g15 0, .bool true, .agg (Att.c a), .agg (Pro.c p), uN tag, pT g14 35, uN tag, pT g15 34, .agg (Att.c a), .agg (Att.c b), .bool (doub a b), .agg (Att.c b), .agg (Att.c a), .bool (doub a b), .bool false, .bool false, .agg (Att.c a), .agg (Att.c b), .bool (doub a b), .agg (Att.c ⟨a.v, a.s, a.t, a.r, tag⟩), .agg (Att.c b), .bool (doub a b), .bool false, .bool false, .bool false, .agg (Att.c a), .agg (Att.c ⟨a.v, a.s, a.t, a.r, tag⟩), .bool false, .bool false, .bool false, .agg (Pro.c p), .agg (Pro.c q), .bool (doubP p q), .agg (Pro.c q), .agg (Pro.c p), .bool (doubP p q), .bool false, .bool false, .bool false, .agg (Pro.c p), .agg (Pro.c q), .bool (doubP p q), .agg (Pro.c ⟨p.v, p.h, p.r, tag⟩), .agg (Pro.c q), .bool (doubP p q), .bool false, .bool false, .bool false, .agg (Pro.c p), .agg (Pro.c ⟨p.v, p.h, p.r, tag⟩), .bool false, .bool false, .agg (Att.c a), .agg (Att.c b), .bool false, .bool false, undef, undef, undef, undef, undef, undef, undef, undef, undef, undef, undef, undef, undef, undef, undef, undef, undef, undef, undef, .bool false, undef, undef, undef, undef, undef, undef, undef], []⟩ ?_
      refine then_n ?_
      refine sy_n (.tmp 90) (part_VoteClash 1018) (part_VoteClash 1019) ?_
      refine sy_sk ?_
      refine then_n ?_
      refine sy_sq (part_VoteClash 510) (part_VoteClash 511) ?_
      refine sy_reg ?_
      refine rg_plain 9 (opsAt (part_VoteClash 510)) [0, 1, 2, 3, 4, 5, 6, 7] (by kernel_rfl) (by kernel_rfl) ?_
      refine ps_k (o_VoteClash 510 0) (.bool true) ?_
      refine ps_k (o_VoteClash 510 1) (.bool true) ?_
      refine ps_p (o_VoteClash 510 2) (.agg (Att.c a)) (exec_load_row 29 (.tmp 6) (by kernel_rfl) g6 (by kernel_rfl) _ _ (0, 0) _ (h388) Try.underlying29 rfl (by rw [Att.c_size _ ha.r]; kernel_rfl)) ?_
      refine ps_p (o_VoteClash 510 3) (.agg (Att.c ⟨a.v, a.s, a.t, a.r, tag⟩)) (exec_load_row 29 (.tmp 14) (by kernel_rfl) g14 (by kernel_rfl) _ _ (0, 0) _ (h393) Try.underlying29 rfl (by rw [Att.c_size (⟨a.v, a.s, a.t, a.r, tag⟩) ha.r]; kernel_rfl)) ?_
      refine ps_c (o_VoteClash 510 4) 32 #[.agg (Att.c a), .agg (Att.c ⟨a.v, a.s, a.t, a.r, tag⟩)] Try.func32 ((surr_is a ⟨a.v, a.s, a.t, a.r, tag⟩ _ ha (Att.tagged_ok ha ht) (surr_self a tag)).mono ?_)
      rintro e V407 ⟨rfl, kV407⟩
      refine ⟨_, rfl, ?_⟩
      have h408 := kV407.bk h388
      have h409 := kV407.bk h389
      have h410 := kV407.bk h390
      have h411 := kV407.bk h391
      have h412 := kV407.bk h392
      have h413 := kV407.bk h393
      have h414 := kV407.bk h394
      have K415 := K395.nn kV407
      have z416 := kV407.size
      refine ps_k (o_VoteClash 510 5) (.bool true) ?_
      refine ps_k (o_VoteClash 510 6) (.bool true) ?_
      refine ps_k (o_VoteClash 510 7) (.bool true) ?_
      refine ps_end ?_
      refine then_n ?_
      refine sy_ret (by kernel_rfl) ?_
      refine sy_out (.bool true) rfl (by kernel_rfl) ?_
      exact ⟨rfl, K415⟩
end Go.Proofs.Ytenaakldccjnbaa
