/-
  Votes: pairs (printed by vote7.py). Conditions: none.
-/
import Derived.Test.YtenaakldccjnbaaVoteG
import Derived.Test.YtenaakldccjnbaaVoteJ
import Derived.Test.YtenaakldccjnbaaVoteK
namespace Go.Proofs.Ytenaakldccjnbaa
open Go Go.RowKit Go.Own Go.Shelf

theorem bools_eq (b : Bool) (w : World) : (binOp .eql 4 (.bool b) (.bool b)).run Try.prog w = .ok (.bool true) w := by
  cases b <;> kernel_rfl
noncomputable def part_VotePairs (n : Nat) : Code := partOf Try.f5 n
noncomputable abbrev o_VotePairs (n k : Nat) : Oper := (opsAt (part_VotePairs n)).getD k default
set_option maxRecDepth 100000 in
set_option maxHeartbeats 4000000 in
theorem pairs_ok (a b : Att) (p q : Pro) (w : World) (ha : a.Ok) (hb : b.Ok) (hp : p.Ok) (hq : q.Ok) :
    Calls Try.prog 5 #[.agg (Att.c a), .agg (Att.c b), .agg (Pro.c p), .agg (Pro.c q)] w (fun e w' => e = .returned (.bool true) ∧ Keeps Nob w w') := by
  have K0 : Keeps Nob w w := Keeps.refl _ _
  refine sy_enter (part_VotePairs 1) ⟨#[.agg (Att.c a), .agg (Att.c b), .agg (Pro.c p), .agg (Pro.c q), undef, undef, undef, undef, undef, undef, undef, undef, undef, undef, undef, undef, undef, undef, undef, undef, undef, undef, undef, undef, undef, undef, undef, undef, undef, undef, undef, undef, undef, undef, undef, undef, undef], []⟩ Try.func5 (by kernel_rfl) (by kernel_rfl) ?_
  refine sy_sq (part_VotePairs 2) (part_VotePairs 3) ?_
  refine sy_reg ?_
  refine rg_plain 0 (opsAt (part_VotePairs 2)) [0, 1, 2, 3, 4] (by kernel_rfl) (by kernel_rfl) ?_
  obtain ⟨V1, eV1, ga, ega, h2, kV1⟩ := alloc_step w ((Att.c a)) 29
  have n3 : w.heap.size ≤ ga := ega ▸ K0.size
  refine ps_r (o_VotePairs 2 0) (pT ga 0) (w' := V1) (by rw [← eV1, ← ega]; exact exec_box 29 (.tmp 0) (by kernel_rfl) (.agg (Att.c a)) (by kernel_rfl)) ?_
  clear eV1
  have K4 := K0.nn kV1
  have z5 := kV1.size
  obtain ⟨V6, eV6, gb, egb, h7, kV6⟩ := alloc_step V1 ((Att.c b)) 29
  have n8 : ga < gb := egb ▸ lt_of_block h2
  have n9 : w.heap.size ≤ gb := egb ▸ K4.size
  refine ps_r (o_VotePairs 2 1) (pT gb 0) (w' := V6) (by rw [← eV6, ← egb]; exact exec_box 29 (.tmp 1) (by kernel_rfl) (.agg (Att.c b)) (by kernel_rfl)) ?_
  clear eV6
  have h10 := kV6.bk h2
  have K11 := K4.nn kV6
  have z12 := kV6.size
  obtain ⟨V13, eV13, gp, egp, h14, kV13⟩ := alloc_step V6 ((Pro.c p)) 36
  have n15 : ga < gp := egp ▸ lt_of_block h10
  have n16 : gb < gp := egp ▸ lt_of_block h7
  have n17 : w.heap.size ≤ gp := egp ▸ K11.size
  refine ps_r (o_VotePairs 2 2) (pT gp 0) (w' := V13) (by rw [← eV13, ← egp]; exact exec_box 36 (.tmp 2) (by kernel_rfl) (.agg (Pro.c p)) (by kernel_rfl)) ?_
  clear eV13
  have h18 := kV13.bk h10
  have h19 := kV13.bk h7
  have K20 := K11.nn kV13
  have z21 := kV13.size
  obtain ⟨V22, eV22, gq, egq, h23, kV22⟩ := alloc_step V13 ((Pro.c q)) 36
  have n24 : ga < gq := egq ▸ lt_of_block h18
  have n25 : gb < gq := egq ▸ lt_of_block h19
  have n26 : gp < gq := egq ▸ lt_of_block h14
  have n27 : w.heap.size ≤ gq := egq ▸ K20.size
  refine ps_r (o_VotePairs 2 3) (pT gq 0) (w' := V22) (by rw [← eV22, ← egq]; exact exec_box 36 (.tmp 3) (by kernel_rfl) (.agg (Pro.c q)) (by kernel_rfl)) ?_
  clear eV22
  have h28 := kV22.bk h18
  have h29 := kV22.bk h19
  have h30 := kV22.bk h14
  have K31 := K20.nn kV22
  have z32 := kV22.size
  refine ps_k (o_VotePairs 2 4) (.bool false) ?_
  refine ps_end ?_
  refine then_n ?_
  refine sy_sq (part_VotePairs 6) (part_VotePairs 7) ?_
  refine sy_np ?_
  refine sy_reg ?_
  refine an_begin 1 29 (opsAt (part_VotePairs 6)) (fun W => (W.heap[ga]? = some (.cells (Att.c a) 29 (0, 0))) ∧ (W.heap[gb]? = some (.cells (Att.c b) 29 (0, 0))) ∧ (W.heap[gp]? = some (.cells (Pro.c p) 36 (0, 0))) ∧ (W.heap[gq]? = some (.cells (Pro.c q) 36 (0, 0)))) #[false, false, false, false, false, false, false, false, false, false, false, false, false, false, false, false, false, false, false, false, false, false, false, false, false, false, false, false, false] (by kernel_rfl) (by kernel_rfl) (by kernel_rfl) (by kernel_rfl) ?_
  obtain ⟨V33, eV33, kV33⟩ := drew_step V22
  rw [eV33]
  clear eV33
  have h34 := kV33.bk h28
  have h35 := kV33.bk h29
  have h36 := kV33.bk h30
  have h37 := kV33.bk h23
  have K38 := K31.nn kV33
  have z39 := kV33.size
  refine an_v 0 (o_VotePairs 6 0) (.agg (Att.c a)) (fun W hS => exec_load_row 29 (.tmp 4) (by kernel_rfl) ga (by kernel_rfl) _ _ (0, 0) _ (hS.1) Try.underlying29 rfl (by rw [Att.c_size _ ha.r]; kernel_rfl)) ⟨h34, h35, h36, h37⟩ ?_
  refine an_v 1 (o_VotePairs 6 1) (.agg (Att.c b)) (fun W hS => exec_load_row 29 (.tmp 5) (by kernel_rfl) gb (by kernel_rfl) _ _ (0, 0) _ (hS.2.1) Try.underlying29 rfl (by rw [Att.c_size _ hb.r]; kernel_rfl)) ⟨h34, h35, h36, h37⟩ ?_
  refine an_v 3 (o_VotePairs 6 3) (.agg (Att.c a)) (fun W hS => exec_load_row 29 (.tmp 4) (by kernel_rfl) ga (by kernel_rfl) _ _ (0, 0) _ (hS.1) Try.underlying29 rfl (by rw [Att.c_size _ ha.r]; kernel_rfl)) ⟨h34, h35, h36, h37⟩ ?_
  refine an_v 4 (o_VotePairs 6 4) (.agg (Att.c b)) (fun W hS => exec_load_row 29 (.tmp 5) (by kernel_rfl) gb (by kernel_rfl) _ _ (0, 0) _ (hS.2.1) Try.underlying29 rfl (by rw [Att.c_size _ hb.r]; kernel_rfl)) ⟨h34, h35, h36, h37⟩ ?_
  refine an_o 2 ?_
  refine on_c (o_VotePairs 6 2) 30 #[.agg (Att.c a), .agg (Att.c b)] Try.func30 ((vDoubles_ok a b _ ha hb).mono ?_)
  rintro e V40 ⟨rfl, kV40⟩
  refine ⟨_, rfl, ?_⟩
  have h41 := kV40.bk h34
  have h42 := kV40.bk h35
  have h43 := kV40.bk h36
  have h44 := kV40.bk h37
  have K45 := K38.nn kV40
  have z46 := kV40.size
  refine ⟨⟨h41, h42, h43, h44⟩, ?_⟩
  refine an_o 5 ?_
  refine on_c (o_VotePairs 6 5) 31 #[.agg (Att.c a), .agg (Att.c b)] Try.func31 ((rvDoubles_ok a b _ ha hb).mono ?_)
  rintro e V47 ⟨rfl, kV47⟩
  refine ⟨_, rfl, ?_⟩
  have h48 := kV47.bk h41
  have h49 := kV47.bk h42
  have h50 := kV47.bk h43
  have h51 := kV47.bk h44
  have K52 := K45.nn kV47
  have z53 := kV47.size
  refine ⟨⟨h48, h49, h50, h51⟩, ?_⟩
  refine an_v 6 (o_VotePairs 6 6) (.bool true) (fun W hS => exec_binop .eql 4 4 (.tmp 11) (.tmp 14) (by kernel_rfl) (.bool (doub a b)) (.bool (doub a b)) _ (by kernel_rfl) (by kernel_rfl) (by kernel_rfl) (bools_eq _ _)) ⟨h48, h49, h50, h51⟩ ?_
  refine an_k 7 (o_VotePairs 6 7) (.bool true) ⟨h48, h49, h50, h51⟩ ?_
  refine an_v 8 (o_VotePairs 6 8) (.agg (Att.c a)) (fun W hS => exec_load_row 29 (.tmp 4) (by kernel_rfl) ga (by kernel_rfl) _ _ (0, 0) _ (hS.1) Try.underlying29 rfl (by rw [Att.c_size _ ha.r]; kernel_rfl)) ⟨h48, h49, h50, h51⟩ ?_
  refine an_v 9 (o_VotePairs 6 9) (.agg (Att.c b)) (fun W hS => exec_load_row 29 (.tmp 5) (by kernel_rfl) gb (by kernel_rfl) _ _ (0, 0) _ (hS.2.1) Try.underlying29 rfl (by rw [Att.c_size _ hb.r]; kernel_rfl)) ⟨h48, h49, h50, h51⟩ ?_
  refine an_v 11 (o_VotePairs 6 11) (.agg (Att.c a)) (fun W hS => exec_load_row 29 (.tmp 4) (by kernel_rfl) ga (by kernel_rfl) _ _ (0, 0) _ (hS.1) Try.underlying29 rfl (by rw [Att.c_size _ ha.r]; kernel_rfl)) ⟨h48, h49, h50, h51⟩ ?_
  refine an_v 12 (o_VotePairs 6 12) (.agg (Att.c b)) (fun W hS => exec_load_row 29 (.tmp 5) (by kernel_rfl) gb (by kernel_rfl) _ _ (0, 0) _ (hS.2.1) Try.underlying29 rfl (by rw [Att.c_size _ hb.r]; kernel_rfl)) ⟨h48, h49, h50, h51⟩ ?_
  refine an_o 10 ?_
  refine on_c (o_VotePairs 6 10) 32 #[.agg (Att.c a), .agg (Att.c b)] Try.func32 ((vSurrounds_ok a b _ ha hb).mono ?_)
  rintro e V54 ⟨rfl, kV54⟩
  refine ⟨_, rfl, ?_⟩
  have h55 := kV54.bk h48
  have h56 := kV54.bk h49
  have h57 := kV54.bk h50
  have h58 := kV54.bk h51
  have K59 := K52.nn kV54
  have z60 := kV54.size
  refine ⟨⟨h55, h56, h57, h58⟩, ?_⟩
  refine an_o 13 ?_
  refine on_c (o_VotePairs 6 13) 33 #[.agg (Att.c a), .agg (Att.c b)] Try.func33 ((rvSurrounds_ok a b _ ha hb).mono ?_)
  rintro e V61 ⟨rfl, kV61⟩
  refine ⟨_, rfl, ?_⟩
  have h62 := kV61.bk h55
  have h63 := kV61.bk h56
  have h64 := kV61.bk h57
  have h65 := kV61.bk h58
  have K66 := K59.nn kV61
  have z67 := kV61.size
  refine ⟨⟨h62, h63, h64, h65⟩, ?_⟩
  refine an_v 14 (o_VotePairs 6 14) (.bool true) (fun W hS => exec_binop .eql 4 4 (.tmp 19) (.tmp 22) (by kernel_rfl) (.bool (surr a b)) (.bool (surr a b)) _ (by kernel_rfl) (by kernel_rfl) (by kernel_rfl) (bools_eq _ _)) ⟨h62, h63, h64, h65⟩ ?_
  refine an_k 15 (o_VotePairs 6 15) (.bool true) ⟨h62, h63, h64, h65⟩ ?_
  refine an_k 16 (o_VotePairs 6 16) (.bool true) ⟨h62, h63, h64, h65⟩ ?_
  refine an_v 17 (o_VotePairs 6 17) (.agg (Pro.c p)) (fun W hS => exec_load_row 36 (.tmp 6) (by kernel_rfl) gp (by kernel_rfl) _ _ (0, 0) _ (hS.2.2.1) Try.underlying36 rfl (by rw [Pro.c_size _ hp.r]; kernel_rfl)) ⟨h62, h63, h64, h65⟩ ?_
  refine an_v 18 (o_VotePairs 6 18) (.agg (Pro.c q)) (fun W hS => exec_load_row 36 (.tmp 7) (by kernel_rfl) gq (by kernel_rfl) _ _ (0, 0) _ (hS.2.2.2) Try.underlying36 rfl (by rw [Pro.c_size _ hq.r]; kernel_rfl)) ⟨h62, h63, h64, h65⟩ ?_
  refine an_v 20 (o_VotePairs 6 20) (.agg (Pro.c p)) (fun W hS => exec_load_row 36 (.tmp 6) (by kernel_rfl) gp (by kernel_rfl) _ _ (0, 0) _ (hS.2.2.1) Try.underlying36 rfl (by rw [Pro.c_size _ hp.r]; kernel_rfl)) ⟨h62, h63, h64, h65⟩ ?_
  refine an_v 21 (o_VotePairs 6 21) (.agg (Pro.c q)) (fun W hS => exec_load_row 36 (.tmp 7) (by kernel_rfl) gq (by kernel_rfl) _ _ (0, 0) _ (hS.2.2.2) Try.underlying36 rfl (by rw [Pro.c_size _ hq.r]; kernel_rfl)) ⟨h62, h63, h64, h65⟩ ?_
  refine an_o 19 ?_
  refine on_c (o_VotePairs 6 19) 34 #[.agg (Pro.c p), .agg (Pro.c q)] Try.func34 ((vDoublesBlock_ok p q _ hp hq).mono ?_)
  rintro e V68 ⟨rfl, kV68⟩
  refine ⟨_, rfl, ?_⟩
  have h69 := kV68.bk h62
  have h70 := kV68.bk h63
  have h71 := kV68.bk h64
  have h72 := kV68.bk h65
  have K73 := K66.nn kV68
  have z74 := kV68.size
  refine ⟨⟨h69, h70, h71, h72⟩, ?_⟩
  refine an_o 22 ?_
  refine on_c (o_VotePairs 6 22) 35 #[.agg (Pro.c p), .agg (Pro.c q)] Try.func35 ((rvDoublesBlock_ok p q _ hp hq).mono ?_)
  rintro e V75 ⟨rfl, kV75⟩
  refine ⟨_, rfl, ?_⟩
  have h76 := kV75.bk h69
  have h77 := kV75.bk h70
  have h78 := kV75.bk h71
  have h79 := kV75.bk h72
  have K80 := K73.nn kV75
  have z81 := kV75.size
  refine ⟨⟨h76, h77, h78, h79⟩, ?_⟩
  refine an_v 23 (o_VotePairs 6 23) (.bool true) (fun W hS => exec_binop .eql 4 4 (.tmp 28) (.tmp 31) (by kernel_rfl) (.bool (doubP p q)) (.bool (doubP p q)) _ (by kernel_rfl) (by kernel_rfl) (by kernel_rfl) (bools_eq _ _)) ⟨h76, h77, h78, h79⟩ ?_
  refine an_k 24 (o_VotePairs 6 24) (.bool true) ⟨h76, h77, h78, h79⟩ ?_
  refine an_k 25 (o_VotePairs 6 25) (.bool true) ⟨h76, h77, h78, h79⟩ ?_
  refine an_o 26 ?_
  refine on_c (o_VotePairs 6 26) 9 #[] Try.func9 ((lvawake_ok _).mono ?_)
  rintro e V82 ⟨rfl, kV82⟩
  refine ⟨_, rfl, ?_⟩
  have h83 := kV82.bk h76
  have h84 := kV82.bk h77
  have h85 := kV82.bk h78
  have h86 := kV82.bk h79
  have K87 := K80.nn kV82
  have z88 := kV82.size
  refine ⟨⟨h83, h84, h85, h86⟩, ?_⟩
  refine an_k 27 (o_VotePairs 6 27) (.bool true) ⟨h83, h84, h85, h86⟩ ?_
  refine an_o 28 ?_
  refine on_r (o_VotePairs 6 28) (.bool true) (w' := V82) (by kernel_rfl) ?_
  refine ⟨⟨h83, h84, h85, h86⟩, ?_⟩
  refine an_end (by kernel_rfl) ?_
  refine sy_a ⟨#[.agg (Att.c a), .agg (Att.c b), .agg (Pro.c p), .agg (Pro.c q), pT ga 0, pT gb 0, pT gp 0, pT gq 0, .bool true, .agg (Att.c a), .agg (Att.c b), .bool (doub a b), .agg (Att.c a), .agg (Att.c b), .bool (doub a b), .bool true, .bool true, .agg (Att.c a), .agg (Att.c b), .bool (surr a b), .agg (Att.c a), .agg (Att.c b), .bool (surr a b), .bool true, .bool true, .bool true, .agg (Pro.c p), .agg (Pro.c q), .bool (doubP p q), .agg (Pro.c p), .agg (Pro.c q), .bool (doubP p q), .bool true, .bool true, .bool true, .bool true, .bool true], []⟩ ?_
  refine then_n ?_
  refine sy_ret (by kernel_rfl) ?_
  refine sy_out (.bool true) rfl (by kernel_rfl) ?_
  exact ⟨rfl, K87⟩
end Go.Proofs.Ytenaakldccjnbaa
