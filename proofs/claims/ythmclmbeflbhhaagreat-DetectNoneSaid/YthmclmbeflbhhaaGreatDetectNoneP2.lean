import Derived.Test.YthmclmbeflbhhaaGreatDetectNoneP1
namespace Go.Proofs.YthmclmbeflbhhaaGreat
set_option maxRecDepth 100000
set_option maxHeartbeats 4000000
open Go Go.RowKit Go.Own Go.Shelf
abbrev RingA : World → RD Att → Prop := Ring 124 184 185 28 Att.c (·.t) Att.Ok
theorem a_ptr_info : (Tryz.prog.info? 185).map (fun i => (i.zero, i.size, i.bytes)) = some (some (.pointer none), 1, 8) := by kernel_rfl
noncomputable def qc19_2 (n : Nat) : Code := partOf Tryz.f124 n
theorem qidx_ok (a : Att) (w : World) (hr : a.r.length = 32) :
  Calls Tryz.prog 124 #[.agg (Att.c a)] w (fun e w' => e = .returned (.int .i64 a.t) ∧ Keeps Nob w w') := by
 have K0 : Keeps Nob w w := Keeps.refl _ _
 refine sy_enter (qc19_2 1) ⟨#[.agg (Att.c a), ud, ud, ud, ud], []⟩ Tryz.func124 (by kernel_rfl) (by kernel_rfl) <| qr_ [0, 1] <| pbx 28 ((Att.c a)) (.agg (Att.c a)) fun V1 p ep h2 kV1 => ?_
 have n3 := nk ep K0
 have K4 := K0.nn kV1
 have z5 := kV1.size
 refine pkq (.int .i64 0) <| eqr_ [0, 1, 2] <| pkq (pT p 2) <| ppq (.int .i64 a.t) (ldc 3 p 2 (rc (h2) (Att.c_2 _))) <| pkq (.int .i64 a.t) <| eu_ <| so_ (.int .i64 a.t) ?_
 exact ⟨rfl, K4⟩
theorem qidx_as (a : Att) (t : Nat) (w : World) (hr : a.r.length = 32) (ht : a.t = ((t : Nat) : Int)) : Calls Tryz.prog 124 #[.agg (Att.c a)] w fun e w' => e = .returned (.int .i64 ((t : Nat) : Int)) ∧ Keeps Nob w w' := ht ▸ qidx_ok a w hr
noncomputable def part_gat (n : Nat) : Code := partOf Tryz.f113 n
noncomputable abbrev o_gat (n k : Nat) : Oper := (opsAt (part_gat n)).getD k default
theorem gat_low (d : RD Att) (i : Int) (w : World) (H : RingA w d) (hi : i < (d.low : Int)) :
  Calls Tryz.prog 113 #[pT d.g 0, .int .i64 i] w (fun e w' => e = .returned (.pointer none) ∧ Keeps Nob w w') := by
 have hn0 := H.n1
 have hn2 := H.n2
 have hl2 := H.l2
 have K0 : Keeps Nob w w := Keeps.refl _ _
 refine sy_enter (part_gat 1) ⟨fr [pT d.g 0, .int .i64 i] 36, []⟩ Tryz.func113 (by kernel_rfl) (by kernel_rfl) <| qr_ [0] <| pkq (.pointer none) <| eq_ <| q_ <| sy_np <| sy_reg <| an_begin 1 20 (opsAt (part_gat 12)) (fun W => (W.heap[d.g]? = some (.cells (#[.func (.func 124) #[] #[], .slice (some ⟨d.s, 0, none⟩) d.n d.cap, .int .i64 ((d.low : Nat) : Int)]) 184 (0, 0)))) zl4_ (by kernel_rfl) (by kernel_rfl) (by kernel_rfl) (by kernel_rfl) ?_
 obtain ⟨V1, eV1, kV1⟩ := drew_step w
 rw [eV1]
 clear eV1
 have h2 := kV1.bk H.ring
 have K4 := K0.nn kV1
 have z5 := kV1.size
 refine akq 0 (.int .i64 i) h2 <| akq 1 (pT d.g 0) h2 <| akq 2 (pT d.g 0) h2 <| akq 3 (pT d.g 2) h2 <| avq 4 (iN d.low) (fun W hS => exec_load_cell 3 (.tmp 8) (by kernel_rfl) ⟨d.g, 2, none⟩ (by kernel_rfl) _ _ Tryz.underlying3 rfl (rc (hS) (by kernel_rfl))) h2 <| avq 5 (.bool true) (fun W hS => dct (((i) : Int) < (((d.low : Nat) : Int))) (by omega)) h2 <| akq 6 (.bool true) h2 <| anq 7 h2 <| anq 8 h2 <| anq 9 h2 <| anq 10 h2 <| anq 11 h2 <| anq 12 h2 <| anq 13 h2 ?_
 refine anq 14 h2 <| anq 15 h2 <| anq 16 h2 <| anq 17 h2 <| anq 18 h2 <| akq 19 (.bool true) h2 <| an_end (by kernel_rfl) <| then_n <| y_ <| qr_ [0] <| pkq (.pointer none) <| eu_ <| then_r <| so_ (.pointer none) ?_
 exact ⟨rfl, K4⟩
theorem gat_high (d : RD Att) (i : Int) (w : World) (H : RingA w d) (hi : (d.low : Int) + d.n ≤ i) :
  Calls Tryz.prog 113 #[pT d.g 0, .int .i64 i] w (fun e w' => e = .returned (.pointer none) ∧ Keeps Nob w w') := by
 have hn0 := H.n1
 have hn2 := H.n2
 have hl2 := H.l2
 have K0 : Keeps Nob w w := Keeps.refl _ _
 refine sy_enter (part_gat 1) ⟨fr [pT d.g 0, .int .i64 i] 36, []⟩ Tryz.func113 (by kernel_rfl) (by kernel_rfl) <| qr_ [0] <| pkq (.pointer none) <| eq_ <| q_ <| sy_np <| sy_reg <| an_begin 1 20 (opsAt (part_gat 12)) (fun W => (W.heap[d.g]? = some (.cells (#[.func (.func 124) #[] #[], .slice (some ⟨d.s, 0, none⟩) d.n d.cap, .int .i64 ((d.low : Nat) : Int)]) 184 (0, 0)))) zl4_ (by kernel_rfl) (by kernel_rfl) (by kernel_rfl) (by kernel_rfl) ?_
 obtain ⟨V6, eV6, kV6⟩ := drew_step w
 rw [eV6]
 clear eV6
 have h7 := kV6.bk H.ring
 have K9 := K0.nn kV6
 have z10 := kV6.size
 refine akq 0 (.int .i64 i) h7 <| akq 1 (pT d.g 0) h7 <| akq 2 (pT d.g 0) h7 <| akq 3 (pT d.g 2) h7 <| avq 4 (iN d.low) (fun W hS => exec_load_cell 3 (.tmp 8) (by kernel_rfl) ⟨d.g, 2, none⟩ (by kernel_rfl) _ _ Tryz.underlying3 rfl (rc (hS) (by kernel_rfl))) h7 <| avq 5 (.bool false) (fun W hS => dcf (((i) : Int) < (((d.low : Nat) : Int))) (by omega)) h7 <| akq 6 (.bool false) h7 <| akq 7 (.int .i64 i) h7 <| akq 8 (pT d.g 0) h7 <| akq 9 (pT d.g 0) h7 <| akq 10 (pT d.g 2) h7 <| avq 11 (iN d.low) (fun W hS => exec_load_cell 3 (.tmp 15) (by kernel_rfl) ⟨d.g, 2, none⟩ (by kernel_rfl) _ _ Tryz.underlying3 rfl (rc (hS) (by kernel_rfl))) h7 <| akq 12 (pT d.g 0) h7 <| akq 13 (pT d.g 0) h7 ?_
 refine akq 14 (pT d.g 1) h7 <| avq 15 (.slice (some ⟨d.s, 0, none⟩) d.n d.cap) (fun W hS => exec_load_cell 182 (.tmp 19) (by kernel_rfl) ⟨d.g, 1, none⟩ (by kernel_rfl) _ _ Tryz.underlying182 rfl (rc (hS) (by kernel_rfl))) h7 <| avq 16 (iN d.n) (fun W hS => exec_len (.tmp 20) 182 _ (by kernel_rfl) Tryz.underlying182 (some ⟨d.s, 0, none⟩) d.n d.cap (by kernel_rfl)) h7 <| avq 17 (iN (d.low + d.n)) (fun W hS => exec_cast (congrArg (Value.int .i64) (wrapN (d.low + d.n) (by omega))) (by kernel_rfl)) h7 <| avq 18 (.bool true) (fun W hS => dct (((i) : Int) ≥ (((d.low + d.n : Nat) : Int))) (by omega)) h7 <| akq 19 (.bool true) h7 <| an_end (by kernel_rfl) <| then_n <| y_ <| qr_ [0] <| pkq (.pointer none) <| eu_ <| then_r <| so_ (.pointer none) ?_
 exact ⟨rfl, K9⟩
theorem gat_in (d : RD Att) (t : Nat) (w : World) (H : RingA w d) (h1 : d.low ≤ t) (h2 : t < d.low + d.n) :
  Calls Tryz.prog 113 #[pT d.g 0, .int .i64 ((t : Nat) : Int)] w (fun e w' => e = .returned (ptrV (d.S (t % d.n))) ∧ Keeps Nob w w') := by
 have hn0 := H.n1
 have hn2 := H.n2
 have hl2 := H.l2
 have hm := Nat.mod_lt t hn0
 have K0 : Keeps Nob w w := Keeps.refl _ _
 refine sy_enter (part_gat 1) ⟨fr [pT d.g 0, iN t] 36, []⟩ Tryz.func113 (by kernel_rfl) (by kernel_rfl) <| qr_ [0] <| pkq (.pointer none) <| eq_ <| q_ <| sy_np <| sy_reg <| an_begin 1 20 (opsAt (part_gat 12)) (fun W => (W.heap[d.g]? = some (.cells (#[.func (.func 124) #[] #[], .slice (some ⟨d.s, 0, none⟩) d.n d.cap, .int .i64 ((d.low : Nat) : Int)]) 184 (0, 0)))) zl4_ (by kernel_rfl) (by kernel_rfl) (by kernel_rfl) (by kernel_rfl) ?_
 obtain ⟨V11, eV11, kV11⟩ := drew_step w
 rw [eV11]
 clear eV11
 have h12 := kV11.bk H.ring
 have h13 := kV11.bk H.slots
 have K14 := K0.nn kV11
 have z15 := kV11.size
 refine akq 0 (iN t) h12 <| akq 1 (pT d.g 0) h12 <| akq 2 (pT d.g 0) h12 <| akq 3 (pT d.g 2) h12 <| avq 4 (iN d.low) (fun W hS => exec_load_cell 3 (.tmp 8) (by kernel_rfl) ⟨d.g, 2, none⟩ (by kernel_rfl) _ _ Tryz.underlying3 rfl (rc (hS) (by kernel_rfl))) h12 <| avq 5 (.bool false) (fun W hS => dcf ((((t : Nat) : Int)) < (((d.low : Nat) : Int))) (by omega)) h12 <| akq 6 (.bool false) h12 <| akq 7 (iN t) h12 <| akq 8 (pT d.g 0) h12 <| akq 9 (pT d.g 0) h12 <| akq 10 (pT d.g 2) h12 <| avq 11 (iN d.low) (fun W hS => exec_load_cell 3 (.tmp 15) (by kernel_rfl) ⟨d.g, 2, none⟩ (by kernel_rfl) _ _ Tryz.underlying3 rfl (rc (hS) (by kernel_rfl))) h12 <| akq 12 (pT d.g 0) h12 <| akq 13 (pT d.g 0) h12 ?_
 refine akq 14 (pT d.g 1) h12 <| avq 15 (.slice (some ⟨d.s, 0, none⟩) d.n d.cap) (fun W hS => exec_load_cell 182 (.tmp 19) (by kernel_rfl) ⟨d.g, 1, none⟩ (by kernel_rfl) _ _ Tryz.underlying182 rfl (rc (hS) (by kernel_rfl))) h12 <| avq 16 (iN d.n) (fun W hS => exec_len (.tmp 20) 182 _ (by kernel_rfl) Tryz.underlying182 (some ⟨d.s, 0, none⟩) d.n d.cap (by kernel_rfl)) h12 <| avq 17 (iN (d.low + d.n)) (fun W hS => exec_cast (congrArg (Value.int .i64) (wrapN (d.low + d.n) (by omega))) (by kernel_rfl)) h12 <| avq 18 (.bool false) (fun W hS => dcf ((((t : Nat) : Int)) ≥ (((d.low + d.n : Nat) : Int))) (by omega)) h12 <| akq 19 (.bool false) h12 <| an_end (by kernel_rfl) <| then_n <| n_ <| s_ <| tq_ <| sy_reg <| rg_still 3 13 (opsAt (part_gat 14)) [o_gat 14 0, o_gat 14 1, o_gat 14 2, o_gat 14 3, o_gat 14 4, o_gat 14 5, o_gat 14 6, o_gat 14 7, o_gat 14 8, o_gat 14 9, o_gat 14 10, o_gat 14 11, o_gat 14 12] [o_gat 14 13] (by kernel_rfl) (by kernel_rfl) (by kernel_rfl) (by kernel_rfl) (by kernel_rfl) ?_
 obtain ⟨V17, eV17, kV17⟩ := drew_step V11
 rw [eV17]
 clear eV17
 have ⟨K20, z21, h18, h19⟩ := kV17.z2 K14 h12 h13
 refine skq (pT d.g 0) <| skq (pT d.g 0) <| skq (pT d.g 1) <| spq (.slice (some ⟨d.s, 0, none⟩) d.n d.cap) (exec_load_cell 182 (.tmp 27) (by kernel_rfl) ⟨d.g, 1, none⟩ (by kernel_rfl) _ _ Tryz.underlying182 rfl (rc (h18) (by kernel_rfl))) <| skq (iN t) <| skq (pT d.g 0) <| skq (pT d.g 0) <| skq (pT d.g 1) <| spq (.slice (some ⟨d.s, 0, none⟩) d.n d.cap) (exec_load_cell 182 (.tmp 32) (by kernel_rfl) ⟨d.g, 1, none⟩ (by kernel_rfl) _ _ Tryz.underlying182 rfl (rc (h18) (by kernel_rfl))) <| spq (iN d.n) (exec_len (.tmp 33) 182 _ (by kernel_rfl) Tryz.underlying182 (some ⟨d.s, 0, none⟩) d.n d.cap (by kernel_rfl)) <| spq (iN (t % d.n)) (exec_rem 3 3 (.tmp 29) (.tmp 34) (by kernel_rfl) t d.n (by kernel_rfl) (by kernel_rfl) hn0) <| spq (pT d.s (t % d.n)) (exec_cast (v := pT d.s (0 + (t % d.n) * 1)) (by simp) (exec_indexAt_slice 182 (.tmp 28) (.tmp 35) (by kernel_rfl) d.s 0 d.n d.cap (by kernel_rfl) .i64 (t % d.n) (by kernel_rfl) _ 1 Tryz.underlying182 (by kernel_rfl) (by omega))) <| spq (ptrV (d.S (t % d.n))) (exec_load_cell 185 (.tmp 36) (by kernel_rfl) ⟨d.s, t % d.n, none⟩ (by kernel_rfl) _ _ Tryz.underlying185 rfl (rc (h19) ((Slots.get (Nat.mod_lt _ hn0)).trans (congrArg some (rfl))))) <| st_end ?_
 refine ls_run (o_gat 14 13) (ptrV (d.S (t % d.n))) (w' := V17) (by kernel_rfl) (by kernel_rfl) <| ls_end <| sy_a ⟨#[pT d.g 0, iN t, ud, ud, ptrV (d.S (t % d.n)), iN t, pT d.g 0, pT d.g 0, pT d.g 2, iN d.low, .bool false, .bool false, iN t, pT d.g 0, pT d.g 0, pT d.g 2, iN d.low, pT d.g 0, pT d.g 0, pT d.g 1, .slice (some ⟨d.s, 0, none⟩) d.n d.cap, iN d.n, iN (d.low + d.n), .bool false, .bool false, pT d.g 0, pT d.g 0, pT d.g 1, .slice (some ⟨d.s, 0, none⟩) d.n d.cap, iN t, pT d.g 0, pT d.g 0, pT d.g 1, .slice (some ⟨d.s, 0, none⟩) d.n d.cap, iN d.n, iN (t % d.n), pT d.s (t % d.n), ptrV (d.S (t % d.n))], []⟩ <| then_n <| u_ <| so_ (ptrV (d.S (t % d.n))) ?_
 exact ⟨rfl, K20⟩
theorem gat_ok (d : RD Att) (i : Int) (w : World) (H : RingA w d) : Calls Tryz.prog 113 #[pT d.g 0, .int .i64 i] w fun e w' => e = .returned (ptrV (slotOf d i)) ∧ Keeps Nob w w' := by
 by_cases h1 : i < (d.low : Int)
 ·rw [slotOf_low i h1]; exact gat_low d i w H h1
 ·by_cases h2 : (d.low : Int) + d.n ≤ i
  ·rw [slotOf_high i h2]; exact gat_high d i w H h2
  ·obtain ⟨t, rfl⟩ : ∃ t : Nat, i = (t : Int) := ⟨i.toNat, by omega⟩
   rw [slotOf_in t (by omega) (by omega)]; exact gat_in d t w H (by omega) (by omega)
theorem gat_none {d : RD Att} (i : Int) (w : World) (H : RingA w d) (h : slotOf d i = none) : Calls Tryz.prog 113 #[pT d.g 0, .int .i64 i] w fun e w' => e = .returned (.pointer none) ∧ Keeps Nob w w' := by
 have := gat_ok d i w H; rwa [h] at this
theorem gat_some {d : RD Att} (i : Int) (p : Nat) (w : World) (H : RingA w d) (h : slotOf d i = some p) : Calls Tryz.prog 113 #[pT d.g 0, .int .i64 i] w fun e w' => e = .returned (pT p 0) ∧ Keeps Nob w w' := by
 have := gat_ok d i w H; rwa [h] at this
noncomputable def qc19_1 (n : Nat) : Code := partOf Tryz.f97 n
noncomputable abbrev qo19_1 (n k : Nat) : Oper := (opsAt (qc19_1 n)).getD k default
theorem gput_low (d : RD Att) (a : Att) (w : World) (H : RingA w d) (ha : a.Ok) (hi : a.t < (d.low : Int)) :
  Calls Tryz.prog 97 #[pT d.g 0, .agg (Att.c a)] w (fun e w' => e = .returned (.int .i64 16) ∧ Keeps Nob w w') := by
 have hn0 := H.n1
 have hn2 := H.n2
 have hl2 := H.l2
 have K0 : Keeps Nob w w := Keeps.refl _ _
 refine sy_enter (qc19_1 1) ⟨fr [pT d.g 0, .agg (Att.c a)] 47, []⟩ Tryz.func97 (by kernel_rfl) (by kernel_rfl) <| qr_ [0, 1] <| pbx 28 ((Att.c a)) (.agg (Att.c a)) fun V1 p ep h2 kV1 => ?_
 have n3 : d.g < p := ep ▸ lt_of_block H.ring
 have n4 := nk ep K0
 have h5 := kV1.bk H.ring
 have K6 := K0.nn kV1
 have z7 := kV1.size
 refine pkq (.int .i64 0) <| eq_ <| sy_np <| sy_reg <| an_begin 1 7 (opsAt (qc19_1 6)) (fun W => (W.heap[d.g]? = some (.cells (#[.func (.func 124) #[] #[], .slice (some ⟨d.s, 0, none⟩) d.n d.cap, .int .i64 ((d.low : Nat) : Int)]) 184 (0, 0))) ∧ (W.heap[p]? = some (.cells (Att.c a) 28 (0, 0)))) #[false, false, false, false, false, false, false] (by kernel_rfl) (by kernel_rfl) (by kernel_rfl) (by kernel_rfl) ?_
 obtain ⟨V8, eV8, kV8⟩ := drew_step V1
 rw [eV8]
 clear eV8
 have ⟨K11, z12, h9, h10⟩ := kV8.z2 K6 h5 h2
 refine akq 0 (pT d.g 0) ⟨h9, h10⟩ <| akq 1 (pT d.g 0) ⟨h9, h10⟩ <| akq 2 (pT d.g 0) ⟨h9, h10⟩ <| avq 3 (.func (.func 124) #[] #[]) (fun W hS => exec_load_cell 181 (.tmp 8) (by kernel_rfl) ⟨d.g, 0, none⟩ (by kernel_rfl) _ _ Tryz.underlying181 rfl (rc (hS.1) (by kernel_rfl))) ⟨h9, h10⟩ <| avq 4 (.agg (Att.c a)) (fun W hS => ldr 28 p (hS.2) (by rw [Att.c_size _ ha.r]; kernel_rfl)) ⟨h9, h10⟩ <| an_o 5 ?_
 refine on_callV (qo19_1 6 5) (.tmp 9) 124 #[] #[] #[.agg (Att.c a)] (by kernel_rfl) (by kernel_rfl) (by kernel_rfl) (by kernel_rfl) (by kernel_rfl) (enters_of Tryz.func124 (by kernel_rfl) rfl) ((qidx_ok a _ ha.r).mono ?_)
 rintro e V13 ⟨rfl, kV13⟩
 refine ⟨_, rfl, ?_⟩
 have ⟨K16, z17, h14, h15⟩ := kV13.z2 K11 h9 h10
 refine ⟨⟨h14, h15⟩, ?_⟩
 refine an_o 6 <| nrq (.int .i64 a.t) (w' := V13) (by kernel_rfl) ?_
 refine ⟨⟨h14, h15⟩, ?_⟩
 refine an_end (by kernel_rfl) <| tq_ <| bl_ 0 <| qr_ [0, 1, 2, 3, 4, 5, 6] <| pkq (.int .i64 a.t) <| pkq (pT d.g 0) <| pkq (pT d.g 0) <| pkq (pT d.g 2) <| ppq (iN d.low) (exec_load_cell 3 (.tmp 16) (by kernel_rfl) ⟨d.g, 2, none⟩ (by kernel_rfl) _ _ Tryz.underlying3 rfl (rc (h14) (by kernel_rfl))) <| ppq (.bool true) (dct (((a.t) : Int) < (((d.low : Nat) : Int))) (by omega)) <| pkq (.bool true) <| ey_ <| qr_ [0] <| pkq (.int .i64 16) ?_
 refine eu_ <| blk_r <| then_r <| so_ (.int .i64 16) ?_
 exact ⟨rfl, K16⟩
theorem gput_high (d : RD Att) (a : Att) (w : World) (H : RingA w d) (ha : a.Ok) (hi : (d.low : Int) + d.n ≤ a.t) :
  Calls Tryz.prog 97 #[pT d.g 0, .agg (Att.c a)] w (fun e w' => e = .returned (.int .i64 17) ∧ Keeps Nob w w') := by
 have hn0 := H.n1
 have hn2 := H.n2
 have hl2 := H.l2
 have K0 : Keeps Nob w w := Keeps.refl _ _
 refine sy_enter (qc19_1 1) ⟨fr [pT d.g 0, .agg (Att.c a)] 47, []⟩ Tryz.func97 (by kernel_rfl) (by kernel_rfl) <| qr_ [0, 1] <| pbx 28 ((Att.c a)) (.agg (Att.c a)) fun V18 p ep h19 kV18 => ?_
 have n20 : d.g < p := ep ▸ lt_of_block H.ring
 have n21 := nk ep K0
 have h22 := kV18.bk H.ring
 have K23 := K0.nn kV18
 have z24 := kV18.size
 refine pkq (.int .i64 0) <| eq_ <| sy_np <| sy_reg <| an_begin 1 7 (opsAt (qc19_1 6)) (fun W => (W.heap[d.g]? = some (.cells (#[.func (.func 124) #[] #[], .slice (some ⟨d.s, 0, none⟩) d.n d.cap, .int .i64 ((d.low : Nat) : Int)]) 184 (0, 0))) ∧ (W.heap[p]? = some (.cells (Att.c a) 28 (0, 0)))) #[false, false, false, false, false, false, false] (by kernel_rfl) (by kernel_rfl) (by kernel_rfl) (by kernel_rfl) ?_
 obtain ⟨V25, eV25, kV25⟩ := drew_step V18
 rw [eV25]
 clear eV25
 have ⟨K28, z29, h26, h27⟩ := kV25.z2 K23 h22 h19
 refine akq 0 (pT d.g 0) ⟨h26, h27⟩ <| akq 1 (pT d.g 0) ⟨h26, h27⟩ <| akq 2 (pT d.g 0) ⟨h26, h27⟩ <| avq 3 (.func (.func 124) #[] #[]) (fun W hS => exec_load_cell 181 (.tmp 8) (by kernel_rfl) ⟨d.g, 0, none⟩ (by kernel_rfl) _ _ Tryz.underlying181 rfl (rc (hS.1) (by kernel_rfl))) ⟨h26, h27⟩ <| avq 4 (.agg (Att.c a)) (fun W hS => ldr 28 p (hS.2) (by rw [Att.c_size _ ha.r]; kernel_rfl)) ⟨h26, h27⟩ <| an_o 5 ?_
 refine on_callV (qo19_1 6 5) (.tmp 9) 124 #[] #[] #[.agg (Att.c a)] (by kernel_rfl) (by kernel_rfl) (by kernel_rfl) (by kernel_rfl) (by kernel_rfl) (enters_of Tryz.func124 (by kernel_rfl) rfl) ((qidx_ok a _ ha.r).mono ?_)
 rintro e V30 ⟨rfl, kV30⟩
 refine ⟨_, rfl, ?_⟩
 have ⟨K33, z34, h31, h32⟩ := kV30.z2 K28 h26 h27
 refine ⟨⟨h31, h32⟩, ?_⟩
 refine an_o 6 <| nrq (.int .i64 a.t) (w' := V30) (by kernel_rfl) ?_
 refine ⟨⟨h31, h32⟩, ?_⟩
 refine an_end (by kernel_rfl) <| tq_ <| bl_ 0 <| qr_ [0, 1, 2, 3, 4, 5, 6] <| pkq (.int .i64 a.t) <| pkq (pT d.g 0) <| pkq (pT d.g 0) <| pkq (pT d.g 2) <| ppq (iN d.low) (exec_load_cell 3 (.tmp 16) (by kernel_rfl) ⟨d.g, 2, none⟩ (by kernel_rfl) _ _ Tryz.underlying3 rfl (rc (h31) (by kernel_rfl))) <| ppq (.bool false) (dcf (((a.t) : Int) < (((d.low : Nat) : Int))) (by omega)) <| pkq (.bool false) <| en_ <| q_ <| sy_np ?_
 refine sy_reg <| an_begin 4 13 (opsAt (qc19_1 230)) (fun W => (W.heap[d.g]? = some (.cells (#[.func (.func 124) #[] #[], .slice (some ⟨d.s, 0, none⟩) d.n d.cap, .int .i64 ((d.low : Nat) : Int)]) 184 (0, 0)))) zl7_ (by kernel_rfl) (by kernel_rfl) (by kernel_rfl) (by kernel_rfl) ?_
 obtain ⟨V35, eV35, kV35⟩ := drew_step V30
 rw [eV35]
 clear eV35
 have ⟨K38, z39, h36⟩ := kV35.z1 K33 h31
 refine akq 0 (.int .i64 a.t) h36 <| akq 1 (pT d.g 0) h36 <| akq 2 (pT d.g 0) h36 <| akq 3 (pT d.g 2) h36 <| avq 4 (iN d.low) (fun W hS => exec_load_cell 3 (.tmp 23) (by kernel_rfl) ⟨d.g, 2, none⟩ (by kernel_rfl) _ _ Tryz.underlying3 rfl (rc (hS) (by kernel_rfl))) h36 <| akq 5 (pT d.g 0) h36 <| akq 6 (pT d.g 0) h36 <| akq 7 (pT d.g 1) h36 <| avq 8 (.slice (some ⟨d.s, 0, none⟩) d.n d.cap) (fun W hS => exec_load_cell 182 (.tmp 27) (by kernel_rfl) ⟨d.g, 1, none⟩ (by kernel_rfl) _ _ Tryz.underlying182 rfl (rc (hS) (by kernel_rfl))) h36 <| avq 9 (iN d.n) (fun W hS => exec_len (.tmp 28) 182 _ (by kernel_rfl) Tryz.underlying182 (some ⟨d.s, 0, none⟩) d.n d.cap (by kernel_rfl)) h36 <| avq 10 (iN (d.low + d.n)) (fun W hS => exec_cast (congrArg (Value.int .i64) (wrapN (d.low + d.n) (by omega))) (by kernel_rfl)) h36 <| avq 11 (.bool true) (fun W hS => dct (((a.t) : Int) ≥ (((d.low + d.n : Nat) : Int))) (by omega)) h36 <| an_o 12 <| nrq (.bool true) (w' := V35) (by kernel_rfl) ?_
 refine ⟨h36, ?_⟩
 refine an_end (by kernel_rfl) <| sy_a ⟨fr [pT d.g 0, .agg (Att.c a), ud, pT p 0, .int .i64 0, .int .i64 a.t, pT d.g 0, pT d.g 0, pT d.g 0, .func (.func 124) #[] #[], .agg (Att.c a), .int .i64 a.t, .bool false, .int .i64 a.t, pT d.g 0, pT d.g 0, pT d.g 2, iN d.low, .bool false, .bool true, .int .i64 a.t, pT d.g 0, pT d.g 0, pT d.g 2, iN d.low, pT d.g 0, pT d.g 0, pT d.g 1, .slice (some ⟨d.s, 0, none⟩) d.n d.cap, iN d.n, iN (d.low + d.n), .bool true] 17, []⟩ <| then_n <| y_ <| qr_ [0] <| pkq (.int .i64 17) <| eu_ <| blk_r <| then_r <| so_ (.int .i64 17) ?_
 exact ⟨rfl, K38⟩
theorem gput_double (d : RD Att) (a : Att) (t q : Nat) (w : World) (H : RingA w d) (ha : a.Ok) (ht : a.t = ((t : Nat) : Int)) (h1 : d.low ≤ t) (h2 : t < d.low + d.n) (hs : slotOf d ((t : Nat) : Int) = some q) :
  Calls Tryz.prog 97 #[pT d.g 0, .agg (Att.c a)] w (fun e w' => e = .returned (.int .i64 8) ∧ Keeps Nob w w') := by
 have hn0 := H.n1
 have hn2 := H.n2
 have hl2 := H.l2
 have K0 : Keeps Nob w w := Keeps.refl _ _
 refine sy_enter (qc19_1 1) ⟨fr [pT d.g 0, .agg (Att.c a)] 47, []⟩ Tryz.func97 (by kernel_rfl) (by kernel_rfl) <| qr_ [0, 1] <| pbx 28 ((Att.c a)) (.agg (Att.c a)) fun V40 p ep h41 kV40 => ?_
 have n42 : d.g < p := ep ▸ lt_of_block H.ring
 have n43 := nk ep K0
 have h44 := kV40.bk H.ring
 have h45 : RingA V40 d := H.keepsN kV40
 have K46 := K0.nn kV40
 have z47 := kV40.size
 refine pkq (.int .i64 0) <| eq_ <| sy_np <| sy_reg <| an_begin 1 7 (opsAt (qc19_1 6)) (fun W => (W.heap[d.g]? = some (.cells (#[.func (.func 124) #[] #[], .slice (some ⟨d.s, 0, none⟩) d.n d.cap, .int .i64 ((d.low : Nat) : Int)]) 184 (0, 0))) ∧ (W.heap[p]? = some (.cells (Att.c a) 28 (0, 0)))) #[false, false, false, false, false, false, false] (by kernel_rfl) (by kernel_rfl) (by kernel_rfl) (by kernel_rfl) ?_
 obtain ⟨V48, eV48, kV48⟩ := drew_step V40
 rw [eV48]
 clear eV48
 have h49 := kV48.bk h44
 have h50 : RingA V48 d := h45.keepsN kV48
 have ⟨K52, z53, h51⟩ := kV48.z1 K46 h41
 refine akq 0 (pT d.g 0) ⟨h49, h51⟩ <| akq 1 (pT d.g 0) ⟨h49, h51⟩ <| akq 2 (pT d.g 0) ⟨h49, h51⟩ <| avq 3 (.func (.func 124) #[] #[]) (fun W hS => exec_load_cell 181 (.tmp 8) (by kernel_rfl) ⟨d.g, 0, none⟩ (by kernel_rfl) _ _ Tryz.underlying181 rfl (rc (hS.1) (by kernel_rfl))) ⟨h49, h51⟩ <| avq 4 (.agg (Att.c a)) (fun W hS => ldr 28 p (hS.2) (by rw [Att.c_size _ ha.r]; kernel_rfl)) ⟨h49, h51⟩ <| an_o 5 ?_
 refine on_callV (qo19_1 6 5) (.tmp 9) 124 #[] #[] #[.agg (Att.c a)] (by kernel_rfl) (by kernel_rfl) (by kernel_rfl) (by kernel_rfl) (by kernel_rfl) (enters_of Tryz.func124 (by kernel_rfl) rfl) ((qidx_as a t _ ha.r ht).mono ?_)
 rintro e V54 ⟨rfl, kV54⟩
 refine ⟨_, rfl, ?_⟩
 have h55 := kV54.bk h49
 have h56 : RingA V54 d := h50.keepsN kV54
 have ⟨K58, z59, h57⟩ := kV54.z1 K52 h51
 refine ⟨⟨h55, h57⟩, ?_⟩
 refine an_o 6 <| nrq (iN t) (w' := V54) (by kernel_rfl) ?_
 refine ⟨⟨h55, h57⟩, ?_⟩
 refine an_end (by kernel_rfl) <| tq_ <| bl_ 0 <| qr_ [0, 1, 2, 3, 4, 5, 6] <| pkq (iN t) <| pkq (pT d.g 0) <| pkq (pT d.g 0) <| pkq (pT d.g 2) <| ppq (iN d.low) (exec_load_cell 3 (.tmp 16) (by kernel_rfl) ⟨d.g, 2, none⟩ (by kernel_rfl) _ _ Tryz.underlying3 rfl (rc (h55) (by kernel_rfl))) <| ppq (.bool false) (dcf ((((t : Nat) : Int)) < (((d.low : Nat) : Int))) (by omega)) <| pkq (.bool false) <| en_ <| q_ <| sy_np ?_
 refine sy_reg <| an_begin 4 13 (opsAt (qc19_1 230)) (fun W => (W.heap[d.g]? = some (.cells (#[.func (.func 124) #[] #[], .slice (some ⟨d.s, 0, none⟩) d.n d.cap, .int .i64 ((d.low : Nat) : Int)]) 184 (0, 0)))) zl7_ (by kernel_rfl) (by kernel_rfl) (by kernel_rfl) (by kernel_rfl) ?_
 obtain ⟨V60, eV60, kV60⟩ := drew_step V54
 rw [eV60]
 clear eV60
 have h61 := kV60.bk h55
 have h62 : RingA V60 d := h56.keepsN kV60
 have K64 := K58.nn kV60
 have z65 := kV60.size
 refine akq 0 (iN t) h61 <| akq 1 (pT d.g 0) h61 <| akq 2 (pT d.g 0) h61 <| akq 3 (pT d.g 2) h61 <| avq 4 (iN d.low) (fun W hS => exec_load_cell 3 (.tmp 23) (by kernel_rfl) ⟨d.g, 2, none⟩ (by kernel_rfl) _ _ Tryz.underlying3 rfl (rc (hS) (by kernel_rfl))) h61 <| akq 5 (pT d.g 0) h61 <| akq 6 (pT d.g 0) h61 <| akq 7 (pT d.g 1) h61 <| avq 8 (.slice (some ⟨d.s, 0, none⟩) d.n d.cap) (fun W hS => exec_load_cell 182 (.tmp 27) (by kernel_rfl) ⟨d.g, 1, none⟩ (by kernel_rfl) _ _ Tryz.underlying182 rfl (rc (hS) (by kernel_rfl))) h61 <| avq 9 (iN d.n) (fun W hS => exec_len (.tmp 28) 182 _ (by kernel_rfl) Tryz.underlying182 (some ⟨d.s, 0, none⟩) d.n d.cap (by kernel_rfl)) h61 <| avq 10 (iN (d.low + d.n)) (fun W hS => exec_cast (congrArg (Value.int .i64) (wrapN (d.low + d.n) (by omega))) (by kernel_rfl)) h61 <| avq 11 (.bool false) (fun W hS => dcf ((((t : Nat) : Int)) ≥ (((d.low + d.n : Nat) : Int))) (by omega)) h61 <| an_o 12 <| nrq (.bool false) (w' := V60) (by kernel_rfl) ?_
 refine ⟨h61, ?_⟩
 refine an_end (by kernel_rfl) <| sy_a ⟨fr [pT d.g 0, .agg (Att.c a), ud, pT p 0, .int .i64 0, iN t, pT d.g 0, pT d.g 0, pT d.g 0, .func (.func 124) #[] #[], .agg (Att.c a), iN t, .bool false, iN t, pT d.g 0, pT d.g 0, pT d.g 2, iN d.low, .bool false, .bool false, iN t, pT d.g 0, pT d.g 0, pT d.g 2, iN d.low, pT d.g 0, pT d.g 0, pT d.g 1, .slice (some ⟨d.s, 0, none⟩) d.n d.cap, iN d.n, iN (d.low + d.n), .bool false] 17, []⟩ <| then_n <| n_ <| qr_ [0, 1, 2, 3, 4] <| pkq (pT d.g 0) <| pkq (iN t) ?_
 refine pcq 113 #[pT d.g 0, iN t] Tryz.func113 ((gat_some _ q _ h62 hs).mono ?_)
 rintro e V66 ⟨rfl, kV66⟩
 refine ⟨_, rfl, ?_⟩
 have h68 : RingA V66 d := h62.keepsN kV66
 have K70 := K64.nn kV66
 have z71 := kV66.size
 skip
 refine pkq (.bool true) <| pkq (.bool true) <| ey_ <| qr_ [0] <| pkq (.int .i64 8) <| eu_ <| blk_r <| then_r <| so_ (.int .i64 8) ?_
 exact ⟨rfl, K70⟩
theorem gput_new (d : RD Att) (a : Att) (t : Nat) (w : World) (H : RingA w d) (ha : a.Ok) (ht : a.t = ((t : Nat) : Int)) (h1 : d.low ≤ t) (h2 : t < d.low + d.n) (hs : slotOf d ((t : Nat) : Int) = none) :
  Calls Tryz.prog 97 #[pT d.g 0, .agg (Att.c a)] w (fun e w' => e = .returned (.int .i64 0) ∧ ∃ p, RingA w' { d with V := upV d.V ((t : Nat) : Int) a, S := upS d.S (t % d.n) (some p) } ∧ Keeps (One d.s) w w') := by
 have hn0 := H.n1
 have hn2 := H.n2
 have hl2 := H.l2
 have hm := Nat.mod_lt t hn0
 have hgs : d.g ≠ d.s := fun e => by have h1 := H.ring; rw [e, H.slots] at h1; simp only [Option.some.injEq, Obj.cells.injEq] at h1; exact absurd h1.2.1 (by decide)
 have K0 : Keeps (One d.s) w w := Keeps.refl _ _
 refine sy_enter (qc19_1 1) ⟨fr [pT d.g 0, .agg (Att.c a)] 47, []⟩ Tryz.func97 (by kernel_rfl) (by kernel_rfl) <| qr_ [0, 1] <| pbx 28 ((Att.c a)) (.agg (Att.c a)) fun V72 p ep h73 kV72 => ?_
 have n74 : d.g < p := ep ▸ lt_of_block H.ring
 have n75 : d.s < p := ep ▸ lt_of_block H.slots
 have n76 := nk ep K0
 have h77 := kV72.bk H.ring
 have h78 := kV72.bk H.slots
 have h79 : RingA V72 d := H.keepsN kV72
 have h80 : ∀ (j : Nat) (cs : Array Value), w.heap[j]? = some (.cells cs 28 (0, 0)) → V72.heap[j]? = some (.cells cs 28 (0, 0)) := fun j cs e => kV72.odd (Odd.nob _) ((fun _ _ e => e) j cs e)
 have K81 := K0.nn kV72
 have z82 := kV72.size
 refine pkq (.int .i64 0) <| eq_ <| sy_np <| sy_reg <| an_begin 1 7 (opsAt (qc19_1 6)) (fun W => (W.heap[d.g]? = some (.cells (#[.func (.func 124) #[] #[], .slice (some ⟨d.s, 0, none⟩) d.n d.cap, .int .i64 ((d.low : Nat) : Int)]) 184 (0, 0))) ∧ (W.heap[p]? = some (.cells (Att.c a) 28 (0, 0)))) #[false, false, false, false, false, false, false] (by kernel_rfl) (by kernel_rfl) (by kernel_rfl) (by kernel_rfl) ?_
 obtain ⟨V83, eV83, kV83⟩ := drew_step V72
 rw [eV83]
 clear eV83
 have ⟨h84, h85⟩ := kV83.k2 h77 h78
 have h86 : RingA V83 d := h79.keepsN kV83
 have h87 : ∀ (j : Nat) (cs : Array Value), w.heap[j]? = some (.cells cs 28 (0, 0)) → V83.heap[j]? = some (.cells cs 28 (0, 0)) := fun j cs e => kV83.odd (Odd.nob _) (h80 j cs e)
 have ⟨K89, z90, h88⟩ := kV83.z1 K81 h73
 refine akq 0 (pT d.g 0) ⟨h84, h88⟩ <| akq 1 (pT d.g 0) ⟨h84, h88⟩ <| akq 2 (pT d.g 0) ⟨h84, h88⟩ <| avq 3 (.func (.func 124) #[] #[]) (fun W hS => exec_load_cell 181 (.tmp 8) (by kernel_rfl) ⟨d.g, 0, none⟩ (by kernel_rfl) _ _ Tryz.underlying181 rfl (rc (hS.1) (by kernel_rfl))) ⟨h84, h88⟩ <| avq 4 (.agg (Att.c a)) (fun W hS => ldr 28 p (hS.2) (by rw [Att.c_size _ ha.r]; kernel_rfl)) ⟨h84, h88⟩ <| an_o 5 ?_
 refine on_callV (qo19_1 6 5) (.tmp 9) 124 #[] #[] #[.agg (Att.c a)] (by kernel_rfl) (by kernel_rfl) (by kernel_rfl) (by kernel_rfl) (by kernel_rfl) (enters_of Tryz.func124 (by kernel_rfl) rfl) ((qidx_as a t _ ha.r ht).mono ?_)
 rintro e V91 ⟨rfl, kV91⟩
 refine ⟨_, rfl, ?_⟩
 have ⟨h92, h93⟩ := kV91.k2 h84 h85
 have h94 : RingA V91 d := h86.keepsN kV91
 have h95 : ∀ (j : Nat) (cs : Array Value), w.heap[j]? = some (.cells cs 28 (0, 0)) → V91.heap[j]? = some (.cells cs 28 (0, 0)) := fun j cs e => kV91.odd (Odd.nob _) (h87 j cs e)
 have ⟨K97, z98, h96⟩ := kV91.z1 K89 h88
 refine ⟨⟨h92, h96⟩, ?_⟩
 refine an_o 6 <| nrq (iN t) (w' := V91) (by kernel_rfl) ?_
 refine ⟨⟨h92, h96⟩, ?_⟩
 refine an_end (by kernel_rfl) <| tq_ <| bl_ 0 <| qr_ [0, 1, 2, 3, 4, 5, 6] <| pkq (iN t) <| pkq (pT d.g 0) <| pkq (pT d.g 0) <| pkq (pT d.g 2) <| ppq (iN d.low) (exec_load_cell 3 (.tmp 16) (by kernel_rfl) ⟨d.g, 2, none⟩ (by kernel_rfl) _ _ Tryz.underlying3 rfl (rc (h92) (by kernel_rfl))) <| ppq (.bool false) (dcf ((((t : Nat) : Int)) < (((d.low : Nat) : Int))) (by omega)) <| pkq (.bool false) <| en_ <| q_ <| sy_np ?_
 refine sy_reg <| an_begin 4 13 (opsAt (qc19_1 230)) (fun W => (W.heap[d.g]? = some (.cells (#[.func (.func 124) #[] #[], .slice (some ⟨d.s, 0, none⟩) d.n d.cap, .int .i64 ((d.low : Nat) : Int)]) 184 (0, 0)))) zl7_ (by kernel_rfl) (by kernel_rfl) (by kernel_rfl) (by kernel_rfl) ?_
 obtain ⟨V99, eV99, kV99⟩ := drew_step V91
 rw [eV99]
 clear eV99
 have ⟨h100, h101⟩ := kV99.k2 h92 h93
 have h102 : RingA V99 d := h94.keepsN kV99
 have h103 : ∀ (j : Nat) (cs : Array Value), w.heap[j]? = some (.cells cs 28 (0, 0)) → V99.heap[j]? = some (.cells cs 28 (0, 0)) := fun j cs e => kV99.odd (Odd.nob _) (h95 j cs e)
 have ⟨K105, z106, h104⟩ := kV99.z1 K97 h96
 refine akq 0 (iN t) h100 <| akq 1 (pT d.g 0) h100 <| akq 2 (pT d.g 0) h100 <| akq 3 (pT d.g 2) h100 <| avq 4 (iN d.low) (fun W hS => exec_load_cell 3 (.tmp 23) (by kernel_rfl) ⟨d.g, 2, none⟩ (by kernel_rfl) _ _ Tryz.underlying3 rfl (rc (hS) (by kernel_rfl))) h100 <| akq 5 (pT d.g 0) h100 <| akq 6 (pT d.g 0) h100 <| akq 7 (pT d.g 1) h100 <| avq 8 (.slice (some ⟨d.s, 0, none⟩) d.n d.cap) (fun W hS => exec_load_cell 182 (.tmp 27) (by kernel_rfl) ⟨d.g, 1, none⟩ (by kernel_rfl) _ _ Tryz.underlying182 rfl (rc (hS) (by kernel_rfl))) h100 <| avq 9 (iN d.n) (fun W hS => exec_len (.tmp 28) 182 _ (by kernel_rfl) Tryz.underlying182 (some ⟨d.s, 0, none⟩) d.n d.cap (by kernel_rfl)) h100 <| avq 10 (iN (d.low + d.n)) (fun W hS => exec_cast (congrArg (Value.int .i64) (wrapN (d.low + d.n) (by omega))) (by kernel_rfl)) h100 <| avq 11 (.bool false) (fun W hS => dcf ((((t : Nat) : Int)) ≥ (((d.low + d.n : Nat) : Int))) (by omega)) h100 <| an_o 12 <| nrq (.bool false) (w' := V99) (by kernel_rfl) ?_
 refine ⟨h100, ?_⟩
 refine an_end (by kernel_rfl) <| sy_a ⟨fr [pT d.g 0, .agg (Att.c a), ud, pT p 0, .int .i64 0, iN t, pT d.g 0, pT d.g 0, pT d.g 0, .func (.func 124) #[] #[], .agg (Att.c a), iN t, .bool false, iN t, pT d.g 0, pT d.g 0, pT d.g 2, iN d.low, .bool false, .bool false, iN t, pT d.g 0, pT d.g 0, pT d.g 2, iN d.low, pT d.g 0, pT d.g 0, pT d.g 1, .slice (some ⟨d.s, 0, none⟩) d.n d.cap, iN d.n, iN (d.low + d.n), .bool false] 17, []⟩ <| then_n <| n_ <| qr_ [0, 1, 2, 3, 4] <| pkq (pT d.g 0) <| pkq (iN t) ?_
 refine pcq 113 #[pT d.g 0, iN t] Tryz.func113 ((gat_none _ _ h102 hs).mono ?_)
 rintro e V107 ⟨rfl, kV107⟩
 refine ⟨_, rfl, ?_⟩
 have ⟨h108, h109⟩ := kV107.k2 h100 h101
 have h110 : RingA V107 d := h102.keepsN kV107
 have h111 : ∀ (j : Nat) (cs : Array Value), w.heap[j]? = some (.cells cs 28 (0, 0)) → V107.heap[j]? = some (.cells cs 28 (0, 0)) := fun j cs e => kV107.odd (Odd.nob _) (h103 j cs e)
 have ⟨K113, z114, h112⟩ := kV107.z1 K105 h104
 skip
 refine pkq (.bool false) <| pkq (.bool false) <| en_ <| s_ <| blk_n <| tq_ <| sy_reg <| rg_still 8 12 (opsAt (qc19_1 30)) [qo19_1 30 0, qo19_1 30 1, qo19_1 30 2, qo19_1 30 3, qo19_1 30 4, qo19_1 30 5, qo19_1 30 6, qo19_1 30 7, qo19_1 30 8, qo19_1 30 9, qo19_1 30 10, qo19_1 30 11] [qo19_1 30 12] (by kernel_rfl) (by kernel_rfl) (by kernel_rfl) (by kernel_rfl) (by kernel_rfl) ?_
 obtain ⟨V116, eV116, kV116⟩ := drew_step V107
 rw [eV116]
 clear eV116
 have ⟨h117, h118⟩ := kV116.k2 h108 h109
 have h119 : RingA V116 d := h110.keepsN kV116
 have h120 : ∀ (j : Nat) (cs : Array Value), w.heap[j]? = some (.cells cs 28 (0, 0)) → V116.heap[j]? = some (.cells cs 28 (0, 0)) := fun j cs e => kV116.odd (Odd.nob _) (h111 j cs e)
 have ⟨K122, z123, h121⟩ := kV116.z1 K113 h112
 refine skq (pT d.g 0) <| skq (pT d.g 0) <| skq (pT d.g 1) <| spq (.slice (some ⟨d.s, 0, none⟩) d.n d.cap) (exec_load_cell 182 (.tmp 39) (by kernel_rfl) ⟨d.g, 1, none⟩ (by kernel_rfl) _ _ Tryz.underlying182 rfl (rc (h117) (by kernel_rfl))) <| skq (iN t) <| skq (pT d.g 0) <| skq (pT d.g 0) <| skq (pT d.g 1) <| spq (.slice (some ⟨d.s, 0, none⟩) d.n d.cap) (exec_load_cell 182 (.tmp 44) (by kernel_rfl) ⟨d.g, 1, none⟩ (by kernel_rfl) _ _ Tryz.underlying182 rfl (rc (h117) (by kernel_rfl))) <| spq (iN d.n) (exec_len (.tmp 45) 182 _ (by kernel_rfl) Tryz.underlying182 (some ⟨d.s, 0, none⟩) d.n d.cap (by kernel_rfl)) <| spq (iN (t % d.n)) (exec_rem 3 3 (.tmp 41) (.tmp 46) (by kernel_rfl) t d.n (by kernel_rfl) (by kernel_rfl) hn0) <| spq (pT d.s (t % d.n)) (exec_cast (v := pT d.s (0 + (t % d.n) * 1)) (by simp) (exec_indexAt_slice 182 (.tmp 40) (.tmp 47) (by kernel_rfl) d.s 0 d.n d.cap (by kernel_rfl) .i64 (t % d.n) (by kernel_rfl) _ 1 Tryz.underlying182 (by kernel_rfl) (by omega))) <| st_end ?_
 obtain ⟨V124, eV124, kV124⟩ := cell_step V116 d.s (t % d.n) (pT p 0)
 have h125 : V124.heap[d.s]? = some (.cells (Slots d.n (upS d.S (t % d.n) (some p)) d.rest) 185 (0, 0)) := eV124 ▸ ((heap_setCell_same _ d.s (t % d.n) _ _ (pT p 0) h118).trans (congrArg (fun c => some (Obj.cells c 185 (0, 0))) (show (Slots d.n d.S d.rest : Array Value).setIfInBounds (t % d.n) (pT p 0) = Slots d.n (upS d.S (t % d.n) (some p)) d.rest from Slots.set' (Nat.mod_lt _ hn0) (some p) rfl)))
 refine ls_skip (qo19_1 30 12) (w' := V124) (by kernel_rfl) (by rw [← eV124]; exact exec_store_cell 185 (.tmp 48) (.tmp 3) (by kernel_rfl) d.s (t % d.n) (by kernel_rfl) (pT p 0) (by kernel_rfl) (by kernel_rfl) (by kernel_rfl) (ptrV (d.S (t % d.n))) (rc (h118) ((Slots.get (Nat.mod_lt _ hn0)).trans (congrArg some (rfl)))) (frozen_of_row _ _ _ _ _ h118) (by kernel_rfl)) ?_
 clear eV124
 have h126 := kV124.bO h117
 have h127 : ∀ (j : Nat) (cs : Array Value), w.heap[j]? = some (.cells cs 28 (0, 0)) → V124.heap[j]? = some (.cells cs 28 (0, 0)) := fun j cs e => kV124.odd (Odd.one h118 (by decide)) (h120 j cs e)
 have h128 := kV124.bO h121
 have K129 : Keeps (One d.s) w V124 := K122.then kV124 (fun i hi hm => by unfold Own.One at hm; subst hm; exact rfl)
 have z130 := kV124.size
 refine ls_end <| tqr_ [0] <| pkq (.int .i64 0) <| eu_ <| so_ (.int .i64 0) ?_
 exact ⟨rfl, _, Ring.put H t a h1 h2 ht ha p h128 h126 h127 h125, K129⟩
/-- Which error a put has. -/
def gputErr (d : RD Att) (i : Int) : Int := if i < (d.low : Int) then 16 else if (d.low : Int) + d.n ≤ i then 17 else if (d.V i).isSome then 8 else 0
theorem gput_ok (d : RD Att) (a : Att) (w : World) (H : RingA w d) (ha : a.Ok) : Calls Tryz.prog 97 #[pT d.g 0, .agg (Att.c a)] w fun e w' => e = .returned (.int .i64 (gputErr d a.t)) ∧
  (gputErr d a.t ≠ 0 → RingA w' d) ∧ (gputErr d a.t = 0 → ∃ S', RingA w' { d with V := upV d.V a.t a, S := S' }) ∧ Keeps (One d.s) w w' := by
 have nob : ∀ {w' : World}, Keeps Nob w w' → Keeps (One d.s) w w' := fun k => k.mono (fun _ _ x => x.elim)
 unfold gputErr
 by_cases h1 : a.t < (d.low : Int)
 ·rw [if_pos h1]; exact (gput_low d a w H ha h1).mono fun e w' ⟨he, k⟩ => ⟨he, fun _ => H.keepsN k, fun h => by omega, nob k⟩
 ·rw [if_neg h1]
  by_cases h2 : (d.low : Int) + d.n ≤ a.t
  ·rw [if_pos h2]; exact (gput_high d a w H ha h2).mono fun e w' ⟨he, k⟩ => ⟨he, fun _ => H.keepsN k, fun h => by omega, nob k⟩
  ·rw [if_neg h2]
   obtain ⟨t, ht⟩ : ∃ t : Nat, a.t = (t : Int) := ⟨(a.t).toNat, by omega⟩
   rw [ht]
   rcases H.none_or ((t : Nat) : Int) with ⟨hv, hs⟩ | ⟨b, q, hv, hs, _⟩
   ·rw [hv]; exact (gput_new d a t w H ha ht (by omega) (by omega) hs).mono fun e w' ⟨he, p, hr, k⟩ => ⟨he, fun h => absurd rfl h, fun _ => ⟨_, hr⟩, k⟩
   ·rw [hv]; exact (gput_double d a t q w H ha ht (by omega) (by omega) hs).mono fun e w' ⟨he, k⟩ => ⟨he, fun _ => H.keepsN k, fun h => (by cases h), nob k⟩
noncomputable def qc19_0 (n : Nat) : Code := partOf Tryz.f116 n
noncomputable abbrev qo19_0 (n k : Nat) : Oper := (opsAt (qc19_0 n)).getD k default
theorem gmove_far (d : RD Att) (l : Nat) (w : World) (H : RingA w d) (hl : d.low + d.n ≤ l) (hl3 : l ≤ 4294967296) :
  Calls Tryz.prog 116 #[pT d.g 0, .int .i64 ((l : Nat) : Int)] w (fun e w' => e = .returned (.tuple #[]) ∧ RingA w' { d with low := l, V := mvV d.V ((l : Nat) : Int), S := fun _ => none } ∧ Keeps (fun j => j = d.g ∨ j = d.s) w w') := by
 have hn0 := H.n1
 have hn2 := H.n2
 have hl2 := H.l2
 have hgs : d.g ≠ d.s := fun e => by have h1 := H.ring; rw [e, H.slots] at h1; simp only [Option.some.injEq, Obj.cells.injEq] at h1; exact absurd h1.2.1 (by decide)
 have K0 : Keeps ((fun j => j = d.g ∨ j = d.s)) w w := Keeps.refl _ _
 refine sy_enter (qc19_0 1) ⟨fr [pT d.g 0, iN l] 64, []⟩ Tryz.func116 (by kernel_rfl) (by kernel_rfl) <| q_ <| q_ <| sy_np <| sy_reg <| an_begin 0 12 (opsAt (qc19_0 4)) (fun W => (W.heap[d.g]? = some (.cells (#[.func (.func 124) #[] #[], .slice (some ⟨d.s, 0, none⟩) d.n d.cap, .int .i64 ((d.low : Nat) : Int)]) 184 (0, 0)))) zl11_ (by kernel_rfl) (by kernel_rfl) (by kernel_rfl) (by kernel_rfl) ?_
 obtain ⟨V1, eV1, kV1⟩ := drew_step w
 rw [eV1]
 clear eV1
 have h2 := kV1.bk H.ring
 have h3 := kV1.bk H.slots
 have K4 := K0.nn kV1
 have z5 := kV1.size
 refine akq 0 (iN l) h2 <| akq 1 (pT d.g 0) h2 <| akq 2 (pT d.g 0) h2 <| akq 3 (pT d.g 2) h2 <| avq 4 (iN d.low) (fun W hS => exec_load_cell 3 (.tmp 7) (by kernel_rfl) ⟨d.g, 2, none⟩ (by kernel_rfl) _ _ Tryz.underlying3 rfl (rc (hS) (by kernel_rfl))) h2 <| avq 5 (iN (l - d.low)) (fun W hS => exec_cast (congrArg (Value.int .i64) (wrapI (((l : Nat) : Int) - ((d.low : Nat) : Int)) _ (by omega) (by omega) (by omega))) (by kernel_rfl)) h2 <| akq 6 (pT d.g 0) h2 <| akq 7 (pT d.g 0) h2 <| akq 8 (pT d.g 1) h2 <| avq 9 (.slice (some ⟨d.s, 0, none⟩) d.n d.cap) (fun W hS => exec_load_cell 182 (.tmp 12) (by kernel_rfl) ⟨d.g, 1, none⟩ (by kernel_rfl) _ _ Tryz.underlying182 rfl (rc (hS) (by kernel_rfl))) h2 <| avq 10 (iN d.n) (fun W hS => exec_len (.tmp 13) 182 _ (by kernel_rfl) Tryz.underlying182 (some ⟨d.s, 0, none⟩) d.n d.cap (by kernel_rfl)) h2 <| avq 11 (.bool true) (fun W hS => dct ((((l - d.low : Nat) : Int)) ≥ (((d.n : Nat) : Int))) (by omega)) h2 <| an_end (by kernel_rfl) <| then_n ?_
 refine y_ <| r_ [0, 1, 2, 3, 4] <| pkq (pT d.g 0) <| pkq (pT d.g 0) <| pkq (pT d.g 1) <| ppq (.slice (some ⟨d.s, 0, none⟩) d.n d.cap) (exec_load_cell 182 (.tmp 18) (by kernel_rfl) ⟨d.g, 1, none⟩ (by kernel_rfl) _ _ Tryz.underlying182 rfl (rc (h2) (by kernel_rfl))) ?_
 obtain ⟨V6, eV6⟩ : ∃ V, V1.setCells d.s 0 (List.replicate d.n (.pointer none)) = V := ⟨_, rfl⟩
 have kV6 : Keeps (One d.s) V1 V6 := eV6 ▸ Keeps.setCells _ _ _ _
 have h7 : V6.heap[d.s]? = some (.cells (Slots d.n (fun _ => none) d.rest) 185 (0, 0)) := eV6 ▸ (heap_setCells d.s _ _ 0 _ _ h3 (by rw [Slots.size, List.length_replicate]; omega)).trans (congrArg (fun c => some (Obj.cells c 185 (0, 0))) Slots.clear)
 refine prq (.tuple #[]) (w' := V6) (by rw [← eV6]; exact exec_clear (.tmp 19) 182 185 (by kernel_rfl) (.pointer none) Tryz.underlying182 (fun _ => by kernel_rfl) rfl rfl d.s d.n d.cap (by kernel_rfl) hn0 _ _ h3 (by rw [Slots.size]; omega)) ?_
 clear eV6
 have h8 := kV6.bO h2
 have K9 : Keeps ((fun j => j = d.g ∨ j = d.s)) w V6 := K4.then kV6 (fun i hi hm => by unfold Own.One at hm; subst hm; exact .inr rfl)
 have z10 := kV6.size
 refine eq_ <| bl_ 0 <| sy_rounds 1 (qc19_0 24) (by kernel_rfl) <| rd_step <| q_ <| q_ <| sy_np <| sy_reg <| an_begin 2 20 (opsAt (qc19_0 96)) (fun W => (W.heap[d.g]? = some (.cells (#[.func (.func 124) #[] #[], .slice (some ⟨d.s, 0, none⟩) d.n d.cap, .int .i64 ((d.low : Nat) : Int)]) 184 (0, 0)))) zl4_ (by kernel_rfl) (by kernel_rfl) (by kernel_rfl) (by kernel_rfl) ?_
 obtain ⟨V11, eV11, kV11⟩ := drew_step V6
 rw [eV11]
 clear eV11
 have ⟨K14, z15, h12, h13⟩ := kV11.z2 K9 h8 h7
 refine akq 0 (pT d.g 0) h12 <| akq 1 (pT d.g 0) h12 <| akq 2 (pT d.g 2) h12 <| avq 3 (iN d.low) (fun W hS => exec_load_cell 3 (.tmp 22) (by kernel_rfl) ⟨d.g, 2, none⟩ (by kernel_rfl) _ _ Tryz.underlying3 rfl (rc (hS) (by kernel_rfl))) h12 <| akq 4 (iN l) h12 <| avq 5 (.bool true) (fun W hS => dct ((((d.low : Nat) : Int)) < (((l : Nat) : Int))) (by omega)) h12 <| akq 6 (.bool true) h12 <| akq 7 (iN l) h12 <| akq 8 (pT d.g 0) h12 <| akq 9 (pT d.g 0) h12 <| akq 10 (pT d.g 2) h12 <| avq 11 (iN d.low) (fun W hS => exec_load_cell 3 (.tmp 30) (by kernel_rfl) ⟨d.g, 2, none⟩ (by kernel_rfl) _ _ Tryz.underlying3 rfl (rc (hS) (by kernel_rfl))) h12 <| avq 12 (iN (l - d.low)) (fun W hS => exec_cast (congrArg (Value.int .i64) (wrapI (((l : Nat) : Int) - ((d.low : Nat) : Int)) _ (by omega) (by omega) (by omega))) (by kernel_rfl)) h12 <| akq 13 (pT d.g 0) h12 ?_
 refine akq 14 (pT d.g 0) h12 <| akq 15 (pT d.g 1) h12 <| avq 16 (.slice (some ⟨d.s, 0, none⟩) d.n d.cap) (fun W hS => exec_load_cell 182 (.tmp 35) (by kernel_rfl) ⟨d.g, 1, none⟩ (by kernel_rfl) _ _ Tryz.underlying182 rfl (rc (hS) (by kernel_rfl))) h12 <| avq 17 (iN d.n) (fun W hS => exec_len (.tmp 36) 182 _ (by kernel_rfl) Tryz.underlying182 (some ⟨d.s, 0, none⟩) d.n d.cap (by kernel_rfl)) h12 <| avq 18 (.bool false) (fun W hS => dcf ((((l - d.low : Nat) : Int)) < (((d.n : Nat) : Int))) (by omega)) h12 <| akq 19 (.bool false) h12 <| an_end (by kernel_rfl) <| sy_a ⟨fr [pT d.g 0, iN l, ud, ud, iN l, pT d.g 0, pT d.g 0, pT d.g 2, iN d.low, iN (l - d.low), pT d.g 0, pT d.g 0, pT d.g 1, .slice (some ⟨d.s, 0, none⟩) d.n d.cap, iN d.n, .bool true, pT d.g 0, pT d.g 0, pT d.g 1, .slice (some ⟨d.s, 0, none⟩) d.n d.cap, pT d.g 0, pT d.g 0, pT d.g 2, iN d.low, iN l, .bool true, .bool true, iN l, pT d.g 0, pT d.g 0, pT d.g 2, iN d.low, iN (l - d.low), pT d.g 0, pT d.g 0, pT d.g 1, .slice (some ⟨d.s, 0, none⟩) d.n d.cap, iN d.n, .bool false, .bool false] 26, []⟩ <| then_n <| n_ <| sy_exit 0 (by kernel_rfl) <| then_e <| then_e <| blk_e ?_
 refine tr_ [0, 1, 2, 3, 4] <| pkq (pT d.g 0) <| pkq (iN l) <| pkq (pT d.g 0) <| pkq (pT d.g 2) ?_
 refine pce 3 d.g 2 (iN l) (#[.func (.func 124) #[] #[], .slice (some ⟨d.s, 0, none⟩) d.n d.cap, .int .i64 ((l : Nat) : Int)]) h12 (rc (h12) (by kernel_rfl)) (by kernel_rfl) (u := iN d.low) fun V16 h17 kV16 => ?_
 have h18 := kV16.bO h13
 have K19 : Keeps ((fun j => j = d.g ∨ j = d.s)) w V16 := K14.then kV16 (fun i hi hm => by unfold Own.One at hm; subst hm; exact .inl rfl)
 have z20 := kV16.size
 refine ps_end <| sy_fall (.tuple #[]) rfl (by kernel_rfl) ?_
 exact ⟨rfl, Ring.cleared H l hl hl3 h17 h18, K19⟩
theorem gmove_near (d : RD Att) (l : Nat) (w : World) (H : RingA w d) (hl0 : d.low ≤ l) (hl : l < d.low + d.n) (hl3 : l ≤ 4294967296) :
  Calls Tryz.prog 116 #[pT d.g 0, .int .i64 ((l : Nat) : Int)] w (fun e w' => e = .returned (.tuple #[]) ∧ ∃ S', RingA w' { d with low := l, V := mvV d.V ((l : Nat) : Int), S := S' } ∧ Keeps (fun j => j = d.g ∨ j = d.s) w w') := by
 have hn0 := H.n1
 have hn2 := H.n2
 have hl2 := H.l2
 have hgs : d.g ≠ d.s := fun e => by have h1 := H.ring; rw [e, H.slots] at h1; simp only [Option.some.injEq, Obj.cells.injEq] at h1; exact absurd h1.2.1 (by decide)
 have K0 : Keeps ((fun j => j = d.g ∨ j = d.s)) w w := Keeps.refl _ _
 refine sy_enter (qc19_0 1) ⟨fr [pT d.g 0, iN l] 64, []⟩ Tryz.func116 (by kernel_rfl) (by kernel_rfl) <| q_ <| q_ <| sy_np <| sy_reg <| an_begin 0 12 (opsAt (qc19_0 4)) (fun W => (W.heap[d.g]? = some (.cells (#[.func (.func 124) #[] #[], .slice (some ⟨d.s, 0, none⟩) d.n d.cap, .int .i64 ((d.low : Nat) : Int)]) 184 (0, 0)))) zl11_ (by kernel_rfl) (by kernel_rfl) (by kernel_rfl) (by kernel_rfl) ?_
 obtain ⟨V21, eV21, kV21⟩ := drew_step w
 rw [eV21]
 clear eV21
 have h22 := kV21.bk H.ring
 have h24 : RingA V21 d := H.keepsN kV21
 have K25 := K0.nn kV21
 have z26 := kV21.size
 refine akq 0 (iN l) h22 <| akq 1 (pT d.g 0) h22 <| akq 2 (pT d.g 0) h22 <| akq 3 (pT d.g 2) h22 <| avq 4 (iN d.low) (fun W hS => exec_load_cell 3 (.tmp 7) (by kernel_rfl) ⟨d.g, 2, none⟩ (by kernel_rfl) _ _ Tryz.underlying3 rfl (rc (hS) (by kernel_rfl))) h22 <| avq 5 (iN (l - d.low)) (fun W hS => exec_cast (congrArg (Value.int .i64) (wrapI (((l : Nat) : Int) - ((d.low : Nat) : Int)) _ (by omega) (by omega) (by omega))) (by kernel_rfl)) h22 <| akq 6 (pT d.g 0) h22 <| akq 7 (pT d.g 0) h22 <| akq 8 (pT d.g 1) h22 <| avq 9 (.slice (some ⟨d.s, 0, none⟩) d.n d.cap) (fun W hS => exec_load_cell 182 (.tmp 12) (by kernel_rfl) ⟨d.g, 1, none⟩ (by kernel_rfl) _ _ Tryz.underlying182 rfl (rc (hS) (by kernel_rfl))) h22 <| avq 10 (iN d.n) (fun W hS => exec_len (.tmp 13) 182 _ (by kernel_rfl) Tryz.underlying182 (some ⟨d.s, 0, none⟩) d.n d.cap (by kernel_rfl)) h22 <| avq 11 (.bool false) (fun W hS => dcf ((((l - d.low : Nat) : Int)) ≥ (((d.n : Nat) : Int))) (by omega)) h22 <| an_end (by kernel_rfl) <| then_n ?_
 refine n_ <| s_ <| tq_ <| bl_ 0 ?_
 refine sy_loop (qc19_0 24) (fun a V => ∃ (k : Nat) (S' : Nat → Option Nat) (u20 u21 u22 u23 u24 u25 u26 u27 u28 u29 u30 u31 u32 u33 u34 u35 u36 u37 u38 u39 u40 u41 u42 u43 u44 u45 u46 u47 u48 u49 u50 u51 u52 u53 u54 u55 u56 u57 u58 u59 u60 u61 : Value), (a = ⟨#[pT d.g 0, iN l, ud, ud, iN l, pT d.g 0, pT d.g 0, pT d.g 2, iN d.low, iN (l - d.low), pT d.g 0, pT d.g 0, pT d.g 1, .slice (some ⟨d.s, 0, none⟩) d.n d.cap, iN d.n, .bool false, ud, ud, ud, ud, u20, u21, u22, u23, u24, u25, u26, u27, u28, u29, u30, u31, u32, u33, u34, u35, u36, u37, u38, u39, u40, u41, u42, u43, u44, u45, u46, u47, u48, u49, u50, u51, u52, u53, u54, u55, u56, u57, u58, u59, u60, u61, ud, ud, ud, ud], []⟩) ∧ (d.low ≤ k) ∧ (k ≤ l) ∧ (Keeps ((fun j => j = d.g ∨ j = d.s)) w V) ∧ (RingA V { d with low := k, V := mvV d.V ((k : Nat) : Int), S := S' })) (fun a V => l - lowAt V d.g) (by kernel_rfl) ?_ ?_
 ·exact ⟨d.low, d.S, undef, undef, undef, undef, undef, undef, undef, undef, undef, undef, undef, undef, undef, undef, undef, undef, undef, undef, undef, undef, undef, undef, undef, undef, undef, undef, undef, undef, undef, undef, undef, undef, undef, undef, undef, undef, undef, undef, undef, undef, undef, undef, by kernel_rfl, Nat.le_refl _, by omega, K25, (by rw [H.mvV_self d.low (Nat.le_refl _)]; exact h24)⟩
 ·rintro a V27 ⟨k, S', u20, u21, u22, u23, u24, u25, u26, u27, u28, u29, u30, u31, u32, u33, u34, u35, u36, u37, u38, u39, u40, u41, u42, u43, u44, u45, u46, u47, u48, u49, u50, u51, u52, u53, u54, u55, u56, u57, u58, u59, u60, u61, rfl, hk1, hk, K28, hR⟩
  have hg0 : V27.heap[d.g]? = some (.cells (#[.func (.func 124) #[] #[], .slice (some ⟨d.s, 0, none⟩) d.n d.cap, .int .i64 ((k : Nat) : Int)]) 184 (0, 0)) := hR.ring
  have hs0 : V27.heap[d.s]? = some (.cells (Slots d.n S' d.rest) 185 (0, 0)) := hR.slots
  have hm := Nat.mod_lt k hn0
  by_cases lt_k : k < l
  ·skip
   refine q_ <| q_ <| sy_np <| sy_reg <| an_begin 2 20 (opsAt (qc19_0 96)) (fun W => (W.heap[d.g]? = some (.cells (#[.func (.func 124) #[] #[], .slice (some ⟨d.s, 0, none⟩) d.n d.cap, .int .i64 ((k : Nat) : Int)]) 184 (0, 0)))) zl4_ (by kernel_rfl) (by kernel_rfl) (by kernel_rfl) (by kernel_rfl) ?_
   obtain ⟨V29, eV29, kV29⟩ := drew_step V27
   rw [eV29]
   clear eV29
   have ⟨h30, h31⟩ := kV29.k2 hg0 hs0
   have h32 : ∀ (j : Nat) (cs : Array Value), V27.heap[j]? = some (.cells cs 28 (0, 0)) → V29.heap[j]? = some (.cells cs 28 (0, 0)) := fun j cs e => kV29.odd (Odd.nob _) ((fun _ _ e => e) j cs e)
   have K33 := K28.nn kV29
   have z34 := kV29.size
   refine akq 0 (pT d.g 0) h30 <| akq 1 (pT d.g 0) h30 <| akq 2 (pT d.g 2) h30 <| avq 3 (iN k) (fun W hS => exec_load_cell 3 (.tmp 22) (by kernel_rfl) ⟨d.g, 2, none⟩ (by kernel_rfl) _ _ Tryz.underlying3 rfl (rc (hS) (by kernel_rfl))) h30 <| akq 4 (iN l) h30 <| avq 5 (.bool true) (fun W hS => dct ((((k : Nat) : Int)) < (((l : Nat) : Int))) (by omega)) h30 <| akq 6 (.bool true) h30 <| akq 7 (iN l) h30 <| akq 8 (pT d.g 0) h30 <| akq 9 (pT d.g 0) h30 <| akq 10 (pT d.g 2) h30 <| avq 11 (iN k) (fun W hS => exec_load_cell 3 (.tmp 30) (by kernel_rfl) ⟨d.g, 2, none⟩ (by kernel_rfl) _ _ Tryz.underlying3 rfl (rc (hS) (by kernel_rfl))) h30 <| avq 12 (iN (l - k)) (fun W hS => exec_cast (congrArg (Value.int .i64) (wrapI (((l : Nat) : Int) - ((k : Nat) : Int)) _ (by omega) (by omega) (by omega))) (by kernel_rfl)) h30 <| akq 13 (pT d.g 0) h30 ?_
   refine akq 14 (pT d.g 0) h30 <| akq 15 (pT d.g 1) h30 <| avq 16 (.slice (some ⟨d.s, 0, none⟩) d.n d.cap) (fun W hS => exec_load_cell 182 (.tmp 35) (by kernel_rfl) ⟨d.g, 1, none⟩ (by kernel_rfl) _ _ Tryz.underlying182 rfl (rc (hS) (by kernel_rfl))) h30 <| avq 17 (iN d.n) (fun W hS => exec_len (.tmp 36) 182 _ (by kernel_rfl) Tryz.underlying182 (some ⟨d.s, 0, none⟩) d.n d.cap (by kernel_rfl)) h30 <| avq 18 (.bool true) (fun W hS => dct ((((l - k : Nat) : Int)) < (((d.n : Nat) : Int))) (by omega)) h30 <| akq 19 (.bool true) h30 <| an_end (by kernel_rfl) <| then_n <| y_ <| s_ <| tq_ <| bl_ 1 <| sy_reg <| rg_still 4 15 (opsAt (qc19_0 196)) [qo19_0 196 0, qo19_0 196 1, qo19_0 196 2, qo19_0 196 3, qo19_0 196 4, qo19_0 196 5, qo19_0 196 6, qo19_0 196 7, qo19_0 196 8, qo19_0 196 9, qo19_0 196 10, qo19_0 196 11, qo19_0 196 12, qo19_0 196 13, qo19_0 196 14] [qo19_0 196 15] (by kernel_rfl) (by kernel_rfl) (by kernel_rfl) (by kernel_rfl) (by kernel_rfl) ?_
   obtain ⟨V36, eV36, kV36⟩ := drew_step V29
   rw [eV36]
   clear eV36
   have ⟨h37, h38⟩ := kV36.k2 h30 h31
   have h39 : ∀ (j : Nat) (cs : Array Value), V27.heap[j]? = some (.cells cs 28 (0, 0)) → V36.heap[j]? = some (.cells cs 28 (0, 0)) := fun j cs e => kV36.odd (Odd.nob _) (h32 j cs e)
   have K40 := K33.nn kV36
   have z41 := kV36.size
   refine skq (pT d.g 0) <| skq (pT d.g 0) <| skq (pT d.g 1) <| spq (.slice (some ⟨d.s, 0, none⟩) d.n d.cap) (exec_load_cell 182 (.tmp 49) (by kernel_rfl) ⟨d.g, 1, none⟩ (by kernel_rfl) _ _ Tryz.underlying182 rfl (rc (h37) (by kernel_rfl))) <| skq (pT d.g 0) <| skq (pT d.g 0) <| skq (pT d.g 2) <| spq (iN k) (exec_load_cell 3 (.tmp 53) (by kernel_rfl) ⟨d.g, 2, none⟩ (by kernel_rfl) _ _ Tryz.underlying3 rfl (rc (h37) (by kernel_rfl))) <| skq (pT d.g 0) <| skq (pT d.g 0) <| skq (pT d.g 1) <| spq (.slice (some ⟨d.s, 0, none⟩) d.n d.cap) (exec_load_cell 182 (.tmp 57) (by kernel_rfl) ⟨d.g, 1, none⟩ (by kernel_rfl) _ _ Tryz.underlying182 rfl (rc (h37) (by kernel_rfl))) <| spq (iN d.n) (exec_len (.tmp 58) 182 _ (by kernel_rfl) Tryz.underlying182 (some ⟨d.s, 0, none⟩) d.n d.cap (by kernel_rfl)) <| spq (iN (k % d.n)) (exec_rem 3 3 (.tmp 54) (.tmp 59) (by kernel_rfl) k d.n (by kernel_rfl) (by kernel_rfl) hn0) ?_
   refine spq (pT d.s (k % d.n)) (exec_cast (v := pT d.s (0 + (k % d.n) * 1)) (by simp) (exec_indexAt_slice 182 (.tmp 50) (.tmp 60) (by kernel_rfl) d.s 0 d.n d.cap (by kernel_rfl) .i64 (k % d.n) (by kernel_rfl) _ 1 Tryz.underlying182 (by kernel_rfl) (by omega))) <| st_end ?_
   obtain ⟨V42, eV42, kV42⟩ := cell_step V36 d.s (k % d.n) (.pointer none)
   have h43 : V42.heap[d.s]? = some (.cells (Slots d.n (upS S' (k % d.n) none) d.rest) 185 (0, 0)) := eV42 ▸ ((heap_setCell_same _ d.s (k % d.n) _ _ (.pointer none) h38).trans (congrArg (fun c => some (Obj.cells c 185 (0, 0))) (show (Slots d.n S' d.rest : Array Value).setIfInBounds (k % d.n) (.pointer none) = Slots d.n (upS S' (k % d.n) none) d.rest from Slots.set' (Nat.mod_lt _ hn0) none rfl)))
   refine ls_skip (qo19_0 196 15) (w' := V42) (by kernel_rfl) (by rw [← eV42]; exact exec_store_cell 185 (.tmp 61) (.const (.pointer none)) (by kernel_rfl) d.s (k % d.n) (by kernel_rfl) (.pointer none) (by kernel_rfl) (by kernel_rfl) (by kernel_rfl) (ptrV (S' (k % d.n))) (rc (h38) ((Slots.get (Nat.mod_lt _ hn0)).trans (congrArg some (rfl)))) (frozen_of_row _ _ _ _ _ h38) (by kernel_rfl)) ?_
   clear eV42
   have h44 := kV42.bO h37
   have h45 : ∀ (j : Nat) (cs : Array Value), V27.heap[j]? = some (.cells cs 28 (0, 0)) → V42.heap[j]? = some (.cells cs 28 (0, 0)) := fun j cs e => kV42.odd (Odd.one h38 (by decide)) (h39 j cs e)
   have K46 : Keeps ((fun j => j = d.g ∨ j = d.s)) w V42 := K40.then kV42 (fun i hi hm => by unfold Own.One at hm; subst hm; exact .inr rfl)
   have z47 := kV42.size
   refine ls_end <| sy_a ⟨#[pT d.g 0, iN l, ud, ud, iN l, pT d.g 0, pT d.g 0, pT d.g 2, iN d.low, iN (l - d.low), pT d.g 0, pT d.g 0, pT d.g 1, .slice (some ⟨d.s, 0, none⟩) d.n d.cap, iN d.n, .bool false, ud, ud, ud, ud, pT d.g 0, pT d.g 0, pT d.g 2, iN k, iN l, .bool true, .bool true, iN l, pT d.g 0, pT d.g 0, pT d.g 2, iN k, iN (l - k), pT d.g 0, pT d.g 0, pT d.g 1, .slice (some ⟨d.s, 0, none⟩) d.n d.cap, iN d.n, .bool true, .bool true, u40, u41, u42, u43, u44, u45, u46, pT d.g 0, pT d.g 0, pT d.g 1, .slice (some ⟨d.s, 0, none⟩) d.n d.cap, pT d.g 0, pT d.g 0, pT d.g 2, iN k, pT d.g 0, pT d.g 0, pT d.g 1, .slice (some ⟨d.s, 0, none⟩) d.n d.cap, iN d.n, iN (k % d.n), pT d.s (k % d.n), ud, ud, ud, ud], []⟩ <| blk_n <| tr_ [0, 1, 2, 3, 4, 5, 6, 7] <| pkq (pT d.g 0) <| pkq (pT d.g 0) <| pkq (pT d.g 2) <| ppq (iN k) (exec_load_cell 3 (.tmp 42) (by kernel_rfl) ⟨d.g, 2, none⟩ (by kernel_rfl) _ _ Tryz.underlying3 rfl (rc (h44) (by kernel_rfl))) <| ppq (iN (k + 1)) (exec_cast (congrArg (Value.int .i64) (wrapN (k + 1) (by omega))) (by kernel_rfl)) <| pkq (pT d.g 0) <| pkq (pT d.g 2) ?_
   refine pce 3 d.g 2 (iN (k + 1)) (#[.func (.func 124) #[] #[], .slice (some ⟨d.s, 0, none⟩) d.n d.cap, .int .i64 ((k + 1 : Nat) : Int)]) h44 (rc (h44) (by kernel_rfl)) (by kernel_rfl) (u := iN k) fun V48 h49 kV48 => ?_
   have h50 : ∀ (j : Nat) (cs : Array Value), V27.heap[j]? = some (.cells cs 28 (0, 0)) → V48.heap[j]? = some (.cells cs 28 (0, 0)) := fun j cs e => kV48.odd (Odd.one h44 (by decide)) (h45 j cs e)
   have h51 := kV48.bO h43
   have K52 : Keeps ((fun j => j = d.g ∨ j = d.s)) w V48 := K46.then kV48 (fun i hi hm => by unfold Own.One at hm; subst hm; exact .inl rfl)
   have z53 := kV48.size
   refine et_ ?_
   refine ⟨⟨k + 1, upS S' (k % d.n) none, (pT d.g 0), (pT d.g 0), (pT d.g 2), (iN k), (iN l), (.bool true), (.bool true), (iN l), (pT d.g 0), (pT d.g 0), (pT d.g 2), (iN k), (iN (l - k)), (pT d.g 0), (pT d.g 0), (pT d.g 1), (.slice (some ⟨d.s, 0, none⟩) d.n d.cap), (iN d.n), (.bool true), (.bool true), (pT d.g 0), (pT d.g 0), (pT d.g 2), (iN k), (iN (k + 1)), (pT d.g 0), (pT d.g 2), (pT d.g 0), (pT d.g 0), (pT d.g 1), (.slice (some ⟨d.s, 0, none⟩) d.n d.cap), (pT d.g 0), (pT d.g 0), (pT d.g 2), (iN k), (pT d.g 0), (pT d.g 0), (pT d.g 1), (.slice (some ⟨d.s, 0, none⟩) d.n d.cap), (iN d.n), (iN (k % d.n)), (pT d.s (k % d.n)), by kernel_rfl, by omega, by omega, K52, (by have hx := Ring.step hR h50 (by show k < 4294967296; omega) h49 h51; dsimp only at hx; rw [mvV_mvV (show ((k : Nat) : Int) ≤ ((k + 1 : Nat) : Int) by omega)] at hx; exact hx)⟩, ?_⟩
   show l - lowAt V48 d.g < l - lowAt V27 d.g; rw [lowAt_of h49, lowAt_of hg0]; omega
  ·have eq_k : k = l := by omega
   have hRl : RingA V27 { d with low := l, V := mvV d.V ((l : Nat) : Int), S := S' } := eq_k ▸ hR
   have hg1 : V27.heap[d.g]? = some (.cells (#[.func (.func 124) #[] #[], .slice (some ⟨d.s, 0, none⟩) d.n d.cap, .int .i64 ((l : Nat) : Int)]) 184 (0, 0)) := hRl.ring
   refine q_ <| q_ <| sy_np <| sy_reg <| an_begin 2 20 (opsAt (qc19_0 96)) (fun W => (W.heap[d.g]? = some (.cells (#[.func (.func 124) #[] #[], .slice (some ⟨d.s, 0, none⟩) d.n d.cap, .int .i64 ((l : Nat) : Int)]) 184 (0, 0)))) zl4_ (by kernel_rfl) (by kernel_rfl) (by kernel_rfl) (by kernel_rfl) ?_
   obtain ⟨V54, eV54, kV54⟩ := drew_step V27
   rw [eV54]
   clear eV54
   have ⟨h55, h56⟩ := kV54.k2 hg1 hs0
   have h57 : ∀ (j : Nat) (cs : Array Value), V27.heap[j]? = some (.cells cs 28 (0, 0)) → V54.heap[j]? = some (.cells cs 28 (0, 0)) := fun j cs e => kV54.odd (Odd.nob _) ((fun _ _ e => e) j cs e)
   have K58 := K28.nn kV54
   have z59 := kV54.size
   refine akq 0 (pT d.g 0) h55 <| akq 1 (pT d.g 0) h55 <| akq 2 (pT d.g 2) h55 <| avq 3 (iN l) (fun W hS => exec_load_cell 3 (.tmp 22) (by kernel_rfl) ⟨d.g, 2, none⟩ (by kernel_rfl) _ _ Tryz.underlying3 rfl (rc (hS) (by kernel_rfl))) h55 <| akq 4 (iN l) h55 <| avq 5 (.bool false) (fun W hS => dcf ((((l : Nat) : Int)) < (((l : Nat) : Int))) (by omega)) h55 <| akq 6 (.bool false) h55 <| anq 7 h55 <| anq 8 h55 <| anq 9 h55 <| anq 10 h55 <| anq 11 h55 <| anq 12 h55 <| anq 13 h55 ?_
   refine anq 14 h55 <| anq 15 h55 <| anq 16 h55 <| anq 17 h55 <| anq 18 h55 <| akq 19 (.bool false) h55 <| an_end (by kernel_rfl) <| then_n <| n_ <| sy_exit 0 (by kernel_rfl) <| then_e <| then_e <| blk_e <| tr_ [0, 1, 2, 3, 4] ?_
   refine pkq (pT d.g 0) <| pkq (iN l) <| pkq (pT d.g 0) <| pkq (pT d.g 2) ?_
   refine pce 3 d.g 2 (iN l) (#[.func (.func 124) #[] #[], .slice (some ⟨d.s, 0, none⟩) d.n d.cap, .int .i64 ((l : Nat) : Int)]) h55 (rc (h55) (by kernel_rfl)) (by kernel_rfl) (u := iN l) fun V60 h61 kV60 => ?_
   have h62 := kV60.bO h56
   have h63 : ∀ (j : Nat) (cs : Array Value), V27.heap[j]? = some (.cells cs 28 (0, 0)) → V60.heap[j]? = some (.cells cs 28 (0, 0)) := fun j cs e => kV60.odd (Odd.one h55 (by decide)) (h57 j cs e)
   have K64 : Keeps ((fun j => j = d.g ∨ j = d.s)) w V60 := K58.then kV60 (fun i hi hm => by unfold Own.One at hm; subst hm; exact .inl rfl)
   have z65 := kV60.size
   refine ps_end <| sy_a ⟨#[pT d.g 0, iN l, ud, ud, iN l, pT d.g 0, pT d.g 0, pT d.g 2, iN d.low, iN (l - d.low), pT d.g 0, pT d.g 0, pT d.g 1, .slice (some ⟨d.s, 0, none⟩) d.n d.cap, iN d.n, .bool false, ud, ud, ud, ud, pT d.g 0, pT d.g 0, pT d.g 2, iN l, iN l, .bool false, .bool false, ud, ud, ud, ud, ud, ud, ud, ud, ud, ud, ud, ud, .bool false, u40, u41, u42, u43, u44, u45, u46, u47, u48, u49, u50, u51, u52, u53, u54, u55, u56, u57, u58, u59, u60, u61, pT d.g 0, iN l, pT d.g 0, pT d.g 2], []⟩ <| sy_fall (.tuple #[]) rfl (by kernel_rfl) ?_
   exact ⟨rfl, _, Ring.same hRl h61 h62 h63, K64⟩
theorem gmove_ok (d : RD Att) (l : Nat) (w : World) (H : RingA w d) (hl0 : d.low ≤ l) (hl3 : l ≤ 4294967296) : Calls Tryz.prog 116 #[pT d.g 0, .int .i64 ((l : Nat) : Int)] w fun e w' => e = .returned (.tuple #[]) ∧ ∃ S', RingA w' { d with low := l, V := mvV d.V ((l : Nat) : Int), S := S' } ∧ Keeps (fun j => j = d.g ∨ j = d.s) w w' := by
 by_cases h : d.low + d.n ≤ l
 ·exact (gmove_far d l w H h hl3).mono fun e w' ⟨he, hr, k⟩ => ⟨he, _, hr, k⟩
 ·exact gmove_near d l w H hl0 (by omega) hl3
end Go.Proofs.YthmclmbeflbhhaaGreat
namespace Go.Proofs.YthmclmbeflbhhaaGreat
set_option maxRecDepth 100000
set_option maxHeartbeats 4000000
open Go Go.RowKit Go.Own Go.Shelf
abbrev RingB : World → RD Pro → Prop := Ring 125 192 168 37 Pro.c (·.h) Pro.Ok
theorem b_ptr_info : (Tryz.prog.info? 168).map (fun i => (i.zero, i.size, i.bytes)) = some (some (.pointer none), 1, 8) := by kernel_rfl
noncomputable def qc20_1 (n : Nat) : Code := partOf Tryz.f125 n
theorem qidxB_ok (a : Pro) (w : World) (hr : a.r.length = 32) :
  Calls Tryz.prog 125 #[.agg (Pro.c a)] w (fun e w' => e = .returned (.int .i64 a.h) ∧ Keeps Nob w w') := by
 have K0 : Keeps Nob w w := Keeps.refl _ _
 refine sy_enter (qc20_1 1) ⟨#[.agg (Pro.c a), ud, ud, ud, ud], []⟩ Tryz.func125 (by kernel_rfl) (by kernel_rfl) <| qr_ [0, 1] <| pbx 37 ((Pro.c a)) (.agg (Pro.c a)) fun V1 p ep h2 kV1 => ?_
 have n3 := nk ep K0
 have K4 := K0.nn kV1
 have z5 := kV1.size
 refine pkq (.int .i64 0) <| eqr_ [0, 1, 2] <| pkq (pT p 1) <| ppq (.int .i64 a.h) (ldc 3 p 1 (rc (h2) (Pro.c_1 _))) <| pkq (.int .i64 a.h) <| eu_ <| so_ (.int .i64 a.h) ?_
 exact ⟨rfl, K4⟩
theorem qidxB_as (a : Pro) (t : Nat) (w : World) (hr : a.r.length = 32) (ht : a.h = ((t : Nat) : Int)) : Calls Tryz.prog 125 #[.agg (Pro.c a)] w fun e w' => e = .returned (.int .i64 ((t : Nat) : Int)) ∧ Keeps Nob w w' := ht ▸ qidxB_ok a w hr
noncomputable def qc20_3 (n : Nat) : Code := partOf Tryz.f98 n
noncomputable abbrev qo20_3 (n k : Nat) : Oper := (opsAt (qc20_3 n)).getD k default
theorem gatB_low (d : RD Pro) (i : Int) (w : World) (H : RingB w d) (hi : i < (d.low : Int)) :
  Calls Tryz.prog 98 #[pT d.g 0, .int .i64 i] w (fun e w' => e = .returned (.pointer none) ∧ Keeps Nob w w') := by
 have hn0 := H.n1
 have hn2 := H.n2
 have hl2 := H.l2
 have K0 : Keeps Nob w w := Keeps.refl _ _
 refine sy_enter (qc20_3 1) ⟨fr [pT d.g 0, .int .i64 i] 36, []⟩ Tryz.func98 (by kernel_rfl) (by kernel_rfl) <| qr_ [0] <| pkq (.pointer none) <| eq_ <| q_ <| sy_np <| sy_reg <| an_begin 1 20 (opsAt (qc20_3 12)) (fun W => (W.heap[d.g]? = some (.cells (#[.func (.func 125) #[] #[], .slice (some ⟨d.s, 0, none⟩) d.n d.cap, .int .i64 ((d.low : Nat) : Int)]) 192 (0, 0)))) zl4_ (by kernel_rfl) (by kernel_rfl) (by kernel_rfl) (by kernel_rfl) ?_
 obtain ⟨V1, eV1, kV1⟩ := drew_step w
 rw [eV1]
 clear eV1
 have h2 := kV1.bk H.ring
 have K4 := K0.nn kV1
 have z5 := kV1.size
 refine akq 0 (.int .i64 i) h2 <| akq 1 (pT d.g 0) h2 <| akq 2 (pT d.g 0) h2 <| akq 3 (pT d.g 2) h2 <| avq 4 (iN d.low) (fun W hS => exec_load_cell 3 (.tmp 8) (by kernel_rfl) ⟨d.g, 2, none⟩ (by kernel_rfl) _ _ Tryz.underlying3 rfl (rc (hS) (by kernel_rfl))) h2 <| avq 5 (.bool true) (fun W hS => dct (((i) : Int) < (((d.low : Nat) : Int))) (by omega)) h2 <| akq 6 (.bool true) h2 <| anq 7 h2 <| anq 8 h2 <| anq 9 h2 <| anq 10 h2 <| anq 11 h2 <| anq 12 h2 <| anq 13 h2 ?_
 refine anq 14 h2 <| anq 15 h2 <| anq 16 h2 <| anq 17 h2 <| anq 18 h2 <| akq 19 (.bool true) h2 <| an_end (by kernel_rfl) <| then_n <| y_ <| qr_ [0] <| pkq (.pointer none) <| eu_ <| then_r <| so_ (.pointer none) ?_
 exact ⟨rfl, K4⟩
theorem gatB_high (d : RD Pro) (i : Int) (w : World) (H : RingB w d) (hi : (d.low : Int) + d.n ≤ i) :
  Calls Tryz.prog 98 #[pT d.g 0, .int .i64 i] w (fun e w' => e = .returned (.pointer none) ∧ Keeps Nob w w') := by
 have hn0 := H.n1
 have hn2 := H.n2
 have hl2 := H.l2
 have K0 : Keeps Nob w w := Keeps.refl _ _
 refine sy_enter (qc20_3 1) ⟨fr [pT d.g 0, .int .i64 i] 36, []⟩ Tryz.func98 (by kernel_rfl) (by kernel_rfl) <| qr_ [0] <| pkq (.pointer none) <| eq_ <| q_ <| sy_np <| sy_reg <| an_begin 1 20 (opsAt (qc20_3 12)) (fun W => (W.heap[d.g]? = some (.cells (#[.func (.func 125) #[] #[], .slice (some ⟨d.s, 0, none⟩) d.n d.cap, .int .i64 ((d.low : Nat) : Int)]) 192 (0, 0)))) zl4_ (by kernel_rfl) (by kernel_rfl) (by kernel_rfl) (by kernel_rfl) ?_
 obtain ⟨V6, eV6, kV6⟩ := drew_step w
 rw [eV6]
 clear eV6
 have h7 := kV6.bk H.ring
 have K9 := K0.nn kV6
 have z10 := kV6.size
 refine akq 0 (.int .i64 i) h7 <| akq 1 (pT d.g 0) h7 <| akq 2 (pT d.g 0) h7 <| akq 3 (pT d.g 2) h7 <| avq 4 (iN d.low) (fun W hS => exec_load_cell 3 (.tmp 8) (by kernel_rfl) ⟨d.g, 2, none⟩ (by kernel_rfl) _ _ Tryz.underlying3 rfl (rc (hS) (by kernel_rfl))) h7 <| avq 5 (.bool false) (fun W hS => dcf (((i) : Int) < (((d.low : Nat) : Int))) (by omega)) h7 <| akq 6 (.bool false) h7 <| akq 7 (.int .i64 i) h7 <| akq 8 (pT d.g 0) h7 <| akq 9 (pT d.g 0) h7 <| akq 10 (pT d.g 2) h7 <| avq 11 (iN d.low) (fun W hS => exec_load_cell 3 (.tmp 15) (by kernel_rfl) ⟨d.g, 2, none⟩ (by kernel_rfl) _ _ Tryz.underlying3 rfl (rc (hS) (by kernel_rfl))) h7 <| akq 12 (pT d.g 0) h7 <| akq 13 (pT d.g 0) h7 ?_
 refine akq 14 (pT d.g 1) h7 <| avq 15 (.slice (some ⟨d.s, 0, none⟩) d.n d.cap) (fun W hS => exec_load_cell 190 (.tmp 19) (by kernel_rfl) ⟨d.g, 1, none⟩ (by kernel_rfl) _ _ Tryz.underlying190 rfl (rc (hS) (by kernel_rfl))) h7 <| avq 16 (iN d.n) (fun W hS => exec_len (.tmp 20) 190 _ (by kernel_rfl) Tryz.underlying190 (some ⟨d.s, 0, none⟩) d.n d.cap (by kernel_rfl)) h7 <| avq 17 (iN (d.low + d.n)) (fun W hS => exec_cast (congrArg (Value.int .i64) (wrapN (d.low + d.n) (by omega))) (by kernel_rfl)) h7 <| avq 18 (.bool true) (fun W hS => dct (((i) : Int) ≥ (((d.low + d.n : Nat) : Int))) (by omega)) h7 <| akq 19 (.bool true) h7 <| an_end (by kernel_rfl) <| then_n <| y_ <| qr_ [0] <| pkq (.pointer none) <| eu_ <| then_r <| so_ (.pointer none) ?_
 exact ⟨rfl, K9⟩
theorem gatB_in (d : RD Pro) (t : Nat) (w : World) (H : RingB w d) (h1 : d.low ≤ t) (h2 : t < d.low + d.n) :
  Calls Tryz.prog 98 #[pT d.g 0, .int .i64 ((t : Nat) : Int)] w (fun e w' => e = .returned (ptrV (d.S (t % d.n))) ∧ Keeps Nob w w') := by
 have hn0 := H.n1
 have hn2 := H.n2
 have hl2 := H.l2
 have hm := Nat.mod_lt t hn0
 have K0 : Keeps Nob w w := Keeps.refl _ _
 refine sy_enter (qc20_3 1) ⟨fr [pT d.g 0, iN t] 36, []⟩ Tryz.func98 (by kernel_rfl) (by kernel_rfl) <| qr_ [0] <| pkq (.pointer none) <| eq_ <| q_ <| sy_np <| sy_reg <| an_begin 1 20 (opsAt (qc20_3 12)) (fun W => (W.heap[d.g]? = some (.cells (#[.func (.func 125) #[] #[], .slice (some ⟨d.s, 0, none⟩) d.n d.cap, .int .i64 ((d.low : Nat) : Int)]) 192 (0, 0)))) zl4_ (by kernel_rfl) (by kernel_rfl) (by kernel_rfl) (by kernel_rfl) ?_
 obtain ⟨V11, eV11, kV11⟩ := drew_step w
 rw [eV11]
 clear eV11
 have h12 := kV11.bk H.ring
 have h13 := kV11.bk H.slots
 have K14 := K0.nn kV11
 have z15 := kV11.size
 refine akq 0 (iN t) h12 <| akq 1 (pT d.g 0) h12 <| akq 2 (pT d.g 0) h12 <| akq 3 (pT d.g 2) h12 <| avq 4 (iN d.low) (fun W hS => exec_load_cell 3 (.tmp 8) (by kernel_rfl) ⟨d.g, 2, none⟩ (by kernel_rfl) _ _ Tryz.underlying3 rfl (rc (hS) (by kernel_rfl))) h12 <| avq 5 (.bool false) (fun W hS => dcf ((((t : Nat) : Int)) < (((d.low : Nat) : Int))) (by omega)) h12 <| akq 6 (.bool false) h12 <| akq 7 (iN t) h12 <| akq 8 (pT d.g 0) h12 <| akq 9 (pT d.g 0) h12 <| akq 10 (pT d.g 2) h12 <| avq 11 (iN d.low) (fun W hS => exec_load_cell 3 (.tmp 15) (by kernel_rfl) ⟨d.g, 2, none⟩ (by kernel_rfl) _ _ Tryz.underlying3 rfl (rc (hS) (by kernel_rfl))) h12 <| akq 12 (pT d.g 0) h12 <| akq 13 (pT d.g 0) h12 ?_
 refine akq 14 (pT d.g 1) h12 <| avq 15 (.slice (some ⟨d.s, 0, none⟩) d.n d.cap) (fun W hS => exec_load_cell 190 (.tmp 19) (by kernel_rfl) ⟨d.g, 1, none⟩ (by kernel_rfl) _ _ Tryz.underlying190 rfl (rc (hS) (by kernel_rfl))) h12 <| avq 16 (iN d.n) (fun W hS => exec_len (.tmp 20) 190 _ (by kernel_rfl) Tryz.underlying190 (some ⟨d.s, 0, none⟩) d.n d.cap (by kernel_rfl)) h12 <| avq 17 (iN (d.low + d.n)) (fun W hS => exec_cast (congrArg (Value.int .i64) (wrapN (d.low + d.n) (by omega))) (by kernel_rfl)) h12 <| avq 18 (.bool false) (fun W hS => dcf ((((t : Nat) : Int)) ≥ (((d.low + d.n : Nat) : Int))) (by omega)) h12 <| akq 19 (.bool false) h12 <| an_end (by kernel_rfl) <| then_n <| n_ <| s_ <| tq_ <| sy_reg <| rg_still 3 13 (opsAt (qc20_3 14)) [qo20_3 14 0, qo20_3 14 1, qo20_3 14 2, qo20_3 14 3, qo20_3 14 4, qo20_3 14 5, qo20_3 14 6, qo20_3 14 7, qo20_3 14 8, qo20_3 14 9, qo20_3 14 10, qo20_3 14 11, qo20_3 14 12] [qo20_3 14 13] (by kernel_rfl) (by kernel_rfl) (by kernel_rfl) (by kernel_rfl) (by kernel_rfl) ?_
 obtain ⟨V17, eV17, kV17⟩ := drew_step V11
 rw [eV17]
 clear eV17
 have ⟨K20, z21, h18, h19⟩ := kV17.z2 K14 h12 h13
 refine skq (pT d.g 0) <| skq (pT d.g 0) <| skq (pT d.g 1) <| spq (.slice (some ⟨d.s, 0, none⟩) d.n d.cap) (exec_load_cell 190 (.tmp 27) (by kernel_rfl) ⟨d.g, 1, none⟩ (by kernel_rfl) _ _ Tryz.underlying190 rfl (rc (h18) (by kernel_rfl))) <| skq (iN t) <| skq (pT d.g 0) <| skq (pT d.g 0) <| skq (pT d.g 1) <| spq (.slice (some ⟨d.s, 0, none⟩) d.n d.cap) (exec_load_cell 190 (.tmp 32) (by kernel_rfl) ⟨d.g, 1, none⟩ (by kernel_rfl) _ _ Tryz.underlying190 rfl (rc (h18) (by kernel_rfl))) <| spq (iN d.n) (exec_len (.tmp 33) 190 _ (by kernel_rfl) Tryz.underlying190 (some ⟨d.s, 0, none⟩) d.n d.cap (by kernel_rfl)) <| spq (iN (t % d.n)) (exec_rem 3 3 (.tmp 29) (.tmp 34) (by kernel_rfl) t d.n (by kernel_rfl) (by kernel_rfl) hn0) <| spq (pT d.s (t % d.n)) (exec_cast (v := pT d.s (0 + (t % d.n) * 1)) (by simp) (exec_indexAt_slice 190 (.tmp 28) (.tmp 35) (by kernel_rfl) d.s 0 d.n d.cap (by kernel_rfl) .i64 (t % d.n) (by kernel_rfl) _ 1 Tryz.underlying190 (by kernel_rfl) (by omega))) <| spq (ptrV (d.S (t % d.n))) (exec_load_cell 168 (.tmp 36) (by kernel_rfl) ⟨d.s, t % d.n, none⟩ (by kernel_rfl) _ _ Tryz.underlying168 rfl (rc (h19) ((Slots.get (Nat.mod_lt _ hn0)).trans (congrArg some (rfl))))) <| st_end ?_
 refine ls_run (qo20_3 14 13) (ptrV (d.S (t % d.n))) (w' := V17) (by kernel_rfl) (by kernel_rfl) <| ls_end <| sy_a ⟨#[pT d.g 0, iN t, ud, ud, ptrV (d.S (t % d.n)), iN t, pT d.g 0, pT d.g 0, pT d.g 2, iN d.low, .bool false, .bool false, iN t, pT d.g 0, pT d.g 0, pT d.g 2, iN d.low, pT d.g 0, pT d.g 0, pT d.g 1, .slice (some ⟨d.s, 0, none⟩) d.n d.cap, iN d.n, iN (d.low + d.n), .bool false, .bool false, pT d.g 0, pT d.g 0, pT d.g 1, .slice (some ⟨d.s, 0, none⟩) d.n d.cap, iN t, pT d.g 0, pT d.g 0, pT d.g 1, .slice (some ⟨d.s, 0, none⟩) d.n d.cap, iN d.n, iN (t % d.n), pT d.s (t % d.n), ptrV (d.S (t % d.n))], []⟩ <| then_n <| u_ <| so_ (ptrV (d.S (t % d.n))) ?_
 exact ⟨rfl, K20⟩
theorem gatB_ok (d : RD Pro) (i : Int) (w : World) (H : RingB w d) : Calls Tryz.prog 98 #[pT d.g 0, .int .i64 i] w fun e w' => e = .returned (ptrV (slotOf d i)) ∧ Keeps Nob w w' := by
 by_cases h1 : i < (d.low : Int)
 ·rw [slotOf_low i h1]; exact gatB_low d i w H h1
 ·by_cases h2 : (d.low : Int) + d.n ≤ i
  ·rw [slotOf_high i h2]; exact gatB_high d i w H h2
  ·obtain ⟨t, rfl⟩ : ∃ t : Nat, i = (t : Int) := ⟨i.toNat, by omega⟩
   rw [slotOf_in t (by omega) (by omega)]; exact gatB_in d t w H (by omega) (by omega)
theorem gatB_none {d : RD Pro} (i : Int) (w : World) (H : RingB w d) (h : slotOf d i = none) : Calls Tryz.prog 98 #[pT d.g 0, .int .i64 i] w fun e w' => e = .returned (.pointer none) ∧ Keeps Nob w w' := by
 have := gatB_ok d i w H; rwa [h] at this
theorem gatB_some {d : RD Pro} (i : Int) (p : Nat) (w : World) (H : RingB w d) (h : slotOf d i = some p) : Calls Tryz.prog 98 #[pT d.g 0, .int .i64 i] w fun e w' => e = .returned (pT p 0) ∧ Keeps Nob w w' := by
 have := gatB_ok d i w H; rwa [h] at this
noncomputable def qc20_2 (n : Nat) : Code := partOf Tryz.f99 n
noncomputable abbrev qo20_2 (n k : Nat) : Oper := (opsAt (qc20_2 n)).getD k default
theorem gputB_low (d : RD Pro) (a : Pro) (w : World) (H : RingB w d) (ha : a.Ok) (hi : a.h < (d.low : Int)) :
  Calls Tryz.prog 99 #[pT d.g 0, .agg (Pro.c a)] w (fun e w' => e = .returned (.int .i64 16) ∧ Keeps Nob w w') := by
 have hn0 := H.n1
 have hn2 := H.n2
 have hl2 := H.l2
 have K0 : Keeps Nob w w := Keeps.refl _ _
 refine sy_enter (qc20_2 1) ⟨fr [pT d.g 0, .agg (Pro.c a)] 47, []⟩ Tryz.func99 (by kernel_rfl) (by kernel_rfl) <| qr_ [0, 1] <| pbx 37 ((Pro.c a)) (.agg (Pro.c a)) fun V1 p ep h2 kV1 => ?_
 have n3 : d.g < p := ep ▸ lt_of_block H.ring
 have n4 := nk ep K0
 have h5 := kV1.bk H.ring
 have K6 := K0.nn kV1
 have z7 := kV1.size
 refine pkq (.int .i64 0) <| eq_ <| sy_np <| sy_reg <| an_begin 1 7 (opsAt (qc20_2 6)) (fun W => (W.heap[d.g]? = some (.cells (#[.func (.func 125) #[] #[], .slice (some ⟨d.s, 0, none⟩) d.n d.cap, .int .i64 ((d.low : Nat) : Int)]) 192 (0, 0))) ∧ (W.heap[p]? = some (.cells (Pro.c a) 37 (0, 0)))) #[false, false, false, false, false, false, false] (by kernel_rfl) (by kernel_rfl) (by kernel_rfl) (by kernel_rfl) ?_
 obtain ⟨V8, eV8, kV8⟩ := drew_step V1
 rw [eV8]
 clear eV8
 have ⟨K11, z12, h9, h10⟩ := kV8.z2 K6 h5 h2
 refine akq 0 (pT d.g 0) ⟨h9, h10⟩ <| akq 1 (pT d.g 0) ⟨h9, h10⟩ <| akq 2 (pT d.g 0) ⟨h9, h10⟩ <| avq 3 (.func (.func 125) #[] #[]) (fun W hS => exec_load_cell 189 (.tmp 8) (by kernel_rfl) ⟨d.g, 0, none⟩ (by kernel_rfl) _ _ Tryz.underlying189 rfl (rc (hS.1) (by kernel_rfl))) ⟨h9, h10⟩ <| avq 4 (.agg (Pro.c a)) (fun W hS => ldr 37 p (hS.2) (by rw [Pro.c_size _ ha.r]; kernel_rfl)) ⟨h9, h10⟩ <| an_o 5 ?_
 refine on_callV (qo20_2 6 5) (.tmp 9) 125 #[] #[] #[.agg (Pro.c a)] (by kernel_rfl) (by kernel_rfl) (by kernel_rfl) (by kernel_rfl) (by kernel_rfl) (enters_of Tryz.func125 (by kernel_rfl) rfl) ((qidxB_ok a _ ha.r).mono ?_)
 rintro e V13 ⟨rfl, kV13⟩
 refine ⟨_, rfl, ?_⟩
 have ⟨K16, z17, h14, h15⟩ := kV13.z2 K11 h9 h10
 refine ⟨⟨h14, h15⟩, ?_⟩
 refine an_o 6 <| nrq (.int .i64 a.h) (w' := V13) (by kernel_rfl) ?_
 refine ⟨⟨h14, h15⟩, ?_⟩
 refine an_end (by kernel_rfl) <| tq_ <| bl_ 0 <| qr_ [0, 1, 2, 3, 4, 5, 6] <| pkq (.int .i64 a.h) <| pkq (pT d.g 0) <| pkq (pT d.g 0) <| pkq (pT d.g 2) <| ppq (iN d.low) (exec_load_cell 3 (.tmp 16) (by kernel_rfl) ⟨d.g, 2, none⟩ (by kernel_rfl) _ _ Tryz.underlying3 rfl (rc (h14) (by kernel_rfl))) <| ppq (.bool true) (dct (((a.h) : Int) < (((d.low : Nat) : Int))) (by omega)) <| pkq (.bool true) <| ey_ <| qr_ [0] <| pkq (.int .i64 16) ?_
 refine eu_ <| blk_r <| then_r <| so_ (.int .i64 16) ?_
 exact ⟨rfl, K16⟩
theorem gputB_high (d : RD Pro) (a : Pro) (w : World) (H : RingB w d) (ha : a.Ok) (hi : (d.low : Int) + d.n ≤ a.h) :
  Calls Tryz.prog 99 #[pT d.g 0, .agg (Pro.c a)] w (fun e w' => e = .returned (.int .i64 17) ∧ Keeps Nob w w') := by
 have hn0 := H.n1
 have hn2 := H.n2
 have hl2 := H.l2
 have K0 : Keeps Nob w w := Keeps.refl _ _
 refine sy_enter (qc20_2 1) ⟨fr [pT d.g 0, .agg (Pro.c a)] 47, []⟩ Tryz.func99 (by kernel_rfl) (by kernel_rfl) <| qr_ [0, 1] <| pbx 37 ((Pro.c a)) (.agg (Pro.c a)) fun V18 p ep h19 kV18 => ?_
 have n20 : d.g < p := ep ▸ lt_of_block H.ring
 have n21 := nk ep K0
 have h22 := kV18.bk H.ring
 have K23 := K0.nn kV18
 have z24 := kV18.size
 refine pkq (.int .i64 0) <| eq_ <| sy_np <| sy_reg <| an_begin 1 7 (opsAt (qc20_2 6)) (fun W => (W.heap[d.g]? = some (.cells (#[.func (.func 125) #[] #[], .slice (some ⟨d.s, 0, none⟩) d.n d.cap, .int .i64 ((d.low : Nat) : Int)]) 192 (0, 0))) ∧ (W.heap[p]? = some (.cells (Pro.c a) 37 (0, 0)))) #[false, false, false, false, false, false, false] (by kernel_rfl) (by kernel_rfl) (by kernel_rfl) (by kernel_rfl) ?_
 obtain ⟨V25, eV25, kV25⟩ := drew_step V18
 rw [eV25]
 clear eV25
 have ⟨K28, z29, h26, h27⟩ := kV25.z2 K23 h22 h19
 refine akq 0 (pT d.g 0) ⟨h26, h27⟩ <| akq 1 (pT d.g 0) ⟨h26, h27⟩ <| akq 2 (pT d.g 0) ⟨h26, h27⟩ <| avq 3 (.func (.func 125) #[] #[]) (fun W hS => exec_load_cell 189 (.tmp 8) (by kernel_rfl) ⟨d.g, 0, none⟩ (by kernel_rfl) _ _ Tryz.underlying189 rfl (rc (hS.1) (by kernel_rfl))) ⟨h26, h27⟩ <| avq 4 (.agg (Pro.c a)) (fun W hS => ldr 37 p (hS.2) (by rw [Pro.c_size _ ha.r]; kernel_rfl)) ⟨h26, h27⟩ <| an_o 5 ?_
 refine on_callV (qo20_2 6 5) (.tmp 9) 125 #[] #[] #[.agg (Pro.c a)] (by kernel_rfl) (by kernel_rfl) (by kernel_rfl) (by kernel_rfl) (by kernel_rfl) (enters_of Tryz.func125 (by kernel_rfl) rfl) ((qidxB_ok a _ ha.r).mono ?_)
 rintro e V30 ⟨rfl, kV30⟩
 refine ⟨_, rfl, ?_⟩
 have ⟨K33, z34, h31, h32⟩ := kV30.z2 K28 h26 h27
 refine ⟨⟨h31, h32⟩, ?_⟩
 refine an_o 6 <| nrq (.int .i64 a.h) (w' := V30) (by kernel_rfl) ?_
 refine ⟨⟨h31, h32⟩, ?_⟩
 refine an_end (by kernel_rfl) <| tq_ <| bl_ 0 <| qr_ [0, 1, 2, 3, 4, 5, 6] <| pkq (.int .i64 a.h) <| pkq (pT d.g 0) <| pkq (pT d.g 0) <| pkq (pT d.g 2) <| ppq (iN d.low) (exec_load_cell 3 (.tmp 16) (by kernel_rfl) ⟨d.g, 2, none⟩ (by kernel_rfl) _ _ Tryz.underlying3 rfl (rc (h31) (by kernel_rfl))) <| ppq (.bool false) (dcf (((a.h) : Int) < (((d.low : Nat) : Int))) (by omega)) <| pkq (.bool false) <| en_ <| q_ <| sy_np ?_
 refine sy_reg <| an_begin 4 13 (opsAt (qc20_2 230)) (fun W => (W.heap[d.g]? = some (.cells (#[.func (.func 125) #[] #[], .slice (some ⟨d.s, 0, none⟩) d.n d.cap, .int .i64 ((d.low : Nat) : Int)]) 192 (0, 0)))) zl7_ (by kernel_rfl) (by kernel_rfl) (by kernel_rfl) (by kernel_rfl) ?_
 obtain ⟨V35, eV35, kV35⟩ := drew_step V30
 rw [eV35]
 clear eV35
 have ⟨K38, z39, h36⟩ := kV35.z1 K33 h31
 refine akq 0 (.int .i64 a.h) h36 <| akq 1 (pT d.g 0) h36 <| akq 2 (pT d.g 0) h36 <| akq 3 (pT d.g 2) h36 <| avq 4 (iN d.low) (fun W hS => exec_load_cell 3 (.tmp 23) (by kernel_rfl) ⟨d.g, 2, none⟩ (by kernel_rfl) _ _ Tryz.underlying3 rfl (rc (hS) (by kernel_rfl))) h36 <| akq 5 (pT d.g 0) h36 <| akq 6 (pT d.g 0) h36 <| akq 7 (pT d.g 1) h36 <| avq 8 (.slice (some ⟨d.s, 0, none⟩) d.n d.cap) (fun W hS => exec_load_cell 190 (.tmp 27) (by kernel_rfl) ⟨d.g, 1, none⟩ (by kernel_rfl) _ _ Tryz.underlying190 rfl (rc (hS) (by kernel_rfl))) h36 <| avq 9 (iN d.n) (fun W hS => exec_len (.tmp 28) 190 _ (by kernel_rfl) Tryz.underlying190 (some ⟨d.s, 0, none⟩) d.n d.cap (by kernel_rfl)) h36 <| avq 10 (iN (d.low + d.n)) (fun W hS => exec_cast (congrArg (Value.int .i64) (wrapN (d.low + d.n) (by omega))) (by kernel_rfl)) h36 <| avq 11 (.bool true) (fun W hS => dct (((a.h) : Int) ≥ (((d.low + d.n : Nat) : Int))) (by omega)) h36 <| an_o 12 <| nrq (.bool true) (w' := V35) (by kernel_rfl) ?_
 refine ⟨h36, ?_⟩
 refine an_end (by kernel_rfl) <| sy_a ⟨fr [pT d.g 0, .agg (Pro.c a), ud, pT p 0, .int .i64 0, .int .i64 a.h, pT d.g 0, pT d.g 0, pT d.g 0, .func (.func 125) #[] #[], .agg (Pro.c a), .int .i64 a.h, .bool false, .int .i64 a.h, pT d.g 0, pT d.g 0, pT d.g 2, iN d.low, .bool false, .bool true, .int .i64 a.h, pT d.g 0, pT d.g 0, pT d.g 2, iN d.low, pT d.g 0, pT d.g 0, pT d.g 1, .slice (some ⟨d.s, 0, none⟩) d.n d.cap, iN d.n, iN (d.low + d.n), .bool true] 17, []⟩ <| then_n <| y_ <| qr_ [0] <| pkq (.int .i64 17) <| eu_ <| blk_r <| then_r <| so_ (.int .i64 17) ?_
 exact ⟨rfl, K38⟩
theorem gputB_double (d : RD Pro) (a : Pro) (t q : Nat) (w : World) (H : RingB w d) (ha : a.Ok) (ht : a.h = ((t : Nat) : Int)) (h1 : d.low ≤ t) (h2 : t < d.low + d.n) (hs : slotOf d ((t : Nat) : Int) = some q) :
  Calls Tryz.prog 99 #[pT d.g 0, .agg (Pro.c a)] w (fun e w' => e = .returned (.int .i64 8) ∧ Keeps Nob w w') := by
 have hn0 := H.n1
 have hn2 := H.n2
 have hl2 := H.l2
 have K0 : Keeps Nob w w := Keeps.refl _ _
 refine sy_enter (qc20_2 1) ⟨fr [pT d.g 0, .agg (Pro.c a)] 47, []⟩ Tryz.func99 (by kernel_rfl) (by kernel_rfl) <| qr_ [0, 1] <| pbx 37 ((Pro.c a)) (.agg (Pro.c a)) fun V40 p ep h41 kV40 => ?_
 have n42 : d.g < p := ep ▸ lt_of_block H.ring
 have n43 := nk ep K0
 have h44 := kV40.bk H.ring
 have h45 : RingB V40 d := H.keepsN kV40
 have K46 := K0.nn kV40
 have z47 := kV40.size
 refine pkq (.int .i64 0) <| eq_ <| sy_np <| sy_reg <| an_begin 1 7 (opsAt (qc20_2 6)) (fun W => (W.heap[d.g]? = some (.cells (#[.func (.func 125) #[] #[], .slice (some ⟨d.s, 0, none⟩) d.n d.cap, .int .i64 ((d.low : Nat) : Int)]) 192 (0, 0))) ∧ (W.heap[p]? = some (.cells (Pro.c a) 37 (0, 0)))) #[false, false, false, false, false, false, false] (by kernel_rfl) (by kernel_rfl) (by kernel_rfl) (by kernel_rfl) ?_
 obtain ⟨V48, eV48, kV48⟩ := drew_step V40
 rw [eV48]
 clear eV48
 have h49 := kV48.bk h44
 have h50 : RingB V48 d := h45.keepsN kV48
 have ⟨K52, z53, h51⟩ := kV48.z1 K46 h41
 refine akq 0 (pT d.g 0) ⟨h49, h51⟩ <| akq 1 (pT d.g 0) ⟨h49, h51⟩ <| akq 2 (pT d.g 0) ⟨h49, h51⟩ <| avq 3 (.func (.func 125) #[] #[]) (fun W hS => exec_load_cell 189 (.tmp 8) (by kernel_rfl) ⟨d.g, 0, none⟩ (by kernel_rfl) _ _ Tryz.underlying189 rfl (rc (hS.1) (by kernel_rfl))) ⟨h49, h51⟩ <| avq 4 (.agg (Pro.c a)) (fun W hS => ldr 37 p (hS.2) (by rw [Pro.c_size _ ha.r]; kernel_rfl)) ⟨h49, h51⟩ <| an_o 5 ?_
 refine on_callV (qo20_2 6 5) (.tmp 9) 125 #[] #[] #[.agg (Pro.c a)] (by kernel_rfl) (by kernel_rfl) (by kernel_rfl) (by kernel_rfl) (by kernel_rfl) (enters_of Tryz.func125 (by kernel_rfl) rfl) ((qidxB_as a t _ ha.r ht).mono ?_)
 rintro e V54 ⟨rfl, kV54⟩
 refine ⟨_, rfl, ?_⟩
 have h55 := kV54.bk h49
 have h56 : RingB V54 d := h50.keepsN kV54
 have ⟨K58, z59, h57⟩ := kV54.z1 K52 h51
 refine ⟨⟨h55, h57⟩, ?_⟩
 refine an_o 6 <| nrq (iN t) (w' := V54) (by kernel_rfl) ?_
 refine ⟨⟨h55, h57⟩, ?_⟩
 refine an_end (by kernel_rfl) <| tq_ <| bl_ 0 <| qr_ [0, 1, 2, 3, 4, 5, 6] <| pkq (iN t) <| pkq (pT d.g 0) <| pkq (pT d.g 0) <| pkq (pT d.g 2) <| ppq (iN d.low) (exec_load_cell 3 (.tmp 16) (by kernel_rfl) ⟨d.g, 2, none⟩ (by kernel_rfl) _ _ Tryz.underlying3 rfl (rc (h55) (by kernel_rfl))) <| ppq (.bool false) (dcf ((((t : Nat) : Int)) < (((d.low : Nat) : Int))) (by omega)) <| pkq (.bool false) <| en_ <| q_ <| sy_np ?_
 refine sy_reg <| an_begin 4 13 (opsAt (qc20_2 230)) (fun W => (W.heap[d.g]? = some (.cells (#[.func (.func 125) #[] #[], .slice (some ⟨d.s, 0, none⟩) d.n d.cap, .int .i64 ((d.low : Nat) : Int)]) 192 (0, 0)))) zl7_ (by kernel_rfl) (by kernel_rfl) (by kernel_rfl) (by kernel_rfl) ?_
 obtain ⟨V60, eV60, kV60⟩ := drew_step V54
 rw [eV60]
 clear eV60
 have h61 := kV60.bk h55
 have h62 : RingB V60 d := h56.keepsN kV60
 have K64 := K58.nn kV60
 have z65 := kV60.size
 refine akq 0 (iN t) h61 <| akq 1 (pT d.g 0) h61 <| akq 2 (pT d.g 0) h61 <| akq 3 (pT d.g 2) h61 <| avq 4 (iN d.low) (fun W hS => exec_load_cell 3 (.tmp 23) (by kernel_rfl) ⟨d.g, 2, none⟩ (by kernel_rfl) _ _ Tryz.underlying3 rfl (rc (hS) (by kernel_rfl))) h61 <| akq 5 (pT d.g 0) h61 <| akq 6 (pT d.g 0) h61 <| akq 7 (pT d.g 1) h61 <| avq 8 (.slice (some ⟨d.s, 0, none⟩) d.n d.cap) (fun W hS => exec_load_cell 190 (.tmp 27) (by kernel_rfl) ⟨d.g, 1, none⟩ (by kernel_rfl) _ _ Tryz.underlying190 rfl (rc (hS) (by kernel_rfl))) h61 <| avq 9 (iN d.n) (fun W hS => exec_len (.tmp 28) 190 _ (by kernel_rfl) Tryz.underlying190 (some ⟨d.s, 0, none⟩) d.n d.cap (by kernel_rfl)) h61 <| avq 10 (iN (d.low + d.n)) (fun W hS => exec_cast (congrArg (Value.int .i64) (wrapN (d.low + d.n) (by omega))) (by kernel_rfl)) h61 <| avq 11 (.bool false) (fun W hS => dcf ((((t : Nat) : Int)) ≥ (((d.low + d.n : Nat) : Int))) (by omega)) h61 <| an_o 12 <| nrq (.bool false) (w' := V60) (by kernel_rfl) ?_
 refine ⟨h61, ?_⟩
 refine an_end (by kernel_rfl) <| sy_a ⟨fr [pT d.g 0, .agg (Pro.c a), ud, pT p 0, .int .i64 0, iN t, pT d.g 0, pT d.g 0, pT d.g 0, .func (.func 125) #[] #[], .agg (Pro.c a), iN t, .bool false, iN t, pT d.g 0, pT d.g 0, pT d.g 2, iN d.low, .bool false, .bool false, iN t, pT d.g 0, pT d.g 0, pT d.g 2, iN d.low, pT d.g 0, pT d.g 0, pT d.g 1, .slice (some ⟨d.s, 0, none⟩) d.n d.cap, iN d.n, iN (d.low + d.n), .bool false] 17, []⟩ <| then_n <| n_ <| qr_ [0, 1, 2, 3, 4] <| pkq (pT d.g 0) <| pkq (iN t) ?_
 refine pcq 98 #[pT d.g 0, iN t] Tryz.func98 ((gatB_some _ q _ h62 hs).mono ?_)
 rintro e V66 ⟨rfl, kV66⟩
 refine ⟨_, rfl, ?_⟩
 have h68 : RingB V66 d := h62.keepsN kV66
 have K70 := K64.nn kV66
 have z71 := kV66.size
 skip
 refine pkq (.bool true) <| pkq (.bool true) <| ey_ <| qr_ [0] <| pkq (.int .i64 8) <| eu_ <| blk_r <| then_r <| so_ (.int .i64 8) ?_
 exact ⟨rfl, K70⟩
theorem gputB_new (d : RD Pro) (a : Pro) (t : Nat) (w : World) (H : RingB w d) (ha : a.Ok) (ht : a.h = ((t : Nat) : Int)) (h1 : d.low ≤ t) (h2 : t < d.low + d.n) (hs : slotOf d ((t : Nat) : Int) = none) :
  Calls Tryz.prog 99 #[pT d.g 0, .agg (Pro.c a)] w (fun e w' => e = .returned (.int .i64 0) ∧ ∃ p, RingB w' { d with V := upV d.V ((t : Nat) : Int) a, S := upS d.S (t % d.n) (some p) } ∧ Keeps (One d.s) w w') := by
 have hn0 := H.n1
 have hn2 := H.n2
 have hl2 := H.l2
 have hm := Nat.mod_lt t hn0
 have hgs : d.g ≠ d.s := fun e => by have h1 := H.ring; rw [e, H.slots] at h1; simp only [Option.some.injEq, Obj.cells.injEq] at h1; exact absurd h1.2.1 (by decide)
 have K0 : Keeps (One d.s) w w := Keeps.refl _ _
 refine sy_enter (qc20_2 1) ⟨fr [pT d.g 0, .agg (Pro.c a)] 47, []⟩ Tryz.func99 (by kernel_rfl) (by kernel_rfl) <| qr_ [0, 1] <| pbx 37 ((Pro.c a)) (.agg (Pro.c a)) fun V72 p ep h73 kV72 => ?_
 have n74 : d.g < p := ep ▸ lt_of_block H.ring
 have n75 : d.s < p := ep ▸ lt_of_block H.slots
 have n76 := nk ep K0
 have h77 := kV72.bk H.ring
 have h78 := kV72.bk H.slots
 have h79 : RingB V72 d := H.keepsN kV72
 have h80 : ∀ (j : Nat) (cs : Array Value), w.heap[j]? = some (.cells cs 37 (0, 0)) → V72.heap[j]? = some (.cells cs 37 (0, 0)) := fun j cs e => kV72.odd (Odd.nob _) ((fun _ _ e => e) j cs e)
 have K81 := K0.nn kV72
 have z82 := kV72.size
 refine pkq (.int .i64 0) <| eq_ <| sy_np <| sy_reg <| an_begin 1 7 (opsAt (qc20_2 6)) (fun W => (W.heap[d.g]? = some (.cells (#[.func (.func 125) #[] #[], .slice (some ⟨d.s, 0, none⟩) d.n d.cap, .int .i64 ((d.low : Nat) : Int)]) 192 (0, 0))) ∧ (W.heap[p]? = some (.cells (Pro.c a) 37 (0, 0)))) #[false, false, false, false, false, false, false] (by kernel_rfl) (by kernel_rfl) (by kernel_rfl) (by kernel_rfl) ?_
 obtain ⟨V83, eV83, kV83⟩ := drew_step V72
 rw [eV83]
 clear eV83
 have ⟨h84, h85⟩ := kV83.k2 h77 h78
 have h86 : RingB V83 d := h79.keepsN kV83
 have h87 : ∀ (j : Nat) (cs : Array Value), w.heap[j]? = some (.cells cs 37 (0, 0)) → V83.heap[j]? = some (.cells cs 37 (0, 0)) := fun j cs e => kV83.odd (Odd.nob _) (h80 j cs e)
 have ⟨K89, z90, h88⟩ := kV83.z1 K81 h73
 refine akq 0 (pT d.g 0) ⟨h84, h88⟩ <| akq 1 (pT d.g 0) ⟨h84, h88⟩ <| akq 2 (pT d.g 0) ⟨h84, h88⟩ <| avq 3 (.func (.func 125) #[] #[]) (fun W hS => exec_load_cell 189 (.tmp 8) (by kernel_rfl) ⟨d.g, 0, none⟩ (by kernel_rfl) _ _ Tryz.underlying189 rfl (rc (hS.1) (by kernel_rfl))) ⟨h84, h88⟩ <| avq 4 (.agg (Pro.c a)) (fun W hS => ldr 37 p (hS.2) (by rw [Pro.c_size _ ha.r]; kernel_rfl)) ⟨h84, h88⟩ <| an_o 5 ?_
 refine on_callV (qo20_2 6 5) (.tmp 9) 125 #[] #[] #[.agg (Pro.c a)] (by kernel_rfl) (by kernel_rfl) (by kernel_rfl) (by kernel_rfl) (by kernel_rfl) (enters_of Tryz.func125 (by kernel_rfl) rfl) ((qidxB_as a t _ ha.r ht).mono ?_)
 rintro e V91 ⟨rfl, kV91⟩
 refine ⟨_, rfl, ?_⟩
 have ⟨h92, h93⟩ := kV91.k2 h84 h85
 have h94 : RingB V91 d := h86.keepsN kV91
 have h95 : ∀ (j : Nat) (cs : Array Value), w.heap[j]? = some (.cells cs 37 (0, 0)) → V91.heap[j]? = some (.cells cs 37 (0, 0)) := fun j cs e => kV91.odd (Odd.nob _) (h87 j cs e)
 have ⟨K97, z98, h96⟩ := kV91.z1 K89 h88
 refine ⟨⟨h92, h96⟩, ?_⟩
 refine an_o 6 <| nrq (iN t) (w' := V91) (by kernel_rfl) ?_
 refine ⟨⟨h92, h96⟩, ?_⟩
 refine an_end (by kernel_rfl) <| tq_ <| bl_ 0 <| qr_ [0, 1, 2, 3, 4, 5, 6] <| pkq (iN t) <| pkq (pT d.g 0) <| pkq (pT d.g 0) <| pkq (pT d.g 2) <| ppq (iN d.low) (exec_load_cell 3 (.tmp 16) (by kernel_rfl) ⟨d.g, 2, none⟩ (by kernel_rfl) _ _ Tryz.underlying3 rfl (rc (h92) (by kernel_rfl))) <| ppq (.bool false) (dcf ((((t : Nat) : Int)) < (((d.low : Nat) : Int))) (by omega)) <| pkq (.bool false) <| en_ <| q_ <| sy_np ?_
 refine sy_reg <| an_begin 4 13 (opsAt (qc20_2 230)) (fun W => (W.heap[d.g]? = some (.cells (#[.func (.func 125) #[] #[], .slice (some ⟨d.s, 0, none⟩) d.n d.cap, .int .i64 ((d.low : Nat) : Int)]) 192 (0, 0)))) zl7_ (by kernel_rfl) (by kernel_rfl) (by kernel_rfl) (by kernel_rfl) ?_
 obtain ⟨V99, eV99, kV99⟩ := drew_step V91
 rw [eV99]
 clear eV99
 have ⟨h100, h101⟩ := kV99.k2 h92 h93
 have h102 : RingB V99 d := h94.keepsN kV99
 have h103 : ∀ (j : Nat) (cs : Array Value), w.heap[j]? = some (.cells cs 37 (0, 0)) → V99.heap[j]? = some (.cells cs 37 (0, 0)) := fun j cs e => kV99.odd (Odd.nob _) (h95 j cs e)
 have ⟨K105, z106, h104⟩ := kV99.z1 K97 h96
 refine akq 0 (iN t) h100 <| akq 1 (pT d.g 0) h100 <| akq 2 (pT d.g 0) h100 <| akq 3 (pT d.g 2) h100 <| avq 4 (iN d.low) (fun W hS => exec_load_cell 3 (.tmp 23) (by kernel_rfl) ⟨d.g, 2, none⟩ (by kernel_rfl) _ _ Tryz.underlying3 rfl (rc (hS) (by kernel_rfl))) h100 <| akq 5 (pT d.g 0) h100 <| akq 6 (pT d.g 0) h100 <| akq 7 (pT d.g 1) h100 <| avq 8 (.slice (some ⟨d.s, 0, none⟩) d.n d.cap) (fun W hS => exec_load_cell 190 (.tmp 27) (by kernel_rfl) ⟨d.g, 1, none⟩ (by kernel_rfl) _ _ Tryz.underlying190 rfl (rc (hS) (by kernel_rfl))) h100 <| avq 9 (iN d.n) (fun W hS => exec_len (.tmp 28) 190 _ (by kernel_rfl) Tryz.underlying190 (some ⟨d.s, 0, none⟩) d.n d.cap (by kernel_rfl)) h100 <| avq 10 (iN (d.low + d.n)) (fun W hS => exec_cast (congrArg (Value.int .i64) (wrapN (d.low + d.n) (by omega))) (by kernel_rfl)) h100 <| avq 11 (.bool false) (fun W hS => dcf ((((t : Nat) : Int)) ≥ (((d.low + d.n : Nat) : Int))) (by omega)) h100 <| an_o 12 <| nrq (.bool false) (w' := V99) (by kernel_rfl) ?_
 refine ⟨h100, ?_⟩
 refine an_end (by kernel_rfl) <| sy_a ⟨fr [pT d.g 0, .agg (Pro.c a), ud, pT p 0, .int .i64 0, iN t, pT d.g 0, pT d.g 0, pT d.g 0, .func (.func 125) #[] #[], .agg (Pro.c a), iN t, .bool false, iN t, pT d.g 0, pT d.g 0, pT d.g 2, iN d.low, .bool false, .bool false, iN t, pT d.g 0, pT d.g 0, pT d.g 2, iN d.low, pT d.g 0, pT d.g 0, pT d.g 1, .slice (some ⟨d.s, 0, none⟩) d.n d.cap, iN d.n, iN (d.low + d.n), .bool false] 17, []⟩ <| then_n <| n_ <| qr_ [0, 1, 2, 3, 4] <| pkq (pT d.g 0) <| pkq (iN t) ?_
 refine pcq 98 #[pT d.g 0, iN t] Tryz.func98 ((gatB_none _ _ h102 hs).mono ?_)
 rintro e V107 ⟨rfl, kV107⟩
 refine ⟨_, rfl, ?_⟩
 have ⟨h108, h109⟩ := kV107.k2 h100 h101
 have h110 : RingB V107 d := h102.keepsN kV107
 have h111 : ∀ (j : Nat) (cs : Array Value), w.heap[j]? = some (.cells cs 37 (0, 0)) → V107.heap[j]? = some (.cells cs 37 (0, 0)) := fun j cs e => kV107.odd (Odd.nob _) (h103 j cs e)
 have ⟨K113, z114, h112⟩ := kV107.z1 K105 h104
 skip
 refine pkq (.bool false) <| pkq (.bool false) <| en_ <| s_ <| blk_n <| tq_ <| sy_reg <| rg_still 8 12 (opsAt (qc20_2 30)) [qo20_2 30 0, qo20_2 30 1, qo20_2 30 2, qo20_2 30 3, qo20_2 30 4, qo20_2 30 5, qo20_2 30 6, qo20_2 30 7, qo20_2 30 8, qo20_2 30 9, qo20_2 30 10, qo20_2 30 11] [qo20_2 30 12] (by kernel_rfl) (by kernel_rfl) (by kernel_rfl) (by kernel_rfl) (by kernel_rfl) ?_
 obtain ⟨V116, eV116, kV116⟩ := drew_step V107
 rw [eV116]
 clear eV116
 have ⟨h117, h118⟩ := kV116.k2 h108 h109
 have h119 : RingB V116 d := h110.keepsN kV116
 have h120 : ∀ (j : Nat) (cs : Array Value), w.heap[j]? = some (.cells cs 37 (0, 0)) → V116.heap[j]? = some (.cells cs 37 (0, 0)) := fun j cs e => kV116.odd (Odd.nob _) (h111 j cs e)
 have ⟨K122, z123, h121⟩ := kV116.z1 K113 h112
 refine skq (pT d.g 0) <| skq (pT d.g 0) <| skq (pT d.g 1) <| spq (.slice (some ⟨d.s, 0, none⟩) d.n d.cap) (exec_load_cell 190 (.tmp 39) (by kernel_rfl) ⟨d.g, 1, none⟩ (by kernel_rfl) _ _ Tryz.underlying190 rfl (rc (h117) (by kernel_rfl))) <| skq (iN t) <| skq (pT d.g 0) <| skq (pT d.g 0) <| skq (pT d.g 1) <| spq (.slice (some ⟨d.s, 0, none⟩) d.n d.cap) (exec_load_cell 190 (.tmp 44) (by kernel_rfl) ⟨d.g, 1, none⟩ (by kernel_rfl) _ _ Tryz.underlying190 rfl (rc (h117) (by kernel_rfl))) <| spq (iN d.n) (exec_len (.tmp 45) 190 _ (by kernel_rfl) Tryz.underlying190 (some ⟨d.s, 0, none⟩) d.n d.cap (by kernel_rfl)) <| spq (iN (t % d.n)) (exec_rem 3 3 (.tmp 41) (.tmp 46) (by kernel_rfl) t d.n (by kernel_rfl) (by kernel_rfl) hn0) <| spq (pT d.s (t % d.n)) (exec_cast (v := pT d.s (0 + (t % d.n) * 1)) (by simp) (exec_indexAt_slice 190 (.tmp 40) (.tmp 47) (by kernel_rfl) d.s 0 d.n d.cap (by kernel_rfl) .i64 (t % d.n) (by kernel_rfl) _ 1 Tryz.underlying190 (by kernel_rfl) (by omega))) <| st_end ?_
 obtain ⟨V124, eV124, kV124⟩ := cell_step V116 d.s (t % d.n) (pT p 0)
 have h125 : V124.heap[d.s]? = some (.cells (Slots d.n (upS d.S (t % d.n) (some p)) d.rest) 168 (0, 0)) := eV124 ▸ ((heap_setCell_same _ d.s (t % d.n) _ _ (pT p 0) h118).trans (congrArg (fun c => some (Obj.cells c 168 (0, 0))) (show (Slots d.n d.S d.rest : Array Value).setIfInBounds (t % d.n) (pT p 0) = Slots d.n (upS d.S (t % d.n) (some p)) d.rest from Slots.set' (Nat.mod_lt _ hn0) (some p) rfl)))
 refine ls_skip (qo20_2 30 12) (w' := V124) (by kernel_rfl) (by rw [← eV124]; exact exec_store_cell 168 (.tmp 48) (.tmp 3) (by kernel_rfl) d.s (t % d.n) (by kernel_rfl) (pT p 0) (by kernel_rfl) (by kernel_rfl) (by kernel_rfl) (ptrV (d.S (t % d.n))) (rc (h118) ((Slots.get (Nat.mod_lt _ hn0)).trans (congrArg some (rfl)))) (frozen_of_row _ _ _ _ _ h118) (by kernel_rfl)) ?_
 clear eV124
 have h126 := kV124.bO h117
 have h127 : ∀ (j : Nat) (cs : Array Value), w.heap[j]? = some (.cells cs 37 (0, 0)) → V124.heap[j]? = some (.cells cs 37 (0, 0)) := fun j cs e => kV124.odd (Odd.one h118 (by decide)) (h120 j cs e)
 have h128 := kV124.bO h121
 have K129 : Keeps (One d.s) w V124 := K122.then kV124 (fun i hi hm => by unfold Own.One at hm; subst hm; exact rfl)
 have z130 := kV124.size
 refine ls_end <| tqr_ [0] <| pkq (.int .i64 0) <| eu_ <| so_ (.int .i64 0) ?_
 exact ⟨rfl, _, Ring.put H t a h1 h2 ht ha p h128 h126 h127 h125, K129⟩
/-- Which error a put has. -/
def gputBErr (d : RD Pro) (i : Int) : Int := if i < (d.low : Int) then 16 else if (d.low : Int) + d.n ≤ i then 17 else if (d.V i).isSome then 8 else 0
theorem gputB_ok (d : RD Pro) (a : Pro) (w : World) (H : RingB w d) (ha : a.Ok) : Calls Tryz.prog 99 #[pT d.g 0, .agg (Pro.c a)] w fun e w' => e = .returned (.int .i64 (gputBErr d a.h)) ∧
  (gputBErr d a.h ≠ 0 → RingB w' d) ∧ (gputBErr d a.h = 0 → ∃ S', RingB w' { d with V := upV d.V a.h a, S := S' }) ∧ Keeps (One d.s) w w' := by
 have nob : ∀ {w' : World}, Keeps Nob w w' → Keeps (One d.s) w w' := fun k => k.mono (fun _ _ x => x.elim)
 unfold gputBErr
 by_cases h1 : a.h < (d.low : Int)
 ·rw [if_pos h1]; exact (gputB_low d a w H ha h1).mono fun e w' ⟨he, k⟩ => ⟨he, fun _ => H.keepsN k, fun h => by omega, nob k⟩
 ·rw [if_neg h1]
  by_cases h2 : (d.low : Int) + d.n ≤ a.h
  ·rw [if_pos h2]; exact (gputB_high d a w H ha h2).mono fun e w' ⟨he, k⟩ => ⟨he, fun _ => H.keepsN k, fun h => by omega, nob k⟩
  ·rw [if_neg h2]
   obtain ⟨t, ht⟩ : ∃ t : Nat, a.h = (t : Int) := ⟨(a.h).toNat, by omega⟩
   rw [ht]
   rcases H.none_or ((t : Nat) : Int) with ⟨hv, hs⟩ | ⟨b, q, hv, hs, _⟩
   ·rw [hv]; exact (gputB_new d a t w H ha ht (by omega) (by omega) hs).mono fun e w' ⟨he, p, hr, k⟩ => ⟨he, fun h => absurd rfl h, fun _ => ⟨_, hr⟩, k⟩
   ·rw [hv]; exact (gputB_double d a t q w H ha ht (by omega) (by omega) hs).mono fun e w' ⟨he, k⟩ => ⟨he, fun _ => H.keepsN k, fun h => (by cases h), nob k⟩
noncomputable def qc20_0 (n : Nat) : Code := partOf Tryz.f117 n
noncomputable abbrev qo20_0 (n k : Nat) : Oper := (opsAt (qc20_0 n)).getD k default
theorem gmoveB_far (d : RD Pro) (l : Nat) (w : World) (H : RingB w d) (hl : d.low + d.n ≤ l) (hl3 : l ≤ 4294967296) :
  Calls Tryz.prog 117 #[pT d.g 0, .int .i64 ((l : Nat) : Int)] w (fun e w' => e = .returned (.tuple #[]) ∧ RingB w' { d with low := l, V := mvV d.V ((l : Nat) : Int), S := fun _ => none } ∧ Keeps (fun j => j = d.g ∨ j = d.s) w w') := by
 have hn0 := H.n1
 have hn2 := H.n2
 have hl2 := H.l2
 have hgs : d.g ≠ d.s := fun e => by have h1 := H.ring; rw [e, H.slots] at h1; simp only [Option.some.injEq, Obj.cells.injEq] at h1; exact absurd h1.2.1 (by decide)
 have K0 : Keeps ((fun j => j = d.g ∨ j = d.s)) w w := Keeps.refl _ _
 refine sy_enter (qc20_0 1) ⟨fr [pT d.g 0, iN l] 64, []⟩ Tryz.func117 (by kernel_rfl) (by kernel_rfl) <| q_ <| q_ <| sy_np <| sy_reg <| an_begin 0 12 (opsAt (qc20_0 4)) (fun W => (W.heap[d.g]? = some (.cells (#[.func (.func 125) #[] #[], .slice (some ⟨d.s, 0, none⟩) d.n d.cap, .int .i64 ((d.low : Nat) : Int)]) 192 (0, 0)))) zl11_ (by kernel_rfl) (by kernel_rfl) (by kernel_rfl) (by kernel_rfl) ?_
 obtain ⟨V1, eV1, kV1⟩ := drew_step w
 rw [eV1]
 clear eV1
 have h2 := kV1.bk H.ring
 have h3 := kV1.bk H.slots
 have K4 := K0.nn kV1
 have z5 := kV1.size
 refine akq 0 (iN l) h2 <| akq 1 (pT d.g 0) h2 <| akq 2 (pT d.g 0) h2 <| akq 3 (pT d.g 2) h2 <| avq 4 (iN d.low) (fun W hS => exec_load_cell 3 (.tmp 7) (by kernel_rfl) ⟨d.g, 2, none⟩ (by kernel_rfl) _ _ Tryz.underlying3 rfl (rc (hS) (by kernel_rfl))) h2 <| avq 5 (iN (l - d.low)) (fun W hS => exec_cast (congrArg (Value.int .i64) (wrapI (((l : Nat) : Int) - ((d.low : Nat) : Int)) _ (by omega) (by omega) (by omega))) (by kernel_rfl)) h2 <| akq 6 (pT d.g 0) h2 <| akq 7 (pT d.g 0) h2 <| akq 8 (pT d.g 1) h2 <| avq 9 (.slice (some ⟨d.s, 0, none⟩) d.n d.cap) (fun W hS => exec_load_cell 190 (.tmp 12) (by kernel_rfl) ⟨d.g, 1, none⟩ (by kernel_rfl) _ _ Tryz.underlying190 rfl (rc (hS) (by kernel_rfl))) h2 <| avq 10 (iN d.n) (fun W hS => exec_len (.tmp 13) 190 _ (by kernel_rfl) Tryz.underlying190 (some ⟨d.s, 0, none⟩) d.n d.cap (by kernel_rfl)) h2 <| avq 11 (.bool true) (fun W hS => dct ((((l - d.low : Nat) : Int)) ≥ (((d.n : Nat) : Int))) (by omega)) h2 <| an_end (by kernel_rfl) <| then_n ?_
 refine y_ <| r_ [0, 1, 2, 3, 4] <| pkq (pT d.g 0) <| pkq (pT d.g 0) <| pkq (pT d.g 1) <| ppq (.slice (some ⟨d.s, 0, none⟩) d.n d.cap) (exec_load_cell 190 (.tmp 18) (by kernel_rfl) ⟨d.g, 1, none⟩ (by kernel_rfl) _ _ Tryz.underlying190 rfl (rc (h2) (by kernel_rfl))) ?_
 obtain ⟨V6, eV6⟩ : ∃ V, V1.setCells d.s 0 (List.replicate d.n (.pointer none)) = V := ⟨_, rfl⟩
 have kV6 : Keeps (One d.s) V1 V6 := eV6 ▸ Keeps.setCells _ _ _ _
 have h7 : V6.heap[d.s]? = some (.cells (Slots d.n (fun _ => none) d.rest) 168 (0, 0)) := eV6 ▸ (heap_setCells d.s _ _ 0 _ _ h3 (by rw [Slots.size, List.length_replicate]; omega)).trans (congrArg (fun c => some (Obj.cells c 168 (0, 0))) Slots.clear)
 refine prq (.tuple #[]) (w' := V6) (by rw [← eV6]; exact exec_clear (.tmp 19) 190 168 (by kernel_rfl) (.pointer none) Tryz.underlying190 (fun _ => by kernel_rfl) rfl rfl d.s d.n d.cap (by kernel_rfl) hn0 _ _ h3 (by rw [Slots.size]; omega)) ?_
 clear eV6
 have h8 := kV6.bO h2
 have K9 : Keeps ((fun j => j = d.g ∨ j = d.s)) w V6 := K4.then kV6 (fun i hi hm => by unfold Own.One at hm; subst hm; exact .inr rfl)
 have z10 := kV6.size
 refine eq_ <| bl_ 0 <| sy_rounds 1 (qc20_0 24) (by kernel_rfl) <| rd_step <| q_ <| q_ <| sy_np <| sy_reg <| an_begin 2 20 (opsAt (qc20_0 96)) (fun W => (W.heap[d.g]? = some (.cells (#[.func (.func 125) #[] #[], .slice (some ⟨d.s, 0, none⟩) d.n d.cap, .int .i64 ((d.low : Nat) : Int)]) 192 (0, 0)))) zl4_ (by kernel_rfl) (by kernel_rfl) (by kernel_rfl) (by kernel_rfl) ?_
 obtain ⟨V11, eV11, kV11⟩ := drew_step V6
 rw [eV11]
 clear eV11
 have ⟨K14, z15, h12, h13⟩ := kV11.z2 K9 h8 h7
 refine akq 0 (pT d.g 0) h12 <| akq 1 (pT d.g 0) h12 <| akq 2 (pT d.g 2) h12 <| avq 3 (iN d.low) (fun W hS => exec_load_cell 3 (.tmp 22) (by kernel_rfl) ⟨d.g, 2, none⟩ (by kernel_rfl) _ _ Tryz.underlying3 rfl (rc (hS) (by kernel_rfl))) h12 <| akq 4 (iN l) h12 <| avq 5 (.bool true) (fun W hS => dct ((((d.low : Nat) : Int)) < (((l : Nat) : Int))) (by omega)) h12 <| akq 6 (.bool true) h12 <| akq 7 (iN l) h12 <| akq 8 (pT d.g 0) h12 <| akq 9 (pT d.g 0) h12 <| akq 10 (pT d.g 2) h12 <| avq 11 (iN d.low) (fun W hS => exec_load_cell 3 (.tmp 30) (by kernel_rfl) ⟨d.g, 2, none⟩ (by kernel_rfl) _ _ Tryz.underlying3 rfl (rc (hS) (by kernel_rfl))) h12 <| avq 12 (iN (l - d.low)) (fun W hS => exec_cast (congrArg (Value.int .i64) (wrapI (((l : Nat) : Int) - ((d.low : Nat) : Int)) _ (by omega) (by omega) (by omega))) (by kernel_rfl)) h12 <| akq 13 (pT d.g 0) h12 ?_
 refine akq 14 (pT d.g 0) h12 <| akq 15 (pT d.g 1) h12 <| avq 16 (.slice (some ⟨d.s, 0, none⟩) d.n d.cap) (fun W hS => exec_load_cell 190 (.tmp 35) (by kernel_rfl) ⟨d.g, 1, none⟩ (by kernel_rfl) _ _ Tryz.underlying190 rfl (rc (hS) (by kernel_rfl))) h12 <| avq 17 (iN d.n) (fun W hS => exec_len (.tmp 36) 190 _ (by kernel_rfl) Tryz.underlying190 (some ⟨d.s, 0, none⟩) d.n d.cap (by kernel_rfl)) h12 <| avq 18 (.bool false) (fun W hS => dcf ((((l - d.low : Nat) : Int)) < (((d.n : Nat) : Int))) (by omega)) h12 <| akq 19 (.bool false) h12 <| an_end (by kernel_rfl) <| sy_a ⟨fr [pT d.g 0, iN l, ud, ud, iN l, pT d.g 0, pT d.g 0, pT d.g 2, iN d.low, iN (l - d.low), pT d.g 0, pT d.g 0, pT d.g 1, .slice (some ⟨d.s, 0, none⟩) d.n d.cap, iN d.n, .bool true, pT d.g 0, pT d.g 0, pT d.g 1, .slice (some ⟨d.s, 0, none⟩) d.n d.cap, pT d.g 0, pT d.g 0, pT d.g 2, iN d.low, iN l, .bool true, .bool true, iN l, pT d.g 0, pT d.g 0, pT d.g 2, iN d.low, iN (l - d.low), pT d.g 0, pT d.g 0, pT d.g 1, .slice (some ⟨d.s, 0, none⟩) d.n d.cap, iN d.n, .bool false, .bool false] 26, []⟩ <| then_n <| n_ <| sy_exit 0 (by kernel_rfl) <| then_e <| then_e <| blk_e ?_
 refine tr_ [0, 1, 2, 3, 4] <| pkq (pT d.g 0) <| pkq (iN l) <| pkq (pT d.g 0) <| pkq (pT d.g 2) ?_
 refine pce 3 d.g 2 (iN l) (#[.func (.func 125) #[] #[], .slice (some ⟨d.s, 0, none⟩) d.n d.cap, .int .i64 ((l : Nat) : Int)]) h12 (rc (h12) (by kernel_rfl)) (by kernel_rfl) (u := iN d.low) fun V16 h17 kV16 => ?_
 have h18 := kV16.bO h13
 have K19 : Keeps ((fun j => j = d.g ∨ j = d.s)) w V16 := K14.then kV16 (fun i hi hm => by unfold Own.One at hm; subst hm; exact .inl rfl)
 have z20 := kV16.size
 refine ps_end <| sy_fall (.tuple #[]) rfl (by kernel_rfl) ?_
 exact ⟨rfl, Ring.cleared H l hl hl3 h17 h18, K19⟩
theorem gmoveB_near (d : RD Pro) (l : Nat) (w : World) (H : RingB w d) (hl0 : d.low ≤ l) (hl : l < d.low + d.n) (hl3 : l ≤ 4294967296) :
  Calls Tryz.prog 117 #[pT d.g 0, .int .i64 ((l : Nat) : Int)] w (fun e w' => e = .returned (.tuple #[]) ∧ ∃ S', RingB w' { d with low := l, V := mvV d.V ((l : Nat) : Int), S := S' } ∧ Keeps (fun j => j = d.g ∨ j = d.s) w w') := by
 have hn0 := H.n1
 have hn2 := H.n2
 have hl2 := H.l2
 have hgs : d.g ≠ d.s := fun e => by have h1 := H.ring; rw [e, H.slots] at h1; simp only [Option.some.injEq, Obj.cells.injEq] at h1; exact absurd h1.2.1 (by decide)
 have K0 : Keeps ((fun j => j = d.g ∨ j = d.s)) w w := Keeps.refl _ _
 refine sy_enter (qc20_0 1) ⟨fr [pT d.g 0, iN l] 64, []⟩ Tryz.func117 (by kernel_rfl) (by kernel_rfl) <| q_ <| q_ <| sy_np <| sy_reg <| an_begin 0 12 (opsAt (qc20_0 4)) (fun W => (W.heap[d.g]? = some (.cells (#[.func (.func 125) #[] #[], .slice (some ⟨d.s, 0, none⟩) d.n d.cap, .int .i64 ((d.low : Nat) : Int)]) 192 (0, 0)))) zl11_ (by kernel_rfl) (by kernel_rfl) (by kernel_rfl) (by kernel_rfl) ?_
 obtain ⟨V21, eV21, kV21⟩ := drew_step w
 rw [eV21]
 clear eV21
 have h22 := kV21.bk H.ring
 have h24 : RingB V21 d := H.keepsN kV21
 have K25 := K0.nn kV21
 have z26 := kV21.size
 refine akq 0 (iN l) h22 <| akq 1 (pT d.g 0) h22 <| akq 2 (pT d.g 0) h22 <| akq 3 (pT d.g 2) h22 <| avq 4 (iN d.low) (fun W hS => exec_load_cell 3 (.tmp 7) (by kernel_rfl) ⟨d.g, 2, none⟩ (by kernel_rfl) _ _ Tryz.underlying3 rfl (rc (hS) (by kernel_rfl))) h22 <| avq 5 (iN (l - d.low)) (fun W hS => exec_cast (congrArg (Value.int .i64) (wrapI (((l : Nat) : Int) - ((d.low : Nat) : Int)) _ (by omega) (by omega) (by omega))) (by kernel_rfl)) h22 <| akq 6 (pT d.g 0) h22 <| akq 7 (pT d.g 0) h22 <| akq 8 (pT d.g 1) h22 <| avq 9 (.slice (some ⟨d.s, 0, none⟩) d.n d.cap) (fun W hS => exec_load_cell 190 (.tmp 12) (by kernel_rfl) ⟨d.g, 1, none⟩ (by kernel_rfl) _ _ Tryz.underlying190 rfl (rc (hS) (by kernel_rfl))) h22 <| avq 10 (iN d.n) (fun W hS => exec_len (.tmp 13) 190 _ (by kernel_rfl) Tryz.underlying190 (some ⟨d.s, 0, none⟩) d.n d.cap (by kernel_rfl)) h22 <| avq 11 (.bool false) (fun W hS => dcf ((((l - d.low : Nat) : Int)) ≥ (((d.n : Nat) : Int))) (by omega)) h22 <| an_end (by kernel_rfl) <| then_n ?_
 refine n_ <| s_ <| tq_ <| bl_ 0 ?_
 refine sy_loop (qc20_0 24) (fun a V => ∃ (k : Nat) (S' : Nat → Option Nat) (u20 u21 u22 u23 u24 u25 u26 u27 u28 u29 u30 u31 u32 u33 u34 u35 u36 u37 u38 u39 u40 u41 u42 u43 u44 u45 u46 u47 u48 u49 u50 u51 u52 u53 u54 u55 u56 u57 u58 u59 u60 u61 : Value), (a = ⟨#[pT d.g 0, iN l, ud, ud, iN l, pT d.g 0, pT d.g 0, pT d.g 2, iN d.low, iN (l - d.low), pT d.g 0, pT d.g 0, pT d.g 1, .slice (some ⟨d.s, 0, none⟩) d.n d.cap, iN d.n, .bool false, ud, ud, ud, ud, u20, u21, u22, u23, u24, u25, u26, u27, u28, u29, u30, u31, u32, u33, u34, u35, u36, u37, u38, u39, u40, u41, u42, u43, u44, u45, u46, u47, u48, u49, u50, u51, u52, u53, u54, u55, u56, u57, u58, u59, u60, u61, ud, ud, ud, ud], []⟩) ∧ (d.low ≤ k) ∧ (k ≤ l) ∧ (Keeps ((fun j => j = d.g ∨ j = d.s)) w V) ∧ (RingB V { d with low := k, V := mvV d.V ((k : Nat) : Int), S := S' })) (fun a V => l - lowAt V d.g) (by kernel_rfl) ?_ ?_
 ·exact ⟨d.low, d.S, undef, undef, undef, undef, undef, undef, undef, undef, undef, undef, undef, undef, undef, undef, undef, undef, undef, undef, undef, undef, undef, undef, undef, undef, undef, undef, undef, undef, undef, undef, undef, undef, undef, undef, undef, undef, undef, undef, undef, undef, undef, undef, by kernel_rfl, Nat.le_refl _, by omega, K25, (by rw [H.mvV_self d.low (Nat.le_refl _)]; exact h24)⟩
 ·rintro a V27 ⟨k, S', u20, u21, u22, u23, u24, u25, u26, u27, u28, u29, u30, u31, u32, u33, u34, u35, u36, u37, u38, u39, u40, u41, u42, u43, u44, u45, u46, u47, u48, u49, u50, u51, u52, u53, u54, u55, u56, u57, u58, u59, u60, u61, rfl, hk1, hk, K28, hR⟩
  have hg0 : V27.heap[d.g]? = some (.cells (#[.func (.func 125) #[] #[], .slice (some ⟨d.s, 0, none⟩) d.n d.cap, .int .i64 ((k : Nat) : Int)]) 192 (0, 0)) := hR.ring
  have hs0 : V27.heap[d.s]? = some (.cells (Slots d.n S' d.rest) 168 (0, 0)) := hR.slots
  have hm := Nat.mod_lt k hn0
  by_cases lt_k : k < l
  ·skip
   refine q_ <| q_ <| sy_np <| sy_reg <| an_begin 2 20 (opsAt (qc20_0 96)) (fun W => (W.heap[d.g]? = some (.cells (#[.func (.func 125) #[] #[], .slice (some ⟨d.s, 0, none⟩) d.n d.cap, .int .i64 ((k : Nat) : Int)]) 192 (0, 0)))) zl4_ (by kernel_rfl) (by kernel_rfl) (by kernel_rfl) (by kernel_rfl) ?_
   obtain ⟨V29, eV29, kV29⟩ := drew_step V27
   rw [eV29]
   clear eV29
   have ⟨h30, h31⟩ := kV29.k2 hg0 hs0
   have h32 : ∀ (j : Nat) (cs : Array Value), V27.heap[j]? = some (.cells cs 37 (0, 0)) → V29.heap[j]? = some (.cells cs 37 (0, 0)) := fun j cs e => kV29.odd (Odd.nob _) ((fun _ _ e => e) j cs e)
   have K33 := K28.nn kV29
   have z34 := kV29.size
   refine akq 0 (pT d.g 0) h30 <| akq 1 (pT d.g 0) h30 <| akq 2 (pT d.g 2) h30 <| avq 3 (iN k) (fun W hS => exec_load_cell 3 (.tmp 22) (by kernel_rfl) ⟨d.g, 2, none⟩ (by kernel_rfl) _ _ Tryz.underlying3 rfl (rc (hS) (by kernel_rfl))) h30 <| akq 4 (iN l) h30 <| avq 5 (.bool true) (fun W hS => dct ((((k : Nat) : Int)) < (((l : Nat) : Int))) (by omega)) h30 <| akq 6 (.bool true) h30 <| akq 7 (iN l) h30 <| akq 8 (pT d.g 0) h30 <| akq 9 (pT d.g 0) h30 <| akq 10 (pT d.g 2) h30 <| avq 11 (iN k) (fun W hS => exec_load_cell 3 (.tmp 30) (by kernel_rfl) ⟨d.g, 2, none⟩ (by kernel_rfl) _ _ Tryz.underlying3 rfl (rc (hS) (by kernel_rfl))) h30 <| avq 12 (iN (l - k)) (fun W hS => exec_cast (congrArg (Value.int .i64) (wrapI (((l : Nat) : Int) - ((k : Nat) : Int)) _ (by omega) (by omega) (by omega))) (by kernel_rfl)) h30 <| akq 13 (pT d.g 0) h30 ?_
   refine akq 14 (pT d.g 0) h30 <| akq 15 (pT d.g 1) h30 <| avq 16 (.slice (some ⟨d.s, 0, none⟩) d.n d.cap) (fun W hS => exec_load_cell 190 (.tmp 35) (by kernel_rfl) ⟨d.g, 1, none⟩ (by kernel_rfl) _ _ Tryz.underlying190 rfl (rc (hS) (by kernel_rfl))) h30 <| avq 17 (iN d.n) (fun W hS => exec_len (.tmp 36) 190 _ (by kernel_rfl) Tryz.underlying190 (some ⟨d.s, 0, none⟩) d.n d.cap (by kernel_rfl)) h30 <| avq 18 (.bool true) (fun W hS => dct ((((l - k : Nat) : Int)) < (((d.n : Nat) : Int))) (by omega)) h30 <| akq 19 (.bool true) h30 <| an_end (by kernel_rfl) <| then_n <| y_ <| s_ <| tq_ <| bl_ 1 <| sy_reg <| rg_still 4 15 (opsAt (qc20_0 196)) [qo20_0 196 0, qo20_0 196 1, qo20_0 196 2, qo20_0 196 3, qo20_0 196 4, qo20_0 196 5, qo20_0 196 6, qo20_0 196 7, qo20_0 196 8, qo20_0 196 9, qo20_0 196 10, qo20_0 196 11, qo20_0 196 12, qo20_0 196 13, qo20_0 196 14] [qo20_0 196 15] (by kernel_rfl) (by kernel_rfl) (by kernel_rfl) (by kernel_rfl) (by kernel_rfl) ?_
   obtain ⟨V36, eV36, kV36⟩ := drew_step V29
   rw [eV36]
   clear eV36
   have ⟨h37, h38⟩ := kV36.k2 h30 h31
   have h39 : ∀ (j : Nat) (cs : Array Value), V27.heap[j]? = some (.cells cs 37 (0, 0)) → V36.heap[j]? = some (.cells cs 37 (0, 0)) := fun j cs e => kV36.odd (Odd.nob _) (h32 j cs e)
   have K40 := K33.nn kV36
   have z41 := kV36.size
   refine skq (pT d.g 0) <| skq (pT d.g 0) <| skq (pT d.g 1) <| spq (.slice (some ⟨d.s, 0, none⟩) d.n d.cap) (exec_load_cell 190 (.tmp 49) (by kernel_rfl) ⟨d.g, 1, none⟩ (by kernel_rfl) _ _ Tryz.underlying190 rfl (rc (h37) (by kernel_rfl))) <| skq (pT d.g 0) <| skq (pT d.g 0) <| skq (pT d.g 2) <| spq (iN k) (exec_load_cell 3 (.tmp 53) (by kernel_rfl) ⟨d.g, 2, none⟩ (by kernel_rfl) _ _ Tryz.underlying3 rfl (rc (h37) (by kernel_rfl))) <| skq (pT d.g 0) <| skq (pT d.g 0) <| skq (pT d.g 1) <| spq (.slice (some ⟨d.s, 0, none⟩) d.n d.cap) (exec_load_cell 190 (.tmp 57) (by kernel_rfl) ⟨d.g, 1, none⟩ (by kernel_rfl) _ _ Tryz.underlying190 rfl (rc (h37) (by kernel_rfl))) <| spq (iN d.n) (exec_len (.tmp 58) 190 _ (by kernel_rfl) Tryz.underlying190 (some ⟨d.s, 0, none⟩) d.n d.cap (by kernel_rfl)) <| spq (iN (k % d.n)) (exec_rem 3 3 (.tmp 54) (.tmp 59) (by kernel_rfl) k d.n (by kernel_rfl) (by kernel_rfl) hn0) ?_
   refine spq (pT d.s (k % d.n)) (exec_cast (v := pT d.s (0 + (k % d.n) * 1)) (by simp) (exec_indexAt_slice 190 (.tmp 50) (.tmp 60) (by kernel_rfl) d.s 0 d.n d.cap (by kernel_rfl) .i64 (k % d.n) (by kernel_rfl) _ 1 Tryz.underlying190 (by kernel_rfl) (by omega))) <| st_end ?_
   obtain ⟨V42, eV42, kV42⟩ := cell_step V36 d.s (k % d.n) (.pointer none)
   have h43 : V42.heap[d.s]? = some (.cells (Slots d.n (upS S' (k % d.n) none) d.rest) 168 (0, 0)) := eV42 ▸ ((heap_setCell_same _ d.s (k % d.n) _ _ (.pointer none) h38).trans (congrArg (fun c => some (Obj.cells c 168 (0, 0))) (show (Slots d.n S' d.rest : Array Value).setIfInBounds (k % d.n) (.pointer none) = Slots d.n (upS S' (k % d.n) none) d.rest from Slots.set' (Nat.mod_lt _ hn0) none rfl)))
   refine ls_skip (qo20_0 196 15) (w' := V42) (by kernel_rfl) (by rw [← eV42]; exact exec_store_cell 168 (.tmp 61) (.const (.pointer none)) (by kernel_rfl) d.s (k % d.n) (by kernel_rfl) (.pointer none) (by kernel_rfl) (by kernel_rfl) (by kernel_rfl) (ptrV (S' (k % d.n))) (rc (h38) ((Slots.get (Nat.mod_lt _ hn0)).trans (congrArg some (rfl)))) (frozen_of_row _ _ _ _ _ h38) (by kernel_rfl)) ?_
   clear eV42
   have h44 := kV42.bO h37
   have h45 : ∀ (j : Nat) (cs : Array Value), V27.heap[j]? = some (.cells cs 37 (0, 0)) → V42.heap[j]? = some (.cells cs 37 (0, 0)) := fun j cs e => kV42.odd (Odd.one h38 (by decide)) (h39 j cs e)
   have K46 : Keeps ((fun j => j = d.g ∨ j = d.s)) w V42 := K40.then kV42 (fun i hi hm => by unfold Own.One at hm; subst hm; exact .inr rfl)
   have z47 := kV42.size
   refine ls_end <| sy_a ⟨#[pT d.g 0, iN l, ud, ud, iN l, pT d.g 0, pT d.g 0, pT d.g 2, iN d.low, iN (l - d.low), pT d.g 0, pT d.g 0, pT d.g 1, .slice (some ⟨d.s, 0, none⟩) d.n d.cap, iN d.n, .bool false, ud, ud, ud, ud, pT d.g 0, pT d.g 0, pT d.g 2, iN k, iN l, .bool true, .bool true, iN l, pT d.g 0, pT d.g 0, pT d.g 2, iN k, iN (l - k), pT d.g 0, pT d.g 0, pT d.g 1, .slice (some ⟨d.s, 0, none⟩) d.n d.cap, iN d.n, .bool true, .bool true, u40, u41, u42, u43, u44, u45, u46, pT d.g 0, pT d.g 0, pT d.g 1, .slice (some ⟨d.s, 0, none⟩) d.n d.cap, pT d.g 0, pT d.g 0, pT d.g 2, iN k, pT d.g 0, pT d.g 0, pT d.g 1, .slice (some ⟨d.s, 0, none⟩) d.n d.cap, iN d.n, iN (k % d.n), pT d.s (k % d.n), ud, ud, ud, ud], []⟩ <| blk_n <| tr_ [0, 1, 2, 3, 4, 5, 6, 7] <| pkq (pT d.g 0) <| pkq (pT d.g 0) <| pkq (pT d.g 2) <| ppq (iN k) (exec_load_cell 3 (.tmp 42) (by kernel_rfl) ⟨d.g, 2, none⟩ (by kernel_rfl) _ _ Tryz.underlying3 rfl (rc (h44) (by kernel_rfl))) <| ppq (iN (k + 1)) (exec_cast (congrArg (Value.int .i64) (wrapN (k + 1) (by omega))) (by kernel_rfl)) <| pkq (pT d.g 0) <| pkq (pT d.g 2) ?_
   refine pce 3 d.g 2 (iN (k + 1)) (#[.func (.func 125) #[] #[], .slice (some ⟨d.s, 0, none⟩) d.n d.cap, .int .i64 ((k + 1 : Nat) : Int)]) h44 (rc (h44) (by kernel_rfl)) (by kernel_rfl) (u := iN k) fun V48 h49 kV48 => ?_
   have h50 : ∀ (j : Nat) (cs : Array Value), V27.heap[j]? = some (.cells cs 37 (0, 0)) → V48.heap[j]? = some (.cells cs 37 (0, 0)) := fun j cs e => kV48.odd (Odd.one h44 (by decide)) (h45 j cs e)
   have h51 := kV48.bO h43
   have K52 : Keeps ((fun j => j = d.g ∨ j = d.s)) w V48 := K46.then kV48 (fun i hi hm => by unfold Own.One at hm; subst hm; exact .inl rfl)
   have z53 := kV48.size
   refine et_ ?_
   refine ⟨⟨k + 1, upS S' (k % d.n) none, (pT d.g 0), (pT d.g 0), (pT d.g 2), (iN k), (iN l), (.bool true), (.bool true), (iN l), (pT d.g 0), (pT d.g 0), (pT d.g 2), (iN k), (iN (l - k)), (pT d.g 0), (pT d.g 0), (pT d.g 1), (.slice (some ⟨d.s, 0, none⟩) d.n d.cap), (iN d.n), (.bool true), (.bool true), (pT d.g 0), (pT d.g 0), (pT d.g 2), (iN k), (iN (k + 1)), (pT d.g 0), (pT d.g 2), (pT d.g 0), (pT d.g 0), (pT d.g 1), (.slice (some ⟨d.s, 0, none⟩) d.n d.cap), (pT d.g 0), (pT d.g 0), (pT d.g 2), (iN k), (pT d.g 0), (pT d.g 0), (pT d.g 1), (.slice (some ⟨d.s, 0, none⟩) d.n d.cap), (iN d.n), (iN (k % d.n)), (pT d.s (k % d.n)), by kernel_rfl, by omega, by omega, K52, (by have hx := Ring.step hR h50 (by show k < 4294967296; omega) h49 h51; dsimp only at hx; rw [mvV_mvV (show ((k : Nat) : Int) ≤ ((k + 1 : Nat) : Int) by omega)] at hx; exact hx)⟩, ?_⟩
   show l - lowAt V48 d.g < l - lowAt V27 d.g; rw [lowAt_of h49, lowAt_of hg0]; omega
  ·have eq_k : k = l := by omega
   have hRl : RingB V27 { d with low := l, V := mvV d.V ((l : Nat) : Int), S := S' } := eq_k ▸ hR
   have hg1 : V27.heap[d.g]? = some (.cells (#[.func (.func 125) #[] #[], .slice (some ⟨d.s, 0, none⟩) d.n d.cap, .int .i64 ((l : Nat) : Int)]) 192 (0, 0)) := hRl.ring
   refine q_ <| q_ <| sy_np <| sy_reg <| an_begin 2 20 (opsAt (qc20_0 96)) (fun W => (W.heap[d.g]? = some (.cells (#[.func (.func 125) #[] #[], .slice (some ⟨d.s, 0, none⟩) d.n d.cap, .int .i64 ((l : Nat) : Int)]) 192 (0, 0)))) zl4_ (by kernel_rfl) (by kernel_rfl) (by kernel_rfl) (by kernel_rfl) ?_
   obtain ⟨V54, eV54, kV54⟩ := drew_step V27
   rw [eV54]
   clear eV54
   have ⟨h55, h56⟩ := kV54.k2 hg1 hs0
   have h57 : ∀ (j : Nat) (cs : Array Value), V27.heap[j]? = some (.cells cs 37 (0, 0)) → V54.heap[j]? = some (.cells cs 37 (0, 0)) := fun j cs e => kV54.odd (Odd.nob _) ((fun _ _ e => e) j cs e)
   have K58 := K28.nn kV54
   have z59 := kV54.size
   refine akq 0 (pT d.g 0) h55 <| akq 1 (pT d.g 0) h55 <| akq 2 (pT d.g 2) h55 <| avq 3 (iN l) (fun W hS => exec_load_cell 3 (.tmp 22) (by kernel_rfl) ⟨d.g, 2, none⟩ (by kernel_rfl) _ _ Tryz.underlying3 rfl (rc (hS) (by kernel_rfl))) h55 <| akq 4 (iN l) h55 <| avq 5 (.bool false) (fun W hS => dcf ((((l : Nat) : Int)) < (((l : Nat) : Int))) (by omega)) h55 <| akq 6 (.bool false) h55 <| anq 7 h55 <| anq 8 h55 <| anq 9 h55 <| anq 10 h55 <| anq 11 h55 <| anq 12 h55 <| anq 13 h55 ?_
   refine anq 14 h55 <| anq 15 h55 <| anq 16 h55 <| anq 17 h55 <| anq 18 h55 <| akq 19 (.bool false) h55 <| an_end (by kernel_rfl) <| then_n <| n_ <| sy_exit 0 (by kernel_rfl) <| then_e <| then_e <| blk_e <| tr_ [0, 1, 2, 3, 4] ?_
   refine pkq (pT d.g 0) <| pkq (iN l) <| pkq (pT d.g 0) <| pkq (pT d.g 2) ?_
   refine pce 3 d.g 2 (iN l) (#[.func (.func 125) #[] #[], .slice (some ⟨d.s, 0, none⟩) d.n d.cap, .int .i64 ((l : Nat) : Int)]) h55 (rc (h55) (by kernel_rfl)) (by kernel_rfl) (u := iN l) fun V60 h61 kV60 => ?_
   have h62 := kV60.bO h56
   have h63 : ∀ (j : Nat) (cs : Array Value), V27.heap[j]? = some (.cells cs 37 (0, 0)) → V60.heap[j]? = some (.cells cs 37 (0, 0)) := fun j cs e => kV60.odd (Odd.one h55 (by decide)) (h57 j cs e)
   have K64 : Keeps ((fun j => j = d.g ∨ j = d.s)) w V60 := K58.then kV60 (fun i hi hm => by unfold Own.One at hm; subst hm; exact .inl rfl)
   have z65 := kV60.size
   refine ps_end <| sy_a ⟨#[pT d.g 0, iN l, ud, ud, iN l, pT d.g 0, pT d.g 0, pT d.g 2, iN d.low, iN (l - d.low), pT d.g 0, pT d.g 0, pT d.g 1, .slice (some ⟨d.s, 0, none⟩) d.n d.cap, iN d.n, .bool false, ud, ud, ud, ud, pT d.g 0, pT d.g 0, pT d.g 2, iN l, iN l, .bool false, .bool false, ud, ud, ud, ud, ud, ud, ud, ud, ud, ud, ud, ud, .bool false, u40, u41, u42, u43, u44, u45, u46, u47, u48, u49, u50, u51, u52, u53, u54, u55, u56, u57, u58, u59, u60, u61, pT d.g 0, iN l, pT d.g 0, pT d.g 2], []⟩ <| sy_fall (.tuple #[]) rfl (by kernel_rfl) ?_
   exact ⟨rfl, _, Ring.same hRl h61 h62 h63, K64⟩
theorem gmoveB_ok (d : RD Pro) (l : Nat) (w : World) (H : RingB w d) (hl0 : d.low ≤ l) (hl3 : l ≤ 4294967296) : Calls Tryz.prog 117 #[pT d.g 0, .int .i64 ((l : Nat) : Int)] w fun e w' => e = .returned (.tuple #[]) ∧ ∃ S', RingB w' { d with low := l, V := mvV d.V ((l : Nat) : Int), S := S' } ∧ Keeps (fun j => j = d.g ∨ j = d.s) w w' := by
 by_cases h : d.low + d.n ≤ l
 ·exact (gmoveB_far d l w H h hl3).mono fun e w' ⟨he, hr, k⟩ => ⟨he, _, hr, k⟩
 ·exact gmoveB_near d l w H hl0 (by omega) hl3
end Go.Proofs.YthmclmbeflbhhaaGreat
namespace Go.Proofs.YthmclmbeflbhhaaGreat
set_option maxRecDepth 100000
set_option maxHeartbeats 4000000
open Go Go.RowKit Go.Own Go.Shelf
theorem Slots.src {w : World} {s n cap : Nat} {S : Nat → Option Nat} {rest : List Value} {T : TypeId} (h : w.heap[s]? = some (.cells (Slots n S rest) T (0, 0))) : SrcO w 1 (.slice (some ⟨s, 0, none⟩) n cap) n ((List.range n).map fun k => ptrV (S k)) := by
 refine ⟨by simp, fun u hu => ?_, .inr ⟨_, _, rfl, fun j u hj => ?_⟩⟩
 ·obtain ⟨k, _, rfl⟩ := List.mem_map.1 hu; exact ptrV_one _
 ·have hj2 : j < n := by have := (List.getElem?_eq_some_iff.1 hj).1; simpa using this
  rw [List.getElem?_map, List.getElem?_range hj2] at hj
  simp only [Addr.add_lit, Nat.zero_add]
  exact rc h ((Slots.get hj2).trans hj)
theorem Row.slots {w : World} {n : Nat} {S : Nat → Option Nat} {v : Value} {e : TypeId} (h : Row w e 1 v n ((List.range n).map fun k => ptrV (S k))) (hn : 0 < n) : ∃ g cap rest, v = .slice (some ⟨g, 0, none⟩) n cap ∧ w.heap[g]? = some (.cells (Slots n S rest) e (0, 0)) := by
 rcases h.2 with ⟨_, h0⟩ | ⟨g, cap, cur, rfl, _, hg, h1, h2, h3, h4⟩
 ·omega
 ·refine ⟨g, cap, cur.toList.drop n, rfl, hg.trans ?_⟩
  congr 2
  apply Array.toList_inj.1
  unfold Slots
  simp only
  rw [← h4]
  simp
noncomputable def qc21_1 (n : Nat) : Code := partOf Tryz.f126 n
theorem gmade_ok (n low : Nat) (w : World) (q1 : 1 ≤ n) (q2 : n ≤ 256000) (q3 : low ≤ 4294967296) :
  Calls Tryz.prog 126 #[.int .i64 ((n : Nat) : Int), .int .i64 ((low : Nat) : Int), .func (.func 124) #[] #[]] w (fun e w' => ∃ g s, e = .returned (pT g 0) ∧ RingA w' ⟨g, s, low, n, n, fun _ => none, fun _ => none, []⟩ ∧ w.heap.size ≤ g ∧ w.heap.size ≤ s ∧ Keeps Nob w w') := by
 obtain ⟨i0, hi0, hz0, hz1, hz2⟩ := info_parts a_ptr_info
 have K0 : Keeps Nob w w := Keeps.refl _ _
 refine sy_enter (qc21_1 1) ⟨fr [iN n, iN low, .func (.func 124) #[] #[]] 10, []⟩ Tryz.func126 (by kernel_rfl) (by kernel_rfl) <| qr_ [0] <| pkq (.pointer none) <| eqr_ [0, 1, 2, 3, 4, 5, 6] <| pkq (.func (.func 124) #[] #[]) <| pkq (iN n) ?_
 obtain ⟨V1, eV1, s, es, h2, kV1⟩ := alloc_step w (madeCells (Value.pointer none).cells (n * i0.size)) 185
 have h3 : V1.heap[s]? = some (.cells (Slots n (fun _ => none) []) 185 (0, 0)) := h2.trans (by rw [hz1]; exact congrArg (fun c => some (Obj.cells c 185 (0, 0))) (Slots.made n))
 refine prq (.slice (some ⟨s, 0, none⟩) n n) (w' := V1) (by rw [← eV1, ← es]; exact exec_makeSlice 182 (.tmp 8) (.tmp 8) (by kernel_rfl) 185 i0 (.pointer none) Tryz.underlying182 hi0 hz0 n (by kernel_rfl) (by kernel_rfl) (by rw [hz2]; omega) (by omega)) ?_
 clear eV1
 have ns : w.heap.size ≤ s := es ▸ K0.size
 have K4 := K0.nn kV1
 have z5 := kV1.size
 refine pkq (iN low) <| pkq (.agg #[.func (.func 124) #[] #[], .slice (some ⟨s, 0, none⟩) n n, iN low]) ?_
 refine pbx 184 (#[.func (.func 124) #[] #[], .slice (some ⟨s, 0, none⟩) n n, .int .i64 ((low : Nat) : Int)]) (.agg #[.func (.func 124) #[] #[], .slice (some ⟨s, 0, none⟩) n n, iN low]) fun V6 g eg h7 kV6 => ?_
 have n8 := nl eg h3
 have n9 := nk eg K4
 have ⟨K11, z12, h10⟩ := kV6.z1 K4 h3
 refine pkq (pT g 0) <| eu_ <| so_ (pT g 0) ?_
 exact ⟨g, s, rfl, Ring.made h7 h10 q1 q2 q3, by omega, ns, K11⟩
noncomputable def qc21_3 (n : Nat) : Code := partOf Tryz.f73 n
theorem gall_ok (g : Nat) (w : World) :
  Calls Tryz.prog 73 #[pT g 0] w (fun e w' => ∃ bx, e = .returned (.func (.func 112) #[] #[pT bx 0]) ∧ w'.heap[bx]? = some (.cells #[pT g 0] 119 (0, 0)) ∧ w.heap.size ≤ bx ∧ Keeps Nob w w') := by
 have K0 : Keeps Nob w w := Keeps.refl _ _
 refine sy_enter (qc21_3 1) ⟨#[pT g 0, ud, ud, ud], []⟩ Tryz.func73 (by kernel_rfl) (by kernel_rfl) <| qr_ [0, 1] <| pbx 119 (#[pT g 0]) (pT g 0) fun V1 bx ebx h2 kV1 => ?_
 have n3 := nk ebx K0
 have K4 := K0.nn kV1
 have z5 := kV1.size
 refine pkq (.nilFunc) <| eqr_ [0, 1] <| pkq (.func (.func 112) #[] #[pT bx 0]) <| pkq (.func (.func 112) #[] #[pT bx 0]) <| eu_ <| so_ (.func (.func 112) #[] #[pT bx 0]) ?_
 exact ⟨bx, rfl, h2, by omega, K4⟩
/-- What the iterator reads. -/
def gall1S (bx : Nat) (d : RD Att) (W : World) : Prop := W.heap[bx]? = some (.cells #[pT d.g 0] 119 (0, 0)) ∧ RingA W d
theorem gall1S.turn {bx : Nat} {d : RD Att} {A B : World} {b : Nat} (h : gall1S bx d A) (t : Turn b Nob A B) : gall1S bx d B :=
 ⟨t.same _ _ h.1 (fun x => x) (.inr rfl), h.2.mono fun j cs T _ e => t.same _ _ e (fun x => x) (.inr rfl)⟩
theorem gall1_cases {d : RD Att} {W : World} (H : RingA W d) (k : Nat) (hk : k ≤ d.n) : (k < d.n ∧ d.V ((d.low + k : Nat) : Int) = none ∧ slotOf d ((d.low + k : Nat) : Int) = none) ∨
  (∃ a p, k < d.n ∧ d.V ((d.low + k : Nat) : Int) = some a ∧ slotOf d ((d.low + k : Nat) : Int) = some p ∧ W.heap[p]? = some (.cells a.c 28 (0, 0)) ∧ a.Ok) ∨ k = d.n := by
 by_cases h : k < d.n
 ·rcases H.none_or ((d.low + k : Nat) : Int) with ⟨h1, h2⟩ | ⟨a, p, h1, h2, h3, _, _, _, h4⟩
  ·exact .inl ⟨h, h1, h2⟩
  ·exact .inr (.inl ⟨a, p, h, h1, h2, h3, h4⟩)
 ·exact .inr (.inr (by omega))
noncomputable def qc21_0 (n : Nat) : Code := partOf Tryz.f112 n
noncomputable abbrev qo21_0 (n k : Nat) : Oper := (opsAt (qc21_0 n)).getD k default
theorem gall1_seq (bx : Nat) (d : RD Att) (fz : Nat) :
  SeqOwn Fence.wide fz Tryz.prog 112 #[pT bx 0] (fun x : Att => #[.agg x.c]) (items d.V d.low d.n) Nob (fun _ => gall1S bx d) := by
 intro l J Jx W0 hJ hJx hY h0 hS0
 obtain ⟨hb0, hr0⟩ := hS0
 have hn1 := hr0.n1
 have hn2 := hr0.n2
 have hl2 := hr0.l2
 refine syW_enter (qc21_0 1) ⟨fr [.func (.yield l) #[] #[], pT bx 0] 30, []⟩ Tryz.func112 (by kernel_rfl) (by kernel_rfl) <| syI_seq (qc21_0 2) (qc21_0 3) (by kernel_rfl) <| syW_reg <| rg_plain 0 (opsAt (qc21_0 2)) [0, 1, 2, 3, 4, 5] (by kernel_rfl) (by kernel_rfl) <| ppq (pT d.g 0) (ldk 119 bx 0 hb0) <| pkq (pT d.g 0) <| pkq (pT d.g 1) <| ppq (.slice (some ⟨d.s, 0, none⟩) d.n d.cap) (exec_load_cell 182 (.tmp 7) (by kernel_rfl) ⟨d.g, 1, none⟩ (by kernel_rfl) _ _ Tryz.underlying182 rfl (rc (hr0.ring) (by kernel_rfl))) <| ppq (iN d.n) (exec_len (.tmp 8) 182 _ (by kernel_rfl) Tryz.underlying182 (some ⟨d.s, 0, none⟩) d.n d.cap (by kernel_rfl)) <| pkq (.int .i64 0) <| et_ <| syI_block 0 (qc21_0 6) (by kernel_rfl) ?_
 refine syI_loop (qc21_0 12) (fun a V => ∃ (k : Nat) (u3 u4 u11 u12 u13 u14 u15 u16 u17 u18 u19 u20 u21 u22 u23 u24 u25 u26 u27 u28 u29 u30 u31 : Value), (a = ⟨#[.func (.yield l) #[] #[], pT bx 0, ud, u3, u4, pT d.g 0, pT d.g 0, pT d.g 1, .slice (some ⟨d.s, 0, none⟩) d.n d.cap, iN d.n, iN k, u11, u12, u13, u14, u15, u16, u17, u18, u19, u20, u21, u22, u23, u24, u25, u26, u27, u28, u29, u30, u31], []⟩) ∧ (k ≤ d.n) ∧ (J (cnt d.V d.low k) V) ∧ (V.heap[bx]? = some (.cells (#[pT d.g 0]) 119 (0, 0))) ∧ (RingA V d) ∧ (V.heap[d.g]? = some (.cells (#[.func (.func 124) #[] #[], .slice (some ⟨d.s, 0, none⟩) d.n d.cap, iN d.low]) 184 (0, 0)))) (fun a _ => d.n - (intOf (a.tmps.getD 10 undef)).toNat) (by kernel_rfl) ?_ ?_
 ·exact ⟨0, undef, undef, undef, undef, undef, undef, undef, undef, undef, undef, undef, undef, undef, undef, undef, undef, undef, undef, undef, undef, undef, undef, undef, by kernel_rfl, Nat.zero_le _, h0, hb0, hr0, hr0.ring⟩
 ·rintro a V1 ⟨k, u3, u4, u11, u12, u13, u14, u15, u16, u17, u18, u19, u20, u21, u22, u23, u24, u25, u26, u27, u28, u29, u30, u31, rfl, hk0, h2, h3, h4, h5⟩
  rcases gall1_cases h4 k hk0 with ⟨hk, hv, hs⟩ | ⟨a, p, hk, hv, hs, hp, ha⟩ | hk
  ·skip
   refine syI_seq (qc21_0 24) (qc21_0 25) (by kernel_rfl) <| syW_reg <| rg_plain 1 (opsAt (qc21_0 24)) [0] (by kernel_rfl) (by kernel_rfl) <| ppq (.bool true) (dct ((((k : Nat) : Int)) < (((d.n : Nat) : Int))) (by omega)) <| et_ <| syI_seq (qc21_0 50) (qc21_0 51) (by kernel_rfl) <| syI_yes (.tmp 11) (qc21_0 100) (qc21_0 101) (by kernel_rfl) (by kernel_rfl) <| syI_skip (by kernel_rfl) <| then_n <| syI_seq (qc21_0 102) (qc21_0 103) (by kernel_rfl) <| syI_block 1 (qc21_0 204) (by kernel_rfl) <| syI_seq (qc21_0 408) (qc21_0 409) (by kernel_rfl) <| syW_reg <| rg_plain 2 (opsAt (qc21_0 408)) [0, 1] (by kernel_rfl) (by kernel_rfl) ?_
   refine pkq (iN k) <| pkq (iN k) <| et_ <| syI_seq (qc21_0 818) (qc21_0 819) (by kernel_rfl) <| syI_np <| syW_reg <| an_begin 3 9 (opsAt (qc21_0 818)) (fun W => (W.heap[bx]? = some (.cells (#[pT d.g 0]) 119 (0, 0))) ∧ (W.heap[d.g]? = some (.cells (#[.func (.func 124) #[] #[], .slice (some ⟨d.s, 0, none⟩) d.n d.cap, .int .i64 ((d.low : Nat) : Int)]) 184 (0, 0))) ∧ (RingA W d)) zl10_ (by kernel_rfl) (by kernel_rfl) (by kernel_rfl) (by kernel_rfl) ?_
   obtain ⟨V7, eV7, kV7⟩ := drew_step V1
   rw [eV7]
   clear eV7
   have h8 : J (cnt d.V d.low k) V7 := (hJ _ _ _ h2 kV7)
   have h9 := kV7.bk h3
   have h10 : RingA V7 d := h4.keepsN kV7
   have h11 := kV7.bk h5
   refine avq 0 (pT d.g 0) (fun W hS => ldc 119 bx 0 (rc (hS.1) (by kernel_rfl))) ⟨h9, h11, h10⟩ <| avq 1 (pT d.g 0) (fun W hS => ldc 119 bx 0 (rc (hS.1) (by kernel_rfl))) ⟨h9, h11, h10⟩ <| akq 2 (pT d.g 0) ⟨h9, h11, h10⟩ <| akq 3 (pT d.g 2) ⟨h9, h11, h10⟩ <| avq 4 (iN d.low) (fun W hS => exec_load_cell 3 (.tmp 16) (by kernel_rfl) ⟨d.g, 2, none⟩ (by kernel_rfl) _ _ Tryz.underlying3 rfl (rc (hS.2.1) (by kernel_rfl))) ⟨h9, h11, h10⟩ <| akq 5 (iN k) ⟨h9, h11, h10⟩ <| avq 6 (iN (d.low + k)) (fun W hS => exec_cast (congrArg (Value.int .i64) (wrapN (d.low + k) (by omega))) (by kernel_rfl)) ⟨h9, h11, h10⟩ <| an_o 7 ?_
   refine ncq 113 #[pT d.g 0, iN (d.low + k)] Tryz.func113 ((gat_none _ _ h10 hs).mono ?_)
   rintro e V12 ⟨rfl, kV12⟩
   refine ⟨_, rfl, ?_⟩
   have h13 : J (cnt d.V d.low k) V12 := (hJ _ _ _ h8 kV12)
   have h14 := kV12.bk h9
   have h15 : RingA V12 d := h10.keepsN kV12
   have h16 := kV12.bk h11
   refine ⟨⟨h14, h16, h15⟩, ?_⟩
   refine an_o 8 <| nrq (.pointer none) (w' := V12) (by kernel_rfl) ?_
   refine ⟨⟨h14, h16, h15⟩, ?_⟩
   refine an_end (by kernel_rfl) <| then_n <| syI_seq (qc21_0 1638) (qc21_0 1639) (by kernel_rfl) <| rg_yield 4 (opsAt (qc21_0 1638)) [0, 1, 2, 3, 4, 5, 6, 7, 8, 9] (by kernel_rfl) (by kernel_rfl) <| pi_run (qo21_0 1638 0) (.pointer none) (w' := V12) (by kernel_rfl) (by kernel_rfl) (by kernel_rfl) <| pi_run (qo21_0 1638 1) (.bool false) (w' := V12) (by kernel_rfl) (by kernel_rfl) (by kernel_rfl) <| pi_run (qo21_0 1638 2) (.bool false) (w' := V12) (by kernel_rfl) (by kernel_rfl) (by kernel_rfl) <| pi_no (qo21_0 1638 3) (by kernel_rfl) (by kernel_rfl) <| pi_no (qo21_0 1638 4) (by kernel_rfl) (by kernel_rfl) <| pi_no (qo21_0 1638 5) (by kernel_rfl) (by kernel_rfl) <| pi_no (qo21_0 1638 6) (by kernel_rfl) (by kernel_rfl) <| pi_no (qo21_0 1638 7) (by kernel_rfl) (by kernel_rfl) <| pi_no (qo21_0 1638 8) (by kernel_rfl) (by kernel_rfl) <| pi_run (qo21_0 1638 9) (.bool false) (w' := V12) (by kernel_rfl) (by kernel_rfl) (by kernel_rfl) ?_
   refine pi_end <| then_n <| syI_no (.tmp 30) (qc21_0 3278) (qc21_0 3279) (by kernel_rfl) (by kernel_rfl) <| syI_skip (by kernel_rfl) <| blk_n <| then_n <| syW_reg <| rg_plain 5 (opsAt (qc21_0 103)) [0, 1] (by kernel_rfl) (by kernel_rfl) <| ppq (iN (k + 1)) (exec_cast (congrArg (Value.int .i64) (wrapN (k + 1) (by omega))) (by kernel_rfl)) <| pkq (iN (k + 1)) <| ps_end <| sy_a ⟨#[.func (.yield l) #[] #[], pT bx 0, ud, iN k, .pointer none, pT d.g 0, pT d.g 0, pT d.g 1, .slice (some ⟨d.s, 0, none⟩) d.n d.cap, iN d.n, iN (k + 1), .bool true, iN k, pT d.g 0, pT d.g 0, pT d.g 0, pT d.g 2, iN d.low, iN k, iN (d.low + k), .pointer none, .pointer none, .bool false, .bool false, ud, ud, ud, ud, ud, ud, .bool false, iN (k + 1)], []⟩ <| then_n ?_
   refine ⟨⟨k + 1, (iN k), (.pointer none), (.bool true), (iN k), (pT d.g 0), (pT d.g 0), (pT d.g 0), (pT d.g 2), (iN d.low), (iN k), (iN (d.low + k)), (.pointer none), (.pointer none), (.bool false), (.bool false), undef, undef, undef, undef, undef, undef, (.bool false), (iN (k + 1)), by kernel_rfl, by omega, (by rw [cnt_none hv]; exact h13), h14, h15, h16⟩, ?_⟩
   exact lt_meas (x := d.n - (k + 1)) (y := d.n - k) (by kernel_rfl) (by kernel_rfl) (by omega)
  ·skip
   refine syI_seq (qc21_0 24) (qc21_0 25) (by kernel_rfl) <| syW_reg <| rg_plain 1 (opsAt (qc21_0 24)) [0] (by kernel_rfl) (by kernel_rfl) <| ppq (.bool true) (dct ((((k : Nat) : Int)) < (((d.n : Nat) : Int))) (by omega)) <| et_ <| syI_seq (qc21_0 50) (qc21_0 51) (by kernel_rfl) <| syI_yes (.tmp 11) (qc21_0 100) (qc21_0 101) (by kernel_rfl) (by kernel_rfl) <| syI_skip (by kernel_rfl) <| then_n <| syI_seq (qc21_0 102) (qc21_0 103) (by kernel_rfl) <| syI_block 1 (qc21_0 204) (by kernel_rfl) <| syI_seq (qc21_0 408) (qc21_0 409) (by kernel_rfl) <| syW_reg <| rg_plain 2 (opsAt (qc21_0 408)) [0, 1] (by kernel_rfl) (by kernel_rfl) ?_
   refine pkq (iN k) <| pkq (iN k) <| et_ <| syI_seq (qc21_0 818) (qc21_0 819) (by kernel_rfl) <| syI_np <| syW_reg <| an_begin 3 9 (opsAt (qc21_0 818)) (fun W => (W.heap[bx]? = some (.cells (#[pT d.g 0]) 119 (0, 0))) ∧ (W.heap[d.g]? = some (.cells (#[.func (.func 124) #[] #[], .slice (some ⟨d.s, 0, none⟩) d.n d.cap, .int .i64 ((d.low : Nat) : Int)]) 184 (0, 0))) ∧ (RingA W d)) zl10_ (by kernel_rfl) (by kernel_rfl) (by kernel_rfl) (by kernel_rfl) ?_
   obtain ⟨V17, eV17, kV17⟩ := drew_step V1
   rw [eV17]
   clear eV17
   have h18 : J (cnt d.V d.low k) V17 := (hJ _ _ _ h2 kV17)
   have h19 := kV17.bk h3
   have h20 : RingA V17 d := h4.keepsN kV17
   have ⟨h21, h22⟩ := kV17.k2 h5 hp
   refine avq 0 (pT d.g 0) (fun W hS => ldc 119 bx 0 (rc (hS.1) (by kernel_rfl))) ⟨h19, h21, h20⟩ <| avq 1 (pT d.g 0) (fun W hS => ldc 119 bx 0 (rc (hS.1) (by kernel_rfl))) ⟨h19, h21, h20⟩ <| akq 2 (pT d.g 0) ⟨h19, h21, h20⟩ <| akq 3 (pT d.g 2) ⟨h19, h21, h20⟩ <| avq 4 (iN d.low) (fun W hS => exec_load_cell 3 (.tmp 16) (by kernel_rfl) ⟨d.g, 2, none⟩ (by kernel_rfl) _ _ Tryz.underlying3 rfl (rc (hS.2.1) (by kernel_rfl))) ⟨h19, h21, h20⟩ <| akq 5 (iN k) ⟨h19, h21, h20⟩ <| avq 6 (iN (d.low + k)) (fun W hS => exec_cast (congrArg (Value.int .i64) (wrapN (d.low + k) (by omega))) (by kernel_rfl)) ⟨h19, h21, h20⟩ <| an_o 7 ?_
   refine ncq 113 #[pT d.g 0, iN (d.low + k)] Tryz.func113 ((gat_some _ p _ h20 hs).mono ?_)
   rintro e V23 ⟨rfl, kV23⟩
   refine ⟨_, rfl, ?_⟩
   have h24 : J (cnt d.V d.low k) V23 := (hJ _ _ _ h18 kV23)
   have h25 := kV23.bk h19
   have h26 : RingA V23 d := h20.keepsN kV23
   have ⟨h27, h28⟩ := kV23.k2 h21 h22
   refine ⟨⟨h25, h27, h26⟩, ?_⟩
   refine an_o 8 <| nrq (pT p 0) (w' := V23) (by kernel_rfl) ?_
   refine ⟨⟨h25, h27, h26⟩, ?_⟩
   refine an_end (by kernel_rfl) <| then_n <| syI_seq (qc21_0 1638) (qc21_0 1639) (by kernel_rfl) <| rg_yield 4 (opsAt (qc21_0 1638)) [0, 1, 2, 3, 4, 5, 6, 7, 8, 9] (by kernel_rfl) (by kernel_rfl) <| pi_run (qo21_0 1638 0) (pT p 0) (w' := V23) (by kernel_rfl) (by kernel_rfl) (by kernel_rfl) <| pi_run (qo21_0 1638 1) (.bool true) (w' := V23) (by kernel_rfl) (by kernel_rfl) (by kernel_rfl) <| pi_run (qo21_0 1638 2) (.bool true) (w' := V23) (by kernel_rfl) (by kernel_rfl) (by kernel_rfl) <| pi_run (qo21_0 1638 3) (.func (.yield l) #[] #[]) (w' := V23) (by kernel_rfl) (by kernel_rfl) (by kernel_rfl) <| pi_run (qo21_0 1638 4) (pT p 0) (w' := V23) (by kernel_rfl) (by kernel_rfl) (by kernel_rfl) <| pi_run (qo21_0 1638 5) (pT p 0) (w' := V23) (by kernel_rfl) (by kernel_rfl) (by kernel_rfl) <| pi_run (qo21_0 1638 6) (.agg (Att.c a)) (w' := V23) (by kernel_rfl) (by kernel_rfl) (ldr 28 p (h28) (by rw [Att.c_size _ ha.r]; kernel_rfl)) ?_
   refine pi_yield (qo21_0 1638 7) (.tmp 24) l #[.agg (Att.c a)] (by kernel_rfl) (by kernel_rfl) (by kernel_rfl) (by kernel_rfl) (by kernel_rfl) ((hY (cnt d.V d.low k) a _ (items_get hk hv) h24 ⟨h25, h26⟩).mono ?_)
   rintro e V29 (⟨rfl, hj3, hb3, hr3⟩ | ⟨rfl, hx3⟩)
   ·refine ⟨_, rfl, ?_⟩
    refine pi_run (qo21_0 1638 8) (.bool false) (w' := V29) (by kernel_rfl) (by kernel_rfl) (by kernel_rfl) <| pi_run (qo21_0 1638 9) (.bool false) (w' := V29) (by kernel_rfl) (by kernel_rfl) (by kernel_rfl) <| pi_end <| then_n <| syI_no (.tmp 30) (qc21_0 3278) (qc21_0 3279) (by kernel_rfl) (by kernel_rfl) <| syI_skip (by kernel_rfl) <| blk_n <| then_n <| syW_reg <| rg_plain 5 (opsAt (qc21_0 103)) [0, 1] (by kernel_rfl) (by kernel_rfl) <| ppq (iN (k + 1)) (exec_cast (congrArg (Value.int .i64) (wrapN (k + 1) (by omega))) (by kernel_rfl)) <| pkq (iN (k + 1)) <| ps_end <| sy_a ⟨#[.func (.yield l) #[] #[], pT bx 0, ud, iN k, pT p 0, pT d.g 0, pT d.g 0, pT d.g 1, .slice (some ⟨d.s, 0, none⟩) d.n d.cap, iN d.n, iN (k + 1), .bool true, iN k, pT d.g 0, pT d.g 0, pT d.g 0, pT d.g 2, iN d.low, iN k, iN (d.low + k), pT p 0, pT p 0, .bool true, .bool true, .func (.yield l) #[] #[], pT p 0, pT p 0, .agg (Att.c a), .bool true, .bool false, .bool false, iN (k + 1)], []⟩ ?_
    refine then_n ?_
    refine ⟨⟨k + 1, (iN k), (pT p 0), (.bool true), (iN k), (pT d.g 0), (pT d.g 0), (pT d.g 0), (pT d.g 2), (iN d.low), (iN k), (iN (d.low + k)), (pT p 0), (pT p 0), (.bool true), (.bool true), (.func (.yield l) #[] #[]), (pT p 0), (pT p 0), (.agg (Att.c a)), (.bool true), (.bool false), (.bool false), (iN (k + 1)), by kernel_rfl, by omega, (by rw [cnt_some hv]; exact hj3), hb3, hr3, hr3.ring⟩, ?_⟩
    exact lt_meas (x := d.n - (k + 1)) (y := d.n - k) (by kernel_rfl) (by kernel_rfl) (by omega)
   ·refine ⟨_, rfl, ?_⟩
    refine pi_run (qo21_0 1638 8) (.bool true) (w' := V29) (by kernel_rfl) (by kernel_rfl) (by kernel_rfl) <| pi_run (qo21_0 1638 9) (.bool true) (w' := V29) (by kernel_rfl) (by kernel_rfl) (by kernel_rfl) <| pi_end <| then_n <| syI_yes (.tmp 30) (qc21_0 3278) (qc21_0 3279) (by kernel_rfl) (by kernel_rfl) <| syI_ret (by kernel_rfl) <| blk_r <| then_r <| then_r <| blk_r <| so_ (.tuple #[]) ?_
    exact ⟨⟨_, rfl⟩, .inr hx3⟩
  ·skip
   refine syI_seq (qc21_0 24) (qc21_0 25) (by kernel_rfl) <| syW_reg <| rg_plain 1 (opsAt (qc21_0 24)) [0] (by kernel_rfl) (by kernel_rfl) <| ppq (.bool false) (dcf ((((k : Nat) : Int)) < (((d.n : Nat) : Int))) (by omega)) <| et_ <| syI_seq (qc21_0 50) (qc21_0 51) (by kernel_rfl) <| syI_no (.tmp 11) (qc21_0 100) (qc21_0 101) (by kernel_rfl) (by kernel_rfl) <| syI_exit 0 (by kernel_rfl) <| then_e <| then_e <| blk_e <| sy_fall (.tuple #[]) rfl (by kernel_rfl) ?_
   exact ⟨⟨_, rfl⟩, .inl (by have hz := h2; rw [hk] at hz; exact hz)⟩
end Go.Proofs.YthmclmbeflbhhaaGreat
namespace Go.Proofs.YthmclmbeflbhhaaGreat
set_option maxRecDepth 100000
set_option maxHeartbeats 4000000
open Go Go.RowKit Go.Own Go.Shelf
noncomputable def qc22_2 (n : Nat) : Code := partOf Tryz.f127 n
theorem gmadeB_ok (n low : Nat) (w : World) (q1 : 1 ≤ n) (q2 : n ≤ 256000) (q3 : low ≤ 4294967296) :
  Calls Tryz.prog 127 #[.int .i64 ((n : Nat) : Int), .int .i64 ((low : Nat) : Int), .func (.func 125) #[] #[]] w (fun e w' => ∃ g s, e = .returned (pT g 0) ∧ RingB w' ⟨g, s, low, n, n, fun _ => none, fun _ => none, []⟩ ∧ w.heap.size ≤ g ∧ w.heap.size ≤ s ∧ Keeps Nob w w') := by
 obtain ⟨i0, hi0, hz0, hz1, hz2⟩ := info_parts b_ptr_info
 have K0 : Keeps Nob w w := Keeps.refl _ _
 refine sy_enter (qc22_2 1) ⟨fr [iN n, iN low, .func (.func 125) #[] #[]] 10, []⟩ Tryz.func127 (by kernel_rfl) (by kernel_rfl) <| qr_ [0] <| pkq (.pointer none) <| eqr_ [0, 1, 2, 3, 4, 5, 6] <| pkq (.func (.func 125) #[] #[]) <| pkq (iN n) ?_
 obtain ⟨V1, eV1, s, es, h2, kV1⟩ := alloc_step w (madeCells (Value.pointer none).cells (n * i0.size)) 168
 have h3 : V1.heap[s]? = some (.cells (Slots n (fun _ => none) []) 168 (0, 0)) := h2.trans (by rw [hz1]; exact congrArg (fun c => some (Obj.cells c 168 (0, 0))) (Slots.made n))
 refine prq (.slice (some ⟨s, 0, none⟩) n n) (w' := V1) (by rw [← eV1, ← es]; exact exec_makeSlice 190 (.tmp 8) (.tmp 8) (by kernel_rfl) 168 i0 (.pointer none) Tryz.underlying190 hi0 hz0 n (by kernel_rfl) (by kernel_rfl) (by rw [hz2]; omega) (by omega)) ?_
 clear eV1
 have ns : w.heap.size ≤ s := es ▸ K0.size
 have K4 := K0.nn kV1
 have z5 := kV1.size
 refine pkq (iN low) <| pkq (.agg #[.func (.func 125) #[] #[], .slice (some ⟨s, 0, none⟩) n n, iN low]) ?_
 refine pbx 192 (#[.func (.func 125) #[] #[], .slice (some ⟨s, 0, none⟩) n n, .int .i64 ((low : Nat) : Int)]) (.agg #[.func (.func 125) #[] #[], .slice (some ⟨s, 0, none⟩) n n, iN low]) fun V6 g eg h7 kV6 => ?_
 have n8 := nl eg h3
 have n9 := nk eg K4
 have ⟨K11, z12, h10⟩ := kV6.z1 K4 h3
 refine pkq (pT g 0) <| eu_ <| so_ (pT g 0) ?_
 exact ⟨g, s, rfl, Ring.made h7 h10 q1 q2 q3, by omega, ns, K11⟩
noncomputable def qc22_3 (n : Nat) : Code := partOf Tryz.f75 n
theorem gallB_ok (g : Nat) (w : World) :
  Calls Tryz.prog 75 #[pT g 0] w (fun e w' => ∃ bx, e = .returned (.func (.func 115) #[] #[pT bx 0]) ∧ w'.heap[bx]? = some (.cells #[pT g 0] 120 (0, 0)) ∧ w.heap.size ≤ bx ∧ Keeps Nob w w') := by
 have K0 : Keeps Nob w w := Keeps.refl _ _
 refine sy_enter (qc22_3 1) ⟨#[pT g 0, ud, ud, ud], []⟩ Tryz.func75 (by kernel_rfl) (by kernel_rfl) <| qr_ [0, 1] <| pbx 120 (#[pT g 0]) (pT g 0) fun V1 bx ebx h2 kV1 => ?_
 have n3 := nk ebx K0
 have K4 := K0.nn kV1
 have z5 := kV1.size
 refine pkq (.nilFunc) <| eqr_ [0, 1] <| pkq (.func (.func 115) #[] #[pT bx 0]) <| pkq (.func (.func 115) #[] #[pT bx 0]) <| eu_ <| so_ (.func (.func 115) #[] #[pT bx 0]) ?_
 exact ⟨bx, rfl, h2, by omega, K4⟩
/-- What the iterator reads. -/
def gall1BS (bx : Nat) (d : RD Pro) (W : World) : Prop := W.heap[bx]? = some (.cells #[pT d.g 0] 120 (0, 0)) ∧ RingB W d
theorem gall1BS.turn {bx : Nat} {d : RD Pro} {A B : World} {b : Nat} (h : gall1BS bx d A) (t : Turn b Nob A B) : gall1BS bx d B :=
 ⟨t.same _ _ h.1 (fun x => x) (.inr rfl), h.2.mono fun j cs T _ e => t.same _ _ e (fun x => x) (.inr rfl)⟩
theorem gall1B_cases {d : RD Pro} {W : World} (H : RingB W d) (k : Nat) (hk : k ≤ d.n) : (k < d.n ∧ d.V ((d.low + k : Nat) : Int) = none ∧ slotOf d ((d.low + k : Nat) : Int) = none) ∨
  (∃ a p, k < d.n ∧ d.V ((d.low + k : Nat) : Int) = some a ∧ slotOf d ((d.low + k : Nat) : Int) = some p ∧ W.heap[p]? = some (.cells a.c 37 (0, 0)) ∧ a.Ok) ∨ k = d.n := by
 by_cases h : k < d.n
 ·rcases H.none_or ((d.low + k : Nat) : Int) with ⟨h1, h2⟩ | ⟨a, p, h1, h2, h3, _, _, _, h4⟩
  ·exact .inl ⟨h, h1, h2⟩
  ·exact .inr (.inl ⟨a, p, h, h1, h2, h3, h4⟩)
 ·exact .inr (.inr (by omega))
noncomputable def qc22_0 (n : Nat) : Code := partOf Tryz.f115 n
noncomputable abbrev qo22_0 (n k : Nat) : Oper := (opsAt (qc22_0 n)).getD k default
theorem gall1B_seq (bx : Nat) (d : RD Pro) (fz : Nat) :
  SeqOwn Fence.wide fz Tryz.prog 115 #[pT bx 0] (fun x : Pro => #[.agg x.c]) (items d.V d.low d.n) Nob (fun _ => gall1BS bx d) := by
 intro l J Jx W0 hJ hJx hY h0 hS0
 obtain ⟨hb0, hr0⟩ := hS0
 have hn1 := hr0.n1
 have hn2 := hr0.n2
 have hl2 := hr0.l2
 refine syW_enter (qc22_0 1) ⟨fr [.func (.yield l) #[] #[], pT bx 0] 30, []⟩ Tryz.func115 (by kernel_rfl) (by kernel_rfl) <| syI_seq (qc22_0 2) (qc22_0 3) (by kernel_rfl) <| syW_reg <| rg_plain 0 (opsAt (qc22_0 2)) [0, 1, 2, 3, 4, 5] (by kernel_rfl) (by kernel_rfl) <| ppq (pT d.g 0) (ldk 120 bx 0 hb0) <| pkq (pT d.g 0) <| pkq (pT d.g 1) <| ppq (.slice (some ⟨d.s, 0, none⟩) d.n d.cap) (exec_load_cell 190 (.tmp 7) (by kernel_rfl) ⟨d.g, 1, none⟩ (by kernel_rfl) _ _ Tryz.underlying190 rfl (rc (hr0.ring) (by kernel_rfl))) <| ppq (iN d.n) (exec_len (.tmp 8) 190 _ (by kernel_rfl) Tryz.underlying190 (some ⟨d.s, 0, none⟩) d.n d.cap (by kernel_rfl)) <| pkq (.int .i64 0) <| et_ <| syI_block 0 (qc22_0 6) (by kernel_rfl) ?_
 refine syI_loop (qc22_0 12) (fun a V => ∃ (k : Nat) (u3 u4 u11 u12 u13 u14 u15 u16 u17 u18 u19 u20 u21 u22 u23 u24 u25 u26 u27 u28 u29 u30 u31 : Value), (a = ⟨#[.func (.yield l) #[] #[], pT bx 0, ud, u3, u4, pT d.g 0, pT d.g 0, pT d.g 1, .slice (some ⟨d.s, 0, none⟩) d.n d.cap, iN d.n, iN k, u11, u12, u13, u14, u15, u16, u17, u18, u19, u20, u21, u22, u23, u24, u25, u26, u27, u28, u29, u30, u31], []⟩) ∧ (k ≤ d.n) ∧ (J (cnt d.V d.low k) V) ∧ (V.heap[bx]? = some (.cells (#[pT d.g 0]) 120 (0, 0))) ∧ (RingB V d) ∧ (V.heap[d.g]? = some (.cells (#[.func (.func 125) #[] #[], .slice (some ⟨d.s, 0, none⟩) d.n d.cap, iN d.low]) 192 (0, 0)))) (fun a _ => d.n - (intOf (a.tmps.getD 10 undef)).toNat) (by kernel_rfl) ?_ ?_
 ·exact ⟨0, undef, undef, undef, undef, undef, undef, undef, undef, undef, undef, undef, undef, undef, undef, undef, undef, undef, undef, undef, undef, undef, undef, undef, by kernel_rfl, Nat.zero_le _, h0, hb0, hr0, hr0.ring⟩
 ·rintro a V1 ⟨k, u3, u4, u11, u12, u13, u14, u15, u16, u17, u18, u19, u20, u21, u22, u23, u24, u25, u26, u27, u28, u29, u30, u31, rfl, hk0, h2, h3, h4, h5⟩
  rcases gall1B_cases h4 k hk0 with ⟨hk, hv, hs⟩ | ⟨a, p, hk, hv, hs, hp, ha⟩ | hk
  ·skip
   refine syI_seq (qc22_0 24) (qc22_0 25) (by kernel_rfl) <| syW_reg <| rg_plain 1 (opsAt (qc22_0 24)) [0] (by kernel_rfl) (by kernel_rfl) <| ppq (.bool true) (dct ((((k : Nat) : Int)) < (((d.n : Nat) : Int))) (by omega)) <| et_ <| syI_seq (qc22_0 50) (qc22_0 51) (by kernel_rfl) <| syI_yes (.tmp 11) (qc22_0 100) (qc22_0 101) (by kernel_rfl) (by kernel_rfl) <| syI_skip (by kernel_rfl) <| then_n <| syI_seq (qc22_0 102) (qc22_0 103) (by kernel_rfl) <| syI_block 1 (qc22_0 204) (by kernel_rfl) <| syI_seq (qc22_0 408) (qc22_0 409) (by kernel_rfl) <| syW_reg <| rg_plain 2 (opsAt (qc22_0 408)) [0, 1] (by kernel_rfl) (by kernel_rfl) ?_
   refine pkq (iN k) <| pkq (iN k) <| et_ <| syI_seq (qc22_0 818) (qc22_0 819) (by kernel_rfl) <| syI_np <| syW_reg <| an_begin 3 9 (opsAt (qc22_0 818)) (fun W => (W.heap[bx]? = some (.cells (#[pT d.g 0]) 120 (0, 0))) ∧ (W.heap[d.g]? = some (.cells (#[.func (.func 125) #[] #[], .slice (some ⟨d.s, 0, none⟩) d.n d.cap, .int .i64 ((d.low : Nat) : Int)]) 192 (0, 0))) ∧ (RingB W d)) zl10_ (by kernel_rfl) (by kernel_rfl) (by kernel_rfl) (by kernel_rfl) ?_
   obtain ⟨V7, eV7, kV7⟩ := drew_step V1
   rw [eV7]
   clear eV7
   have h8 : J (cnt d.V d.low k) V7 := (hJ _ _ _ h2 kV7)
   have h9 := kV7.bk h3
   have h10 : RingB V7 d := h4.keepsN kV7
   have h11 := kV7.bk h5
   refine avq 0 (pT d.g 0) (fun W hS => ldc 120 bx 0 (rc (hS.1) (by kernel_rfl))) ⟨h9, h11, h10⟩ <| avq 1 (pT d.g 0) (fun W hS => ldc 120 bx 0 (rc (hS.1) (by kernel_rfl))) ⟨h9, h11, h10⟩ <| akq 2 (pT d.g 0) ⟨h9, h11, h10⟩ <| akq 3 (pT d.g 2) ⟨h9, h11, h10⟩ <| avq 4 (iN d.low) (fun W hS => exec_load_cell 3 (.tmp 16) (by kernel_rfl) ⟨d.g, 2, none⟩ (by kernel_rfl) _ _ Tryz.underlying3 rfl (rc (hS.2.1) (by kernel_rfl))) ⟨h9, h11, h10⟩ <| akq 5 (iN k) ⟨h9, h11, h10⟩ <| avq 6 (iN (d.low + k)) (fun W hS => exec_cast (congrArg (Value.int .i64) (wrapN (d.low + k) (by omega))) (by kernel_rfl)) ⟨h9, h11, h10⟩ <| an_o 7 ?_
   refine ncq 98 #[pT d.g 0, iN (d.low + k)] Tryz.func98 ((gatB_none _ _ h10 hs).mono ?_)
   rintro e V12 ⟨rfl, kV12⟩
   refine ⟨_, rfl, ?_⟩
   have h13 : J (cnt d.V d.low k) V12 := (hJ _ _ _ h8 kV12)
   have h14 := kV12.bk h9
   have h15 : RingB V12 d := h10.keepsN kV12
   have h16 := kV12.bk h11
   refine ⟨⟨h14, h16, h15⟩, ?_⟩
   refine an_o 8 <| nrq (.pointer none) (w' := V12) (by kernel_rfl) ?_
   refine ⟨⟨h14, h16, h15⟩, ?_⟩
   refine an_end (by kernel_rfl) <| then_n <| syI_seq (qc22_0 1638) (qc22_0 1639) (by kernel_rfl) <| rg_yield 4 (opsAt (qc22_0 1638)) [0, 1, 2, 3, 4, 5, 6, 7, 8, 9] (by kernel_rfl) (by kernel_rfl) <| pi_run (qo22_0 1638 0) (.pointer none) (w' := V12) (by kernel_rfl) (by kernel_rfl) (by kernel_rfl) <| pi_run (qo22_0 1638 1) (.bool false) (w' := V12) (by kernel_rfl) (by kernel_rfl) (by kernel_rfl) <| pi_run (qo22_0 1638 2) (.bool false) (w' := V12) (by kernel_rfl) (by kernel_rfl) (by kernel_rfl) <| pi_no (qo22_0 1638 3) (by kernel_rfl) (by kernel_rfl) <| pi_no (qo22_0 1638 4) (by kernel_rfl) (by kernel_rfl) <| pi_no (qo22_0 1638 5) (by kernel_rfl) (by kernel_rfl) <| pi_no (qo22_0 1638 6) (by kernel_rfl) (by kernel_rfl) <| pi_no (qo22_0 1638 7) (by kernel_rfl) (by kernel_rfl) <| pi_no (qo22_0 1638 8) (by kernel_rfl) (by kernel_rfl) <| pi_run (qo22_0 1638 9) (.bool false) (w' := V12) (by kernel_rfl) (by kernel_rfl) (by kernel_rfl) ?_
   refine pi_end <| then_n <| syI_no (.tmp 30) (qc22_0 3278) (qc22_0 3279) (by kernel_rfl) (by kernel_rfl) <| syI_skip (by kernel_rfl) <| blk_n <| then_n <| syW_reg <| rg_plain 5 (opsAt (qc22_0 103)) [0, 1] (by kernel_rfl) (by kernel_rfl) <| ppq (iN (k + 1)) (exec_cast (congrArg (Value.int .i64) (wrapN (k + 1) (by omega))) (by kernel_rfl)) <| pkq (iN (k + 1)) <| ps_end <| sy_a ⟨#[.func (.yield l) #[] #[], pT bx 0, ud, iN k, .pointer none, pT d.g 0, pT d.g 0, pT d.g 1, .slice (some ⟨d.s, 0, none⟩) d.n d.cap, iN d.n, iN (k + 1), .bool true, iN k, pT d.g 0, pT d.g 0, pT d.g 0, pT d.g 2, iN d.low, iN k, iN (d.low + k), .pointer none, .pointer none, .bool false, .bool false, ud, ud, ud, ud, ud, ud, .bool false, iN (k + 1)], []⟩ <| then_n ?_
   refine ⟨⟨k + 1, (iN k), (.pointer none), (.bool true), (iN k), (pT d.g 0), (pT d.g 0), (pT d.g 0), (pT d.g 2), (iN d.low), (iN k), (iN (d.low + k)), (.pointer none), (.pointer none), (.bool false), (.bool false), undef, undef, undef, undef, undef, undef, (.bool false), (iN (k + 1)), by kernel_rfl, by omega, (by rw [cnt_none hv]; exact h13), h14, h15, h16⟩, ?_⟩
   exact lt_meas (x := d.n - (k + 1)) (y := d.n - k) (by kernel_rfl) (by kernel_rfl) (by omega)
  ·skip
   refine syI_seq (qc22_0 24) (qc22_0 25) (by kernel_rfl) <| syW_reg <| rg_plain 1 (opsAt (qc22_0 24)) [0] (by kernel_rfl) (by kernel_rfl) <| ppq (.bool true) (dct ((((k : Nat) : Int)) < (((d.n : Nat) : Int))) (by omega)) <| et_ <| syI_seq (qc22_0 50) (qc22_0 51) (by kernel_rfl) <| syI_yes (.tmp 11) (qc22_0 100) (qc22_0 101) (by kernel_rfl) (by kernel_rfl) <| syI_skip (by kernel_rfl) <| then_n <| syI_seq (qc22_0 102) (qc22_0 103) (by kernel_rfl) <| syI_block 1 (qc22_0 204) (by kernel_rfl) <| syI_seq (qc22_0 408) (qc22_0 409) (by kernel_rfl) <| syW_reg <| rg_plain 2 (opsAt (qc22_0 408)) [0, 1] (by kernel_rfl) (by kernel_rfl) ?_
   refine pkq (iN k) <| pkq (iN k) <| et_ <| syI_seq (qc22_0 818) (qc22_0 819) (by kernel_rfl) <| syI_np <| syW_reg <| an_begin 3 9 (opsAt (qc22_0 818)) (fun W => (W.heap[bx]? = some (.cells (#[pT d.g 0]) 120 (0, 0))) ∧ (W.heap[d.g]? = some (.cells (#[.func (.func 125) #[] #[], .slice (some ⟨d.s, 0, none⟩) d.n d.cap, .int .i64 ((d.low : Nat) : Int)]) 192 (0, 0))) ∧ (RingB W d)) zl10_ (by kernel_rfl) (by kernel_rfl) (by kernel_rfl) (by kernel_rfl) ?_
   obtain ⟨V17, eV17, kV17⟩ := drew_step V1
   rw [eV17]
   clear eV17
   have h18 : J (cnt d.V d.low k) V17 := (hJ _ _ _ h2 kV17)
   have h19 := kV17.bk h3
   have h20 : RingB V17 d := h4.keepsN kV17
   have ⟨h21, h22⟩ := kV17.k2 h5 hp
   refine avq 0 (pT d.g 0) (fun W hS => ldc 120 bx 0 (rc (hS.1) (by kernel_rfl))) ⟨h19, h21, h20⟩ <| avq 1 (pT d.g 0) (fun W hS => ldc 120 bx 0 (rc (hS.1) (by kernel_rfl))) ⟨h19, h21, h20⟩ <| akq 2 (pT d.g 0) ⟨h19, h21, h20⟩ <| akq 3 (pT d.g 2) ⟨h19, h21, h20⟩ <| avq 4 (iN d.low) (fun W hS => exec_load_cell 3 (.tmp 16) (by kernel_rfl) ⟨d.g, 2, none⟩ (by kernel_rfl) _ _ Tryz.underlying3 rfl (rc (hS.2.1) (by kernel_rfl))) ⟨h19, h21, h20⟩ <| akq 5 (iN k) ⟨h19, h21, h20⟩ <| avq 6 (iN (d.low + k)) (fun W hS => exec_cast (congrArg (Value.int .i64) (wrapN (d.low + k) (by omega))) (by kernel_rfl)) ⟨h19, h21, h20⟩ <| an_o 7 ?_
   refine ncq 98 #[pT d.g 0, iN (d.low + k)] Tryz.func98 ((gatB_some _ p _ h20 hs).mono ?_)
   rintro e V23 ⟨rfl, kV23⟩
   refine ⟨_, rfl, ?_⟩
   have h24 : J (cnt d.V d.low k) V23 := (hJ _ _ _ h18 kV23)
   have h25 := kV23.bk h19
   have h26 : RingB V23 d := h20.keepsN kV23
   have ⟨h27, h28⟩ := kV23.k2 h21 h22
   refine ⟨⟨h25, h27, h26⟩, ?_⟩
   refine an_o 8 <| nrq (pT p 0) (w' := V23) (by kernel_rfl) ?_
   refine ⟨⟨h25, h27, h26⟩, ?_⟩
   refine an_end (by kernel_rfl) <| then_n <| syI_seq (qc22_0 1638) (qc22_0 1639) (by kernel_rfl) <| rg_yield 4 (opsAt (qc22_0 1638)) [0, 1, 2, 3, 4, 5, 6, 7, 8, 9] (by kernel_rfl) (by kernel_rfl) <| pi_run (qo22_0 1638 0) (pT p 0) (w' := V23) (by kernel_rfl) (by kernel_rfl) (by kernel_rfl) <| pi_run (qo22_0 1638 1) (.bool true) (w' := V23) (by kernel_rfl) (by kernel_rfl) (by kernel_rfl) <| pi_run (qo22_0 1638 2) (.bool true) (w' := V23) (by kernel_rfl) (by kernel_rfl) (by kernel_rfl) <| pi_run (qo22_0 1638 3) (.func (.yield l) #[] #[]) (w' := V23) (by kernel_rfl) (by kernel_rfl) (by kernel_rfl) <| pi_run (qo22_0 1638 4) (pT p 0) (w' := V23) (by kernel_rfl) (by kernel_rfl) (by kernel_rfl) <| pi_run (qo22_0 1638 5) (pT p 0) (w' := V23) (by kernel_rfl) (by kernel_rfl) (by kernel_rfl) <| pi_run (qo22_0 1638 6) (.agg (Pro.c a)) (w' := V23) (by kernel_rfl) (by kernel_rfl) (ldr 37 p (h28) (by rw [Pro.c_size _ ha.r]; kernel_rfl)) ?_
   refine pi_yield (qo22_0 1638 7) (.tmp 24) l #[.agg (Pro.c a)] (by kernel_rfl) (by kernel_rfl) (by kernel_rfl) (by kernel_rfl) (by kernel_rfl) ((hY (cnt d.V d.low k) a _ (items_get hk hv) h24 ⟨h25, h26⟩).mono ?_)
   rintro e V29 (⟨rfl, hj3, hb3, hr3⟩ | ⟨rfl, hx3⟩)
   ·refine ⟨_, rfl, ?_⟩
    refine pi_run (qo22_0 1638 8) (.bool false) (w' := V29) (by kernel_rfl) (by kernel_rfl) (by kernel_rfl) <| pi_run (qo22_0 1638 9) (.bool false) (w' := V29) (by kernel_rfl) (by kernel_rfl) (by kernel_rfl) <| pi_end <| then_n <| syI_no (.tmp 30) (qc22_0 3278) (qc22_0 3279) (by kernel_rfl) (by kernel_rfl) <| syI_skip (by kernel_rfl) <| blk_n <| then_n <| syW_reg <| rg_plain 5 (opsAt (qc22_0 103)) [0, 1] (by kernel_rfl) (by kernel_rfl) <| ppq (iN (k + 1)) (exec_cast (congrArg (Value.int .i64) (wrapN (k + 1) (by omega))) (by kernel_rfl)) <| pkq (iN (k + 1)) <| ps_end <| sy_a ⟨#[.func (.yield l) #[] #[], pT bx 0, ud, iN k, pT p 0, pT d.g 0, pT d.g 0, pT d.g 1, .slice (some ⟨d.s, 0, none⟩) d.n d.cap, iN d.n, iN (k + 1), .bool true, iN k, pT d.g 0, pT d.g 0, pT d.g 0, pT d.g 2, iN d.low, iN k, iN (d.low + k), pT p 0, pT p 0, .bool true, .bool true, .func (.yield l) #[] #[], pT p 0, pT p 0, .agg (Pro.c a), .bool true, .bool false, .bool false, iN (k + 1)], []⟩ ?_
    refine then_n ?_
    refine ⟨⟨k + 1, (iN k), (pT p 0), (.bool true), (iN k), (pT d.g 0), (pT d.g 0), (pT d.g 0), (pT d.g 2), (iN d.low), (iN k), (iN (d.low + k)), (pT p 0), (pT p 0), (.bool true), (.bool true), (.func (.yield l) #[] #[]), (pT p 0), (pT p 0), (.agg (Pro.c a)), (.bool true), (.bool false), (.bool false), (iN (k + 1)), by kernel_rfl, by omega, (by rw [cnt_some hv]; exact hj3), hb3, hr3, hr3.ring⟩, ?_⟩
    exact lt_meas (x := d.n - (k + 1)) (y := d.n - k) (by kernel_rfl) (by kernel_rfl) (by omega)
   ·refine ⟨_, rfl, ?_⟩
    refine pi_run (qo22_0 1638 8) (.bool true) (w' := V29) (by kernel_rfl) (by kernel_rfl) (by kernel_rfl) <| pi_run (qo22_0 1638 9) (.bool true) (w' := V29) (by kernel_rfl) (by kernel_rfl) (by kernel_rfl) <| pi_end <| then_n <| syI_yes (.tmp 30) (qc22_0 3278) (qc22_0 3279) (by kernel_rfl) (by kernel_rfl) <| syI_ret (by kernel_rfl) <| blk_r <| then_r <| then_r <| blk_r <| so_ (.tuple #[]) ?_
    exact ⟨⟨_, rfl⟩, .inr hx3⟩
  ·skip
   refine syI_seq (qc22_0 24) (qc22_0 25) (by kernel_rfl) <| syW_reg <| rg_plain 1 (opsAt (qc22_0 24)) [0] (by kernel_rfl) (by kernel_rfl) <| ppq (.bool false) (dcf ((((k : Nat) : Int)) < (((d.n : Nat) : Int))) (by omega)) <| et_ <| syI_seq (qc22_0 50) (qc22_0 51) (by kernel_rfl) <| syI_no (.tmp 11) (qc22_0 100) (qc22_0 101) (by kernel_rfl) (by kernel_rfl) <| syI_exit 0 (by kernel_rfl) <| then_e <| then_e <| blk_e <| sy_fall (.tuple #[]) rfl (by kernel_rfl) ?_
   exact ⟨⟨_, rfl⟩, .inl (by have hz := h2; rw [hk] at hz; exact hz)⟩
end Go.Proofs.YthmclmbeflbhhaaGreat
namespace Go.Own
set_option maxRecDepth 100000
set_option maxHeartbeats 4000000
open Go Go.RowKit
variable {P : Program}
theorem run_eqItems_bytes {e : TypeId} (he : P.plainKey e = true) (hu : P.underlying e = some (.int .u8)) (d : Nat) (l m : List UInt8) (w : World) :
    ∀ (n k : Nat), k + n = l.length → k + n = m.length → (Op.eqItems (d + 1) e 1 (B l).toArray (B m).toArray (List.range' k n)).run P w = .ok (l.drop k == m.drop k) w := by
  intro n
  induction n with
  | zero =>
    intro k h1 h2
    rw [List.drop_of_length_le (by omega), List.drop_of_length_le (by omega)]
    rfl
  | succ n ih =>
    intro k h1 h2
    obtain ⟨x, hx⟩ : ∃ x, l[k]? = some x := ⟨_, List.getElem?_eq_getElem (by omega)⟩
    obtain ⟨y, hy⟩ : ∃ y, m[k]? = some y := ⟨_, List.getElem?_eq_getElem (by omega)⟩
    have e1 := run_part_plain (P := P) w he (xs := (B l).toArray) (off := k) (by simpa using B_get l k x hx)
    have e2 := run_part_plain (P := P) w he (xs := (B m).toArray) (off := k) (by simpa using B_get m k y hy)
    have e3 := run_equalIn_int (P := P) w d e .u8 .u8 (x.toNat : Int) (y.toNat : Int) hu
    rw [List.range'_succ]
    unfold Op.eqItems
    simp only [Nat.mul_one, Sem.run_bind, e1, e2, e3, Result.andThen_ok]
    obtain ⟨hk1, hx'⟩ := List.getElem?_eq_some_iff.1 hx
    obtain ⟨hk2, hy'⟩ := List.getElem?_eq_some_iff.1 hy
    rw [List.drop_eq_getElem_cons hk1, List.drop_eq_getElem_cons hk2, hx', hy']
    by_cases hxy : x = y
    · subst hxy
      simp only [beq_self_eq_true, Bool.not_true, Bool.false_eq_true, if_false]
      rw [ih (k + 1) (by omega) (by omega)]
      simp
    · have hne : ((x.toNat : Int) == (y.toNat : Int)) = false := by
        simp only [beq_eq_false_iff_ne, ne_eq]
        intro h; exact hxy (UInt8.toNat_inj.1 (by omega))
      simp only [hne, Bool.not_false, if_true]
      have h0 : ((x :: l.drop (k + 1)) == (y :: m.drop (k + 1))) = false := by
        simp only [beq_eq_false_iff_ne, ne_eq, List.cons.injEq, not_and]
        intro h; exact absurd h hxy
      rw [h0]
      rfl
theorem run_equalIn_bytes {t e : TypeId} {n : Nat} {i : TypeInfo} (hu : P.underlying t = some (.array n e)) (hi : P.info? e = some i) (he : P.plainKey e = true) (hue : P.underlying e = some (.int .u8)) (hC : P.cellsOf e = 1) (d : Nat) (l m : List UInt8) (w : World)
    (h1 : l.length = n) (h2 : m.length = n) : (Op.equalIn (d + 2) t (.agg (B l).toArray) (.agg (B m).toArray)).run P w = .ok (l == m) w := by
  rw [run_equalIn_array w (d + 1) _ _ hu hi, hC, List.range_eq_range', run_eqItems_bytes he hue d l m w n 0 (by omega) (by omega)]
  rfl
end Go.Own
namespace Go.Proofs.YthmclmbeflbhhaaGreat
set_option maxRecDepth 100000
set_option maxHeartbeats 4000000
open Go Go.RowKit Go.Own Go.Shelf
theorem eqF_int {d : Nat} {f : Field} {fs : List Field} {xs ys : Array Value} {k : IntKind} {a b : Int} (w : World) (hf : f.name ≠ "_") (ht : Tryz.prog.underlying f.type = some (.int k)) (hp : Tryz.prog.plainKey f.type = true) (hx : xs[f.offset]? = some (.int k a)) (hy : ys[f.offset]? = some (.int k b)) :
    (Op.eqFields (d + 1) xs ys (f :: fs)).run Tryz.prog w = if a = b then (Op.eqFields (d + 1) xs ys fs).run Tryz.prog w else .ok false w := by
  conv => lhs; unfold Op.eqFields
  rw [if_pos hf]
  simp only [Sem.run_bind, run_part_plain w hp hx, run_part_plain w hp hy, Result.andThen_ok, run_equalIn_int w d f.type k k a b ht]
  by_cases h : a = b
  · simp [h]
  · simp [h]
theorem part_hash (xs : Array Value) (off : Nat) (w : World) : (part 25 xs off).run Tryz.prog w = .ok (.agg (xs.extract off (off + 32))) w := by
  have h : (sizeOf 25).run Tryz.prog w = .ok 32 w := by kernel_rfl
  simp [part, isAgg, run_underlying Tryz.underlying25, h]
theorem eqF_hash {d : Nat} {f : Field} {fs : List Field} {xs ys : Array Value} {l m : List UInt8} (w : World) (hf : f.name ≠ "_") (ht : f.type = 25) (hx : xs.extract f.offset (f.offset + 32) = (B l).toArray) (hy : ys.extract f.offset (f.offset + 32) = (B m).toArray) (hl : l.length = 32) (hm : m.length = 32) :
    (Op.eqFields (d + 2) xs ys (f :: fs)).run Tryz.prog w = if l = m then (Op.eqFields (d + 2) xs ys fs).run Tryz.prog w else .ok false w := by
  obtain ⟨i0, hi, _, _, _⟩ := info_parts u8_info0
  have h := run_equalIn_bytes (P := Tryz.prog) (t := 25) (e := 5) (n := 32) Tryz.underlying25 hi (by kernel_rfl) Tryz.underlying5 (by kernel_rfl) d l m w hl hm
  conv => lhs; unfold Op.eqFields
  rw [if_pos hf]
  simp only [ht, Sem.run_bind, part_hash, Result.andThen_ok, hx, hy, h]
  by_cases h : l = m
  · simp [h]
  · simp [h]
theorem Att.c_ext (a : Att) (h : a.r.length = 32) : a.c.extract 3 35 = (B a.r).toArray := by
  apply Array.toList_inj.1
  rw [Array.toList_extract]
  simp only [Att.c, List.extract_eq_take_drop, List.drop_succ_cons, List.drop_zero, Nat.reduceSub]
  rw [List.take_append_of_le_length (by rw [B_length]; omega), List.take_of_length_le (by rw [B_length]; omega)]
theorem Pro.c_ext (a : Pro) (h : a.r.length = 32) : a.c.extract 2 34 = (B a.r).toArray := by
  apply Array.toList_inj.1
  rw [Array.toList_extract]
  simp only [Pro.c, List.extract_eq_take_drop, List.drop_succ_cons, List.drop_zero, Nat.reduceSub]
  rw [List.take_append_of_le_length (by rw [B_length]; omega), List.take_of_length_le (by rw [B_length]; omega)]
theorem att_guard : Tryz.prog.eqGuardType Tryz.prog.depth 28 = false := by kernel_rfl
theorem att_equal (a b : Att) (ha : a.r.length = 32) (hb : b.r.length = 32) (w : World) : (Op.equalIn 10000 28 (.agg a.c) (.agg b.c)).run Tryz.prog w = .ok (decide (a = b)) w := by
  rw [run_equalIn_struct w 9999 28 _ _ (by kernel_rfl) (by kernel_rfl)]
  simp only [Program.fieldsOf, Tryz.underlying28]
  rw [eqF_int (d := 9998) (k := .i64) (a := a.v) (b := b.v) w (by decide) Tryz.underlying3 (by kernel_rfl) (Att.c_0 a) (Att.c_0 b), eqF_int (d := 9998) (k := .i64) (a := a.s) (b := b.s) w (by decide) Tryz.underlying3 (by kernel_rfl) (Att.c_1 a) (Att.c_1 b),
    eqF_int (d := 9998) (k := .i64) (a := a.t) (b := b.t) w (by decide) Tryz.underlying3 (by kernel_rfl) (Att.c_2 a) (Att.c_2 b), eqF_hash (d := 9997) (l := a.r) (m := b.r) w (by decide) rfl (Att.c_ext a ha) (Att.c_ext b hb) ha hb,
    eqF_int (d := 9998) (k := .u64) (a := ((a.g : Nat) : Int)) (b := ((b.g : Nat) : Int)) w (by decide) Tryz.underlying26 (by kernel_rfl) (Att.c_tag a ha) (Att.c_tag b hb)]
  simp only [Op.eqFields, Sem.run_pure]
  obtain ⟨v, s, t, r, g⟩ := a
  obtain ⟨v', s', t', r', g'⟩ := b
  simp only [Att.mk.injEq]
  by_cases h1 : v = v' <;> by_cases h2 : s = s' <;> by_cases h3 : t = t' <;> by_cases h4 : r = r' <;> by_cases h5 : g = g' <;> simp [h1, h2, h3, h4, h5] <;> omega
theorem att_eq (a b : Att) (ha : a.r.length = 32) (hb : b.r.length = 32) (w : World) : (binOp .eql 28 (.agg a.c) (.agg b.c)).run Tryz.prog w = .ok (.bool (decide (a = b))) w := by rw [run_eql_struct, att_equal a b ha hb]; rfl
end Go.Proofs.YthmclmbeflbhhaaGreat
namespace Go.Proofs.YthmclmbeflbhhaaGreat
set_option maxRecDepth 100000
set_option maxHeartbeats 4000000
open Go Go.RowKit Go.Own Go.Shelf
def zAtt : Att := ⟨0, 0, 0, List.replicate 32 0, 0⟩
def zPro : Pro := ⟨0, 0, List.replicate 32 0, 0⟩
theorem zAtt_ok : zAtt.Ok := ⟨by decide, by decide, by decide, rfl, by decide⟩
theorem zPro_ok : zPro.Ok := ⟨by decide, by decide, rfl, by decide⟩
def Att.cl (a : Att) : List Value := a.c.toList
def Pro.cl (a : Pro) : List Value := a.c.toList
theorem Att.cl_len {a : Att} (h : a.Ok) : a.cl.length = 36 := by have := Att.c_size a h.r; simpa [Att.cl] using this
theorem Pro.cl_len {a : Pro} (h : a.Ok) : a.cl.length = 35 := by have := Pro.c_size a h.r; simpa [Pro.cl] using this
theorem Att.cl_one {a : Att} : ∀ u ∈ a.cl, u.oneCell' = true := by
  have := Att.c_one a
  rw [← Array.all_toList] at this
  exact List.all_eq_true.1 this
theorem Pro.cl_one {a : Pro} : ∀ u ∈ a.cl, u.oneCell' = true := by
  have := Pro.c_one a
  rw [← Array.all_toList] at this
  exact List.all_eq_true.1 this
abbrev AttsAt (w : World) (v : Value) (l : List Att) : Prop := Sl w 36 Att.cl v l
/-- A record that somebody made. -/
structure RecAt (w : World) (r : Nat) (v : Int) (A : RD Att) (B : RD Pro) : Prop where
  rec_ : w.heap[r]? = some (.cells #[.int .i64 v, .pointer (some ⟨A.g, 0, none⟩), .pointer (some ⟨B.g, 0, none⟩)] 122 (0, 0))
  a : RingA w A
  b : RingB w B
/-- The blocks of it that may turn. -/
def FR (A : RD Att) (B : RD Pro) : Nat → Prop := fun j => j = A.g ∨ j = A.s ∨ j = B.g ∨ j = B.s
section
variable {w w' : World} {r : Nat} {v : Int} {A A' : RD Att} {B B' : RD Pro} {M : Nat → Prop}
theorem RecAt.mono (h : RecAt w r v A B) (hc : ∀ (j : Nat) (cs : Array Value) (T : TypeId), (FR A B j ∨ T = 28 ∨ T = 37 ∨ T = 122) → w.heap[j]? = some (.cells cs T (0, 0)) → w'.heap[j]? = some (.cells cs T (0, 0))) : RecAt w' r v A B :=
  ⟨hc _ _ _ (.inr (.inr (.inr rfl))) h.rec_, h.a.mono fun j cs T hj => hc j cs T (by rcases hj with h | h | h; exact .inl (.inl h); exact .inl (.inr (.inl h)); exact .inr (.inl h)),
    h.b.mono fun j cs T hj => hc j cs T (by rcases hj with h | h | h; exact .inl (.inr (.inr (.inl h))); exact .inl (.inr (.inr (.inr h))); exact .inr (.inr (.inl h)))⟩
theorem RecAt.keepsN (h : RecAt w r v A B) (k : Keeps Nob w w') : RecAt w' r v A B := h.mono fun _ _ _ _ e => k.bk e
/-- No block of a record's that turns is of another type. -/
theorem RecAt.odd (h : RecAt w r v A B) {T : TypeId} (h1 : 184 ≠ T) (h2 : 185 ≠ T) (h3 : 192 ≠ T) (h4 : 168 ≠ T) : Odd w (FR A B) T := fun j cs fr hj e => by
  rcases hj with rfl | rfl | rfl | rfl
  · exact Odd.one h.a.ring h1 _ _ _ rfl e
  · exact Odd.one h.a.slots h2 _ _ _ rfl e
  · exact Odd.one h.b.ring h3 _ _ _ rfl e
  · exact Odd.one h.b.slots h4 _ _ _ rfl e
/-- Another record stays as it is. -/
theorem RecAt.other {r2 : Nat} {v2 : Int} {A2 : RD Att} {B2 : RD Pro} (h : RecAt w r v A B) (h2 : RecAt w r2 v2 A2 B2) (k : Keeps (FR A B) w w') (d : ∀ j, FR A2 B2 j → ¬ FR A B j) : RecAt w' r2 v2 A2 B2 :=
  h2.mono fun j cs T hj e => by
    rcases hj with hj | rfl | rfl | rfl
    · exact (k.block j (lt_of_block e) (d j hj)).trans e
    · exact k.odd (h.odd (by decide) (by decide) (by decide) (by decide)) e
    · exact k.odd (h.odd (by decide) (by decide) (by decide) (by decide)) e
    · exact k.odd (h.odd (by decide) (by decide) (by decide) (by decide)) e
theorem RecAt.putA (h : RecAt w r v A B) (hA : RingA w' A') (hg : A'.g = A.g) (k : Keeps (One A.s) w w') : RecAt w' r v A' B :=
  ⟨by rw [hg]; exact k.odd (Odd.one h.a.slots (by decide)) h.rec_, hA, h.b.odd k (Odd.one h.a.slots (by decide)) (Odd.one h.a.slots (by decide)) (Odd.one h.a.slots (by decide))⟩
theorem RecAt.putB (h : RecAt w r v A B) (hB : RingB w' B') (hg : B'.g = B.g) (k : Keeps (One B.s) w w') : RecAt w' r v A B' :=
  ⟨by rw [hg]; exact k.odd (Odd.one h.b.slots (by decide)) h.rec_, h.a.odd k (Odd.one h.b.slots (by decide)) (Odd.one h.b.slots (by decide)) (Odd.one h.b.slots (by decide)), hB⟩
theorem Ring.odd2 {α : Type} {ix : FuncId} {tr tp te : TypeId} {enc : α → Array Value} {key : α → Int} {ok : α → Prop} {d : RD α} {T : TypeId} (h : Ring ix tr tp te enc key ok w d) (h1 : tr ≠ T) (h2 : tp ≠ T) : Odd w (fun j => j = d.g ∨ j = d.s) T := fun j cs fr hj e => by
  rcases hj with rfl | rfl
  · exact Odd.one h.ring h1 _ _ _ rfl e
  · exact Odd.one h.slots h2 _ _ _ rfl e
theorem RecAt.moveA (h : RecAt w r v A B) (hA : RingA w' A') (hg : A'.g = A.g) (k : Keeps (fun j => j = A.g ∨ j = A.s) w w') : RecAt w' r v A' B :=
  ⟨by rw [hg]; exact k.odd (h.a.odd2 (by decide) (by decide)) h.rec_, hA, h.b.odd k (h.a.odd2 (by decide) (by decide)) (h.a.odd2 (by decide) (by decide)) (h.a.odd2 (by decide) (by decide))⟩
theorem RecAt.moveB (h : RecAt w r v A B) (hB : RingB w' B') (hg : B'.g = B.g) (k : Keeps (fun j => j = B.g ∨ j = B.s) w w') : RecAt w' r v A B' :=
  ⟨by rw [hg]; exact k.odd (h.b.odd2 (by decide) (by decide)) h.rec_, h.a.odd k (h.b.odd2 (by decide) (by decide)) (h.b.odd2 (by decide) (by decide)) (h.b.odd2 (by decide) (by decide)), hB⟩
end
/-- What stands against a vote. -/
def whoErr (v e x : Int) : Int := if e ≠ 0 then e else if x ≠ v then 2 else 0
end Go.Proofs.YthmclmbeflbhhaaGreat
namespace Go.Proofs.YthmclmbeflbhhaaGreat
set_option maxRecDepth 100000
set_option maxHeartbeats 4000000
open Go Go.RowKit Go.Own Go.Shelf
noncomputable def qc26_4 (n : Nat) : Code := partOf Tryz.f72 n
theorem qnone_rec (r : Nat) (v : Int) (A : RD Att) (B : RD Pro) (w : World) (H : RecAt w r v A B) :
  Calls Tryz.prog 72 #[pT r 0] w (fun e w' => e = .returned (.bool false) ∧ w = w') := by
 have K0 : Keeps Nob w w := Keeps.refl _ _
 refine sy_enter (qc26_4 1) ⟨fr [pT r 0] 11, []⟩ Tryz.func72 (by kernel_rfl) (by kernel_rfl) <| qr_ [0] <| pkq (.bool false) <| eqr_ [0, 1, 2, 3, 4, 5, 6, 7, 8, 9] <| pkq (pT r 0) <| pkq (.bool false) <| pkq (.bool false) <| pkq (pT r 0) <| pkq (pT r 0) <| pkq (pT r 1) <| ppq (pT A.g 0) (ldc 119 r 1 (rc (H.rec_) (by kernel_rfl))) <| pkq (.bool false) <| pkq (.bool false) <| pkq (.bool false) ?_
 refine eu_ <| so_ (.bool false) ?_
 exact ⟨rfl, rfl⟩
noncomputable def qc26_1 (n : Nat) : Code := partOf Tryz.f96 n
theorem qwhose_1 (r : Nat) (v : Int) (A : RD Att) (B : RD Pro) (e0 x : Int) (w : World) (H : RecAt w r v A B) (q1 : e0 ≠ 0) :
  Calls Tryz.prog 96 #[pT r 0, .int .i64 e0, .int .i64 x] w (fun e w' => e = .returned (.int .i64 (whoErr v e0 x)) ∧ w = w') := by
 have K0 : Keeps Nob w w := Keeps.refl _ _
 refine sy_enter (qc26_1 1) ⟨fr [pT r 0, .int .i64 e0, .int .i64 x] 18, []⟩ Tryz.func96 (by kernel_rfl) (by kernel_rfl) <| qr_ [0] <| pkq (.int .i64 0) <| eq_ <| bl_ 0 <| qr_ [0, 1, 2] <| pkq (pT r 0) ?_
 refine pcq 72 #[pT r 0] Tryz.func72 ((qnone_rec r v A B _ H).mono ?_)
 rintro e w1 ⟨rfl, rfl⟩
 refine ⟨_, rfl, ?_⟩
 refine pkq (.bool false) <| en_ <| qr_ [0, 1, 2] <| pkq (.int .i64 e0) <| ppq (.bool true) (nqt ((e0) : Int) ((0) : Int) (by omega)) <| pkq (.bool true) <| ey_ <| qr_ [0, 1] <| pkq (.int .i64 e0) <| pkq (.int .i64 e0) <| eu_ <| blk_r <| then_r <| so_ (.int .i64 e0) ?_
 exact ⟨by unfold whoErr; rw [if_pos q1], rfl⟩
theorem qwhose_2 (r : Nat) (v : Int) (A : RD Att) (B : RD Pro) (e0 x : Int) (w : World) (H : RecAt w r v A B) (q1 : e0 = 0) (q2 : x ≠ v) :
  Calls Tryz.prog 96 #[pT r 0, .int .i64 e0, .int .i64 x] w (fun e w' => e = .returned (.int .i64 (whoErr v e0 x)) ∧ w = w') := by
 have K0 : Keeps Nob w w := Keeps.refl _ _
 refine sy_enter (qc26_1 1) ⟨fr [pT r 0, .int .i64 e0, .int .i64 x] 18, []⟩ Tryz.func96 (by kernel_rfl) (by kernel_rfl) <| qr_ [0] <| pkq (.int .i64 0) <| eq_ <| bl_ 0 <| qr_ [0, 1, 2] <| pkq (pT r 0) ?_
 refine pcq 72 #[pT r 0] Tryz.func72 ((qnone_rec r v A B _ H).mono ?_)
 rintro e w1 ⟨rfl, rfl⟩
 refine ⟨_, rfl, ?_⟩
 refine pkq (.bool false) <| en_ <| qr_ [0, 1, 2] <| pkq (.int .i64 e0) <| ppq (.bool false) (nqf ((e0) : Int) ((0) : Int) (by omega)) <| pkq (.bool false) <| en_ <| qr_ [0, 1, 2, 3, 4, 5, 6] <| pkq (.int .i64 x) <| pkq (pT r 0) <| pkq (pT r 0) <| pkq (pT r 0) <| ppq (.int .i64 v) (ldc 3 r 0 (rc (H.rec_) (by kernel_rfl))) <| ppq (.bool true) (nqt ((x) : Int) ((v) : Int) (by omega)) ?_
 refine pkq (.bool true) <| ey_ <| qr_ [0] <| pkq (.int .i64 2) <| eu_ <| blk_r <| then_r <| so_ (.int .i64 2) ?_
 exact ⟨by unfold whoErr; rw [if_neg (by omega), if_pos q2], rfl⟩
theorem qwhose_3 (r : Nat) (v : Int) (A : RD Att) (B : RD Pro) (e0 x : Int) (w : World) (H : RecAt w r v A B) (q1 : e0 = 0) (q2 : x = v) :
  Calls Tryz.prog 96 #[pT r 0, .int .i64 e0, .int .i64 x] w (fun e w' => e = .returned (.int .i64 (whoErr v e0 x)) ∧ w = w') := by
 have K0 : Keeps Nob w w := Keeps.refl _ _
 refine sy_enter (qc26_1 1) ⟨fr [pT r 0, .int .i64 e0, .int .i64 x] 18, []⟩ Tryz.func96 (by kernel_rfl) (by kernel_rfl) <| qr_ [0] <| pkq (.int .i64 0) <| eq_ <| bl_ 0 <| qr_ [0, 1, 2] <| pkq (pT r 0) ?_
 refine pcq 72 #[pT r 0] Tryz.func72 ((qnone_rec r v A B _ H).mono ?_)
 rintro e w1 ⟨rfl, rfl⟩
 refine ⟨_, rfl, ?_⟩
 refine pkq (.bool false) <| en_ <| qr_ [0, 1, 2] <| pkq (.int .i64 e0) <| ppq (.bool false) (nqf ((e0) : Int) ((0) : Int) (by omega)) <| pkq (.bool false) <| en_ <| qr_ [0, 1, 2, 3, 4, 5, 6] <| pkq (.int .i64 x) <| pkq (pT r 0) <| pkq (pT r 0) <| pkq (pT r 0) <| ppq (.int .i64 v) (ldc 3 r 0 (rc (H.rec_) (by kernel_rfl))) <| ppq (.bool false) (nqf ((x) : Int) ((v) : Int) (by omega)) ?_
 refine pkq (.bool false) <| en_ <| s_ <| blk_n <| tqr_ [0] <| pkq (.int .i64 0) <| eu_ <| so_ (.int .i64 0) ?_
 exact ⟨by unfold whoErr; rw [if_neg (by omega), if_neg (by omega)], rfl⟩
theorem qwhose_ok (r : Nat) (v : Int) (A : RD Att) (B : RD Pro) (e0 x : Int) (w : World) (H : RecAt w r v A B) : Calls Tryz.prog 96 #[pT r 0, .int .i64 e0, .int .i64 x] w (fun e w' => e = .returned (.int .i64 (whoErr v e0 x)) ∧ w = w') := by
 by_cases q1 : e0 = 0
 ·by_cases q2 : x = v
  ·exact qwhose_3 r v A B e0 x w H q1 q2
  ·exact qwhose_2 r v A B e0 x w H q1 q2
 ·exact qwhose_1 r v A B e0 x w H q1
noncomputable def qc26_7 (n : Nat) : Code := partOf Tryz.f50 n
theorem qPut_bad (r : Nat) (v : Int) (A : RD Att) (B : RD Pro) (a : Att) (w : World) (H : RecAt w r v A B) (ha : a.Ok) (hE : (whoErr v a.err a.v) ≠ 0) :
  Calls Tryz.prog 50 #[pT r 0, .agg (Att.c a)] w (fun e w' => e = .returned (.int .i64 (whoErr v a.err a.v)) ∧ Keeps Nob w w') := by
 have K0 : Keeps Nob w w := Keeps.refl _ _
 refine sy_enter (qc26_7 1) ⟨fr [pT r 0, .agg (Att.c a)] 19, []⟩ Tryz.func50 (by kernel_rfl) (by kernel_rfl) <| qr_ [0, 1] <| pbx 28 ((Att.c a)) (.agg (Att.c a)) fun V1 p ep h2 kV1 => ?_
 have n3 : r < p := ep ▸ lt_of_block H.rec_
 have n4 := nk ep K0
 have h6 : RecAt V1 r v A B := H.keepsN kV1
 have K7 := K0.nn kV1
 have z8 := kV1.size
 refine pkq (.int .i64 0) <| eq_ <| q_ <| sy_np <| sy_reg <| an_begin 1 7 (opsAt (qc26_7 12)) (fun W => (W.heap[p]? = some (.cells (Att.c a) 28 (0, 0)))) #[false, false, false, false, false, false, false] (by kernel_rfl) (by kernel_rfl) (by kernel_rfl) (by kernel_rfl) ?_
 obtain ⟨V9, eV9, kV9⟩ := drew_step V1
 rw [eV9]
 clear eV9
 have h11 : RecAt V9 r v A B := h6.keepsN kV9
 have ⟨K13, z14, h12⟩ := kV9.z1 K7 h2
 refine akq 0 (pT r 0) h12 <| avq 1 (.agg (Att.c a)) (fun W hS => ldr 28 p (hS) (by rw [Att.c_size _ ha.r]; kernel_rfl)) h12 <| akq 3 (pT p 0) h12 <| avq 4 (.int .i64 a.v) (fun W hS => ldc 3 p 0 (rc (hS) (Att.c_0 _))) h12 <| an_o 2 ?_
 refine ncq 46 #[.agg (Att.c a)] Tryz.func46 ((vCheck_ok a _ ha.r).mono ?_)
 rintro e V15 ⟨rfl, kV15⟩
 refine ⟨_, rfl, ?_⟩
 have h17 : RecAt V15 r v A B := h11.keepsN kV15
 have ⟨K19, z20, h18⟩ := kV15.z1 K13 h12
 refine ⟨h18, ?_⟩
 refine an_o 5 ?_
 refine ncq 96 #[pT r 0, .int .i64 a.err, .int .i64 a.v] Tryz.func96 ((qwhose_ok r v A B _ _ _ h17).mono ?_)
 rintro e w1 ⟨rfl, rfl⟩
 refine ⟨_, rfl, ?_⟩
 refine ⟨h18, ?_⟩
 refine an_o 6 <| nrq (.int .i64 (whoErr v a.err a.v)) (w' := V15) (by kernel_rfl) ?_
 refine ⟨h18, ?_⟩
 refine an_end (by kernel_rfl) <| tqr_ [0, 1] <| pkq (.int .i64 (whoErr v a.err a.v)) <| ppq (.bool true) (nqt ((whoErr v a.err a.v) : Int) ((0) : Int) (by omega)) <| ey_ <| qr_ [0, 1] <| pkq (.int .i64 (whoErr v a.err a.v)) <| pkq (.int .i64 (whoErr v a.err a.v)) <| eu_ <| then_r <| so_ (.int .i64 (whoErr v a.err a.v)) ?_
 exact ⟨rfl, K19⟩
theorem qPut_fine (r : Nat) (v : Int) (A : RD Att) (B : RD Pro) (a : Att) (w : World) (H : RecAt w r v A B) (ha : a.Ok) (hE : (whoErr v a.err a.v) = 0) :
  Calls Tryz.prog 50 #[pT r 0, .agg (Att.c a)] w (fun e w' => e = .returned (.int .i64 (gputErr A a.t)) ∧ ((gputErr A a.t) ≠ 0 → RecAt w' r v A B) ∧ ((gputErr A a.t) = 0 → ∃ S', RecAt w' r v { A with V := upV A.V a.t a, S := S' } B) ∧ Keeps (One A.s) w w') := by
 have K0 : Keeps ((One A.s)) w w := Keeps.refl _ _
 refine sy_enter (qc26_7 1) ⟨fr [pT r 0, .agg (Att.c a)] 19, []⟩ Tryz.func50 (by kernel_rfl) (by kernel_rfl) <| qr_ [0, 1] <| pbx 28 ((Att.c a)) (.agg (Att.c a)) fun V21 p ep h22 kV21 => ?_
 have n23 : r < p := ep ▸ lt_of_block H.rec_
 have n24 := nk ep K0
 have h25 := kV21.bk H.rec_
 have h26 : RecAt V21 r v A B := H.keepsN kV21
 have K27 := K0.nn kV21
 have z28 := kV21.size
 refine pkq (.int .i64 0) <| eq_ <| q_ <| sy_np <| sy_reg <| an_begin 1 7 (opsAt (qc26_7 12)) (fun W => (W.heap[p]? = some (.cells (Att.c a) 28 (0, 0)))) #[false, false, false, false, false, false, false] (by kernel_rfl) (by kernel_rfl) (by kernel_rfl) (by kernel_rfl) ?_
 obtain ⟨V29, eV29, kV29⟩ := drew_step V21
 rw [eV29]
 clear eV29
 have h30 := kV29.bk h25
 have h31 : RecAt V29 r v A B := h26.keepsN kV29
 have ⟨K33, z34, h32⟩ := kV29.z1 K27 h22
 refine akq 0 (pT r 0) h32 <| avq 1 (.agg (Att.c a)) (fun W hS => ldr 28 p (hS) (by rw [Att.c_size _ ha.r]; kernel_rfl)) h32 <| akq 3 (pT p 0) h32 <| avq 4 (.int .i64 a.v) (fun W hS => ldc 3 p 0 (rc (hS) (Att.c_0 _))) h32 <| an_o 2 ?_
 refine ncq 46 #[.agg (Att.c a)] Tryz.func46 ((vCheck_ok a _ ha.r).mono ?_)
 rintro e V35 ⟨rfl, kV35⟩
 refine ⟨_, rfl, ?_⟩
 have h36 := kV35.bk h30
 have h37 : RecAt V35 r v A B := h31.keepsN kV35
 have ⟨K39, z40, h38⟩ := kV35.z1 K33 h32
 refine ⟨h38, ?_⟩
 refine an_o 5 ?_
 refine ncq 96 #[pT r 0, .int .i64 a.err, .int .i64 a.v] Tryz.func96 ((qwhose_ok r v A B _ _ _ h37).mono ?_)
 rintro e w1 ⟨rfl, rfl⟩
 refine ⟨_, rfl, ?_⟩
 refine ⟨h38, ?_⟩
 refine an_o 6 <| nrq (.int .i64 (whoErr v a.err a.v)) (w' := V35) (by kernel_rfl) ?_
 refine ⟨h38, ?_⟩
 refine an_end (by kernel_rfl) <| tqr_ [0, 1] <| pkq (.int .i64 (whoErr v a.err a.v)) <| ppq (.bool false) (nqf ((whoErr v a.err a.v) : Int) ((0) : Int) (by omega)) <| en_ <| s_ <| tq_ <| sy_np <| sy_reg <| an_begin 4 7 (opsAt (qc26_7 14)) (fun W => (W.heap[p]? = some (.cells (Att.c a) 28 (0, 0))) ∧ (W.heap[r]? = some (.cells (#[.int .i64 v, pT A.g 0, pT B.g 0]) 122 (0, 0)))) #[false, false, false, false, false, false, false] (by kernel_rfl) (by kernel_rfl) (by kernel_rfl) (by kernel_rfl) ?_
 obtain ⟨V41, eV41, kV41⟩ := drew_step V35
 rw [eV41]
 clear eV41
 have h42 := kV41.bk h36
 have h43 : RecAt V41 r v A B := h37.keepsN kV41
 have ⟨K45, z46, h44⟩ := kV41.z1 K39 h38
 refine akq 0 (pT r 0) ⟨h44, h42⟩ <| akq 1 (pT r 0) ⟨h44, h42⟩ <| akq 2 (pT r 1) ⟨h44, h42⟩ <| avq 3 (pT A.g 0) (fun W hS => ldc 119 r 1 (rc (hS.2) (by kernel_rfl))) ⟨h44, h42⟩ <| avq 4 (.agg (Att.c a)) (fun W hS => ldr 28 p (hS.1) (by rw [Att.c_size _ ha.r]; kernel_rfl)) ⟨h44, h42⟩ <| an_o 5 ?_
 have Hp := h43
 have np_ : p ≠ A.s := fun e => Odd.one Hp.a.slots (by decide) _ _ _ e h44
 have nr_ : r ≠ A.s := fun e => Odd.one Hp.a.slots (by decide) _ _ _ e h42
 refine ncq 97 #[pT A.g 0, .agg (Att.c a)] Tryz.func97 ((gput_ok A a _ Hp.a ha).mono ?_)
 rintro e V47 ⟨rfl, hb, hg, kV47⟩
 have kq := kV47
 refine ⟨_, rfl, ?_⟩
 have ⟨h48, h49⟩ := kV47.ko2 h42 h44
 have K50 : Keeps ((One A.s)) w V47 := K45.then kV47 (fun i hi hm => by unfold Own.One at hm; subst hm; exact rfl)
 have z51 := kV47.size
 refine ⟨⟨h49, h48⟩, ?_⟩
 refine an_o 6 <| nrq (.int .i64 (gputErr A a.t)) (w' := V47) (by kernel_rfl) ?_
 refine ⟨⟨h49, h48⟩, ?_⟩
 refine an_end (by kernel_rfl) <| then_n <| u_ <| so_ (.int .i64 (gputErr A a.t)) ?_
 exact ⟨rfl, fun h => RecAt.putA Hp (hb h) rfl kq, fun h => let ⟨S', hr⟩ := hg h; ⟨S', RecAt.putA Hp hr rfl kq⟩, K50⟩
def qPutErr (v : Int) (A : RD Att) (a : Att) : Int := if (whoErr v a.err a.v) ≠ 0 then (whoErr v a.err a.v) else (gputErr A a.t)
theorem qPut_ok (r : Nat) (v : Int) (A : RD Att) (B : RD Pro) (a : Att) (w : World) (H : RecAt w r v A B) (ha : a.Ok) : Calls Tryz.prog 50 #[pT r 0, .agg (Att.c a)] w fun e w' => e = .returned (.int .i64 (qPutErr v A a)) ∧ (qPutErr v A a ≠ 0 → RecAt w' r v A B) ∧ (qPutErr v A a = 0 → ∃ S', RecAt w' r v { A with V := upV A.V a.t a, S := S' } B) ∧ Keeps (One A.s) w w' := by
 unfold qPutErr
 by_cases hE : (whoErr v a.err a.v) = 0
 ·rw [if_neg (by omega)]; exact qPut_fine r v A B a w H ha hE
 ·rw [if_pos hE]; exact (qPut_bad r v A B a w H ha hE).mono fun e w' ⟨he, k⟩ => ⟨he, fun _ => H.keepsN k, fun h => absurd h hE, k.mono (fun _ _ x => x.elim)⟩
noncomputable def qc26_0 (n : Nat) : Code := partOf Tryz.f54 n
theorem qPutBlock_bad (r : Nat) (v : Int) (A : RD Att) (B : RD Pro) (a : Pro) (w : World) (H : RecAt w r v A B) (ha : a.Ok) (hE : (whoErr v a.err a.v) ≠ 0) :
  Calls Tryz.prog 54 #[pT r 0, .agg (Pro.c a)] w (fun e w' => e = .returned (.int .i64 (whoErr v a.err a.v)) ∧ Keeps Nob w w') := by
 have K0 : Keeps Nob w w := Keeps.refl _ _
 refine sy_enter (qc26_0 1) ⟨fr [pT r 0, .agg (Pro.c a)] 19, []⟩ Tryz.func54 (by kernel_rfl) (by kernel_rfl) <| qr_ [0, 1] <| pbx 37 ((Pro.c a)) (.agg (Pro.c a)) fun V1 p ep h2 kV1 => ?_
 have n3 : r < p := ep ▸ lt_of_block H.rec_
 have n4 := nk ep K0
 have h6 : RecAt V1 r v A B := H.keepsN kV1
 have K7 := K0.nn kV1
 have z8 := kV1.size
 refine pkq (.int .i64 0) <| eq_ <| q_ <| sy_np <| sy_reg <| an_begin 1 7 (opsAt (qc26_0 12)) (fun W => (W.heap[p]? = some (.cells (Pro.c a) 37 (0, 0)))) #[false, false, false, false, false, false, false] (by kernel_rfl) (by kernel_rfl) (by kernel_rfl) (by kernel_rfl) ?_
 obtain ⟨V9, eV9, kV9⟩ := drew_step V1
 rw [eV9]
 clear eV9
 have h11 : RecAt V9 r v A B := h6.keepsN kV9
 have ⟨K13, z14, h12⟩ := kV9.z1 K7 h2
 refine akq 0 (pT r 0) h12 <| avq 1 (.agg (Pro.c a)) (fun W hS => ldr 37 p (hS) (by rw [Pro.c_size _ ha.r]; kernel_rfl)) h12 <| akq 3 (pT p 0) h12 <| avq 4 (.int .i64 a.v) (fun W hS => ldc 3 p 0 (rc (hS) (Pro.c_0 _))) h12 <| an_o 2 ?_
 refine ncq 51 #[.agg (Pro.c a)] Tryz.func51 ((vCheckBlock_ok a _ ha.r).mono ?_)
 rintro e V15 ⟨rfl, kV15⟩
 refine ⟨_, rfl, ?_⟩
 have h17 : RecAt V15 r v A B := h11.keepsN kV15
 have ⟨K19, z20, h18⟩ := kV15.z1 K13 h12
 refine ⟨h18, ?_⟩
 refine an_o 5 ?_
 refine ncq 96 #[pT r 0, .int .i64 a.err, .int .i64 a.v] Tryz.func96 ((qwhose_ok r v A B _ _ _ h17).mono ?_)
 rintro e w1 ⟨rfl, rfl⟩
 refine ⟨_, rfl, ?_⟩
 refine ⟨h18, ?_⟩
 refine an_o 6 <| nrq (.int .i64 (whoErr v a.err a.v)) (w' := V15) (by kernel_rfl) ?_
 refine ⟨h18, ?_⟩
 refine an_end (by kernel_rfl) <| tqr_ [0, 1] <| pkq (.int .i64 (whoErr v a.err a.v)) <| ppq (.bool true) (nqt ((whoErr v a.err a.v) : Int) ((0) : Int) (by omega)) <| ey_ <| qr_ [0, 1] <| pkq (.int .i64 (whoErr v a.err a.v)) <| pkq (.int .i64 (whoErr v a.err a.v)) <| eu_ <| then_r <| so_ (.int .i64 (whoErr v a.err a.v)) ?_
 exact ⟨rfl, K19⟩
theorem qPutBlock_fine (r : Nat) (v : Int) (A : RD Att) (B : RD Pro) (a : Pro) (w : World) (H : RecAt w r v A B) (ha : a.Ok) (hE : (whoErr v a.err a.v) = 0) :
  Calls Tryz.prog 54 #[pT r 0, .agg (Pro.c a)] w (fun e w' => e = .returned (.int .i64 (gputBErr B a.h)) ∧ ((gputBErr B a.h) ≠ 0 → RecAt w' r v A B) ∧ ((gputBErr B a.h) = 0 → ∃ S', RecAt w' r v A { B with V := upV B.V a.h a, S := S' }) ∧ Keeps (One B.s) w w') := by
 have K0 : Keeps ((One B.s)) w w := Keeps.refl _ _
 refine sy_enter (qc26_0 1) ⟨fr [pT r 0, .agg (Pro.c a)] 19, []⟩ Tryz.func54 (by kernel_rfl) (by kernel_rfl) <| qr_ [0, 1] <| pbx 37 ((Pro.c a)) (.agg (Pro.c a)) fun V21 p ep h22 kV21 => ?_
 have n23 : r < p := ep ▸ lt_of_block H.rec_
 have n24 := nk ep K0
 have h25 := kV21.bk H.rec_
 have h26 : RecAt V21 r v A B := H.keepsN kV21
 have K27 := K0.nn kV21
 have z28 := kV21.size
 refine pkq (.int .i64 0) <| eq_ <| q_ <| sy_np <| sy_reg <| an_begin 1 7 (opsAt (qc26_0 12)) (fun W => (W.heap[p]? = some (.cells (Pro.c a) 37 (0, 0)))) #[false, false, false, false, false, false, false] (by kernel_rfl) (by kernel_rfl) (by kernel_rfl) (by kernel_rfl) ?_
 obtain ⟨V29, eV29, kV29⟩ := drew_step V21
 rw [eV29]
 clear eV29
 have h30 := kV29.bk h25
 have h31 : RecAt V29 r v A B := h26.keepsN kV29
 have ⟨K33, z34, h32⟩ := kV29.z1 K27 h22
 refine akq 0 (pT r 0) h32 <| avq 1 (.agg (Pro.c a)) (fun W hS => ldr 37 p (hS) (by rw [Pro.c_size _ ha.r]; kernel_rfl)) h32 <| akq 3 (pT p 0) h32 <| avq 4 (.int .i64 a.v) (fun W hS => ldc 3 p 0 (rc (hS) (Pro.c_0 _))) h32 <| an_o 2 ?_
 refine ncq 51 #[.agg (Pro.c a)] Tryz.func51 ((vCheckBlock_ok a _ ha.r).mono ?_)
 rintro e V35 ⟨rfl, kV35⟩
 refine ⟨_, rfl, ?_⟩
 have h36 := kV35.bk h30
 have h37 : RecAt V35 r v A B := h31.keepsN kV35
 have ⟨K39, z40, h38⟩ := kV35.z1 K33 h32
 refine ⟨h38, ?_⟩
 refine an_o 5 ?_
 refine ncq 96 #[pT r 0, .int .i64 a.err, .int .i64 a.v] Tryz.func96 ((qwhose_ok r v A B _ _ _ h37).mono ?_)
 rintro e w1 ⟨rfl, rfl⟩
 refine ⟨_, rfl, ?_⟩
 refine ⟨h38, ?_⟩
 refine an_o 6 <| nrq (.int .i64 (whoErr v a.err a.v)) (w' := V35) (by kernel_rfl) ?_
 refine ⟨h38, ?_⟩
 refine an_end (by kernel_rfl) <| tqr_ [0, 1] <| pkq (.int .i64 (whoErr v a.err a.v)) <| ppq (.bool false) (nqf ((whoErr v a.err a.v) : Int) ((0) : Int) (by omega)) <| en_ <| s_ <| tq_ <| sy_np <| sy_reg <| an_begin 4 7 (opsAt (qc26_0 14)) (fun W => (W.heap[p]? = some (.cells (Pro.c a) 37 (0, 0))) ∧ (W.heap[r]? = some (.cells (#[.int .i64 v, pT A.g 0, pT B.g 0]) 122 (0, 0)))) #[false, false, false, false, false, false, false] (by kernel_rfl) (by kernel_rfl) (by kernel_rfl) (by kernel_rfl) ?_
 obtain ⟨V41, eV41, kV41⟩ := drew_step V35
 rw [eV41]
 clear eV41
 have h42 := kV41.bk h36
 have h43 : RecAt V41 r v A B := h37.keepsN kV41
 have ⟨K45, z46, h44⟩ := kV41.z1 K39 h38
 refine akq 0 (pT r 0) ⟨h44, h42⟩ <| akq 1 (pT r 0) ⟨h44, h42⟩ <| akq 2 (pT r 2) ⟨h44, h42⟩ <| avq 3 (pT B.g 0) (fun W hS => ldc 120 r 2 (rc (hS.2) (by kernel_rfl))) ⟨h44, h42⟩ <| avq 4 (.agg (Pro.c a)) (fun W hS => ldr 37 p (hS.1) (by rw [Pro.c_size _ ha.r]; kernel_rfl)) ⟨h44, h42⟩ <| an_o 5 ?_
 have Hp := h43
 have np_ : p ≠ B.s := fun e => Odd.one Hp.b.slots (by decide) _ _ _ e h44
 have nr_ : r ≠ B.s := fun e => Odd.one Hp.b.slots (by decide) _ _ _ e h42
 refine ncq 99 #[pT B.g 0, .agg (Pro.c a)] Tryz.func99 ((gputB_ok B a _ Hp.b ha).mono ?_)
 rintro e V47 ⟨rfl, hb, hg, kV47⟩
 have kq := kV47
 refine ⟨_, rfl, ?_⟩
 have ⟨h48, h49⟩ := kV47.ko2 h42 h44
 have K50 : Keeps ((One B.s)) w V47 := K45.then kV47 (fun i hi hm => by unfold Own.One at hm; subst hm; exact rfl)
 have z51 := kV47.size
 refine ⟨⟨h49, h48⟩, ?_⟩
 refine an_o 6 <| nrq (.int .i64 (gputBErr B a.h)) (w' := V47) (by kernel_rfl) ?_
 refine ⟨⟨h49, h48⟩, ?_⟩
 refine an_end (by kernel_rfl) <| then_n <| u_ <| so_ (.int .i64 (gputBErr B a.h)) ?_
 exact ⟨rfl, fun h => RecAt.putB Hp (hb h) rfl kq, fun h => let ⟨S', hr⟩ := hg h; ⟨S', RecAt.putB Hp hr rfl kq⟩, K50⟩
def qPutBlockErr (v : Int) (B : RD Pro) (a : Pro) : Int := if (whoErr v a.err a.v) ≠ 0 then (whoErr v a.err a.v) else (gputBErr B a.h)
theorem qPutBlock_ok (r : Nat) (v : Int) (A : RD Att) (B : RD Pro) (a : Pro) (w : World) (H : RecAt w r v A B) (ha : a.Ok) : Calls Tryz.prog 54 #[pT r 0, .agg (Pro.c a)] w fun e w' => e = .returned (.int .i64 (qPutBlockErr v B a)) ∧ (qPutBlockErr v B a ≠ 0 → RecAt w' r v A B) ∧ (qPutBlockErr v B a = 0 → ∃ S', RecAt w' r v A { B with V := upV B.V a.h a, S := S' }) ∧ Keeps (One B.s) w w' := by
 unfold qPutBlockErr
 by_cases hE : (whoErr v a.err a.v) = 0
 ·rw [if_neg (by omega)]; exact qPutBlock_fine r v A B a w H ha hE
 ·rw [if_pos hE]; exact (qPutBlock_bad r v A B a w H ha hE).mono fun e w' ⟨he, k⟩ => ⟨he, fun _ => H.keepsN k, fun h => absurd h hE, k.mono (fun _ _ x => x.elim)⟩
noncomputable def part_qAt (n : Nat) : Code := partOf Tryz.f84 n
theorem qAt_no (r : Nat) (v : Int) (A : RD Att) (B : RD Pro) (i : Int) (w : World) (H : RecAt w r v A B) (hs : slotOf A i = none) :
  Calls Tryz.prog 84 #[pT r 0, .int .i64 i] w (fun e w' => e = .returned (.tuple #[.agg (Att.c zAtt), .bool false]) ∧ Keeps Nob w w') := by
 have K0 : Keeps Nob w w := Keeps.refl _ _
 refine sy_enter (part_qAt 1) ⟨fr [pT r 0, .int .i64 i] 24, []⟩ Tryz.func84 (by kernel_rfl) (by kernel_rfl) <| qr_ [0, 1] <| pal 28 (zl1_) (.agg (zl1_)) fun V1 g eg h2 kV1 => ?_
 have n3 : r < g := eg ▸ lt_of_block H.rec_
 have n4 := nk eg K0
 have h5 := kV1.bk H.rec_
 have K6 := K0.nn kV1
 have z7 := kV1.size
 refine pkq (.bool false) <| eq_ <| qr_ [0, 1, 2, 3, 4, 5, 6, 7, 8, 9, 10] <| pkq (pT r 0) ?_
 refine pcq 72 #[pT r 0] Tryz.func72 ((qnone_rec r v A B _ (H.keepsN K6)).mono ?_)
 rintro e w1 ⟨rfl, rfl⟩
 refine ⟨_, rfl, ?_⟩
 refine pkq (.bool false) <| pkq (pT r 0) <| pkq (pT r 0) <| pkq (pT r 1) <| ppq (pT A.g 0) (ldk 119 r 1 h5) <| pkq (.int .i64 i) ?_
 refine pcq 113 #[pT A.g 0, .int .i64 i] Tryz.func113 ((gat_none _ _ (H.keepsN K6).a hs).mono ?_)
 rintro e V8 ⟨rfl, kV8⟩
 refine ⟨_, rfl, ?_⟩
 have ⟨K11, z12, h10⟩ := kV8.z1 K6 h2
 refine pkq (.bool true) <| pkq (.bool true) <| ey_ <| qr_ [0, 1, 2] <| pkq (.agg (Att.c zAtt)) <| pst 28 g ((Att.c zAtt)) h10 (by rw [Att.c_size _ zAtt_ok.r]; kernel_rfl) (by rw [Att.c_size _ zAtt_ok.r]; rfl) (Att.c_one _) fun V13 h14 kV13 => ?_
 have K16 := K11.nO kV13
 have z17 := kV13.size
 refine pkq (.bool false) <| eu_ <| then_r <| sy_out (.tuple #[.agg (Att.c zAtt), .bool false]) rfl (results_row_tmp (p := 4) (q := 5) (ty := 28) (by kernel_rfl) _ _ g 28 (Att.c zAtt) (0, 0) _ (.bool false) (by kernel_rfl) h14 Tryz.underlying28 rfl (by rw [Att.c_size _ zAtt_ok.r]; kernel_rfl) (by kernel_rfl)) ?_
 exact ⟨rfl, K16⟩
theorem qAt_yes (r : Nat) (v : Int) (A : RD Att) (B : RD Pro) (i : Int) (a : Att) (p : Nat) (w : World) (H : RecAt w r v A B) (ha : a.Ok) (hs : slotOf A i = some p) (hp : w.heap[p]? = some (.cells (Att.c a) 28 (0, 0))) :
  Calls Tryz.prog 84 #[pT r 0, .int .i64 i] w (fun e w' => e = .returned (.tuple #[.agg (Att.c a), .bool true]) ∧ Keeps Nob w w') := by
 have K0 : Keeps Nob w w := Keeps.refl _ _
 refine sy_enter (part_qAt 1) ⟨fr [pT r 0, .int .i64 i] 24, []⟩ Tryz.func84 (by kernel_rfl) (by kernel_rfl) <| qr_ [0, 1] <| pal 28 (zl1_) (.agg (zl1_)) fun V18 g eg h19 kV18 => ?_
 have n20 : r < g := eg ▸ lt_of_block H.rec_
 have n21 := nl eg hp
 have n22 := nk eg K0
 have h23 := kV18.bk H.rec_
 have ⟨K25, z26, h24⟩ := kV18.z1 K0 hp
 refine pkq (.bool false) <| eq_ <| qr_ [0, 1, 2, 3, 4, 5, 6, 7, 8, 9, 10] <| pkq (pT r 0) ?_
 refine pcq 72 #[pT r 0] Tryz.func72 ((qnone_rec r v A B _ (H.keepsN K25)).mono ?_)
 rintro e w1 ⟨rfl, rfl⟩
 refine ⟨_, rfl, ?_⟩
 refine pkq (.bool false) <| pkq (pT r 0) <| pkq (pT r 0) <| pkq (pT r 1) <| ppq (pT A.g 0) (ldk 119 r 1 h23) <| pkq (.int .i64 i) ?_
 refine pcq 113 #[pT A.g 0, .int .i64 i] Tryz.func113 ((gat_some _ p _ (H.keepsN K25).a hs).mono ?_)
 rintro e V27 ⟨rfl, kV27⟩
 refine ⟨_, rfl, ?_⟩
 have ⟨K31, z32, h28, h29, h30⟩ := kV27.z3 K25 h23 h24 h19
 refine pkq (.bool false) <| pkq (.bool false) <| en_ <| s_ <| tqr_ [0, 1, 2, 3, 4, 5, 6, 7, 8, 9] <| pkq (pT r 0) <| pkq (pT r 0) <| pkq (pT r 1) <| ppq (pT A.g 0) (ldk 119 r 1 h28) <| pkq (.int .i64 i) ?_
 refine pcq 113 #[pT A.g 0, .int .i64 i] Tryz.func113 ((gat_some _ p _ (H.keepsN K31).a hs).mono ?_)
 rintro e V33 ⟨rfl, kV33⟩
 refine ⟨_, rfl, ?_⟩
 have ⟨K37, z38, h35, h36⟩ := kV33.z2 K31 h29 h30
 refine pkq (pT p 0) <| ppq (.agg (Att.c a)) (ldr 28 p (h35) (by rw [Att.c_size _ ha.r]; kernel_rfl)) <| pst 28 g ((Att.c a)) h36 (by rw [Att.c_size _ ha.r]; kernel_rfl) (by rw [Att.c_size _ ha.r]; rfl) (Att.c_one _) fun V39 h40 kV39 => ?_
 have K43 := K37.nO kV39
 have z44 := kV39.size
 refine pkq (.bool true) <| eu_ <| sy_out (.tuple #[.agg (Att.c a), .bool true]) rfl (results_row_tmp (p := 4) (q := 5) (ty := 28) (by kernel_rfl) _ _ g 28 (Att.c a) (0, 0) _ (.bool true) (by kernel_rfl) h40 Tryz.underlying28 rfl (by rw [Att.c_size _ ha.r]; kernel_rfl) (by kernel_rfl)) ?_
 exact ⟨rfl, K43⟩
theorem qAt_ok (r : Nat) (v : Int) (A : RD Att) (B : RD Pro) (i : Int) (w : World) (H : RecAt w r v A B) : Calls Tryz.prog 84 #[pT r 0, .int .i64 i] w fun e w' => e = .returned (.tuple #[.agg (Att.c ((A.V i).getD zAtt)), .bool (A.V i).isSome]) ∧ Keeps Nob w w' := by
 rcases H.a.none_or i with ⟨hv, hs⟩ | ⟨a, p, hv, hs, hp, _, _, _, ha⟩
 ·rw [hv]; exact qAt_no r v A B i w H hs
 ·rw [hv]; exact qAt_yes r v A B i a p w H ha hs hp
noncomputable def qc26_2 (n : Nat) : Code := partOf Tryz.f52 n
theorem qBlock_no (r : Nat) (v : Int) (A : RD Att) (B : RD Pro) (i : Int) (w : World) (H : RecAt w r v A B) (hs : slotOf B i = none) :
  Calls Tryz.prog 52 #[pT r 0, .int .i64 i] w (fun e w' => e = .returned (.tuple #[.agg (Pro.c zPro), .bool false]) ∧ Keeps Nob w w') := by
 have K0 : Keeps Nob w w := Keeps.refl _ _
 refine sy_enter (qc26_2 1) ⟨fr [pT r 0, .int .i64 i] 24, []⟩ Tryz.func52 (by kernel_rfl) (by kernel_rfl) <| qr_ [0, 1] <| pal 37 (zl3_) (.agg (zl3_)) fun V1 g eg h2 kV1 => ?_
 have n3 : r < g := eg ▸ lt_of_block H.rec_
 have n4 := nk eg K0
 have h5 := kV1.bk H.rec_
 have K6 := K0.nn kV1
 have z7 := kV1.size
 refine pkq (.bool false) <| eq_ <| qr_ [0, 1, 2, 3, 4, 5, 6, 7, 8, 9, 10] <| pkq (pT r 0) ?_
 refine pcq 72 #[pT r 0] Tryz.func72 ((qnone_rec r v A B _ (H.keepsN K6)).mono ?_)
 rintro e w1 ⟨rfl, rfl⟩
 refine ⟨_, rfl, ?_⟩
 refine pkq (.bool false) <| pkq (pT r 0) <| pkq (pT r 0) <| pkq (pT r 2) <| ppq (pT B.g 0) (ldk 120 r 2 h5) <| pkq (.int .i64 i) ?_
 refine pcq 98 #[pT B.g 0, .int .i64 i] Tryz.func98 ((gatB_none _ _ (H.keepsN K6).b hs).mono ?_)
 rintro e V8 ⟨rfl, kV8⟩
 refine ⟨_, rfl, ?_⟩
 have ⟨K11, z12, h10⟩ := kV8.z1 K6 h2
 refine pkq (.bool true) <| pkq (.bool true) <| ey_ <| qr_ [0, 1, 2] <| pkq (.agg (Pro.c zPro)) <| pst 37 g ((Pro.c zPro)) h10 (by rw [Pro.c_size _ zPro_ok.r]; kernel_rfl) (by rw [Pro.c_size _ zPro_ok.r]; rfl) (Pro.c_one _) fun V13 h14 kV13 => ?_
 have K16 := K11.nO kV13
 have z17 := kV13.size
 refine pkq (.bool false) <| eu_ <| then_r <| sy_out (.tuple #[.agg (Pro.c zPro), .bool false]) rfl (results_row_tmp (p := 4) (q := 5) (ty := 37) (by kernel_rfl) _ _ g 37 (Pro.c zPro) (0, 0) _ (.bool false) (by kernel_rfl) h14 Tryz.underlying37 rfl (by rw [Pro.c_size _ zPro_ok.r]; kernel_rfl) (by kernel_rfl)) ?_
 exact ⟨rfl, K16⟩
theorem qBlock_yes (r : Nat) (v : Int) (A : RD Att) (B : RD Pro) (i : Int) (a : Pro) (p : Nat) (w : World) (H : RecAt w r v A B) (ha : a.Ok) (hs : slotOf B i = some p) (hp : w.heap[p]? = some (.cells (Pro.c a) 37 (0, 0))) :
  Calls Tryz.prog 52 #[pT r 0, .int .i64 i] w (fun e w' => e = .returned (.tuple #[.agg (Pro.c a), .bool true]) ∧ Keeps Nob w w') := by
 have K0 : Keeps Nob w w := Keeps.refl _ _
 refine sy_enter (qc26_2 1) ⟨fr [pT r 0, .int .i64 i] 24, []⟩ Tryz.func52 (by kernel_rfl) (by kernel_rfl) <| qr_ [0, 1] <| pal 37 (zl3_) (.agg (zl3_)) fun V18 g eg h19 kV18 => ?_
 have n20 : r < g := eg ▸ lt_of_block H.rec_
 have n21 := nl eg hp
 have n22 := nk eg K0
 have h23 := kV18.bk H.rec_
 have ⟨K25, z26, h24⟩ := kV18.z1 K0 hp
 refine pkq (.bool false) <| eq_ <| qr_ [0, 1, 2, 3, 4, 5, 6, 7, 8, 9, 10] <| pkq (pT r 0) ?_
 refine pcq 72 #[pT r 0] Tryz.func72 ((qnone_rec r v A B _ (H.keepsN K25)).mono ?_)
 rintro e w1 ⟨rfl, rfl⟩
 refine ⟨_, rfl, ?_⟩
 refine pkq (.bool false) <| pkq (pT r 0) <| pkq (pT r 0) <| pkq (pT r 2) <| ppq (pT B.g 0) (ldk 120 r 2 h23) <| pkq (.int .i64 i) ?_
 refine pcq 98 #[pT B.g 0, .int .i64 i] Tryz.func98 ((gatB_some _ p _ (H.keepsN K25).b hs).mono ?_)
 rintro e V27 ⟨rfl, kV27⟩
 refine ⟨_, rfl, ?_⟩
 have ⟨K31, z32, h28, h29, h30⟩ := kV27.z3 K25 h23 h24 h19
 refine pkq (.bool false) <| pkq (.bool false) <| en_ <| s_ <| tqr_ [0, 1, 2, 3, 4, 5, 6, 7, 8, 9] <| pkq (pT r 0) <| pkq (pT r 0) <| pkq (pT r 2) <| ppq (pT B.g 0) (ldk 120 r 2 h28) <| pkq (.int .i64 i) ?_
 refine pcq 98 #[pT B.g 0, .int .i64 i] Tryz.func98 ((gatB_some _ p _ (H.keepsN K31).b hs).mono ?_)
 rintro e V33 ⟨rfl, kV33⟩
 refine ⟨_, rfl, ?_⟩
 have ⟨K37, z38, h35, h36⟩ := kV33.z2 K31 h29 h30
 refine pkq (pT p 0) <| ppq (.agg (Pro.c a)) (ldr 37 p (h35) (by rw [Pro.c_size _ ha.r]; kernel_rfl)) <| pst 37 g ((Pro.c a)) h36 (by rw [Pro.c_size _ ha.r]; kernel_rfl) (by rw [Pro.c_size _ ha.r]; rfl) (Pro.c_one _) fun V39 h40 kV39 => ?_
 have K43 := K37.nO kV39
 have z44 := kV39.size
 refine pkq (.bool true) <| eu_ <| sy_out (.tuple #[.agg (Pro.c a), .bool true]) rfl (results_row_tmp (p := 4) (q := 5) (ty := 37) (by kernel_rfl) _ _ g 37 (Pro.c a) (0, 0) _ (.bool true) (by kernel_rfl) h40 Tryz.underlying37 rfl (by rw [Pro.c_size _ ha.r]; kernel_rfl) (by kernel_rfl)) ?_
 exact ⟨rfl, K43⟩
theorem qBlock_ok (r : Nat) (v : Int) (A : RD Att) (B : RD Pro) (i : Int) (w : World) (H : RecAt w r v A B) : Calls Tryz.prog 52 #[pT r 0, .int .i64 i] w fun e w' => e = .returned (.tuple #[.agg (Pro.c ((B.V i).getD zPro)), .bool (B.V i).isSome]) ∧ Keeps Nob w w' := by
 rcases H.b.none_or i with ⟨hv, hs⟩ | ⟨a, p, hv, hs, hp, _, _, _, ha⟩
 ·rw [hv]; exact qBlock_no r v A B i w H hs
 ·rw [hv]; exact qBlock_yes r v A B i a p w H ha hs hp
noncomputable def qc26_6 (n : Nat) : Code := partOf Tryz.f91 n
theorem qNew_fine (v : Int) (win blk : Nat) (w : World) (g0 : ¬ v < 0) (g1 : ¬ v ≥ 32) (g2 : ¬ win < 1) (g3 : ¬ win > 256) (g4 : ¬ blk < 1) (g5 : ¬ blk > 256000) :
  Calls Tryz.prog 91 #[.int .i64 v, .int .i64 ((win : Nat) : Int), .int .i64 ((blk : Nat) : Int)] w (fun e w' => ∃ r A B, e = .returned (.tuple #[pT r 0, .int .i64 0]) ∧ RecAt w' r v A B ∧ A.low = 0 ∧ A.n = win ∧ A.V = (fun _ => none) ∧ B.low = 1 ∧ B.n = blk ∧ B.V = (fun _ => none) ∧ (∀ j, FR A B j → w.heap.size ≤ j) ∧ w.heap.size ≤ r ∧ Keeps Nob w w') := by
 have K0 : Keeps Nob w w := Keeps.refl _ _
 refine sy_enter (qc26_6 1) ⟨fr [.int .i64 v, iN win, iN blk] 38, []⟩ Tryz.func91 (by kernel_rfl) (by kernel_rfl) <| qr_ [0, 1] <| pkq (.pointer none) <| pkq (.int .i64 0) <| eq_ <| qr_ [0, 1, 2, 3, 4, 5, 6, 7, 8, 9, 10, 11, 12, 13, 14, 15, 16, 17, 18, 19, 20, 21] <| pkq (.int .i64 v) <| ppq (.bool false) (dcf (((v) : Int) < ((0) : Int)) (by omega)) <| pkq (.bool false) <| pkq (.int .i64 v) <| ppq (.bool false) (dcf (((v) : Int) ≥ ((32) : Int)) (by omega)) <| pkq (.bool false) <| pkq (.bool false) <| pkq (iN win) ?_
 refine ppq (.bool false) (dcf ((((win : Nat) : Int)) < ((1) : Int)) (by omega)) <| pkq (.bool false) <| pkq (.bool false) <| pkq (iN win) <| ppq (.bool false) (dcf ((((win : Nat) : Int)) > ((256) : Int)) (by omega)) <| pkq (.bool false) <| pkq (.bool false) <| pkq (iN blk) <| ppq (.bool false) (dcf ((((blk : Nat) : Int)) < ((1) : Int)) (by omega)) <| pkq (.bool false) <| pkq (.bool false) <| pkq (iN blk) <| ppq (.bool false) (dcf ((((blk : Nat) : Int)) > ((256000) : Int)) (by omega)) <| pkq (.bool false) ?_
 refine ps_end <| sy_a ⟨fr [.int .i64 v, iN win, iN blk, ud, ud, ud, .pointer none, .int .i64 0, ud, ud, .int .i64 v, .bool false, .bool false, .int .i64 v, .bool false, .bool false, .bool false, iN win, .bool false, .bool false, .bool false, iN win, .bool false, .bool false, .bool false, iN blk, .bool false, .bool false, .bool false, iN blk, .bool false, .bool false] 9, []⟩ <| then_n <| n_ <| s_ <| tqr_ [0] <| pkq (.func (.func 124) #[] #[]) <| eqr_ [0] <| pkq (.func (.func 125) #[] #[]) <| eqr_ [0, 1, 2, 3, 4, 5, 6, 7, 8, 9, 10] <| pkq (.int .i64 v) <| pkq (iN win) <| pkq (.func (.func 124) #[] #[]) ?_
 refine pcq 126 #[iN win, .int .i64 0, .func (.func 124) #[] #[]] Tryz.func126 ((gmade_ok win 0 _ (by omega) (by omega) (by omega)).mono ?_)
 rintro e V1 ⟨ga, sa, rfl, hra, nga, nsa, kV1⟩
 have mga : w.heap.size ≤ ga := Nat.le_trans K0.size nga
 have msa : w.heap.size ≤ sa := Nat.le_trans K0.size nsa
 refine ⟨_, rfl, ?_⟩
 have K2 := K0.nn kV1
 have z3 := kV1.size
 refine pkq (iN blk) <| pkq (.func (.func 125) #[] #[]) ?_
 refine pcq 127 #[iN blk, .int .i64 1, .func (.func 125) #[] #[]] Tryz.func127 ((gmadeB_ok blk 1 _ (by omega) (by omega) (by omega)).mono ?_)
 rintro e V4 ⟨gb, sb, rfl, hrb, ngb, nsb, kV4⟩
 have mgb : w.heap.size ≤ gb := Nat.le_trans K2.size ngb
 have msb : w.heap.size ≤ sb := Nat.le_trans K2.size nsb
 refine ⟨_, rfl, ?_⟩
 have h5 : RingA V4 ⟨ga, sa, 0, win, win, fun _ => none, fun _ => none, []⟩ := hra.keepsN kV4
 have K6 := K2.nn kV4
 have z7 := kV4.size
 refine pkq (.agg #[.int .i64 v, pT ga 0, pT gb 0]) <| pbx 122 (#[.int .i64 v, pT ga 0, pT gb 0]) (.agg #[.int .i64 v, pT ga 0, pT gb 0]) fun V8 r er h9 kV8 => ?_
 have n10 := nk er K6
 have h11 : RingA V8 ⟨ga, sa, 0, win, win, fun _ => none, fun _ => none, []⟩ := h5.keepsN kV8
 have h12 : RingB V8 ⟨gb, sb, 1, blk, blk, fun _ => none, fun _ => none, []⟩ := hrb.keepsN kV8
 have K13 := K6.nn kV8
 have z14 := kV8.size
 refine pkq (pT r 0) <| pkq (.int .i64 0) <| eu_ <| so_ (.tuple #[pT r 0, .int .i64 0]) ?_
 exact ⟨r, ⟨ga, sa, 0, win, win, fun _ => none, fun _ => none, []⟩, ⟨gb, sb, 1, blk, blk, fun _ => none, fun _ => none, []⟩, rfl, ⟨h9, h11, h12⟩, rfl, rfl, rfl, rfl, rfl, rfl, fun j hj => by rcases hj with rfl | rfl | rfl | rfl <;> assumption, by omega, K13⟩
noncomputable def qc26_5 (n : Nat) : Code := partOf Tryz.f77 n
theorem qMove_bad0 (r : Nat) (v : Int) (A : RD Att) (B : RD Pro) (l f : Int) (w : World) (H : RecAt w r v A B) (g0 : l < 0) :
  Calls Tryz.prog 77 #[pT r 0, .int .i64 l, .int .i64 f] w (fun e w' => e = .returned (.int .i64 3) ∧ Keeps Nob w w') := by
 have K0 : Keeps Nob w w := Keeps.refl _ _
 refine sy_enter (qc26_5 1) ⟨fr [pT r 0, .int .i64 l, .int .i64 f] 55, []⟩ Tryz.func77 (by kernel_rfl) (by kernel_rfl) <| qr_ [0] <| pkq (.int .i64 0) <| eq_ <| bl_ 0 <| qr_ [0, 1, 2] <| pkq (pT r 0) ?_
 refine pcq 72 #[pT r 0] Tryz.func72 ((qnone_rec r v A B _ H).mono ?_)
 rintro e w1 ⟨rfl, rfl⟩
 refine ⟨_, rfl, ?_⟩
 refine pkq (.bool false) <| en_ <| qr_ [0, 1, 2, 3, 4, 5, 6, 7, 8, 9, 10, 11, 12, 13, 14] <| pkq (.int .i64 l) <| ppq (.bool true) (dct (((l) : Int) < ((0) : Int)) (by omega)) <| pkq (.bool true) <| pnq <| pnq <| pkq (.bool true) <| pkq (.bool true) <| pnq <| pnq <| pkq (.bool true) <| pkq (.bool true) ?_
 refine pnq <| pnq <| pkq (.bool true) <| pkq (.bool true) <| ey_ <| qr_ [0] <| pkq (.int .i64 3) <| eu_ <| blk_r <| then_r <| so_ (.int .i64 3) ?_
 exact ⟨rfl, K0⟩
theorem qMove_bad1 (r : Nat) (v : Int) (A : RD Att) (B : RD Pro) (l f : Int) (w : World) (H : RecAt w r v A B) (g0 : ¬ l < 0) (g1 : l > 4294967296) :
  Calls Tryz.prog 77 #[pT r 0, .int .i64 l, .int .i64 f] w (fun e w' => e = .returned (.int .i64 3) ∧ Keeps Nob w w') := by
 have K0 : Keeps Nob w w := Keeps.refl _ _
 refine sy_enter (qc26_5 1) ⟨fr [pT r 0, .int .i64 l, .int .i64 f] 55, []⟩ Tryz.func77 (by kernel_rfl) (by kernel_rfl) <| qr_ [0] <| pkq (.int .i64 0) <| eq_ <| bl_ 0 <| qr_ [0, 1, 2] <| pkq (pT r 0) ?_
 refine pcq 72 #[pT r 0] Tryz.func72 ((qnone_rec r v A B _ H).mono ?_)
 rintro e w1 ⟨rfl, rfl⟩
 refine ⟨_, rfl, ?_⟩
 refine pkq (.bool false) <| en_ <| qr_ [0, 1, 2, 3, 4, 5, 6, 7, 8, 9, 10, 11, 12, 13, 14] <| pkq (.int .i64 l) <| ppq (.bool false) (dcf (((l) : Int) < ((0) : Int)) (by omega)) <| pkq (.bool false) <| pkq (.int .i64 l) <| ppq (.bool true) (dct (((l) : Int) > ((4294967296) : Int)) (by omega)) <| pkq (.bool true) <| pkq (.bool true) <| pnq <| pnq <| pkq (.bool true) <| pkq (.bool true) ?_
 refine pnq <| pnq <| pkq (.bool true) <| pkq (.bool true) <| ey_ <| qr_ [0] <| pkq (.int .i64 3) <| eu_ <| blk_r <| then_r <| so_ (.int .i64 3) ?_
 exact ⟨rfl, K0⟩
theorem qMove_bad2 (r : Nat) (v : Int) (A : RD Att) (B : RD Pro) (l f : Int) (w : World) (H : RecAt w r v A B) (g0 : ¬ l < 0) (g1 : ¬ l > 4294967296) (g2 : f < 1) :
  Calls Tryz.prog 77 #[pT r 0, .int .i64 l, .int .i64 f] w (fun e w' => e = .returned (.int .i64 3) ∧ Keeps Nob w w') := by
 have K0 : Keeps Nob w w := Keeps.refl _ _
 refine sy_enter (qc26_5 1) ⟨fr [pT r 0, .int .i64 l, .int .i64 f] 55, []⟩ Tryz.func77 (by kernel_rfl) (by kernel_rfl) <| qr_ [0] <| pkq (.int .i64 0) <| eq_ <| bl_ 0 <| qr_ [0, 1, 2] <| pkq (pT r 0) ?_
 refine pcq 72 #[pT r 0] Tryz.func72 ((qnone_rec r v A B _ H).mono ?_)
 rintro e w1 ⟨rfl, rfl⟩
 refine ⟨_, rfl, ?_⟩
 refine pkq (.bool false) <| en_ <| qr_ [0, 1, 2, 3, 4, 5, 6, 7, 8, 9, 10, 11, 12, 13, 14] <| pkq (.int .i64 l) <| ppq (.bool false) (dcf (((l) : Int) < ((0) : Int)) (by omega)) <| pkq (.bool false) <| pkq (.int .i64 l) <| ppq (.bool false) (dcf (((l) : Int) > ((4294967296) : Int)) (by omega)) <| pkq (.bool false) <| pkq (.bool false) <| pkq (.int .i64 f) <| ppq (.bool true) (dct (((f) : Int) < ((1) : Int)) (by omega)) <| pkq (.bool true) <| pkq (.bool true) ?_
 refine pnq <| pnq <| pkq (.bool true) <| pkq (.bool true) <| ey_ <| qr_ [0] <| pkq (.int .i64 3) <| eu_ <| blk_r <| then_r <| so_ (.int .i64 3) ?_
 exact ⟨rfl, K0⟩
theorem qMove_bad3 (r : Nat) (v : Int) (A : RD Att) (B : RD Pro) (l f : Int) (w : World) (H : RecAt w r v A B) (g0 : ¬ l < 0) (g1 : ¬ l > 4294967296) (g2 : ¬ f < 1) (g3 : f > 4294967296) :
  Calls Tryz.prog 77 #[pT r 0, .int .i64 l, .int .i64 f] w (fun e w' => e = .returned (.int .i64 3) ∧ Keeps Nob w w') := by
 have K0 : Keeps Nob w w := Keeps.refl _ _
 refine sy_enter (qc26_5 1) ⟨fr [pT r 0, .int .i64 l, .int .i64 f] 55, []⟩ Tryz.func77 (by kernel_rfl) (by kernel_rfl) <| qr_ [0] <| pkq (.int .i64 0) <| eq_ <| bl_ 0 <| qr_ [0, 1, 2] <| pkq (pT r 0) ?_
 refine pcq 72 #[pT r 0] Tryz.func72 ((qnone_rec r v A B _ H).mono ?_)
 rintro e w1 ⟨rfl, rfl⟩
 refine ⟨_, rfl, ?_⟩
 refine pkq (.bool false) <| en_ <| qr_ [0, 1, 2, 3, 4, 5, 6, 7, 8, 9, 10, 11, 12, 13, 14] <| pkq (.int .i64 l) <| ppq (.bool false) (dcf (((l) : Int) < ((0) : Int)) (by omega)) <| pkq (.bool false) <| pkq (.int .i64 l) <| ppq (.bool false) (dcf (((l) : Int) > ((4294967296) : Int)) (by omega)) <| pkq (.bool false) <| pkq (.bool false) <| pkq (.int .i64 f) <| ppq (.bool false) (dcf (((f) : Int) < ((1) : Int)) (by omega)) <| pkq (.bool false) <| pkq (.bool false) ?_
 refine pkq (.int .i64 f) <| ppq (.bool true) (dct (((f) : Int) > ((4294967296) : Int)) (by omega)) <| pkq (.bool true) <| pkq (.bool true) <| ey_ <| qr_ [0] <| pkq (.int .i64 3) <| eu_ <| blk_r <| then_r <| so_ (.int .i64 3) ?_
 exact ⟨rfl, K0⟩
theorem qMove_ord1 (r : Nat) (v : Int) (A : RD Att) (B : RD Pro) (l f : Int) (w : World) (H : RecAt w r v A B) (g0 : ¬ l < 0) (g1 : ¬ l > 4294967296) (g2 : ¬ f < 1) (g3 : ¬ f > 4294967296) (q1 : l < (A.low : Int)) :
  Calls Tryz.prog 77 #[pT r 0, .int .i64 l, .int .i64 f] w (fun e w' => e = .returned (.int .i64 9) ∧ Keeps Nob w w') := by
 have K0 : Keeps Nob w w := Keeps.refl _ _
 refine sy_enter (qc26_5 1) ⟨fr [pT r 0, .int .i64 l, .int .i64 f] 55, []⟩ Tryz.func77 (by kernel_rfl) (by kernel_rfl) <| qr_ [0] <| pkq (.int .i64 0) <| eq_ <| bl_ 0 <| qr_ [0, 1, 2] <| pkq (pT r 0) ?_
 refine pcq 72 #[pT r 0] Tryz.func72 ((qnone_rec r v A B _ H).mono ?_)
 rintro e w1 ⟨rfl, rfl⟩
 refine ⟨_, rfl, ?_⟩
 refine pkq (.bool false) <| en_ <| qr_ [0, 1, 2, 3, 4, 5, 6, 7, 8, 9, 10, 11, 12, 13, 14] <| pkq (.int .i64 l) <| ppq (.bool false) (dcf (((l) : Int) < ((0) : Int)) (by omega)) <| pkq (.bool false) <| pkq (.int .i64 l) <| ppq (.bool false) (dcf (((l) : Int) > ((4294967296) : Int)) (by omega)) <| pkq (.bool false) <| pkq (.bool false) <| pkq (.int .i64 f) <| ppq (.bool false) (dcf (((f) : Int) < ((1) : Int)) (by omega)) <| pkq (.bool false) <| pkq (.bool false) ?_
 refine pkq (.int .i64 f) <| ppq (.bool false) (dcf (((f) : Int) > ((4294967296) : Int)) (by omega)) <| pkq (.bool false) <| pkq (.bool false) <| en_ <| qr_ [0, 1, 2, 3, 4, 5, 6, 7, 8, 9, 10, 11, 12, 13, 14, 15, 16, 17, 18, 19, 20] <| pkq (.int .i64 l) <| pkq (pT r 0) <| pkq (pT r 0) <| pkq (pT r 1) <| ppq (pT A.g 0) (ldc 119 r 1 (rc (H.rec_) (by kernel_rfl))) <| pkq (pT A.g 0) <| pkq (pT A.g 2) <| ppq (iN A.low) (exec_load_cell 3 (.tmp 32) (by kernel_rfl) ⟨A.g, 2, none⟩ (by kernel_rfl) _ _ Tryz.underlying3 rfl (rc (H.a.ring) (by kernel_rfl))) ?_
 refine ppq (.bool true) (dct (((l) : Int) < (((A.low : Nat) : Int))) (by omega)) <| pkq (.bool true) <| pnq <| pnq <| pnq <| pnq <| pnq <| pnq <| pnq <| pnq <| pnq <| pkq (.bool true) <| pkq (.bool true) <| ps_end ?_
 refine sy_a ⟨fr [pT r 0, .int .i64 l, .int .i64 f, ud, ud, ud, .int .i64 0, .bool false, pT r 0, .bool false, .bool false, .int .i64 l, .bool false, .bool false, .int .i64 l, .bool false, .bool false, .bool false, .int .i64 f, .bool false, .bool false, .bool false, .int .i64 f, .bool false, .bool false, .bool true, .int .i64 l, pT r 0, pT r 0, pT r 1, pT A.g 0, pT A.g 0, pT A.g 2, iN A.low, .bool true, .bool true, ud, ud, ud, ud, ud, ud, ud, ud, ud, .bool true] 12, []⟩ <| then_n <| y_ <| qr_ [0] <| pkq (.int .i64 9) <| eu_ <| blk_r <| then_r <| so_ (.int .i64 9) ?_
 exact ⟨rfl, K0⟩
theorem qMove_ord2 (r : Nat) (v : Int) (A : RD Att) (B : RD Pro) (l f : Int) (w : World) (H : RecAt w r v A B) (g0 : ¬ l < 0) (g1 : ¬ l > 4294967296) (g2 : ¬ f < 1) (g3 : ¬ f > 4294967296) (q1 : ¬ l < (A.low : Int)) (q2 : f < (B.low : Int)) :
  Calls Tryz.prog 77 #[pT r 0, .int .i64 l, .int .i64 f] w (fun e w' => e = .returned (.int .i64 9) ∧ Keeps Nob w w') := by
 have K0 : Keeps Nob w w := Keeps.refl _ _
 refine sy_enter (qc26_5 1) ⟨fr [pT r 0, .int .i64 l, .int .i64 f] 55, []⟩ Tryz.func77 (by kernel_rfl) (by kernel_rfl) <| qr_ [0] <| pkq (.int .i64 0) <| eq_ <| bl_ 0 <| qr_ [0, 1, 2] <| pkq (pT r 0) ?_
 refine pcq 72 #[pT r 0] Tryz.func72 ((qnone_rec r v A B _ H).mono ?_)
 rintro e w1 ⟨rfl, rfl⟩
 refine ⟨_, rfl, ?_⟩
 refine pkq (.bool false) <| en_ <| qr_ [0, 1, 2, 3, 4, 5, 6, 7, 8, 9, 10, 11, 12, 13, 14] <| pkq (.int .i64 l) <| ppq (.bool false) (dcf (((l) : Int) < ((0) : Int)) (by omega)) <| pkq (.bool false) <| pkq (.int .i64 l) <| ppq (.bool false) (dcf (((l) : Int) > ((4294967296) : Int)) (by omega)) <| pkq (.bool false) <| pkq (.bool false) <| pkq (.int .i64 f) <| ppq (.bool false) (dcf (((f) : Int) < ((1) : Int)) (by omega)) <| pkq (.bool false) <| pkq (.bool false) ?_
 refine pkq (.int .i64 f) <| ppq (.bool false) (dcf (((f) : Int) > ((4294967296) : Int)) (by omega)) <| pkq (.bool false) <| pkq (.bool false) <| en_ <| qr_ [0, 1, 2, 3, 4, 5, 6, 7, 8, 9, 10, 11, 12, 13, 14, 15, 16, 17, 18, 19, 20] <| pkq (.int .i64 l) <| pkq (pT r 0) <| pkq (pT r 0) <| pkq (pT r 1) <| ppq (pT A.g 0) (ldc 119 r 1 (rc (H.rec_) (by kernel_rfl))) <| pkq (pT A.g 0) <| pkq (pT A.g 2) <| ppq (iN A.low) (exec_load_cell 3 (.tmp 32) (by kernel_rfl) ⟨A.g, 2, none⟩ (by kernel_rfl) _ _ Tryz.underlying3 rfl (rc (H.a.ring) (by kernel_rfl))) ?_
 refine ppq (.bool false) (dcf (((l) : Int) < (((A.low : Nat) : Int))) (by omega)) <| pkq (.bool false) <| pkq (.int .i64 f) <| pkq (pT r 0) <| pkq (pT r 0) <| pkq (pT r 2) <| ppq (pT B.g 0) (ldc 120 r 2 (rc (H.rec_) (by kernel_rfl))) <| pkq (pT B.g 0) <| pkq (pT B.g 2) <| ppq (iN B.low) (exec_load_cell 3 (.tmp 42) (by kernel_rfl) ⟨B.g, 2, none⟩ (by kernel_rfl) _ _ Tryz.underlying3 rfl (rc (H.b.ring) (by kernel_rfl))) <| ppq (.bool true) (dct (((f) : Int) < (((B.low : Nat) : Int))) (by omega)) <| pkq (.bool true) <| pkq (.bool true) <| ps_end ?_
 refine sy_a ⟨fr [pT r 0, .int .i64 l, .int .i64 f, ud, ud, ud, .int .i64 0, .bool false, pT r 0, .bool false, .bool false, .int .i64 l, .bool false, .bool false, .int .i64 l, .bool false, .bool false, .bool false, .int .i64 f, .bool false, .bool false, .bool false, .int .i64 f, .bool false, .bool false, .bool true, .int .i64 l, pT r 0, pT r 0, pT r 1, pT A.g 0, pT A.g 0, pT A.g 2, iN A.low, .bool false, .bool false, .int .i64 f, pT r 0, pT r 0, pT r 2, pT B.g 0, pT B.g 0, pT B.g 2, iN B.low, .bool true, .bool true] 12, []⟩ <| then_n <| y_ <| qr_ [0] <| pkq (.int .i64 9) <| eu_ <| blk_r <| then_r <| so_ (.int .i64 9) ?_
 exact ⟨rfl, K0⟩
theorem qMove_fine (r : Nat) (v : Int) (A : RD Att) (B : RD Pro) (l f : Nat) (w : World) (H : RecAt w r v A B) (g1 : ¬ l > 4294967296) (g2 : ¬ f < 1) (g3 : ¬ f > 4294967296) (q1 : A.low ≤ l) (q2 : B.low ≤ f) :
  Calls Tryz.prog 77 #[pT r 0, .int .i64 ((l : Nat) : Int), .int .i64 ((f : Nat) : Int)] w (fun e w' => e = .returned (.int .i64 0) ∧ ∃ S1 S2, RecAt w' r v { A with low := l, V := mvV A.V ((l : Nat) : Int), S := S1 } { B with low := f, V := mvV B.V ((f : Nat) : Int), S := S2 } ∧ Keeps (FR A B) w w') := by
 have K0 : Keeps ((FR A B)) w w := Keeps.refl _ _
 refine sy_enter (qc26_5 1) ⟨fr [pT r 0, iN l, iN f] 55, []⟩ Tryz.func77 (by kernel_rfl) (by kernel_rfl) <| qr_ [0] <| pkq (.int .i64 0) <| eq_ <| bl_ 0 <| qr_ [0, 1, 2] <| pkq (pT r 0) ?_
 refine pcq 72 #[pT r 0] Tryz.func72 ((qnone_rec r v A B _ H).mono ?_)
 rintro e w1 ⟨rfl, rfl⟩
 refine ⟨_, rfl, ?_⟩
 refine pkq (.bool false) <| en_ <| qr_ [0, 1, 2, 3, 4, 5, 6, 7, 8, 9, 10, 11, 12, 13, 14] <| pkq (iN l) <| ppq (.bool false) (dcf ((((l : Nat) : Int)) < ((0) : Int)) (by omega)) <| pkq (.bool false) <| pkq (iN l) <| ppq (.bool false) (dcf ((((l : Nat) : Int)) > ((4294967296) : Int)) (by omega)) <| pkq (.bool false) <| pkq (.bool false) <| pkq (iN f) <| ppq (.bool false) (dcf ((((f : Nat) : Int)) < ((1) : Int)) (by omega)) <| pkq (.bool false) <| pkq (.bool false) ?_
 refine pkq (iN f) <| ppq (.bool false) (dcf ((((f : Nat) : Int)) > ((4294967296) : Int)) (by omega)) <| pkq (.bool false) <| pkq (.bool false) <| en_ <| qr_ [0, 1, 2, 3, 4, 5, 6, 7, 8, 9, 10, 11, 12, 13, 14, 15, 16, 17, 18, 19, 20] <| pkq (iN l) <| pkq (pT r 0) <| pkq (pT r 0) <| pkq (pT r 1) <| ppq (pT A.g 0) (ldc 119 r 1 (rc (H.rec_) (by kernel_rfl))) <| pkq (pT A.g 0) <| pkq (pT A.g 2) <| ppq (iN A.low) (exec_load_cell 3 (.tmp 32) (by kernel_rfl) ⟨A.g, 2, none⟩ (by kernel_rfl) _ _ Tryz.underlying3 rfl (rc (H.a.ring) (by kernel_rfl))) ?_
 refine ppq (.bool false) (dcf ((((l : Nat) : Int)) < (((A.low : Nat) : Int))) (by omega)) <| pkq (.bool false) <| pkq (iN f) <| pkq (pT r 0) <| pkq (pT r 0) <| pkq (pT r 2) <| ppq (pT B.g 0) (ldc 120 r 2 (rc (H.rec_) (by kernel_rfl))) <| pkq (pT B.g 0) <| pkq (pT B.g 2) <| ppq (iN B.low) (exec_load_cell 3 (.tmp 42) (by kernel_rfl) ⟨B.g, 2, none⟩ (by kernel_rfl) _ _ Tryz.underlying3 rfl (rc (H.b.ring) (by kernel_rfl))) <| ppq (.bool false) (dcf ((((f : Nat) : Int)) < (((B.low : Nat) : Int))) (by omega)) <| pkq (.bool false) <| pkq (.bool false) <| ps_end ?_
 refine sy_a ⟨fr [pT r 0, iN l, iN f, ud, ud, ud, .int .i64 0, .bool false, pT r 0, .bool false, .bool false, iN l, .bool false, .bool false, iN l, .bool false, .bool false, .bool false, iN f, .bool false, .bool false, .bool false, iN f, .bool false, .bool false, .bool false, iN l, pT r 0, pT r 0, pT r 1, pT A.g 0, pT A.g 0, pT A.g 2, iN A.low, .bool false, .bool false, iN f, pT r 0, pT r 0, pT r 2, pT B.g 0, pT B.g 0, pT B.g 2, iN B.low, .bool false, .bool false] 12, []⟩ <| then_n <| n_ <| s_ <| blk_n <| tqr_ [0, 1, 2, 3, 4, 5] <| pkq (pT r 0) <| pkq (pT r 0) <| pkq (pT r 1) <| ppq (pT A.g 0) (ldc 119 r 1 (rc (H.rec_) (by kernel_rfl))) <| pkq (iN l) ?_
 have Hp := H
 have nr_ : r ≠ A.g ∧ r ≠ A.s := ⟨fun e => Odd.one Hp.a.ring (by decide) _ _ _ e H.rec_, fun e => Odd.one Hp.a.slots (by decide) _ _ _ e H.rec_⟩
 refine pcq 116 #[pT A.g 0, iN l] Tryz.func116 ((gmove_ok A l _ Hp.a (by omega) (by omega)).mono ?_)
 rintro e V1 ⟨rfl, S1, hr1, kV1⟩
 have hm1 := RecAt.moveA Hp hr1 rfl kV1
 refine ⟨_, rfl, ?_⟩
 have h2 : V1.heap[r]? = some (.cells (#[.int .i64 v, pT A.g 0, pT B.g 0]) 122 (0, 0)) := (kV1.block r (lt_of_block H.rec_) (fun e => (by rcases e with e | e; exact nr_.1 e; exact nr_.2 e))).trans H.rec_
 have K3 : Keeps ((FR A B)) w V1 := K0.then kV1 (fun i hi hm => by rcases hm with h | h; exact .inl h; exact .inr (.inl h))
 have z4 := kV1.size
 refine eqr_ [0, 1, 2, 3, 4, 5] <| pkq (pT r 0) <| pkq (pT r 0) <| pkq (pT r 2) <| ppq (pT B.g 0) (ldk 120 r 2 h2) <| pkq (iN f) ?_
 have Hq := hm1
 have nq_ : r ≠ B.g ∧ r ≠ B.s := ⟨fun e => Odd.one Hq.b.ring (by decide) _ _ _ e h2, fun e => Odd.one Hq.b.slots (by decide) _ _ _ e h2⟩
 refine pcq 117 #[pT B.g 0, iN f] Tryz.func117 ((gmoveB_ok B f _ Hq.b (by omega) (by omega)).mono ?_)
 rintro e V5 ⟨rfl, S2, hr2, kV5⟩
 have hm2 := RecAt.moveB Hq hr2 rfl kV5
 refine ⟨_, rfl, ?_⟩
 have K7 : Keeps ((FR A B)) w V5 := K3.then kV5 (fun i hi hm => by rcases hm with h | h; exact .inr (.inr (.inl h)); exact .inr (.inr (.inr h)))
 have z8 := kV5.size
 refine eqr_ [0] <| pkq (.int .i64 0) <| eu_ <| so_ (.int .i64 0) ?_
 exact ⟨rfl, S1, S2, hm2, K7⟩
def qMoveErr (A : RD Att) (B : RD Pro) (l f : Int) : Int := if l < 0 ∨ l > 4294967296 ∨ f < 1 ∨ f > 4294967296 then 3 else if l < (A.low : Int) ∨ f < (B.low : Int) then 9 else 0
theorem qMove_ok (r : Nat) (v : Int) (A : RD Att) (B : RD Pro) (l f : Int) (w : World) (H : RecAt w r v A B) : Calls Tryz.prog 77 #[pT r 0, .int .i64 l, .int .i64 f] w fun e w' => e = .returned (.int .i64 (qMoveErr A B l f)) ∧ (qMoveErr A B l f ≠ 0 → RecAt w' r v A B) ∧
  (qMoveErr A B l f = 0 → ∃ S1 S2, RecAt w' r v { A with low := l.toNat, V := mvV A.V l, S := S1 } { B with low := f.toNat, V := mvV B.V f, S := S2 }) ∧ Keeps (FR A B) w w' := by
 have nob : ∀ {w' : World}, Keeps Nob w w' → Keeps (FR A B) w w' := fun k => k.mono (fun _ _ x => x.elim)
 have bad : ∀ (x : Int), qMoveErr A B l f = x → x ≠ 0 → Calls Tryz.prog 77 #[pT r 0, .int .i64 l, .int .i64 f] w (fun e w' => e = .returned (.int .i64 x) ∧ Keeps Nob w w') → _ := fun x hx q0 hc =>
  show Calls Tryz.prog 77 #[pT r 0, .int .i64 l, .int .i64 f] w (fun e w' => e = .returned (.int .i64 (qMoveErr A B l f)) ∧ (qMoveErr A B l f ≠ 0 → RecAt w' r v A B) ∧ (qMoveErr A B l f = 0 → ∃ S1 S2, RecAt w' r v { A with low := l.toNat, V := mvV A.V l, S := S1 } { B with low := f.toNat, V := mvV B.V f, S := S2 }) ∧ Keeps (FR A B) w w') from
   hc.mono fun e w' ⟨he, k⟩ => ⟨hx ▸ he, fun _ => H.keepsN k, fun h => absurd (hx ▸ h) q0, nob k⟩
 by_cases g0 : l < 0
 ·exact bad 3 (by unfold qMoveErr; rw [if_pos (by omega)]) (by decide) (qMove_bad0 r v A B l f w H g0)
 by_cases g1 : l > 4294967296
 ·exact bad 3 (by unfold qMoveErr; rw [if_pos (by omega)]) (by decide) (qMove_bad1 r v A B l f w H g0 g1)
 by_cases g2 : f < 1
 ·exact bad 3 (by unfold qMoveErr; rw [if_pos (by omega)]) (by decide) (qMove_bad2 r v A B l f w H g0 g1 g2)
 by_cases g3 : f > 4294967296
 ·exact bad 3 (by unfold qMoveErr; rw [if_pos (by omega)]) (by decide) (qMove_bad3 r v A B l f w H g0 g1 g2 g3)
 by_cases q1 : l < (A.low : Int)
 ·exact bad 9 (by unfold qMoveErr; rw [if_neg (by omega), if_pos (by omega)]) (by decide) (qMove_ord1 r v A B l f w H g0 g1 g2 g3 q1)
 by_cases q2 : f < (B.low : Int)
 ·exact bad 9 (by unfold qMoveErr; rw [if_neg (by omega), if_pos (by omega)]) (by decide) (qMove_ord2 r v A B l f w H g0 g1 g2 g3 q1 q2)
 have q0 : qMoveErr A B l f = 0 := by unfold qMoveErr; rw [if_neg (by omega), if_neg (by omega)]
 obtain ⟨l, rfl⟩ : ∃ n : Nat, l = (n : Int) := ⟨l.toNat, by omega⟩
 obtain ⟨f, rfl⟩ : ∃ n : Nat, f = (n : Int) := ⟨f.toNat, by omega⟩
 rw [q0]
 exact (qMove_fine r v A B l f w H (by omega) (by omega) (by omega) (by omega) (by omega)).mono fun e w' ⟨he, S1, S2, hr, k⟩ => ⟨he, fun h => absurd rfl h, fun _ => ⟨S1, S2, hr⟩, k⟩
end Go.Proofs.YthmclmbeflbhhaaGreat
