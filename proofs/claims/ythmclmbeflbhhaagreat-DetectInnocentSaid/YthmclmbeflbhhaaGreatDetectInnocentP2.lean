import Derived.Test.YthmclmbeflbhhaaGreatDetectInnocentP1
set_option maxRecDepth 100000
set_option maxHeartbeats 4000000
namespace Go.Proofs.YthmclmbeflbhhaaGreat
section
open Go Go.RowKit Go.Own Go.Shelf
abbrev RingA : World → RD Att → Prop := Ring 124 184 185 28 Att.c (·.t) Att.Ok
theorem a_ptr_info : (Tryz.prog.info? 185).map (fun i => (i.zero, i.size, i.bytes)) = some (some (.pointer none), 1, 8) := by kernel_rfl
noncomputable def qc19_1 (n : Nat) : Code := partOf Tryz.f124 n
theorem qidx_ok (a : Att) (w : World) (hr : a.r.length = 32) :
  Calls Tryz.prog 124 #[.agg (Att.c a)] w (fun e w' => e = .returned (.int .i64 a.t) ∧ Keeps Nob w w') := by
 have K0 : Keeps Nob w w := Keeps.refl _ _
 refine se_ (qc19_1 1) ⟨#[.agg (Att.c a), ud, ud, ud, ud], []⟩ Tryz.func124 <| qr_ [0, 1] <| pbx 28 ((Att.c a)) (.agg (Att.c a)) fun V1 p ep h2 kV1 => ?_
 have n3 := nk ep K0
 have K4 := K0.nn kV1
 have z5 := kV1.size
 refine kk 1 <| eqr_ [0, 1, 2] <| kk 1 <| ppq _ (lc (h2) (Att.c_2 _)) <| kk 1 <| eu_ <| so_ (.int .i64 a.t) ?_
 exact ⟨rfl, K4⟩
theorem qidx_as (a : Att) (t : Nat) (w : World) (hr : a.r.length = 32) (ht : a.t = ((t : Nat) : Int)) : Calls Tryz.prog 124 #[.agg (Att.c a)] w fun e w' => e = .returned (.int .i64 ((t : Nat) : Int)) ∧ Keeps Nob w w' := ht ▸ qidx_ok a w hr
noncomputable def part_gat (n : Nat) : Code := partOf Tryz.f113 n
noncomputable abbrev o_gat (n k : Nat) : Oper := (opsAt (part_gat n)).getD k default
theorem gat_low (d : RD Att) (i : Int) (w : World) (H : RingA w d) (hi : i < (d.low : Int)) :
  Calls Tryz.prog 113 #[pT d.g 0, .int .i64 i] w (fun e w' => e = .returned (.pointer none) ∧ Keeps Nob w w') := by
 have hn0 := H.n1
 have hn2 := H.n2
 have hl2 := H.l2
 have K0 : Keeps Nob w w := Keeps.refl _ _
 refine se_ (part_gat 1) ⟨fr [pT d.g 0, .int .i64 i] 36, []⟩ Tryz.func113 <| qr_ [0] <| kk 1 <| eq_ <| q_ <| sy_np <| sy_reg <| anb 20 (fun W => (HP W d.g (#[.func (.func 124) #[] #[], .slice (some ⟨d.s, 0, none⟩) d.n d.cap, .int .i64 ((d.low : Nat) : Int)]) 184)) zl4_ ?_
 obtain ⟨V1, eV1, kV1⟩ := drew_step w
 rw [eV1]
 clear eV1
 have h2 := kV1.bk H.ring
 have K4 := K0.nn kV1
 have z5 := kV1.size
 refine ka [0, 1, 2, 3] h2 <| avq 4 _ (fun W hS => lk (hS)) h2 <| avq 5 _ (fun W hS => dct (((i) : Int) < (((d.low : Nat) : Int))) (by omega)) h2 <| ka [6, 7, 8, 9, 10, 11, 12, 13] h2 ?_
 refine ka [14, 15, 16, 17, 18, 19] h2 <| ane <| then_n <| y_ <| qr_ [0] <| kk 1 <| eu_ <| then_r <| so_ (.pointer none) ?_
 exact ⟨rfl, K4⟩
theorem gat_high (d : RD Att) (i : Int) (w : World) (H : RingA w d) (hi : (d.low : Int) + d.n ≤ i) :
  Calls Tryz.prog 113 #[pT d.g 0, .int .i64 i] w (fun e w' => e = .returned (.pointer none) ∧ Keeps Nob w w') := by
 have hn0 := H.n1
 have hn2 := H.n2
 have hl2 := H.l2
 have K0 : Keeps Nob w w := Keeps.refl _ _
 refine se_ (part_gat 1) ⟨fr [pT d.g 0, .int .i64 i] 36, []⟩ Tryz.func113 <| qr_ [0] <| kk 1 <| eq_ <| q_ <| sy_np <| sy_reg <| anb 20 (fun W => (HP W d.g (#[.func (.func 124) #[] #[], .slice (some ⟨d.s, 0, none⟩) d.n d.cap, .int .i64 ((d.low : Nat) : Int)]) 184)) zl4_ ?_
 obtain ⟨V6, eV6, kV6⟩ := drew_step w
 rw [eV6]
 clear eV6
 have h7 := kV6.bk H.ring
 have K9 := K0.nn kV6
 have z10 := kV6.size
 refine ka [0, 1, 2, 3] h7 <| avq 4 _ (fun W hS => lk (hS)) h7 <| avq 5 _ (fun W hS => dcf (((i) : Int) < (((d.low : Nat) : Int))) (by omega)) h7 <| ka [6, 7, 8, 9, 10] h7 <| avq 11 _ (fun W hS => lk (hS)) h7 <| ka [12, 13] h7 ?_
 refine ka [14] h7 <| avq 15 _ (fun W hS => lk (hS)) h7 <| avq 16 _ (fun W hS => len_ (some ⟨d.s, 0, none⟩) d.n d.cap Tryz.underlying182) h7 <| avq 17 _ (fun W hS => cwN (n := d.low + d.n)) h7 <| avq 18 _ (fun W hS => dct (((i) : Int) ≥ (((d.low + d.n : Nat) : Int))) (by omega)) h7 <| ka [19] h7 <| ane <| then_n <| y_ <| qr_ [0] <| kk 1 <| eu_ <| then_r <| so_ (.pointer none) ?_
 exact ⟨rfl, K9⟩
theorem gat_in (d : RD Att) (t : Nat) (w : World) (H : RingA w d) (h1 : d.low ≤ t) (h2 : t < d.low + d.n) :
  Calls Tryz.prog 113 #[pT d.g 0, .int .i64 ((t : Nat) : Int)] w (fun e w' => e = .returned (ptrV (d.S (t % d.n))) ∧ Keeps Nob w w') := by
 have hn0 := H.n1
 have hn2 := H.n2
 have hl2 := H.l2
 have hm := Nat.mod_lt t hn0
 have K0 : Keeps Nob w w := Keeps.refl _ _
 refine se_ (part_gat 1) ⟨fr [pT d.g 0, iN t] 36, []⟩ Tryz.func113 <| qr_ [0] <| kk 1 <| eq_ <| q_ <| sy_np <| sy_reg <| anb 20 (fun W => (HP W d.g (#[.func (.func 124) #[] #[], .slice (some ⟨d.s, 0, none⟩) d.n d.cap, .int .i64 ((d.low : Nat) : Int)]) 184)) zl4_ ?_
 obtain ⟨V11, eV11, kV11⟩ := drew_step w
 rw [eV11]
 clear eV11
 have h12 := kV11.bk H.ring
 have h13 := kV11.bk H.slots
 have K14 := K0.nn kV11
 have z15 := kV11.size
 refine ka [0, 1, 2, 3] h12 <| avq 4 _ (fun W hS => lk (hS)) h12 <| avq 5 _ (fun W hS => dcf ((((t : Nat) : Int)) < (((d.low : Nat) : Int))) (by omega)) h12 <| ka [6, 7, 8, 9, 10] h12 <| avq 11 _ (fun W hS => lk (hS)) h12 <| ka [12, 13] h12 ?_
 refine ka [14] h12 <| avq 15 _ (fun W hS => lk (hS)) h12 <| avq 16 _ (fun W hS => len_ (some ⟨d.s, 0, none⟩) d.n d.cap Tryz.underlying182) h12 <| avq 17 _ (fun W hS => cwN (n := d.low + d.n)) h12 <| avq 18 _ (fun W hS => dcf ((((t : Nat) : Int)) ≥ (((d.low + d.n : Nat) : Int))) (by omega)) h12 <| ka [19] h12 <| ane <| then_n <| n_ <| s_ <| tq_ <| sy_reg <| rgs 13 (zo13_ (o_gat 14)) [o_gat 14 13] ?_
 obtain ⟨V17, eV17, kV17⟩ := drew_step V11
 rw [eV17]
 clear eV17
 have ⟨K20, z21, h18, h19⟩ := kV17.z2 K14 h12 h13
 refine ks 3 <| spq _ (lk (h18)) <| ks 4 <| spq _ (lk (h18)) <| spq _ (len_ (some ⟨d.s, 0, none⟩) d.n d.cap Tryz.underlying182) <| spq (iN (t % d.n)) (exec_rem 3 3 (.tmp 29) (.tmp 34) (by kernel_rfl) t d.n (by kernel_rfl) (by kernel_rfl) hn0) <| spq (pT d.s (t % d.n)) (exec_cast (v := pT d.s (0 + (t % d.n) * 1)) (by simp) (ixs d.s 0 d.n d.cap .i64 (t % d.n) 1 Tryz.underlying182 (by omega))) <| spq (ptrV (d.S (t % d.n))) (lc (h19) ((Slots.get (Nat.mod_lt _ hn0)).trans (congrArg some (rfl)))) <| st_end ?_
 refine ls_run (o_gat 14 13) (ptrV (d.S (t % d.n))) (w' := V17) (by kernel_rfl) (by kernel_rfl) <| ls_end <| then_n <| u_ <| so_ (ptrV (d.S (t % d.n))) ?_
 exact ⟨rfl, K20⟩
theorem gat_ok (d : RD Att) (i : Int) (w : World) (H : RingA w d) : Calls Tryz.prog 113 #[pT d.g 0, .int .i64 i] w fun e w' => e = .returned (ptrV (slotOf d i)) ∧ Keeps Nob w w' := by
 by_cases h1 : i < (d.low : Int)
 ·rw [slotOf_low i h1]; exact gat_low d i w H h1
 ·by_cases h2 : (d.low : Int) + d.n ≤ i
  ·rw [slotOf_high i h2]; exact gat_high d i w H h2
  ·obtain ⟨t, rfl⟩ : ∃ t : Nat, i = (t : Int) := ⟨i.toNat, by omega⟩
   rw [slotOf_in t (by omega) (by omega)]; exact gat_in d t w H (by omega) (by omega)
theorem gat_none {d : RD Att} (i : Int) (w : World) (H : RingA w d) (h : slotOf d i = none) : Calls Tryz.prog 113 #[pT d.g 0, .int .i64 i] w fun e w' => e = .returned (.pointer none) ∧ Keeps Nob w w' := by
 have := gat_ok d i w H; rwa [h] at this
theorem gat_some {d : RD Att} (i : Int) (p : Nat) (w : World) (H : RingA w d) (h : slotOf d i = some p) : Calls Tryz.prog 113 #[pT d.g 0, .int .i64 i] w fun e w' => e = .returned (pT p 0) ∧ Keeps Nob w w' := by
 have := gat_ok d i w H; rwa [h] at this
noncomputable def qc19_2 (n : Nat) : Code := partOf Tryz.f97 n
noncomputable abbrev qo19_2 (n k : Nat) : Oper := (opsAt (qc19_2 n)).getD k default
theorem gput_low (d : RD Att) (a : Att) (w : World) (H : RingA w d) (ha : a.Ok) (hi : a.t < (d.low : Int)) :
  Calls Tryz.prog 97 #[pT d.g 0, .agg (Att.c a)] w (fun e w' => e = .returned (.int .i64 16) ∧ Keeps Nob w w') := by
 have hn0 := H.n1
 have hn2 := H.n2
 have hl2 := H.l2
 have K0 : Keeps Nob w w := Keeps.refl _ _
 refine se_ (qc19_2 1) ⟨fr [pT d.g 0, .agg (Att.c a)] 47, []⟩ Tryz.func97 <| qr_ [0, 1] <| pbx 28 ((Att.c a)) (.agg (Att.c a)) fun V1 p ep h2 kV1 => ?_
 have n3 : d.g < p := ep ▸ lt_of_block H.ring
 have n4 := nk ep K0
 have h5 := kV1.bk H.ring
 have K6 := K0.nn kV1
 have z7 := kV1.size
 refine kk 1 <| eq_ <| sy_np <| sy_reg <| anb 7 (fun W => (HP W d.g (#[.func (.func 124) #[] #[], .slice (some ⟨d.s, 0, none⟩) d.n d.cap, .int .i64 ((d.low : Nat) : Int)]) 184) ∧ (HP W p (Att.c a) 28)) #[false, false, false, false, false, false, false] ?_
 obtain ⟨V8, eV8, kV8⟩ := drew_step V1
 rw [eV8]
 clear eV8
 have ⟨K11, z12, h9, h10⟩ := kV8.z2 K6 h5 h2
 refine ka [0, 1, 2] ⟨h9, h10⟩ <| avq 3 _ (fun W hS => lk (hS.1)) ⟨h9, h10⟩ <| avq 4 _ (fun W hS => ldr 28 p (hS.2) (by rw [Att.c_size _ ha.r]; kernel_rfl)) ⟨h9, h10⟩ <| an_o 5 ?_
 refine on_callV (qo19_2 6 5) (.tmp 9) 124 #[] #[] #[.agg (Att.c a)] (by kernel_rfl) (by kernel_rfl) (by kernel_rfl) (by kernel_rfl) (by kernel_rfl) (enters_of Tryz.func124 (by kernel_rfl) rfl) ((qidx_ok a _ ha.r).mono ?_)
 rintro e V13 ⟨rfl, kV13⟩
 refine ⟨_, rfl, ?_⟩
 have ⟨K16, z17, h14, h15⟩ := kV13.z2 K11 h9 h10
 refine ⟨⟨h14, h15⟩, ?_⟩
 refine an_o 6 <| nrq (.int .i64 a.t) (w' := V13) (by kernel_rfl) ?_
 refine ⟨⟨h14, h15⟩, ?_⟩
 refine ane <| tq_ <| bl_ 0 <| qr_ nl7_ <| kk 4 <| ppq _ (lk (h14)) <| ppq _ (dct (((a.t) : Int) < (((d.low : Nat) : Int))) (by omega)) <| kk 1 <| ey_ <| qr_ [0] <| kk 1 ?_
 refine eu_ <| blk_r <| then_r <| so_ (.int .i64 16) ?_
 exact ⟨rfl, K16⟩
theorem gput_high (d : RD Att) (a : Att) (w : World) (H : RingA w d) (ha : a.Ok) (hi : (d.low : Int) + d.n ≤ a.t) :
  Calls Tryz.prog 97 #[pT d.g 0, .agg (Att.c a)] w (fun e w' => e = .returned (.int .i64 17) ∧ Keeps Nob w w') := by
 have hn0 := H.n1
 have hn2 := H.n2
 have hl2 := H.l2
 have K0 : Keeps Nob w w := Keeps.refl _ _
 refine se_ (qc19_2 1) ⟨fr [pT d.g 0, .agg (Att.c a)] 47, []⟩ Tryz.func97 <| qr_ [0, 1] <| pbx 28 ((Att.c a)) (.agg (Att.c a)) fun V18 p ep h19 kV18 => ?_
 have n20 : d.g < p := ep ▸ lt_of_block H.ring
 have n21 := nk ep K0
 have h22 := kV18.bk H.ring
 have K23 := K0.nn kV18
 have z24 := kV18.size
 refine kk 1 <| eq_ <| sy_np <| sy_reg <| anb 7 (fun W => (HP W d.g (#[.func (.func 124) #[] #[], .slice (some ⟨d.s, 0, none⟩) d.n d.cap, .int .i64 ((d.low : Nat) : Int)]) 184) ∧ (HP W p (Att.c a) 28)) #[false, false, false, false, false, false, false] ?_
 obtain ⟨V25, eV25, kV25⟩ := drew_step V18
 rw [eV25]
 clear eV25
 have ⟨K28, z29, h26, h27⟩ := kV25.z2 K23 h22 h19
 refine ka [0, 1, 2] ⟨h26, h27⟩ <| avq 3 _ (fun W hS => lk (hS.1)) ⟨h26, h27⟩ <| avq 4 _ (fun W hS => ldr 28 p (hS.2) (by rw [Att.c_size _ ha.r]; kernel_rfl)) ⟨h26, h27⟩ <| an_o 5 ?_
 refine on_callV (qo19_2 6 5) (.tmp 9) 124 #[] #[] #[.agg (Att.c a)] (by kernel_rfl) (by kernel_rfl) (by kernel_rfl) (by kernel_rfl) (by kernel_rfl) (enters_of Tryz.func124 (by kernel_rfl) rfl) ((qidx_ok a _ ha.r).mono ?_)
 rintro e V30 ⟨rfl, kV30⟩
 refine ⟨_, rfl, ?_⟩
 have ⟨K33, z34, h31, h32⟩ := kV30.z2 K28 h26 h27
 refine ⟨⟨h31, h32⟩, ?_⟩
 refine an_o 6 <| nrq (.int .i64 a.t) (w' := V30) (by kernel_rfl) ?_
 refine ⟨⟨h31, h32⟩, ?_⟩
 refine ane <| tq_ <| bl_ 0 <| qr_ nl7_ <| kk 4 <| ppq _ (lk (h31)) <| ppq _ (dcf (((a.t) : Int) < (((d.low : Nat) : Int))) (by omega)) <| kk 1 <| en_ <| q_ <| sy_np ?_
 refine sy_reg <| anb 13 (fun W => (HP W d.g (#[.func (.func 124) #[] #[], .slice (some ⟨d.s, 0, none⟩) d.n d.cap, .int .i64 ((d.low : Nat) : Int)]) 184)) zl5_ ?_
 obtain ⟨V35, eV35, kV35⟩ := drew_step V30
 rw [eV35]
 clear eV35
 have ⟨K38, z39, h36⟩ := kV35.z1 K33 h31
 refine ka [0, 1, 2, 3] h36 <| avq 4 _ (fun W hS => lk (hS)) h36 <| ka [5, 6, 7] h36 <| avq 8 _ (fun W hS => lk (hS)) h36 <| avq 9 _ (fun W hS => len_ (some ⟨d.s, 0, none⟩) d.n d.cap Tryz.underlying182) h36 <| avq 10 _ (fun W hS => cwN (n := d.low + d.n)) h36 <| avq 11 _ (fun W hS => dct (((a.t) : Int) ≥ (((d.low + d.n : Nat) : Int))) (by omega)) h36 <| an_o 12 <| nrq (.bool true) (w' := V35) (by kernel_rfl) ?_
 refine ⟨h36, ?_⟩
 refine ane <| then_n <| y_ <| qr_ [0] <| kk 1 <| eu_ <| blk_r <| then_r <| so_ (.int .i64 17) ?_
 exact ⟨rfl, K38⟩
theorem gput_double (d : RD Att) (a : Att) (t q : Nat) (w : World) (H : RingA w d) (ha : a.Ok) (ht : a.t = ((t : Nat) : Int)) (h1 : d.low ≤ t) (h2 : t < d.low + d.n) (hs : slotOf d ((t : Nat) : Int) = some q) :
  Calls Tryz.prog 97 #[pT d.g 0, .agg (Att.c a)] w (fun e w' => e = .returned (.int .i64 8) ∧ Keeps Nob w w') := by
 have hn0 := H.n1
 have hn2 := H.n2
 have hl2 := H.l2
 have K0 : Keeps Nob w w := Keeps.refl _ _
 refine se_ (qc19_2 1) ⟨fr [pT d.g 0, .agg (Att.c a)] 47, []⟩ Tryz.func97 <| qr_ [0, 1] <| pbx 28 ((Att.c a)) (.agg (Att.c a)) fun V40 p ep h41 kV40 => ?_
 have n42 : d.g < p := ep ▸ lt_of_block H.ring
 have n43 := nk ep K0
 have h44 := kV40.bk H.ring
 have h45 : RingA V40 d := H.keepsN kV40
 have K46 := K0.nn kV40
 have z47 := kV40.size
 refine kk 1 <| eq_ <| sy_np <| sy_reg <| anb 7 (fun W => (HP W d.g (#[.func (.func 124) #[] #[], .slice (some ⟨d.s, 0, none⟩) d.n d.cap, .int .i64 ((d.low : Nat) : Int)]) 184) ∧ (HP W p (Att.c a) 28)) #[false, false, false, false, false, false, false] ?_
 obtain ⟨V48, eV48, kV48⟩ := drew_step V40
 rw [eV48]
 clear eV48
 have h49 := kV48.bk h44
 have h50 : RingA V48 d := h45.keepsN kV48
 have ⟨K52, z53, h51⟩ := kV48.z1 K46 h41
 refine ka [0, 1, 2] ⟨h49, h51⟩ <| avq 3 _ (fun W hS => lk (hS.1)) ⟨h49, h51⟩ <| avq 4 _ (fun W hS => ldr 28 p (hS.2) (by rw [Att.c_size _ ha.r]; kernel_rfl)) ⟨h49, h51⟩ <| an_o 5 ?_
 refine on_callV (qo19_2 6 5) (.tmp 9) 124 #[] #[] #[.agg (Att.c a)] (by kernel_rfl) (by kernel_rfl) (by kernel_rfl) (by kernel_rfl) (by kernel_rfl) (enters_of Tryz.func124 (by kernel_rfl) rfl) ((qidx_as a t _ ha.r ht).mono ?_)
 rintro e V54 ⟨rfl, kV54⟩
 refine ⟨_, rfl, ?_⟩
 have h55 := kV54.bk h49
 have h56 : RingA V54 d := h50.keepsN kV54
 have ⟨K58, z59, h57⟩ := kV54.z1 K52 h51
 refine ⟨⟨h55, h57⟩, ?_⟩
 refine an_o 6 <| nrq (iN t) (w' := V54) (by kernel_rfl) ?_
 refine ⟨⟨h55, h57⟩, ?_⟩
 refine ane <| tq_ <| bl_ 0 <| qr_ nl7_ <| kk 4 <| ppq _ (lk (h55)) <| ppq _ (dcf ((((t : Nat) : Int)) < (((d.low : Nat) : Int))) (by omega)) <| kk 1 <| en_ <| q_ <| sy_np ?_
 refine sy_reg <| anb 13 (fun W => (HP W d.g (#[.func (.func 124) #[] #[], .slice (some ⟨d.s, 0, none⟩) d.n d.cap, .int .i64 ((d.low : Nat) : Int)]) 184)) zl5_ ?_
 obtain ⟨V60, eV60, kV60⟩ := drew_step V54
 rw [eV60]
 clear eV60
 have h61 := kV60.bk h55
 have h62 : RingA V60 d := h56.keepsN kV60
 have K64 := K58.nn kV60
 have z65 := kV60.size
 refine ka [0, 1, 2, 3] h61 <| avq 4 _ (fun W hS => lk (hS)) h61 <| ka [5, 6, 7] h61 <| avq 8 _ (fun W hS => lk (hS)) h61 <| avq 9 _ (fun W hS => len_ (some ⟨d.s, 0, none⟩) d.n d.cap Tryz.underlying182) h61 <| avq 10 _ (fun W hS => cwN (n := d.low + d.n)) h61 <| avq 11 _ (fun W hS => dcf ((((t : Nat) : Int)) ≥ (((d.low + d.n : Nat) : Int))) (by omega)) h61 <| an_o 12 <| nrq (.bool false) (w' := V60) (by kernel_rfl) ?_
 refine ⟨h61, ?_⟩
 refine ane <| then_n <| n_ <| qr_ nl5_ <| kk 2 ?_
 refine pcr 113 #[pT d.g 0, iN t] Tryz.func113 (gat_some _ q _ h62 hs) fun V66 kV66 => ?_
 have h68 : RingA V66 d := h62.keepsN kV66
 have K70 := K64.nn kV66
 have z71 := kV66.size
 skip
 refine kk 2 <| ey_ <| qr_ [0] <| kk 1 <| eu_ <| blk_r <| then_r <| so_ (.int .i64 8) ?_
 exact ⟨rfl, K70⟩
theorem gput_new (d : RD Att) (a : Att) (t : Nat) (w : World) (H : RingA w d) (ha : a.Ok) (ht : a.t = ((t : Nat) : Int)) (h1 : d.low ≤ t) (h2 : t < d.low + d.n) (hs : slotOf d ((t : Nat) : Int) = none) :
  Calls Tryz.prog 97 #[pT d.g 0, .agg (Att.c a)] w (fun e w' => e = .returned (.int .i64 0) ∧ ∃ p, RingA w' { d with V := upV d.V ((t : Nat) : Int) a, S := upS d.S (t % d.n) (some p) } ∧ Keeps (One d.s) w w') := by
 have hn0 := H.n1
 have hn2 := H.n2
 have hl2 := H.l2
 have hm := Nat.mod_lt t hn0
 have hgs : d.g ≠ d.s := fun e => by have h1 := H.ring; rw [e, H.slots] at h1; simp only [Option.some.injEq, Obj.cells.injEq] at h1; exact absurd h1.2.1 (by decide)
 have K0 : Keeps (One d.s) w w := Keeps.refl _ _
 refine se_ (qc19_2 1) ⟨fr [pT d.g 0, .agg (Att.c a)] 47, []⟩ Tryz.func97 <| qr_ [0, 1] <| pbx 28 ((Att.c a)) (.agg (Att.c a)) fun V72 p ep h73 kV72 => ?_
 have n74 : d.g < p := ep ▸ lt_of_block H.ring
 have n75 : d.s < p := ep ▸ lt_of_block H.slots
 have n76 := nk ep K0
 have h77 := kV72.bk H.ring
 have h78 := kV72.bk H.slots
 have h79 : RingA V72 d := H.keepsN kV72
 have h80 : ∀ (j : Nat) (cs : Array Value), HP w j cs 28 → HP V72 j cs 28 := fun j cs e => kV72.odd (Odd.nob _) ((fun _ _ e => e) j cs e)
 have K81 := K0.nn kV72
 have z82 := kV72.size
 refine kk 1 <| eq_ <| sy_np <| sy_reg <| anb 7 (fun W => (HP W d.g (#[.func (.func 124) #[] #[], .slice (some ⟨d.s, 0, none⟩) d.n d.cap, .int .i64 ((d.low : Nat) : Int)]) 184) ∧ (HP W p (Att.c a) 28)) #[false, false, false, false, false, false, false] ?_
 obtain ⟨V83, eV83, kV83⟩ := drew_step V72
 rw [eV83]
 clear eV83
 have ⟨h84, h85⟩ := kV83.k2 h77 h78
 have h86 : RingA V83 d := h79.keepsN kV83
 have h87 : ∀ (j : Nat) (cs : Array Value), HP w j cs 28 → HP V83 j cs 28 := fun j cs e => kV83.odd (Odd.nob _) (h80 j cs e)
 have ⟨K89, z90, h88⟩ := kV83.z1 K81 h73
 refine ka [0, 1, 2] ⟨h84, h88⟩ <| avq 3 _ (fun W hS => lk (hS.1)) ⟨h84, h88⟩ <| avq 4 _ (fun W hS => ldr 28 p (hS.2) (by rw [Att.c_size _ ha.r]; kernel_rfl)) ⟨h84, h88⟩ <| an_o 5 ?_
 refine on_callV (qo19_2 6 5) (.tmp 9) 124 #[] #[] #[.agg (Att.c a)] (by kernel_rfl) (by kernel_rfl) (by kernel_rfl) (by kernel_rfl) (by kernel_rfl) (enters_of Tryz.func124 (by kernel_rfl) rfl) ((qidx_as a t _ ha.r ht).mono ?_)
 rintro e V91 ⟨rfl, kV91⟩
 refine ⟨_, rfl, ?_⟩
 have ⟨h92, h93⟩ := kV91.k2 h84 h85
 have h94 : RingA V91 d := h86.keepsN kV91
 have h95 : ∀ (j : Nat) (cs : Array Value), HP w j cs 28 → HP V91 j cs 28 := fun j cs e => kV91.odd (Odd.nob _) (h87 j cs e)
 have ⟨K97, z98, h96⟩ := kV91.z1 K89 h88
 refine ⟨⟨h92, h96⟩, ?_⟩
 refine an_o 6 <| nrq (iN t) (w' := V91) (by kernel_rfl) ?_
 refine ⟨⟨h92, h96⟩, ?_⟩
 refine ane <| tq_ <| bl_ 0 <| qr_ nl7_ <| kk 4 <| ppq _ (lk (h92)) <| ppq _ (dcf ((((t : Nat) : Int)) < (((d.low : Nat) : Int))) (by omega)) <| kk 1 <| en_ <| q_ <| sy_np ?_
 refine sy_reg <| anb 13 (fun W => (HP W d.g (#[.func (.func 124) #[] #[], .slice (some ⟨d.s, 0, none⟩) d.n d.cap, .int .i64 ((d.low : Nat) : Int)]) 184)) zl5_ ?_
 obtain ⟨V99, eV99, kV99⟩ := drew_step V91
 rw [eV99]
 clear eV99
 have ⟨h100, h101⟩ := kV99.k2 h92 h93
 have h102 : RingA V99 d := h94.keepsN kV99
 have h103 : ∀ (j : Nat) (cs : Array Value), HP w j cs 28 → HP V99 j cs 28 := fun j cs e => kV99.odd (Odd.nob _) (h95 j cs e)
 have ⟨K105, z106, h104⟩ := kV99.z1 K97 h96
 refine ka [0, 1, 2, 3] h100 <| avq 4 _ (fun W hS => lk (hS)) h100 <| ka [5, 6, 7] h100 <| avq 8 _ (fun W hS => lk (hS)) h100 <| avq 9 _ (fun W hS => len_ (some ⟨d.s, 0, none⟩) d.n d.cap Tryz.underlying182) h100 <| avq 10 _ (fun W hS => cwN (n := d.low + d.n)) h100 <| avq 11 _ (fun W hS => dcf ((((t : Nat) : Int)) ≥ (((d.low + d.n : Nat) : Int))) (by omega)) h100 <| an_o 12 <| nrq (.bool false) (w' := V99) (by kernel_rfl) ?_
 refine ⟨h100, ?_⟩
 refine ane <| then_n <| n_ <| qr_ nl5_ <| kk 2 ?_
 refine pcr 113 #[pT d.g 0, iN t] Tryz.func113 (gat_none _ _ h102 hs) fun V107 kV107 => ?_
 have ⟨h108, h109⟩ := kV107.k2 h100 h101
 have h110 : RingA V107 d := h102.keepsN kV107
 have h111 : ∀ (j : Nat) (cs : Array Value), HP w j cs 28 → HP V107 j cs 28 := fun j cs e => kV107.odd (Odd.nob _) (h103 j cs e)
 have ⟨K113, z114, h112⟩ := kV107.z1 K105 h104
 skip
 refine kk 2 <| en_ <| s_ <| blk_n <| tq_ <| sy_reg <| rgs 12 (zo12_ (qo19_2 30)) [qo19_2 30 12] ?_
 obtain ⟨V116, eV116, kV116⟩ := drew_step V107
 rw [eV116]
 clear eV116
 have ⟨h117, h118⟩ := kV116.k2 h108 h109
 have h119 : RingA V116 d := h110.keepsN kV116
 have h120 : ∀ (j : Nat) (cs : Array Value), HP w j cs 28 → HP V116 j cs 28 := fun j cs e => kV116.odd (Odd.nob _) (h111 j cs e)
 have ⟨K122, z123, h121⟩ := kV116.z1 K113 h112
 refine ks 3 <| spq _ (lk (h117)) <| ks 4 <| spq _ (lk (h117)) <| spq _ (len_ (some ⟨d.s, 0, none⟩) d.n d.cap Tryz.underlying182) <| spq (iN (t % d.n)) (exec_rem 3 3 (.tmp 41) (.tmp 46) (by kernel_rfl) t d.n (by kernel_rfl) (by kernel_rfl) hn0) <| spq (pT d.s (t % d.n)) (exec_cast (v := pT d.s (0 + (t % d.n) * 1)) (by simp) (ixs d.s 0 d.n d.cap .i64 (t % d.n) 1 Tryz.underlying182 (by omega))) <| st_end ?_
 obtain ⟨V124, eV124, kV124⟩ := cell_step V116 d.s (t % d.n) (pT p 0)
 have h125 : HP V124 d.s (Slots d.n (upS d.S (t % d.n) (some p)) d.rest) 185 := eV124 ▸ ((heap_setCell_same _ d.s (t % d.n) _ _ (pT p 0) h118).trans (congrArg (fun c => some (Obj.cells c 185 (0, 0))) (show (Slots d.n d.S d.rest : Array Value).setIfInBounds (t % d.n) (pT p 0) = Slots d.n (upS d.S (t % d.n) (some p)) d.rest from Slots.set' (Nat.mod_lt _ hn0) (some p) rfl)))
 refine ls_skip (qo19_2 30 12) (w' := V124) (by kernel_rfl) (by rw [← eV124]; exact exec_store_cell 185 (.tmp 48) (.tmp 3) (by kernel_rfl) d.s (t % d.n) (by kernel_rfl) (pT p 0) (by kernel_rfl) (by kernel_rfl) (by kernel_rfl) (ptrV (d.S (t % d.n))) (rc (h118) ((Slots.get (Nat.mod_lt _ hn0)).trans (congrArg some (rfl)))) (frozen_of_row _ _ _ _ _ h118) (by kernel_rfl)) ?_
 clear eV124
 have h126 := kV124.bO h117
 have h127 : ∀ (j : Nat) (cs : Array Value), HP w j cs 28 → HP V124 j cs 28 := fun j cs e => kV124.odd (Odd.one h118 (by decide)) (h120 j cs e)
 have h128 := kV124.bO h121
 have K129 : Keeps (One d.s) w V124 := K122.then kV124 (fun i hi hm => by unfold Own.One at hm; subst hm; exact rfl)
 have z130 := kV124.size
 refine ls_end <| tqr_ [0] <| kk 1 <| eu_ <| so_ (.int .i64 0) ?_
 exact ⟨rfl, _, Ring.put H t a h1 h2 ht ha p h128 h126 h127 h125, K129⟩
def gputErr (d : RD Att) (i : Int) : Int := if i < (d.low : Int) then 16 else if (d.low : Int) + d.n ≤ i then 17 else if (d.V i).isSome then 8 else 0
theorem gput_ok (d : RD Att) (a : Att) (w : World) (H : RingA w d) (ha : a.Ok) : Calls Tryz.prog 97 #[pT d.g 0, .agg (Att.c a)] w fun e w' => e = .returned (.int .i64 (gputErr d a.t)) ∧
  (gputErr d a.t ≠ 0 → RingA w' d) ∧ (gputErr d a.t = 0 → ∃ S', RingA w' { d with V := upV d.V a.t a, S := S' }) ∧ Keeps (One d.s) w w' := by
 have nob : ∀ {w' : World}, Keeps Nob w w' → Keeps (One d.s) w w' := fun k => k.mono (fun _ _ x => x.elim)
 unfold gputErr
 by_cases h1 : a.t < (d.low : Int)
 ·rw [if_pos h1]; exact (gput_low d a w H ha h1).mono fun e w' ⟨he, k⟩ => ⟨he, fun _ => H.keepsN k, fun h => by omega, nob k⟩
 ·rw [if_neg h1]
  by_cases h2 : (d.low : Int) + d.n ≤ a.t
  ·rw [if_pos h2]; exact (gput_high d a w H ha h2).mono fun e w' ⟨he, k⟩ => ⟨he, fun _ => H.keepsN k, fun h => by omega, nob k⟩
  ·rw [if_neg h2]
   obtain ⟨t, ht⟩ : ∃ t : Nat, a.t = (t : Int) := ⟨(a.t).toNat, by omega⟩
   rw [ht]
   rcases H.none_or ((t : Nat) : Int) with ⟨hv, hs⟩ | ⟨b, q, hv, hs, _⟩
   ·rw [hv]; exact (gput_new d a t w H ha ht (by omega) (by omega) hs).mono fun e w' ⟨he, p, hr, k⟩ => ⟨he, fun h => absurd rfl h, fun _ => ⟨_, hr⟩, k⟩
   ·rw [hv]; exact (gput_double d a t q w H ha ht (by omega) (by omega) hs).mono fun e w' ⟨he, k⟩ => ⟨he, fun _ => H.keepsN k, fun h => (by cases h), nob k⟩
noncomputable def qc19_0 (n : Nat) : Code := partOf Tryz.f116 n
noncomputable abbrev qo19_0 (n k : Nat) : Oper := (opsAt (qc19_0 n)).getD k default
theorem gmove_far (d : RD Att) (l : Nat) (w : World) (H : RingA w d) (hl : d.low + d.n ≤ l) (hl3 : l ≤ 4294967296) :
  Calls Tryz.prog 116 #[pT d.g 0, .int .i64 ((l : Nat) : Int)] w (fun e w' => e = .returned (.tuple #[]) ∧ RingA w' { d with low := l, V := mvV d.V ((l : Nat) : Int), S := fun _ => none } ∧ Keeps (fun j => j = d.g ∨ j = d.s) w w') := by
 have hn0 := H.n1
 have hn2 := H.n2
 have hl2 := H.l2
 have hgs : d.g ≠ d.s := fun e => by have h1 := H.ring; rw [e, H.slots] at h1; simp only [Option.some.injEq, Obj.cells.injEq] at h1; exact absurd h1.2.1 (by decide)
 have K0 : Keeps ((fun j => j = d.g ∨ j = d.s)) w w := Keeps.refl _ _
 refine se_ (qc19_0 1) ⟨fr [pT d.g 0, iN l] 64, []⟩ Tryz.func116 <| q_ <| q_ <| sy_np <| sy_reg <| anb 12 (fun W => (HP W d.g (#[.func (.func 124) #[] #[], .slice (some ⟨d.s, 0, none⟩) d.n d.cap, .int .i64 ((d.low : Nat) : Int)]) 184)) zl7_ ?_
 obtain ⟨V1, eV1, kV1⟩ := drew_step w
 rw [eV1]
 clear eV1
 have h2 := kV1.bk H.ring
 have h3 := kV1.bk H.slots
 have K4 := K0.nn kV1
 have z5 := kV1.size
 refine ka [0, 1, 2, 3] h2 <| avq 4 _ (fun W hS => lk (hS)) h2 <| avq 5 (iN (l - d.low)) (fun W hS => exec_cast (congrArg (Value.int .i64) (wrapI (((l : Nat) : Int) - ((d.low : Nat) : Int)) _ (by omega) (by omega) (by omega))) (by kernel_rfl)) h2 <| ka [6, 7, 8] h2 <| avq 9 _ (fun W hS => lk (hS)) h2 <| avq 10 _ (fun W hS => len_ (some ⟨d.s, 0, none⟩) d.n d.cap Tryz.underlying182) h2 <| avq 11 _ (fun W hS => dct ((((l - d.low : Nat) : Int)) ≥ (((d.n : Nat) : Int))) (by omega)) h2 <| ane <| then_n ?_
 refine y_ <| r_ nl5_ <| kk 3 <| ppq _ (lk (h2)) ?_
 obtain ⟨V6, eV6⟩ : ∃ V, V1.setCells d.s 0 (List.replicate d.n (.pointer none)) = V := ⟨_, rfl⟩
 have kV6 : Keeps (One d.s) V1 V6 := eV6 ▸ Keeps.setCells _ _ _ _
 have h7 : HP V6 d.s (Slots d.n (fun _ => none) d.rest) 185 := eV6 ▸ (heap_setCells d.s _ _ 0 _ _ h3 (by rw [Slots.size, List.length_replicate]; omega)).trans (congrArg (fun c => some (Obj.cells c 185 (0, 0))) Slots.clear)
 refine prq (.tuple #[]) (w' := V6) (by rw [← eV6]; exact exec_clear (.tmp 19) 182 185 (by kernel_rfl) (.pointer none) Tryz.underlying182 (fun _ => by kernel_rfl) rfl rfl d.s d.n d.cap (by kernel_rfl) hn0 _ _ h3 (by rw [Slots.size]; omega)) ?_
 clear eV6
 have h8 := kV6.bO h2
 have K9 : Keeps ((fun j => j = d.g ∨ j = d.s)) w V6 := K4.then kV6 (fun i hi hm => by unfold Own.One at hm; subst hm; exact .inr rfl)
 have z10 := kV6.size
 refine eq_ <| bl_ 0 <| sy_rounds 1 (qc19_0 24) (by kernel_rfl) <| rd_step <| q_ <| q_ <| sy_np <| sy_reg <| anb 20 (fun W => (HP W d.g (#[.func (.func 124) #[] #[], .slice (some ⟨d.s, 0, none⟩) d.n d.cap, .int .i64 ((d.low : Nat) : Int)]) 184)) zl4_ ?_
 obtain ⟨V11, eV11, kV11⟩ := drew_step V6
 rw [eV11]
 clear eV11
 have ⟨K14, z15, h12, h13⟩ := kV11.z2 K9 h8 h7
 refine ka [0, 1, 2] h12 <| avq 3 _ (fun W hS => lk (hS)) h12 <| ka [4] h12 <| avq 5 _ (fun W hS => dct ((((d.low : Nat) : Int)) < (((l : Nat) : Int))) (by omega)) h12 <| ka [6, 7, 8, 9, 10] h12 <| avq 11 _ (fun W hS => lk (hS)) h12 <| avq 12 (iN (l - d.low)) (fun W hS => exec_cast (congrArg (Value.int .i64) (wrapI (((l : Nat) : Int) - ((d.low : Nat) : Int)) _ (by omega) (by omega) (by omega))) (by kernel_rfl)) h12 <| ka [13] h12 ?_
 refine ka [14, 15] h12 <| avq 16 _ (fun W hS => lk (hS)) h12 <| avq 17 _ (fun W hS => len_ (some ⟨d.s, 0, none⟩) d.n d.cap Tryz.underlying182) h12 <| avq 18 _ (fun W hS => dcf ((((l - d.low : Nat) : Int)) < (((d.n : Nat) : Int))) (by omega)) h12 <| ka [19] h12 <| ane <| then_n <| n_ <| sy_exit 0 (by kernel_rfl) <| then_e <| then_e <| blk_e ?_
 refine tr_ nl5_ <| kk 4 ?_
 refine pce 3 d.g 2 (iN l) (#[.func (.func 124) #[] #[], .slice (some ⟨d.s, 0, none⟩) d.n d.cap, .int .i64 ((l : Nat) : Int)]) h12 (rc (h12) (by kernel_rfl)) (by kernel_rfl) (u := iN d.low) fun V16 h17 kV16 => ?_
 have h18 := kV16.bO h13
 have K19 : Keeps ((fun j => j = d.g ∨ j = d.s)) w V16 := K14.then kV16 (fun i hi hm => by unfold Own.One at hm; subst hm; exact .inl rfl)
 have z20 := kV16.size
 refine ps_end <| sy_fall (.tuple #[]) rfl (by kernel_rfl) ?_
 exact ⟨rfl, Ring.cleared H l hl hl3 h17 h18, K19⟩
theorem gmove_near (d : RD Att) (l : Nat) (w : World) (H : RingA w d) (hl0 : d.low ≤ l) (hl : l < d.low + d.n) (hl3 : l ≤ 4294967296) :
  Calls Tryz.prog 116 #[pT d.g 0, .int .i64 ((l : Nat) : Int)] w (fun e w' => e = .returned (.tuple #[]) ∧ ∃ S', RingA w' { d with low := l, V := mvV d.V ((l : Nat) : Int), S := S' } ∧ Keeps (fun j => j = d.g ∨ j = d.s) w w') := by
 have hn0 := H.n1
 have hn2 := H.n2
 have hl2 := H.l2
 have hgs : d.g ≠ d.s := fun e => by have h1 := H.ring; rw [e, H.slots] at h1; simp only [Option.some.injEq, Obj.cells.injEq] at h1; exact absurd h1.2.1 (by decide)
 have K0 : Keeps ((fun j => j = d.g ∨ j = d.s)) w w := Keeps.refl _ _
 refine se_ (qc19_0 1) ⟨fr [pT d.g 0, iN l] 64, []⟩ Tryz.func116 <| q_ <| q_ <| sy_np <| sy_reg <| anb 12 (fun W => (HP W d.g (#[.func (.func 124) #[] #[], .slice (some ⟨d.s, 0, none⟩) d.n d.cap, .int .i64 ((d.low : Nat) : Int)]) 184)) zl7_ ?_
 obtain ⟨V21, eV21, kV21⟩ := drew_step w
 rw [eV21]
 clear eV21
 have h22 := kV21.bk H.ring
 have h24 : RingA V21 d := H.keepsN kV21
 have K25 := K0.nn kV21
 have z26 := kV21.size
 refine ka [0, 1, 2, 3] h22 <| avq 4 _ (fun W hS => lk (hS)) h22 <| avq 5 (iN (l - d.low)) (fun W hS => exec_cast (congrArg (Value.int .i64) (wrapI (((l : Nat) : Int) - ((d.low : Nat) : Int)) _ (by omega) (by omega) (by omega))) (by kernel_rfl)) h22 <| ka [6, 7, 8] h22 <| avq 9 _ (fun W hS => lk (hS)) h22 <| avq 10 _ (fun W hS => len_ (some ⟨d.s, 0, none⟩) d.n d.cap Tryz.underlying182) h22 <| avq 11 _ (fun W hS => dcf ((((l - d.low : Nat) : Int)) ≥ (((d.n : Nat) : Int))) (by omega)) h22 <| ane <| then_n ?_
 refine n_ <| s_ <| tq_ <| bl_ 0 ?_
 refine sy_loop (qc19_0 24) (fun a V => ∃ (k : Nat) (S' : Nat → Option Nat) (u20 u21 u22 u23 u24 u25 u26 u27 u28 u29 u30 u31 u32 u33 u34 u35 u36 u37 u38 u39 u40 u41 u42 u43 u44 u45 u46 u47 u48 u49 u50 u51 u52 u53 u54 u55 u56 u57 u58 u59 u60 u61 : Value), (a = ⟨#[pT d.g 0, iN l, ud, ud, iN l, pT d.g 0, pT d.g 0, pT d.g 2, iN d.low, iN (l - d.low), pT d.g 0, pT d.g 0, pT d.g 1, .slice (some ⟨d.s, 0, none⟩) d.n d.cap, iN d.n, .bool false, ud, ud, ud, ud, u20, u21, u22, u23, u24, u25, u26, u27, u28, u29, u30, u31, u32, u33, u34, u35, u36, u37, u38, u39, u40, u41, u42, u43, u44, u45, u46, u47, u48, u49, u50, u51, u52, u53, u54, u55, u56, u57, u58, u59, u60, u61, ud, ud, ud, ud], []⟩) ∧ (d.low ≤ k) ∧ (k ≤ l) ∧ (Keeps ((fun j => j = d.g ∨ j = d.s)) w V) ∧ (RingA V { d with low := k, V := mvV d.V ((k : Nat) : Int), S := S' })) (fun a V => l - lowAt V d.g) (by kernel_rfl) ?_ ?_
 ·exact ⟨d.low, d.S, undef, undef, undef, undef, undef, undef, undef, undef, undef, undef, undef, undef, undef, undef, undef, undef, undef, undef, undef, undef, undef, undef, undef, undef, undef, undef, undef, undef, undef, undef, undef, undef, undef, undef, undef, undef, undef, undef, undef, undef, undef, undef, by kernel_rfl, Nat.le_refl _, by omega, K25, (by rw [H.mvV_self d.low (Nat.le_refl _)]; exact h24)⟩
 ·rintro a V27 ⟨k, S', u20, u21, u22, u23, u24, u25, u26, u27, u28, u29, u30, u31, u32, u33, u34, u35, u36, u37, u38, u39, u40, u41, u42, u43, u44, u45, u46, u47, u48, u49, u50, u51, u52, u53, u54, u55, u56, u57, u58, u59, u60, u61, rfl, hk1, hk, K28, hR⟩
  have hg0 : HP V27 d.g (#[.func (.func 124) #[] #[], .slice (some ⟨d.s, 0, none⟩) d.n d.cap, .int .i64 ((k : Nat) : Int)]) 184 := hR.ring
  have hs0 : HP V27 d.s (Slots d.n S' d.rest) 185 := hR.slots
  have hm := Nat.mod_lt k hn0
  by_cases lt_k : k < l
  ·skip
   refine q_ <| q_ <| sy_np <| sy_reg <| anb 20 (fun W => (HP W d.g (#[.func (.func 124) #[] #[], .slice (some ⟨d.s, 0, none⟩) d.n d.cap, .int .i64 ((k : Nat) : Int)]) 184)) zl4_ ?_
   obtain ⟨V29, eV29, kV29⟩ := drew_step V27
   rw [eV29]
   clear eV29
   have ⟨h30, h31⟩ := kV29.k2 hg0 hs0
   have h32 : ∀ (j : Nat) (cs : Array Value), HP V27 j cs 28 → HP V29 j cs 28 := fun j cs e => kV29.odd (Odd.nob _) ((fun _ _ e => e) j cs e)
   have K33 := K28.nn kV29
   have z34 := kV29.size
   refine ka [0, 1, 2] h30 <| avq 3 _ (fun W hS => lk (hS)) h30 <| ka [4] h30 <| avq 5 _ (fun W hS => dct ((((k : Nat) : Int)) < (((l : Nat) : Int))) (by omega)) h30 <| ka [6, 7, 8, 9, 10] h30 <| avq 11 _ (fun W hS => lk (hS)) h30 <| avq 12 (iN (l - k)) (fun W hS => exec_cast (congrArg (Value.int .i64) (wrapI (((l : Nat) : Int) - ((k : Nat) : Int)) _ (by omega) (by omega) (by omega))) (by kernel_rfl)) h30 <| ka [13] h30 ?_
   refine ka [14, 15] h30 <| avq 16 _ (fun W hS => lk (hS)) h30 <| avq 17 _ (fun W hS => len_ (some ⟨d.s, 0, none⟩) d.n d.cap Tryz.underlying182) h30 <| avq 18 _ (fun W hS => dct ((((l - k : Nat) : Int)) < (((d.n : Nat) : Int))) (by omega)) h30 <| ka [19] h30 <| ane <| then_n <| y_ <| s_ <| tq_ <| bl_ 1 <| sy_reg <| rgs 15 (zo15_ (qo19_0 196)) [qo19_0 196 15] ?_
   obtain ⟨V36, eV36, kV36⟩ := drew_step V29
   rw [eV36]
   clear eV36
   have ⟨h37, h38⟩ := kV36.k2 h30 h31
   have h39 : ∀ (j : Nat) (cs : Array Value), HP V27 j cs 28 → HP V36 j cs 28 := fun j cs e => kV36.odd (Odd.nob _) (h32 j cs e)
   have K40 := K33.nn kV36
   have z41 := kV36.size
   refine ks 3 <| spq _ (lk (h37)) <| ks 3 <| spq _ (lk (h37)) <| ks 3 <| spq _ (lk (h37)) <| spq _ (len_ (some ⟨d.s, 0, none⟩) d.n d.cap Tryz.underlying182) <| spq (iN (k % d.n)) (exec_rem 3 3 (.tmp 54) (.tmp 59) (by kernel_rfl) k d.n (by kernel_rfl) (by kernel_rfl) hn0) ?_
   refine spq (pT d.s (k % d.n)) (exec_cast (v := pT d.s (0 + (k % d.n) * 1)) (by simp) (ixs d.s 0 d.n d.cap .i64 (k % d.n) 1 Tryz.underlying182 (by omega))) <| st_end ?_
   obtain ⟨V42, eV42, kV42⟩ := cell_step V36 d.s (k % d.n) (.pointer none)
   have h43 : HP V42 d.s (Slots d.n (upS S' (k % d.n) none) d.rest) 185 := eV42 ▸ ((heap_setCell_same _ d.s (k % d.n) _ _ (.pointer none) h38).trans (congrArg (fun c => some (Obj.cells c 185 (0, 0))) (show (Slots d.n S' d.rest : Array Value).setIfInBounds (k % d.n) (.pointer none) = Slots d.n (upS S' (k % d.n) none) d.rest from Slots.set' (Nat.mod_lt _ hn0) none rfl)))
   refine ls_skip (qo19_0 196 15) (w' := V42) (by kernel_rfl) (by rw [← eV42]; exact exec_store_cell 185 (.tmp 61) (.const (.pointer none)) (by kernel_rfl) d.s (k % d.n) (by kernel_rfl) (.pointer none) (by kernel_rfl) (by kernel_rfl) (by kernel_rfl) (ptrV (S' (k % d.n))) (rc (h38) ((Slots.get (Nat.mod_lt _ hn0)).trans (congrArg some (rfl)))) (frozen_of_row _ _ _ _ _ h38) (by kernel_rfl)) ?_
   clear eV42
   have h44 := kV42.bO h37
   have h45 : ∀ (j : Nat) (cs : Array Value), HP V27 j cs 28 → HP V42 j cs 28 := fun j cs e => kV42.odd (Odd.one h38 (by decide)) (h39 j cs e)
   have K46 : Keeps ((fun j => j = d.g ∨ j = d.s)) w V42 := K40.then kV42 (fun i hi hm => by unfold Own.One at hm; subst hm; exact .inr rfl)
   have z47 := kV42.size
   refine ls_end <| blk_n <| tr_ nl8_ <| kk 3 <| ppq _ (lk (h44)) <| ppq _ (cwN (n := k + 1)) <| kk 2 ?_
   refine pce 3 d.g 2 (iN (k + 1)) (#[.func (.func 124) #[] #[], .slice (some ⟨d.s, 0, none⟩) d.n d.cap, .int .i64 ((k + 1 : Nat) : Int)]) h44 (rc (h44) (by kernel_rfl)) (by kernel_rfl) (u := iN k) fun V48 h49 kV48 => ?_
   have h50 : ∀ (j : Nat) (cs : Array Value), HP V27 j cs 28 → HP V48 j cs 28 := fun j cs e => kV48.odd (Odd.one h44 (by decide)) (h45 j cs e)
   have h51 := kV48.bO h43
   have K52 : Keeps ((fun j => j = d.g ∨ j = d.s)) w V48 := K46.then kV48 (fun i hi hm => by unfold Own.One at hm; subst hm; exact .inl rfl)
   have z53 := kV48.size
   refine et_ ?_
   refine ⟨⟨k + 1, upS S' (k % d.n) none, (pT d.g 0), (pT d.g 0), (pT d.g 2), (iN k), (iN l), (.bool true), (.bool true), (iN l), (pT d.g 0), (pT d.g 0), (pT d.g 2), (iN k), (iN (l - k)), (pT d.g 0), (pT d.g 0), (pT d.g 1), (.slice (some ⟨d.s, 0, none⟩) d.n d.cap), (iN d.n), (.bool true), (.bool true), (pT d.g 0), (pT d.g 0), (pT d.g 2), (iN k), (iN (k + 1)), (pT d.g 0), (pT d.g 2), (pT d.g 0), (pT d.g 0), (pT d.g 1), (.slice (some ⟨d.s, 0, none⟩) d.n d.cap), (pT d.g 0), (pT d.g 0), (pT d.g 2), (iN k), (pT d.g 0), (pT d.g 0), (pT d.g 1), (.slice (some ⟨d.s, 0, none⟩) d.n d.cap), (iN d.n), (iN (k % d.n)), (pT d.s (k % d.n)), by kernel_rfl, by omega, by omega, K52, (by have hx := Ring.step hR h50 (by show k < 4294967296; omega) h49 h51; dsimp only at hx; rw [mvV_mvV (show ((k : Nat) : Int) ≤ ((k + 1 : Nat) : Int) by omega)] at hx; exact hx)⟩, ?_⟩
   show l - lowAt V48 d.g < l - lowAt V27 d.g; rw [lowAt_of h49, lowAt_of hg0]; omega
  ·have eq_k : k = l := by omega
   have hRl : RingA V27 { d with low := l, V := mvV d.V ((l : Nat) : Int), S := S' } := eq_k ▸ hR
   have hg1 : HP V27 d.g (#[.func (.func 124) #[] #[], .slice (some ⟨d.s, 0, none⟩) d.n d.cap, .int .i64 ((l : Nat) : Int)]) 184 := hRl.ring
   refine q_ <| q_ <| sy_np <| sy_reg <| anb 20 (fun W => (HP W d.g (#[.func (.func 124) #[] #[], .slice (some ⟨d.s, 0, none⟩) d.n d.cap, .int .i64 ((l : Nat) : Int)]) 184)) zl4_ ?_
   obtain ⟨V54, eV54, kV54⟩ := drew_step V27
   rw [eV54]
   clear eV54
   have ⟨h55, h56⟩ := kV54.k2 hg1 hs0
   have h57 : ∀ (j : Nat) (cs : Array Value), HP V27 j cs 28 → HP V54 j cs 28 := fun j cs e => kV54.odd (Odd.nob _) ((fun _ _ e => e) j cs e)
   have K58 := K28.nn kV54
   have z59 := kV54.size
   refine ka [0, 1, 2] h55 <| avq 3 _ (fun W hS => lk (hS)) h55 <| ka [4] h55 <| avq 5 _ (fun W hS => dcf ((((l : Nat) : Int)) < (((l : Nat) : Int))) (by omega)) h55 <| ka [6, 7, 8, 9, 10, 11, 12, 13] h55 ?_
   refine ka [14, 15, 16, 17, 18, 19] h55 <| ane <| then_n <| n_ <| sy_exit 0 (by kernel_rfl) <| then_e <| then_e <| blk_e <| tr_ nl5_ ?_
   refine kk 4 ?_
   refine pce 3 d.g 2 (iN l) (#[.func (.func 124) #[] #[], .slice (some ⟨d.s, 0, none⟩) d.n d.cap, .int .i64 ((l : Nat) : Int)]) h55 (rc (h55) (by kernel_rfl)) (by kernel_rfl) (u := iN l) fun V60 h61 kV60 => ?_
   have h62 := kV60.bO h56
   have h63 : ∀ (j : Nat) (cs : Array Value), HP V27 j cs 28 → HP V60 j cs 28 := fun j cs e => kV60.odd (Odd.one h55 (by decide)) (h57 j cs e)
   have K64 : Keeps ((fun j => j = d.g ∨ j = d.s)) w V60 := K58.then kV60 (fun i hi hm => by unfold Own.One at hm; subst hm; exact .inl rfl)
   have z65 := kV60.size
   refine ps_end <| sy_fall (.tuple #[]) rfl (by kernel_rfl) ?_
   exact ⟨rfl, _, Ring.same hRl h61 h62 h63, K64⟩
theorem gmove_ok (d : RD Att) (l : Nat) (w : World) (H : RingA w d) (hl0 : d.low ≤ l) (hl3 : l ≤ 4294967296) : Calls Tryz.prog 116 #[pT d.g 0, .int .i64 ((l : Nat) : Int)] w fun e w' => e = .returned (.tuple #[]) ∧ ∃ S', RingA w' { d with low := l, V := mvV d.V ((l : Nat) : Int), S := S' } ∧ Keeps (fun j => j = d.g ∨ j = d.s) w w' := by
 by_cases h : d.low + d.n ≤ l
 ·exact (gmove_far d l w H h hl3).mono fun e w' ⟨he, hr, k⟩ => ⟨he, _, hr, k⟩
 ·exact gmove_near d l w H hl0 (by omega) hl3
end
section
open Go Go.RowKit Go.Own Go.Shelf
abbrev RingB : World → RD Pro → Prop := Ring 125 192 168 37 Pro.c (·.h) Pro.Ok
theorem b_ptr_info : (Tryz.prog.info? 168).map (fun i => (i.zero, i.size, i.bytes)) = some (some (.pointer none), 1, 8) := by kernel_rfl
noncomputable def qc20_2 (n : Nat) : Code := partOf Tryz.f125 n
theorem qidxB_ok (a : Pro) (w : World) (hr : a.r.length = 32) :
  Calls Tryz.prog 125 #[.agg (Pro.c a)] w (fun e w' => e = .returned (.int .i64 a.h) ∧ Keeps Nob w w') := by
 have K0 : Keeps Nob w w := Keeps.refl _ _
 refine se_ (qc20_2 1) ⟨#[.agg (Pro.c a), ud, ud, ud, ud], []⟩ Tryz.func125 <| qr_ [0, 1] <| pbx 37 ((Pro.c a)) (.agg (Pro.c a)) fun V1 p ep h2 kV1 => ?_
 have n3 := nk ep K0
 have K4 := K0.nn kV1
 have z5 := kV1.size
 refine kk 1 <| eqr_ [0, 1, 2] <| kk 1 <| ppq _ (lc (h2) (Pro.c_1 _)) <| kk 1 <| eu_ <| so_ (.int .i64 a.h) ?_
 exact ⟨rfl, K4⟩
theorem qidxB_as (a : Pro) (t : Nat) (w : World) (hr : a.r.length = 32) (ht : a.h = ((t : Nat) : Int)) : Calls Tryz.prog 125 #[.agg (Pro.c a)] w fun e w' => e = .returned (.int .i64 ((t : Nat) : Int)) ∧ Keeps Nob w w' := ht ▸ qidxB_ok a w hr
noncomputable def qc20_3 (n : Nat) : Code := partOf Tryz.f98 n
noncomputable abbrev qo20_3 (n k : Nat) : Oper := (opsAt (qc20_3 n)).getD k default
theorem gatB_low (d : RD Pro) (i : Int) (w : World) (H : RingB w d) (hi : i < (d.low : Int)) :
  Calls Tryz.prog 98 #[pT d.g 0, .int .i64 i] w (fun e w' => e = .returned (.pointer none) ∧ Keeps Nob w w') := by
 have hn0 := H.n1
 have hn2 := H.n2
 have hl2 := H.l2
 have K0 : Keeps Nob w w := Keeps.refl _ _
 refine se_ (qc20_3 1) ⟨fr [pT d.g 0, .int .i64 i] 36, []⟩ Tryz.func98 <| qr_ [0] <| kk 1 <| eq_ <| q_ <| sy_np <| sy_reg <| anb 20 (fun W => (HP W d.g (#[.func (.func 125) #[] #[], .slice (some ⟨d.s, 0, none⟩) d.n d.cap, .int .i64 ((d.low : Nat) : Int)]) 192)) zl4_ ?_
 obtain ⟨V1, eV1, kV1⟩ := drew_step w
 rw [eV1]
 clear eV1
 have h2 := kV1.bk H.ring
 have K4 := K0.nn kV1
 have z5 := kV1.size
 refine ka [0, 1, 2, 3] h2 <| avq 4 _ (fun W hS => lk (hS)) h2 <| avq 5 _ (fun W hS => dct (((i) : Int) < (((d.low : Nat) : Int))) (by omega)) h2 <| ka [6, 7, 8, 9, 10, 11, 12, 13] h2 ?_
 refine ka [14, 15, 16, 17, 18, 19] h2 <| ane <| then_n <| y_ <| qr_ [0] <| kk 1 <| eu_ <| then_r <| so_ (.pointer none) ?_
 exact ⟨rfl, K4⟩
theorem gatB_high (d : RD Pro) (i : Int) (w : World) (H : RingB w d) (hi : (d.low : Int) + d.n ≤ i) :
  Calls Tryz.prog 98 #[pT d.g 0, .int .i64 i] w (fun e w' => e = .returned (.pointer none) ∧ Keeps Nob w w') := by
 have hn0 := H.n1
 have hn2 := H.n2
 have hl2 := H.l2
 have K0 : Keeps Nob w w := Keeps.refl _ _
 refine se_ (qc20_3 1) ⟨fr [pT d.g 0, .int .i64 i] 36, []⟩ Tryz.func98 <| qr_ [0] <| kk 1 <| eq_ <| q_ <| sy_np <| sy_reg <| anb 20 (fun W => (HP W d.g (#[.func (.func 125) #[] #[], .slice (some ⟨d.s, 0, none⟩) d.n d.cap, .int .i64 ((d.low : Nat) : Int)]) 192)) zl4_ ?_
 obtain ⟨V6, eV6, kV6⟩ := drew_step w
 rw [eV6]
 clear eV6
 have h7 := kV6.bk H.ring
 have K9 := K0.nn kV6
 have z10 := kV6.size
 refine ka [0, 1, 2, 3] h7 <| avq 4 _ (fun W hS => lk (hS)) h7 <| avq 5 _ (fun W hS => dcf (((i) : Int) < (((d.low : Nat) : Int))) (by omega)) h7 <| ka [6, 7, 8, 9, 10] h7 <| avq 11 _ (fun W hS => lk (hS)) h7 <| ka [12, 13] h7 ?_
 refine ka [14] h7 <| avq 15 _ (fun W hS => lk (hS)) h7 <| avq 16 _ (fun W hS => len_ (some ⟨d.s, 0, none⟩) d.n d.cap Tryz.underlying190) h7 <| avq 17 _ (fun W hS => cwN (n := d.low + d.n)) h7 <| avq 18 _ (fun W hS => dct (((i) : Int) ≥ (((d.low + d.n : Nat) : Int))) (by omega)) h7 <| ka [19] h7 <| ane <| then_n <| y_ <| qr_ [0] <| kk 1 <| eu_ <| then_r <| so_ (.pointer none) ?_
 exact ⟨rfl, K9⟩
theorem gatB_in (d : RD Pro) (t : Nat) (w : World) (H : RingB w d) (h1 : d.low ≤ t) (h2 : t < d.low + d.n) :
  Calls Tryz.prog 98 #[pT d.g 0, .int .i64 ((t : Nat) : Int)] w (fun e w' => e = .returned (ptrV (d.S (t % d.n))) ∧ Keeps Nob w w') := by
 have hn0 := H.n1
 have hn2 := H.n2
 have hl2 := H.l2
 have hm := Nat.mod_lt t hn0
 have K0 : Keeps Nob w w := Keeps.refl _ _
 refine se_ (qc20_3 1) ⟨fr [pT d.g 0, iN t] 36, []⟩ Tryz.func98 <| qr_ [0] <| kk 1 <| eq_ <| q_ <| sy_np <| sy_reg <| anb 20 (fun W => (HP W d.g (#[.func (.func 125) #[] #[], .slice (some ⟨d.s, 0, none⟩) d.n d.cap, .int .i64 ((d.low : Nat) : Int)]) 192)) zl4_ ?_
 obtain ⟨V11, eV11, kV11⟩ := drew_step w
 rw [eV11]
 clear eV11
 have h12 := kV11.bk H.ring
 have h13 := kV11.bk H.slots
 have K14 := K0.nn kV11
 have z15 := kV11.size
 refine ka [0, 1, 2, 3] h12 <| avq 4 _ (fun W hS => lk (hS)) h12 <| avq 5 _ (fun W hS => dcf ((((t : Nat) : Int)) < (((d.low : Nat) : Int))) (by omega)) h12 <| ka [6, 7, 8, 9, 10] h12 <| avq 11 _ (fun W hS => lk (hS)) h12 <| ka [12, 13] h12 ?_
 refine ka [14] h12 <| avq 15 _ (fun W hS => lk (hS)) h12 <| avq 16 _ (fun W hS => len_ (some ⟨d.s, 0, none⟩) d.n d.cap Tryz.underlying190) h12 <| avq 17 _ (fun W hS => cwN (n := d.low + d.n)) h12 <| avq 18 _ (fun W hS => dcf ((((t : Nat) : Int)) ≥ (((d.low + d.n : Nat) : Int))) (by omega)) h12 <| ka [19] h12 <| ane <| then_n <| n_ <| s_ <| tq_ <| sy_reg <| rgs 13 (zo13_ (qo20_3 14)) [qo20_3 14 13] ?_
 obtain ⟨V17, eV17, kV17⟩ := drew_step V11
 rw [eV17]
 clear eV17
 have ⟨K20, z21, h18, h19⟩ := kV17.z2 K14 h12 h13
 refine ks 3 <| spq _ (lk (h18)) <| ks 4 <| spq _ (lk (h18)) <| spq _ (len_ (some ⟨d.s, 0, none⟩) d.n d.cap Tryz.underlying190) <| spq (iN (t % d.n)) (exec_rem 3 3 (.tmp 29) (.tmp 34) (by kernel_rfl) t d.n (by kernel_rfl) (by kernel_rfl) hn0) <| spq (pT d.s (t % d.n)) (exec_cast (v := pT d.s (0 + (t % d.n) * 1)) (by simp) (ixs d.s 0 d.n d.cap .i64 (t % d.n) 1 Tryz.underlying190 (by omega))) <| spq (ptrV (d.S (t % d.n))) (lc (h19) ((Slots.get (Nat.mod_lt _ hn0)).trans (congrArg some (rfl)))) <| st_end ?_
 refine ls_run (qo20_3 14 13) (ptrV (d.S (t % d.n))) (w' := V17) (by kernel_rfl) (by kernel_rfl) <| ls_end <| then_n <| u_ <| so_ (ptrV (d.S (t % d.n))) ?_
 exact ⟨rfl, K20⟩
theorem gatB_ok (d : RD Pro) (i : Int) (w : World) (H : RingB w d) : Calls Tryz.prog 98 #[pT d.g 0, .int .i64 i] w fun e w' => e = .returned (ptrV (slotOf d i)) ∧ Keeps Nob w w' := by
 by_cases h1 : i < (d.low : Int)
 ·rw [slotOf_low i h1]; exact gatB_low d i w H h1
 ·by_cases h2 : (d.low : Int) + d.n ≤ i
  ·rw [slotOf_high i h2]; exact gatB_high d i w H h2
  ·obtain ⟨t, rfl⟩ : ∃ t : Nat, i = (t : Int) := ⟨i.toNat, by omega⟩
   rw [slotOf_in t (by omega) (by omega)]; exact gatB_in d t w H (by omega) (by omega)
theorem gatB_none {d : RD Pro} (i : Int) (w : World) (H : RingB w d) (h : slotOf d i = none) : Calls Tryz.prog 98 #[pT d.g 0, .int .i64 i] w fun e w' => e = .returned (.pointer none) ∧ Keeps Nob w w' := by
 have := gatB_ok d i w H; rwa [h] at this
theorem gatB_some {d : RD Pro} (i : Int) (p : Nat) (w : World) (H : RingB w d) (h : slotOf d i = some p) : Calls Tryz.prog 98 #[pT d.g 0, .int .i64 i] w fun e w' => e = .returned (pT p 0) ∧ Keeps Nob w w' := by
 have := gatB_ok d i w H; rwa [h] at this
noncomputable def qc20_1 (n : Nat) : Code := partOf Tryz.f99 n
noncomputable abbrev qo20_1 (n k : Nat) : Oper := (opsAt (qc20_1 n)).getD k default
theorem gputB_low (d : RD Pro) (a : Pro) (w : World) (H : RingB w d) (ha : a.Ok) (hi : a.h < (d.low : Int)) :
  Calls Tryz.prog 99 #[pT d.g 0, .agg (Pro.c a)] w (fun e w' => e = .returned (.int .i64 16) ∧ Keeps Nob w w') := by
 have hn0 := H.n1
 have hn2 := H.n2
 have hl2 := H.l2
 have K0 : Keeps Nob w w := Keeps.refl _ _
 refine se_ (qc20_1 1) ⟨fr [pT d.g 0, .agg (Pro.c a)] 47, []⟩ Tryz.func99 <| qr_ [0, 1] <| pbx 37 ((Pro.c a)) (.agg (Pro.c a)) fun V1 p ep h2 kV1 => ?_
 have n3 : d.g < p := ep ▸ lt_of_block H.ring
 have n4 := nk ep K0
 have h5 := kV1.bk H.ring
 have K6 := K0.nn kV1
 have z7 := kV1.size
 refine kk 1 <| eq_ <| sy_np <| sy_reg <| anb 7 (fun W => (HP W d.g (#[.func (.func 125) #[] #[], .slice (some ⟨d.s, 0, none⟩) d.n d.cap, .int .i64 ((d.low : Nat) : Int)]) 192) ∧ (HP W p (Pro.c a) 37)) #[false, false, false, false, false, false, false] ?_
 obtain ⟨V8, eV8, kV8⟩ := drew_step V1
 rw [eV8]
 clear eV8
 have ⟨K11, z12, h9, h10⟩ := kV8.z2 K6 h5 h2
 refine ka [0, 1, 2] ⟨h9, h10⟩ <| avq 3 _ (fun W hS => lk (hS.1)) ⟨h9, h10⟩ <| avq 4 _ (fun W hS => ldr 37 p (hS.2) (by rw [Pro.c_size _ ha.r]; kernel_rfl)) ⟨h9, h10⟩ <| an_o 5 ?_
 refine on_callV (qo20_1 6 5) (.tmp 9) 125 #[] #[] #[.agg (Pro.c a)] (by kernel_rfl) (by kernel_rfl) (by kernel_rfl) (by kernel_rfl) (by kernel_rfl) (enters_of Tryz.func125 (by kernel_rfl) rfl) ((qidxB_ok a _ ha.r).mono ?_)
 rintro e V13 ⟨rfl, kV13⟩
 refine ⟨_, rfl, ?_⟩
 have ⟨K16, z17, h14, h15⟩ := kV13.z2 K11 h9 h10
 refine ⟨⟨h14, h15⟩, ?_⟩
 refine an_o 6 <| nrq (.int .i64 a.h) (w' := V13) (by kernel_rfl) ?_
 refine ⟨⟨h14, h15⟩, ?_⟩
 refine ane <| tq_ <| bl_ 0 <| qr_ nl7_ <| kk 4 <| ppq _ (lk (h14)) <| ppq _ (dct (((a.h) : Int) < (((d.low : Nat) : Int))) (by omega)) <| kk 1 <| ey_ <| qr_ [0] <| kk 1 ?_
 refine eu_ <| blk_r <| then_r <| so_ (.int .i64 16) ?_
 exact ⟨rfl, K16⟩
theorem gputB_high (d : RD Pro) (a : Pro) (w : World) (H : RingB w d) (ha : a.Ok) (hi : (d.low : Int) + d.n ≤ a.h) :
  Calls Tryz.prog 99 #[pT d.g 0, .agg (Pro.c a)] w (fun e w' => e = .returned (.int .i64 17) ∧ Keeps Nob w w') := by
 have hn0 := H.n1
 have hn2 := H.n2
 have hl2 := H.l2
 have K0 : Keeps Nob w w := Keeps.refl _ _
 refine se_ (qc20_1 1) ⟨fr [pT d.g 0, .agg (Pro.c a)] 47, []⟩ Tryz.func99 <| qr_ [0, 1] <| pbx 37 ((Pro.c a)) (.agg (Pro.c a)) fun V18 p ep h19 kV18 => ?_
 have n20 : d.g < p := ep ▸ lt_of_block H.ring
 have n21 := nk ep K0
 have h22 := kV18.bk H.ring
 have K23 := K0.nn kV18
 have z24 := kV18.size
 refine kk 1 <| eq_ <| sy_np <| sy_reg <| anb 7 (fun W => (HP W d.g (#[.func (.func 125) #[] #[], .slice (some ⟨d.s, 0, none⟩) d.n d.cap, .int .i64 ((d.low : Nat) : Int)]) 192) ∧ (HP W p (Pro.c a) 37)) #[false, false, false, false, false, false, false] ?_
 obtain ⟨V25, eV25, kV25⟩ := drew_step V18
 rw [eV25]
 clear eV25
 have ⟨K28, z29, h26, h27⟩ := kV25.z2 K23 h22 h19
 refine ka [0, 1, 2] ⟨h26, h27⟩ <| avq 3 _ (fun W hS => lk (hS.1)) ⟨h26, h27⟩ <| avq 4 _ (fun W hS => ldr 37 p (hS.2) (by rw [Pro.c_size _ ha.r]; kernel_rfl)) ⟨h26, h27⟩ <| an_o 5 ?_
 refine on_callV (qo20_1 6 5) (.tmp 9) 125 #[] #[] #[.agg (Pro.c a)] (by kernel_rfl) (by kernel_rfl) (by kernel_rfl) (by kernel_rfl) (by kernel_rfl) (enters_of Tryz.func125 (by kernel_rfl) rfl) ((qidxB_ok a _ ha.r).mono ?_)
 rintro e V30 ⟨rfl, kV30⟩
 refine ⟨_, rfl, ?_⟩
 have ⟨K33, z34, h31, h32⟩ := kV30.z2 K28 h26 h27
 refine ⟨⟨h31, h32⟩, ?_⟩
 refine an_o 6 <| nrq (.int .i64 a.h) (w' := V30) (by kernel_rfl) ?_
 refine ⟨⟨h31, h32⟩, ?_⟩
 refine ane <| tq_ <| bl_ 0 <| qr_ nl7_ <| kk 4 <| ppq _ (lk (h31)) <| ppq _ (dcf (((a.h) : Int) < (((d.low : Nat) : Int))) (by omega)) <| kk 1 <| en_ <| q_ <| sy_np ?_
 refine sy_reg <| anb 13 (fun W => (HP W d.g (#[.func (.func 125) #[] #[], .slice (some ⟨d.s, 0, none⟩) d.n d.cap, .int .i64 ((d.low : Nat) : Int)]) 192)) zl5_ ?_
 obtain ⟨V35, eV35, kV35⟩ := drew_step V30
 rw [eV35]
 clear eV35
 have ⟨K38, z39, h36⟩ := kV35.z1 K33 h31
 refine ka [0, 1, 2, 3] h36 <| avq 4 _ (fun W hS => lk (hS)) h36 <| ka [5, 6, 7] h36 <| avq 8 _ (fun W hS => lk (hS)) h36 <| avq 9 _ (fun W hS => len_ (some ⟨d.s, 0, none⟩) d.n d.cap Tryz.underlying190) h36 <| avq 10 _ (fun W hS => cwN (n := d.low + d.n)) h36 <| avq 11 _ (fun W hS => dct (((a.h) : Int) ≥ (((d.low + d.n : Nat) : Int))) (by omega)) h36 <| an_o 12 <| nrq (.bool true) (w' := V35) (by kernel_rfl) ?_
 refine ⟨h36, ?_⟩
 refine ane <| then_n <| y_ <| qr_ [0] <| kk 1 <| eu_ <| blk_r <| then_r <| so_ (.int .i64 17) ?_
 exact ⟨rfl, K38⟩
theorem gputB_double (d : RD Pro) (a : Pro) (t q : Nat) (w : World) (H : RingB w d) (ha : a.Ok) (ht : a.h = ((t : Nat) : Int)) (h1 : d.low ≤ t) (h2 : t < d.low + d.n) (hs : slotOf d ((t : Nat) : Int) = some q) :
  Calls Tryz.prog 99 #[pT d.g 0, .agg (Pro.c a)] w (fun e w' => e = .returned (.int .i64 8) ∧ Keeps Nob w w') := by
 have hn0 := H.n1
 have hn2 := H.n2
 have hl2 := H.l2
 have K0 : Keeps Nob w w := Keeps.refl _ _
 refine se_ (qc20_1 1) ⟨fr [pT d.g 0, .agg (Pro.c a)] 47, []⟩ Tryz.func99 <| qr_ [0, 1] <| pbx 37 ((Pro.c a)) (.agg (Pro.c a)) fun V40 p ep h41 kV40 => ?_
 have n42 : d.g < p := ep ▸ lt_of_block H.ring
 have n43 := nk ep K0
 have h44 := kV40.bk H.ring
 have h45 : RingB V40 d := H.keepsN kV40
 have K46 := K0.nn kV40
 have z47 := kV40.size
 refine kk 1 <| eq_ <| sy_np <| sy_reg <| anb 7 (fun W => (HP W d.g (#[.func (.func 125) #[] #[], .slice (some ⟨d.s, 0, none⟩) d.n d.cap, .int .i64 ((d.low : Nat) : Int)]) 192) ∧ (HP W p (Pro.c a) 37)) #[false, false, false, false, false, false, false] ?_
 obtain ⟨V48, eV48, kV48⟩ := drew_step V40
 rw [eV48]
 clear eV48
 have h49 := kV48.bk h44
 have h50 : RingB V48 d := h45.keepsN kV48
 have ⟨K52, z53, h51⟩ := kV48.z1 K46 h41
 refine ka [0, 1, 2] ⟨h49, h51⟩ <| avq 3 _ (fun W hS => lk (hS.1)) ⟨h49, h51⟩ <| avq 4 _ (fun W hS => ldr 37 p (hS.2) (by rw [Pro.c_size _ ha.r]; kernel_rfl)) ⟨h49, h51⟩ <| an_o 5 ?_
 refine on_callV (qo20_1 6 5) (.tmp 9) 125 #[] #[] #[.agg (Pro.c a)] (by kernel_rfl) (by kernel_rfl) (by kernel_rfl) (by kernel_rfl) (by kernel_rfl) (enters_of Tryz.func125 (by kernel_rfl) rfl) ((qidxB_as a t _ ha.r ht).mono ?_)
 rintro e V54 ⟨rfl, kV54⟩
 refine ⟨_, rfl, ?_⟩
 have h55 := kV54.bk h49
 have h56 : RingB V54 d := h50.keepsN kV54
 have ⟨K58, z59, h57⟩ := kV54.z1 K52 h51
 refine ⟨⟨h55, h57⟩, ?_⟩
 refine an_o 6 <| nrq (iN t) (w' := V54) (by kernel_rfl) ?_
 refine ⟨⟨h55, h57⟩, ?_⟩
 refine ane <| tq_ <| bl_ 0 <| qr_ nl7_ <| kk 4 <| ppq _ (lk (h55)) <| ppq _ (dcf ((((t : Nat) : Int)) < (((d.low : Nat) : Int))) (by omega)) <| kk 1 <| en_ <| q_ <| sy_np ?_
 refine sy_reg <| anb 13 (fun W => (HP W d.g (#[.func (.func 125) #[] #[], .slice (some ⟨d.s, 0, none⟩) d.n d.cap, .int .i64 ((d.low : Nat) : Int)]) 192)) zl5_ ?_
 obtain ⟨V60, eV60, kV60⟩ := drew_step V54
 rw [eV60]
 clear eV60
 have h61 := kV60.bk h55
 have h62 : RingB V60 d := h56.keepsN kV60
 have K64 := K58.nn kV60
 have z65 := kV60.size
 refine ka [0, 1, 2, 3] h61 <| avq 4 _ (fun W hS => lk (hS)) h61 <| ka [5, 6, 7] h61 <| avq 8 _ (fun W hS => lk (hS)) h61 <| avq 9 _ (fun W hS => len_ (some ⟨d.s, 0, none⟩) d.n d.cap Tryz.underlying190) h61 <| avq 10 _ (fun W hS => cwN (n := d.low + d.n)) h61 <| avq 11 _ (fun W hS => dcf ((((t : Nat) : Int)) ≥ (((d.low + d.n : Nat) : Int))) (by omega)) h61 <| an_o 12 <| nrq (.bool false) (w' := V60) (by kernel_rfl) ?_
 refine ⟨h61, ?_⟩
 refine ane <| then_n <| n_ <| qr_ nl5_ <| kk 2 ?_
 refine pcr 98 #[pT d.g 0, iN t] Tryz.func98 (gatB_some _ q _ h62 hs) fun V66 kV66 => ?_
 have h68 : RingB V66 d := h62.keepsN kV66
 have K70 := K64.nn kV66
 have z71 := kV66.size
 skip
 refine kk 2 <| ey_ <| qr_ [0] <| kk 1 <| eu_ <| blk_r <| then_r <| so_ (.int .i64 8) ?_
 exact ⟨rfl, K70⟩
theorem gputB_new (d : RD Pro) (a : Pro) (t : Nat) (w : World) (H : RingB w d) (ha : a.Ok) (ht : a.h = ((t : Nat) : Int)) (h1 : d.low ≤ t) (h2 : t < d.low + d.n) (hs : slotOf d ((t : Nat) : Int) = none) :
  Calls Tryz.prog 99 #[pT d.g 0, .agg (Pro.c a)] w (fun e w' => e = .returned (.int .i64 0) ∧ ∃ p, RingB w' { d with V := upV d.V ((t : Nat) : Int) a, S := upS d.S (t % d.n) (some p) } ∧ Keeps (One d.s) w w') := by
 have hn0 := H.n1
 have hn2 := H.n2
 have hl2 := H.l2
 have hm := Nat.mod_lt t hn0
 have hgs : d.g ≠ d.s := fun e => by have h1 := H.ring; rw [e, H.slots] at h1; simp only [Option.some.injEq, Obj.cells.injEq] at h1; exact absurd h1.2.1 (by decide)
 have K0 : Keeps (One d.s) w w := Keeps.refl _ _
 refine se_ (qc20_1 1) ⟨fr [pT d.g 0, .agg (Pro.c a)] 47, []⟩ Tryz.func99 <| qr_ [0, 1] <| pbx 37 ((Pro.c a)) (.agg (Pro.c a)) fun V72 p ep h73 kV72 => ?_
 have n74 : d.g < p := ep ▸ lt_of_block H.ring
 have n75 : d.s < p := ep ▸ lt_of_block H.slots
 have n76 := nk ep K0
 have h77 := kV72.bk H.ring
 have h78 := kV72.bk H.slots
 have h79 : RingB V72 d := H.keepsN kV72
 have h80 : ∀ (j : Nat) (cs : Array Value), HP w j cs 37 → HP V72 j cs 37 := fun j cs e => kV72.odd (Odd.nob _) ((fun _ _ e => e) j cs e)
 have K81 := K0.nn kV72
 have z82 := kV72.size
 refine kk 1 <| eq_ <| sy_np <| sy_reg <| anb 7 (fun W => (HP W d.g (#[.func (.func 125) #[] #[], .slice (some ⟨d.s, 0, none⟩) d.n d.cap, .int .i64 ((d.low : Nat) : Int)]) 192) ∧ (HP W p (Pro.c a) 37)) #[false, false, false, false, false, false, false] ?_
 obtain ⟨V83, eV83, kV83⟩ := drew_step V72
 rw [eV83]
 clear eV83
 have ⟨h84, h85⟩ := kV83.k2 h77 h78
 have h86 : RingB V83 d := h79.keepsN kV83
 have h87 : ∀ (j : Nat) (cs : Array Value), HP w j cs 37 → HP V83 j cs 37 := fun j cs e => kV83.odd (Odd.nob _) (h80 j cs e)
 have ⟨K89, z90, h88⟩ := kV83.z1 K81 h73
 refine ka [0, 1, 2] ⟨h84, h88⟩ <| avq 3 _ (fun W hS => lk (hS.1)) ⟨h84, h88⟩ <| avq 4 _ (fun W hS => ldr 37 p (hS.2) (by rw [Pro.c_size _ ha.r]; kernel_rfl)) ⟨h84, h88⟩ <| an_o 5 ?_
 refine on_callV (qo20_1 6 5) (.tmp 9) 125 #[] #[] #[.agg (Pro.c a)] (by kernel_rfl) (by kernel_rfl) (by kernel_rfl) (by kernel_rfl) (by kernel_rfl) (enters_of Tryz.func125 (by kernel_rfl) rfl) ((qidxB_as a t _ ha.r ht).mono ?_)
 rintro e V91 ⟨rfl, kV91⟩
 refine ⟨_, rfl, ?_⟩
 have ⟨h92, h93⟩ := kV91.k2 h84 h85
 have h94 : RingB V91 d := h86.keepsN kV91
 have h95 : ∀ (j : Nat) (cs : Array Value), HP w j cs 37 → HP V91 j cs 37 := fun j cs e => kV91.odd (Odd.nob _) (h87 j cs e)
 have ⟨K97, z98, h96⟩ := kV91.z1 K89 h88
 refine ⟨⟨h92, h96⟩, ?_⟩
 refine an_o 6 <| nrq (iN t) (w' := V91) (by kernel_rfl) ?_
 refine ⟨⟨h92, h96⟩, ?_⟩
 refine ane <| tq_ <| bl_ 0 <| qr_ nl7_ <| kk 4 <| ppq _ (lk (h92)) <| ppq _ (dcf ((((t : Nat) : Int)) < (((d.low : Nat) : Int))) (by omega)) <| kk 1 <| en_ <| q_ <| sy_np ?_
 refine sy_reg <| anb 13 (fun W => (HP W d.g (#[.func (.func 125) #[] #[], .slice (some ⟨d.s, 0, none⟩) d.n d.cap, .int .i64 ((d.low : Nat) : Int)]) 192)) zl5_ ?_
 obtain ⟨V99, eV99, kV99⟩ := drew_step V91
 rw [eV99]
 clear eV99
 have ⟨h100, h101⟩ := kV99.k2 h92 h93
 have h102 : RingB V99 d := h94.keepsN kV99
 have h103 : ∀ (j : Nat) (cs : Array Value), HP w j cs 37 → HP V99 j cs 37 := fun j cs e => kV99.odd (Odd.nob _) (h95 j cs e)
 have ⟨K105, z106, h104⟩ := kV99.z1 K97 h96
 refine ka [0, 1, 2, 3] h100 <| avq 4 _ (fun W hS => lk (hS)) h100 <| ka [5, 6, 7] h100 <| avq 8 _ (fun W hS => lk (hS)) h100 <| avq 9 _ (fun W hS => len_ (some ⟨d.s, 0, none⟩) d.n d.cap Tryz.underlying190) h100 <| avq 10 _ (fun W hS => cwN (n := d.low + d.n)) h100 <| avq 11 _ (fun W hS => dcf ((((t : Nat) : Int)) ≥ (((d.low + d.n : Nat) : Int))) (by omega)) h100 <| an_o 12 <| nrq (.bool false) (w' := V99) (by kernel_rfl) ?_
 refine ⟨h100, ?_⟩
 refine ane <| then_n <| n_ <| qr_ nl5_ <| kk 2 ?_
 refine pcr 98 #[pT d.g 0, iN t] Tryz.func98 (gatB_none _ _ h102 hs) fun V107 kV107 => ?_
 have ⟨h108, h109⟩ := kV107.k2 h100 h101
 have h110 : RingB V107 d := h102.keepsN kV107
 have h111 : ∀ (j : Nat) (cs : Array Value), HP w j cs 37 → HP V107 j cs 37 := fun j cs e => kV107.odd (Odd.nob _) (h103 j cs e)
 have ⟨K113, z114, h112⟩ := kV107.z1 K105 h104
 skip
 refine kk 2 <| en_ <| s_ <| blk_n <| tq_ <| sy_reg <| rgs 12 (zo12_ (qo20_1 30)) [qo20_1 30 12] ?_
 obtain ⟨V116, eV116, kV116⟩ := drew_step V107
 rw [eV116]
 clear eV116
 have ⟨h117, h118⟩ := kV116.k2 h108 h109
 have h119 : RingB V116 d := h110.keepsN kV116
 have h120 : ∀ (j : Nat) (cs : Array Value), HP w j cs 37 → HP V116 j cs 37 := fun j cs e => kV116.odd (Odd.nob _) (h111 j cs e)
 have ⟨K122, z123, h121⟩ := kV116.z1 K113 h112
 refine ks 3 <| spq _ (lk (h117)) <| ks 4 <| spq _ (lk (h117)) <| spq _ (len_ (some ⟨d.s, 0, none⟩) d.n d.cap Tryz.underlying190) <| spq (iN (t % d.n)) (exec_rem 3 3 (.tmp 41) (.tmp 46) (by kernel_rfl) t d.n (by kernel_rfl) (by kernel_rfl) hn0) <| spq (pT d.s (t % d.n)) (exec_cast (v := pT d.s (0 + (t % d.n) * 1)) (by simp) (ixs d.s 0 d.n d.cap .i64 (t % d.n) 1 Tryz.underlying190 (by omega))) <| st_end ?_
 obtain ⟨V124, eV124, kV124⟩ := cell_step V116 d.s (t % d.n) (pT p 0)
 have h125 : HP V124 d.s (Slots d.n (upS d.S (t % d.n) (some p)) d.rest) 168 := eV124 ▸ ((heap_setCell_same _ d.s (t % d.n) _ _ (pT p 0) h118).trans (congrArg (fun c => some (Obj.cells c 168 (0, 0))) (show (Slots d.n d.S d.rest : Array Value).setIfInBounds (t % d.n) (pT p 0) = Slots d.n (upS d.S (t % d.n) (some p)) d.rest from Slots.set' (Nat.mod_lt _ hn0) (some p) rfl)))
 refine ls_skip (qo20_1 30 12) (w' := V124) (by kernel_rfl) (by rw [← eV124]; exact exec_store_cell 168 (.tmp 48) (.tmp 3) (by kernel_rfl) d.s (t % d.n) (by kernel_rfl) (pT p 0) (by kernel_rfl) (by kernel_rfl) (by kernel_rfl) (ptrV (d.S (t % d.n))) (rc (h118) ((Slots.get (Nat.mod_lt _ hn0)).trans (congrArg some (rfl)))) (frozen_of_row _ _ _ _ _ h118) (by kernel_rfl)) ?_
 clear eV124
 have h126 := kV124.bO h117
 have h127 : ∀ (j : Nat) (cs : Array Value), HP w j cs 37 → HP V124 j cs 37 := fun j cs e => kV124.odd (Odd.one h118 (by decide)) (h120 j cs e)
 have h128 := kV124.bO h121
 have K129 : Keeps (One d.s) w V124 := K122.then kV124 (fun i hi hm => by unfold Own.One at hm; subst hm; exact rfl)
 have z130 := kV124.size
 refine ls_end <| tqr_ [0] <| kk 1 <| eu_ <| so_ (.int .i64 0) ?_
 exact ⟨rfl, _, Ring.put H t a h1 h2 ht ha p h128 h126 h127 h125, K129⟩
def gputBErr (d : RD Pro) (i : Int) : Int := if i < (d.low : Int) then 16 else if (d.low : Int) + d.n ≤ i then 17 else if (d.V i).isSome then 8 else 0
theorem gputB_ok (d : RD Pro) (a : Pro) (w : World) (H : RingB w d) (ha : a.Ok) : Calls Tryz.prog 99 #[pT d.g 0, .agg (Pro.c a)] w fun e w' => e = .returned (.int .i64 (gputBErr d a.h)) ∧
  (gputBErr d a.h ≠ 0 → RingB w' d) ∧ (gputBErr d a.h = 0 → ∃ S', RingB w' { d with V := upV d.V a.h a, S := S' }) ∧ Keeps (One d.s) w w' := by
 have nob : ∀ {w' : World}, Keeps Nob w w' → Keeps (One d.s) w w' := fun k => k.mono (fun _ _ x => x.elim)
 unfold gputBErr
 by_cases h1 : a.h < (d.low : Int)
 ·rw [if_pos h1]; exact (gputB_low d a w H ha h1).mono fun e w' ⟨he, k⟩ => ⟨he, fun _ => H.keepsN k, fun h => by omega, nob k⟩
 ·rw [if_neg h1]
  by_cases h2 : (d.low : Int) + d.n ≤ a.h
  ·rw [if_pos h2]; exact (gputB_high d a w H ha h2).mono fun e w' ⟨he, k⟩ => ⟨he, fun _ => H.keepsN k, fun h => by omega, nob k⟩
  ·rw [if_neg h2]
   obtain ⟨t, ht⟩ : ∃ t : Nat, a.h = (t : Int) := ⟨(a.h).toNat, by omega⟩
   rw [ht]
   rcases H.none_or ((t : Nat) : Int) with ⟨hv, hs⟩ | ⟨b, q, hv, hs, _⟩
   ·rw [hv]; exact (gputB_new d a t w H ha ht (by omega) (by omega) hs).mono fun e w' ⟨he, p, hr, k⟩ => ⟨he, fun h => absurd rfl h, fun _ => ⟨_, hr⟩, k⟩
   ·rw [hv]; exact (gputB_double d a t q w H ha ht (by omega) (by omega) hs).mono fun e w' ⟨he, k⟩ => ⟨he, fun _ => H.keepsN k, fun h => (by cases h), nob k⟩
noncomputable def qc20_0 (n : Nat) : Code := partOf Tryz.f117 n
noncomputable abbrev qo20_0 (n k : Nat) : Oper := (opsAt (qc20_0 n)).getD k default
theorem gmoveB_far (d : RD Pro) (l : Nat) (w : World) (H : RingB w d) (hl : d.low + d.n ≤ l) (hl3 : l ≤ 4294967296) :
  Calls Tryz.prog 117 #[pT d.g 0, .int .i64 ((l : Nat) : Int)] w (fun e w' => e = .returned (.tuple #[]) ∧ RingB w' { d with low := l, V := mvV d.V ((l : Nat) : Int), S := fun _ => none } ∧ Keeps (fun j => j = d.g ∨ j = d.s) w w') := by
 have hn0 := H.n1
 have hn2 := H.n2
 have hl2 := H.l2
 have hgs : d.g ≠ d.s := fun e => by have h1 := H.ring; rw [e, H.slots] at h1; simp only [Option.some.injEq, Obj.cells.injEq] at h1; exact absurd h1.2.1 (by decide)
 have K0 : Keeps ((fun j => j = d.g ∨ j = d.s)) w w := Keeps.refl _ _
 refine se_ (qc20_0 1) ⟨fr [pT d.g 0, iN l] 64, []⟩ Tryz.func117 <| q_ <| q_ <| sy_np <| sy_reg <| anb 12 (fun W => (HP W d.g (#[.func (.func 125) #[] #[], .slice (some ⟨d.s, 0, none⟩) d.n d.cap, .int .i64 ((d.low : Nat) : Int)]) 192)) zl7_ ?_
 obtain ⟨V1, eV1, kV1⟩ := drew_step w
 rw [eV1]
 clear eV1
 have h2 := kV1.bk H.ring
 have h3 := kV1.bk H.slots
 have K4 := K0.nn kV1
 have z5 := kV1.size
 refine ka [0, 1, 2, 3] h2 <| avq 4 _ (fun W hS => lk (hS)) h2 <| avq 5 (iN (l - d.low)) (fun W hS => exec_cast (congrArg (Value.int .i64) (wrapI (((l : Nat) : Int) - ((d.low : Nat) : Int)) _ (by omega) (by omega) (by omega))) (by kernel_rfl)) h2 <| ka [6, 7, 8] h2 <| avq 9 _ (fun W hS => lk (hS)) h2 <| avq 10 _ (fun W hS => len_ (some ⟨d.s, 0, none⟩) d.n d.cap Tryz.underlying190) h2 <| avq 11 _ (fun W hS => dct ((((l - d.low : Nat) : Int)) ≥ (((d.n : Nat) : Int))) (by omega)) h2 <| ane <| then_n ?_
 refine y_ <| r_ nl5_ <| kk 3 <| ppq _ (lk (h2)) ?_
 obtain ⟨V6, eV6⟩ : ∃ V, V1.setCells d.s 0 (List.replicate d.n (.pointer none)) = V := ⟨_, rfl⟩
 have kV6 : Keeps (One d.s) V1 V6 := eV6 ▸ Keeps.setCells _ _ _ _
 have h7 : HP V6 d.s (Slots d.n (fun _ => none) d.rest) 168 := eV6 ▸ (heap_setCells d.s _ _ 0 _ _ h3 (by rw [Slots.size, List.length_replicate]; omega)).trans (congrArg (fun c => some (Obj.cells c 168 (0, 0))) Slots.clear)
 refine prq (.tuple #[]) (w' := V6) (by rw [← eV6]; exact exec_clear (.tmp 19) 190 168 (by kernel_rfl) (.pointer none) Tryz.underlying190 (fun _ => by kernel_rfl) rfl rfl d.s d.n d.cap (by kernel_rfl) hn0 _ _ h3 (by rw [Slots.size]; omega)) ?_
 clear eV6
 have h8 := kV6.bO h2
 have K9 : Keeps ((fun j => j = d.g ∨ j = d.s)) w V6 := K4.then kV6 (fun i hi hm => by unfold Own.One at hm; subst hm; exact .inr rfl)
 have z10 := kV6.size
 refine eq_ <| bl_ 0 <| sy_rounds 1 (qc20_0 24) (by kernel_rfl) <| rd_step <| q_ <| q_ <| sy_np <| sy_reg <| anb 20 (fun W => (HP W d.g (#[.func (.func 125) #[] #[], .slice (some ⟨d.s, 0, none⟩) d.n d.cap, .int .i64 ((d.low : Nat) : Int)]) 192)) zl4_ ?_
 obtain ⟨V11, eV11, kV11⟩ := drew_step V6
 rw [eV11]
 clear eV11
 have ⟨K14, z15, h12, h13⟩ := kV11.z2 K9 h8 h7
 refine ka [0, 1, 2] h12 <| avq 3 _ (fun W hS => lk (hS)) h12 <| ka [4] h12 <| avq 5 _ (fun W hS => dct ((((d.low : Nat) : Int)) < (((l : Nat) : Int))) (by omega)) h12 <| ka [6, 7, 8, 9, 10] h12 <| avq 11 _ (fun W hS => lk (hS)) h12 <| avq 12 (iN (l - d.low)) (fun W hS => exec_cast (congrArg (Value.int .i64) (wrapI (((l : Nat) : Int) - ((d.low : Nat) : Int)) _ (by omega) (by omega) (by omega))) (by kernel_rfl)) h12 <| ka [13] h12 ?_
 refine ka [14, 15] h12 <| avq 16 _ (fun W hS => lk (hS)) h12 <| avq 17 _ (fun W hS => len_ (some ⟨d.s, 0, none⟩) d.n d.cap Tryz.underlying190) h12 <| avq 18 _ (fun W hS => dcf ((((l - d.low : Nat) : Int)) < (((d.n : Nat) : Int))) (by omega)) h12 <| ka [19] h12 <| ane <| then_n <| n_ <| sy_exit 0 (by kernel_rfl) <| then_e <| then_e <| blk_e ?_
 refine tr_ nl5_ <| kk 4 ?_
 refine pce 3 d.g 2 (iN l) (#[.func (.func 125) #[] #[], .slice (some ⟨d.s, 0, none⟩) d.n d.cap, .int .i64 ((l : Nat) : Int)]) h12 (rc (h12) (by kernel_rfl)) (by kernel_rfl) (u := iN d.low) fun V16 h17 kV16 => ?_
 have h18 := kV16.bO h13
 have K19 : Keeps ((fun j => j = d.g ∨ j = d.s)) w V16 := K14.then kV16 (fun i hi hm => by unfold Own.One at hm; subst hm; exact .inl rfl)
 have z20 := kV16.size
 refine ps_end <| sy_fall (.tuple #[]) rfl (by kernel_rfl) ?_
 exact ⟨rfl, Ring.cleared H l hl hl3 h17 h18, K19⟩
theorem gmoveB_near (d : RD Pro) (l : Nat) (w : World) (H : RingB w d) (hl0 : d.low ≤ l) (hl : l < d.low + d.n) (hl3 : l ≤ 4294967296) :
  Calls Tryz.prog 117 #[pT d.g 0, .int .i64 ((l : Nat) : Int)] w (fun e w' => e = .returned (.tuple #[]) ∧ ∃ S', RingB w' { d with low := l, V := mvV d.V ((l : Nat) : Int), S := S' } ∧ Keeps (fun j => j = d.g ∨ j = d.s) w w') := by
 have hn0 := H.n1
 have hn2 := H.n2
 have hl2 := H.l2
 have hgs : d.g ≠ d.s := fun e => by have h1 := H.ring; rw [e, H.slots] at h1; simp only [Option.some.injEq, Obj.cells.injEq] at h1; exact absurd h1.2.1 (by decide)
 have K0 : Keeps ((fun j => j = d.g ∨ j = d.s)) w w := Keeps.refl _ _
 refine se_ (qc20_0 1) ⟨fr [pT d.g 0, iN l] 64, []⟩ Tryz.func117 <| q_ <| q_ <| sy_np <| sy_reg <| anb 12 (fun W => (HP W d.g (#[.func (.func 125) #[] #[], .slice (some ⟨d.s, 0, none⟩) d.n d.cap, .int .i64 ((d.low : Nat) : Int)]) 192)) zl7_ ?_
 obtain ⟨V21, eV21, kV21⟩ := drew_step w
 rw [eV21]
 clear eV21
 have h22 := kV21.bk H.ring
 have h24 : RingB V21 d := H.keepsN kV21
 have K25 := K0.nn kV21
 have z26 := kV21.size
 refine ka [0, 1, 2, 3] h22 <| avq 4 _ (fun W hS => lk (hS)) h22 <| avq 5 (iN (l - d.low)) (fun W hS => exec_cast (congrArg (Value.int .i64) (wrapI (((l : Nat) : Int) - ((d.low : Nat) : Int)) _ (by omega) (by omega) (by omega))) (by kernel_rfl)) h22 <| ka [6, 7, 8] h22 <| avq 9 _ (fun W hS => lk (hS)) h22 <| avq 10 _ (fun W hS => len_ (some ⟨d.s, 0, none⟩) d.n d.cap Tryz.underlying190) h22 <| avq 11 _ (fun W hS => dcf ((((l - d.low : Nat) : Int)) ≥ (((d.n : Nat) : Int))) (by omega)) h22 <| ane <| then_n ?_
 refine n_ <| s_ <| tq_ <| bl_ 0 ?_
 refine sy_loop (qc20_0 24) (fun a V => ∃ (k : Nat) (S' : Nat → Option Nat) (u20 u21 u22 u23 u24 u25 u26 u27 u28 u29 u30 u31 u32 u33 u34 u35 u36 u37 u38 u39 u40 u41 u42 u43 u44 u45 u46 u47 u48 u49 u50 u51 u52 u53 u54 u55 u56 u57 u58 u59 u60 u61 : Value), (a = ⟨#[pT d.g 0, iN l, ud, ud, iN l, pT d.g 0, pT d.g 0, pT d.g 2, iN d.low, iN (l - d.low), pT d.g 0, pT d.g 0, pT d.g 1, .slice (some ⟨d.s, 0, none⟩) d.n d.cap, iN d.n, .bool false, ud, ud, ud, ud, u20, u21, u22, u23, u24, u25, u26, u27, u28, u29, u30, u31, u32, u33, u34, u35, u36, u37, u38, u39, u40, u41, u42, u43, u44, u45, u46, u47, u48, u49, u50, u51, u52, u53, u54, u55, u56, u57, u58, u59, u60, u61, ud, ud, ud, ud], []⟩) ∧ (d.low ≤ k) ∧ (k ≤ l) ∧ (Keeps ((fun j => j = d.g ∨ j = d.s)) w V) ∧ (RingB V { d with low := k, V := mvV d.V ((k : Nat) : Int), S := S' })) (fun a V => l - lowAt V d.g) (by kernel_rfl) ?_ ?_
 ·exact ⟨d.low, d.S, undef, undef, undef, undef, undef, undef, undef, undef, undef, undef, undef, undef, undef, undef, undef, undef, undef, undef, undef, undef, undef, undef, undef, undef, undef, undef, undef, undef, undef, undef, undef, undef, undef, undef, undef, undef, undef, undef, undef, undef, undef, undef, by kernel_rfl, Nat.le_refl _, by omega, K25, (by rw [H.mvV_self d.low (Nat.le_refl _)]; exact h24)⟩
 ·rintro a V27 ⟨k, S', u20, u21, u22, u23, u24, u25, u26, u27, u28, u29, u30, u31, u32, u33, u34, u35, u36, u37, u38, u39, u40, u41, u42, u43, u44, u45, u46, u47, u48, u49, u50, u51, u52, u53, u54, u55, u56, u57, u58, u59, u60, u61, rfl, hk1, hk, K28, hR⟩
  have hg0 : HP V27 d.g (#[.func (.func 125) #[] #[], .slice (some ⟨d.s, 0, none⟩) d.n d.cap, .int .i64 ((k : Nat) : Int)]) 192 := hR.ring
  have hs0 : HP V27 d.s (Slots d.n S' d.rest) 168 := hR.slots
  have hm := Nat.mod_lt k hn0
  by_cases lt_k : k < l
  ·skip
   refine q_ <| q_ <| sy_np <| sy_reg <| anb 20 (fun W => (HP W d.g (#[.func (.func 125) #[] #[], .slice (some ⟨d.s, 0, none⟩) d.n d.cap, .int .i64 ((k : Nat) : Int)]) 192)) zl4_ ?_
   obtain ⟨V29, eV29, kV29⟩ := drew_step V27
   rw [eV29]
   clear eV29
   have ⟨h30, h31⟩ := kV29.k2 hg0 hs0
   have h32 : ∀ (j : Nat) (cs : Array Value), HP V27 j cs 37 → HP V29 j cs 37 := fun j cs e => kV29.odd (Odd.nob _) ((fun _ _ e => e) j cs e)
   have K33 := K28.nn kV29
   have z34 := kV29.size
   refine ka [0, 1, 2] h30 <| avq 3 _ (fun W hS => lk (hS)) h30 <| ka [4] h30 <| avq 5 _ (fun W hS => dct ((((k : Nat) : Int)) < (((l : Nat) : Int))) (by omega)) h30 <| ka [6, 7, 8, 9, 10] h30 <| avq 11 _ (fun W hS => lk (hS)) h30 <| avq 12 (iN (l - k)) (fun W hS => exec_cast (congrArg (Value.int .i64) (wrapI (((l : Nat) : Int) - ((k : Nat) : Int)) _ (by omega) (by omega) (by omega))) (by kernel_rfl)) h30 <| ka [13] h30 ?_
   refine ka [14, 15] h30 <| avq 16 _ (fun W hS => lk (hS)) h30 <| avq 17 _ (fun W hS => len_ (some ⟨d.s, 0, none⟩) d.n d.cap Tryz.underlying190) h30 <| avq 18 _ (fun W hS => dct ((((l - k : Nat) : Int)) < (((d.n : Nat) : Int))) (by omega)) h30 <| ka [19] h30 <| ane <| then_n <| y_ <| s_ <| tq_ <| bl_ 1 <| sy_reg <| rgs 15 (zo15_ (qo20_0 196)) [qo20_0 196 15] ?_
   obtain ⟨V36, eV36, kV36⟩ := drew_step V29
   rw [eV36]
   clear eV36
   have ⟨h37, h38⟩ := kV36.k2 h30 h31
   have h39 : ∀ (j : Nat) (cs : Array Value), HP V27 j cs 37 → HP V36 j cs 37 := fun j cs e => kV36.odd (Odd.nob _) (h32 j cs e)
   have K40 := K33.nn kV36
   have z41 := kV36.size
   refine ks 3 <| spq _ (lk (h37)) <| ks 3 <| spq _ (lk (h37)) <| ks 3 <| spq _ (lk (h37)) <| spq _ (len_ (some ⟨d.s, 0, none⟩) d.n d.cap Tryz.underlying190) <| spq (iN (k % d.n)) (exec_rem 3 3 (.tmp 54) (.tmp 59) (by kernel_rfl) k d.n (by kernel_rfl) (by kernel_rfl) hn0) ?_
   refine spq (pT d.s (k % d.n)) (exec_cast (v := pT d.s (0 + (k % d.n) * 1)) (by simp) (ixs d.s 0 d.n d.cap .i64 (k % d.n) 1 Tryz.underlying190 (by omega))) <| st_end ?_
   obtain ⟨V42, eV42, kV42⟩ := cell_step V36 d.s (k % d.n) (.pointer none)
   have h43 : HP V42 d.s (Slots d.n (upS S' (k % d.n) none) d.rest) 168 := eV42 ▸ ((heap_setCell_same _ d.s (k % d.n) _ _ (.pointer none) h38).trans (congrArg (fun c => some (Obj.cells c 168 (0, 0))) (show (Slots d.n S' d.rest : Array Value).setIfInBounds (k % d.n) (.pointer none) = Slots d.n (upS S' (k % d.n) none) d.rest from Slots.set' (Nat.mod_lt _ hn0) none rfl)))
   refine ls_skip (qo20_0 196 15) (w' := V42) (by kernel_rfl) (by rw [← eV42]; exact exec_store_cell 168 (.tmp 61) (.const (.pointer none)) (by kernel_rfl) d.s (k % d.n) (by kernel_rfl) (.pointer none) (by kernel_rfl) (by kernel_rfl) (by kernel_rfl) (ptrV (S' (k % d.n))) (rc (h38) ((Slots.get (Nat.mod_lt _ hn0)).trans (congrArg some (rfl)))) (frozen_of_row _ _ _ _ _ h38) (by kernel_rfl)) ?_
   clear eV42
   have h44 := kV42.bO h37
   have h45 : ∀ (j : Nat) (cs : Array Value), HP V27 j cs 37 → HP V42 j cs 37 := fun j cs e => kV42.odd (Odd.one h38 (by decide)) (h39 j cs e)
   have K46 : Keeps ((fun j => j = d.g ∨ j = d.s)) w V42 := K40.then kV42 (fun i hi hm => by unfold Own.One at hm; subst hm; exact .inr rfl)
   have z47 := kV42.size
   refine ls_end <| blk_n <| tr_ nl8_ <| kk 3 <| ppq _ (lk (h44)) <| ppq _ (cwN (n := k + 1)) <| kk 2 ?_
   refine pce 3 d.g 2 (iN (k + 1)) (#[.func (.func 125) #[] #[], .slice (some ⟨d.s, 0, none⟩) d.n d.cap, .int .i64 ((k + 1 : Nat) : Int)]) h44 (rc (h44) (by kernel_rfl)) (by kernel_rfl) (u := iN k) fun V48 h49 kV48 => ?_
   have h50 : ∀ (j : Nat) (cs : Array Value), HP V27 j cs 37 → HP V48 j cs 37 := fun j cs e => kV48.odd (Odd.one h44 (by decide)) (h45 j cs e)
   have h51 := kV48.bO h43
   have K52 : Keeps ((fun j => j = d.g ∨ j = d.s)) w V48 := K46.then kV48 (fun i hi hm => by unfold Own.One at hm; subst hm; exact .inl rfl)
   have z53 := kV48.size
   refine et_ ?_
   refine ⟨⟨k + 1, upS S' (k % d.n) none, (pT d.g 0), (pT d.g 0), (pT d.g 2), (iN k), (iN l), (.bool true), (.bool true), (iN l), (pT d.g 0), (pT d.g 0), (pT d.g 2), (iN k), (iN (l - k)), (pT d.g 0), (pT d.g 0), (pT d.g 1), (.slice (some ⟨d.s, 0, none⟩) d.n d.cap), (iN d.n), (.bool true), (.bool true), (pT d.g 0), (pT d.g 0), (pT d.g 2), (iN k), (iN (k + 1)), (pT d.g 0), (pT d.g 2), (pT d.g 0), (pT d.g 0), (pT d.g 1), (.slice (some ⟨d.s, 0, none⟩) d.n d.cap), (pT d.g 0), (pT d.g 0), (pT d.g 2), (iN k), (pT d.g 0), (pT d.g 0), (pT d.g 1), (.slice (some ⟨d.s, 0, none⟩) d.n d.cap), (iN d.n), (iN (k % d.n)), (pT d.s (k % d.n)), by kernel_rfl, by omega, by omega, K52, (by have hx := Ring.step hR h50 (by show k < 4294967296; omega) h49 h51; dsimp only at hx; rw [mvV_mvV (show ((k : Nat) : Int) ≤ ((k + 1 : Nat) : Int) by omega)] at hx; exact hx)⟩, ?_⟩
   show l - lowAt V48 d.g < l - lowAt V27 d.g; rw [lowAt_of h49, lowAt_of hg0]; omega
  ·have eq_k : k = l := by omega
   have hRl : RingB V27 { d with low := l, V := mvV d.V ((l : Nat) : Int), S := S' } := eq_k ▸ hR
   have hg1 : HP V27 d.g (#[.func (.func 125) #[] #[], .slice (some ⟨d.s, 0, none⟩) d.n d.cap, .int .i64 ((l : Nat) : Int)]) 192 := hRl.ring
   refine q_ <| q_ <| sy_np <| sy_reg <| anb 20 (fun W => (HP W d.g (#[.func (.func 125) #[] #[], .slice (some ⟨d.s, 0, none⟩) d.n d.cap, .int .i64 ((l : Nat) : Int)]) 192)) zl4_ ?_
   obtain ⟨V54, eV54, kV54⟩ := drew_step V27
   rw [eV54]
   clear eV54
   have ⟨h55, h56⟩ := kV54.k2 hg1 hs0
   have h57 : ∀ (j : Nat) (cs : Array Value), HP V27 j cs 37 → HP V54 j cs 37 := fun j cs e => kV54.odd (Odd.nob _) ((fun _ _ e => e) j cs e)
   have K58 := K28.nn kV54
   have z59 := kV54.size
   refine ka [0, 1, 2] h55 <| avq 3 _ (fun W hS => lk (hS)) h55 <| ka [4] h55 <| avq 5 _ (fun W hS => dcf ((((l : Nat) : Int)) < (((l : Nat) : Int))) (by omega)) h55 <| ka [6, 7, 8, 9, 10, 11, 12, 13] h55 ?_
   refine ka [14, 15, 16, 17, 18, 19] h55 <| ane <| then_n <| n_ <| sy_exit 0 (by kernel_rfl) <| then_e <| then_e <| blk_e <| tr_ nl5_ ?_
   refine kk 4 ?_
   refine pce 3 d.g 2 (iN l) (#[.func (.func 125) #[] #[], .slice (some ⟨d.s, 0, none⟩) d.n d.cap, .int .i64 ((l : Nat) : Int)]) h55 (rc (h55) (by kernel_rfl)) (by kernel_rfl) (u := iN l) fun V60 h61 kV60 => ?_
   have h62 := kV60.bO h56
   have h63 : ∀ (j : Nat) (cs : Array Value), HP V27 j cs 37 → HP V60 j cs 37 := fun j cs e => kV60.odd (Odd.one h55 (by decide)) (h57 j cs e)
   have K64 : Keeps ((fun j => j = d.g ∨ j = d.s)) w V60 := K58.then kV60 (fun i hi hm => by unfold Own.One at hm; subst hm; exact .inl rfl)
   have z65 := kV60.size
   refine ps_end <| sy_fall (.tuple #[]) rfl (by kernel_rfl) ?_
   exact ⟨rfl, _, Ring.same hRl h61 h62 h63, K64⟩
theorem gmoveB_ok (d : RD Pro) (l : Nat) (w : World) (H : RingB w d) (hl0 : d.low ≤ l) (hl3 : l ≤ 4294967296) : Calls Tryz.prog 117 #[pT d.g 0, .int .i64 ((l : Nat) : Int)] w fun e w' => e = .returned (.tuple #[]) ∧ ∃ S', RingB w' { d with low := l, V := mvV d.V ((l : Nat) : Int), S := S' } ∧ Keeps (fun j => j = d.g ∨ j = d.s) w w' := by
 by_cases h : d.low + d.n ≤ l
 ·exact (gmoveB_far d l w H h hl3).mono fun e w' ⟨he, hr, k⟩ => ⟨he, _, hr, k⟩
 ·exact gmoveB_near d l w H hl0 (by omega) hl3
end
section
open Go Go.RowKit Go.Own Go.Shelf
theorem Slots.src {w : World} {s n cap : Nat} {S : Nat → Option Nat} {rest : List Value} {T : TypeId} (h : HP w s (Slots n S rest) T) : SrcO w 1 (.slice (some ⟨s, 0, none⟩) n cap) n ((List.range n).map fun k => ptrV (S k)) := by
 refine ⟨by simp, fun u hu => ?_, .inr ⟨_, _, rfl, fun j u hj => ?_⟩⟩
 ·obtain ⟨k, _, rfl⟩ := List.mem_map.1 hu; exact ptrV_one _
 ·have hj2 : j < n := by have := (List.getElem?_eq_some_iff.1 hj).1; simpa using this
  rw [List.getElem?_map, List.getElem?_range hj2] at hj
  simp only [Addr.add_lit, Nat.zero_add]
  exact rc h ((Slots.get hj2).trans hj)
theorem Row.slots {w : World} {n : Nat} {S : Nat → Option Nat} {v : Value} {e : TypeId} (h : Row w e 1 v n ((List.range n).map fun k => ptrV (S k))) (hn : 0 < n) : ∃ g cap rest, v = .slice (some ⟨g, 0, none⟩) n cap ∧ HP w g (Slots n S rest) e := by
 rcases h.2 with ⟨_, h0⟩ | ⟨g, cap, cur, rfl, _, hg, h1, h2, h3, h4⟩
 ·omega
 ·refine ⟨g, cap, cur.toList.drop n, rfl, hg.trans ?_⟩
  congr 2
  apply Array.toList_inj.1
  unfold Slots
  simp only
  rw [← h4]
  simp
noncomputable def qc21_2 (n : Nat) : Code := partOf Tryz.f126 n
theorem gmade_ok (n low : Nat) (w : World) (q1 : 1 ≤ n) (q2 : n ≤ 256000) (q3 : low ≤ 4294967296) :
  Calls Tryz.prog 126 #[.int .i64 ((n : Nat) : Int), .int .i64 ((low : Nat) : Int), .func (.func 124) #[] #[]] w (fun e w' => ∃ g s, e = .returned (pT g 0) ∧ RingA w' ⟨g, s, low, n, n, fun _ => none, fun _ => none, []⟩ ∧ w.heap.size ≤ g ∧ w.heap.size ≤ s ∧ Keeps Nob w w') := by
 obtain ⟨i0, hi0, hz0, hz1, hz2⟩ := info_parts a_ptr_info
 have K0 : Keeps Nob w w := Keeps.refl _ _
 refine se_ (qc21_2 1) ⟨fr [iN n, iN low, .func (.func 124) #[] #[]] 10, []⟩ Tryz.func126 <| qr_ [0] <| kk 1 <| eqr_ nl7_ <| kk 2 ?_
 obtain ⟨V1, eV1, s, es, h2, kV1⟩ := alloc_step w (madeCells (Value.pointer none).cells (n * i0.size)) 185
 have h3 : HP V1 s (Slots n (fun _ => none) []) 185 := h2.trans (by rw [hz1]; exact congrArg (fun c => some (Obj.cells c 185 (0, 0))) (Slots.made n))
 refine prq (.slice (some ⟨s, 0, none⟩) n n) (w' := V1) (by rw [← eV1, ← es]; exact exec_makeSlice 182 (.tmp 8) (.tmp 8) (by kernel_rfl) 185 i0 (.pointer none) Tryz.underlying182 hi0 hz0 n (by kernel_rfl) (by kernel_rfl) (by rw [hz2]; omega) (by omega)) ?_
 clear eV1
 have ns : w.heap.size ≤ s := es ▸ K0.size
 have K4 := K0.nn kV1
 have z5 := kV1.size
 refine kk 2 ?_
 refine pbx 184 (#[.func (.func 124) #[] #[], .slice (some ⟨s, 0, none⟩) n n, .int .i64 ((low : Nat) : Int)]) (.agg #[.func (.func 124) #[] #[], .slice (some ⟨s, 0, none⟩) n n, iN low]) fun V6 g eg h7 kV6 => ?_
 have n8 := nl eg h3
 have n9 := nk eg K4
 have ⟨K11, z12, h10⟩ := kV6.z1 K4 h3
 refine kk 1 <| eu_ <| so_ (pT g 0) ?_
 exact ⟨g, s, rfl, Ring.made h7 h10 q1 q2 q3, by omega, ns, K11⟩
noncomputable def qc21_3 (n : Nat) : Code := partOf Tryz.f73 n
theorem gall_ok (g : Nat) (w : World) :
  Calls Tryz.prog 73 #[pT g 0] w (fun e w' => ∃ bx, e = .returned (.func (.func 112) #[] #[pT bx 0]) ∧ HP w' bx #[pT g 0] 119 ∧ w.heap.size ≤ bx ∧ Keeps Nob w w') := by
 have K0 : Keeps Nob w w := Keeps.refl _ _
 refine se_ (qc21_3 1) ⟨#[pT g 0, ud, ud, ud], []⟩ Tryz.func73 <| qr_ [0, 1] <| pbx 119 (#[pT g 0]) (pT g 0) fun V1 bx ebx h2 kV1 => ?_
 have n3 := nk ebx K0
 have K4 := K0.nn kV1
 have z5 := kV1.size
 refine kk 1 <| eqr_ [0, 1] <| kk 2 <| eu_ <| so_ (.func (.func 112) #[] #[pT bx 0]) ?_
 exact ⟨bx, rfl, h2, by omega, K4⟩
def gall1S (bx : Nat) (d : RD Att) (W : World) : Prop := HP W bx #[pT d.g 0] 119 ∧ RingA W d
theorem gall1S.turn {bx : Nat} {d : RD Att} {A B : World} {b : Nat} (h : gall1S bx d A) (t : Turn b Nob A B) : gall1S bx d B :=
 ⟨t.same _ _ h.1 (fun x => x) (.inr rfl), h.2.mono fun j cs T _ e => t.same _ _ e (fun x => x) (.inr rfl)⟩
theorem gall1_cases {d : RD Att} {W : World} (H : RingA W d) (k : Nat) (hk : k ≤ d.n) : (k < d.n ∧ d.V ((d.low + k : Nat) : Int) = none ∧ slotOf d ((d.low + k : Nat) : Int) = none) ∨
  (∃ a p, k < d.n ∧ d.V ((d.low + k : Nat) : Int) = some a ∧ slotOf d ((d.low + k : Nat) : Int) = some p ∧ HP W p a.c 28 ∧ a.Ok) ∨ k = d.n := by
 by_cases h : k < d.n
 ·rcases H.none_or ((d.low + k : Nat) : Int) with ⟨h1, h2⟩ | ⟨a, p, h1, h2, h3, _, _, _, h4⟩
  ·exact .inl ⟨h, h1, h2⟩
  ·exact .inr (.inl ⟨a, p, h, h1, h2, h3, h4⟩)
 ·exact .inr (.inr (by omega))
noncomputable def qc21_0 (n : Nat) : Code := partOf Tryz.f112 n
noncomputable abbrev qo21_0 (n k : Nat) : Oper := (opsAt (qc21_0 n)).getD k default
theorem gall1_seq (bx : Nat) (d : RD Att) (fz : Nat) :
  SeqOwn Fence.wide fz Tryz.prog 112 #[pT bx 0] (fun x : Att => #[.agg x.c]) (items d.V d.low d.n) Nob (fun _ => gall1S bx d) := by
 intro l J Jx W0 hJ hJx hY h0 hS0
 obtain ⟨hb0, hr0⟩ := hS0
 have hn1 := hr0.n1
 have hn2 := hr0.n2
 have hl2 := hr0.l2
 refine syW_enter (qc21_0 1) ⟨fr [.func (.yield l) #[] #[], pT bx 0] 30, []⟩ Tryz.func112 (by kernel_rfl) (by kernel_rfl) <| syI_seq (qc21_0 2) (qc21_0 3) (by kernel_rfl) <| syW_reg <| rg_plain 0 (opsAt (qc21_0 2)) nl6_ (by kernel_rfl) (by kernel_rfl) <| ppq _ (lk hb0) <| kk 2 <| ppq _ (lk (hr0.ring)) <| ppq _ (len_ (some ⟨d.s, 0, none⟩) d.n d.cap Tryz.underlying182) <| kk 1 <| et_ <| syI_block 0 (qc21_0 6) (by kernel_rfl) ?_
 refine syI_loop (qc21_0 12) (fun a V => ∃ (k : Nat) (u3 u4 u11 u12 u13 u14 u15 u16 u17 u18 u19 u20 u21 u22 u23 u24 u25 u26 u27 u28 u29 u30 u31 : Value), (a = ⟨#[.func (.yield l) #[] #[], pT bx 0, ud, u3, u4, pT d.g 0, pT d.g 0, pT d.g 1, .slice (some ⟨d.s, 0, none⟩) d.n d.cap, iN d.n, iN k, u11, u12, u13, u14, u15, u16, u17, u18, u19, u20, u21, u22, u23, u24, u25, u26, u27, u28, u29, u30, u31], []⟩) ∧ (k ≤ d.n) ∧ (J (cnt d.V d.low k) V) ∧ (HP V bx (#[pT d.g 0]) 119) ∧ (RingA V d) ∧ (HP V d.g (#[.func (.func 124) #[] #[], .slice (some ⟨d.s, 0, none⟩) d.n d.cap, iN d.low]) 184)) (fun a _ => d.n - (intOf (a.tmps.getD 10 undef)).toNat) (by kernel_rfl) ?_ ?_
 ·exact ⟨0, undef, undef, undef, undef, undef, undef, undef, undef, undef, undef, undef, undef, undef, undef, undef, undef, undef, undef, undef, undef, undef, undef, undef, by kernel_rfl, Nat.zero_le _, h0, hb0, hr0, hr0.ring⟩
 ·rintro a V1 ⟨k, u3, u4, u11, u12, u13, u14, u15, u16, u17, u18, u19, u20, u21, u22, u23, u24, u25, u26, u27, u28, u29, u30, u31, rfl, hk0, h2, h3, h4, h5⟩
  rcases gall1_cases h4 k hk0 with ⟨hk, hv, hs⟩ | ⟨a, p, hk, hv, hs, hp, ha⟩ | hk
  ·skip
   refine syI_seq (qc21_0 24) (qc21_0 25) (by kernel_rfl) <| syW_reg <| rg_plain 1 (opsAt (qc21_0 24)) [0] (by kernel_rfl) (by kernel_rfl) <| ppq _ (dct ((((k : Nat) : Int)) < (((d.n : Nat) : Int))) (by omega)) <| et_ <| syI_seq (qc21_0 50) (qc21_0 51) (by kernel_rfl) <| syI_yes (.tmp 11) (qc21_0 100) (qc21_0 101) (by kernel_rfl) (by kernel_rfl) <| syI_skip (by kernel_rfl) <| then_n <| syI_seq (qc21_0 102) (qc21_0 103) (by kernel_rfl) <| syI_block 1 (qc21_0 204) (by kernel_rfl) <| syI_seq (qc21_0 408) (qc21_0 409) (by kernel_rfl) <| syW_reg <| rg_plain 2 (opsAt (qc21_0 408)) [0, 1] (by kernel_rfl) (by kernel_rfl) ?_
   refine kk 2 <| et_ <| syI_seq (qc21_0 818) (qc21_0 819) (by kernel_rfl) <| syI_np <| syW_reg <| anb 9 (fun W => (HP W bx (#[pT d.g 0]) 119) ∧ (HP W d.g (#[.func (.func 124) #[] #[], .slice (some ⟨d.s, 0, none⟩) d.n d.cap, .int .i64 ((d.low : Nat) : Int)]) 184) ∧ (RingA W d)) zl8_ ?_
   obtain ⟨V7, eV7, kV7⟩ := drew_step V1
   rw [eV7]
   clear eV7
   have h8 : J (cnt d.V d.low k) V7 := (hJ _ _ _ h2 kV7)
   have h9 := kV7.bk h3
   have h10 : RingA V7 d := h4.keepsN kV7
   have h11 := kV7.bk h5
   refine avq 0 _ (fun W hS => lk (hS.1)) ⟨h9, h11, h10⟩ <| avq 1 _ (fun W hS => lk (hS.1)) ⟨h9, h11, h10⟩ <| ka [2, 3] ⟨h9, h11, h10⟩ <| avq 4 _ (fun W hS => lk (hS.2.1)) ⟨h9, h11, h10⟩ <| ka [5] ⟨h9, h11, h10⟩ <| avq 6 _ (fun W hS => cwN (n := d.low + k)) ⟨h9, h11, h10⟩ <| an_o 7 ?_
   refine ncr 113 #[pT d.g 0, iN (d.low + k)] Tryz.func113 (gat_none _ _ h10 hs) fun V12 kV12 => ?_
   have h13 : J (cnt d.V d.low k) V12 := (hJ _ _ _ h8 kV12)
   have h14 := kV12.bk h9
   have h15 : RingA V12 d := h10.keepsN kV12
   have h16 := kV12.bk h11
   refine ⟨⟨h14, h16, h15⟩, ?_⟩
   refine an_o 8 <| nrq (.pointer none) (w' := V12) (by kernel_rfl) ?_
   refine ⟨⟨h14, h16, h15⟩, ?_⟩
   refine ane <| then_n <| syI_seq (qc21_0 1638) (qc21_0 1639) (by kernel_rfl) <| rg_yield 4 (opsAt (qc21_0 1638)) nl10_ (by kernel_rfl) (by kernel_rfl) <| pi_run (qo21_0 1638 0) (.pointer none) (w' := V12) (by kernel_rfl) (by kernel_rfl) (by kernel_rfl) <| pi_run (qo21_0 1638 1) (.bool false) (w' := V12) (by kernel_rfl) (by kernel_rfl) (by kernel_rfl) <| pi_run (qo21_0 1638 2) (.bool false) (w' := V12) (by kernel_rfl) (by kernel_rfl) (by kernel_rfl) <| pi_no (qo21_0 1638 3) (by kernel_rfl) (by kernel_rfl) <| pi_no (qo21_0 1638 4) (by kernel_rfl) (by kernel_rfl) <| pi_no (qo21_0 1638 5) (by kernel_rfl) (by kernel_rfl) <| pi_no (qo21_0 1638 6) (by kernel_rfl) (by kernel_rfl) <| pi_no (qo21_0 1638 7) (by kernel_rfl) (by kernel_rfl) <| pi_no (qo21_0 1638 8) (by kernel_rfl) (by kernel_rfl) <| pi_run (qo21_0 1638 9) (.bool false) (w' := V12) (by kernel_rfl) (by kernel_rfl) (by kernel_rfl) ?_
   refine pi_end <| then_n <| syI_no (.tmp 30) (qc21_0 3278) (qc21_0 3279) (by kernel_rfl) (by kernel_rfl) <| syI_skip (by kernel_rfl) <| blk_n <| then_n <| syW_reg <| rg_plain 5 (opsAt (qc21_0 103)) [0, 1] (by kernel_rfl) (by kernel_rfl) <| ppq _ (cwN (n := k + 1)) <| kk 1 <| ps_end <| then_n ?_
   refine ⟨⟨k + 1, (iN k), (.pointer none), (.bool true), (iN k), (pT d.g 0), (pT d.g 0), (pT d.g 0), (pT d.g 2), (iN d.low), (iN k), (iN (d.low + k)), (.pointer none), (.pointer none), (.bool false), (.bool false), undef, undef, undef, undef, undef, undef, (.bool false), (iN (k + 1)), by kernel_rfl, by omega, (by rw [cnt_none hv]; exact h13), h14, h15, h16⟩, ?_⟩
   exact lt_meas (x := d.n - (k + 1)) (y := d.n - k) (by kernel_rfl) (by kernel_rfl) (by omega)
  ·skip
   refine syI_seq (qc21_0 24) (qc21_0 25) (by kernel_rfl) <| syW_reg <| rg_plain 1 (opsAt (qc21_0 24)) [0] (by kernel_rfl) (by kernel_rfl) <| ppq _ (dct ((((k : Nat) : Int)) < (((d.n : Nat) : Int))) (by omega)) <| et_ <| syI_seq (qc21_0 50) (qc21_0 51) (by kernel_rfl) <| syI_yes (.tmp 11) (qc21_0 100) (qc21_0 101) (by kernel_rfl) (by kernel_rfl) <| syI_skip (by kernel_rfl) <| then_n <| syI_seq (qc21_0 102) (qc21_0 103) (by kernel_rfl) <| syI_block 1 (qc21_0 204) (by kernel_rfl) <| syI_seq (qc21_0 408) (qc21_0 409) (by kernel_rfl) <| syW_reg <| rg_plain 2 (opsAt (qc21_0 408)) [0, 1] (by kernel_rfl) (by kernel_rfl) ?_
   refine kk 2 <| et_ <| syI_seq (qc21_0 818) (qc21_0 819) (by kernel_rfl) <| syI_np <| syW_reg <| anb 9 (fun W => (HP W bx (#[pT d.g 0]) 119) ∧ (HP W d.g (#[.func (.func 124) #[] #[], .slice (some ⟨d.s, 0, none⟩) d.n d.cap, .int .i64 ((d.low : Nat) : Int)]) 184) ∧ (RingA W d)) zl8_ ?_
   obtain ⟨V17, eV17, kV17⟩ := drew_step V1
   rw [eV17]
   clear eV17
   have h18 : J (cnt d.V d.low k) V17 := (hJ _ _ _ h2 kV17)
   have h19 := kV17.bk h3
   have h20 : RingA V17 d := h4.keepsN kV17
   have ⟨h21, h22⟩ := kV17.k2 h5 hp
   refine avq 0 _ (fun W hS => lk (hS.1)) ⟨h19, h21, h20⟩ <| avq 1 _ (fun W hS => lk (hS.1)) ⟨h19, h21, h20⟩ <| ka [2, 3] ⟨h19, h21, h20⟩ <| avq 4 _ (fun W hS => lk (hS.2.1)) ⟨h19, h21, h20⟩ <| ka [5] ⟨h19, h21, h20⟩ <| avq 6 _ (fun W hS => cwN (n := d.low + k)) ⟨h19, h21, h20⟩ <| an_o 7 ?_
   refine ncr 113 #[pT d.g 0, iN (d.low + k)] Tryz.func113 (gat_some _ p _ h20 hs) fun V23 kV23 => ?_
   have h24 : J (cnt d.V d.low k) V23 := (hJ _ _ _ h18 kV23)
   have h25 := kV23.bk h19
   have h26 : RingA V23 d := h20.keepsN kV23
   have ⟨h27, h28⟩ := kV23.k2 h21 h22
   refine ⟨⟨h25, h27, h26⟩, ?_⟩
   refine an_o 8 <| nrq (pT p 0) (w' := V23) (by kernel_rfl) ?_
   refine ⟨⟨h25, h27, h26⟩, ?_⟩
   refine ane <| then_n <| syI_seq (qc21_0 1638) (qc21_0 1639) (by kernel_rfl) <| rg_yield 4 (opsAt (qc21_0 1638)) nl10_ (by kernel_rfl) (by kernel_rfl) <| pi_run (qo21_0 1638 0) (pT p 0) (w' := V23) (by kernel_rfl) (by kernel_rfl) (by kernel_rfl) <| pi_run (qo21_0 1638 1) (.bool true) (w' := V23) (by kernel_rfl) (by kernel_rfl) (by kernel_rfl) <| pi_run (qo21_0 1638 2) (.bool true) (w' := V23) (by kernel_rfl) (by kernel_rfl) (by kernel_rfl) <| pi_run (qo21_0 1638 3) (.func (.yield l) #[] #[]) (w' := V23) (by kernel_rfl) (by kernel_rfl) (by kernel_rfl) <| pi_run (qo21_0 1638 4) (pT p 0) (w' := V23) (by kernel_rfl) (by kernel_rfl) (by kernel_rfl) <| pi_run (qo21_0 1638 5) (pT p 0) (w' := V23) (by kernel_rfl) (by kernel_rfl) (by kernel_rfl) <| pi_run (qo21_0 1638 6) (.agg (Att.c a)) (w' := V23) (by kernel_rfl) (by kernel_rfl) (ldr 28 p (h28) (by rw [Att.c_size _ ha.r]; kernel_rfl)) ?_
   refine pi_yield (qo21_0 1638 7) (.tmp 24) l #[.agg (Att.c a)] (by kernel_rfl) (by kernel_rfl) (by kernel_rfl) (by kernel_rfl) (by kernel_rfl) ((hY (cnt d.V d.low k) a _ (items_get hk hv) h24 ⟨h25, h26⟩).mono ?_)
   rintro e V29 (⟨rfl, hj3, hb3, hr3⟩ | ⟨rfl, hx3⟩)
   ·refine ⟨_, rfl, ?_⟩
    refine pi_run (qo21_0 1638 8) (.bool false) (w' := V29) (by kernel_rfl) (by kernel_rfl) (by kernel_rfl) <| pi_run (qo21_0 1638 9) (.bool false) (w' := V29) (by kernel_rfl) (by kernel_rfl) (by kernel_rfl) <| pi_end <| then_n <| syI_no (.tmp 30) (qc21_0 3278) (qc21_0 3279) (by kernel_rfl) (by kernel_rfl) <| syI_skip (by kernel_rfl) <| blk_n <| then_n <| syW_reg <| rg_plain 5 (opsAt (qc21_0 103)) [0, 1] (by kernel_rfl) (by kernel_rfl) <| ppq _ (cwN (n := k + 1)) <| kk 1 <| ps_end <| sy_a ⟨#[.func (.yield l) #[] #[], pT bx 0, ud, iN k, pT p 0, pT d.g 0, pT d.g 0, pT d.g 1, .slice (some ⟨d.s, 0, none⟩) d.n d.cap, iN d.n, iN (k + 1), .bool true, iN k, pT d.g 0, pT d.g 0, pT d.g 0, pT d.g 2, iN d.low, iN k, iN (d.low + k), pT p 0, pT p 0, .bool true, .bool true, .func (.yield l) #[] #[], pT p 0, pT p 0, .agg (Att.c a), .bool true, .bool false, .bool false, iN (k + 1)], []⟩ ?_
    refine then_n ?_
    refine ⟨⟨k + 1, (iN k), (pT p 0), (.bool true), (iN k), (pT d.g 0), (pT d.g 0), (pT d.g 0), (pT d.g 2), (iN d.low), (iN k), (iN (d.low + k)), (pT p 0), (pT p 0), (.bool true), (.bool true), (.func (.yield l) #[] #[]), (pT p 0), (pT p 0), (.agg (Att.c a)), (.bool true), (.bool false), (.bool false), (iN (k + 1)), by kernel_rfl, by omega, (by rw [cnt_some hv]; exact hj3), hb3, hr3, hr3.ring⟩, ?_⟩
    exact lt_meas (x := d.n - (k + 1)) (y := d.n - k) (by kernel_rfl) (by kernel_rfl) (by omega)
   ·refine ⟨_, rfl, ?_⟩
    refine pi_run (qo21_0 1638 8) (.bool true) (w' := V29) (by kernel_rfl) (by kernel_rfl) (by kernel_rfl) <| pi_run (qo21_0 1638 9) (.bool true) (w' := V29) (by kernel_rfl) (by kernel_rfl) (by kernel_rfl) <| pi_end <| then_n <| syI_yes (.tmp 30) (qc21_0 3278) (qc21_0 3279) (by kernel_rfl) (by kernel_rfl) <| syI_ret (by kernel_rfl) <| blk_r <| then_r <| then_r <| blk_r <| so_ (.tuple #[]) ?_
    exact ⟨⟨_, rfl⟩, .inr hx3⟩
  ·skip
   refine syI_seq (qc21_0 24) (qc21_0 25) (by kernel_rfl) <| syW_reg <| rg_plain 1 (opsAt (qc21_0 24)) [0] (by kernel_rfl) (by kernel_rfl) <| ppq _ (dcf ((((k : Nat) : Int)) < (((d.n : Nat) : Int))) (by omega)) <| et_ <| syI_seq (qc21_0 50) (qc21_0 51) (by kernel_rfl) <| syI_no (.tmp 11) (qc21_0 100) (qc21_0 101) (by kernel_rfl) (by kernel_rfl) <| syI_exit 0 (by kernel_rfl) <| then_e <| then_e <| blk_e <| sy_fall (.tuple #[]) rfl (by kernel_rfl) ?_
   exact ⟨⟨_, rfl⟩, .inl (by have hz := h2; rw [hk] at hz; exact hz)⟩
end
section
open Go Go.RowKit Go.Own Go.Shelf
noncomputable def qc22_2 (n : Nat) : Code := partOf Tryz.f127 n
theorem gmadeB_ok (n low : Nat) (w : World) (q1 : 1 ≤ n) (q2 : n ≤ 256000) (q3 : low ≤ 4294967296) :
  Calls Tryz.prog 127 #[.int .i64 ((n : Nat) : Int), .int .i64 ((low : Nat) : Int), .func (.func 125) #[] #[]] w (fun e w' => ∃ g s, e = .returned (pT g 0) ∧ RingB w' ⟨g, s, low, n, n, fun _ => none, fun _ => none, []⟩ ∧ w.heap.size ≤ g ∧ w.heap.size ≤ s ∧ Keeps Nob w w') := by
 obtain ⟨i0, hi0, hz0, hz1, hz2⟩ := info_parts b_ptr_info
 have K0 : Keeps Nob w w := Keeps.refl _ _
 refine se_ (qc22_2 1) ⟨fr [iN n, iN low, .func (.func 125) #[] #[]] 10, []⟩ Tryz.func127 <| qr_ [0] <| kk 1 <| eqr_ nl7_ <| kk 2 ?_
 obtain ⟨V1, eV1, s, es, h2, kV1⟩ := alloc_step w (madeCells (Value.pointer none).cells (n * i0.size)) 168
 have h3 : HP V1 s (Slots n (fun _ => none) []) 168 := h2.trans (by rw [hz1]; exact congrArg (fun c => some (Obj.cells c 168 (0, 0))) (Slots.made n))
 refine prq (.slice (some ⟨s, 0, none⟩) n n) (w' := V1) (by rw [← eV1, ← es]; exact exec_makeSlice 190 (.tmp 8) (.tmp 8) (by kernel_rfl) 168 i0 (.pointer none) Tryz.underlying190 hi0 hz0 n (by kernel_rfl) (by kernel_rfl) (by rw [hz2]; omega) (by omega)) ?_
 clear eV1
 have ns : w.heap.size ≤ s := es ▸ K0.size
 have K4 := K0.nn kV1
 have z5 := kV1.size
 refine kk 2 ?_
 refine pbx 192 (#[.func (.func 125) #[] #[], .slice (some ⟨s, 0, none⟩) n n, .int .i64 ((low : Nat) : Int)]) (.agg #[.func (.func 125) #[] #[], .slice (some ⟨s, 0, none⟩) n n, iN low]) fun V6 g eg h7 kV6 => ?_
 have n8 := nl eg h3
 have n9 := nk eg K4
 have ⟨K11, z12, h10⟩ := kV6.z1 K4 h3
 refine kk 1 <| eu_ <| so_ (pT g 0) ?_
 exact ⟨g, s, rfl, Ring.made h7 h10 q1 q2 q3, by omega, ns, K11⟩
noncomputable def qc22_4 (n : Nat) : Code := partOf Tryz.f75 n
theorem gallB_ok (g : Nat) (w : World) :
  Calls Tryz.prog 75 #[pT g 0] w (fun e w' => ∃ bx, e = .returned (.func (.func 115) #[] #[pT bx 0]) ∧ HP w' bx #[pT g 0] 120 ∧ w.heap.size ≤ bx ∧ Keeps Nob w w') := by
 have K0 : Keeps Nob w w := Keeps.refl _ _
 refine se_ (qc22_4 1) ⟨#[pT g 0, ud, ud, ud], []⟩ Tryz.func75 <| qr_ [0, 1] <| pbx 120 (#[pT g 0]) (pT g 0) fun V1 bx ebx h2 kV1 => ?_
 have n3 := nk ebx K0
 have K4 := K0.nn kV1
 have z5 := kV1.size
 refine kk 1 <| eqr_ [0, 1] <| kk 2 <| eu_ <| so_ (.func (.func 115) #[] #[pT bx 0]) ?_
 exact ⟨bx, rfl, h2, by omega, K4⟩
def gall1BS (bx : Nat) (d : RD Pro) (W : World) : Prop := HP W bx #[pT d.g 0] 120 ∧ RingB W d
theorem gall1BS.turn {bx : Nat} {d : RD Pro} {A B : World} {b : Nat} (h : gall1BS bx d A) (t : Turn b Nob A B) : gall1BS bx d B :=
 ⟨t.same _ _ h.1 (fun x => x) (.inr rfl), h.2.mono fun j cs T _ e => t.same _ _ e (fun x => x) (.inr rfl)⟩
theorem gall1B_cases {d : RD Pro} {W : World} (H : RingB W d) (k : Nat) (hk : k ≤ d.n) : (k < d.n ∧ d.V ((d.low + k : Nat) : Int) = none ∧ slotOf d ((d.low + k : Nat) : Int) = none) ∨
  (∃ a p, k < d.n ∧ d.V ((d.low + k : Nat) : Int) = some a ∧ slotOf d ((d.low + k : Nat) : Int) = some p ∧ HP W p a.c 37 ∧ a.Ok) ∨ k = d.n := by
 by_cases h : k < d.n
 ·rcases H.none_or ((d.low + k : Nat) : Int) with ⟨h1, h2⟩ | ⟨a, p, h1, h2, h3, _, _, _, h4⟩
  ·exact .inl ⟨h, h1, h2⟩
  ·exact .inr (.inl ⟨a, p, h, h1, h2, h3, h4⟩)
 ·exact .inr (.inr (by omega))
noncomputable def qc22_0 (n : Nat) : Code := partOf Tryz.f115 n
noncomputable abbrev qo22_0 (n k : Nat) : Oper := (opsAt (qc22_0 n)).getD k default
theorem gall1B_seq (bx : Nat) (d : RD Pro) (fz : Nat) :
  SeqOwn Fence.wide fz Tryz.prog 115 #[pT bx 0] (fun x : Pro => #[.agg x.c]) (items d.V d.low d.n) Nob (fun _ => gall1BS bx d) := by
 intro l J Jx W0 hJ hJx hY h0 hS0
 obtain ⟨hb0, hr0⟩ := hS0
 have hn1 := hr0.n1
 have hn2 := hr0.n2
 have hl2 := hr0.l2
 refine syW_enter (qc22_0 1) ⟨fr [.func (.yield l) #[] #[], pT bx 0] 30, []⟩ Tryz.func115 (by kernel_rfl) (by kernel_rfl) <| syI_seq (qc22_0 2) (qc22_0 3) (by kernel_rfl) <| syW_reg <| rg_plain 0 (opsAt (qc22_0 2)) nl6_ (by kernel_rfl) (by kernel_rfl) <| ppq _ (lk hb0) <| kk 2 <| ppq _ (lk (hr0.ring)) <| ppq _ (len_ (some ⟨d.s, 0, none⟩) d.n d.cap Tryz.underlying190) <| kk 1 <| et_ <| syI_block 0 (qc22_0 6) (by kernel_rfl) ?_
 refine syI_loop (qc22_0 12) (fun a V => ∃ (k : Nat) (u3 u4 u11 u12 u13 u14 u15 u16 u17 u18 u19 u20 u21 u22 u23 u24 u25 u26 u27 u28 u29 u30 u31 : Value), (a = ⟨#[.func (.yield l) #[] #[], pT bx 0, ud, u3, u4, pT d.g 0, pT d.g 0, pT d.g 1, .slice (some ⟨d.s, 0, none⟩) d.n d.cap, iN d.n, iN k, u11, u12, u13, u14, u15, u16, u17, u18, u19, u20, u21, u22, u23, u24, u25, u26, u27, u28, u29, u30, u31], []⟩) ∧ (k ≤ d.n) ∧ (J (cnt d.V d.low k) V) ∧ (HP V bx (#[pT d.g 0]) 120) ∧ (RingB V d) ∧ (HP V d.g (#[.func (.func 125) #[] #[], .slice (some ⟨d.s, 0, none⟩) d.n d.cap, iN d.low]) 192)) (fun a _ => d.n - (intOf (a.tmps.getD 10 undef)).toNat) (by kernel_rfl) ?_ ?_
 ·exact ⟨0, undef, undef, undef, undef, undef, undef, undef, undef, undef, undef, undef, undef, undef, undef, undef, undef, undef, undef, undef, undef, undef, undef, undef, by kernel_rfl, Nat.zero_le _, h0, hb0, hr0, hr0.ring⟩
 ·rintro a V1 ⟨k, u3, u4, u11, u12, u13, u14, u15, u16, u17, u18, u19, u20, u21, u22, u23, u24, u25, u26, u27, u28, u29, u30, u31, rfl, hk0, h2, h3, h4, h5⟩
  rcases gall1B_cases h4 k hk0 with ⟨hk, hv, hs⟩ | ⟨a, p, hk, hv, hs, hp, ha⟩ | hk
  ·skip
   refine syI_seq (qc22_0 24) (qc22_0 25) (by kernel_rfl) <| syW_reg <| rg_plain 1 (opsAt (qc22_0 24)) [0] (by kernel_rfl) (by kernel_rfl) <| ppq _ (dct ((((k : Nat) : Int)) < (((d.n : Nat) : Int))) (by omega)) <| et_ <| syI_seq (qc22_0 50) (qc22_0 51) (by kernel_rfl) <| syI_yes (.tmp 11) (qc22_0 100) (qc22_0 101) (by kernel_rfl) (by kernel_rfl) <| syI_skip (by kernel_rfl) <| then_n <| syI_seq (qc22_0 102) (qc22_0 103) (by kernel_rfl) <| syI_block 1 (qc22_0 204) (by kernel_rfl) <| syI_seq (qc22_0 408) (qc22_0 409) (by kernel_rfl) <| syW_reg <| rg_plain 2 (opsAt (qc22_0 408)) [0, 1] (by kernel_rfl) (by kernel_rfl) ?_
   refine kk 2 <| et_ <| syI_seq (qc22_0 818) (qc22_0 819) (by kernel_rfl) <| syI_np <| syW_reg <| anb 9 (fun W => (HP W bx (#[pT d.g 0]) 120) ∧ (HP W d.g (#[.func (.func 125) #[] #[], .slice (some ⟨d.s, 0, none⟩) d.n d.cap, .int .i64 ((d.low : Nat) : Int)]) 192) ∧ (RingB W d)) zl8_ ?_
   obtain ⟨V7, eV7, kV7⟩ := drew_step V1
   rw [eV7]
   clear eV7
   have h8 : J (cnt d.V d.low k) V7 := (hJ _ _ _ h2 kV7)
   have h9 := kV7.bk h3
   have h10 : RingB V7 d := h4.keepsN kV7
   have h11 := kV7.bk h5
   refine avq 0 _ (fun W hS => lk (hS.1)) ⟨h9, h11, h10⟩ <| avq 1 _ (fun W hS => lk (hS.1)) ⟨h9, h11, h10⟩ <| ka [2, 3] ⟨h9, h11, h10⟩ <| avq 4 _ (fun W hS => lk (hS.2.1)) ⟨h9, h11, h10⟩ <| ka [5] ⟨h9, h11, h10⟩ <| avq 6 _ (fun W hS => cwN (n := d.low + k)) ⟨h9, h11, h10⟩ <| an_o 7 ?_
   refine ncr 98 #[pT d.g 0, iN (d.low + k)] Tryz.func98 (gatB_none _ _ h10 hs) fun V12 kV12 => ?_
   have h13 : J (cnt d.V d.low k) V12 := (hJ _ _ _ h8 kV12)
   have h14 := kV12.bk h9
   have h15 : RingB V12 d := h10.keepsN kV12
   have h16 := kV12.bk h11
   refine ⟨⟨h14, h16, h15⟩, ?_⟩
   refine an_o 8 <| nrq (.pointer none) (w' := V12) (by kernel_rfl) ?_
   refine ⟨⟨h14, h16, h15⟩, ?_⟩
   refine ane <| then_n <| syI_seq (qc22_0 1638) (qc22_0 1639) (by kernel_rfl) <| rg_yield 4 (opsAt (qc22_0 1638)) nl10_ (by kernel_rfl) (by kernel_rfl) <| pi_run (qo22_0 1638 0) (.pointer none) (w' := V12) (by kernel_rfl) (by kernel_rfl) (by kernel_rfl) <| pi_run (qo22_0 1638 1) (.bool false) (w' := V12) (by kernel_rfl) (by kernel_rfl) (by kernel_rfl) <| pi_run (qo22_0 1638 2) (.bool false) (w' := V12) (by kernel_rfl) (by kernel_rfl) (by kernel_rfl) <| pi_no (qo22_0 1638 3) (by kernel_rfl) (by kernel_rfl) <| pi_no (qo22_0 1638 4) (by kernel_rfl) (by kernel_rfl) <| pi_no (qo22_0 1638 5) (by kernel_rfl) (by kernel_rfl) <| pi_no (qo22_0 1638 6) (by kernel_rfl) (by kernel_rfl) <| pi_no (qo22_0 1638 7) (by kernel_rfl) (by kernel_rfl) <| pi_no (qo22_0 1638 8) (by kernel_rfl) (by kernel_rfl) <| pi_run (qo22_0 1638 9) (.bool false) (w' := V12) (by kernel_rfl) (by kernel_rfl) (by kernel_rfl) ?_
   refine pi_end <| then_n <| syI_no (.tmp 30) (qc22_0 3278) (qc22_0 3279) (by kernel_rfl) (by kernel_rfl) <| syI_skip (by kernel_rfl) <| blk_n <| then_n <| syW_reg <| rg_plain 5 (opsAt (qc22_0 103)) [0, 1] (by kernel_rfl) (by kernel_rfl) <| ppq _ (cwN (n := k + 1)) <| kk 1 <| ps_end <| then_n ?_
   refine ⟨⟨k + 1, (iN k), (.pointer none), (.bool true), (iN k), (pT d.g 0), (pT d.g 0), (pT d.g 0), (pT d.g 2), (iN d.low), (iN k), (iN (d.low + k)), (.pointer none), (.pointer none), (.bool false), (.bool false), undef, undef, undef, undef, undef, undef, (.bool false), (iN (k + 1)), by kernel_rfl, by omega, (by rw [cnt_none hv]; exact h13), h14, h15, h16⟩, ?_⟩
   exact lt_meas (x := d.n - (k + 1)) (y := d.n - k) (by kernel_rfl) (by kernel_rfl) (by omega)
  ·skip
   refine syI_seq (qc22_0 24) (qc22_0 25) (by kernel_rfl) <| syW_reg <| rg_plain 1 (opsAt (qc22_0 24)) [0] (by kernel_rfl) (by kernel_rfl) <| ppq _ (dct ((((k : Nat) : Int)) < (((d.n : Nat) : Int))) (by omega)) <| et_ <| syI_seq (qc22_0 50) (qc22_0 51) (by kernel_rfl) <| syI_yes (.tmp 11) (qc22_0 100) (qc22_0 101) (by kernel_rfl) (by kernel_rfl) <| syI_skip (by kernel_rfl) <| then_n <| syI_seq (qc22_0 102) (qc22_0 103) (by kernel_rfl) <| syI_block 1 (qc22_0 204) (by kernel_rfl) <| syI_seq (qc22_0 408) (qc22_0 409) (by kernel_rfl) <| syW_reg <| rg_plain 2 (opsAt (qc22_0 408)) [0, 1] (by kernel_rfl) (by kernel_rfl) ?_
   refine kk 2 <| et_ <| syI_seq (qc22_0 818) (qc22_0 819) (by kernel_rfl) <| syI_np <| syW_reg <| anb 9 (fun W => (HP W bx (#[pT d.g 0]) 120) ∧ (HP W d.g (#[.func (.func 125) #[] #[], .slice (some ⟨d.s, 0, none⟩) d.n d.cap, .int .i64 ((d.low : Nat) : Int)]) 192) ∧ (RingB W d)) zl8_ ?_
   obtain ⟨V17, eV17, kV17⟩ := drew_step V1
   rw [eV17]
   clear eV17
   have h18 : J (cnt d.V d.low k) V17 := (hJ _ _ _ h2 kV17)
   have h19 := kV17.bk h3
   have h20 : RingB V17 d := h4.keepsN kV17
   have ⟨h21, h22⟩ := kV17.k2 h5 hp
   refine avq 0 _ (fun W hS => lk (hS.1)) ⟨h19, h21, h20⟩ <| avq 1 _ (fun W hS => lk (hS.1)) ⟨h19, h21, h20⟩ <| ka [2, 3] ⟨h19, h21, h20⟩ <| avq 4 _ (fun W hS => lk (hS.2.1)) ⟨h19, h21, h20⟩ <| ka [5] ⟨h19, h21, h20⟩ <| avq 6 _ (fun W hS => cwN (n := d.low + k)) ⟨h19, h21, h20⟩ <| an_o 7 ?_
   refine ncr 98 #[pT d.g 0, iN (d.low + k)] Tryz.func98 (gatB_some _ p _ h20 hs) fun V23 kV23 => ?_
   have h24 : J (cnt d.V d.low k) V23 := (hJ _ _ _ h18 kV23)
   have h25 := kV23.bk h19
   have h26 : RingB V23 d := h20.keepsN kV23
   have ⟨h27, h28⟩ := kV23.k2 h21 h22
   refine ⟨⟨h25, h27, h26⟩, ?_⟩
   refine an_o 8 <| nrq (pT p 0) (w' := V23) (by kernel_rfl) ?_
   refine ⟨⟨h25, h27, h26⟩, ?_⟩
   refine ane <| then_n <| syI_seq (qc22_0 1638) (qc22_0 1639) (by kernel_rfl) <| rg_yield 4 (opsAt (qc22_0 1638)) nl10_ (by kernel_rfl) (by kernel_rfl) <| pi_run (qo22_0 1638 0) (pT p 0) (w' := V23) (by kernel_rfl) (by kernel_rfl) (by kernel_rfl) <| pi_run (qo22_0 1638 1) (.bool true) (w' := V23) (by kernel_rfl) (by kernel_rfl) (by kernel_rfl) <| pi_run (qo22_0 1638 2) (.bool true) (w' := V23) (by kernel_rfl) (by kernel_rfl) (by kernel_rfl) <| pi_run (qo22_0 1638 3) (.func (.yield l) #[] #[]) (w' := V23) (by kernel_rfl) (by kernel_rfl) (by kernel_rfl) <| pi_run (qo22_0 1638 4) (pT p 0) (w' := V23) (by kernel_rfl) (by kernel_rfl) (by kernel_rfl) <| pi_run (qo22_0 1638 5) (pT p 0) (w' := V23) (by kernel_rfl) (by kernel_rfl) (by kernel_rfl) <| pi_run (qo22_0 1638 6) (.agg (Pro.c a)) (w' := V23) (by kernel_rfl) (by kernel_rfl) (ldr 37 p (h28) (by rw [Pro.c_size _ ha.r]; kernel_rfl)) ?_
   refine pi_yield (qo22_0 1638 7) (.tmp 24) l #[.agg (Pro.c a)] (by kernel_rfl) (by kernel_rfl) (by kernel_rfl) (by kernel_rfl) (by kernel_rfl) ((hY (cnt d.V d.low k) a _ (items_get hk hv) h24 ⟨h25, h26⟩).mono ?_)
   rintro e V29 (⟨rfl, hj3, hb3, hr3⟩ | ⟨rfl, hx3⟩)
   ·refine ⟨_, rfl, ?_⟩
    refine pi_run (qo22_0 1638 8) (.bool false) (w' := V29) (by kernel_rfl) (by kernel_rfl) (by kernel_rfl) <| pi_run (qo22_0 1638 9) (.bool false) (w' := V29) (by kernel_rfl) (by kernel_rfl) (by kernel_rfl) <| pi_end <| then_n <| syI_no (.tmp 30) (qc22_0 3278) (qc22_0 3279) (by kernel_rfl) (by kernel_rfl) <| syI_skip (by kernel_rfl) <| blk_n <| then_n <| syW_reg <| rg_plain 5 (opsAt (qc22_0 103)) [0, 1] (by kernel_rfl) (by kernel_rfl) <| ppq _ (cwN (n := k + 1)) <| kk 1 <| ps_end <| sy_a ⟨#[.func (.yield l) #[] #[], pT bx 0, ud, iN k, pT p 0, pT d.g 0, pT d.g 0, pT d.g 1, .slice (some ⟨d.s, 0, none⟩) d.n d.cap, iN d.n, iN (k + 1), .bool true, iN k, pT d.g 0, pT d.g 0, pT d.g 0, pT d.g 2, iN d.low, iN k, iN (d.low + k), pT p 0, pT p 0, .bool true, .bool true, .func (.yield l) #[] #[], pT p 0, pT p 0, .agg (Pro.c a), .bool true, .bool false, .bool false, iN (k + 1)], []⟩ ?_
    refine then_n ?_
    refine ⟨⟨k + 1, (iN k), (pT p 0), (.bool true), (iN k), (pT d.g 0), (pT d.g 0), (pT d.g 0), (pT d.g 2), (iN d.low), (iN k), (iN (d.low + k)), (pT p 0), (pT p 0), (.bool true), (.bool true), (.func (.yield l) #[] #[]), (pT p 0), (pT p 0), (.agg (Pro.c a)), (.bool true), (.bool false), (.bool false), (iN (k + 1)), by kernel_rfl, by omega, (by rw [cnt_some hv]; exact hj3), hb3, hr3, hr3.ring⟩, ?_⟩
    exact lt_meas (x := d.n - (k + 1)) (y := d.n - k) (by kernel_rfl) (by kernel_rfl) (by omega)
   ·refine ⟨_, rfl, ?_⟩
    refine pi_run (qo22_0 1638 8) (.bool true) (w' := V29) (by kernel_rfl) (by kernel_rfl) (by kernel_rfl) <| pi_run (qo22_0 1638 9) (.bool true) (w' := V29) (by kernel_rfl) (by kernel_rfl) (by kernel_rfl) <| pi_end <| then_n <| syI_yes (.tmp 30) (qc22_0 3278) (qc22_0 3279) (by kernel_rfl) (by kernel_rfl) <| syI_ret (by kernel_rfl) <| blk_r <| then_r <| then_r <| blk_r <| so_ (.tuple #[]) ?_
    exact ⟨⟨_, rfl⟩, .inr hx3⟩
  ·skip
   refine syI_seq (qc22_0 24) (qc22_0 25) (by kernel_rfl) <| syW_reg <| rg_plain 1 (opsAt (qc22_0 24)) [0] (by kernel_rfl) (by kernel_rfl) <| ppq _ (dcf ((((k : Nat) : Int)) < (((d.n : Nat) : Int))) (by omega)) <| et_ <| syI_seq (qc22_0 50) (qc22_0 51) (by kernel_rfl) <| syI_no (.tmp 11) (qc22_0 100) (qc22_0 101) (by kernel_rfl) (by kernel_rfl) <| syI_exit 0 (by kernel_rfl) <| then_e <| then_e <| blk_e <| sy_fall (.tuple #[]) rfl (by kernel_rfl) ?_
   exact ⟨⟨_, rfl⟩, .inl (by have hz := h2; rw [hk] at hz; exact hz)⟩
end
end Go.Proofs.YthmclmbeflbhhaaGreat
namespace Go.Own
section
open Go Go.RowKit
variable {P : Program}
theorem run_eqItems_bytes {e : TypeId} (he : P.plainKey e = true) (hu : P.underlying e = some (.int .u8)) (d : Nat) (l m : List UInt8) (w : World) :
    ∀ (n k : Nat), k + n = l.length → k + n = m.length → (Op.eqItems (d + 1) e 1 (B l).toArray (B m).toArray (List.range' k n)).run P w = .ok (l.drop k == m.drop k) w := by
  intro n
  induction n with
  | zero =>
    intro k h1 h2
    rw [List.drop_of_length_le (by omega), List.drop_of_length_le (by omega)]
    rfl
  | succ n ih =>
    intro k h1 h2
    obtain ⟨x, hx⟩ : ∃ x, l[k]? = some x := ⟨_, List.getElem?_eq_getElem (by omega)⟩
    obtain ⟨y, hy⟩ : ∃ y, m[k]? = some y := ⟨_, List.getElem?_eq_getElem (by omega)⟩
    have e1 := run_part_plain (P := P) w he (xs := (B l).toArray) (off := k) (by simpa using B_get l k x hx)
    have e2 := run_part_plain (P := P) w he (xs := (B m).toArray) (off := k) (by simpa using B_get m k y hy)
    have e3 := run_equalIn_int (P := P) w d e .u8 .u8 (x.toNat : Int) (y.toNat : Int) hu
    rw [List.range'_succ]
    unfold Op.eqItems
    simp only [Nat.mul_one, Sem.run_bind, e1, e2, e3, Result.andThen_ok]
    obtain ⟨hk1, hx'⟩ := List.getElem?_eq_some_iff.1 hx
    obtain ⟨hk2, hy'⟩ := List.getElem?_eq_some_iff.1 hy
    rw [List.drop_eq_getElem_cons hk1, List.drop_eq_getElem_cons hk2, hx', hy']
    by_cases hxy : x = y
    · subst hxy
      simp only [beq_self_eq_true, Bool.not_true, Bool.false_eq_true, if_false]
      rw [ih (k + 1) (by omega) (by omega)]
      simp
    · have hne : ((x.toNat : Int) == (y.toNat : Int)) = false := by
        simp only [beq_eq_false_iff_ne, ne_eq]
        intro h; exact hxy (UInt8.toNat_inj.1 (by omega))
      simp only [hne, Bool.not_false, if_true]
      have h0 : ((x :: l.drop (k + 1)) == (y :: m.drop (k + 1))) = false := by
        simp only [beq_eq_false_iff_ne, ne_eq, List.cons.injEq, not_and]
        intro h; exact absurd h hxy
      rw [h0]
      rfl
theorem run_equalIn_bytes {t e : TypeId} {n : Nat} {i : TypeInfo} (hu : P.underlying t = some (.array n e)) (hi : P.info? e = some i) (he : P.plainKey e = true) (hue : P.underlying e = some (.int .u8)) (hC : P.cellsOf e = 1) (d : Nat) (l m : List UInt8) (w : World)
    (h1 : l.length = n) (h2 : m.length = n) : (Op.equalIn (d + 2) t (.agg (B l).toArray) (.agg (B m).toArray)).run P w = .ok (l == m) w := by
  rw [run_equalIn_array w (d + 1) _ _ hu hi, hC, List.range_eq_range', run_eqItems_bytes he hue d l m w n 0 (by omega) (by omega)]
  rfl
end
end Go.Own
namespace Go.Proofs.YthmclmbeflbhhaaGreat
section
open Go Go.RowKit Go.Own Go.Shelf
theorem eqF_int {d : Nat} {f : Field} {fs : List Field} {xs ys : Array Value} {k : IntKind} {a b : Int} (w : World) (hf : f.name ≠ "_") (ht : Tryz.prog.underlying f.type = some (.int k)) (hp : Tryz.prog.plainKey f.type = true) (hx : xs[f.offset]? = some (.int k a)) (hy : ys[f.offset]? = some (.int k b)) :
    (Op.eqFields (d + 1) xs ys (f :: fs)).run Tryz.prog w = if a = b then (Op.eqFields (d + 1) xs ys fs).run Tryz.prog w else .ok false w := by
  conv => lhs; unfold Op.eqFields
  rw [if_pos hf]
  simp only [Sem.run_bind, run_part_plain w hp hx, run_part_plain w hp hy, Result.andThen_ok, run_equalIn_int w d f.type k k a b ht]
  by_cases h : a = b
  · simp [h]
  · simp [h]
theorem part_hash (xs : Array Value) (off : Nat) (w : World) : (part 25 xs off).run Tryz.prog w = .ok (.agg (xs.extract off (off + 32))) w := by
  have h : (sizeOf 25).run Tryz.prog w = .ok 32 w := by kernel_rfl
  simp [part, isAgg, run_underlying Tryz.underlying25, h]
theorem eqF_hash {d : Nat} {f : Field} {fs : List Field} {xs ys : Array Value} {l m : List UInt8} (w : World) (hf : f.name ≠ "_") (ht : f.type = 25) (hx : xs.extract f.offset (f.offset + 32) = (B l).toArray) (hy : ys.extract f.offset (f.offset + 32) = (B m).toArray) (hl : l.length = 32) (hm : m.length = 32) :
    (Op.eqFields (d + 2) xs ys (f :: fs)).run Tryz.prog w = if l = m then (Op.eqFields (d + 2) xs ys fs).run Tryz.prog w else .ok false w := by
  obtain ⟨i0, hi, _, _, _⟩ := info_parts u8_info0
  have h := run_equalIn_bytes (P := Tryz.prog) (t := 25) (e := 5) (n := 32) Tryz.underlying25 hi (by kernel_rfl) Tryz.underlying5 (by kernel_rfl) d l m w hl hm
  conv => lhs; unfold Op.eqFields
  rw [if_pos hf]
  simp only [ht, Sem.run_bind, part_hash, Result.andThen_ok, hx, hy, h]
  by_cases h : l = m
  · simp [h]
  · simp [h]
theorem Att.c_ext (a : Att) (h : a.r.length = 32) : a.c.extract 3 35 = (B a.r).toArray := by
  apply Array.toList_inj.1
  rw [Array.toList_extract]
  simp only [Att.c, List.extract_eq_take_drop, List.drop_succ_cons, List.drop_zero, Nat.reduceSub]
  rw [List.take_append_of_le_length (by rw [B_length]; omega), List.take_of_length_le (by rw [B_length]; omega)]
theorem Pro.c_ext (a : Pro) (h : a.r.length = 32) : a.c.extract 2 34 = (B a.r).toArray := by
  apply Array.toList_inj.1
  rw [Array.toList_extract]
  simp only [Pro.c, List.extract_eq_take_drop, List.drop_succ_cons, List.drop_zero, Nat.reduceSub]
  rw [List.take_append_of_le_length (by rw [B_length]; omega), List.take_of_length_le (by rw [B_length]; omega)]
theorem att_guard : Tryz.prog.eqGuardType Tryz.prog.depth 28 = false := by kernel_rfl
theorem pro_guard : Tryz.prog.eqGuardType Tryz.prog.depth 37 = false := by kernel_rfl
theorem att_equal (a b : Att) (ha : a.r.length = 32) (hb : b.r.length = 32) (w : World) : (Op.equalIn 10000 28 (.agg a.c) (.agg b.c)).run Tryz.prog w = .ok (decide (a = b)) w := by
  rw [run_equalIn_struct w 9999 28 _ _ (by kernel_rfl) (by kernel_rfl)]
  simp only [Program.fieldsOf, Tryz.underlying28]
  rw [eqF_int (d := 9998) (k := .i64) (a := a.v) (b := b.v) w (by decide) Tryz.underlying3 (by kernel_rfl) (Att.c_0 a) (Att.c_0 b), eqF_int (d := 9998) (k := .i64) (a := a.s) (b := b.s) w (by decide) Tryz.underlying3 (by kernel_rfl) (Att.c_1 a) (Att.c_1 b),
    eqF_int (d := 9998) (k := .i64) (a := a.t) (b := b.t) w (by decide) Tryz.underlying3 (by kernel_rfl) (Att.c_2 a) (Att.c_2 b), eqF_hash (d := 9997) (l := a.r) (m := b.r) w (by decide) rfl (Att.c_ext a ha) (Att.c_ext b hb) ha hb,
    eqF_int (d := 9998) (k := .u64) (a := ((a.g : Nat) : Int)) (b := ((b.g : Nat) : Int)) w (by decide) Tryz.underlying26 (by kernel_rfl) (Att.c_tag a ha) (Att.c_tag b hb)]
  simp only [Op.eqFields, Sem.run_pure]
  obtain ⟨v, s, t, r, g⟩ := a
  obtain ⟨v', s', t', r', g'⟩ := b
  simp only [Att.mk.injEq]
  by_cases h1 : v = v' <;> by_cases h2 : s = s' <;> by_cases h3 : t = t' <;> by_cases h4 : r = r' <;> by_cases h5 : g = g' <;> simp [h1, h2, h3, h4, h5] <;> omega
theorem pro_equal (a b : Pro) (ha : a.r.length = 32) (hb : b.r.length = 32) (w : World) : (Op.equalIn 10000 37 (.agg a.c) (.agg b.c)).run Tryz.prog w = .ok (decide (a = b)) w := by
  rw [run_equalIn_struct w 9999 37 _ _ (by kernel_rfl) (by kernel_rfl)]
  simp only [Program.fieldsOf, Tryz.underlying37]
  rw [eqF_int (d := 9998) (k := .i64) (a := a.v) (b := b.v) w (by decide) Tryz.underlying3 (by kernel_rfl) (Pro.c_0 a) (Pro.c_0 b), eqF_int (d := 9998) (k := .i64) (a := a.h) (b := b.h) w (by decide) Tryz.underlying3 (by kernel_rfl) (Pro.c_1 a) (Pro.c_1 b),
    eqF_hash (d := 9997) (l := a.r) (m := b.r) w (by decide) rfl (Pro.c_ext a ha) (Pro.c_ext b hb) ha hb,
    eqF_int (d := 9998) (k := .u64) (a := ((a.g : Nat) : Int)) (b := ((b.g : Nat) : Int)) w (by decide) Tryz.underlying26 (by kernel_rfl) (Pro.c_tag a ha) (Pro.c_tag b hb)]
  simp only [Op.eqFields, Sem.run_pure]
  obtain ⟨v, s, r, g⟩ := a
  obtain ⟨v', s', r', g'⟩ := b
  simp only [Pro.mk.injEq]
  by_cases h1 : v = v' <;> by_cases h2 : s = s' <;> by_cases h4 : r = r' <;> by_cases h5 : g = g' <;> simp [h1, h2, h4, h5] <;> omega
theorem att_eq (a b : Att) (ha : a.r.length = 32) (hb : b.r.length = 32) (w : World) : (binOp .eql 28 (.agg a.c) (.agg b.c)).run Tryz.prog w = .ok (.bool (decide (a = b))) w := by rw [run_eql_struct, att_equal a b ha hb]; rfl
theorem pro_eq (a b : Pro) (ha : a.r.length = 32) (hb : b.r.length = 32) (w : World) : (binOp .eql 37 (.agg a.c) (.agg b.c)).run Tryz.prog w = .ok (.bool (decide (a = b))) w := by rw [run_eql_struct, pro_equal a b ha hb]; rfl
end
section
open Go Go.RowKit Go.Own Go.Shelf
def zAtt : Att := ⟨0, 0, 0, List.replicate 32 0, 0⟩
def zPro : Pro := ⟨0, 0, List.replicate 32 0, 0⟩
theorem zAtt_ok : zAtt.Ok := ⟨by decide, by decide, by decide, rfl, by decide⟩
theorem zPro_ok : zPro.Ok := ⟨by decide, by decide, rfl, by decide⟩
def Att.cl (a : Att) : List Value := a.c.toList
def Pro.cl (a : Pro) : List Value := a.c.toList
theorem Att.cl_len {a : Att} (h : a.Ok) : a.cl.length = 36 := by have := Att.c_size a h.r; simpa [Att.cl] using this
theorem Pro.cl_len {a : Pro} (h : a.Ok) : a.cl.length = 35 := by have := Pro.c_size a h.r; simpa [Pro.cl] using this
theorem Att.cl_one {a : Att} : ∀ u ∈ a.cl, u.oneCell' = true := by
  have := Att.c_one a
  rw [← Array.all_toList] at this
  exact List.all_eq_true.1 this
theorem Pro.cl_one {a : Pro} : ∀ u ∈ a.cl, u.oneCell' = true := by
  have := Pro.c_one a
  rw [← Array.all_toList] at this
  exact List.all_eq_true.1 this
abbrev AttsAt (w : World) (v : Value) (l : List Att) : Prop := Sl w 36 Att.cl v l
abbrev ProsAt (w : World) (v : Value) (l : List Pro) : Prop := Sl w 35 Pro.cl v l
structure RecAt (w : World) (r : Nat) (v : Int) (A : RD Att) (B : RD Pro) : Prop where
  rec_ : w.heap[r]? = some (.cells #[.int .i64 v, .pointer (some ⟨A.g, 0, none⟩), .pointer (some ⟨B.g, 0, none⟩)] 122 (0, 0))
  a : RingA w A
  b : RingB w B
def FR (A : RD Att) (B : RD Pro) : Nat → Prop := fun j => j = A.g ∨ j = A.s ∨ j = B.g ∨ j = B.s
section
variable {w w' : World} {r : Nat} {v : Int} {A A' : RD Att} {B B' : RD Pro} {M : Nat → Prop}
theorem RecAt.mono (h : RecAt w r v A B) (hc : ∀ (j : Nat) (cs : Array Value) (T : TypeId), (FR A B j ∨ T = 28 ∨ T = 37 ∨ T = 122) → w.heap[j]? = some (.cells cs T (0, 0)) → w'.heap[j]? = some (.cells cs T (0, 0))) : RecAt w' r v A B :=
  ⟨hc _ _ _ (.inr (.inr (.inr rfl))) h.rec_, h.a.mono fun j cs T hj => hc j cs T (by rcases hj with h | h | h; exact .inl (.inl h); exact .inl (.inr (.inl h)); exact .inr (.inl h)),
    h.b.mono fun j cs T hj => hc j cs T (by rcases hj with h | h | h; exact .inl (.inr (.inr (.inl h))); exact .inl (.inr (.inr (.inr h))); exact .inr (.inr (.inl h)))⟩
theorem RecAt.keepsN (h : RecAt w r v A B) (k : Keeps Nob w w') : RecAt w' r v A B := h.mono fun _ _ _ _ e => k.bk e
theorem RecAt.odd (h : RecAt w r v A B) {T : TypeId} (h1 : 184 ≠ T) (h2 : 185 ≠ T) (h3 : 192 ≠ T) (h4 : 168 ≠ T) : Odd w (FR A B) T := fun j cs fr hj e => by
  rcases hj with rfl | rfl | rfl | rfl
  · exact Odd.one h.a.ring h1 _ _ _ rfl e
  · exact Odd.one h.a.slots h2 _ _ _ rfl e
  · exact Odd.one h.b.ring h3 _ _ _ rfl e
  · exact Odd.one h.b.slots h4 _ _ _ rfl e
theorem RecAt.other {r2 : Nat} {v2 : Int} {A2 : RD Att} {B2 : RD Pro} (h : RecAt w r v A B) (h2 : RecAt w r2 v2 A2 B2) (k : Keeps (FR A B) w w') (d : ∀ j, FR A2 B2 j → ¬ FR A B j) : RecAt w' r2 v2 A2 B2 :=
  h2.mono fun j cs T hj e => by
    rcases hj with hj | rfl | rfl | rfl
    · exact (k.block j (lt_of_block e) (d j hj)).trans e
    · exact k.odd (h.odd (by decide) (by decide) (by decide) (by decide)) e
    · exact k.odd (h.odd (by decide) (by decide) (by decide) (by decide)) e
    · exact k.odd (h.odd (by decide) (by decide) (by decide) (by decide)) e
theorem RecAt.putA (h : RecAt w r v A B) (hA : RingA w' A') (hg : A'.g = A.g) (k : Keeps (One A.s) w w') : RecAt w' r v A' B :=
  ⟨by rw [hg]; exact k.odd (Odd.one h.a.slots (by decide)) h.rec_, hA, h.b.odd k (Odd.one h.a.slots (by decide)) (Odd.one h.a.slots (by decide)) (Odd.one h.a.slots (by decide))⟩
theorem RecAt.putB (h : RecAt w r v A B) (hB : RingB w' B') (hg : B'.g = B.g) (k : Keeps (One B.s) w w') : RecAt w' r v A B' :=
  ⟨by rw [hg]; exact k.odd (Odd.one h.b.slots (by decide)) h.rec_, h.a.odd k (Odd.one h.b.slots (by decide)) (Odd.one h.b.slots (by decide)) (Odd.one h.b.slots (by decide)), hB⟩
theorem Ring.odd2 {α : Type} {ix : FuncId} {tr tp te : TypeId} {enc : α → Array Value} {key : α → Int} {ok : α → Prop} {d : RD α} {T : TypeId} (h : Ring ix tr tp te enc key ok w d) (h1 : tr ≠ T) (h2 : tp ≠ T) : Odd w (fun j => j = d.g ∨ j = d.s) T := fun j cs fr hj e => by
  rcases hj with rfl | rfl
  · exact Odd.one h.ring h1 _ _ _ rfl e
  · exact Odd.one h.slots h2 _ _ _ rfl e
theorem RecAt.moveA (h : RecAt w r v A B) (hA : RingA w' A') (hg : A'.g = A.g) (k : Keeps (fun j => j = A.g ∨ j = A.s) w w') : RecAt w' r v A' B :=
  ⟨by rw [hg]; exact k.odd (h.a.odd2 (by decide) (by decide)) h.rec_, hA, h.b.odd k (h.a.odd2 (by decide) (by decide)) (h.a.odd2 (by decide) (by decide)) (h.a.odd2 (by decide) (by decide))⟩
theorem RecAt.moveB (h : RecAt w r v A B) (hB : RingB w' B') (hg : B'.g = B.g) (k : Keeps (fun j => j = B.g ∨ j = B.s) w w') : RecAt w' r v A B' :=
  ⟨by rw [hg]; exact k.odd (h.b.odd2 (by decide) (by decide)) h.rec_, h.a.odd k (h.b.odd2 (by decide) (by decide)) (h.b.odd2 (by decide) (by decide)) (h.b.odd2 (by decide) (by decide)), hB⟩
end
def whoErr (v e x : Int) : Int := if e ≠ 0 then e else if x ≠ v then 2 else 0
end
section
open Go Go.RowKit Go.Own Go.Shelf
noncomputable def qc26_4 (n : Nat) : Code := partOf Tryz.f72 n
theorem qnone_rec (r : Nat) (v : Int) (A : RD Att) (B : RD Pro) (w : World) (H : RecAt w r v A B) :
  Calls Tryz.prog 72 #[pT r 0] w (fun e w' => e = .returned (.bool false) ∧ w = w') := by
 have K0 : Keeps Nob w w := Keeps.refl _ _
 refine se_ (qc26_4 1) ⟨fr [pT r 0] 11, []⟩ Tryz.func72 <| qr_ [0] <| kk 1 <| eqr_ nl10_ <| kk 6 <| ppq _ (lk (H.rec_)) <| kk 3 ?_
 refine eu_ <| so_ (.bool false) ?_
 exact ⟨rfl, rfl⟩
noncomputable def qc26_2 (n : Nat) : Code := partOf Tryz.f96 n
theorem qwhose_1 (r : Nat) (v : Int) (A : RD Att) (B : RD Pro) (e0 x : Int) (w : World) (H : RecAt w r v A B) (q1 : e0 ≠ 0) :
  Calls Tryz.prog 96 #[pT r 0, .int .i64 e0, .int .i64 x] w (fun e w' => e = .returned (.int .i64 (whoErr v e0 x)) ∧ w = w') := by
 have K0 : Keeps Nob w w := Keeps.refl _ _
 refine se_ (qc26_2 1) ⟨fr [pT r 0, .int .i64 e0, .int .i64 x] 18, []⟩ Tryz.func96 <| qr_ [0] <| kk 1 <| eq_ <| bl_ 0 <| qr_ [0, 1, 2] <| kk 1 ?_
 refine pcq 72 #[pT r 0] Tryz.func72 ((qnone_rec r v A B _ H).mono ?_)
 rintro e w1 ⟨rfl, rfl⟩
 refine ⟨_, rfl, ?_⟩
 refine kk 1 <| en_ <| qr_ [0, 1, 2] <| kk 1 <| ppq _ (nqt ((e0) : Int) ((0) : Int) (by omega)) <| kk 1 <| ey_ <| qr_ [0, 1] <| kk 2 <| eu_ <| blk_r <| then_r <| so_ (.int .i64 e0) ?_
 exact ⟨by unfold whoErr; rw [if_pos q1], rfl⟩
theorem qwhose_2 (r : Nat) (v : Int) (A : RD Att) (B : RD Pro) (e0 x : Int) (w : World) (H : RecAt w r v A B) (q1 : e0 = 0) (q2 : x ≠ v) :
  Calls Tryz.prog 96 #[pT r 0, .int .i64 e0, .int .i64 x] w (fun e w' => e = .returned (.int .i64 (whoErr v e0 x)) ∧ w = w') := by
 have K0 : Keeps Nob w w := Keeps.refl _ _
 refine se_ (qc26_2 1) ⟨fr [pT r 0, .int .i64 e0, .int .i64 x] 18, []⟩ Tryz.func96 <| qr_ [0] <| kk 1 <| eq_ <| bl_ 0 <| qr_ [0, 1, 2] <| kk 1 ?_
 refine pcq 72 #[pT r 0] Tryz.func72 ((qnone_rec r v A B _ H).mono ?_)
 rintro e w1 ⟨rfl, rfl⟩
 refine ⟨_, rfl, ?_⟩
 refine kk 1 <| en_ <| qr_ [0, 1, 2] <| kk 1 <| ppq _ (nqf ((e0) : Int) ((0) : Int) (by omega)) <| kk 1 <| en_ <| qr_ nl7_ <| kk 4 <| ppq _ (lk (H.rec_)) <| ppq _ (nqt ((x) : Int) ((v) : Int) (by omega)) ?_
 refine kk 1 <| ey_ <| qr_ [0] <| kk 1 <| eu_ <| blk_r <| then_r <| so_ (.int .i64 2) ?_
 exact ⟨by unfold whoErr; rw [if_neg (by omega), if_pos q2], rfl⟩
theorem qwhose_3 (r : Nat) (v : Int) (A : RD Att) (B : RD Pro) (e0 x : Int) (w : World) (H : RecAt w r v A B) (q1 : e0 = 0) (q2 : x = v) :
  Calls Tryz.prog 96 #[pT r 0, .int .i64 e0, .int .i64 x] w (fun e w' => e = .returned (.int .i64 (whoErr v e0 x)) ∧ w = w') := by
 have K0 : Keeps Nob w w := Keeps.refl _ _
 refine se_ (qc26_2 1) ⟨fr [pT r 0, .int .i64 e0, .int .i64 x] 18, []⟩ Tryz.func96 <| qr_ [0] <| kk 1 <| eq_ <| bl_ 0 <| qr_ [0, 1, 2] <| kk 1 ?_
 refine pcq 72 #[pT r 0] Tryz.func72 ((qnone_rec r v A B _ H).mono ?_)
 rintro e w1 ⟨rfl, rfl⟩
 refine ⟨_, rfl, ?_⟩
 refine kk 1 <| en_ <| qr_ [0, 1, 2] <| kk 1 <| ppq _ (nqf ((e0) : Int) ((0) : Int) (by omega)) <| kk 1 <| en_ <| qr_ nl7_ <| kk 4 <| ppq _ (lk (H.rec_)) <| ppq _ (nqf ((x) : Int) ((v) : Int) (by omega)) ?_
 refine kk 1 <| en_ <| s_ <| blk_n <| tqr_ [0] <| kk 1 <| eu_ <| so_ (.int .i64 0) ?_
 exact ⟨by unfold whoErr; rw [if_neg (by omega), if_neg (by omega)], rfl⟩
theorem qwhose_ok (r : Nat) (v : Int) (A : RD Att) (B : RD Pro) (e0 x : Int) (w : World) (H : RecAt w r v A B) : Calls Tryz.prog 96 #[pT r 0, .int .i64 e0, .int .i64 x] w (fun e w' => e = .returned (.int .i64 (whoErr v e0 x)) ∧ w = w') := by
 by_cases q1 : e0 = 0
 ·by_cases q2 : x = v
  ·exact qwhose_3 r v A B e0 x w H q1 q2
  ·exact qwhose_2 r v A B e0 x w H q1 q2
 ·exact qwhose_1 r v A B e0 x w H q1
noncomputable def qc26_6 (n : Nat) : Code := partOf Tryz.f50 n
theorem qPut_bad (r : Nat) (v : Int) (A : RD Att) (B : RD Pro) (a : Att) (w : World) (H : RecAt w r v A B) (ha : a.Ok) (hE : (whoErr v a.err a.v) ≠ 0) :
  Calls Tryz.prog 50 #[pT r 0, .agg (Att.c a)] w (fun e w' => e = .returned (.int .i64 (whoErr v a.err a.v)) ∧ Keeps Nob w w') := by
 have K0 : Keeps Nob w w := Keeps.refl _ _
 refine se_ (qc26_6 1) ⟨fr [pT r 0, .agg (Att.c a)] 19, []⟩ Tryz.func50 <| qr_ [0, 1] <| pbx 28 ((Att.c a)) (.agg (Att.c a)) fun V1 p ep h2 kV1 => ?_
 have n3 : r < p := ep ▸ lt_of_block H.rec_
 have n4 := nk ep K0
 have h6 : RecAt V1 r v A B := H.keepsN kV1
 have K7 := K0.nn kV1
 have z8 := kV1.size
 refine kk 1 <| eq_ <| q_ <| sy_np <| sy_reg <| anb 7 (fun W => (HP W p (Att.c a) 28)) #[false, false, false, false, false, false, false] ?_
 obtain ⟨V9, eV9, kV9⟩ := drew_step V1
 rw [eV9]
 clear eV9
 have h11 : RecAt V9 r v A B := h6.keepsN kV9
 have ⟨K13, z14, h12⟩ := kV9.z1 K7 h2
 refine ka [0] h12 <| avq 1 _ (fun W hS => ldr 28 p (hS) (by rw [Att.c_size _ ha.r]; kernel_rfl)) h12 <| ka [3] h12 <| avq 4 _ (fun W hS => lc (hS) (Att.c_0 _)) h12 <| an_o 2 ?_
 refine ncr 46 #[.agg (Att.c a)] Tryz.func46 (vCheck_ok a _ ha.r) fun V15 kV15 => ?_
 have h17 : RecAt V15 r v A B := h11.keepsN kV15
 have ⟨K19, z20, h18⟩ := kV15.z1 K13 h12
 refine ⟨h18, ?_⟩
 refine an_o 5 ?_
 refine ncq 96 #[pT r 0, .int .i64 a.err, .int .i64 a.v] Tryz.func96 ((qwhose_ok r v A B _ _ _ h17).mono ?_)
 rintro e w1 ⟨rfl, rfl⟩
 refine ⟨_, rfl, ?_⟩
 refine ⟨h18, ?_⟩
 refine an_o 6 <| nrq (.int .i64 (whoErr v a.err a.v)) (w' := V15) (by kernel_rfl) ?_
 refine ⟨h18, ?_⟩
 refine ane <| tqr_ [0, 1] <| kk 1 <| ppq _ (nqt ((whoErr v a.err a.v) : Int) ((0) : Int) (by omega)) <| ey_ <| qr_ [0, 1] <| kk 2 <| eu_ <| then_r <| so_ (.int .i64 (whoErr v a.err a.v)) ?_
 exact ⟨rfl, K19⟩
theorem qPut_fine (r : Nat) (v : Int) (A : RD Att) (B : RD Pro) (a : Att) (w : World) (H : RecAt w r v A B) (ha : a.Ok) (hE : (whoErr v a.err a.v) = 0) :
  Calls Tryz.prog 50 #[pT r 0, .agg (Att.c a)] w (fun e w' => e = .returned (.int .i64 (gputErr A a.t)) ∧ ((gputErr A a.t) ≠ 0 → RecAt w' r v A B) ∧ ((gputErr A a.t) = 0 → ∃ S', RecAt w' r v { A with V := upV A.V a.t a, S := S' } B) ∧ Keeps (One A.s) w w') := by
 have K0 : Keeps ((One A.s)) w w := Keeps.refl _ _
 refine se_ (qc26_6 1) ⟨fr [pT r 0, .agg (Att.c a)] 19, []⟩ Tryz.func50 <| qr_ [0, 1] <| pbx 28 ((Att.c a)) (.agg (Att.c a)) fun V21 p ep h22 kV21 => ?_
 have n23 : r < p := ep ▸ lt_of_block H.rec_
 have n24 := nk ep K0
 have h25 := kV21.bk H.rec_
 have h26 : RecAt V21 r v A B := H.keepsN kV21
 have K27 := K0.nn kV21
 have z28 := kV21.size
 refine kk 1 <| eq_ <| q_ <| sy_np <| sy_reg <| anb 7 (fun W => (HP W p (Att.c a) 28)) #[false, false, false, false, false, false, false] ?_
 obtain ⟨V29, eV29, kV29⟩ := drew_step V21
 rw [eV29]
 clear eV29
 have h30 := kV29.bk h25
 have h31 : RecAt V29 r v A B := h26.keepsN kV29
 have ⟨K33, z34, h32⟩ := kV29.z1 K27 h22
 refine ka [0] h32 <| avq 1 _ (fun W hS => ldr 28 p (hS) (by rw [Att.c_size _ ha.r]; kernel_rfl)) h32 <| ka [3] h32 <| avq 4 _ (fun W hS => lc (hS) (Att.c_0 _)) h32 <| an_o 2 ?_
 refine ncr 46 #[.agg (Att.c a)] Tryz.func46 (vCheck_ok a _ ha.r) fun V35 kV35 => ?_
 have h36 := kV35.bk h30
 have h37 : RecAt V35 r v A B := h31.keepsN kV35
 have ⟨K39, z40, h38⟩ := kV35.z1 K33 h32
 refine ⟨h38, ?_⟩
 refine an_o 5 ?_
 refine ncq 96 #[pT r 0, .int .i64 a.err, .int .i64 a.v] Tryz.func96 ((qwhose_ok r v A B _ _ _ h37).mono ?_)
 rintro e w1 ⟨rfl, rfl⟩
 refine ⟨_, rfl, ?_⟩
 refine ⟨h38, ?_⟩
 refine an_o 6 <| nrq (.int .i64 (whoErr v a.err a.v)) (w' := V35) (by kernel_rfl) ?_
 refine ⟨h38, ?_⟩
 refine ane <| tqr_ [0, 1] <| kk 1 <| ppq _ (nqf ((whoErr v a.err a.v) : Int) ((0) : Int) (by omega)) <| en_ <| s_ <| tq_ <| sy_np <| sy_reg <| anb 7 (fun W => (HP W p (Att.c a) 28) ∧ (HP W r (#[.int .i64 v, pT A.g 0, pT B.g 0]) 122)) #[false, false, false, false, false, false, false] ?_
 obtain ⟨V41, eV41, kV41⟩ := drew_step V35
 rw [eV41]
 clear eV41
 have h42 := kV41.bk h36
 have h43 : RecAt V41 r v A B := h37.keepsN kV41
 have ⟨K45, z46, h44⟩ := kV41.z1 K39 h38
 refine ka [0, 1, 2] ⟨h44, h42⟩ <| avq 3 _ (fun W hS => lk (hS.2)) ⟨h44, h42⟩ <| avq 4 _ (fun W hS => ldr 28 p (hS.1) (by rw [Att.c_size _ ha.r]; kernel_rfl)) ⟨h44, h42⟩ <| an_o 5 ?_
 have Hp := h43
 have np_ : p ≠ A.s := fun e => Odd.one Hp.a.slots (by decide) _ _ _ e h44
 have nr_ : r ≠ A.s := fun e => Odd.one Hp.a.slots (by decide) _ _ _ e h42
 refine ncq 97 #[pT A.g 0, .agg (Att.c a)] Tryz.func97 ((gput_ok A a _ Hp.a ha).mono ?_)
 rintro e V47 ⟨rfl, hb, hg, kV47⟩
 have kq := kV47
 refine ⟨_, rfl, ?_⟩
 have ⟨h48, h49⟩ := kV47.ko2 h42 h44
 have K50 : Keeps ((One A.s)) w V47 := K45.then kV47 (fun i hi hm => by unfold Own.One at hm; subst hm; exact rfl)
 have z51 := kV47.size
 refine ⟨⟨h49, h48⟩, ?_⟩
 refine an_o 6 <| nrq (.int .i64 (gputErr A a.t)) (w' := V47) (by kernel_rfl) ?_
 refine ⟨⟨h49, h48⟩, ?_⟩
 refine ane <| then_n <| u_ <| so_ (.int .i64 (gputErr A a.t)) ?_
 exact ⟨rfl, fun h => RecAt.putA Hp (hb h) rfl kq, fun h => let ⟨S', hr⟩ := hg h; ⟨S', RecAt.putA Hp hr rfl kq⟩, K50⟩
def qPutErr (v : Int) (A : RD Att) (a : Att) : Int := if (whoErr v a.err a.v) ≠ 0 then (whoErr v a.err a.v) else (gputErr A a.t)
theorem qPut_ok (r : Nat) (v : Int) (A : RD Att) (B : RD Pro) (a : Att) (w : World) (H : RecAt w r v A B) (ha : a.Ok) : Calls Tryz.prog 50 #[pT r 0, .agg (Att.c a)] w fun e w' => e = .returned (.int .i64 (qPutErr v A a)) ∧ (qPutErr v A a ≠ 0 → RecAt w' r v A B) ∧ (qPutErr v A a = 0 → ∃ S', RecAt w' r v { A with V := upV A.V a.t a, S := S' } B) ∧ Keeps (One A.s) w w' := by
 unfold qPutErr
 by_cases hE : (whoErr v a.err a.v) = 0
 ·rw [if_neg (by omega)]; exact qPut_fine r v A B a w H ha hE
 ·rw [if_pos hE]; exact (qPut_bad r v A B a w H ha hE).mono fun e w' ⟨he, k⟩ => ⟨he, fun _ => H.keepsN k, fun h => absurd h hE, k.mono (fun _ _ x => x.elim)⟩
noncomputable def qc26_0 (n : Nat) : Code := partOf Tryz.f54 n
theorem qPutBlock_bad (r : Nat) (v : Int) (A : RD Att) (B : RD Pro) (a : Pro) (w : World) (H : RecAt w r v A B) (ha : a.Ok) (hE : (whoErr v a.err a.v) ≠ 0) :
  Calls Tryz.prog 54 #[pT r 0, .agg (Pro.c a)] w (fun e w' => e = .returned (.int .i64 (whoErr v a.err a.v)) ∧ Keeps Nob w w') := by
 have K0 : Keeps Nob w w := Keeps.refl _ _
 refine se_ (qc26_0 1) ⟨fr [pT r 0, .agg (Pro.c a)] 19, []⟩ Tryz.func54 <| qr_ [0, 1] <| pbx 37 ((Pro.c a)) (.agg (Pro.c a)) fun V1 p ep h2 kV1 => ?_
 have n3 : r < p := ep ▸ lt_of_block H.rec_
 have n4 := nk ep K0
 have h6 : RecAt V1 r v A B := H.keepsN kV1
 have K7 := K0.nn kV1
 have z8 := kV1.size
 refine kk 1 <| eq_ <| q_ <| sy_np <| sy_reg <| anb 7 (fun W => (HP W p (Pro.c a) 37)) #[false, false, false, false, false, false, false] ?_
 obtain ⟨V9, eV9, kV9⟩ := drew_step V1
 rw [eV9]
 clear eV9
 have h11 : RecAt V9 r v A B := h6.keepsN kV9
 have ⟨K13, z14, h12⟩ := kV9.z1 K7 h2
 refine ka [0] h12 <| avq 1 _ (fun W hS => ldr 37 p (hS) (by rw [Pro.c_size _ ha.r]; kernel_rfl)) h12 <| ka [3] h12 <| avq 4 _ (fun W hS => lc (hS) (Pro.c_0 _)) h12 <| an_o 2 ?_
 refine ncr 51 #[.agg (Pro.c a)] Tryz.func51 (vCheckBlock_ok a _ ha.r) fun V15 kV15 => ?_
 have h17 : RecAt V15 r v A B := h11.keepsN kV15
 have ⟨K19, z20, h18⟩ := kV15.z1 K13 h12
 refine ⟨h18, ?_⟩
 refine an_o 5 ?_
 refine ncq 96 #[pT r 0, .int .i64 a.err, .int .i64 a.v] Tryz.func96 ((qwhose_ok r v A B _ _ _ h17).mono ?_)
 rintro e w1 ⟨rfl, rfl⟩
 refine ⟨_, rfl, ?_⟩
 refine ⟨h18, ?_⟩
 refine an_o 6 <| nrq (.int .i64 (whoErr v a.err a.v)) (w' := V15) (by kernel_rfl) ?_
 refine ⟨h18, ?_⟩
 refine ane <| tqr_ [0, 1] <| kk 1 <| ppq _ (nqt ((whoErr v a.err a.v) : Int) ((0) : Int) (by omega)) <| ey_ <| qr_ [0, 1] <| kk 2 <| eu_ <| then_r <| so_ (.int .i64 (whoErr v a.err a.v)) ?_
 exact ⟨rfl, K19⟩
theorem qPutBlock_fine (r : Nat) (v : Int) (A : RD Att) (B : RD Pro) (a : Pro) (w : World) (H : RecAt w r v A B) (ha : a.Ok) (hE : (whoErr v a.err a.v) = 0) :
  Calls Tryz.prog 54 #[pT r 0, .agg (Pro.c a)] w (fun e w' => e = .returned (.int .i64 (gputBErr B a.h)) ∧ ((gputBErr B a.h) ≠ 0 → RecAt w' r v A B) ∧ ((gputBErr B a.h) = 0 → ∃ S', RecAt w' r v A { B with V := upV B.V a.h a, S := S' }) ∧ Keeps (One B.s) w w') := by
 have K0 : Keeps ((One B.s)) w w := Keeps.refl _ _
 refine se_ (qc26_0 1) ⟨fr [pT r 0, .agg (Pro.c a)] 19, []⟩ Tryz.func54 <| qr_ [0, 1] <| pbx 37 ((Pro.c a)) (.agg (Pro.c a)) fun V21 p ep h22 kV21 => ?_
 have n23 : r < p := ep ▸ lt_of_block H.rec_
 have n24 := nk ep K0
 have h25 := kV21.bk H.rec_
 have h26 : RecAt V21 r v A B := H.keepsN kV21
 have K27 := K0.nn kV21
 have z28 := kV21.size
 refine kk 1 <| eq_ <| q_ <| sy_np <| sy_reg <| anb 7 (fun W => (HP W p (Pro.c a) 37)) #[false, false, false, false, false, false, false] ?_
 obtain ⟨V29, eV29, kV29⟩ := drew_step V21
 rw [eV29]
 clear eV29
 have h30 := kV29.bk h25
 have h31 : RecAt V29 r v A B := h26.keepsN kV29
 have ⟨K33, z34, h32⟩ := kV29.z1 K27 h22
 refine ka [0] h32 <| avq 1 _ (fun W hS => ldr 37 p (hS) (by rw [Pro.c_size _ ha.r]; kernel_rfl)) h32 <| ka [3] h32 <| avq 4 _ (fun W hS => lc (hS) (Pro.c_0 _)) h32 <| an_o 2 ?_
 refine ncr 51 #[.agg (Pro.c a)] Tryz.func51 (vCheckBlock_ok a _ ha.r) fun V35 kV35 => ?_
 have h36 := kV35.bk h30
 have h37 : RecAt V35 r v A B := h31.keepsN kV35
 have ⟨K39, z40, h38⟩ := kV35.z1 K33 h32
 refine ⟨h38, ?_⟩
 refine an_o 5 ?_
 refine ncq 96 #[pT r 0, .int .i64 a.err, .int .i64 a.v] Tryz.func96 ((qwhose_ok r v A B _ _ _ h37).mono ?_)
 rintro e w1 ⟨rfl, rfl⟩
 refine ⟨_, rfl, ?_⟩
 refine ⟨h38, ?_⟩
 refine an_o 6 <| nrq (.int .i64 (whoErr v a.err a.v)) (w' := V35) (by kernel_rfl) ?_
 refine ⟨h38, ?_⟩
 refine ane <| tqr_ [0, 1] <| kk 1 <| ppq _ (nqf ((whoErr v a.err a.v) : Int) ((0) : Int) (by omega)) <| en_ <| s_ <| tq_ <| sy_np <| sy_reg <| anb 7 (fun W => (HP W p (Pro.c a) 37) ∧ (HP W r (#[.int .i64 v, pT A.g 0, pT B.g 0]) 122)) #[false, false, false, false, false, false, false] ?_
 obtain ⟨V41, eV41, kV41⟩ := drew_step V35
 rw [eV41]
 clear eV41
 have h42 := kV41.bk h36
 have h43 : RecAt V41 r v A B := h37.keepsN kV41
 have ⟨K45, z46, h44⟩ := kV41.z1 K39 h38
 refine ka [0, 1, 2] ⟨h44, h42⟩ <| avq 3 _ (fun W hS => lk (hS.2)) ⟨h44, h42⟩ <| avq 4 _ (fun W hS => ldr 37 p (hS.1) (by rw [Pro.c_size _ ha.r]; kernel_rfl)) ⟨h44, h42⟩ <| an_o 5 ?_
 have Hp := h43
 have np_ : p ≠ B.s := fun e => Odd.one Hp.b.slots (by decide) _ _ _ e h44
 have nr_ : r ≠ B.s := fun e => Odd.one Hp.b.slots (by decide) _ _ _ e h42
 refine ncq 99 #[pT B.g 0, .agg (Pro.c a)] Tryz.func99 ((gputB_ok B a _ Hp.b ha).mono ?_)
 rintro e V47 ⟨rfl, hb, hg, kV47⟩
 have kq := kV47
 refine ⟨_, rfl, ?_⟩
 have ⟨h48, h49⟩ := kV47.ko2 h42 h44
 have K50 : Keeps ((One B.s)) w V47 := K45.then kV47 (fun i hi hm => by unfold Own.One at hm; subst hm; exact rfl)
 have z51 := kV47.size
 refine ⟨⟨h49, h48⟩, ?_⟩
 refine an_o 6 <| nrq (.int .i64 (gputBErr B a.h)) (w' := V47) (by kernel_rfl) ?_
 refine ⟨⟨h49, h48⟩, ?_⟩
 refine ane <| then_n <| u_ <| so_ (.int .i64 (gputBErr B a.h)) ?_
 exact ⟨rfl, fun h => RecAt.putB Hp (hb h) rfl kq, fun h => let ⟨S', hr⟩ := hg h; ⟨S', RecAt.putB Hp hr rfl kq⟩, K50⟩
def qPutBlockErr (v : Int) (B : RD Pro) (a : Pro) : Int := if (whoErr v a.err a.v) ≠ 0 then (whoErr v a.err a.v) else (gputBErr B a.h)
theorem qPutBlock_ok (r : Nat) (v : Int) (A : RD Att) (B : RD Pro) (a : Pro) (w : World) (H : RecAt w r v A B) (ha : a.Ok) : Calls Tryz.prog 54 #[pT r 0, .agg (Pro.c a)] w fun e w' => e = .returned (.int .i64 (qPutBlockErr v B a)) ∧ (qPutBlockErr v B a ≠ 0 → RecAt w' r v A B) ∧ (qPutBlockErr v B a = 0 → ∃ S', RecAt w' r v A { B with V := upV B.V a.h a, S := S' }) ∧ Keeps (One B.s) w w' := by
 unfold qPutBlockErr
 by_cases hE : (whoErr v a.err a.v) = 0
 ·rw [if_neg (by omega)]; exact qPutBlock_fine r v A B a w H ha hE
 ·rw [if_pos hE]; exact (qPutBlock_bad r v A B a w H ha hE).mono fun e w' ⟨he, k⟩ => ⟨he, fun _ => H.keepsN k, fun h => absurd h hE, k.mono (fun _ _ x => x.elim)⟩
noncomputable def part_qAt (n : Nat) : Code := partOf Tryz.f84 n
theorem qAt_no (r : Nat) (v : Int) (A : RD Att) (B : RD Pro) (i : Int) (w : World) (H : RecAt w r v A B) (hs : slotOf A i = none) :
  Calls Tryz.prog 84 #[pT r 0, .int .i64 i] w (fun e w' => e = .returned (.tuple #[.agg (Att.c zAtt), .bool false]) ∧ Keeps Nob w w') := by
 have K0 : Keeps Nob w w := Keeps.refl _ _
 refine se_ (part_qAt 1) ⟨fr [pT r 0, .int .i64 i] 24, []⟩ Tryz.func84 <| qr_ [0, 1] <| pal 28 (#[.int .i64 0, .int .i64 0, .int .i64 0, .int .u8 0, .int .u8 0, .int .u8 0, .int .u8 0, .int .u8 0, .int .u8 0, .int .u8 0, .int .u8 0, .int .u8 0, .int .u8 0, .int .u8 0, .int .u8 0, .int .u8 0, .int .u8 0, .int .u8 0, .int .u8 0, .int .u8 0, .int .u8 0, .int .u8 0, .int .u8 0, .int .u8 0, .int .u8 0, .int .u8 0, .int .u8 0, .int .u8 0, .int .u8 0, .int .u8 0, .int .u8 0, .int .u8 0, .int .u8 0, .int .u8 0, .int .u8 0, .int .u64 0]) (.agg (#[.int .i64 0, .int .i64 0, .int .i64 0, .int .u8 0, .int .u8 0, .int .u8 0, .int .u8 0, .int .u8 0, .int .u8 0, .int .u8 0, .int .u8 0, .int .u8 0, .int .u8 0, .int .u8 0, .int .u8 0, .int .u8 0, .int .u8 0, .int .u8 0, .int .u8 0, .int .u8 0, .int .u8 0, .int .u8 0, .int .u8 0, .int .u8 0, .int .u8 0, .int .u8 0, .int .u8 0, .int .u8 0, .int .u8 0, .int .u8 0, .int .u8 0, .int .u8 0, .int .u8 0, .int .u8 0, .int .u8 0, .int .u64 0])) fun V1 g eg h2 kV1 => ?_
 have n3 : r < g := eg ▸ lt_of_block H.rec_
 have n4 := nk eg K0
 have h5 := kV1.bk H.rec_
 have K6 := K0.nn kV1
 have z7 := kV1.size
 refine kk 1 <| eq_ <| qr_ nl11_ <| kk 1 ?_
 refine pcq 72 #[pT r 0] Tryz.func72 ((qnone_rec r v A B _ (H.keepsN K6)).mono ?_)
 rintro e w1 ⟨rfl, rfl⟩
 refine ⟨_, rfl, ?_⟩
 refine kk 4 <| ppq _ (lk h5) <| kk 1 ?_
 refine pcr 113 #[pT A.g 0, .int .i64 i] Tryz.func113 (gat_none _ _ (H.keepsN K6).a hs) fun V8 kV8 => ?_
 have ⟨K11, z12, h10⟩ := kV8.z1 K6 h2
 refine kk 2 <| ey_ <| qr_ [0, 1, 2] <| kk 1 <| pst 28 g ((Att.c zAtt)) h10 (by rw [Att.c_size _ zAtt_ok.r]; kernel_rfl) (by rw [Att.c_size _ zAtt_ok.r]; rfl) (Att.c_one _) fun V13 h14 kV13 => ?_
 have K16 := K11.nO kV13
 have z17 := kV13.size
 refine kk 1 <| eu_ <| then_r <| sy_out (.tuple #[.agg (Att.c zAtt), .bool false]) rfl (rrt 28 g h14 Tryz.underlying28 (by rw [Att.c_size _ zAtt_ok.r]; kernel_rfl)) ?_
 exact ⟨rfl, K16⟩
theorem qAt_yes (r : Nat) (v : Int) (A : RD Att) (B : RD Pro) (i : Int) (a : Att) (p : Nat) (w : World) (H : RecAt w r v A B) (ha : a.Ok) (hs : slotOf A i = some p) (hp : HP w p (Att.c a) 28) :
  Calls Tryz.prog 84 #[pT r 0, .int .i64 i] w (fun e w' => e = .returned (.tuple #[.agg (Att.c a), .bool true]) ∧ Keeps Nob w w') := by
 have K0 : Keeps Nob w w := Keeps.refl _ _
 refine se_ (part_qAt 1) ⟨fr [pT r 0, .int .i64 i] 24, []⟩ Tryz.func84 <| qr_ [0, 1] <| pal 28 (#[.int .i64 0, .int .i64 0, .int .i64 0, .int .u8 0, .int .u8 0, .int .u8 0, .int .u8 0, .int .u8 0, .int .u8 0, .int .u8 0, .int .u8 0, .int .u8 0, .int .u8 0, .int .u8 0, .int .u8 0, .int .u8 0, .int .u8 0, .int .u8 0, .int .u8 0, .int .u8 0, .int .u8 0, .int .u8 0, .int .u8 0, .int .u8 0, .int .u8 0, .int .u8 0, .int .u8 0, .int .u8 0, .int .u8 0, .int .u8 0, .int .u8 0, .int .u8 0, .int .u8 0, .int .u8 0, .int .u8 0, .int .u64 0]) (.agg (#[.int .i64 0, .int .i64 0, .int .i64 0, .int .u8 0, .int .u8 0, .int .u8 0, .int .u8 0, .int .u8 0, .int .u8 0, .int .u8 0, .int .u8 0, .int .u8 0, .int .u8 0, .int .u8 0, .int .u8 0, .int .u8 0, .int .u8 0, .int .u8 0, .int .u8 0, .int .u8 0, .int .u8 0, .int .u8 0, .int .u8 0, .int .u8 0, .int .u8 0, .int .u8 0, .int .u8 0, .int .u8 0, .int .u8 0, .int .u8 0, .int .u8 0, .int .u8 0, .int .u8 0, .int .u8 0, .int .u8 0, .int .u64 0])) fun V18 g eg h19 kV18 => ?_
 have n20 : r < g := eg ▸ lt_of_block H.rec_
 have n21 := nl eg hp
 have n22 := nk eg K0
 have h23 := kV18.bk H.rec_
 have ⟨K25, z26, h24⟩ := kV18.z1 K0 hp
 refine kk 1 <| eq_ <| qr_ nl11_ <| kk 1 ?_
 refine pcq 72 #[pT r 0] Tryz.func72 ((qnone_rec r v A B _ (H.keepsN K25)).mono ?_)
 rintro e w1 ⟨rfl, rfl⟩
 refine ⟨_, rfl, ?_⟩
 refine kk 4 <| ppq _ (lk h23) <| kk 1 ?_
 refine pcr 113 #[pT A.g 0, .int .i64 i] Tryz.func113 (gat_some _ p _ (H.keepsN K25).a hs) fun V27 kV27 => ?_
 have ⟨K31, z32, h28, h29, h30⟩ := kV27.z3 K25 h23 h24 h19
 refine kk 2 <| en_ <| s_ <| tqr_ nl10_ <| kk 3 <| ppq _ (lk h28) <| kk 1 ?_
 refine pcr 113 #[pT A.g 0, .int .i64 i] Tryz.func113 (gat_some _ p _ (H.keepsN K31).a hs) fun V33 kV33 => ?_
 have ⟨K37, z38, h35, h36⟩ := kV33.z2 K31 h29 h30
 refine kk 1 <| ppq _ (ldr 28 p (h35) (by rw [Att.c_size _ ha.r]; kernel_rfl)) <| pst 28 g ((Att.c a)) h36 (by rw [Att.c_size _ ha.r]; kernel_rfl) (by rw [Att.c_size _ ha.r]; rfl) (Att.c_one _) fun V39 h40 kV39 => ?_
 have K43 := K37.nO kV39
 have z44 := kV39.size
 refine kk 1 <| eu_ <| sy_out (.tuple #[.agg (Att.c a), .bool true]) rfl (rrt 28 g h40 Tryz.underlying28 (by rw [Att.c_size _ ha.r]; kernel_rfl)) ?_
 exact ⟨rfl, K43⟩
theorem qAt_ok (r : Nat) (v : Int) (A : RD Att) (B : RD Pro) (i : Int) (w : World) (H : RecAt w r v A B) : Calls Tryz.prog 84 #[pT r 0, .int .i64 i] w fun e w' => e = .returned (.tuple #[.agg (Att.c ((A.V i).getD zAtt)), .bool (A.V i).isSome]) ∧ Keeps Nob w w' := by
 rcases H.a.none_or i with ⟨hv, hs⟩ | ⟨a, p, hv, hs, hp, _, _, _, ha⟩
 ·rw [hv]; exact qAt_no r v A B i w H hs
 ·rw [hv]; exact qAt_yes r v A B i a p w H ha hs hp
noncomputable def qc26_1 (n : Nat) : Code := partOf Tryz.f52 n
theorem qBlock_no (r : Nat) (v : Int) (A : RD Att) (B : RD Pro) (i : Int) (w : World) (H : RecAt w r v A B) (hs : slotOf B i = none) :
  Calls Tryz.prog 52 #[pT r 0, .int .i64 i] w (fun e w' => e = .returned (.tuple #[.agg (Pro.c zPro), .bool false]) ∧ Keeps Nob w w') := by
 have K0 : Keeps Nob w w := Keeps.refl _ _
 refine se_ (qc26_1 1) ⟨fr [pT r 0, .int .i64 i] 24, []⟩ Tryz.func52 <| qr_ [0, 1] <| pal 37 (#[.int .i64 0, .int .i64 0, .int .u8 0, .int .u8 0, .int .u8 0, .int .u8 0, .int .u8 0, .int .u8 0, .int .u8 0, .int .u8 0, .int .u8 0, .int .u8 0, .int .u8 0, .int .u8 0, .int .u8 0, .int .u8 0, .int .u8 0, .int .u8 0, .int .u8 0, .int .u8 0, .int .u8 0, .int .u8 0, .int .u8 0, .int .u8 0, .int .u8 0, .int .u8 0, .int .u8 0, .int .u8 0, .int .u8 0, .int .u8 0, .int .u8 0, .int .u8 0, .int .u8 0, .int .u8 0, .int .u64 0]) (.agg (#[.int .i64 0, .int .i64 0, .int .u8 0, .int .u8 0, .int .u8 0, .int .u8 0, .int .u8 0, .int .u8 0, .int .u8 0, .int .u8 0, .int .u8 0, .int .u8 0, .int .u8 0, .int .u8 0, .int .u8 0, .int .u8 0, .int .u8 0, .int .u8 0, .int .u8 0, .int .u8 0, .int .u8 0, .int .u8 0, .int .u8 0, .int .u8 0, .int .u8 0, .int .u8 0, .int .u8 0, .int .u8 0, .int .u8 0, .int .u8 0, .int .u8 0, .int .u8 0, .int .u8 0, .int .u8 0, .int .u64 0])) fun V1 g eg h2 kV1 => ?_
 have n3 : r < g := eg ▸ lt_of_block H.rec_
 have n4 := nk eg K0
 have h5 := kV1.bk H.rec_
 have K6 := K0.nn kV1
 have z7 := kV1.size
 refine kk 1 <| eq_ <| qr_ nl11_ <| kk 1 ?_
 refine pcq 72 #[pT r 0] Tryz.func72 ((qnone_rec r v A B _ (H.keepsN K6)).mono ?_)
 rintro e w1 ⟨rfl, rfl⟩
 refine ⟨_, rfl, ?_⟩
 refine kk 4 <| ppq _ (lk h5) <| kk 1 ?_
 refine pcr 98 #[pT B.g 0, .int .i64 i] Tryz.func98 (gatB_none _ _ (H.keepsN K6).b hs) fun V8 kV8 => ?_
 have ⟨K11, z12, h10⟩ := kV8.z1 K6 h2
 refine kk 2 <| ey_ <| qr_ [0, 1, 2] <| kk 1 <| pst 37 g ((Pro.c zPro)) h10 (by rw [Pro.c_size _ zPro_ok.r]; kernel_rfl) (by rw [Pro.c_size _ zPro_ok.r]; rfl) (Pro.c_one _) fun V13 h14 kV13 => ?_
 have K16 := K11.nO kV13
 have z17 := kV13.size
 refine kk 1 <| eu_ <| then_r <| sy_out (.tuple #[.agg (Pro.c zPro), .bool false]) rfl (rrt 37 g h14 Tryz.underlying37 (by rw [Pro.c_size _ zPro_ok.r]; kernel_rfl)) ?_
 exact ⟨rfl, K16⟩
theorem qBlock_yes (r : Nat) (v : Int) (A : RD Att) (B : RD Pro) (i : Int) (a : Pro) (p : Nat) (w : World) (H : RecAt w r v A B) (ha : a.Ok) (hs : slotOf B i = some p) (hp : HP w p (Pro.c a) 37) :
  Calls Tryz.prog 52 #[pT r 0, .int .i64 i] w (fun e w' => e = .returned (.tuple #[.agg (Pro.c a), .bool true]) ∧ Keeps Nob w w') := by
 have K0 : Keeps Nob w w := Keeps.refl _ _
 refine se_ (qc26_1 1) ⟨fr [pT r 0, .int .i64 i] 24, []⟩ Tryz.func52 <| qr_ [0, 1] <| pal 37 (#[.int .i64 0, .int .i64 0, .int .u8 0, .int .u8 0, .int .u8 0, .int .u8 0, .int .u8 0, .int .u8 0, .int .u8 0, .int .u8 0, .int .u8 0, .int .u8 0, .int .u8 0, .int .u8 0, .int .u8 0, .int .u8 0, .int .u8 0, .int .u8 0, .int .u8 0, .int .u8 0, .int .u8 0, .int .u8 0, .int .u8 0, .int .u8 0, .int .u8 0, .int .u8 0, .int .u8 0, .int .u8 0, .int .u8 0, .int .u8 0, .int .u8 0, .int .u8 0, .int .u8 0, .int .u8 0, .int .u64 0]) (.agg (#[.int .i64 0, .int .i64 0, .int .u8 0, .int .u8 0, .int .u8 0, .int .u8 0, .int .u8 0, .int .u8 0, .int .u8 0, .int .u8 0, .int .u8 0, .int .u8 0, .int .u8 0, .int .u8 0, .int .u8 0, .int .u8 0, .int .u8 0, .int .u8 0, .int .u8 0, .int .u8 0, .int .u8 0, .int .u8 0, .int .u8 0, .int .u8 0, .int .u8 0, .int .u8 0, .int .u8 0, .int .u8 0, .int .u8 0, .int .u8 0, .int .u8 0, .int .u8 0, .int .u8 0, .int .u8 0, .int .u64 0])) fun V18 g eg h19 kV18 => ?_
 have n20 : r < g := eg ▸ lt_of_block H.rec_
 have n21 := nl eg hp
 have n22 := nk eg K0
 have h23 := kV18.bk H.rec_
 have ⟨K25, z26, h24⟩ := kV18.z1 K0 hp
 refine kk 1 <| eq_ <| qr_ nl11_ <| kk 1 ?_
 refine pcq 72 #[pT r 0] Tryz.func72 ((qnone_rec r v A B _ (H.keepsN K25)).mono ?_)
 rintro e w1 ⟨rfl, rfl⟩
 refine ⟨_, rfl, ?_⟩
 refine kk 4 <| ppq _ (lk h23) <| kk 1 ?_
 refine pcr 98 #[pT B.g 0, .int .i64 i] Tryz.func98 (gatB_some _ p _ (H.keepsN K25).b hs) fun V27 kV27 => ?_
 have ⟨K31, z32, h28, h29, h30⟩ := kV27.z3 K25 h23 h24 h19
 refine kk 2 <| en_ <| s_ <| tqr_ nl10_ <| kk 3 <| ppq _ (lk h28) <| kk 1 ?_
 refine pcr 98 #[pT B.g 0, .int .i64 i] Tryz.func98 (gatB_some _ p _ (H.keepsN K31).b hs) fun V33 kV33 => ?_
 have ⟨K37, z38, h35, h36⟩ := kV33.z2 K31 h29 h30
 refine kk 1 <| ppq _ (ldr 37 p (h35) (by rw [Pro.c_size _ ha.r]; kernel_rfl)) <| pst 37 g ((Pro.c a)) h36 (by rw [Pro.c_size _ ha.r]; kernel_rfl) (by rw [Pro.c_size _ ha.r]; rfl) (Pro.c_one _) fun V39 h40 kV39 => ?_
 have K43 := K37.nO kV39
 have z44 := kV39.size
 refine kk 1 <| eu_ <| sy_out (.tuple #[.agg (Pro.c a), .bool true]) rfl (rrt 37 g h40 Tryz.underlying37 (by rw [Pro.c_size _ ha.r]; kernel_rfl)) ?_
 exact ⟨rfl, K43⟩
theorem qBlock_ok (r : Nat) (v : Int) (A : RD Att) (B : RD Pro) (i : Int) (w : World) (H : RecAt w r v A B) : Calls Tryz.prog 52 #[pT r 0, .int .i64 i] w fun e w' => e = .returned (.tuple #[.agg (Pro.c ((B.V i).getD zPro)), .bool (B.V i).isSome]) ∧ Keeps Nob w w' := by
 rcases H.b.none_or i with ⟨hv, hs⟩ | ⟨a, p, hv, hs, hp, _, _, _, ha⟩
 ·rw [hv]; exact qBlock_no r v A B i w H hs
 ·rw [hv]; exact qBlock_yes r v A B i a p w H ha hs hp
noncomputable def qc26_7 (n : Nat) : Code := partOf Tryz.f91 n
theorem qNew_fine (v : Int) (win blk : Nat) (w : World) (g0 : ¬ v < 0) (g1 : ¬ v ≥ 32) (g2 : ¬ win < 1) (g3 : ¬ win > 256) (g4 : ¬ blk < 1) (g5 : ¬ blk > 256000) :
  Calls Tryz.prog 91 #[.int .i64 v, .int .i64 ((win : Nat) : Int), .int .i64 ((blk : Nat) : Int)] w (fun e w' => ∃ r A B, e = .returned (.tuple #[pT r 0, .int .i64 0]) ∧ RecAt w' r v A B ∧ A.low = 0 ∧ A.n = win ∧ A.V = (fun _ => none) ∧ B.low = 1 ∧ B.n = blk ∧ B.V = (fun _ => none) ∧ (∀ j, FR A B j → w.heap.size ≤ j) ∧ w.heap.size ≤ r ∧ Keeps Nob w w') := by
 have K0 : Keeps Nob w w := Keeps.refl _ _
 refine se_ (qc26_7 1) ⟨fr [.int .i64 v, iN win, iN blk] 38, []⟩ Tryz.func91 <| qr_ [0, 1] <| kk 2 <| eq_ <| qr_ nl22_ <| kk 1 <| ppq _ (dcf (((v) : Int) < ((0) : Int)) (by omega)) <| kk 2 <| ppq _ (dcf (((v) : Int) ≥ ((32) : Int)) (by omega)) <| kk 3 ?_
 refine ppq _ (dcf ((((win : Nat) : Int)) < ((1) : Int)) (by omega)) <| kk 3 <| ppq _ (dcf ((((win : Nat) : Int)) > ((256) : Int)) (by omega)) <| kk 3 <| ppq _ (dcf ((((blk : Nat) : Int)) < ((1) : Int)) (by omega)) <| kk 3 <| ppq _ (dcf ((((blk : Nat) : Int)) > ((256000) : Int)) (by omega)) <| kk 1 ?_
 refine ps_end <| then_n <| n_ <| s_ <| tqr_ [0] <| kk 1 <| eqr_ [0] <| kk 1 <| eqr_ nl11_ <| kk 3 ?_
 refine pcq 126 #[iN win, .int .i64 0, .func (.func 124) #[] #[]] Tryz.func126 ((gmade_ok win 0 _ (by omega) (by omega) (by omega)).mono ?_)
 rintro e V1 ⟨ga, sa, rfl, hra, nga, nsa, kV1⟩
 have mga : w.heap.size ≤ ga := Nat.le_trans K0.size nga
 have msa : w.heap.size ≤ sa := Nat.le_trans K0.size nsa
 refine ⟨_, rfl, ?_⟩
 have K2 := K0.nn kV1
 have z3 := kV1.size
 refine kk 2 ?_
 refine pcq 127 #[iN blk, .int .i64 1, .func (.func 125) #[] #[]] Tryz.func127 ((gmadeB_ok blk 1 _ (by omega) (by omega) (by omega)).mono ?_)
 rintro e V4 ⟨gb, sb, rfl, hrb, ngb, nsb, kV4⟩
 have mgb : w.heap.size ≤ gb := Nat.le_trans K2.size ngb
 have msb : w.heap.size ≤ sb := Nat.le_trans K2.size nsb
 refine ⟨_, rfl, ?_⟩
 have h5 : RingA V4 ⟨ga, sa, 0, win, win, fun _ => none, fun _ => none, []⟩ := hra.keepsN kV4
 have K6 := K2.nn kV4
 have z7 := kV4.size
 refine kk 1 <| pbx 122 (#[.int .i64 v, pT ga 0, pT gb 0]) (.agg #[.int .i64 v, pT ga 0, pT gb 0]) fun V8 r er h9 kV8 => ?_
 have n10 := nk er K6
 have h11 : RingA V8 ⟨ga, sa, 0, win, win, fun _ => none, fun _ => none, []⟩ := h5.keepsN kV8
 have h12 : RingB V8 ⟨gb, sb, 1, blk, blk, fun _ => none, fun _ => none, []⟩ := hrb.keepsN kV8
 have K13 := K6.nn kV8
 have z14 := kV8.size
 refine kk 2 <| eu_ <| so_ (.tuple #[pT r 0, .int .i64 0]) ?_
 exact ⟨r, ⟨ga, sa, 0, win, win, fun _ => none, fun _ => none, []⟩, ⟨gb, sb, 1, blk, blk, fun _ => none, fun _ => none, []⟩, rfl, ⟨h9, h11, h12⟩, rfl, rfl, rfl, rfl, rfl, rfl, fun j hj => by rcases hj with rfl | rfl | rfl | rfl <;> assumption, by omega, K13⟩
noncomputable def qc26_3 (n : Nat) : Code := partOf Tryz.f77 n
theorem qMove_bad0 (r : Nat) (v : Int) (A : RD Att) (B : RD Pro) (l f : Int) (w : World) (H : RecAt w r v A B) (g0 : l < 0) :
  Calls Tryz.prog 77 #[pT r 0, .int .i64 l, .int .i64 f] w (fun e w' => e = .returned (.int .i64 3) ∧ Keeps Nob w w') := by
 have K0 : Keeps Nob w w := Keeps.refl _ _
 refine se_ (qc26_3 1) ⟨fr [pT r 0, .int .i64 l, .int .i64 f] 55, []⟩ Tryz.func77 <| qr_ [0] <| kk 1 <| eq_ <| bl_ 0 <| qr_ [0, 1, 2] <| kk 1 ?_
 refine pcq 72 #[pT r 0] Tryz.func72 ((qnone_rec r v A B _ H).mono ?_)
 rintro e w1 ⟨rfl, rfl⟩
 refine ⟨_, rfl, ?_⟩
 refine kk 1 <| en_ <| qr_ nl15_ <| kk 1 <| ppq _ (dct (((l) : Int) < ((0) : Int)) (by omega)) <| kk 9 ?_
 refine kk 4 <| ey_ <| qr_ [0] <| kk 1 <| eu_ <| blk_r <| then_r <| so_ (.int .i64 3) ?_
 exact ⟨rfl, K0⟩
theorem qMove_bad1 (r : Nat) (v : Int) (A : RD Att) (B : RD Pro) (l f : Int) (w : World) (H : RecAt w r v A B) (g0 : ¬ l < 0) (g1 : l > 4294967296) :
  Calls Tryz.prog 77 #[pT r 0, .int .i64 l, .int .i64 f] w (fun e w' => e = .returned (.int .i64 3) ∧ Keeps Nob w w') := by
 have K0 : Keeps Nob w w := Keeps.refl _ _
 refine se_ (qc26_3 1) ⟨fr [pT r 0, .int .i64 l, .int .i64 f] 55, []⟩ Tryz.func77 <| qr_ [0] <| kk 1 <| eq_ <| bl_ 0 <| qr_ [0, 1, 2] <| kk 1 ?_
 refine pcq 72 #[pT r 0] Tryz.func72 ((qnone_rec r v A B _ H).mono ?_)
 rintro e w1 ⟨rfl, rfl⟩
 refine ⟨_, rfl, ?_⟩
 refine kk 1 <| en_ <| qr_ nl15_ <| kk 1 <| ppq _ (dcf (((l) : Int) < ((0) : Int)) (by omega)) <| kk 2 <| ppq _ (dct (((l) : Int) > ((4294967296) : Int)) (by omega)) <| kk 6 ?_
 refine kk 4 <| ey_ <| qr_ [0] <| kk 1 <| eu_ <| blk_r <| then_r <| so_ (.int .i64 3) ?_
 exact ⟨rfl, K0⟩
theorem qMove_bad2 (r : Nat) (v : Int) (A : RD Att) (B : RD Pro) (l f : Int) (w : World) (H : RecAt w r v A B) (g0 : ¬ l < 0) (g1 : ¬ l > 4294967296) (g2 : f < 1) :
  Calls Tryz.prog 77 #[pT r 0, .int .i64 l, .int .i64 f] w (fun e w' => e = .returned (.int .i64 3) ∧ Keeps Nob w w') := by
 have K0 : Keeps Nob w w := Keeps.refl _ _
 refine se_ (qc26_3 1) ⟨fr [pT r 0, .int .i64 l, .int .i64 f] 55, []⟩ Tryz.func77 <| qr_ [0] <| kk 1 <| eq_ <| bl_ 0 <| qr_ [0, 1, 2] <| kk 1 ?_
 refine pcq 72 #[pT r 0] Tryz.func72 ((qnone_rec r v A B _ H).mono ?_)
 rintro e w1 ⟨rfl, rfl⟩
 refine ⟨_, rfl, ?_⟩
 refine kk 1 <| en_ <| qr_ nl15_ <| kk 1 <| ppq _ (dcf (((l) : Int) < ((0) : Int)) (by omega)) <| kk 2 <| ppq _ (dcf (((l) : Int) > ((4294967296) : Int)) (by omega)) <| kk 3 <| ppq _ (dct (((f) : Int) < ((1) : Int)) (by omega)) <| kk 2 ?_
 refine kk 4 <| ey_ <| qr_ [0] <| kk 1 <| eu_ <| blk_r <| then_r <| so_ (.int .i64 3) ?_
 exact ⟨rfl, K0⟩
theorem qMove_bad3 (r : Nat) (v : Int) (A : RD Att) (B : RD Pro) (l f : Int) (w : World) (H : RecAt w r v A B) (g0 : ¬ l < 0) (g1 : ¬ l > 4294967296) (g2 : ¬ f < 1) (g3 : f > 4294967296) :
  Calls Tryz.prog 77 #[pT r 0, .int .i64 l, .int .i64 f] w (fun e w' => e = .returned (.int .i64 3) ∧ Keeps Nob w w') := by
 have K0 : Keeps Nob w w := Keeps.refl _ _
 refine se_ (qc26_3 1) ⟨fr [pT r 0, .int .i64 l, .int .i64 f] 55, []⟩ Tryz.func77 <| qr_ [0] <| kk 1 <| eq_ <| bl_ 0 <| qr_ [0, 1, 2] <| kk 1 ?_
 refine pcq 72 #[pT r 0] Tryz.func72 ((qnone_rec r v A B _ H).mono ?_)
 rintro e w1 ⟨rfl, rfl⟩
 refine ⟨_, rfl, ?_⟩
 refine kk 1 <| en_ <| qr_ nl15_ <| kk 1 <| ppq _ (dcf (((l) : Int) < ((0) : Int)) (by omega)) <| kk 2 <| ppq _ (dcf (((l) : Int) > ((4294967296) : Int)) (by omega)) <| kk 3 <| ppq _ (dcf (((f) : Int) < ((1) : Int)) (by omega)) <| kk 2 ?_
 refine kk 1 <| ppq _ (dct (((f) : Int) > ((4294967296) : Int)) (by omega)) <| kk 2 <| ey_ <| qr_ [0] <| kk 1 <| eu_ <| blk_r <| then_r <| so_ (.int .i64 3) ?_
 exact ⟨rfl, K0⟩
theorem qMove_ord1 (r : Nat) (v : Int) (A : RD Att) (B : RD Pro) (l f : Int) (w : World) (H : RecAt w r v A B) (g0 : ¬ l < 0) (g1 : ¬ l > 4294967296) (g2 : ¬ f < 1) (g3 : ¬ f > 4294967296) (q1 : l < (A.low : Int)) :
  Calls Tryz.prog 77 #[pT r 0, .int .i64 l, .int .i64 f] w (fun e w' => e = .returned (.int .i64 9) ∧ Keeps Nob w w') := by
 have K0 : Keeps Nob w w := Keeps.refl _ _
 refine se_ (qc26_3 1) ⟨fr [pT r 0, .int .i64 l, .int .i64 f] 55, []⟩ Tryz.func77 <| qr_ [0] <| kk 1 <| eq_ <| bl_ 0 <| qr_ [0, 1, 2] <| kk 1 ?_
 refine pcq 72 #[pT r 0] Tryz.func72 ((qnone_rec r v A B _ H).mono ?_)
 rintro e w1 ⟨rfl, rfl⟩
 refine ⟨_, rfl, ?_⟩
 refine kk 1 <| en_ <| qr_ nl15_ <| kk 1 <| ppq _ (dcf (((l) : Int) < ((0) : Int)) (by omega)) <| kk 2 <| ppq _ (dcf (((l) : Int) > ((4294967296) : Int)) (by omega)) <| kk 3 <| ppq _ (dcf (((f) : Int) < ((1) : Int)) (by omega)) <| kk 2 ?_
 refine kk 1 <| ppq _ (dcf (((f) : Int) > ((4294967296) : Int)) (by omega)) <| kk 2 <| en_ <| qr_ nl21_ <| kk 4 <| ppq _ (lk (H.rec_)) <| kk 2 <| ppq _ (lk (H.a.ring)) ?_
 refine ppq _ (dct (((l) : Int) < (((A.low : Nat) : Int))) (by omega)) <| kk 12 <| ps_end ?_
 refine then_n <| y_ <| qr_ [0] <| kk 1 <| eu_ <| blk_r <| then_r <| so_ (.int .i64 9) ?_
 exact ⟨rfl, K0⟩
theorem qMove_ord2 (r : Nat) (v : Int) (A : RD Att) (B : RD Pro) (l f : Int) (w : World) (H : RecAt w r v A B) (g0 : ¬ l < 0) (g1 : ¬ l > 4294967296) (g2 : ¬ f < 1) (g3 : ¬ f > 4294967296) (q1 : ¬ l < (A.low : Int)) (q2 : f < (B.low : Int)) :
  Calls Tryz.prog 77 #[pT r 0, .int .i64 l, .int .i64 f] w (fun e w' => e = .returned (.int .i64 9) ∧ Keeps Nob w w') := by
 have K0 : Keeps Nob w w := Keeps.refl _ _
 refine se_ (qc26_3 1) ⟨fr [pT r 0, .int .i64 l, .int .i64 f] 55, []⟩ Tryz.func77 <| qr_ [0] <| kk 1 <| eq_ <| bl_ 0 <| qr_ [0, 1, 2] <| kk 1 ?_
 refine pcq 72 #[pT r 0] Tryz.func72 ((qnone_rec r v A B _ H).mono ?_)
 rintro e w1 ⟨rfl, rfl⟩
 refine ⟨_, rfl, ?_⟩
 refine kk 1 <| en_ <| qr_ nl15_ <| kk 1 <| ppq _ (dcf (((l) : Int) < ((0) : Int)) (by omega)) <| kk 2 <| ppq _ (dcf (((l) : Int) > ((4294967296) : Int)) (by omega)) <| kk 3 <| ppq _ (dcf (((f) : Int) < ((1) : Int)) (by omega)) <| kk 2 ?_
 refine kk 1 <| ppq _ (dcf (((f) : Int) > ((4294967296) : Int)) (by omega)) <| kk 2 <| en_ <| qr_ nl21_ <| kk 4 <| ppq _ (lk (H.rec_)) <| kk 2 <| ppq _ (lk (H.a.ring)) ?_
 refine ppq _ (dcf (((l) : Int) < (((A.low : Nat) : Int))) (by omega)) <| kk 5 <| ppq _ (lk (H.rec_)) <| kk 2 <| ppq _ (lk (H.b.ring)) <| ppq _ (dct (((f) : Int) < (((B.low : Nat) : Int))) (by omega)) <| kk 2 <| ps_end ?_
 refine then_n <| y_ <| qr_ [0] <| kk 1 <| eu_ <| blk_r <| then_r <| so_ (.int .i64 9) ?_
 exact ⟨rfl, K0⟩
theorem qMove_fine (r : Nat) (v : Int) (A : RD Att) (B : RD Pro) (l f : Nat) (w : World) (H : RecAt w r v A B) (g1 : ¬ l > 4294967296) (g2 : ¬ f < 1) (g3 : ¬ f > 4294967296) (q1 : A.low ≤ l) (q2 : B.low ≤ f) :
  Calls Tryz.prog 77 #[pT r 0, .int .i64 ((l : Nat) : Int), .int .i64 ((f : Nat) : Int)] w (fun e w' => e = .returned (.int .i64 0) ∧ ∃ S1 S2, RecAt w' r v { A with low := l, V := mvV A.V ((l : Nat) : Int), S := S1 } { B with low := f, V := mvV B.V ((f : Nat) : Int), S := S2 } ∧ Keeps (FR A B) w w') := by
 have K0 : Keeps ((FR A B)) w w := Keeps.refl _ _
 refine se_ (qc26_3 1) ⟨fr [pT r 0, iN l, iN f] 55, []⟩ Tryz.func77 <| qr_ [0] <| kk 1 <| eq_ <| bl_ 0 <| qr_ [0, 1, 2] <| kk 1 ?_
 refine pcq 72 #[pT r 0] Tryz.func72 ((qnone_rec r v A B _ H).mono ?_)
 rintro e w1 ⟨rfl, rfl⟩
 refine ⟨_, rfl, ?_⟩
 refine kk 1 <| en_ <| qr_ nl15_ <| kk 1 <| ppq _ (dcf ((((l : Nat) : Int)) < ((0) : Int)) (by omega)) <| kk 2 <| ppq _ (dcf ((((l : Nat) : Int)) > ((4294967296) : Int)) (by omega)) <| kk 3 <| ppq _ (dcf ((((f : Nat) : Int)) < ((1) : Int)) (by omega)) <| kk 2 ?_
 refine kk 1 <| ppq _ (dcf ((((f : Nat) : Int)) > ((4294967296) : Int)) (by omega)) <| kk 2 <| en_ <| qr_ nl21_ <| kk 4 <| ppq _ (lk (H.rec_)) <| kk 2 <| ppq _ (lk (H.a.ring)) ?_
 refine ppq _ (dcf ((((l : Nat) : Int)) < (((A.low : Nat) : Int))) (by omega)) <| kk 5 <| ppq _ (lk (H.rec_)) <| kk 2 <| ppq _ (lk (H.b.ring)) <| ppq _ (dcf ((((f : Nat) : Int)) < (((B.low : Nat) : Int))) (by omega)) <| kk 2 <| ps_end ?_
 refine then_n <| n_ <| s_ <| blk_n <| tqr_ nl6_ <| kk 3 <| ppq _ (lk (H.rec_)) <| kk 1 ?_
 have Hp := H
 have nr_ : r ≠ A.g ∧ r ≠ A.s := ⟨fun e => Odd.one Hp.a.ring (by decide) _ _ _ e H.rec_, fun e => Odd.one Hp.a.slots (by decide) _ _ _ e H.rec_⟩
 refine pcq 116 #[pT A.g 0, iN l] Tryz.func116 ((gmove_ok A l _ Hp.a (by omega) (by omega)).mono ?_)
 rintro e V1 ⟨rfl, S1, hr1, kV1⟩
 have hm1 := RecAt.moveA Hp hr1 rfl kV1
 refine ⟨_, rfl, ?_⟩
 have h2 : HP V1 r (#[.int .i64 v, pT A.g 0, pT B.g 0]) 122 := (kV1.block r (lt_of_block H.rec_) (fun e => (by rcases e with e | e; exact nr_.1 e; exact nr_.2 e))).trans H.rec_
 have K3 : Keeps ((FR A B)) w V1 := K0.then kV1 (fun i hi hm => by rcases hm with h | h; exact .inl h; exact .inr (.inl h))
 have z4 := kV1.size
 refine eqr_ nl6_ <| kk 3 <| ppq _ (lk h2) <| kk 1 ?_
 have Hq := hm1
 have nq_ : r ≠ B.g ∧ r ≠ B.s := ⟨fun e => Odd.one Hq.b.ring (by decide) _ _ _ e h2, fun e => Odd.one Hq.b.slots (by decide) _ _ _ e h2⟩
 refine pcq 117 #[pT B.g 0, iN f] Tryz.func117 ((gmoveB_ok B f _ Hq.b (by omega) (by omega)).mono ?_)
 rintro e V5 ⟨rfl, S2, hr2, kV5⟩
 have hm2 := RecAt.moveB Hq hr2 rfl kV5
 refine ⟨_, rfl, ?_⟩
 have K7 : Keeps ((FR A B)) w V5 := K3.then kV5 (fun i hi hm => by rcases hm with h | h; exact .inr (.inr (.inl h)); exact .inr (.inr (.inr h)))
 have z8 := kV5.size
 refine eqr_ [0] <| kk 1 <| eu_ <| so_ (.int .i64 0) ?_
 exact ⟨rfl, S1, S2, hm2, K7⟩
def qMoveErr (A : RD Att) (B : RD Pro) (l f : Int) : Int := if l < 0 ∨ l > 4294967296 ∨ f < 1 ∨ f > 4294967296 then 3 else if l < (A.low : Int) ∨ f < (B.low : Int) then 9 else 0
theorem qMove_ok (r : Nat) (v : Int) (A : RD Att) (B : RD Pro) (l f : Int) (w : World) (H : RecAt w r v A B) : Calls Tryz.prog 77 #[pT r 0, .int .i64 l, .int .i64 f] w fun e w' => e = .returned (.int .i64 (qMoveErr A B l f)) ∧ (qMoveErr A B l f ≠ 0 → RecAt w' r v A B) ∧
  (qMoveErr A B l f = 0 → ∃ S1 S2, RecAt w' r v { A with low := l.toNat, V := mvV A.V l, S := S1 } { B with low := f.toNat, V := mvV B.V f, S := S2 }) ∧ Keeps (FR A B) w w' := by
 have nob : ∀ {w' : World}, Keeps Nob w w' → Keeps (FR A B) w w' := fun k => k.mono (fun _ _ x => x.elim)
 have bad : ∀ (x : Int), qMoveErr A B l f = x → x ≠ 0 → Calls Tryz.prog 77 #[pT r 0, .int .i64 l, .int .i64 f] w (fun e w' => e = .returned (.int .i64 x) ∧ Keeps Nob w w') → _ := fun x hx q0 hc =>
  show Calls Tryz.prog 77 #[pT r 0, .int .i64 l, .int .i64 f] w (fun e w' => e = .returned (.int .i64 (qMoveErr A B l f)) ∧ (qMoveErr A B l f ≠ 0 → RecAt w' r v A B) ∧ (qMoveErr A B l f = 0 → ∃ S1 S2, RecAt w' r v { A with low := l.toNat, V := mvV A.V l, S := S1 } { B with low := f.toNat, V := mvV B.V f, S := S2 }) ∧ Keeps (FR A B) w w') from
   hc.mono fun e w' ⟨he, k⟩ => ⟨hx ▸ he, fun _ => H.keepsN k, fun h => absurd (hx ▸ h) q0, nob k⟩
 by_cases g0 : l < 0
 ·exact bad 3 (by unfold qMoveErr; rw [if_pos (by omega)]) (by decide) (qMove_bad0 r v A B l f w H g0)
 by_cases g1 : l > 4294967296
 ·exact bad 3 (by unfold qMoveErr; rw [if_pos (by omega)]) (by decide) (qMove_bad1 r v A B l f w H g0 g1)
 by_cases g2 : f < 1
 ·exact bad 3 (by unfold qMoveErr; rw [if_pos (by omega)]) (by decide) (qMove_bad2 r v A B l f w H g0 g1 g2)
 by_cases g3 : f > 4294967296
 ·exact bad 3 (by unfold qMoveErr; rw [if_pos (by omega)]) (by decide) (qMove_bad3 r v A B l f w H g0 g1 g2 g3)
 by_cases q1 : l < (A.low : Int)
 ·exact bad 9 (by unfold qMoveErr; rw [if_neg (by omega), if_pos (by omega)]) (by decide) (qMove_ord1 r v A B l f w H g0 g1 g2 g3 q1)
 by_cases q2 : f < (B.low : Int)
 ·exact bad 9 (by unfold qMoveErr; rw [if_neg (by omega), if_pos (by omega)]) (by decide) (qMove_ord2 r v A B l f w H g0 g1 g2 g3 q1 q2)
 have q0 : qMoveErr A B l f = 0 := by unfold qMoveErr; rw [if_neg (by omega), if_neg (by omega)]
 obtain ⟨l, rfl⟩ : ∃ n : Nat, l = (n : Int) := ⟨l.toNat, by omega⟩
 obtain ⟨f, rfl⟩ : ∃ n : Nat, f = (n : Int) := ⟨f.toNat, by omega⟩
 rw [q0]
 exact (qMove_fine r v A B l f w H (by omega) (by omega) (by omega) (by omega) (by omega)).mono fun e w' ⟨he, S1, S2, hr, k⟩ => ⟨he, fun h => absurd rfl h, fun _ => ⟨S1, S2, hr⟩, k⟩
end
section
open Go Go.RowKit Go.Own Go.Shelf
theorem att_info0 : (Tryz.prog.info? 28).map (fun i => (i.zero, i.size, i.bytes)) = some (some (.agg zAtt.c), 36, 64) := by kernel_rfl
theorem pro_info0 : (Tryz.prog.info? 37).map (fun i => (i.zero, i.size, i.bytes)) = some (some (.agg zPro.c), 35, 56) := by kernel_rfl
theorem items_ok {α : Type} {ix : FuncId} {tr tp te : TypeId} {enc : α → Array Value} {key : α → Int} {ok : α → Prop} {w : World} {d : RD α} (h : Ring ix tr tp te enc key ok w d) : ∀ x ∈ items d.V d.low d.n, ok x := fun x hx => by
 obtain ⟨k, _, hv⟩ := mem_items.1 hx
 exact (h.out _ _ hv).2.2.2
theorem flat_take {α : Type} (c : α → List Value) (xs : List α) (k : Nat) (x : α) (h : xs[k]? = some x) : (xs.take (k + 1)).flatMap c = (xs.take k).flatMap c ++ c x := by
 rw [List.take_add_one, h, List.flatMap_append]; simp
theorem src_att {w : World} {g : Nat} {x : Att} {T : TypeId} (ha : x.Ok) (h : HP w g x.c T) : SrcO w 36 (.slice (some ⟨g, 0, none⟩) 1 1) 1 x.cl :=
 ⟨by rw [Att.cl_len ha], Att.cl_one, .inr ⟨_, _, rfl, fun j u hj => by simp only [Addr.add_lit, Nat.zero_add]; exact rc h (by simpa [Att.cl] using hj)⟩⟩
theorem src_pro {w : World} {g : Nat} {x : Pro} {T : TypeId} (ha : x.Ok) (h : HP w g x.c T) : SrcO w 35 (.slice (some ⟨g, 0, none⟩) 1 1) 1 x.cl :=
 ⟨by rw [Pro.cl_len ha], Pro.cl_one, .inr ⟨_, _, rfl, fun j u hj => by simp only [Addr.add_lit, Nat.zero_add]; exact rc h (by simpa [Pro.cl] using hj)⟩⟩
noncomputable def qc27_3 (n : Nat) : Code := partOf Tryz.f39 n
noncomputable abbrev qo27_3 (n k : Nat) : Oper := (opsAt (qc27_3 n)).getD k default
theorem qAll_assign {l N : Nat} {u0 u1 u2 u3 u4 u5 u6 u7 u8 u9 u10 u11 u12 u14 u15 u16 u17 u18 : Value} (x : Att) (hx : x.Ok) (w : World) (Q : Exit → Act → World → Prop) (hL : ¬ LetsOut Q) (hQ : ∀ (b : Nat) (W : World), HP W b (Att.c x) 28 → w.heap.size ≤ b → Keeps Nob w W → Q .normal ⟨#[u0, u1, u2, u3, pT b 0, u5, u6, u7, u8, u9, u10, u11, u12, .agg (Att.c x), u14, u15, u16, u17, u18], []⟩ W) :
  (qc27_3 244).wpIn (Fence.wide.inRound l) N Tryz.prog Q ⟨#[u0, u1, u2, u3, u4, u5, u6, u7, u8, u9, u10, u11, u12, .agg (Att.c x), u14, u15, u16, u17, u18], []⟩ w := by
 have K0 : Keeps Nob w w := Keeps.refl _ _
 refine syI_reg (by kernel_rfl) (fun ⟨a, w, h⟩ => hL ⟨a, w, h⟩) <| rg_plain 5 (opsAt (qc27_3 244)) [0, 1] (by kernel_rfl) (by kernel_rfl) <| pal 28 (zl1_) (.agg (zl1_)) fun V1 b eb h2 kV1 => ?_
 have n3 := nk eb K0
 have K4 := K0.nn kV1
 have z5 := kV1.size
 refine pst 28 b ((Att.c x)) h2 (by rw [Att.c_size _ hx.r]; kernel_rfl) (by rw [Att.c_size _ hx.r]; rfl) (Att.c_one _) fun V6 h7 kV6 => ?_
 have K8 := K4.nO kV6
 have z9 := kV6.size
 refine ps_end <| sy_a ⟨#[u0, u1, u2, u3, pT b 0, u5, u6, u7, u8, u9, u10, u11, u12, .agg (Att.c x), u14, u15, u16, u17, u18], []⟩ ?_
 exact hQ b _ h7 (by omega) K8
theorem qAll_body {l N : Nat} {u0 u1 u2 u5 u6 u7 u8 u9 u10 u11 u12 u13 u14 u15 u16 u17 u18 : Value} (x : Att) (hx : x.Ok) (o b k B0 : Nat) (v : Value) (xs : List Value) (hk : k ≤ 256000) (w : World) (Q : Exit → Act → World → Prop) (hL : ¬ LetsOut Q) (ho : HP w o #[v] 32) (hb : HP w b (Att.c x) 28) (hrow : Row w 28 36 v k xs) (hnew : NewFrom B0 v) (hB0 : B0 ≤ w.heap.size) (hQ : ∀ (a : Act) (W : World) (v' : Value), HP W o #[v'] 32 → Row W 28 36 v' (k + 1) (xs ++ Att.cl x) → NewFrom B0 v' → KeepsOthers w W → Keeps (fun j => j = o ∨ Value.ownBlock v = some j) w W → Q .normal a W) :
  (qc27_3 245).wpIn (Fence.wide.inRound l) N Tryz.prog Q ⟨#[u0, u1, u2, pT o 0, pT b 0, u5, u6, u7, u8, u9, u10, u11, u12, u13, u14, u15, u16, u17, u18], []⟩ w := by
 obtain ⟨i0, hi0, hz0, hz1, hz2⟩ := info_parts att_info0
 have lto := lt_of_block ho
 have ltb := lt_of_block hb
 have hnro := Row.ne hrow ho (by decide)
 have K0 : Keeps ((fun j => j = o ∨ Value.ownBlock v = some j)) w w := Keeps.refl _ _
 refine syI_block 1 (qc27_3 490) (by kernel_rfl) <| syI_reg (by kernel_rfl) (fun ⟨a, w, h⟩ => hL ⟨a, w, h⟩) <| rg_plain 6 (opsAt (qc27_3 490)) nl5_ (by kernel_rfl) (by kernel_rfl) <| ppq _ (lk ho) <| ppq _ (ldr 28 b (hb) (by rw [Att.c_size _ hx.r]; kernel_rfl)) ?_
 obtain ⟨V10, eV10, lit, elit, h11, kV10⟩ := alloc_step w (Att.c x) 28
 refine prq (.slice (some ⟨lit, 0, none⟩) 1 1) (w' := V10) (by rw [← eV10, ← elit]; exact exec_build1 32 28 (.tmp 15) (by kernel_rfl) (.agg (Att.c x)) (by kernel_rfl) i0 _ Tryz.underlying32 hi0 hz0 36 hz1 (by decide) (by decide) (Att.c_size x hx.r)) ?_
 clear eV10
 have h12 := kV10.bk ho
 have h14 : Row V10 28 36 v k xs := hrow.keeps kV10 (fun _ _ x => x)
 have h15 : KeepsOthers w V10 := (KeepsOthers.refl w).trans kV10.others0
 have K16 := K0.nn kV10
 have z17 := kV10.size
 obtain ⟨v18, V19, hr20, h21, hg22, hn23, ha24⟩ := run_append_any (P := Tryz.prog) (w := V10) 32 (Oper.type (qo27_3 490 3)) 28 i0 (.agg zAtt.c) 36 64 Tryz.underlying32 hi0 hz0 hz1 hz2 rfl (by decide) v k xs h14 (.slice (some ⟨lit, 0, none⟩) 1 1) 1 (Att.cl x) (src_att hx h11) (by unfold maxLen; omega) (by omega)
 obtain ⟨gS, cS, rfl, _⟩ := Row.spell h21 (by omega)
 have kV19 : Keeps (fun j => v.ownBlock = some j) V10 V19 := Keeps.rowAdd hg22
 have hw25 : NewFrom B0 (.slice (some ⟨gS, 0, none⟩) (k + 1) cS) := hnew.next (Nat.le_trans hB0 K16.size) ha24
 refine prq (.slice (some ⟨gS, 0, none⟩) (k + 1) cS) (w' := V19) (exec_append (.tmp 14) (.tmp 16) 32 (by kernel_rfl) v (.slice (some ⟨lit, 0, none⟩) 1 1) (by kernel_rfl) (by kernel_rfl) hr20) ?_
 have h26 : Row V19 28 36 (.slice (some ⟨gS, 0, none⟩) (k + 1) cS) (k + 1) (xs ++ (Att.cl x)) := h21
 have h27 : HP V19 o #[v] 32 := (kV19.block o (lt_of_block h12) (fun e => Row.ne h14 h12 (by decide) e)).trans h12
 have h28 : KeepsOthers w V19 := h15.trans (kV19.othersR h14)
 have K29 : Keeps ((fun j => j = o ∨ Value.ownBlock v = some j)) w V19 := K16.then kV19 (fun i hi hm => .inr hm)
 have z30 := kV19.size
 refine pce 32 o 0 (.slice (some ⟨gS, 0, none⟩) (k + 1) cS) (#[.slice (some ⟨gS, 0, none⟩) (k + 1) cS]) h27 (rc (h27) (by kernel_rfl)) (by kernel_rfl) (u := v) fun V31 h32 kV31 => ?_
 have h33 : KeepsOthers w V31 := h28.trans (kV31.others1 h27)
 have h34 : Row V31 28 36 (.slice (some ⟨gS, 0, none⟩) (k + 1) cS) (k + 1) (xs ++ (Att.cl x)) := h26.keeps kV31 (fun j hj e => Row.ne h26 h27 (by decide) ((show j = o from e) ▸ hj))
 have K35 : Keeps ((fun j => j = o ∨ Value.ownBlock v = some j)) w V31 := K29.then kV31 (fun i hi hm => .inl hm)
 have z36 := kV31.size
 refine ps_end <| blk_n ?_
 exact hQ _ _ _ h32 h34 hw25 h33 K35
theorem qAll_ok (r : Nat) (v : Int) (A : RD Att) (B : RD Pro) (w : World) (H : RecAt w r v A B) :
  Calls Tryz.prog 39 #[pT r 0] w (fun e w' => ∃ v, e = .returned v ∧ Row w' 28 36 v (items A.V A.low A.n).length ((items A.V A.low A.n).flatMap Att.cl) ∧ NewFrom w.heap.size v ∧ Keeps Nob w w') := by
 have K0 : Keeps Nob w w := Keeps.refl _ _
 refine calls_marks 3 (c := (qc27_3 1)) Tryz.func39 (by kernel_rfl) <| sy_frame ⟨fr [pT r 0] 18, []⟩ (by kernel_rfl) <| qr_ [0] <| kk 1 <| ps_end <| tqr_ [0] <| pal 32 (#[.slice none 0 0]) (.slice none 0 0) fun V37 o eo h38 kV37 => ?_
 have n39 : r < o := eo ▸ lt_of_block H.rec_
 have n40 := nk eo K0
 have h41 := kV37.bk H.rec_
 have K42 := K0.nn kV37
 have z43 := kV37.size
 refine ps_end <| tq_ <| qr_ [0, 1] <| kk 1 ?_
 refine pcq 72 #[pT r 0] Tryz.func72 ((qnone_rec r v A B _ (H.keepsN K42)).mono ?_)
 rintro e w1 ⟨rfl, rfl⟩
 refine ⟨_, rfl, ?_⟩
 refine ps_end <| then_n <| n_ <| s_ <| tq_ <| qr_ nl5_ <| kk 3 <| ppq _ (lk h41) ?_
 have lo_ := lt_of_block h38
 refine pcq 73 #[pT A.g 0] Tryz.func73 ((gall_ok A.g _).mono ?_)
 rintro e V44 ⟨bx, rfl, hbx, nbx, kV44⟩
 refine ⟨_, rfl, ?_⟩
 have ⟨K47, z48, h46⟩ := kV44.z1 K42 h38
 refine ps_end <| then_n <| bl_ 0 ?_
 have hbxo : bx ≠ o := by omega
 have szW : w.heap.size ≤ V44.heap.size := K47.size
 have lto := lt_of_block h46
 have ltbx := lt_of_block hbx
 have hn2 := H.a.n2
 have hxl : (items A.V A.low A.n).length ≤ 256000 := Nat.le_trans (items_len _ _ _) hn2
 refine sy_part (.rangeFunc (.tmp 12) #[13] (qc27_3 244) (qc27_3 245)) (by kernel_rfl) ?_
 refine wp_range 3 (gf := 112) (lb := #[pT bx 0]) (by kernel_rfl) (enters_of Tryz.func112 (by kernel_rfl) rfl) (encs := fun x : Att => #[.agg x.c]) (fun _ => rfl) (xs := (items A.V A.low A.n)) (Mi := Nob) (S := fun _ => gall1S bx A) (fun _ h => h.elim) (gall1_seq bx A 5) (fun _ _ _ h t => h.turn t) ⟨hbx, H.a.keepsN K47⟩
  (fun k V => k ≤ (items A.V A.low A.n).length ∧ ∃ v, HP V o #[v] 32 ∧ Row V 28 36 v k (((items A.V A.low A.n).take k).flatMap Att.cl) ∧ NewFrom w.heap.size v ∧ Keeps Nob w V) (fun _ _ => False) ?hI (fun _ _ _ h => h.elim) ?h0 (fun _ x a' V => ∃ b, a' = ⟨fr [pT r 0, ud, .slice none 0 0, pT o 0, pT b 0, pT r 0, .bool false, ud, pT r 0, pT r 0, pT r 1, pT A.g 0, .func (.func 112) #[] #[pT bx 0], .agg (Att.c x)] 5, []⟩ ∧ HP V b (Att.c x) 28) ?hAx ?assign ?body ?done (fun _ _ _ _ h => h.elim)
 case h0 => exact ⟨Nat.zero_le _, .slice none 0 0, h46, ⟨rfl, .inl ⟨rfl, rfl⟩⟩, NewFrom.nil _, K47⟩
 case hI =>
  rintro k A V ⟨q1, v, q2, q3, q4, q5⟩ t
  refine ⟨q1, v, t.same _ _ q2 (fun x => x) (.inr rfl), q3.heap fun j hj => ?_, q4, t.keepsN q5 szW⟩
  obtain ⟨cs, hcs⟩ := q3.elem hj
  rw [hcs]; exact t.same _ _ hcs (fun x => x) (.inr rfl)
 case hAx =>
  rintro k x a' A V ⟨b, rfl, q1⟩ t
  exact ⟨b, rfl, t.same _ _ q1 (fun x => x) (.inr rfl)⟩
 case assign =>
  intro l k x V K hx hi hs hK
  have hxo : x.Ok := items_ok H.a x (List.mem_of_getElem? hx)
  refine syI_frame ⟨fr [pT r 0, ud, .slice none 0 0, pT o 0, ud, pT r 0, .bool false, ud, pT r 0, pT r 0, pT r 1, pT A.g 0, .func (.func 112) #[] #[pT bx 0], .agg (Att.c x)] 5, []⟩ (by kernel_rfl) ?_
  refine qAll_assign x hxo V _ ?_ ?_
  ·exact fun h => h.elim fun _ h => h.elim fun _ h => h
  ·intro b Wb q1 q2 q3
   obtain ⟨hk, v, r1, r2, r3, r4⟩ := hi
   exact hK _ _ (q3.from (fun _ h => h.elim)) ⟨hk, v, q3.bk r1, r2.keeps q3 (fun _ _ x => x), r3, r4.then q3 (fun _ _ x => x.elim)⟩ ⟨q3.bk hs.1, hs.2.keepsN q3⟩ ⟨b, rfl, q1⟩
 case body =>
  rintro l k x a' V hl hr hx ⟨hk, v, r1, r2, r3, r4⟩ hs ⟨b, rfl, hb⟩
  have hxo : x.Ok := items_ok H.a x (List.mem_of_getElem? hx)
  have hlt : k < (items A.V A.low A.n).length := (List.getElem?_eq_some_iff.1 hx).1
  refine qAll_body x hxo o b k w.heap.size v _ (by omega) V _ (fun h => h.elim fun _ h => h.elim fun _ h => h) r1 hb r2 r3 r4.size (fun a Wq v' g1 g2 g3 g4 g5 => ?_)
  have hK : Keeps Nob w Wq := r4.then g5 (fun i hi hm => by
   rcases hm with hm | hm
   ·omega
   ·have := r3 i hm; omega)
  refine ⟨g4.from _, ⟨by omega, v', g1, ?_, g3, hK⟩, ?_, H.a.keepsN hK⟩
  ·rw [flat_take _ _ _ x hx]; exact g2
  ·exact (g5.block bx (lt_of_block hs.1) (fun hm => by
    rcases hm with hm | hm
    ·exact hbxo hm
    ·exact Row.ne r2 hs.1 (by decide) hm)).trans hs.1
 case done =>
  rintro D Vz hD ⟨_, v, r1, r2, r3, r4⟩ hK
  have hDs : V44.heap.size ≤ D := hD
  rw [List.take_of_length_le (Nat.le_refl _)] at r2
  refine blk_n <| tqr_ [0, 1] <| ppq _ (lk r1) <| kk 1 <| ps_end <| then_n <| u_ ?_
  obtain ⟨V49, eV49⟩ : ∃ V, Vz.putObj D (.deferred none) = V := ⟨_, rfl⟩
  have tV49 : Turn V44.heap.size Nob Vz V49 := eV49 ▸ Turn.put _ _ _ _ hDs hK rfl
  have h51 : Row V49 28 36 v (items A.V A.low A.n).length ((items A.V A.low A.n).flatMap Att.cl) := r2.heap (fun j hj => by obtain ⟨cs, hcs⟩ := Row.elem r2 hj; rw [hcs]; exact tV49.same _ _ hcs (fun x => x) (.inr rfl))
  have K52 : Keeps Nob w V49 := tV49.keepsN r4 (by omega)
  refine marks_ret hK (v := v) (by rw [eV49]; kernel_rfl) ?_
  rw [eV49]
  exact ⟨v, rfl, h51, r3, K52⟩
noncomputable def qc27_0 (n : Nat) : Code := partOf Tryz.f114 n
noncomputable abbrev qo27_0 (n k : Nat) : Oper := (opsAt (qc27_0 n)).getD k default
theorem appendSeqB_assign {l N : Nat} {u0 u1 u2 u3 u4 u5 u6 u8 u9 u10 u11 u12 : Value} (x : Pro) (hx : x.Ok) (w : World) (Q : Exit → Act → World → Prop) (hL : ¬ LetsOut Q) (hQ : ∀ (b : Nat) (W : World), HP W b (Pro.c x) 37 → w.heap.size ≤ b → Keeps Nob w W → Q .normal ⟨#[u0, u1, u2, u3, u4, pT b 0, u6, .agg (Pro.c x), u8, u9, u10, u11, u12], []⟩ W) :
  (qc27_0 52).wpIn (Fence.wide.inRound l) N Tryz.prog Q ⟨#[u0, u1, u2, u3, u4, u5, u6, .agg (Pro.c x), u8, u9, u10, u11, u12], []⟩ w := by
 have K0 : Keeps Nob w w := Keeps.refl _ _
 refine syI_reg (by kernel_rfl) (fun ⟨a, w, h⟩ => hL ⟨a, w, h⟩) <| rg_plain 2 (opsAt (qc27_0 52)) [0, 1] (by kernel_rfl) (by kernel_rfl) <| pal 37 (zl3_) (.agg (zl3_)) fun V1 b eb h2 kV1 => ?_
 have n3 := nk eb K0
 have K4 := K0.nn kV1
 have z5 := kV1.size
 refine pst 37 b ((Pro.c x)) h2 (by rw [Pro.c_size _ hx.r]; kernel_rfl) (by rw [Pro.c_size _ hx.r]; rfl) (Pro.c_one _) fun V6 h7 kV6 => ?_
 have K8 := K4.nO kV6
 have z9 := kV6.size
 refine ps_end <| sy_a ⟨#[u0, u1, u2, u3, u4, pT b 0, u6, .agg (Pro.c x), u8, u9, u10, u11, u12], []⟩ ?_
 exact hQ b _ h7 (by omega) K8
theorem appendSeqB_body {l N : Nat} {u0 u1 u3 u4 u6 u7 u8 u9 u10 u11 u12 : Value} (x : Pro) (hx : x.Ok) (o b k B0 : Nat) (v : Value) (xs : List Value) (hk : k ≤ 256000) (w : World) (Q : Exit → Act → World → Prop) (hL : ¬ LetsOut Q) (ho : HP w o #[v] 40) (hb : HP w b (Pro.c x) 37) (hrow : Row w 37 35 v k xs) (hnew : NewFrom B0 v) (hB0 : B0 ≤ w.heap.size) (hQ : ∀ (a : Act) (W : World) (v' : Value), HP W o #[v'] 40 → Row W 37 35 v' (k + 1) (xs ++ Pro.cl x) → NewFrom B0 v' → KeepsOthers w W → Keeps (fun j => j = o ∨ Value.ownBlock v = some j) w W → Q .normal a W) :
  (qc27_0 53).wpIn (Fence.wide.inRound l) N Tryz.prog Q ⟨#[u0, u1, pT o 0, u3, u4, pT b 0, u6, u7, u8, u9, u10, u11, u12], []⟩ w := by
 obtain ⟨i0, hi0, hz0, hz1, hz2⟩ := info_parts pro_info0
 have lto := lt_of_block ho
 have ltb := lt_of_block hb
 have hnro := Row.ne hrow ho (by decide)
 have K0 : Keeps ((fun j => j = o ∨ Value.ownBlock v = some j)) w w := Keeps.refl _ _
 refine syI_block 1 (qc27_0 106) (by kernel_rfl) <| syI_reg (by kernel_rfl) (fun ⟨a, w, h⟩ => hL ⟨a, w, h⟩) <| rg_plain 3 (opsAt (qc27_0 106)) nl5_ (by kernel_rfl) (by kernel_rfl) <| ppq _ (lk ho) <| ppq _ (ldr 37 b (hb) (by rw [Pro.c_size _ hx.r]; kernel_rfl)) ?_
 obtain ⟨V10, eV10, lit, elit, h11, kV10⟩ := alloc_step w (Pro.c x) 37
 refine prq (.slice (some ⟨lit, 0, none⟩) 1 1) (w' := V10) (by rw [← eV10, ← elit]; exact exec_build1 40 37 (.tmp 9) (by kernel_rfl) (.agg (Pro.c x)) (by kernel_rfl) i0 _ Tryz.underlying40 hi0 hz0 35 hz1 (by decide) (by decide) (Pro.c_size x hx.r)) ?_
 clear eV10
 have h12 := kV10.bk ho
 have h14 : Row V10 37 35 v k xs := hrow.keeps kV10 (fun _ _ x => x)
 have h15 : KeepsOthers w V10 := (KeepsOthers.refl w).trans kV10.others0
 have K16 := K0.nn kV10
 have z17 := kV10.size
 obtain ⟨v18, V19, hr20, h21, hg22, hn23, ha24⟩ := run_append_any (P := Tryz.prog) (w := V10) 40 (Oper.type (qo27_0 106 3)) 37 i0 (.agg zPro.c) 35 56 Tryz.underlying40 hi0 hz0 hz1 hz2 rfl (by decide) v k xs h14 (.slice (some ⟨lit, 0, none⟩) 1 1) 1 (Pro.cl x) (src_pro hx h11) (by unfold maxLen; omega) (by omega)
 obtain ⟨gS, cS, rfl, _⟩ := Row.spell h21 (by omega)
 have kV19 : Keeps (fun j => v.ownBlock = some j) V10 V19 := Keeps.rowAdd hg22
 have hw25 : NewFrom B0 (.slice (some ⟨gS, 0, none⟩) (k + 1) cS) := hnew.next (Nat.le_trans hB0 K16.size) ha24
 refine prq (.slice (some ⟨gS, 0, none⟩) (k + 1) cS) (w' := V19) (exec_append (.tmp 8) (.tmp 10) 40 (by kernel_rfl) v (.slice (some ⟨lit, 0, none⟩) 1 1) (by kernel_rfl) (by kernel_rfl) hr20) ?_
 have h26 : Row V19 37 35 (.slice (some ⟨gS, 0, none⟩) (k + 1) cS) (k + 1) (xs ++ (Pro.cl x)) := h21
 have h27 : HP V19 o #[v] 40 := (kV19.block o (lt_of_block h12) (fun e => Row.ne h14 h12 (by decide) e)).trans h12
 have h28 : KeepsOthers w V19 := h15.trans (kV19.othersR h14)
 have K29 : Keeps ((fun j => j = o ∨ Value.ownBlock v = some j)) w V19 := K16.then kV19 (fun i hi hm => .inr hm)
 have z30 := kV19.size
 refine pce 40 o 0 (.slice (some ⟨gS, 0, none⟩) (k + 1) cS) (#[.slice (some ⟨gS, 0, none⟩) (k + 1) cS]) h27 (rc (h27) (by kernel_rfl)) (by kernel_rfl) (u := v) fun V31 h32 kV31 => ?_
 have h33 : KeepsOthers w V31 := h28.trans (kV31.others1 h27)
 have h34 : Row V31 37 35 (.slice (some ⟨gS, 0, none⟩) (k + 1) cS) (k + 1) (xs ++ (Pro.cl x)) := h26.keeps kV31 (fun j hj e => Row.ne h26 h27 (by decide) ((show j = o from e) ▸ hj))
 have K35 : Keeps ((fun j => j = o ∨ Value.ownBlock v = some j)) w V31 := K29.then kV31 (fun i hi hm => .inl hm)
 have z36 := kV31.size
 refine ps_end <| blk_n ?_
 exact hQ _ _ _ h32 h34 hw25 h33 K35
theorem appendSeqB_ok (bx : Nat) (d : RD Pro) (w : World) (hS0 : gall1BS bx d w) :
  Calls Tryz.prog 114 #[.slice none 0 0, .func (.func 115) #[] #[pT bx 0]] w (fun e w' => ∃ v, e = .returned v ∧ Row w' 37 35 v (items d.V d.low d.n).length ((items d.V d.low d.n).flatMap Pro.cl) ∧ NewFrom w.heap.size v ∧ Keeps Nob w w') := by
 have ltb0 := lt_of_block hS0.1
 have K0 : Keeps Nob w w := Keeps.refl _ _
 refine calls_marks 3 (c := (qc27_0 1)) Tryz.func114 (by kernel_rfl) <| sy_frame ⟨fr [.slice none 0 0, .func (.func 115) #[] #[pT bx 0]] 11, []⟩ (by kernel_rfl) <| qr_ [0, 1] <| pbx 40 (#[.slice none 0 0]) (.slice none 0 0) fun V37 o eo h38 kV37 => ?_
 have n39 : bx < o := eo ▸ lt_of_block hS0.1
 have n40 := nk eo K0
 have h41 := kV37.bk hS0.1
 have K42 := K0.nn kV37
 have z43 := kV37.size
 refine kk 1 <| ps_end <| tq_ <| qr_ [0] <| kk 1 <| ps_end <| then_n <| bl_ 0 ?_
 have hbxo : bx ≠ o := by omega
 have szW : w.heap.size ≤ V37.heap.size := K42.size
 have lto := lt_of_block h38
 have ltbx := lt_of_block h41
 have hn2 := hS0.2.n2
 have hxl : (items d.V d.low d.n).length ≤ 256000 := Nat.le_trans (items_len _ _ _) hn2
 refine sy_part (.rangeFunc (.tmp 6) #[7] (qc27_0 52) (qc27_0 53)) (by kernel_rfl) ?_
 refine wp_range 3 (gf := 115) (lb := #[pT bx 0]) (by kernel_rfl) (enters_of Tryz.func115 (by kernel_rfl) rfl) (encs := fun x : Pro => #[.agg x.c]) (fun _ => rfl) (xs := (items d.V d.low d.n)) (Mi := Nob) (S := fun _ => gall1BS bx d) (fun _ h => h.elim) (gall1B_seq bx d 5) (fun _ _ _ h t => h.turn t) ⟨h41, hS0.2.keepsN K42⟩
  (fun k V => k ≤ (items d.V d.low d.n).length ∧ ∃ v, HP V o #[v] 40 ∧ Row V 37 35 v k (((items d.V d.low d.n).take k).flatMap Pro.cl) ∧ NewFrom w.heap.size v ∧ Keeps Nob w V) (fun _ _ => False) ?hI (fun _ _ _ h => h.elim) ?h0 (fun _ x a' V => ∃ b, a' = ⟨fr [.slice none 0 0, .func (.func 115) #[] #[pT bx 0], pT o 0, ud, .slice none 0 0, pT b 0, .func (.func 115) #[] #[pT bx 0], .agg (Pro.c x)] 5, []⟩ ∧ HP V b (Pro.c x) 37) ?hAx ?assign ?body ?done (fun _ _ _ _ h => h.elim)
 case h0 => exact ⟨Nat.zero_le _, .slice none 0 0, h38, ⟨rfl, .inl ⟨rfl, rfl⟩⟩, NewFrom.nil _, K42⟩
 case hI =>
  rintro k A V ⟨q1, v, q2, q3, q4, q5⟩ t
  refine ⟨q1, v, t.same _ _ q2 (fun x => x) (.inr rfl), q3.heap fun j hj => ?_, q4, t.keepsN q5 szW⟩
  obtain ⟨cs, hcs⟩ := q3.elem hj
  rw [hcs]; exact t.same _ _ hcs (fun x => x) (.inr rfl)
 case hAx =>
  rintro k x a' A V ⟨b, rfl, q1⟩ t
  exact ⟨b, rfl, t.same _ _ q1 (fun x => x) (.inr rfl)⟩
 case assign =>
  intro l k x V K hx hi hs hK
  have hxo : x.Ok := items_ok hS0.2 x (List.mem_of_getElem? hx)
  refine syI_frame ⟨fr [.slice none 0 0, .func (.func 115) #[] #[pT bx 0], pT o 0, ud, .slice none 0 0, ud, .func (.func 115) #[] #[pT bx 0], .agg (Pro.c x)] 5, []⟩ (by kernel_rfl) ?_
  refine appendSeqB_assign x hxo V _ ?_ ?_
  ·exact fun h => h.elim fun _ h => h.elim fun _ h => h
  ·intro b Wb q1 q2 q3
   obtain ⟨hk, v, r1, r2, r3, r4⟩ := hi
   exact hK _ _ (q3.from (fun _ h => h.elim)) ⟨hk, v, q3.bk r1, r2.keeps q3 (fun _ _ x => x), r3, r4.then q3 (fun _ _ x => x.elim)⟩ ⟨q3.bk hs.1, hs.2.keepsN q3⟩ ⟨b, rfl, q1⟩
 case body =>
  rintro l k x a' V hl hr hx ⟨hk, v, r1, r2, r3, r4⟩ hs ⟨b, rfl, hb⟩
  have hxo : x.Ok := items_ok hS0.2 x (List.mem_of_getElem? hx)
  have hlt : k < (items d.V d.low d.n).length := (List.getElem?_eq_some_iff.1 hx).1
  refine appendSeqB_body x hxo o b k w.heap.size v _ (by omega) V _ (fun h => h.elim fun _ h => h.elim fun _ h => h) r1 hb r2 r3 r4.size (fun a Wq v' g1 g2 g3 g4 g5 => ?_)
  have hK : Keeps Nob w Wq := r4.then g5 (fun i hi hm => by
   rcases hm with hm | hm
   ·omega
   ·have := r3 i hm; omega)
  refine ⟨g4.from _, ⟨by omega, v', g1, ?_, g3, hK⟩, ?_, hS0.2.keepsN hK⟩
  ·rw [flat_take _ _ _ x hx]; exact g2
  ·exact (g5.block bx (lt_of_block hs.1) (fun hm => by
    rcases hm with hm | hm
    ·exact hbxo hm
    ·exact Row.ne r2 hs.1 (by decide) hm)).trans hs.1
 case done =>
  rintro D Vz hD ⟨_, v, r1, r2, r3, r4⟩ hK
  have hDs : V37.heap.size ≤ D := hD
  rw [List.take_of_length_le (Nat.le_refl _)] at r2
  refine blk_n <| tqr_ [0, 1] <| ppq _ (lk r1) <| kk 1 <| ps_end <| then_n <| u_ ?_
  obtain ⟨V44, eV44⟩ : ∃ V, Vz.putObj D (.deferred none) = V := ⟨_, rfl⟩
  have tV44 : Turn V37.heap.size Nob Vz V44 := eV44 ▸ Turn.put _ _ _ _ hDs hK rfl
  have h46 : Row V44 37 35 v (items d.V d.low d.n).length ((items d.V d.low d.n).flatMap Pro.cl) := r2.heap (fun j hj => by obtain ⟨cs, hcs⟩ := Row.elem r2 hj; rw [hcs]; exact tV44.same _ _ hcs (fun x => x) (.inr rfl))
  have K47 : Keeps Nob w V44 := tV44.keepsN r4 (by omega)
  refine marks_ret hK (v := v) (by rw [eV44]; kernel_rfl) ?_
  rw [eV44]
  exact ⟨v, rfl, h46, r3, K47⟩
noncomputable def qc27_1 (n : Nat) : Code := partOf Tryz.f74 n
theorem collectB_ok (bx : Nat) (d : RD Pro) (w : World) (hS0 : gall1BS bx d w) :
  Calls Tryz.prog 74 #[.func (.func 115) #[] #[pT bx 0]] w (fun e w' => ∃ v, e = .returned v ∧ Row w' 37 35 v (items d.V d.low d.n).length ((items d.V d.low d.n).flatMap Pro.cl) ∧ NewFrom w.heap.size v ∧ Keeps Nob w w') := by
 have K0 : Keeps Nob w w := Keeps.refl _ _
 refine se_ (qc27_1 1) ⟨#[.func (.func 115) #[] #[pT bx 0], ud, ud, ud, ud], []⟩ Tryz.func74 <| qr_ [0] <| kk 1 <| eqr_ [0, 1, 2] <| kk 1 ?_
 refine pcq 114 #[.slice none 0 0, .func (.func 115) #[] #[pT bx 0]] Tryz.func114 ((appendSeqB_ok bx d _ hS0).mono ?_)
 rintro e V1 ⟨vz, rfl, hz, nz, kV1⟩
 have nz2 : NewFrom w.heap.size vz := fun j hj => Nat.le_trans K0.size (nz j hj)
 refine ⟨_, rfl, ?_⟩
 have K2 := K0.nn kV1
 have z3 := kV1.size
 refine kk 1 <| eu_ <| so_ (vz) ?_
 exact ⟨vz, rfl, hz, nz2, K2⟩
noncomputable def qc27_2 (n : Nat) : Code := partOf Tryz.f40 n
theorem qBlocks_ok (r : Nat) (v : Int) (A : RD Att) (B : RD Pro) (w : World) (H : RecAt w r v A B) :
  Calls Tryz.prog 40 #[pT r 0] w (fun e w' => ∃ v, e = .returned v ∧ Row w' 37 35 v (items B.V B.low B.n).length ((items B.V B.low B.n).flatMap Pro.cl) ∧ NewFrom w.heap.size v ∧ Keeps Nob w w') := by
 have K0 : Keeps Nob w w := Keeps.refl _ _
 refine se_ (qc27_2 1) ⟨fr [pT r 0] 10, []⟩ Tryz.func40 <| qr_ [0] <| kk 1 <| eq_ <| qr_ [0, 1] <| kk 1 ?_
 refine pcq 72 #[pT r 0] Tryz.func72 ((qnone_rec r v A B _ H).mono ?_)
 rintro e w1 ⟨rfl, rfl⟩
 refine ⟨_, rfl, ?_⟩
 refine en_ <| s_ <| tqr_ nl7_ <| kk 3 <| ppq _ (lk (H.rec_)) ?_
 refine pcq 75 #[pT B.g 0] Tryz.func75 ((gallB_ok B.g _).mono ?_)
 rintro e V1 ⟨bx, rfl, hbx, nbx, kV1⟩
 refine ⟨_, rfl, ?_⟩
 have K3 := K0.nn kV1
 have z4 := kV1.size
 refine pcq 74 #[.func (.func 115) #[] #[pT bx 0]] Tryz.func74 ((collectB_ok bx B _ ⟨hbx, (H.keepsN K3).b⟩).mono ?_)
 rintro e V5 ⟨vz, rfl, hz, nz, kV5⟩
 have nz2 : NewFrom w.heap.size vz := fun j hj => Nat.le_trans K3.size (nz j hj)
 refine ⟨_, rfl, ?_⟩
 have K8 := K3.nn kV5
 have z9 := kV5.size
 refine kk 1 <| eu_ <| so_ (vz) ?_
 exact ⟨vz, rfl, hz, nz2, K8⟩
end
section
open Go Go.RowKit Go.Own Go.Shelf
theorem _root_.Go.Own.Sl.cell {α : Type} {w : World} {s : Nat} {c : α → List Value} {v : Value} {xs : List α} (h : Sl w s c v xs) {k : Nat} {x : α} (hx : xs[k]? = some x) {b o n cap : Nat} (hv : v = .slice (some ⟨b, o, none⟩) n cap) {j : Nat} {u : Value} (hu : (c x)[j]? = some u) :
    w.cell? ⟨b, o + k * s + j, none⟩ = some u := by
  obtain ⟨b2, o2, cap2, e, _, hc⟩ := h.at_ k x hx
  rw [hv] at e
  simp only [Value.slice.injEq, Option.some.injEq, Addr.mk.injEq, and_true] at e
  obtain ⟨⟨rfl, rfl⟩, _⟩ := e
  exact hc j u hu
theorem _root_.Go.Own.Sl.range {α : Type} {w : World} {s : Nat} {c : α → List Value} {v : Value} {xs : List α} (h : Sl w s c v xs) {k : Nat} {x : α} (hx : xs[k]? = some x) {b o n cap : Nat} (hv : v = .slice (some ⟨b, o, none⟩) n cap) : w.rangeAt b (o + k * s) (c x) := fun j u hu => h.cell hx hv hu
theorem exec_len_sl {P : Program} {o : Oper} {ρ : Operand → Value} {w w0 : World} (x : Operand) (t e : TypeId) (ho : o.op = .call { callee := .builtin .len, args := #[x], argTypes := #[t] }) (ht : P.underlying t = some (.slice e)) {v : Value} (hx : ρ x = v) {α : Type} {s : Nat} {c : α → List Value} {xs : List α} (hv : Sl w0 s c v xs) :
    (execOp ρ o).run P w = .ok (.value (.int .i64 (xs.length : Int))) w := by
  obtain ⟨A, cap, rfl, _⟩ := hv.form
  exact exec_len x t e ho ht A xs.length cap hx
end
section
open Go Go.RowKit Go.Own Go.Shelf
theorem Att.cl_0 {a : Att} : a.cl[0]? = some (.int .i64 a.v) := by have := Att.c_0 a; simpa [Att.cl] using this
theorem Att.cl_1 {a : Att} : a.cl[1]? = some (.int .i64 a.s) := by have := Att.c_1 a; simpa [Att.cl] using this
theorem Att.cl_2 {a : Att} : a.cl[2]? = some (.int .i64 a.t) := by have := Att.c_2 a; simpa [Att.cl] using this
theorem Pro.cl_0 {a : Pro} : a.cl[0]? = some (.int .i64 a.v) := by have := Pro.c_0 a; simpa [Pro.cl] using this
theorem Pro.cl_1 {a : Pro} : a.cl[1]? = some (.int .i64 a.h) := by have := Pro.c_1 a; simpa [Pro.cl] using this
section
variable {α : Type} (key : α → Int)
def insK (l : List α) (a : α) : List α := l.takeWhile (fun b => decide (key b < key a)) ++ a :: l.dropWhile (fun b => decide (key b < key a))
variable {key}
theorem insK_append {l r : List α} {a : α} (h : ∀ b ∈ r, ¬ key b < key a) : insK key (l ++ r) a = insK key l a ++ r := by
  induction l with
  | nil =>
    cases r with
    | nil => simp [insK]
    | cons x r => have := h x (by simp); simp [insK, this]
  | cons x l ih =>
    by_cases hx : key x < key a
    · unfold insK at ih ⊢
      simp only [List.cons_append]
      rw [List.takeWhile_cons_of_pos (by simpa using hx), List.dropWhile_cons_of_pos (by simpa using hx), List.takeWhile_cons_of_pos (by simpa using hx), List.dropWhile_cons_of_pos (by simpa using hx)]
      simp only [List.cons_append, ih]
    · simp [insK, hx]
theorem insK_all {l : List α} {a : α} (h : ∀ b ∈ l, key b < key a) : insK key l a = l ++ [a] := by
  induction l with
  | nil => simp [insK]
  | cons x l ih =>
    have hx := h x (by simp)
    have := ih (fun b hb => h b (by simp [hb]))
    unfold insK at this ⊢
    rw [List.takeWhile_cons_of_pos (by simpa using hx), List.dropWhile_cons_of_pos (by simpa using hx)]
    simp only [List.cons_append, this]
theorem mem_insK {l : List α} {a b : α} (h : b ∈ insK key l a) : b = a ∨ b ∈ l := by
  unfold insK at h
  rcases List.mem_append.1 h with h | h
  · exact .inr ((List.takeWhile_sublist _).subset h)
  · rcases List.mem_cons.1 h with h | h
    · exact .inl h
    · exact .inr ((List.dropWhile_sublist _).subset h)
variable {V : Int → Option α} {low n : Nat}
theorem items_put (h : Held key V low n) {t : Nat} {a : α} (h1 : low ≤ t) (h2 : t < low + n) (hk : key a = (t : Int)) (hv : V (t : Int) = none) : items (upV V (t : Int) a) low n = insK key (items V low n) a := by
  have hkey : ∀ (m k : Nat) (b : α), V ((low + k : Nat) : Int) = some b → key b = ((low + k : Nat) : Int) := fun m k b hb => (h _ _ hb).2.2
  have go : ∀ m, m ≤ n → (low + m ≤ t → items (upV V (t : Int) a) low m = items V low m) ∧ (t < low + m → items (upV V (t : Int) a) low m = insK key (items V low m) a) := by
    intro m
    induction m with
    | zero => exact fun _ => ⟨fun _ => rfl, fun hlt => by omega⟩
    | succ m ih =>
      intro hm
      obtain ⟨i1, i2⟩ := ih (by omega)
      refine ⟨fun hle => ?_, fun hlt => ?_⟩
      · rw [items_succ, items_succ, i1 (by omega)]
        congr 2
        unfold upV; rw [if_neg (by omega)]
      · rw [items_succ, items_succ]
        by_cases e : t = low + m
        · have e2 : V ((low + m : Nat) : Int) = none := by rw [← e]; exact hv
          rw [i1 (by omega), e2, show upV V (t : Int) a ((low + m : Nat) : Int) = some a by unfold upV; rw [if_pos (by omega)]]
          simp only [Option.toList_some, Option.toList_none, List.append_nil]
          rw [insK_all]
          intro b hb
          obtain ⟨k, hk2, hb2⟩ := mem_items.1 hb
          rw [hkey m k b hb2, hk]; omega
        · rw [i2 (by omega), show upV V (t : Int) a ((low + m : Nat) : Int) = V ((low + m : Nat) : Int) by unfold upV; rw [if_neg (by omega)], insK_append]
          intro b hb
          have : V ((low + m : Nat) : Int) = some b := by simpa using hb
          rw [hkey m m b this, hk]; omega
  exact (go n (Nat.le_refl _)).2 h2
end
theorem Ring.held {α : Type} {ix : FuncId} {tr tp te : TypeId} {enc : α → Array Value} {key : α → Int} {ok : α → Prop} {w : World} {d : RD α} (h : Ring ix tr tp te enc key ok w d) : Held key d.V d.low d.n := fun i a hv => let ⟨h1, h2, h3, _⟩ := h.out i a hv; ⟨h1, h2, h3⟩
end
end Go.Proofs.YthmclmbeflbhhaaGreat
namespace Go.Own
section
open Go Go.ChangeShapes Go.WideShapes Go.ChangeAt Go.RowKit Go.WideElems
variable {H : Type} {enc : TypeId × Value → H} {P : Program}
theorem trodAll_stays (hl : laidOutB P = true) {W W' : World} {sp : Nat → Bool} : ∀ (ts : List TypeId) (vs : List Value) (ds : List (DataW H)) (ps : List MemPlace),
    ts.all (fun t => P.readableRec t && decide (t < P.types.size)) = true → DataW.TrodAll enc P W 0 (fun _ => true) true ts vs ds ps → (∀ p ∈ ps, W.sameAt W' p) → (∀ p ∈ ps, sp p.block = true) →
    DataW.TrodAll enc P W' 0 sp true ts vs ds ps
  | [], vs, ds, ps, _, h, _, _ => by
    obtain ⟨rfl, rfl, rfl⟩ := trodAll_nil h
    exact trodAll_mk0
  | t :: ts, vs, ds, ps, hr, h, hs, hsp => by
    obtain ⟨v, vs', d, ds', p, q, rfl, rfl, rfl, h0, r⟩ := trodAll_cons h
    simp only [List.all_cons, Bool.and_eq_true, decide_eq_true_eq] at hr
    exact trodAll_cons_mk (Trod_stays hl hr.1.1 hr.1.2 h0 (fun x hx => hs x (by simp [hx])) (fun x hx => hsp x (by simp [hx])))
      (trodAll_stays hl ts vs' ds' q hr.2 r (fun x hx => hs x (by simp [hx])) (fun x hx => hsp x (by simp [hx])))
theorem law_post {f : Func} {s : ChangeSpec} {W W' : World} {args : Array Value} {ds gs : List (DataW H)} {before : List MemPlace} {tb : TypeId} (hl : laidOutB P = true) (hr : f.params.toList.all (fun t => P.readableRec t && decide (t < P.types.size)) = true)
    (hres : f.resultTypes = #[tb]) (hb : P.underlying tb = some .bool) (hvars : s.vars = []) (hfn : s.fn H (ds ++ gs) = { results := [.lit (.bool true)], args := ds })
    (hW : DataW.Whole enc P f.params.toList s.vars false W args.toList ds gs before) (hB : Below W.heap.size W W') : s.post enc P f false true false false W args (.bool true) W' := by
  have hlt := hW.lt
  have hW0 := hW
  obtain ⟨p, q, hA, hV, rfl, hfz, hnd⟩ := hW
  rw [hvars] at hV
  obtain ⟨rfl, rfl⟩ := trodVars_none hV
  refine ⟨ds, [], p ++ [], [], p, [], hW0, ?_, ?_, ?_, hB.frame _, fun h => by cases h⟩
  · rw [hfn, hres]
    exact trodAll_mk1 (shut_bool hb _)
  · rw [hfn]
    exact trodAll_stays hl _ _ _ _ hr hA (fun x hx => hB.same (hlt x (by simp [hx]))) (fun x hx => by simpa using hlt x (by simp [hx]))
  · rw [hfn, hvars]
    rfl
theorem open_elems {t e : TypeId} {W : World} {sp : Nat → Bool} {held : Bool} {v : Value} {d : DataW H} {ps : List MemPlace} (ht : P.underlying t = some (.slice e)) (hpos : 0 < P.cellsOf e) (h : DataW.Trod enc P W 0 sp held t v d ps) (hv : ∃ a len cap, v = .slice a len cap) :
    ∃ (a : Option Addr) (len cap : Nat), v = .slice a len cap ∧ len ≤ cap ∧ cap ≤ maxLen ∧ ∀ i, i < len → ∃ b o cs n y, a = some ⟨b, o, none⟩ ∧ cs.length = P.cellsOf e ∧
      (∀ j, j < P.cellsOf e → W.cell? ⟨b, o + i * P.cellsOf e + j, none⟩ = cs[j]?) ∧ DataW.trod enc P W 0 sp held n e cs = some y := by
  obtain ⟨fuel, hf⟩ := h
  obtain ⟨a0, len0, cap0, rfl⟩ := hv
  rcases Go.Deep.open_slice ht (by simpa [Value.cells] using hf) with ⟨h0, _⟩ | ⟨a, len, cap, m, n, D, Pl, hcs, _, hl, hm, hmm, _, hi⟩
  · simp only [List.cons.injEq, Value.slice.injEq, and_true] at h0
    obtain ⟨rfl, rfl, rfl⟩ := h0
    exact ⟨_, _, _, rfl, Nat.le_refl _, Nat.zero_le _, fun i h => absurd h (Nat.not_lt_zero i)⟩
  · simp only [List.cons.injEq, Value.slice.injEq, and_true] at hcs
    obtain ⟨rfl, rfl, rfl⟩ := hcs
    refine ⟨_, _, _, rfl, hl, hm, fun i hlt => ?_⟩
    have him : i < m := by rw [hmm]; split <;> omega
    obtain ⟨cs', hc, ht'⟩ := hi i him
    obtain ⟨_, hcl, hat⟩ := World.cells?_some hc
    have hsp : a.spot = none := by
      obtain ⟨cs0, hc0, _⟩ := hi 0 (by omega)
      obtain ⟨_, hcl0, hat0⟩ := World.cells?_some hc0
      have h0 := hat0 0 hpos
      have e1 : (a.add (0 * P.cellsOf e)).add 0 = a := by simp [Addr.add]
      rw [e1, List.getElem?_eq_getElem (by omega)] at h0
      cases hs : a.spot with
      | none => rfl
      | some s =>
        exfalso
        unfold World.cell? at h0
        split at h0
        · rw [if_pos (by simp [hs])] at h0; cases h0
        · cases h0
    obtain ⟨b, o, s⟩ := a
    cases hsp
    refine ⟨b, o, cs', n, _, rfl, hcl, fun j hj => ?_, ht'⟩
    have h2 := hat j hj
    have e2 : ((⟨b, o, none⟩ : Addr).add (i * P.cellsOf e)).add j = ⟨b, o + i * P.cellsOf e + j, none⟩ := by simp [Addr.add_lit]
    rw [e2] at h2
    exact h2
theorem open_elemsN {t e : TypeId} {W : World} {sp : Nat → Bool} {held : Bool} {v : Value} {d : DataW H} {ps : List MemPlace} (ht : P.underlying t = some (.slice e)) (hpos : 0 < P.cellsOf e) (h : DataW.Trod enc P W 0 sp held t v d ps) (hv : ∃ a len cap, v = .slice a len cap) :
    ∃ (a : Option Addr) (len cap : Nat), v = .slice a len cap ∧ len ≤ cap ∧ cap ≤ maxLen ∧ (a = none → cap = 0) ∧ ∀ i, i < len → ∃ b o cs n y, a = some ⟨b, o, none⟩ ∧ cs.length = P.cellsOf e ∧
      (∀ j, j < P.cellsOf e → W.cell? ⟨b, o + i * P.cellsOf e + j, none⟩ = cs[j]?) ∧ DataW.trod enc P W 0 sp held n e cs = some y := by
  obtain ⟨fuel, hf⟩ := h
  obtain ⟨a0, len0, cap0, rfl⟩ := hv
  rcases Go.Deep.open_slice ht (by simpa [Value.cells] using hf) with ⟨h0, _⟩ | ⟨a, len, cap, m, n, D, Pl, hcs, _, hl, hm, hmm, _, hi⟩
  · simp only [List.cons.injEq, Value.slice.injEq, and_true] at h0
    obtain ⟨rfl, rfl, rfl⟩ := h0
    exact ⟨_, _, _, rfl, Nat.le_refl _, Nat.zero_le _, fun _ => rfl, fun i h => absurd h (Nat.not_lt_zero i)⟩
  · simp only [List.cons.injEq, Value.slice.injEq, and_true] at hcs
    obtain ⟨rfl, rfl, rfl⟩ := hcs
    refine ⟨_, _, _, rfl, hl, hm, (fun h => by cases h), fun i hlt => ?_⟩
    have him : i < m := by rw [hmm]; split <;> omega
    obtain ⟨cs', hc, ht'⟩ := hi i him
    obtain ⟨_, hcl, hat⟩ := World.cells?_some hc
    have hsp : a.spot = none := by
      obtain ⟨cs0, hc0, _⟩ := hi 0 (by omega)
      obtain ⟨_, hcl0, hat0⟩ := World.cells?_some hc0
      have h0 := hat0 0 hpos
      have e1 : (a.add (0 * P.cellsOf e)).add 0 = a := by simp [Addr.add]
      rw [e1, List.getElem?_eq_getElem (by omega)] at h0
      cases hs : a.spot with
      | none => rfl
      | some s =>
        exfalso
        unfold World.cell? at h0
        split at h0
        · rw [if_pos (by simp [hs])] at h0; cases h0
        · cases h0
    obtain ⟨b, o, s⟩ := a
    cases hsp
    refine ⟨b, o, cs', n, _, rfl, hcl, fun j hj => ?_, ht'⟩
    have h2 := hat j hj
    have e2 : ((⟨b, o, none⟩ : Addr).add (i * P.cellsOf e)).add j = ⟨b, o + i * P.cellsOf e + j, none⟩ := by simp [Addr.add_lit]
    rw [e2] at h2
    exact h2
theorem list_of {α : Type} (Q : Nat → α → Prop) (n : Nat) (h : ∀ i, i < n → ∃ x, Q i x) : ∃ l : List α, l.length = n ∧ ∀ k x, l[k]? = some x → Q k x := by
  induction n with
  | zero => exact ⟨[], rfl, fun k x hk => by simp at hk⟩
  | succ n ih =>
    obtain ⟨l, hl, hq⟩ := ih (fun i hi => h i (by omega))
    obtain ⟨x, hx⟩ := h n (by omega)
    refine ⟨l ++ [x], by simp [hl], fun k y hk => ?_⟩
    rw [List.getElem?_append] at hk
    split at hk
    · exact hq k y hk
    · rename_i hlt
      obtain ⟨hk1, hk2⟩ := List.getElem?_eq_some_iff.1 hk
      have : k = n := by simp at hk1; omega
      subst this
      simp at hk2
      rw [← hk2]; exact hx
theorem field_int {t : TypeId} {k : IntKind} {W : World} {sp : Nat → Bool} {held : Bool} {n off : Nat} {cs : List Value} {y : Option (DataW H × List MemPlace)} {z : DataW H × List MemPlace} (ht : P.underlying t = some (.int k)) (h1 : P.cellsOf t = 1) (h : DataW.trod enc P W 0 sp held n t ((cs.drop off).take (P.cellsOf t)) = y) (hy : y = some z) :
    ∃ q : Int, cs[off]? = some (.int k q) ∧ (Lit.int k q).wf = true := by
  subst hy
  rw [h1] at h
  obtain ⟨q, e1, _, e3⟩ := DataW.trod_int ht h
  refine ⟨q, ?_, e3⟩
  cases hc : cs.drop off with
  | nil => rw [hc] at e1; simp at e1
  | cons c r =>
    rw [hc] at e1
    simp at e1
    have : (cs.drop off)[0]? = some c := by rw [hc]; rfl
    rw [List.getElem?_drop] at this
    rw [show off = off + 0 by omega, this, e1]
structure IntsAt (w : World) (v : Value) (l : List Int) : Prop where
  len : ∃ a cap, v = .slice a l.length cap
  at_ : ∀ k x, l[k]? = some x → -9223372036854775808 ≤ x ∧ x ≤ 9223372036854775807 ∧ ∃ b o cap, v = .slice (some ⟨b, o, none⟩) l.length cap ∧ b < w.heap.size ∧ w.cell? ⟨b, o + k, none⟩ = some (.int .i64 x)
theorem open_intsAt {t e : TypeId} {W : World} {sp : Nat → Bool} {held : Bool} {v : Value} {d : DataW H} {ps : List MemPlace} (ht : P.underlying t = some (.slice e)) (he : P.underlying e = some (.int .i64)) (hC : P.cellsOf e = 1)
    (h : DataW.Trod enc P W 0 sp held t v d ps) (hv : ∃ a len cap, v = .slice a len cap) : ∃ l, IntsAt W v l := by
  obtain ⟨a, len, cap, rfl, hl, hm, hi⟩ := open_elems ht (by rw [hC]; omega) h hv
  rw [hC] at hi
  obtain ⟨l, hll, hq⟩ := list_of (fun i (x : Int) => -9223372036854775808 ≤ x ∧ x ≤ 9223372036854775807 ∧ ∃ b o, a = some ⟨b, o, none⟩ ∧ W.cell? ⟨b, o + i, none⟩ = some (.int .i64 x)) len (fun i hlt => by
    obtain ⟨b, o, cs, n, y, ha, hcl, hcell, ht'⟩ := hi i hlt
    obtain ⟨q, e1, _, e3⟩ := DataW.trod_int he ht'
    have h0 := hcell 0 (by omega)
    rw [e1] at h0
    have hb := bounds_i64 e3
    exact ⟨q, hb.1, hb.2, b, o, ha, by simpa using h0⟩)
  subst hll
  refine ⟨l, ⟨a, cap, rfl⟩, fun k x hk => ?_⟩
  obtain ⟨b1, b2, b, o, rfl, c0⟩ := hq k x hk
  exact ⟨b1, b2, b, o, cap, rfl, World.block_lt_of_cell? W _ c0, c0⟩
theorem IntsAt.keeps {w w' : World} {v : Value} {l : List Int} (h : IntsAt w v l) (k : Keeps Nob w w') : IntsAt w' v l :=
  ⟨h.len, fun i x hi => by
    obtain ⟨b1, b2, b, o, cap, e, hb, hc⟩ := h.at_ i x hi
    exact ⟨b1, b2, b, o, cap, e, Nat.lt_of_lt_of_le hb k.size, (k.cell hb (fun x => x)).trans hc⟩⟩
theorem u64_nat {a : Int} (h : (Lit.int .u64 a).wf = true) : ∃ n : Nat, n < 2 ^ 64 ∧ a = (n : Int) := by
  have h1 : 0 ≤ a ∧ a < 18446744073709551616 := by
    simp [Lit.wf, IntKind.min, IntKind.max, IntKind.bits, IntKind.signed] at h
    omega
  exact ⟨a.toNat, by omega, by omega⟩
theorem u8_nat {a : Int} (h : (Lit.int .u8 a).wf = true) : ∃ c : UInt8, a = (c.toNat : Int) := by
  have h1 : 0 ≤ a ∧ a < 256 := by
    simp [Lit.wf, IntKind.min, IntKind.max, IntKind.bits, IntKind.signed] at h
    omega
  exact ⟨UInt8.ofNat a.toNat, by simp; omega⟩
end
end Go.Own
namespace Go.Proofs.YthmclmbeflbhhaaGreat
section
open Go Go.RowKit Go.Own Go.Shelf
structure RSpec where
  (la na lb nb : Nat) (VA : Int → Option Att) (VB : Int → Option Pro)
namespace RSpec
def putErr (s : RSpec) (v : Int) (a : Att) : Int := if whoErr v a.err a.v ≠ 0 then whoErr v a.err a.v else if a.t < (s.la : Int) then 16 else if (s.la : Int) + s.na ≤ a.t then 17 else if (s.VA a.t).isSome then 8 else 0
def putErrB (s : RSpec) (v : Int) (a : Pro) : Int := if whoErr v a.err a.v ≠ 0 then whoErr v a.err a.v else if a.h < (s.lb : Int) then 16 else if (s.lb : Int) + s.nb ≤ a.h then 17 else if (s.VB a.h).isSome then 8 else 0
def moveErr (s : RSpec) (l f : Int) : Int := if l < 0 ∨ l > 4294967296 ∨ f < 1 ∨ f > 4294967296 then 3 else if l < (s.la : Int) ∨ f < (s.lb : Int) then 9 else 0
def put (s : RSpec) (v : Int) (a : Att) : RSpec := if s.putErr v a = 0 then { s with VA := upV s.VA a.t a } else s
def putB (s : RSpec) (v : Int) (a : Pro) : RSpec := if s.putErrB v a = 0 then { s with VB := upV s.VB a.h a } else s
def move (s : RSpec) (l f : Int) : RSpec := if s.moveErr l f = 0 then { s with la := l.toNat, lb := f.toNat, VA := mvV s.VA l, VB := mvV s.VB f } else s
def all (s : RSpec) : List Att := items s.VA s.la s.na
end RSpec
def Rings (w0 w : World) : Nat → Prop := fun j => w0.heap.size ≤ j ∧ ∃ cs T, w.heap[j]? = some (.cells cs T (0, 0)) ∧ (T = 184 ∨ T = 185 ∨ T = 192 ∨ T = 168)
theorem Rings.not {w0 w : World} {g : Nat} {cs : Array Value} {T : TypeId} {fr : Nat × Nat} (h : w.heap[g]? = some (.cells cs T fr)) (h1 : T ≠ 184) (h2 : T ≠ 185) (h3 : T ≠ 192) (h4 : T ≠ 168) : ¬ Rings w0 w g := fun ⟨_, cs', T', e, hT⟩ => by
  rw [h] at e
  simp only [Option.some.injEq, Obj.cells.injEq] at e
  rw [← e.2.1] at hT
  rcases hT with e | e | e | e
  · exact h1 e
  · exact h2 e
  · exact h3 e
  · exact h4 e
theorem RecAt.rings {w0 w : World} {r : Nat} {v : Int} {A : RD Att} {B : RD Pro} (h : RecAt w r v A B) (hn : ∀ j, FR A B j → w0.heap.size ≤ j) : ∀ j, FR A B j → Rings w0 w j := fun j hj => ⟨hn j hj, by
  rcases hj with rfl | rfl | rfl | rfl
  · exact ⟨_, _, h.a.ring, .inl rfl⟩
  · exact ⟨_, _, h.a.slots, .inr (.inl rfl)⟩
  · exact ⟨_, _, h.b.ring, .inr (.inr (.inl rfl))⟩
  · exact ⟨_, _, h.b.slots, .inr (.inr (.inr rfl))⟩⟩
section
variable {w0 w w' : World} {r : Nat} {v : Int} {s : RSpec}
end
section
variable {w0 w w' : World} {r r2 : Nat} {v : Int} {s s2 : RSpec}
end
end
section
open Go Go.RowKit Go.Own Go.Shelf
def fieldV (nm : Value) (lo hi : Int) (f g : Nat) (k : Nat) : Value :=
 .agg #[nm, .int .u64 lo, .int .u64 hi, .func (.func f) #[] #[pT k 0], .func (.func g) #[] #[pT k 0]]
theorem mf_run : ∀ (fn : Fn) (first cap : Array Value) (w : World), (Instr.makeFunc fn first cap).run Tryz.prog w = .ok (.func fn first cap) w := fun _ _ _ _ => rfl
theorem field_info : (Tryz.prog.info? 134).map (·.size) = some 5 := by kernel_rfl
theorem of_ok (nm : ByteArray) (lo hi : Int) (q : Addr) (w : World) :
  Calls Tryz.prog 118 #[.string nm, .int .u64 lo, .int .u64 hi, .pointer (some q)] w fun e w' => e = .returned (fieldV (.string nm) lo hi 145 146 w.heap.size) ∧ w'.cell? ⟨w.heap.size, 0, none⟩ = some (.pointer (some q)) ∧ w.heap.size < w'.heap.size ∧ Keeps Nob w w' := by
 have hmf := mf_run
 go_enter Tryz.func118, Tryz.ntmps118
 go_wp2_with (refine wpList_store_row rfl 134 _ _ rfl (w.heap.size + 1) #[.string nm, .int .u64 lo, .int .u64 hi, .func (.func 145) #[] #[pT w.heap.size 0], .func (.func 146) #[] #[pT w.heap.size 0]] rfl rfl 134 #[.string ⟨#[]⟩, .int .u64 0, .int .u64 0, .nilFunc, .nilFunc] (by rw [show w.heap.size + 1 = (w.alloc (.cells #[.pointer (some q)] 156)).heap.size by simp]; exact World.alloc_heap_new _ _) field_info rfl (by simp [Value.oneCell']) ?_)
 have k1 : Keeps Nob w (w.alloc (.cells #[.pointer (some q)] 156)) := (Keeps.refl _ _).alloc _
 have c1 : (w.alloc (.cells #[.pointer (some q)] 156)).cell? ⟨w.heap.size, 0, none⟩ = some (.pointer (some q)) := (World.cell?_alloc_at _ _ _ _ rfl).trans rfl
 have s1 : (w.alloc (.cells #[.pointer (some q)] 156)).heap.size = w.heap.size + 1 := by simp
 (try simp only [Exit.inBlock, Exit.then])
 refine bodyPost_ret (v := .agg #[.string nm, .int .u64 lo, .int .u64 hi, .func (.func 145) #[] #[pT w.heap.size 0], .func (.func 146) #[] #[pT w.heap.size 0]]) ?_ rfl ?_
 ·exact results_cell_row rfl _ _ (w.heap.size + 1) 134 #[.string nm, .int .u64 lo, .int .u64 hi, .func (.func 145) #[] #[pT w.heap.size 0], .func (.func 146) #[] #[pT w.heap.size 0]] (0, 0) _ rfl (setRow_heap _ _ #[.string ⟨#[]⟩, .int .u64 0, .int .u64 0, .nilFunc, .nilFunc] _ _ _ (by rw [show w.heap.size + 1 = (w.alloc (.cells #[.pointer (some q)] 156)).heap.size by simp]; exact World.alloc_heap_new _ _)) Tryz.underlying134 rfl field_info
 have k2 : ∀ o cs, Keeps Nob (w.alloc (.cells #[.pointer (some q)] 156)) (((w.alloc (.cells #[.pointer (some q)] 156)).alloc o).setRow (w.heap.size + 1) cs) := fun o cs => ((Keeps.refl _ _).alloc _).setRow (fun x => absurd x (by omega)) cs
 exact ⟨rfl, ((k2 _ _).cell (by omega) (fun x => x)).trans c1, Nat.lt_of_lt_of_le (by omega) (k2 _ _).size, k1.trans (k2 _ _)⟩
theorem word_ok (nm : ByteArray) (hi : Int) (q : Addr) (w : World) :
  Calls Tryz.prog 119 #[.string nm, .int .u64 hi, .pointer (some q)] w fun e w' => e = .returned (fieldV (.string nm) 0 hi 147 148 w.heap.size) ∧ w'.cell? ⟨w.heap.size, 0, none⟩ = some (.pointer (some q)) ∧ w.heap.size < w'.heap.size ∧ Keeps Nob w w' := by
 have hmf := mf_run
 go_enter Tryz.func119, Tryz.ntmps119
 go_wp2_with (refine wpList_store_row rfl 134 _ _ rfl (w.heap.size + 1) #[.string nm, .int .u64 0, .int .u64 hi, .func (.func 147) #[] #[pT w.heap.size 0], .func (.func 148) #[] #[pT w.heap.size 0]] rfl rfl 134 #[.string ⟨#[]⟩, .int .u64 0, .int .u64 0, .nilFunc, .nilFunc] (by rw [show w.heap.size + 1 = (w.alloc (.cells #[.pointer (some q)] 196)).heap.size by simp]; exact World.alloc_heap_new _ _) field_info rfl (by simp [Value.oneCell']) ?_)
 have k1 : Keeps Nob w (w.alloc (.cells #[.pointer (some q)] 196)) := (Keeps.refl _ _).alloc _
 have c1 : (w.alloc (.cells #[.pointer (some q)] 196)).cell? ⟨w.heap.size, 0, none⟩ = some (.pointer (some q)) := (World.cell?_alloc_at _ _ _ _ rfl).trans rfl
 have s1 : (w.alloc (.cells #[.pointer (some q)] 196)).heap.size = w.heap.size + 1 := by simp
 (try simp only [Exit.inBlock, Exit.then])
 refine bodyPost_ret (v := .agg #[.string nm, .int .u64 0, .int .u64 hi, .func (.func 147) #[] #[pT w.heap.size 0], .func (.func 148) #[] #[pT w.heap.size 0]]) ?_ rfl ?_
 ·exact results_cell_row rfl _ _ (w.heap.size + 1) 134 #[.string nm, .int .u64 0, .int .u64 hi, .func (.func 147) #[] #[pT w.heap.size 0], .func (.func 148) #[] #[pT w.heap.size 0]] (0, 0) _ rfl (setRow_heap _ _ #[.string ⟨#[]⟩, .int .u64 0, .int .u64 0, .nilFunc, .nilFunc] _ _ _ (by rw [show w.heap.size + 1 = (w.alloc (.cells #[.pointer (some q)] 196)).heap.size by simp]; exact World.alloc_heap_new _ _)) Tryz.underlying134 rfl field_info
 have k2 : ∀ o cs, Keeps Nob (w.alloc (.cells #[.pointer (some q)] 196)) (((w.alloc (.cells #[.pointer (some q)] 196)).alloc o).setRow (w.heap.size + 1) cs) := fun o cs => ((Keeps.refl _ _).alloc _).setRow (fun x => absurd x (by omega)) cs
 exact ⟨rfl, ((k2 _ _).cell (by omega) (fun x => x)).trans c1, Nat.lt_of_lt_of_le (by omega) (k2 _ _).size, k1.trans (k2 _ _)⟩
end
section
open Go Go.RowKit Go.Own Go.Shelf
theorem of1_ok (k : Nat) (q : Addr) (x : Int) (w : World) (h1 : w.cell? ⟨k, 0, none⟩ = some (.pointer (some q))) (h2 : w.cell? q = some (.int .i64 x)) (b1 : -9223372036854775808 ≤ x) (b2 : x ≤ 9223372036854775807) :
  Calls Tryz.prog 145 #[pT k 0] w fun e w' => e = .returned (.tuple #[.int .u64 (max x 0), .bool (decide (0 ≤ x))]) ∧ Keeps Nob w w' := by
 by_cases hx : 0 ≤ x
 ·have hm : max x 0 = x := by omega
  rw [hm]
  go_enter Tryz.func145, Tryz.ntmps145
  go_wp2
  go_region
  go_wp2
  all_goals (go_ret2; exact ⟨by simp [hx], (Keeps.refl _ _).drew⟩)
 ·have hm : max x 0 = 0 := by omega
  rw [hm]
  have hd : decide (0 ≤ x) = false := by simpa using hx
  go_enter Tryz.func145, Tryz.ntmps145
  go_wp2
  go_region
  go_wp2
  all_goals (go_ret2; exact ⟨by simp [hd], (Keeps.refl _ _).drew⟩)
theorem word1_ok (k : Nat) (q : Addr) (x : Int) (w : World) (h1 : w.cell? ⟨k, 0, none⟩ = some (.pointer (some q))) (h2 : w.cell? q = some (.int .u64 x)) :
  Calls Tryz.prog 147 #[pT k 0] w fun e w' => e = .returned (.tuple #[.int .u64 x, .bool true]) ∧ Keeps Nob w w' := by
 go_enter Tryz.func147, Tryz.ntmps147
 go_wp2
 go_ret2
 exact ⟨rfl, Keeps.refl _ _⟩
theorem within_ok (nm f g : Value) (lo hi n : Int) (w : World) :
  Calls Tryz.prog 79 #[.agg #[nm, .int .u64 lo, .int .u64 hi, f, g], .int .u64 n] w fun e w' => e = .returned (.bool (decide (lo ≤ n) && decide (n ≤ hi))) ∧ Keeps Nob w w' := by
 by_cases h1 : lo ≤ n
 ·go_enter Tryz.func79, Tryz.ntmps79
  go_wp2
  go_ret
  exact ⟨by simp [h1], (Keeps.refl _ _).alloc _⟩
 ·have h2 : decide (lo ≤ n) = false := by simpa using h1
  go_enter Tryz.func79, Tryz.ntmps79
  go_wp2
  go_ret
  exact ⟨by simp [h2], (Keeps.refl _ _).alloc _⟩
end
end Go.Proofs.YthmclmbeflbhhaaGreat
namespace Go.Own
section
open Go
noncomputable def opsIn (id : Nat) : Code → Option (Array Oper)
  | .region k ops _ => if k = id then some ops else none
  | .seq a b => (opsIn id a).or (opsIn id b)
  | .cond _ a b => (opsIn id a).or (opsIn id b)
  | .block _ b => opsIn id b
  | .loop b => opsIn id b
  | .rangeFunc _ _ a b => (opsIn id a).or (opsIn id b)
  | _ => none
noncomputable def opsOf (f : Func) (id : Nat) : Array Oper := ((f.body.bind (opsIn id)).getD #[])
end
end Go.Own
namespace Go.Proofs.YthmclmbeflbhhaaGreat
section
open Go Go.Own
noncomputable def opsFields : Array Oper := opsOf Tryz.f78 1
end
end Go.Proofs.YthmclmbeflbhhaaGreat
