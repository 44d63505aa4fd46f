/-
  ParamsSet proved: for every input the law returns true, and each argument reads as it did. Conditions: none.
-/
import Derived.Test.YtpflmldmbpnllaaDoorParamsSetP4
namespace Go.Proofs.YtpflmldmbpnllaaDoor
set_option maxRecDepth 100000
set_option maxHeartbeats 4000000
open Go Go.RowKit Go.Own Go.Shelf
theorem rd_end {w : World} {F : Nat → Prop} {b : Nat} {l : List UInt8} {s : RS} {fe fp : Int} (h : Rd w F b l s) (h1 : (s.fin l).1 = fe) (h2 : (s.fin l).2 = fp) : Calls Tryd.prog 58 #[.pointer (some ⟨b, 0, none⟩)] w fun e w' => e = .returned (.agg #[.int .i64 fe, .int .i64 fp]) ∧ Keeps Nob w w' := h1 ▸ h2 ▸ h.fin
theorem u_range (i : Nat) : (0 ≤ parLo[i]?.getD 0) ∧ (parLo[i]?.getD 0 ≤ 9223372036854775807) ∧ (0 ≤ parHi[i]?.getD 0) ∧ (parHi[i]?.getD 0 ≤ 9223372036854775807) := by
  have h1 := lo_nn i
  have h2 := hi_nn i
  have h3 := parHi_le i
  omega
noncomputable def qc55_0 (n : Nat) : Code := partOf Tryd.f29 n
noncomputable abbrev qo55_0 (n k : Nat) : Oper := (opsAt (qc55_0 n)).getD k default
theorem pRead_ok (v0 : Value) (l : List UInt8) (w : World) (hx : BytesAt w v0 l) (hl : l.length ≤ 100000000) :
    Calls Tryd.prog 29 #[v0] w (fun e w' => e = .returned (.tuple #[.agg (pbread l).1.cells, .agg #[.int .i64 (pbread l).2.1, .int .i64 (pbread l).2.2]]) ∧ Keeps Nob w w') := by
  have K0 : Keeps Nob w w := Keeps.refl _ _
  refine sy_enter (qc55_0 1) ⟨#[v0, ud, ud, ud, ud, ud, ud, ud, ud, ud, ud, ud, ud, ud, ud, ud, ud, ud, ud, ud, ud, ud, ud, ud, ud, ud, ud, ud, ud, ud, ud, ud, ud, ud, ud, ud, ud, ud, ud, ud, ud, ud, ud, ud, ud, ud, ud, ud, ud, ud, ud, ud, ud, ud, ud], []⟩ Tryd.func29 (by kernel_rfl) (by kernel_rfl) <| qr_ [0, 1] <| pal 24 (#[.int .i64 0, .int .i64 0, .int .i64 0, .int .i64 0, .int .i64 0, .int .i64 0, .int .i64 0, .int .u64 0, .int .u64 0, .int .i64 0, .int .u64 0]) (.agg (#[.int .i64 0, .int .i64 0, .int .i64 0, .int .i64 0, .int .i64 0, .int .i64 0, .int .i64 0, .int .u64 0, .int .u64 0, .int .i64 0, .int .u64 0])) fun V1 r1 er1 h2 kV1 => ?_
  have n3 : w.heap.size ≤ r1 := er1 ▸ K0.size
  have K4 := K0.nn kV1
  have z5 := kV1.size
  refine pal 46 (#[.int .i64 0, .int .i64 0]) (.agg (#[.int .i64 0, .int .i64 0])) fun V6 r2 er2 h7 kV6 => ?_
  have n8 : r1 < r2 := er2 ▸ lt_of_block h2
  have n9 : w.heap.size ≤ r2 := er2 ▸ K4.size
  have h10 := kV6.bk h2
  have K11 := K4.nn kV6
  have z12 := kV6.size
  refine eqr_ [0] <| pal 24 (#[.int .i64 0, .int .i64 0, .int .i64 0, .int .i64 0, .int .i64 0, .int .i64 0, .int .i64 0, .int .u64 0, .int .u64 0, .int .i64 0, .int .u64 0]) (.agg (#[.int .i64 0, .int .i64 0, .int .i64 0, .int .i64 0, .int .i64 0, .int .i64 0, .int .i64 0, .int .u64 0, .int .u64 0, .int .i64 0, .int .u64 0])) fun V13 gp egp h14 kV13 => ?_
  have n15 : r1 < gp := egp ▸ lt_of_block h10
  have n16 : r2 < gp := egp ▸ lt_of_block h7
  have n17 : w.heap.size ≤ gp := egp ▸ K11.size
  have h18 := kV13.bk h10
  have h19 := kV13.bk h7
  have K20 := K11.nn kV13
  have z21 := kV13.size
  refine eqr_ [0, 1, 2] <| pkq (v0) ?_
  have lt_r1 := lt_of_block h18
  have lt_r2 := lt_of_block h19
  have lt_gp := lt_of_block h14
  refine pcq 54 #[v0] Tryd.func54 ((rd_new v0 l _ (hx.keepsN K20) hl).mono ?_)
  rintro e V22 ⟨b, F0, rfl, hR0, hge0, kV22⟩
  have hlt0 := hR0.lt
  refine ⟨_, rfl, ?_⟩
  have h23 := kV22.bk h18
  have h24 := kV22.bk h19
  have h25 := kV22.bk h14
  have K26 := K20.nn kV22
  have z27 := kV22.size
  refine pkq (pT b 0) <| eq_ <| qr_ [0, 1, 2] ?_
  refine pcq 37 #[pT gp 0] Tryd.func37 ((fields_new gp _).mono ?_)
  rintro e V28 ⟨g, ks, rfl, hF, hgl, kV28, hgn, hkn⟩
  obtain ⟨NB, hNB⟩ : ∃ n, V28.heap.size = n := ⟨_, rfl⟩
  have hFk := fun n (hn : n < 11) => FieldsAt.klt hF n hn
  have hFg := FieldsAt.glt hF
  have hks : ∀ n, n < 11 → ks n ≠ gp := fun n hn => by have := hkn n hn; omega
  have hd0 : ∀ j, F0 j → w.heap.size ≤ j ∧ j ≠ r1 ∧ j ≠ r2 ∧ j ≠ gp ∧ j ≠ g := fun j h => by have := hge0 j h; have := hlt0 j h; omega
  have hd0k : ∀ j, F0 j → ∀ n, n < 11 → j ≠ ks n := fun j h n hn e => by have := hlt0 j h; have := hkn n hn; omega
  refine ⟨_, rfl, ?_⟩
  have h29 := kV28.bk h23
  have h30 := kV28.bk h24
  have h31 := kV28.bk h25
  have h32 : Rd V28 F0 b l ⟨0, 0⟩ := hR0.keepsN kV28
  have K33 := K26.nn kV28
  have z34 := kV28.size
  refine ppq (.int .i64 11) (exec_len (.tmp 12) 61 _ (by kernel_rfl) Tryd.underlying61 (some ⟨g, 0, none⟩) 11 11 (by kernel_rfl)) <| pkq (.int .i64 0) <| et_ <| b_ 0 ?_
  refine sy_loop (qc55_0 244) (fun a V => ∃ (i : Nat) (vs : List Int) (s : RS) (F0 : Nat → Prop) (u6 u7 u8 u15 u16 u17 u18 u19 u20 u21 u22 u23 u24 u25 u26 u27 u28 u29 u30 u31 u32 u33 u34 u35 u36 u37 u38 u39 u40 u41 u42 u43 u44 u45 : Value), (a = ⟨#[v0, ud, pT r1 0, pT r2 0, pT gp 0, pT b 0, u6, u7, u8, ud, v0, pT b 0, .slice (some ⟨g, 0, none⟩) 11 11, .int .i64 11, iN i, u15, u16, u17, u18, u19, u20, u21, u22, u23, u24, u25, u26, u27, u28, u29, u30, u31, u32, u33, u34, u35, u36, u37, u38, u39, u40, u41, u42, u43, u44, u45, ud, ud, ud, ud, ud, ud, ud, ud, ud], []⟩) ∧ (i ≤ 11) ∧ (vs.length = i) ∧ (bgo (11 - i) vs l s = bres l) ∧ (∀ j, F0 j → w.heap.size ≤ j ∧ j ≠ r1 ∧ j ≠ r2 ∧ j ≠ gp ∧ j ≠ g) ∧ (∀ j, F0 j → ∀ n, n < 11 → j ≠ ks n) ∧ (V.heap[r1]? = some (.cells (#[.int .i64 0, .int .i64 0, .int .i64 0, .int .i64 0, .int .i64 0, .int .i64 0, .int .i64 0, .int .u64 0, .int .u64 0, .int .i64 0, .int .u64 0]) 24 (0, 0))) ∧ (V.heap[r2]? = some (.cells (#[.int .i64 0, .int .i64 0]) 46 (0, 0))) ∧ (V.heap[gp]? = some (.cells ((parOfL vs).cells) 24 (0, 0))) ∧ (Rd V F0 b l s) ∧ (FieldsAt V g gp ks) ∧ (NB ≤ V.heap.size) ∧ (Keeps Nob w V)) (fun a _ => 11 - (intOf (a.tmps.getD 14 undef)).toNat) (by kernel_rfl) ?_ ?_
  · exact ⟨0, [], ⟨0, 0⟩, F0, undef, undef, undef, undef, undef, undef, undef, undef, undef, undef, undef, undef, undef, undef, undef, undef, undef, undef, undef, undef, undef, undef, undef, undef, undef, undef, undef, undef, undef, undef, undef, undef, undef, undef, by kernel_rfl, by omega, rfl, bgo_0 l, hd0, hd0k, h29, h30, h31, h32, hF, (Nat.le_of_eq hNB.symm), K33⟩
  · rintro a V35 ⟨i, vs, s, F0, u6, u7, u8, u15, u16, u17, u18, u19, u20, u21, u22, u23, u24, u25, u26, u27, u28, u29, u30, u31, u32, u33, u34, u35, u36, u37, u38, u39, u40, u41, u42, u43, u44, u45, rfl, hi, hv, hp, hd, hdk, h36, h37, h38, h39, h40, h41, K42⟩
    rcases bread_cases i vs l s hi with ⟨hi2, hi1, hlt5⟩ | ⟨hi2, hi1, hlt5⟩ | ⟨hi2, hi1⟩ | ⟨eq_i, hfin⟩ | ⟨eq_i, hfin⟩
    · skip
      have hltR := Rd.lt h39
      skip
      obtain ⟨lo, hlo⟩ : ∃ x, parLo[i]?.getD 0 = x := ⟨_, rfl⟩
      obtain ⟨hi, hhi⟩ : ∃ x, parHi[i]?.getD 0 = x := ⟨_, rfl⟩
      obtain ⟨n, hn⟩ : ∃ x, brn l i s = x := ⟨_, rfl⟩
      obtain ⟨s1, hs1⟩ : ∃ x, (brd l i s).2 = x := ⟨_, rfl⟩
      have hn9 : n ≤ 1000000000 := hn ▸ brn_le l i s
      have hr0 := u_range i
      obtain ⟨q, hq⟩ : ∃ q, parOfL (vs ++ [((n : Nat) : Int)]) = q := ⟨_, rfl⟩
      have ho := ord_iff (vs := vs) (n := ((n : Nat) : Int)) (by omega)
      rw [hq] at ho
      have ho2 : q.unb < q.mage := by rw [ho.1, ho.2, ← hn]; exact hlt5
      obtain ⟨sn, hsn0⟩ : ∃ x, bst l vs i s = x := ⟨_, rfl⟩
      have hpe := bgo_step hi2 hv hp
      rw [hn, hsn0] at hpe
      have hsn : s1.fail 9 s.pos = sn := by rw [← hsn0, bst_ord hi1 hlt5, hs1]
      refine qr_ [0] <| ppq (.bool true) (dct ((((i : Nat) : Int)) < ((11) : Int)) (by omega)) <| eq_ <| y_ <| s_ <| tq_ <| b_ 1 <| qr_ [0, 1, 2, 3, 4, 5] <| pkq (iN i) <| ppq (pT g (i * 5)) (exec_cast (v := pT g (0 + i * 5)) (by simp) (exec_indexAt_slice 61 (.tmp 12) (.tmp 14) (by kernel_rfl) g 0 11 11 (by kernel_rfl) .i64 i (by kernel_rfl) _ 5 Tryd.underlying61 (by kernel_rfl) (by omega))) <| ppq (.agg (fieldC i (ks i)).toArray) (exec_load_mid 67 (.tmp 17) (by kernel_rfl) g (i * 5) (by kernel_rfl) (fieldC i (ks i)) _ (FieldsAt.mid h40 hi2) Tryd.underlying67 rfl (by kernel_rfl)) <| pal 67 (#[.string ⟨#[]⟩, .int .u64 0, .int .u64 0, .nilFunc, .nilFunc]) (.agg (#[.string ⟨#[]⟩, .int .u64 0, .int .u64 0, .nilFunc, .nilFunc])) fun V43 gf egf h44 kV43 => ?_
      have n45 : r1 < gf := egf ▸ lt_of_block h36
      have n46 : r2 < gf := egf ▸ lt_of_block h37
      have n47 : gp < gf := egf ▸ lt_of_block h38
      have n48 : w.heap.size ≤ gf := egf ▸ K42.size
      have h49 := kV43.bk h36
      have h50 := kV43.bk h37
      have h51 := kV43.bk h38
      have h52 : Rd V43 F0 b l s := h39.keepsN kV43
      have h53 : FieldsAt V43 g gp ks := h40.keepsN kV43
      have h54 : NB ≤ V43.heap.size := Nat.le_trans h41 kV43.size
      have K55 := K42.nn kV43
      have z56 := kV43.size
      refine pkq (iN i) <| pst 67 gf ((fieldC i (ks i)).toArray) h44 (by kernel_rfl) rfl (by kernel_rfl) fun V57 h58 kV57 => ?_
      have h59 := kV57.bO h49
      have h60 := kV57.bO h50
      have h61 := kV57.bO h51
      have h62 : Rd V57 F0 b l s := h52.keeps kV57 (fun j hj e => by have := hltR j hj; unfold Own.One at e; omega)
      have h63 : FieldsAt V57 g gp ks := FieldsAt.keepsB hF h53 kV57 (fun j hj e => by unfold Own.One at e; omega)
      have h64 : NB ≤ V57.heap.size := Nat.le_trans h54 kV57.size
      have K65 := K55.nO kV57
      have z66 := kV57.size
      refine eqr_ [0, 1, 2] <| pkq (pT b 0) ?_
      have hda : ∀ j, F0 j → w.heap.size ≤ j ∧ j ≠ r1 ∧ j ≠ r2 ∧ j ≠ gp ∧ j ≠ g ∧ j ≠ gf := fun j h => by have := hd j h; have := hltR j h; omega
      have hdak := hdk
      refine pcq 55 #[pT b 0] Tryd.func55 ((Rd.at_ h62).mono ?_)
      rintro e w1 ⟨rfl, rfl⟩
      refine ⟨_, rfl, ?_⟩
      refine pkq (.int .i64 s.pos) <| eq_ <| sy_np <| sy_reg <| an_begin 7 12 (opsAt (qc55_0 31334)) (fun W => (W.heap[gf]? = some (.cells ((fieldC i (ks i)).toArray) 67 (0, 0)))) #[false, false, false, false, false, false, false, false, false, false, false, false] (by kernel_rfl) (by kernel_rfl) (by kernel_rfl) (by kernel_rfl) ?_
      obtain ⟨V67, eV67, kV67⟩ := drew_step V57
      rw [eV67]
      clear eV67
      have h68 := kV67.bk h59
      have h69 := kV67.bk h60
      have h70 := kV67.bk h61
      have h71 : Rd V67 F0 b l s := h62.keepsN kV67
      have h72 : FieldsAt V67 g gp ks := h63.keepsN kV67
      have h73 : NB ≤ V67.heap.size := Nat.le_trans h64 kV67.size
      have h74 := kV67.bk h58
      have K75 := K65.nn kV67
      have z76 := kV67.size
      refine akq 0 (pT gf 4) h74 <| avq 1 (.func (.func (parSet[i]?.getD 0)) #[] #[.pointer (some ⟨ks i, 0, none⟩)]) (fun W hS => ldc 65 gf 4 (rc (hS) (rfl))) h74 <| akq 2 (pT b 0) h74 <| akq 3 (pT gf 1) h74 <| avq 4 (.int .u64 (parLoU[i]?.getD 0)) (fun W hS => ldc 22 gf 1 (rc (hS) (rfl))) h74 <| avq 5 (.int .i64 lo) (fun W hS => exec_convert 22 3 (.tmp 25) (by kernel_rfl) (.int .u64 (parLoU[i]?.getD 0)) (by kernel_rfl) (hlo ▸ conv_u64 (parLo[i]?.getD 0) _ hr0.1 hr0.2.1)) h74 <| akq 6 (pT gf 2) h74 <| avq 7 (.int .u64 (parHiU[i]?.getD 0)) (fun W hS => ldc 22 gf 2 (rc (hS) (rfl))) h74 <| avq 8 (.int .i64 hi) (fun W hS => exec_convert 22 3 (.tmp 28) (by kernel_rfl) (.int .u64 (parHiU[i]?.getD 0)) (by kernel_rfl) (hhi ▸ conv_u64 (parHi[i]?.getD 0) _ hr0.2.2.1 hr0.2.2.2)) h74 <| an_o 9 ?_
      have ltb_r17 := lt_of_block h68
      have ltb_r27 := lt_of_block h69
      have ltb_gp7 := lt_of_block h70
      have ltb_gf7 := lt_of_block h74
      have szb_7 := h73
      have szk_7 := K75.size
      refine ncq 56 #[pT b 0, .int .i64 lo, .int .i64 hi] Tryd.func56 ((Rd.num h71 hlo hhi hn hs1).mono ?_)
      rintro e V77 ⟨rfl, F1, hRV77, hSV77⟩
      have hd1 : ∀ j, F1 j → w.heap.size ≤ j ∧ j ≠ r1 ∧ j ≠ r2 ∧ j ≠ gp ∧ j ≠ g ∧ j ≠ gf := fun j h => (hSV77.2 j h).elim (hda j) (fun h => by omega)
      have hd1k : ∀ j, F1 j → ∀ n, n < 11 → j ≠ ks n := fun j h n hn e => (hSV77.2 j h).elim (fun h => hdak j h n hn e) (fun h => by have := hFk n hn; omega)
      refine ⟨_, rfl, ?_⟩
      have h78 : V77.heap[r1]? = some (.cells (#[.int .i64 0, .int .i64 0, .int .i64 0, .int .i64 0, .int .i64 0, .int .i64 0, .int .i64 0, .int .u64 0, .int .u64 0, .int .i64 0, .int .u64 0]) 24 (0, 0)) := (hSV77.1.block r1 (lt_of_block h68) (fun e => by have := hda _ e; omega)).trans h68
      have h79 : V77.heap[r2]? = some (.cells (#[.int .i64 0, .int .i64 0]) 46 (0, 0)) := (hSV77.1.block r2 (lt_of_block h69) (fun e => by have := hda _ e; omega)).trans h69
      have h80 : V77.heap[gp]? = some (.cells ((parOfL vs).cells) 24 (0, 0)) := (hSV77.1.block gp (lt_of_block h70) (fun e => by have := hda _ e; omega)).trans h70
      have h81 : FieldsAt V77 g gp ks := FieldsAt.keeps (N := 0) h72 hSV77.1 (fun e => by have := hda _ e; omega) (fun n hn e => hdak _ e n hn rfl)
      have h82 : NB ≤ V77.heap.size := Nat.le_trans h73 hSV77.1.size
      have h83 : V77.heap[gf]? = some (.cells ((fieldC i (ks i)).toArray) 67 (0, 0)) := (hSV77.1.block gf (lt_of_block h74) (fun e => by have := hda _ e; omega)).trans h74
      have K84 : Keeps Nob w V77 := K75.then hSV77.1 (fun i hi hm => absurd hi (by have := hda i hm; omega))
      have z85 := hSV77.1.size
      refine ⟨h83, ?_⟩
      refine avq 10 (uN n) (fun W hS => exec_convert 3 22 (.tmp 30) (by kernel_rfl) _ (by kernel_rfl) (conv_i64 _ _ (by omega) (by omega))) h83 <| an_o 11 ?_
      refine on_callV (qo55_0 31334 11) (.tmp 22) (parSet[i]?.getD 0) #[] #[.pointer (some ⟨ks i, 0, none⟩)] #[uN n, .pointer (some ⟨ks i, 0, none⟩)] (by kernel_rfl) (by kernel_rfl) (by kernel_rfl) (by kernel_rfl) (by kernel_rfl) (set_enters i hi2) ((setp_ok vs i gp (ks i) n _ hv hi2 hn9 (FieldsAt.box h81 i hi2) h80 (hks i hi2)).mono ?_)
      rintro e V86 ⟨rfl, hq2, kV86⟩
      rw [hq] at hq2
      refine ⟨_, rfl, ?_⟩
      have h87 := kV86.bO h78
      have h88 := kV86.bO h79
      have h89 : FieldsAt V86 g gp ks := FieldsAt.keeps (N := 0) h81 kV86 (fun e => by unfold Own.One at e; omega) (fun n hn e => by unfold Own.One at e; have := hks n hn; omega)
      have h90 : NB ≤ V86.heap.size := Nat.le_trans h82 kV86.size
      have h91 := kV86.bO h83
      have h92 : Rd V86 F1 b l s1 := hRV77.keeps kV86 (fun j hj e => by have := hd1 j hj; unfold Own.One at e; omega)
      have K93 := K84.nO kV86
      have z94 := kV86.size
      refine ⟨h91, ?_⟩
      refine an_end (by kernel_rfl) <| tqr_ [0, 1, 2, 3, 4, 5, 6, 7, 8] <| pkq (iN i) <| ppq (.bool true) (eqt (((i : Nat) : Int)) ((1) : Int) (by omega)) <| pkq (.bool true) <| pkq (pT gp 1) <| ppq (.int .i64 q.mage) (ldc 3 gp 1 (rc (hq2) (rfl))) <| pkq (pT gp 0) <| ppq (.int .i64 q.unb) (ldc 3 gp 0 (rc (hq2) (rfl))) <| ppq (.bool true) (dct (((q.mage) : Int) > ((q.unb) : Int)) (by omega)) <| pkq (.bool true) <| ps_end <| sy_a ⟨#[v0, ud, pT r1 0, pT r2 0, pT gp 0, pT b 0, iN i, pT gf 0, .int .i64 s.pos, ud, v0, pT b 0, .slice (some ⟨g, 0, none⟩) 11 11, .int .i64 11, iN i, .bool true, iN i, pT g (i * 5), .agg (fieldC i (ks i)).toArray, pT b 0, .int .i64 s.pos, pT gf 4, .func (.func (parSet[i]?.getD 0)) #[] #[.pointer (some ⟨ks i, 0, none⟩)], pT b 0, pT gf 1, .int .u64 (parLoU[i]?.getD 0), .int .i64 lo, pT gf 2, .int .u64 (parHiU[i]?.getD 0), .int .i64 hi, iN n, uN n, .tuple #[], iN i, .bool true, .bool true, pT gp 1, .int .i64 q.mage, pT gp 0, .int .i64 q.unb, .bool true, .bool true, u42, u43, u44, u45, ud, ud, ud, ud, ud, ud, ud, ud, ud], []⟩ <| then_n ?_
      refine y_ <| r_ [0, 1, 2] <| pkq (pT b 0) <| pkq (.int .i64 s.pos) ?_
      have ltb_r19 := lt_of_block h87
      have ltb_r29 := lt_of_block h88
      have ltb_gp9 := lt_of_block hq2
      have ltb_gf9 := lt_of_block h91
      have szb_9 := h90
      have szk_9 := K93.size
      refine pcq 57 #[pT b 0, .int .i64 9, .int .i64 s.pos] Tryd.func57 ((Rd.fail h92 9 s.pos).mono ?_)
      rintro e V95 ⟨⟨rv, rfl⟩, Fn, hRV95, hSV95⟩
      have hdn : ∀ j, Fn j → w.heap.size ≤ j ∧ j ≠ r1 ∧ j ≠ r2 ∧ j ≠ gp ∧ j ≠ g ∧ j ≠ gf := fun j h => (hSV95.2 j h).elim (hd1 j) (fun h => by omega)
      have hdnk : ∀ j, Fn j → ∀ n, n < 11 → j ≠ ks n := fun j h n hn e => (hSV95.2 j h).elim (fun h => hd1k j h n hn e) (fun h => by have := hFk n hn; omega)
      refine ⟨_, rfl, ?_⟩
      have h96 : V95.heap[r1]? = some (.cells (#[.int .i64 0, .int .i64 0, .int .i64 0, .int .i64 0, .int .i64 0, .int .i64 0, .int .i64 0, .int .u64 0, .int .u64 0, .int .i64 0, .int .u64 0]) 24 (0, 0)) := (hSV95.1.block r1 (lt_of_block h87) (fun e => by have := hd1 _ e; omega)).trans h87
      have h97 : V95.heap[r2]? = some (.cells (#[.int .i64 0, .int .i64 0]) 46 (0, 0)) := (hSV95.1.block r2 (lt_of_block h88) (fun e => by have := hd1 _ e; omega)).trans h88
      have h98 : FieldsAt V95 g gp ks := FieldsAt.keeps (N := 0) h89 hSV95.1 (fun e => by have := hd1 _ e; omega) (fun n hn e => hd1k _ e n hn rfl)
      have h99 : NB ≤ V95.heap.size := Nat.le_trans h90 hSV95.1.size
      have h101 : V95.heap[gp]? = some (.cells q.cells 24 (0, 0)) := (hSV95.1.block gp (lt_of_block hq2) (fun e => by have := hd1 _ e; omega)).trans hq2
      have K102 : Keeps Nob w V95 := K93.then hSV95.1 (fun i hi hm => absurd hi (by have := hd1 i hm; omega))
      have z103 := hSV95.1.size
      refine ps_end <| blk_n <| tr_ [0, 1] <| ppq (iN (i + 1)) (exec_cast (congrArg (Value.int .i64) (wrapN (i + 1) (by omega))) (by kernel_rfl)) <| pkq (iN (i + 1)) <| et_ ?_
      refine ⟨⟨(i + 1), (vs ++ [((n : Nat) : Int)]), sn, Fn, (iN i), (pT gf 0), (.int .i64 s.pos), (.bool true), (iN i), (pT g (i * 5)), (.agg (fieldC i (ks i)).toArray), (pT b 0), (.int .i64 s.pos), (pT gf 4), (.func (.func (parSet[i]?.getD 0)) #[] #[.pointer (some ⟨ks i, 0, none⟩)]), (pT b 0), (pT gf 1), (.int .u64 (parLoU[i]?.getD 0)), (.int .i64 lo), (pT gf 2), (.int .u64 (parHiU[i]?.getD 0)), (.int .i64 hi), (iN n), (uN n), (.tuple #[]), (iN i), (.bool true), (.bool true), (pT gp 1), (.int .i64 q.mage), (pT gp 0), (.int .i64 q.unb), (.bool true), (.bool true), (pT b 0), (.int .i64 s.pos), rv, (iN (i + 1)), by kernel_rfl, by omega, by simp [hv], hpe, fun j h => by have := hdn j h; omega, hdnk, h96, h97, (hq ▸ h101), (hsn ▸ hRV95), h98, h99, K102⟩, ?_⟩
      exact lt_meas (x := 11 - (i + 1)) (y := 11 - i) (by kernel_rfl) (by kernel_rfl) (by omega)
    · skip
      have hltR := Rd.lt h39
      skip
      obtain ⟨lo, hlo⟩ : ∃ x, parLo[i]?.getD 0 = x := ⟨_, rfl⟩
      obtain ⟨hi, hhi⟩ : ∃ x, parHi[i]?.getD 0 = x := ⟨_, rfl⟩
      obtain ⟨n, hn⟩ : ∃ x, brn l i s = x := ⟨_, rfl⟩
      obtain ⟨s1, hs1⟩ : ∃ x, (brd l i s).2 = x := ⟨_, rfl⟩
      have hn9 : n ≤ 1000000000 := hn ▸ brn_le l i s
      have hr0 := u_range i
      obtain ⟨q, hq⟩ : ∃ q, parOfL (vs ++ [((n : Nat) : Int)]) = q := ⟨_, rfl⟩
      have ho := ord_iff (vs := vs) (n := ((n : Nat) : Int)) (by omega)
      rw [hq] at ho
      have ho2 : ¬ q.unb < q.mage := by rw [ho.1, ho.2, ← hn]; exact hlt5
      obtain ⟨sn, hsn0⟩ : ∃ x, bst l vs i s = x := ⟨_, rfl⟩
      have hpe := bgo_step hi2 hv hp
      rw [hn, hsn0] at hpe
      have hsn : s1 = sn := by rw [← hsn0, bst_not (fun x => hlt5 x.2), hs1]
      refine qr_ [0] <| ppq (.bool true) (dct ((((i : Nat) : Int)) < ((11) : Int)) (by omega)) <| eq_ <| y_ <| s_ <| tq_ <| b_ 1 <| qr_ [0, 1, 2, 3, 4, 5] <| pkq (iN i) <| ppq (pT g (i * 5)) (exec_cast (v := pT g (0 + i * 5)) (by simp) (exec_indexAt_slice 61 (.tmp 12) (.tmp 14) (by kernel_rfl) g 0 11 11 (by kernel_rfl) .i64 i (by kernel_rfl) _ 5 Tryd.underlying61 (by kernel_rfl) (by omega))) <| ppq (.agg (fieldC i (ks i)).toArray) (exec_load_mid 67 (.tmp 17) (by kernel_rfl) g (i * 5) (by kernel_rfl) (fieldC i (ks i)) _ (FieldsAt.mid h40 hi2) Tryd.underlying67 rfl (by kernel_rfl)) <| pal 67 (#[.string ⟨#[]⟩, .int .u64 0, .int .u64 0, .nilFunc, .nilFunc]) (.agg (#[.string ⟨#[]⟩, .int .u64 0, .int .u64 0, .nilFunc, .nilFunc])) fun V104 gf egf h105 kV104 => ?_
      have n106 : r1 < gf := egf ▸ lt_of_block h36
      have n107 : r2 < gf := egf ▸ lt_of_block h37
      have n108 : gp < gf := egf ▸ lt_of_block h38
      have n109 : w.heap.size ≤ gf := egf ▸ K42.size
      have h110 := kV104.bk h36
      have h111 := kV104.bk h37
      have h112 := kV104.bk h38
      have h113 : Rd V104 F0 b l s := h39.keepsN kV104
      have h114 : FieldsAt V104 g gp ks := h40.keepsN kV104
      have h115 : NB ≤ V104.heap.size := Nat.le_trans h41 kV104.size
      have K116 := K42.nn kV104
      have z117 := kV104.size
      refine pkq (iN i) <| pst 67 gf ((fieldC i (ks i)).toArray) h105 (by kernel_rfl) rfl (by kernel_rfl) fun V118 h119 kV118 => ?_
      have h120 := kV118.bO h110
      have h121 := kV118.bO h111
      have h122 := kV118.bO h112
      have h123 : Rd V118 F0 b l s := h113.keeps kV118 (fun j hj e => by have := hltR j hj; unfold Own.One at e; omega)
      have h124 : FieldsAt V118 g gp ks := FieldsAt.keepsB hF h114 kV118 (fun j hj e => by unfold Own.One at e; omega)
      have h125 : NB ≤ V118.heap.size := Nat.le_trans h115 kV118.size
      have K126 := K116.nO kV118
      have z127 := kV118.size
      refine eqr_ [0, 1, 2] <| pkq (pT b 0) ?_
      have hda : ∀ j, F0 j → w.heap.size ≤ j ∧ j ≠ r1 ∧ j ≠ r2 ∧ j ≠ gp ∧ j ≠ g ∧ j ≠ gf := fun j h => by have := hd j h; have := hltR j h; omega
      have hdak := hdk
      refine pcq 55 #[pT b 0] Tryd.func55 ((Rd.at_ h123).mono ?_)
      rintro e w1 ⟨rfl, rfl⟩
      refine ⟨_, rfl, ?_⟩
      refine pkq (.int .i64 s.pos) <| eq_ <| sy_np <| sy_reg <| an_begin 7 12 (opsAt (qc55_0 31334)) (fun W => (W.heap[gf]? = some (.cells ((fieldC i (ks i)).toArray) 67 (0, 0)))) #[false, false, false, false, false, false, false, false, false, false, false, false] (by kernel_rfl) (by kernel_rfl) (by kernel_rfl) (by kernel_rfl) ?_
      obtain ⟨V128, eV128, kV128⟩ := drew_step V118
      rw [eV128]
      clear eV128
      have h129 := kV128.bk h120
      have h130 := kV128.bk h121
      have h131 := kV128.bk h122
      have h132 : Rd V128 F0 b l s := h123.keepsN kV128
      have h133 : FieldsAt V128 g gp ks := h124.keepsN kV128
      have h134 : NB ≤ V128.heap.size := Nat.le_trans h125 kV128.size
      have h135 := kV128.bk h119
      have K136 := K126.nn kV128
      have z137 := kV128.size
      refine akq 0 (pT gf 4) h135 <| avq 1 (.func (.func (parSet[i]?.getD 0)) #[] #[.pointer (some ⟨ks i, 0, none⟩)]) (fun W hS => ldc 65 gf 4 (rc (hS) (rfl))) h135 <| akq 2 (pT b 0) h135 <| akq 3 (pT gf 1) h135 <| avq 4 (.int .u64 (parLoU[i]?.getD 0)) (fun W hS => ldc 22 gf 1 (rc (hS) (rfl))) h135 <| avq 5 (.int .i64 lo) (fun W hS => exec_convert 22 3 (.tmp 25) (by kernel_rfl) (.int .u64 (parLoU[i]?.getD 0)) (by kernel_rfl) (hlo ▸ conv_u64 (parLo[i]?.getD 0) _ hr0.1 hr0.2.1)) h135 <| akq 6 (pT gf 2) h135 <| avq 7 (.int .u64 (parHiU[i]?.getD 0)) (fun W hS => ldc 22 gf 2 (rc (hS) (rfl))) h135 <| avq 8 (.int .i64 hi) (fun W hS => exec_convert 22 3 (.tmp 28) (by kernel_rfl) (.int .u64 (parHiU[i]?.getD 0)) (by kernel_rfl) (hhi ▸ conv_u64 (parHi[i]?.getD 0) _ hr0.2.2.1 hr0.2.2.2)) h135 <| an_o 9 ?_
      have ltb_r17 := lt_of_block h129
      have ltb_r27 := lt_of_block h130
      have ltb_gp7 := lt_of_block h131
      have ltb_gf7 := lt_of_block h135
      have szb_7 := h134
      have szk_7 := K136.size
      refine ncq 56 #[pT b 0, .int .i64 lo, .int .i64 hi] Tryd.func56 ((Rd.num h132 hlo hhi hn hs1).mono ?_)
      rintro e V138 ⟨rfl, Fn, hRV138, hSV138⟩
      have hdn : ∀ j, Fn j → w.heap.size ≤ j ∧ j ≠ r1 ∧ j ≠ r2 ∧ j ≠ gp ∧ j ≠ g ∧ j ≠ gf := fun j h => (hSV138.2 j h).elim (hda j) (fun h => by omega)
      have hdnk : ∀ j, Fn j → ∀ n, n < 11 → j ≠ ks n := fun j h n hn e => (hSV138.2 j h).elim (fun h => hdak j h n hn e) (fun h => by have := hFk n hn; omega)
      refine ⟨_, rfl, ?_⟩
      have h139 : V138.heap[r1]? = some (.cells (#[.int .i64 0, .int .i64 0, .int .i64 0, .int .i64 0, .int .i64 0, .int .i64 0, .int .i64 0, .int .u64 0, .int .u64 0, .int .i64 0, .int .u64 0]) 24 (0, 0)) := (hSV138.1.block r1 (lt_of_block h129) (fun e => by have := hda _ e; omega)).trans h129
      have h140 : V138.heap[r2]? = some (.cells (#[.int .i64 0, .int .i64 0]) 46 (0, 0)) := (hSV138.1.block r2 (lt_of_block h130) (fun e => by have := hda _ e; omega)).trans h130
      have h141 : V138.heap[gp]? = some (.cells ((parOfL vs).cells) 24 (0, 0)) := (hSV138.1.block gp (lt_of_block h131) (fun e => by have := hda _ e; omega)).trans h131
      have h142 : FieldsAt V138 g gp ks := FieldsAt.keeps (N := 0) h133 hSV138.1 (fun e => by have := hda _ e; omega) (fun n hn e => hdak _ e n hn rfl)
      have h143 : NB ≤ V138.heap.size := Nat.le_trans h134 hSV138.1.size
      have h144 : V138.heap[gf]? = some (.cells ((fieldC i (ks i)).toArray) 67 (0, 0)) := (hSV138.1.block gf (lt_of_block h135) (fun e => by have := hda _ e; omega)).trans h135
      have K145 : Keeps Nob w V138 := K136.then hSV138.1 (fun i hi hm => absurd hi (by have := hda i hm; omega))
      have z146 := hSV138.1.size
      refine ⟨h144, ?_⟩
      refine avq 10 (uN n) (fun W hS => exec_convert 3 22 (.tmp 30) (by kernel_rfl) _ (by kernel_rfl) (conv_i64 _ _ (by omega) (by omega))) h144 <| an_o 11 ?_
      refine on_callV (qo55_0 31334 11) (.tmp 22) (parSet[i]?.getD 0) #[] #[.pointer (some ⟨ks i, 0, none⟩)] #[uN n, .pointer (some ⟨ks i, 0, none⟩)] (by kernel_rfl) (by kernel_rfl) (by kernel_rfl) (by kernel_rfl) (by kernel_rfl) (set_enters i hi2) ((setp_ok vs i gp (ks i) n _ hv hi2 hn9 (FieldsAt.box h142 i hi2) h141 (hks i hi2)).mono ?_)
      rintro e V147 ⟨rfl, hq2, kV147⟩
      rw [hq] at hq2
      refine ⟨_, rfl, ?_⟩
      have h148 := kV147.bO h139
      have h149 := kV147.bO h140
      have h150 : FieldsAt V147 g gp ks := FieldsAt.keeps (N := 0) h142 kV147 (fun e => by unfold Own.One at e; omega) (fun n hn e => by unfold Own.One at e; have := hks n hn; omega)
      have h151 : NB ≤ V147.heap.size := Nat.le_trans h143 kV147.size
      have h152 := kV147.bO h144
      have h153 : Rd V147 Fn b l s1 := hRV138.keeps kV147 (fun j hj e => by have := hdn j hj; unfold Own.One at e; omega)
      have K154 := K145.nO kV147
      have z155 := kV147.size
      refine ⟨h152, ?_⟩
      refine an_end (by kernel_rfl) <| tqr_ [0, 1, 2, 3, 4, 5, 6, 7, 8] <| pkq (iN i) <| ppq (.bool true) (eqt (((i : Nat) : Int)) ((1) : Int) (by omega)) <| pkq (.bool true) <| pkq (pT gp 1) <| ppq (.int .i64 q.mage) (ldc 3 gp 1 (rc (hq2) (rfl))) <| pkq (pT gp 0) <| ppq (.int .i64 q.unb) (ldc 3 gp 0 (rc (hq2) (rfl))) <| ppq (.bool false) (dcf (((q.mage) : Int) > ((q.unb) : Int)) (by omega)) <| pkq (.bool false) <| ps_end <| sy_a ⟨#[v0, ud, pT r1 0, pT r2 0, pT gp 0, pT b 0, iN i, pT gf 0, .int .i64 s.pos, ud, v0, pT b 0, .slice (some ⟨g, 0, none⟩) 11 11, .int .i64 11, iN i, .bool true, iN i, pT g (i * 5), .agg (fieldC i (ks i)).toArray, pT b 0, .int .i64 s.pos, pT gf 4, .func (.func (parSet[i]?.getD 0)) #[] #[.pointer (some ⟨ks i, 0, none⟩)], pT b 0, pT gf 1, .int .u64 (parLoU[i]?.getD 0), .int .i64 lo, pT gf 2, .int .u64 (parHiU[i]?.getD 0), .int .i64 hi, iN n, uN n, .tuple #[], iN i, .bool true, .bool true, pT gp 1, .int .i64 q.mage, pT gp 0, .int .i64 q.unb, .bool false, .bool false, u42, u43, u44, u45, ud, ud, ud, ud, ud, ud, ud, ud, ud], []⟩ <| then_n ?_
      refine n_ <| s_ <| blk_n <| tr_ [0, 1] <| ppq (iN (i + 1)) (exec_cast (congrArg (Value.int .i64) (wrapN (i + 1) (by omega))) (by kernel_rfl)) <| pkq (iN (i + 1)) <| et_ ?_
      refine ⟨⟨(i + 1), (vs ++ [((n : Nat) : Int)]), sn, Fn, (iN i), (pT gf 0), (.int .i64 s.pos), (.bool true), (iN i), (pT g (i * 5)), (.agg (fieldC i (ks i)).toArray), (pT b 0), (.int .i64 s.pos), (pT gf 4), (.func (.func (parSet[i]?.getD 0)) #[] #[.pointer (some ⟨ks i, 0, none⟩)]), (pT b 0), (pT gf 1), (.int .u64 (parLoU[i]?.getD 0)), (.int .i64 lo), (pT gf 2), (.int .u64 (parHiU[i]?.getD 0)), (.int .i64 hi), (iN n), (uN n), (.tuple #[]), (iN i), (.bool true), (.bool true), (pT gp 1), (.int .i64 q.mage), (pT gp 0), (.int .i64 q.unb), (.bool false), (.bool false), u42, u43, u44, (iN (i + 1)), by kernel_rfl, by omega, by simp [hv], hpe, fun j h => by have := hdn j h; omega, hdnk, h148, h149, (hq ▸ hq2), (hsn ▸ h153), h150, h151, K154⟩, ?_⟩
      exact lt_meas (x := 11 - (i + 1)) (y := 11 - i) (by kernel_rfl) (by kernel_rfl) (by omega)
    · skip
      have hltR := Rd.lt h39
      skip
      obtain ⟨lo, hlo⟩ : ∃ x, parLo[i]?.getD 0 = x := ⟨_, rfl⟩
      obtain ⟨hi, hhi⟩ : ∃ x, parHi[i]?.getD 0 = x := ⟨_, rfl⟩
      obtain ⟨n, hn⟩ : ∃ x, brn l i s = x := ⟨_, rfl⟩
      obtain ⟨s1, hs1⟩ : ∃ x, (brd l i s).2 = x := ⟨_, rfl⟩
      have hn9 : n ≤ 1000000000 := hn ▸ brn_le l i s
      have hr0 := u_range i
      obtain ⟨q, hq⟩ : ∃ q, parOfL (vs ++ [((n : Nat) : Int)]) = q := ⟨_, rfl⟩
      obtain ⟨sn, hsn0⟩ : ∃ x, bst l vs i s = x := ⟨_, rfl⟩
      have hpe := bgo_step hi2 hv hp
      rw [hn, hsn0] at hpe
      have hsn : s1 = sn := by rw [← hsn0, bst_not (fun x => hi1 x.1), hs1]
      refine qr_ [0] <| ppq (.bool true) (dct ((((i : Nat) : Int)) < ((11) : Int)) (by omega)) <| eq_ <| y_ <| s_ <| tq_ <| b_ 1 <| qr_ [0, 1, 2, 3, 4, 5] <| pkq (iN i) <| ppq (pT g (i * 5)) (exec_cast (v := pT g (0 + i * 5)) (by simp) (exec_indexAt_slice 61 (.tmp 12) (.tmp 14) (by kernel_rfl) g 0 11 11 (by kernel_rfl) .i64 i (by kernel_rfl) _ 5 Tryd.underlying61 (by kernel_rfl) (by omega))) <| ppq (.agg (fieldC i (ks i)).toArray) (exec_load_mid 67 (.tmp 17) (by kernel_rfl) g (i * 5) (by kernel_rfl) (fieldC i (ks i)) _ (FieldsAt.mid h40 hi2) Tryd.underlying67 rfl (by kernel_rfl)) <| pal 67 (#[.string ⟨#[]⟩, .int .u64 0, .int .u64 0, .nilFunc, .nilFunc]) (.agg (#[.string ⟨#[]⟩, .int .u64 0, .int .u64 0, .nilFunc, .nilFunc])) fun V156 gf egf h157 kV156 => ?_
      have n158 : r1 < gf := egf ▸ lt_of_block h36
      have n159 : r2 < gf := egf ▸ lt_of_block h37
      have n160 : gp < gf := egf ▸ lt_of_block h38
      have n161 : w.heap.size ≤ gf := egf ▸ K42.size
      have h162 := kV156.bk h36
      have h163 := kV156.bk h37
      have h164 := kV156.bk h38
      have h165 : Rd V156 F0 b l s := h39.keepsN kV156
      have h166 : FieldsAt V156 g gp ks := h40.keepsN kV156
      have h167 : NB ≤ V156.heap.size := Nat.le_trans h41 kV156.size
      have K168 := K42.nn kV156
      have z169 := kV156.size
      refine pkq (iN i) <| pst 67 gf ((fieldC i (ks i)).toArray) h157 (by kernel_rfl) rfl (by kernel_rfl) fun V170 h171 kV170 => ?_
      have h172 := kV170.bO h162
      have h173 := kV170.bO h163
      have h174 := kV170.bO h164
      have h175 : Rd V170 F0 b l s := h165.keeps kV170 (fun j hj e => by have := hltR j hj; unfold Own.One at e; omega)
      have h176 : FieldsAt V170 g gp ks := FieldsAt.keepsB hF h166 kV170 (fun j hj e => by unfold Own.One at e; omega)
      have h177 : NB ≤ V170.heap.size := Nat.le_trans h167 kV170.size
      have K178 := K168.nO kV170
      have z179 := kV170.size
      refine eqr_ [0, 1, 2] <| pkq (pT b 0) ?_
      have hda : ∀ j, F0 j → w.heap.size ≤ j ∧ j ≠ r1 ∧ j ≠ r2 ∧ j ≠ gp ∧ j ≠ g ∧ j ≠ gf := fun j h => by have := hd j h; have := hltR j h; omega
      have hdak := hdk
      refine pcq 55 #[pT b 0] Tryd.func55 ((Rd.at_ h175).mono ?_)
      rintro e w1 ⟨rfl, rfl⟩
      refine ⟨_, rfl, ?_⟩
      refine pkq (.int .i64 s.pos) <| eq_ <| sy_np <| sy_reg <| an_begin 7 12 (opsAt (qc55_0 31334)) (fun W => (W.heap[gf]? = some (.cells ((fieldC i (ks i)).toArray) 67 (0, 0)))) #[false, false, false, false, false, false, false, false, false, false, false, false] (by kernel_rfl) (by kernel_rfl) (by kernel_rfl) (by kernel_rfl) ?_
      obtain ⟨V180, eV180, kV180⟩ := drew_step V170
      rw [eV180]
      clear eV180
      have h181 := kV180.bk h172
      have h182 := kV180.bk h173
      have h183 := kV180.bk h174
      have h184 : Rd V180 F0 b l s := h175.keepsN kV180
      have h185 : FieldsAt V180 g gp ks := h176.keepsN kV180
      have h186 : NB ≤ V180.heap.size := Nat.le_trans h177 kV180.size
      have h187 := kV180.bk h171
      have K188 := K178.nn kV180
      have z189 := kV180.size
      refine akq 0 (pT gf 4) h187 <| avq 1 (.func (.func (parSet[i]?.getD 0)) #[] #[.pointer (some ⟨ks i, 0, none⟩)]) (fun W hS => ldc 65 gf 4 (rc (hS) (rfl))) h187 <| akq 2 (pT b 0) h187 <| akq 3 (pT gf 1) h187 <| avq 4 (.int .u64 (parLoU[i]?.getD 0)) (fun W hS => ldc 22 gf 1 (rc (hS) (rfl))) h187 <| avq 5 (.int .i64 lo) (fun W hS => exec_convert 22 3 (.tmp 25) (by kernel_rfl) (.int .u64 (parLoU[i]?.getD 0)) (by kernel_rfl) (hlo ▸ conv_u64 (parLo[i]?.getD 0) _ hr0.1 hr0.2.1)) h187 <| akq 6 (pT gf 2) h187 <| avq 7 (.int .u64 (parHiU[i]?.getD 0)) (fun W hS => ldc 22 gf 2 (rc (hS) (rfl))) h187 <| avq 8 (.int .i64 hi) (fun W hS => exec_convert 22 3 (.tmp 28) (by kernel_rfl) (.int .u64 (parHiU[i]?.getD 0)) (by kernel_rfl) (hhi ▸ conv_u64 (parHi[i]?.getD 0) _ hr0.2.2.1 hr0.2.2.2)) h187 <| an_o 9 ?_
      have ltb_r17 := lt_of_block h181
      have ltb_r27 := lt_of_block h182
      have ltb_gp7 := lt_of_block h183
      have ltb_gf7 := lt_of_block h187
      have szb_7 := h186
      have szk_7 := K188.size
      refine ncq 56 #[pT b 0, .int .i64 lo, .int .i64 hi] Tryd.func56 ((Rd.num h184 hlo hhi hn hs1).mono ?_)
      rintro e V190 ⟨rfl, Fn, hRV190, hSV190⟩
      have hdn : ∀ j, Fn j → w.heap.size ≤ j ∧ j ≠ r1 ∧ j ≠ r2 ∧ j ≠ gp ∧ j ≠ g ∧ j ≠ gf := fun j h => (hSV190.2 j h).elim (hda j) (fun h => by omega)
      have hdnk : ∀ j, Fn j → ∀ n, n < 11 → j ≠ ks n := fun j h n hn e => (hSV190.2 j h).elim (fun h => hdak j h n hn e) (fun h => by have := hFk n hn; omega)
      refine ⟨_, rfl, ?_⟩
      have h191 : V190.heap[r1]? = some (.cells (#[.int .i64 0, .int .i64 0, .int .i64 0, .int .i64 0, .int .i64 0, .int .i64 0, .int .i64 0, .int .u64 0, .int .u64 0, .int .i64 0, .int .u64 0]) 24 (0, 0)) := (hSV190.1.block r1 (lt_of_block h181) (fun e => by have := hda _ e; omega)).trans h181
      have h192 : V190.heap[r2]? = some (.cells (#[.int .i64 0, .int .i64 0]) 46 (0, 0)) := (hSV190.1.block r2 (lt_of_block h182) (fun e => by have := hda _ e; omega)).trans h182
      have h193 : V190.heap[gp]? = some (.cells ((parOfL vs).cells) 24 (0, 0)) := (hSV190.1.block gp (lt_of_block h183) (fun e => by have := hda _ e; omega)).trans h183
      have h194 : FieldsAt V190 g gp ks := FieldsAt.keeps (N := 0) h185 hSV190.1 (fun e => by have := hda _ e; omega) (fun n hn e => hdak _ e n hn rfl)
      have h195 : NB ≤ V190.heap.size := Nat.le_trans h186 hSV190.1.size
      have h196 : V190.heap[gf]? = some (.cells ((fieldC i (ks i)).toArray) 67 (0, 0)) := (hSV190.1.block gf (lt_of_block h187) (fun e => by have := hda _ e; omega)).trans h187
      have K197 : Keeps Nob w V190 := K188.then hSV190.1 (fun i hi hm => absurd hi (by have := hda i hm; omega))
      have z198 := hSV190.1.size
      refine ⟨h196, ?_⟩
      refine avq 10 (uN n) (fun W hS => exec_convert 3 22 (.tmp 30) (by kernel_rfl) _ (by kernel_rfl) (conv_i64 _ _ (by omega) (by omega))) h196 <| an_o 11 ?_
      refine on_callV (qo55_0 31334 11) (.tmp 22) (parSet[i]?.getD 0) #[] #[.pointer (some ⟨ks i, 0, none⟩)] #[uN n, .pointer (some ⟨ks i, 0, none⟩)] (by kernel_rfl) (by kernel_rfl) (by kernel_rfl) (by kernel_rfl) (by kernel_rfl) (set_enters i hi2) ((setp_ok vs i gp (ks i) n _ hv hi2 hn9 (FieldsAt.box h194 i hi2) h193 (hks i hi2)).mono ?_)
      rintro e V199 ⟨rfl, hq2, kV199⟩
      rw [hq] at hq2
      refine ⟨_, rfl, ?_⟩
      have h200 := kV199.bO h191
      have h201 := kV199.bO h192
      have h202 : FieldsAt V199 g gp ks := FieldsAt.keeps (N := 0) h194 kV199 (fun e => by unfold Own.One at e; omega) (fun n hn e => by unfold Own.One at e; have := hks n hn; omega)
      have h203 : NB ≤ V199.heap.size := Nat.le_trans h195 kV199.size
      have h204 := kV199.bO h196
      have h205 : Rd V199 Fn b l s1 := hRV190.keeps kV199 (fun j hj e => by have := hdn j hj; unfold Own.One at e; omega)
      have K206 := K197.nO kV199
      have z207 := kV199.size
      refine ⟨h204, ?_⟩
      refine an_end (by kernel_rfl) <| tqr_ [0, 1, 2, 3, 4, 5, 6, 7, 8] <| pkq (iN i) <| ppq (.bool false) (eqf (((i : Nat) : Int)) ((1) : Int) (by omega)) <| pkq (.bool false) <| pnq <| pnq <| pnq <| pnq <| pnq <| pkq (.bool false) <| ps_end <| sy_a ⟨#[v0, ud, pT r1 0, pT r2 0, pT gp 0, pT b 0, iN i, pT gf 0, .int .i64 s.pos, ud, v0, pT b 0, .slice (some ⟨g, 0, none⟩) 11 11, .int .i64 11, iN i, .bool true, iN i, pT g (i * 5), .agg (fieldC i (ks i)).toArray, pT b 0, .int .i64 s.pos, pT gf 4, .func (.func (parSet[i]?.getD 0)) #[] #[.pointer (some ⟨ks i, 0, none⟩)], pT b 0, pT gf 1, .int .u64 (parLoU[i]?.getD 0), .int .i64 lo, pT gf 2, .int .u64 (parHiU[i]?.getD 0), .int .i64 hi, iN n, uN n, .tuple #[], iN i, .bool false, .bool false, ud, ud, ud, ud, ud, .bool false, u42, u43, u44, u45, ud, ud, ud, ud, ud, ud, ud, ud, ud], []⟩ <| then_n ?_
      refine n_ <| s_ <| blk_n <| tr_ [0, 1] <| ppq (iN (i + 1)) (exec_cast (congrArg (Value.int .i64) (wrapN (i + 1) (by omega))) (by kernel_rfl)) <| pkq (iN (i + 1)) <| et_ ?_
      refine ⟨⟨(i + 1), (vs ++ [((n : Nat) : Int)]), sn, Fn, (iN i), (pT gf 0), (.int .i64 s.pos), (.bool true), (iN i), (pT g (i * 5)), (.agg (fieldC i (ks i)).toArray), (pT b 0), (.int .i64 s.pos), (pT gf 4), (.func (.func (parSet[i]?.getD 0)) #[] #[.pointer (some ⟨ks i, 0, none⟩)]), (pT b 0), (pT gf 1), (.int .u64 (parLoU[i]?.getD 0)), (.int .i64 lo), (pT gf 2), (.int .u64 (parHiU[i]?.getD 0)), (.int .i64 hi), (iN n), (uN n), (.tuple #[]), (iN i), (.bool false), (.bool false), undef, undef, undef, undef, undef, (.bool false), u42, u43, u44, (iN (i + 1)), by kernel_rfl, by omega, by simp [hv], hpe, fun j h => by have := hdn j h; omega, hdnk, h200, h201, (hq ▸ hq2), (hsn ▸ h205), h202, h203, K206⟩, ?_⟩
      exact lt_meas (x := 11 - (i + 1)) (y := 11 - i) (by kernel_rfl) (by kernel_rfl) (by omega)
    · have hres := bread_ok eq_i hp hfin
      obtain ⟨fe, hfe⟩ : ∃ x, (s.fin l).1 = x := ⟨_, rfl⟩
      obtain ⟨fp, hfp⟩ : ∃ x, (s.fin l).2 = x := ⟨_, rfl⟩
      rw [hfe] at hfin
      skip
      refine qr_ [0] <| ppq (.bool false) (dcf ((((i : Nat) : Int)) < ((11) : Int)) (by omega)) <| eq_ <| n_ <| sy_exit 0 (by kernel_rfl) <| then_e <| then_e <| blk_e <| tq_ <| qr_ [0, 1, 2, 3] <| pkq (pT b 0) ?_
      refine pcq 58 #[pT b 0] Tryd.func58 ((rd_end h39 hfe hfp).mono ?_)
      rintro e V208 ⟨rfl, kV208⟩
      refine ⟨_, rfl, ?_⟩
      have h209 := kV208.bk h36
      have h210 := kV208.bk h37
      have h211 := kV208.bk h38
      have K212 := K42.nn kV208
      have z213 := kV208.size
      refine pal 46 (#[.int .i64 0, .int .i64 0]) (.agg (#[.int .i64 0, .int .i64 0])) fun V214 gE egE h215 kV214 => ?_
      have n216 : r1 < gE := egE ▸ lt_of_block h209
      have n217 : r2 < gE := egE ▸ lt_of_block h210
      have n218 : gp < gE := egE ▸ lt_of_block h211
      have n219 : w.heap.size ≤ gE := egE ▸ K212.size
      have h220 := kV214.bk h209
      have h221 := kV214.bk h210
      have h222 := kV214.bk h211
      have K223 := K212.nn kV214
      have z224 := kV214.size
      refine pst 46 gE (#[.int .i64 fe, .int .i64 fp]) h215 (by kernel_rfl) rfl (by kernel_rfl) fun V225 h226 kV225 => ?_
      have h227 := kV225.bO h220
      have h228 := kV225.bO h221
      have h229 := kV225.bO h222
      have K230 := K223.nO kV225
      have z231 := kV225.size
      refine eqr_ [0, 1, 2] <| pkq (pT gE 0) <| ppq (.int .i64 fe) (ldk 26 gE 0 h226) <| ppq (.bool false) (nqf ((fe) : Int) ((0) : Int) (by omega)) <| en_ <| s_ <| tqr_ [0, 1, 2, 3] <| ppq (.agg ((parOfL vs).cells)) (ldr 24 gp (h229) (by kernel_rfl)) <| pkq (.agg #[.int .i64 0, .int .i64 0]) <| pst 24 r1 (((parOfL vs).cells)) h227 (by kernel_rfl) rfl (by kernel_rfl) fun V232 h233 kV232 => ?_
      have h234 := kV232.bO h228
      have K237 := K230.nO kV232
      have z238 := kV232.size
      refine pst 46 r2 (#[.int .i64 0, .int .i64 0]) h234 (by kernel_rfl) rfl (by kernel_rfl) fun V239 h240 kV239 => ?_
      have h243 := kV239.bO h233
      have K244 := K237.nO kV239
      have z245 := kV239.size
      refine eu_ <| sy_out (.tuple #[.agg ((parOfL vs).cells), .agg #[.int .i64 0, .int .i64 0]]) rfl (results_rows2 (p := 2) (q := 3) (ty := 24) (tz := 46) (by kernel_rfl) _ _ r1 r2 24 46 ((parOfL vs).cells) (#[.int .i64 0, .int .i64 0]) (0, 0) (0, 0) _ _ (by kernel_rfl) h243 Tryd.underlying24 rfl (by kernel_rfl) (by kernel_rfl) h240 Tryd.underlying46 rfl (by kernel_rfl)) ?_
      exact ⟨by rw [hres], K244⟩
    · have hres := bread_no eq_i hp hfin
      obtain ⟨fe, hfe⟩ : ∃ x, (s.fin l).1 = x := ⟨_, rfl⟩
      obtain ⟨fp, hfp⟩ : ∃ x, (s.fin l).2 = x := ⟨_, rfl⟩
      rw [hfe, hfp] at hres
      rw [hfe] at hfin
      skip
      refine qr_ [0] <| ppq (.bool false) (dcf ((((i : Nat) : Int)) < ((11) : Int)) (by omega)) <| eq_ <| n_ <| sy_exit 0 (by kernel_rfl) <| then_e <| then_e <| blk_e <| tq_ <| qr_ [0, 1, 2, 3] <| pkq (pT b 0) ?_
      refine pcq 58 #[pT b 0] Tryd.func58 ((rd_end h39 hfe hfp).mono ?_)
      rintro e V246 ⟨rfl, kV246⟩
      refine ⟨_, rfl, ?_⟩
      have h247 := kV246.bk h36
      have h248 := kV246.bk h37
      have h249 := kV246.bk h38
      have K250 := K42.nn kV246
      have z251 := kV246.size
      refine pal 46 (#[.int .i64 0, .int .i64 0]) (.agg (#[.int .i64 0, .int .i64 0])) fun V252 gE egE h253 kV252 => ?_
      have n254 : r1 < gE := egE ▸ lt_of_block h247
      have n255 : r2 < gE := egE ▸ lt_of_block h248
      have n256 : gp < gE := egE ▸ lt_of_block h249
      have n257 : w.heap.size ≤ gE := egE ▸ K250.size
      have h258 := kV252.bk h247
      have h259 := kV252.bk h248
      have K261 := K250.nn kV252
      have z262 := kV252.size
      refine pst 46 gE (#[.int .i64 fe, .int .i64 fp]) h253 (by kernel_rfl) rfl (by kernel_rfl) fun V263 h264 kV263 => ?_
      have h265 := kV263.bO h258
      have h266 := kV263.bO h259
      have K268 := K261.nO kV263
      have z269 := kV263.size
      refine eqr_ [0, 1, 2] <| pkq (pT gE 0) <| ppq (.int .i64 fe) (ldk 26 gE 0 h264) <| ppq (.bool true) (nqt ((fe) : Int) ((0) : Int) (by omega)) <| ey_ <| q_ <| sy_np <| sy_reg <| an_begin 13 4 (opsAt (qc55_0 1004)) (fun W => (W.heap[gE]? = some (.cells (#[.int .i64 fe, .int .i64 fp]) 46 (0, 0)))) #[false, false, false, false] (by kernel_rfl) (by kernel_rfl) (by kernel_rfl) (by kernel_rfl) ?_
      obtain ⟨V270, eV270, kV270⟩ := drew_step V263
      rw [eV270]
      clear eV270
      have h271 := kV270.bk h265
      have h272 := kV270.bk h266
      have h274 := kV270.bk h264
      have K275 := K268.nn kV270
      have z276 := kV270.size
      refine akq 0 (.agg parZ.cells) h274 <| avq 1 (.agg #[.int .i64 fe, .int .i64 fp]) (fun W hS => ldr 46 gE (hS) (by kernel_rfl)) h274 <| an_o 2 <| nst 24 r1 parZ.cells h271 (by kernel_rfl) rfl (by kernel_rfl) fun V277 h278 kV277 => ?_
      have h279 := kV277.bO h272
      have h281 := kV277.bO h274
      have K282 := K275.nO kV277
      have z283 := kV277.size
      refine ⟨h281, ?_⟩
      refine an_o 3 <| nst 46 r2 (#[.int .i64 fe, .int .i64 fp]) h279 (by kernel_rfl) rfl (by kernel_rfl) fun V284 h285 kV284 => ?_
      have h287 := kV284.bO h281
      have h288 := kV284.bO h278
      have K289 := K282.nO kV284
      have z290 := kV284.size
      refine ⟨h287, ?_⟩
      refine an_end (by kernel_rfl) <| then_n <| u_ <| then_r <| sy_out (.tuple #[.agg (parZ.cells), .agg #[.int .i64 fe, .int .i64 fp]]) rfl (results_rows2 (p := 2) (q := 3) (ty := 24) (tz := 46) (by kernel_rfl) _ _ r1 r2 24 46 (parZ.cells) (#[.int .i64 fe, .int .i64 fp]) (0, 0) (0, 0) _ _ (by kernel_rfl) h288 Tryd.underlying24 rfl (by kernel_rfl) (by kernel_rfl) h285 Tryd.underlying46 rfl (by kernel_rfl)) ?_
      exact ⟨by rw [hres], K289⟩
end Go.Proofs.YtpflmldmbpnllaaDoor
namespace Go.Proofs.YtpflmldmbpnllaaDoor
set_option maxRecDepth 100000
set_option maxHeartbeats 4000000
open Go Go.RowKit Go.Own Go.Shelf
section
variable {i j : Nat} {vs : List Int} {r l a : List UInt8} {e : Int}
end
end Go.Proofs.YtpflmldmbpnllaaDoor
namespace Go.Proofs.YtpflmldmbpnllaaDoor
set_option maxRecDepth 100000
set_option maxHeartbeats 4000000
open Go Go.RowKit Go.Own Go.Shelf
end Go.Proofs.YtpflmldmbpnllaaDoor
namespace Go.Proofs.YtpflmldmbpnllaaDoor
set_option maxRecDepth 100000
set_option maxHeartbeats 4000000
open Go Go.RowKit Go.Own Go.Shelf
end Go.Proofs.YtpflmldmbpnllaaDoor
namespace Go.Proofs.YtpflmldmbpnllaaDoor
set_option maxRecDepth 100000
set_option maxHeartbeats 4000000
open Go Go.RowKit Go.Own Go.Shelf
end Go.Proofs.YtpflmldmbpnllaaDoor
namespace Go.Proofs.YtpflmldmbpnllaaDoor
set_option maxRecDepth 100000
set_option maxHeartbeats 4000000
open Go Go.RowKit Go.Own Go.Shelf
end Go.Proofs.YtpflmldmbpnllaaDoor
namespace Go.Own
set_option maxRecDepth 100000
set_option maxHeartbeats 4000000
open Go Go.RowKit
variable {P : Program}
end Go.Own
namespace Go.Proofs.YtpflmldmbpnllaaDoor
set_option maxRecDepth 100000
set_option maxHeartbeats 4000000
open Go Go.RowKit Go.Own Go.Shelf
end Go.Proofs.YtpflmldmbpnllaaDoor
namespace Go.Proofs.YtpflmldmbpnllaaDoor
set_option maxRecDepth 100000
set_option maxHeartbeats 4000000
open Go Go.RowKit Go.Own Go.Shelf
end Go.Proofs.YtpflmldmbpnllaaDoor
namespace Go.Proofs.YtpflmldmbpnllaaDoor
set_option maxRecDepth 100000
set_option maxHeartbeats 4000000
open Go Go.RowKit Go.Own Go.Shelf
end Go.Proofs.YtpflmldmbpnllaaDoor
namespace Go.Proofs.YtpflmldmbpnllaaDoor
set_option maxRecDepth 100000
set_option maxHeartbeats 4000000
open Go Go.RowKit Go.Own Go.Shelf
theorem pow_of {l : List (String × DataW Unit)} {W : World} (h : laidMet Tryd.prog l W) (hm : ("internal/strconv.uint64pow10", Lib.tabData .u64 Lib.pow10Tab) ∈ l) : PowTab W := by
  obtain ⟨g, t, cs, fuel, p, hg, ht, hv, hd⟩ := Lib.laidMet.reads h hm
  have h1 : (do let g ← Tryd.prog.globalNamed "internal/strconv.uint64pow10"; let v ← Tryd.prog.globals[g]?; Tryd.prog.underlying v.type) = some (.array 20 22) := by kernel_rfl
  have h2 : (do let g ← Tryd.prog.globalNamed "internal/strconv.uint64pow10"; let v ← Tryd.prog.globals[g]?; some (Tryd.prog.cellsOf v.type)) = some 20 := by kernel_rfl
  have h3 : Tryd.prog.cellsOf 22 = 1 := by kernel_rfl
  cases hx : Tryd.prog.globals[g]? with
  | none => rw [hx] at ht; cases ht
  | some v =>
    rw [hx] at ht
    simp only [Option.map_some, Option.some.injEq] at ht
    simp only [hg, hx, Option.bind_eq_bind, Option.bind_some, Option.some.injEq] at h1 h2
    rw [ht] at h1 h2
    unfold PowTab Lib.TabIs
    rw [hv, ← Lib.cells_of_tab h1 Tryd.underlying22 h3 h2 hd]
end Go.Proofs.YtpflmldmbpnllaaDoor
namespace Go.Proofs.YtpflmldmbpnllaaDoor
set_option maxRecDepth 100000
set_option maxHeartbeats 4000000
open Go Go.RowKit Go.Own Go.Shelf
theorem pfault_guard : Tryd.prog.eqGuardType Tryd.prog.depth 46 = false := by kernel_rfl
theorem pfault_equal (e p e' p' : Int) (w : World) : (Op.equalIn 10000 46 (.agg #[.int .i64 e, .int .i64 p]) (.agg #[.int .i64 e', .int .i64 p'])).run Tryd.prog w = .ok (decide (e = e' ∧ p = p')) w := by
  rw [run_equalIn_struct w 9999 46 _ _ (by kernel_rfl) (by kernel_rfl)]
  simp only [Program.fieldsOf, Tryd.underlying46]
  rw [feq_int (d := 9998) (k := .i64) (a := e) (b := e') w (by decide) Tryd.underlying26 (by kernel_rfl) rfl rfl, feq_int (d := 9998) (k := .i64) (a := p) (b := p') w (by decide) Tryd.underlying3 (by kernel_rfl) rfl rfl]
  simp only [Op.eqFields, Sem.run_pure]
  by_cases h : e = e' <;> by_cases h2 : p = p' <;> simp [h, h2]
theorem pfault_eq (e p e' p' : Int) (w : World) : (binOp .eql 46 (.agg #[.int .i64 e, .int .i64 p]) (.agg #[.int .i64 e', .int .i64 p'])).run Tryd.prog w = .ok (.bool (decide (e = e' ∧ p = p'))) w := by
  rw [run_eql_struct, pfault_equal]; rfl
theorem str_same (a : ByteArray) (w : World) : (binOp .neq 9 (.string a) (.string a)).run Tryd.prog w = .ok (.bool false) w := by rw [str_neq]; simp
end Go.Proofs.YtpflmldmbpnllaaDoor
namespace Go.Proofs.YtpflmldmbpnllaaDoor
set_option maxRecDepth 100000
set_option maxHeartbeats 4000000
open Go Go.RowKit Go.Own Go.Shelf
section
variable {P : Program} {o : Oper} {ρ : Operand → Value} {w : World}
theorem exec_slice_mid (t : TypeId) (x y z : Operand) (ho : o.op = .slice t x (some y) (some z) none) (l : List UInt8) (hx : ρ x = .string ⟨l.toArray⟩) (k1 k2 : IntKind) (i j : Nat) (hy : ρ y = .int k1 (i : Int)) (hz : ρ z = .int k2 (j : Int)) (hu : P.underlying t = some .string) (h1 : i ≤ j) (h2 : j ≤ l.length) :
    (execOp ρ o).run P w = .ok (.value (.string ⟨((l.drop i).take (j - i)).toArray⟩)) w := by
  have h := run_slice_string (P := P) w t ⟨l.toArray⟩ k1 k2 (i : Int) (j : Int) hu (by omega) (by omega) (by simp [ByteArray.size]; omega)
  unfold execOp
  simp only [ho, hx, Option.map_some, Option.map_none, hy, hz, Instr.sliceAt, Sem.run_bind, run_underlying hu, h, Result.andThen_ok, Sem.run_pure, Int.toNat_natCast, ByteArray.extract_mk]
end
def parOld : Par := ⟨100, 101, 10, 8, 7, 8, 20, 50000000, 3, 50, 100000000⟩
def parLow1 : Par := ⟨0, 100, 10, 8, 7, 8, 20, 50000000, 3, 50, 100000000⟩
def parLow : Par := ⟨0, -1, 10, 8, 7, 8, 20, 50000000, 3, 50, 100000000⟩
def parRew : Par := ⟨100, 100, 10, 8, 7, 8, 20, 50000000, 3, 50, 0⟩
theorem parOld_Ok : parOld.Ok := by constructor <;> (simp only [parOld, i64ok, u64ok]; omega)
theorem parLow_Ok : parLow.Ok := by constructor <;> (simp only [parLow, i64ok, u64ok]; omega)
theorem parOld_c : parOld.check = (9, 1) := by kernel_rfl
theorem parLow_c : parLow.check = (3, 0) := by kernel_rfl
theorem g_Base : pget parDef ⟨#[66, 97, 115, 101]⟩ = (0, 10) := by kernel_rfl
theorem s_unb : pset parDef ⟨#[117, 110, 98, 111, 110, 100, 105, 110, 103]⟩ 99 = (parZ, 9) := by kernel_rfl
theorem s_mult : pset parDef ⟨#[109, 117, 108, 116]⟩ 1001 = (parZ, 3) := by kernel_rfl
theorem s_rew : pset parDef ⟨#[114, 101, 119, 97, 114, 100]⟩ 0 = (parRew, 0) := by kernel_rfl
def txd : List UInt8 := [117, 110, 98, 111, 110, 100, 105, 110, 103, 32, 49, 48, 48, 10, 109, 97, 120, 97, 103, 101, 32, 49, 48, 48, 10, 101, 112, 111, 99, 104, 108, 101, 110, 32, 49, 48, 10, 119, 105, 110, 100, 111, 119, 32, 56, 10, 101, 110, 116, 114, 105, 101, 115, 32, 55, 10, 109, 97, 120, 97, 99, 116, 105, 118, 101, 32, 56, 10, 106, 97, 105, 108, 116, 105, 109, 101, 32, 50, 48, 10, 98, 97, 115, 101, 32, 53, 48, 48, 48, 48, 48, 48, 48, 10, 109, 117, 108, 116, 32, 51, 10, 99, 111, 114, 114, 119, 105, 110, 100, 111, 119, 32, 53, 48, 10, 114, 101, 119, 97, 114, 100, 32, 49, 48, 48, 48, 48, 48, 48, 48, 48, 10]
def txdS : List UInt8 := [117, 110, 98, 111, 110, 100, 105, 110, 103, 32, 49, 48, 48, 10, 109, 97, 120, 97, 103, 101, 32, 49, 48, 48, 10, 101, 112, 111, 99, 104, 108, 101, 110, 32, 49, 48, 10, 119, 105, 110, 100, 111, 119, 32, 56, 10, 101, 110, 116, 114, 105, 101, 115, 32, 55, 10, 109, 97, 120, 97, 99, 116, 105, 118, 101, 32, 56, 10, 106, 97, 105, 108, 116, 105, 109, 101, 32, 50, 48, 10, 98, 97, 115, 101, 32, 53, 48, 48, 48, 48, 48, 48, 48, 10, 109, 117, 108, 116, 32, 51, 10, 99, 111, 114, 114, 119, 105, 110, 100, 111, 119, 32, 53, 48, 10, 114, 101, 119, 97, 114, 100, 32, 49, 48, 48, 48, 48, 48, 48, 48, 48]
def txdL : List UInt8 := [117, 110, 98, 111, 110, 100, 105, 110, 103, 32, 49, 48, 48, 10, 109, 97, 120, 97, 103, 101, 32, 49, 48, 48, 10, 101, 112, 111, 99, 104, 108, 101, 110, 32, 49, 48, 10, 119, 105, 110, 100, 111, 119, 32, 56, 10, 101, 110, 116, 114, 105, 101, 115, 32, 55, 10, 109, 97, 120, 97, 99, 116, 105, 118, 101, 32, 56, 10, 106, 97, 105, 108, 116, 105, 109, 101, 32, 50, 48, 10, 98, 97, 115, 101, 32, 53, 48, 48, 48, 48, 48, 48, 48, 10, 109, 117, 108, 116, 32, 51, 10, 99, 111, 114, 114, 119, 105, 110, 100, 111, 119, 32, 53, 48, 10, 114, 101, 119, 97, 114, 100, 32, 49, 48, 48, 48, 48, 48, 48, 48, 48, 10, 120]
def txF : List UInt8 := [117, 110, 98, 111, 110, 100, 105, 110, 103, 32, 48, 49, 48, 48, 10]
def txR : List UInt8 := [117, 110, 98, 111, 110, 100, 105, 110, 103, 32, 48, 10]
def txM : List UInt8 := [109, 97, 120, 97, 103, 101, 32, 49, 48, 48, 10]
theorem ptx_d : ptx parDef = ⟨txd.toArray⟩ := by decide +kernel
theorem take_S : txd.take 131 = txdS := by kernel_rfl
theorem mid_M : (txd.drop 14).take (25 - 14) = txM := by kernel_rfl
theorem cat_L : txd ++ [120] = txdL := by kernel_rfl
theorem p_S : (pparse txdS).2 = (6, 10) := by decide +kernel
theorem p_L : (pparse txdL).2 = (4, 11) := by decide +kernel
theorem p_F : (pparse txF).2 = (5, 0) := by decide +kernel
theorem p_R : (pparse txR).2 = (3, 0) := by decide +kernel
theorem r_0 : (pbread []).2 = (6, 0) := by kernel_rfl
theorem r_1 : (pbread [5, 6]).2 = (9, 1) := by kernel_rfl
theorem r_2 : (pbread [0]).2 = (3, 0) := by kernel_rfl
theorem pSet_is (p q : Par) (s : ByteArray) (n : Nat) (y : Int) (w : World) (hp : p.Ok) (h : pset p s n = (q, y)) : Calls Tryd.prog 13 #[.agg p.cells, .string s, .int .u64 ((n : Nat) : Int)] w (fun e w' => e = .returned (.tuple #[.agg q.cells, .int .i64 y]) ∧ Keeps Nob w w') := by
  have := pSet_ok p s n w hp
  rw [h] at this; exact this
theorem pParse_is (l : List UInt8) (q : Par) (x y : Int) (w : World) (hl : l.length ≤ 100000000) (hq : (pparse l).1 = q) (h : (pparse l).2 = (x, y)) : Calls Tryd.prog 26 #[.string ⟨l.toArray⟩] w (fun e w' => e = .returned (.tuple #[.agg q.cells, .agg #[.int .i64 x, .int .i64 y]]) ∧ Keeps Nob w w') := by
  have := pParse_ok l w hl
  rw [hq, h] at this; exact this
theorem pRead_is (v : Value) (l : List UInt8) (q : Par) (x y : Int) (w : World) (hx : BytesAt w v l) (hl : l.length ≤ 100000000) (hq : (pbread l).1 = q) (h : (pbread l).2 = (x, y)) : Calls Tryd.prog 29 #[v] w (fun e w' => e = .returned (.tuple #[.agg q.cells, .agg #[.int .i64 x, .int .i64 y]]) ∧ Keeps Nob w w') := by
  have := pRead_ok v l w hx hl
  rw [hq, h] at this; exact this
theorem bytes_none (w : World) : BytesAt w (.slice none 0 0) [] := Row.bytes (e := 5) (World.ownsRow_nil _ _ _ _)
noncomputable def qc65_1 (n : Nat) : Code := partOf Tryd.f32 n
theorem lpparses_ok (l : List UInt8) (x y : Int) (w : World) (hl : l.length ≤ 100000000) (hf : (pparse l).2 = (x, y)) :
    Calls Tryd.prog 32 #[.string ⟨l.toArray⟩] w (fun e w' => e = .returned (.agg #[.int .i64 x, .int .i64 y]) ∧ Keeps Nob w w') := by
  obtain ⟨q, hq⟩ : ∃ q, (pparse l).1 = q := ⟨_, rfl⟩
  have K0 : Keeps Nob w w := Keeps.refl _ _
  refine sy_enter (qc65_1 1) ⟨#[.string ⟨l.toArray⟩, ud, ud, ud, ud, ud, ud, ud, ud, ud, ud], []⟩ Tryd.func32 (by kernel_rfl) (by kernel_rfl) <| qr_ [0] <| pal 46 (#[.int .i64 0, .int .i64 0]) (.agg (#[.int .i64 0, .int .i64 0])) fun V1 r2 er2 h2 kV1 => ?_
  have n3 : w.heap.size ≤ r2 := er2 ▸ K0.size
  have K4 := K0.nn kV1
  have z5 := kV1.size
  refine eqr_ [0, 1, 2, 3, 4, 5, 6, 7, 8] <| pkq (.string ⟨l.toArray⟩) ?_
  refine pcq 26 #[.string ⟨l.toArray⟩] Tryd.func26 ((pParse_is l q x y _ hl hq hf).mono ?_)
  rintro e V6 ⟨rfl, kV6⟩
  refine ⟨_, rfl, ?_⟩
  have h7 := kV6.bk h2
  have K8 := K4.nn kV6
  have z9 := kV6.size
  refine pkq (.tuple #[.agg q.cells, .agg #[.int .i64 x, .int .i64 y]]) <| pkq (.agg q.cells) <| pkq (.agg #[.int .i64 x, .int .i64 y]) <| pal 24 (#[.int .i64 0, .int .i64 0, .int .i64 0, .int .i64 0, .int .i64 0, .int .i64 0, .int .i64 0, .int .u64 0, .int .u64 0, .int .i64 0, .int .u64 0]) (.agg (#[.int .i64 0, .int .i64 0, .int .i64 0, .int .i64 0, .int .i64 0, .int .i64 0, .int .i64 0, .int .u64 0, .int .u64 0, .int .i64 0, .int .u64 0])) fun V10 ga ega h11 kV10 => ?_
  have n12 : r2 < ga := ega ▸ lt_of_block h7
  have n13 : w.heap.size ≤ ga := ega ▸ K8.size
  have h14 := kV10.bk h7
  have K15 := K8.nn kV10
  have z16 := kV10.size
  refine pal 46 (#[.int .i64 0, .int .i64 0]) (.agg (#[.int .i64 0, .int .i64 0])) fun V17 gb egb h18 kV17 => ?_
  have n19 : r2 < gb := egb ▸ lt_of_block h14
  have n20 : ga < gb := egb ▸ lt_of_block h11
  have n21 : w.heap.size ≤ gb := egb ▸ K15.size
  have h22 := kV17.bk h14
  have h23 := kV17.bk h11
  have K24 := K15.nn kV17
  have z25 := kV17.size
  obtain ⟨V26, eV26, kV26⟩ := rowset_step V17 ga q.cells
  refine pzq (w' := V26) (by rw [← eV26]; exact exec_store_row 24 (.tmp 3) (.tmp 8) (by kernel_rfl) ga q.cells (by kernel_rfl) (by kernel_rfl) 24 (#[.int .i64 0, .int .i64 0, .int .i64 0, .int .i64 0, .int .i64 0, .int .i64 0, .int .i64 0, .int .u64 0, .int .u64 0, .int .i64 0, .int .u64 0]) h23 (by kernel_rfl) rfl (by kernel_rfl)) ?_
  clear eV26
  have h28 := kV26.bO h22
  have h29 := kV26.bO h18
  have K30 := K24.nO kV26
  have z31 := kV26.size
  refine pst 46 gb (#[.int .i64 x, .int .i64 y]) h29 (by kernel_rfl) rfl (by kernel_rfl) fun V32 h33 kV32 => ?_
  have h34 := kV32.bO h28
  have K36 := K30.nO kV32
  have z37 := kV32.size
  refine eqr_ [0, 1] <| ppq (.agg #[.int .i64 x, .int .i64 y]) (ldr 46 gb (h33) (by kernel_rfl)) <| pst 46 r2 (#[.int .i64 x, .int .i64 y]) h34 (by kernel_rfl) rfl (by kernel_rfl) fun V38 h39 kV38 => ?_
  have K42 := K36.nO kV38
  have z43 := kV38.size
  refine eu_ <| sy_out (.agg (#[.int .i64 x, .int .i64 y])) rfl (results_cell_row (p := 2) (ty := 46) (by kernel_rfl) _ _ r2 46 (#[.int .i64 x, .int .i64 y]) (0, 0) _ (by kernel_rfl) h39 Tryd.underlying46 rfl (by kernel_rfl)) ?_
  exact ⟨rfl, K42⟩
noncomputable def qc65_2 (n : Nat) : Code := partOf Tryd.f33 n
theorem lpreads_ok (v : Value) (l : List UInt8) (x y : Int) (w : World) (hx : BytesAt w v l) (hl : l.length ≤ 100000000) (hf : (pbread l).2 = (x, y)) :
    Calls Tryd.prog 33 #[v] w (fun e w' => e = .returned (.agg #[.int .i64 x, .int .i64 y]) ∧ Keeps Nob w w') := by
  obtain ⟨q, hq⟩ : ∃ q, (pbread l).1 = q := ⟨_, rfl⟩
  have K0 : Keeps Nob w w := Keeps.refl _ _
  refine sy_enter (qc65_2 1) ⟨#[v, ud, ud, ud, ud, ud, ud, ud, ud, ud, ud], []⟩ Tryd.func33 (by kernel_rfl) (by kernel_rfl) <| qr_ [0] <| pal 46 (#[.int .i64 0, .int .i64 0]) (.agg (#[.int .i64 0, .int .i64 0])) fun V1 r2 er2 h2 kV1 => ?_
  have n3 : w.heap.size ≤ r2 := er2 ▸ K0.size
  have K4 := K0.nn kV1
  have z5 := kV1.size
  refine eqr_ [0, 1, 2, 3, 4, 5, 6, 7, 8] <| pkq (v) ?_
  refine pcq 29 #[v] Tryd.func29 ((pRead_is v l q x y _ (hx.keepsN K4) hl hq hf).mono ?_)
  rintro e V6 ⟨rfl, kV6⟩
  refine ⟨_, rfl, ?_⟩
  have h7 := kV6.bk h2
  have K8 := K4.nn kV6
  have z9 := kV6.size
  refine pkq (.tuple #[.agg q.cells, .agg #[.int .i64 x, .int .i64 y]]) <| pkq (.agg q.cells) <| pkq (.agg #[.int .i64 x, .int .i64 y]) <| pal 24 (#[.int .i64 0, .int .i64 0, .int .i64 0, .int .i64 0, .int .i64 0, .int .i64 0, .int .i64 0, .int .u64 0, .int .u64 0, .int .i64 0, .int .u64 0]) (.agg (#[.int .i64 0, .int .i64 0, .int .i64 0, .int .i64 0, .int .i64 0, .int .i64 0, .int .i64 0, .int .u64 0, .int .u64 0, .int .i64 0, .int .u64 0])) fun V10 ga ega h11 kV10 => ?_
  have n12 : r2 < ga := ega ▸ lt_of_block h7
  have n13 : w.heap.size ≤ ga := ega ▸ K8.size
  have h14 := kV10.bk h7
  have K15 := K8.nn kV10
  have z16 := kV10.size
  refine pal 46 (#[.int .i64 0, .int .i64 0]) (.agg (#[.int .i64 0, .int .i64 0])) fun V17 gb egb h18 kV17 => ?_
  have n19 : r2 < gb := egb ▸ lt_of_block h14
  have n20 : ga < gb := egb ▸ lt_of_block h11
  have n21 : w.heap.size ≤ gb := egb ▸ K15.size
  have h22 := kV17.bk h14
  have h23 := kV17.bk h11
  have K24 := K15.nn kV17
  have z25 := kV17.size
  obtain ⟨V26, eV26, kV26⟩ := rowset_step V17 ga q.cells
  refine pzq (w' := V26) (by rw [← eV26]; exact exec_store_row 24 (.tmp 3) (.tmp 8) (by kernel_rfl) ga q.cells (by kernel_rfl) (by kernel_rfl) 24 (#[.int .i64 0, .int .i64 0, .int .i64 0, .int .i64 0, .int .i64 0, .int .i64 0, .int .i64 0, .int .u64 0, .int .u64 0, .int .i64 0, .int .u64 0]) h23 (by kernel_rfl) rfl (by kernel_rfl)) ?_
  clear eV26
  have h28 := kV26.bO h22
  have h29 := kV26.bO h18
  have K30 := K24.nO kV26
  have z31 := kV26.size
  refine pst 46 gb (#[.int .i64 x, .int .i64 y]) h29 (by kernel_rfl) rfl (by kernel_rfl) fun V32 h33 kV32 => ?_
  have h34 := kV32.bO h28
  have K36 := K30.nO kV32
  have z37 := kV32.size
  refine eqr_ [0, 1] <| ppq (.agg #[.int .i64 x, .int .i64 y]) (ldr 46 gb (h33) (by kernel_rfl)) <| pst 46 r2 (#[.int .i64 x, .int .i64 y]) h34 (by kernel_rfl) rfl (by kernel_rfl) fun V38 h39 kV38 => ?_
  have K42 := K36.nO kV38
  have z43 := kV38.size
  refine eu_ <| sy_out (.agg (#[.int .i64 x, .int .i64 y])) rfl (results_cell_row (p := 2) (ty := 46) (by kernel_rfl) _ _ r2 46 (#[.int .i64 x, .int .i64 y]) (0, 0) _ (by kernel_rfl) h39 Tryd.underlying46 rfl (by kernel_rfl)) ?_
  exact ⟨rfl, K42⟩
noncomputable def qc65_0 (n : Nat) : Code := partOf Tryd.f5 n
theorem known_ok (w : World) (htab : PowTab w) :
    Calls Tryd.prog 5 #[] w (fun e w' => e = .returned (.bool true) ∧ Keeps Nob w w') := by
  have K0 : Keeps Nob w w := Keeps.refl _ _
  refine sy_enter (qc65_0 1) ⟨#[ud, ud, ud, ud, ud, ud, ud, ud, ud, ud, ud, ud, ud, ud, ud, ud, ud, ud, ud, ud, ud, ud, ud, ud, ud, ud, ud, ud, ud, ud, ud, ud, ud, ud, ud, ud, ud, ud, ud, ud, ud, ud, ud, ud, ud, ud, ud, ud, ud, ud, ud, ud, ud, ud, ud, ud, ud, ud, ud, ud, ud, ud, ud, ud, ud, ud, ud, ud, ud, ud, ud, ud, ud, ud, ud, ud, ud, ud, ud, ud, ud, ud, ud, ud, ud, ud, ud, ud, ud, ud, ud, ud, ud, ud, ud, ud, ud, ud, ud, ud, ud, ud, ud, ud, ud, ud, ud, ud, ud, ud, ud, ud, ud, ud, ud, ud, ud, ud, ud, ud, ud, ud, ud, ud, ud, ud, ud, ud, ud, ud, ud, ud, ud, ud, ud, ud, ud, ud, ud], []⟩ Tryd.func5 (by kernel_rfl) (by kernel_rfl) <| qr_ [0] <| pkq (.bool false) <| eqr_ [0, 1, 2] ?_
  refine pcq 18 #[] Tryd.func18 ((pDefault_ok _).mono ?_)
  rintro e V1 ⟨rfl, kV1⟩
  refine ⟨_, rfl, ?_⟩
  have K2 := K0.nn kV1
  have z3 := kV1.size
  refine pal 24 (#[.int .i64 0, .int .i64 0, .int .i64 0, .int .i64 0, .int .i64 0, .int .i64 0, .int .i64 0, .int .u64 0, .int .u64 0, .int .i64 0, .int .u64 0]) (.agg (#[.int .i64 0, .int .i64 0, .int .i64 0, .int .i64 0, .int .i64 0, .int .i64 0, .int .i64 0, .int .u64 0, .int .u64 0, .int .i64 0, .int .u64 0])) fun V4 gd egd h5 kV4 => ?_
  have n6 : w.heap.size ≤ gd := egd ▸ K2.size
  have K7 := K2.nn kV4
  have z8 := kV4.size
  refine pst 24 gd parDef.cells h5 (by kernel_rfl) rfl (by kernel_rfl) fun V9 h10 kV9 => ?_
  have K11 := K7.nO kV9
  have z12 := kV9.size
  refine eq_ ?_
  refine sy_cut (fun aQ VQ => ∃ (g2 g3 : Nat), (aQ = ⟨#[.bool false, .pointer (some ⟨gd, 0, none⟩), .pointer (some ⟨g2, 0, none⟩), .pointer (some ⟨g3, 0, none⟩), ud, ud, ud, ud, ud, ud, ud, ud, ud, ud, ud, ud, ud, ud, .agg parDef.cells, .agg (parDef.cells), .agg (parDef.cells), ud, ud, ud, ud, ud, ud, ud, ud, ud, ud, ud, ud, ud, ud, ud, ud, ud, ud, ud, ud, ud, ud, ud, ud, ud, ud, ud, ud, ud, ud, ud, ud, ud, ud, ud, ud, ud, ud, ud, ud, ud, ud, ud, ud, ud, ud, ud, ud, ud, ud, ud, ud, ud, ud, ud, ud, ud, ud, ud, ud, ud, ud, ud, ud, ud, ud, ud, ud, ud, ud, ud, ud, ud, ud, ud, ud, ud, ud, ud, ud, ud, ud, ud, ud, ud, ud, ud, ud, ud, ud, ud, ud, ud, ud, ud, ud, ud, ud, ud, ud, ud, ud, ud, ud, ud, ud, ud, ud, ud, ud, ud, ud, ud, ud, ud, ud, ud, ud], []⟩) ∧ (VQ.heap[gd]? = some (.cells parDef.cells 24 (0, 0))) ∧ (VQ.heap[g2]? = some (.cells parDef.cells 24 (0, 0))) ∧ (VQ.heap[g3]? = some (.cells parDef.cells 24 (0, 0))) ∧ (g2 ≠ g3 ∧ g2 ≠ gd ∧ g3 ≠ gd ∧ w.heap.size ≤ g2 ∧ w.heap.size ≤ g3 ∧ V9.heap.size ≤ g2 ∧ V9.heap.size ≤ g3) ∧ (Keeps Nob w VQ)) ?_ ?_
  · refine sy_np <| sy_reg <| an_begin 2 6 (opsAt (qc65_0 14)) (fun W => (W.heap[gd]? = some (.cells parDef.cells 24 (0, 0)))) #[false, false, false, false, false, false] (by kernel_rfl) (by kernel_rfl) (by kernel_rfl) (by kernel_rfl) ?_
    obtain ⟨V13, eV13, kV13⟩ := drew_step V9
    rw [eV13]
    clear eV13
    have h14 := kV13.bk h10
    have K15 := K11.nn kV13
    have z16 := kV13.size
    refine avq 0 (.agg (parDef.cells)) (fun W hS => ldr 24 gd (hS) (by kernel_rfl)) h14 <| avq 1 (.agg (parDef.cells)) (fun W hS => ldr 24 gd (hS) (by kernel_rfl)) h14 ?_
    refine an_two 2 3 (by kernel_rfl) ?_ ?_
    · refine nal 24 (#[.int .i64 0, .int .i64 0, .int .i64 0, .int .i64 0, .int .i64 0, .int .i64 0, .int .i64 0, .int .u64 0, .int .u64 0, .int .i64 0, .int .u64 0]) (.agg (#[.int .i64 0, .int .i64 0, .int .i64 0, .int .i64 0, .int .i64 0, .int .i64 0, .int .i64 0, .int .u64 0, .int .u64 0, .int .i64 0, .int .u64 0])) fun V17 g2 eg2 h18 kV17 => ?_
      have n19 : gd < g2 := eg2 ▸ lt_of_block h14
      have n20 : w.heap.size ≤ g2 := eg2 ▸ K15.size
      have h21 := kV17.bk h14
      have K22 := K15.nn kV17
      have z23 := kV17.size
      refine ⟨h21, ?_⟩
      refine an_o 3 <| nal 24 (#[.int .i64 0, .int .i64 0, .int .i64 0, .int .i64 0, .int .i64 0, .int .i64 0, .int .i64 0, .int .u64 0, .int .u64 0, .int .i64 0, .int .u64 0]) (.agg (#[.int .i64 0, .int .i64 0, .int .i64 0, .int .i64 0, .int .i64 0, .int .i64 0, .int .i64 0, .int .u64 0, .int .u64 0, .int .i64 0, .int .u64 0])) fun V24 g3 eg3 h25 kV24 => ?_
      have n26 : gd < g3 := eg3 ▸ lt_of_block h21
      have n27 : g2 < g3 := eg3 ▸ lt_of_block h18
      have n28 : w.heap.size ≤ g3 := eg3 ▸ K22.size
      have h29 := kV24.bk h21
      have h30 := kV24.bk h18
      have K31 := K22.nn kV24
      have z32 := kV24.size
      refine ⟨h29, ?_⟩
      refine an_o 4 <| nst 24 g2 ((parDef.cells)) h30 (by kernel_rfl) rfl (by kernel_rfl) fun V33 h34 kV33 => ?_
      have h35 := kV33.bO h29
      have h36 := kV33.bO h25
      have K37 := K31.nO kV33
      have z38 := kV33.size
      refine ⟨h35, ?_⟩
      refine an_o 5 <| nst 24 g3 ((parDef.cells)) h36 (by kernel_rfl) rfl (by kernel_rfl) fun V39 h40 kV39 => ?_
      have h41 := kV39.bO h35
      have h42 := kV39.bO h34
      have K43 := K37.nO kV39
      have z44 := kV39.size
      refine ⟨h41, ?_⟩
      refine an_end (by kernel_rfl) ?_
      exact ⟨rfl, g2, g3, by kernel_rfl, h41, h42, h40, by omega, K43⟩
    · refine nal 24 (#[.int .i64 0, .int .i64 0, .int .i64 0, .int .i64 0, .int .i64 0, .int .i64 0, .int .i64 0, .int .u64 0, .int .u64 0, .int .i64 0, .int .u64 0]) (.agg (#[.int .i64 0, .int .i64 0, .int .i64 0, .int .i64 0, .int .i64 0, .int .i64 0, .int .i64 0, .int .u64 0, .int .u64 0, .int .i64 0, .int .u64 0])) fun V45 g3 eg3 h46 kV45 => ?_
      have n47 : gd < g3 := eg3 ▸ lt_of_block h14
      have n48 : w.heap.size ≤ g3 := eg3 ▸ K15.size
      have h49 := kV45.bk h14
      have K50 := K15.nn kV45
      have z51 := kV45.size
      refine ⟨h49, ?_⟩
      refine an_o 2 <| nal 24 (#[.int .i64 0, .int .i64 0, .int .i64 0, .int .i64 0, .int .i64 0, .int .i64 0, .int .i64 0, .int .u64 0, .int .u64 0, .int .i64 0, .int .u64 0]) (.agg (#[.int .i64 0, .int .i64 0, .int .i64 0, .int .i64 0, .int .i64 0, .int .i64 0, .int .i64 0, .int .u64 0, .int .u64 0, .int .i64 0, .int .u64 0])) fun V52 g2 eg2 h53 kV52 => ?_
      have n54 : gd < g2 := eg2 ▸ lt_of_block h49
      have n55 : g3 < g2 := eg2 ▸ lt_of_block h46
      have n56 : w.heap.size ≤ g2 := eg2 ▸ K50.size
      have h57 := kV52.bk h49
      have h58 := kV52.bk h46
      have K59 := K50.nn kV52
      have z60 := kV52.size
      refine ⟨h57, ?_⟩
      refine an_o 4 <| nst 24 g2 ((parDef.cells)) h53 (by kernel_rfl) rfl (by kernel_rfl) fun V61 h62 kV61 => ?_
      have h63 := kV61.bO h57
      have h64 := kV61.bO h58
      have K65 := K59.nO kV61
      have z66 := kV61.size
      refine ⟨h63, ?_⟩
      refine an_o 5 <| nst 24 g3 ((parDef.cells)) h64 (by kernel_rfl) rfl (by kernel_rfl) fun V67 h68 kV67 => ?_
      have h69 := kV67.bO h63
      have h70 := kV67.bO h62
      have K71 := K65.nO kV67
      have z72 := kV67.size
      refine ⟨h69, ?_⟩
      refine an_end (by kernel_rfl) ?_
      exact ⟨rfl, g2, g3, by kernel_rfl, h69, h70, h68, by omega, K71⟩
  rintro aQ V73 ⟨g2, g3, rfl, h74, h75, h76, hd77, K78⟩
  have z79 := lt_of_block h75
  refine tqr_ [0, 1] <| pkq (pT g2 1) <| pce 3 g2 1 (.int .i64 101) parOld.cells h75 (rc (h75) (rfl)) (by kernel_rfl) fun V80 h81 kV80 => ?_
  have h82 := kV80.bO h74
  have h83 := kV80.bO h76
  have K84 := K78.nO kV80
  have z85 := kV80.size
  refine eqr_ [0, 1] <| pkq (pT g3 0) <| pce 3 g3 0 (.int .i64 0) parLow1.cells h83 (rc (h83) (rfl)) (by kernel_rfl) fun V86 h87 kV86 => ?_
  have h88 := kV86.bO h82
  have h89 := kV86.bO h81
  have K90 := K84.nO kV86
  have z91 := kV86.size
  refine eqr_ [0, 1] <| pkq (pT g3 1) <| pce 3 g3 1 (.int .i64 (-1)) parLow.cells h87 (rc (h87) (rfl)) (by kernel_rfl) fun V92 h93 kV92 => ?_
  have h94 := kV92.bO h88
  have h95 := kV92.bO h89
  have K96 := K90.nO kV92
  have z97 := kV92.size
  refine eqr_ [0, 1, 2, 3, 4, 5, 6] <| ppq (.agg (parOld.cells)) (ldr 24 g2 (h95) (by kernel_rfl)) ?_
  refine pcq 31 #[.agg (parOld.cells), .int .i64 9, .int .i64 1] Tryd.func31 ((lpchecks_ok parOld 9 1 _ parOld_Ok (by rw [parOld_c]) (by rw [parOld_c])).mono ?_)
  rintro e V98 ⟨rfl, kV98⟩
  refine ⟨_, rfl, ?_⟩
  have h99 := kV98.bk h94
  have h100 := kV98.bk h95
  have h101 := kV98.bk h93
  have K102 := K96.nn kV98
  have z103 := kV98.size
  refine pkq (.bool true) <| ppq (.agg (parLow.cells)) (ldr 24 g3 (h101) (by kernel_rfl)) ?_
  refine pcq 31 #[.agg (parLow.cells), .int .i64 3, .int .i64 0] Tryd.func31 ((lpchecks_ok parLow 3 0 _ parLow_Ok (by rw [parLow_c]) (by rw [parLow_c])).mono ?_)
  rintro e V104 ⟨rfl, kV104⟩
  refine ⟨_, rfl, ?_⟩
  have h105 := kV104.bk h99
  have h106 := kV104.bk h100
  have h107 := kV104.bk h101
  have K108 := K102.nn kV104
  have z109 := kV104.size
  refine pkq (.bool true) <| pkq (.bool true) <| eqr_ [0, 1, 2, 3, 4, 5, 6] <| ppq (.agg (parDef.cells)) (ldr 24 gd (h105) (by kernel_rfl)) ?_
  refine pcq 11 #[.agg (parDef.cells), .string { data := #[66, 97, 115, 101] }] Tryd.func11 ((pGet_is parDef _ _ _ _ parDef_Ok g_Base).mono ?_)
  rintro e V110 ⟨rfl, kV110⟩
  refine ⟨_, rfl, ?_⟩
  have h111 := kV110.bk h105
  have h112 := kV110.bk h106
  have h113 := kV110.bk h107
  have K114 := K108.nn kV110
  have z115 := kV110.size
  refine pkq (.tuple #[.int .u64 0, .int .i64 10]) <| pkq (.int .u64 0) <| pkq (.int .i64 10) <| pkq (.int .u64 0) <| pkq (.int .i64 10) <| eqr_ [0, 1, 2, 3, 4, 5, 6, 7] <| ppq (.agg (parDef.cells)) (ldr 24 gd (h111) (by kernel_rfl)) ?_
  refine pcq 13 #[.agg (parDef.cells), .string { data := #[117, 110, 98, 111, 110, 100, 105, 110, 103] }, .int .u64 99] Tryd.func13 ((pSet_is parDef parZ _ 99 9 _ parDef_Ok s_unb).mono ?_)
  rintro e V116 ⟨rfl, kV116⟩
  refine ⟨_, rfl, ?_⟩
  have h117 := kV116.bk h111
  have h118 := kV116.bk h112
  have h119 := kV116.bk h113
  have K120 := K114.nn kV116
  have z121 := kV116.size
  refine pkq (.tuple #[.agg parZ.cells, .int .i64 9]) <| pkq (.agg parZ.cells) <| pkq (.int .i64 9) <| pal 24 (#[.int .i64 0, .int .i64 0, .int .i64 0, .int .i64 0, .int .i64 0, .int .i64 0, .int .i64 0, .int .u64 0, .int .u64 0, .int .i64 0, .int .u64 0]) (.agg (#[.int .i64 0, .int .i64 0, .int .i64 0, .int .i64 0, .int .i64 0, .int .i64 0, .int .i64 0, .int .u64 0, .int .u64 0, .int .i64 0, .int .u64 0])) fun V122 g7 eg7 h123 kV122 => ?_
  have n124 : gd < g7 := eg7 ▸ lt_of_block h117
  have n125 : g2 < g7 := eg7 ▸ lt_of_block h118
  have n126 : g3 < g7 := eg7 ▸ lt_of_block h119
  have n127 : w.heap.size ≤ g7 := eg7 ▸ K120.size
  have h128 := kV122.bk h117
  have h129 := kV122.bk h118
  have h130 := kV122.bk h119
  have K131 := K120.nn kV122
  have z132 := kV122.size
  refine pst 24 g7 parZ.cells h123 (by kernel_rfl) rfl (by kernel_rfl) fun V133 h134 kV133 => ?_
  have h135 := kV133.bO h128
  have h136 := kV133.bO h129
  have h137 := kV133.bO h130
  have K138 := K131.nO kV133
  have z139 := kV133.size
  refine pkq (.int .i64 9) <| ps_end <| sy_a ⟨#[.bool false, pT gd 0, pT g2 0, pT g3 0, .bool true, .int .u64 0, .int .i64 10, pT g7 0, .int .i64 9, ud, ud, ud, ud, ud, ud, ud, ud, ud, .agg parDef.cells, .agg (parDef.cells), .agg (parDef.cells), pT g2 1, pT g3 0, pT g3 1, .agg (parOld.cells), .bool true, .bool true, .agg (parLow.cells), .bool true, .bool true, .tuple #[.int .u64 0, .int .i64 10], .agg (parDef.cells), .tuple #[.int .u64 0, .int .i64 10], .int .u64 0, .int .i64 10, .tuple #[.agg parZ.cells, .int .i64 9], .agg (parDef.cells), .tuple #[.agg parZ.cells, .int .i64 9], .agg parZ.cells, .int .i64 9, ud, ud, ud, ud, ud, ud, ud, ud, ud, ud, ud, ud, ud, ud, ud, ud, ud, ud, ud, ud, ud, ud, ud, ud, ud, ud, ud, ud, ud, ud, ud, ud, ud, ud, ud, ud, ud, ud, ud, ud, ud, ud, ud, ud, ud, ud, ud, ud, ud, ud, ud, ud, ud, ud, ud, ud, ud, ud, ud, ud, ud, ud, ud, ud, ud, ud, ud, ud, ud, ud, ud, ud, ud, ud, ud, ud, ud, ud, ud, ud, ud, ud, ud, ud, ud, ud, ud, ud, ud, ud, ud, ud, ud, ud, ud, ud, ud, ud, ud], []⟩ <| tqr_ [0, 1, 2, 3, 4, 5, 6, 7] <| ppq (.agg (parDef.cells)) (ldr 24 gd (h135) (by kernel_rfl)) ?_
  refine pcq 13 #[.agg (parDef.cells), .string { data := #[109, 117, 108, 116] }, .int .u64 1001] Tryd.func13 ((pSet_is parDef parZ _ 1001 3 _ parDef_Ok s_mult).mono ?_)
  rintro e V140 ⟨rfl, kV140⟩
  refine ⟨_, rfl, ?_⟩
  have h141 := kV140.bk h135
  have h142 := kV140.bk h136
  have h143 := kV140.bk h137
  have h144 := kV140.bk h134
  have K145 := K138.nn kV140
  have z146 := kV140.size
  refine pkq (.tuple #[.agg parZ.cells, .int .i64 3]) <| pkq (.agg parZ.cells) <| pkq (.int .i64 3) <| pal 24 (#[.int .i64 0, .int .i64 0, .int .i64 0, .int .i64 0, .int .i64 0, .int .i64 0, .int .i64 0, .int .u64 0, .int .u64 0, .int .i64 0, .int .u64 0]) (.agg (#[.int .i64 0, .int .i64 0, .int .i64 0, .int .i64 0, .int .i64 0, .int .i64 0, .int .i64 0, .int .u64 0, .int .u64 0, .int .i64 0, .int .u64 0])) fun V147 g9 eg9 h148 kV147 => ?_
  have n149 : gd < g9 := eg9 ▸ lt_of_block h141
  have n150 : g2 < g9 := eg9 ▸ lt_of_block h142
  have n151 : g3 < g9 := eg9 ▸ lt_of_block h143
  have n152 : g7 < g9 := eg9 ▸ lt_of_block h144
  have n153 : w.heap.size ≤ g9 := eg9 ▸ K145.size
  have h154 := kV147.bk h141
  have h155 := kV147.bk h142
  have h156 := kV147.bk h143
  have h157 := kV147.bk h144
  have K158 := K145.nn kV147
  have z159 := kV147.size
  refine pst 24 g9 parZ.cells h148 (by kernel_rfl) rfl (by kernel_rfl) fun V160 h161 kV160 => ?_
  have h162 := kV160.bO h154
  have h163 := kV160.bO h155
  have h164 := kV160.bO h156
  have h165 := kV160.bO h157
  have K166 := K158.nO kV160
  have z167 := kV160.size
  refine pkq (.int .i64 3) <| eqr_ [0, 1, 2, 3, 4, 5, 6, 7] <| ppq (.agg (parDef.cells)) (ldr 24 gd (h162) (by kernel_rfl)) ?_
  refine pcq 13 #[.agg (parDef.cells), .string { data := #[114, 101, 119, 97, 114, 100] }, .int .u64 0] Tryd.func13 ((pSet_is parDef parRew _ 0 0 _ parDef_Ok s_rew).mono ?_)
  rintro e V168 ⟨rfl, kV168⟩
  refine ⟨_, rfl, ?_⟩
  have h169 := kV168.bk h162
  have h170 := kV168.bk h163
  have h171 := kV168.bk h164
  have h172 := kV168.bk h165
  have h173 := kV168.bk h161
  have K174 := K166.nn kV168
  have z175 := kV168.size
  refine pkq (.tuple #[.agg parRew.cells, .int .i64 0]) <| pkq (.agg parRew.cells) <| pkq (.int .i64 0) <| pal 24 (#[.int .i64 0, .int .i64 0, .int .i64 0, .int .i64 0, .int .i64 0, .int .i64 0, .int .i64 0, .int .u64 0, .int .u64 0, .int .i64 0, .int .u64 0]) (.agg (#[.int .i64 0, .int .i64 0, .int .i64 0, .int .i64 0, .int .i64 0, .int .i64 0, .int .i64 0, .int .u64 0, .int .u64 0, .int .i64 0, .int .u64 0])) fun V176 g11 eg11 h177 kV176 => ?_
  have n178 : gd < g11 := eg11 ▸ lt_of_block h169
  have n179 : g2 < g11 := eg11 ▸ lt_of_block h170
  have n180 : g3 < g11 := eg11 ▸ lt_of_block h171
  have n181 : g7 < g11 := eg11 ▸ lt_of_block h172
  have n182 : g9 < g11 := eg11 ▸ lt_of_block h173
  have n183 : w.heap.size ≤ g11 := eg11 ▸ K174.size
  have h184 := kV176.bk h169
  have h185 := kV176.bk h170
  have h186 := kV176.bk h171
  have h187 := kV176.bk h172
  have h188 := kV176.bk h173
  have K189 := K174.nn kV176
  have z190 := kV176.size
  refine pst 24 g11 parRew.cells h177 (by kernel_rfl) rfl (by kernel_rfl) fun V191 h192 kV191 => ?_
  have h193 := kV191.bO h184
  have h194 := kV191.bO h185
  have h195 := kV191.bO h186
  have h196 := kV191.bO h187
  have h197 := kV191.bO h188
  have K198 := K189.nO kV191
  have z199 := kV191.size
  refine pkq (.int .i64 0) <| eqr_ [0, 1, 2, 3, 4, 5, 6, 7, 8, 9, 10, 11, 12, 13, 14, 15, 16, 17, 18, 19, 20, 21, 22, 23, 24, 25, 26] <| pkq (.int .i64 10) <| pkq (.bool true) <| pkq (.bool true) <| pkq (.int .i64 9) <| pkq (.bool true) <| pkq (.bool true) <| pkq (.bool true) <| pkq (.int .i64 3) <| pkq (.bool true) <| pkq (.bool true) <| pkq (.bool true) <| pkq (.int .i64 0) ?_
  refine pkq (.bool true) <| pkq (.bool true) <| pkq (.bool true) <| pkq (pT g11 10) <| ppq (.int .u64 0) (ldc 22 g11 10 (rc (h192) (rfl))) <| pkq (.bool true) <| pkq (.bool true) <| pkq (.bool true) <| pkq (pT g11 7) <| ppq (.int .u64 50000000) (ldc 22 g11 7 (rc (h192) (rfl))) <| pkq (pT gd 7) <| ppq (.int .u64 50000000) (ldc 22 gd 7 (rc (h193) (rfl))) <| pkq (.bool true) <| pkq (.bool true) ?_
  refine pkq (.bool true) <| ps_end <| sy_a ⟨#[.bool false, pT gd 0, pT g2 0, pT g3 0, .bool true, .int .u64 0, .int .i64 10, pT g7 0, .int .i64 9, pT g9 0, .int .i64 3, pT g11 0, .int .i64 0, .bool true, ud, ud, ud, ud, .agg parDef.cells, .agg (parDef.cells), .agg (parDef.cells), pT g2 1, pT g3 0, pT g3 1, .agg (parOld.cells), .bool true, .bool true, .agg (parLow.cells), .bool true, .bool true, .tuple #[.int .u64 0, .int .i64 10], .agg (parDef.cells), .tuple #[.int .u64 0, .int .i64 10], .int .u64 0, .int .i64 10, .tuple #[.agg parZ.cells, .int .i64 9], .agg (parDef.cells), .tuple #[.agg parZ.cells, .int .i64 9], .agg parZ.cells, .int .i64 9, .tuple #[.agg parZ.cells, .int .i64 3], .agg (parDef.cells), .tuple #[.agg parZ.cells, .int .i64 3], .agg parZ.cells, .int .i64 3, .tuple #[.agg parRew.cells, .int .i64 0], .agg (parDef.cells), .tuple #[.agg parRew.cells, .int .i64 0], .agg parRew.cells, .int .i64 0, .int .i64 10, .bool true, .bool true, .int .i64 9, .bool true, .bool true, .bool true, .int .i64 3, .bool true, .bool true, .bool true, .int .i64 0, .bool true, .bool true, .bool true, pT g11 10, .int .u64 0, .bool true, .bool true, .bool true, pT g11 7, .int .u64 50000000, pT gd 7, .int .u64 50000000, .bool true, .bool true, ud, ud, ud, ud, ud, ud, ud, ud, ud, ud, ud, ud, ud, ud, ud, ud, ud, ud, ud, ud, ud, ud, ud, ud, ud, ud, ud, ud, ud, ud, ud, ud, ud, ud, ud, ud, ud, ud, ud, ud, ud, ud, ud, ud, ud, ud, ud, ud, ud, ud, ud, ud, ud, ud, ud, ud, ud, ud, ud, ud, ud, ud, ud], []⟩ <| tqr_ [0, 1, 2, 3, 4, 5, 6] <| ppq (.agg (parDef.cells)) (ldr 24 gd (h193) (by kernel_rfl)) ?_
  refine pcq 21 #[.agg (parDef.cells)] Tryd.func21 ((ptx_d ▸ pText_ok parDef _ parDef_Ok (by rw [parDef_c]) (PowTab.keeps htab K198)).mono ?_)
  rintro e V200 ⟨rfl, kV200⟩
  refine ⟨_, rfl, ?_⟩
  have h201 := kV200.bk h193
  have h202 := kV200.bk h194
  have h203 := kV200.bk h195
  have h204 := kV200.bk h196
  have h205 := kV200.bk h197
  have h206 := kV200.bk h192
  have K207 := K198.nn kV200
  have z208 := kV200.size
  refine pkq (.tuple #[.string ⟨txd.toArray⟩, .int .i64 0]) <| pkq (.string ⟨txd.toArray⟩) <| pkq (.int .i64 0) <| pkq (.string ⟨txd.toArray⟩) <| pkq (.int .i64 0) <| eq_ <| qr_ [0, 1, 2, 3, 4, 5, 6, 7] <| pkq (.string ⟨txd.toArray⟩) <| ppq (.int .i64 132) (exec_len_str (.tmp 81) 9 (by kernel_rfl) Tryd.underlying9 ⟨txd.toArray⟩ (by kernel_rfl)) <| pkq (.bool false) <| pkq (.bool false) <| pkq (.string ⟨txd.toArray⟩) <| ppq (.string ⟨txM.toArray⟩) (exec_cast (congrArg (fun l : List UInt8 => Value.string ⟨l.toArray⟩) mid_M) (exec_slice_mid 9 (.tmp 85) (.const (.int .i64 14)) (.const (.int .i64 25)) (by kernel_rfl) txd (by kernel_rfl) .i64 .i64 14 25 (by kernel_rfl) (by kernel_rfl) Tryd.underlying9 (by decide) (by decide))) <| ppq (.bool false) (exec_binop .neq 9 9 (.tmp 86) (.const (.string ⟨#[109, 97, 120, 97, 103, 101, 32, 49, 48, 48, 10]⟩)) (by kernel_rfl) (.string ⟨txM.toArray⟩) (.string ⟨txM.toArray⟩) _ (by kernel_rfl) (by kernel_rfl) (by kernel_rfl) (str_same _ _)) ?_
  refine pkq (.bool false) <| en_ <| s_ <| tqr_ [0, 1, 2, 3, 4, 5, 6, 7, 8, 9, 10, 11, 12, 13, 14, 15, 16, 17, 18, 19, 20, 21, 22] <| pkq (.string ⟨txd.toArray⟩) <| ppq (.string ⟨txdS.toArray⟩) (exec_cast (congrArg (fun l : List UInt8 => Value.string ⟨l.toArray⟩) take_S) (exec_slice_to 9 (.tmp 89) (.const (.int .i64 131)) (by kernel_rfl) txd (by kernel_rfl) .i64 131 (by kernel_rfl) Tryd.underlying9 (by decide))) ?_
  refine pcq 32 #[.string ⟨txdS.toArray⟩] Tryd.func32 ((lpparses_ok txdS 6 10 _ (by decide) p_S).mono ?_)
  rintro e V209 ⟨rfl, kV209⟩
  refine ⟨_, rfl, ?_⟩
  have h210 := kV209.bk h201
  have h211 := kV209.bk h202
  have h212 := kV209.bk h203
  have h213 := kV209.bk h204
  have h214 := kV209.bk h205
  have h215 := kV209.bk h206
  have K216 := K207.nn kV209
  have z217 := kV209.size
  refine pkq (.agg #[.int .i64 6, .int .i64 10]) <| ppq (.bool true) (exec_cast (congrArg Value.bool (by simp)) (exec_binop .eql 46 46 (.tmp 91) (.tmp 92) (by kernel_rfl) (.agg #[.int .i64 6, .int .i64 10]) (.agg #[.int .i64 6, .int .i64 10]) _ (by kernel_rfl) (by kernel_rfl) (run_eqGuard_agg _ _ _ _ _ _ _ pfault_guard) (pfault_eq _ _ _ _ _))) <| pkq (.bool true) <| pkq (.string ⟨txd.toArray⟩) <| ppq (.string ⟨txdL.toArray⟩) (exec_cast (congrArg (fun l : List UInt8 => Value.string ⟨l.toArray⟩) cat_L) (exec_cat 9 (.tmp 95) (.const (.string ⟨#[120]⟩)) (by kernel_rfl) txd [120] (by kernel_rfl) (by kernel_rfl) (by decide))) ?_
  refine pcq 32 #[.string ⟨txdL.toArray⟩] Tryd.func32 ((lpparses_ok txdL 4 11 _ (by decide) p_L).mono ?_)
  rintro e V218 ⟨rfl, kV218⟩
  refine ⟨_, rfl, ?_⟩
  have h219 := kV218.bk h210
  have h220 := kV218.bk h211
  have h221 := kV218.bk h212
  have h222 := kV218.bk h213
  have h223 := kV218.bk h214
  have h224 := kV218.bk h215
  have K225 := K216.nn kV218
  have z226 := kV218.size
  refine pkq (.agg #[.int .i64 4, .int .i64 11]) <| ppq (.bool true) (exec_cast (congrArg Value.bool (by simp)) (exec_binop .eql 46 46 (.tmp 97) (.tmp 98) (by kernel_rfl) (.agg #[.int .i64 4, .int .i64 11]) (.agg #[.int .i64 4, .int .i64 11]) _ (by kernel_rfl) (by kernel_rfl) (run_eqGuard_agg _ _ _ _ _ _ _ pfault_guard) (pfault_eq _ _ _ _ _))) <| pkq (.bool true) <| pkq (.bool true) ?_
  refine pcq 32 #[.string { data := #[117, 110, 98, 111, 110, 100, 105, 110, 103, 32, 48, 49, 48, 48, 10] }] Tryd.func32 ((lpparses_ok txF 5 0 _ (by decide) p_F).mono ?_)
  rintro e V227 ⟨rfl, kV227⟩
  refine ⟨_, rfl, ?_⟩
  have h228 := kV227.bk h219
  have h229 := kV227.bk h220
  have h230 := kV227.bk h221
  have h231 := kV227.bk h222
  have h232 := kV227.bk h223
  have h233 := kV227.bk h224
  have K234 := K225.nn kV227
  have z235 := kV227.size
  refine pkq (.agg #[.int .i64 5, .int .i64 0]) <| ppq (.bool true) (exec_cast (congrArg Value.bool (by simp)) (exec_binop .eql 46 46 (.tmp 102) (.tmp 103) (by kernel_rfl) (.agg #[.int .i64 5, .int .i64 0]) (.agg #[.int .i64 5, .int .i64 0]) _ (by kernel_rfl) (by kernel_rfl) (run_eqGuard_agg _ _ _ _ _ _ _ pfault_guard) (pfault_eq _ _ _ _ _))) <| pkq (.bool true) <| pkq (.bool true) ?_
  refine pcq 32 #[.string { data := #[117, 110, 98, 111, 110, 100, 105, 110, 103, 32, 48, 10] }] Tryd.func32 ((lpparses_ok txR 3 0 _ (by decide) p_R).mono ?_)
  rintro e V236 ⟨rfl, kV236⟩
  refine ⟨_, rfl, ?_⟩
  have h237 := kV236.bk h228
  have h238 := kV236.bk h229
  have h239 := kV236.bk h230
  have h240 := kV236.bk h231
  have h241 := kV236.bk h232
  have h242 := kV236.bk h233
  have K243 := K234.nn kV236
  have z244 := kV236.size
  refine pkq (.agg #[.int .i64 3, .int .i64 0]) <| ppq (.bool true) (exec_cast (congrArg Value.bool (by simp)) (exec_binop .eql 46 46 (.tmp 107) (.tmp 108) (by kernel_rfl) (.agg #[.int .i64 3, .int .i64 0]) (.agg #[.int .i64 3, .int .i64 0]) _ (by kernel_rfl) (by kernel_rfl) (run_eqGuard_agg _ _ _ _ _ _ _ pfault_guard) (pfault_eq _ _ _ _ _))) <| pkq (.bool true) <| pkq (.bool true) <| ps_end <| sy_a ⟨#[.bool false, pT gd 0, pT g2 0, pT g3 0, .bool true, .int .u64 0, .int .i64 10, pT g7 0, .int .i64 9, pT g9 0, .int .i64 3, pT g11 0, .int .i64 0, .bool true, .string ⟨txd.toArray⟩, .int .i64 0, .bool true, ud, .agg parDef.cells, .agg (parDef.cells), .agg (parDef.cells), pT g2 1, pT g3 0, pT g3 1, .agg (parOld.cells), .bool true, .bool true, .agg (parLow.cells), .bool true, .bool true, .tuple #[.int .u64 0, .int .i64 10], .agg (parDef.cells), .tuple #[.int .u64 0, .int .i64 10], .int .u64 0, .int .i64 10, .tuple #[.agg parZ.cells, .int .i64 9], .agg (parDef.cells), .tuple #[.agg parZ.cells, .int .i64 9], .agg parZ.cells, .int .i64 9, .tuple #[.agg parZ.cells, .int .i64 3], .agg (parDef.cells), .tuple #[.agg parZ.cells, .int .i64 3], .agg parZ.cells, .int .i64 3, .tuple #[.agg parRew.cells, .int .i64 0], .agg (parDef.cells), .tuple #[.agg parRew.cells, .int .i64 0], .agg parRew.cells, .int .i64 0, .int .i64 10, .bool true, .bool true, .int .i64 9, .bool true, .bool true, .bool true, .int .i64 3, .bool true, .bool true, .bool true, .int .i64 0, .bool true, .bool true, .bool true, pT g11 10, .int .u64 0, .bool true, .bool true, .bool true, pT g11 7, .int .u64 50000000, pT gd 7, .int .u64 50000000, .bool true, .bool true, .tuple #[.string ⟨txd.toArray⟩, .int .i64 0], .agg (parDef.cells), .tuple #[.string ⟨txd.toArray⟩, .int .i64 0], .string ⟨txd.toArray⟩, .int .i64 0, .string ⟨txd.toArray⟩, .int .i64 132, .bool false, .bool false, .string ⟨txd.toArray⟩, .string ⟨txM.toArray⟩, .bool false, .bool false, .string ⟨txd.toArray⟩, .string ⟨txdS.toArray⟩, .agg #[.int .i64 6, .int .i64 10], .agg #[.int .i64 6, .int .i64 10], .bool true, .bool true, .string ⟨txd.toArray⟩, .string ⟨txdL.toArray⟩, .agg #[.int .i64 4, .int .i64 11], .agg #[.int .i64 4, .int .i64 11], .bool true, .bool true, .bool true, .agg #[.int .i64 5, .int .i64 0], .agg #[.int .i64 5, .int .i64 0], .bool true, .bool true, .bool true, .agg #[.int .i64 3, .int .i64 0], .agg #[.int .i64 3, .int .i64 0], .bool true, .bool true, ud, ud, ud, ud, ud, ud, ud, ud, ud, ud, ud, ud, ud, ud, ud, ud, ud, ud, ud, ud, ud, ud, ud, ud, ud, ud, ud, ud], []⟩ <| tqr_ [0, 1, 2, 3, 4, 5, 6, 7, 8, 9, 10, 11, 12, 13, 14, 15] ?_
  refine pcq 33 #[.slice none 0 0] Tryd.func33 ((lpreads_ok _ [] 6 0 _ (bytes_none _) (by decide) r_0).mono ?_)
  rintro e V245 ⟨rfl, kV245⟩
  refine ⟨_, rfl, ?_⟩
  have h246 := kV245.bk h237
  have h247 := kV245.bk h238
  have h248 := kV245.bk h239
  have h249 := kV245.bk h240
  have h250 := kV245.bk h241
  have h251 := kV245.bk h242
  have K252 := K243.nn kV245
  have z253 := kV245.size
  refine pkq (.agg #[.int .i64 6, .int .i64 0]) <| ppq (.bool true) (exec_cast (congrArg Value.bool (by simp)) (exec_binop .eql 46 46 (.tmp 111) (.tmp 112) (by kernel_rfl) (.agg #[.int .i64 6, .int .i64 0]) (.agg #[.int .i64 6, .int .i64 0]) _ (by kernel_rfl) (by kernel_rfl) (run_eqGuard_agg _ _ _ _ _ _ _ pfault_guard) (pfault_eq _ _ _ _ _))) <| pkq (.bool true) ?_
  obtain ⟨V254, eV254, b1, eb1, h255, kV254⟩ := alloc_step V245 (#[.int .u8 5, .int .u8 6]) 5
  have n256 : gd < b1 := eb1 ▸ lt_of_block h246
  have n257 : g2 < b1 := eb1 ▸ lt_of_block h247
  have n258 : g3 < b1 := eb1 ▸ lt_of_block h248
  have n259 : g7 < b1 := eb1 ▸ lt_of_block h249
  have n260 : g9 < b1 := eb1 ▸ lt_of_block h250
  have n261 : g11 < b1 := eb1 ▸ lt_of_block h251
  have n262 : w.heap.size ≤ b1 := eb1 ▸ K252.size
  refine prq (.slice (some ⟨b1, 0, none⟩) 2 2) (w' := V254) (by rw [← eV254, ← eb1]; kernel_rfl) ?_
  have h263 := kV254.bk h246
  have h264 := kV254.bk h247
  have h265 := kV254.bk h248
  have h266 := kV254.bk h249
  have h267 := kV254.bk h250
  have h268 := kV254.bk h251
  have K269 := K252.nn kV254
  have z270 := kV254.size
  refine pcq 33 #[.slice (some ⟨b1, 0, none⟩) 2 2] Tryd.func33 ((lpreads_ok _ [5, 6] 9 1 _ (Own.bytes_of_block (l := [5, 6]) h255 (by kernel_rfl) rfl (by decide)) (by decide) r_1).mono ?_)
  rintro e V271 ⟨rfl, kV271⟩
  refine ⟨_, rfl, ?_⟩
  have h272 := kV271.bk h263
  have h273 := kV271.bk h264
  have h274 := kV271.bk h265
  have h275 := kV271.bk h266
  have h276 := kV271.bk h267
  have h277 := kV271.bk h268
  have h278 := kV271.bk h255
  have K279 := K269.nn kV271
  have z280 := kV271.size
  refine pkq (.agg #[.int .i64 9, .int .i64 1]) <| ppq (.bool true) (exec_cast (congrArg Value.bool (by simp)) (exec_binop .eql 46 46 (.tmp 116) (.tmp 117) (by kernel_rfl) (.agg #[.int .i64 9, .int .i64 1]) (.agg #[.int .i64 9, .int .i64 1]) _ (by kernel_rfl) (by kernel_rfl) (run_eqGuard_agg _ _ _ _ _ _ _ pfault_guard) (pfault_eq _ _ _ _ _))) <| pkq (.bool true) <| pkq (.bool true) ?_
  obtain ⟨V281, eV281, b2, eb2, h282, kV281⟩ := alloc_step V271 (#[.int .u8 0]) 5
  have n283 : gd < b2 := eb2 ▸ lt_of_block h272
  have n284 : g2 < b2 := eb2 ▸ lt_of_block h273
  have n285 : g3 < b2 := eb2 ▸ lt_of_block h274
  have n286 : g7 < b2 := eb2 ▸ lt_of_block h275
  have n287 : g9 < b2 := eb2 ▸ lt_of_block h276
  have n288 : g11 < b2 := eb2 ▸ lt_of_block h277
  have n289 : b1 < b2 := eb2 ▸ lt_of_block h278
  have n290 : w.heap.size ≤ b2 := eb2 ▸ K279.size
  refine prq (.slice (some ⟨b2, 0, none⟩) 1 1) (w' := V281) (by rw [← eV281, ← eb2]; kernel_rfl) ?_
  have K298 := K279.nn kV281
  have z299 := kV281.size
  refine pcq 33 #[.slice (some ⟨b2, 0, none⟩) 1 1] Tryd.func33 ((lpreads_ok _ [0] 3 0 _ (Own.bytes_of_block (l := [0]) h282 (by kernel_rfl) rfl (by decide)) (by decide) r_2).mono ?_)
  rintro e V300 ⟨rfl, kV300⟩
  refine ⟨_, rfl, ?_⟩
  have K309 := K298.nn kV300
  have z310 := kV300.size
  refine pkq (.agg #[.int .i64 3, .int .i64 0]) <| ppq (.bool true) (exec_cast (congrArg Value.bool (by simp)) (exec_binop .eql 46 46 (.tmp 122) (.tmp 123) (by kernel_rfl) (.agg #[.int .i64 3, .int .i64 0]) (.agg #[.int .i64 3, .int .i64 0]) _ (by kernel_rfl) (by kernel_rfl) (run_eqGuard_agg _ _ _ _ _ _ _ pfault_guard) (pfault_eq _ _ _ _ _))) <| pkq (.bool true) <| pkq (.bool true) <| eqr_ [0, 1, 2, 3, 4, 5, 6, 7, 8, 9, 10, 11, 12, 13] ?_
  refine pcq 8 #[] Tryd.func8 ((lpawake_ok _ (PowTab.keeps htab K309)).mono ?_)
  rintro e V311 ⟨rfl, kV311⟩
  refine ⟨_, rfl, ?_⟩
  have K320 := K309.nn kV311
  have z321 := kV311.size
  refine pkq (.bool true) <| pkq (.bool true) <| pkq (.bool true) <| pkq (.bool true) <| pkq (.bool true) <| pkq (.bool true) <| pkq (.bool true) <| pkq (.bool true) <| pkq (.bool true) <| pkq (.bool true) <| pkq (.bool true) <| pkq (.bool true) <| pkq (.bool true) <| ps_end ?_
  refine sy_a ⟨#[.bool true, pT gd 0, pT g2 0, pT g3 0, .bool true, .int .u64 0, .int .i64 10, pT g7 0, .int .i64 9, pT g9 0, .int .i64 3, pT g11 0, .int .i64 0, .bool true, .string ⟨txd.toArray⟩, .int .i64 0, .bool true, .bool true, .agg parDef.cells, .agg (parDef.cells), .agg (parDef.cells), pT g2 1, pT g3 0, pT g3 1, .agg (parOld.cells), .bool true, .bool true, .agg (parLow.cells), .bool true, .bool true, .tuple #[.int .u64 0, .int .i64 10], .agg (parDef.cells), .tuple #[.int .u64 0, .int .i64 10], .int .u64 0, .int .i64 10, .tuple #[.agg parZ.cells, .int .i64 9], .agg (parDef.cells), .tuple #[.agg parZ.cells, .int .i64 9], .agg parZ.cells, .int .i64 9, .tuple #[.agg parZ.cells, .int .i64 3], .agg (parDef.cells), .tuple #[.agg parZ.cells, .int .i64 3], .agg parZ.cells, .int .i64 3, .tuple #[.agg parRew.cells, .int .i64 0], .agg (parDef.cells), .tuple #[.agg parRew.cells, .int .i64 0], .agg parRew.cells, .int .i64 0, .int .i64 10, .bool true, .bool true, .int .i64 9, .bool true, .bool true, .bool true, .int .i64 3, .bool true, .bool true, .bool true, .int .i64 0, .bool true, .bool true, .bool true, pT g11 10, .int .u64 0, .bool true, .bool true, .bool true, pT g11 7, .int .u64 50000000, pT gd 7, .int .u64 50000000, .bool true, .bool true, .tuple #[.string ⟨txd.toArray⟩, .int .i64 0], .agg (parDef.cells), .tuple #[.string ⟨txd.toArray⟩, .int .i64 0], .string ⟨txd.toArray⟩, .int .i64 0, .string ⟨txd.toArray⟩, .int .i64 132, .bool false, .bool false, .string ⟨txd.toArray⟩, .string ⟨txM.toArray⟩, .bool false, .bool false, .string ⟨txd.toArray⟩, .string ⟨txdS.toArray⟩, .agg #[.int .i64 6, .int .i64 10], .agg #[.int .i64 6, .int .i64 10], .bool true, .bool true, .string ⟨txd.toArray⟩, .string ⟨txdL.toArray⟩, .agg #[.int .i64 4, .int .i64 11], .agg #[.int .i64 4, .int .i64 11], .bool true, .bool true, .bool true, .agg #[.int .i64 5, .int .i64 0], .agg #[.int .i64 5, .int .i64 0], .bool true, .bool true, .bool true, .agg #[.int .i64 3, .int .i64 0], .agg #[.int .i64 3, .int .i64 0], .bool true, .bool true, .agg #[.int .i64 6, .int .i64 0], .agg #[.int .i64 6, .int .i64 0], .bool true, .bool true, .slice (some ⟨b1, 0, none⟩) 2 2, .agg #[.int .i64 9, .int .i64 1], .agg #[.int .i64 9, .int .i64 1], .bool true, .bool true, .bool true, .slice (some ⟨b2, 0, none⟩) 1 1, .agg #[.int .i64 3, .int .i64 0], .agg #[.int .i64 3, .int .i64 0], .bool true, .bool true, .bool true, .bool true, .bool true, .bool true, .bool true, .bool true, .bool true, .bool true, .bool true, .bool true, .bool true, .bool true, .bool true], []⟩ <| then_n <| u_ <| so_ (.bool true) ?_
  exact ⟨rfl, K320⟩
end Go.Proofs.YtpflmldmbpnllaaDoor
namespace Go.Proofs.YtpflmldmbpnllaaDoor
set_option maxRecDepth 100000
set_option maxHeartbeats 4000000
open Go Go.RowKit Go.Own Go.Shelf
/-- Numbers of the fields from i on may be. -/
def within (i : Nat) (us : List Int) : Prop := ∀ j u, us[j]? = some u → parLo[i + j]?.getD 0 ≤ u ∧ u ≤ parHi[i + j]?.getD 0
theorem within.tail {i : Nat} {u : Int} {us : List Int} (h : within i (u :: us)) : within (i + 1) us := fun j x hx => by
  have := h (j + 1) x (by simpa using hx)
  rw [show i + (j + 1) = i + 1 + j by omega] at this; exact this
theorem within.cons {i : Nat} {u : Int} {us : List Int} (h0 : parLo[i]?.getD 0 ≤ u ∧ u ≤ parHi[i]?.getD 0) (h : within (i + 1) us) : within i (u :: us) := fun j x hx => by
  match j with
  | 0 => obtain rfl : u = x := by simpa using hx
         exact h0
  | j + 1 =>
    have := h j x (by simpa using hx)
    rw [show i + 1 + j = i + (j + 1) by omega] at this; exact this
/-- The second number is not above the first. -/
def inord (l : List Int) : Prop := ¬ l[0]?.getD 0 < l[1]?.getD 0
theorem lo_nn0 (i : Nat) : 0 ≤ parLo[i]?.getD 0 := by
  by_cases h : i < 11
  · have h : i = 0 ∨ i = 1 ∨ i = 2 ∨ i = 3 ∨ i = 4 ∨ i = 5 ∨ i = 6 ∨ i = 7 ∨ i = 8 ∨ i = 9 ∨ i = 10 := by omega
    rcases h with rfl | rfl | rfl | rfl | rfl | rfl | rfl | rfl | rfl | rfl | rfl <;> decide
  · rw [List.getElem?_eq_none (show parLo.length ≤ i by show 11 ≤ i; omega)]; decide
theorem Par.oflist (p : Par) : parOfL p.l = p := rfl
/-- Params that may be. -/
def Par.fit (p : Par) : Prop := within 0 p.l ∧ inord p.l
theorem Par.fit_check {p : Par} (h : p.fit) : p.check = (0, 0) := by
  rw [Par.check_good p (fun j hj => by
    have hl : j < p.l.length := hj
    have := h.1 j (p.l[j]?.getD 0) (by rw [List.getElem?_eq_getElem hl]; rfl)
    rw [Nat.zero_add] at this; exact this)]
  exact if_neg h.2
theorem Par.check_fit {p : Par} (h : p.check.1 = 0) : p.fit := by
  obtain ⟨h1, h2⟩ := Par.check_0 h
  refine ⟨fun j u hj => ?_, fun x => absurd (show p.unb < p.mage from x) (by omega)⟩
  have hl : j < 11 := (List.getElem?_eq_some_iff.1 hj).1
  have := h1 j hl
  unfold Par.good at this
  rw [hj] at this
  rw [Nat.zero_add]; exact this
theorem list_l {us : List Int} (h : us.length = 11) : (parOfL us).l = us := (eleven h).symm
end Go.Proofs.YtpflmldmbpnllaaDoor
namespace Go.Proofs.YtpflmldmbpnllaaDoor
set_option maxRecDepth 100000
set_option maxHeartbeats 4000000
open Go Go.RowKit Go.Own Go.Shelf
end Go.Proofs.YtpflmldmbpnllaaDoor
namespace Go.Proofs.YtpflmldmbpnllaaDoor
set_option maxRecDepth 100000
set_option maxHeartbeats 4000000
open Go Go.RowKit Go.Own
/-- Pick: the number's remainder, from 0 on; 0 of none. -/
theorem pick_ok (x n : Int) (w : World) (hx : -9223372036854775808 ≤ x ∧ x ≤ 9223372036854775807) (hn : n ≤ 9223372036854775807) :
    Calls Tryd.prog 35 #[.int .i64 x, .int .i64 n] w fun e w' => e = .returned (.int .i64 (if n ≤ 0 then 0 else x % n)) ∧ w = w' := by
  obtain ⟨hx1, hx2⟩ := hx
  by_cases h0 : n ≤ 0
  · rw [if_pos h0]
    have d0 : decide (n ≤ 0) = true := by simpa using h0
    go_enter Tryd.func35, Tryd.ntmps35
    go_wp2
    go_ret
    exact ⟨rfl, rfl⟩
  · rw [if_neg h0]
    have d0 : decide (n ≤ 0) = false := by simpa using h0
    have hnz : (n == 0) = false := by simp; omega
    have hnz2 : n ≠ 0 := by omega
    have e1 : x.tmod n = if x < 0 ∧ x % n ≠ 0 then x % n - n else x % n := by
      have h1 := Int.emod_nonneg x (show n ≠ 0 by omega)
      have h2 := Int.emod_lt_of_pos x (show 0 < n by omega)
      rw [Int.tmod_eq_emod]
      split
      · rename_i h
        rw [if_neg]
        · simp
        · intro h3
          rcases h with h | h
          · omega
          · exact h3.2 (Int.emod_eq_zero_of_dvd h)
      · rename_i h
        have h4 : ¬ n ∣ x := fun hd => h (.inr hd)
        rw [if_pos ⟨by omega, fun he => h4 (Int.dvd_of_emod_eq_zero he)⟩]
        omega
    have h1 := Int.emod_nonneg x (show n ≠ 0 by omega)
    have h2 := Int.emod_lt_of_pos x (show 0 < n by omega)
    by_cases hc : x < 0 ∧ x % n ≠ 0
    · have e2 : x.tmod n = x % n - n := by rw [e1, if_pos hc]
      have d1 : decide (x.tmod n < 0) = true := by simp; omega
      have w1 : wrap64 (x.tmod n + n) = x.tmod n + n := IntWalk.wrap64_in _ ⟨by omega, by omega⟩
      have E2 := Lib.hid e2
      clear e1 e2 hc h1 h2
      go_enter Tryd.func35, Tryd.ntmps35
      go_wp2
      go_ret
      exact ⟨ret_int (by rw [E2.out]; omega), rfl⟩
    · have e2 : x.tmod n = x % n := by rw [e1, if_neg hc]
      have d1 : decide (x.tmod n < 0) = false := by simp; omega
      have E2 := Lib.hid e2
      clear e1 e2 hc h1 h2
      go_enter Tryd.func35, Tryd.ntmps35
      go_wp2
      go_ret
      exact ⟨ret_int (by rw [E2.out]), rfl⟩
end Go.Proofs.YtpflmldmbpnllaaDoor
namespace Go.Own
set_option maxRecDepth 100000
set_option maxHeartbeats 4000000
open Go Go.ChangeShapes Go.WideShapes Go.ChangeAt Go.RowKit Go.WideElems
variable {H : Type} {enc : TypeId × Value → H} {P : Program}
theorem trodAll_stays (hl : laidOutB P = true) {W W' : World} {sp : Nat → Bool} : ∀ (ts : List TypeId) (vs : List Value) (ds : List (DataW H)) (ps : List MemPlace),
    ts.all (fun t => P.readableRec t && decide (t < P.types.size)) = true → DataW.TrodAll enc P W 0 (fun _ => true) true ts vs ds ps → (∀ p ∈ ps, W.sameAt W' p) → (∀ p ∈ ps, sp p.block = true) →
    DataW.TrodAll enc P W' 0 sp true ts vs ds ps
  | [], vs, ds, ps, _, h, _, _ => by
    obtain ⟨rfl, rfl, rfl⟩ := trodAll_nil h
    exact trodAll_mk0
  | t :: ts, vs, ds, ps, hr, h, hs, hsp => by
    obtain ⟨v, vs', d, ds', p, q, rfl, rfl, rfl, h0, r⟩ := trodAll_cons h
    simp only [List.all_cons, Bool.and_eq_true, decide_eq_true_eq] at hr
    exact trodAll_cons_mk (Trod_stays hl hr.1.1 hr.1.2 h0 (fun x hx => hs x (by simp [hx])) (fun x hx => hsp x (by simp [hx])))
      (trodAll_stays hl ts vs' ds' q hr.2 r (fun x hx => hs x (by simp [hx])) (fun x hx => hsp x (by simp [hx])))
theorem law_post {f : Func} {s : ChangeSpec} {W W' : World} {args : Array Value} {ds gs : List (DataW H)} {before : List MemPlace} {tb : TypeId} (hl : laidOutB P = true) (hr : f.params.toList.all (fun t => P.readableRec t && decide (t < P.types.size)) = true)
    (hres : f.resultTypes = #[tb]) (hb : P.underlying tb = some .bool) (hvars : s.vars = []) (hfn : s.fn H (ds ++ gs) = { results := [.lit (.bool true)], args := ds })
    (hW : DataW.Whole enc P f.params.toList s.vars false W args.toList ds gs before) (hB : Below W.heap.size W W') : s.post enc P f false true false false W args (.bool true) W' := by
  have hlt := hW.lt
  have hW0 := hW
  obtain ⟨p, q, hA, hV, rfl, hfz, hnd⟩ := hW
  rw [hvars] at hV
  obtain ⟨rfl, rfl⟩ := trodVars_none hV
  refine ⟨ds, [], p ++ [], [], p, [], hW0, ?_, ?_, ?_, hB.frame _, fun h => by cases h⟩
  · rw [hfn, hres]
    exact trodAll_mk1 (shut_bool hb _)
  · rw [hfn]
    exact trodAll_stays hl _ _ _ _ hr hA (fun x hx => hB.same (hlt x (by simp [hx]))) (fun x hx => by simpa using hlt x (by simp [hx]))
  · rw [hfn, hvars]
    rfl
/-- A slice that came in: its length, and each element's cells with the element's own reading. -/
theorem open_elems {t e : TypeId} {W : World} {sp : Nat → Bool} {held : Bool} {v : Value} {d : DataW H} {ps : List MemPlace} (ht : P.underlying t = some (.slice e)) (hpos : 0 < P.cellsOf e) (h : DataW.Trod enc P W 0 sp held t v d ps) (hv : ∃ a len cap, v = .slice a len cap) :
    ∃ (a : Option Addr) (len cap : Nat), v = .slice a len cap ∧ len ≤ cap ∧ cap ≤ maxLen ∧ ∀ i, i < len → ∃ b o cs n y, a = some ⟨b, o, none⟩ ∧ cs.length = P.cellsOf e ∧
      (∀ j, j < P.cellsOf e → W.cell? ⟨b, o + i * P.cellsOf e + j, none⟩ = cs[j]?) ∧ DataW.trod enc P W 0 sp held n e cs = some y := by
  obtain ⟨fuel, hf⟩ := h
  obtain ⟨a0, len0, cap0, rfl⟩ := hv
  rcases Go.Deep.open_slice ht (by simpa [Value.cells] using hf) with ⟨h0, _⟩ | ⟨a, len, cap, m, n, D, Pl, hcs, _, hl, hm, hmm, _, hi⟩
  · simp only [List.cons.injEq, Value.slice.injEq, and_true] at h0
    obtain ⟨rfl, rfl, rfl⟩ := h0
    exact ⟨_, _, _, rfl, Nat.le_refl _, Nat.zero_le _, fun i h => absurd h (Nat.not_lt_zero i)⟩
  · simp only [List.cons.injEq, Value.slice.injEq, and_true] at hcs
    obtain ⟨rfl, rfl, rfl⟩ := hcs
    refine ⟨_, _, _, rfl, hl, hm, fun i hlt => ?_⟩
    have him : i < m := by rw [hmm]; split <;> omega
    obtain ⟨cs', hc, ht'⟩ := hi i him
    obtain ⟨_, hcl, hat⟩ := World.cells?_some hc
    have hsp : a.spot = none := by
      obtain ⟨cs0, hc0, _⟩ := hi 0 (by omega)
      obtain ⟨_, hcl0, hat0⟩ := World.cells?_some hc0
      have h0 := hat0 0 hpos
      have e1 : (a.add (0 * P.cellsOf e)).add 0 = a := by simp [Addr.add]
      rw [e1, List.getElem?_eq_getElem (by omega)] at h0
      cases hs : a.spot with
      | none => rfl
      | some s =>
        exfalso
        unfold World.cell? at h0
        split at h0
        · rw [if_pos (by simp [hs])] at h0; cases h0
        · cases h0
    obtain ⟨b, o, s⟩ := a
    cases hsp
    refine ⟨b, o, cs', n, _, rfl, hcl, fun j hj => ?_, ht'⟩
    have h2 := hat j hj
    have e2 : ((⟨b, o, none⟩ : Addr).add (i * P.cellsOf e)).add j = ⟨b, o + i * P.cellsOf e + j, none⟩ := by simp [Addr.add_lit]
    rw [e2] at h2
    exact h2
theorem list_of {α : Type} (Q : Nat → α → Prop) (n : Nat) (h : ∀ i, i < n → ∃ x, Q i x) : ∃ l : List α, l.length = n ∧ ∀ k x, l[k]? = some x → Q k x := by
  induction n with
  | zero => exact ⟨[], rfl, fun k x hk => by simp at hk⟩
  | succ n ih =>
    obtain ⟨l, hl, hq⟩ := ih (fun i hi => h i (by omega))
    obtain ⟨x, hx⟩ := h n (by omega)
    refine ⟨l ++ [x], by simp [hl], fun k y hk => ?_⟩
    rw [List.getElem?_append] at hk
    split at hk
    · exact hq k y hk
    · rename_i hlt
      obtain ⟨hk1, hk2⟩ := List.getElem?_eq_some_iff.1 hk
      have : k = n := by simp at hk1; omega
      subst this
      simp at hk2
      rw [← hk2]; exact hx
/-- A slice of ints that came in. -/
structure IntsAt (w : World) (v : Value) (l : List Int) : Prop where
  len : ∃ a cap, v = .slice a l.length cap
  at_ : ∀ k x, l[k]? = some x → -9223372036854775808 ≤ x ∧ x ≤ 9223372036854775807 ∧ ∃ b o cap, v = .slice (some ⟨b, o, none⟩) l.length cap ∧ b < w.heap.size ∧ w.cell? ⟨b, o + k, none⟩ = some (.int .i64 x)
theorem open_intsAt {t e : TypeId} {W : World} {sp : Nat → Bool} {held : Bool} {v : Value} {d : DataW H} {ps : List MemPlace} (ht : P.underlying t = some (.slice e)) (he : P.underlying e = some (.int .i64)) (hC : P.cellsOf e = 1)
    (h : DataW.Trod enc P W 0 sp held t v d ps) (hv : ∃ a len cap, v = .slice a len cap) : ∃ l, IntsAt W v l := by
  obtain ⟨a, len, cap, rfl, hl, hm, hi⟩ := open_elems ht (by rw [hC]; omega) h hv
  rw [hC] at hi
  obtain ⟨l, hll, hq⟩ := list_of (fun i (x : Int) => -9223372036854775808 ≤ x ∧ x ≤ 9223372036854775807 ∧ ∃ b o, a = some ⟨b, o, none⟩ ∧ W.cell? ⟨b, o + i, none⟩ = some (.int .i64 x)) len (fun i hlt => by
    obtain ⟨b, o, cs, n, y, ha, hcl, hcell, ht'⟩ := hi i hlt
    obtain ⟨q, e1, _, e3⟩ := DataW.trod_int he ht'
    have h0 := hcell 0 (by omega)
    rw [e1] at h0
    have hb := bounds_i64 e3
    exact ⟨q, hb.1, hb.2, b, o, ha, by simpa using h0⟩)
  subst hll
  refine ⟨l, ⟨a, cap, rfl⟩, fun k x hk => ?_⟩
  obtain ⟨b1, b2, b, o, rfl, c0⟩ := hq k x hk
  exact ⟨b1, b2, b, o, cap, rfl, World.block_lt_of_cell? W _ c0, c0⟩
theorem IntsAt.keeps {w w' : World} {v : Value} {l : List Int} (h : IntsAt w v l) (k : Keeps Nob w w') : IntsAt w' v l :=
  ⟨h.len, fun i x hi => by
    obtain ⟨b1, b2, b, o, cap, e, hb, hc⟩ := h.at_ i x hi
    exact ⟨b1, b2, b, o, cap, e, Nat.lt_of_lt_of_le hb k.size, (k.cell hb (fun x => x)).trans hc⟩⟩
theorem u64_nat {a : Int} (h : (Lit.int .u64 a).wf = true) : ∃ n : Nat, n < 2 ^ 64 ∧ a = (n : Int) := by
  have h1 : 0 ≤ a ∧ a < 18446744073709551616 := by
    simp [Lit.wf, IntKind.min, IntKind.max, IntKind.bits, IntKind.signed] at h
    omega
  exact ⟨a.toNat, by omega, by omega⟩
end Go.Own
namespace Go.Proofs.YtpflmldmbpnllaaDoor
set_option maxRecDepth 100000
set_option maxHeartbeats 4000000
open Go Go.RowKit Go.Own Go.Shelf
def i64b (x : Int) : Prop := -9223372036854775808 ≤ x ∧ x ≤ 9223372036854775807
theorem IntsAt.keepsN {w w' : World} {v : Value} {l : List Int} (h : IntsAt w v l) (k : Keeps Nob w w') : IntsAt w' v l :=
  ⟨h.len, fun j x hj => by
    obtain ⟨h1, h2, b, o, cap, h3, h4, h5⟩ := h.at_ j x hj
    exact ⟨h1, h2, b, o, cap, h3, Nat.lt_of_lt_of_le h4 k.size, (k.cell h4 (fun x => x)).trans h5⟩⟩
/-- The laws' copy: eleven cells, some of them from the numbers that came in. -/
theorem copy_eleven {w : World} {v : Value} {l : List Int} {g : Nat} (h : IntsAt w v l) (hg : w.heap[g]? = some (.cells (I [0, 0, 0, 0, 0, 0, 0, 0, 0, 0, 0]).toArray 3 (0, 0))) :
    ∃ (w' : World) (c : Value) (x0 x1 x2 x3 x4 x5 x6 x7 x8 x9 x10 : Int), (∀ (o : Oper) (ρ : Operand → Value) (x y : Operand), o.op = .call { callee := .builtin .copy, args := #[x, y], argTypes := #[55, 55] } → ρ x = .slice (some ⟨g, 0, none⟩) 11 11 → ρ y = v → (execOp ρ o).run Tryd.prog w = .ok (.value c) w') ∧
      (i64b x0 ∧ i64b x1 ∧ i64b x2 ∧ i64b x3 ∧ i64b x4 ∧ i64b x5 ∧ i64b x6 ∧ i64b x7 ∧ i64b x8 ∧ i64b x9 ∧ i64b x10) ∧ w'.heap[g]? = some (.cells (I [x0, x1, x2, x3, x4, x5, x6, x7, x8, x9, x10]).toArray 3 (0, 0)) ∧ Keeps (One g) w w' := by
  obtain ⟨a, cap, hv⟩ := h.len
  have hu : Tryd.prog.underlying 55 = some (.slice 3) := Tryd.underlying55
  have hs : (Tryd.prog.info? 3).map (·.size) = some 1 := by kernel_rfl
  have hz : i64b 0 := by unfold i64b; omega
  by_cases hl : l = []
  · refine ⟨w, goInt 0, 0, 0, 0, 0, 0, 0, 0, 0, 0, 0, 0, fun o ρ x y ho hx hy => ?_, ⟨hz, hz, hz, hz, hz, hz, hz, hz, hz, hz, hz⟩, hg, Keeps.refl _ _⟩
    have := run_copy_none (P := Tryd.prog) w 55 55 o.type 3 (some ⟨g, 0, none⟩) a 11 11 l.length cap hu hs (by rw [hl]; decide)
    unfold execOp
    simp only [ho, hx, hy, hv, resolve, invoke, builtin, Sem.run_bind, Sem.run_pure, Result.andThen_ok, List.map_toArray, List.map_cons, List.map_nil, this]
  · obtain ⟨x0, hx0⟩ : ∃ x, l[0]? = some x := ⟨l[0]'(List.length_pos_iff.2 hl), List.getElem?_eq_getElem _⟩
    obtain ⟨_, _, b, o, cap', hv', hb, _⟩ := h.at_ 0 x0 hx0
    have hsrc : ∀ (j : Nat) (u : Value), (I (l.take 11))[j]? = some u → w.cell? ((⟨b, o, none⟩ : Addr).add j) = some u := fun j u hj => by
      unfold I at hj
      rw [List.getElem?_map] at hj
      obtain ⟨y, hy, rfl⟩ := Option.map_eq_some_iff.1 hj
      have hy2 : l[j]? = some y := by
        rw [List.getElem?_take] at hy
        split at hy
        · exact hy
        · cases hy
      obtain ⟨_, _, b', o', cap2, hv2, _, h5⟩ := h.at_ j y hy2
      rw [hv'] at hv2
      simp only [Value.slice.injEq, Option.some.injEq, Addr.mk.injEq, and_true, true_and] at hv2
      obtain ⟨⟨rfl, rfl⟩, rfl⟩ := hv2
      rw [Addr.add_lit]; exact h5
    have hlen : (I (l.take 11)).length = Nat.min l.length 11 := by simp [I, Nat.min_comm]
    obtain ⟨ys, hys, hyl⟩ : ∃ ys : List Int, (I [0, 0, 0, 0, 0, 0, 0, 0, 0, 0, 0]).take 0 ++ I (l.take 11) ++ (I [0, 0, 0, 0, 0, 0, 0, 0, 0, 0, 0]).drop (0 + (I (l.take 11)).length) = I ys ∧ ys = l.take 11 ++ (List.replicate 11 0).drop (l.take 11).length := by
      refine ⟨_, ?_, rfl⟩
      rw [show ([0, 0, 0, 0, 0, 0, 0, 0, 0, 0, 0] : List Int) = List.replicate 11 0 from rfl]
      simp only [I, List.take_zero, List.nil_append, List.map_append, List.map_drop, List.length_map, Nat.zero_add]
    have hlt : (l.take 11).length ≤ 11 := by rw [List.length_take]; omega
    have hy11 : ys.length = 11 := by rw [hyl, List.length_append, List.length_drop, List.length_replicate]; omega
    have hyb : ∀ y ∈ ys, i64b y := fun y hy => by
      rw [hyl] at hy
      rcases List.mem_append.1 hy with h1 | h1
      · obtain ⟨j, hj⟩ := List.getElem?_of_mem (List.mem_of_mem_take h1)
        obtain ⟨q1, q2, _⟩ := h.at_ j y hj
        exact ⟨q1, q2⟩
      · have := List.eq_of_mem_replicate (List.mem_of_mem_drop h1); rw [this]; exact hz
    have he := eleven hy11
    have hb2 : ∀ i, i < 11 → i64b (ys[i]?.getD 0) := fun i hi => by rw [List.getElem?_eq_getElem (by omega)]; exact hyb _ (List.getElem_mem _)
    refine ⟨w.setRow g (I ys).toArray, goInt ((I (l.take 11)).length : Nat), _, _, _, _, _, _, _, _, _, _, _, fun o2 ρ x y ho hx hy => ?_, ⟨hb2 0 (by omega), hb2 1 (by omega), hb2 2 (by omega), hb2 3 (by omega), hb2 4 (by omega), hb2 5 (by omega), hb2 6 (by omega), hb2 7 (by omega), hb2 8 (by omega), hb2 9 (by omega), hb2 10 (by omega)⟩, by rw [← he]; exact setRow_heap _ _ _ _ _ _ hg, Keeps.setRow (M := One g) (Keeps.refl _ _) (fun _ => rfl) _⟩
    have := run_copy_row (P := Tryd.prog) w 55 55 o2.type 3 g 0 11 11 ⟨b, o, none⟩ l.length cap' _ 3 (I (l.take 11)) hu hs hg hlen hsrc (by rw [hlen]; exact Nat.le_trans (by rw [Nat.zero_add]; exact Nat.min_le_right _ _) (Nat.le_refl 11)) (I_one _)
    unfold execOp
    simp only [ho, hx, hy, hv', resolve, invoke, builtin, Sem.run_bind, Sem.run_pure, Result.andThen_ok, List.map_toArray, List.map_cons, List.map_nil, this]
    rw [hys]
theorem pick_lt (x : Int) (n : Nat) (w : World) (hx : i64b x) (h0 : 0 < n) (hn : n ≤ 9223372036854775807) : Calls Tryd.prog 35 #[.int .i64 x, .int .i64 (n : Int)] w fun e w' => ∃ t : Nat, t < n ∧ e = .returned (.int .i64 ((t : Nat) : Int)) ∧ w = w' :=
  (pick_ok x (n : Int) w ⟨by have := hx.1; omega, by have := hx.2; omega⟩ (by omega)).mono fun e w' ⟨h1, h2⟩ => by
    rw [if_neg (by omega)] at h1
    have h3 := Int.emod_nonneg x (show (n : Int) ≠ 0 by omega)
    have h4 := Int.emod_lt_of_pos x (show (0 : Int) < (n : Int) by omega)
    exact ⟨(x % (n : Int)).toNat, by omega, by rw [h1, Int.toNat_of_nonneg h3], h2⟩
theorem pick_to (x : Int) (n : Nat) (m : Int) (w : World) (hx : i64b x) (hm : m = (n : Int)) (h0 : 0 < n) (hn : n ≤ 9223372036854775807) : Calls Tryd.prog 35 #[.int .i64 x, .int .i64 m] w fun e w' => ∃ t : Nat, t < n ∧ e = .returned (.int .i64 ((t : Nat) : Int)) ∧ w = w' := hm ▸ pick_lt x n w hx h0 hn
theorem fit_of (y0 y1 y2 y3 y4 y5 y6 y7 y8 y9 y10 : Int) (hy0 : 1 ≤ y0 ∧ y0 ≤ 1048576) (hy1 : 0 ≤ y1 ∧ y1 ≤ 1048576) (hy2 : 1 ≤ y2 ∧ y2 ≤ 1000) (hy3 : 1 ≤ y3 ∧ y3 ≤ 256) (hy4 : 1 ≤ y4 ∧ y4 ≤ 16) (hy5 : 1 ≤ y5 ∧ y5 ≤ 32) (hy6 : 1 ≤ y6 ∧ y6 ≤ 1048576) (hy7 : 0 ≤ y7 ∧ y7 ≤ 1000000000) (hy8 : 0 ≤ y8 ∧ y8 ≤ 1000) (hy9 : 1 ≤ y9 ∧ y9 ≤ 1048576) (hy10 : 0 ≤ y10 ∧ y10 ≤ 1000000000) (ho : y1 ≤ y0) : (parOf y0 y1 y2 y3 y4 y5 y6 y7 y8 y9 y10).fit := by
  refine ⟨fun j u hj => ?_, fun x => absurd (show y0 < y1 from x) (by omega)⟩
  have hl : j < 11 := (List.getElem?_eq_some_iff.1 hj).1
  rw [Nat.zero_add]
  have h : j = 0 ∨ j = 1 ∨ j = 2 ∨ j = 3 ∨ j = 4 ∨ j = 5 ∨ j = 6 ∨ j = 7 ∨ j = 8 ∨ j = 9 ∨ j = 10 := by omega
  rcases h with rfl | rfl | rfl | rfl | rfl | rfl | rfl | rfl | rfl | rfl | rfl <;> (cases hj; assumption)
theorem Par.fit_in {p : Par} (h : p.fit) (i : Nat) (hi : i < 11) : parLo[i]?.getD 0 ≤ p.l[i]?.getD 0 ∧ p.l[i]?.getD 0 ≤ parHi[i]?.getD 0 := by
  have := h.1 i (p.l[i]?.getD 0) (by rw [List.getElem?_eq_getElem (show i < p.l.length from hi)]; rfl)
  rw [Nat.zero_add] at this; exact this
theorem Par.fit_ok {p : Par} (h : p.fit) : p.Ok := by
  have h0 := Par.fit_in h
  have q0 := h0 0 (by omega); have q1 := h0 1 (by omega); have q2 := h0 2 (by omega); have q3 := h0 3 (by omega); have q4 := h0 4 (by omega); have q5 := h0 5 (by omega); have q6 := h0 6 (by omega); have q7 := h0 7 (by omega); have q8 := h0 8 (by omega); have q9 := h0 9 (by omega); have q10 := h0 10 (by omega)
  simp [Par.l, parLo, parHi] at q0 q1 q2 q3 q4 q5 q6 q7 q8 q9 q10
  constructor <;> (simp only [i64ok, u64ok]; omega)
noncomputable def qc70_0 (n : Nat) : Code := partOf Tryd.f34 n
theorem near_ok (v : Value) (l : List Int) (w : World) (hx : IntsAt w v l) :
    Calls Tryd.prog 34 #[v] w (fun e w' => ∃ q : Par, e = .returned (.agg q.cells) ∧ q.fit ∧ Keeps Nob w w') := by
  obtain ⟨i0, hi0, hz0, hz1, hz2⟩ := info_parts int_info0
  have K0 : Keeps Nob w w := Keeps.refl _ _
  refine sy_enter (qc70_0 1) ⟨#[v, ud, ud, ud, ud, ud, ud, ud, ud, ud, ud, ud, ud, ud, ud, ud, ud, ud, ud, ud, ud, ud, ud, ud, ud, ud, ud, ud, ud, ud, ud, ud, ud, ud, ud, ud, ud, ud, ud, ud, ud, ud, ud, ud, ud, ud, ud, ud, ud, ud, ud, ud, ud, ud, ud, ud, ud, ud, ud, ud, ud, ud, ud, ud, ud], []⟩ Tryd.func34 (by kernel_rfl) (by kernel_rfl) <| qr_ [0] <| pal 24 (#[.int .i64 0, .int .i64 0, .int .i64 0, .int .i64 0, .int .i64 0, .int .i64 0, .int .i64 0, .int .u64 0, .int .u64 0, .int .i64 0, .int .u64 0]) (.agg (#[.int .i64 0, .int .i64 0, .int .i64 0, .int .i64 0, .int .i64 0, .int .i64 0, .int .i64 0, .int .u64 0, .int .u64 0, .int .i64 0, .int .u64 0])) fun V1 gr egr h2 kV1 => ?_
  have n3 : w.heap.size ≤ gr := egr ▸ K0.size
  have h4 : IntsAt V1 v l := IntsAt.keepsN hx kV1
  have K5 := K0.nn kV1
  have z6 := kV1.size
  refine eqr_ [0, 1] ?_
  obtain ⟨V7, eV7, s, es, h8, kV7⟩ := alloc_step V1 (madeCells (Value.int .i64 0).cells (11 * i0.size)) 3
  have h9 : V7.heap[s]? = some (.cells ((I [0, 0, 0, 0, 0, 0, 0, 0, 0, 0, 0]).toArray) 3 (0, 0)) := h8.trans (by rw [hz1]; exact congrArg (fun c => some (Obj.cells c 3 (0, 0))) ints_made)
  refine prq (.slice (some ⟨s, 0, none⟩) 11 11) (w' := V7) (by rw [← eV7, ← es]; exact exec_makeSlice 55 (.const (.int .i64 11)) (.const (.int .i64 11)) (by kernel_rfl) 3 i0 (.int .i64 0) Tryd.underlying55 hi0 hz0 11 (by kernel_rfl) (by kernel_rfl) (by rw [hz2]; omega) (by omega)) ?_
  clear eV7
  have ns : w.heap.size ≤ s := es ▸ K5.size
  have ngs : gr < s := es ▸ lt_of_block h2
  have h10 : IntsAt V7 v l := IntsAt.keepsN h4 kV7
  have h11 := kV7.bk h2
  have K12 := K5.nn kV7
  have z13 := kV7.size
  refine pkq (.slice (some ⟨s, 0, none⟩) 11 11) <| eqr_ [0, 1, 2] <| pkq (.slice (some ⟨s, 0, none⟩) 11 11) <| pkq (v) ?_
  obtain ⟨V14, cv, x0, x1, x2, x3, x4, x5, x6, x7, x8, x9, x10, hrun, ⟨bx0, bx1, bx2, bx3, bx4, bx5, bx6, bx7, bx8, bx9, bx10⟩, h15, kV14⟩ := copy_eleven h10 h9
  refine prq cv (w' := V14) (by exact hrun _ _ (.tmp 6) (.tmp 7) (by kernel_rfl) (by kernel_rfl) (by kernel_rfl)) ?_
  have h16 := kV14.bO h11
  have K17 := K12.nO kV14
  have z18 := kV14.size
  refine eqr_ [0, 1, 2, 3, 4, 5] <| pkq (.slice (some ⟨s, 0, none⟩) 11 11) <| ppq (pT s 0) (exec_cast (v := pT s (0 + 0 * 1)) (by simp) (exec_indexAt_slice 55 (.tmp 9) (.const (.int .i64 0)) (by kernel_rfl) s 0 11 11 (by kernel_rfl) .i64 0 (by kernel_rfl) _ 1 Tryd.underlying55 (by kernel_rfl) (by omega))) <| ppq (.int .i64 x0) (ldc 3 s 0 (rc (h15) (rfl))) ?_
  refine pcq 35 #[.int .i64 x0, .int .i64 1048576] Tryd.func35 ((pick_to x0 1048576 1048576 _ bx0 (by rfl) (by omega) (by omega)).mono ?_)
  rintro e w1 ⟨t0, ht0, rfl, rfl⟩
  obtain ⟨u0, hu0⟩ : ∃ u : Nat, 1 + t0 = u := ⟨_, rfl⟩
  obtain ⟨v0, hv0⟩ : ∃ v : Nat, u0 + 1 = v := ⟨_, rfl⟩
  refine ⟨_, rfl, ?_⟩
  refine ppq (iN u0) (exec_cast (congrArg (Value.int .i64) ((wrapN (1 + t0) (by omega)).trans (congrArg (fun n : Nat => (n : Int)) hu0))) (by kernel_rfl)) <| pkq (iN u0) <| eq_ <| sy_np <| sy_reg <| an_begin 4 52 (opsAt (qc70_0 62)) (fun W => (W.heap[s]? = some (.cells ((I [x0, x1, x2, x3, x4, x5, x6, x7, x8, x9, x10]).toArray) 3 (0, 0)))) #[false, false, false, false, false, false, false, false, false, false, false, false, false, false, false, false, false, false, false, false, false, false, false, false, false, false, false, false, false, false, false, false, false, false, false, false, false, false, false, false, false, false, false, false, false, false, false, false, false, false, false, false] (by kernel_rfl) (by kernel_rfl) (by kernel_rfl) (by kernel_rfl) ?_
  obtain ⟨V19, eV19, kV19⟩ := drew_step V14
  rw [eV19]
  clear eV19
  have h20 := kV19.bk h16
  have h21 := kV19.bk h15
  have K22 := K17.nn kV19
  have z23 := kV19.size
  refine akq 0 (iN u0) h21 <| akq 1 (.slice (some ⟨s, 0, none⟩) 11 11) h21 <| avq 2 (pT s 1) (fun W hS => exec_cast (v := pT s (0 + 1 * 1)) (by simp) (exec_indexAt_slice 55 (.tmp 15) (.const (.int .i64 1)) (by kernel_rfl) s 0 11 11 (by kernel_rfl) .i64 1 (by kernel_rfl) _ 1 Tryd.underlying55 (by kernel_rfl) (by omega))) h21 <| avq 3 (.int .i64 x1) (fun W hS => ldc 3 s 1 (rc (hS) (rfl))) h21 <| akq 4 (iN u0) h21 <| avq 5 (iN v0) (fun W hS => exec_cast (congrArg (Value.int .i64) ((wrapN (u0 + 1) (by omega)).trans (congrArg (fun n : Nat => (n : Int)) hv0))) (by kernel_rfl)) h21 <| akq 7 (.slice (some ⟨s, 0, none⟩) 11 11) h21 <| avq 8 (pT s 2) (fun W hS => exec_cast (v := pT s (0 + 2 * 1)) (by simp) (exec_indexAt_slice 55 (.tmp 21) (.const (.int .i64 2)) (by kernel_rfl) s 0 11 11 (by kernel_rfl) .i64 2 (by kernel_rfl) _ 1 Tryd.underlying55 (by kernel_rfl) (by omega))) h21 <| avq 9 (.int .i64 x2) (fun W hS => ldc 3 s 2 (rc (hS) (rfl))) h21 <| akq 12 (.slice (some ⟨s, 0, none⟩) 11 11) h21 <| avq 13 (pT s 3) (fun W hS => exec_cast (v := pT s (0 + 3 * 1)) (by simp) (exec_indexAt_slice 55 (.tmp 26) (.const (.int .i64 3)) (by kernel_rfl) s 0 11 11 (by kernel_rfl) .i64 3 (by kernel_rfl) _ 1 Tryd.underlying55 (by kernel_rfl) (by omega))) h21 <| avq 14 (.int .i64 x3) (fun W hS => ldc 3 s 3 (rc (hS) (rfl))) h21 <| akq 17 (.slice (some ⟨s, 0, none⟩) 11 11) h21 <| avq 18 (pT s 4) (fun W hS => exec_cast (v := pT s (0 + 4 * 1)) (by simp) (exec_indexAt_slice 55 (.tmp 31) (.const (.int .i64 4)) (by kernel_rfl) s 0 11 11 (by kernel_rfl) .i64 4 (by kernel_rfl) _ 1 Tryd.underlying55 (by kernel_rfl) (by omega))) h21 ?_
  refine avq 19 (.int .i64 x4) (fun W hS => ldc 3 s 4 (rc (hS) (rfl))) h21 <| akq 22 (.slice (some ⟨s, 0, none⟩) 11 11) h21 <| avq 23 (pT s 5) (fun W hS => exec_cast (v := pT s (0 + 5 * 1)) (by simp) (exec_indexAt_slice 55 (.tmp 36) (.const (.int .i64 5)) (by kernel_rfl) s 0 11 11 (by kernel_rfl) .i64 5 (by kernel_rfl) _ 1 Tryd.underlying55 (by kernel_rfl) (by omega))) h21 <| avq 24 (.int .i64 x5) (fun W hS => ldc 3 s 5 (rc (hS) (rfl))) h21 <| akq 27 (.slice (some ⟨s, 0, none⟩) 11 11) h21 <| avq 28 (pT s 6) (fun W hS => exec_cast (v := pT s (0 + 6 * 1)) (by simp) (exec_indexAt_slice 55 (.tmp 41) (.const (.int .i64 6)) (by kernel_rfl) s 0 11 11 (by kernel_rfl) .i64 6 (by kernel_rfl) _ 1 Tryd.underlying55 (by kernel_rfl) (by omega))) h21 <| avq 29 (.int .i64 x6) (fun W hS => ldc 3 s 6 (rc (hS) (rfl))) h21 <| akq 32 (.slice (some ⟨s, 0, none⟩) 11 11) h21 <| avq 33 (pT s 7) (fun W hS => exec_cast (v := pT s (0 + 7 * 1)) (by simp) (exec_indexAt_slice 55 (.tmp 46) (.const (.int .i64 7)) (by kernel_rfl) s 0 11 11 (by kernel_rfl) .i64 7 (by kernel_rfl) _ 1 Tryd.underlying55 (by kernel_rfl) (by omega))) h21 <| avq 34 (.int .i64 x7) (fun W hS => ldc 3 s 7 (rc (hS) (rfl))) h21 <| akq 36 (.slice (some ⟨s, 0, none⟩) 11 11) h21 <| avq 37 (pT s 8) (fun W hS => exec_cast (v := pT s (0 + 8 * 1)) (by simp) (exec_indexAt_slice 55 (.tmp 50) (.const (.int .i64 8)) (by kernel_rfl) s 0 11 11 (by kernel_rfl) .i64 8 (by kernel_rfl) _ 1 Tryd.underlying55 (by kernel_rfl) (by omega))) h21 <| avq 38 (.int .i64 x8) (fun W hS => ldc 3 s 8 (rc (hS) (rfl))) h21 <| akq 40 (.slice (some ⟨s, 0, none⟩) 11 11) h21 ?_
  refine avq 41 (pT s 9) (fun W hS => exec_cast (v := pT s (0 + 9 * 1)) (by simp) (exec_indexAt_slice 55 (.tmp 54) (.const (.int .i64 9)) (by kernel_rfl) s 0 11 11 (by kernel_rfl) .i64 9 (by kernel_rfl) _ 1 Tryd.underlying55 (by kernel_rfl) (by omega))) h21 <| avq 42 (.int .i64 x9) (fun W hS => ldc 3 s 9 (rc (hS) (rfl))) h21 <| akq 45 (.slice (some ⟨s, 0, none⟩) 11 11) h21 <| avq 46 (pT s 10) (fun W hS => exec_cast (v := pT s (0 + 10 * 1)) (by simp) (exec_indexAt_slice 55 (.tmp 59) (.const (.int .i64 10)) (by kernel_rfl) s 0 11 11 (by kernel_rfl) .i64 10 (by kernel_rfl) _ 1 Tryd.underlying55 (by kernel_rfl) (by omega))) h21 <| avq 47 (.int .i64 x10) (fun W hS => ldc 3 s 10 (rc (hS) (rfl))) h21 <| an_o 6 ?_
  refine ncq 35 #[.int .i64 x1, iN v0] Tryd.func35 ((pick_to x1 v0 ((v0 : Nat) : Int) _ bx1 (by omega) (by omega) (by omega)).mono ?_)
  rintro e w1 ⟨t1, ht1, rfl, rfl⟩
  refine ⟨_, rfl, ?_⟩
  refine ⟨h21, ?_⟩
  refine an_o 10 ?_
  refine ncq 35 #[.int .i64 x2, .int .i64 1000] Tryd.func35 ((pick_to x2 1000 1000 _ bx2 (by rfl) (by omega) (by omega)).mono ?_)
  rintro e w1 ⟨t2, ht2, rfl, rfl⟩
  obtain ⟨u2, hu2⟩ : ∃ u : Nat, 1 + t2 = u := ⟨_, rfl⟩
  refine ⟨_, rfl, ?_⟩
  refine ⟨h21, ?_⟩
  refine avq 11 (iN u2) (fun W hS => exec_cast (congrArg (Value.int .i64) ((wrapN (1 + t2) (by omega)).trans (congrArg (fun n : Nat => (n : Int)) hu2))) (by kernel_rfl)) h21 <| an_o 15 ?_
  refine ncq 35 #[.int .i64 x3, .int .i64 256] Tryd.func35 ((pick_to x3 256 256 _ bx3 (by rfl) (by omega) (by omega)).mono ?_)
  rintro e w1 ⟨t3, ht3, rfl, rfl⟩
  obtain ⟨u3, hu3⟩ : ∃ u : Nat, 1 + t3 = u := ⟨_, rfl⟩
  refine ⟨_, rfl, ?_⟩
  refine ⟨h21, ?_⟩
  refine avq 16 (iN u3) (fun W hS => exec_cast (congrArg (Value.int .i64) ((wrapN (1 + t3) (by omega)).trans (congrArg (fun n : Nat => (n : Int)) hu3))) (by kernel_rfl)) h21 <| an_o 20 ?_
  refine ncq 35 #[.int .i64 x4, .int .i64 16] Tryd.func35 ((pick_to x4 16 16 _ bx4 (by rfl) (by omega) (by omega)).mono ?_)
  rintro e w1 ⟨t4, ht4, rfl, rfl⟩
  obtain ⟨u4, hu4⟩ : ∃ u : Nat, 1 + t4 = u := ⟨_, rfl⟩
  refine ⟨_, rfl, ?_⟩
  refine ⟨h21, ?_⟩
  refine avq 21 (iN u4) (fun W hS => exec_cast (congrArg (Value.int .i64) ((wrapN (1 + t4) (by omega)).trans (congrArg (fun n : Nat => (n : Int)) hu4))) (by kernel_rfl)) h21 <| an_o 25 ?_
  refine ncq 35 #[.int .i64 x5, .int .i64 32] Tryd.func35 ((pick_to x5 32 32 _ bx5 (by rfl) (by omega) (by omega)).mono ?_)
  rintro e w1 ⟨t5, ht5, rfl, rfl⟩
  obtain ⟨u5, hu5⟩ : ∃ u : Nat, 1 + t5 = u := ⟨_, rfl⟩
  refine ⟨_, rfl, ?_⟩
  refine ⟨h21, ?_⟩
  refine avq 26 (iN u5) (fun W hS => exec_cast (congrArg (Value.int .i64) ((wrapN (1 + t5) (by omega)).trans (congrArg (fun n : Nat => (n : Int)) hu5))) (by kernel_rfl)) h21 <| an_o 30 ?_
  refine ncq 35 #[.int .i64 x6, .int .i64 1048576] Tryd.func35 ((pick_to x6 1048576 1048576 _ bx6 (by rfl) (by omega) (by omega)).mono ?_)
  rintro e w1 ⟨t6, ht6, rfl, rfl⟩
  obtain ⟨u6, hu6⟩ : ∃ u : Nat, 1 + t6 = u := ⟨_, rfl⟩
  refine ⟨_, rfl, ?_⟩
  refine ⟨h21, ?_⟩
  refine avq 31 (iN u6) (fun W hS => exec_cast (congrArg (Value.int .i64) ((wrapN (1 + t6) (by omega)).trans (congrArg (fun n : Nat => (n : Int)) hu6))) (by kernel_rfl)) h21 <| an_o 35 ?_
  refine ncq 35 #[.int .i64 x7, .int .i64 1000000001] Tryd.func35 ((pick_to x7 1000000001 1000000001 _ bx7 (by rfl) (by omega) (by omega)).mono ?_)
  rintro e w1 ⟨t7, ht7, rfl, rfl⟩
  refine ⟨_, rfl, ?_⟩
  refine ⟨h21, ?_⟩
  refine an_o 39 ?_
  refine ncq 35 #[.int .i64 x8, .int .i64 1001] Tryd.func35 ((pick_to x8 1001 1001 _ bx8 (by rfl) (by omega) (by omega)).mono ?_)
  rintro e w1 ⟨t8, ht8, rfl, rfl⟩
  refine ⟨_, rfl, ?_⟩
  refine ⟨h21, ?_⟩
  refine an_o 43 ?_
  refine ncq 35 #[.int .i64 x9, .int .i64 1048576] Tryd.func35 ((pick_to x9 1048576 1048576 _ bx9 (by rfl) (by omega) (by omega)).mono ?_)
  rintro e w1 ⟨t9, ht9, rfl, rfl⟩
  obtain ⟨u9, hu9⟩ : ∃ u : Nat, 1 + t9 = u := ⟨_, rfl⟩
  refine ⟨_, rfl, ?_⟩
  refine ⟨h21, ?_⟩
  refine avq 44 (iN u9) (fun W hS => exec_cast (congrArg (Value.int .i64) ((wrapN (1 + t9) (by omega)).trans (congrArg (fun n : Nat => (n : Int)) hu9))) (by kernel_rfl)) h21 <| an_o 48 ?_
  refine ncq 35 #[.int .i64 x10, .int .i64 1000000001] Tryd.func35 ((pick_to x10 1000000001 1000000001 _ bx10 (by rfl) (by omega) (by omega)).mono ?_)
  rintro e w1 ⟨t10, ht10, rfl, rfl⟩
  refine ⟨_, rfl, ?_⟩
  refine ⟨h21, ?_⟩
  refine an_o 49 ?_
  obtain ⟨V24, eV24, gl, egl, h25, kV24⟩ := alloc_step V19 (#[.int .i64 ((u0 : Nat) : Int), .int .i64 ((t1 : Nat) : Int), .int .i64 ((u2 : Nat) : Int), .int .i64 ((u3 : Nat) : Int), .int .i64 ((u4 : Nat) : Int), .int .i64 ((u5 : Nat) : Int), .int .i64 ((u6 : Nat) : Int), .int .i64 ((t7 : Nat) : Int), .int .i64 ((t8 : Nat) : Int), .int .i64 ((u9 : Nat) : Int), .int .i64 ((t10 : Nat) : Int)]) 3
  have n26 : gr < gl := egl ▸ lt_of_block h20
  have n27 : s < gl := egl ▸ lt_of_block h21
  have n28 : w.heap.size ≤ gl := egl ▸ K22.size
  refine nrq (.slice (some ⟨gl, 0, none⟩) 11 11) (w' := V24) (by rw [← eV24, ← egl]; kernel_rfl) ?_
  have h29 := kV24.bk h20
  have h30 := kV24.bk h21
  have K31 := K22.nn kV24
  have z32 := kV24.size
  refine ⟨h30, ?_⟩
  refine an_o 50 ?_
  obtain ⟨q, hq⟩ : ∃ q, parOf ((u0 : Nat) : Int) ((t1 : Nat) : Int) ((u2 : Nat) : Int) ((u3 : Nat) : Int) ((u4 : Nat) : Int) ((u5 : Nat) : Int) ((u6 : Nat) : Int) ((t7 : Nat) : Int) ((t8 : Nat) : Int) ((u9 : Nat) : Int) ((t10 : Nat) : Int) = q := ⟨_, rfl⟩
  have hfit : q.fit := hq ▸ fit_of ((u0 : Nat) : Int) ((t1 : Nat) : Int) ((u2 : Nat) : Int) ((u3 : Nat) : Int) ((u4 : Nat) : Int) ((u5 : Nat) : Int) ((u6 : Nat) : Int) ((t7 : Nat) : Int) ((t8 : Nat) : Int) ((u9 : Nat) : Int) ((t10 : Nat) : Int) (by omega) (by omega) (by omega) (by omega) (by omega) (by omega) (by omega) (by omega) (by omega) (by omega) (by omega) (by omega)
  refine ncq 41 #[.slice (some ⟨gl, 0, none⟩) 11 11] Tryd.func41 ((hq ▸ kRecord_ok gl ((u0 : Nat) : Int) ((t1 : Nat) : Int) ((u2 : Nat) : Int) ((u3 : Nat) : Int) ((u4 : Nat) : Int) ((u5 : Nat) : Int) ((u6 : Nat) : Int) ((t7 : Nat) : Int) ((t8 : Nat) : Int) ((u9 : Nat) : Int) ((t10 : Nat) : Int) _ h25 (by omega) (by omega) (by omega)).mono ?_)
  rintro e V33 ⟨rfl, kV33⟩
  refine ⟨_, rfl, ?_⟩
  have h34 := kV33.bk h29
  have h35 := kV33.bk h30
  have K37 := K31.nn kV33
  have z38 := kV33.size
  refine ⟨h35, ?_⟩
  refine an_o 51 <| nst 24 gr q.cells h34 (by kernel_rfl) rfl (by kernel_rfl) fun V39 h40 kV39 => ?_
  have h41 := kV39.bO h35
  have K43 := K37.nO kV39
  have z44 := kV39.size
  refine ⟨h41, ?_⟩
  refine an_end (by kernel_rfl) <| sy_a ⟨#[v, ud, pT gr 0, .slice (some ⟨s, 0, none⟩) 11 11, iN u0, .slice (some ⟨s, 0, none⟩) 11 11, .slice (some ⟨s, 0, none⟩) 11 11, v, cv, .slice (some ⟨s, 0, none⟩) 11 11, pT s 0, .int .i64 x0, iN t0, iN u0, iN u0, .slice (some ⟨s, 0, none⟩) 11 11, pT s 1, .int .i64 x1, iN u0, iN v0, iN t1, .slice (some ⟨s, 0, none⟩) 11 11, pT s 2, .int .i64 x2, iN t2, iN u2, .slice (some ⟨s, 0, none⟩) 11 11, pT s 3, .int .i64 x3, iN t3, iN u3, .slice (some ⟨s, 0, none⟩) 11 11, pT s 4, .int .i64 x4, iN t4, iN u4, .slice (some ⟨s, 0, none⟩) 11 11, pT s 5, .int .i64 x5, iN t5, iN u5, .slice (some ⟨s, 0, none⟩) 11 11, pT s 6, .int .i64 x6, iN t6, iN u6, .slice (some ⟨s, 0, none⟩) 11 11, pT s 7, .int .i64 x7, iN t7, .slice (some ⟨s, 0, none⟩) 11 11, pT s 8, .int .i64 x8, iN t8, .slice (some ⟨s, 0, none⟩) 11 11, pT s 9, .int .i64 x9, iN t9, iN u9, .slice (some ⟨s, 0, none⟩) 11 11, pT s 10, .int .i64 x10, iN t10, .slice (some ⟨gl, 0, none⟩) 11 11, .agg q.cells], []⟩ <| then_n <| u_ <| sy_out (.agg q.cells) rfl (results_cell_row (p := 2) (ty := 24) (by kernel_rfl) _ _ gr 24 q.cells (0, 0) _ (by kernel_rfl) h40 Tryd.underlying24 rfl (by kernel_rfl)) ?_
  exact ⟨q, rfl, hfit, K43⟩
end Go.Proofs.YtpflmldmbpnllaaDoor
namespace Go.Proofs.YtpflmldmbpnllaaDoor
set_option maxRecDepth 100000
set_option maxHeartbeats 4000000
open Go Go.RowKit Go.Own Go.Shelf
end Go.Proofs.YtpflmldmbpnllaaDoor
namespace Go.Proofs.YtpflmldmbpnllaaDoor
set_option maxRecDepth 100000
set_option maxHeartbeats 4000000
open Go Go.RowKit Go.Own Go.Shelf
theorem Par.r_l {p : Par} (h : p.fit) : p.r = p.l := by
  have q7 := Par.fit_in h 7 (by omega)
  have q8 := Par.fit_in h 8 (by omega)
  have q10 := Par.fit_in h 10 (by omega)
  simp [Par.l, parLo, parHi] at q7 q8 q10
  unfold Par.r Par.l
  rw [show min p.base 1099511627776 = p.base by omega, show min p.mult 1099511627776 = p.mult by omega, show min p.rew 1099511627776 = p.rew by omega]
theorem pfind_name {k : Nat} (hk : k < 11) : pfind (parName[k]?.getD ⟨#[]⟩) = (k : Int) := by
  have h : k = 0 ∨ k = 1 ∨ k = 2 ∨ k = 3 ∨ k = 4 ∨ k = 5 ∨ k = 6 ∨ k = 7 ∨ k = 8 ∨ k = 9 ∨ k = 10 := by omega
  rcases h with rfl | rfl | rfl | rfl | rfl | rfl | rfl | rfl | rfl | rfl | rfl <;> (show _ = _; kernel_rfl)
theorem pwith_fit {p : Par} (h : p.fit) (k n : Nat) : (pwith p k n).l = p.l.set k (min (n : Int) 1099511627776) := by
  unfold pwith
  rw [Par.r_l h, list_l (by rw [List.length_set]; rfl)]
theorem l_inj {p q : Par} (h : p.l = q.l) : p = q := by rw [← Par.oflist p, h, Par.oflist]
theorem check_err (q : Par) : q.check.1 = 0 ∨ q.check.1 = 3 ∨ (q.check.1 = 9 ∧ q.unb < q.mage) := by
  unfold Par.check
  split
  · exact .inr (.inl rfl)
  · by_cases h : q.unb < q.mage
    · rw [if_pos h]; exact .inr (.inr ⟨rfl, h⟩)
    · rw [if_neg h]; exact .inl rfl
theorem pset_name {p : Par} (h : p.fit) {k : Nat} (hk : k < 11) (n : Nat) : pset p (parName[k]?.getD ⟨#[]⟩) n = if (pwith p k n).check.1 = 0 then (pwith p k n, 0) else (parZ, (pwith p k n).check.1) := by
  unfold pset
  rw [Par.fit_check h, if_pos rfl, pfind_name hk, if_neg (by omega), Int.toNat_natCast]
theorem pget_name {q : Par} (h : q.fit) {k : Nat} (hk : k < 11) : pget q (parName[k]?.getD ⟨#[]⟩) = (q.l[k]?.getD 0, 0) := by
  unfold pget
  rw [Par.fit_check h, if_pos rfl, pfind_name hk, if_neg (by omega), Int.toNat_natCast]
theorem set_at {l : List Int} (hl : l.length = 11) {k : Nat} (hk : k < 11) (x : Int) : (l.set k x)[k]?.getD 0 = x := by
  rw [List.getElem?_set_self (by omega)]; rfl
theorem set_off {l : List Int} {i k : Nat} (h : i ≠ k) (x : Int) : (l.set k x)[i]?.getD 0 = l[i]?.getD 0 := by
  rw [List.getElem?_set_ne (fun e => h e.symm)]
theorem set_cases {p : Par} (h : p.fit) {k : Nat} (hk : k < 11) (n : Nat) :
    (∃ q, pset p (parName[k]?.getD ⟨#[]⟩) n = (q, 0) ∧ q.fit ∧ q.l = p.l.set k (n : Int) ∧ n ≤ 1000000000) ∨ pset p (parName[k]?.getD ⟨#[]⟩) n = (parZ, 3) ∨ (pset p (parName[k]?.getD ⟨#[]⟩) n = (parZ, 9) ∧ k < 2) := by
  rw [pset_name h hk]
  have hl := pwith_fit h k n
  rcases check_err (pwith p k n) with hc | hc | ⟨hc, ho⟩
  · have hf := Par.check_fit hc
    have hb := Par.fit_in hf k hk
    have hh := parHi_le k
    rw [hl, set_at rfl hk] at hb
    exact .inl ⟨_, if_pos hc, hf, by rw [hl, show min (n : Int) 1099511627776 = (n : Int) by omega], by omega⟩
  · exact .inr (.inl (by rw [if_neg (by rw [hc]; decide), hc]))
  · refine .inr (.inr ⟨by rw [if_neg (by rw [hc]; decide), hc], ?_⟩)
    by_cases h2 : k < 2
    · exact h2
    · have e0 : (pwith p k n).l[0]?.getD 0 = p.l[0]?.getD 0 := by rw [hl, set_off (by omega)]
      have e1 : (pwith p k n).l[1]?.getD 0 = p.l[1]?.getD 0 := by rw [hl, set_off (by omega)]
      have h3 : ¬ p.l[0]?.getD 0 < p.l[1]?.getD 0 := h.2
      rw [← e0, ← e1] at h3
      exact absurd ho h3
theorem set_back {p q : Par} (hp : p.fit) (hq : q.fit) {k n m : Nat} (hk : k < 11) (hl : q.l = p.l.set k (n : Int)) (hm : p.l[k]?.getD 0 = (m : Int)) : pset q (parName[k]?.getD ⟨#[]⟩) m = (p, 0) := by
  have hb := Par.fit_in hp k hk
  have hh := parHi_le k
  have e : pwith q k m = p := by
    apply l_inj
    rw [pwith_fit hq, hl, List.set_set, show min (m : Int) 1099511627776 = p.l[k]?.getD 0 by omega]
    rw [List.getElem?_eq_getElem (show k < p.l.length from hk)]
    exact List.set_getElem_self _
  rw [pset_name hq hk, e, Par.fit_check hp, if_pos rfl]
theorem fit_nat {p : Par} (h : p.fit) {i : Nat} (hi : i < 11) : ∃ x : Nat, p.l[i]?.getD 0 = (x : Int) ∧ x ≤ 1000000000 := by
  have hb := Par.fit_in h i hi
  have hh := parHi_le i
  have hn := lo_nn0 i
  exact ⟨(p.l[i]?.getD 0).toNat, by omega, by omega⟩
theorem I_at {l : List Int} (hl : l.length = 11) {i : Nat} (hi : i < 11) {x : Int} (h : l[i]?.getD 0 = x) : (I l).toArray[i]? = some (.int .i64 x) := by
  rw [List.getElem?_eq_getElem (by omega)] at h
  unfold I
  rw [List.getElem?_toArray, List.getElem?_map, List.getElem?_eq_getElem (show i < l.length by omega), ← h]; rfl
theorem name_cell {w : World} {g cap : Nat} (h : Row w 9 1 (.slice (some ⟨g, 0, none⟩) 11 cap) 11 (Tx parName)) {k : Nat} (hk : k < 11) {s : ByteArray} (hs : parName[k]?.getD ⟨#[]⟩ = s) : w.cell? ⟨g, k, none⟩ = some (.string s) := by
  have := World.ownsRow.cells h (g := g) rfl k (.string s) (by
    unfold Tx
    rw [List.getElem?_map]
    rw [List.getElem?_eq_getElem (show k < parName.length from hk)] at hs ⊢
    rw [← hs]; rfl)
  rw [Addr.add_lit, Nat.zero_add] at this; exact this
theorem names_is (w : World) : Calls Tryd.prog 15 #[] w fun e w' => ∃ g cap, e = .returned (.slice (some ⟨g, 0, none⟩) 11 cap) ∧ Row w' 9 1 (.slice (some ⟨g, 0, none⟩) 11 cap) 11 (Tx parName) ∧ w.heap.size ≤ g ∧ Keeps Nob w w' :=
  (pNames_ok w).mono fun e w' ⟨v, h1, h2, h3, h4⟩ => by
    obtain ⟨g, cap, rfl, _⟩ := Row.spell h2 (by omega)
    exact ⟨g, cap, h1, h2, h3 g rfl, h4⟩
theorem fields_is {p : Par} (w : World) (h : p.fit) : Calls Tryd.prog 36 #[.agg p.cells] w fun e w' => ∃ g, e = .returned (.slice (some ⟨g, 0, none⟩) 11 11) ∧ w'.heap[g]? = some (.cells (I p.l).toArray 3 (0, 0)) ∧ w.heap.size ≤ g ∧ Keeps Nob w w' := by
  have := kFields_blk p w (Par.fit_ok h)
  rw [Par.r_l h] at this; exact this
theorem set_round (i k : Nat) (hi : i ≤ 11) : (i < 11 ∧ i = k) ∨ (i < 11 ∧ i ≠ k) ∨ i = 11 := by omega
noncomputable def qc72_0 (n : Nat) : Code := partOf Tryd.f7 n
theorem set_all (v0 : Value) (l0 : List Int) (wh : Int) (ha : -9223372036854775808 ≤ wh ∧ wh ≤ 9223372036854775807) (n : Nat) (hn : n < 2 ^ 64) (w : World) (hx0 : IntsAt w v0 l0) (htab : PowTab w) :
    Calls Tryd.prog 7 #[v0, .int .i64 wh, .int .u64 ((n : Nat) : Int)] w (fun e w' => e = .returned (.bool true) ∧ Keeps Nob w w') := by
  have K0 : Keeps Nob w w := Keeps.refl _ _
  refine sy_enter (qc72_0 1) ⟨#[v0, .int .i64 wh, uN n, ud, ud, ud, ud, ud, ud, ud, ud, ud, ud, ud, ud, ud, ud, ud, ud, ud, ud, ud, ud, ud, ud, ud, ud, ud, ud, ud, ud, ud, ud, ud, ud, ud, ud, ud, ud, ud, ud, ud, ud, ud, ud, ud, ud, ud, ud, ud, ud, ud, ud, ud, ud, ud, ud, ud, ud, ud, ud, ud, ud, ud, ud, ud, ud, ud, ud, ud, ud, ud, ud, ud, ud, ud, ud, ud, ud, ud, ud, ud, ud, ud, ud, ud, ud, ud, ud, ud, ud, ud, ud, ud, ud, ud, ud, ud, ud, ud, ud, ud, ud, ud, ud, ud, ud, ud, ud, ud, ud, ud, ud, ud, ud, ud, ud, ud, ud, ud, ud, ud, ud, ud, ud, ud, ud, ud, ud, ud, ud, ud, ud, ud, ud, ud, ud, ud, ud, ud, ud, ud, ud, ud, ud, ud, ud, ud, ud, ud, ud, ud], []⟩ Tryd.func7 (by kernel_rfl) (by kernel_rfl) <| qr_ [0] <| pkq (.bool false) <| eqr_ [0, 1] ?_
  refine pcq 5 #[] Tryd.func5 ((known_ok _ (PowTab.keeps htab K0)).mono ?_)
  rintro e V1 ⟨rfl, kV1⟩
  refine ⟨_, rfl, ?_⟩
  have h2 : IntsAt V1 v0 l0 := IntsAt.keepsN hx0 kV1
  have K3 := K0.nn kV1
  have z4 := kV1.size
  refine pkq (.bool true) <| eqr_ [0, 1, 2, 3] <| pkq (v0) ?_
  refine pcq 34 #[v0] Tryd.func34 ((near_ok v0 l0 _ h2).mono ?_)
  rintro e V5 ⟨p, rfl, hfit, kV5⟩
  have hp := Par.fit_ok hfit
  have hc : p.check.1 = 0 := by rw [Par.fit_check hfit]
  refine ⟨_, rfl, ?_⟩
  have K6 := K3.nn kV5
  have z7 := kV5.size
  refine pal 24 (#[.int .i64 0, .int .i64 0, .int .i64 0, .int .i64 0, .int .i64 0, .int .i64 0, .int .i64 0, .int .u64 0, .int .u64 0, .int .i64 0, .int .u64 0]) (.agg (#[.int .i64 0, .int .i64 0, .int .i64 0, .int .i64 0, .int .i64 0, .int .i64 0, .int .i64 0, .int .u64 0, .int .u64 0, .int .i64 0, .int .u64 0])) fun V8 gp egp h9 kV8 => ?_
  have n10 : w.heap.size ≤ gp := egp ▸ K6.size
  have K11 := K6.nn kV8
  have z12 := kV8.size
  refine pst 24 gp p.cells h9 (by kernel_rfl) rfl (by kernel_rfl) fun V13 h14 kV13 => ?_
  have K15 := K11.nO kV13
  have z16 := kV13.size
  refine eqr_ [0, 1] ?_
  have lt_gp := lt_of_block h14
  refine pcq 15 #[] Tryd.func15 ((names_is _).mono ?_)
  rintro e V17 ⟨gn, capn, rfl, hN, hgn, kV17⟩
  have hgnl := Row.lt hN (k := gn) rfl
  refine ⟨_, rfl, ?_⟩
  have h18 := kV17.bk h14
  have K19 := K15.nn kV17
  have z20 := kV17.size
  refine pkq (.slice (some ⟨gn, 0, none⟩) 11 capn) <| eq_ <| qr_ [0, 1, 2, 3, 4, 5, 6] <| ppq (.agg (p.cells)) (ldr 24 gp (h18) (by kernel_rfl)) ?_
  refine pcq 9 #[.agg (p.cells)] Tryd.func9 ((pCheck_is p 0 _ hp hc).mono ?_)
  rintro e V21 ⟨rfl, kV21⟩
  refine ⟨_, rfl, ?_⟩
  have h22 := kV21.bk h18
  have h23 : Row V21 9 1 (.slice (some ⟨gn, 0, none⟩) 11 capn) 11 (Tx parName) := hN.keeps kV21 (fun _ _ x => x)
  have K24 := K19.nn kV21
  have z25 := kV21.size
  refine pkq (.tuple #[.int .i64 0, .int .i64 p.check.2]) <| pkq (.int .i64 0) <| pkq (.int .i64 p.check.2) <| pkq (.int .i64 0) <| pkq (.int .i64 p.check.2) <| eqr_ [0, 1, 2, 3, 4, 5, 6] <| pkq (.int .i64 0) <| pkq (.bool false) <| pkq (.bool false) <| pkq (.slice (some ⟨gn, 0, none⟩) 11 capn) <| ppq (.int .i64 11) (exec_len (.tmp 34) 33 _ (by kernel_rfl) Tryd.underlying33 (some ⟨gn, 0, none⟩) 11 capn (by kernel_rfl)) <| pkq (.bool false) <| pkq (.bool false) <| en_ ?_
  refine s_ <| tqr_ [0, 1, 2] <| pkq (.int .i64 wh) ?_
  refine pcq 35 #[.int .i64 wh, .int .i64 11] Tryd.func35 ((pick_to wh 11 11 _ ha rfl (by omega) (by omega)).mono ?_)
  rintro e w1 ⟨k, hk, rfl, rfl⟩
  obtain ⟨sk, hsk⟩ : ∃ s, parName[k]?.getD ⟨#[]⟩ = s := ⟨_, rfl⟩
  refine ⟨_, rfl, ?_⟩
  refine pkq (iN k) <| ps_end <| sy_a ⟨#[v0, .int .i64 wh, uN n, ud, ud, ud, .bool false, .bool true, pT gp 0, .slice (some ⟨gn, 0, none⟩) 11 capn, .int .i64 0, .int .i64 p.check.2, iN k, ud, ud, ud, ud, ud, ud, ud, ud, ud, .bool true, v0, .agg p.cells, .slice (some ⟨gn, 0, none⟩) 11 capn, .tuple #[.int .i64 0, .int .i64 p.check.2], .agg (p.cells), .tuple #[.int .i64 0, .int .i64 p.check.2], .int .i64 0, .int .i64 p.check.2, .int .i64 0, .bool false, .bool false, .slice (some ⟨gn, 0, none⟩) 11 capn, .int .i64 11, .bool false, .bool false, .int .i64 wh, iN k, ud, ud, ud, ud, ud, ud, ud, ud, ud, ud, ud, ud, ud, ud, ud, ud, ud, ud, ud, ud, ud, ud, ud, ud, ud, ud, ud, ud, ud, ud, ud, ud, ud, ud, ud, ud, ud, ud, ud, ud, ud, ud, ud, ud, ud, ud, ud, ud, ud, ud, ud, ud, ud, ud, ud, ud, ud, ud, ud, ud, ud, ud, ud, ud, ud, ud, ud, ud, ud, ud, ud, ud, ud, ud, ud, ud, ud, ud, ud, ud, ud, ud, ud, ud, ud, ud, ud, ud, ud, ud, ud, ud, ud, ud, ud, ud, ud, ud, ud, ud, ud, ud, ud, ud, ud, ud, ud, ud, ud, ud, ud, ud], []⟩ <| tqr_ [0, 1, 2] <| ppq (.agg (p.cells)) (ldr 24 gp (h22) (by kernel_rfl)) ?_
  have ltz_gp8 := lt_of_block h22
  refine pcq 36 #[.agg (p.cells)] Tryd.func36 ((fields_is _ hfit).mono ?_)
  rintro e V26 ⟨gw, rfl, hgw, hwgw, kV26⟩
  have hlgw := lt_of_block hgw
  refine ⟨_, rfl, ?_⟩
  have h27 := kV26.bk h22
  have h28 : Row V26 9 1 (.slice (some ⟨gn, 0, none⟩) 11 capn) 11 (Tx parName) := h23.keeps kV26 (fun _ _ x => x)
  have K29 := K24.nn kV26
  have z30 := kV26.size
  refine pkq (.slice (some ⟨gw, 0, none⟩) 11 11) <| eq_ ?_
  rcases set_cases hfit hk n with ⟨q, hps, hqf, hql, hn9⟩ | hps | ⟨hps, hk2⟩
  · skip
    rw [hsk] at hps
    have hqok := Par.fit_ok hqf
    have hqc := Par.fit_check hqf
    obtain ⟨yk, hyk, hyk9⟩ := fit_nat hfit hk
    have hback := set_back hfit hqf hk hql hyk
    rw [hsk] at hback
    refine sy_cut (fun aQ VQ => ∃ (g14 : Nat), (aQ = ⟨#[v0, .int .i64 wh, .int .u64 ((n : Nat) : Int), ud, ud, ud, .bool false, .bool true, .pointer (some ⟨gp, 0, none⟩), .slice (some ⟨gn, 0, none⟩) 11 capn, .int .i64 0, .int .i64 p.check.2, .int .i64 ((k : Nat) : Int), .slice (some ⟨gw, 0, none⟩) 11 11, .pointer (some ⟨g14, 0, none⟩), .int .i64 0, ud, ud, ud, ud, ud, ud, .bool true, v0, .agg p.cells, .slice (some ⟨gn, 0, none⟩) 11 capn, .tuple #[.int .i64 0, .int .i64 p.check.2], .agg (p.cells), .tuple #[.int .i64 0, .int .i64 p.check.2], .int .i64 0, .int .i64 p.check.2, .int .i64 0, .bool false, .bool false, .slice (some ⟨gn, 0, none⟩) 11 capn, .int .i64 11, .bool false, .bool false, .int .i64 wh, .int .i64 ((k : Nat) : Int), .agg (p.cells), .slice (some ⟨gw, 0, none⟩) 11 11, .tuple #[.agg q.cells, .int .i64 0], .agg (p.cells), .slice (some ⟨gn, 0, none⟩) 11 capn, .int .i64 ((k : Nat) : Int), .pointer (some ⟨gn, k, none⟩), .string sk, .int .u64 ((n : Nat) : Int), .tuple #[.agg q.cells, .int .i64 0], .agg q.cells, .int .i64 0, ud, ud, ud, ud, ud, ud, ud, ud, ud, ud, ud, ud, ud, ud, ud, ud, ud, ud, ud, ud, ud, ud, ud, ud, ud, ud, ud, ud, ud, ud, ud, ud, ud, ud, ud, ud, ud, ud, ud, ud, ud, ud, ud, ud, ud, ud, ud, ud, ud, ud, ud, ud, ud, ud, ud, ud, ud, ud, ud, ud, ud, ud, ud, ud, ud, ud, ud, ud, ud, ud, ud, ud, ud, ud, ud, ud, ud, ud, ud, ud, ud, ud, ud, ud, ud, ud, ud, ud, ud, ud, ud, ud, ud, ud, ud, ud, ud, ud, ud, ud], []⟩) ∧ (VQ.heap[gp]? = some (.cells p.cells 24 (0, 0))) ∧ (Row VQ 9 1 (.slice (some ⟨gn, 0, none⟩) 11 capn) 11 (Tx parName)) ∧ (VQ.heap[gw]? = some (.cells ((I p.l).toArray) 3 (0, 0))) ∧ (VQ.heap[g14]? = some (.cells q.cells 24 (0, 0))) ∧ (g14 ≠ gp ∧ g14 ≠ gw ∧ w.heap.size ≤ g14 ∧ V26.heap.size ≤ g14) ∧ (Keeps Nob w VQ)) ?_ ?_
    · refine sy_np <| sy_reg <| an_begin 9 13 (opsAt (qc72_0 510)) (fun W => (W.heap[gp]? = some (.cells p.cells 24 (0, 0))) ∧ (Row W 9 1 (.slice (some ⟨gn, 0, none⟩) 11 capn) 11 (Tx parName))) #[false, false, false, false, false, false, false, false, false, false, false, false, false] (by kernel_rfl) (by kernel_rfl) (by kernel_rfl) (by kernel_rfl) ?_
      obtain ⟨V31, eV31, kV31⟩ := drew_step V26
      rw [eV31]
      clear eV31
      have h32 := kV31.bk h27
      have h33 : Row V31 9 1 (.slice (some ⟨gn, 0, none⟩) 11 capn) 11 (Tx parName) := h28.keeps kV31 (fun _ _ x => x)
      have h34 := kV31.bk hgw
      have K35 := K29.nn kV31
      have z36 := kV31.size
      refine avq 0 (.agg (p.cells)) (fun W hS => ldr 24 gp (hS.1) (by kernel_rfl)) ⟨h32, h33⟩ <| akq 1 (.slice (some ⟨gn, 0, none⟩) 11 capn) ⟨h32, h33⟩ <| akq 2 (iN k) ⟨h32, h33⟩ <| avq 3 (pT gn k) (fun W hS => exec_cast (v := pT gn (0 + k * 1)) (by simp) (exec_indexAt_slice 33 (.tmp 44) (.tmp 45) (by kernel_rfl) gn 0 11 capn (by kernel_rfl) .i64 k (by kernel_rfl) _ 1 Tryd.underlying33 (by kernel_rfl) (by omega))) ⟨h32, h33⟩ <| avq 4 (.string sk) (fun W hS => ldc 9 gn k (name_cell hS.2 hk hsk)) ⟨h32, h33⟩ <| akq 5 (uN n) ⟨h32, h33⟩ ?_
      refine an_two 6 10 (by kernel_rfl) ?_ ?_
      · refine ncq 13 #[.agg (p.cells), .string sk, uN n] Tryd.func13 ((pSet_is p q sk n 0 _ hp hps).mono ?_)
        rintro e V37 ⟨rfl, kV37⟩
        refine ⟨_, rfl, ?_⟩
        have h38 := kV37.bk h32
        have h39 : Row V37 9 1 (.slice (some ⟨gn, 0, none⟩) 11 capn) 11 (Tx parName) := h33.keeps kV37 (fun _ _ x => x)
        have h40 := kV37.bk h34
        have K41 := K35.nn kV37
        have z42 := kV37.size
        refine ⟨⟨h38, h39⟩, ?_⟩
        refine akq 7 (.tuple #[.agg q.cells, .int .i64 0]) ⟨h38, h39⟩ <| akq 8 (.agg q.cells) ⟨h38, h39⟩ <| akq 9 (.int .i64 0) ⟨h38, h39⟩ <| an_o 10 <| nal 24 (#[.int .i64 0, .int .i64 0, .int .i64 0, .int .i64 0, .int .i64 0, .int .i64 0, .int .i64 0, .int .u64 0, .int .u64 0, .int .i64 0, .int .u64 0]) (.agg (#[.int .i64 0, .int .i64 0, .int .i64 0, .int .i64 0, .int .i64 0, .int .i64 0, .int .i64 0, .int .u64 0, .int .u64 0, .int .i64 0, .int .u64 0])) fun V43 g14 eg14 h44 kV43 => ?_
        have n45 : gp < g14 := eg14 ▸ lt_of_block h38
        have n46 : gw < g14 := eg14 ▸ lt_of_block h40
        have n47 : w.heap.size ≤ g14 := eg14 ▸ K41.size
        have h48 := kV43.bk h38
        have h49 : Row V43 9 1 (.slice (some ⟨gn, 0, none⟩) 11 capn) 11 (Tx parName) := h39.keeps kV43 (fun _ _ x => x)
        have h50 := kV43.bk h40
        have K51 := K41.nn kV43
        have z52 := kV43.size
        refine ⟨⟨h48, h49⟩, ?_⟩
        refine an_o 11 <| nst 24 g14 q.cells h44 (by kernel_rfl) rfl (by kernel_rfl) fun V53 h54 kV53 => ?_
        have h55 := kV53.bO h48
        have h56 : Row V53 9 1 (.slice (some ⟨gn, 0, none⟩) 11 capn) 11 (Tx parName) := h49.keeps kV53 (fun j hj e => by simp only [Value.ownBlock, Option.some.injEq] at hj; unfold Own.One at e; omega)
        have h57 := kV53.bO h50
        have K58 := K51.nO kV53
        have z59 := kV53.size
        refine ⟨⟨h55, h56⟩, ?_⟩
        refine an_o 12 <| nrq (.int .i64 0) (w' := V53) (by kernel_rfl) ?_
        refine ⟨⟨h55, h56⟩, ?_⟩
        refine an_end (by kernel_rfl) ?_
        exact ⟨rfl, g14, by kernel_rfl, h55, h56, h57, h54, by omega, K58⟩
      · refine nal 24 (#[.int .i64 0, .int .i64 0, .int .i64 0, .int .i64 0, .int .i64 0, .int .i64 0, .int .i64 0, .int .u64 0, .int .u64 0, .int .i64 0, .int .u64 0]) (.agg (#[.int .i64 0, .int .i64 0, .int .i64 0, .int .i64 0, .int .i64 0, .int .i64 0, .int .i64 0, .int .u64 0, .int .u64 0, .int .i64 0, .int .u64 0])) fun V60 g14 eg14 h61 kV60 => ?_
        have n62 : gp < g14 := eg14 ▸ lt_of_block h32
        have n63 : gw < g14 := eg14 ▸ lt_of_block h34
        have n64 : w.heap.size ≤ g14 := eg14 ▸ K35.size
        have h65 := kV60.bk h32
        have h66 : Row V60 9 1 (.slice (some ⟨gn, 0, none⟩) 11 capn) 11 (Tx parName) := h33.keeps kV60 (fun _ _ x => x)
        have h67 := kV60.bk h34
        have K68 := K35.nn kV60
        have z69 := kV60.size
        refine ⟨⟨h65, h66⟩, ?_⟩
        refine an_o 6 ?_
        refine ncq 13 #[.agg (p.cells), .string sk, uN n] Tryd.func13 ((pSet_is p q sk n 0 _ hp hps).mono ?_)
        rintro e V70 ⟨rfl, kV70⟩
        refine ⟨_, rfl, ?_⟩
        have h71 := kV70.bk h65
        have h72 : Row V70 9 1 (.slice (some ⟨gn, 0, none⟩) 11 capn) 11 (Tx parName) := h66.keeps kV70 (fun _ _ x => x)
        have h73 := kV70.bk h67
        have h74 := kV70.bk h61
        have K75 := K68.nn kV70
        have z76 := kV70.size
        refine ⟨⟨h71, h72⟩, ?_⟩
        refine akq 7 (.tuple #[.agg q.cells, .int .i64 0]) ⟨h71, h72⟩ <| akq 8 (.agg q.cells) ⟨h71, h72⟩ <| akq 9 (.int .i64 0) ⟨h71, h72⟩ <| an_o 11 <| nst 24 g14 q.cells h74 (by kernel_rfl) rfl (by kernel_rfl) fun V77 h78 kV77 => ?_
        have h79 := kV77.bO h71
        have h80 : Row V77 9 1 (.slice (some ⟨gn, 0, none⟩) 11 capn) 11 (Tx parName) := h72.keeps kV77 (fun j hj e => by simp only [Value.ownBlock, Option.some.injEq] at hj; unfold Own.One at e; omega)
        have h81 := kV77.bO h73
        have K82 := K75.nO kV77
        have z83 := kV77.size
        refine ⟨⟨h79, h80⟩, ?_⟩
        refine an_o 12 <| nrq (.int .i64 0) (w' := V77) (by kernel_rfl) ?_
        refine ⟨⟨h79, h80⟩, ?_⟩
        refine an_end (by kernel_rfl) ?_
        exact ⟨rfl, g14, by kernel_rfl, h79, h80, h81, h78, by omega, K82⟩
    rintro aQ V84 ⟨g14, rfl, h85, h86, h87, h88, hd89, K90⟩
    have z91 := lt_of_block h88
    refine tq_ <| qr_ [0, 1] <| pkq (.int .i64 0) <| pkq (.bool false) <| en_ <| s_ <| tqr_ [0, 1, 2] <| ppq (.agg (q.cells)) (ldr 24 g14 (h88) (by kernel_rfl)) ?_
    have ltz_gp12 := lt_of_block h85
    have ltz_gw12 := lt_of_block h87
    have ltz_g1412 := lt_of_block h88
    refine pcq 36 #[.agg (q.cells)] Tryd.func36 ((fields_is _ hqf).mono ?_)
    rintro e V92 ⟨gx, rfl, hgx, hwgx, kV92⟩
    have hlgx := lt_of_block hgx
    refine ⟨_, rfl, ?_⟩
    have h93 := kV92.bk h85
    have h94 : Row V92 9 1 (.slice (some ⟨gn, 0, none⟩) 11 capn) 11 (Tx parName) := h86.keeps kV92 (fun _ _ x => x)
    have h95 := kV92.bk h87
    have h96 := kV92.bk h88
    have K97 := K90.nn kV92
    have z98 := kV92.size
    refine pkq (.slice (some ⟨gx, 0, none⟩) 11 11) <| eq_ <| qr_ [0] <| pkq (.int .i64 0) <| et_ <| b_ 0 ?_
    refine sy_loop (qc72_0 32756) (fun a V => ∃ (i : Nat) (uu : Nat → Value), (a = ⟨#[v0, .int .i64 wh, uN n, ud, ud, ud, uu 0, .bool true, pT gp 0, .slice (some ⟨gn, 0, none⟩) 11 capn, .int .i64 0, .int .i64 p.check.2, iN k, .slice (some ⟨gw, 0, none⟩) 11 11, pT g14 0, .int .i64 0, .slice (some ⟨gx, 0, none⟩) 11 11, iN i, uu 1, uu 2, ud, ud, .bool true, v0, .agg p.cells, .slice (some ⟨gn, 0, none⟩) 11 capn, .tuple #[.int .i64 0, .int .i64 p.check.2], .agg (p.cells), .tuple #[.int .i64 0, .int .i64 p.check.2], .int .i64 0, .int .i64 p.check.2, .int .i64 0, .bool false, .bool false, .slice (some ⟨gn, 0, none⟩) 11 capn, .int .i64 11, .bool false, .bool false, .int .i64 wh, iN k, .agg (p.cells), .slice (some ⟨gw, 0, none⟩) 11 11, .tuple #[.agg q.cells, .int .i64 0], .agg (p.cells), .slice (some ⟨gn, 0, none⟩) 11 capn, iN k, pT gn k, .string sk, uN n, .tuple #[.agg q.cells, .int .i64 0], .agg q.cells, .int .i64 0, .int .i64 0, .bool false, ud, ud, ud, ud, ud, ud, ud, ud, ud, ud, ud, ud, ud, ud, ud, ud, ud, ud, .agg (q.cells), .slice (some ⟨gx, 0, none⟩) 11 11, uu 3, uu 4, uu 5, uu 6, uu 7, uu 8, uu 9, uu 10, uu 11, uu 12, uu 13, uu 14, uu 15, uu 16, uu 17, uu 18, uu 19, uu 20, uu 21, uu 22, uu 23, uu 24, uu 25, uu 26, uu 27, uu 28, uu 29, uu 30, uu 31, uu 32, uu 33, uu 34, uu 35, uu 36, uu 37, uu 38, uu 39, uu 40, uu 41, uu 42, uu 43, uu 44, uu 45, uu 46, uu 47, uu 48, uu 49, uu 50, uu 51, uu 52, ud, ud, ud, ud, ud, ud, ud, ud, ud, ud, ud, ud, ud, ud, ud, ud, ud, ud, ud, ud, ud, ud, ud, ud, ud, ud, ud, ud], []⟩) ∧ (i ≤ 11) ∧ (V.heap[gp]? = some (.cells p.cells 24 (0, 0))) ∧ (Row V 9 1 (.slice (some ⟨gn, 0, none⟩) 11 capn) 11 (Tx parName)) ∧ (V.heap[gw]? = some (.cells ((I p.l).toArray) 3 (0, 0))) ∧ (V.heap[g14]? = some (.cells q.cells 24 (0, 0))) ∧ (V.heap[gx]? = some (.cells ((I q.l).toArray) 3 (0, 0))) ∧ (Keeps Nob w V)) (fun a _ => 11 - (intOf (a.tmps.getD 17 undef)).toNat) (by kernel_rfl) ?_ ?_
    · exact ⟨0, (fun kz => ([.bool false, undef, undef, undef, undef, undef, undef, undef, undef, undef, undef, undef, undef, undef, undef, undef, undef, undef, undef, undef, undef, undef, undef, undef, undef, undef, undef, undef, undef, undef, undef, undef, undef, undef, undef, undef, undef, undef, undef, undef, undef, undef, undef, undef, undef, undef, undef, undef, undef, undef, undef, undef, undef] : List Value).getD kz undef), by kernel_rfl, by omega, h93, h94, h95, h96, hgx, K97⟩
    · rintro a V99 ⟨i, uu, rfl, hi, h100, h101, h102, h103, h104, K105⟩
      rcases set_round i k hi with ⟨hi2, hik⟩ | ⟨hi2, hik⟩ | eq_i
      · obtain ⟨x, hx, hx9⟩ := fit_nat hqf hi2
        obtain ⟨y, hy, hy9⟩ := fit_nat hfit hi2
        obtain ⟨si, hsi⟩ : ∃ s, parName[i]?.getD ⟨#[]⟩ = s := ⟨_, rfl⟩
        have hget := pget_name hqf hi2
        rw [hsi, hx] at hget
        have hxn : x = n := by rw [hik, hql, set_at rfl hk] at hx; omega
        refine q_ <| qr_ [0, 1] <| pkq (iN i) <| ppq (.bool true) (dct ((((i : Nat) : Int)) < ((11) : Int)) (by omega)) <| ey_ <| s_ <| tq_ <| b_ 1 <| q_ <| sy_np <| sy_reg <| an_begin 16 11 (opsAt (qc72_0 524104)) (fun W => (W.heap[g14]? = some (.cells q.cells 24 (0, 0))) ∧ (Row W 9 1 (.slice (some ⟨gn, 0, none⟩) 11 capn) 11 (Tx parName))) #[false, false, false, false, false, false, false, false, false, false, false] (by kernel_rfl) (by kernel_rfl) (by kernel_rfl) (by kernel_rfl) ?_
        obtain ⟨V106, eV106, kV106⟩ := drew_step V99
        rw [eV106]
        clear eV106
        have h107 := kV106.bk h100
        have h108 : Row V106 9 1 (.slice (some ⟨gn, 0, none⟩) 11 capn) 11 (Tx parName) := h101.keeps kV106 (fun _ _ x => x)
        have h109 := kV106.bk h102
        have h110 := kV106.bk h103
        have h111 := kV106.bk h104
        have K112 := K105.nn kV106
        have z113 := kV106.size
        refine avq 0 (.agg (q.cells)) (fun W hS => ldr 24 g14 (hS.1) (by kernel_rfl)) ⟨h110, h108⟩ <| akq 1 (.slice (some ⟨gn, 0, none⟩) 11 capn) ⟨h110, h108⟩ <| akq 2 (iN i) ⟨h110, h108⟩ <| avq 3 (pT gn i) (fun W hS => exec_cast (v := pT gn (0 + i * 1)) (by simp) (exec_indexAt_slice 33 (.tmp 80) (.tmp 81) (by kernel_rfl) gn 0 11 capn (by kernel_rfl) .i64 i (by kernel_rfl) _ 1 Tryd.underlying33 (by kernel_rfl) (by omega))) ⟨h110, h108⟩ <| avq 4 (.string si) (fun W hS => ldc 9 gn i (name_cell hS.2 hi2 hsi)) ⟨h110, h108⟩ <| an_o 5 ?_
        refine ncq 11 #[.agg (q.cells), .string si] Tryd.func11 ((pGet_is q si _ _ _ hqok hget).mono ?_)
        rintro e V114 ⟨rfl, kV114⟩
        refine ⟨_, rfl, ?_⟩
        have h115 := kV114.bk h107
        have h116 : Row V114 9 1 (.slice (some ⟨gn, 0, none⟩) 11 capn) 11 (Tx parName) := h108.keeps kV114 (fun _ _ x => x)
        have h117 := kV114.bk h109
        have h118 := kV114.bk h110
        have h119 := kV114.bk h111
        have K120 := K112.nn kV114
        have z121 := kV114.size
        refine ⟨⟨h118, h116⟩, ?_⟩
        refine akq 6 (.tuple #[uN x, .int .i64 0]) ⟨h118, h116⟩ <| akq 7 (uN x) ⟨h118, h116⟩ <| akq 8 (.int .i64 0) ⟨h118, h116⟩ <| an_o 9 <| nrq (uN x) (w' := V114) (by kernel_rfl) ?_
        refine ⟨⟨h118, h116⟩, ?_⟩
        refine an_o 10 <| nrq (.int .i64 0) (w' := V114) (by kernel_rfl) ?_
        refine ⟨⟨h118, h116⟩, ?_⟩
        refine an_end (by kernel_rfl) <| tq_ <| sy_np <| sy_reg <| an_begin 17 37 (opsAt (qc72_0 1048210)) (fun W => (W.heap[gx]? = some (.cells ((I q.l).toArray) 3 (0, 0))) ∧ (W.heap[gw]? = some (.cells ((I p.l).toArray) 3 (0, 0)))) #[false, false, false, false, false, false, false, false, false, false, false, false, false, false, false, false, false, false, false, false, false, false, false, false, false, false, false, false, false, false, false, false, false, false, false, false, false] (by kernel_rfl) (by kernel_rfl) (by kernel_rfl) (by kernel_rfl) ?_
        obtain ⟨V122, eV122, kV122⟩ := drew_step V114
        rw [eV122]
        clear eV122
        have h123 := kV122.bk h115
        have h124 : Row V122 9 1 (.slice (some ⟨gn, 0, none⟩) 11 capn) 11 (Tx parName) := h116.keeps kV122 (fun _ _ x => x)
        have h125 := kV122.bk h117
        have h126 := kV122.bk h118
        have h127 := kV122.bk h119
        have K128 := K120.nn kV122
        have z129 := kV122.size
        refine akq 0 (.int .i64 0) ⟨h127, h125⟩ <| akq 1 (.bool false) ⟨h127, h125⟩ <| akq 2 (.bool false) ⟨h127, h125⟩ <| akq 3 (uN x) ⟨h127, h125⟩ <| akq 4 (.slice (some ⟨gx, 0, none⟩) 11 11) ⟨h127, h125⟩ <| akq 5 (iN i) ⟨h127, h125⟩ <| avq 6 (pT gx i) (fun W hS => exec_cast (v := pT gx (0 + i * 1)) (by simp) (exec_indexAt_slice 55 (.tmp 91) (.tmp 92) (by kernel_rfl) gx 0 11 11 (by kernel_rfl) .i64 i (by kernel_rfl) _ 1 Tryd.underlying55 (by kernel_rfl) (by omega))) ⟨h127, h125⟩ <| avq 7 (iN x) (fun W hS => ldc 3 gx i (rc hS.1 (I_at rfl hi2 hx))) ⟨h127, h125⟩ <| avq 8 (uN x) (fun W hS => exec_convert 3 22 (.tmp 94) (by kernel_rfl) _ (by kernel_rfl) (conv_i64 _ _ (by omega) (by omega))) ⟨h127, h125⟩ <| avq 9 (.bool false) (fun W hS => nqf (((x : Nat) : Int)) (((x : Nat) : Int)) (by omega)) ⟨h127, h125⟩ <| akq 10 (.bool false) ⟨h127, h125⟩ <| akq 11 (.bool false) ⟨h127, h125⟩ <| akq 12 (iN i) ⟨h127, h125⟩ <| akq 13 (iN k) ⟨h127, h125⟩ ?_
        refine avq 14 (.bool false) (fun W hS => nqf (((i : Nat) : Int)) (((k : Nat) : Int)) (by omega)) ⟨h127, h125⟩ <| akq 15 (.bool false) ⟨h127, h125⟩ <| anq 16 ⟨h127, h125⟩ <| anq 17 ⟨h127, h125⟩ <| anq 18 ⟨h127, h125⟩ <| anq 19 ⟨h127, h125⟩ <| anq 20 ⟨h127, h125⟩ <| anq 21 ⟨h127, h125⟩ <| anq 22 ⟨h127, h125⟩ <| anq 23 ⟨h127, h125⟩ <| anq 24 ⟨h127, h125⟩ <| akq 25 (.bool false) ⟨h127, h125⟩ <| akq 26 (.bool false) ⟨h127, h125⟩ <| akq 27 (.bool false) ⟨h127, h125⟩ ?_
        refine akq 28 (iN i) ⟨h127, h125⟩ <| akq 29 (iN k) ⟨h127, h125⟩ <| avq 30 (.bool true) (fun W hS => eqt (((i : Nat) : Int)) (((k : Nat) : Int)) (by omega)) ⟨h127, h125⟩ <| akq 31 (.bool true) ⟨h127, h125⟩ <| akq 32 (uN x) ⟨h127, h125⟩ <| akq 33 (uN n) ⟨h127, h125⟩ <| avq 34 (.bool false) (fun W hS => nqf (((x : Nat) : Int)) (((n : Nat) : Int)) (by omega)) ⟨h127, h125⟩ <| akq 35 (.bool false) ⟨h127, h125⟩ <| akq 36 (.bool false) ⟨h127, h125⟩ <| an_end (by kernel_rfl) <| sy_a ⟨#[v0, .int .i64 wh, uN n, ud, ud, ud, uu 0, .bool true, pT gp 0, .slice (some ⟨gn, 0, none⟩) 11 capn, .int .i64 0, .int .i64 p.check.2, iN k, .slice (some ⟨gw, 0, none⟩) 11 11, pT g14 0, .int .i64 0, .slice (some ⟨gx, 0, none⟩) 11 11, iN i, uN x, .int .i64 0, ud, ud, .bool true, v0, .agg p.cells, .slice (some ⟨gn, 0, none⟩) 11 capn, .tuple #[.int .i64 0, .int .i64 p.check.2], .agg (p.cells), .tuple #[.int .i64 0, .int .i64 p.check.2], .int .i64 0, .int .i64 p.check.2, .int .i64 0, .bool false, .bool false, .slice (some ⟨gn, 0, none⟩) 11 capn, .int .i64 11, .bool false, .bool false, .int .i64 wh, iN k, .agg (p.cells), .slice (some ⟨gw, 0, none⟩) 11 11, .tuple #[.agg q.cells, .int .i64 0], .agg (p.cells), .slice (some ⟨gn, 0, none⟩) 11 capn, iN k, pT gn k, .string sk, uN n, .tuple #[.agg q.cells, .int .i64 0], .agg q.cells, .int .i64 0, .int .i64 0, .bool false, ud, ud, ud, ud, ud, ud, ud, ud, ud, ud, ud, ud, ud, ud, ud, ud, ud, ud, .agg (q.cells), .slice (some ⟨gx, 0, none⟩) 11 11, iN i, .bool true, uu 5, uu 6, .tuple #[uN x, .int .i64 0], .agg (q.cells), .slice (some ⟨gn, 0, none⟩) 11 capn, iN i, pT gn i, .string si, .tuple #[uN x, .int .i64 0], uN x, .int .i64 0, .int .i64 0, .bool false, .bool false, uN x, .slice (some ⟨gx, 0, none⟩) 11 11, iN i, pT gx i, iN x, uN x, .bool false, .bool false, .bool false, iN i, iN k, .bool false, .bool false, ud, ud, ud, ud, ud, ud, ud, ud, ud, .bool false, .bool false, .bool false, iN i, iN k, .bool true, .bool true, uN x, uN n, .bool false, .bool false, .bool false, ud, ud, ud, ud, ud, ud, ud, ud, ud, ud, ud, ud, ud, ud, ud, ud, ud, ud, ud, ud, ud, ud, ud, ud, ud, ud, ud, ud], []⟩ <| then_n <| n_ <| s_ ?_
        refine blk_n <| tr_ [0, 1, 2] <| pkq (iN i) <| ppq (iN (i + 1)) (exec_cast (congrArg (Value.int .i64) (wrapN (i + 1) (by omega))) (by kernel_rfl)) <| pkq (iN (i + 1)) <| et_ ?_
        refine ⟨⟨i + 1, (fun kz => ([uu 0, uN x, .int .i64 0, iN i, .bool true, iN i, iN (i + 1), .tuple #[uN x, .int .i64 0], .agg (q.cells), .slice (some ⟨gn, 0, none⟩) 11 capn, iN i, pT gn i, .string si, .tuple #[uN x, .int .i64 0], uN x, .int .i64 0, .int .i64 0, .bool false, .bool false, uN x, .slice (some ⟨gx, 0, none⟩) 11 11, iN i, pT gx i, iN x, uN x, .bool false, .bool false, .bool false, iN i, iN k, .bool false, .bool false, undef, undef, undef, undef, undef, undef, undef, undef, undef, .bool false, .bool false, .bool false, iN i, iN k, .bool true, .bool true, uN x, uN n, .bool false, .bool false, .bool false] : List Value).getD kz undef), by kernel_rfl, by omega, h123, h124, h125, h126, h127, K128⟩, ?_⟩
        exact lt_meas (x := 11 - (i + 1)) (y := 11 - i) (by kernel_rfl) (by kernel_rfl) (by omega)
      · obtain ⟨x, hx, hx9⟩ := fit_nat hqf hi2
        obtain ⟨y, hy, hy9⟩ := fit_nat hfit hi2
        obtain ⟨si, hsi⟩ : ∃ s, parName[i]?.getD ⟨#[]⟩ = s := ⟨_, rfl⟩
        have hget := pget_name hqf hi2
        rw [hsi, hx] at hget
        have hxy : x = y := by rw [hql, set_off hik, hy] at hx; omega
        refine q_ <| qr_ [0, 1] <| pkq (iN i) <| ppq (.bool true) (dct ((((i : Nat) : Int)) < ((11) : Int)) (by omega)) <| ey_ <| s_ <| tq_ <| b_ 1 <| q_ <| sy_np <| sy_reg <| an_begin 16 11 (opsAt (qc72_0 524104)) (fun W => (W.heap[g14]? = some (.cells q.cells 24 (0, 0))) ∧ (Row W 9 1 (.slice (some ⟨gn, 0, none⟩) 11 capn) 11 (Tx parName))) #[false, false, false, false, false, false, false, false, false, false, false] (by kernel_rfl) (by kernel_rfl) (by kernel_rfl) (by kernel_rfl) ?_
        obtain ⟨V130, eV130, kV130⟩ := drew_step V99
        rw [eV130]
        clear eV130
        have h131 := kV130.bk h100
        have h132 : Row V130 9 1 (.slice (some ⟨gn, 0, none⟩) 11 capn) 11 (Tx parName) := h101.keeps kV130 (fun _ _ x => x)
        have h133 := kV130.bk h102
        have h134 := kV130.bk h103
        have h135 := kV130.bk h104
        have K136 := K105.nn kV130
        have z137 := kV130.size
        refine avq 0 (.agg (q.cells)) (fun W hS => ldr 24 g14 (hS.1) (by kernel_rfl)) ⟨h134, h132⟩ <| akq 1 (.slice (some ⟨gn, 0, none⟩) 11 capn) ⟨h134, h132⟩ <| akq 2 (iN i) ⟨h134, h132⟩ <| avq 3 (pT gn i) (fun W hS => exec_cast (v := pT gn (0 + i * 1)) (by simp) (exec_indexAt_slice 33 (.tmp 80) (.tmp 81) (by kernel_rfl) gn 0 11 capn (by kernel_rfl) .i64 i (by kernel_rfl) _ 1 Tryd.underlying33 (by kernel_rfl) (by omega))) ⟨h134, h132⟩ <| avq 4 (.string si) (fun W hS => ldc 9 gn i (name_cell hS.2 hi2 hsi)) ⟨h134, h132⟩ <| an_o 5 ?_
        refine ncq 11 #[.agg (q.cells), .string si] Tryd.func11 ((pGet_is q si _ _ _ hqok hget).mono ?_)
        rintro e V138 ⟨rfl, kV138⟩
        refine ⟨_, rfl, ?_⟩
        have h139 := kV138.bk h131
        have h140 : Row V138 9 1 (.slice (some ⟨gn, 0, none⟩) 11 capn) 11 (Tx parName) := h132.keeps kV138 (fun _ _ x => x)
        have h141 := kV138.bk h133
        have h142 := kV138.bk h134
        have h143 := kV138.bk h135
        have K144 := K136.nn kV138
        have z145 := kV138.size
        refine ⟨⟨h142, h140⟩, ?_⟩
        refine akq 6 (.tuple #[uN x, .int .i64 0]) ⟨h142, h140⟩ <| akq 7 (uN x) ⟨h142, h140⟩ <| akq 8 (.int .i64 0) ⟨h142, h140⟩ <| an_o 9 <| nrq (uN x) (w' := V138) (by kernel_rfl) ?_
        refine ⟨⟨h142, h140⟩, ?_⟩
        refine an_o 10 <| nrq (.int .i64 0) (w' := V138) (by kernel_rfl) ?_
        refine ⟨⟨h142, h140⟩, ?_⟩
        refine an_end (by kernel_rfl) <| tq_ <| sy_np <| sy_reg <| an_begin 17 37 (opsAt (qc72_0 1048210)) (fun W => (W.heap[gx]? = some (.cells ((I q.l).toArray) 3 (0, 0))) ∧ (W.heap[gw]? = some (.cells ((I p.l).toArray) 3 (0, 0)))) #[false, false, false, false, false, false, false, false, false, false, false, false, false, false, false, false, false, false, false, false, false, false, false, false, false, false, false, false, false, false, false, false, false, false, false, false, false] (by kernel_rfl) (by kernel_rfl) (by kernel_rfl) (by kernel_rfl) ?_
        obtain ⟨V146, eV146, kV146⟩ := drew_step V138
        rw [eV146]
        clear eV146
        have h147 := kV146.bk h139
        have h148 : Row V146 9 1 (.slice (some ⟨gn, 0, none⟩) 11 capn) 11 (Tx parName) := h140.keeps kV146 (fun _ _ x => x)
        have h149 := kV146.bk h141
        have h150 := kV146.bk h142
        have h151 := kV146.bk h143
        have K152 := K144.nn kV146
        have z153 := kV146.size
        refine akq 0 (.int .i64 0) ⟨h151, h149⟩ <| akq 1 (.bool false) ⟨h151, h149⟩ <| akq 2 (.bool false) ⟨h151, h149⟩ <| akq 3 (uN x) ⟨h151, h149⟩ <| akq 4 (.slice (some ⟨gx, 0, none⟩) 11 11) ⟨h151, h149⟩ <| akq 5 (iN i) ⟨h151, h149⟩ <| avq 6 (pT gx i) (fun W hS => exec_cast (v := pT gx (0 + i * 1)) (by simp) (exec_indexAt_slice 55 (.tmp 91) (.tmp 92) (by kernel_rfl) gx 0 11 11 (by kernel_rfl) .i64 i (by kernel_rfl) _ 1 Tryd.underlying55 (by kernel_rfl) (by omega))) ⟨h151, h149⟩ <| avq 7 (iN x) (fun W hS => ldc 3 gx i (rc hS.1 (I_at rfl hi2 hx))) ⟨h151, h149⟩ <| avq 8 (uN x) (fun W hS => exec_convert 3 22 (.tmp 94) (by kernel_rfl) _ (by kernel_rfl) (conv_i64 _ _ (by omega) (by omega))) ⟨h151, h149⟩ <| avq 9 (.bool false) (fun W hS => nqf (((x : Nat) : Int)) (((x : Nat) : Int)) (by omega)) ⟨h151, h149⟩ <| akq 10 (.bool false) ⟨h151, h149⟩ <| akq 11 (.bool false) ⟨h151, h149⟩ <| akq 12 (iN i) ⟨h151, h149⟩ <| akq 13 (iN k) ⟨h151, h149⟩ ?_
        refine avq 14 (.bool true) (fun W hS => nqt (((i : Nat) : Int)) (((k : Nat) : Int)) (by omega)) ⟨h151, h149⟩ <| akq 15 (.bool true) ⟨h151, h149⟩ <| akq 16 (.slice (some ⟨gx, 0, none⟩) 11 11) ⟨h151, h149⟩ <| akq 17 (iN i) ⟨h151, h149⟩ <| avq 18 (pT gx i) (fun W hS => exec_cast (v := pT gx (0 + i * 1)) (by simp) (exec_indexAt_slice 55 (.tmp 103) (.tmp 104) (by kernel_rfl) gx 0 11 11 (by kernel_rfl) .i64 i (by kernel_rfl) _ 1 Tryd.underlying55 (by kernel_rfl) (by omega))) ⟨h151, h149⟩ <| avq 19 (iN x) (fun W hS => ldc 3 gx i (rc hS.1 (I_at rfl hi2 hx))) ⟨h151, h149⟩ <| akq 20 (.slice (some ⟨gw, 0, none⟩) 11 11) ⟨h151, h149⟩ <| akq 21 (iN i) ⟨h151, h149⟩ <| avq 22 (pT gw i) (fun W hS => exec_cast (v := pT gw (0 + i * 1)) (by simp) (exec_indexAt_slice 55 (.tmp 107) (.tmp 108) (by kernel_rfl) gw 0 11 11 (by kernel_rfl) .i64 i (by kernel_rfl) _ 1 Tryd.underlying55 (by kernel_rfl) (by omega))) ⟨h151, h149⟩ <| avq 23 (iN y) (fun W hS => ldc 3 gw i (rc hS.2 (I_at rfl hi2 hy))) ⟨h151, h149⟩ <| avq 24 (.bool false) (fun W hS => nqf (((x : Nat) : Int)) (((y : Nat) : Int)) (by omega)) ⟨h151, h149⟩ <| akq 25 (.bool false) ⟨h151, h149⟩ <| akq 26 (.bool false) ⟨h151, h149⟩ <| akq 27 (.bool false) ⟨h151, h149⟩ ?_
        refine akq 28 (iN i) ⟨h151, h149⟩ <| akq 29 (iN k) ⟨h151, h149⟩ <| avq 30 (.bool false) (fun W hS => eqf (((i : Nat) : Int)) (((k : Nat) : Int)) (by omega)) ⟨h151, h149⟩ <| akq 31 (.bool false) ⟨h151, h149⟩ <| anq 32 ⟨h151, h149⟩ <| anq 33 ⟨h151, h149⟩ <| anq 34 ⟨h151, h149⟩ <| akq 35 (.bool false) ⟨h151, h149⟩ <| akq 36 (.bool false) ⟨h151, h149⟩ <| an_end (by kernel_rfl) <| sy_a ⟨#[v0, .int .i64 wh, uN n, ud, ud, ud, uu 0, .bool true, pT gp 0, .slice (some ⟨gn, 0, none⟩) 11 capn, .int .i64 0, .int .i64 p.check.2, iN k, .slice (some ⟨gw, 0, none⟩) 11 11, pT g14 0, .int .i64 0, .slice (some ⟨gx, 0, none⟩) 11 11, iN i, uN x, .int .i64 0, ud, ud, .bool true, v0, .agg p.cells, .slice (some ⟨gn, 0, none⟩) 11 capn, .tuple #[.int .i64 0, .int .i64 p.check.2], .agg (p.cells), .tuple #[.int .i64 0, .int .i64 p.check.2], .int .i64 0, .int .i64 p.check.2, .int .i64 0, .bool false, .bool false, .slice (some ⟨gn, 0, none⟩) 11 capn, .int .i64 11, .bool false, .bool false, .int .i64 wh, iN k, .agg (p.cells), .slice (some ⟨gw, 0, none⟩) 11 11, .tuple #[.agg q.cells, .int .i64 0], .agg (p.cells), .slice (some ⟨gn, 0, none⟩) 11 capn, iN k, pT gn k, .string sk, uN n, .tuple #[.agg q.cells, .int .i64 0], .agg q.cells, .int .i64 0, .int .i64 0, .bool false, ud, ud, ud, ud, ud, ud, ud, ud, ud, ud, ud, ud, ud, ud, ud, ud, ud, ud, .agg (q.cells), .slice (some ⟨gx, 0, none⟩) 11 11, iN i, .bool true, uu 5, uu 6, .tuple #[uN x, .int .i64 0], .agg (q.cells), .slice (some ⟨gn, 0, none⟩) 11 capn, iN i, pT gn i, .string si, .tuple #[uN x, .int .i64 0], uN x, .int .i64 0, .int .i64 0, .bool false, .bool false, uN x, .slice (some ⟨gx, 0, none⟩) 11 11, iN i, pT gx i, iN x, uN x, .bool false, .bool false, .bool false, iN i, iN k, .bool true, .bool true, .slice (some ⟨gx, 0, none⟩) 11 11, iN i, pT gx i, iN x, .slice (some ⟨gw, 0, none⟩) 11 11, iN i, pT gw i, iN y, .bool false, .bool false, .bool false, .bool false, iN i, iN k, .bool false, .bool false, ud, ud, ud, .bool false, .bool false, ud, ud, ud, ud, ud, ud, ud, ud, ud, ud, ud, ud, ud, ud, ud, ud, ud, ud, ud, ud, ud, ud, ud, ud, ud, ud, ud, ud], []⟩ <| then_n <| n_ <| s_ ?_
        refine blk_n <| tr_ [0, 1, 2] <| pkq (iN i) <| ppq (iN (i + 1)) (exec_cast (congrArg (Value.int .i64) (wrapN (i + 1) (by omega))) (by kernel_rfl)) <| pkq (iN (i + 1)) <| et_ ?_
        refine ⟨⟨i + 1, (fun kz => ([uu 0, uN x, .int .i64 0, iN i, .bool true, iN i, iN (i + 1), .tuple #[uN x, .int .i64 0], .agg (q.cells), .slice (some ⟨gn, 0, none⟩) 11 capn, iN i, pT gn i, .string si, .tuple #[uN x, .int .i64 0], uN x, .int .i64 0, .int .i64 0, .bool false, .bool false, uN x, .slice (some ⟨gx, 0, none⟩) 11 11, iN i, pT gx i, iN x, uN x, .bool false, .bool false, .bool false, iN i, iN k, .bool true, .bool true, .slice (some ⟨gx, 0, none⟩) 11 11, iN i, pT gx i, iN x, .slice (some ⟨gw, 0, none⟩) 11 11, iN i, pT gw i, iN y, .bool false, .bool false, .bool false, .bool false, iN i, iN k, .bool false, .bool false, undef, undef, undef, .bool false, .bool false] : List Value).getD kz undef), by kernel_rfl, by omega, h147, h148, h149, h150, h151, K152⟩, ?_⟩
        exact lt_meas (x := 11 - (i + 1)) (y := 11 - i) (by kernel_rfl) (by kernel_rfl) (by omega)
      · skip
        refine q_ <| qr_ [0, 1] <| pkq (iN i) <| ppq (.bool false) (dcf ((((i : Nat) : Int)) < ((11) : Int)) (by omega)) <| en_ <| sy_exit 0 (by kernel_rfl) <| then_e <| then_e <| blk_e <| tq_ ?_
        refine sy_cut (fun aQ VQ => ∃ (g20 : Nat), (aQ = ⟨#[v0, .int .i64 wh, .int .u64 ((n : Nat) : Int), ud, ud, ud, uu 0, .bool true, .pointer (some ⟨gp, 0, none⟩), .slice (some ⟨gn, 0, none⟩) 11 capn, .int .i64 0, .int .i64 p.check.2, .int .i64 ((k : Nat) : Int), .slice (some ⟨gw, 0, none⟩) 11 11, .pointer (some ⟨g14, 0, none⟩), .int .i64 0, .slice (some ⟨gx, 0, none⟩) 11 11, .int .i64 ((i : Nat) : Int), uu 1, uu 2, .pointer (some ⟨g20, 0, none⟩), .int .i64 0, .bool true, v0, .agg p.cells, .slice (some ⟨gn, 0, none⟩) 11 capn, .tuple #[.int .i64 0, .int .i64 p.check.2], .agg (p.cells), .tuple #[.int .i64 0, .int .i64 p.check.2], .int .i64 0, .int .i64 p.check.2, .int .i64 0, .bool false, .bool false, .slice (some ⟨gn, 0, none⟩) 11 capn, .int .i64 11, .bool false, .bool false, .int .i64 wh, .int .i64 ((k : Nat) : Int), .agg (p.cells), .slice (some ⟨gw, 0, none⟩) 11 11, .tuple #[.agg q.cells, .int .i64 0], .agg (p.cells), .slice (some ⟨gn, 0, none⟩) 11 capn, .int .i64 ((k : Nat) : Int), .pointer (some ⟨gn, k, none⟩), .string sk, .int .u64 ((n : Nat) : Int), .tuple #[.agg q.cells, .int .i64 0], .agg q.cells, .int .i64 0, .int .i64 0, .bool false, ud, ud, ud, ud, ud, ud, ud, ud, ud, ud, ud, ud, ud, ud, ud, ud, ud, ud, .agg (q.cells), .slice (some ⟨gx, 0, none⟩) 11 11, .int .i64 ((i : Nat) : Int), .bool false, uu 5, uu 6, uu 7, uu 8, uu 9, uu 10, uu 11, uu 12, uu 13, uu 14, uu 15, uu 16, uu 17, uu 18, uu 19, uu 20, uu 21, uu 22, uu 23, uu 24, uu 25, uu 26, uu 27, uu 28, uu 29, uu 30, uu 31, uu 32, uu 33, uu 34, uu 35, uu 36, uu 37, uu 38, uu 39, uu 40, uu 41, uu 42, uu 43, uu 44, uu 45, uu 46, uu 47, uu 48, uu 49, uu 50, uu 51, uu 52, .tuple #[.agg p.cells, .int .i64 0], .agg (q.cells), .slice (some ⟨gn, 0, none⟩) 11 capn, .int .i64 ((k : Nat) : Int), .pointer (some ⟨gn, k, none⟩), .string sk, .slice (some ⟨gw, 0, none⟩) 11 11, .int .i64 ((k : Nat) : Int), .pointer (some ⟨gw, k, none⟩), .int .i64 ((yk : Nat) : Int), .int .u64 ((yk : Nat) : Int), .tuple #[.agg p.cells, .int .i64 0], .agg p.cells, .int .i64 0, ud, ud, ud, ud, ud, ud, ud, ud, ud, ud, ud, ud, ud, ud], []⟩) ∧ (VQ.heap[gp]? = some (.cells p.cells 24 (0, 0))) ∧ (Row VQ 9 1 (.slice (some ⟨gn, 0, none⟩) 11 capn) 11 (Tx parName)) ∧ (VQ.heap[gw]? = some (.cells ((I p.l).toArray) 3 (0, 0))) ∧ (VQ.heap[g14]? = some (.cells q.cells 24 (0, 0))) ∧ (VQ.heap[gx]? = some (.cells ((I q.l).toArray) 3 (0, 0))) ∧ (VQ.heap[g20]? = some (.cells p.cells 24 (0, 0))) ∧ (g20 ≠ gp ∧ g20 ≠ gw ∧ g20 ≠ g14 ∧ g20 ≠ gx ∧ w.heap.size ≤ g20 ∧ V99.heap.size ≤ g20) ∧ (Keeps Nob w VQ)) ?_ ?_
        · refine sy_np <| sy_reg <| an_begin 19 17 (opsAt (qc72_0 8190)) (fun W => (W.heap[g14]? = some (.cells q.cells 24 (0, 0))) ∧ (Row W 9 1 (.slice (some ⟨gn, 0, none⟩) 11 capn) 11 (Tx parName)) ∧ (W.heap[gw]? = some (.cells ((I p.l).toArray) 3 (0, 0)))) #[false, false, false, false, false, false, false, false, false, false, false, false, false, false, false, false, false] (by kernel_rfl) (by kernel_rfl) (by kernel_rfl) (by kernel_rfl) ?_
          obtain ⟨V154, eV154, kV154⟩ := drew_step V99
          rw [eV154]
          clear eV154
          have h155 := kV154.bk h100
          have h156 : Row V154 9 1 (.slice (some ⟨gn, 0, none⟩) 11 capn) 11 (Tx parName) := h101.keeps kV154 (fun _ _ x => x)
          have h157 := kV154.bk h102
          have h158 := kV154.bk h103
          have h159 := kV154.bk h104
          have K160 := K105.nn kV154
          have z161 := kV154.size
          refine avq 0 (.agg (q.cells)) (fun W hS => ldr 24 g14 (hS.1) (by kernel_rfl)) ⟨h158, h156, h157⟩ <| akq 1 (.slice (some ⟨gn, 0, none⟩) 11 capn) ⟨h158, h156, h157⟩ <| akq 2 (iN k) ⟨h158, h156, h157⟩ <| avq 3 (pT gn k) (fun W hS => exec_cast (v := pT gn (0 + k * 1)) (by simp) (exec_indexAt_slice 33 (.tmp 126) (.tmp 127) (by kernel_rfl) gn 0 11 capn (by kernel_rfl) .i64 k (by kernel_rfl) _ 1 Tryd.underlying33 (by kernel_rfl) (by omega))) ⟨h158, h156, h157⟩ <| avq 4 (.string sk) (fun W hS => ldc 9 gn k (name_cell hS.2.1 hk hsk)) ⟨h158, h156, h157⟩ <| akq 5 (.slice (some ⟨gw, 0, none⟩) 11 11) ⟨h158, h156, h157⟩ <| akq 6 (iN k) ⟨h158, h156, h157⟩ <| avq 7 (pT gw k) (fun W hS => exec_cast (v := pT gw (0 + k * 1)) (by simp) (exec_indexAt_slice 55 (.tmp 130) (.tmp 131) (by kernel_rfl) gw 0 11 11 (by kernel_rfl) .i64 k (by kernel_rfl) _ 1 Tryd.underlying55 (by kernel_rfl) (by omega))) ⟨h158, h156, h157⟩ <| avq 8 (iN yk) (fun W hS => ldc 3 gw k (rc hS.2.2 (I_at rfl hk hyk))) ⟨h158, h156, h157⟩ <| avq 9 (uN yk) (fun W hS => exec_convert 3 22 (.tmp 133) (by kernel_rfl) _ (by kernel_rfl) (conv_i64 _ _ (by omega) (by omega))) ⟨h158, h156, h157⟩ ?_
          refine an_two 10 14 (by kernel_rfl) ?_ ?_
          · refine ncq 13 #[.agg (q.cells), .string sk, uN yk] Tryd.func13 ((pSet_is q p sk yk 0 _ hqok hback).mono ?_)
            rintro e V162 ⟨rfl, kV162⟩
            refine ⟨_, rfl, ?_⟩
            have h163 := kV162.bk h155
            have h164 : Row V162 9 1 (.slice (some ⟨gn, 0, none⟩) 11 capn) 11 (Tx parName) := h156.keeps kV162 (fun _ _ x => x)
            have h165 := kV162.bk h157
            have h166 := kV162.bk h158
            have h167 := kV162.bk h159
            have K168 := K160.nn kV162
            have z169 := kV162.size
            refine ⟨⟨h166, h164, h165⟩, ?_⟩
            refine akq 11 (.tuple #[.agg p.cells, .int .i64 0]) ⟨h166, h164, h165⟩ <| akq 12 (.agg p.cells) ⟨h166, h164, h165⟩ <| akq 13 (.int .i64 0) ⟨h166, h164, h165⟩ <| an_o 14 <| nal 24 (#[.int .i64 0, .int .i64 0, .int .i64 0, .int .i64 0, .int .i64 0, .int .i64 0, .int .i64 0, .int .u64 0, .int .u64 0, .int .i64 0, .int .u64 0]) (.agg (#[.int .i64 0, .int .i64 0, .int .i64 0, .int .i64 0, .int .i64 0, .int .i64 0, .int .i64 0, .int .u64 0, .int .u64 0, .int .i64 0, .int .u64 0])) fun V170 g20 eg20 h171 kV170 => ?_
            have n172 : gp < g20 := eg20 ▸ lt_of_block h163
            have n173 : gw < g20 := eg20 ▸ lt_of_block h165
            have n174 : g14 < g20 := eg20 ▸ lt_of_block h166
            have n175 : gx < g20 := eg20 ▸ lt_of_block h167
            have n176 : w.heap.size ≤ g20 := eg20 ▸ K168.size
            have h177 := kV170.bk h163
            have h178 : Row V170 9 1 (.slice (some ⟨gn, 0, none⟩) 11 capn) 11 (Tx parName) := h164.keeps kV170 (fun _ _ x => x)
            have h179 := kV170.bk h165
            have h180 := kV170.bk h166
            have h181 := kV170.bk h167
            have K182 := K168.nn kV170
            have z183 := kV170.size
            refine ⟨⟨h180, h178, h179⟩, ?_⟩
            refine an_o 15 <| nst 24 g20 p.cells h171 (by kernel_rfl) rfl (by kernel_rfl) fun V184 h185 kV184 => ?_
            have h186 := kV184.bO h177
            have h187 : Row V184 9 1 (.slice (some ⟨gn, 0, none⟩) 11 capn) 11 (Tx parName) := h178.keeps kV184 (fun j hj e => by simp only [Value.ownBlock, Option.some.injEq] at hj; unfold Own.One at e; omega)
            have h188 := kV184.bO h179
            have h189 := kV184.bO h180
            have h190 := kV184.bO h181
            have K191 := K182.nO kV184
            have z192 := kV184.size
            refine ⟨⟨h189, h187, h188⟩, ?_⟩
            refine an_o 16 <| nrq (.int .i64 0) (w' := V184) (by kernel_rfl) ?_
            refine ⟨⟨h189, h187, h188⟩, ?_⟩
            refine an_end (by kernel_rfl) ?_
            exact ⟨rfl, g20, by kernel_rfl, h186, h187, h188, h189, h190, h185, by omega, K191⟩
          · refine nal 24 (#[.int .i64 0, .int .i64 0, .int .i64 0, .int .i64 0, .int .i64 0, .int .i64 0, .int .i64 0, .int .u64 0, .int .u64 0, .int .i64 0, .int .u64 0]) (.agg (#[.int .i64 0, .int .i64 0, .int .i64 0, .int .i64 0, .int .i64 0, .int .i64 0, .int .i64 0, .int .u64 0, .int .u64 0, .int .i64 0, .int .u64 0])) fun V193 g20 eg20 h194 kV193 => ?_
            have n195 : gp < g20 := eg20 ▸ lt_of_block h155
            have n196 : gw < g20 := eg20 ▸ lt_of_block h157
            have n197 : g14 < g20 := eg20 ▸ lt_of_block h158
            have n198 : gx < g20 := eg20 ▸ lt_of_block h159
            have n199 : w.heap.size ≤ g20 := eg20 ▸ K160.size
            have h200 := kV193.bk h155
            have h201 : Row V193 9 1 (.slice (some ⟨gn, 0, none⟩) 11 capn) 11 (Tx parName) := h156.keeps kV193 (fun _ _ x => x)
            have h202 := kV193.bk h157
            have h203 := kV193.bk h158
            have h204 := kV193.bk h159
            have K205 := K160.nn kV193
            have z206 := kV193.size
            refine ⟨⟨h203, h201, h202⟩, ?_⟩
            refine an_o 10 ?_
            refine ncq 13 #[.agg (q.cells), .string sk, uN yk] Tryd.func13 ((pSet_is q p sk yk 0 _ hqok hback).mono ?_)
            rintro e V207 ⟨rfl, kV207⟩
            refine ⟨_, rfl, ?_⟩
            have h208 := kV207.bk h200
            have h209 : Row V207 9 1 (.slice (some ⟨gn, 0, none⟩) 11 capn) 11 (Tx parName) := h201.keeps kV207 (fun _ _ x => x)
            have h210 := kV207.bk h202
            have h211 := kV207.bk h203
            have h212 := kV207.bk h204
            have h213 := kV207.bk h194
            have K214 := K205.nn kV207
            have z215 := kV207.size
            refine ⟨⟨h211, h209, h210⟩, ?_⟩
            refine akq 11 (.tuple #[.agg p.cells, .int .i64 0]) ⟨h211, h209, h210⟩ <| akq 12 (.agg p.cells) ⟨h211, h209, h210⟩ <| akq 13 (.int .i64 0) ⟨h211, h209, h210⟩ <| an_o 15 <| nst 24 g20 p.cells h213 (by kernel_rfl) rfl (by kernel_rfl) fun V216 h217 kV216 => ?_
            have h218 := kV216.bO h208
            have h219 : Row V216 9 1 (.slice (some ⟨gn, 0, none⟩) 11 capn) 11 (Tx parName) := h209.keeps kV216 (fun j hj e => by simp only [Value.ownBlock, Option.some.injEq] at hj; unfold Own.One at e; omega)
            have h220 := kV216.bO h210
            have h221 := kV216.bO h211
            have h222 := kV216.bO h212
            have K223 := K214.nO kV216
            have z224 := kV216.size
            refine ⟨⟨h221, h219, h220⟩, ?_⟩
            refine an_o 16 <| nrq (.int .i64 0) (w' := V216) (by kernel_rfl) ?_
            refine ⟨⟨h221, h219, h220⟩, ?_⟩
            refine an_end (by kernel_rfl) ?_
            exact ⟨rfl, g20, by kernel_rfl, h218, h219, h220, h221, h222, h217, by omega, K223⟩
        rintro aQ V225 ⟨g20, rfl, h226, h227, h228, h229, h230, h231, hd232, K233⟩
        have z234 := lt_of_block h231
        refine tqr_ [0, 1, 2, 3, 4, 5, 6, 7, 8, 9, 10, 11, 12, 13, 14] <| pkq (.bool true) <| pkq (.bool true) <| pkq (.int .i64 0) <| pkq (.bool true) <| pkq (.bool true) <| pkq (.bool true) <| ppq (.agg (p.cells)) (ldr 24 g20 (h231) (by kernel_rfl)) <| ppq (.agg (p.cells)) (ldr 24 gp (h226) (by kernel_rfl)) <| ppq (.bool true) (exec_cast (congrArg Value.bool (by simp)) (exec_binop .eql 24 24 (.tmp 144) (.tmp 145) (by kernel_rfl) (.agg p.cells) (.agg p.cells) _ (by kernel_rfl) (by kernel_rfl) (run_eqGuard_agg _ _ _ _ _ _ _ par_guard) (par_eq _ _ _))) <| pkq (.bool true) <| pkq (.bool true) <| ppq (.agg (q.cells)) (ldr 24 g14 (h229) (by kernel_rfl)) ?_
        refine pcq 31 #[.agg (q.cells), .int .i64 0, .int .i64 0] Tryd.func31 ((lpchecks_ok q 0 0 _ hqok (by rw [hqc]) (by rw [hqc])).mono ?_)
        rintro e V235 ⟨rfl, kV235⟩
        refine ⟨_, rfl, ?_⟩
        have K242 := K233.nn kV235
        have z243 := kV235.size
        refine pkq (.bool true) <| pkq (.bool true) <| eu_ <| so_ (.bool true) ?_
        exact ⟨rfl, K242⟩
  · skip
    rw [hsk] at hps
    refine sy_cut (fun aQ VQ => ∃ (g14 : Nat), (aQ = ⟨#[v0, .int .i64 wh, .int .u64 ((n : Nat) : Int), ud, ud, ud, .bool false, .bool true, .pointer (some ⟨gp, 0, none⟩), .slice (some ⟨gn, 0, none⟩) 11 capn, .int .i64 0, .int .i64 p.check.2, .int .i64 ((k : Nat) : Int), .slice (some ⟨gw, 0, none⟩) 11 11, .pointer (some ⟨g14, 0, none⟩), .int .i64 3, ud, ud, ud, ud, ud, ud, .bool true, v0, .agg p.cells, .slice (some ⟨gn, 0, none⟩) 11 capn, .tuple #[.int .i64 0, .int .i64 p.check.2], .agg (p.cells), .tuple #[.int .i64 0, .int .i64 p.check.2], .int .i64 0, .int .i64 p.check.2, .int .i64 0, .bool false, .bool false, .slice (some ⟨gn, 0, none⟩) 11 capn, .int .i64 11, .bool false, .bool false, .int .i64 wh, .int .i64 ((k : Nat) : Int), .agg (p.cells), .slice (some ⟨gw, 0, none⟩) 11 11, .tuple #[.agg parZ.cells, .int .i64 3], .agg (p.cells), .slice (some ⟨gn, 0, none⟩) 11 capn, .int .i64 ((k : Nat) : Int), .pointer (some ⟨gn, k, none⟩), .string sk, .int .u64 ((n : Nat) : Int), .tuple #[.agg parZ.cells, .int .i64 3], .agg parZ.cells, .int .i64 3, ud, ud, ud, ud, ud, ud, ud, ud, ud, ud, ud, ud, ud, ud, ud, ud, ud, ud, ud, ud, ud, ud, ud, ud, ud, ud, ud, ud, ud, ud, ud, ud, ud, ud, ud, ud, ud, ud, ud, ud, ud, ud, ud, ud, ud, ud, ud, ud, ud, ud, ud, ud, ud, ud, ud, ud, ud, ud, ud, ud, ud, ud, ud, ud, ud, ud, ud, ud, ud, ud, ud, ud, ud, ud, ud, ud, ud, ud, ud, ud, ud, ud, ud, ud, ud, ud, ud, ud, ud, ud, ud, ud, ud, ud, ud, ud, ud, ud, ud, ud], []⟩) ∧ (VQ.heap[gp]? = some (.cells p.cells 24 (0, 0))) ∧ (Row VQ 9 1 (.slice (some ⟨gn, 0, none⟩) 11 capn) 11 (Tx parName)) ∧ (VQ.heap[gw]? = some (.cells ((I p.l).toArray) 3 (0, 0))) ∧ (VQ.heap[g14]? = some (.cells parZ.cells 24 (0, 0))) ∧ (g14 ≠ gp ∧ g14 ≠ gw ∧ w.heap.size ≤ g14 ∧ V26.heap.size ≤ g14) ∧ (Keeps Nob w VQ)) ?_ ?_
    · refine sy_np <| sy_reg <| an_begin 9 13 (opsAt (qc72_0 510)) (fun W => (W.heap[gp]? = some (.cells p.cells 24 (0, 0))) ∧ (Row W 9 1 (.slice (some ⟨gn, 0, none⟩) 11 capn) 11 (Tx parName))) #[false, false, false, false, false, false, false, false, false, false, false, false, false] (by kernel_rfl) (by kernel_rfl) (by kernel_rfl) (by kernel_rfl) ?_
      obtain ⟨V244, eV244, kV244⟩ := drew_step V26
      rw [eV244]
      clear eV244
      have h245 := kV244.bk h27
      have h246 : Row V244 9 1 (.slice (some ⟨gn, 0, none⟩) 11 capn) 11 (Tx parName) := h28.keeps kV244 (fun _ _ x => x)
      have h247 := kV244.bk hgw
      have K248 := K29.nn kV244
      have z249 := kV244.size
      refine avq 0 (.agg (p.cells)) (fun W hS => ldr 24 gp (hS.1) (by kernel_rfl)) ⟨h245, h246⟩ <| akq 1 (.slice (some ⟨gn, 0, none⟩) 11 capn) ⟨h245, h246⟩ <| akq 2 (iN k) ⟨h245, h246⟩ <| avq 3 (pT gn k) (fun W hS => exec_cast (v := pT gn (0 + k * 1)) (by simp) (exec_indexAt_slice 33 (.tmp 44) (.tmp 45) (by kernel_rfl) gn 0 11 capn (by kernel_rfl) .i64 k (by kernel_rfl) _ 1 Tryd.underlying33 (by kernel_rfl) (by omega))) ⟨h245, h246⟩ <| avq 4 (.string sk) (fun W hS => ldc 9 gn k (name_cell hS.2 hk hsk)) ⟨h245, h246⟩ <| akq 5 (uN n) ⟨h245, h246⟩ ?_
      refine an_two 6 10 (by kernel_rfl) ?_ ?_
      · refine ncq 13 #[.agg (p.cells), .string sk, uN n] Tryd.func13 ((pSet_is p parZ sk n 3 _ hp hps).mono ?_)
        rintro e V250 ⟨rfl, kV250⟩
        refine ⟨_, rfl, ?_⟩
        have h251 := kV250.bk h245
        have h252 : Row V250 9 1 (.slice (some ⟨gn, 0, none⟩) 11 capn) 11 (Tx parName) := h246.keeps kV250 (fun _ _ x => x)
        have h253 := kV250.bk h247
        have K254 := K248.nn kV250
        have z255 := kV250.size
        refine ⟨⟨h251, h252⟩, ?_⟩
        refine akq 7 (.tuple #[.agg parZ.cells, .int .i64 3]) ⟨h251, h252⟩ <| akq 8 (.agg parZ.cells) ⟨h251, h252⟩ <| akq 9 (.int .i64 3) ⟨h251, h252⟩ <| an_o 10 <| nal 24 (#[.int .i64 0, .int .i64 0, .int .i64 0, .int .i64 0, .int .i64 0, .int .i64 0, .int .i64 0, .int .u64 0, .int .u64 0, .int .i64 0, .int .u64 0]) (.agg (#[.int .i64 0, .int .i64 0, .int .i64 0, .int .i64 0, .int .i64 0, .int .i64 0, .int .i64 0, .int .u64 0, .int .u64 0, .int .i64 0, .int .u64 0])) fun V256 g14 eg14 h257 kV256 => ?_
        have n258 : gp < g14 := eg14 ▸ lt_of_block h251
        have n259 : gw < g14 := eg14 ▸ lt_of_block h253
        have n260 : w.heap.size ≤ g14 := eg14 ▸ K254.size
        have h261 := kV256.bk h251
        have h262 : Row V256 9 1 (.slice (some ⟨gn, 0, none⟩) 11 capn) 11 (Tx parName) := h252.keeps kV256 (fun _ _ x => x)
        have h263 := kV256.bk h253
        have K264 := K254.nn kV256
        have z265 := kV256.size
        refine ⟨⟨h261, h262⟩, ?_⟩
        refine an_o 11 <| nst 24 g14 parZ.cells h257 (by kernel_rfl) rfl (by kernel_rfl) fun V266 h267 kV266 => ?_
        have h268 := kV266.bO h261
        have h269 : Row V266 9 1 (.slice (some ⟨gn, 0, none⟩) 11 capn) 11 (Tx parName) := h262.keeps kV266 (fun j hj e => by simp only [Value.ownBlock, Option.some.injEq] at hj; unfold Own.One at e; omega)
        have h270 := kV266.bO h263
        have K271 := K264.nO kV266
        have z272 := kV266.size
        refine ⟨⟨h268, h269⟩, ?_⟩
        refine an_o 12 <| nrq (.int .i64 3) (w' := V266) (by kernel_rfl) ?_
        refine ⟨⟨h268, h269⟩, ?_⟩
        refine an_end (by kernel_rfl) ?_
        exact ⟨rfl, g14, by kernel_rfl, h268, h269, h270, h267, by omega, K271⟩
      · refine nal 24 (#[.int .i64 0, .int .i64 0, .int .i64 0, .int .i64 0, .int .i64 0, .int .i64 0, .int .i64 0, .int .u64 0, .int .u64 0, .int .i64 0, .int .u64 0]) (.agg (#[.int .i64 0, .int .i64 0, .int .i64 0, .int .i64 0, .int .i64 0, .int .i64 0, .int .i64 0, .int .u64 0, .int .u64 0, .int .i64 0, .int .u64 0])) fun V273 g14 eg14 h274 kV273 => ?_
        have n275 : gp < g14 := eg14 ▸ lt_of_block h245
        have n276 : gw < g14 := eg14 ▸ lt_of_block h247
        have n277 : w.heap.size ≤ g14 := eg14 ▸ K248.size
        have h278 := kV273.bk h245
        have h279 : Row V273 9 1 (.slice (some ⟨gn, 0, none⟩) 11 capn) 11 (Tx parName) := h246.keeps kV273 (fun _ _ x => x)
        have h280 := kV273.bk h247
        have K281 := K248.nn kV273
        have z282 := kV273.size
        refine ⟨⟨h278, h279⟩, ?_⟩
        refine an_o 6 ?_
        refine ncq 13 #[.agg (p.cells), .string sk, uN n] Tryd.func13 ((pSet_is p parZ sk n 3 _ hp hps).mono ?_)
        rintro e V283 ⟨rfl, kV283⟩
        refine ⟨_, rfl, ?_⟩
        have h284 := kV283.bk h278
        have h285 : Row V283 9 1 (.slice (some ⟨gn, 0, none⟩) 11 capn) 11 (Tx parName) := h279.keeps kV283 (fun _ _ x => x)
        have h286 := kV283.bk h280
        have h287 := kV283.bk h274
        have K288 := K281.nn kV283
        have z289 := kV283.size
        refine ⟨⟨h284, h285⟩, ?_⟩
        refine akq 7 (.tuple #[.agg parZ.cells, .int .i64 3]) ⟨h284, h285⟩ <| akq 8 (.agg parZ.cells) ⟨h284, h285⟩ <| akq 9 (.int .i64 3) ⟨h284, h285⟩ <| an_o 11 <| nst 24 g14 parZ.cells h287 (by kernel_rfl) rfl (by kernel_rfl) fun V290 h291 kV290 => ?_
        have h292 := kV290.bO h284
        have h293 : Row V290 9 1 (.slice (some ⟨gn, 0, none⟩) 11 capn) 11 (Tx parName) := h285.keeps kV290 (fun j hj e => by simp only [Value.ownBlock, Option.some.injEq] at hj; unfold Own.One at e; omega)
        have h294 := kV290.bO h286
        have K295 := K288.nO kV290
        have z296 := kV290.size
        refine ⟨⟨h292, h293⟩, ?_⟩
        refine an_o 12 <| nrq (.int .i64 3) (w' := V290) (by kernel_rfl) ?_
        refine ⟨⟨h292, h293⟩, ?_⟩
        refine an_end (by kernel_rfl) ?_
        exact ⟨rfl, g14, by kernel_rfl, h292, h293, h294, h291, by omega, K295⟩
    rintro aQ V297 ⟨g14, rfl, h298, h299, h300, h301, hd302, K303⟩
    have z304 := lt_of_block h301
    refine tq_ <| qr_ [0, 1] <| pkq (.int .i64 3) <| pkq (.bool true) <| ey_ <| qr_ [0, 1, 2, 3, 4, 5, 6, 7, 8, 9, 10, 11, 12, 13, 14, 15, 16, 17, 18] <| pkq (.bool true) <| pkq (.bool true) <| pkq (.int .i64 3) <| pkq (.bool true) <| pkq (.bool true) <| pnq <| pnq <| pnq ?_
    refine pnq <| pnq <| pnq <| pkq (.bool true) <| pkq (.bool true) <| pkq (.bool true) <| ppq (.agg (parZ.cells)) (ldr 24 g14 (h301) (by kernel_rfl)) <| pkq (.agg parZ.cells) <| ppq (.bool true) (exec_cast (congrArg Value.bool (by simp)) (exec_binop .eql 24 24 (.tmp 68) (.tmp 69) (by kernel_rfl) (.agg parZ.cells) (.agg parZ.cells) _ (by kernel_rfl) (by kernel_rfl) (run_eqGuard_agg _ _ _ _ _ _ _ par_guard) (par_eq _ _ _))) <| pkq (.bool true) <| pkq (.bool true) <| eu_ <| then_r <| so_ (.bool true) ?_
    exact ⟨rfl, K303⟩
  · skip
    rw [hsk] at hps
    refine sy_cut (fun aQ VQ => ∃ (g14 : Nat), (aQ = ⟨#[v0, .int .i64 wh, .int .u64 ((n : Nat) : Int), ud, ud, ud, .bool false, .bool true, .pointer (some ⟨gp, 0, none⟩), .slice (some ⟨gn, 0, none⟩) 11 capn, .int .i64 0, .int .i64 p.check.2, .int .i64 ((k : Nat) : Int), .slice (some ⟨gw, 0, none⟩) 11 11, .pointer (some ⟨g14, 0, none⟩), .int .i64 9, ud, ud, ud, ud, ud, ud, .bool true, v0, .agg p.cells, .slice (some ⟨gn, 0, none⟩) 11 capn, .tuple #[.int .i64 0, .int .i64 p.check.2], .agg (p.cells), .tuple #[.int .i64 0, .int .i64 p.check.2], .int .i64 0, .int .i64 p.check.2, .int .i64 0, .bool false, .bool false, .slice (some ⟨gn, 0, none⟩) 11 capn, .int .i64 11, .bool false, .bool false, .int .i64 wh, .int .i64 ((k : Nat) : Int), .agg (p.cells), .slice (some ⟨gw, 0, none⟩) 11 11, .tuple #[.agg parZ.cells, .int .i64 9], .agg (p.cells), .slice (some ⟨gn, 0, none⟩) 11 capn, .int .i64 ((k : Nat) : Int), .pointer (some ⟨gn, k, none⟩), .string sk, .int .u64 ((n : Nat) : Int), .tuple #[.agg parZ.cells, .int .i64 9], .agg parZ.cells, .int .i64 9, ud, ud, ud, ud, ud, ud, ud, ud, ud, ud, ud, ud, ud, ud, ud, ud, ud, ud, ud, ud, ud, ud, ud, ud, ud, ud, ud, ud, ud, ud, ud, ud, ud, ud, ud, ud, ud, ud, ud, ud, ud, ud, ud, ud, ud, ud, ud, ud, ud, ud, ud, ud, ud, ud, ud, ud, ud, ud, ud, ud, ud, ud, ud, ud, ud, ud, ud, ud, ud, ud, ud, ud, ud, ud, ud, ud, ud, ud, ud, ud, ud, ud, ud, ud, ud, ud, ud, ud, ud, ud, ud, ud, ud, ud, ud, ud, ud, ud, ud, ud], []⟩) ∧ (VQ.heap[gp]? = some (.cells p.cells 24 (0, 0))) ∧ (Row VQ 9 1 (.slice (some ⟨gn, 0, none⟩) 11 capn) 11 (Tx parName)) ∧ (VQ.heap[gw]? = some (.cells ((I p.l).toArray) 3 (0, 0))) ∧ (VQ.heap[g14]? = some (.cells parZ.cells 24 (0, 0))) ∧ (g14 ≠ gp ∧ g14 ≠ gw ∧ w.heap.size ≤ g14 ∧ V26.heap.size ≤ g14) ∧ (Keeps Nob w VQ)) ?_ ?_
    · refine sy_np <| sy_reg <| an_begin 9 13 (opsAt (qc72_0 510)) (fun W => (W.heap[gp]? = some (.cells p.cells 24 (0, 0))) ∧ (Row W 9 1 (.slice (some ⟨gn, 0, none⟩) 11 capn) 11 (Tx parName))) #[false, false, false, false, false, false, false, false, false, false, false, false, false] (by kernel_rfl) (by kernel_rfl) (by kernel_rfl) (by kernel_rfl) ?_
      obtain ⟨V305, eV305, kV305⟩ := drew_step V26
      rw [eV305]
      clear eV305
      have h306 := kV305.bk h27
      have h307 : Row V305 9 1 (.slice (some ⟨gn, 0, none⟩) 11 capn) 11 (Tx parName) := h28.keeps kV305 (fun _ _ x => x)
      have h308 := kV305.bk hgw
      have K309 := K29.nn kV305
      have z310 := kV305.size
      refine avq 0 (.agg (p.cells)) (fun W hS => ldr 24 gp (hS.1) (by kernel_rfl)) ⟨h306, h307⟩ <| akq 1 (.slice (some ⟨gn, 0, none⟩) 11 capn) ⟨h306, h307⟩ <| akq 2 (iN k) ⟨h306, h307⟩ <| avq 3 (pT gn k) (fun W hS => exec_cast (v := pT gn (0 + k * 1)) (by simp) (exec_indexAt_slice 33 (.tmp 44) (.tmp 45) (by kernel_rfl) gn 0 11 capn (by kernel_rfl) .i64 k (by kernel_rfl) _ 1 Tryd.underlying33 (by kernel_rfl) (by omega))) ⟨h306, h307⟩ <| avq 4 (.string sk) (fun W hS => ldc 9 gn k (name_cell hS.2 hk hsk)) ⟨h306, h307⟩ <| akq 5 (uN n) ⟨h306, h307⟩ ?_
      refine an_two 6 10 (by kernel_rfl) ?_ ?_
      · refine ncq 13 #[.agg (p.cells), .string sk, uN n] Tryd.func13 ((pSet_is p parZ sk n 9 _ hp hps).mono ?_)
        rintro e V311 ⟨rfl, kV311⟩
        refine ⟨_, rfl, ?_⟩
        have h312 := kV311.bk h306
        have h313 : Row V311 9 1 (.slice (some ⟨gn, 0, none⟩) 11 capn) 11 (Tx parName) := h307.keeps kV311 (fun _ _ x => x)
        have h314 := kV311.bk h308
        have K315 := K309.nn kV311
        have z316 := kV311.size
        refine ⟨⟨h312, h313⟩, ?_⟩
        refine akq 7 (.tuple #[.agg parZ.cells, .int .i64 9]) ⟨h312, h313⟩ <| akq 8 (.agg parZ.cells) ⟨h312, h313⟩ <| akq 9 (.int .i64 9) ⟨h312, h313⟩ <| an_o 10 <| nal 24 (#[.int .i64 0, .int .i64 0, .int .i64 0, .int .i64 0, .int .i64 0, .int .i64 0, .int .i64 0, .int .u64 0, .int .u64 0, .int .i64 0, .int .u64 0]) (.agg (#[.int .i64 0, .int .i64 0, .int .i64 0, .int .i64 0, .int .i64 0, .int .i64 0, .int .i64 0, .int .u64 0, .int .u64 0, .int .i64 0, .int .u64 0])) fun V317 g14 eg14 h318 kV317 => ?_
        have n319 : gp < g14 := eg14 ▸ lt_of_block h312
        have n320 : gw < g14 := eg14 ▸ lt_of_block h314
        have n321 : w.heap.size ≤ g14 := eg14 ▸ K315.size
        have h322 := kV317.bk h312
        have h323 : Row V317 9 1 (.slice (some ⟨gn, 0, none⟩) 11 capn) 11 (Tx parName) := h313.keeps kV317 (fun _ _ x => x)
        have h324 := kV317.bk h314
        have K325 := K315.nn kV317
        have z326 := kV317.size
        refine ⟨⟨h322, h323⟩, ?_⟩
        refine an_o 11 <| nst 24 g14 parZ.cells h318 (by kernel_rfl) rfl (by kernel_rfl) fun V327 h328 kV327 => ?_
        have h329 := kV327.bO h322
        have h330 : Row V327 9 1 (.slice (some ⟨gn, 0, none⟩) 11 capn) 11 (Tx parName) := h323.keeps kV327 (fun j hj e => by simp only [Value.ownBlock, Option.some.injEq] at hj; unfold Own.One at e; omega)
        have h331 := kV327.bO h324
        have K332 := K325.nO kV327
        have z333 := kV327.size
        refine ⟨⟨h329, h330⟩, ?_⟩
        refine an_o 12 <| nrq (.int .i64 9) (w' := V327) (by kernel_rfl) ?_
        refine ⟨⟨h329, h330⟩, ?_⟩
        refine an_end (by kernel_rfl) ?_
        exact ⟨rfl, g14, by kernel_rfl, h329, h330, h331, h328, by omega, K332⟩
      · refine nal 24 (#[.int .i64 0, .int .i64 0, .int .i64 0, .int .i64 0, .int .i64 0, .int .i64 0, .int .i64 0, .int .u64 0, .int .u64 0, .int .i64 0, .int .u64 0]) (.agg (#[.int .i64 0, .int .i64 0, .int .i64 0, .int .i64 0, .int .i64 0, .int .i64 0, .int .i64 0, .int .u64 0, .int .u64 0, .int .i64 0, .int .u64 0])) fun V334 g14 eg14 h335 kV334 => ?_
        have n336 : gp < g14 := eg14 ▸ lt_of_block h306
        have n337 : gw < g14 := eg14 ▸ lt_of_block h308
        have n338 : w.heap.size ≤ g14 := eg14 ▸ K309.size
        have h339 := kV334.bk h306
        have h340 : Row V334 9 1 (.slice (some ⟨gn, 0, none⟩) 11 capn) 11 (Tx parName) := h307.keeps kV334 (fun _ _ x => x)
        have h341 := kV334.bk h308
        have K342 := K309.nn kV334
        have z343 := kV334.size
        refine ⟨⟨h339, h340⟩, ?_⟩
        refine an_o 6 ?_
        refine ncq 13 #[.agg (p.cells), .string sk, uN n] Tryd.func13 ((pSet_is p parZ sk n 9 _ hp hps).mono ?_)
        rintro e V344 ⟨rfl, kV344⟩
        refine ⟨_, rfl, ?_⟩
        have h345 := kV344.bk h339
        have h346 : Row V344 9 1 (.slice (some ⟨gn, 0, none⟩) 11 capn) 11 (Tx parName) := h340.keeps kV344 (fun _ _ x => x)
        have h347 := kV344.bk h341
        have h348 := kV344.bk h335
        have K349 := K342.nn kV344
        have z350 := kV344.size
        refine ⟨⟨h345, h346⟩, ?_⟩
        refine akq 7 (.tuple #[.agg parZ.cells, .int .i64 9]) ⟨h345, h346⟩ <| akq 8 (.agg parZ.cells) ⟨h345, h346⟩ <| akq 9 (.int .i64 9) ⟨h345, h346⟩ <| an_o 11 <| nst 24 g14 parZ.cells h348 (by kernel_rfl) rfl (by kernel_rfl) fun V351 h352 kV351 => ?_
        have h353 := kV351.bO h345
        have h354 : Row V351 9 1 (.slice (some ⟨gn, 0, none⟩) 11 capn) 11 (Tx parName) := h346.keeps kV351 (fun j hj e => by simp only [Value.ownBlock, Option.some.injEq] at hj; unfold Own.One at e; omega)
        have h355 := kV351.bO h347
        have K356 := K349.nO kV351
        have z357 := kV351.size
        refine ⟨⟨h353, h354⟩, ?_⟩
        refine an_o 12 <| nrq (.int .i64 9) (w' := V351) (by kernel_rfl) ?_
        refine ⟨⟨h353, h354⟩, ?_⟩
        refine an_end (by kernel_rfl) ?_
        exact ⟨rfl, g14, by kernel_rfl, h353, h354, h355, h352, by omega, K356⟩
    rintro aQ V358 ⟨g14, rfl, h359, h360, h361, h362, hd363, K364⟩
    have z365 := lt_of_block h362
    refine tq_ <| qr_ [0, 1] <| pkq (.int .i64 9) <| pkq (.bool true) <| ey_ <| qr_ [0, 1, 2, 3, 4, 5, 6, 7, 8, 9, 10, 11, 12, 13, 14, 15, 16, 17, 18] <| pkq (.bool true) <| pkq (.bool true) <| pkq (.int .i64 9) <| pkq (.bool false) <| pkq (.bool false) <| pkq (.int .i64 9) <| pkq (.bool true) <| pkq (.bool true) ?_
    refine pkq (iN k) <| ppq (.bool true) (dct ((((k : Nat) : Int)) < ((2) : Int)) (by omega)) <| pkq (.bool true) <| pkq (.bool true) <| pkq (.bool true) <| pkq (.bool true) <| ppq (.agg (parZ.cells)) (ldr 24 g14 (h362) (by kernel_rfl)) <| pkq (.agg parZ.cells) <| ppq (.bool true) (exec_cast (congrArg Value.bool (by simp)) (exec_binop .eql 24 24 (.tmp 68) (.tmp 69) (by kernel_rfl) (.agg parZ.cells) (.agg parZ.cells) _ (by kernel_rfl) (by kernel_rfl) (run_eqGuard_agg _ _ _ _ _ _ _ par_guard) (par_eq _ _ _))) <| pkq (.bool true) <| pkq (.bool true) <| eu_ <| then_r <| so_ (.bool true) ?_
    exact ⟨rfl, K364⟩
theorem pow_set {W : World} (h : laidMetH Tryd.prog Rows.paramsSetRow.laid W) : PowTab W := by
  rw [MakeChecks.laidMetH_plain _ _ _ (by kernel_rfl)] at h
  exact pow_of h (List.Mem.tail _ (List.Mem.tail _ (List.Mem.head _)))
end Go.Proofs.YtpflmldmbpnllaaDoor
namespace Go.Proofs.YtpflmldmbpnllaaDoor
set_option maxRecDepth 100000
set_option maxHeartbeats 4000000
set_option maxRecDepth 100000
open Go Go.RowKit Go.Own Go.ChangeShapes Go.WideShapes Go.ChangeAt Go.WideElems
end Go.Proofs.YtpflmldmbpnllaaDoor
namespace Go.Proofs.YtpflmldmbpnllaaDoor.paramsSet
open Go.ChangeShapes Go.WideShapes Go.ChangeAt Go.RowKit Go.Own
open Go.ChangeMaps (open_string shut_string)
theorem own : ownKnob Tryd.prog.godebug = none := by kernel_rfl
theorem laid : laidOutB Tryd.prog = true := by kernel_rfl
set_option maxRecDepth 100000 in
theorem lifted (os : Os) (started : os.Started) (H : Type) (enc : TypeId × Value → H) :
    ReturnsInHanded {} Tryd.checked os 7 .any (fun w args => (Rows.paramsSetSpec.pre enc Tryd.prog Tryd.f7 Rows.paramsSetRow.domain false w args ∧ laidMetH Tryd.prog Rows.paramsSetRow.laid w) ∧ sizedMet enc Tryd.prog Tryd.f7 (OpenSpec.ofChange Rows.paramsSetSpec) false w args)
      (Rows.paramsSetSpec.post enc Tryd.prog Tryd.f7 false true false false) := by
  refine returnsInHanded_of_change_and (C := Tryd.checked) (X := fun w _ => laidMetH Tryd.prog Rows.paramsSetRow.laid w) (fun _ _ _ hh h => h.of_heap hh) own started (by kernel_rfl) Tryd.func7
    (ChangeSpec.witness_shaped (enc := enc) (C := Tryd.checked) (os := os) (X := fun w _ => laidMetH Tryd.prog Rows.paramsSetRow.laid w) false (World.laidAll Tryd.prog os Rows.paramsSetRow.laid) #[.slice none 0 0, .int .i64 0, .int .u64 0] 8 (World.laidAll_os _ _ _)
      (World.shaped_of_ZipB (by kernel_rfl) (by kernel_rfl)) (by kernel_rfl) (by kernel_rfl) (by kernel_rfl)
      (by rw [MakeChecks.laidMetH_plain _ _ _ (by kernel_rfl)]; exact laidMet_laidAll _ (by kernel_rfl) (by kernel_rfl))) ?_
  intro W base args ds gs before hval0 hW hcnd _ hL hsz0
  have hval : ∀ (j : Nat) t v, Tryd.f7.params[j]? = some t → args[j]? = some v → Value.okWide Tryd.prog W .any base t v := hval0
  have hW' := hW
  obtain ⟨p, q, hA0, hV, rfl, hfz, hnd⟩ := hW
  have hA : DataW.TrodAll enc Tryd.prog W 0 (fun _ => true) true Tryd.f7.params.toList args.toList ds p := hA0
  rw [Tryd.params7] at hA hval
  obtain ⟨v0, vs0, d0, ds0, p0, q0, hargs, rfl, rfl, h0, r0⟩ := trodAll_cons hA
  obtain ⟨v1, vs1, d1, ds1, p1, q1, rfl, rfl, rfl, h1, r1⟩ := trodAll_cons r0
  obtain ⟨v2, vs2, d2, ds2, p2, q2, rfl, rfl, rfl, h2, r2⟩ := trodAll_cons r1
  obtain ⟨rfl, rfl, rfl⟩ := trodAll_nil r2
  obtain rfl : args = #[v0, v1, v2] := by cases args; simp_all
  obtain ⟨rfl, rfl⟩ := trodVars_none hV
  obtain ⟨l0, hl0⟩ := open_intsAt Tryd.underlying55 Tryd.underlying3 (by kernel_rfl) h0 (okWide_slice Tryd.underlying55 (hval 0 55 v0 rfl rfl))
  obtain ⟨a1, rfl, rfl, rfl, w1⟩ := open_int Tryd.underlying3 (hval 1 3 v1 rfl rfl) h1
  obtain ⟨a2, rfl, rfl, rfl, w2⟩ := open_int Tryd.underlying22 (hval 2 22 v2 rfl rfl) h2
  obtain ⟨n2, hn2, rfl⟩ := u64_nat w2
  clear hA0 hval0
  refine (set_all v0 l0 a1 (bounds_i64 w1) n2 hn2 W hl0 (pow_set hL)).mono fun e W' ⟨he, hg⟩ => ?_
  subst he
  exact ⟨_, rfl, law_post laid (by kernel_rfl) rfl Tryd.underlying4 rfl rfl hW' (hg.below (Nat.le_refl _) (fun _ _ x => x))⟩
theorem row : Rows.ParamsSetSaid :=
  OpenClaim.holds_of_wide 7 Tryd.f7 rfl rfl rfl rfl rfl rfl rfl ⟨rfl, rfl, rfl, rfl, rfl⟩ rfl rfl rfl rfl rfl (by kernel_rfl) Tryd.func7 (by kernel_rfl)
    (of_decide_eq_true (by kernel_rfl)) (by unfold Func.isWrapper; first | (rw [if_pos (by decide +kernel)]; kernel_rfl) | (rw [if_neg (by decide +kernel)]; exact ⟨rfl, rfl⟩))
    (fun os started H enc _ => lifted os started H enc)
theorem proved : Rows.ParamsSetCardSaid :=
  Claim7.holds_tied_plain_at .later [] Rows.paramsSetCard.laidKinds true Rows.paramsSetCard.stood.harness false row (fun _ h => by cases h) (by kernel_rfl) (fun _ h => by cases h) paramsSet_row_tie rfl ⟨rfl, rfl⟩ (by kernel_rfl) rfl
    (fun f fn hf hfn => by
      obtain rfl : f = 7 := Option.some.inj ((show Tryd.prog.funcNamed Rows.paramsSetRow.func = some 7 by kernel_rfl).symm.trans hf) |>.symm
      obtain rfl : fn = Tryd.f7 := (Option.some.inj (Tryd.func7.symm.trans hfn)).symm
      exact ⟨by kernel_rfl, fun j t ht => by
        have hall : (Tryd.f7.params.toList.all fun u => !Tryd.prog.wantsStandIn u) = true := by kernel_rfl
        exact (show Tryd.prog.wantsStandIn t = false by simpa using List.all_eq_true.1 hall t (by simpa using Array.mem_of_getElem? ht))⟩)
    (by kernel_rfl)
end Go.Proofs.YtpflmldmbpnllaaDoor.paramsSet
