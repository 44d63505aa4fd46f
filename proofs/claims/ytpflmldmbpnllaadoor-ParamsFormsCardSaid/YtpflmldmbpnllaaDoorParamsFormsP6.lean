/-
  ParamsForms proved: for every input the law returns true, and each argument reads as it did. Conditions: none.
-/
import Derived.Test.YtpflmldmbpnllaaDoorParamsFormsP5
namespace Go.Proofs.YtpflmldmbpnllaaDoor
set_option maxRecDepth 100000
set_option maxHeartbeats 4000000
open Go Go.RowKit Go.Own Go.Shelf
theorem least_is (w : World) : Calls Tryd.prog 61 #[] w fun e w' => ∃ g cap, e = .returned (.slice (some ⟨g, 0, none⟩) 11 cap) ∧ (∀ i : Nat, i < 11 → w'.cell? ⟨g, i, none⟩ = some (.int .i64 (parLo[i]?.getD 0))) ∧ Keeps Nob w w' := (least_ok w).mono fun _ _ ⟨cap, h1, h2, h3, _⟩ => ⟨_, cap, h1, h2, h3⟩
theorem most_is (w : World) : Calls Tryd.prog 62 #[] w fun e w' => ∃ g cap, e = .returned (.slice (some ⟨g, 0, none⟩) 11 cap) ∧ (∀ i : Nat, i < 11 → w'.cell? ⟨g, i, none⟩ = some (.int .i64 (parHi[i]?.getD 0))) ∧ Keeps Nob w w' := (most_ok w).mono fun _ _ ⟨cap, h1, h2, h3, _⟩ => ⟨_, cap, h1, h2, h3⟩
theorem cells_keep {w w' : World} {g : Nat} {f : Nat → Int} (h : ∀ i : Nat, i < 11 → w.cell? ⟨g, i, none⟩ = some (.int .i64 (f i))) (k : Keeps Nob w w') : ∀ i : Nat, i < 11 → w'.cell? ⟨g, i, none⟩ = some (.int .i64 (f i)) := fun i hi => (k.cell (World.block_lt_of_cell? w _ (h i hi)) (fun x => x)).trans (h i hi)
theorem rr_num {w : World} {b : Nat} {v : Value} {l : List UInt8} {s s1 : RS} {i n : Nat} {lo hi : Int} (h : RrAt w b v l s) (hlo : parLo[i]?.getD 0 = lo) (hhi : parHi[i]?.getD 0 = hi) (hn : brn l i s = n) (hs : (brd l i s).2 = s1) :
    Calls Tryd.prog 60 #[.pointer (some ⟨b, 0, none⟩), .int .i64 lo, .int .i64 hi] w fun e w' => e = .returned (.int .i64 ((n : Nat) : Int)) ∧ RrAt w' b v l s1 ∧ Keeps (One b) w w' := by
  have hr := b_range i
  rw [hlo, hhi] at hr
  have := rrN_ok b v l s lo hi w h hr.1 hr.2
  have e : rdN l s lo hi = brd l i s := by unfold brd; rw [hlo, hhi]
  rw [e, brd_nat, hn, hs] at this
  exact this
theorem rr_end {w : World} {b : Nat} {v : Value} {l : List UInt8} {s : RS} {fe fp : Int} (h : RrAt w b v l s) (h1 : (s.fin l).1 = fe) (h2 : (s.fin l).2 = fp) : Calls Tryd.prog 64 #[.pointer (some ⟨b, 0, none⟩)] w fun e w' => e = .returned (.agg #[.int .i64 fe, .int .i64 fp]) ∧ Keeps Nob w w' := h1 ▸ h2 ▸ rrEnd_ok b v l s w h
theorem fail_at {l : List UInt8} {i at_ : Nat} {s : RS} (h0 : s.err = 0 → s.pos = (at_ : Int)) : (brd l i s).2.fail 9 (at_ : Int) = (brd l i s).2.fail 9 s.pos := by
  by_cases h : s.err = 0
  · rw [h0 h]
  · have : (brd l i s).2.err ≠ 0 := fun e => h (rdN_err e).1
    unfold RS.fail
    rw [if_neg (fun x => this x.1), if_neg (fun x => this x.1)]
theorem fin_snd {s : RS} {l : List UInt8} (h : (s.fin l).1 = 0) : (s.fin l).2 = 0 := by
  unfold RS.fin at h ⊢
  by_cases h0 : s.err = 0
  · rw [if_pos h0] at h ⊢
    by_cases h1 : s.pos < l.length
    · rw [if_pos h1] at h; cases h
    · rw [if_neg h1]
  · rw [if_neg h0] at h; exact absurd h h0
theorem brn_in (l : List UInt8) (i : Nat) (s : RS) : 0 ≤ ((brn l i s : Nat) : Int) ∧ ((brn l i s : Nat) : Int) ≤ 1000000000 := by
  have := brn_le l i s
  omega
noncomputable def qc62_0 (n : Nat) : Code := partOf Tryd.f30 n
noncomputable abbrev qo62_0 (n k : Nat) : Oper := (opsAt (qc62_0 n)).getD k default
theorem r7Read_ok (v0 : Value) (l : List UInt8) (w : World) (hx : BytesAt w v0 l) (hl : l.length ≤ 100000000) :
    Calls Tryd.prog 30 #[v0] w (fun e w' => e = .returned (.tuple #[.agg (pbread l).1.cells, .agg #[.int .i64 (pbread l).2.1, .int .i64 (pbread l).2.2]]) ∧ Keeps Nob w w') := by
  obtain ⟨i0, hi0, hz0, hz1, hz2⟩ := info_parts int_info0
  have K0 : Keeps Nob w w := Keeps.refl _ _
  refine sy_enter (qc62_0 1) ⟨#[v0, ud, ud, ud, ud, ud, ud, ud, ud, ud, ud, ud, ud, ud, ud, ud, ud, ud, ud, ud, ud, ud, ud, ud, ud, ud, ud, ud, ud, ud, ud, ud, ud, ud, ud, ud, ud, ud, ud, ud, ud, ud, ud, ud, ud, ud, ud, ud, ud, ud, ud, ud, ud, ud, ud, ud], []⟩ Tryd.func30 (by kernel_rfl) (by kernel_rfl) <| qr_ [0, 1] <| pal 24 (#[.int .i64 0, .int .i64 0, .int .i64 0, .int .i64 0, .int .i64 0, .int .i64 0, .int .i64 0, .int .u64 0, .int .u64 0, .int .i64 0, .int .u64 0]) (.agg (#[.int .i64 0, .int .i64 0, .int .i64 0, .int .i64 0, .int .i64 0, .int .i64 0, .int .i64 0, .int .u64 0, .int .u64 0, .int .i64 0, .int .u64 0])) fun V1 r1 er1 h2 kV1 => ?_
  have n3 : w.heap.size ≤ r1 := er1 ▸ K0.size
  have K4 := K0.nn kV1
  have z5 := kV1.size
  refine pal 46 (#[.int .i64 0, .int .i64 0]) (.agg (#[.int .i64 0, .int .i64 0])) fun V6 r2 er2 h7 kV6 => ?_
  have n8 : r1 < r2 := er2 ▸ lt_of_block h2
  have n9 : w.heap.size ≤ r2 := er2 ▸ K4.size
  have h10 := kV6.bk h2
  have K11 := K4.nn kV6
  have z12 := kV6.size
  refine eqr_ [0, 1, 2] <| pkq (v0) ?_
  have lt_r1 := lt_of_block h10
  have lt_r2 := lt_of_block h7
  have hKs := K11.size
  refine pcq 59 #[v0] Tryd.func59 ((rrNew_ok v0 l _ (hx.keepsN K11) hl).mono ?_)
  rintro e V13 ⟨b, rv, rfl, hR0, hb0, hov, kV13⟩
  have hbl := hR0.lt
  obtain ⟨NB, hNB⟩ : ∃ n, V13.heap.size = n := ⟨_, rfl⟩
  have hrow0 : Row V13 3 1 (.slice none 0 0) 0 (I []) := World.ownsRow_nil _ _ _ _
  refine ⟨_, rfl, ?_⟩
  have h14 := kV13.bk h10
  have h15 := kV13.bk h7
  have K16 := K11.nn kV13
  have z17 := kV13.size
  refine pkq (pT b 0) <| eqr_ [0] <| pkq (.slice none 0 0) <| eq_ <| qr_ [0] <| pkq (.int .i64 0) <| et_ <| b_ 0 ?_
  refine sy_loop (qc62_0 244) (fun a V => ∃ (i : Nat) (vs : List Int) (s : RS) (v : Value) (u7 u8 u12 u13 u14 u15 u16 u17 u18 u19 u20 u21 u22 u23 u24 u25 u26 u27 u28 u29 u30 u31 u32 u33 u34 u35 u36 u37 u38 u39 u40 u41 u42 u43 u44 u45 : Value), (a = ⟨#[v0, ud, pT r1 0, pT r2 0, pT b 0, v, iN i, u7, u8, ud, v0, pT b 0, u12, u13, u14, u15, u16, u17, u18, u19, u20, u21, u22, u23, u24, u25, u26, u27, u28, u29, u30, u31, u32, u33, u34, u35, u36, u37, u38, u39, u40, u41, u42, u43, u44, u45, ud, ud, ud, ud, ud, ud, ud, ud, ud, ud], []⟩) ∧ (i ≤ 11) ∧ (vs.length = i) ∧ (bgo (11 - i) vs l s = bres l) ∧ (∀ n ∈ vs, 0 ≤ n ∧ n ≤ 1000000000) ∧ (V.heap[r1]? = some (.cells (#[.int .i64 0, .int .i64 0, .int .i64 0, .int .i64 0, .int .i64 0, .int .i64 0, .int .i64 0, .int .u64 0, .int .u64 0, .int .i64 0, .int .u64 0]) 24 (0, 0))) ∧ (V.heap[r2]? = some (.cells (#[.int .i64 0, .int .i64 0]) 46 (0, 0))) ∧ (RrAt V b rv l s) ∧ (NB ≤ V.heap.size) ∧ (Row V 3 1 v i (I vs)) ∧ (Keeps Nob w V) ∧ (NewFrom NB v)) (fun a _ => 11 - (intOf (a.tmps.getD 6 undef)).toNat) (by kernel_rfl) ?_ ?_
  · exact ⟨0, [], ⟨0, 0⟩, .slice none 0 0, undef, undef, undef, undef, undef, undef, undef, undef, undef, undef, undef, undef, undef, undef, undef, undef, undef, undef, undef, undef, undef, undef, undef, undef, undef, undef, undef, undef, undef, undef, undef, undef, undef, undef, undef, undef, by kernel_rfl, by omega, rfl, bgo_0 l, (fun n hn => by cases hn), h14, h15, hR0, (Nat.le_of_eq hNB.symm), hrow0, K16, (NewFrom.nil _)⟩
  · rintro a V18 ⟨i, vs, s, v, u7, u8, u12, u13, u14, u15, u16, u17, u18, u19, u20, u21, u22, u23, u24, u25, u26, u27, u28, u29, u30, u31, u32, u33, u34, u35, u36, u37, u38, u39, u40, u41, u42, u43, u44, u45, rfl, hi, hv, hp, hall, h19, h20, h21, h22, h23, K24, hnw⟩
    rcases bread_cases i vs l s hi with ⟨hi2, hi1, hlt5⟩ | ⟨hi2, hi1, hlt5⟩ | ⟨hi2, hi1⟩ | ⟨eq_i, hfin⟩ | ⟨eq_i, hfin⟩
    · obtain ⟨at_, ea, hcb, hal, hat0, -⟩ := RrAt.ex h21
      obtain ⟨se, hse⟩ : ∃ x, s.err = x := ⟨_, rfl⟩
      rw [hse] at hcb
      obtain ⟨lo, hlo⟩ : ∃ x, parLo[i]?.getD 0 = x := ⟨_, rfl⟩
      obtain ⟨hi, hhi⟩ : ∃ x, parHi[i]?.getD 0 = x := ⟨_, rfl⟩
      have hnn := brn_in l i s
      obtain ⟨n, hn⟩ : ∃ x, brn l i s = x := ⟨_, rfl⟩
      obtain ⟨s1, hs1⟩ : ∃ x, (brd l i s).2 = x := ⟨_, rfl⟩
      rw [hn] at hnn
      obtain ⟨sn, hsn0⟩ : ∃ x, bst l vs i s = x := ⟨_, rfl⟩
      have hpe := bgo_step hi2 hv hp
      rw [hn, hsn0] at hpe
      have hsn : s1.fail 9 ((at_ : Nat) : Int) = sn := by rw [← hsn0, bst_ord hi1 hlt5, ← hs1]; exact fail_at (fun h => (hat0 h).1)
      obtain ⟨gv, capv, rfl, hgv⟩ := Row.spell h23 (by omega)
      obtain ⟨u0, hu1⟩ : ∃ u, vs[0]?.getD 0 = u := ⟨_, rfl⟩
      have hu0 : (I vs)[0]? = some (.int .i64 u0) := by rw [← hu1]; simp [I, List.getElem?_eq_getElem (show 0 < vs.length by omega)]
      rw [hu1, hn] at hlt5
      refine q_ <| qr_ [0, 1] <| pkq (iN i) <| ppq (.bool true) (dct ((((i : Nat) : Int)) < ((11) : Int)) (by omega)) <| ey_ <| s_ <| tq_ <| b_ 1 <| qr_ [0, 1, 2, 3, 4] <| pkq (pT b 0) <| pkq (pT b 0) <| pkq (pT b 1) <| ppq (iN at_) (ldk 3 b 1 hcb) <| pkq (iN at_) ?_
      refine eq_ <| sy_np <| sy_reg <| an_begin 7 11 (opsAt (qc62_0 7826)) (fun W => True) #[false, false, false, false, false, false, false, false, false, false, false] (by kernel_rfl) (by kernel_rfl) (by kernel_rfl) (by kernel_rfl) ?_
      obtain ⟨V25, eV25, kV25⟩ := drew_step V18
      rw [eV25]
      clear eV25
      have h26 := kV25.bk h19
      have h27 := kV25.bk h20
      have h28 : RrAt V25 b rv l s := h21.keeps kV25 (fun x => x) (fun _ _ x => x)
      have h29 : NB ≤ V25.heap.size := Nat.le_trans h22 kV25.size
      have h30 : Row V25 3 1 (.slice (some ⟨gv, 0, none⟩) i capv) i (I vs) := h23.keeps kV25 (fun _ _ x => x)
      have K32 := K24.nn kV25
      have z33 := kV25.size
      refine akq 0 (pT b 0) trivial <| akq 2 (iN i) trivial <| akq 6 (iN i) trivial <| an_o 1 ?_
      refine ncq 61 #[] Tryd.func61 ((least_is _).mono ?_)
      rintro e V34 ⟨gl, cl, rfl, hcl, kV34⟩
      refine ⟨_, rfl, ?_⟩
      have h35 := kV34.bk h26
      have h36 := kV34.bk h27
      have h37 : RrAt V34 b rv l s := h28.keeps kV34 (fun x => x) (fun _ _ x => x)
      have h38 : NB ≤ V34.heap.size := Nat.le_trans h29 kV34.size
      have h39 : Row V34 3 1 (.slice (some ⟨gv, 0, none⟩) i capv) i (I vs) := h30.keeps kV34 (fun _ _ x => x)
      have K41 := K32.nn kV34
      have z42 := kV34.size
      refine ⟨trivial, ?_⟩
      refine avq 3 (pT gl i) (fun W hS => exec_cast (v := pT gl (0 + i * 1)) (by simp) (exec_indexAt_slice 55 (.tmp 21) (.tmp 22) (by kernel_rfl) gl 0 11 cl (by kernel_rfl) .i64 i (by kernel_rfl) _ 1 Tryd.underlying55 (by kernel_rfl) (by omega))) trivial ?_
      refine an_two 4 5 (by kernel_rfl) ?_ ?_
      · refine nrq (.int .i64 lo) (w' := V34) (ldc 3 gl i ((hcl i hi2).trans (by rw [hlo]))) ?_
        refine ⟨trivial, ?_⟩
        refine an_o 5 ?_
        refine ncq 62 #[] Tryd.func62 ((most_is _).mono ?_)
        rintro e V43 ⟨gm, cm, rfl, hcm, kV43⟩
        refine ⟨_, rfl, ?_⟩
        have h44 := kV43.bk h35
        have h45 := kV43.bk h36
        have h46 : RrAt V43 b rv l s := h37.keeps kV43 (fun x => x) (fun _ _ x => x)
        have h47 : NB ≤ V43.heap.size := Nat.le_trans h38 kV43.size
        have h48 : Row V43 3 1 (.slice (some ⟨gv, 0, none⟩) i capv) i (I vs) := h39.keeps kV43 (fun _ _ x => x)
        have h50 : ∀ i : Nat, i < 11 → V43.cell? ⟨gl, i, none⟩ = some (.int .i64 (parLo[i]?.getD 0)) := cells_keep hcl kV43
        have K51 := K41.nn kV43
        have z52 := kV43.size
        refine ⟨trivial, ?_⟩
        refine avq 7 (pT gm i) (fun W hS => exec_cast (v := pT gm (0 + i * 1)) (by simp) (exec_indexAt_slice 55 (.tmp 25) (.tmp 26) (by kernel_rfl) gm 0 11 cm (by kernel_rfl) .i64 i (by kernel_rfl) _ 1 Tryd.underlying55 (by kernel_rfl) (by omega))) trivial <| an_o 8 <| nrq (.int .i64 hi) (w' := V43) (ldc 3 gm i ((hcm i hi2).trans (by rw [hhi]))) ?_
        refine ⟨trivial, ?_⟩
        refine an_o 9 ?_
        refine ncq 60 #[pT b 0, .int .i64 lo, .int .i64 hi] Tryd.func60 ((rr_num h46 hlo hhi hn hs1).mono ?_)
        rintro e V53 ⟨rfl, hRV53, kV53⟩
        refine ⟨_, rfl, ?_⟩
        have h54 := kV53.bO h44
        have h55 := kV53.bO h45
        have h56 : NB ≤ V53.heap.size := Nat.le_trans h47 kV53.size
        have h57 : Row V53 3 1 (.slice (some ⟨gv, 0, none⟩) i capv) i (I vs) := h48.keeps kV53 (fun j hj e => by have := hnw j hj; unfold Own.One at e; omega)
        have K58 := K51.nO kV53
        have z59 := kV53.size
        refine ⟨trivial, ?_⟩
        refine an_o 10 <| nrq (iN n) (w' := V53) (by kernel_rfl) ?_
        refine ⟨trivial, ?_⟩
        refine an_end (by kernel_rfl) <| tq_ <| qr_ [0, 1, 2, 3, 4, 5, 6, 7, 8] <| pkq (iN i) <| ppq (.bool true) (eqt (((i : Nat) : Int)) ((1) : Int) (by omega)) <| pkq (.bool true) <| pkq (iN n) <| pkq (.slice (some ⟨gv, 0, none⟩) i capv) <| ppq (pT gv 0) (exec_indexAt_slice 55 (.tmp 34) (.const (.int .i64 0)) (by kernel_rfl) gv 0 i capv (by kernel_rfl) .i64 0 (by kernel_rfl) _ 1 Tryd.underlying55 (by kernel_rfl) (by omega)) <| ppq (.int .i64 u0) (ldc 3 gv 0 (row_cells h57 0 _ hu0)) <| ppq (.bool true) (dct ((((n : Nat) : Int)) > ((u0) : Int)) (by omega)) <| pkq (.bool true) <| ps_end <| sy_a ⟨#[v0, ud, pT r1 0, pT r2 0, pT b 0, .slice (some ⟨gv, 0, none⟩) i capv, iN i, iN at_, iN n, ud, v0, pT b 0, iN i, .bool true, u14, u15, pT b 0, pT b 0, pT b 1, iN at_, pT b 0, .slice (some ⟨gl, 0, none⟩) 11 cl, iN i, pT gl i, .int .i64 lo, .slice (some ⟨gm, 0, none⟩) 11 cm, iN i, pT gm i, .int .i64 hi, iN n, iN i, .bool true, .bool true, iN n, .slice (some ⟨gv, 0, none⟩) i capv, pT gv 0, .int .i64 u0, .bool true, .bool true, u39, u40, u41, u42, u43, u44, u45, ud, ud, ud, ud, ud, ud, ud, ud, ud, ud], []⟩ ?_
        refine then_n <| y_ <| r_ [0, 1, 2] <| pkq (pT b 0) <| pkq (iN at_) ?_
        refine pcq 63 #[pT b 0, .int .i64 9, iN at_] Tryd.func63 ((rrFail_ok b rv l s1 9 ((at_ : Nat) : Int) _ hRV53).mono ?_)
        rintro e V60 ⟨⟨xv, rfl⟩, hRV60, kV60⟩
        refine ⟨_, rfl, ?_⟩
        have h61 := kV60.bO h54
        have h62 := kV60.bO h55
        have h63 : NB ≤ V60.heap.size := Nat.le_trans h56 kV60.size
        have h64 : Row V60 3 1 (.slice (some ⟨gv, 0, none⟩) i capv) i (I vs) := h57.keeps kV60 (fun j hj e => by have := hnw j hj; unfold Own.One at e; omega)
        have K65 := K58.nO kV60
        have z66 := kV60.size
        refine er_ [0, 1, 2, 3, 4] <| pkq (.slice (some ⟨gv, 0, none⟩) i capv) <| pkq (iN n) ?_
        obtain ⟨V67, eV67, lit, elit, h68, kV67⟩ := alloc_step V60 (#[.int .i64 ((n : Nat) : Int)]) 3
        have n69 : r1 < lit := elit ▸ lt_of_block h61
        have n70 : r2 < lit := elit ▸ lt_of_block h62
        have n71 : w.heap.size ≤ lit := elit ▸ K65.size
        refine prq (.slice (some ⟨lit, 0, none⟩) 1 1) (w' := V67) (by rw [← eV67, ← elit]; kernel_rfl) ?_
        have h72 := kV67.bk h61
        have h73 := kV67.bk h62
        have h74 : NB ≤ V67.heap.size := Nat.le_trans h63 kV67.size
        have h75 : Row V67 3 1 (.slice (some ⟨gv, 0, none⟩) i capv) i (I vs) := h64.keeps kV67 (fun _ _ x => x)
        have h76 : RrAt V67 b rv l (s1.fail 9 ((at_ : Nat) : Int)) := hRV60.keeps kV67 (fun x => x) (fun _ _ x => x)
        have K77 := K65.nn kV67
        have z78 := kV67.size
        obtain ⟨v79, V80, hr81, h82, hg83, hn84, ha85⟩ := run_append_any (P := Tryd.prog) (w := V67) 55 (Oper.type (qo62_0 15655 3)) 3 i0 (.int .i64 0) 1 8 Tryd.underlying55 hi0 hz0 hz1 hz2 rfl (by decide) (.slice (some ⟨gv, 0, none⟩) i capv) i (I vs) h75 (.slice (some ⟨lit, 0, none⟩) 1 1) 1 ([.int .i64 ((n : Nat) : Int)]) (src_block h68 1 1 rfl (by simp [Value.oneCell'])) (by unfold maxLen; omega) (by omega)
        have kV80 : Keeps (fun j => (.slice (some ⟨gv, 0, none⟩) i capv : Value).ownBlock = some j) V67 V80 := Keeps.rowAdd hg83
        have hw86 : NewFrom NB v79 := hnw.next h74 ha85
        refine prq v79 (w' := V80) (exec_append (.tmp 42) (.tmp 44) 55 (by kernel_rfl) (.slice (some ⟨gv, 0, none⟩) i capv) (.slice (some ⟨lit, 0, none⟩) 1 1) (by kernel_rfl) (by kernel_rfl) hr81) ?_
        have h87 : Row V80 3 1 v79 (i + 1) (I (vs ++ [((n : Nat) : Int)])) := (I_snoc vs _ ▸ h82)
        have h88 : V80.heap[r1]? = some (.cells (#[.int .i64 0, .int .i64 0, .int .i64 0, .int .i64 0, .int .i64 0, .int .i64 0, .int .i64 0, .int .u64 0, .int .u64 0, .int .i64 0, .int .u64 0]) 24 (0, 0)) := (kV80.block r1 (lt_of_block h72) (fun e => Row.ne h75 h72 (by decide) e)).trans h72
        have h89 : V80.heap[r2]? = some (.cells (#[.int .i64 0, .int .i64 0]) 46 (0, 0)) := (kV80.block r2 (lt_of_block h73) (fun e => Row.ne h75 h73 (by decide) e)).trans h73
        have h90 : NB ≤ V80.heap.size := Nat.le_trans h74 kV80.size
        have h91 : RrAt V80 b rv l (s1.fail 9 ((at_ : Nat) : Int)) := h76.keeps kV80 (fun e => by have := hnw _ e; omega) (fun j hj e => by have := hnw j e; have := hov j hj; omega)
        have K92 : Keeps Nob w V80 := K77.then kV80 (fun i hi hm => absurd hi (by have := hnw i hm; omega))
        have z93 := kV80.size
        refine pkq (v79) <| ps_end <| blk_n <| tr_ [0, 1, 2] <| pkq (iN i) <| ppq (iN (i + 1)) (exec_cast (congrArg (Value.int .i64) (wrapN (i + 1) (by omega))) (by kernel_rfl)) <| pkq (iN (i + 1)) <| et_ ?_
        refine ⟨⟨i + 1, vs ++ [((n : Nat) : Int)], sn, v79, (iN at_), (iN n), (iN i), (.bool true), (iN i), (iN (i + 1)), (pT b 0), (pT b 0), (pT b 1), (iN at_), (pT b 0), (.slice (some ⟨gl, 0, none⟩) 11 cl), (iN i), (pT gl i), (.int .i64 lo), (.slice (some ⟨gm, 0, none⟩) 11 cm), (iN i), (pT gm i), (.int .i64 hi), (iN n), (iN i), (.bool true), (.bool true), (iN n), (.slice (some ⟨gv, 0, none⟩) i capv), (pT gv 0), (.int .i64 u0), (.bool true), (.bool true), (pT b 0), (iN at_), xv, (.slice (some ⟨gv, 0, none⟩) i capv), (iN n), (.slice (some ⟨lit, 0, none⟩) 1 1), v79, by kernel_rfl, by omega, by simp [hv], hpe, all_snoc hall hnn, h88, h89, (hsn ▸ h91), h90, h87, K92, hw86⟩, ?_⟩
        exact lt_meas (x := 11 - (i + 1)) (y := 11 - i) (by kernel_rfl) (by kernel_rfl) (by omega)
      · refine ncq 62 #[] Tryd.func62 ((most_is _).mono ?_)
        rintro e V94 ⟨gm, cm, rfl, hcm, kV94⟩
        refine ⟨_, rfl, ?_⟩
        have h95 := kV94.bk h35
        have h96 := kV94.bk h36
        have h97 : RrAt V94 b rv l s := h37.keeps kV94 (fun x => x) (fun _ _ x => x)
        have h98 : NB ≤ V94.heap.size := Nat.le_trans h38 kV94.size
        have h99 : Row V94 3 1 (.slice (some ⟨gv, 0, none⟩) i capv) i (I vs) := h39.keeps kV94 (fun _ _ x => x)
        have h101 : ∀ i : Nat, i < 11 → V94.cell? ⟨gl, i, none⟩ = some (.int .i64 (parLo[i]?.getD 0)) := cells_keep hcl kV94
        have K102 := K41.nn kV94
        have z103 := kV94.size
        refine ⟨trivial, ?_⟩
        refine avq 7 (pT gm i) (fun W hS => exec_cast (v := pT gm (0 + i * 1)) (by simp) (exec_indexAt_slice 55 (.tmp 25) (.tmp 26) (by kernel_rfl) gm 0 11 cm (by kernel_rfl) .i64 i (by kernel_rfl) _ 1 Tryd.underlying55 (by kernel_rfl) (by omega))) trivial ?_
        refine an_two 4 8 (by kernel_rfl) ?_ ?_
        · refine nrq (.int .i64 lo) (w' := V94) (ldc 3 gl i ((h101 i hi2).trans (by rw [hlo]))) ?_
          refine ⟨trivial, ?_⟩
          refine an_o 8 <| nrq (.int .i64 hi) (w' := V94) (ldc 3 gm i ((hcm i hi2).trans (by rw [hhi]))) ?_
          refine ⟨trivial, ?_⟩
          refine an_o 9 ?_
          refine ncq 60 #[pT b 0, .int .i64 lo, .int .i64 hi] Tryd.func60 ((rr_num h97 hlo hhi hn hs1).mono ?_)
          rintro e V104 ⟨rfl, hRV104, kV104⟩
          refine ⟨_, rfl, ?_⟩
          have h105 := kV104.bO h95
          have h106 := kV104.bO h96
          have h107 : NB ≤ V104.heap.size := Nat.le_trans h98 kV104.size
          have h108 : Row V104 3 1 (.slice (some ⟨gv, 0, none⟩) i capv) i (I vs) := h99.keeps kV104 (fun j hj e => by have := hnw j hj; unfold Own.One at e; omega)
          have K109 := K102.nO kV104
          have z110 := kV104.size
          refine ⟨trivial, ?_⟩
          refine an_o 10 <| nrq (iN n) (w' := V104) (by kernel_rfl) ?_
          refine ⟨trivial, ?_⟩
          refine an_end (by kernel_rfl) <| tq_ <| qr_ [0, 1, 2, 3, 4, 5, 6, 7, 8] <| pkq (iN i) <| ppq (.bool true) (eqt (((i : Nat) : Int)) ((1) : Int) (by omega)) <| pkq (.bool true) <| pkq (iN n) <| pkq (.slice (some ⟨gv, 0, none⟩) i capv) <| ppq (pT gv 0) (exec_indexAt_slice 55 (.tmp 34) (.const (.int .i64 0)) (by kernel_rfl) gv 0 i capv (by kernel_rfl) .i64 0 (by kernel_rfl) _ 1 Tryd.underlying55 (by kernel_rfl) (by omega)) <| ppq (.int .i64 u0) (ldc 3 gv 0 (row_cells h108 0 _ hu0)) <| ppq (.bool true) (dct ((((n : Nat) : Int)) > ((u0) : Int)) (by omega)) <| pkq (.bool true) <| ps_end <| sy_a ⟨#[v0, ud, pT r1 0, pT r2 0, pT b 0, .slice (some ⟨gv, 0, none⟩) i capv, iN i, iN at_, iN n, ud, v0, pT b 0, iN i, .bool true, u14, u15, pT b 0, pT b 0, pT b 1, iN at_, pT b 0, .slice (some ⟨gl, 0, none⟩) 11 cl, iN i, pT gl i, .int .i64 lo, .slice (some ⟨gm, 0, none⟩) 11 cm, iN i, pT gm i, .int .i64 hi, iN n, iN i, .bool true, .bool true, iN n, .slice (some ⟨gv, 0, none⟩) i capv, pT gv 0, .int .i64 u0, .bool true, .bool true, u39, u40, u41, u42, u43, u44, u45, ud, ud, ud, ud, ud, ud, ud, ud, ud, ud], []⟩ ?_
          refine then_n <| y_ <| r_ [0, 1, 2] <| pkq (pT b 0) <| pkq (iN at_) ?_
          refine pcq 63 #[pT b 0, .int .i64 9, iN at_] Tryd.func63 ((rrFail_ok b rv l s1 9 ((at_ : Nat) : Int) _ hRV104).mono ?_)
          rintro e V111 ⟨⟨xv, rfl⟩, hRV111, kV111⟩
          refine ⟨_, rfl, ?_⟩
          have h112 := kV111.bO h105
          have h113 := kV111.bO h106
          have h114 : NB ≤ V111.heap.size := Nat.le_trans h107 kV111.size
          have h115 : Row V111 3 1 (.slice (some ⟨gv, 0, none⟩) i capv) i (I vs) := h108.keeps kV111 (fun j hj e => by have := hnw j hj; unfold Own.One at e; omega)
          have K116 := K109.nO kV111
          have z117 := kV111.size
          refine er_ [0, 1, 2, 3, 4] <| pkq (.slice (some ⟨gv, 0, none⟩) i capv) <| pkq (iN n) ?_
          obtain ⟨V118, eV118, lit, elit, h119, kV118⟩ := alloc_step V111 (#[.int .i64 ((n : Nat) : Int)]) 3
          have n120 : r1 < lit := elit ▸ lt_of_block h112
          have n121 : r2 < lit := elit ▸ lt_of_block h113
          have n122 : w.heap.size ≤ lit := elit ▸ K116.size
          refine prq (.slice (some ⟨lit, 0, none⟩) 1 1) (w' := V118) (by rw [← eV118, ← elit]; kernel_rfl) ?_
          have h123 := kV118.bk h112
          have h124 := kV118.bk h113
          have h125 : NB ≤ V118.heap.size := Nat.le_trans h114 kV118.size
          have h126 : Row V118 3 1 (.slice (some ⟨gv, 0, none⟩) i capv) i (I vs) := h115.keeps kV118 (fun _ _ x => x)
          have h127 : RrAt V118 b rv l (s1.fail 9 ((at_ : Nat) : Int)) := hRV111.keeps kV118 (fun x => x) (fun _ _ x => x)
          have K128 := K116.nn kV118
          have z129 := kV118.size
          obtain ⟨v130, V131, hr132, h133, hg134, hn135, ha136⟩ := run_append_any (P := Tryd.prog) (w := V118) 55 (Oper.type (qo62_0 15655 3)) 3 i0 (.int .i64 0) 1 8 Tryd.underlying55 hi0 hz0 hz1 hz2 rfl (by decide) (.slice (some ⟨gv, 0, none⟩) i capv) i (I vs) h126 (.slice (some ⟨lit, 0, none⟩) 1 1) 1 ([.int .i64 ((n : Nat) : Int)]) (src_block h119 1 1 rfl (by simp [Value.oneCell'])) (by unfold maxLen; omega) (by omega)
          have kV131 : Keeps (fun j => (.slice (some ⟨gv, 0, none⟩) i capv : Value).ownBlock = some j) V118 V131 := Keeps.rowAdd hg134
          have hw137 : NewFrom NB v130 := hnw.next h125 ha136
          refine prq v130 (w' := V131) (exec_append (.tmp 42) (.tmp 44) 55 (by kernel_rfl) (.slice (some ⟨gv, 0, none⟩) i capv) (.slice (some ⟨lit, 0, none⟩) 1 1) (by kernel_rfl) (by kernel_rfl) hr132) ?_
          have h138 : Row V131 3 1 v130 (i + 1) (I (vs ++ [((n : Nat) : Int)])) := (I_snoc vs _ ▸ h133)
          have h139 : V131.heap[r1]? = some (.cells (#[.int .i64 0, .int .i64 0, .int .i64 0, .int .i64 0, .int .i64 0, .int .i64 0, .int .i64 0, .int .u64 0, .int .u64 0, .int .i64 0, .int .u64 0]) 24 (0, 0)) := (kV131.block r1 (lt_of_block h123) (fun e => Row.ne h126 h123 (by decide) e)).trans h123
          have h140 : V131.heap[r2]? = some (.cells (#[.int .i64 0, .int .i64 0]) 46 (0, 0)) := (kV131.block r2 (lt_of_block h124) (fun e => Row.ne h126 h124 (by decide) e)).trans h124
          have h141 : NB ≤ V131.heap.size := Nat.le_trans h125 kV131.size
          have h142 : RrAt V131 b rv l (s1.fail 9 ((at_ : Nat) : Int)) := h127.keeps kV131 (fun e => by have := hnw _ e; omega) (fun j hj e => by have := hnw j e; have := hov j hj; omega)
          have K143 : Keeps Nob w V131 := K128.then kV131 (fun i hi hm => absurd hi (by have := hnw i hm; omega))
          have z144 := kV131.size
          refine pkq (v130) <| ps_end <| blk_n <| tr_ [0, 1, 2] <| pkq (iN i) <| ppq (iN (i + 1)) (exec_cast (congrArg (Value.int .i64) (wrapN (i + 1) (by omega))) (by kernel_rfl)) <| pkq (iN (i + 1)) <| et_ ?_
          refine ⟨⟨i + 1, vs ++ [((n : Nat) : Int)], sn, v130, (iN at_), (iN n), (iN i), (.bool true), (iN i), (iN (i + 1)), (pT b 0), (pT b 0), (pT b 1), (iN at_), (pT b 0), (.slice (some ⟨gl, 0, none⟩) 11 cl), (iN i), (pT gl i), (.int .i64 lo), (.slice (some ⟨gm, 0, none⟩) 11 cm), (iN i), (pT gm i), (.int .i64 hi), (iN n), (iN i), (.bool true), (.bool true), (iN n), (.slice (some ⟨gv, 0, none⟩) i capv), (pT gv 0), (.int .i64 u0), (.bool true), (.bool true), (pT b 0), (iN at_), xv, (.slice (some ⟨gv, 0, none⟩) i capv), (iN n), (.slice (some ⟨lit, 0, none⟩) 1 1), v130, by kernel_rfl, by omega, by simp [hv], hpe, all_snoc hall hnn, h139, h140, (hsn ▸ h142), h141, h138, K143, hw137⟩, ?_⟩
          exact lt_meas (x := 11 - (i + 1)) (y := 11 - i) (by kernel_rfl) (by kernel_rfl) (by omega)
        · refine nrq (.int .i64 hi) (w' := V94) (ldc 3 gm i ((hcm i hi2).trans (by rw [hhi]))) ?_
          refine ⟨trivial, ?_⟩
          refine an_o 4 <| nrq (.int .i64 lo) (w' := V94) (ldc 3 gl i ((h101 i hi2).trans (by rw [hlo]))) ?_
          refine ⟨trivial, ?_⟩
          refine an_o 9 ?_
          refine ncq 60 #[pT b 0, .int .i64 lo, .int .i64 hi] Tryd.func60 ((rr_num h97 hlo hhi hn hs1).mono ?_)
          rintro e V145 ⟨rfl, hRV145, kV145⟩
          refine ⟨_, rfl, ?_⟩
          have h146 := kV145.bO h95
          have h147 := kV145.bO h96
          have h148 : NB ≤ V145.heap.size := Nat.le_trans h98 kV145.size
          have h149 : Row V145 3 1 (.slice (some ⟨gv, 0, none⟩) i capv) i (I vs) := h99.keeps kV145 (fun j hj e => by have := hnw j hj; unfold Own.One at e; omega)
          have K150 := K102.nO kV145
          have z151 := kV145.size
          refine ⟨trivial, ?_⟩
          refine an_o 10 <| nrq (iN n) (w' := V145) (by kernel_rfl) ?_
          refine ⟨trivial, ?_⟩
          refine an_end (by kernel_rfl) <| tq_ <| qr_ [0, 1, 2, 3, 4, 5, 6, 7, 8] <| pkq (iN i) <| ppq (.bool true) (eqt (((i : Nat) : Int)) ((1) : Int) (by omega)) <| pkq (.bool true) <| pkq (iN n) <| pkq (.slice (some ⟨gv, 0, none⟩) i capv) <| ppq (pT gv 0) (exec_indexAt_slice 55 (.tmp 34) (.const (.int .i64 0)) (by kernel_rfl) gv 0 i capv (by kernel_rfl) .i64 0 (by kernel_rfl) _ 1 Tryd.underlying55 (by kernel_rfl) (by omega)) <| ppq (.int .i64 u0) (ldc 3 gv 0 (row_cells h149 0 _ hu0)) <| ppq (.bool true) (dct ((((n : Nat) : Int)) > ((u0) : Int)) (by omega)) <| pkq (.bool true) <| ps_end <| sy_a ⟨#[v0, ud, pT r1 0, pT r2 0, pT b 0, .slice (some ⟨gv, 0, none⟩) i capv, iN i, iN at_, iN n, ud, v0, pT b 0, iN i, .bool true, u14, u15, pT b 0, pT b 0, pT b 1, iN at_, pT b 0, .slice (some ⟨gl, 0, none⟩) 11 cl, iN i, pT gl i, .int .i64 lo, .slice (some ⟨gm, 0, none⟩) 11 cm, iN i, pT gm i, .int .i64 hi, iN n, iN i, .bool true, .bool true, iN n, .slice (some ⟨gv, 0, none⟩) i capv, pT gv 0, .int .i64 u0, .bool true, .bool true, u39, u40, u41, u42, u43, u44, u45, ud, ud, ud, ud, ud, ud, ud, ud, ud, ud], []⟩ ?_
          refine then_n <| y_ <| r_ [0, 1, 2] <| pkq (pT b 0) <| pkq (iN at_) ?_
          refine pcq 63 #[pT b 0, .int .i64 9, iN at_] Tryd.func63 ((rrFail_ok b rv l s1 9 ((at_ : Nat) : Int) _ hRV145).mono ?_)
          rintro e V152 ⟨⟨xv, rfl⟩, hRV152, kV152⟩
          refine ⟨_, rfl, ?_⟩
          have h153 := kV152.bO h146
          have h154 := kV152.bO h147
          have h155 : NB ≤ V152.heap.size := Nat.le_trans h148 kV152.size
          have h156 : Row V152 3 1 (.slice (some ⟨gv, 0, none⟩) i capv) i (I vs) := h149.keeps kV152 (fun j hj e => by have := hnw j hj; unfold Own.One at e; omega)
          have K157 := K150.nO kV152
          have z158 := kV152.size
          refine er_ [0, 1, 2, 3, 4] <| pkq (.slice (some ⟨gv, 0, none⟩) i capv) <| pkq (iN n) ?_
          obtain ⟨V159, eV159, lit, elit, h160, kV159⟩ := alloc_step V152 (#[.int .i64 ((n : Nat) : Int)]) 3
          have n161 : r1 < lit := elit ▸ lt_of_block h153
          have n162 : r2 < lit := elit ▸ lt_of_block h154
          have n163 : w.heap.size ≤ lit := elit ▸ K157.size
          refine prq (.slice (some ⟨lit, 0, none⟩) 1 1) (w' := V159) (by rw [← eV159, ← elit]; kernel_rfl) ?_
          have h164 := kV159.bk h153
          have h165 := kV159.bk h154
          have h166 : NB ≤ V159.heap.size := Nat.le_trans h155 kV159.size
          have h167 : Row V159 3 1 (.slice (some ⟨gv, 0, none⟩) i capv) i (I vs) := h156.keeps kV159 (fun _ _ x => x)
          have h168 : RrAt V159 b rv l (s1.fail 9 ((at_ : Nat) : Int)) := hRV152.keeps kV159 (fun x => x) (fun _ _ x => x)
          have K169 := K157.nn kV159
          have z170 := kV159.size
          obtain ⟨v171, V172, hr173, h174, hg175, hn176, ha177⟩ := run_append_any (P := Tryd.prog) (w := V159) 55 (Oper.type (qo62_0 15655 3)) 3 i0 (.int .i64 0) 1 8 Tryd.underlying55 hi0 hz0 hz1 hz2 rfl (by decide) (.slice (some ⟨gv, 0, none⟩) i capv) i (I vs) h167 (.slice (some ⟨lit, 0, none⟩) 1 1) 1 ([.int .i64 ((n : Nat) : Int)]) (src_block h160 1 1 rfl (by simp [Value.oneCell'])) (by unfold maxLen; omega) (by omega)
          have kV172 : Keeps (fun j => (.slice (some ⟨gv, 0, none⟩) i capv : Value).ownBlock = some j) V159 V172 := Keeps.rowAdd hg175
          have hw178 : NewFrom NB v171 := hnw.next h166 ha177
          refine prq v171 (w' := V172) (exec_append (.tmp 42) (.tmp 44) 55 (by kernel_rfl) (.slice (some ⟨gv, 0, none⟩) i capv) (.slice (some ⟨lit, 0, none⟩) 1 1) (by kernel_rfl) (by kernel_rfl) hr173) ?_
          have h179 : Row V172 3 1 v171 (i + 1) (I (vs ++ [((n : Nat) : Int)])) := (I_snoc vs _ ▸ h174)
          have h180 : V172.heap[r1]? = some (.cells (#[.int .i64 0, .int .i64 0, .int .i64 0, .int .i64 0, .int .i64 0, .int .i64 0, .int .i64 0, .int .u64 0, .int .u64 0, .int .i64 0, .int .u64 0]) 24 (0, 0)) := (kV172.block r1 (lt_of_block h164) (fun e => Row.ne h167 h164 (by decide) e)).trans h164
          have h181 : V172.heap[r2]? = some (.cells (#[.int .i64 0, .int .i64 0]) 46 (0, 0)) := (kV172.block r2 (lt_of_block h165) (fun e => Row.ne h167 h165 (by decide) e)).trans h165
          have h182 : NB ≤ V172.heap.size := Nat.le_trans h166 kV172.size
          have h183 : RrAt V172 b rv l (s1.fail 9 ((at_ : Nat) : Int)) := h168.keeps kV172 (fun e => by have := hnw _ e; omega) (fun j hj e => by have := hnw j e; have := hov j hj; omega)
          have K184 : Keeps Nob w V172 := K169.then kV172 (fun i hi hm => absurd hi (by have := hnw i hm; omega))
          have z185 := kV172.size
          refine pkq (v171) <| ps_end <| blk_n <| tr_ [0, 1, 2] <| pkq (iN i) <| ppq (iN (i + 1)) (exec_cast (congrArg (Value.int .i64) (wrapN (i + 1) (by omega))) (by kernel_rfl)) <| pkq (iN (i + 1)) <| et_ ?_
          refine ⟨⟨i + 1, vs ++ [((n : Nat) : Int)], sn, v171, (iN at_), (iN n), (iN i), (.bool true), (iN i), (iN (i + 1)), (pT b 0), (pT b 0), (pT b 1), (iN at_), (pT b 0), (.slice (some ⟨gl, 0, none⟩) 11 cl), (iN i), (pT gl i), (.int .i64 lo), (.slice (some ⟨gm, 0, none⟩) 11 cm), (iN i), (pT gm i), (.int .i64 hi), (iN n), (iN i), (.bool true), (.bool true), (iN n), (.slice (some ⟨gv, 0, none⟩) i capv), (pT gv 0), (.int .i64 u0), (.bool true), (.bool true), (pT b 0), (iN at_), xv, (.slice (some ⟨gv, 0, none⟩) i capv), (iN n), (.slice (some ⟨lit, 0, none⟩) 1 1), v171, by kernel_rfl, by omega, by simp [hv], hpe, all_snoc hall hnn, h180, h181, (hsn ▸ h183), h182, h179, K184, hw178⟩, ?_⟩
          exact lt_meas (x := 11 - (i + 1)) (y := 11 - i) (by kernel_rfl) (by kernel_rfl) (by omega)
    · obtain ⟨at_, ea, hcb, hal, hat0, -⟩ := RrAt.ex h21
      obtain ⟨se, hse⟩ : ∃ x, s.err = x := ⟨_, rfl⟩
      rw [hse] at hcb
      obtain ⟨lo, hlo⟩ : ∃ x, parLo[i]?.getD 0 = x := ⟨_, rfl⟩
      obtain ⟨hi, hhi⟩ : ∃ x, parHi[i]?.getD 0 = x := ⟨_, rfl⟩
      have hnn := brn_in l i s
      obtain ⟨n, hn⟩ : ∃ x, brn l i s = x := ⟨_, rfl⟩
      obtain ⟨s1, hs1⟩ : ∃ x, (brd l i s).2 = x := ⟨_, rfl⟩
      rw [hn] at hnn
      obtain ⟨sn, hsn0⟩ : ∃ x, bst l vs i s = x := ⟨_, rfl⟩
      have hpe := bgo_step hi2 hv hp
      rw [hn, hsn0] at hpe
      have hsn : s1 = sn := by rw [← hsn0, bst_not (fun x => hlt5 x.2), hs1]
      obtain ⟨gv, capv, rfl, hgv⟩ := Row.spell h23 (by omega)
      obtain ⟨u0, hu1⟩ : ∃ u, vs[0]?.getD 0 = u := ⟨_, rfl⟩
      have hu0 : (I vs)[0]? = some (.int .i64 u0) := by rw [← hu1]; simp [I, List.getElem?_eq_getElem (show 0 < vs.length by omega)]
      rw [hu1, hn] at hlt5
      refine q_ <| qr_ [0, 1] <| pkq (iN i) <| ppq (.bool true) (dct ((((i : Nat) : Int)) < ((11) : Int)) (by omega)) <| ey_ <| s_ <| tq_ <| b_ 1 <| qr_ [0, 1, 2, 3, 4] <| pkq (pT b 0) <| pkq (pT b 0) <| pkq (pT b 1) <| ppq (iN at_) (ldk 3 b 1 hcb) <| pkq (iN at_) ?_
      refine eq_ <| sy_np <| sy_reg <| an_begin 7 11 (opsAt (qc62_0 7826)) (fun W => True) #[false, false, false, false, false, false, false, false, false, false, false] (by kernel_rfl) (by kernel_rfl) (by kernel_rfl) (by kernel_rfl) ?_
      obtain ⟨V186, eV186, kV186⟩ := drew_step V18
      rw [eV186]
      clear eV186
      have h187 := kV186.bk h19
      have h188 := kV186.bk h20
      have h189 : RrAt V186 b rv l s := h21.keeps kV186 (fun x => x) (fun _ _ x => x)
      have h190 : NB ≤ V186.heap.size := Nat.le_trans h22 kV186.size
      have h191 : Row V186 3 1 (.slice (some ⟨gv, 0, none⟩) i capv) i (I vs) := h23.keeps kV186 (fun _ _ x => x)
      have K193 := K24.nn kV186
      have z194 := kV186.size
      refine akq 0 (pT b 0) trivial <| akq 2 (iN i) trivial <| akq 6 (iN i) trivial <| an_o 1 ?_
      refine ncq 61 #[] Tryd.func61 ((least_is _).mono ?_)
      rintro e V195 ⟨gl, cl, rfl, hcl, kV195⟩
      refine ⟨_, rfl, ?_⟩
      have h196 := kV195.bk h187
      have h197 := kV195.bk h188
      have h198 : RrAt V195 b rv l s := h189.keeps kV195 (fun x => x) (fun _ _ x => x)
      have h199 : NB ≤ V195.heap.size := Nat.le_trans h190 kV195.size
      have h200 : Row V195 3 1 (.slice (some ⟨gv, 0, none⟩) i capv) i (I vs) := h191.keeps kV195 (fun _ _ x => x)
      have K202 := K193.nn kV195
      have z203 := kV195.size
      refine ⟨trivial, ?_⟩
      refine avq 3 (pT gl i) (fun W hS => exec_cast (v := pT gl (0 + i * 1)) (by simp) (exec_indexAt_slice 55 (.tmp 21) (.tmp 22) (by kernel_rfl) gl 0 11 cl (by kernel_rfl) .i64 i (by kernel_rfl) _ 1 Tryd.underlying55 (by kernel_rfl) (by omega))) trivial ?_
      refine an_two 4 5 (by kernel_rfl) ?_ ?_
      · refine nrq (.int .i64 lo) (w' := V195) (ldc 3 gl i ((hcl i hi2).trans (by rw [hlo]))) ?_
        refine ⟨trivial, ?_⟩
        refine an_o 5 ?_
        refine ncq 62 #[] Tryd.func62 ((most_is _).mono ?_)
        rintro e V204 ⟨gm, cm, rfl, hcm, kV204⟩
        refine ⟨_, rfl, ?_⟩
        have h205 := kV204.bk h196
        have h206 := kV204.bk h197
        have h207 : RrAt V204 b rv l s := h198.keeps kV204 (fun x => x) (fun _ _ x => x)
        have h208 : NB ≤ V204.heap.size := Nat.le_trans h199 kV204.size
        have h209 : Row V204 3 1 (.slice (some ⟨gv, 0, none⟩) i capv) i (I vs) := h200.keeps kV204 (fun _ _ x => x)
        have h211 : ∀ i : Nat, i < 11 → V204.cell? ⟨gl, i, none⟩ = some (.int .i64 (parLo[i]?.getD 0)) := cells_keep hcl kV204
        have K212 := K202.nn kV204
        have z213 := kV204.size
        refine ⟨trivial, ?_⟩
        refine avq 7 (pT gm i) (fun W hS => exec_cast (v := pT gm (0 + i * 1)) (by simp) (exec_indexAt_slice 55 (.tmp 25) (.tmp 26) (by kernel_rfl) gm 0 11 cm (by kernel_rfl) .i64 i (by kernel_rfl) _ 1 Tryd.underlying55 (by kernel_rfl) (by omega))) trivial <| an_o 8 <| nrq (.int .i64 hi) (w' := V204) (ldc 3 gm i ((hcm i hi2).trans (by rw [hhi]))) ?_
        refine ⟨trivial, ?_⟩
        refine an_o 9 ?_
        refine ncq 60 #[pT b 0, .int .i64 lo, .int .i64 hi] Tryd.func60 ((rr_num h207 hlo hhi hn hs1).mono ?_)
        rintro e V214 ⟨rfl, hRV214, kV214⟩
        refine ⟨_, rfl, ?_⟩
        have h215 := kV214.bO h205
        have h216 := kV214.bO h206
        have h217 : NB ≤ V214.heap.size := Nat.le_trans h208 kV214.size
        have h218 : Row V214 3 1 (.slice (some ⟨gv, 0, none⟩) i capv) i (I vs) := h209.keeps kV214 (fun j hj e => by have := hnw j hj; unfold Own.One at e; omega)
        have K219 := K212.nO kV214
        have z220 := kV214.size
        refine ⟨trivial, ?_⟩
        refine an_o 10 <| nrq (iN n) (w' := V214) (by kernel_rfl) ?_
        refine ⟨trivial, ?_⟩
        refine an_end (by kernel_rfl) <| tq_ <| qr_ [0, 1, 2, 3, 4, 5, 6, 7, 8] <| pkq (iN i) <| ppq (.bool true) (eqt (((i : Nat) : Int)) ((1) : Int) (by omega)) <| pkq (.bool true) <| pkq (iN n) <| pkq (.slice (some ⟨gv, 0, none⟩) i capv) <| ppq (pT gv 0) (exec_indexAt_slice 55 (.tmp 34) (.const (.int .i64 0)) (by kernel_rfl) gv 0 i capv (by kernel_rfl) .i64 0 (by kernel_rfl) _ 1 Tryd.underlying55 (by kernel_rfl) (by omega)) <| ppq (.int .i64 u0) (ldc 3 gv 0 (row_cells h218 0 _ hu0)) <| ppq (.bool false) (dcf ((((n : Nat) : Int)) > ((u0) : Int)) (by omega)) <| pkq (.bool false) <| ps_end <| sy_a ⟨#[v0, ud, pT r1 0, pT r2 0, pT b 0, .slice (some ⟨gv, 0, none⟩) i capv, iN i, iN at_, iN n, ud, v0, pT b 0, iN i, .bool true, u14, u15, pT b 0, pT b 0, pT b 1, iN at_, pT b 0, .slice (some ⟨gl, 0, none⟩) 11 cl, iN i, pT gl i, .int .i64 lo, .slice (some ⟨gm, 0, none⟩) 11 cm, iN i, pT gm i, .int .i64 hi, iN n, iN i, .bool true, .bool true, iN n, .slice (some ⟨gv, 0, none⟩) i capv, pT gv 0, .int .i64 u0, .bool false, .bool false, u39, u40, u41, u42, u43, u44, u45, ud, ud, ud, ud, ud, ud, ud, ud, ud, ud], []⟩ ?_
        refine then_n <| n_ <| s_ <| tr_ [0, 1, 2, 3, 4] <| pkq (.slice (some ⟨gv, 0, none⟩) i capv) <| pkq (iN n) ?_
        obtain ⟨V221, eV221, lit, elit, h222, kV221⟩ := alloc_step V214 (#[.int .i64 ((n : Nat) : Int)]) 3
        have n223 : r1 < lit := elit ▸ lt_of_block h215
        have n224 : r2 < lit := elit ▸ lt_of_block h216
        have n225 : w.heap.size ≤ lit := elit ▸ K219.size
        refine prq (.slice (some ⟨lit, 0, none⟩) 1 1) (w' := V221) (by rw [← eV221, ← elit]; kernel_rfl) ?_
        have h226 := kV221.bk h215
        have h227 := kV221.bk h216
        have h228 : NB ≤ V221.heap.size := Nat.le_trans h217 kV221.size
        have h229 : Row V221 3 1 (.slice (some ⟨gv, 0, none⟩) i capv) i (I vs) := h218.keeps kV221 (fun _ _ x => x)
        have h230 : RrAt V221 b rv l s1 := hRV214.keeps kV221 (fun x => x) (fun _ _ x => x)
        have K231 := K219.nn kV221
        have z232 := kV221.size
        obtain ⟨v233, V234, hr235, h236, hg237, hn238, ha239⟩ := run_append_any (P := Tryd.prog) (w := V221) 55 (Oper.type (qo62_0 15655 3)) 3 i0 (.int .i64 0) 1 8 Tryd.underlying55 hi0 hz0 hz1 hz2 rfl (by decide) (.slice (some ⟨gv, 0, none⟩) i capv) i (I vs) h229 (.slice (some ⟨lit, 0, none⟩) 1 1) 1 ([.int .i64 ((n : Nat) : Int)]) (src_block h222 1 1 rfl (by simp [Value.oneCell'])) (by unfold maxLen; omega) (by omega)
        have kV234 : Keeps (fun j => (.slice (some ⟨gv, 0, none⟩) i capv : Value).ownBlock = some j) V221 V234 := Keeps.rowAdd hg237
        have hw240 : NewFrom NB v233 := hnw.next h228 ha239
        refine prq v233 (w' := V234) (exec_append (.tmp 42) (.tmp 44) 55 (by kernel_rfl) (.slice (some ⟨gv, 0, none⟩) i capv) (.slice (some ⟨lit, 0, none⟩) 1 1) (by kernel_rfl) (by kernel_rfl) hr235) ?_
        have h241 : Row V234 3 1 v233 (i + 1) (I (vs ++ [((n : Nat) : Int)])) := (I_snoc vs _ ▸ h236)
        have h242 : V234.heap[r1]? = some (.cells (#[.int .i64 0, .int .i64 0, .int .i64 0, .int .i64 0, .int .i64 0, .int .i64 0, .int .i64 0, .int .u64 0, .int .u64 0, .int .i64 0, .int .u64 0]) 24 (0, 0)) := (kV234.block r1 (lt_of_block h226) (fun e => Row.ne h229 h226 (by decide) e)).trans h226
        have h243 : V234.heap[r2]? = some (.cells (#[.int .i64 0, .int .i64 0]) 46 (0, 0)) := (kV234.block r2 (lt_of_block h227) (fun e => Row.ne h229 h227 (by decide) e)).trans h227
        have h244 : NB ≤ V234.heap.size := Nat.le_trans h228 kV234.size
        have h245 : RrAt V234 b rv l s1 := h230.keeps kV234 (fun e => by have := hnw _ e; omega) (fun j hj e => by have := hnw j e; have := hov j hj; omega)
        have K246 : Keeps Nob w V234 := K231.then kV234 (fun i hi hm => absurd hi (by have := hnw i hm; omega))
        have z247 := kV234.size
        refine pkq (v233) <| ps_end <| blk_n <| tr_ [0, 1, 2] <| pkq (iN i) <| ppq (iN (i + 1)) (exec_cast (congrArg (Value.int .i64) (wrapN (i + 1) (by omega))) (by kernel_rfl)) <| pkq (iN (i + 1)) <| et_ ?_
        refine ⟨⟨i + 1, vs ++ [((n : Nat) : Int)], sn, v233, (iN at_), (iN n), (iN i), (.bool true), (iN i), (iN (i + 1)), (pT b 0), (pT b 0), (pT b 1), (iN at_), (pT b 0), (.slice (some ⟨gl, 0, none⟩) 11 cl), (iN i), (pT gl i), (.int .i64 lo), (.slice (some ⟨gm, 0, none⟩) 11 cm), (iN i), (pT gm i), (.int .i64 hi), (iN n), (iN i), (.bool true), (.bool true), (iN n), (.slice (some ⟨gv, 0, none⟩) i capv), (pT gv 0), (.int .i64 u0), (.bool false), (.bool false), u39, u40, u41, (.slice (some ⟨gv, 0, none⟩) i capv), (iN n), (.slice (some ⟨lit, 0, none⟩) 1 1), v233, by kernel_rfl, by omega, by simp [hv], hpe, all_snoc hall hnn, h242, h243, (hsn ▸ h245), h244, h241, K246, hw240⟩, ?_⟩
        exact lt_meas (x := 11 - (i + 1)) (y := 11 - i) (by kernel_rfl) (by kernel_rfl) (by omega)
      · refine ncq 62 #[] Tryd.func62 ((most_is _).mono ?_)
        rintro e V248 ⟨gm, cm, rfl, hcm, kV248⟩
        refine ⟨_, rfl, ?_⟩
        have h249 := kV248.bk h196
        have h250 := kV248.bk h197
        have h251 : RrAt V248 b rv l s := h198.keeps kV248 (fun x => x) (fun _ _ x => x)
        have h252 : NB ≤ V248.heap.size := Nat.le_trans h199 kV248.size
        have h253 : Row V248 3 1 (.slice (some ⟨gv, 0, none⟩) i capv) i (I vs) := h200.keeps kV248 (fun _ _ x => x)
        have h255 : ∀ i : Nat, i < 11 → V248.cell? ⟨gl, i, none⟩ = some (.int .i64 (parLo[i]?.getD 0)) := cells_keep hcl kV248
        have K256 := K202.nn kV248
        have z257 := kV248.size
        refine ⟨trivial, ?_⟩
        refine avq 7 (pT gm i) (fun W hS => exec_cast (v := pT gm (0 + i * 1)) (by simp) (exec_indexAt_slice 55 (.tmp 25) (.tmp 26) (by kernel_rfl) gm 0 11 cm (by kernel_rfl) .i64 i (by kernel_rfl) _ 1 Tryd.underlying55 (by kernel_rfl) (by omega))) trivial ?_
        refine an_two 4 8 (by kernel_rfl) ?_ ?_
        · refine nrq (.int .i64 lo) (w' := V248) (ldc 3 gl i ((h255 i hi2).trans (by rw [hlo]))) ?_
          refine ⟨trivial, ?_⟩
          refine an_o 8 <| nrq (.int .i64 hi) (w' := V248) (ldc 3 gm i ((hcm i hi2).trans (by rw [hhi]))) ?_
          refine ⟨trivial, ?_⟩
          refine an_o 9 ?_
          refine ncq 60 #[pT b 0, .int .i64 lo, .int .i64 hi] Tryd.func60 ((rr_num h251 hlo hhi hn hs1).mono ?_)
          rintro e V258 ⟨rfl, hRV258, kV258⟩
          refine ⟨_, rfl, ?_⟩
          have h259 := kV258.bO h249
          have h260 := kV258.bO h250
          have h261 : NB ≤ V258.heap.size := Nat.le_trans h252 kV258.size
          have h262 : Row V258 3 1 (.slice (some ⟨gv, 0, none⟩) i capv) i (I vs) := h253.keeps kV258 (fun j hj e => by have := hnw j hj; unfold Own.One at e; omega)
          have K263 := K256.nO kV258
          have z264 := kV258.size
          refine ⟨trivial, ?_⟩
          refine an_o 10 <| nrq (iN n) (w' := V258) (by kernel_rfl) ?_
          refine ⟨trivial, ?_⟩
          refine an_end (by kernel_rfl) <| tq_ <| qr_ [0, 1, 2, 3, 4, 5, 6, 7, 8] <| pkq (iN i) <| ppq (.bool true) (eqt (((i : Nat) : Int)) ((1) : Int) (by omega)) <| pkq (.bool true) <| pkq (iN n) <| pkq (.slice (some ⟨gv, 0, none⟩) i capv) <| ppq (pT gv 0) (exec_indexAt_slice 55 (.tmp 34) (.const (.int .i64 0)) (by kernel_rfl) gv 0 i capv (by kernel_rfl) .i64 0 (by kernel_rfl) _ 1 Tryd.underlying55 (by kernel_rfl) (by omega)) <| ppq (.int .i64 u0) (ldc 3 gv 0 (row_cells h262 0 _ hu0)) <| ppq (.bool false) (dcf ((((n : Nat) : Int)) > ((u0) : Int)) (by omega)) <| pkq (.bool false) <| ps_end <| sy_a ⟨#[v0, ud, pT r1 0, pT r2 0, pT b 0, .slice (some ⟨gv, 0, none⟩) i capv, iN i, iN at_, iN n, ud, v0, pT b 0, iN i, .bool true, u14, u15, pT b 0, pT b 0, pT b 1, iN at_, pT b 0, .slice (some ⟨gl, 0, none⟩) 11 cl, iN i, pT gl i, .int .i64 lo, .slice (some ⟨gm, 0, none⟩) 11 cm, iN i, pT gm i, .int .i64 hi, iN n, iN i, .bool true, .bool true, iN n, .slice (some ⟨gv, 0, none⟩) i capv, pT gv 0, .int .i64 u0, .bool false, .bool false, u39, u40, u41, u42, u43, u44, u45, ud, ud, ud, ud, ud, ud, ud, ud, ud, ud], []⟩ ?_
          refine then_n <| n_ <| s_ <| tr_ [0, 1, 2, 3, 4] <| pkq (.slice (some ⟨gv, 0, none⟩) i capv) <| pkq (iN n) ?_
          obtain ⟨V265, eV265, lit, elit, h266, kV265⟩ := alloc_step V258 (#[.int .i64 ((n : Nat) : Int)]) 3
          have n267 : r1 < lit := elit ▸ lt_of_block h259
          have n268 : r2 < lit := elit ▸ lt_of_block h260
          have n269 : w.heap.size ≤ lit := elit ▸ K263.size
          refine prq (.slice (some ⟨lit, 0, none⟩) 1 1) (w' := V265) (by rw [← eV265, ← elit]; kernel_rfl) ?_
          have h270 := kV265.bk h259
          have h271 := kV265.bk h260
          have h272 : NB ≤ V265.heap.size := Nat.le_trans h261 kV265.size
          have h273 : Row V265 3 1 (.slice (some ⟨gv, 0, none⟩) i capv) i (I vs) := h262.keeps kV265 (fun _ _ x => x)
          have h274 : RrAt V265 b rv l s1 := hRV258.keeps kV265 (fun x => x) (fun _ _ x => x)
          have K275 := K263.nn kV265
          have z276 := kV265.size
          obtain ⟨v277, V278, hr279, h280, hg281, hn282, ha283⟩ := run_append_any (P := Tryd.prog) (w := V265) 55 (Oper.type (qo62_0 15655 3)) 3 i0 (.int .i64 0) 1 8 Tryd.underlying55 hi0 hz0 hz1 hz2 rfl (by decide) (.slice (some ⟨gv, 0, none⟩) i capv) i (I vs) h273 (.slice (some ⟨lit, 0, none⟩) 1 1) 1 ([.int .i64 ((n : Nat) : Int)]) (src_block h266 1 1 rfl (by simp [Value.oneCell'])) (by unfold maxLen; omega) (by omega)
          have kV278 : Keeps (fun j => (.slice (some ⟨gv, 0, none⟩) i capv : Value).ownBlock = some j) V265 V278 := Keeps.rowAdd hg281
          have hw284 : NewFrom NB v277 := hnw.next h272 ha283
          refine prq v277 (w' := V278) (exec_append (.tmp 42) (.tmp 44) 55 (by kernel_rfl) (.slice (some ⟨gv, 0, none⟩) i capv) (.slice (some ⟨lit, 0, none⟩) 1 1) (by kernel_rfl) (by kernel_rfl) hr279) ?_
          have h285 : Row V278 3 1 v277 (i + 1) (I (vs ++ [((n : Nat) : Int)])) := (I_snoc vs _ ▸ h280)
          have h286 : V278.heap[r1]? = some (.cells (#[.int .i64 0, .int .i64 0, .int .i64 0, .int .i64 0, .int .i64 0, .int .i64 0, .int .i64 0, .int .u64 0, .int .u64 0, .int .i64 0, .int .u64 0]) 24 (0, 0)) := (kV278.block r1 (lt_of_block h270) (fun e => Row.ne h273 h270 (by decide) e)).trans h270
          have h287 : V278.heap[r2]? = some (.cells (#[.int .i64 0, .int .i64 0]) 46 (0, 0)) := (kV278.block r2 (lt_of_block h271) (fun e => Row.ne h273 h271 (by decide) e)).trans h271
          have h288 : NB ≤ V278.heap.size := Nat.le_trans h272 kV278.size
          have h289 : RrAt V278 b rv l s1 := h274.keeps kV278 (fun e => by have := hnw _ e; omega) (fun j hj e => by have := hnw j e; have := hov j hj; omega)
          have K290 : Keeps Nob w V278 := K275.then kV278 (fun i hi hm => absurd hi (by have := hnw i hm; omega))
          have z291 := kV278.size
          refine pkq (v277) <| ps_end <| blk_n <| tr_ [0, 1, 2] <| pkq (iN i) <| ppq (iN (i + 1)) (exec_cast (congrArg (Value.int .i64) (wrapN (i + 1) (by omega))) (by kernel_rfl)) <| pkq (iN (i + 1)) <| et_ ?_
          refine ⟨⟨i + 1, vs ++ [((n : Nat) : Int)], sn, v277, (iN at_), (iN n), (iN i), (.bool true), (iN i), (iN (i + 1)), (pT b 0), (pT b 0), (pT b 1), (iN at_), (pT b 0), (.slice (some ⟨gl, 0, none⟩) 11 cl), (iN i), (pT gl i), (.int .i64 lo), (.slice (some ⟨gm, 0, none⟩) 11 cm), (iN i), (pT gm i), (.int .i64 hi), (iN n), (iN i), (.bool true), (.bool true), (iN n), (.slice (some ⟨gv, 0, none⟩) i capv), (pT gv 0), (.int .i64 u0), (.bool false), (.bool false), u39, u40, u41, (.slice (some ⟨gv, 0, none⟩) i capv), (iN n), (.slice (some ⟨lit, 0, none⟩) 1 1), v277, by kernel_rfl, by omega, by simp [hv], hpe, all_snoc hall hnn, h286, h287, (hsn ▸ h289), h288, h285, K290, hw284⟩, ?_⟩
          exact lt_meas (x := 11 - (i + 1)) (y := 11 - i) (by kernel_rfl) (by kernel_rfl) (by omega)
        · refine nrq (.int .i64 hi) (w' := V248) (ldc 3 gm i ((hcm i hi2).trans (by rw [hhi]))) ?_
          refine ⟨trivial, ?_⟩
          refine an_o 4 <| nrq (.int .i64 lo) (w' := V248) (ldc 3 gl i ((h255 i hi2).trans (by rw [hlo]))) ?_
          refine ⟨trivial, ?_⟩
          refine an_o 9 ?_
          refine ncq 60 #[pT b 0, .int .i64 lo, .int .i64 hi] Tryd.func60 ((rr_num h251 hlo hhi hn hs1).mono ?_)
          rintro e V292 ⟨rfl, hRV292, kV292⟩
          refine ⟨_, rfl, ?_⟩
          have h293 := kV292.bO h249
          have h294 := kV292.bO h250
          have h295 : NB ≤ V292.heap.size := Nat.le_trans h252 kV292.size
          have h296 : Row V292 3 1 (.slice (some ⟨gv, 0, none⟩) i capv) i (I vs) := h253.keeps kV292 (fun j hj e => by have := hnw j hj; unfold Own.One at e; omega)
          have K297 := K256.nO kV292
          have z298 := kV292.size
          refine ⟨trivial, ?_⟩
          refine an_o 10 <| nrq (iN n) (w' := V292) (by kernel_rfl) ?_
          refine ⟨trivial, ?_⟩
          refine an_end (by kernel_rfl) <| tq_ <| qr_ [0, 1, 2, 3, 4, 5, 6, 7, 8] <| pkq (iN i) <| ppq (.bool true) (eqt (((i : Nat) : Int)) ((1) : Int) (by omega)) <| pkq (.bool true) <| pkq (iN n) <| pkq (.slice (some ⟨gv, 0, none⟩) i capv) <| ppq (pT gv 0) (exec_indexAt_slice 55 (.tmp 34) (.const (.int .i64 0)) (by kernel_rfl) gv 0 i capv (by kernel_rfl) .i64 0 (by kernel_rfl) _ 1 Tryd.underlying55 (by kernel_rfl) (by omega)) <| ppq (.int .i64 u0) (ldc 3 gv 0 (row_cells h296 0 _ hu0)) <| ppq (.bool false) (dcf ((((n : Nat) : Int)) > ((u0) : Int)) (by omega)) <| pkq (.bool false) <| ps_end <| sy_a ⟨#[v0, ud, pT r1 0, pT r2 0, pT b 0, .slice (some ⟨gv, 0, none⟩) i capv, iN i, iN at_, iN n, ud, v0, pT b 0, iN i, .bool true, u14, u15, pT b 0, pT b 0, pT b 1, iN at_, pT b 0, .slice (some ⟨gl, 0, none⟩) 11 cl, iN i, pT gl i, .int .i64 lo, .slice (some ⟨gm, 0, none⟩) 11 cm, iN i, pT gm i, .int .i64 hi, iN n, iN i, .bool true, .bool true, iN n, .slice (some ⟨gv, 0, none⟩) i capv, pT gv 0, .int .i64 u0, .bool false, .bool false, u39, u40, u41, u42, u43, u44, u45, ud, ud, ud, ud, ud, ud, ud, ud, ud, ud], []⟩ ?_
          refine then_n <| n_ <| s_ <| tr_ [0, 1, 2, 3, 4] <| pkq (.slice (some ⟨gv, 0, none⟩) i capv) <| pkq (iN n) ?_
          obtain ⟨V299, eV299, lit, elit, h300, kV299⟩ := alloc_step V292 (#[.int .i64 ((n : Nat) : Int)]) 3
          have n301 : r1 < lit := elit ▸ lt_of_block h293
          have n302 : r2 < lit := elit ▸ lt_of_block h294
          have n303 : w.heap.size ≤ lit := elit ▸ K297.size
          refine prq (.slice (some ⟨lit, 0, none⟩) 1 1) (w' := V299) (by rw [← eV299, ← elit]; kernel_rfl) ?_
          have h304 := kV299.bk h293
          have h305 := kV299.bk h294
          have h306 : NB ≤ V299.heap.size := Nat.le_trans h295 kV299.size
          have h307 : Row V299 3 1 (.slice (some ⟨gv, 0, none⟩) i capv) i (I vs) := h296.keeps kV299 (fun _ _ x => x)
          have h308 : RrAt V299 b rv l s1 := hRV292.keeps kV299 (fun x => x) (fun _ _ x => x)
          have K309 := K297.nn kV299
          have z310 := kV299.size
          obtain ⟨v311, V312, hr313, h314, hg315, hn316, ha317⟩ := run_append_any (P := Tryd.prog) (w := V299) 55 (Oper.type (qo62_0 15655 3)) 3 i0 (.int .i64 0) 1 8 Tryd.underlying55 hi0 hz0 hz1 hz2 rfl (by decide) (.slice (some ⟨gv, 0, none⟩) i capv) i (I vs) h307 (.slice (some ⟨lit, 0, none⟩) 1 1) 1 ([.int .i64 ((n : Nat) : Int)]) (src_block h300 1 1 rfl (by simp [Value.oneCell'])) (by unfold maxLen; omega) (by omega)
          have kV312 : Keeps (fun j => (.slice (some ⟨gv, 0, none⟩) i capv : Value).ownBlock = some j) V299 V312 := Keeps.rowAdd hg315
          have hw318 : NewFrom NB v311 := hnw.next h306 ha317
          refine prq v311 (w' := V312) (exec_append (.tmp 42) (.tmp 44) 55 (by kernel_rfl) (.slice (some ⟨gv, 0, none⟩) i capv) (.slice (some ⟨lit, 0, none⟩) 1 1) (by kernel_rfl) (by kernel_rfl) hr313) ?_
          have h319 : Row V312 3 1 v311 (i + 1) (I (vs ++ [((n : Nat) : Int)])) := (I_snoc vs _ ▸ h314)
          have h320 : V312.heap[r1]? = some (.cells (#[.int .i64 0, .int .i64 0, .int .i64 0, .int .i64 0, .int .i64 0, .int .i64 0, .int .i64 0, .int .u64 0, .int .u64 0, .int .i64 0, .int .u64 0]) 24 (0, 0)) := (kV312.block r1 (lt_of_block h304) (fun e => Row.ne h307 h304 (by decide) e)).trans h304
          have h321 : V312.heap[r2]? = some (.cells (#[.int .i64 0, .int .i64 0]) 46 (0, 0)) := (kV312.block r2 (lt_of_block h305) (fun e => Row.ne h307 h305 (by decide) e)).trans h305
          have h322 : NB ≤ V312.heap.size := Nat.le_trans h306 kV312.size
          have h323 : RrAt V312 b rv l s1 := h308.keeps kV312 (fun e => by have := hnw _ e; omega) (fun j hj e => by have := hnw j e; have := hov j hj; omega)
          have K324 : Keeps Nob w V312 := K309.then kV312 (fun i hi hm => absurd hi (by have := hnw i hm; omega))
          have z325 := kV312.size
          refine pkq (v311) <| ps_end <| blk_n <| tr_ [0, 1, 2] <| pkq (iN i) <| ppq (iN (i + 1)) (exec_cast (congrArg (Value.int .i64) (wrapN (i + 1) (by omega))) (by kernel_rfl)) <| pkq (iN (i + 1)) <| et_ ?_
          refine ⟨⟨i + 1, vs ++ [((n : Nat) : Int)], sn, v311, (iN at_), (iN n), (iN i), (.bool true), (iN i), (iN (i + 1)), (pT b 0), (pT b 0), (pT b 1), (iN at_), (pT b 0), (.slice (some ⟨gl, 0, none⟩) 11 cl), (iN i), (pT gl i), (.int .i64 lo), (.slice (some ⟨gm, 0, none⟩) 11 cm), (iN i), (pT gm i), (.int .i64 hi), (iN n), (iN i), (.bool true), (.bool true), (iN n), (.slice (some ⟨gv, 0, none⟩) i capv), (pT gv 0), (.int .i64 u0), (.bool false), (.bool false), u39, u40, u41, (.slice (some ⟨gv, 0, none⟩) i capv), (iN n), (.slice (some ⟨lit, 0, none⟩) 1 1), v311, by kernel_rfl, by omega, by simp [hv], hpe, all_snoc hall hnn, h320, h321, (hsn ▸ h323), h322, h319, K324, hw318⟩, ?_⟩
          exact lt_meas (x := 11 - (i + 1)) (y := 11 - i) (by kernel_rfl) (by kernel_rfl) (by omega)
    · obtain ⟨at_, ea, hcb, hal, hat0, -⟩ := RrAt.ex h21
      obtain ⟨se, hse⟩ : ∃ x, s.err = x := ⟨_, rfl⟩
      rw [hse] at hcb
      obtain ⟨lo, hlo⟩ : ∃ x, parLo[i]?.getD 0 = x := ⟨_, rfl⟩
      obtain ⟨hi, hhi⟩ : ∃ x, parHi[i]?.getD 0 = x := ⟨_, rfl⟩
      have hnn := brn_in l i s
      obtain ⟨n, hn⟩ : ∃ x, brn l i s = x := ⟨_, rfl⟩
      obtain ⟨s1, hs1⟩ : ∃ x, (brd l i s).2 = x := ⟨_, rfl⟩
      rw [hn] at hnn
      obtain ⟨sn, hsn0⟩ : ∃ x, bst l vs i s = x := ⟨_, rfl⟩
      have hpe := bgo_step hi2 hv hp
      rw [hn, hsn0] at hpe
      have hsn : s1 = sn := by rw [← hsn0, bst_not (fun x => hi1 x.1), hs1]
      refine q_ <| qr_ [0, 1] <| pkq (iN i) <| ppq (.bool true) (dct ((((i : Nat) : Int)) < ((11) : Int)) (by omega)) <| ey_ <| s_ <| tq_ <| b_ 1 <| qr_ [0, 1, 2, 3, 4] <| pkq (pT b 0) <| pkq (pT b 0) <| pkq (pT b 1) <| ppq (iN at_) (ldk 3 b 1 hcb) <| pkq (iN at_) ?_
      refine eq_ <| sy_np <| sy_reg <| an_begin 7 11 (opsAt (qc62_0 7826)) (fun W => True) #[false, false, false, false, false, false, false, false, false, false, false] (by kernel_rfl) (by kernel_rfl) (by kernel_rfl) (by kernel_rfl) ?_
      obtain ⟨V326, eV326, kV326⟩ := drew_step V18
      rw [eV326]
      clear eV326
      have h327 := kV326.bk h19
      have h328 := kV326.bk h20
      have h329 : RrAt V326 b rv l s := h21.keeps kV326 (fun x => x) (fun _ _ x => x)
      have h330 : NB ≤ V326.heap.size := Nat.le_trans h22 kV326.size
      have h331 : Row V326 3 1 v i (I vs) := h23.keeps kV326 (fun _ _ x => x)
      have K333 := K24.nn kV326
      have z334 := kV326.size
      refine akq 0 (pT b 0) trivial <| akq 2 (iN i) trivial <| akq 6 (iN i) trivial <| an_o 1 ?_
      refine ncq 61 #[] Tryd.func61 ((least_is _).mono ?_)
      rintro e V335 ⟨gl, cl, rfl, hcl, kV335⟩
      refine ⟨_, rfl, ?_⟩
      have h336 := kV335.bk h327
      have h337 := kV335.bk h328
      have h338 : RrAt V335 b rv l s := h329.keeps kV335 (fun x => x) (fun _ _ x => x)
      have h339 : NB ≤ V335.heap.size := Nat.le_trans h330 kV335.size
      have h340 : Row V335 3 1 v i (I vs) := h331.keeps kV335 (fun _ _ x => x)
      have K342 := K333.nn kV335
      have z343 := kV335.size
      refine ⟨trivial, ?_⟩
      refine avq 3 (pT gl i) (fun W hS => exec_cast (v := pT gl (0 + i * 1)) (by simp) (exec_indexAt_slice 55 (.tmp 21) (.tmp 22) (by kernel_rfl) gl 0 11 cl (by kernel_rfl) .i64 i (by kernel_rfl) _ 1 Tryd.underlying55 (by kernel_rfl) (by omega))) trivial ?_
      refine an_two 4 5 (by kernel_rfl) ?_ ?_
      · refine nrq (.int .i64 lo) (w' := V335) (ldc 3 gl i ((hcl i hi2).trans (by rw [hlo]))) ?_
        refine ⟨trivial, ?_⟩
        refine an_o 5 ?_
        refine ncq 62 #[] Tryd.func62 ((most_is _).mono ?_)
        rintro e V344 ⟨gm, cm, rfl, hcm, kV344⟩
        refine ⟨_, rfl, ?_⟩
        have h345 := kV344.bk h336
        have h346 := kV344.bk h337
        have h347 : RrAt V344 b rv l s := h338.keeps kV344 (fun x => x) (fun _ _ x => x)
        have h348 : NB ≤ V344.heap.size := Nat.le_trans h339 kV344.size
        have h349 : Row V344 3 1 v i (I vs) := h340.keeps kV344 (fun _ _ x => x)
        have h351 : ∀ i : Nat, i < 11 → V344.cell? ⟨gl, i, none⟩ = some (.int .i64 (parLo[i]?.getD 0)) := cells_keep hcl kV344
        have K352 := K342.nn kV344
        have z353 := kV344.size
        refine ⟨trivial, ?_⟩
        refine avq 7 (pT gm i) (fun W hS => exec_cast (v := pT gm (0 + i * 1)) (by simp) (exec_indexAt_slice 55 (.tmp 25) (.tmp 26) (by kernel_rfl) gm 0 11 cm (by kernel_rfl) .i64 i (by kernel_rfl) _ 1 Tryd.underlying55 (by kernel_rfl) (by omega))) trivial <| an_o 8 <| nrq (.int .i64 hi) (w' := V344) (ldc 3 gm i ((hcm i hi2).trans (by rw [hhi]))) ?_
        refine ⟨trivial, ?_⟩
        refine an_o 9 ?_
        refine ncq 60 #[pT b 0, .int .i64 lo, .int .i64 hi] Tryd.func60 ((rr_num h347 hlo hhi hn hs1).mono ?_)
        rintro e V354 ⟨rfl, hRV354, kV354⟩
        refine ⟨_, rfl, ?_⟩
        have h355 := kV354.bO h345
        have h356 := kV354.bO h346
        have h357 : NB ≤ V354.heap.size := Nat.le_trans h348 kV354.size
        have h358 : Row V354 3 1 v i (I vs) := h349.keeps kV354 (fun j hj e => by have := hnw j hj; unfold Own.One at e; omega)
        have K359 := K352.nO kV354
        have z360 := kV354.size
        refine ⟨trivial, ?_⟩
        refine an_o 10 <| nrq (iN n) (w' := V354) (by kernel_rfl) ?_
        refine ⟨trivial, ?_⟩
        refine an_end (by kernel_rfl) <| tq_ <| qr_ [0, 1, 2, 3, 4, 5, 6, 7, 8] <| pkq (iN i) <| ppq (.bool false) (eqf (((i : Nat) : Int)) ((1) : Int) (by omega)) <| pkq (.bool false) <| pnq <| pnq <| pnq <| pnq <| pnq <| pkq (.bool false) <| ps_end <| sy_a ⟨#[v0, ud, pT r1 0, pT r2 0, pT b 0, v, iN i, iN at_, iN n, ud, v0, pT b 0, iN i, .bool true, u14, u15, pT b 0, pT b 0, pT b 1, iN at_, pT b 0, .slice (some ⟨gl, 0, none⟩) 11 cl, iN i, pT gl i, .int .i64 lo, .slice (some ⟨gm, 0, none⟩) 11 cm, iN i, pT gm i, .int .i64 hi, iN n, iN i, .bool false, .bool false, ud, ud, ud, ud, ud, .bool false, u39, u40, u41, u42, u43, u44, u45, ud, ud, ud, ud, ud, ud, ud, ud, ud, ud], []⟩ ?_
        refine then_n <| n_ <| s_ <| tr_ [0, 1, 2, 3, 4] <| pkq (v) <| pkq (iN n) ?_
        obtain ⟨V361, eV361, lit, elit, h362, kV361⟩ := alloc_step V354 (#[.int .i64 ((n : Nat) : Int)]) 3
        have n363 : r1 < lit := elit ▸ lt_of_block h355
        have n364 : r2 < lit := elit ▸ lt_of_block h356
        have n365 : w.heap.size ≤ lit := elit ▸ K359.size
        refine prq (.slice (some ⟨lit, 0, none⟩) 1 1) (w' := V361) (by rw [← eV361, ← elit]; kernel_rfl) ?_
        have h366 := kV361.bk h355
        have h367 := kV361.bk h356
        have h368 : NB ≤ V361.heap.size := Nat.le_trans h357 kV361.size
        have h369 : Row V361 3 1 v i (I vs) := h358.keeps kV361 (fun _ _ x => x)
        have h370 : RrAt V361 b rv l s1 := hRV354.keeps kV361 (fun x => x) (fun _ _ x => x)
        have K371 := K359.nn kV361
        have z372 := kV361.size
        obtain ⟨v373, V374, hr375, h376, hg377, hn378, ha379⟩ := run_append_any (P := Tryd.prog) (w := V361) 55 (Oper.type (qo62_0 15655 3)) 3 i0 (.int .i64 0) 1 8 Tryd.underlying55 hi0 hz0 hz1 hz2 rfl (by decide) v i (I vs) h369 (.slice (some ⟨lit, 0, none⟩) 1 1) 1 ([.int .i64 ((n : Nat) : Int)]) (src_block h362 1 1 rfl (by simp [Value.oneCell'])) (by unfold maxLen; omega) (by omega)
        have kV374 : Keeps (fun j => v.ownBlock = some j) V361 V374 := Keeps.rowAdd hg377
        have hw380 : NewFrom NB v373 := hnw.next h368 ha379
        refine prq v373 (w' := V374) (exec_append (.tmp 42) (.tmp 44) 55 (by kernel_rfl) v (.slice (some ⟨lit, 0, none⟩) 1 1) (by kernel_rfl) (by kernel_rfl) hr375) ?_
        have h381 : Row V374 3 1 v373 (i + 1) (I (vs ++ [((n : Nat) : Int)])) := (I_snoc vs _ ▸ h376)
        have h382 : V374.heap[r1]? = some (.cells (#[.int .i64 0, .int .i64 0, .int .i64 0, .int .i64 0, .int .i64 0, .int .i64 0, .int .i64 0, .int .u64 0, .int .u64 0, .int .i64 0, .int .u64 0]) 24 (0, 0)) := (kV374.block r1 (lt_of_block h366) (fun e => Row.ne h369 h366 (by decide) e)).trans h366
        have h383 : V374.heap[r2]? = some (.cells (#[.int .i64 0, .int .i64 0]) 46 (0, 0)) := (kV374.block r2 (lt_of_block h367) (fun e => Row.ne h369 h367 (by decide) e)).trans h367
        have h384 : NB ≤ V374.heap.size := Nat.le_trans h368 kV374.size
        have h385 : RrAt V374 b rv l s1 := h370.keeps kV374 (fun e => by have := hnw _ e; omega) (fun j hj e => by have := hnw j e; have := hov j hj; omega)
        have K386 : Keeps Nob w V374 := K371.then kV374 (fun i hi hm => absurd hi (by have := hnw i hm; omega))
        have z387 := kV374.size
        refine pkq (v373) <| ps_end <| blk_n <| tr_ [0, 1, 2] <| pkq (iN i) <| ppq (iN (i + 1)) (exec_cast (congrArg (Value.int .i64) (wrapN (i + 1) (by omega))) (by kernel_rfl)) <| pkq (iN (i + 1)) <| et_ ?_
        refine ⟨⟨i + 1, vs ++ [((n : Nat) : Int)], sn, v373, (iN at_), (iN n), (iN i), (.bool true), (iN i), (iN (i + 1)), (pT b 0), (pT b 0), (pT b 1), (iN at_), (pT b 0), (.slice (some ⟨gl, 0, none⟩) 11 cl), (iN i), (pT gl i), (.int .i64 lo), (.slice (some ⟨gm, 0, none⟩) 11 cm), (iN i), (pT gm i), (.int .i64 hi), (iN n), (iN i), (.bool false), (.bool false), undef, undef, undef, undef, undef, (.bool false), u39, u40, u41, v, (iN n), (.slice (some ⟨lit, 0, none⟩) 1 1), v373, by kernel_rfl, by omega, by simp [hv], hpe, all_snoc hall hnn, h382, h383, (hsn ▸ h385), h384, h381, K386, hw380⟩, ?_⟩
        exact lt_meas (x := 11 - (i + 1)) (y := 11 - i) (by kernel_rfl) (by kernel_rfl) (by omega)
      · refine ncq 62 #[] Tryd.func62 ((most_is _).mono ?_)
        rintro e V388 ⟨gm, cm, rfl, hcm, kV388⟩
        refine ⟨_, rfl, ?_⟩
        have h389 := kV388.bk h336
        have h390 := kV388.bk h337
        have h391 : RrAt V388 b rv l s := h338.keeps kV388 (fun x => x) (fun _ _ x => x)
        have h392 : NB ≤ V388.heap.size := Nat.le_trans h339 kV388.size
        have h393 : Row V388 3 1 v i (I vs) := h340.keeps kV388 (fun _ _ x => x)
        have h395 : ∀ i : Nat, i < 11 → V388.cell? ⟨gl, i, none⟩ = some (.int .i64 (parLo[i]?.getD 0)) := cells_keep hcl kV388
        have K396 := K342.nn kV388
        have z397 := kV388.size
        refine ⟨trivial, ?_⟩
        refine avq 7 (pT gm i) (fun W hS => exec_cast (v := pT gm (0 + i * 1)) (by simp) (exec_indexAt_slice 55 (.tmp 25) (.tmp 26) (by kernel_rfl) gm 0 11 cm (by kernel_rfl) .i64 i (by kernel_rfl) _ 1 Tryd.underlying55 (by kernel_rfl) (by omega))) trivial ?_
        refine an_two 4 8 (by kernel_rfl) ?_ ?_
        · refine nrq (.int .i64 lo) (w' := V388) (ldc 3 gl i ((h395 i hi2).trans (by rw [hlo]))) ?_
          refine ⟨trivial, ?_⟩
          refine an_o 8 <| nrq (.int .i64 hi) (w' := V388) (ldc 3 gm i ((hcm i hi2).trans (by rw [hhi]))) ?_
          refine ⟨trivial, ?_⟩
          refine an_o 9 ?_
          refine ncq 60 #[pT b 0, .int .i64 lo, .int .i64 hi] Tryd.func60 ((rr_num h391 hlo hhi hn hs1).mono ?_)
          rintro e V398 ⟨rfl, hRV398, kV398⟩
          refine ⟨_, rfl, ?_⟩
          have h399 := kV398.bO h389
          have h400 := kV398.bO h390
          have h401 : NB ≤ V398.heap.size := Nat.le_trans h392 kV398.size
          have h402 : Row V398 3 1 v i (I vs) := h393.keeps kV398 (fun j hj e => by have := hnw j hj; unfold Own.One at e; omega)
          have K403 := K396.nO kV398
          have z404 := kV398.size
          refine ⟨trivial, ?_⟩
          refine an_o 10 <| nrq (iN n) (w' := V398) (by kernel_rfl) ?_
          refine ⟨trivial, ?_⟩
          refine an_end (by kernel_rfl) <| tq_ <| qr_ [0, 1, 2, 3, 4, 5, 6, 7, 8] <| pkq (iN i) <| ppq (.bool false) (eqf (((i : Nat) : Int)) ((1) : Int) (by omega)) <| pkq (.bool false) <| pnq <| pnq <| pnq <| pnq <| pnq <| pkq (.bool false) <| ps_end <| sy_a ⟨#[v0, ud, pT r1 0, pT r2 0, pT b 0, v, iN i, iN at_, iN n, ud, v0, pT b 0, iN i, .bool true, u14, u15, pT b 0, pT b 0, pT b 1, iN at_, pT b 0, .slice (some ⟨gl, 0, none⟩) 11 cl, iN i, pT gl i, .int .i64 lo, .slice (some ⟨gm, 0, none⟩) 11 cm, iN i, pT gm i, .int .i64 hi, iN n, iN i, .bool false, .bool false, ud, ud, ud, ud, ud, .bool false, u39, u40, u41, u42, u43, u44, u45, ud, ud, ud, ud, ud, ud, ud, ud, ud, ud], []⟩ ?_
          refine then_n <| n_ <| s_ <| tr_ [0, 1, 2, 3, 4] <| pkq (v) <| pkq (iN n) ?_
          obtain ⟨V405, eV405, lit, elit, h406, kV405⟩ := alloc_step V398 (#[.int .i64 ((n : Nat) : Int)]) 3
          have n407 : r1 < lit := elit ▸ lt_of_block h399
          have n408 : r2 < lit := elit ▸ lt_of_block h400
          have n409 : w.heap.size ≤ lit := elit ▸ K403.size
          refine prq (.slice (some ⟨lit, 0, none⟩) 1 1) (w' := V405) (by rw [← eV405, ← elit]; kernel_rfl) ?_
          have h410 := kV405.bk h399
          have h411 := kV405.bk h400
          have h412 : NB ≤ V405.heap.size := Nat.le_trans h401 kV405.size
          have h413 : Row V405 3 1 v i (I vs) := h402.keeps kV405 (fun _ _ x => x)
          have h414 : RrAt V405 b rv l s1 := hRV398.keeps kV405 (fun x => x) (fun _ _ x => x)
          have K415 := K403.nn kV405
          have z416 := kV405.size
          obtain ⟨v417, V418, hr419, h420, hg421, hn422, ha423⟩ := run_append_any (P := Tryd.prog) (w := V405) 55 (Oper.type (qo62_0 15655 3)) 3 i0 (.int .i64 0) 1 8 Tryd.underlying55 hi0 hz0 hz1 hz2 rfl (by decide) v i (I vs) h413 (.slice (some ⟨lit, 0, none⟩) 1 1) 1 ([.int .i64 ((n : Nat) : Int)]) (src_block h406 1 1 rfl (by simp [Value.oneCell'])) (by unfold maxLen; omega) (by omega)
          have kV418 : Keeps (fun j => v.ownBlock = some j) V405 V418 := Keeps.rowAdd hg421
          have hw424 : NewFrom NB v417 := hnw.next h412 ha423
          refine prq v417 (w' := V418) (exec_append (.tmp 42) (.tmp 44) 55 (by kernel_rfl) v (.slice (some ⟨lit, 0, none⟩) 1 1) (by kernel_rfl) (by kernel_rfl) hr419) ?_
          have h425 : Row V418 3 1 v417 (i + 1) (I (vs ++ [((n : Nat) : Int)])) := (I_snoc vs _ ▸ h420)
          have h426 : V418.heap[r1]? = some (.cells (#[.int .i64 0, .int .i64 0, .int .i64 0, .int .i64 0, .int .i64 0, .int .i64 0, .int .i64 0, .int .u64 0, .int .u64 0, .int .i64 0, .int .u64 0]) 24 (0, 0)) := (kV418.block r1 (lt_of_block h410) (fun e => Row.ne h413 h410 (by decide) e)).trans h410
          have h427 : V418.heap[r2]? = some (.cells (#[.int .i64 0, .int .i64 0]) 46 (0, 0)) := (kV418.block r2 (lt_of_block h411) (fun e => Row.ne h413 h411 (by decide) e)).trans h411
          have h428 : NB ≤ V418.heap.size := Nat.le_trans h412 kV418.size
          have h429 : RrAt V418 b rv l s1 := h414.keeps kV418 (fun e => by have := hnw _ e; omega) (fun j hj e => by have := hnw j e; have := hov j hj; omega)
          have K430 : Keeps Nob w V418 := K415.then kV418 (fun i hi hm => absurd hi (by have := hnw i hm; omega))
          have z431 := kV418.size
          refine pkq (v417) <| ps_end <| blk_n <| tr_ [0, 1, 2] <| pkq (iN i) <| ppq (iN (i + 1)) (exec_cast (congrArg (Value.int .i64) (wrapN (i + 1) (by omega))) (by kernel_rfl)) <| pkq (iN (i + 1)) <| et_ ?_
          refine ⟨⟨i + 1, vs ++ [((n : Nat) : Int)], sn, v417, (iN at_), (iN n), (iN i), (.bool true), (iN i), (iN (i + 1)), (pT b 0), (pT b 0), (pT b 1), (iN at_), (pT b 0), (.slice (some ⟨gl, 0, none⟩) 11 cl), (iN i), (pT gl i), (.int .i64 lo), (.slice (some ⟨gm, 0, none⟩) 11 cm), (iN i), (pT gm i), (.int .i64 hi), (iN n), (iN i), (.bool false), (.bool false), undef, undef, undef, undef, undef, (.bool false), u39, u40, u41, v, (iN n), (.slice (some ⟨lit, 0, none⟩) 1 1), v417, by kernel_rfl, by omega, by simp [hv], hpe, all_snoc hall hnn, h426, h427, (hsn ▸ h429), h428, h425, K430, hw424⟩, ?_⟩
          exact lt_meas (x := 11 - (i + 1)) (y := 11 - i) (by kernel_rfl) (by kernel_rfl) (by omega)
        · refine nrq (.int .i64 hi) (w' := V388) (ldc 3 gm i ((hcm i hi2).trans (by rw [hhi]))) ?_
          refine ⟨trivial, ?_⟩
          refine an_o 4 <| nrq (.int .i64 lo) (w' := V388) (ldc 3 gl i ((h395 i hi2).trans (by rw [hlo]))) ?_
          refine ⟨trivial, ?_⟩
          refine an_o 9 ?_
          refine ncq 60 #[pT b 0, .int .i64 lo, .int .i64 hi] Tryd.func60 ((rr_num h391 hlo hhi hn hs1).mono ?_)
          rintro e V432 ⟨rfl, hRV432, kV432⟩
          refine ⟨_, rfl, ?_⟩
          have h433 := kV432.bO h389
          have h434 := kV432.bO h390
          have h435 : NB ≤ V432.heap.size := Nat.le_trans h392 kV432.size
          have h436 : Row V432 3 1 v i (I vs) := h393.keeps kV432 (fun j hj e => by have := hnw j hj; unfold Own.One at e; omega)
          have K437 := K396.nO kV432
          have z438 := kV432.size
          refine ⟨trivial, ?_⟩
          refine an_o 10 <| nrq (iN n) (w' := V432) (by kernel_rfl) ?_
          refine ⟨trivial, ?_⟩
          refine an_end (by kernel_rfl) <| tq_ <| qr_ [0, 1, 2, 3, 4, 5, 6, 7, 8] <| pkq (iN i) <| ppq (.bool false) (eqf (((i : Nat) : Int)) ((1) : Int) (by omega)) <| pkq (.bool false) <| pnq <| pnq <| pnq <| pnq <| pnq <| pkq (.bool false) <| ps_end <| sy_a ⟨#[v0, ud, pT r1 0, pT r2 0, pT b 0, v, iN i, iN at_, iN n, ud, v0, pT b 0, iN i, .bool true, u14, u15, pT b 0, pT b 0, pT b 1, iN at_, pT b 0, .slice (some ⟨gl, 0, none⟩) 11 cl, iN i, pT gl i, .int .i64 lo, .slice (some ⟨gm, 0, none⟩) 11 cm, iN i, pT gm i, .int .i64 hi, iN n, iN i, .bool false, .bool false, ud, ud, ud, ud, ud, .bool false, u39, u40, u41, u42, u43, u44, u45, ud, ud, ud, ud, ud, ud, ud, ud, ud, ud], []⟩ ?_
          refine then_n <| n_ <| s_ <| tr_ [0, 1, 2, 3, 4] <| pkq (v) <| pkq (iN n) ?_
          obtain ⟨V439, eV439, lit, elit, h440, kV439⟩ := alloc_step V432 (#[.int .i64 ((n : Nat) : Int)]) 3
          have n441 : r1 < lit := elit ▸ lt_of_block h433
          have n442 : r2 < lit := elit ▸ lt_of_block h434
          have n443 : w.heap.size ≤ lit := elit ▸ K437.size
          refine prq (.slice (some ⟨lit, 0, none⟩) 1 1) (w' := V439) (by rw [← eV439, ← elit]; kernel_rfl) ?_
          have h444 := kV439.bk h433
          have h445 := kV439.bk h434
          have h446 : NB ≤ V439.heap.size := Nat.le_trans h435 kV439.size
          have h447 : Row V439 3 1 v i (I vs) := h436.keeps kV439 (fun _ _ x => x)
          have h448 : RrAt V439 b rv l s1 := hRV432.keeps kV439 (fun x => x) (fun _ _ x => x)
          have K449 := K437.nn kV439
          have z450 := kV439.size
          obtain ⟨v451, V452, hr453, h454, hg455, hn456, ha457⟩ := run_append_any (P := Tryd.prog) (w := V439) 55 (Oper.type (qo62_0 15655 3)) 3 i0 (.int .i64 0) 1 8 Tryd.underlying55 hi0 hz0 hz1 hz2 rfl (by decide) v i (I vs) h447 (.slice (some ⟨lit, 0, none⟩) 1 1) 1 ([.int .i64 ((n : Nat) : Int)]) (src_block h440 1 1 rfl (by simp [Value.oneCell'])) (by unfold maxLen; omega) (by omega)
          have kV452 : Keeps (fun j => v.ownBlock = some j) V439 V452 := Keeps.rowAdd hg455
          have hw458 : NewFrom NB v451 := hnw.next h446 ha457
          refine prq v451 (w' := V452) (exec_append (.tmp 42) (.tmp 44) 55 (by kernel_rfl) v (.slice (some ⟨lit, 0, none⟩) 1 1) (by kernel_rfl) (by kernel_rfl) hr453) ?_
          have h459 : Row V452 3 1 v451 (i + 1) (I (vs ++ [((n : Nat) : Int)])) := (I_snoc vs _ ▸ h454)
          have h460 : V452.heap[r1]? = some (.cells (#[.int .i64 0, .int .i64 0, .int .i64 0, .int .i64 0, .int .i64 0, .int .i64 0, .int .i64 0, .int .u64 0, .int .u64 0, .int .i64 0, .int .u64 0]) 24 (0, 0)) := (kV452.block r1 (lt_of_block h444) (fun e => Row.ne h447 h444 (by decide) e)).trans h444
          have h461 : V452.heap[r2]? = some (.cells (#[.int .i64 0, .int .i64 0]) 46 (0, 0)) := (kV452.block r2 (lt_of_block h445) (fun e => Row.ne h447 h445 (by decide) e)).trans h445
          have h462 : NB ≤ V452.heap.size := Nat.le_trans h446 kV452.size
          have h463 : RrAt V452 b rv l s1 := h448.keeps kV452 (fun e => by have := hnw _ e; omega) (fun j hj e => by have := hnw j e; have := hov j hj; omega)
          have K464 : Keeps Nob w V452 := K449.then kV452 (fun i hi hm => absurd hi (by have := hnw i hm; omega))
          have z465 := kV452.size
          refine pkq (v451) <| ps_end <| blk_n <| tr_ [0, 1, 2] <| pkq (iN i) <| ppq (iN (i + 1)) (exec_cast (congrArg (Value.int .i64) (wrapN (i + 1) (by omega))) (by kernel_rfl)) <| pkq (iN (i + 1)) <| et_ ?_
          refine ⟨⟨i + 1, vs ++ [((n : Nat) : Int)], sn, v451, (iN at_), (iN n), (iN i), (.bool true), (iN i), (iN (i + 1)), (pT b 0), (pT b 0), (pT b 1), (iN at_), (pT b 0), (.slice (some ⟨gl, 0, none⟩) 11 cl), (iN i), (pT gl i), (.int .i64 lo), (.slice (some ⟨gm, 0, none⟩) 11 cm), (iN i), (pT gm i), (.int .i64 hi), (iN n), (iN i), (.bool false), (.bool false), undef, undef, undef, undef, undef, (.bool false), u39, u40, u41, v, (iN n), (.slice (some ⟨lit, 0, none⟩) 1 1), v451, by kernel_rfl, by omega, by simp [hv], hpe, all_snoc hall hnn, h460, h461, (hsn ▸ h463), h462, h459, K464, hw458⟩, ?_⟩
          exact lt_meas (x := 11 - (i + 1)) (y := 11 - i) (by kernel_rfl) (by kernel_rfl) (by omega)
    · have hres := bread_ok eq_i hp hfin
      have hfp0 := fin_snd hfin
      obtain ⟨fe, hfe⟩ : ∃ x, (s.fin l).1 = x := ⟨_, rfl⟩
      obtain ⟨fp, hfp⟩ : ∃ x, (s.fin l).2 = x := ⟨_, rfl⟩
      rw [hfe] at hfin
      rw [hfp] at hfp0
      skip
      refine q_ <| qr_ [0, 1] <| pkq (iN i) <| ppq (.bool false) (dcf ((((i : Nat) : Int)) < ((11) : Int)) (by omega)) <| en_ <| sy_exit 0 (by kernel_rfl) <| then_e <| then_e <| blk_e <| tqr_ [0, 1, 2, 3] <| pkq (pT b 0) ?_
      refine pcq 64 #[pT b 0] Tryd.func64 ((rr_end h21 hfe hfp).mono ?_)
      rintro e V466 ⟨rfl, kV466⟩
      refine ⟨_, rfl, ?_⟩
      have h467 := kV466.bk h19
      have h468 := kV466.bk h20
      have h469 : NB ≤ V466.heap.size := Nat.le_trans h22 kV466.size
      have h470 : Row V466 3 1 v i (I vs) := h23.keeps kV466 (fun _ _ x => x)
      have K471 := K24.nn kV466
      have z472 := kV466.size
      refine pal 46 (#[.int .i64 0, .int .i64 0]) (.agg (#[.int .i64 0, .int .i64 0])) fun V473 gE egE h474 kV473 => ?_
      have n475 : r1 < gE := egE ▸ lt_of_block h467
      have n476 : r2 < gE := egE ▸ lt_of_block h468
      have n477 : w.heap.size ≤ gE := egE ▸ K471.size
      have h478 := kV473.bk h467
      have h479 := kV473.bk h468
      have h480 : NB ≤ V473.heap.size := Nat.le_trans h469 kV473.size
      have h481 : Row V473 3 1 v i (I vs) := h470.keeps kV473 (fun _ _ x => x)
      have K482 := K471.nn kV473
      have z483 := kV473.size
      refine pst 46 gE (#[.int .i64 fe, .int .i64 fp]) h474 (by kernel_rfl) rfl (by kernel_rfl) fun V484 h485 kV484 => ?_
      have h486 := kV484.bO h478
      have h487 := kV484.bO h479
      have h488 : NB ≤ V484.heap.size := Nat.le_trans h480 kV484.size
      have h489 : Row V484 3 1 v i (I vs) := h481.keeps kV484 (fun j hj e => Row.ne h481 h474 (by decide) ((show j = gE from e) ▸ hj))
      have K490 := K482.nO kV484
      have z491 := kV484.size
      refine eq_ <| qr_ [0, 1, 2] <| pkq (pT gE 0) <| ppq (.int .i64 fe) (ldk 26 gE 0 h485) <| ppq (.bool false) (nqf ((fe) : Int) ((0) : Int) (by omega)) <| en_ <| s_ <| tq_ <| sy_np <| sy_reg <| an_begin 14 5 (opsAt (qc62_0 254)) (fun W => (W.heap[gE]? = some (.cells (#[.int .i64 fe, .int .i64 fp]) 46 (0, 0)))) #[false, false, false, false, false] (by kernel_rfl) (by kernel_rfl) (by kernel_rfl) (by kernel_rfl) ?_
      obtain ⟨V492, eV492, kV492⟩ := drew_step V484
      rw [eV492]
      clear eV492
      have h493 := kV492.bk h486
      have h494 := kV492.bk h487
      have h495 : NB ≤ V492.heap.size := Nat.le_trans h488 kV492.size
      have h496 : Row V492 3 1 v i (I vs) := h489.keeps kV492 (fun _ _ x => x)
      have h497 := kV492.bk h485
      have K498 := K490.nn kV492
      have z499 := kV492.size
      refine akq 0 (v) h497 <| avq 2 (.agg #[.int .i64 fe, .int .i64 fp]) (fun W hS => ldr 46 gE (hS) (by kernel_rfl)) h497 <| an_o 1 ?_
      refine ncq 41 #[v] Tryd.func41 ((kRecord_row v vs _ (by omega) (eq_i ▸ h496) (fun n hn => by have := hall n hn; omega)).mono ?_)
      rintro e V500 ⟨rfl, kV500⟩
      refine ⟨_, rfl, ?_⟩
      have h501 := kV500.bk h493
      have h502 := kV500.bk h494
      have h503 : NB ≤ V500.heap.size := Nat.le_trans h495 kV500.size
      have h505 := kV500.bk h497
      have K506 := K498.nn kV500
      have z507 := kV500.size
      refine ⟨h505, ?_⟩
      refine an_o 3 <| nst 24 r1 ((parOfL vs).cells) h501 (by kernel_rfl) rfl (by kernel_rfl) fun V508 h509 kV508 => ?_
      have h510 := kV508.bO h502
      have h511 : NB ≤ V508.heap.size := Nat.le_trans h503 kV508.size
      have h513 := kV508.bO h505
      have K514 := K506.nO kV508
      have z515 := kV508.size
      refine ⟨h513, ?_⟩
      refine an_o 4 <| nst 46 r2 (#[.int .i64 fe, .int .i64 fp]) h510 (by kernel_rfl) rfl (by kernel_rfl) fun V516 h517 kV516 => ?_
      have h518 : NB ≤ V516.heap.size := Nat.le_trans h511 kV516.size
      have h520 := kV516.bO h513
      have h521 := kV516.bO h509
      have K522 := K514.nO kV516
      have z523 := kV516.size
      refine ⟨h520, ?_⟩
      refine an_end (by kernel_rfl) <| then_n <| u_ <| sy_out (.tuple #[.agg ((parOfL vs).cells), .agg #[.int .i64 fe, .int .i64 fp]]) rfl (results_rows2 (p := 2) (q := 3) (ty := 24) (tz := 46) (by kernel_rfl) _ _ r1 r2 24 46 ((parOfL vs).cells) (#[.int .i64 fe, .int .i64 fp]) (0, 0) (0, 0) _ _ (by kernel_rfl) h521 Tryd.underlying24 rfl (by kernel_rfl) (by kernel_rfl) h517 Tryd.underlying46 rfl (by kernel_rfl)) ?_
      exact ⟨by rw [hres, hfin, hfp0], K522⟩
    · have hres := bread_no eq_i hp hfin
      obtain ⟨fe, hfe⟩ : ∃ x, (s.fin l).1 = x := ⟨_, rfl⟩
      obtain ⟨fp, hfp⟩ : ∃ x, (s.fin l).2 = x := ⟨_, rfl⟩
      rw [hfe, hfp] at hres
      rw [hfe] at hfin
      skip
      refine q_ <| qr_ [0, 1] <| pkq (iN i) <| ppq (.bool false) (dcf ((((i : Nat) : Int)) < ((11) : Int)) (by omega)) <| en_ <| sy_exit 0 (by kernel_rfl) <| then_e <| then_e <| blk_e <| tqr_ [0, 1, 2, 3] <| pkq (pT b 0) ?_
      refine pcq 64 #[pT b 0] Tryd.func64 ((rr_end h21 hfe hfp).mono ?_)
      rintro e V524 ⟨rfl, kV524⟩
      refine ⟨_, rfl, ?_⟩
      have h525 := kV524.bk h19
      have h526 := kV524.bk h20
      have h527 : NB ≤ V524.heap.size := Nat.le_trans h22 kV524.size
      have K529 := K24.nn kV524
      have z530 := kV524.size
      refine pal 46 (#[.int .i64 0, .int .i64 0]) (.agg (#[.int .i64 0, .int .i64 0])) fun V531 gE egE h532 kV531 => ?_
      have n533 : r1 < gE := egE ▸ lt_of_block h525
      have n534 : r2 < gE := egE ▸ lt_of_block h526
      have n535 : w.heap.size ≤ gE := egE ▸ K529.size
      have h536 := kV531.bk h525
      have h537 := kV531.bk h526
      have h538 : NB ≤ V531.heap.size := Nat.le_trans h527 kV531.size
      have K540 := K529.nn kV531
      have z541 := kV531.size
      refine pst 46 gE (#[.int .i64 fe, .int .i64 fp]) h532 (by kernel_rfl) rfl (by kernel_rfl) fun V542 h543 kV542 => ?_
      have h544 := kV542.bO h536
      have h545 := kV542.bO h537
      have h546 : NB ≤ V542.heap.size := Nat.le_trans h538 kV542.size
      have K548 := K540.nO kV542
      have z549 := kV542.size
      refine eq_ <| qr_ [0, 1, 2] <| pkq (pT gE 0) <| ppq (.int .i64 fe) (ldk 26 gE 0 h543) <| ppq (.bool true) (nqt ((fe) : Int) ((0) : Int) (by omega)) <| ey_ <| q_ <| sy_np <| sy_reg <| an_begin 13 4 (opsAt (qc62_0 1012)) (fun W => (W.heap[gE]? = some (.cells (#[.int .i64 fe, .int .i64 fp]) 46 (0, 0)))) #[false, false, false, false] (by kernel_rfl) (by kernel_rfl) (by kernel_rfl) (by kernel_rfl) ?_
      obtain ⟨V550, eV550, kV550⟩ := drew_step V542
      rw [eV550]
      clear eV550
      have h551 := kV550.bk h544
      have h552 := kV550.bk h545
      have h553 : NB ≤ V550.heap.size := Nat.le_trans h546 kV550.size
      have h555 := kV550.bk h543
      have K556 := K548.nn kV550
      have z557 := kV550.size
      refine akq 0 (.agg parZ.cells) h555 <| avq 1 (.agg #[.int .i64 fe, .int .i64 fp]) (fun W hS => ldr 46 gE (hS) (by kernel_rfl)) h555 <| an_o 2 <| nst 24 r1 parZ.cells h551 (by kernel_rfl) rfl (by kernel_rfl) fun V558 h559 kV558 => ?_
      have h560 := kV558.bO h552
      have h561 : NB ≤ V558.heap.size := Nat.le_trans h553 kV558.size
      have h563 := kV558.bO h555
      have K564 := K556.nO kV558
      have z565 := kV558.size
      refine ⟨h563, ?_⟩
      refine an_o 3 <| nst 46 r2 (#[.int .i64 fe, .int .i64 fp]) h560 (by kernel_rfl) rfl (by kernel_rfl) fun V566 h567 kV566 => ?_
      have h568 : NB ≤ V566.heap.size := Nat.le_trans h561 kV566.size
      have h570 := kV566.bO h563
      have h571 := kV566.bO h559
      have K572 := K564.nO kV566
      have z573 := kV566.size
      refine ⟨h570, ?_⟩
      refine an_end (by kernel_rfl) <| then_n <| u_ <| then_r <| sy_out (.tuple #[.agg (parZ.cells), .agg #[.int .i64 fe, .int .i64 fp]]) rfl (results_rows2 (p := 2) (q := 3) (ty := 24) (tz := 46) (by kernel_rfl) _ _ r1 r2 24 46 (parZ.cells) (#[.int .i64 fe, .int .i64 fp]) (0, 0) (0, 0) _ _ (by kernel_rfl) h571 Tryd.underlying24 rfl (by kernel_rfl) (by kernel_rfl) h567 Tryd.underlying46 rfl (by kernel_rfl)) ?_
      exact ⟨by rw [hres], K572⟩
end Go.Proofs.YtpflmldmbpnllaaDoor
namespace Go.Proofs.YtpflmldmbpnllaaDoor
set_option maxRecDepth 100000
set_option maxHeartbeats 4000000
open Go Go.RowKit Go.Own Go.Shelf
theorem pow_of {l : List (String × DataW Unit)} {W : World} (h : laidMet Tryd.prog l W) (hm : ("internal/strconv.uint64pow10", Lib.tabData .u64 Lib.pow10Tab) ∈ l) : PowTab W := by
  obtain ⟨g, t, cs, fuel, p, hg, ht, hv, hd⟩ := Lib.laidMet.reads h hm
  have h1 : (do let g ← Tryd.prog.globalNamed "internal/strconv.uint64pow10"; let v ← Tryd.prog.globals[g]?; Tryd.prog.underlying v.type) = some (.array 20 22) := by kernel_rfl
  have h2 : (do let g ← Tryd.prog.globalNamed "internal/strconv.uint64pow10"; let v ← Tryd.prog.globals[g]?; some (Tryd.prog.cellsOf v.type)) = some 20 := by kernel_rfl
  have h3 : Tryd.prog.cellsOf 22 = 1 := by kernel_rfl
  cases hx : Tryd.prog.globals[g]? with
  | none => rw [hx] at ht; cases ht
  | some v =>
    rw [hx] at ht
    simp only [Option.map_some, Option.some.injEq] at ht
    simp only [hg, hx, Option.bind_eq_bind, Option.bind_some, Option.some.injEq] at h1 h2
    rw [ht] at h1 h2
    unfold PowTab Lib.TabIs
    rw [hv, ← Lib.cells_of_tab h1 Tryd.underlying22 h3 h2 hd]
end Go.Proofs.YtpflmldmbpnllaaDoor
namespace Go.Proofs.YtpflmldmbpnllaaDoor
set_option maxRecDepth 100000
set_option maxHeartbeats 4000000
open Go Go.RowKit Go.Own Go.Shelf
theorem pfault_guard : Tryd.prog.eqGuardType Tryd.prog.depth 46 = false := by kernel_rfl
theorem pfault_equal (e p e' p' : Int) (w : World) : (Op.equalIn 10000 46 (.agg #[.int .i64 e, .int .i64 p]) (.agg #[.int .i64 e', .int .i64 p'])).run Tryd.prog w = .ok (decide (e = e' ∧ p = p')) w := by
  rw [run_equalIn_struct w 9999 46 _ _ (by kernel_rfl) (by kernel_rfl)]
  simp only [Program.fieldsOf, Tryd.underlying46]
  rw [feq_int (d := 9998) (k := .i64) (a := e) (b := e') w (by decide) Tryd.underlying26 (by kernel_rfl) rfl rfl, feq_int (d := 9998) (k := .i64) (a := p) (b := p') w (by decide) Tryd.underlying3 (by kernel_rfl) rfl rfl]
  simp only [Op.eqFields, Sem.run_pure]
  by_cases h : e = e' <;> by_cases h2 : p = p' <;> simp [h, h2]
theorem pfault_eq (e p e' p' : Int) (w : World) : (binOp .eql 46 (.agg #[.int .i64 e, .int .i64 p]) (.agg #[.int .i64 e', .int .i64 p'])).run Tryd.prog w = .ok (.bool (decide (e = e' ∧ p = p'))) w := by
  rw [run_eql_struct, pfault_equal]; rfl
theorem plen_bytes {P : Program} {o : Oper} {ρ : Operand → Value} {w w0 : World} (x : Operand) (t e : TypeId) (ho : o.op = .call { callee := .builtin .len, args := #[x], argTypes := #[t] }) (ht : P.underlying t = some (.slice e)) {v : Value} (hx : ρ x = v) {l : List UInt8} (hv : BytesAt w0 v l) :
    (execOp ρ o).run P w = .ok (.value (.int .i64 (l.length : Int))) w := by
  obtain ⟨A, cap, rfl, _⟩ := hv.form
  exact exec_len x t e ho ht A l.length cap hx
theorem str_same (a : ByteArray) (w : World) : (binOp .neq 9 (.string a) (.string a)).run Tryd.prog w = .ok (.bool false) w := by rw [str_neq]; simp
theorem bytes_same {w : World} {a b : Value} {l m : List UInt8} (ha : BytesAt w a l) (hb : BytesAt w b m) (he : l = m) : Calls Tryd.prog 25 #[a, b] w fun e w' => e = .returned (.bool true) ∧ w = w' := by
  have := sameBytes_ok a b l m w ha hb
  rwa [show (l == m) = true by simpa using he] at this
noncomputable def qc64_0 (n : Nat) : Code := partOf Tryd.f4 n
theorem forms_text (p : Par) (s : List UInt8) (v : Value) (l : List UInt8) (w : World) (hp : p.Ok) (hx : BytesAt w v l) (hs : 400 < s.length) (htab : PowTab w) :
    Calls Tryd.prog 4 #[.agg p.cells, .string ⟨s.toArray⟩, v] w (fun e w' => e = .returned (.bool true) ∧ Keeps Nob w w') := by
  have K0 : Keeps Nob w w := Keeps.refl _ _
  refine sy_enter (qc64_0 1) ⟨#[.agg p.cells, .string ⟨s.toArray⟩, v, ud, ud, ud, ud, ud, ud, ud, ud, ud, ud, ud, ud, ud, ud, ud, ud, ud, ud, ud, ud, ud, ud, ud, ud, ud, ud, ud, ud, ud, ud, ud, ud, ud, ud, ud, ud, ud, ud, ud, ud, ud, ud, ud, ud, ud, ud, ud, ud, ud, ud, ud, ud, ud, ud, ud, ud, ud, ud, ud, ud, ud, ud, ud, ud, ud, ud, ud, ud, ud, ud, ud, ud, ud, ud, ud, ud, ud, ud, ud, ud, ud, ud, ud, ud, ud, ud, ud, ud, ud, ud, ud, ud, ud, ud, ud, ud, ud, ud, ud, ud, ud, ud, ud, ud, ud, ud, ud, ud, ud, ud, ud, ud, ud, ud, ud, ud, ud], []⟩ Tryd.func4 (by kernel_rfl) (by kernel_rfl) <| qr_ [0, 1] <| pbx 24 p.cells (.agg p.cells) fun V1 gp egp h2 kV1 => ?_
  have n3 : w.heap.size ≤ gp := egp ▸ K0.size
  have K4 := K0.nn kV1
  have z5 := kV1.size
  refine pkq (.bool false) <| eq_ <| qr_ [0, 1, 2, 3, 4, 5, 6, 7] <| pkq (.string ⟨s.toArray⟩) <| ppq (iN s.length) (exec_cast (congrArg (Value.int .i64) (by simp [ByteArray.size])) (exec_len_str (.tmp 24) 9 (by kernel_rfl) Tryd.underlying9 ⟨s.toArray⟩ (by kernel_rfl))) <| ppq (.bool true) (dct ((((s.length : Nat) : Int)) > ((400) : Int)) (by omega)) <| pkq (.bool true) <| pnq <| pnq <| pnq <| pkq (.bool true) <| ey_ <| qr_ [0, 1] ?_
  refine pcq 8 #[] Tryd.func8 ((lpawake_ok _ (PowTab.keeps htab K4)).mono ?_)
  rintro e V6 ⟨rfl, kV6⟩
  refine ⟨_, rfl, ?_⟩
  have K8 := K4.nn kV6
  have z9 := kV6.size
  refine pkq (.bool true) <| eu_ <| then_r <| so_ (.bool true) ?_
  exact ⟨rfl, K8⟩
theorem forms_bytes (p : Par) (s : List UInt8) (v : Value) (l : List UInt8) (w : World) (hp : p.Ok) (hx : BytesAt w v l) (hs : ¬ 400 < s.length) (hb : 100 < l.length) (htab : PowTab w) :
    Calls Tryd.prog 4 #[.agg p.cells, .string ⟨s.toArray⟩, v] w (fun e w' => e = .returned (.bool true) ∧ Keeps Nob w w') := by
  have K0 : Keeps Nob w w := Keeps.refl _ _
  refine sy_enter (qc64_0 1) ⟨#[.agg p.cells, .string ⟨s.toArray⟩, v, ud, ud, ud, ud, ud, ud, ud, ud, ud, ud, ud, ud, ud, ud, ud, ud, ud, ud, ud, ud, ud, ud, ud, ud, ud, ud, ud, ud, ud, ud, ud, ud, ud, ud, ud, ud, ud, ud, ud, ud, ud, ud, ud, ud, ud, ud, ud, ud, ud, ud, ud, ud, ud, ud, ud, ud, ud, ud, ud, ud, ud, ud, ud, ud, ud, ud, ud, ud, ud, ud, ud, ud, ud, ud, ud, ud, ud, ud, ud, ud, ud, ud, ud, ud, ud, ud, ud, ud, ud, ud, ud, ud, ud, ud, ud, ud, ud, ud, ud, ud, ud, ud, ud, ud, ud, ud, ud, ud, ud, ud, ud, ud, ud, ud, ud, ud, ud], []⟩ Tryd.func4 (by kernel_rfl) (by kernel_rfl) <| qr_ [0, 1] <| pbx 24 p.cells (.agg p.cells) fun V1 gp egp h2 kV1 => ?_
  have n3 : w.heap.size ≤ gp := egp ▸ K0.size
  have K4 := K0.nn kV1
  have z5 := kV1.size
  refine pkq (.bool false) <| eq_ <| qr_ [0, 1, 2, 3, 4, 5, 6, 7] <| pkq (.string ⟨s.toArray⟩) <| ppq (iN s.length) (exec_cast (congrArg (Value.int .i64) (by simp [ByteArray.size])) (exec_len_str (.tmp 24) 9 (by kernel_rfl) Tryd.underlying9 ⟨s.toArray⟩ (by kernel_rfl))) <| ppq (.bool false) (dcf ((((s.length : Nat) : Int)) > ((400) : Int)) (by omega)) <| pkq (.bool false) <| pkq (v) <| ppq (iN l.length) (plen_bytes (.tmp 28) 39 5 (by kernel_rfl) Tryd.underlying39 (by kernel_rfl) hx) <| ppq (.bool true) (dct ((((l.length : Nat) : Int)) > ((100) : Int)) (by omega)) <| pkq (.bool true) <| ey_ <| qr_ [0, 1] ?_
  refine pcq 8 #[] Tryd.func8 ((lpawake_ok _ (PowTab.keeps htab K4)).mono ?_)
  rintro e V6 ⟨rfl, kV6⟩
  refine ⟨_, rfl, ?_⟩
  have K8 := K4.nn kV6
  have z9 := kV6.size
  refine pkq (.bool true) <| eu_ <| then_r <| so_ (.bool true) ?_
  exact ⟨rfl, K8⟩
theorem forms_main (p : Par) (s : List UInt8) (v : Value) (l : List UInt8) (w : World) (hp : p.Ok) (hx : BytesAt w v l) (hs : ¬ 400 < s.length) (hb : ¬ 100 < l.length) (htab : PowTab w) :
    Calls Tryd.prog 4 #[.agg p.cells, .string ⟨s.toArray⟩, v] w (fun e w' => e = .returned (.bool true) ∧ Keeps Nob w w') := by
  obtain ⟨xt, hxt⟩ : ∃ x, xtold p = x := ⟨_, rfl⟩
  obtain ⟨bt, hbt⟩ : ∃ x, ptold p = x := ⟨_, rfl⟩
  obtain ⟨pp, hpp⟩ : ∃ x, pparse s = x := ⟨_, rfl⟩
  obtain ⟨rd, hrd⟩ : ∃ x, pbread l = x := ⟨_, rfl⟩
  have hsl : s.length ≤ 100000000 := by omega
  have K0 : Keeps Nob w w := Keeps.refl _ _
  refine sy_enter (qc64_0 1) ⟨#[.agg p.cells, .string ⟨s.toArray⟩, v, ud, ud, ud, ud, ud, ud, ud, ud, ud, ud, ud, ud, ud, ud, ud, ud, ud, ud, ud, ud, ud, ud, ud, ud, ud, ud, ud, ud, ud, ud, ud, ud, ud, ud, ud, ud, ud, ud, ud, ud, ud, ud, ud, ud, ud, ud, ud, ud, ud, ud, ud, ud, ud, ud, ud, ud, ud, ud, ud, ud, ud, ud, ud, ud, ud, ud, ud, ud, ud, ud, ud, ud, ud, ud, ud, ud, ud, ud, ud, ud, ud, ud, ud, ud, ud, ud, ud, ud, ud, ud, ud, ud, ud, ud, ud, ud, ud, ud, ud, ud, ud, ud, ud, ud, ud, ud, ud, ud, ud, ud, ud, ud, ud, ud, ud, ud, ud], []⟩ Tryd.func4 (by kernel_rfl) (by kernel_rfl) <| qr_ [0, 1] <| pbx 24 p.cells (.agg p.cells) fun V1 gp egp h2 kV1 => ?_
  have n3 : w.heap.size ≤ gp := egp ▸ K0.size
  have K4 := K0.nn kV1
  have z5 := kV1.size
  refine pkq (.bool false) <| eq_ <| qr_ [0, 1, 2, 3, 4, 5, 6, 7] <| pkq (.string ⟨s.toArray⟩) <| ppq (iN s.length) (exec_cast (congrArg (Value.int .i64) (by simp [ByteArray.size])) (exec_len_str (.tmp 24) 9 (by kernel_rfl) Tryd.underlying9 ⟨s.toArray⟩ (by kernel_rfl))) <| ppq (.bool false) (dcf ((((s.length : Nat) : Int)) > ((400) : Int)) (by omega)) <| pkq (.bool false) <| pkq (v) <| ppq (iN l.length) (plen_bytes (.tmp 28) 39 5 (by kernel_rfl) Tryd.underlying39 (by kernel_rfl) hx) <| ppq (.bool false) (dcf ((((l.length : Nat) : Int)) > ((100) : Int)) (by omega)) <| pkq (.bool false) <| en_ <| s_ <| tqr_ [0, 1, 2, 3, 4, 5, 6] ?_
  refine ppq (.agg (p.cells)) (ldr 24 gp (h2) (by kernel_rfl)) ?_
  refine pcq 21 #[.agg (p.cells)] Tryd.func21 ((hxt ▸ pText_all p _ hp (PowTab.keeps htab K4)).mono ?_)
  rintro e V6 ⟨rfl, kV6⟩
  refine ⟨_, rfl, ?_⟩
  have h7 := kV6.bk h2
  have K8 := K4.nn kV6
  have z9 := kV6.size
  refine pkq (.tuple #[.string xt.1, .int .i64 xt.2]) <| pkq (.string xt.1) <| pkq (.int .i64 xt.2) <| pkq (.string xt.1) <| pkq (.int .i64 xt.2) <| eqr_ [0, 1, 2, 3, 4, 5, 6] <| ppq (.agg (p.cells)) (ldr 24 gp (h7) (by kernel_rfl)) ?_
  refine pcq 22 #[.agg (p.cells)] Tryd.func22 ((hxt ▸ r7Text_all p _ hp).mono ?_)
  rintro e V10 ⟨rfl, kV10⟩
  refine ⟨_, rfl, ?_⟩
  have h11 := kV10.bk h7
  have K12 := K8.nn kV10
  have z13 := kV10.size
  refine pkq (.tuple #[.string xt.1, .int .i64 xt.2]) <| pkq (.string xt.1) <| pkq (.int .i64 xt.2) <| pkq (.string xt.1) <| pkq (.int .i64 xt.2) <| ps_end <| sy_a ⟨#[.agg p.cells, .string ⟨s.toArray⟩, v, pT gp 0, ud, ud, .bool false, .string xt.1, .int .i64 xt.2, .string xt.1, .int .i64 xt.2, ud, ud, ud, ud, ud, ud, ud, ud, ud, ud, ud, ud, ud, .string ⟨s.toArray⟩, iN s.length, .bool false, .bool false, v, iN l.length, .bool false, .bool false, ud, .tuple #[.string xt.1, .int .i64 xt.2], .agg (p.cells), .tuple #[.string xt.1, .int .i64 xt.2], .string xt.1, .int .i64 xt.2, .tuple #[.string xt.1, .int .i64 xt.2], .agg (p.cells), .tuple #[.string xt.1, .int .i64 xt.2], .string xt.1, .int .i64 xt.2, ud, ud, ud, ud, ud, ud, ud, ud, ud, ud, ud, ud, ud, ud, ud, ud, ud, ud, ud, ud, ud, ud, ud, ud, ud, ud, ud, ud, ud, ud, ud, ud, ud, ud, ud, ud, ud, ud, ud, ud, ud, ud, ud, ud, ud, ud, ud, ud, ud, ud, ud, ud, ud, ud, ud, ud, ud, ud, ud, ud, ud, ud, ud, ud, ud, ud, ud, ud, ud, ud, ud, ud, ud, ud, ud, ud, ud], []⟩ <| tqr_ [0, 1, 2, 3, 4, 5, 6] <| ppq (.agg (p.cells)) (ldr 24 gp (h11) (by kernel_rfl)) ?_
  refine pcq 23 #[.agg (p.cells)] Tryd.func23 ((hbt ▸ pBytes_all p _ hp).mono ?_)
  rintro e V14 ⟨X, rfl, hX, -, kV14⟩
  refine ⟨_, rfl, ?_⟩
  have h15 := kV14.bk h11
  have K16 := K12.nn kV14
  have z17 := kV14.size
  refine pkq (.tuple #[X, .int .i64 bt.2]) <| pkq (X) <| pkq (.int .i64 bt.2) <| pkq (X) <| pkq (.int .i64 bt.2) <| eqr_ [0, 1, 2, 3, 4, 5, 6] <| ppq (.agg (p.cells)) (ldr 24 gp (h15) (by kernel_rfl)) ?_
  refine pcq 24 #[.agg (p.cells)] Tryd.func24 ((hbt ▸ r7Bytes_all p _ hp).mono ?_)
  rintro e V18 ⟨Y, rfl, hY, -, kV18⟩
  refine ⟨_, rfl, ?_⟩
  have h19 := kV18.bk h15
  have h20 : Row V18 5 1 X bt.1.length (B bt.1) := hX.keeps kV18 (fun _ _ x => x)
  have K21 := K16.nn kV18
  have z22 := kV18.size
  refine pkq (.tuple #[Y, .int .i64 bt.2]) <| pkq (Y) <| pkq (.int .i64 bt.2) <| pkq (Y) <| pkq (.int .i64 bt.2) <| eq_ <| qr_ [0, 1, 2, 3, 4, 5, 6, 7, 8, 9, 10, 11, 12, 13, 14, 15, 16, 17, 18] <| pkq (.string xt.1) <| pkq (.string xt.1) <| ppq (.bool false) (exec_binop .neq 9 9 (.tmp 53) (.tmp 54) (by kernel_rfl) (.string xt.1) (.string xt.1) _ (by kernel_rfl) (by kernel_rfl) (by kernel_rfl) (str_same _ _)) <| pkq (.bool false) <| pkq (.int .i64 xt.2) <| pkq (.int .i64 xt.2) <| ppq (.bool false) (exec_cast (congrArg Value.bool (show ((((xt.2) : Int) != ((xt.2) : Int))) = false from by simp)) (by kernel_rfl)) ?_
  refine pkq (.bool false) <| pkq (.bool false) <| pkq (X) <| pkq (Y) ?_
  refine pcq 25 #[X, Y] Tryd.func25 ((bytes_same (Row.bytes h20) (Row.bytes hY) rfl).mono ?_)
  rintro e w1 ⟨rfl, rfl⟩
  refine ⟨_, rfl, ?_⟩
  refine pkq (.bool false) <| pkq (.bool false) <| pkq (.bool false) <| pkq (.int .i64 bt.2) <| pkq (.int .i64 bt.2) <| ppq (.bool false) (exec_cast (congrArg Value.bool (show ((((bt.2) : Int) != ((bt.2) : Int))) = false from by simp)) (by kernel_rfl)) <| pkq (.bool false) <| ps_end <| sy_a ⟨#[.agg p.cells, .string ⟨s.toArray⟩, v, pT gp 0, ud, ud, .bool false, .string xt.1, .int .i64 xt.2, .string xt.1, .int .i64 xt.2, X, .int .i64 bt.2, Y, .int .i64 bt.2, ud, ud, ud, ud, ud, ud, ud, ud, ud, .string ⟨s.toArray⟩, iN s.length, .bool false, .bool false, v, iN l.length, .bool false, .bool false, ud, .tuple #[.string xt.1, .int .i64 xt.2], .agg (p.cells), .tuple #[.string xt.1, .int .i64 xt.2], .string xt.1, .int .i64 xt.2, .tuple #[.string xt.1, .int .i64 xt.2], .agg (p.cells), .tuple #[.string xt.1, .int .i64 xt.2], .string xt.1, .int .i64 xt.2, .tuple #[X, .int .i64 bt.2], .agg (p.cells), .tuple #[X, .int .i64 bt.2], X, .int .i64 bt.2, .tuple #[Y, .int .i64 bt.2], .agg (p.cells), .tuple #[Y, .int .i64 bt.2], Y, .int .i64 bt.2, .string xt.1, .string xt.1, .bool false, .bool false, .int .i64 xt.2, .int .i64 xt.2, .bool false, .bool false, .bool false, X, Y, .bool true, .bool false, .bool false, .bool false, .int .i64 bt.2, .int .i64 bt.2, .bool false, .bool false, ud, ud, ud, ud, ud, ud, ud, ud, ud, ud, ud, ud, ud, ud, ud, ud, ud, ud, ud, ud, ud, ud, ud, ud, ud, ud, ud, ud, ud, ud, ud, ud, ud, ud, ud, ud, ud, ud, ud, ud, ud, ud, ud, ud, ud, ud, ud, ud], []⟩ <| then_n <| n_ <| s_ <| tqr_ [0, 1, 2, 3, 4, 5, 6, 7, 8] <| pkq (.string ⟨s.toArray⟩) ?_
  refine pcq 26 #[.string ⟨s.toArray⟩] Tryd.func26 ((hpp ▸ pParse_ok s _ hsl).mono ?_)
  rintro e V23 ⟨rfl, kV23⟩
  refine ⟨_, rfl, ?_⟩
  have h24 := kV23.bk h19
  have K25 := K21.nn kV23
  have z26 := kV23.size
  refine pkq (.tuple #[.agg pp.1.cells, .agg #[.int .i64 pp.2.1, .int .i64 pp.2.2]]) <| pkq (.agg pp.1.cells) <| pkq (.agg #[.int .i64 pp.2.1, .int .i64 pp.2.2]) <| pal 24 (#[.int .i64 0, .int .i64 0, .int .i64 0, .int .i64 0, .int .i64 0, .int .i64 0, .int .i64 0, .int .u64 0, .int .u64 0, .int .i64 0, .int .u64 0]) (.agg (#[.int .i64 0, .int .i64 0, .int .i64 0, .int .i64 0, .int .i64 0, .int .i64 0, .int .i64 0, .int .u64 0, .int .u64 0, .int .i64 0, .int .u64 0])) fun V27 q1 eq1 h28 kV27 => ?_
  have n29 : gp < q1 := eq1 ▸ lt_of_block h24
  have n30 : w.heap.size ≤ q1 := eq1 ▸ K25.size
  have h31 := kV27.bk h24
  have K32 := K25.nn kV27
  have z33 := kV27.size
  refine pal 46 (#[.int .i64 0, .int .i64 0]) (.agg (#[.int .i64 0, .int .i64 0])) fun V34 q2 eq2 h35 kV34 => ?_
  have n36 : gp < q2 := eq2 ▸ lt_of_block h31
  have n37 : q1 < q2 := eq2 ▸ lt_of_block h28
  have n38 : w.heap.size ≤ q2 := eq2 ▸ K32.size
  have h39 := kV34.bk h31
  have h40 := kV34.bk h28
  have K41 := K32.nn kV34
  have z42 := kV34.size
  refine pst 24 q1 pp.1.cells h40 (by kernel_rfl) rfl (by kernel_rfl) fun V43 h44 kV43 => ?_
  have h45 := kV43.bO h39
  have h46 := kV43.bO h35
  have K47 := K41.nO kV43
  have z48 := kV43.size
  refine pst 46 q2 (#[.int .i64 pp.2.1, .int .i64 pp.2.2]) h46 (by kernel_rfl) rfl (by kernel_rfl) fun V49 h50 kV49 => ?_
  have h51 := kV49.bO h45
  have h52 := kV49.bO h44
  have K53 := K47.nO kV49
  have z54 := kV49.size
  refine eqr_ [0, 1, 2, 3, 4, 5, 6, 7, 8] <| pkq (.string ⟨s.toArray⟩) ?_
  refine pcq 27 #[.string ⟨s.toArray⟩] Tryd.func27 ((hpp ▸ r7Parse_ok s _ hsl).mono ?_)
  rintro e V55 ⟨rfl, kV55⟩
  refine ⟨_, rfl, ?_⟩
  have h56 := kV55.bk h51
  have h57 := kV55.bk h52
  have h58 := kV55.bk h50
  have K59 := K53.nn kV55
  have z60 := kV55.size
  refine pkq (.tuple #[.agg pp.1.cells, .agg #[.int .i64 pp.2.1, .int .i64 pp.2.2]]) <| pkq (.agg pp.1.cells) <| pkq (.agg #[.int .i64 pp.2.1, .int .i64 pp.2.2]) <| pal 24 (#[.int .i64 0, .int .i64 0, .int .i64 0, .int .i64 0, .int .i64 0, .int .i64 0, .int .i64 0, .int .u64 0, .int .u64 0, .int .i64 0, .int .u64 0]) (.agg (#[.int .i64 0, .int .i64 0, .int .i64 0, .int .i64 0, .int .i64 0, .int .i64 0, .int .i64 0, .int .u64 0, .int .u64 0, .int .i64 0, .int .u64 0])) fun V61 q3 eq3 h62 kV61 => ?_
  have n63 : gp < q3 := eq3 ▸ lt_of_block h56
  have n64 : q1 < q3 := eq3 ▸ lt_of_block h57
  have n65 : q2 < q3 := eq3 ▸ lt_of_block h58
  have n66 : w.heap.size ≤ q3 := eq3 ▸ K59.size
  have h67 := kV61.bk h56
  have h68 := kV61.bk h57
  have h69 := kV61.bk h58
  have K70 := K59.nn kV61
  have z71 := kV61.size
  refine pal 46 (#[.int .i64 0, .int .i64 0]) (.agg (#[.int .i64 0, .int .i64 0])) fun V72 q4 eq4 h73 kV72 => ?_
  have n74 : gp < q4 := eq4 ▸ lt_of_block h67
  have n75 : q1 < q4 := eq4 ▸ lt_of_block h68
  have n76 : q2 < q4 := eq4 ▸ lt_of_block h69
  have n77 : q3 < q4 := eq4 ▸ lt_of_block h62
  have n78 : w.heap.size ≤ q4 := eq4 ▸ K70.size
  have h79 := kV72.bk h67
  have h80 := kV72.bk h68
  have h81 := kV72.bk h69
  have h82 := kV72.bk h62
  have K83 := K70.nn kV72
  have z84 := kV72.size
  refine pst 24 q3 pp.1.cells h82 (by kernel_rfl) rfl (by kernel_rfl) fun V85 h86 kV85 => ?_
  have h87 := kV85.bO h79
  have h88 := kV85.bO h80
  have h89 := kV85.bO h81
  have h90 := kV85.bO h73
  have K91 := K83.nO kV85
  have z92 := kV85.size
  refine pst 46 q4 (#[.int .i64 pp.2.1, .int .i64 pp.2.2]) h90 (by kernel_rfl) rfl (by kernel_rfl) fun V93 h94 kV93 => ?_
  have h95 := kV93.bO h87
  have h96 := kV93.bO h88
  have h97 := kV93.bO h89
  have h98 := kV93.bO h86
  have K99 := K91.nO kV93
  have z100 := kV93.size
  refine eqr_ [0, 1, 2] <| pkq (v) ?_
  have lt_q1 := lt_of_block h96
  have lt_q2 := lt_of_block h97
  have lt_q3 := lt_of_block h98
  have lt_q4 := lt_of_block h94
  have szc := K99.size
  refine pcq 28 #[v] Tryd.func28 ((copyBytes_ok v l _ (hx.keepsN K99) (by omega)).mono ?_)
  rintro e V101 ⟨c0, rfl, h102, hnu, hnz, kV101⟩
  have hcb := Row.bytes h102
  refine ⟨_, rfl, ?_⟩
  have h103 := kV101.bk h95
  have h104 := kV101.bk h96
  have h105 := kV101.bk h97
  have h106 := kV101.bk h98
  have h107 := kV101.bk h94
  have K108 := K99.nn kV101
  have z109 := kV101.size
  have hlc : ∀ j, c0.ownBlock = some j → j < V101.heap.size := fun j hj => Row.lt h102 hj
  refine pkq (c0) <| eqr_ [0, 1, 2, 3, 4, 5, 6, 7, 8] <| pkq (c0) ?_
  refine pcq 29 #[c0] Tryd.func29 ((hrd ▸ pRead_ok c0 l _ hcb (by omega)).mono ?_)
  rintro e V110 ⟨rfl, kV110⟩
  refine ⟨_, rfl, ?_⟩
  have h111 := kV110.bk h103
  have h112 := kV110.bk h104
  have h113 := kV110.bk h105
  have h114 := kV110.bk h106
  have h115 := kV110.bk h107
  have h116 : BytesAt V110 c0 l := hcb.keepsN kV110
  have K117 := K108.nn kV110
  have z118 := kV110.size
  refine pkq (.tuple #[.agg rd.1.cells, .agg #[.int .i64 rd.2.1, .int .i64 rd.2.2]]) <| pkq (.agg rd.1.cells) <| pkq (.agg #[.int .i64 rd.2.1, .int .i64 rd.2.2]) <| pal 24 (#[.int .i64 0, .int .i64 0, .int .i64 0, .int .i64 0, .int .i64 0, .int .i64 0, .int .i64 0, .int .u64 0, .int .u64 0, .int .i64 0, .int .u64 0]) (.agg (#[.int .i64 0, .int .i64 0, .int .i64 0, .int .i64 0, .int .i64 0, .int .i64 0, .int .i64 0, .int .u64 0, .int .u64 0, .int .i64 0, .int .u64 0])) fun V119 q5 eq5 h120 kV119 => ?_
  have n121 : gp < q5 := eq5 ▸ lt_of_block h111
  have n122 : q1 < q5 := eq5 ▸ lt_of_block h112
  have n123 : q2 < q5 := eq5 ▸ lt_of_block h113
  have n124 : q3 < q5 := eq5 ▸ lt_of_block h114
  have n125 : q4 < q5 := eq5 ▸ lt_of_block h115
  have n126 : w.heap.size ≤ q5 := eq5 ▸ K117.size
  have h127 := kV119.bk h111
  have h128 := kV119.bk h112
  have h129 := kV119.bk h113
  have h130 := kV119.bk h114
  have h131 := kV119.bk h115
  have h132 : BytesAt V119 c0 l := h116.keepsN kV119
  have K133 := K117.nn kV119
  have z134 := kV119.size
  refine pal 46 (#[.int .i64 0, .int .i64 0]) (.agg (#[.int .i64 0, .int .i64 0])) fun V135 q6 eq6 h136 kV135 => ?_
  have n137 : gp < q6 := eq6 ▸ lt_of_block h127
  have n138 : q1 < q6 := eq6 ▸ lt_of_block h128
  have n139 : q2 < q6 := eq6 ▸ lt_of_block h129
  have n140 : q3 < q6 := eq6 ▸ lt_of_block h130
  have n141 : q4 < q6 := eq6 ▸ lt_of_block h131
  have n142 : q5 < q6 := eq6 ▸ lt_of_block h120
  have n143 : w.heap.size ≤ q6 := eq6 ▸ K133.size
  have h144 := kV135.bk h127
  have h145 := kV135.bk h128
  have h146 := kV135.bk h129
  have h147 := kV135.bk h130
  have h148 := kV135.bk h131
  have h149 : BytesAt V135 c0 l := h132.keepsN kV135
  have h150 := kV135.bk h120
  have K151 := K133.nn kV135
  have z152 := kV135.size
  refine pst 24 q5 rd.1.cells h150 (by kernel_rfl) rfl (by kernel_rfl) fun V153 h154 kV153 => ?_
  have h155 := kV153.bO h144
  have h156 := kV153.bO h145
  have h157 := kV153.bO h146
  have h158 := kV153.bO h147
  have h159 := kV153.bO h148
  have h160 : BytesAt V153 c0 l := h149.keeps kV153 (fun j hj e => by have := hlc j hj; unfold Own.One at e; omega)
  have h161 := kV153.bO h136
  have K162 := K151.nO kV153
  have z163 := kV153.size
  refine pst 46 q6 (#[.int .i64 rd.2.1, .int .i64 rd.2.2]) h161 (by kernel_rfl) rfl (by kernel_rfl) fun V164 h165 kV164 => ?_
  have h166 := kV164.bO h155
  have h167 := kV164.bO h156
  have h168 := kV164.bO h157
  have h169 := kV164.bO h158
  have h170 := kV164.bO h159
  have h171 : BytesAt V164 c0 l := h160.keeps kV164 (fun j hj e => by have := hlc j hj; unfold Own.One at e; omega)
  have h172 := kV164.bO h154
  have K173 := K162.nO kV164
  have z174 := kV164.size
  refine ps_end <| sy_a ⟨#[.agg p.cells, .string ⟨s.toArray⟩, v, pT gp 0, ud, ud, .bool false, .string xt.1, .int .i64 xt.2, .string xt.1, .int .i64 xt.2, X, .int .i64 bt.2, Y, .int .i64 bt.2, pT q1 0, pT q2 0, pT q3 0, pT q4 0, c0, pT q5 0, pT q6 0, ud, ud, .string ⟨s.toArray⟩, iN s.length, .bool false, .bool false, v, iN l.length, .bool false, .bool false, ud, .tuple #[.string xt.1, .int .i64 xt.2], .agg (p.cells), .tuple #[.string xt.1, .int .i64 xt.2], .string xt.1, .int .i64 xt.2, .tuple #[.string xt.1, .int .i64 xt.2], .agg (p.cells), .tuple #[.string xt.1, .int .i64 xt.2], .string xt.1, .int .i64 xt.2, .tuple #[X, .int .i64 bt.2], .agg (p.cells), .tuple #[X, .int .i64 bt.2], X, .int .i64 bt.2, .tuple #[Y, .int .i64 bt.2], .agg (p.cells), .tuple #[Y, .int .i64 bt.2], Y, .int .i64 bt.2, .string xt.1, .string xt.1, .bool false, .bool false, .int .i64 xt.2, .int .i64 xt.2, .bool false, .bool false, .bool false, X, Y, .bool true, .bool false, .bool false, .bool false, .int .i64 bt.2, .int .i64 bt.2, .bool false, .bool false, .tuple #[.agg pp.1.cells, .agg #[.int .i64 pp.2.1, .int .i64 pp.2.2]], .string ⟨s.toArray⟩, .tuple #[.agg pp.1.cells, .agg #[.int .i64 pp.2.1, .int .i64 pp.2.2]], .agg pp.1.cells, .agg #[.int .i64 pp.2.1, .int .i64 pp.2.2], .tuple #[.agg pp.1.cells, .agg #[.int .i64 pp.2.1, .int .i64 pp.2.2]], .string ⟨s.toArray⟩, .tuple #[.agg pp.1.cells, .agg #[.int .i64 pp.2.1, .int .i64 pp.2.2]], .agg pp.1.cells, .agg #[.int .i64 pp.2.1, .int .i64 pp.2.2], v, c0, .tuple #[.agg rd.1.cells, .agg #[.int .i64 rd.2.1, .int .i64 rd.2.2]], c0, .tuple #[.agg rd.1.cells, .agg #[.int .i64 rd.2.1, .int .i64 rd.2.2]], .agg rd.1.cells, .agg #[.int .i64 rd.2.1, .int .i64 rd.2.2], ud, ud, ud, ud, ud, ud, ud, ud, ud, ud, ud, ud, ud, ud, ud, ud, ud, ud, ud, ud, ud, ud, ud, ud, ud, ud, ud, ud, ud, ud, ud], []⟩ <| tqr_ [0, 1, 2, 3, 4, 5, 6, 7, 8] <| pkq (v) ?_
  refine pcq 30 #[v] Tryd.func30 ((hrd ▸ r7Read_ok v l _ (hx.keepsN K173) (by omega)).mono ?_)
  rintro e V175 ⟨rfl, kV175⟩
  refine ⟨_, rfl, ?_⟩
  have h176 := kV175.bk h166
  have h177 := kV175.bk h167
  have h178 := kV175.bk h168
  have h179 := kV175.bk h169
  have h180 := kV175.bk h170
  have h181 : BytesAt V175 c0 l := h171.keepsN kV175
  have h182 := kV175.bk h172
  have h183 := kV175.bk h165
  have K184 := K173.nn kV175
  have z185 := kV175.size
  refine pkq (.tuple #[.agg rd.1.cells, .agg #[.int .i64 rd.2.1, .int .i64 rd.2.2]]) <| pkq (.agg rd.1.cells) <| pkq (.agg #[.int .i64 rd.2.1, .int .i64 rd.2.2]) <| pal 24 (#[.int .i64 0, .int .i64 0, .int .i64 0, .int .i64 0, .int .i64 0, .int .i64 0, .int .i64 0, .int .u64 0, .int .u64 0, .int .i64 0, .int .u64 0]) (.agg (#[.int .i64 0, .int .i64 0, .int .i64 0, .int .i64 0, .int .i64 0, .int .i64 0, .int .i64 0, .int .u64 0, .int .u64 0, .int .i64 0, .int .u64 0])) fun V186 q7 eq7 h187 kV186 => ?_
  have n188 : gp < q7 := eq7 ▸ lt_of_block h176
  have n189 : q1 < q7 := eq7 ▸ lt_of_block h177
  have n190 : q2 < q7 := eq7 ▸ lt_of_block h178
  have n191 : q3 < q7 := eq7 ▸ lt_of_block h179
  have n192 : q4 < q7 := eq7 ▸ lt_of_block h180
  have n193 : q5 < q7 := eq7 ▸ lt_of_block h182
  have n194 : q6 < q7 := eq7 ▸ lt_of_block h183
  have n195 : w.heap.size ≤ q7 := eq7 ▸ K184.size
  have h196 := kV186.bk h176
  have h197 := kV186.bk h177
  have h198 := kV186.bk h178
  have h199 := kV186.bk h179
  have h200 := kV186.bk h180
  have h201 : BytesAt V186 c0 l := h181.keepsN kV186
  have h202 := kV186.bk h182
  have h203 := kV186.bk h183
  have K204 := K184.nn kV186
  have z205 := kV186.size
  refine pal 46 (#[.int .i64 0, .int .i64 0]) (.agg (#[.int .i64 0, .int .i64 0])) fun V206 q8 eq8 h207 kV206 => ?_
  have n208 : gp < q8 := eq8 ▸ lt_of_block h196
  have n209 : q1 < q8 := eq8 ▸ lt_of_block h197
  have n210 : q2 < q8 := eq8 ▸ lt_of_block h198
  have n211 : q3 < q8 := eq8 ▸ lt_of_block h199
  have n212 : q4 < q8 := eq8 ▸ lt_of_block h200
  have n213 : q5 < q8 := eq8 ▸ lt_of_block h202
  have n214 : q6 < q8 := eq8 ▸ lt_of_block h203
  have n215 : q7 < q8 := eq8 ▸ lt_of_block h187
  have n216 : w.heap.size ≤ q8 := eq8 ▸ K204.size
  have h218 := kV206.bk h197
  have h219 := kV206.bk h198
  have h220 := kV206.bk h199
  have h221 := kV206.bk h200
  have h222 : BytesAt V206 c0 l := h201.keepsN kV206
  have h223 := kV206.bk h202
  have h224 := kV206.bk h203
  have h225 := kV206.bk h187
  have K226 := K204.nn kV206
  have z227 := kV206.size
  refine pst 24 q7 rd.1.cells h225 (by kernel_rfl) rfl (by kernel_rfl) fun V228 h229 kV228 => ?_
  have h231 := kV228.bO h218
  have h232 := kV228.bO h219
  have h233 := kV228.bO h220
  have h234 := kV228.bO h221
  have h235 : BytesAt V228 c0 l := h222.keeps kV228 (fun j hj e => by have := hlc j hj; unfold Own.One at e; omega)
  have h236 := kV228.bO h223
  have h237 := kV228.bO h224
  have h238 := kV228.bO h207
  have K239 := K226.nO kV228
  have z240 := kV228.size
  refine pst 46 q8 (#[.int .i64 rd.2.1, .int .i64 rd.2.2]) h238 (by kernel_rfl) rfl (by kernel_rfl) fun V241 h242 kV241 => ?_
  have h244 := kV241.bO h231
  have h245 := kV241.bO h232
  have h246 := kV241.bO h233
  have h247 := kV241.bO h234
  have h248 : BytesAt V241 c0 l := h235.keeps kV241 (fun j hj e => by have := hlc j hj; unfold Own.One at e; omega)
  have h249 := kV241.bO h236
  have h250 := kV241.bO h237
  have h251 := kV241.bO h229
  have K252 := K239.nO kV241
  have z253 := kV241.size
  refine eqr_ [0, 1, 2, 3, 4, 5, 6, 7, 8, 9, 10, 11, 12, 13, 14, 15, 16, 17, 18, 19, 20, 21, 22, 23, 24, 25, 26] <| ppq (.agg (pp.1.cells)) (ldr 24 q1 (h244) (by kernel_rfl)) <| ppq (.agg (pp.1.cells)) (ldr 24 q3 (h246) (by kernel_rfl)) <| ppq (.bool true) (exec_cast (congrArg Value.bool (by simp)) (exec_binop .eql 24 24 (.tmp 94) (.tmp 95) (by kernel_rfl) (.agg pp.1.cells) (.agg pp.1.cells) _ (by kernel_rfl) (by kernel_rfl) (run_eqGuard_agg _ _ _ _ _ _ _ par_guard) (par_eq _ _ _))) <| pkq (.bool true) <| ppq (.agg #[.int .i64 pp.2.1, .int .i64 pp.2.2]) (ldr 46 q2 (h245) (by kernel_rfl)) <| ppq (.agg #[.int .i64 pp.2.1, .int .i64 pp.2.2]) (ldr 46 q4 (h247) (by kernel_rfl)) <| ppq (.bool true) (exec_cast (congrArg Value.bool (by simp)) (exec_binop .eql 46 46 (.tmp 98) (.tmp 99) (by kernel_rfl) (.agg #[.int .i64 pp.2.1, .int .i64 pp.2.2]) (.agg #[.int .i64 pp.2.1, .int .i64 pp.2.2]) _ (by kernel_rfl) (by kernel_rfl) (run_eqGuard_agg _ _ _ _ _ _ _ pfault_guard) (pfault_eq _ _ _ _ _))) <| pkq (.bool true) <| pkq (.bool true) <| ppq (.agg (rd.1.cells)) (ldr 24 q5 (h249) (by kernel_rfl)) <| ppq (.agg (rd.1.cells)) (ldr 24 q7 (h251) (by kernel_rfl)) <| ppq (.bool true) (exec_cast (congrArg Value.bool (by simp)) (exec_binop .eql 24 24 (.tmp 103) (.tmp 104) (by kernel_rfl) (.agg rd.1.cells) (.agg rd.1.cells) _ (by kernel_rfl) (by kernel_rfl) (run_eqGuard_agg _ _ _ _ _ _ _ par_guard) (par_eq _ _ _))) <| pkq (.bool true) ?_
  refine pkq (.bool true) <| ppq (.agg #[.int .i64 rd.2.1, .int .i64 rd.2.2]) (ldr 46 q6 (h250) (by kernel_rfl)) <| ppq (.agg #[.int .i64 rd.2.1, .int .i64 rd.2.2]) (ldr 46 q8 (h242) (by kernel_rfl)) <| ppq (.bool true) (exec_cast (congrArg Value.bool (by simp)) (exec_binop .eql 46 46 (.tmp 108) (.tmp 109) (by kernel_rfl) (.agg #[.int .i64 rd.2.1, .int .i64 rd.2.2]) (.agg #[.int .i64 rd.2.1, .int .i64 rd.2.2]) _ (by kernel_rfl) (by kernel_rfl) (run_eqGuard_agg _ _ _ _ _ _ _ pfault_guard) (pfault_eq _ _ _ _ _))) <| pkq (.bool true) <| pkq (.bool true) <| pkq (c0) <| pkq (v) ?_
  refine pcq 25 #[c0, v] Tryd.func25 ((bytes_same h248 (hx.keepsN K252) rfl).mono ?_)
  rintro e w1 ⟨rfl, rfl⟩
  refine ⟨_, rfl, ?_⟩
  refine pkq (.bool true) <| pkq (.bool true) ?_
  refine pcq 8 #[] Tryd.func8 ((lpawake_ok _ (PowTab.keeps htab K252)).mono ?_)
  rintro e V254 ⟨rfl, kV254⟩
  refine ⟨_, rfl, ?_⟩
  have K265 := K252.nn kV254
  have z266 := kV254.size
  refine pkq (.bool true) <| pkq (.bool true) <| ps_end <| sy_a ⟨#[.agg p.cells, .string ⟨s.toArray⟩, v, pT gp 0, ud, ud, .bool true, .string xt.1, .int .i64 xt.2, .string xt.1, .int .i64 xt.2, X, .int .i64 bt.2, Y, .int .i64 bt.2, pT q1 0, pT q2 0, pT q3 0, pT q4 0, c0, pT q5 0, pT q6 0, pT q7 0, pT q8 0, .string ⟨s.toArray⟩, iN s.length, .bool false, .bool false, v, iN l.length, .bool false, .bool false, ud, .tuple #[.string xt.1, .int .i64 xt.2], .agg (p.cells), .tuple #[.string xt.1, .int .i64 xt.2], .string xt.1, .int .i64 xt.2, .tuple #[.string xt.1, .int .i64 xt.2], .agg (p.cells), .tuple #[.string xt.1, .int .i64 xt.2], .string xt.1, .int .i64 xt.2, .tuple #[X, .int .i64 bt.2], .agg (p.cells), .tuple #[X, .int .i64 bt.2], X, .int .i64 bt.2, .tuple #[Y, .int .i64 bt.2], .agg (p.cells), .tuple #[Y, .int .i64 bt.2], Y, .int .i64 bt.2, .string xt.1, .string xt.1, .bool false, .bool false, .int .i64 xt.2, .int .i64 xt.2, .bool false, .bool false, .bool false, X, Y, .bool true, .bool false, .bool false, .bool false, .int .i64 bt.2, .int .i64 bt.2, .bool false, .bool false, .tuple #[.agg pp.1.cells, .agg #[.int .i64 pp.2.1, .int .i64 pp.2.2]], .string ⟨s.toArray⟩, .tuple #[.agg pp.1.cells, .agg #[.int .i64 pp.2.1, .int .i64 pp.2.2]], .agg pp.1.cells, .agg #[.int .i64 pp.2.1, .int .i64 pp.2.2], .tuple #[.agg pp.1.cells, .agg #[.int .i64 pp.2.1, .int .i64 pp.2.2]], .string ⟨s.toArray⟩, .tuple #[.agg pp.1.cells, .agg #[.int .i64 pp.2.1, .int .i64 pp.2.2]], .agg pp.1.cells, .agg #[.int .i64 pp.2.1, .int .i64 pp.2.2], v, c0, .tuple #[.agg rd.1.cells, .agg #[.int .i64 rd.2.1, .int .i64 rd.2.2]], c0, .tuple #[.agg rd.1.cells, .agg #[.int .i64 rd.2.1, .int .i64 rd.2.2]], .agg rd.1.cells, .agg #[.int .i64 rd.2.1, .int .i64 rd.2.2], .tuple #[.agg rd.1.cells, .agg #[.int .i64 rd.2.1, .int .i64 rd.2.2]], v, .tuple #[.agg rd.1.cells, .agg #[.int .i64 rd.2.1, .int .i64 rd.2.2]], .agg rd.1.cells, .agg #[.int .i64 rd.2.1, .int .i64 rd.2.2], .agg (pp.1.cells), .agg (pp.1.cells), .bool true, .bool true, .agg #[.int .i64 pp.2.1, .int .i64 pp.2.2], .agg #[.int .i64 pp.2.1, .int .i64 pp.2.2], .bool true, .bool true, .bool true, .agg (rd.1.cells), .agg (rd.1.cells), .bool true, .bool true, .bool true, .agg #[.int .i64 rd.2.1, .int .i64 rd.2.2], .agg #[.int .i64 rd.2.1, .int .i64 rd.2.2], .bool true, .bool true, .bool true, c0, v, .bool true, .bool true, .bool true, .bool true, .bool true], []⟩ <| then_n <| u_ <| so_ (.bool true) ?_
  exact ⟨rfl, K265⟩
theorem forms_all (p : Par) (hp : p.Ok) (s : List UInt8) (v : Value) (l : List UInt8) (w : World) (hx : BytesAt w v l) (htab : PowTab w) : Calls Tryd.prog 4 #[.agg p.cells, .string ⟨⟨s⟩⟩, v] w (fun e w' => e = .returned (.bool true) ∧ Keeps Nob w w') := by
  by_cases hs : 400 < s.length
  · exact forms_text p s v l w hp hx hs htab
  · by_cases hb : 100 < l.length
    · exact forms_bytes p s v l w hp hx hs hb htab
    · exact forms_main p s v l w hp hx hs hb htab
theorem pow_forms {W : World} (h : laidMetH Tryd.prog Rows.paramsFormsRow.laid W) : PowTab W := by
  rw [MakeChecks.laidMetH_plain _ _ _ (by kernel_rfl)] at h
  exact pow_of h (List.Mem.tail _ (List.Mem.tail _ (List.Mem.head _)))
end Go.Proofs.YtpflmldmbpnllaaDoor
namespace Go.Own
set_option maxRecDepth 100000
set_option maxHeartbeats 4000000
open Go Go.ChangeShapes Go.WideShapes Go.ChangeAt Go.RowKit Go.WideElems
variable {H : Type} {enc : TypeId × Value → H} {P : Program}
theorem trodAll_stays (hl : laidOutB P = true) {W W' : World} {sp : Nat → Bool} : ∀ (ts : List TypeId) (vs : List Value) (ds : List (DataW H)) (ps : List MemPlace),
    ts.all (fun t => P.readableRec t && decide (t < P.types.size)) = true → DataW.TrodAll enc P W 0 (fun _ => true) true ts vs ds ps → (∀ p ∈ ps, W.sameAt W' p) → (∀ p ∈ ps, sp p.block = true) →
    DataW.TrodAll enc P W' 0 sp true ts vs ds ps
  | [], vs, ds, ps, _, h, _, _ => by
    obtain ⟨rfl, rfl, rfl⟩ := trodAll_nil h
    exact trodAll_mk0
  | t :: ts, vs, ds, ps, hr, h, hs, hsp => by
    obtain ⟨v, vs', d, ds', p, q, rfl, rfl, rfl, h0, r⟩ := trodAll_cons h
    simp only [List.all_cons, Bool.and_eq_true, decide_eq_true_eq] at hr
    exact trodAll_cons_mk (Trod_stays hl hr.1.1 hr.1.2 h0 (fun x hx => hs x (by simp [hx])) (fun x hx => hsp x (by simp [hx])))
      (trodAll_stays hl ts vs' ds' q hr.2 r (fun x hx => hs x (by simp [hx])) (fun x hx => hsp x (by simp [hx])))
theorem law_post {f : Func} {s : ChangeSpec} {W W' : World} {args : Array Value} {ds gs : List (DataW H)} {before : List MemPlace} {tb : TypeId} (hl : laidOutB P = true) (hr : f.params.toList.all (fun t => P.readableRec t && decide (t < P.types.size)) = true)
    (hres : f.resultTypes = #[tb]) (hb : P.underlying tb = some .bool) (hvars : s.vars = []) (hfn : s.fn H (ds ++ gs) = { results := [.lit (.bool true)], args := ds })
    (hW : DataW.Whole enc P f.params.toList s.vars false W args.toList ds gs before) (hB : Below W.heap.size W W') : s.post enc P f false true false false W args (.bool true) W' := by
  have hlt := hW.lt
  have hW0 := hW
  obtain ⟨p, q, hA, hV, rfl, hfz, hnd⟩ := hW
  rw [hvars] at hV
  obtain ⟨rfl, rfl⟩ := trodVars_none hV
  refine ⟨ds, [], p ++ [], [], p, [], hW0, ?_, ?_, ?_, hB.frame _, fun h => by cases h⟩
  · rw [hfn, hres]
    exact trodAll_mk1 (shut_bool hb _)
  · rw [hfn]
    exact trodAll_stays hl _ _ _ _ hr hA (fun x hx => hB.same (hlt x (by simp [hx]))) (fun x hx => by simpa using hlt x (by simp [hx]))
  · rw [hfn, hvars]
    rfl
/-- A slice that came in: its length, and each element's cells with the element's own reading. -/
theorem open_elemsN {t e : TypeId} {W : World} {sp : Nat → Bool} {held : Bool} {v : Value} {d : DataW H} {ps : List MemPlace} (ht : P.underlying t = some (.slice e)) (hpos : 0 < P.cellsOf e) (h : DataW.Trod enc P W 0 sp held t v d ps) (hv : ∃ a len cap, v = .slice a len cap) :
    ∃ (a : Option Addr) (len cap : Nat), v = .slice a len cap ∧ len ≤ cap ∧ cap ≤ maxLen ∧ (a = none → cap = 0) ∧ ∀ i, i < len → ∃ b o cs n y, a = some ⟨b, o, none⟩ ∧ cs.length = P.cellsOf e ∧
      (∀ j, j < P.cellsOf e → W.cell? ⟨b, o + i * P.cellsOf e + j, none⟩ = cs[j]?) ∧ DataW.trod enc P W 0 sp held n e cs = some y := by
  obtain ⟨fuel, hf⟩ := h
  obtain ⟨a0, len0, cap0, rfl⟩ := hv
  rcases Go.Deep.open_slice ht (by simpa [Value.cells] using hf) with ⟨h0, _⟩ | ⟨a, len, cap, m, n, D, Pl, hcs, _, hl, hm, hmm, _, hi⟩
  · simp only [List.cons.injEq, Value.slice.injEq, and_true] at h0
    obtain ⟨rfl, rfl, rfl⟩ := h0
    exact ⟨_, _, _, rfl, Nat.le_refl _, Nat.zero_le _, fun _ => rfl, fun i h => absurd h (Nat.not_lt_zero i)⟩
  · simp only [List.cons.injEq, Value.slice.injEq, and_true] at hcs
    obtain ⟨rfl, rfl, rfl⟩ := hcs
    refine ⟨_, _, _, rfl, hl, hm, (fun h => by cases h), fun i hlt => ?_⟩
    have him : i < m := by rw [hmm]; split <;> omega
    obtain ⟨cs', hc, ht'⟩ := hi i him
    obtain ⟨_, hcl, hat⟩ := World.cells?_some hc
    have hsp : a.spot = none := by
      obtain ⟨cs0, hc0, _⟩ := hi 0 (by omega)
      obtain ⟨_, hcl0, hat0⟩ := World.cells?_some hc0
      have h0 := hat0 0 hpos
      have e1 : (a.add (0 * P.cellsOf e)).add 0 = a := by simp [Addr.add]
      rw [e1, List.getElem?_eq_getElem (by omega)] at h0
      cases hs : a.spot with
      | none => rfl
      | some s =>
        exfalso
        unfold World.cell? at h0
        split at h0
        · rw [if_pos (by simp [hs])] at h0; cases h0
        · cases h0
    obtain ⟨b, o, s⟩ := a
    cases hsp
    refine ⟨b, o, cs', n, _, rfl, hcl, fun j hj => ?_, ht'⟩
    have h2 := hat j hj
    have e2 : ((⟨b, o, none⟩ : Addr).add (i * P.cellsOf e)).add j = ⟨b, o + i * P.cellsOf e + j, none⟩ := by simp [Addr.add_lit]
    rw [e2] at h2
    exact h2
theorem list_of {α : Type} (Q : Nat → α → Prop) (n : Nat) (h : ∀ i, i < n → ∃ x, Q i x) : ∃ l : List α, l.length = n ∧ ∀ k x, l[k]? = some x → Q k x := by
  induction n with
  | zero => exact ⟨[], rfl, fun k x hk => by simp at hk⟩
  | succ n ih =>
    obtain ⟨l, hl, hq⟩ := ih (fun i hi => h i (by omega))
    obtain ⟨x, hx⟩ := h n (by omega)
    refine ⟨l ++ [x], by simp [hl], fun k y hk => ?_⟩
    rw [List.getElem?_append] at hk
    split at hk
    · exact hq k y hk
    · rename_i hlt
      obtain ⟨hk1, hk2⟩ := List.getElem?_eq_some_iff.1 hk
      have : k = n := by simp at hk1; omega
      subst this
      simp at hk2
      rw [← hk2]; exact hx
/-- One cell of a struct that is read as an integer. -/
theorem field_int {t : TypeId} {k : IntKind} {W : World} {sp : Nat → Bool} {held : Bool} {n off : Nat} {cs : List Value} {y : Option (DataW H × List MemPlace)} {z : DataW H × List MemPlace} (ht : P.underlying t = some (.int k)) (h1 : P.cellsOf t = 1) (h : DataW.trod enc P W 0 sp held n t ((cs.drop off).take (P.cellsOf t)) = y) (hy : y = some z) :
    ∃ q : Int, cs[off]? = some (.int k q) ∧ (Lit.int k q).wf = true := by
  subst hy
  rw [h1] at h
  obtain ⟨q, e1, _, e3⟩ := DataW.trod_int ht h
  refine ⟨q, ?_, e3⟩
  cases hc : cs.drop off with
  | nil => rw [hc] at e1; simp at e1
  | cons c r =>
    rw [hc] at e1
    simp at e1
    have : (cs.drop off)[0]? = some c := by rw [hc]; rfl
    rw [List.getElem?_drop] at this
    rw [show off = off + 0 by omega, this, e1]
theorem u64_nat {a : Int} (h : (Lit.int .u64 a).wf = true) : ∃ n : Nat, n < 2 ^ 64 ∧ a = (n : Int) := by
  have h1 : 0 ≤ a ∧ a < 18446744073709551616 := by
    simp [Lit.wf, IntKind.min, IntKind.max, IntKind.bits, IntKind.signed] at h
    omega
  exact ⟨a.toNat, by omega, by omega⟩
theorem u8_nat {a : Int} (h : (Lit.int .u8 a).wf = true) : ∃ c : UInt8, a = (c.toNat : Int) := by
  have h1 : 0 ≤ a ∧ a < 256 := by
    simp [Lit.wf, IntKind.min, IntKind.max, IntKind.bits, IntKind.signed] at h
    omega
  exact ⟨UInt8.ofNat a.toNat, by simp; omega⟩
/-- A slice of bytes that came in. -/
theorem open_bytesAt {t e : TypeId} {W : World} {sp : Nat → Bool} {held : Bool} {v : Value} {d : DataW H} {ps : List MemPlace} (ht : P.underlying t = some (.slice e)) (he : P.underlying e = some (.int .u8)) (hC : P.cellsOf e = 1)
    (h : DataW.Trod enc P W 0 sp held t v d ps) (hv : ∃ a len cap, v = .slice a len cap) : ∃ l, BytesAt W v l := by
  obtain ⟨a, len, cap, rfl, hl, hm, hn, hi⟩ := open_elemsN ht (by rw [hC]; omega) h hv
  rw [hC] at hi
  obtain ⟨l, hll, hq⟩ := list_of (fun i (x : UInt8) => ∃ b o, a = some ⟨b, o, none⟩ ∧ W.cell? ⟨b, o + i, none⟩ = some (.int .u8 (x.toNat : Int))) len (fun i hlt => by
    obtain ⟨b, o, cs, n, y, ha, hcl, hcell, ht'⟩ := hi i hlt
    obtain ⟨q, e1, _, e3⟩ := DataW.trod_int he ht'
    obtain ⟨c, rfl⟩ := u8_nat e3
    have h0 := hcell 0 (by omega)
    rw [e1] at h0
    exact ⟨c, b, o, ha, by simpa using h0⟩)
  subst hll
  refine ⟨l, ⟨a, cap, rfl, hl, hm, hn⟩, fun k x hk => ?_⟩
  obtain ⟨b, o, rfl, c0⟩ := hq k x hk
  exact ⟨b, o, cap, rfl, World.block_lt_of_cell? W _ c0, c0⟩
end Go.Own
namespace Go.Proofs.YtpflmldmbpnllaaDoor
set_option maxRecDepth 100000
set_option maxHeartbeats 4000000
set_option maxRecDepth 100000
open Go Go.RowKit Go.Own Go.ChangeShapes Go.WideShapes Go.ChangeAt Go.WideElems
theorem open_params {H : Type} {enc : TypeId × Value → H} {W : World} {sp : Nat → Bool} {held : Bool} {v : Value} {d : DataW H} {ps : List MemPlace} {R : Reach} {base : Nat} (h : DataW.Trod enc Tryd.prog W 0 sp held 24 v d ps) (hv : Value.okWide Tryd.prog W R base 24 v) :
    ∃ p : Par, v = p.v ∧ p.Ok := by
  obtain ⟨cs, rfl, hsz⟩ := okWide_struct Tryd.underlying24 hv
  have hC : Tryd.prog.cellsOf 24 = 11 := by kernel_rfl
  have hi : Tryd.prog.cellsOf 3 = 1 := by kernel_rfl
  have hu : Tryd.prog.cellsOf 22 = 1 := by kernel_rfl
  rw [hC] at hsz
  obtain ⟨fuel, ht⟩ := h
  have ht : DataW.trod enc Tryd.prog W 0 sp held fuel 24 cs.toList = some (d, ps) := ht
  obtain ⟨xs, n', _, _, _, hxl, hf⟩ := DataW.trod_struct Tryd.underlying24 ht
  obtain ⟨q0, e0, f0⟩ := field_int Tryd.underlying3 hi (hf 0 _ rfl) (List.getElem?_eq_getElem (by rw [hxl]; decide))
  obtain ⟨q1, e1, f1⟩ := field_int Tryd.underlying3 hi (hf 1 _ rfl) (List.getElem?_eq_getElem (by rw [hxl]; decide))
  obtain ⟨q2, e2, f2⟩ := field_int Tryd.underlying3 hi (hf 2 _ rfl) (List.getElem?_eq_getElem (by rw [hxl]; decide))
  obtain ⟨q3, e3, f3⟩ := field_int Tryd.underlying3 hi (hf 3 _ rfl) (List.getElem?_eq_getElem (by rw [hxl]; decide))
  obtain ⟨q4, e4, f4⟩ := field_int Tryd.underlying3 hi (hf 4 _ rfl) (List.getElem?_eq_getElem (by rw [hxl]; decide))
  obtain ⟨q5, e5, f5⟩ := field_int Tryd.underlying3 hi (hf 5 _ rfl) (List.getElem?_eq_getElem (by rw [hxl]; decide))
  obtain ⟨q6, e6, f6⟩ := field_int Tryd.underlying3 hi (hf 6 _ rfl) (List.getElem?_eq_getElem (by rw [hxl]; decide))
  obtain ⟨q7, e7, f7⟩ := field_int Tryd.underlying22 hu (hf 7 _ rfl) (List.getElem?_eq_getElem (by rw [hxl]; decide))
  obtain ⟨q8, e8, f8⟩ := field_int Tryd.underlying22 hu (hf 8 _ rfl) (List.getElem?_eq_getElem (by rw [hxl]; decide))
  obtain ⟨q9, e9, f9⟩ := field_int Tryd.underlying3 hi (hf 9 _ rfl) (List.getElem?_eq_getElem (by rw [hxl]; decide))
  obtain ⟨q10, e10, f10⟩ := field_int Tryd.underlying22 hu (hf 10 _ rfl) (List.getElem?_eq_getElem (by rw [hxl]; decide))
  have ui : ∀ {a : Int}, (Lit.int .i64 a).wf = true → i64ok a := fun h => bounds_i64 h
  have uu : ∀ {a : Int}, (Lit.int .u64 a).wf = true → u64ok a := fun h => by
    obtain ⟨n, h1, rfl⟩ := u64_nat h
    unfold u64ok; omega
  refine ⟨⟨q0, q1, q2, q3, q4, q5, q6, q7, q8, q9, q10⟩, ?_, ⟨ui f0, ui f1, ui f2, ui f3, ui f4, ui f5, ui f6, uu f7, uu f8, ui f9, uu f10⟩⟩
  have : cs = #[.int .i64 q0, .int .i64 q1, .int .i64 q2, .int .i64 q3, .int .i64 q4, .int .i64 q5, .int .i64 q6, .int .u64 q7, .int .u64 q8, .int .i64 q9, .int .u64 q10] := by
    apply Array.ext_getElem?
    intro i
    by_cases hlt : i < 11
    · have h' : i = 0 ∨ i = 1 ∨ i = 2 ∨ i = 3 ∨ i = 4 ∨ i = 5 ∨ i = 6 ∨ i = 7 ∨ i = 8 ∨ i = 9 ∨ i = 10 := by omega
      have tl : ∀ j : Nat, cs[j]? = cs.toList[j]? := fun j => by simp
      rw [tl]
      rcases h' with rfl | rfl | rfl | rfl | rfl | rfl | rfl | rfl | rfl | rfl | rfl <;> assumption
    · rw [Array.getElem?_eq_none (by omega), Array.getElem?_eq_none (by simp; omega)]
  rw [this]; rfl
end Go.Proofs.YtpflmldmbpnllaaDoor
namespace Go.Proofs.YtpflmldmbpnllaaDoor.paramsForms
open Go.ChangeShapes Go.WideShapes Go.ChangeAt Go.RowKit Go.Own
open Go.ChangeMaps (open_string shut_string)
theorem own : ownKnob Tryd.prog.godebug = none := by kernel_rfl
theorem laid : laidOutB Tryd.prog = true := by kernel_rfl
set_option maxRecDepth 100000 in
theorem lifted (os : Os) (started : os.Started) (H : Type) (enc : TypeId × Value → H) :
    ReturnsInHanded {} Tryd.checked os 4 .any (fun w args => (Rows.paramsFormsSpec.pre enc Tryd.prog Tryd.f4 Rows.paramsFormsRow.domain false w args ∧ laidMetH Tryd.prog Rows.paramsFormsRow.laid w) ∧ sizedMet enc Tryd.prog Tryd.f4 (OpenSpec.ofChange Rows.paramsFormsSpec) false w args)
      (Rows.paramsFormsSpec.post enc Tryd.prog Tryd.f4 false true false false) := by
  refine returnsInHanded_of_change_and (C := Tryd.checked) (X := fun w _ => laidMetH Tryd.prog Rows.paramsFormsRow.laid w) (fun _ _ _ hh h => h.of_heap hh) own started (by kernel_rfl) Tryd.func4
    (ChangeSpec.witness_shaped (enc := enc) (C := Tryd.checked) (os := os) (X := fun w _ => laidMetH Tryd.prog Rows.paramsFormsRow.laid w) false (World.laidAll Tryd.prog os Rows.paramsFormsRow.laid) #[.agg #[.int .i64 0, .int .i64 0, .int .i64 0, .int .i64 0, .int .i64 0, .int .i64 0, .int .i64 0, .int .u64 0, .int .u64 0, .int .i64 0, .int .u64 0], .string ⟨#[]⟩, .slice none 0 0] 8 (World.laidAll_os _ _ _)
      (World.shaped_of_ZipB (by kernel_rfl) (by kernel_rfl)) (by kernel_rfl) (by kernel_rfl) (by kernel_rfl)
      (by rw [MakeChecks.laidMetH_plain _ _ _ (by kernel_rfl)]; exact laidMet_laidAll _ (by kernel_rfl) (by kernel_rfl))) ?_
  intro W base args ds gs before hval0 hW hcnd _ hL hsz0
  have hval : ∀ (j : Nat) t v, Tryd.f4.params[j]? = some t → args[j]? = some v → Value.okWide Tryd.prog W .any base t v := hval0
  have hW' := hW
  obtain ⟨p, q, hA0, hV, rfl, hfz, hnd⟩ := hW
  have hA : DataW.TrodAll enc Tryd.prog W 0 (fun _ => true) true Tryd.f4.params.toList args.toList ds p := hA0
  rw [Tryd.params4] at hA hval
  obtain ⟨v0, vs0, d0, ds0, p0, q0, hargs, rfl, rfl, h0, r0⟩ := trodAll_cons hA
  obtain ⟨v1, vs1, d1, ds1, p1, q1, rfl, rfl, rfl, h1, r1⟩ := trodAll_cons r0
  obtain ⟨v2, vs2, d2, ds2, p2, q2, rfl, rfl, rfl, h2, r2⟩ := trodAll_cons r1
  obtain ⟨rfl, rfl, rfl⟩ := trodAll_nil r2
  obtain rfl : args = #[v0, v1, v2] := by cases args; simp_all
  obtain ⟨rfl, rfl⟩ := trodVars_none hV
  obtain ⟨p0, rfl, hp0⟩ := open_params h0 (hval 0 24 v0 rfl rfl)
  obtain ⟨⟨⟨s1⟩⟩, rfl, rfl, rfl, w1⟩ := open_string Tryd.underlying9 (hval 1 9 v1 rfl rfl) h1
  obtain ⟨l2, hl2⟩ := open_bytesAt Tryd.underlying39 Tryd.underlying5 (by kernel_rfl) h2 (okWide_slice Tryd.underlying39 (hval 2 39 v2 rfl rfl))
  clear hA0 hval0
  refine (forms_all p0 hp0 s1 v2 l2 W hl2 (pow_forms hL)).mono fun e W' ⟨he, hg⟩ => ?_
  subst he
  exact ⟨_, rfl, law_post laid (by kernel_rfl) rfl Tryd.underlying4 rfl rfl hW' (hg.below (Nat.le_refl _) (fun _ _ x => x))⟩
theorem row : Rows.ParamsFormsSaid :=
  OpenClaim.holds_of_wide 4 Tryd.f4 rfl rfl rfl rfl rfl rfl rfl ⟨rfl, rfl, rfl, rfl, rfl⟩ rfl rfl rfl rfl rfl (by kernel_rfl) Tryd.func4 (by kernel_rfl)
    (of_decide_eq_true (by kernel_rfl)) (by unfold Func.isWrapper; first | (rw [if_pos (by decide +kernel)]; kernel_rfl) | (rw [if_neg (by decide +kernel)]; exact ⟨rfl, rfl⟩))
    (fun os started H enc _ => lifted os started H enc)
theorem proved : Rows.ParamsFormsCardSaid :=
  Claim7.holds_tied_plain_at .later [] Rows.paramsFormsCard.laidKinds true Rows.paramsFormsCard.stood.harness false row (fun _ h => by cases h) (by kernel_rfl) (fun _ h => by cases h) paramsForms_row_tie rfl ⟨rfl, rfl⟩ (by kernel_rfl) rfl
    (fun f fn hf hfn => by
      obtain rfl : f = 4 := Option.some.inj ((show Tryd.prog.funcNamed Rows.paramsFormsRow.func = some 4 by kernel_rfl).symm.trans hf) |>.symm
      obtain rfl : fn = Tryd.f4 := (Option.some.inj (Tryd.func4.symm.trans hfn)).symm
      exact ⟨by kernel_rfl, fun j t ht => by
        have hall : (Tryd.f4.params.toList.all fun u => !Tryd.prog.wantsStandIn u) = true := by kernel_rfl
        exact (show Tryd.prog.wantsStandIn t = false by simpa using List.all_eq_true.1 hall t (by simpa using Array.mem_of_getElem? ht))⟩)
    (by kernel_rfl)
end Go.Proofs.YtpflmldmbpnllaaDoor.paramsForms
