import Derived.Test.YthmclmbeflbhhaaGreatDetectNoneP3
namespace Go.Proofs.YthmclmbeflbhhaaGreat
set_option maxRecDepth 100000
set_option maxHeartbeats 4000000
open Go Go.RowKit Go.Own Go.Shelf
theorem upP_self (P : Nat → Option Nat) (v : Nat) (q : Option Nat) : upP P v q v = q := by unfold upP; rw [if_pos rfl]
theorem span_made (n : Int) (w : World) (h1 : 1 ≤ n) (h2 : n ≤ 256) :
  Calls Tryz.prog 90 #[.int .i64 n] w fun e w' => ∃ sp, e = .returned (.tuple #[pT sp 0, .int .i64 0]) ∧ Sp.SpanView w' Nob sp n 0 (fun _ => (none, none)) ∧ Keeps Nob w w' ∧ w.heap.size ≤ sp :=
 (Sp.span_new_view n w h1 h2).mono fun e w' ⟨a, b, c, _⟩ => ⟨_, a, b, c, Nat.le_refl _⟩
theorem rec_made (v a b : Int) (w : World) (h0 : 0 ≤ v ∧ v < 32) (h1 : 1 ≤ a ∧ a ≤ 256) (h2 : 1 ≤ b ∧ b ≤ 256000) :
  Calls Tryz.prog 91 #[.int .i64 v, .int .i64 a, .int .i64 b] w (fun e w' => ∃ r A B, e = .returned (.tuple #[pT r 0, .int .i64 0]) ∧ RecAt w' r v A B ∧ (A.low = 0 ∧ (A.n : Int) = a ∧ A.V = (fun _ => none) ∧ B.low = 1 ∧ (B.n : Int) = b ∧ B.V = (fun _ => none)) ∧ (∀ j, FR A B j → w.heap.size ≤ j) ∧ w.heap.size ≤ r ∧ Keeps Nob w w') := by
 have hc := qNew_fine v a.toNat b.toNat w (by omega) (by omega) (by omega) (by omega) (by omega) (by omega)
 rw [show ((a.toNat : Nat) : Int) = a by omega, show ((b.toNat : Nat) : Int) = b by omega] at hc
 exact hc.mono fun e w' ⟨r, A, B, a1, a2, a3, a4, a5, a6, a7, a8, a9, a10, k⟩ => ⟨r, A, B, a1, a2, ⟨a3, by omega, a5, a6, by omega, a8⟩, a9, a10, k⟩
theorem mvV_none {α : Type} (l : Int) : mvV (fun _ => (none : Option α)) l = fun _ => none := by funext j; unfold mvV; split <;> rfl
theorem out_of {w : World} {b r j : Nat} {FP : Nat → Prop} {W E v : Int} {view : Int → Option Int × Option Int} {A : RD Att} {B : RD Pro} {T : TypeId} {cs : Array Value} (hS : Sp.SpanView w FP b W E view) (hR : RecAt w r v A B) (hc : w.heap[j]? = some (.cells cs T (0, 0))) (h0 : 161 ≠ T) (h1 : 184 ≠ T) (h2 : 185 ≠ T) (h3 : 192 ≠ T) (h4 : 168 ≠ T) : ¬ (j = b ∨ FR A B j) := fun e => by
 rcases e with rfl | e
 ·obtain ⟨cs', hc'⟩ := SpanView.blk hS
  exact Odd.one hc' h0 _ _ _ rfl hc
 ·exact hR.odd h1 h2 h3 h4 _ _ _ e hc
/-- A store in a detector leaves another part's span, another part's record. -/
theorem span_det {w w' : World} {b d : Nat} {W E : Int} {view : Int → Option Int × Option Int} {cs : Array Value} (h : Sp.SpanView w Nob b W E view) (hd : w.heap[d]? = some (.cells cs 79 (0, 0))) (k : Keeps (One d) w w') : Sp.SpanView w' Nob b W E view :=
 h.of_keeps k (fun e => by
  obtain ⟨cs', hc⟩ := SpanView.blk h
  exact Odd.one hd (by decide) b cs' (0, 0) e hc) (fun j hj => hj.elim) (fun _ h => h) h.nb (fun j hj => hj.elim)
theorem rec_det {w w' : World} {r d : Nat} {v : Int} {A : RD Att} {B : RD Pro} {cs : Array Value} (h : RecAt w r v A B) (hd : w.heap[d]? = some (.cells cs 79 (0, 0))) (k : Keeps (One d) w w') : RecAt w' r v A B := h.mono fun j cs' T hj e => by
 rcases hj with hj | rfl | rfl | rfl
 ·exact (k.block j (lt_of_block e) (fun e2 => h.odd (T := 79) (by decide) (by decide) (by decide) (by decide) j cs (0, 0) hj (e2 ▸ hd))).trans e
 ·exact k.odd (Odd.one hd (by decide)) e
 ·exact k.odd (Odd.one hd (by decide)) e
 ·exact k.odd (Odd.one hd (by decide)) e
noncomputable def part_dof (n : Nat) : Code := partOf Tryz.f48 n
theorem dof_found (d v q : Nat) (p : Par) (h : Int) (P : Nat → Option Nat) (w : World) (hd : w.heap[d]? = some (.cells (detC p h P) 79 (0, 0))) (hv : v < 32) (hPv : P v = some q) :
  Calls Tryz.prog 48 #[pT d 0, .int .i64 ((v : Nat) : Int)] w (fun e w' => e = .returned (pT q 0) ∧ w = w') := by
 have K0 : Keeps Nob w w := Keeps.refl _ _
 refine sy_enter (part_dof 1) ⟨fr [pT d 0, iN v] 67, []⟩ Tryz.func48 (by kernel_rfl) (by kernel_rfl) <| qr_ [0] <| pkq (.pointer none) <| eq_ <| qr_ [0, 1, 2, 3, 4, 5, 6] <| pkq (pT d 0) <| pkq (iN v) <| pkq (pT d 0) <| pkq (pT d 12) <| ppq (pT d (12 + v)) (exec_cast (v := pT d (12 + v * 1)) (by simp) (exec_indexAt_arr 77 (.tmp 12) (.tmp 10) (by kernel_rfl) d 12 (by kernel_rfl) .i64 v (by kernel_rfl) _ _ 1 Tryz.underlying77 (by kernel_rfl) (by omega))) <| ppq (pT q 0) (ldc 76 d (12 + v) (rc (hd) ((detC_at _ _ _ (by omega)).trans (congrArg (fun o => some (ptrV o)) hPv)))) <| pkq (.bool false) <| en_ <| s_ ?_
 refine tqr_ [0, 1, 2, 3, 4, 5, 6] <| pkq (pT d 0) <| pkq (iN v) <| pkq (pT d 0) <| pkq (pT d 12) <| ppq (pT d (12 + v)) (exec_cast (v := pT d (12 + v * 1)) (by simp) (exec_indexAt_arr 77 (.tmp 66) (.tmp 64) (by kernel_rfl) d 12 (by kernel_rfl) .i64 v (by kernel_rfl) _ _ 1 Tryz.underlying77 (by kernel_rfl) (by omega))) <| ppq (pT q 0) (ldc 76 d (12 + v) (rc (hd) ((detC_at _ _ _ (by omega)).trans (congrArg (fun o => some (ptrV o)) hPv)))) <| pkq (pT q 0) <| eu_ <| so_ (pT q 0) ?_
 exact ⟨rfl, rfl⟩
theorem dof_made (d v : Nat) (p : Par) (h : Int) (P : Nat → Option Nat) (w : World) (hd : w.heap[d]? = some (.cells (detC p h P) 79 (0, 0))) (hv : v < 32) (hPv : P v = none) (hk : DOk p h) :
  Calls Tryz.prog 48 #[pT d 0, .int .i64 ((v : Nat) : Int)] w (fun e w' => ∃ q sp r A B, e = .returned (pT q 0) ∧ w'.heap[d]? = some (.cells (detC p h (upP P v (some q))) 79 (0, 0)) ∧ PartAt w' ⟨q, sp, r, A, B, Nob⟩ (v : Int) p.win (dep p h) (fun _ => (none, none)) ∧ ((A.low : Int) = dlo p h ∧ (A.n : Int) = p.win ∧ A.V = fun _ => none) ∧ ((B.low : Int) = dfl p h ∧ (B.n : Int) = p.win * p.elen ∧ B.V = fun _ => none) ∧ (∀ j, PD.own ⟨q, sp, r, A, B, Nob⟩ j → w.heap.size ≤ j) ∧ Keeps (One d) w w') := by
 have hb := hk.bnd
 have hm := hk.mulb
 have hlo := hk.lo
 have hfl := hk.fl
 have hep := hk.ep
 have K0 : Keeps (One d) w w := Keeps.refl _ _
 refine sy_enter (part_dof 1) ⟨fr [pT d 0, iN v] 67, []⟩ Tryz.func48 (by kernel_rfl) (by kernel_rfl) <| qr_ [0] <| pkq (.pointer none) <| eq_ <| qr_ [0, 1, 2, 3, 4, 5, 6] <| pkq (pT d 0) <| pkq (iN v) <| pkq (pT d 0) <| pkq (pT d 12) <| ppq (pT d (12 + v)) (exec_cast (v := pT d (12 + v * 1)) (by simp) (exec_indexAt_arr 77 (.tmp 12) (.tmp 10) (by kernel_rfl) d 12 (by kernel_rfl) .i64 v (by kernel_rfl) _ _ 1 Tryz.underlying77 (by kernel_rfl) (by omega))) <| ppq (.pointer none) (ldc 76 d (12 + v) (rc (hd) ((detC_at _ _ _ (by omega)).trans (congrArg (fun o => some (ptrV o)) hPv)))) <| pkq (.bool true) <| ey_ <| qr_ [0, 1, 2, 3, 4, 5, 6, 7, 8, 9, 10] ?_
 refine pkq (pT d 0) <| pkq (pT d 0) <| pkq (pT d 0) <| pkq (pT d 3) <| ppq (.int .i64 p.win) (ldc 3 d 3 (rc (hd) ((detC_p _ _ _ (by decide)).trans rfl))) ?_
 refine pcq 90 #[.int .i64 p.win] Tryz.func90 ((span_made p.win _ (by omega) (by omega)).mono ?_)
 rintro e V1 ⟨sp, rfl, hSV1, kV1, gSV1⟩
 refine ⟨_, rfl, ?_⟩
 have ⟨K3, z4, h2⟩ := kV1.z1 K0 hd
 refine pkq (.tuple #[pT sp 0, .int .i64 0]) <| pkq (pT sp 0) <| pkq (.int .i64 0) <| pkq (pT sp 0) <| pkq (.int .i64 0) <| eq_ <| sy_np <| sy_reg <| an_begin 3 23 (opsAt (part_dof 106)) (fun W => (W.heap[d]? = some (.cells (detC p h P) 79 (0, 0)))) #[false, false, false, false, false, false, false, false, false, false, false, false, false, false, false, false, false, false, false, false, false, false, false] (by kernel_rfl) (by kernel_rfl) (by kernel_rfl) (by kernel_rfl) ?_
 obtain ⟨V5, eV5, kV5⟩ := drew_step V1
 rw [eV5]
 clear eV5
 have h6 := kV5.bk h2
 have h7 : Sp.SpanView V5 Nob sp p.win 0 (fun _ => (none, none)) := span_nob hSV1 kV5
 have K8 := K3.nn kV5
 have z9 := kV5.size
 refine akq 0 (iN v) h6 <| akq 1 (pT d 0) h6 <| akq 2 (pT d 0) h6 <| akq 3 (pT d 0) h6 <| akq 4 (pT d 3) h6 <| avq 5 (.int .i64 p.win) (fun W hS => ldc 3 d 3 (rc (hS) ((detC_p _ _ _ (by decide)).trans rfl))) h6 <| akq 6 (pT d 0) h6 <| akq 7 (pT d 0) h6 <| akq 8 (pT d 0) h6 <| akq 9 (pT d 3) h6 <| avq 10 (.int .i64 p.win) (fun W hS => ldc 3 d 3 (rc (hS) ((detC_p _ _ _ (by decide)).trans rfl))) h6 <| akq 11 (pT d 0) h6 <| akq 12 (pT d 0) h6 <| akq 13 (pT d 0) h6 ?_
 refine akq 14 (pT d 2) h6 <| avq 15 (.int .i64 p.elen) (fun W hS => ldc 3 d 2 (rc (hS) ((detC_p _ _ _ (by decide)).trans rfl))) h6 <| avq 16 (.int .i64 (p.win * p.elen)) (fun W hS => exec_cast (congrArg (Value.int .i64) (wrapI (p.win * p.elen) (p.win * p.elen) rfl (by omega) (by omega))) (by kernel_rfl)) h6 <| an_o 17 ?_
 refine ncq 91 #[iN v, .int .i64 p.win, .int .i64 (p.win * p.elen)] Tryz.func91 ((rec_made v p.win (p.win * p.elen) _ (by omega) (by omega) (by omega)).mono ?_)
 rintro e V10 ⟨r, A, B, rfl, hRV10, ⟨aa, ab, ac, ba, bb, bc⟩, gFV10, gRV10, kV10⟩
 refine ⟨_, rfl, ?_⟩
 have h11 := kV10.bk h6
 have h12 : Sp.SpanView V10 Nob sp p.win 0 (fun _ => (none, none)) := span_nob h7 kV10
 have K13 := K8.nn kV10
 have z14 := kV10.size
 refine ⟨h11, ?_⟩
 refine akq 18 (.tuple #[pT r 0, .int .i64 0]) h11 <| akq 19 (pT r 0) h11 <| akq 20 (.int .i64 0) h11 <| an_o 21 <| nrq (pT r 0) (w' := V10) (by kernel_rfl) ?_
 refine ⟨h11, ?_⟩
 refine an_o 22 <| nrq (.int .i64 0) (w' := V10) (by kernel_rfl) ?_
 refine ⟨h11, ?_⟩
 refine an_end (by kernel_rfl) <| sy_a ⟨fr [pT d 0, iN v, ud, ud, .pointer none, pT sp 0, .int .i64 0, pT r 0, .int .i64 0, pT d 0, iN v, pT d 0, pT d 12, pT d (12 + v), .pointer none, .bool true, .tuple #[pT sp 0, .int .i64 0], pT d 0, pT d 0, pT d 0, pT d 3, .int .i64 p.win, .tuple #[pT sp 0, .int .i64 0], pT sp 0, .int .i64 0, .tuple #[pT r 0, .int .i64 0], iN v, pT d 0, pT d 0, pT d 0, pT d 3, .int .i64 p.win, pT d 0, pT d 0, pT d 0, pT d 3, .int .i64 p.win, pT d 0, pT d 0, pT d 0, pT d 2, .int .i64 p.elen, .int .i64 (p.win * p.elen), .tuple #[pT r 0, .int .i64 0], pT r 0, .int .i64 0] 23, []⟩ <| tqr_ [0, 1, 2, 3, 4, 5, 6, 7, 8, 9] <| pkq (pT d 0) <| pkq (iN v) <| pkq (pT sp 0) <| pkq (pT r 0) <| pkq (.agg #[pT sp 0, pT r 0]) <| pbx 85 (#[pT sp 0, pT r 0]) (.agg #[pT sp 0, pT r 0]) fun V15 q eq h16 kV15 => ?_
 have n17 := nl eq h11
 have n18 := nk eq K13
 have h19 := kV15.bk h11
 have h20 : Sp.SpanView V15 Nob sp p.win 0 (fun _ => (none, none)) := span_nob h12 kV15
 have h21 : RecAt V15 r v A B := hRV10.keepsN kV15
 have K22 := K13.nn kV15
 have z23 := kV15.size
 refine pkq (pT d 0) <| pkq (pT d 12) <| ppq (pT d (12 + v)) (exec_cast (v := pT d (12 + v * 1)) (by simp) (exec_indexAt_arr 77 (.tmp 53) (.tmp 47) (by kernel_rfl) d 12 (by kernel_rfl) .i64 v (by kernel_rfl) _ _ 1 Tryz.underlying77 (by kernel_rfl) (by omega))) ?_
 refine pce 76 d (12 + v) (pT q 0) (detC p h ((upP P v (some q)))) h19 (rc (h19) ((detC_at _ _ _ (by omega)).trans (congrArg (fun o => some (ptrV o)) hPv))) (detC_setp _ _ _ (some q) (by omega)) fun V24 h25 kV24 => ?_
 have h26 : Sp.SpanView V24 Nob sp p.win 0 (fun _ => (none, none)) := span_det h20 h19 kV24
 have h27 : RecAt V24 r v A B := rec_det h21 h19 kV24
 have h28 := kV24.bO h16
 have K29 : Keeps (One d) w V24 := K22.then kV24 (fun i hi hm => by unfold Own.One at hm; subst hm; exact rfl)
 have z30 := kV24.size
 refine er_ [0, 1, 2, 3, 4, 5, 6, 7] <| pkq (pT d 0) <| pkq (pT d 0) <| pkq (iN v) <| pkq (pT d 0) <| pkq (pT d 12) <| ppq (pT d (12 + v)) (exec_cast (v := pT d (12 + v * 1)) (by simp) (exec_indexAt_arr 77 (.tmp 59) (.tmp 57) (by kernel_rfl) d 12 (by kernel_rfl) .i64 v (by kernel_rfl) _ _ 1 Tryz.underlying77 (by kernel_rfl) (by omega))) <| ppq (pT q 0) (ldc 76 d (12 + v) (rc (h25) ((detC_at _ _ _ (by omega)).trans (congrArg (fun o => some (ptrV o)) (upP_self _ _ _))))) ?_
 refine pcq 41 #[pT d 0, pT q 0] Tryz.func41 ((dgoes_core d q sp r p h (upP P v (some q)) Nob p.win 0 v (fun _ => (none, none)) A B _ h25 h28 h26 h27 (fun _ e _ => e.elim) hk (fun _ _ => rfl) _ _ _ rfl rfl rfl (by omega) (by omega) (by omega)).mono ?_)
 rintro e V31 ⟨rfl, S1, S2, hSV31, hRV31, kV31⟩
 refine ⟨_, rfl, ?_⟩
 have h32 : V31.heap[q]? = some (.cells (#[pT sp 0, pT r 0]) 85 (0, 0)) := (kV31.block q (lt_of_block h28) (fun e => out_of h26 h27 h28 (by decide) (by decide) (by decide) (by decide) (by decide) e)).trans h28
 have h33 : V31.heap[d]? = some (.cells (detC p h ((upP P v (some q)))) 79 (0, 0)) := (kV31.block d (lt_of_block h25) (fun e => out_of h26 h27 h25 (by decide) (by decide) (by decide) (by decide) (by decide) e)).trans h25
 have K34 : Keeps (One d) w V31 := K29.then kV31 (fun i hi hm => absurd hi (hm.elim (fun hm => by omega) (fun hm => by have := gFV10 _ hm; omega)))
 have z35 := kV31.size
 refine eqr_ [0, 1, 2, 3, 4, 5, 6] <| pkq (pT d 0) <| pkq (iN v) <| pkq (pT d 0) <| pkq (pT d 12) <| ppq (pT d (12 + v)) (exec_cast (v := pT d (12 + v * 1)) (by simp) (exec_indexAt_arr 77 (.tmp 66) (.tmp 64) (by kernel_rfl) d 12 (by kernel_rfl) .i64 v (by kernel_rfl) _ _ 1 Tryz.underlying77 (by kernel_rfl) (by omega))) <| ppq (pT q 0) (ldc 76 d (12 + v) (rc (h33) ((detC_at _ _ _ (by omega)).trans (congrArg (fun o => some (ptrV o)) (upP_self _ _ _))))) <| pkq (pT q 0) <| ps_end <| sy_a ⟨#[pT d 0, iN v, ud, ud, pT q 0, pT sp 0, .int .i64 0, pT r 0, .int .i64 0, pT d 0, iN v, pT d 0, pT d 12, pT d (12 + v), .pointer none, .bool true, .tuple #[pT sp 0, .int .i64 0], pT d 0, pT d 0, pT d 0, pT d 3, .int .i64 p.win, .tuple #[pT sp 0, .int .i64 0], pT sp 0, .int .i64 0, .tuple #[pT r 0, .int .i64 0], iN v, pT d 0, pT d 0, pT d 0, pT d 3, .int .i64 p.win, pT d 0, pT d 0, pT d 0, pT d 3, .int .i64 p.win, pT d 0, pT d 0, pT d 0, pT d 2, .int .i64 p.elen, .int .i64 (p.win * p.elen), .tuple #[pT r 0, .int .i64 0], pT r 0, .int .i64 0, pT d 0, iN v, pT sp 0, pT r 0, .agg #[pT sp 0, pT r 0], pT q 0, pT d 0, pT d 12, pT d (12 + v), pT d 0, pT d 0, iN v, pT d 0, pT d 12, pT d (12 + v), pT q 0, .tuple #[], pT d 0, iN v, pT d 0, pT d 12, pT d (12 + v), pT q 0], []⟩ <| then_n <| u_ <| so_ (pT q 0) ?_
 exact ⟨q, sp, r, _, _, rfl, h33, ⟨h32, hSV31, hRV31⟩, ⟨(show (((dlo p h).toNat : Nat) : Int) = _ by omega), ab, (show mvV A.V _ = _ by rw [ac, mvV_none])⟩, ⟨(show (((dfl p h).toNat : Nat) : Int) = _ by omega), bb, (show mvV B.V _ = _ by rw [bc, mvV_none])⟩, fun j hj => hj.elim (fun hj => by have e : j = sp := hj; omega) (fun hj => by have := gFV10 j hj; omega), K34⟩
/-- A part made: the detector behind it. -/
theorem DetP.made {w w' : World} {d : Nat} {p : Par} {h : Int} {g : Nat → Int} {A : List Att} {Q : List Pro} {P : Nat → Option PD} {who : Nat → Nat} (s : DetP w d p h g A Q P who) {v : Nat} {x : PD} (hv : v < 32) (hn : P v = none) (k : Keeps (One d) w w') (hd : w'.heap[d]? = some (.cells (detC p h (upP (Pq P) v (some x.q))) 79 (0, 0)))
  (hp : PartAt w' x (v : Int) p.win (dep p (g v)) (Sp.viewOf (prs A v)) ∧ ((x.A.low : Int) = dlo p (g v) ∧ (x.A.n : Int) = p.win ∧ x.A.V = vaOf A v (dlo p (g v))) ∧ ((x.B.low : Int) = dfl p (g v) ∧ (x.B.n : Int) = p.win * p.elen ∧ x.B.V = vbOf Q v (dfl p (g v))))
  (ho : ∀ j, x.own j → w.heap.size ≤ j) (hf : ∀ j, ¬ x.FP j) : ∃ who', DetP w' d p h g A Q (fun u => if u = v then some x else P u) who' := by
 have hst : Still w (One d) := ⟨Odd.one s.blk (by decide), Odd.one s.blk (by decide), Odd.one s.blk (by decide), Odd.one s.blk (by decide)⟩
 refine ⟨fun j => @ite _ (x.own j) (Classical.propDecidable _) (v + 1) (who j), ?_, fun u y hu hy => ?_, fun u hu hy => ?_, ?_, fun u y hu hy j hj => ?_, fun u y hu hy j hj => ?_⟩
 ·have e : Pq (fun u => if u = v then some x else P u) = upP (Pq P) v (some x.q) := by
   funext u; show Option.map PD.q _ = upP _ _ _ u
   unfold upP
   by_cases hu : u = v
   ·subst hu; simp only [if_true, Option.map_some]
   ·simp only [if_neg hu]; rfl
  rw [e]; exact hd
 ·by_cases e : u = v
  ·subst e
   simp only [if_true, Option.some.injEq] at hy
   subst hy; exact hp
  ·simp only [if_neg e] at hy
   obtain ⟨b1, b2, b3⟩ := s.part u y hu hy
   refine ⟨b1.keeps k (fun j hj e2 => ?_) (fun j hj e2 => ?_) hst, b2, b3⟩
   ·have a := s.who1 u y hu hy j hj; have b := s.who0; rw [show j = d from e2] at a; omega
   ·have a := s.who2 u y hu hy j hj; have b := s.who0; rw [show j = d from e2] at a; omega
 ·by_cases e : u = v
  ·subst e; simp only [if_true] at hy; cases hy
  ·simp only [if_neg e] at hy
   exact s.none_ u hu hy
 ·rw [if_neg (fun e => by have := ho d e; have := lt_of_block s.blk; omega)]; exact s.who0
 ·by_cases e : u = v
  ·subst e
   simp only [if_true, Option.some.injEq] at hy
   subst hy
   rw [if_pos hj]
  ·simp only [if_neg e] at hy
   rw [if_neg (fun e => by have := ho j e; have := (s.part u y hu hy).1.lt j hj; omega)]; exact s.who1 u y hu hy j hj
 ·by_cases e : u = v
  ·subst e
   simp only [if_true, Option.some.injEq] at hy
   subst hy
   exact (hf j hj).elim
  ·simp only [if_neg e] at hy
   rw [if_neg (fun e => by have := ho j e; have := (s.part u y hu hy).1.span.fp j hj; omega)]; exact s.who2 u y hu hy j hj
/-- A validator's part, found or made. -/
theorem dof_ok {w : World} {d : Nat} {p : Par} {h : Int} {A : List Att} {Q : List Pro} {P : Nat → Option PD} {who : Nat → Nat} (s : DetP w d p h (fun _ => h) A Q P who) (hk : DOk p h) {v : Nat} (hv : v < 32) :
  Calls Tryz.prog 48 #[pT d 0, .int .i64 ((v : Nat) : Int)] w fun e w' => ∃ x P' who', e = .returned (pT x.q 0) ∧ P' v = some x ∧ (∀ u, u ≠ v → P' u = P u) ∧ (P v = some x ∨ (P v = none ∧ (∀ j, x.own j → w.heap.size ≤ j) ∧ x.FP = Nob)) ∧ DetP w' d p h (fun _ => h) A Q P' who' ∧ Keeps (One d) w w' := by
 cases hP : P v with
 | some x =>
  refine (dof_found d v x.q p h (Pq P) w s.blk hv (by unfold Pq; rw [hP]; rfl)).mono ?_
  rintro e w' ⟨rfl, rfl⟩
  exact ⟨x, P, who, rfl, hP, fun _ _ => rfl, .inl rfl, s, Keeps.refl _ _⟩
 | none =>
  refine (dof_made d v p h (Pq P) w s.blk hv (by unfold Pq; rw [hP]; rfl) hk).mono ?_
  rintro e w' ⟨q, sp, r, X, Y, rfl, hd, hp, ⟨a1, a2, a3⟩, ⟨b1, b2, b3⟩, ho, k⟩
  obtain ⟨n1, n2⟩ := s.none_ v hv hP
  obtain ⟨who', hw⟩ := s.made (x := ⟨q, sp, r, X, Y, Nob⟩) hv hP k hd ⟨by rw [prs_none n1]; exact hp, ⟨a1, a2, a3.trans (vaOf_none n1).symm⟩, ⟨b1, b2, b3.trans (vbOf_none n2).symm⟩⟩ ho (fun _ e => e)
  exact ⟨_, _, who', rfl, if_pos rfl, fun u hu => if_neg hu, .inr ⟨rfl, ho, rfl⟩, hw, k⟩
end Go.Proofs.YthmclmbeflbhhaaGreat
namespace Go.Proofs.YthmclmbeflbhhaaGreat
set_option maxRecDepth 100000
set_option maxHeartbeats 4000000
open Go Go.RowKit Go.Own Go.Shelf
theorem exec_index_ptr {P : Program} {ρ : Operand → Value} {o : Oper} {w : World} (t : TypeId) (x y : Operand) (ho : o.op = .index t x y) (cs : Array Value) (hx : ρ x = .agg cs) (kd : IntKind) (k : Nat) (hy : ρ y = .int kd (k : Int)) (n : Nat) (e : TypeId) (hu : P.underlying t = some (.array n e)) (he : ∃ e2, P.underlying e = some (.pointer e2))
  (hs : (P.info? e).map (·.size) = some 1) (hk : k < n) (v : Value) (hv : cs[k]? = some v) : (execOp ρ o).run P w = .ok (.value v) w := by
 obtain ⟨i, hi, h1⟩ := Option.map_eq_some_iff.1 hs
 obtain ⟨e2, he⟩ := he
 have hp : (part e cs k).run P w = .ok v w := by simp [part, isAgg, run_underlying he, hv]
 have h0 : (0 : Int) ≤ (k : Int) ∧ (k : Int) < (n : Int) := by omega
 unfold execOp
 simp only [ho, hx, hy, Instr.index, asIntOf, Sem.run_bind, Sem.run_pure, Result.andThen_ok, run_underlying hu, if_pos h0]
 rw [show (sizeOf e).run P w = .ok 1 w by simp [go_sem, sizeOf, typeInfo, hi, h1]]
 simp only [Result.andThen_ok, Int.toNat_natCast, Nat.mul_one, hp]
def prt (P : Nat → Option Nat) : List Value := (List.range 32).map fun v => ptrV (P v)
theorem prt_get (P : Nat → Option Nat) {k : Nat} (hk : k < 32) {o : Option Nat} (h : P k = o) : (prt P).toArray[k]? = some (ptrV o) := by
 unfold prt; rw [List.getElem?_toArray, List.getElem?_map, List.getElem?_range hk, ← h]; rfl
theorem detC_seg (p : Par) (h : Int) (P : Nat → Option Nat) : ∀ (j : Nat) (u : Value), (prt P)[j]? = some u → (detC p h P)[12 + j]? = some u := fun j u hj => by
 unfold detC detL
 have e : p.cells.toList.length = 11 := rfl
 rw [List.getElem?_toArray, List.getElem?_append_right (by omega), e, show 12 + j - 11 = j + 1 by omega, List.getElem?_cons_succ]; exact hj
theorem three (P : Nat → Option Nat) (k : Nat) : 32 ≤ k ∨ (k < 32 ∧ P k = none) ∨ (k < 32 ∧ ∃ q, P k = some q) := by
 by_cases h : k < 32
 ·cases hP : P k with
  | none => exact .inr (.inl ⟨h, rfl⟩)
  | some q => exact .inr (.inr ⟨h, q, rfl⟩)
 ·exact .inl (by omega)
noncomputable def qc66_0 (n : Nat) : Code := partOf Tryz.f17 n
theorem dMove_low (d : Nat) (p : Par) (h : Int) (P : Nat → Option Nat) (w : World) (hd : w.heap[d]? = some (.cells (detC p h P) 79 (0, 0))) (x : Int) (hh0 : ¬ h = 0) (q1 : x < 1) :
  Calls Tryz.prog 17 #[pT d 0, .int .i64 x] w (fun e w' => e = .returned (.int .i64 3) ∧ w = w') := by
 have K0 : Keeps Nob w w := Keeps.refl _ _
 refine sy_enter (qc66_0 1) ⟨fr [pT d 0, .int .i64 x] 39, []⟩ Tryz.func17 (by kernel_rfl) (by kernel_rfl) <| qr_ [0] <| pkq (.int .i64 0) <| eq_ <| bl_ 0 <| qr_ [0, 1, 2] <| pkq (pT d 0) ?_
 refine pcq 38 #[pT d 0] Tryz.func38 ((dnone_no d p h P _ hd hh0).mono ?_)
 rintro e w1 ⟨rfl, rfl⟩
 refine ⟨_, rfl, ?_⟩
 refine pkq (.bool false) <| en_ <| qr_ [0, 1, 2, 3, 4, 5, 6] <| pkq (.int .i64 x) <| ppq (.bool true) (dct (((x) : Int) < ((1) : Int)) (by omega)) <| pkq (.bool true) <| pnq <| pnq <| pkq (.bool true) <| pkq (.bool true) <| ey_ <| qr_ [0] <| pkq (.int .i64 3) <| eu_ ?_
 refine blk_r <| then_r <| so_ (.int .i64 3) ?_
 exact ⟨rfl, rfl⟩
theorem dMove_high (d : Nat) (p : Par) (h : Int) (P : Nat → Option Nat) (w : World) (hd : w.heap[d]? = some (.cells (detC p h P) 79 (0, 0))) (x : Int) (hh0 : ¬ h = 0) (q1 : 1 ≤ x) (q2 : 4294967296 < x) :
  Calls Tryz.prog 17 #[pT d 0, .int .i64 x] w (fun e w' => e = .returned (.int .i64 3) ∧ w = w') := by
 have K0 : Keeps Nob w w := Keeps.refl _ _
 refine sy_enter (qc66_0 1) ⟨fr [pT d 0, .int .i64 x] 39, []⟩ Tryz.func17 (by kernel_rfl) (by kernel_rfl) <| qr_ [0] <| pkq (.int .i64 0) <| eq_ <| bl_ 0 <| qr_ [0, 1, 2] <| pkq (pT d 0) ?_
 refine pcq 38 #[pT d 0] Tryz.func38 ((dnone_no d p h P _ hd hh0).mono ?_)
 rintro e w1 ⟨rfl, rfl⟩
 refine ⟨_, rfl, ?_⟩
 refine pkq (.bool false) <| en_ <| qr_ [0, 1, 2, 3, 4, 5, 6] <| pkq (.int .i64 x) <| ppq (.bool false) (dcf (((x) : Int) < ((1) : Int)) (by omega)) <| pkq (.bool false) <| pkq (.int .i64 x) <| ppq (.bool true) (dct (((x) : Int) > ((4294967296) : Int)) (by omega)) <| pkq (.bool true) <| pkq (.bool true) <| ey_ <| qr_ [0] <| pkq (.int .i64 3) <| eu_ ?_
 refine blk_r <| then_r <| so_ (.int .i64 3) ?_
 exact ⟨rfl, rfl⟩
theorem dMove_back (d : Nat) (p : Par) (h : Int) (P : Nat → Option Nat) (w : World) (hd : w.heap[d]? = some (.cells (detC p h P) 79 (0, 0))) (x : Int) (hh0 : ¬ h = 0) (q1 : 1 ≤ x) (q2 : x ≤ 4294967296) (q3 : x < h) :
  Calls Tryz.prog 17 #[pT d 0, .int .i64 x] w (fun e w' => e = .returned (.int .i64 9) ∧ w = w') := by
 have K0 : Keeps Nob w w := Keeps.refl _ _
 refine sy_enter (qc66_0 1) ⟨fr [pT d 0, .int .i64 x] 39, []⟩ Tryz.func17 (by kernel_rfl) (by kernel_rfl) <| qr_ [0] <| pkq (.int .i64 0) <| eq_ <| bl_ 0 <| qr_ [0, 1, 2] <| pkq (pT d 0) ?_
 refine pcq 38 #[pT d 0] Tryz.func38 ((dnone_no d p h P _ hd hh0).mono ?_)
 rintro e w1 ⟨rfl, rfl⟩
 refine ⟨_, rfl, ?_⟩
 refine pkq (.bool false) <| en_ <| qr_ [0, 1, 2, 3, 4, 5, 6] <| pkq (.int .i64 x) <| ppq (.bool false) (dcf (((x) : Int) < ((1) : Int)) (by omega)) <| pkq (.bool false) <| pkq (.int .i64 x) <| ppq (.bool false) (dcf (((x) : Int) > ((4294967296) : Int)) (by omega)) <| pkq (.bool false) <| pkq (.bool false) <| en_ <| qr_ [0, 1, 2, 3, 4, 5, 6] <| pkq (.int .i64 x) <| pkq (pT d 0) ?_
 refine pkq (pT d 0) <| pkq (pT d 11) <| ppq (.int .i64 h) (ldc 3 d 11 (rc (hd) (detC_h _ _ _))) <| ppq (.bool true) (dct (((x) : Int) < ((h) : Int)) (by omega)) <| pkq (.bool true) <| ey_ <| qr_ [0] <| pkq (.int .i64 9) <| eu_ <| blk_r <| then_r <| so_ (.int .i64 9) ?_
 exact ⟨rfl, rfl⟩
theorem dMove_none (v : Value) (w : World) (x : Int) (hn : NoDet w v) :
  Calls Tryz.prog 17 #[v, .int .i64 x] w (fun e w' => e = .returned (.int .i64 1) ∧ w = w') := by
 have K0 : Keeps Nob w w := Keeps.refl _ _
 refine sy_enter (qc66_0 1) ⟨fr [v, .int .i64 x] 39, []⟩ Tryz.func17 (by kernel_rfl) (by kernel_rfl) <| qr_ [0] <| pkq (.int .i64 0) <| eq_ <| bl_ 0 <| qr_ [0, 1, 2] <| pkq (v) ?_
 refine pcq 38 #[v] Tryz.func38 ((dnone_yes v _ hn).mono ?_)
 rintro e w1 ⟨rfl, rfl⟩
 refine ⟨_, rfl, ?_⟩
 refine pkq (.bool true) <| ey_ <| qr_ [0] <| pkq (.int .i64 1) <| eu_ <| blk_r <| then_r <| so_ (.int .i64 1) ?_
 exact ⟨rfl, rfl⟩
theorem dMove_core (d : Nat) (p : Par) (h : Int) (P : Nat → Option Nat) (w : World) (hd : w.heap[d]? = some (.cells (detC p h P) 79 (0, 0))) (x : Int) (hh0 : ¬ h = 0) (q1 : 1 ≤ x) (q2 : x ≤ 4294967296) (q3 : h ≤ x) (MM : Nat → Prop) (Inv : Nat → World → Prop) (hMd : MM d) (h0 : ∀ W : World, W.heap[d]? = some (.cells (detC p x P) 79 (0, 0)) → Keeps (One d) w W → Inv 0 W) (hst : ∀ (k q : Nat) (W : World), k < 32 → P k = some q → Inv k W → Calls Tryz.prog 41 #[pT d 0, pT q 0] W fun e W' => e = .returned (.tuple #[]) ∧ Inv (k + 1) W' ∧ Keeps MM W W') (hsk : ∀ (k : Nat) (W : World), k < 32 → P k = none → Inv k W → Inv (k + 1) W) (hnb : ∀ (k : Nat) (W W' : World), Inv k W → Keeps Nob W W' → Inv k W') :
  Calls Tryz.prog 17 #[pT d 0, .int .i64 x] w (fun e w' => e = .returned (.int .i64 0) ∧ Inv 32 w' ∧ Keeps MM w w') := by
 have K0 : Keeps MM w w := Keeps.refl _ _
 refine sy_enter (qc66_0 1) ⟨fr [pT d 0, .int .i64 x] 39, []⟩ Tryz.func17 (by kernel_rfl) (by kernel_rfl) <| qr_ [0] <| pkq (.int .i64 0) <| eq_ <| bl_ 0 <| qr_ [0, 1, 2] <| pkq (pT d 0) ?_
 refine pcq 38 #[pT d 0] Tryz.func38 ((dnone_no d p h P _ hd hh0).mono ?_)
 rintro e w1 ⟨rfl, rfl⟩
 refine ⟨_, rfl, ?_⟩
 refine pkq (.bool false) <| en_ <| qr_ [0, 1, 2, 3, 4, 5, 6] <| pkq (.int .i64 x) <| ppq (.bool false) (dcf (((x) : Int) < ((1) : Int)) (by omega)) <| pkq (.bool false) <| pkq (.int .i64 x) <| ppq (.bool false) (dcf (((x) : Int) > ((4294967296) : Int)) (by omega)) <| pkq (.bool false) <| pkq (.bool false) <| en_ <| qr_ [0, 1, 2, 3, 4, 5, 6] <| pkq (.int .i64 x) <| pkq (pT d 0) ?_
 refine pkq (pT d 0) <| pkq (pT d 11) <| ppq (.int .i64 h) (ldc 3 d 11 (rc (hd) (detC_h _ _ _))) <| ppq (.bool false) (dcf (((x) : Int) < ((h) : Int)) (by omega)) <| pkq (.bool false) <| en_ <| s_ <| blk_n <| tqr_ [0, 1, 2, 3, 4] <| pkq (pT d 0) <| pkq (.int .i64 x) <| pkq (pT d 0) <| pkq (pT d 11) <| pce 3 d 11 (.int .i64 x) (detC p x P) hd (rc (hd) (detC_h _ _ _)) (detC_seth _ _ _ _) fun V1 h2 kV1 => ?_
 have h3 : Keeps (One d) w V1 := (Keeps.refl _ _).trans kV1
 have K4 : Keeps MM w V1 := K0.then kV1 (fun i hi hm => by unfold Own.One at hm; subst hm; exact hMd)
 have z5 := kV1.size
 refine eq_ <| qr_ [0, 1, 2, 3, 4] <| pkq (pT d 0) <| pkq (pT d 0) <| pkq (pT d 12) <| ppq (.agg (prt P).toArray) (exec_cast (v := .agg (prt P).toArray) rfl (exec_load_seg 77 (.tmp 30) (by kernel_rfl) d 12 (by kernel_rfl) (prt P) _ _ _ h2 (detC_seg _ _ _) Tryz.underlying77 rfl (by kernel_rfl))) <| pkq (.int .i64 0) <| ps_end <| sy_a ⟨fr [pT d 0, .int .i64 x, ud, ud, .int .i64 0, ud, ud, .bool false, pT d 0, .bool false, .bool false, .int .i64 x, .bool false, .bool false, .int .i64 x, .bool false, .bool false, .bool false, .int .i64 x, pT d 0, pT d 0, pT d 11, .int .i64 h, .bool false, pT d 0, .int .i64 x, pT d 0, pT d 11, pT d 0, pT d 0, pT d 12, .agg (prt P).toArray, .int .i64 0] 8, []⟩ <| then_n <| bl_ 1 ?_
 refine sy_loop (qc66_0 244) (fun a V => ∃ (k : Nat) (u6 u33 u34 u35 u36 u37 u38 u39 u40 : Value), (a = ⟨#[pT d 0, .int .i64 x, ud, ud, .int .i64 0, ud, u6, .bool false, pT d 0, .bool false, .bool false, .int .i64 x, .bool false, .bool false, .int .i64 x, .bool false, .bool false, .bool false, .int .i64 x, pT d 0, pT d 0, pT d 11, .int .i64 h, .bool false, pT d 0, .int .i64 x, pT d 0, pT d 11, pT d 0, pT d 0, pT d 12, .agg (prt P).toArray, iN k, u33, u34, u35, u36, u37, u38, u39, u40], []⟩) ∧ (k ≤ 32) ∧ (Inv k V) ∧ (Keeps MM w V)) (fun a _ => 32 - (intOf (a.tmps.getD 32 undef)).toNat) (by kernel_rfl) ?_ ?_
 ·exact ⟨0, undef, undef, undef, undef, undef, undef, undef, undef, undef, by kernel_rfl, by omega, (h0 _ h2 h3), K4⟩
 ·rintro a V6 ⟨k, u6, u33, u34, u35, u36, u37, u38, u39, u40, rfl, hk_, h7, K8⟩
  rcases three P k with ge_k | ⟨lt_k, hPk⟩ | ⟨lt_k, q, hPk⟩
  ·have eq_k : k = 32 := by omega
   refine qr_ [0] <| ppq (.bool false) (dcf ((((k : Nat) : Int)) < ((32) : Int)) (by omega)) <| eq_ <| n_ <| sy_exit 1 (by kernel_rfl) <| then_e <| then_e <| blk_e <| tqr_ [0] <| pkq (.int .i64 0) <| eu_ <| so_ (.int .i64 0) ?_
   exact ⟨rfl, eq_k ▸ h7, K8⟩
  ·show _
   refine qr_ [0] <| ppq (.bool true) (dct ((((k : Nat) : Int)) < ((32) : Int)) (by omega)) <| eq_ <| y_ <| s_ <| tq_ <| bl_ 2 <| qr_ [0, 1] <| ppq (.pointer none) (exec_index_ptr 77 (.tmp 31) (.tmp 32) (by kernel_rfl) (prt P).toArray (by kernel_rfl) .i64 k (by kernel_rfl) 32 76 Tryz.underlying77 ⟨_, Tryz.underlying76⟩ (by kernel_rfl) (by omega) _ (prt_get P lt_k hPk)) <| pkq (.pointer none) <| eqr_ [0, 1] <| pkq (.pointer none) <| pkq (.bool false) <| en_ ?_
   refine s_ <| blk_n <| tr_ [0, 1] <| ppq (iN (k + 1)) (exec_cast (congrArg (Value.int .i64) (wrapN (k + 1) (by omega))) (by kernel_rfl)) <| pkq (iN (k + 1)) <| et_ ?_
   refine ⟨⟨k + 1, (.pointer none), (.bool true), (.pointer none), (.pointer none), (.bool false), u37, u38, u39, (iN (k + 1)), by kernel_rfl, by omega, hsk k _ lt_k hPk h7, K8⟩, ?_⟩
   exact lt_meas (x := 32 - (k + 1)) (y := 32 - k) (by kernel_rfl) (by kernel_rfl) (by omega)
  ·show _
   refine qr_ [0] <| ppq (.bool true) (dct ((((k : Nat) : Int)) < ((32) : Int)) (by omega)) <| eq_ <| y_ <| s_ <| tq_ <| bl_ 2 <| qr_ [0, 1] <| ppq (pT q 0) (exec_index_ptr 77 (.tmp 31) (.tmp 32) (by kernel_rfl) (prt P).toArray (by kernel_rfl) .i64 k (by kernel_rfl) 32 76 Tryz.underlying77 ⟨_, Tryz.underlying76⟩ (by kernel_rfl) (by omega) _ (prt_get P lt_k hPk)) <| pkq (pT q 0) <| eqr_ [0, 1] <| pkq (pT q 0) <| pkq (.bool true) <| ey_ ?_
   refine r_ [0, 1, 2] <| pkq (pT d 0) <| pkq (pT q 0) ?_
   refine pcq 41 #[pT d 0, pT q 0] Tryz.func41 ((hst k q _ lt_k hPk h7).mono ?_)
   rintro e V9 ⟨rfl, hIV9, kV9⟩
   refine ⟨_, rfl, ?_⟩
   have K10 : Keeps MM w V9 := K8.then kV9 (fun i hi hm => hm)
   have z11 := kV9.size
   refine ps_end <| blk_n <| tr_ [0, 1] <| ppq (iN (k + 1)) (exec_cast (congrArg (Value.int .i64) (wrapN (k + 1) (by omega))) (by kernel_rfl)) <| pkq (iN (k + 1)) <| et_ ?_
   refine ⟨⟨k + 1, (pT q 0), (.bool true), (pT q 0), (pT q 0), (.bool true), (pT d 0), (pT q 0), (.tuple #[]), (iN (k + 1)), by kernel_rfl, by omega, hIV9, K10⟩, ?_⟩
   exact lt_meas (x := 32 - (k + 1)) (y := 32 - k) (by kernel_rfl) (by kernel_rfl) (by omega)
/-- A detector on its way up: its first k parts stand at the new height. -/
def DetM (d : Nat) (p : Par) (h h' : Int) (A : List Att) (Q : List Pro) (P0 : Nat → Option PD) (k : Nat) (w : World) : Prop :=
 ∃ P who, Pq P = Pq P0 ∧ (∀ j, DF d P j → DF d P0 j) ∧ (∀ j, DR P j → DR P0 j) ∧ DetP w d p h' (fun u => if u < k then h' else h) A Q P who
theorem DetP.rise {w w' : World} {d : Nat} {p : Par} {h h' : Int} {g : Nat → Int} {A : List Att} {Q : List Pro} {P : Nat → Option PD} {who : Nat → Nat} (s : DetP w d p h g A Q P who) (k : Keeps (One d) w w') (hd : w'.heap[d]? = some (.cells (detC p h' (Pq P)) 79 (0, 0))) : DetP w' d p h' g A Q P who := by
 have hst : Still w (One d) := ⟨Odd.one s.blk (by decide), Odd.one s.blk (by decide), Odd.one s.blk (by decide), Odd.one s.blk (by decide)⟩
 refine ⟨hd, fun u y hu hy => ?_, s.none_, s.who0, s.who1, s.who2⟩
 obtain ⟨b1, b2, b3⟩ := s.part u y hu hy
 refine ⟨b1.keeps k (fun j hj e2 => ?_) (fun j hj e2 => ?_) hst, b2, b3⟩
 ·have a := s.who1 u y hu hy j hj; have b := s.who0; rw [show j = d from e2] at a; omega
 ·have a := s.who2 u y hu hy j hj; have b := s.who0; rw [show j = d from e2] at a; omega
theorem step_g {h h' : Int} {k : Nat} : (fun u => if u = k then h' else if u < k then h' else h) = (fun u : Nat => if u < k + 1 then h' else h) := by
 funext u
 by_cases a : u = k
 ·rw [if_pos a, if_pos (by omega)]
 ·rw [if_neg a]
  by_cases b : u < k
  ·rw [if_pos b, if_pos (by omega)]
  ·rw [if_neg b, if_neg (by omega)]
/-- Move: the detector goes on to a height. -/
theorem dMove_on {w : World} {d : Nat} {p : Par} {h x : Int} {A : List Att} {Q : List Pro} {P : Nat → Option PD} {who : Nat → Nat} (s : DetP w d p h (fun _ => h) A Q P who) (hk : DOk p h) (hi : DInv p h A Q) (q2 : x ≤ 4294967296) (q3 : h ≤ x) :
  Calls Tryz.prog 17 #[pT d 0, .int .i64 x] w fun e w' => e = .returned (.int .i64 0) ∧ (∃ P' who', (∀ j, DF d P' j → DF d P j) ∧ (∀ j, DR P' j → DR P j) ∧ DetP w' d p x (fun _ => x) A Q P' who') ∧ Keeps (DF d P) w w' := by
 have hx : DOk p x := ⟨hk.1, hk.2.1, by have := hk.2.2; omega, q2⟩
 refine (dMove_core d p h (Pq P) w s.blk x (by have := hk.2.2; omega) hx.2.2.1 q2 q3 (DF d P) (DetM d p h x A Q P) (.inl rfl) (fun W hd k => ⟨P, who, rfl, fun _ e => e, fun _ e => e, ?_⟩) (fun k q W hlt hP hI => ?_) (fun k W hlt hP hI => ?_) (fun k W W' hI hK => ?_)).mono ?_
 ·have e : (fun u : Nat => if u < 0 then x else h) = fun _ => h := by funext u; exact if_neg (by omega)
  rw [e]; exact s.rise k hd
 ·obtain ⟨P1, who1, e1, e2, e3, t⟩ := hI
  obtain ⟨y, hy, rfl⟩ : ∃ y, P1 k = some y ∧ y.q = q := by
   rw [← e1] at hP
   unfold Pq at hP
   cases hc : P1 k with
   | none => rw [hc] at hP; cases hP
   | some y => rw [hc] at hP; exact ⟨y, rfl, Option.some.inj hP⟩
  have eg : (if k < k then x else h) = h := if_neg (by omega)
  refine (dgoes_ok t hx hlt hy (by simp only [eg]; exact hk) (by simp only [eg]; exact q3) (by simp only [eg]; exact fun y hy => hi.top (k : Int) y hy)).mono ?_
  rintro e w' ⟨rfl, x', who', a1, a2, a3, a4, a5⟩
  refine ⟨rfl, ⟨_, who', ?_, fun j hj => e2 j ?_, fun j hj => e3 j ?_, by rw [← step_g]; exact a4⟩, a5.mono fun j _ hj => e2 j (.inr ⟨k, y, hlt, hy, hj⟩)⟩
  ·rw [← e1]; funext u; unfold Pq
   by_cases hu : u = k
   ·subst hu; simp only [if_true, hy, Option.map_some, a1]
   ·simp only [if_neg hu]
  ·rcases hj with rfl | ⟨u, z, hu, hz, hj⟩
   ·exact .inl rfl
   ·by_cases hc : u = k
    ·subst hc
     simp only [if_true, Option.some.injEq] at hz
     subst hz; exact .inr ⟨u, y, hlt, hy, a2 ▸ hj⟩
    ·simp only [if_neg hc] at hz; exact .inr ⟨u, z, hu, hz, hj⟩
  ·obtain ⟨u, z, hu, hz, hj⟩ := hj
   by_cases hc : u = k
   ·subst hc
    simp only [if_true, Option.some.injEq] at hz
    subst hz; exact ⟨u, y, hlt, hy, a3 ▸ hj⟩
   ·simp only [if_neg hc] at hz; exact ⟨u, z, hu, hz, hj⟩
 ·obtain ⟨P1, who1, e1, e2, e3, t⟩ := hI
  have hn : P1 k = none := by
   rw [← e1] at hP
   unfold Pq at hP
   cases hc : P1 k with
   | none => rfl
   | some y => rw [hc] at hP; cases hP
  refine ⟨P1, who1, e1, e2, e3, t.blk, fun u y hu hy => ?_, t.none_, t.who0, t.who1, t.who2⟩
  have hne : u ≠ k := fun e => by rw [e, hn] at hy; cases hy
  have hc := t.part u y hu hy
  have eg : (if u < k then x else h) = (if u < k + 1 then x else h) := by
   by_cases b : u < k
   ·rw [if_pos b, if_pos (by omega)]
   ·rw [if_neg b, if_neg (by omega)]
  simp only [eg] at hc
  exact hc
 ·obtain ⟨P1, who1, e1, e2, e3, t⟩ := hI
  exact ⟨P1, who1, e1, e2, e3, t.keepsN hK⟩
 ·rintro e w' ⟨rfl, ⟨P1, who1, e1, e2, e3, t⟩, k⟩
  refine ⟨rfl, ⟨P1, who1, e2, e3, t.blk, fun u y hu hy => ?_, t.none_, t.who0, t.who1, t.who2⟩, k⟩
  have hc := t.part u y hu hy
  simp only [if_pos hu] at hc
  exact hc
end Go.Proofs.YthmclmbeflbhhaaGreat
namespace Go.Proofs.YthmclmbeflbhhaaGreat
set_option maxRecDepth 100000
set_option maxHeartbeats 4000000
open Go Go.RowKit Go.Own Go.Shelf
theorem check_at (p : Par) (hp : p.Ok) {c y : Int} (hc : p.check = (c, y)) (w : World) : Calls Tryz.prog 42 #[.agg p.cells] w fun e w' => e = .returned (.tuple #[.int .i64 c, .int .i64 y]) ∧ Keeps Nob w w' := by
 have h := pCheck_ok p hp w
 rw [hc] at h; exact h
noncomputable def qc67_0 (n : Nat) : Code := partOf Tryz.f19 n
theorem dNew_fine (p : Par) (w : World) (hp : p.Ok) (y : Int) (hc : p.check = (0, y)) :
  Calls Tryz.prog 19 #[.agg p.cells] w (fun e w' => ∃ d, e = .returned (.tuple #[pT d 0, .int .i64 0]) ∧ w'.heap[d]? = some (.cells (detC p 1 fun _ => none) 79 (0, 0)) ∧ w.heap.size ≤ d ∧ Keeps Nob w w') := by
 have K0 : Keeps Nob w w := Keeps.refl _ _
 refine sy_enter (qc67_0 1) ⟨fr [.agg p.cells] 16, []⟩ Tryz.func19 (by kernel_rfl) (by kernel_rfl) <| qr_ [0, 1, 2] <| pbx 47 p.cells (.agg p.cells) fun V1 g eg h2 kV1 => ?_
 have n3 := nk eg K0
 have K4 := K0.nn kV1
 have z5 := kV1.size
 refine pkq (.pointer none) <| pkq (.int .i64 0) <| eq_ <| qr_ [0, 1, 2, 3, 4, 5, 6] <| ppq (.agg p.cells) (exec_load_row 47 (.tmp 1) (by kernel_rfl) _ (by kernel_rfl) 47 p.cells (0, 0) _ h2 Tryz.underlying47 rfl (by kernel_rfl)) ?_
 refine pcq 42 #[.agg p.cells] Tryz.func42 ((check_at p hp hc _).mono ?_)
 rintro e V6 ⟨rfl, kV6⟩
 refine ⟨_, rfl, ?_⟩
 have ⟨K8, z9, h7⟩ := kV6.z1 K4 h2
 refine pkq (.tuple #[.int .i64 0, .int .i64 y]) <| pkq (.int .i64 0) <| pkq (.int .i64 y) <| pkq (.int .i64 0) <| pkq (.int .i64 y) <| eqr_ [0, 1] <| pkq (.int .i64 0) <| pkq (.bool false) <| en_ <| s_ <| tqr_ [0, 1, 2, 3, 4] <| ppq (.agg p.cells) (exec_load_row 47 (.tmp 1) (by kernel_rfl) _ (by kernel_rfl) 47 p.cells (0, 0) _ h7 Tryz.underlying47 rfl (by kernel_rfl)) <| pkq (.agg (detC p 1 fun _ => none)) ?_
 refine pbx 79 ((detC p 1 fun _ => none)) (.agg (detC p 1 fun _ => none)) fun V10 d ed h11 kV10 => ?_
 have n12 := nl ed h7
 have n13 := nk ed K8
 have K15 := K8.nn kV10
 have z16 := kV10.size
 refine pkq (pT d 0) <| pkq (.int .i64 0) <| eu_ <| so_ (.tuple #[pT d 0, .int .i64 0]) ?_
 exact ⟨_, rfl, h11, by omega, K15⟩
end Go.Proofs.YthmclmbeflbhhaaGreat
namespace Go.Proofs.YthmclmbeflbhhaaGreat
set_option maxRecDepth 100000
set_option maxHeartbeats 4000000
open Go Go.RowKit Go.Own Go.Shelf
theorem Att.tl {a : Att} (h : a.r.length = 32) : a.cl.length = 36 := by show a.c.toList.length = 36; have := Att.c_size a h; simpa using this
theorem Pro.tl {a : Pro} (h : a.r.length = 32) : a.cl.length = 35 := by show a.c.toList.length = 35; have := Pro.c_size a h; simpa using this
/-- A verdict's cells: its kind, its attestation, its proposal, its first height. -/
def vdC (k : Int) (a b : List Value) (f : Int) : Array Value := (.int .i64 k :: (a ++ (b ++ [.int .i64 f]))).toArray
section
variable {k f : Int} {a b : List Value} (la : a.length = 36) (lb : b.length = 35)
include la lb
theorem vdC_size : (vdC k a b f).size = 73 := by simp [vdC, la, lb]
theorem vdC_first : (vdC k a b f)[72]? = some (.int .i64 f) := by
 unfold vdC
 rw [List.getElem?_toArray, List.getElem?_cons_succ, List.getElem?_append_right (by omega), List.getElem?_append_right (by omega), la, lb]; rfl
theorem vdC_setf (x : Int) : (vdC k a b f).setIfInBounds 72 (.int .i64 x) = vdC k a b x := by
 unfold vdC
 apply Array.toList_inj.1
 rw [Array.toList_setIfInBounds, List.set_cons_succ, List.set_append_right _ _ (by omega), List.set_append_right _ _ (by omega), la, lb]; rfl
omit lb in
theorem vdC_seta (_lb : b.length = 35) {x : List Value} (lx : x.length = 36) : seg (vdC k a b f) 1 x = vdC k x b f := by
 unfold vdC seg
 simp only [List.take_succ_cons, List.take_zero, lx, List.drop_succ_cons, show 1 + 36 = 36 + 1 from rfl]
 rw [List.drop_left' la]; simp
theorem vdC_setb {x : List Value} (lx : x.length = 35) : seg (vdC k a b f) 37 x = vdC k a x f := by
 unfold vdC seg
 simp only [List.take_succ_cons, lx, show 37 + 35 = 72 from rfl, List.drop_succ_cons, show (37 : Nat) = 36 + 1 from rfl]
 rw [List.take_left' la, List.drop_append, la, List.drop_of_length_le (by omega), List.nil_append, List.drop_left' (by omega)]; simp
end
noncomputable def qc68_2 (n : Nat) : Code := partOf Tryz.f120 n
theorem dby1_ok (bv g : Nat) (k f : Int) (x y : List Value) (la : x.length = 36) (lb : y.length = 35) (x0 : Att) (hr_x0 : x0.r.length = 32) (hne : g ≠ bv) (w : World) (hg : w.heap[g]? = some (.cells (Att.c x0) 28 (0, 0))) (hb : w.heap[bv]? = some (.cells (vdC k x y f) 57 (0, 0))) :
  Calls Tryz.prog 120 #[pT bv 0, pT g 0] w (fun e w' => e = .returned (.tuple #[]) ∧ w'.heap[bv]? = some (.cells (vdC k x0.cl y f) 57 (0, 0)) ∧ Keeps (One bv) w w') := by
 have K0 : Keeps (One bv) w w := Keeps.refl _ _
 refine sy_enter (qc68_2 1) ⟨fr [pT bv 0, pT g 0] 5, []⟩ Tryz.func120 (by kernel_rfl) (by kernel_rfl) <| r_ [0, 1, 2, 3, 4] <| pkq (pT bv 0) <| ppq (.agg (Att.c x0)) (ldr 28 g (hg) (by rw [Att.c_size _ hr_x0]; kernel_rfl)) <| pkq (pT bv 0) <| pkq (pT bv 1) ?_
 obtain ⟨V1, eV1⟩ : ∃ V, w.setCells bv 1 (Att.c x0).toList = V := ⟨_, rfl⟩
 have kV1 : Keeps (One bv) w V1 := eV1 ▸ Keeps.setCells _ _ _ _
 have h2 : V1.heap[bv]? = some (.cells (vdC k x0.cl y f) 57 (0, 0)) := eV1 ▸ (heap_setCells _ _ (Att.c x0).toList 1 _ _ hb (by rw [vdC_size la lb, show (Att.c x0).toList.length = 36 from Att.tl hr_x0]; decide)).trans (congrArg (fun c => some (Obj.cells c 57 (0, 0))) (vdC_seta la lb (Att.tl hr_x0)))
 refine pzq (w' := V1) (by rw [← eV1]; exact exec_store_mid 28 (.tmp 6) (.tmp 4) (by kernel_rfl) bv 1 (by kernel_rfl) (Att.c x0) (by kernel_rfl) _ _ hb (by rw [vdC_size la lb, Att.c_size _ hr_x0]; decide) (by rw [Att.c_size _ hr_x0]; kernel_rfl) (Att.c_one _)) ?_
 clear eV1
 have K4 : Keeps (One bv) w V1 := K0.then kV1 (fun i hi hm => by unfold Own.One at hm; subst hm; exact rfl)
 have z5 := kV1.size
 refine ps_end <| sy_fall (.tuple #[]) rfl (by kernel_rfl) ?_
 exact ⟨rfl, h2, K4⟩
noncomputable def qc68_0 (n : Nat) : Code := partOf Tryz.f53 n
theorem dPropose1_ok (bv g : Nat) (k f : Int) (x y : List Value) (la : x.length = 36) (lb : y.length = 35) (x0 : Pro) (hr_x0 : x0.r.length = 32) (hne : g ≠ bv) (w : World) (hg : w.heap[g]? = some (.cells (Pro.c x0) 37 (0, 0))) (hb : w.heap[bv]? = some (.cells (vdC k x y f) 57 (0, 0))) :
  Calls Tryz.prog 53 #[pT bv 0, pT g 0] w (fun e w' => e = .returned (.tuple #[]) ∧ w'.heap[bv]? = some (.cells (vdC k x x0.cl f) 57 (0, 0)) ∧ Keeps (One bv) w w') := by
 have K0 : Keeps (One bv) w w := Keeps.refl _ _
 refine sy_enter (qc68_0 1) ⟨fr [pT bv 0, pT g 0] 5, []⟩ Tryz.func53 (by kernel_rfl) (by kernel_rfl) <| r_ [0, 1, 2, 3, 4] <| pkq (pT bv 0) <| ppq (.agg (Pro.c x0)) (ldr 37 g (hg) (by rw [Pro.c_size _ hr_x0]; kernel_rfl)) <| pkq (pT bv 0) <| pkq (pT bv 37) ?_
 obtain ⟨V1, eV1⟩ : ∃ V, w.setCells bv 37 (Pro.c x0).toList = V := ⟨_, rfl⟩
 have kV1 : Keeps (One bv) w V1 := eV1 ▸ Keeps.setCells _ _ _ _
 have h2 : V1.heap[bv]? = some (.cells (vdC k x x0.cl f) 57 (0, 0)) := eV1 ▸ (heap_setCells _ _ (Pro.c x0).toList 37 _ _ hb (by rw [vdC_size la lb, show (Pro.c x0).toList.length = 35 from Pro.tl hr_x0]; decide)).trans (congrArg (fun c => some (Obj.cells c 57 (0, 0))) (vdC_setb la lb (Pro.tl hr_x0)))
 refine pzq (w' := V1) (by rw [← eV1]; exact exec_store_mid 37 (.tmp 6) (.tmp 4) (by kernel_rfl) bv 37 (by kernel_rfl) (Pro.c x0) (by kernel_rfl) _ _ hb (by rw [vdC_size la lb, Pro.c_size _ hr_x0]; decide) (by rw [Pro.c_size _ hr_x0]; kernel_rfl) (Pro.c_one _)) ?_
 clear eV1
 have K4 : Keeps (One bv) w V1 := K0.then kV1 (fun i hi hm => by unfold Own.One at hm; subst hm; exact rfl)
 have z5 := kV1.size
 refine ps_end <| sy_fall (.tuple #[]) rfl (by kernel_rfl) ?_
 exact ⟨rfl, h2, K4⟩
noncomputable def qc68_1 (n : Nat) : Code := partOf Tryz.f57 n
theorem dPropose2_ok (bv g : Nat) (k f : Int) (x y : List Value) (la : x.length = 36) (lb : y.length = 35) (x0 : Pro) (hr_x0 : x0.r.length = 32) (hne : g ≠ bv) (w : World) (hg : w.heap[g]? = some (.cells (Pro.c x0) 37 (0, 0))) (hb : w.heap[bv]? = some (.cells (vdC k x y f) 57 (0, 0))) :
  Calls Tryz.prog 57 #[pT bv 0, pT g 0] w (fun e w' => e = .returned (.tuple #[]) ∧ w'.heap[bv]? = some (.cells (vdC k x y x0.h) 57 (0, 0)) ∧ Keeps (One bv) w w') := by
 have K0 : Keeps (One bv) w w := Keeps.refl _ _
 refine sy_enter (qc68_1 1) ⟨fr [pT bv 0, pT g 0] 6, []⟩ Tryz.func57 (by kernel_rfl) (by kernel_rfl) <| r_ [0, 1, 2, 3, 4, 5] <| pkq (pT bv 0) <| pkq (pT g 1) <| ppq (.int .i64 x0.h) (ldc 3 g 1 (rc (hg) (Pro.c_1 _))) <| pkq (pT bv 0) <| pkq (pT bv 72) <| pce 3 bv 72 (.int .i64 x0.h) (vdC k x y x0.h) hb (rc (hb) (vdC_first la lb)) (vdC_setf la lb _) fun V1 h2 kV1 => ?_
 have K4 : Keeps (One bv) w V1 := K0.then kV1 (fun i hi hm => by unfold Own.One at hm; subst hm; exact rfl)
 have z5 := kV1.size
 refine ps_end <| sy_fall (.tuple #[]) rfl (by kernel_rfl) ?_
 exact ⟨rfl, h2, K4⟩
noncomputable def part_dby (n : Nat) : Code := partOf Tryz.f86 n
theorem dby_ok (x0 : Att) (w : World) :
  Calls Tryz.prog 86 #[.agg (Att.c x0)] w (fun e w' => ∃ g, e = .returned (.func (.func 120) #[] #[pT g 0]) ∧ w'.heap[g]? = some (.cells (Att.c x0) 28 (0, 0)) ∧ w.heap.size ≤ g ∧ Keeps Nob w w') := by
 have K0 : Keeps Nob w w := Keeps.refl _ _
 refine sy_enter (part_dby 1) ⟨#[.agg (Att.c x0), ud, ud, ud], []⟩ Tryz.func86 (by kernel_rfl) (by kernel_rfl) <| qr_ [0, 1] <| pbx 28 ((Att.c x0)) (.agg (Att.c x0)) fun V1 g eg h2 kV1 => ?_
 have n3 := nk eg K0
 have K4 := K0.nn kV1
 have z5 := kV1.size
 refine pkq (.nilFunc) <| eqr_ [0, 1] <| pkq (.func (.func 120) #[] #[pT g 0]) <| pkq (.func (.func 120) #[] #[pT g 0]) <| eu_ <| so_ (.func (.func 120) #[] #[pT g 0]) ?_
 exact ⟨g, rfl, h2, by omega, K4⟩
end Go.Proofs.YthmclmbeflbhhaaGreat
namespace Go.Proofs.YthmclmbeflbhhaaGreat
set_option maxRecDepth 100000
set_option maxHeartbeats 4000000
open Go Go.RowKit Go.Own Go.Shelf
noncomputable def part_dat (n : Nat) : Code := partOf Tryz.f87 n
theorem dat_ok (d gl n : Nat) (w : World) :
  Calls Tryz.prog 87 #[pT d 0, .slice (some ⟨gl, 0, none⟩) n n] w (fun e w' => ∃ gs gd, e = .returned (.func (.func 121) #[] #[pT gs 0, pT gd 0]) ∧ w'.heap[gs]? = some (.cells #[.slice (some ⟨gl, 0, none⟩) n n] 50 (0, 0)) ∧ w'.heap[gd]? = some (.cells #[pT d 0] 22 (0, 0)) ∧ w.heap.size ≤ gs ∧ w.heap.size ≤ gd ∧ Keeps Nob w w') := by
 have K0 : Keeps Nob w w := Keeps.refl _ _
 refine sy_enter (part_dat 1) ⟨#[pT d 0, .slice (some ⟨gl, 0, none⟩) n n, ud, ud, ud, ud], []⟩ Tryz.func87 (by kernel_rfl) (by kernel_rfl) <| qr_ [0, 1, 2] <| pbx 22 (#[pT d 0]) (pT d 0) fun V1 gd egd h2 kV1 => ?_
 have n3 := nk egd K0
 have K4 := K0.nn kV1
 have z5 := kV1.size
 refine pbx 50 (#[.slice (some ⟨gl, 0, none⟩) n n]) (.slice (some ⟨gl, 0, none⟩) n n) fun V6 gs egs h7 kV6 => ?_
 have n8 := nl egs h2
 have n9 := nk egs K4
 have ⟨K11, z12, h10⟩ := kV6.z1 K4 h2
 refine pkq (.nilFunc) <| eqr_ [0, 1] <| pkq (.func (.func 121) #[] #[pT gs 0, pT gd 0]) <| pkq (.func (.func 121) #[] #[pT gs 0, pT gd 0]) <| eu_ <| so_ (.func (.func 121) #[] #[pT gs 0, pT gd 0]) ?_
 exact ⟨gs, gd, rfl, h7, h10, by omega, by omega, K11⟩
noncomputable def qc69_0 (n : Nat) : Code := partOf Tryz.f121 n
theorem dat1_1 (bv gs gd gl d : Nat) (x0 : Int) (k f : Int) (x y : List Value) (la : x.length = 36) (lb : y.length = 35) (p : Par) (hp : p.Ok) (h : Int) (P : Nat → Option Nat) (w : World) (hmx : i64ok (max 0 x0)) (hb : w.heap[bv]? = some (.cells (vdC k x y f) 57 (0, 0))) (hs : w.heap[gs]? = some (.cells #[.slice (some ⟨gl, 0, none⟩) 1 1] 50 (0, 0))) (hgd : w.heap[gd]? = some (.cells #[pT d 0] 22 (0, 0))) (hl : w.heap[gl]? = some (.cells #[.int .i64 x0] 3 (0, 0))) (hd : w.heap[d]? = some (.cells (detC p h P) 79 (0, 0))) :
  Calls Tryz.prog 121 #[pT bv 0, pT gs 0, pT gd 0] w (fun e w' => e = .returned (.tuple #[]) ∧ w'.heap[bv]? = some (.cells (vdC k x y (p.first (max 0 x0)).1) 57 (0, 0)) ∧ Keeps (One bv) w w') := by
 have n1 : gs ≠ bv := fun e => by subst e; rw [hs] at hb; injection hb with hb; injection hb with _ hb; exact absurd hb (by decide)
 have n2 : gd ≠ bv := fun e => by subst e; rw [hgd] at hb; injection hb with hb; injection hb with _ hb; exact absurd hb (by decide)
 have n3 : gl ≠ bv := fun e => by subst e; rw [hl] at hb; injection hb with hb; injection hb with _ hb; exact absurd hb (by decide)
 have n4 : d ≠ bv := fun e => by subst e; rw [hd] at hb; injection hb with hb; injection hb with _ hb; exact absurd hb (by decide)
 have K0 : Keeps (One bv) w w := Keeps.refl _ _
 refine sy_enter (qc69_0 1) ⟨fr [pT bv 0, pT gs 0, pT gd 0] 26, []⟩ Tryz.func121 (by kernel_rfl) (by kernel_rfl) <| qr_ [0] <| pkq (.int .i64 0) <| eq_ <| qr_ [0, 1, 2] <| ppq (.slice (some ⟨gl, 0, none⟩) 1 1) (ldk 50 gs 0 hs) <| ppq (.int .i64 1) (exec_len (.tmp 7) 50 _ (by kernel_rfl) Tryz.underlying50 (some ⟨gl, 0, none⟩) 1 1 (by kernel_rfl)) <| pkq (.int .i64 0) <| et_ <| bl_ 0 <| sy_rounds 2 (qc69_0 52) (by kernel_rfl) <| rd_step <| qr_ [0] <| pkq (.bool true) ?_
 refine eq_ <| y_ <| s_ <| tq_ <| bl_ 1 <| qr_ [0, 1, 2] <| ppq (pT gl 0) (exec_cast (v := pT gl (0 + 0 * 1)) (by simp) (exec_indexAt_slice 50 (.tmp 7) (.tmp 9) (by kernel_rfl) gl 0 1 1 (by kernel_rfl) .i64 0 (by kernel_rfl) _ 1 Tryz.underlying50 (by kernel_rfl) (by omega))) <| ppq (.int .i64 x0) (ldk 3 gl 0 hl) <| pkq (.int .i64 x0) <| er_ [0, 1, 2, 3] <| pkq (.int .i64 0) <| pkq (.int .i64 x0) <| ppq (.int .i64 (max 0 x0)) (exec_max (.tmp 13) (.tmp 14) #[3, 3] (by kernel_rfl) .i64 0 x0 (by kernel_rfl) (by kernel_rfl)) <| pkq (.int .i64 (max 0 x0)) ?_
 refine ps_end <| blk_n <| tr_ [0, 1] <| pkq (.int .i64 1) <| pkq (.int .i64 1) <| et_ <| rd_step <| qr_ [0] <| pkq (.bool false) <| eq_ <| n_ <| sy_exit 0 (by kernel_rfl) <| then_e <| then_e ?_
 refine blk_e <| tr_ [0, 1, 2, 3, 4, 5, 6, 7, 8, 9, 10, 11, 12] <| pkq (pT bv 0) <| ppq (pT d 0) (ldk 22 gd 0 hgd) <| pkq (pT d 0) <| pkq (pT d 0) <| ppq (.agg p.cells) (exec_cast (v := .agg p.cells.toList.toArray) rfl (exec_load_seg 47 (.tmp 21) (by kernel_rfl) d 0 (by kernel_rfl) p.cells.toList _ _ _ hd (detC_pseg _ _ _) Tryz.underlying47 rfl (by kernel_rfl))) <| pkq (.int .i64 (max 0 x0)) ?_
 refine pcq 29 #[.agg p.cells, .int .i64 (max 0 x0)] Tryz.func29 ((pFirst_ok p hp (max 0 x0) hmx _).mono ?_)
 rintro e V1 ⟨rfl, kV1⟩
 refine ⟨_, rfl, ?_⟩
 have ⟨K7, z8, h2⟩ := kV1.z1 K0 hb
 refine pkq (.tuple #[.int .i64 (p.first (max 0 x0)).1, .int .i64 (p.first (max 0 x0)).2]) <| pkq (.int .i64 (p.first (max 0 x0)).1) <| pkq (.int .i64 (p.first (max 0 x0)).2) <| pkq (pT bv 0) <| pkq (pT bv 72) <| pce 3 bv 72 (.int .i64 (p.first (max 0 x0)).1) (vdC k x y ((p.first (max 0 x0)).1)) h2 (rc (h2) (vdC_first la lb)) (vdC_setf la lb _) fun V9 h10 kV9 => ?_
 have K15 : Keeps (One bv) w V9 := K7.then kV9 (fun i hi hm => by unfold Own.One at hm; subst hm; exact rfl)
 have z16 := kV9.size
 refine ps_end <| sy_a ⟨#[pT bv 0, pT gs 0, pT gd 0, ud, .int .i64 (max 0 x0), ud, .int .i64 x0, .slice (some ⟨gl, 0, none⟩) 1 1, .int .i64 1, .int .i64 1, .bool false, pT gl 0, .int .i64 x0, .int .i64 0, .int .i64 x0, .int .i64 (max 0 x0), .int .i64 1, .tuple #[.int .i64 (p.first (max 0 x0)).1, .int .i64 (p.first (max 0 x0)).2], pT bv 0, pT d 0, pT d 0, pT d 0, .agg p.cells, .int .i64 (max 0 x0), .tuple #[.int .i64 (p.first (max 0 x0)).1, .int .i64 (p.first (max 0 x0)).2], .int .i64 (p.first (max 0 x0)).1, .int .i64 (p.first (max 0 x0)).2, pT bv 0, pT bv 72], []⟩ <| sy_fall (.tuple #[]) rfl (by kernel_rfl) ?_
 exact ⟨rfl, h10, K15⟩
theorem dat1_2 (bv gs gd gl d : Nat) (x0 x1 : Int) (k f : Int) (x y : List Value) (la : x.length = 36) (lb : y.length = 35) (p : Par) (hp : p.Ok) (h : Int) (P : Nat → Option Nat) (w : World) (hmx : i64ok (max (max 0 x0) x1)) (hb : w.heap[bv]? = some (.cells (vdC k x y f) 57 (0, 0))) (hs : w.heap[gs]? = some (.cells #[.slice (some ⟨gl, 0, none⟩) 2 2] 50 (0, 0))) (hgd : w.heap[gd]? = some (.cells #[pT d 0] 22 (0, 0))) (hl : w.heap[gl]? = some (.cells #[.int .i64 x0, .int .i64 x1] 3 (0, 0))) (hd : w.heap[d]? = some (.cells (detC p h P) 79 (0, 0))) :
  Calls Tryz.prog 121 #[pT bv 0, pT gs 0, pT gd 0] w (fun e w' => e = .returned (.tuple #[]) ∧ w'.heap[bv]? = some (.cells (vdC k x y (p.first (max (max 0 x0) x1)).1) 57 (0, 0)) ∧ Keeps (One bv) w w') := by
 have n1 : gs ≠ bv := fun e => by subst e; rw [hs] at hb; injection hb with hb; injection hb with _ hb; exact absurd hb (by decide)
 have n2 : gd ≠ bv := fun e => by subst e; rw [hgd] at hb; injection hb with hb; injection hb with _ hb; exact absurd hb (by decide)
 have n3 : gl ≠ bv := fun e => by subst e; rw [hl] at hb; injection hb with hb; injection hb with _ hb; exact absurd hb (by decide)
 have n4 : d ≠ bv := fun e => by subst e; rw [hd] at hb; injection hb with hb; injection hb with _ hb; exact absurd hb (by decide)
 have K0 : Keeps (One bv) w w := Keeps.refl _ _
 refine sy_enter (qc69_0 1) ⟨fr [pT bv 0, pT gs 0, pT gd 0] 26, []⟩ Tryz.func121 (by kernel_rfl) (by kernel_rfl) <| qr_ [0] <| pkq (.int .i64 0) <| eq_ <| qr_ [0, 1, 2] <| ppq (.slice (some ⟨gl, 0, none⟩) 2 2) (ldk 50 gs 0 hs) <| ppq (.int .i64 2) (exec_len (.tmp 7) 50 _ (by kernel_rfl) Tryz.underlying50 (some ⟨gl, 0, none⟩) 2 2 (by kernel_rfl)) <| pkq (.int .i64 0) <| et_ <| bl_ 0 <| sy_rounds 3 (qc69_0 52) (by kernel_rfl) <| rd_step <| qr_ [0] <| pkq (.bool true) ?_
 refine eq_ <| y_ <| s_ <| tq_ <| bl_ 1 <| qr_ [0, 1, 2] <| ppq (pT gl 0) (exec_cast (v := pT gl (0 + 0 * 1)) (by simp) (exec_indexAt_slice 50 (.tmp 7) (.tmp 9) (by kernel_rfl) gl 0 2 2 (by kernel_rfl) .i64 0 (by kernel_rfl) _ 1 Tryz.underlying50 (by kernel_rfl) (by omega))) <| ppq (.int .i64 x0) (ldk 3 gl 0 hl) <| pkq (.int .i64 x0) <| er_ [0, 1, 2, 3] <| pkq (.int .i64 0) <| pkq (.int .i64 x0) <| ppq (.int .i64 (max 0 x0)) (exec_max (.tmp 13) (.tmp 14) #[3, 3] (by kernel_rfl) .i64 0 x0 (by kernel_rfl) (by kernel_rfl)) <| pkq (.int .i64 (max 0 x0)) ?_
 refine ps_end <| blk_n <| tr_ [0, 1] <| pkq (.int .i64 1) <| pkq (.int .i64 1) <| et_ <| rd_step <| qr_ [0] <| pkq (.bool true) <| eq_ <| y_ <| s_ <| tq_ <| bl_ 1 ?_
 refine qr_ [0, 1, 2] <| ppq (pT gl 1) (exec_cast (v := pT gl (0 + 1 * 1)) (by simp) (exec_indexAt_slice 50 (.tmp 7) (.tmp 9) (by kernel_rfl) gl 0 2 2 (by kernel_rfl) .i64 1 (by kernel_rfl) _ 1 Tryz.underlying50 (by kernel_rfl) (by omega))) <| ppq (.int .i64 x1) (ldk 3 gl 1 hl) <| pkq (.int .i64 x1) <| er_ [0, 1, 2, 3] <| pkq (.int .i64 (max 0 x0)) <| pkq (.int .i64 x1) <| ppq (.int .i64 (max (max 0 x0) x1)) (exec_max (.tmp 13) (.tmp 14) #[3, 3] (by kernel_rfl) .i64 (max 0 x0) x1 (by kernel_rfl) (by kernel_rfl)) <| pkq (.int .i64 (max (max 0 x0) x1)) <| ps_end <| blk_n <| tr_ [0, 1] <| pkq (.int .i64 2) <| pkq (.int .i64 2) ?_
 refine ps_end <| sy_a ⟨fr [pT bv 0, pT gs 0, pT gd 0, ud, .int .i64 (max (max 0 x0) x1), ud, .int .i64 x1, .slice (some ⟨gl, 0, none⟩) 2 2, .int .i64 2, .int .i64 2, .bool true, pT gl 1, .int .i64 x1, .int .i64 (max 0 x0), .int .i64 x1, .int .i64 (max (max 0 x0) x1), .int .i64 2] 12, []⟩ <| then_n <| rd_step <| qr_ [0] <| pkq (.bool false) <| eq_ <| n_ <| sy_exit 0 (by kernel_rfl) <| then_e <| then_e <| blk_e <| tr_ [0, 1, 2, 3, 4, 5, 6, 7, 8, 9, 10, 11, 12] <| pkq (pT bv 0) ?_
 refine ppq (pT d 0) (ldk 22 gd 0 hgd) <| pkq (pT d 0) <| pkq (pT d 0) <| ppq (.agg p.cells) (exec_cast (v := .agg p.cells.toList.toArray) rfl (exec_load_seg 47 (.tmp 21) (by kernel_rfl) d 0 (by kernel_rfl) p.cells.toList _ _ _ hd (detC_pseg _ _ _) Tryz.underlying47 rfl (by kernel_rfl))) <| pkq (.int .i64 (max (max 0 x0) x1)) ?_
 refine pcq 29 #[.agg p.cells, .int .i64 (max (max 0 x0) x1)] Tryz.func29 ((pFirst_ok p hp (max (max 0 x0) x1) hmx _).mono ?_)
 rintro e V1 ⟨rfl, kV1⟩
 refine ⟨_, rfl, ?_⟩
 have ⟨K7, z8, h2⟩ := kV1.z1 K0 hb
 refine pkq (.tuple #[.int .i64 (p.first (max (max 0 x0) x1)).1, .int .i64 (p.first (max (max 0 x0) x1)).2]) <| pkq (.int .i64 (p.first (max (max 0 x0) x1)).1) <| pkq (.int .i64 (p.first (max (max 0 x0) x1)).2) <| pkq (pT bv 0) <| pkq (pT bv 72) <| pce 3 bv 72 (.int .i64 (p.first (max (max 0 x0) x1)).1) (vdC k x y ((p.first (max (max 0 x0) x1)).1)) h2 (rc (h2) (vdC_first la lb)) (vdC_setf la lb _) fun V9 h10 kV9 => ?_
 have K15 : Keeps (One bv) w V9 := K7.then kV9 (fun i hi hm => by unfold Own.One at hm; subst hm; exact rfl)
 have z16 := kV9.size
 refine ps_end <| sy_fall (.tuple #[]) rfl (by kernel_rfl) ?_
 exact ⟨rfl, h10, K15⟩
end Go.Proofs.YthmclmbeflbhhaaGreat
namespace Go.Proofs.YthmclmbeflbhhaaGreat
set_option maxRecDepth 100000
set_option maxHeartbeats 4000000
open Go Go.RowKit Go.Own Go.Shelf
def attZ : List Value := [.int .i64 0, .int .i64 0, .int .i64 0, .int .u8 0, .int .u8 0, .int .u8 0, .int .u8 0, .int .u8 0, .int .u8 0, .int .u8 0, .int .u8 0, .int .u8 0, .int .u8 0, .int .u8 0, .int .u8 0, .int .u8 0, .int .u8 0, .int .u8 0, .int .u8 0, .int .u8 0, .int .u8 0, .int .u8 0, .int .u8 0, .int .u8 0, .int .u8 0, .int .u8 0, .int .u8 0, .int .u8 0, .int .u8 0, .int .u8 0, .int .u8 0, .int .u8 0, .int .u8 0, .int .u8 0, .int .u8 0, .int .u64 0]
def proZ : List Value := [.int .i64 0, .int .i64 0, .int .u8 0, .int .u8 0, .int .u8 0, .int .u8 0, .int .u8 0, .int .u8 0, .int .u8 0, .int .u8 0, .int .u8 0, .int .u8 0, .int .u8 0, .int .u8 0, .int .u8 0, .int .u8 0, .int .u8 0, .int .u8 0, .int .u8 0, .int .u8 0, .int .u8 0, .int .u8 0, .int .u8 0, .int .u8 0, .int .u8 0, .int .u8 0, .int .u8 0, .int .u8 0, .int .u8 0, .int .u8 0, .int .u8 0, .int .u8 0, .int .u8 0, .int .u8 0, .int .u64 0]
theorem attZ_len : attZ.length = 36 := rfl
theorem proZ_len : proZ.length = 35 := rfl
noncomputable def qc70_0 (n : Nat) : Code := partOf Tryz.f56 n
noncomputable abbrev qo70_0 (n k : Nat) : Oper := (opsAt (qc70_0 n)).getD k default
theorem dverdict_one (kd : Int) (F0 : FuncId) (A00 : Value) (x1 y1 : List Value) (f1 : Int) (lx1 : x1.length = 36) (ly1 : y1.length = 35) (hone : (vdC kd x1 y1 f1).all (·.oneCell') = true) (g : Nat) (w : World) (hg : w.heap[g]? = some (.cells #[.func (.func (F0)) #[] #[A00]] 144 (0, 0))) (hE0 : ∀ args w, (callFunc F0 args).run Tryz.prog w = .ok (.enter F0 args) w) (hc0 : ∀ (bv : Nat) (W : World), w.heap.size ≤ bv → Keeps Nob w W → W.heap[bv]? = some (.cells (vdC kd attZ proZ 0) 57 (0, 0)) → Calls Tryz.prog F0 #[pT bv 0, A00] W fun e W' => e = .returned (.tuple #[]) ∧ W'.heap[bv]? = some (.cells (vdC kd x1 y1 f1) 57 (0, 0)) ∧ Keeps (One bv) W W') :
  Calls Tryz.prog 56 #[.int .i64 kd, .slice (some ⟨g, 0, none⟩) 1 1] w (fun e w' => e = .returned (.agg (vdC kd x1 y1 f1)) ∧ Keeps Nob w w') := by
 have K0 : Keeps Nob w w := Keeps.refl _ _
 refine sy_enter (qc70_0 1) ⟨fr [.int .i64 kd, .slice (some ⟨g, 0, none⟩) 1 1] 18, []⟩ Tryz.func56 (by kernel_rfl) (by kernel_rfl) <| qr_ [0] <| pal 57 (zl0_) (.agg (zl0_)) fun V1 res eres h2 kV1 => ?_
 have n3 := nl eres hg
 have n4 := nk eres K0
 have ⟨K6, z7, h5⟩ := kV1.z1 K0 hg
 refine eqr_ [0, 1, 2, 3] <| pkq (.int .i64 kd) <| pkq (.agg (zl2_ (.int .i64 kd))) <| pal 57 (zl0_) (.agg (zl0_)) fun V8 bv ebv h9 kV8 => ?_
 have n10 := nl ebv h5
 have n11 := nl ebv h2
 have n12 := nk ebv K6
 have ⟨K15, z16, h13, h14⟩ := kV8.z2 K6 h5 h2
 obtain ⟨V17, eV17, kV17⟩ := rowset_step V8 bv ((zl2_ (.int .i64 kd)))
 have h18 : V17.heap[bv]? = some (.cells (vdC kd attZ proZ 0) 57 (0, 0)) := eV17 ▸ setRow_heap _ _ _ _ _ _ h9
 refine pzq (w' := V17) (by rw [← eV17]; exact exec_store_row 57 (.tmp 5) (.tmp 9) (by kernel_rfl) bv ((zl2_ (.int .i64 kd))) (by kernel_rfl) (by kernel_rfl) 57 (zl0_) h9 (by kernel_rfl) rfl (by kernel_rfl)) ?_
 clear eV17
 have ⟨K21, z22, h19, h20⟩ := kV17.zo2 K15 h13 h14
 refine eq_ <| qr_ [0, 1, 2] <| pkq (.slice (some ⟨g, 0, none⟩) 1 1) <| ppq (.int .i64 1) (exec_len (.tmp 10) 172 _ (by kernel_rfl) Tryz.underlying172 (some ⟨g, 0, none⟩) 1 1 (by kernel_rfl)) <| pkq (.int .i64 0) <| et_ <| bl_ 0 <| sy_rounds 2 (qc70_0 116) (by kernel_rfl) <| rd_step <| qr_ [0] <| pkq (.bool true) <| eq_ <| y_ <| s_ ?_
 refine tq_ <| bl_ 1 <| qr_ [0, 1, 2] <| ppq (pT g 0) (exec_cast (v := pT g (0 + 0 * 1)) (by simp) (exec_indexAt_slice 172 (.tmp 10) (.tmp 12) (by kernel_rfl) g 0 1 1 (by kernel_rfl) .i64 0 (by kernel_rfl) _ 1 Tryz.underlying172 (by kernel_rfl) (by omega))) <| ppq (.func (.func (F0)) #[] #[A00]) (ldk 144 g 0 h19) <| pkq (.func (.func (F0)) #[] #[A00]) <| er_ [0, 1] <| pkq (.func (.func (F0)) #[] #[A00]) ?_
 refine ps_callV (qo70_0 3737 1) (.tmp 16) (F0) #[] #[A00] #[pT bv 0, A00] (by kernel_rfl) (by kernel_rfl) (by kernel_rfl) (by kernel_rfl) (by kernel_rfl) hE0 ((hc0 bv _ (by omega) K21 h18).mono ?_)
 rintro e V23 ⟨rfl, hbV23, kV23⟩
 refine ⟨_, rfl, ?_⟩
 have ⟨K26, z27, h25⟩ := kV23.zo1 K21 h20
 refine ps_end <| blk_n <| tr_ [0, 1] <| pkq (.int .i64 1) <| pkq (.int .i64 1) <| et_ <| rd_step <| qr_ [0] <| pkq (.bool false) <| eq_ <| n_ <| sy_exit 0 (by kernel_rfl) <| then_e <| then_e ?_
 refine blk_e <| tqr_ [0, 1] <| ppq (.agg (vdC kd x1 y1 f1)) (ldr 57 bv (hbV23) (by rw [vdC_size lx1 ly1]; kernel_rfl)) <| pst 57 res ((vdC kd x1 y1 f1)) h25 (by rw [vdC_size lx1 ly1]; kernel_rfl) (by rw [vdC_size lx1 ly1]; rfl) hone fun V28 h29 kV28 => ?_
 have K32 := K26.nO kV28
 have z33 := kV28.size
 refine eu_ <| sy_out (.agg (vdC kd x1 y1 f1)) rfl (results_cell_row (p := 4) (ty := 57) (by kernel_rfl) _ _ res 57 (vdC kd x1 y1 f1) (0, 0) _ (by kernel_rfl) h29 Tryz.underlying57 rfl (by rw [vdC_size lx1 ly1]; kernel_rfl)) ?_
 exact ⟨rfl, K32⟩
theorem dverdict_two (kd : Int) (F0 : FuncId) (A00 : Value) (x1 y1 : List Value) (f1 : Int) (lx1 : x1.length = 36) (ly1 : y1.length = 35) (F1 : FuncId) (A10 A11 : Value) (x2 y2 : List Value) (f2 : Int) (lx2 : x2.length = 36) (ly2 : y2.length = 35) (hone : (vdC kd x2 y2 f2).all (·.oneCell') = true) (g : Nat) (w : World) (hg : w.heap[g]? = some (.cells #[.func (.func (F0)) #[] #[A00], .func (.func (F1)) #[] #[A10, A11]] 144 (0, 0))) (hE0 : ∀ args w, (callFunc F0 args).run Tryz.prog w = .ok (.enter F0 args) w) (hc0 : ∀ (bv : Nat) (W : World), w.heap.size ≤ bv → Keeps Nob w W → W.heap[bv]? = some (.cells (vdC kd attZ proZ 0) 57 (0, 0)) → Calls Tryz.prog F0 #[pT bv 0, A00] W fun e W' => e = .returned (.tuple #[]) ∧ W'.heap[bv]? = some (.cells (vdC kd x1 y1 f1) 57 (0, 0)) ∧ Keeps (One bv) W W') (hE1 : ∀ args w, (callFunc F1 args).run Tryz.prog w = .ok (.enter F1 args) w) (hc1 : ∀ (bv : Nat) (W : World), w.heap.size ≤ bv → Keeps Nob w W → W.heap[bv]? = some (.cells (vdC kd x1 y1 f1) 57 (0, 0)) → Calls Tryz.prog F1 #[pT bv 0, A10, A11] W fun e W' => e = .returned (.tuple #[]) ∧ W'.heap[bv]? = some (.cells (vdC kd x2 y2 f2) 57 (0, 0)) ∧ Keeps (One bv) W W') :
  Calls Tryz.prog 56 #[.int .i64 kd, .slice (some ⟨g, 0, none⟩) 2 2] w (fun e w' => e = .returned (.agg (vdC kd x2 y2 f2)) ∧ Keeps Nob w w') := by
 have K0 : Keeps Nob w w := Keeps.refl _ _
 refine sy_enter (qc70_0 1) ⟨fr [.int .i64 kd, .slice (some ⟨g, 0, none⟩) 2 2] 18, []⟩ Tryz.func56 (by kernel_rfl) (by kernel_rfl) <| qr_ [0] <| pal 57 (zl0_) (.agg (zl0_)) fun V1 res eres h2 kV1 => ?_
 have n3 := nl eres hg
 have n4 := nk eres K0
 have ⟨K6, z7, h5⟩ := kV1.z1 K0 hg
 refine eqr_ [0, 1, 2, 3] <| pkq (.int .i64 kd) <| pkq (.agg (zl2_ (.int .i64 kd))) <| pal 57 (zl0_) (.agg (zl0_)) fun V8 bv ebv h9 kV8 => ?_
 have n10 := nl ebv h5
 have n11 := nl ebv h2
 have n12 := nk ebv K6
 have ⟨K15, z16, h13, h14⟩ := kV8.z2 K6 h5 h2
 obtain ⟨V17, eV17, kV17⟩ := rowset_step V8 bv ((zl2_ (.int .i64 kd)))
 have h18 : V17.heap[bv]? = some (.cells (vdC kd attZ proZ 0) 57 (0, 0)) := eV17 ▸ setRow_heap _ _ _ _ _ _ h9
 refine pzq (w' := V17) (by rw [← eV17]; exact exec_store_row 57 (.tmp 5) (.tmp 9) (by kernel_rfl) bv ((zl2_ (.int .i64 kd))) (by kernel_rfl) (by kernel_rfl) 57 (zl0_) h9 (by kernel_rfl) rfl (by kernel_rfl)) ?_
 clear eV17
 have ⟨K21, z22, h19, h20⟩ := kV17.zo2 K15 h13 h14
 refine eq_ <| qr_ [0, 1, 2] <| pkq (.slice (some ⟨g, 0, none⟩) 2 2) <| ppq (.int .i64 2) (exec_len (.tmp 10) 172 _ (by kernel_rfl) Tryz.underlying172 (some ⟨g, 0, none⟩) 2 2 (by kernel_rfl)) <| pkq (.int .i64 0) <| et_ <| bl_ 0 <| sy_rounds 3 (qc70_0 116) (by kernel_rfl) <| rd_step <| qr_ [0] <| pkq (.bool true) <| eq_ <| y_ <| s_ ?_
 refine tq_ <| bl_ 1 <| qr_ [0, 1, 2] <| ppq (pT g 0) (exec_cast (v := pT g (0 + 0 * 1)) (by simp) (exec_indexAt_slice 172 (.tmp 10) (.tmp 12) (by kernel_rfl) g 0 2 2 (by kernel_rfl) .i64 0 (by kernel_rfl) _ 1 Tryz.underlying172 (by kernel_rfl) (by omega))) <| ppq (.func (.func (F0)) #[] #[A00]) (ldk 144 g 0 h19) <| pkq (.func (.func (F0)) #[] #[A00]) <| er_ [0, 1] <| pkq (.func (.func (F0)) #[] #[A00]) ?_
 refine ps_callV (qo70_0 3737 1) (.tmp 16) (F0) #[] #[A00] #[pT bv 0, A00] (by kernel_rfl) (by kernel_rfl) (by kernel_rfl) (by kernel_rfl) (by kernel_rfl) hE0 ((hc0 bv _ (by omega) K21 h18).mono ?_)
 rintro e V23 ⟨rfl, hbV23, kV23⟩
 refine ⟨_, rfl, ?_⟩
 have ⟨K26, z27, h24, h25⟩ := kV23.zo2 K21 h19 h20
 refine ps_end <| blk_n <| tr_ [0, 1] <| pkq (.int .i64 1) <| pkq (.int .i64 1) <| et_ <| rd_step <| qr_ [0] <| pkq (.bool true) <| eq_ <| y_ <| s_ <| tq_ <| bl_ 1 ?_
 refine qr_ [0, 1, 2] <| ppq (pT g 1) (exec_cast (v := pT g (0 + 1 * 1)) (by simp) (exec_indexAt_slice 172 (.tmp 10) (.tmp 12) (by kernel_rfl) g 0 2 2 (by kernel_rfl) .i64 1 (by kernel_rfl) _ 1 Tryz.underlying172 (by kernel_rfl) (by omega))) <| ppq (.func (.func (F1)) #[] #[A10, A11]) (ldk 144 g 1 h24) <| pkq (.func (.func (F1)) #[] #[A10, A11]) <| er_ [0, 1] <| pkq (.func (.func (F1)) #[] #[A10, A11]) ?_
 refine ps_callV (qo70_0 3737 1) (.tmp 16) (F1) #[] #[A10, A11] #[pT bv 0, A10, A11] (by kernel_rfl) (by kernel_rfl) (by kernel_rfl) (by kernel_rfl) (by kernel_rfl) hE1 ((hc1 bv _ (by omega) K26 hbV23).mono ?_)
 rintro e V28 ⟨rfl, hbV28, kV28⟩
 refine ⟨_, rfl, ?_⟩
 have ⟨K31, z32, h30⟩ := kV28.zo1 K26 h25
 refine ps_end <| blk_n <| tr_ [0, 1] <| pkq (.int .i64 2) <| pkq (.int .i64 2) <| ps_end <| sy_a ⟨#[.int .i64 kd, .slice (some ⟨g, 0, none⟩) 2 2, ud, ud, pT res 0, pT bv 0, ud, .func (.func (F1)) #[] #[A10, A11], .int .i64 kd, .agg (zl2_ (.int .i64 kd)), .slice (some ⟨g, 0, none⟩) 2 2, .int .i64 2, .int .i64 2, .bool true, pT g 1, .func (.func (F1)) #[] #[A10, A11], .func (.func (F1)) #[] #[A10, A11], .tuple #[], .int .i64 2, ud], []⟩ <| then_n <| rd_step <| qr_ [0] <| pkq (.bool false) <| eq_ <| n_ <| sy_exit 0 (by kernel_rfl) ?_
 refine then_e <| then_e <| blk_e <| tqr_ [0, 1] <| ppq (.agg (vdC kd x2 y2 f2)) (ldr 57 bv (hbV28) (by rw [vdC_size lx2 ly2]; kernel_rfl)) <| pst 57 res ((vdC kd x2 y2 f2)) h30 (by rw [vdC_size lx2 ly2]; kernel_rfl) (by rw [vdC_size lx2 ly2]; rfl) hone fun V33 h34 kV33 => ?_
 have K37 := K31.nO kV33
 have z38 := kV33.size
 refine eu_ <| sy_out (.agg (vdC kd x2 y2 f2)) rfl (results_cell_row (p := 4) (ty := 57) (by kernel_rfl) _ _ res 57 (vdC kd x2 y2 f2) (0, 0) _ (by kernel_rfl) h34 Tryz.underlying57 rfl (by rw [vdC_size lx2 ly2]; kernel_rfl)) ?_
 exact ⟨rfl, K37⟩
theorem dverdict_twin (kd : Int) (F0 : FuncId) (A00 : Value) (x1 y1 : List Value) (f1 : Int) (lx1 : x1.length = 36) (ly1 : y1.length = 35) (F1 : FuncId) (A10 : Value) (x2 y2 : List Value) (f2 : Int) (lx2 : x2.length = 36) (ly2 : y2.length = 35) (hone : (vdC kd x2 y2 f2).all (·.oneCell') = true) (g : Nat) (w : World) (hg : w.heap[g]? = some (.cells #[.func (.func (F0)) #[] #[A00], .func (.func (F1)) #[] #[A10]] 144 (0, 0))) (hE0 : ∀ args w, (callFunc F0 args).run Tryz.prog w = .ok (.enter F0 args) w) (hc0 : ∀ (bv : Nat) (W : World), w.heap.size ≤ bv → Keeps Nob w W → W.heap[bv]? = some (.cells (vdC kd attZ proZ 0) 57 (0, 0)) → Calls Tryz.prog F0 #[pT bv 0, A00] W fun e W' => e = .returned (.tuple #[]) ∧ W'.heap[bv]? = some (.cells (vdC kd x1 y1 f1) 57 (0, 0)) ∧ Keeps (One bv) W W') (hE1 : ∀ args w, (callFunc F1 args).run Tryz.prog w = .ok (.enter F1 args) w) (hc1 : ∀ (bv : Nat) (W : World), w.heap.size ≤ bv → Keeps Nob w W → W.heap[bv]? = some (.cells (vdC kd x1 y1 f1) 57 (0, 0)) → Calls Tryz.prog F1 #[pT bv 0, A10] W fun e W' => e = .returned (.tuple #[]) ∧ W'.heap[bv]? = some (.cells (vdC kd x2 y2 f2) 57 (0, 0)) ∧ Keeps (One bv) W W') :
  Calls Tryz.prog 56 #[.int .i64 kd, .slice (some ⟨g, 0, none⟩) 2 2] w (fun e w' => e = .returned (.agg (vdC kd x2 y2 f2)) ∧ Keeps Nob w w') := by
 have K0 : Keeps Nob w w := Keeps.refl _ _
 refine sy_enter (qc70_0 1) ⟨fr [.int .i64 kd, .slice (some ⟨g, 0, none⟩) 2 2] 18, []⟩ Tryz.func56 (by kernel_rfl) (by kernel_rfl) <| qr_ [0] <| pal 57 (zl0_) (.agg (zl0_)) fun V1 res eres h2 kV1 => ?_
 have n3 := nl eres hg
 have n4 := nk eres K0
 have ⟨K6, z7, h5⟩ := kV1.z1 K0 hg
 refine eqr_ [0, 1, 2, 3] <| pkq (.int .i64 kd) <| pkq (.agg (zl2_ (.int .i64 kd))) <| pal 57 (zl0_) (.agg (zl0_)) fun V8 bv ebv h9 kV8 => ?_
 have n10 := nl ebv h5
 have n11 := nl ebv h2
 have n12 := nk ebv K6
 have ⟨K15, z16, h13, h14⟩ := kV8.z2 K6 h5 h2
 obtain ⟨V17, eV17, kV17⟩ := rowset_step V8 bv ((zl2_ (.int .i64 kd)))
 have h18 : V17.heap[bv]? = some (.cells (vdC kd attZ proZ 0) 57 (0, 0)) := eV17 ▸ setRow_heap _ _ _ _ _ _ h9
 refine pzq (w' := V17) (by rw [← eV17]; exact exec_store_row 57 (.tmp 5) (.tmp 9) (by kernel_rfl) bv ((zl2_ (.int .i64 kd))) (by kernel_rfl) (by kernel_rfl) 57 (zl0_) h9 (by kernel_rfl) rfl (by kernel_rfl)) ?_
 clear eV17
 have ⟨K21, z22, h19, h20⟩ := kV17.zo2 K15 h13 h14
 refine eq_ <| qr_ [0, 1, 2] <| pkq (.slice (some ⟨g, 0, none⟩) 2 2) <| ppq (.int .i64 2) (exec_len (.tmp 10) 172 _ (by kernel_rfl) Tryz.underlying172 (some ⟨g, 0, none⟩) 2 2 (by kernel_rfl)) <| pkq (.int .i64 0) <| et_ <| bl_ 0 <| sy_rounds 3 (qc70_0 116) (by kernel_rfl) <| rd_step <| qr_ [0] <| pkq (.bool true) <| eq_ <| y_ <| s_ ?_
 refine tq_ <| bl_ 1 <| qr_ [0, 1, 2] <| ppq (pT g 0) (exec_cast (v := pT g (0 + 0 * 1)) (by simp) (exec_indexAt_slice 172 (.tmp 10) (.tmp 12) (by kernel_rfl) g 0 2 2 (by kernel_rfl) .i64 0 (by kernel_rfl) _ 1 Tryz.underlying172 (by kernel_rfl) (by omega))) <| ppq (.func (.func (F0)) #[] #[A00]) (ldk 144 g 0 h19) <| pkq (.func (.func (F0)) #[] #[A00]) <| er_ [0, 1] <| pkq (.func (.func (F0)) #[] #[A00]) ?_
 refine ps_callV (qo70_0 3737 1) (.tmp 16) (F0) #[] #[A00] #[pT bv 0, A00] (by kernel_rfl) (by kernel_rfl) (by kernel_rfl) (by kernel_rfl) (by kernel_rfl) hE0 ((hc0 bv _ (by omega) K21 h18).mono ?_)
 rintro e V23 ⟨rfl, hbV23, kV23⟩
 refine ⟨_, rfl, ?_⟩
 have ⟨K26, z27, h24, h25⟩ := kV23.zo2 K21 h19 h20
 refine ps_end <| blk_n <| tr_ [0, 1] <| pkq (.int .i64 1) <| pkq (.int .i64 1) <| et_ <| rd_step <| qr_ [0] <| pkq (.bool true) <| eq_ <| y_ <| s_ <| tq_ <| bl_ 1 ?_
 refine qr_ [0, 1, 2] <| ppq (pT g 1) (exec_cast (v := pT g (0 + 1 * 1)) (by simp) (exec_indexAt_slice 172 (.tmp 10) (.tmp 12) (by kernel_rfl) g 0 2 2 (by kernel_rfl) .i64 1 (by kernel_rfl) _ 1 Tryz.underlying172 (by kernel_rfl) (by omega))) <| ppq (.func (.func (F1)) #[] #[A10]) (ldk 144 g 1 h24) <| pkq (.func (.func (F1)) #[] #[A10]) <| er_ [0, 1] <| pkq (.func (.func (F1)) #[] #[A10]) ?_
 refine ps_callV (qo70_0 3737 1) (.tmp 16) (F1) #[] #[A10] #[pT bv 0, A10] (by kernel_rfl) (by kernel_rfl) (by kernel_rfl) (by kernel_rfl) (by kernel_rfl) hE1 ((hc1 bv _ (by omega) K26 hbV23).mono ?_)
 rintro e V28 ⟨rfl, hbV28, kV28⟩
 refine ⟨_, rfl, ?_⟩
 have ⟨K31, z32, h30⟩ := kV28.zo1 K26 h25
 refine ps_end <| blk_n <| tr_ [0, 1] <| pkq (.int .i64 2) <| pkq (.int .i64 2) <| ps_end <| sy_a ⟨#[.int .i64 kd, .slice (some ⟨g, 0, none⟩) 2 2, ud, ud, pT res 0, pT bv 0, ud, .func (.func (F1)) #[] #[A10], .int .i64 kd, .agg (zl2_ (.int .i64 kd)), .slice (some ⟨g, 0, none⟩) 2 2, .int .i64 2, .int .i64 2, .bool true, pT g 1, .func (.func (F1)) #[] #[A10], .func (.func (F1)) #[] #[A10], .tuple #[], .int .i64 2, ud], []⟩ <| then_n <| rd_step <| qr_ [0] <| pkq (.bool false) <| eq_ <| n_ <| sy_exit 0 (by kernel_rfl) ?_
 refine then_e <| then_e <| blk_e <| tqr_ [0, 1] <| ppq (.agg (vdC kd x2 y2 f2)) (ldr 57 bv (hbV28) (by rw [vdC_size lx2 ly2]; kernel_rfl)) <| pst 57 res ((vdC kd x2 y2 f2)) h30 (by rw [vdC_size lx2 ly2]; kernel_rfl) (by rw [vdC_size lx2 ly2]; rfl) hone fun V33 h34 kV33 => ?_
 have K37 := K31.nO kV33
 have z38 := kV33.size
 refine eu_ <| sy_out (.agg (vdC kd x2 y2 f2)) rfl (results_cell_row (p := 4) (ty := 57) (by kernel_rfl) _ _ res 57 (vdC kd x2 y2 f2) (0, 0) _ (by kernel_rfl) h34 Tryz.underlying57 rfl (by rw [vdC_size lx2 ly2]; kernel_rfl)) ?_
 exact ⟨rfl, K37⟩
end Go.Proofs.YthmclmbeflbhhaaGreat
namespace Go.Proofs.YthmclmbeflbhhaaGreat
set_option maxRecDepth 100000
set_option maxHeartbeats 4000000
open Go Go.RowKit Go.Own
theorem len_small (n m : Nat) (h : n + m ≤ 100000000) : n + m ≤ maxLen := by unfold maxLen; omega
theorem len_bytes (n m : Nat) (h : n + m ≤ 100000000) : (n + m) * 1 ≤ 140737488355328 := by omega
end Go.Proofs.YthmclmbeflbhhaaGreat
namespace Go.Own.Cod
set_option maxRecDepth 100000
set_option maxHeartbeats 4000000
/-- The bytes of a number (at most so many). -/
def encF : Nat → Nat → List UInt8
  | 0, _ => []
  | f + 1, n => if n < 128 then [UInt8.ofNat n] else UInt8.ofNat (n % 128 + 128) :: encF f (n / 128)
def enc (n : Nat) : List UInt8 := encF 10 n
theorem toNat_ofNat (n : Nat) (h : n < 256) : (UInt8.ofNat n).toNat = n := by simp; omega
theorem encF_more (f n : Nat) (h : 128 ≤ n) : encF (f + 1) n = UInt8.ofNat (n % 128 + 128) :: encF f (n / 128) := by
  rw [encF, if_neg (by omega)]
theorem encF_last (f n : Nat) (h : n < 128) : encF (f + 1) n = [UInt8.ofNat n] := by
  rw [encF, if_pos h]
theorem small_step (k m : Nat) (hk : k ≤ 9) (h : m < 2 ^ (64 - 7 * k)) (hm : 128 ≤ m) : k < 9 ∧ m / 128 < 2 ^ (64 - 7 * (k + 1)) := by
  have hk9 : k < 9 := by
    rcases Nat.lt_or_ge k 9 with h9 | h9
    · exact h9
    · obtain rfl : k = 9 := by omega
      simp at h; omega
  refine ⟨hk9, ?_⟩
  apply Nat.div_lt_of_lt_mul
  have : 64 - 7 * k = (64 - 7 * (k + 1)) + 7 := by omega
  rw [this, Nat.pow_add] at h
  omega
theorem encF_pos (f n : Nat) : 0 < (encF (f + 1) n).length := by
  rw [encF]; split <;> simp
theorem encF_length (f n : Nat) : (encF f n).length ≤ f := by
  induction f generalizing n with
  | zero => simp [encF]
  | succ f ih =>
    rw [encF]; split
    · simp
    · simp; exact ih _
theorem enc_pos (n : Nat) : 0 < (enc n).length := encF_pos _ _
theorem enc_length (n : Nat) : (enc n).length ≤ 10 := encF_length _ _
end Go.Own.Cod
namespace Go.Proofs.YthmclmbeflbhhaaGreat
set_option maxRecDepth 100000
set_option maxHeartbeats 4000000
open Go Go.RowKit Go.Own Go.Shelf
attribute [local go_sem] Oper.semAt_some
theorem mf_run0 : ∀ (fn : Fn) (first cap : Array Value) (w : World), (Instr.makeFunc fn first cap).run Tryz.prog w = .ok (.func fn first cap) w := fun _ _ _ _ => rfl
theorem digits_ok (n : Int) (w : World) :
  Calls Tryz.prog 193 #[.int .u64 n] w fun e w' => e = .returned (.func (.func 199) #[] #[pT w.heap.size 0]) ∧ w.alloc (.cells #[.int .u64 n] 26) = w' := by
 have hmf := mf_run0
 go_enter Tryz.func193, Tryz.ntmps193
 go_wp2
 go_ret
 exact ⟨rfl, rfl⟩
/-- The iterator's own state: what is left of the number. -/
def DigS (n : Nat) (Bn : Nat) (k : Nat) (w : World) : Prop :=
 ∃ pre m, m = n / 128 ^ k ∧ pre.length = k ∧ Cod.enc n = pre ++ Cod.encF (10 - k) m ∧ k ≤ 9 ∧ m < 2 ^ (64 - 7 * k) ∧ w.cell? ⟨Bn, 0, none⟩ = some (.int .u64 (m : Int)) ∧ w.frozen? ⟨Bn, 0, none⟩ = false
theorem or128_fin : ∀ r : Fin 256, bits .or .u8 ((r.val : Nat) : Int) 128 = ((r.val % 128 + 128 : Nat) : Int) := by decide +kernel
theorem or128 (m : Nat) : bits .or .u8 ((m : Int) % 256) 128 = ((m % 128 + 128 : Nat) : Int) := by
 have h := or128_fin ⟨m % 256, Nat.mod_lt _ (by omega)⟩
 have e1 : ((m % 256 : Nat) : Int) = (m : Int) % 256 := by omega
 have e2 : m % 256 % 128 = m % 128 := by omega
 simp only [e1, e2] at h
 exact h
theorem digits_seq (n : Nat) (hn : 1 ≤ n) (Bn : Nat) (x : Nat) (hx : x < 2 ^ 64) :
  SeqOwn Fence.wide n Tryz.prog 199 #[pT Bn 0] (fun x : UInt8 => #[.int .u8 (x.toNat : Int)]) (Cod.enc x) (One Bn) (DigS x Bn) := by
 intro l J Jx W0 hJ hJx hY h0 hS0
 have HY := Lib.hid hY; clear hY
 refine callsIn_of_wp Tryz.func199 rfl trivial ?_ rfl
 simp only [Tryz.ntmps199, List.size_toArray, List.length_cons, List.length_nil, Nat.reduceAdd, Nat.reduceSub, Array.replicate_succ, Array.replicate_zero, List.push_toArray, List.append_toArray, List.nil_append, List.cons_append]
 gi_wp2_with fail
 gi_loopg [3] 10 (fun g e wr => ∃ k : Nat, k ≤ 9 ∧ g = 10 - k ∧ J k wr ∧ DigS x Bn k wr)
 case atStart => exact ⟨0, by omega, by omega, h0, hS0⟩
 case round =>
  obtain ⟨k, hk, hg, hj, hs⟩ := hrel
  have hs' := hs
  obtain ⟨pre, m, hmd, hp, he, _, hm, hc, hf⟩ := hs'
  have HD := Lib.hid hmd
  have HS := Lib.hid hs
  have HE := Lib.hid he
  have HM := Lib.hid hm
  have HP := Lib.hid hp
  have HX := Lib.hid hx
  clear he hm hp hs hS0 hx hmd
  by_cases hlt : m < 128
  ·have hget : (Cod.enc x)[k]? = some (UInt8.ofNat m) ∧ (Cod.enc x).length = k + 1 := by
    have h1 : 10 - k = (9 - k) + 1 := by omega
    have h2 := HE.out
    rw [h1, Cod.encF_last _ _ (by omega)] at h2
    rw [h2, List.getElem?_append_right (by have := HP.out; omega), HP.out]; simp [HP.out]
   have HL := Lib.hid hget.2
   obtain ⟨fn, tmps, assign, body, hy, hR⟩ := HY.out k _ wr hget.1 hj HS.out
   rw [Cod.toNat_ofNat _ (by omega)] at hy
   have hb : ((m : Int) % 256) = (m : Int) := by omega
   have hd : decide (128 ≤ (m : Int)) = false := by simp; omega
   clear hget
   gi_wp2_with fail
   refine hR.mono ?_
   rintro e W3 (⟨rfl, hj3, hs3⟩ | ⟨rfl, hx3⟩)
   ·gi_wp2
    go_end0
    exact ⟨⟨_, rfl⟩, .inl (by rw [HL.out]; exact hj3)⟩
   ·gi_wp2
    go_end0
    exact ⟨⟨_, rfl⟩, .inr hx3⟩
  ·have hget : (Cod.enc x)[k]? = some (UInt8.ofNat (m % 128 + 128)) := by
    have h1 : 10 - k = (9 - k) + 1 := by omega
    have h2 := HE.out
    rw [h1, Cod.encF_more _ _ (by omega)] at h2
    rw [h2, List.getElem?_append_right (by have := HP.out; omega), HP.out]; simp
   obtain ⟨fn, tmps, assign, body, hy, hR⟩ := HY.out k _ wr hget hj HS.out
   rw [Cod.toNat_ofNat _ (by omega)] at hy
   have hb := or128 m
   generalize hz : m % 128 + 128 = z at hy hb
   clear hz hget
   gi_wp2_with fail
   refine hR.mono ?_
   rintro e W3 (⟨rfl, hj3, hs3⟩ | ⟨rfl, hx3⟩)
   ·obtain ⟨pre3, m3, hmd3, _, _, _, _, hc3, hf3⟩ := hs3
    obtain rfl : m3 = m := hmd3.trans HD.out.symm
    have HE1 : Hid (Cod.enc x = (pre ++ [UInt8.ofNat (m3 % 128 + 128)]) ++ Cod.encF (10 - (k + 1)) (m3 / 128)) := Lib.hid (by
     have h1 : 10 - k = (9 - k) + 1 := by omega
     have h2 := HE.out
     rw [h1, Cod.encF_more _ _ (by omega)] at h2
     rw [h2, show 10 - (k + 1) = 9 - k by omega]; simp)
    have HM1 := Lib.hid (Cod.small_step k m3 hk HM.out (by omega))
    clear hmd3 hc hf
    gi_wp2_with fail
    have hk9 := HM1.out.1
    gi_roundg (10 - (k + 1))
    case measure => omega
    case rel => exact ⟨k + 1, by omega, rfl, hJ _ _ _ hj3 ((Keeps.refl _ _).setOne _), pre ++ [UInt8.ofNat (m3 % 128 + 128)], m3 / 128, by rw [HD.out, Nat.pow_succ, Nat.div_div_eq_div_mul], by simp [HP.out], HE1.out, by omega, HM1.out.2, (World.cell?_setCell_same _ _ _ hc3).trans (by simp), by simpa using hf3⟩
   ·gi_wp2
    refine bodyPost_ret (results_none rfl _ _ _) rfl ?_
    exact ⟨⟨_, rfl⟩, .inr hx3⟩
end Go.Proofs.YthmclmbeflbhhaaGreat
namespace Go.Proofs.YthmclmbeflbhhaaGreat
set_option maxRecDepth 100000
set_option maxHeartbeats 4000000
open Go Go.RowKit Go.Own Go.Shelf
attribute [local go_sem] Oper.semAt_some
theorem u8_info : (Tryz.prog.info? 5).map (fun i => (i.zero, i.size, i.bytes)) = some (some (.int .u8 0), 1, 1) := by kernel_rfl
/-- What is collected so far lies in a variable. -/
structure Coll (w0 : World) (Bn b : Nat) (xs : List UInt8) (k : Nat) (V : World) : Prop where
 ex : ∃ v, V.heap[b]? = some (.cells #[v] 214 (0, 0)) ∧ Row V 5 1 v k (B (xs.take k)) ∧ (∀ j, v.ownBlock = some j → w0.heap.size ≤ j) ∧ (v = .slice none 0 0 ↔ k = 0)
 keeps : Keeps (One Bn) w0 V
theorem appendSeq_ok (Bn : Nat) (x : Nat) (hx : x < 2 ^ 64) (w : World) (hc : w.cell? ⟨Bn, 0, none⟩ = some (.int .u64 (x : Int))) (hf : w.frozen? ⟨Bn, 0, none⟩ = false) :
  Calls Tryz.prog 198 #[.slice none 0 0, .func (.func 199) #[] #[pT Bn 0]] w fun e w' => ∃ v, e = .returned v ∧ Row w' 5 1 v (Cod.enc x).length (B (Cod.enc x)) ∧ (∀ j, v.ownBlock = some j → w.heap.size ≤ j) ∧ v ≠ .slice none 0 0 ∧ Keeps (One Bn) w w' := by
 obtain ⟨i0, hi, hz0, hz1, hz2⟩ := info_parts u8_info
 have hBn : Bn < w.heap.size := World.block_lt_of_cell? w _ hc
 have HX := Lib.hid hx
 refine calls_marks 3 Tryz.func198 rfl ?_
 simp only [Tryz.ntmps198, List.size_toArray, List.length_cons, List.length_nil, Nat.reduceAdd, Nat.reduceSub, Array.replicate_succ, Array.replicate_zero, List.push_toArray, List.append_toArray, List.nil_append, List.cons_append]
 go_wp2_with fail
 have hk : Keeps (One Bn) w (w.alloc (.cells #[.slice none 0 0] 214)) := (Keeps.refl _ _).alloc _
 have hb : (w.alloc (.cells #[.slice none 0 0] 214)).heap[w.heap.size]? = some (.cells #[.slice none 0 0] 214 (0, 0)) := World.alloc_heap_new _ _
 have g0 : (w.alloc (.cells #[.slice none 0 0] 214)).cell? ⟨Bn, 0, none⟩ = some (.int .u64 (x : Int)) := by
  rw [World.cell?_alloc_lt _ _ _ hBn]; exact hc
 have f0 : (w.alloc (.cells #[.slice none 0 0] 214)).frozen? ⟨Bn, 0, none⟩ = false := by
  refine (World.frozen?_of_block (w := w) ?_).trans hf
  exact Below.heap_alloc _ _ _ hBn
 have hs : (w.alloc (.cells #[.slice none 0 0] 214)).heap.size = w.heap.size + 1 := by simp
 clear hc hf hx
 generalize w.alloc (.cells #[.slice none 0 0] 214) = W1 at *
 refine wp_range1 3 (gf := 199) (lb := #[pT Bn 0]) rfl (enters_of Tryz.func199 (by kernel_rfl) rfl) (encs := fun x : UInt8 => #[.int .u8 (x.toNat : Int)]) (fun _ => rfl)
  (Mi := One Bn) (fun j hj => by have : j = Bn := hj; omega) (digits_seq 5 (by omega) Bn x HX.out) ?hS ?hS0
  (fun k V => k ≤ (Cod.enc x).length ∧ Coll w Bn w.heap.size (Cod.enc x) k V) (fun _ _ => False) ?hI (fun _ _ _ h => h.elim) ?h0 ?f ?assign ?body ?done ?stop
 case hS0 => exact ⟨[], x, by simp, rfl, rfl, by omega, by simpa using HX.out, g0, f0⟩
 case hS =>
  rintro k A V ⟨pre, m, a1, a2, a3, a4, a5, a6, a7⟩ t
  exact ⟨pre, m, a1, a2, a3, a4, a5, t.cell a6 (fun x => x), (t.frozen a6 (fun x => x)).trans a7⟩
 case h0 => exact ⟨Nat.zero_le _, ⟨⟨.slice none 0 0, hb, ⟨rfl, .inl ⟨rfl, rfl⟩⟩, (fun j hj => by cases hj), ⟨fun _ => rfl, fun _ => rfl⟩⟩, hk⟩⟩
 case hI =>
  rintro k A V ⟨hk, ⟨v, h1, h2, h3, h4⟩, h5⟩ t
  refine ⟨hk, ⟨v, ?_, ?_, h3, h4⟩, t.keeps h5 (by omega)⟩
  ·exact t.same _ _ h1 (fun (h : w.heap.size = Bn) => by omega) (.inr rfl)
  ·refine h2.heap fun j hj => ?_
   obtain ⟨cs, hcs⟩ := h2.elem hj
   rw [hcs]
   exact t.same _ _ hcs (fun (h : j = Bn) => by have := h3 j hj; omega) (.inr rfl)
 case assign =>
  intro l k y V K hx hi hs hK
  gi_wp2
  exact hK
 case body =>
  rintro l k y V hl hr hx ⟨hkl, ⟨v, h1, h2, h3, h4⟩, h5⟩ hs
  have hlt : k < (Cod.enc x).length := (List.getElem?_eq_some_iff.1 hx).1
  have hlen := Cod.enc_length x
  have hne := h2.ne h1 (by decide)
  have c1 := cell_of_one h1
  have f1 := free_of_one h1
  have hbl := lt_of_block h1
  have htake : (Cod.enc x).take (k + 1) = (Cod.enc x).take k ++ [y] := by
   rw [List.take_add_one, hx]; rfl
  have HT := Lib.hid htake
  have H4 := Lib.hid h4
  have HX := Lib.hid hx
  have HS := Lib.hid hs
  clear htake h4 hx hs
  have hown := h2.keeps ((Keeps.refl Nob V).alloc (.cells #[.int .u8 (y.toNat : Int)] 5)) (fun _ _ x => x)
  have hsrc := SrcO.new V 1 1 [.int .u8 (y.toNat : Int)] 5 rfl (by simp [Value.oneCell']) 1
  gi_wp2_with (gi_at_builtin; refine own_append2_in rfl _ _ 214 rfl 5 i0 (.int .u8 0) 1 1 Tryz.underlying214 hi hz0 hz1 hz2 rfl (by decide) v k _ rfl hown _ 1 _ rfl hsrc (by unfold maxLen; omega) (by omega) ?_; intro v' w1 hown' hgrow hnil hat; obtain ⟨g', cap', rfl, hg'⟩ := hown'.spell (by omega); have hb1 : w1.heap[w.heap.size]? = some (.cells #[v] 214 (0, 0)) := (hgrow.block _ (by simp; omega) (fun e => hne e.symm)).trans ((Below.heap_alloc _ _ _ hbl).trans h1); have c2 := cell_of_one hb1; have f2 := free_of_one hb1)
  have hkA : KeepsOthers V (V.alloc (.cells #[.int .u8 (y.toNat : Int)] 5)) := KeepsOthers.alloc _ _
  have hkB := hkA.trans ((hown.others hgrow).trans (KeepsOthers.setCell w1 ⟨w.heap.size, 0, none⟩ (.slice (some ⟨g', 0, none⟩) (k + 1) cap')))
  have hKp : Keeps (fun j => v.ownBlock = some j) V w1 := ((Keeps.refl _ _).alloc _).grown hgrow (fun j hj _ => hj)
  have hgne : g' ≠ w.heap.size := fun e => hown'.ne hb1 (by decide) (by rw [e]; rfl)
  have hKw : Keeps (One Bn) w w1 := h5.then hKp (fun i hi hm => by have := h3 i hm; omega)
  obtain ⟨pre, m, b1, b2, b3, b4, b5, b6, b7⟩ := HS.out
  have hvB : v.ownBlock ≠ some Bn := fun e => by have := h3 _ e; omega
  have hBV : Bn < V.heap.size := World.block_lt_of_cell? V _ b6
  have e6 := (hKp.cell (i := 0) hBV hvB).trans b6
  have e7 := (hKp.frozen (i := 0) hBV hvB).trans b7
  refine ⟨hkB.from _, ⟨hlt, ⟨⟨_, one_setCell hb1, ?_, ?_, ⟨(fun h => by cases h), (fun h => by omega)⟩⟩, hKw.setCell_new (p := ⟨w.heap.size, 0, none⟩) (Nat.le_refl _) _⟩⟩, pre, m, b1, b2, b3, b4, b5, ?_, ?_⟩
  ·rw [HT.out, B_append]
   exact ownsRow_setCell_other hown' (by simp [Value.ownBlock]; exact hgne) _
  ·intro j hj
   rcases hat j hj with h | ⟨h, _⟩
   ·exact h3 j h
   ·simp at h; omega
  ·rw [World.cell?_setCell_other _ _ _ _ (fun e => by simp at e <;> omega)]; exact e6
  ·simpa using e7
 case done =>
  rintro D V hD ⟨_, ⟨v, h1, h2, h3, h4⟩, h5⟩ hK
  rw [List.take_of_length_le (Nat.le_refl _)] at h2
  have hpos := Cod.enc_pos x
  obtain ⟨g, cap, rfl, hg⟩ := h2.spell hpos
  have c1 := cell_of_one h1
  have H2 := Lib.hid h2
  clear h2 h4
  go_wp2
  refine marks_ret hK (v := .slice (some ⟨g, 0, none⟩) (Cod.enc x).length cap) (by simp [results, Tryz.results198, go_sem]) ?_
  have ht : Turn W1.heap.size Nob V (V.putObj D (.deferred none)) := Turn.put _ _ _ _ hD hK rfl
  refine ⟨_, rfl, H2.out.heap fun j hj => ?_, h3, by simp, ht.keepsN h5 (by omega)⟩
  obtain ⟨cs, hcs⟩ := H2.out.elem hj
  rw [hcs]
  exact ht.same _ _ hcs (fun h => h) (.inr rfl)
 case stop =>
  rintro D c V hD hx hK
  exact hx.elim
theorem collect_ok (Bn : Nat) (x : Nat) (hx : x < 2 ^ 64) (w : World) (hc : w.cell? ⟨Bn, 0, none⟩ = some (.int .u64 (x : Int))) (hf : w.frozen? ⟨Bn, 0, none⟩ = false) :
  Calls Tryz.prog 192 #[.func (.func 199) #[] #[pT Bn 0]] w fun e w' => ∃ v, e = .returned v ∧ Row w' 5 1 v (Cod.enc x).length (B (Cod.enc x)) ∧ (∀ j, v.ownBlock = some j → w.heap.size ≤ j) ∧ v ≠ .slice none 0 0 ∧ Keeps (One Bn) w w' := by
 have HA := Lib.hid (appendSeq_ok Bn x hx w hc hf)
 clear hx hc hf
 go_enter Tryz.func192, Tryz.ntmps192
 go_wp2_with (go_at_call 198; refine HA.out.mono ?_; rintro e w' ⟨v, rfl, h1, h2, h3, h4⟩; have H1 := Lib.hid h1; have H2 := Lib.hid h2; have H3 := Lib.hid h3; clear h1 h2 h3)
 go_ret
 exact ⟨_, rfl, H1.out, H2.out, H3.out, h4⟩
/-- The bytes of a number, in new memory. -/
theorem cPut_ok (x : Nat) (hx : x < 2 ^ 64) (w : World) :
  Calls Tryz.prog 184 #[.int .u64 (x : Int)] w fun e w' => ∃ v, e = .returned v ∧ Row w' 5 1 v (Cod.enc x).length (B (Cod.enc x)) ∧ (∀ j, v.ownBlock = some j → w.heap.size ≤ j) ∧ v ≠ .slice none 0 0 ∧ Keeps Nob w w' := by
 have HX := Lib.hid hx
 have c1 : (w.alloc (.cells #[.int .u64 (x : Int)] 26)).cell? ⟨w.heap.size, 0, none⟩ = some (.int .u64 (x : Int)) := (World.cell?_alloc_at _ _ _ _ rfl).trans rfl
 have f1 : (w.alloc (.cells #[.int .u64 (x : Int)] 26)).frozen? ⟨w.heap.size, 0, none⟩ = false := by simp [go_sem]
 have HA := Lib.hid (collect_ok w.heap.size x hx _ c1 f1)
 clear hx c1 f1
 go_enter Tryz.func184, Tryz.ntmps184
 go_wp2_with (first
  | (go_at_call 193; refine (digits_ok _ _).mono ?_; rintro e w' ⟨rfl, rfl⟩)
  | (go_at_call 192; refine HA.out.mono ?_; rintro e w' ⟨v, rfl, h1, h2, h3, h4⟩; have H1 := Lib.hid h1; have H2 := Lib.hid h2; have H3 := Lib.hid h3; clear h1 h2 h3))
 go_ret
 refine ⟨_, rfl, H1.out, fun j hj => ?_, H3.out, ((Keeps.refl Nob w).alloc _).then h4 (fun i hi (e : i = w.heap.size) => by omega)⟩
 have := H2.out j hj
 simp at this; omega
end Go.Proofs.YthmclmbeflbhhaaGreat
namespace Go.Proofs.YthmclmbeflbhhaaGreat
set_option maxRecDepth 100000
set_option maxHeartbeats 4000000
open Go Go.RowKit Go.Own Go.Shelf
end Go.Proofs.YthmclmbeflbhhaaGreat
namespace Go.Proofs.YthmclmbeflbhhaaGreat
set_option maxRecDepth 100000
set_option maxHeartbeats 4000000
open Go Go.RowKit Go.Own Go.Shelf
end Go.Proofs.YthmclmbeflbhhaaGreat
namespace Go.Proofs.YthmclmbeflbhhaaGreat
set_option maxRecDepth 100000
set_option maxHeartbeats 4000000
open Go Go.RowKit Go.Own Go.Shelf
end Go.Proofs.YthmclmbeflbhhaaGreat
namespace Go.Proofs.YthmclmbeflbhhaaGreat
set_option maxRecDepth 100000
set_option maxHeartbeats 4000000
open Go Go.RowKit Go.Own Go.Shelf
/-- 'slices.Clone' of bytes: nil of nil, else new memory. -/
theorem u8_info1 : (Tryz.prog.info? 5).map (fun i => (i.zero, i.size, i.bytes)) = some (some (.int .u8 0), 1, 1) := by kernel_rfl
theorem clone_ok (a : Value) (l : List UInt8) (w : World) (ha : BytesAt w a l) (hl : l.length ≤ 100000000) :
  Calls Tryz.prog 174 #[a] w fun e w' => ∃ v, e = .returned v ∧ Row w' 5 1 v l.length (B l) ∧ (∀ j, v.ownBlock = some j → w.heap.size ≤ j) ∧ Keeps Nob w w' := by
 obtain ⟨i0, hi, hz0, hz1, hz2⟩ := info_parts u8_info1
 obtain ⟨A, cap, rfl, h1, h2, h3⟩ := ha.form
 cases A with
 | none =>
  have h0 : l = [] := by
   cases l with
   | nil => rfl
   | cons x r => obtain ⟨b, o, c, e, _⟩ := ha.at_ 0 x rfl; simp at e
  subst h0
  obtain rfl := h3 rfl
  clear ha
  have hn := fun W => Lib.run_eql_slice_nil (P := Tryz.prog) W 214 5 none 0 0 0 0 Tryz.underlying214
  go_enter Tryz.func174, Tryz.ntmps174
  go_wp2
  go_ret
  exact ⟨_, rfl, ⟨rfl, .inl ⟨rfl, rfl⟩⟩, (fun j hj => by cases hj), Keeps.refl _ _⟩
 | some ad =>
  have hr := Row.empty w 5
  have hs := (ha.keepsN ((Keeps.refl Nob w).alloc (.cells #[] 5))).src
  have HA := Lib.hid ha
  clear ha h3
  have hn := fun W => Lib.run_eql_slice_nil (P := Tryz.prog) W 214 5 (some ad) l.length cap 0 0 Tryz.underlying214
  go_enter Tryz.func174, Tryz.ntmps174
  go_wp2_with (at_builtin; refine own_append2 rfl _ _ 214 rfl 5 i0 (.int .u8 0) 1 1 Tryz.underlying214 hi hz0 hz1 hz2 rfl (by decide) (.slice (some ⟨w.heap.size, 0, none⟩) 0 0) 0 _ rfl hr (.slice (some ad) l.length cap) l.length (B l) rfl hs (by unfold maxLen; omega) (by omega) ?_; intro v' w1 hown' hgrow hnil hat; rw [Nat.zero_add, List.nil_append] at hown'; have H1 := Lib.hid hown'; have H3 := Lib.hid hat; have H4 := Lib.hid hgrow; clear hown' hnil hat hgrow)
  go_ret
  refine ⟨_, rfl, H1.out, fun j hj => ?_, ((Keeps.refl Nob w).alloc _).grown H4.out (fun j hj hlt => by simp [Value.ownBlock] at hj; omega)⟩
  rcases H3.out j hj with h | ⟨h, _⟩
  ·simp [Value.ownBlock] at h; omega
  ·simp at h; omega
end Go.Proofs.YthmclmbeflbhhaaGreat
namespace Go.Proofs.YthmclmbeflbhhaaGreat
set_option maxRecDepth 100000
set_option maxHeartbeats 4000000
open Go Go.RowKit Go.Own Go.Shelf
/-- A writer's state: its limit, its bytes, its error. -/
structure WS where
 lim : Int
 out : List UInt8
 err : Int
def WS.add (s : WS) (bs : List UInt8) : WS := if s.err = 0 then (if s.lim - s.out.length < bs.length then { s with err := 4 } else { s with out := s.out ++ bs }) else s
structure WrAt (w : World) (b : Nat) (v : Value) (s : WS) : Prop where
 blk : w.heap[b]? = some (.cells #[v, .int .i64 s.lim, .bool true, .int .i64 s.err] 242 (0, 0))
 row : Row w 5 1 v s.out.length (B s.out)
 own : v.ownBlock ≠ some b
 l0 : 0 ≤ s.lim
 l1 : s.lim ≤ 1048576
 fits : (s.out.length : Int) ≤ s.lim
/-- Its blocks. -/
def WBlk (b : Nat) (v : Value) : Nat → Prop := fun j => j = b ∨ v.ownBlock = some j
theorem WrAt.lt {w : World} {b : Nat} {v : Value} {s : WS} (h : WrAt w b v s) : b < w.heap.size := lt_of_block h.blk
theorem WrAt.blk_lt {w : World} {b : Nat} {v : Value} {s : WS} (h : WrAt w b v s) : ∀ j, WBlk b v j → j < w.heap.size := fun j hj => by
 rcases hj with rfl | hj
 ·exact h.lt
 ·exact h.row.lt hj
theorem WrAt.keeps {w w' : World} {M : Nat → Prop} {b : Nat} {v : Value} {s : WS} (h : WrAt w b v s) (k : Keeps M w w') (hm : ∀ j, WBlk b v j → ¬ M j) : WrAt w' b v s :=
 ⟨(k.block b h.lt (hm b (.inl rfl))).trans h.blk, h.row.keeps k (fun j hj => hm j (.inr hj)), h.own, h.l0, h.l1, h.fits⟩
theorem wstate_ok (b : Nat) (v : Value) (s : WS) (w : World) (h : WrAt w b v s) :
  Calls Tryz.prog 173 #[pT b 0] w fun e w' => e = .returned (.int .i64 s.err) ∧ w = w' := by
 have c2 : w.cell? ⟨b, 2, none⟩ = some (.bool true) := (cell_of_row w b 2 _ _ _ h.blk).trans rfl
 have c3 : w.cell? ⟨b, 3, none⟩ = some (.int .i64 s.err) := (cell_of_row w b 3 _ _ _ h.blk).trans rfl
 clear h
 go_enter Tryz.func173, Tryz.ntmps173
 go_wp2
 go_ret
 exact ⟨rfl, rfl⟩
theorem newWriter_ok (lim : Int) (w : World) (h0 : 0 ≤ lim) (h1 : lim ≤ 1048576) :
  Calls Tryz.prog 160 #[.int .i64 lim] w fun e w' => ∃ b, e = .returned (.tuple #[pT b 0, .int .i64 0]) ∧ WrAt w' b (.slice none 0 0) ⟨lim, [], 0⟩ ∧ w.heap.size ≤ b ∧ Keeps Nob w w' := by
 have d0 : decide (lim < 0) = false := by simpa using h0
 have d1 : decide (1048576 < lim) = false := by simpa using h1
 go_enter Tryz.func160, Tryz.ntmps160
 go_wp2
 go_ret2
 exact ⟨_, rfl, ⟨heap_alloc_new _ _, ⟨rfl, .inl ⟨rfl, rfl⟩⟩, by simp [Value.ownBlock], h0, h1, by simpa using h0⟩, Nat.le_refl _, (Keeps.refl _ _).alloc _⟩
/-- What a step leaves of a writer. -/
def WPost (b : Nat) (v : Value) (s : WS) (w : World) (e : Ending) (w' : World) : Prop :=
 e = .returned (.int .i64 s.err) ∧ (∃ v', WrAt w' b v' s ∧ ∀ j, v'.ownBlock = some j → v.ownBlock = some j ∨ w.heap.size ≤ j) ∧ Keeps (WBlk b v) w w'
theorem wadd_ok (b : Nat) (v : Value) (s : WS) (x : Value) (bs : List UInt8) (w : World) (h : WrAt w b v s) (hx : BytesAt w x bs) (hl : bs.length ≤ 10000000) :
  Calls Tryz.prog 178 #[pT b 0, x] w (WPost b v (s.add bs) w) := by
 have HS := Lib.hid (wstate_ok b v s w h)
 have H := Lib.hid h
 obtain ⟨A, cap, rfl⟩ := hx.len
 obtain ⟨Av, cv, rfl⟩ := (Row.bytes h.row).len
 have c0 : w.cell? ⟨b, 0, none⟩ = some (.slice Av s.out.length cv) := (cell_of_row w b 0 _ _ _ h.blk).trans rfl
 have c1 : w.cell? ⟨b, 1, none⟩ = some (.int .i64 s.lim) := (cell_of_row w b 1 _ _ _ h.blk).trans rfl
 have c3 : w.cell? ⟨b, 3, none⟩ = some (.int .i64 s.err) := (cell_of_row w b 3 _ _ _ h.blk).trans rfl
 have f3 : w.frozen? ⟨b, 3, none⟩ = false := frozen_of_row w b 3 _ _ h.blk
 have hlt := h.lt
 have l0 := h.l0
 have l1 := h.l1
 have hfit := h.fits
 have HX := Lib.hid hx
 clear h hx
 by_cases h0 : s.err = 0
 ·have d0 : (s.err != 0) = false := by simpa using h0
  have ew : IntKind.i64.wrap (s.lim - (s.out.length : Int)) = s.lim - (s.out.length : Int) := by rw [IntKind.wrap_i64]; omega
  by_cases h1 : s.lim - (s.out.length : Int) < (bs.length : Int)
  ·have e1 : s.add bs = { s with err := 4 } := by unfold WS.add; rw [if_pos h0, if_pos h1]
   rw [e1]
   have d1 : decide (s.lim - (s.out.length : Int) < (bs.length : Int)) = true := by simpa using h1
   clear e1 h0
   go_enter Tryz.func178, Tryz.ntmps178
   go_wp2_with (go_at_call 173; refine HS.out.mono ?_; rintro e w' ⟨rfl, rfl⟩)
   go_quiet (fail)
   revert nq; intro n1
   go_wp2
   go_ret
   have hb2 := heap_setCell_same (w.drewN n1) b 3 _ _ (.int .i64 4) H.out.blk
   have hk : Keeps (One b) w ((w.drewN n1).setCell ⟨b, 3, none⟩ (.int .i64 4)) := ((Keeps.refl _ _).drewN n1).setOne _
   exact ⟨rfl, ⟨_, ⟨hb2, H.out.row.keeps hk (fun j hj (e : j = b) => H.out.own (by rw [hj, e])), H.out.own, l0, l1, hfit⟩, fun j hj => .inl hj⟩, hk.mono (fun _ _ e => .inl e)⟩
  ·have e1 : s.add bs = { s with out := s.out ++ bs } := by unfold WS.add; rw [if_pos h0, if_neg h1]
   rw [e1]
   have d1 : decide (s.lim - (s.out.length : Int) < (bs.length : Int)) = false := by simpa using h1
   obtain ⟨i0, hi, hz0, hz1, hz2⟩ := info_parts u8_info0
   have HI := Lib.hid hi
   have HZ0 := Lib.hid hz0
   have HZ1 := Lib.hid hz1
   have HZ2 := Lib.hid hz2
   have H0 := Lib.hid h0
   clear e1 h0 hi hz0 hz1 hz2
   go_enter Tryz.func178, Tryz.ntmps178
   go_wp2_with (go_at_call 173; refine HS.out.mono ?_; rintro e w' ⟨rfl, rfl⟩)
   go_quiet (fail)
   revert nq; intro n1
   have kd : Hid (Keeps Nob w (w.drewN n1)) := Lib.hid ((Keeps.refl _ _).drewN n1)
   have HR1 := Lib.hid (H.out.row.keeps kd.out (fun _ _ x => x))
   have HS1 := Lib.hid (HX.out.keepsN kd.out).src
   go_wp2_with (at_builtin; refine own_append2 rfl _ _ 214 rfl 5 i0 (.int .u8 0) 1 1 Tryz.underlying214 HI.out HZ0.out HZ1.out HZ2.out rfl (by decide) _ _ _ rfl HR1.out (.slice A bs.length cap) bs.length (B bs) rfl HS1.out (len_small _ _ (by omega)) (len_bytes _ _ (by omega)) ?_; intro v' w1 hown' hgrow hnil hat; rw [← B_append, ← List.length_append] at hown'; obtain ⟨Av', cv', hv'⟩ := (Row.bytes hown').len; subst hv'; have hk1 : Keeps (fun j => (Value.slice Av s.out.length cv).ownBlock = some j) (w.drewN n1) w1 := (Keeps.refl _ _).grown hgrow (fun j hj _ => hj); have hb1 := (hk1.block b hlt (fun e => H.out.own e)).trans H.out.blk; have q0 : w1.cell? ⟨b, 0, none⟩ = some (.slice Av s.out.length cv) := (cell_of_row w1 b 0 _ _ _ hb1).trans rfl; have q1 : w1.frozen? ⟨b, 0, none⟩ = false := frozen_of_row w1 b 0 _ _ hb1; have H1 := Lib.hid hown'; have H3 := Lib.hid hat; have HB := Lib.hid hb1; have HK := Lib.hid hk1; clear hown' hnil hat hgrow hb1 hk1)
   go_ret
   obtain ⟨v', hv'⟩ : ∃ v', (Value.slice Av' (s.out.length + bs.length) cv') = v' := ⟨_, rfl⟩
   rw [List.length_append, hv'] at H1 H3
   rw [hv']
   have hb2 := heap_setCell_same w1 b 0 _ _ v' HB.out
   have hkS : Keeps (One b) w1 (w1.setCell ⟨b, 0, none⟩ v') := (Keeps.refl _ _).setOne _
   have hown : ∀ j, v'.ownBlock = some j → (Value.slice Av s.out.length cv).ownBlock = some j ∨ w.heap.size ≤ j := fun j hj => by
    rcases H3.out j hj with h | ⟨h, _⟩
    ·exact .inl h
    ·simp at h; exact .inr (by omega)
   have hvb : v'.ownBlock ≠ some b := fun hj => by
    rcases hown b hj with h | h
    ·exact H.out.own h
    ·omega
   refine ⟨by show Ending.returned (.int .i64 0) = .returned (.int .i64 s.err); rw [H0.out], ⟨v', ⟨hb2, ?_, hvb, l0, l1, by simp; omega⟩, hown⟩, (((Keeps.refl _ w).drewN n1).trans (HK.out.mono (fun _ _ e => .inr e))).trans (hkS.mono (fun _ _ e => .inl e))⟩
   rw [← List.length_append] at H1
   exact H1.out.keeps hkS (fun j hj (e : j = b) => hvb (by rw [hj, e]))
 ·have e1 : s.add bs = s := by unfold WS.add; rw [if_neg h0]
  rw [e1]
  have d0 : (s.err != 0) = true := by simpa using h0
  clear h0 e1
  go_enter Tryz.func178, Tryz.ntmps178
  go_wp2_with (go_at_call 173; refine HS.out.mono ?_; rintro e w' ⟨rfl, rfl⟩)
  go_ret
  exact ⟨rfl, ⟨_, H.out, fun j hj => .inl hj⟩, Keeps.refl _ _⟩
end Go.Proofs.YthmclmbeflbhhaaGreat
namespace Go.Proofs.YthmclmbeflbhhaaGreat
set_option maxRecDepth 100000
set_option maxHeartbeats 4000000
open Go Go.RowKit Go.Own Go.Shelf
theorem WPost.mono {b : Nat} {v : Value} {s : WS} {w w0 : World} {e : Ending} {w' : World} (h : WPost b v s w e w') (k : Keeps Nob w0 w) : WPost b v s w0 e w' := by
 obtain ⟨h1, ⟨v', h2, h3⟩, h4⟩ := h
 refine ⟨h1, ⟨v', h2, fun j hj => ?_⟩, (k.mono (fun _ _ x => x.elim)).trans h4⟩
 rcases h3 j hj with h | h
 ·exact .inl h
 ·exact .inr (Nat.le_trans k.size h)
theorem wU_ok (b : Nat) (v : Value) (s : WS) (n : Nat) (w : World) (h : WrAt w b v s) (hn : n < 2 ^ 64) :
  Calls Tryz.prog 177 #[pT b 0, .int .u64 (n : Int)] w (WPost b v (s.add (Cod.enc n)) w) := by
 have H := Lib.hid h
 have HP := Lib.hid (cPut_ok n hn w)
 clear h hn
 go_enter Tryz.func177, Tryz.ntmps177
 go_wp2_with (first
  | (go_at_call 184; refine HP.out.mono ?_; rintro e w1 ⟨x, rfl, h1, h2, h3, h4⟩; have H1 := Lib.hid h1; have H4 := Lib.hid h4; clear h1 h2 h3 h4)
  | (go_at_call 178; refine (wadd_ok b v s x (Cod.enc n) w1 (H.out.keeps H4.out (fun _ _ x => x)) (Row.bytes H1.out) (by have := Cod.enc_length n; omega)).mono ?_; rintro e w2 hp; have HQ := Lib.hid (hp.mono H4.out); obtain ⟨rfl, -, -⟩ := hp))
 go_ret
 exact HQ.out
theorem wN_ok (b : Nat) (v : Value) (s : WS) (n : Int) (w : World) (h : WrAt w b v s) (h0 : 0 ≤ n) (h1 : n ≤ 9223372036854775807) :
  Calls Tryz.prog 165 #[pT b 0, .int .i64 n] w (WPost b v (s.add (Cod.enc n.toNat)) w) := by
 have H := Lib.hid h
 have HS := Lib.hid (wstate_ok b v s w h)
 obtain ⟨k, rfl⟩ : ∃ k : Nat, n = (k : Int) := ⟨n.toNat, by omega⟩
 have HU := Lib.hid (wU_ok b v s k w h (by omega))
 rw [Int.toNat_natCast]
 have w1' : IntKind.u64.wrap (k : Int) = (k : Int) := by simp [IntKind.wrap, IntKind.bits, IntKind.signed]; omega
 have d0 : decide ((0 : Int) ≤ (k : Int)) = true := by simp
 clear h
 by_cases he : s.err = 0
 ·have d1 : (s.err != 0) = false := by simpa using he
  clear he
  go_enter Tryz.func165, Tryz.ntmps165
  go_wp2_with (first
   | (go_at_call 173; refine HS.out.mono ?_; rintro e w' ⟨rfl, rfl⟩)
   | (go_at_call 177; refine HU.out.mono ?_; rintro e w2 hp; have HQ := Lib.hid hp; obtain ⟨rfl, -, -⟩ := hp))
  go_ret
  exact HQ.out
 ·have d1 : (s.err != 0) = true := by simpa using he
  clear he
  go_enter Tryz.func165, Tryz.ntmps165
  go_wp2_with (first
   | (go_at_call 173; refine HS.out.mono ?_; rintro e w' ⟨rfl, rfl⟩)
   | (go_at_call 177; refine HU.out.mono ?_; rintro e w2 hp; have HQ := Lib.hid hp; obtain ⟨rfl, -, -⟩ := hp))
  go_ret
  exact HQ.out
/-- The cells of an array, as a slice of bytes. -/
theorem bytes_of_block {w : World} {g : Nat} {l : List UInt8} {t : TypeId} {fr : Nat × Nat} (hg : w.heap[g]? = some (.cells (B l).toArray t fr)) (hl : l.length ≤ maxLen) : BytesAt w (.slice (some ⟨g, 0, none⟩) l.length l.length) l :=
 ⟨⟨_, _, rfl, Nat.le_refl _, hl, fun h => by cases h⟩, fun k x hk => ⟨g, 0, _, rfl, lt_of_block hg, by rw [Nat.zero_add]; exact (cell_of_row w g k _ _ _ hg).trans (by simpa using B_get l k x hk)⟩⟩
theorem wHash_ok (b : Nat) (v : Value) (s : WS) (l : List UInt8) (w : World) (h : WrAt w b v s) (hl : l.length = 32) :
  Calls Tryz.prog 167 #[pT b 0, .agg (B l).toArray] w (WPost b v (s.add l) w) := by
 have k0 : Keeps Nob w (w.alloc (.cells (B l).toArray 25)) := (Keeps.refl _ _).alloc _
 have hb := bytes_of_block (heap_alloc_new w (.cells (B l).toArray 25)) (by rw [hl]; decide)
 rw [hl] at hb
 have HA := Lib.hid (wadd_ok b v s _ l _ (h.keeps k0 (fun _ _ x => x)) hb (by omega))
 have K0 := Lib.hid k0
 obtain ⟨X, hX⟩ : ∃ X, (B l).toArray = X := ⟨_, rfl⟩
 rw [hX] at HA K0 ⊢
 clear h k0 hb hX hl
 go_enter Tryz.func167, Tryz.ntmps167
 go_wp2_with (go_at_call 178; refine HA.out.mono ?_; rintro e w2 hp; have HQ := Lib.hid (hp.mono K0.out); obtain ⟨rfl, -, -⟩ := hp)
 go_ret
 exact HQ.out
/-- Done: the bytes, or why none. -/
def DPost (s : WS) (w : World) (e : Ending) (w' : World) : Prop :=
 ∃ X, e = .returned (.tuple #[X, .int .i64 s.err]) ∧ (Row w' 5 1 X (if s.err = 0 then s.out else []).length (B (if s.err = 0 then s.out else [])) ∧ ∀ j, X.ownBlock = some j → w.heap.size ≤ j) ∧ Keeps Nob w w'
theorem wDone_ok (b : Nat) (v : Value) (s : WS) (w : World) (h : WrAt w b v s) :
  Calls Tryz.prog 161 #[pT b 0] w (DPost s w) := by
 have HS := Lib.hid (wstate_ok b v s w h)
 have hf := h.fits
 have hl := h.l1
 have HC := Lib.hid (clone_ok v s.out w (Row.bytes h.row) (by omega))
 have c0 : w.cell? ⟨b, 0, none⟩ = some v := (cell_of_row w b 0 _ _ _ h.blk).trans rfl
 clear h
 by_cases he : s.err = 0
 ·have d1 : (s.err != 0) = false := by simpa using he
  have HE := Lib.hid he
  clear he
  go_enter Tryz.func161, Tryz.ntmps161
  go_wp2_with (first
   | (go_at_call 173; refine HS.out.mono ?_; rintro e w' ⟨rfl, rfl⟩)
   | (go_at_call 174; refine HC.out.mono ?_; rintro e w1 ⟨X, rfl, h1, h2, h3⟩; have H1 := Lib.hid h1; have H2 := Lib.hid h2; have H3 := Lib.hid h3; clear h1 h2 h3))
  go_ret2
  exact ⟨X, by rw [HE.out]; rfl, ⟨by rw [if_pos HE.out]; exact H1.out, H2.out⟩, H3.out⟩
 ·have d1 : (s.err != 0) = true := by simpa using he
  have HE := Lib.hid he
  clear he
  go_enter Tryz.func161, Tryz.ntmps161
  go_wp2_with (go_at_call 173; refine HS.out.mono ?_; rintro e w' ⟨rfl, rfl⟩)
  go_ret2
  exact ⟨_, rfl, ⟨by rw [if_neg HE.out]; exact ⟨rfl, .inl ⟨rfl, rfl⟩⟩, fun j hj => by cases hj⟩, Keeps.refl _ _⟩
end Go.Proofs.YthmclmbeflbhhaaGreat
namespace Go.Proofs.YthmclmbeflbhhaaGreat
set_option maxRecDepth 100000
set_option maxHeartbeats 4000000
open Go Go.RowKit Go.Own Go.Shelf
def Wr (w : World) (F : Nat → Prop) (b : Nat) (s : WS) : Prop := ∃ v, WrAt w b v s ∧ F = WBlk b v
section
variable {w w' : World} {F M : Nat → Prop} {b : Nat} {t t' : WS}
theorem Wr.lt (h : Wr w F b t) : Lt F w := by
  obtain ⟨v, h1, rfl⟩ := h
  exact h1.blk_lt
theorem Wr.keeps (h : Wr w F b t) (k : Keeps M w w') (d : Dis F M) : Wr w' F b t := by
  obtain ⟨v, h1, rfl⟩ := h
  exact ⟨v, h1.keeps k d, rfl⟩
theorem Wr.keepsN (h : Wr w F b t) (k : Keeps Nob w w') : Wr w' F b t := h.keeps k (fun _ _ x => x)
theorem wr_step {v : Value} {e : Ending} (hp : WPost b v t' w e w') : e = .returned (.int .i64 t'.err) ∧ ∃ F', Wr w' F' b t' ∧ Step w w' (WBlk b v) F' := by
  obtain ⟨h1, ⟨v', h2, h3⟩, h4⟩ := hp
  refine ⟨h1, _, ⟨v', h2, rfl⟩, h4, fun j hj => ?_⟩
  rcases hj with hj | hj
  · exact .inl (.inl hj)
  · rcases h3 j hj with h | h
    · exact .inl (.inr h)
    · exact .inr ⟨h, h2.row.lt hj⟩
def WPost2 (w : World) (F : Nat → Prop) (b : Nat) (t' : WS) (e : Ending) (w' : World) : Prop := e = .returned (.int .i64 t'.err) ∧ ∃ F', Wr w' F' b t' ∧ Step w w' F F'
theorem wr_new (lim : Int) (w : World) (h0 : 0 ≤ lim) (h1 : lim ≤ 1048576) :
    Calls Tryz.prog 160 #[.int .i64 lim] w fun e w' => ∃ b F, e = .returned (.tuple #[.pointer (some ⟨b, 0, none⟩), .int .i64 0]) ∧ Wr w' F b ⟨lim, [], 0⟩ ∧ Ge F w ∧ Keeps Nob w w' :=
  (newWriter_ok lim w h0 h1).mono fun e w' ⟨b, he, hr, hb, hk⟩ => by
    refine ⟨b, _, he, ⟨_, hr, rfl⟩, ?_, hk⟩
    intro j hj
    rcases hj with rfl | hj
    · exact hb
    · cases hj
theorem Wr.u (h : Wr w F b t) (n : Nat) (hn : n < 2 ^ 64) : Calls Tryz.prog 177 #[.pointer (some ⟨b, 0, none⟩), .int .u64 (n : Int)] w (WPost2 w F b (t.add (Cod.enc n))) := by
  obtain ⟨v, h1, rfl⟩ := h
  exact (wU_ok b v t n w h1 hn).mono fun e w' hp => wr_step hp
theorem Wr.n (h : Wr w F b t) (n : Int) (h0 : 0 ≤ n) (h1 : n ≤ 9223372036854775807) : Calls Tryz.prog 165 #[.pointer (some ⟨b, 0, none⟩), .int .i64 n] w (WPost2 w F b (t.add (Cod.enc n.toNat))) := by
  obtain ⟨v, h2, rfl⟩ := h
  exact (wN_ok b v t n w h2 h0 h1).mono fun e w' hp => wr_step hp
theorem Wr.hash (h : Wr w F b t) (l : List UInt8) (hl : l.length = 32) : Calls Tryz.prog 167 #[.pointer (some ⟨b, 0, none⟩), .agg (B l).toArray] w (WPost2 w F b (t.add l)) := by
  obtain ⟨v, h1, rfl⟩ := h
  exact (wHash_ok b v t l w h1 hl).mono fun e w' hp => wr_step hp
theorem Wr.done (h : Wr w F b t) : Calls Tryz.prog 161 #[.pointer (some ⟨b, 0, none⟩)] w (DPost t w) := by
  obtain ⟨v, h1, _⟩ := h
  exact wDone_ok b v t w h1
end
end Go.Proofs.YthmclmbeflbhhaaGreat
namespace Go.Proofs.YthmclmbeflbhhaaGreat
set_option maxRecDepth 100000
set_option maxHeartbeats 4000000
open Go Go.RowKit Go.Own Go.Shelf
/-- What is written of a vote. -/
inductive Thg | n (x : Int) | h (r : List UInt8) | u (k : Nat)
def Thg.by : Thg → List UInt8
 | .n x => Cod.enc x.toNat
 | .h r => r
 | .u k => Cod.enc k
def Thg.Ok : Thg → Prop
 | .n x => 0 ≤ x ∧ x ≤ 9223372036854775807
 | .h r => r.length = 32
 | .u _ => False
def ThgAt (W : World) (V : Value) : Thg → Prop
 | .n x => ∃ g, V = .func (.func 164) #[] #[pT g 0] ∧ W.heap[g]? = some (.cells #[.int .i64 x] 3 (0, 0))
 | .h r => ∃ g, V = .func (.func 166) #[] #[pT g 0] ∧ W.heap[g]? = some (.cells (B r).toArray 25 (0, 0))
 | .u k => ∃ g : Nat, V = .nilFunc ∧ W.heap[g]? = some (Obj.cells #[.int .u64 ((k : Nat) : Int)] 26 (0, 0))
theorem ThgAt.keeps {W W' : World} {M : Nat → Prop} {V : Value} {t : Thg} (h : ThgAt W V t) (k : Keeps M W W') (hm : ∀ j cs T fr, W.heap[j]? = some (.cells cs T fr) → T = 3 ∨ T = 25 ∨ T = 26 → ¬ M j) : ThgAt W' V t := by
 cases t <;> obtain ⟨g, e, hg⟩ := h
 ·exact ⟨g, e, (k.block g (lt_of_block hg) (hm g _ _ _ hg (.inl rfl))).trans hg⟩
 ·exact ⟨g, e, (k.block g (lt_of_block hg) (hm g _ _ _ hg (.inr (.inl rfl)))).trans hg⟩
 ·exact ⟨g, e, (k.block g (lt_of_block hg) (hm g _ _ _ hg (.inr (.inr rfl)))).trans hg⟩
theorem ThgAt.one {W : World} {V : Value} {t : Thg} (h : ThgAt W V t) : V.oneCell' = true := by
 cases t <;> obtain ⟨g, rfl, hg⟩ := h <;> rfl
/-- Things, one by one. -/
def ThsAt (W : World) (vs : List Value) (ts : List Thg) : Prop := vs.length = ts.length ∧ ∀ (k : Nat) (V : Value) (t : Thg), vs[k]? = some V → ts[k]? = some t → ThgAt W V t
theorem ThsAt.keepsN {W W' : World} {vs : List Value} {ts : List Thg} (h : ThsAt W vs ts) (k : Keeps Nob W W') : ThsAt W' vs ts := ⟨h.1, fun i V t hv ht => (h.2 i V t hv ht).keeps k (fun _ _ _ _ _ _ x => x)⟩
theorem ThsAt.nil (W : World) : ThsAt W [] [] := ⟨rfl, fun k V t h => by simp at h⟩
theorem ThsAt.cons {W : World} {V : Value} {t : Thg} {vs : List Value} {ts : List Thg} (h : ThgAt W V t) (hs : ThsAt W vs ts) : ThsAt W (V :: vs) (t :: ts) := ⟨by simp [hs.1], fun k U u hU hu => by
 cases k with
 | zero => simp at hU hu; subst hU; subst hu; exact h
 | succ k => exact hs.2 k U u (by simpa using hU) (by simpa using hu)⟩
def byt (ts : List Thg) (i : Nat) : List UInt8 := (ts.take i).flatMap Thg.by
def allb (ts : List Thg) : List UInt8 := ts.flatMap Thg.by
theorem byt_succ {ts : List Thg} {i : Nat} {t : Thg} (h : ts[i]? = some t) : byt ts (i + 1) = byt ts i ++ t.by := by unfold byt; rw [List.take_add_one, h]; simp
theorem byt_all (ts : List Thg) : byt ts ts.length = allb ts := by unfold byt allb; rw [List.take_length]
theorem byt_le (ts : List Thg) (i : Nat) : (byt ts i).length ≤ (allb ts).length := by
 unfold byt allb
 conv => rhs; rw [← List.take_append_drop i ts, List.flatMap_append, List.length_append]
 omega
theorem add_ok {out bs : List UInt8} (h : out.length + bs.length ≤ 4096) : (⟨4096, out, 0⟩ : WS).add bs = ⟨4096, out ++ bs, 0⟩ := by
 unfold WS.add
 rw [if_pos rfl, if_neg (by simp only; omega)]
theorem ths_split {w : World} {vs : List Value} {ts : List Thg} (h : ThsAt w vs ts) (hok : ∀ (k : Nat) (t : Thg), ts[k]? = some t → t.Ok) (i : Nat) (hi : i ≤ ts.length) :
  (i < ts.length ∧ ∃ x gk, ts[i]? = some (.n x) ∧ (0 ≤ x ∧ x ≤ 9223372036854775807) ∧ vs[i]? = some (.func (.func 164) #[] #[pT gk 0]) ∧ w.heap[gk]? = some (.cells #[.int .i64 x] 3 (0, 0))) ∨
  (i < ts.length ∧ ∃ r gk, ts[i]? = some (.h r) ∧ r.length = 32 ∧ vs[i]? = some (.func (.func 166) #[] #[pT gk 0]) ∧ w.heap[gk]? = some (.cells (B r).toArray 25 (0, 0))) ∨
  (i < ts.length ∧ ∃ k gk : Nat, ts[i]? = some (.u k) ∧ k < 2 ^ 64 ∧ False ∧ gk = 0) ∨ i = ts.length := by
 rcases Nat.lt_or_eq_of_le hi with hl | hl
 ·obtain ⟨V, hV⟩ : ∃ V, vs[i]? = some V := ⟨_, List.getElem?_eq_getElem (by rw [h.1]; exact hl)⟩
  obtain ⟨t, ht⟩ : ∃ t, ts[i]? = some t := ⟨_, List.getElem?_eq_getElem hl⟩
  have hT := h.2 i V t hV ht
  have hO := hok i t ht
  cases t with
  | n x => obtain ⟨g, rfl, hg⟩ := hT; exact .inl ⟨hl, x, g, ht, hO, hV, hg⟩
  | h r => obtain ⟨g, rfl, hg⟩ := hT; exact .inr (.inl ⟨hl, r, g, ht, hO, hV, hg⟩)
  | u k => exact hO.elim
 ·exact .inr (.inr (.inr hl))
theorem hd_get {vs rest : List Value} {i : Nat} {V : Value} (h : vs[i]? = some V) : (vs ++ rest).toArray[i]? = some V := by
 rw [List.getElem?_toArray, List.getElem?_append_left (List.getElem?_eq_some_iff.1 h).1]; exact h
noncomputable def qc79_4 (n : Nat) : Code := partOf Tryz.f153 n
theorem vnum_ok (x : Int) (w : World) :
  Calls Tryz.prog 153 #[.int .i64 x] w (fun e w' => ∃ g, e = .returned (.func (.func 164) #[] #[pT g 0]) ∧ w'.heap[g]? = some (.cells #[.int .i64 x] 3 (0, 0)) ∧ w.heap.size ≤ g ∧ Keeps Nob w w') := by
 have K0 : Keeps Nob w w := Keeps.refl _ _
 refine sy_enter (qc79_4 1) ⟨#[.int .i64 x, ud, ud, ud], []⟩ Tryz.func153 (by kernel_rfl) (by kernel_rfl) <| qr_ [0, 1] <| pbx 3 (#[.int .i64 x]) (.int .i64 x) fun V1 g eg h2 kV1 => ?_
 have n3 := nk eg K0
 have K4 := K0.nn kV1
 have z5 := kV1.size
 refine pkq (.nilFunc) <| eqr_ [0, 1] <| pkq (.func (.func 164) #[] #[pT g 0]) <| pkq (.func (.func 164) #[] #[pT g 0]) <| eu_ <| so_ (.func (.func 164) #[] #[pT g 0]) ?_
 exact ⟨g, rfl, h2, by omega, K4⟩
noncomputable def qc79_3 (n : Nat) : Code := partOf Tryz.f164 n
theorem vnum1_ok (b g : Nat) (x : Int) (F0 : Nat → Prop) (out : List UInt8) (w : World) (hw : Wr w F0 b ⟨4096, out, 0⟩) (hg : w.heap[g]? = some (.cells #[.int .i64 x] 3 (0, 0))) (hx : 0 ≤ x ∧ x ≤ 9223372036854775807) (hl : out.length + (Cod.enc x.toNat).length ≤ 4096) :
  Calls Tryz.prog 164 #[pT b 0, pT g 0] w (fun e w' => e = .returned (.int .i64 0) ∧ ∃ F', Wr w' F' b ⟨4096, out ++ (Cod.enc x.toNat), 0⟩ ∧ Step w w' F0 F') := by
 have K0 : Keeps F0 w w := Keeps.refl _ _
 refine sy_enter (qc79_3 1) ⟨fr [pT b 0, pT g 0] 5, []⟩ Tryz.func164 (by kernel_rfl) (by kernel_rfl) <| qr_ [0] <| pkq (.int .i64 0) <| eqr_ [0, 1, 2, 3] <| pkq (pT b 0) <| ppq (.int .i64 x) (ldk 3 g 0 hg) ?_
 refine pcq 165 #[pT b 0, .int .i64 x] Tryz.func165 ((hw.n x hx.1 hx.2).mono ?_)
 rintro e V1 ⟨he, F', hW, hS⟩
 rw [add_ok hl] at he hW
 subst he
 refine ⟨_, rfl, ?_⟩
 have K2 : Keeps F0 w V1 := K0.then hS.1 (fun _ _ h => h)
 have z3 := hS.1.size
 refine pkq (.int .i64 0) <| eu_ <| so_ (.int .i64 0) ?_
 exact ⟨rfl, F', hW, hS⟩
noncomputable def qc79_2 (n : Nat) : Code := partOf Tryz.f154 n
theorem vroot_ok (r : List UInt8) (w : World) :
  Calls Tryz.prog 154 #[.agg (B r).toArray] w (fun e w' => ∃ g, e = .returned (.func (.func 166) #[] #[pT g 0]) ∧ w'.heap[g]? = some (.cells (B r).toArray 25 (0, 0)) ∧ w.heap.size ≤ g ∧ Keeps Nob w w') := by
 have K0 : Keeps Nob w w := Keeps.refl _ _
 refine sy_enter (qc79_2 1) ⟨#[.agg (B r).toArray, ud, ud, ud], []⟩ Tryz.func154 (by kernel_rfl) (by kernel_rfl) <| qr_ [0, 1] <| pbx 25 ((B r).toArray) (.agg (B r).toArray) fun V1 g eg h2 kV1 => ?_
 have n3 := nk eg K0
 have K4 := K0.nn kV1
 have z5 := kV1.size
 refine pkq (.nilFunc) <| eqr_ [0, 1] <| pkq (.func (.func 166) #[] #[pT g 0]) <| pkq (.func (.func 166) #[] #[pT g 0]) <| eu_ <| so_ (.func (.func 166) #[] #[pT g 0]) ?_
 exact ⟨g, rfl, h2, by omega, K4⟩
noncomputable def qc79_1 (n : Nat) : Code := partOf Tryz.f166 n
theorem vroot1_ok (b g : Nat) (r : List UInt8) (F0 : Nat → Prop) (out : List UInt8) (w : World) (hw : Wr w F0 b ⟨4096, out, 0⟩) (hg : w.heap[g]? = some (.cells (B r).toArray 25 (0, 0))) (hr : r.length = 32) (hl : out.length + (r).length ≤ 4096) :
  Calls Tryz.prog 166 #[pT b 0, pT g 0] w (fun e w' => e = .returned (.int .i64 0) ∧ ∃ F', Wr w' F' b ⟨4096, out ++ r, 0⟩ ∧ Step w w' F0 F') := by
 have K0 : Keeps F0 w w := Keeps.refl _ _
 refine sy_enter (qc79_1 1) ⟨fr [pT b 0, pT g 0] 5, []⟩ Tryz.func166 (by kernel_rfl) (by kernel_rfl) <| qr_ [0] <| pkq (.int .i64 0) <| eqr_ [0, 1, 2, 3] <| pkq (pT b 0) <| ppq (.agg ((B r).toArray)) (ldr 25 g (hg) (by rw [Bz_size, hr]; kernel_rfl)) ?_
 refine pcq 167 #[pT b 0, .agg ((B r).toArray)] Tryz.func167 ((hw.hash r hr).mono ?_)
 rintro e V1 ⟨he, F', hW, hS⟩
 rw [add_ok hl] at he hW
 subst he
 refine ⟨_, rfl, ?_⟩
 have K2 : Keeps F0 w V1 := K0.then hS.1 (fun _ _ h => h)
 have z3 := hS.1.size
 refine pkq (.int .i64 0) <| eu_ <| so_ (.int .i64 0) ?_
 exact ⟨rfl, F', hW, hS⟩
noncomputable def qc79_0 (n : Nat) : Code := partOf Tryz.f151 n
noncomputable abbrev qo79_0 (n k : Nat) : Oper := (opsAt (qc79_0 n)).getD k default
theorem vwritten_bad (x : Int) (v : Value) (w : World) (hx : x ≠ 0) :
  Calls Tryz.prog 151 #[.int .i64 x, v] w (fun e w' => e = .returned (.tuple #[.slice none 0 0, .int .i64 x]) ∧ w = w') := by
 have K0 : Keeps Nob w w := Keeps.refl _ _
 refine sy_enter (qc79_0 1) ⟨fr [.int .i64 x, v] 33, []⟩ Tryz.func151 (by kernel_rfl) (by kernel_rfl) <| qr_ [0, 1] <| pkq (.slice none 0 0) <| pkq (.int .i64 0) <| eq_ <| qr_ [0, 1] <| pkq (.int .i64 x) <| ppq (.bool true) (nqt ((x) : Int) ((0) : Int) (by omega)) <| ey_ <| qr_ [0, 1, 2] <| pkq (.int .i64 x) <| pkq (.slice none 0 0) <| pkq (.int .i64 x) <| eu_ ?_
 refine then_r <| so_ (.tuple #[.slice none 0 0, .int .i64 x]) ?_
 exact ⟨rfl, rfl⟩
theorem vwritten_row (g cap : Nat) (ts : List Thg) (vs rest : List Value) (w : World) (h0 : w.heap[g]? = some (.cells (vs ++ rest).toArray 219 (0, 0))) (h1 : ThsAt w vs ts) (hok : ∀ (k : Nat) (t : Thg), ts[k]? = some t → t.Ok) (hl : (allb ts).length ≤ 4096) (hmax : ts.length ≤ 1000) :
  Calls Tryz.prog 151 #[.int .i64 0, .slice (some ⟨g, 0, none⟩) ts.length cap] w (fun e w' => ∃ X, e = .returned (.tuple #[X, .int .i64 0]) ∧ Row w' 5 1 X (allb ts).length (B (allb ts)) ∧ NewFrom w.heap.size X ∧ Keeps Nob w w') := by
 have K0 : Keeps Nob w w := Keeps.refl _ _
 refine sy_enter (qc79_0 1) ⟨fr [.int .i64 0, .slice (some ⟨g, 0, none⟩) ts.length cap] 33, []⟩ Tryz.func151 (by kernel_rfl) (by kernel_rfl) <| qr_ [0, 1] <| pkq (.slice none 0 0) <| pkq (.int .i64 0) <| eq_ <| qr_ [0, 1] <| pkq (.int .i64 0) <| pkq (.bool false) <| en_ <| s_ <| tqr_ [0, 1, 2, 3, 4, 5] ?_
 refine pcq 160 #[.int .i64 4096] Tryz.func160 ((wr_new 4096 _ (by omega) (by omega)).mono ?_)
 rintro e V1 ⟨b, F1, rfl, hV1, hge1, kV1⟩
 refine ⟨_, rfl, ?_⟩
 have K2 := K0.nn kV1
 have z3 := kV1.size
 refine pkq (.tuple #[pT b 0, .int .i64 0]) <| pkq (pT b 0) <| pkq (.int .i64 0) <| pkq (pT b 0) <| pkq (.int .i64 0) <| eq_ <| qr_ [0, 1, 2] <| pkq (.slice (some ⟨g, 0, none⟩) ts.length cap) <| ppq (iN ts.length) (exec_len (.tmp 18) 205 _ (by kernel_rfl) Tryz.underlying205 (some ⟨g, 0, none⟩) ts.length cap (by kernel_rfl)) <| pkq (.int .i64 0) <| et_ <| bl_ 0 ?_
 refine sy_loop (qc79_0 244) (fun a V => ∃ (i : Nat) (F0 : Nat → Prop) (u4 u5 u9 u10 u21 u22 u23 u24 u25 u26 u27 u28 u29 u30 : Value), (a = ⟨#[.int .i64 0, .slice (some ⟨g, 0, none⟩) ts.length cap, ud, ud, u4, u5, pT b 0, .int .i64 0, ud, u9, u10, .int .i64 0, .bool false, ud, .tuple #[pT b 0, .int .i64 0], .tuple #[pT b 0, .int .i64 0], pT b 0, .int .i64 0, .slice (some ⟨g, 0, none⟩) ts.length cap, iN ts.length, iN i, u21, u22, u23, u24, u25, u26, u27, u28, u29, u30, ud, ud, ud, ud], []⟩) ∧ (i ≤ ts.length) ∧ (Wr V F0 b ⟨4096, byt ts i, 0⟩) ∧ (Keeps Nob w V) ∧ (Ge F0 w)) (fun a _ => ts.length - (intOf (a.tmps.getD 20 undef)).toNat) (by kernel_rfl) ?_ ?_
 ·exact ⟨0, F1, (.slice none 0 0), (.int .i64 0), undef, undef, undef, undef, undef, undef, undef, undef, undef, undef, undef, undef, by kernel_rfl, by omega, hV1, K2, hge1⟩
 ·rintro a V4 ⟨i, F0, u4, u5, u9, u10, u21, u22, u23, u24, u25, u26, u27, u28, u29, u30, rfl, hi, h5, K6, hge⟩
  skip
  rcases ths_split h1 hok i hi with ⟨lt_i, x, gk, hti, hxv, hvk, hgk⟩ | ⟨lt_i, r, gk, hti, hrv, hvk, hgk⟩ | ⟨lt_i, k, gk, hti, hkv, hvk, hgk⟩ | eq_i
  ·have hsz := byt_succ hti
   have hbl := byt_le ts (i + 1)
   have hbe : (byt ts (i + 1)).length = (byt ts i).length + (Cod.enc x.toNat).length := by rw [hsz, List.length_append]; rfl
   refine qr_ [0] <| ppq (.bool true) (dct ((((i : Nat) : Int)) < (((ts.length : Nat) : Int))) (by omega)) <| eq_ <| y_ <| s_ <| tq_ <| bl_ 1 <| qr_ [0, 1, 2] <| ppq (pT g i) (exec_cast (v := pT g (0 + i * 1)) (by simp) (exec_indexAt_slice 205 (.tmp 18) (.tmp 20) (by kernel_rfl) g 0 ts.length cap (by kernel_rfl) .i64 i (by kernel_rfl) _ 1 Tryz.underlying205 (by kernel_rfl) (by omega))) <| ppq (.func (.func 164) #[] #[pT gk 0]) (ldc 219 g i ((cell_of_row _ _ _ _ _ _ ((K6.block g (lt_of_block h0) (fun x => x)).trans h0)).trans (hd_get hvk))) <| pkq (.func (.func 164) #[] #[pT gk 0]) <| eqr_ [0, 1, 2, 3] <| pkq (.func (.func 164) #[] #[pT gk 0]) <| pkq (pT b 0) ?_
   refine ps_callV (qo79_0 15666 2) (.tmp 24) 164 #[] #[pT gk 0] #[pT b 0, pT gk 0] (by kernel_rfl) (by kernel_rfl) (by kernel_rfl) (by kernel_rfl) (by kernel_rfl) (enters_of Tryz.func164 (by kernel_rfl) rfl) ((vnum1_ok b gk x F0 (byt ts i) _ h5 ((K6.block gk (lt_of_block hgk) (fun x => x)).trans hgk) hxv (by omega)).mono ?_)
   rintro e V7 ⟨rfl, F', hV7, hS⟩
   rw [show byt ts i ++ (Cod.enc x.toNat) = byt ts (i + 1) from (byt_succ hti).symm] at hV7
   refine ⟨_, rfl, ?_⟩
   have K8 : Keeps Nob w V7 := K6.then hS.1 (fun i hi hm => absurd hi (by have := hge i hm; omega))
   have z9 := hS.1.size
   refine pkq (.int .i64 0) <| eqr_ [0, 1] <| pkq (.int .i64 0) <| pkq (.bool false) <| en_ <| s_ <| blk_n <| tr_ [0, 1] <| ppq (iN (i + 1)) (exec_cast (congrArg (Value.int .i64) (wrapN (i + 1) (by omega))) (by kernel_rfl)) <| pkq (iN (i + 1)) <| et_ ?_
   refine ⟨⟨i + 1, F', u4, u5, (.func (.func 164) #[] #[pT gk 0]), (.int .i64 0), (.bool true), (pT g i), (.func (.func 164) #[] #[pT gk 0]), (.func (.func 164) #[] #[pT gk 0]), (pT b 0), (.int .i64 0), (.int .i64 0), (.bool false), u29, (iN (i + 1)), by kernel_rfl, by omega, hV7, K8, (hS.ge hge K6.size)⟩, ?_⟩
   exact lt_meas (x := ts.length - (i + 1)) (y := ts.length - i) (by kernel_rfl) (by kernel_rfl) (by omega)
  ·have hsz := byt_succ hti
   have hbl := byt_le ts (i + 1)
   have hbe : (byt ts (i + 1)).length = (byt ts i).length + (r).length := by rw [hsz, List.length_append]; rfl
   refine qr_ [0] <| ppq (.bool true) (dct ((((i : Nat) : Int)) < (((ts.length : Nat) : Int))) (by omega)) <| eq_ <| y_ <| s_ <| tq_ <| bl_ 1 <| qr_ [0, 1, 2] <| ppq (pT g i) (exec_cast (v := pT g (0 + i * 1)) (by simp) (exec_indexAt_slice 205 (.tmp 18) (.tmp 20) (by kernel_rfl) g 0 ts.length cap (by kernel_rfl) .i64 i (by kernel_rfl) _ 1 Tryz.underlying205 (by kernel_rfl) (by omega))) <| ppq (.func (.func 166) #[] #[pT gk 0]) (ldc 219 g i ((cell_of_row _ _ _ _ _ _ ((K6.block g (lt_of_block h0) (fun x => x)).trans h0)).trans (hd_get hvk))) <| pkq (.func (.func 166) #[] #[pT gk 0]) <| eqr_ [0, 1, 2, 3] <| pkq (.func (.func 166) #[] #[pT gk 0]) <| pkq (pT b 0) ?_
   refine ps_callV (qo79_0 15666 2) (.tmp 24) 166 #[] #[pT gk 0] #[pT b 0, pT gk 0] (by kernel_rfl) (by kernel_rfl) (by kernel_rfl) (by kernel_rfl) (by kernel_rfl) (enters_of Tryz.func166 (by kernel_rfl) rfl) ((vroot1_ok b gk r F0 (byt ts i) _ h5 ((K6.block gk (lt_of_block hgk) (fun x => x)).trans hgk) hrv (by omega)).mono ?_)
   rintro e V10 ⟨rfl, F', hV10, hS⟩
   rw [show byt ts i ++ r = byt ts (i + 1) from (byt_succ hti).symm] at hV10
   refine ⟨_, rfl, ?_⟩
   have K11 : Keeps Nob w V10 := K6.then hS.1 (fun i hi hm => absurd hi (by have := hge i hm; omega))
   have z12 := hS.1.size
   refine pkq (.int .i64 0) <| eqr_ [0, 1] <| pkq (.int .i64 0) <| pkq (.bool false) <| en_ <| s_ <| blk_n <| tr_ [0, 1] <| ppq (iN (i + 1)) (exec_cast (congrArg (Value.int .i64) (wrapN (i + 1) (by omega))) (by kernel_rfl)) <| pkq (iN (i + 1)) <| et_ ?_
   refine ⟨⟨i + 1, F', u4, u5, (.func (.func 166) #[] #[pT gk 0]), (.int .i64 0), (.bool true), (pT g i), (.func (.func 166) #[] #[pT gk 0]), (.func (.func 166) #[] #[pT gk 0]), (pT b 0), (.int .i64 0), (.int .i64 0), (.bool false), u29, (iN (i + 1)), by kernel_rfl, by omega, hV10, K11, (hS.ge hge K6.size)⟩, ?_⟩
   exact lt_meas (x := ts.length - (i + 1)) (y := ts.length - i) (by kernel_rfl) (by kernel_rfl) (by omega)
  ·exact hvk.elim
  ·show _
   refine qr_ [0] <| ppq (.bool false) (dcf ((((i : Nat) : Int)) < (((ts.length : Nat) : Int))) (by omega)) <| eq_ <| n_ <| sy_exit 0 (by kernel_rfl) <| then_e <| then_e <| blk_e <| tqr_ [0, 1, 2, 3, 4, 5] <| pkq (pT b 0) ?_
   refine pcq 161 #[pT b 0] Tryz.func161 ((Wr.done h5).mono ?_)
   rintro e V16 ⟨X, rfl, ⟨hX, hnX⟩, kV16⟩
   have hX' : Row V16 5 1 X (allb ts).length (B (allb ts)) := by rw [← byt_all, ← eq_i]; exact hX
   refine ⟨_, rfl, ?_⟩
   have h17 : Wr V16 F0 b ⟨4096, byt ts i, 0⟩ := h5.keepsN kV16
   have K18 := K6.nn kV16
   have z19 := kV16.size
   refine pkq (X) <| pkq (.int .i64 0) <| pkq (X) <| pkq (.int .i64 0) <| eu_ <| so_ (.tuple #[X, .int .i64 0]) ?_
   exact ⟨X, rfl, hX', fun j hj => by have := hnX j hj; have := K6.size; omega, K18⟩
theorem vwritten_ok (v : Value) (ts : List Thg) (vs : List Value) (w : World) (h0 : Row w 219 1 v ts.length vs) (h1 : ThsAt w vs ts) (hpos : 0 < ts.length) (hok : ∀ (k : Nat) (t : Thg), ts[k]? = some t → t.Ok) (hl : (allb ts).length ≤ 4096) (hmax : ts.length ≤ 1000) :
  Calls Tryz.prog 151 #[.int .i64 0, v] w fun e w' => ∃ X, e = .returned (.tuple #[X, .int .i64 0]) ∧ Row w' 5 1 X (allb ts).length (B (allb ts)) ∧ NewFrom w.heap.size X ∧ Keeps Nob w w' := by
 obtain ⟨g, cap, rest, rfl, hg, _, _⟩ := row_open h0 hpos
 exact vwritten_row g cap ts vs rest w hg h1 hok hl hmax
end Go.Proofs.YthmclmbeflbhhaaGreat
namespace Go.Proofs.YthmclmbeflbhhaaGreat
set_option maxRecDepth 100000
set_option maxHeartbeats 4000000
open Go Go.RowKit Go.Own Go.Shelf
def attT (a : Att) : List Thg := [.n 1, .n a.v, .n a.s, .n a.t, .h a.r]
def proT (a : Pro) : List Thg := [.n 2, .n a.v, .n a.h, .h a.r]
def Att.bare (a : Att) : List UInt8 := allb (attT a)
def Pro.bare (a : Pro) : List UInt8 := allb (proT a)
def Att.bytes (a : Att) : List UInt8 := allb (attT a ++ [.u a.g])
def Pro.bytes (a : Pro) : List UInt8 := allb (proT a ++ [.u a.g])
def zhash : List UInt8 := List.replicate 32 0
theorem zhash_len : zhash.length = 32 := by simp [zhash]
theorem att_okT {a : Att} (h : a.Ok) (hf : a.fine) : ∀ (k : Nat) (t : Thg), (attT a ++ [.n 0])[k]? = some t → t.Ok := fun k t ht => by
 obtain ⟨f1, f2, f3, f4, f5, f6⟩ := hf
 match k, ht with
 | 0, ht => cases ht; exact ⟨by omega, by omega⟩
 | 1, ht => cases ht; exact ⟨by omega, by omega⟩
 | 2, ht => cases ht; exact ⟨by omega, by omega⟩
 | 3, ht => cases ht; exact ⟨by omega, by omega⟩
 | 4, ht => cases ht; exact h.r
 | 5, ht => cases ht; exact ⟨by omega, by omega⟩
 | k + 6, ht => cases ht
theorem pro_okT {a : Pro} (h : a.Ok) (hf : a.fine) : ∀ (k : Nat) (t : Thg), (proT a ++ [.n 0])[k]? = some t → t.Ok := fun k t ht => by
 obtain ⟨f1, f2, f3, f4⟩ := hf
 match k, ht with
 | 0, ht => cases ht; exact ⟨by omega, by omega⟩
 | 1, ht => cases ht; exact ⟨by omega, by omega⟩
 | 2, ht => cases ht; exact ⟨by omega, by omega⟩
 | 3, ht => cases ht; exact h.r
 | 4, ht => cases ht; exact ⟨by omega, by omega⟩
 | k + 5, ht => cases ht
theorem okT_pre {ts : List Thg} {u : Thg} (h : ∀ (k : Nat) (t : Thg), (ts ++ [u])[k]? = some t → t.Ok) : ∀ (k : Nat) (t : Thg), ts[k]? = some t → t.Ok := fun k t ht => h k t (by rw [List.getElem?_append_left (List.getElem?_eq_some_iff.1 ht).1]; exact ht)
theorem enc10 (n : Nat) : (Cod.enc n).length ≤ 10 := Cod.enc_length n
theorem att_len {a : Att} (h : a.r.length = 32) : a.bytes.length ≤ 82 ∧ a.bare.length ≤ 72 := by
 have := enc10 (1 : Int).toNat; have := enc10 a.v.toNat; have := enc10 a.s.toNat; have := enc10 a.t.toNat; have := enc10 a.g
 simp only [Att.bytes, Att.bare, allb, attT, List.flatMap_cons, List.flatMap_nil, List.cons_append, List.nil_append, Thg.by, List.length_append, List.length_nil, h]
 omega
theorem pro_len {a : Pro} (h : a.r.length = 32) : a.bytes.length ≤ 72 ∧ a.bare.length ≤ 62 := by
 have := enc10 (2 : Int).toNat; have := enc10 a.v.toNat; have := enc10 a.h.toNat; have := enc10 a.g
 simp only [Pro.bytes, Pro.bare, allb, proT, List.flatMap_cons, List.flatMap_nil, List.cons_append, List.nil_append, Thg.by, List.length_append, List.length_nil, h]
 omega
theorem thing_info : (Tryz.prog.info? 219).map (fun i => (i.zero, i.size, i.bytes)) = some (some .nilFunc, 1, 8) := by kernel_rfl
noncomputable def qc80_1 (n : Nat) : Code := partOf Tryz.f132 n
theorem vthings_ok (a : Att) (w : World) (hr : a.r.length = 32) :
  Calls Tryz.prog 132 #[.agg (Att.c a)] w (fun e w' => ∃ gl vs, e = .returned (.slice (some ⟨gl, 0, none⟩) 5 5) ∧ Row w' 219 1 (.slice (some ⟨gl, 0, none⟩) 5 5) 5 vs ∧ ThsAt w' vs (attT a) ∧ NewFrom w.heap.size (.slice (some ⟨gl, 0, none⟩) 5 5) ∧ Keeps Nob w w') := by
 have K0 : Keeps Nob w w := Keeps.refl _ _
 refine sy_enter (qc80_1 1) ⟨fr [.agg (Att.c a)] 16, []⟩ Tryz.func132 (by kernel_rfl) (by kernel_rfl) <| qr_ [0, 1] <| pbx 28 ((Att.c a)) (.agg (Att.c a)) fun V1 ga ega h2 kV1 => ?_
 have n3 := nk ega K0
 have K4 := K0.nn kV1
 have z5 := kV1.size
 refine pkq (.slice none 0 0) <| eq_ <| sy_np <| sy_reg <| an_begin 1 15 (opsAt (qc80_1 6)) (fun W => (W.heap[ga]? = some (.cells (Att.c a) 28 (0, 0)))) #[false, false, false, false, false, false, false, false, false, false, false, false, false, false, false] (by kernel_rfl) (by kernel_rfl) (by kernel_rfl) (by kernel_rfl) ?_
 obtain ⟨V6, eV6, kV6⟩ := drew_step V1
 rw [eV6]
 clear eV6
 have ⟨K8, z9, h7⟩ := kV6.z1 K4 h2
 refine akq 1 (pT ga 0) h7 <| avq 2 (.int .i64 a.v) (fun W hS => ldc 3 ga 0 (rc (hS) (Att.c_0 _))) h7 <| akq 4 (pT ga 1) h7 <| avq 5 (.int .i64 a.s) (fun W hS => ldc 3 ga 1 (rc (hS) (Att.c_1 _))) h7 <| akq 7 (pT ga 2) h7 <| avq 8 (.int .i64 a.t) (fun W hS => ldc 3 ga 2 (rc (hS) (Att.c_2 _))) h7 <| akq 10 (pT ga 3) h7 <| avq 11 (.agg (B a.r).toArray) (fun W hS => exec_load_seg 25 (.tmp 13) (by kernel_rfl) ga 3 (by kernel_rfl) (B a.r) _ _ _ hS (Att.c_seg _) Tryz.underlying25 rfl (by rw [B_length, hr]; kernel_rfl)) h7 <| an_o 0 ?_
 refine ncq 153 #[.int .i64 1] Tryz.func153 ((vnum_ok 1 _).mono ?_)
 rintro e V10 ⟨g1, rfl, hg1, ng1, kV10⟩
 refine ⟨_, rfl, ?_⟩
 have ⟨K12, z13, h11⟩ := kV10.z1 K8 h7
 refine ⟨h11, ?_⟩
 refine an_o 3 ?_
 refine ncq 153 #[.int .i64 a.v] Tryz.func153 ((vnum_ok a.v _).mono ?_)
 rintro e V14 ⟨g2, rfl, hg2, ng2, kV14⟩
 refine ⟨_, rfl, ?_⟩
 have ⟨K17, z18, h15, h16⟩ := kV14.z2 K12 h11 hg1
 refine ⟨h15, ?_⟩
 refine an_o 6 ?_
 refine ncq 153 #[.int .i64 a.s] Tryz.func153 ((vnum_ok a.s _).mono ?_)
 rintro e V19 ⟨g3, rfl, hg3, ng3, kV19⟩
 refine ⟨_, rfl, ?_⟩
 have ⟨K23, z24, h20, h21, h22⟩ := kV19.z3 K17 h15 h16 hg2
 refine ⟨h20, ?_⟩
 refine an_o 9 ?_
 refine ncq 153 #[.int .i64 a.t] Tryz.func153 ((vnum_ok a.t _).mono ?_)
 rintro e V25 ⟨g4, rfl, hg4, ng4, kV25⟩
 refine ⟨_, rfl, ?_⟩
 have ⟨K30, z31, h26, h27, h28, h29⟩ := kV25.z4 K23 h20 h21 h22 hg3
 refine ⟨h26, ?_⟩
 refine an_o 12 ?_
 refine ncq 154 #[.agg (B a.r).toArray] Tryz.func154 ((vroot_ok a.r _).mono ?_)
 rintro e V32 ⟨g5, rfl, hg5, ng5, kV32⟩
 refine ⟨_, rfl, ?_⟩
 have ⟨K38, z39, h33, h34, h35, h36, h37⟩ := kV32.z5 K30 h26 h27 h28 h29 hg4
 refine ⟨h33, ?_⟩
 refine an_o 13 ?_
 obtain ⟨V40, eV40, gl, egl, h41, kV40⟩ := alloc_step V32 (#[.func (.func 164) #[] #[pT g1 0], .func (.func 164) #[] #[pT g2 0], .func (.func 164) #[] #[pT g3 0], .func (.func 164) #[] #[pT g4 0], .func (.func 166) #[] #[pT g5 0]]) 219
 have n42 := nl egl h33
 have n43 := nl egl h34
 have n44 := nl egl h35
 have n45 := nl egl h36
 have n46 := nl egl h37
 have n47 := nl egl hg5
 have n48 := nk egl K38
 refine nrq (.slice (some ⟨gl, 0, none⟩) 5 5) (w' := V40) (by rw [← eV40, ← egl]; kernel_rfl) ?_
 have ⟨K55, z56, h49, h50, h51, h52, h53, h54⟩ := kV40.z6 K38 h33 h34 h35 h36 h37 hg5
 refine ⟨h49, ?_⟩
 refine an_o 14 <| nrq (.slice (some ⟨gl, 0, none⟩) 5 5) (w' := V40) (by kernel_rfl) ?_
 refine ⟨h49, ?_⟩
 refine an_end (by kernel_rfl) <| then_n <| u_ <| so_ (.slice (some ⟨gl, 0, none⟩) 5 5) ?_
 exact ⟨gl, _, rfl, row_of_block h41 rfl (by decide), (ThsAt.cons ⟨g1, rfl, h50⟩ (ThsAt.cons ⟨g2, rfl, h51⟩ (ThsAt.cons ⟨g3, rfl, h52⟩ (ThsAt.cons ⟨g4, rfl, h53⟩ (ThsAt.cons ⟨g5, rfl, h54⟩ (ThsAt.nil _)))))), NewFrom.ptr (by omega) _ _, K55⟩
noncomputable def qc80_0 (n : Nat) : Code := partOf Tryz.f131 n
theorem vthingsBlock_ok (a : Pro) (w : World) (hr : a.r.length = 32) :
  Calls Tryz.prog 131 #[.agg (Pro.c a)] w (fun e w' => ∃ gl vs, e = .returned (.slice (some ⟨gl, 0, none⟩) 4 4) ∧ Row w' 219 1 (.slice (some ⟨gl, 0, none⟩) 4 4) 4 vs ∧ ThsAt w' vs (proT a) ∧ NewFrom w.heap.size (.slice (some ⟨gl, 0, none⟩) 4 4) ∧ Keeps Nob w w') := by
 have K0 : Keeps Nob w w := Keeps.refl _ _
 refine sy_enter (qc80_0 1) ⟨fr [.agg (Pro.c a)] 13, []⟩ Tryz.func131 (by kernel_rfl) (by kernel_rfl) <| qr_ [0, 1] <| pbx 37 ((Pro.c a)) (.agg (Pro.c a)) fun V1 ga ega h2 kV1 => ?_
 have n3 := nk ega K0
 have K4 := K0.nn kV1
 have z5 := kV1.size
 refine pkq (.slice none 0 0) <| eq_ <| sy_np <| sy_reg <| an_begin 1 12 (opsAt (qc80_0 6)) (fun W => (W.heap[ga]? = some (.cells (Pro.c a) 37 (0, 0)))) zl11_ (by kernel_rfl) (by kernel_rfl) (by kernel_rfl) (by kernel_rfl) ?_
 obtain ⟨V6, eV6, kV6⟩ := drew_step V1
 rw [eV6]
 clear eV6
 have ⟨K8, z9, h7⟩ := kV6.z1 K4 h2
 refine akq 1 (pT ga 0) h7 <| avq 2 (.int .i64 a.v) (fun W hS => ldc 3 ga 0 (rc (hS) (Pro.c_0 _))) h7 <| akq 4 (pT ga 1) h7 <| avq 5 (.int .i64 a.h) (fun W hS => ldc 3 ga 1 (rc (hS) (Pro.c_1 _))) h7 <| akq 7 (pT ga 2) h7 <| avq 8 (.agg (B a.r).toArray) (fun W hS => exec_load_seg 25 (.tmp 10) (by kernel_rfl) ga 2 (by kernel_rfl) (B a.r) _ _ _ hS (Pro.c_seg _) Tryz.underlying25 rfl (by rw [B_length, hr]; kernel_rfl)) h7 <| an_o 0 ?_
 refine ncq 153 #[.int .i64 2] Tryz.func153 ((vnum_ok 2 _).mono ?_)
 rintro e V10 ⟨g1, rfl, hg1, ng1, kV10⟩
 refine ⟨_, rfl, ?_⟩
 have ⟨K12, z13, h11⟩ := kV10.z1 K8 h7
 refine ⟨h11, ?_⟩
 refine an_o 3 ?_
 refine ncq 153 #[.int .i64 a.v] Tryz.func153 ((vnum_ok a.v _).mono ?_)
 rintro e V14 ⟨g2, rfl, hg2, ng2, kV14⟩
 refine ⟨_, rfl, ?_⟩
 have ⟨K17, z18, h15, h16⟩ := kV14.z2 K12 h11 hg1
 refine ⟨h15, ?_⟩
 refine an_o 6 ?_
 refine ncq 153 #[.int .i64 a.h] Tryz.func153 ((vnum_ok a.h _).mono ?_)
 rintro e V19 ⟨g3, rfl, hg3, ng3, kV19⟩
 refine ⟨_, rfl, ?_⟩
 have ⟨K23, z24, h20, h21, h22⟩ := kV19.z3 K17 h15 h16 hg2
 refine ⟨h20, ?_⟩
 refine an_o 9 ?_
 refine ncq 154 #[.agg (B a.r).toArray] Tryz.func154 ((vroot_ok a.r _).mono ?_)
 rintro e V25 ⟨g4, rfl, hg4, ng4, kV25⟩
 refine ⟨_, rfl, ?_⟩
 have ⟨K30, z31, h26, h27, h28, h29⟩ := kV25.z4 K23 h20 h21 h22 hg3
 refine ⟨h26, ?_⟩
 refine an_o 10 ?_
 obtain ⟨V32, eV32, gl, egl, h33, kV32⟩ := alloc_step V25 (#[.func (.func 164) #[] #[pT g1 0], .func (.func 164) #[] #[pT g2 0], .func (.func 164) #[] #[pT g3 0], .func (.func 166) #[] #[pT g4 0]]) 219
 have n34 := nl egl h26
 have n35 := nl egl h27
 have n36 := nl egl h28
 have n37 := nl egl h29
 have n38 := nl egl hg4
 have n39 := nk egl K30
 refine nrq (.slice (some ⟨gl, 0, none⟩) 4 4) (w' := V32) (by rw [← eV32, ← egl]; kernel_rfl) ?_
 have ⟨K45, z46, h40, h41, h42, h43, h44⟩ := kV32.z5 K30 h26 h27 h28 h29 hg4
 refine ⟨h40, ?_⟩
 refine an_o 11 <| nrq (.slice (some ⟨gl, 0, none⟩) 4 4) (w' := V32) (by kernel_rfl) ?_
 refine ⟨h40, ?_⟩
 refine an_end (by kernel_rfl) <| then_n <| u_ <| so_ (.slice (some ⟨gl, 0, none⟩) 4 4) ?_
 exact ⟨gl, _, rfl, row_of_block h33 rfl (by decide), (ThsAt.cons ⟨g1, rfl, h41⟩ (ThsAt.cons ⟨g2, rfl, h42⟩ (ThsAt.cons ⟨g3, rfl, h43⟩ (ThsAt.cons ⟨g4, rfl, h44⟩ (ThsAt.nil _))))), NewFrom.ptr (by omega) _ _, K45⟩
theorem vCheck_is (a : Att) {x : Int} (w : World) (hr : a.r.length = 32) (hx : a.err = x) : Calls Tryz.prog 46 #[.agg (Att.c a)] w fun e w' => e = .returned (.int .i64 x) ∧ Keeps Nob w w' := by
 subst hx; exact vCheck_ok a w hr
theorem vCheckBlock_is (a : Pro) {x : Int} (w : World) (hr : a.r.length = 32) (hx : a.err = x) : Calls Tryz.prog 51 #[.agg (Pro.c a)] w fun e w' => e = .returned (.int .i64 x) ∧ Keeps Nob w w' := by
 subst hx; exact vCheckBlock_ok a w hr
end Go.Proofs.YthmclmbeflbhhaaGreat
namespace Go.Kec
set_option maxRecDepth 100000
set_option maxHeartbeats 4000000
def W : Nat := 18446744073709551616
def rot (w n : Nat) : Nat := ((w <<< n) % W) ||| (w >>> (64 - n))
def R : List Nat := [0, 1, 62, 28, 27, 36, 44, 6, 55, 20, 3, 10, 43, 25, 39, 41, 45, 15, 21, 8, 18, 2, 61, 56, 14]
def g (s : List Nat) (i : Nat) : Nat := s.getD i 0
def col (s : List Nat) (x : Nat) : Nat := g s x ^^^ g s (x + 5) ^^^ g s (x + 10) ^^^ g s (x + 15) ^^^ g s (x + 20)
def dd (s : List Nat) (x : Nat) : Nat := col s ((x + 4) % 5) ^^^ rot (col s ((x + 1) % 5)) 1
def columns (s : List Nat) : List Nat := (List.range 25).map fun i => g s i ^^^ dd s (i % 5)
def src (j : Nat) : Nat := (j % 5 + 3 * (j / 5)) % 5 + 5 * (j % 5)
def moves (s : List Nat) : List Nat := (List.range 25).map fun j => rot (g s (src j)) (g R (src j))
def at_ (x y : Nat) : Nat := x % 5 + 5 * (y % 5)
def mixes (s : List Nat) : List Nat := (List.range 25).map fun i => g s i ^^^ ((W - 1 - g s (at_ (i % 5 + 1) (i / 5))) &&& g s (at_ (i % 5 + 2) (i / 5)))
def iota (k : Nat) (s : List Nat) : List Nat := s.set 0 (g s 0 ^^^ k)
def round (s : List Nat) (k : Nat) : List Nat := iota k (mixes (moves (columns s)))
def K : List Nat := [1, 32898, 9223372036854808714, 9223372039002292224, 32907, 2147483649, 9223372039002292353, 9223372036854808585, 138, 136, 2147516425, 2147483658, 2147516555, 9223372036854775947, 9223372036854808713, 9223372036854808579, 9223372036854808578, 9223372036854775936, 32778, 9223372039002259466, 9223372039002292353, 9223372036854808704, 2147483649, 9223372039002292232]
def perm (s : List Nat) : List Nat := K.foldl round s
/-- A list of words: each is one. -/
def Ws (s : List Nat) : Prop := ∀ i, g s i < W
theorem g_map (f : Nat → Nat) (i : Nat) (h : i < 25) : g ((List.range 25).map f) i = f i := by
  simp [g, List.getD, h]
theorem g_big (s : List Nat) (i : Nat) (h : s.length ≤ i) : g s i = 0 := by
  simp [g, List.getD, List.getElem?_eq_none h]
theorem W_pos : 0 < W := by decide
theorem ws_map (f : Nat → Nat) (h : ∀ i, i < 25 → f i < W) : Ws ((List.range 25).map f) := by
  intro i
  by_cases hi : i < 25
  · rw [g_map f i hi]; exact h i hi
  · rw [g_big _ _ (by simp; omega)]; exact W_pos
theorem W_eq : W = 2 ^ 64 := by decide
theorem xor_lt {a b : Nat} (ha : a < W) (hb : b < W) : a ^^^ b < W := by rw [W_eq] at *; exact Nat.xor_lt_two_pow ha hb
theorem or_lt {a b : Nat} (ha : a < W) (hb : b < W) : a ||| b < W := by rw [W_eq] at *; exact Nat.or_lt_two_pow ha hb
theorem and_lt {a b : Nat} (hb : b < W) : a &&& b < W := by rw [W_eq] at *; exact Nat.and_lt_two_pow a hb
theorem shr_lt {a : Nat} (ha : a < W) (n : Nat) : a >>> n < W := by rw [Nat.shiftRight_eq_div_pow]; exact Nat.lt_of_le_of_lt (Nat.div_le_self _ _) ha
theorem rot_lt {a : Nat} (ha : a < W) (n : Nat) : rot a n < W := or_lt (Nat.mod_lt _ W_pos) (shr_lt ha _)
theorem col_lt {s : List Nat} (h : Ws s) (x : Nat) : col s x < W := xor_lt (xor_lt (xor_lt (xor_lt (h _) (h _)) (h _)) (h _)) (h _)
theorem dd_lt {s : List Nat} (h : Ws s) (x : Nat) : dd s x < W := xor_lt (col_lt h _) (rot_lt (col_lt h _) _)
theorem ws_columns {s : List Nat} (h : Ws s) : Ws (columns s) := ws_map _ fun _ _ => xor_lt (h _) (dd_lt h _)
theorem ws_moves {s : List Nat} (h : Ws s) : Ws (moves s) := ws_map _ fun _ _ => rot_lt (h _) _
theorem ws_mixes {s : List Nat} (h : Ws s) : Ws (mixes s) := ws_map _ fun _ _ => xor_lt (h _) (and_lt (h _))
theorem g_set (s : List Nat) (i j v : Nat) (h : i < s.length) : g (s.set i v) j = if i = j then v else g s j := by
  unfold g
  rw [List.getD_eq_getElem?_getD, List.getD_eq_getElem?_getD, List.getElem?_set]
  split
  · subst_vars; simp
  · rfl
theorem ws_iota {s : List Nat} (h : Ws s) {k : Nat} (hk : k < W) : Ws (iota k s) := by
  intro i
  unfold iota
  by_cases hs : 0 < s.length
  · rw [g_set _ _ _ _ hs]
    split
    · exact xor_lt (h _) hk
    · exact h i
  · have : s = [] := List.eq_nil_of_length_eq_zero (by omega)
    subst this; exact h i
theorem ws_round {s : List Nat} (h : Ws s) {k : Nat} (hk : k < W) : Ws (round s k) := ws_iota (ws_mixes (ws_moves (ws_columns h))) hk
theorem len_round (s : List Nat) (k : Nat) : (round s k).length = 25 := by simp [round, iota, mixes]
theorem len_columns (s : List Nat) : (columns s).length = 25 := by simp [columns]
theorem len_moves (s : List Nat) : (moves s).length = 25 := by simp [moves]
theorem len_mixes (s : List Nat) : (mixes s).length = 25 := by simp [mixes]
theorem K_lt : ∀ k ∈ K, k < W := by decide
theorem ws_fold (l : List Nat) (hl : ∀ k ∈ l, k < W) (s : List Nat) (h : Ws s) : Ws (l.foldl round s) := by
  induction l generalizing s with
  | nil => exact h
  | cons k r ih => exact ih (fun x hx => hl x (by simp [hx])) _ (ws_round h (hl k (by simp)))
theorem len_fold (l : List Nat) (s : List Nat) (h : s.length = 25) : (l.foldl round s).length = 25 := by
  induction l generalizing s with
  | nil => exact h
  | cons k r ih => exact ih _ (len_round _ _)
theorem ws_perm {s : List Nat} (h : Ws s) : Ws (perm s) := ws_fold K K_lt s h
theorem len_perm {s : List Nat} (h : s.length = 25) : (perm s).length = 25 := len_fold K s h
theorem sub_lt (a : Nat) : W - 1 - a < W := by have := W_pos; omega
/-- Where a word goes. -/
def dest (i : Nat) : Nat := at_ (i / 5) (2 * (i % 5) + 3 * (i / 5))
theorem dest_lt (i : Nat) : dest i < 25 := by unfold dest at_; omega
theorem src_dest : ∀ i, i < 25 → src (dest i) = i := by decide
theorem dest_src : ∀ j, j < 25 → dest (src j) = j := by decide
theorem src_lt' : ∀ j, j < 25 → src j < 25 := by decide
theorem R_lt' : ∀ i, i < 25 → g R i < 64 := by decide
theorem at_lt (x y : Nat) : at_ x y < 25 := by unfold at_; omega
/-- Words put one by one at other places. -/
def stpD (d f : Nat → Nat) (k : Nat) (s : List Nat) : List Nat := (List.range k).foldl (fun t i => t.set (d i) (f i)) s
theorem stpD_succ (d f : Nat → Nat) (k : Nat) (s : List Nat) : stpD d f (k + 1) s = (stpD d f k s).set (d k) (f k) := by simp [stpD, List.range_succ]
theorem stpD_len (d f : Nat → Nat) (k : Nat) (s : List Nat) : (stpD d f k s).length = s.length := by
  induction k with
  | zero => rfl
  | succ k ih => rw [stpD_succ, List.length_set, ih]
theorem stpD_moves (f : Nat → Nat) (s : List Nat) (h : s.length = 25) : stpD dest f 25 s = (List.range 25).map fun j => f (src j) := by
  have key : ∀ k, k ≤ 25 → ∀ j, j < 25 → g (stpD dest f k s) j = if src j < k then f (src j) else g s j := by
    intro k
    induction k with
    | zero => intro _ j _; simp [stpD]
    | succ k ih =>
      intro hk j hj
      rw [stpD_succ, g_set _ _ _ _ (by rw [stpD_len, h]; exact dest_lt k), ih (by omega) j hj]
      by_cases e : dest k = j
      · subst e
        rw [if_pos rfl, src_dest k (by omega), if_pos (by omega)]
      · rw [if_neg e]
        have : src j ≠ k := fun e2 => e (by rw [← e2, dest_src j hj])
        by_cases h2 : src j < k
        · rw [if_pos h2, if_pos (by omega)]
        · rw [if_neg h2, if_neg (by omega)]
  apply List.ext_getElem (by simp [stpD_len, h])
  intro j h1 h2
  have hj : j < 25 := by rwa [stpD_len, h] at h1
  have := key 25 (by omega) j hj
  unfold g at this
  rw [List.getD_eq_getElem?_getD, List.getElem?_eq_getElem h1, if_pos (src_lt' j hj)] at this
  simpa using this
/-- The register, its bits, and what they make. -/
def regn : Nat → Nat
  | 0 => 1
  | k + 1 => if 256 ≤ 2 * regn k then ((2 * regn k) &&& 255) ^^^ 113 else 2 * regn k
def bitn (k : Nat) : Nat := regn k &&& 1
def outn : Nat → List Nat
  | 0 => List.replicate 24 0
  | k + 1 => (outn k).set (k / 7) (g (outn k) (k / 7) ||| (bitn k <<< (1 <<< (k % 7) - 1)) % W)
theorem regn_lt (k : Nat) : regn k < 256 := by
  induction k with
  | zero => decide
  | succ k ih =>
    unfold regn
    split
    · have h1 : (2 * regn k) &&& 255 < 2 ^ 8 := Nat.and_lt_two_pow _ (by decide)
      exact Nat.xor_lt_two_pow (n := 8) h1 (by decide)
    · omega
theorem bitn_lt (k : Nat) : bitn k < 2 := Nat.and_lt_two_pow (n := 1) _ (by decide)
theorem outn_K : outn 168 = K := by decide +kernel
theorem outn_len (k : Nat) : (outn k).length = 24 := by
  induction k with
  | zero => rfl
  | succ k ih => simp [outn, ih]
theorem ws_set {s : List Nat} (h : Ws s) (i v : Nat) (hv : v < W) : Ws (s.set i v) := by
  intro j
  by_cases hi : i < s.length
  · rw [g_set _ _ _ _ hi]
    split
    · exact hv
    · exact h j
  · rw [List.set_eq_of_length_le (by omega)]; exact h j
theorem ws_outn (k : Nat) : Ws (outn k) := by
  induction k with
  | zero =>
    intro i
    show g (List.replicate 24 0) i < W
    unfold g
    rw [List.getD_eq_getElem?_getD, List.getElem?_replicate]
    split <;> decide
  | succ k ih => exact ws_set ih _ _ (or_lt (ih _) (Nat.mod_lt _ W_pos))
/-! Bytes. -/
/-- Eight bytes (or fewer) as a word, the lowest first. -/
def word : List UInt8 → Nat
  | [] => 0
  | b :: r => b.toNat + 256 * word r
def wordAt (blk : List UInt8) (i : Nat) : Nat := word ((blk.drop (8 * i)).take 8)
theorem word_lt (l : List UInt8) : word l < 256 ^ l.length := by
  induction l with
  | nil => decide
  | cons b r ih =>
    have := b.toNat_lt
    simp only [word, List.length_cons, Nat.pow_succ]
    omega
theorem wordAt_lt (blk : List UInt8) (i : Nat) : wordAt blk i < W := by
  have h := word_lt ((blk.drop (8 * i)).take 8)
  have h2 : ((blk.drop (8 * i)).take 8).length ≤ 8 := by simp; omega
  have h3 : (256 : Nat) ^ ((blk.drop (8 * i)).take 8).length ≤ 256 ^ 8 := Nat.pow_le_pow_right (by decide) h2
  have h4 : (256 : Nat) ^ 8 = W := by decide
  unfold wordAt
  omega
def mixin (s : List Nat) (blk : List UInt8) : List Nat := (List.range 25).map fun i => if i < 17 then g s i ^^^ wordAt blk i else g s i
def takes (s : List Nat) (blk : List UInt8) : List Nat := perm (mixin s blk)
def zero : List Nat := List.replicate 25 0
theorem ws_zero : Ws zero := by
  intro i
  unfold zero g
  rw [List.getD_eq_getElem?_getD, List.getElem?_replicate]
  split <;> decide
theorem ws_mixin {s : List Nat} (h : Ws s) (blk : List UInt8) : Ws (mixin s blk) := ws_map _ fun i _ => by
  split
  · exact xor_lt (h _) (wordAt_lt _ _)
  · exact h _
theorem len_mixin (s : List Nat) (blk : List UInt8) : (mixin s blk).length = 25 := by simp [mixin]
theorem ws_takes {s : List Nat} (h : Ws s) (blk : List UInt8) : Ws (takes s blk) := ws_perm (ws_mixin h blk)
theorem len_takes (s : List Nat) (blk : List UInt8) : (takes s blk).length = 25 := len_perm (len_mixin s blk)
/-- So many whole blocks of bytes. -/
def absorb : Nat → List Nat → List UInt8 → List Nat
  | 0, s, _ => s
  | n + 1, s, l => absorb n (takes s (l.take 136)) (l.drop 136)
theorem ws_absorb : ∀ (n : Nat) (s : List Nat) (l : List UInt8), Ws s → Ws (absorb n s l)
  | 0, _, _, h => h
  | n + 1, _, _, h => ws_absorb n _ _ (ws_takes h _)
theorem len_absorb : ∀ (n : Nat) (s : List Nat) (l : List UInt8), s.length = 25 → (absorb n s l).length = 25
  | 0, _, _, h => h
  | n + 1, _, _, _ => len_absorb n _ _ (len_takes _ _)
/-- What follows does not matter. -/
theorem absorb_more : ∀ (n : Nat) (s : List Nat) (l m : List UInt8), n * 136 ≤ l.length → absorb n s (l ++ m) = absorb n s l
  | 0, _, _, _, _ => rfl
  | n + 1, s, l, m, h => by
    unfold absorb
    rw [List.take_append_of_le_length (by omega), List.drop_append_of_le_length (by omega)]
    exact absorb_more n _ _ _ (by rw [List.length_drop]; omega)
theorem absorb_add : ∀ (n m : Nat) (s : List Nat) (l : List UInt8), absorb (n + m) s l = absorb m (absorb n s l) (l.drop (n * 136))
  | 0, m, s, l => by simp [absorb]
  | n + 1, m, s, l => by
    rw [show n + 1 + m = (n + m) + 1 by omega]
    show absorb (n + m) (takes s (l.take 136)) (l.drop 136) = absorb m (absorb n (takes s (l.take 136)) (l.drop 136)) (l.drop ((n + 1) * 136))
    rw [absorb_add n m, List.drop_drop]
    congr 2
    omega
theorem absorb_one (s : List Nat) (l : List UInt8) (h : l.length ≤ 136) : absorb 1 s l = takes s l := by
  show takes s (l.take 136) = takes s l
  rw [List.take_of_length_le h]
theorem getD_right (p r : List UInt8) (k : Nat) (d : UInt8) (h : p.length ≤ k) : (p ++ r).getD k d = r.getD (k - p.length) d := by
  rw [List.getD_eq_getElem?_getD, List.getElem?_append_right h, List.getD_eq_getElem?_getD]
/-- A sponge that took bytes: its state, and what is not a block yet. -/
def stateOf (l : List UInt8) : List Nat := absorb (l.length / 136) zero l
def restOf (l : List UInt8) : List UInt8 := l.drop (l.length / 136 * 136)
theorem ws_stateOf (l : List UInt8) : Ws (stateOf l) := ws_absorb _ _ _ ws_zero
theorem len_stateOf (l : List UInt8) : (stateOf l).length = 25 := len_absorb _ _ _ (by simp [zero])
theorem restOf_len (l : List UInt8) : (restOf l).length = l.length % 136 := by unfold restOf; rw [List.length_drop]; omega
theorem restOf_nil : restOf [] = [] := rfl
/-- Bytes that do not fill the block. -/
theorem sponge_some (l x : List UInt8) (h : (restOf l).length + x.length < 136) : stateOf (l ++ x) = stateOf l ∧ restOf (l ++ x) = restOf l ++ x := by
  rw [restOf_len] at h
  have e : (l ++ x).length / 136 = l.length / 136 := by rw [List.length_append]; omega
  unfold stateOf restOf
  rw [e]
  exact ⟨absorb_more _ _ _ _ (by omega), by rw [List.drop_append_of_le_length (by omega)]⟩
/-- Bytes that fill it. -/
theorem sponge_fill (l x : List UInt8) (h : (restOf l).length + x.length = 136) : stateOf (l ++ x) = takes (stateOf l) (restOf l ++ x) ∧ restOf (l ++ x) = [] := by
  rw [restOf_len] at h
  have e : (l ++ x).length / 136 = l.length / 136 + 1 := by rw [List.length_append]; omega
  unfold stateOf restOf
  rw [e]
  refine ⟨?_, List.drop_of_length_le (by rw [List.length_append]; omega)⟩
  rw [absorb_add, absorb_more _ _ _ _ (by omega), List.drop_append_of_le_length (by omega)]
  exact absorb_one _ _ (by rw [List.length_append, List.length_drop]; omega)
/-- The eight bytes of a word. -/
def eight (w : Nat) : List UInt8 := (List.range 8).map fun i => UInt8.ofNat (w / 256 ^ i)
def squeeze (s : List Nat) : List UInt8 := eight (g s 0) ++ eight (g s 1) ++ eight (g s 2) ++ eight (g s 3)
theorem squeeze_len (s : List Nat) : (squeeze s).length = 32 := by simp [squeeze, eight]
/-- The last block: what is left, a 6 behind it, and 128 into the last byte. -/
def lastBlock (r : List UInt8) : List UInt8 :=
  let b := (r ++ 6 :: List.replicate (135 - r.length) 0)
  b.set 135 (b.getD 135 0 ^^^ 128)
def sum (l : List UInt8) : List UInt8 := squeeze (takes (stateOf l) (lastBlock (restOf l)))
theorem sum_len (l : List UInt8) : (sum l).length = 32 := squeeze_len _
end Go.Kec
namespace Go.Proofs.YthmclmbeflbhhaaGreat
set_option maxRecDepth 100000
set_option maxHeartbeats 4000000
open Go Go.RowKit Go.Own Go.Shelf
/-- Words as cells. -/
def Wz (s : List Nat) : Array Value := (s.map fun (x : Nat) => Value.int .u64 (x : Int)).toArray
theorem Wz_get (s : List Nat) (i : Nat) (h : i < s.length) : (Wz s)[i]? = some (.int .u64 ((Kec.g s i : Nat) : Int)) := by
 simp [Wz, Kec.g, List.getElem?_eq_getElem h]
theorem Wz_get' (s : List Nat) (i v : Nat) (h : i < s.length) (hv : Kec.g s i = v) : (Wz s)[i]? = some (.int .u64 ((v : Nat) : Int)) := hv ▸ Wz_get s i h
theorem Wz_set (s : List Nat) (i v : Nat) : (Wz s).setIfInBounds i (.int .u64 ((v : Nat) : Int)) = Wz (s.set i v) := by
 simp [Wz, List.map_set]
theorem Wz_size (s : List Nat) : (Wz s).size = s.length := by simp [Wz]
theorem Wz_one (s : List Nat) : (Wz s).all (·.oneCell') = true := by
 simp only [Array.all_eq_true_iff_forall_mem]
 intro x hx
 simp only [Wz, List.mem_toArray, List.mem_map] at hx
 obtain ⟨j, _, rfl⟩ := hx
 rfl
theorem xorU (a b : Nat) (ha : a < Kec.W) (hb : b < Kec.W) : Value.int .u64 (bits .xor .u64 (a : Int) (b : Int)) = .int .u64 ((a ^^^ b : Nat) : Int) := congrArg _ (u64_xor_nat a b ha hb)
theorem andU (a b : Nat) (ha : a < Kec.W) (hb : b < Kec.W) : Value.int .u64 (bits .and .u64 (a : Int) (b : Int)) = .int .u64 ((a &&& b : Nat) : Int) := congrArg _ (u64_and_nat a b ha hb)
theorem orU (a b : Nat) (ha : a < Kec.W) (hb : b < Kec.W) : Value.int .u64 (bits .or .u64 (a : Int) (b : Int)) = .int .u64 ((a ||| b : Nat) : Int) := congrArg _ (u64_or_nat a b ha hb)
/-- Elements put one by one. -/
def stp (f : Nat → Nat) (k : Nat) (s : List Nat) : List Nat := (List.range k).foldl (fun t i => t.set i (f i)) s
theorem stp_zero (f : Nat → Nat) (s : List Nat) : stp f 0 s = s := rfl
theorem stp_succ (f : Nat → Nat) (k : Nat) (s : List Nat) : stp f (k + 1) s = (stp f k s).set k (f k) := by simp [stp, List.range_succ]
theorem stp_len (f : Nat → Nat) (k : Nat) (s : List Nat) : (stp f k s).length = s.length := by
 induction k with
 | zero => rfl
 | succ k ih => rw [stp_succ, List.length_set, ih]
theorem stp_get (f : Nat → Nat) (k : Nat) (s : List Nat) (i : Nat) (hi : i < s.length) : Kec.g (stp f k s) i = if i < k then f i else Kec.g s i := by
 induction k with
 | zero => simp [stp_zero]
 | succ k ih =>
  rw [stp_succ]
  by_cases hk : k < s.length
  ·rw [Kec.g_set _ _ _ _ (by rw [stp_len]; exact hk), ih]
   by_cases h1 : k = i
   ·subst h1; simp
   ·rw [if_neg h1]
    by_cases h2 : i < k
    ·rw [if_pos h2, if_pos (by omega)]
    ·rw [if_neg h2, if_neg (by omega)]
  ·rw [List.set_eq_of_length_le (by rw [stp_len]; omega), ih, if_pos (by omega), if_pos (by omega)]
theorem stp_all (f : Nat → Nat) (s : List Nat) (n : Nat) (h : s.length = n) : stp f n s = (List.range n).map f := by
 apply List.ext_getElem (by simp [stp_len, h])
 intro i h1 h2
 have hi : i < s.length := by rwa [stp_len] at h1
 have := stp_get f n s i hi
 unfold Kec.g at this
 rw [List.getD_eq_getElem?_getD, List.getElem?_eq_getElem h1, if_pos (by omega)] at this
 simpa using this
theorem run_shlU {P : Program} {w : World} (t : TypeId) (yk : IntKind) (x n : Nat) (hn : n ≤ 64) : (binOp .shl t (.int .u64 (x : Int)) (.int yk (n : Int))).run P w = .ok (.int .u64 (((x <<< n) % Kec.W : Nat) : Int)) w := by
 rw [binOp_shl, shift_shl .u64 yk (x : Int) (n : Int) (by omega) (by show (n : Int) ≤ 64; omega)]
 have e : IntKind.u64.wrap ((x : Int) * 2 ^ (n : Int).toNat) = (((x <<< n) % Kec.W : Nat) : Int) := by
  show ((x : Int) * 2 ^ n % (2 ^ 64 : Int)) = _
  rw [Nat.shiftLeft_eq, Int.natCast_emod, Int.natCast_mul, Int.natCast_pow]
  rfl
 rw [e]; rfl
theorem run_shrU {P : Program} {w : World} (t : TypeId) (yk : IntKind) (x n : Nat) (hn : n ≤ 64) : (binOp .shr t (.int .u64 (x : Int)) (.int yk (n : Int))).run P w = .ok (.int .u64 ((x >>> n : Nat) : Int)) w := by
 rw [binOp_shr, shift_shr .u64 yk (x : Int) (n : Int) (by omega) (by show (n : Int) ≤ 64; omega)]
 have e : (x : Int) / 2 ^ (n : Int).toNat = ((x >>> n : Nat) : Int) := by
  rw [Nat.shiftRight_eq_div_pow, Int.natCast_ediv, Int.natCast_pow]; rfl
 rw [e]; rfl
theorem notN (x : Nat) (h : x < Kec.W) : (Kec.W - 1) ^^^ x = Kec.W - 1 - x := by
 apply Nat.eq_of_testBit_eq
 intro z
 rw [Kec.W_eq] at *
 have h1 := Nat.testBit_two_pow_sub_succ (n := 64) (x := 0) (by decide) z
 have h2 := Nat.testBit_two_pow_sub_succ (n := 64) (x := x) h z
 rw [Nat.testBit_xor, show 2 ^ 64 - 1 - x = 2 ^ 64 - (x + 1) by omega, h2, show 2 ^ 64 - 1 = 2 ^ 64 - (0 + 1) by omega, h1]
 by_cases hz : z < 64
 ·simp [hz]
 ·have := Nat.testBit_lt_two_pow (Nat.lt_of_lt_of_le h (Nat.pow_le_pow_right (show 0 < 2 by decide) (show 64 ≤ z by omega)))
  simp [hz, this]
theorem notU (x : Nat) (h : x < Kec.W) : Value.int .u64 (bits .xor .u64 18446744073709551615 (x : Int)) = .int .u64 ((Kec.W - 1 - x : Nat) : Int) := by
 rw [← notN x h]
 exact xorU (Kec.W - 1) x (by decide) h
/-- How far each word is turned, as cells. -/
def Rz : Array Value := (Kec.R.map fun (x : Nat) => Value.int .i64 (x : Int)).toArray
theorem Rz_get (k : Nat) (h : k < 25) : Rz[k]? = some (.int .i64 ((Kec.g Kec.R k : Nat) : Int)) := by
 have : Kec.R.length = 25 := rfl
 simp [Rz, Kec.g, List.getElem?_eq_getElem (show k < Kec.R.length by omega)]
theorem rotl_and (n : Nat) (h : n < 64) : bits .and .u64 (n : Int) 63 = (n : Int) := by
 have := u64_and_nat n 63 (by omega) (by decide)
 rw [show ((63 : Nat) : Int) = 63 from rfl] at this
 rw [this, Nat.and_two_pow_sub_one_eq_mod n 6, Nat.mod_eq_of_lt (by omega)]
noncomputable def part_kat (n : Nat) : Code := partOf Tryz.f194 n
theorem kat_ok (x y : Nat) (w : World) (hx : x ≤ 1000) (hy : y ≤ 1000) :
  Calls Tryz.prog 194 #[.int .i64 ((x : Nat) : Int), .int .i64 ((y : Nat) : Int)] w (fun e w' => e = .returned (.int .i64 ((Kec.at_ x y : Nat) : Int)) ∧ w = w') := by
 have K0 : Keeps Nob w w := Keeps.refl _ _
 refine sy_enter (part_kat 1) ⟨fr [iN x, iN y] 9, []⟩ Tryz.func194 (by kernel_rfl) (by kernel_rfl) <| qr_ [0] <| pkq (.int .i64 0) <| eqr_ [0, 1, 2, 3, 4, 5, 6] <| pkq (iN x) <| pkq (iN (x % 5)) <| pkq (iN y) <| pkq (iN (y % 5)) <| ppq (iN (5 * (y % 5))) (exec_cast (congrArg (Value.int .i64) (wrapN (5 * (y % 5)) (by omega))) (by kernel_rfl)) <| ppq (iN ((x % 5) + (5 * (y % 5)))) (exec_cast (congrArg (Value.int .i64) (wrapN ((x % 5) + (5 * (y % 5))) (by omega))) (by kernel_rfl)) <| pkq (iN ((x % 5) + (5 * (y % 5)))) <| eu_ <| so_ (.int .i64 (((x % 5) + (5 * (y % 5)) : Nat) : Int)) ?_
 exact ⟨rfl, rfl⟩
theorem kat_as (x y r : Nat) (w : World) (hx : x ≤ 1000) (hy : y ≤ 1000) (h : Kec.at_ x y = r) : Calls Tryz.prog 194 #[.int .i64 ((x : Nat) : Int), .int .i64 ((y : Nat) : Int)] w fun e w' => e = .returned (.int .i64 ((r : Nat) : Int)) ∧ w = w' := h ▸ kat_ok x y w hx hy
noncomputable def qc82_4 (n : Nat) : Code := partOf Tryz.f195 n
theorem rotl_ok (x n : Nat) (w : World) (hx : x < Kec.W) (hn : n < 64) :
  Calls Tryz.prog 195 #[.int .u64 ((x : Nat) : Int), .int .i64 ((n : Nat) : Int)] w (fun e w' => e = .returned (.int .u64 ((Kec.rot x n : Nat) : Int)) ∧ w = w') := by
 have K0 : Keeps Nob w w := Keeps.refl _ _
 refine sy_enter (qc82_4 1) ⟨fr [uN x, iN n] 15, []⟩ Tryz.func195 (by kernel_rfl) (by kernel_rfl) <| qr_ [0] <| pkq (.int .u64 0) <| eqr_ [0, 1, 2, 3] <| pkq (iN n) <| ppq (uN n) (exec_cast (congrArg (Value.int .u64) (wrapU n (by omega))) (by kernel_rfl)) <| ppq (uN n) (exec_cast (congrArg (Value.int .u64) (rotl_and n hn)) (by kernel_rfl)) <| pkq (uN n) <| eqr_ [0, 1, 2, 3, 4, 5, 6, 7, 8] <| pkq (uN x) <| pkq (uN n) <| ppq (uN ((x <<< n) % Kec.W)) (exec_binop .shl 26 254 (.tmp 9) (.tmp 10) (by kernel_rfl) (uN x) (uN n) _ (by kernel_rfl) (by kernel_rfl) (by kernel_rfl) (run_shlU _ _ x n (by omega))) <| pkq (uN x) <| pkq (uN n) ?_
 refine ppq (uN (64 - n)) (exec_cast (v := .int .u64 (IntKind.u64.wrap ((64 : Int) - ((n : Nat) : Int)))) (congrArg (Value.int .u64) (by rw [show (64 : Int) - ((n : Nat) : Int) = ((64 - n : Nat) : Int) by omega]; exact wrapU _ (by omega))) (by kernel_rfl)) <| ppq (uN (x >>> (64 - n))) (exec_binop .shr 26 254 (.tmp 12) (.tmp 14) (by kernel_rfl) (uN x) (uN (64 - n)) _ (by kernel_rfl) (by kernel_rfl) (by kernel_rfl) (run_shrU _ _ x (64 - n) (by omega))) <| ppq (uN (((x <<< n) % Kec.W) ||| (x >>> (64 - n)))) (exec_cast (orU ((x <<< n) % Kec.W) (x >>> (64 - n)) (Nat.mod_lt _ Kec.W_pos) (Kec.shr_lt hx _)) (by kernel_rfl)) <| pkq (uN (((x <<< n) % Kec.W) ||| (x >>> (64 - n)))) <| eu_ <| so_ (.int .u64 ((((x <<< n) % Kec.W) ||| (x >>> (64 - n)) : Nat) : Int)) ?_
 exact ⟨rfl, rfl⟩
theorem g_map5 (f : Nat → Nat) (i : Nat) (h : i < 5) : Kec.g ((List.range 5).map f) i = f i := by simp [Kec.g, h]
noncomputable def qc82_0 (n : Nat) : Code := partOf Tryz.f188 n
noncomputable abbrev qo82_0 (n k : Nat) : Oper := (opsAt (qc82_0 n)).getD k default
theorem kcolumns_ok (b : Nat) (s : List Nat) (w : World) (hs : s.length = 25) (ws : Kec.Ws s) (hb : w.heap[b]? = some (.cells (Wz s) 229 (0, 0))) :
  Calls Tryz.prog 188 #[pT b 0] w (fun e w' => e = .returned (.tuple #[]) ∧ w'.heap[b]? = some (.cells (Wz (Kec.columns s)) 229 (0, 0)) ∧ Keeps (One b) w w') := by
 have K0 : Keeps (One b) w w := Keeps.refl _ _
 refine sy_enter (qc82_0 1) ⟨fr [pT b 0] 71, []⟩ Tryz.func188 (by kernel_rfl) (by kernel_rfl) <| qr_ [0] <| pal 255 (zr_u64_5) (.agg (zr_u64_5)) fun V1 gc egc h2 kV1 => ?_
 have n3 := nl egc hb
 have n4 := nk egc K0
 have ⟨K6, h5⟩ := kV1.K1 K0 hb
 refine eq_ <| qr_ [0] <| pkq (.int .i64 0) <| et_ <| bl_ 0 ?_
 refine sy_loop (qc82_0 52) (fun a V => ∃ (k : Nat) (u3 u7 u8 u9 u10 u11 u12 u13 u14 u15 u16 u17 u18 u19 u20 u21 u22 u23 u24 u25 u26 u27 u28 u29 u30 u31 u32 u33 u34 u35 u36 u37 u38 u39 u40 u41 u42 u43 u44 u45 : Value), (a = ⟨fr [pT b 0, ud, pT gc 0, u3, ud, ud, iN k, u7, u8, u9, u10, u11, u12, u13, u14, u15, u16, u17, u18, u19, u20, u21, u22, u23, u24, u25, u26, u27, u28, u29, u30, u31, u32, u33, u34, u35, u36, u37, u38, u39, u40, u41, u42, u43, u44, u45] 26, []⟩) ∧ (k ≤ 5) ∧ (V.heap[b]? = some (.cells (Wz s) 229 (0, 0))) ∧ (V.heap[gc]? = some (.cells (Wz (stp (Kec.col s) k [0, 0, 0, 0, 0])) 255 (0, 0))) ∧ (Keeps (One b) w V)) (fun a _ => 5 - (intOf (a.tmps.getD 6 undef)).toNat) (by kernel_rfl) ?_ ?_
 ·exact ⟨0, undef, undef, undef, undef, undef, undef, undef, undef, undef, undef, undef, undef, undef, undef, undef, undef, undef, undef, undef, undef, undef, undef, undef, undef, undef, undef, undef, undef, undef, undef, undef, undef, undef, undef, undef, undef, undef, undef, undef, undef, by kernel_rfl, by omega, h5, h2.trans (by kernel_rfl), K6⟩
 ·rintro a V7 ⟨k, u3, u7, u8, u9, u10, u11, u12, u13, u14, u15, u16, u17, u18, u19, u20, u21, u22, u23, u24, u25, u26, u27, u28, u29, u30, u31, u32, u33, u34, u35, u36, u37, u38, u39, u40, u41, u42, u43, u44, u45, rfl, hk, h8, h9, K10⟩
  by_cases lt_k : k < 5
  ·show _
   refine qr_ [0] <| ppq (.bool true) (dct ((((k : Nat) : Int)) < ((5) : Int)) (by omega)) <| eq_ <| y_ <| s_ <| tq_ <| bl_ 1 <| qr_ [0, 1] <| pkq (iN k) <| pkq (iN k) <| et_ <| sy_reg <| rg_still 4 36 (opsAt (qc82_0 1689)) [qo82_0 1689 0, qo82_0 1689 1, qo82_0 1689 2, qo82_0 1689 3, qo82_0 1689 4, qo82_0 1689 5, qo82_0 1689 6, qo82_0 1689 7, qo82_0 1689 8, qo82_0 1689 9, qo82_0 1689 10, qo82_0 1689 11, qo82_0 1689 12, qo82_0 1689 13, qo82_0 1689 14, qo82_0 1689 15, qo82_0 1689 16, qo82_0 1689 17, qo82_0 1689 18, qo82_0 1689 19, qo82_0 1689 20, qo82_0 1689 21, qo82_0 1689 22, qo82_0 1689 23, qo82_0 1689 24, qo82_0 1689 25, qo82_0 1689 26, qo82_0 1689 27, qo82_0 1689 28, qo82_0 1689 29, qo82_0 1689 30, qo82_0 1689 31, qo82_0 1689 32, qo82_0 1689 33, qo82_0 1689 34, qo82_0 1689 35] [qo82_0 1689 36] (by kernel_rfl) (by kernel_rfl) (by kernel_rfl) (by kernel_rfl) (by kernel_rfl) ?_
   obtain ⟨V12, eV12, kV12⟩ := drew_step V7
   rw [eV12]
   clear eV12
   have ⟨K15, h13, h14⟩ := kV12.K2 K10 h8 h9
   refine skq (iN k) <| skq (pT b 0) <| skq (iN k) <| scq 194 #[iN k, .int .i64 0] (iN k) Tryz.func194 (kat_as k 0 k _ (by omega) (by omega) (by unfold Kec.at_; omega)) <| skq (pT b 0) <| spq (pT b k) (exec_cast (v := pT b (0 + k * 1)) (by simp) (exec_indexAt_arr 229 (.tmp 13) (.tmp 12) (by kernel_rfl) b 0 (by kernel_rfl) .i64 k (by kernel_rfl) _ _ 1 Tryz.underlying229 (by kernel_rfl) (by omega))) <| spq (uN (Kec.g s k)) (ldc 26 b k (rc (h13) (Wz_get _ k (by rw [hs]; omega)))) <| skq (pT b 0) <| skq (iN k) <| scq 194 #[iN k, .int .i64 1] (iN (k + 5)) Tryz.func194 (kat_as k 1 (k + 5) _ (by omega) (by omega) (by unfold Kec.at_; omega)) <| skq (pT b 0) <| spq (pT b (k + 5)) (exec_cast (v := pT b (0 + (k + 5) * 1)) (by simp) (exec_indexAt_arr 229 (.tmp 19) (.tmp 18) (by kernel_rfl) b 0 (by kernel_rfl) .i64 (k + 5) (by kernel_rfl) _ _ 1 Tryz.underlying229 (by kernel_rfl) (by omega))) <| spq (uN (Kec.g s (k + 5))) (ldc 26 b (k + 5) (rc (h13) (Wz_get _ (k + 5) (by rw [hs]; omega)))) <| spq (uN ((Kec.g s k) ^^^ (Kec.g s (k + 5)))) (exec_cast (xorU (Kec.g s k) (Kec.g s (k + 5)) (ws _) (ws _)) (by kernel_rfl)) ?_
   refine skq (pT b 0) <| skq (iN k) <| scq 194 #[iN k, .int .i64 2] (iN (k + 10)) Tryz.func194 (kat_as k 2 (k + 10) _ (by omega) (by omega) (by unfold Kec.at_; omega)) <| skq (pT b 0) <| spq (pT b (k + 10)) (exec_cast (v := pT b (0 + (k + 10) * 1)) (by simp) (exec_indexAt_arr 229 (.tmp 26) (.tmp 25) (by kernel_rfl) b 0 (by kernel_rfl) .i64 (k + 10) (by kernel_rfl) _ _ 1 Tryz.underlying229 (by kernel_rfl) (by omega))) <| spq (uN (Kec.g s (k + 10))) (ldc 26 b (k + 10) (rc (h13) (Wz_get _ (k + 10) (by rw [hs]; omega)))) <| spq (uN (((Kec.g s k) ^^^ (Kec.g s (k + 5))) ^^^ (Kec.g s (k + 10)))) (exec_cast (xorU ((Kec.g s k) ^^^ (Kec.g s (k + 5))) (Kec.g s (k + 10)) (Kec.xor_lt (ws _) (ws _)) (ws _)) (by kernel_rfl)) <| skq (pT b 0) <| skq (iN k) <| scq 194 #[iN k, .int .i64 3] (iN (k + 15)) Tryz.func194 (kat_as k 3 (k + 15) _ (by omega) (by omega) (by unfold Kec.at_; omega)) <| skq (pT b 0) <| spq (pT b (k + 15)) (exec_cast (v := pT b (0 + (k + 15) * 1)) (by simp) (exec_indexAt_arr 229 (.tmp 33) (.tmp 32) (by kernel_rfl) b 0 (by kernel_rfl) .i64 (k + 15) (by kernel_rfl) _ _ 1 Tryz.underlying229 (by kernel_rfl) (by omega))) <| spq (uN (Kec.g s (k + 15))) (ldc 26 b (k + 15) (rc (h13) (Wz_get _ (k + 15) (by rw [hs]; omega)))) <| spq (uN ((((Kec.g s k) ^^^ (Kec.g s (k + 5))) ^^^ (Kec.g s (k + 10))) ^^^ (Kec.g s (k + 15)))) (exec_cast (xorU (((Kec.g s k) ^^^ (Kec.g s (k + 5))) ^^^ (Kec.g s (k + 10))) (Kec.g s (k + 15)) (Kec.xor_lt (Kec.xor_lt (ws _) (ws _)) (ws _)) (ws _)) (by kernel_rfl)) ?_
   refine skq (pT b 0) <| skq (iN k) <| scq 194 #[iN k, .int .i64 4] (iN (k + 20)) Tryz.func194 (kat_as k 4 (k + 20) _ (by omega) (by omega) (by unfold Kec.at_; omega)) <| skq (pT b 0) <| spq (pT b (k + 20)) (exec_cast (v := pT b (0 + (k + 20) * 1)) (by simp) (exec_indexAt_arr 229 (.tmp 40) (.tmp 39) (by kernel_rfl) b 0 (by kernel_rfl) .i64 (k + 20) (by kernel_rfl) _ _ 1 Tryz.underlying229 (by kernel_rfl) (by omega))) <| spq (uN (Kec.g s (k + 20))) (ldc 26 b (k + 20) (rc (h13) (Wz_get _ (k + 20) (by rw [hs]; omega)))) <| spq (uN (((((Kec.g s k) ^^^ (Kec.g s (k + 5))) ^^^ (Kec.g s (k + 10))) ^^^ (Kec.g s (k + 15))) ^^^ (Kec.g s (k + 20)))) (exec_cast (xorU ((((Kec.g s k) ^^^ (Kec.g s (k + 5))) ^^^ (Kec.g s (k + 10))) ^^^ (Kec.g s (k + 15))) (Kec.g s (k + 20)) (Kec.xor_lt (Kec.xor_lt (Kec.xor_lt (ws _) (ws _)) (ws _)) (ws _)) (ws _)) (by kernel_rfl)) <| spq (pT gc k) (exec_cast (v := pT gc (0 + k * 1)) (by simp) (exec_indexAt_arr 255 (.tmp 2) (.tmp 9) (by kernel_rfl) gc 0 (by kernel_rfl) .i64 k (by kernel_rfl) _ _ 1 Tryz.underlying255 (by kernel_rfl) (by omega))) <| st_end ?_
   obtain ⟨V16, eV16, kV16⟩ := cell_step V12 gc k (.int .u64 ((((((Kec.g s k) ^^^ (Kec.g s (k + 5))) ^^^ (Kec.g s (k + 10))) ^^^ (Kec.g s (k + 15))) ^^^ (Kec.g s (k + 20)) : Nat) : Int))
   have h17 : V16.heap[gc]? = some (.cells (Wz (stp (Kec.col s) (k + 1) [0, 0, 0, 0, 0])) 255 (0, 0)) := eV16 ▸ ((heap_setCell_same _ gc k _ _ (.int .u64 ((((((Kec.g s k) ^^^ (Kec.g s (k + 5))) ^^^ (Kec.g s (k + 10))) ^^^ (Kec.g s (k + 15))) ^^^ (Kec.g s (k + 20)) : Nat) : Int)) h14).trans (congrArg (fun c => some (Obj.cells c 255 (0, 0))) (show (Wz (stp (Kec.col s) k [0, 0, 0, 0, 0]) : Array Value).setIfInBounds k (.int .u64 ((((((Kec.g s k) ^^^ (Kec.g s (k + 5))) ^^^ (Kec.g s (k + 10))) ^^^ (Kec.g s (k + 15))) ^^^ (Kec.g s (k + 20)) : Nat) : Int)) = Wz (stp (Kec.col s) (k + 1) [0, 0, 0, 0, 0]) from by rw [Wz_set]; exact congrArg Wz (by rw [stp_succ] <;> rfl))))
   refine ls_skip (qo82_0 1689 36) (w' := V16) (by kernel_rfl) (by rw [← eV16]; exact exec_store_cell 26 (.tmp 44) (.tmp 43) (by kernel_rfl) gc k (by kernel_rfl) (.int .u64 ((((((Kec.g s k) ^^^ (Kec.g s (k + 5))) ^^^ (Kec.g s (k + 10))) ^^^ (Kec.g s (k + 15))) ^^^ (Kec.g s (k + 20)) : Nat) : Int)) (by kernel_rfl) (by kernel_rfl) (by kernel_rfl) (.int .u64 ((Kec.g (stp (Kec.col s) k [0, 0, 0, 0, 0]) k : Nat) : Int)) (rc (h14) (Wz_get _ k (by rw [stp_len, show ([0, 0, 0, 0, 0] : List Nat).length = 5 from rfl]; omega))) (frozen_of_row _ _ _ _ _ h14) (by kernel_rfl)) ?_
   clear eV16
   have ⟨K19, h18⟩ := kV16.Ko1 K15 h13
   refine ls_end <| sy_a ⟨fr [pT b 0, ud, pT gc 0, iN k, ud, ud, iN k, .bool true, iN k, iN k, pT b 0, iN k, iN k, pT b 0, pT b k, uN (Kec.g s k), pT b 0, iN k, iN (k + 5), pT b 0, pT b (k + 5), uN (Kec.g s (k + 5)), uN ((Kec.g s k) ^^^ (Kec.g s (k + 5))), pT b 0, iN k, iN (k + 10), pT b 0, pT b (k + 10), uN (Kec.g s (k + 10)), uN (((Kec.g s k) ^^^ (Kec.g s (k + 5))) ^^^ (Kec.g s (k + 10))), pT b 0, iN k, iN (k + 15), pT b 0, pT b (k + 15), uN (Kec.g s (k + 15)), uN ((((Kec.g s k) ^^^ (Kec.g s (k + 5))) ^^^ (Kec.g s (k + 10))) ^^^ (Kec.g s (k + 15))), pT b 0, iN k, iN (k + 20), pT b 0, pT b (k + 20), uN (Kec.g s (k + 20)), uN (((((Kec.g s k) ^^^ (Kec.g s (k + 5))) ^^^ (Kec.g s (k + 10))) ^^^ (Kec.g s (k + 15))) ^^^ (Kec.g s (k + 20))), pT gc k, u45] 26, []⟩ <| blk_n <| tr_ [0, 1] <| ppq (iN (k + 1)) (exec_cast (congrArg (Value.int .i64) (wrapN (k + 1) (by omega))) (by kernel_rfl)) <| pkq (iN (k + 1)) <| et_ ?_
   refine ⟨⟨k + 1, (iN k), (.bool true), (iN k), (iN k), (pT b 0), (iN k), (iN k), (pT b 0), (pT b k), (uN (Kec.g s k)), (pT b 0), (iN k), (iN (k + 5)), (pT b 0), (pT b (k + 5)), (uN (Kec.g s (k + 5))), (uN ((Kec.g s k) ^^^ (Kec.g s (k + 5)))), (pT b 0), (iN k), (iN (k + 10)), (pT b 0), (pT b (k + 10)), (uN (Kec.g s (k + 10))), (uN (((Kec.g s k) ^^^ (Kec.g s (k + 5))) ^^^ (Kec.g s (k + 10)))), (pT b 0), (iN k), (iN (k + 15)), (pT b 0), (pT b (k + 15)), (uN (Kec.g s (k + 15))), (uN ((((Kec.g s k) ^^^ (Kec.g s (k + 5))) ^^^ (Kec.g s (k + 10))) ^^^ (Kec.g s (k + 15)))), (pT b 0), (iN k), (iN (k + 20)), (pT b 0), (pT b (k + 20)), (uN (Kec.g s (k + 20))), (uN (((((Kec.g s k) ^^^ (Kec.g s (k + 5))) ^^^ (Kec.g s (k + 10))) ^^^ (Kec.g s (k + 15))) ^^^ (Kec.g s (k + 20)))), (pT gc k), (iN (k + 1)), by kernel_rfl, by omega, h18, h17, K19⟩, ?_⟩
   exact lt_meas (x := 5 - (k + 1)) (y := 5 - k) (by kernel_rfl) (by kernel_rfl) (by omega)
  ·have eq_k : k = 5 := by omega
   have h20 : V7.heap[gc]? = some (.cells (Wz ((List.range 5).map (Kec.col s))) 255 (0, 0)) := h9.trans (by rw [eq_k, stp_all _ _ 5 rfl])
   refine qr_ [0] <| ppq (.bool false) (dcf ((((k : Nat) : Int)) < ((5) : Int)) (by omega)) <| eq_ <| n_ <| sy_exit 0 (by kernel_rfl) <| then_e <| then_e <| blk_e <| tqr_ [0] <| pkq (.int .i64 0) <| et_ <| bl_ 2 ?_
   refine sy_loop (qc82_0 60) (fun a V => ∃ (j : Nat) (u4 u5 u47 u48 u49 u50 u51 u52 u53 u54 u55 u56 u57 u58 u59 u60 u61 u62 u63 u64 u65 u66 u67 u68 u69 u70 u71 : Value), (a = ⟨#[pT b 0, ud, pT gc 0, u3, u4, u5, iN k, .bool false, u8, u9, u10, u11, u12, u13, u14, u15, u16, u17, u18, u19, u20, u21, u22, u23, u24, u25, u26, u27, u28, u29, u30, u31, u32, u33, u34, u35, u36, u37, u38, u39, u40, u41, u42, u43, u44, u45, iN j, u47, u48, u49, u50, u51, u52, u53, u54, u55, u56, u57, u58, u59, u60, u61, u62, u63, u64, u65, u66, u67, u68, u69, u70, u71], []⟩) ∧ (j ≤ 25) ∧ (V.heap[b]? = some (.cells (Wz (stp (fun i => Kec.g s i ^^^ Kec.dd s (i % 5)) j s)) 229 (0, 0))) ∧ (V.heap[gc]? = some (.cells (Wz ((List.range 5).map (Kec.col s))) 255 (0, 0))) ∧ (Keeps (One b) w V)) (fun a _ => 25 - (intOf (a.tmps.getD 46 undef)).toNat) (by kernel_rfl) ?_ ?_
   ·exact ⟨0, undef, undef, undef, undef, undef, undef, undef, undef, undef, undef, undef, undef, undef, undef, undef, undef, undef, undef, undef, undef, undef, undef, undef, undef, undef, undef, undef, by kernel_rfl, by omega, h8, h20, K10⟩
   ·rintro a V21 ⟨j, u4, u5, u47, u48, u49, u50, u51, u52, u53, u54, u55, u56, u57, u58, u59, u60, u61, u62, u63, u64, u65, u66, u67, u68, u69, u70, u71, rfl, hj, h22, h23, K24⟩
    by_cases lt_j : j < 25
    ·show _
     refine qr_ [0] <| ppq (.bool true) (dct ((((j : Nat) : Int)) < ((25) : Int)) (by omega)) <| eq_ <| y_ <| s_ <| tq_ <| bl_ 3 <| qr_ [0, 1] <| pkq (iN j) <| pkq (iN j) <| eqr_ [0, 1, 2] <| pkq (iN j) <| pkq (iN (j % 5)) <| pkq (iN (j % 5)) ?_
     refine et_ <| sy_reg <| rg_still 10 20 (opsAt (qc82_0 3891)) [qo82_0 3891 0, qo82_0 3891 1, qo82_0 3891 2, qo82_0 3891 3, qo82_0 3891 4, qo82_0 3891 5, qo82_0 3891 6, qo82_0 3891 7, qo82_0 3891 8, qo82_0 3891 9, qo82_0 3891 10, qo82_0 3891 11, qo82_0 3891 12, qo82_0 3891 13, qo82_0 3891 14, qo82_0 3891 15, qo82_0 3891 16, qo82_0 3891 17, qo82_0 3891 18, qo82_0 3891 19] [qo82_0 3891 20] (by kernel_rfl) (by kernel_rfl) (by kernel_rfl) (by kernel_rfl) (by kernel_rfl) ?_
     obtain ⟨V26, eV26, kV26⟩ := drew_step V21
     rw [eV26]
     clear eV26
     have ⟨K29, h27, h28⟩ := kV26.K2 K24 h22 h23
     refine skq (pT b 0) <| skq (iN j) <| skq (pT b 0) <| spq (pT b j) (exec_cast (v := pT b (0 + j * 1)) (by simp) (exec_indexAt_arr 229 (.tmp 53) (.tmp 52) (by kernel_rfl) b 0 (by kernel_rfl) .i64 j (by kernel_rfl) _ _ 1 Tryz.underlying229 (by kernel_rfl) (by omega))) <| spq (uN (Kec.g s j)) (ldc 26 b j (rc (h27) (Wz_get' _ j _ (by rw [stp_len, hs]; omega) (by rw [stp_get _ _ _ _ (by omega), if_neg (by omega)])))) <| skq (iN (j % 5)) <| spq (iN ((j % 5) + 4)) (exec_cast (congrArg (Value.int .i64) (wrapN ((j % 5) + 4) (by omega))) (by kernel_rfl)) <| skq (iN (((j % 5) + 4) % 5)) <| spq (pT gc (((j % 5) + 4) % 5)) (exec_cast (v := pT gc (0 + (((j % 5) + 4) % 5) * 1)) (by simp) (exec_indexAt_arr 255 (.tmp 2) (.tmp 58) (by kernel_rfl) gc 0 (by kernel_rfl) .i64 (((j % 5) + 4) % 5) (by kernel_rfl) _ _ 1 Tryz.underlying255 (by kernel_rfl) (by omega))) <| spq (uN (Kec.col s (((j % 5) + 4) % 5))) (exec_ld 26 (.tmp 59) gc (((j % 5) + 4) % 5) Tryz.underlying26 (rc (h28) (Wz_get' _ (((j % 5) + 4) % 5) _ (by rw [List.length_map, List.length_range]; omega) (g_map5 _ _ (by omega))))) <| skq (iN (j % 5)) <| spq (iN ((j % 5) + 1)) (exec_cast (congrArg (Value.int .i64) (wrapN ((j % 5) + 1) (by omega))) (by kernel_rfl)) <| skq (iN (((j % 5) + 1) % 5)) <| spq (pT gc (((j % 5) + 1) % 5)) (exec_cast (v := pT gc (0 + (((j % 5) + 1) % 5) * 1)) (by simp) (exec_indexAt_arr 255 (.tmp 2) (.tmp 63) (by kernel_rfl) gc 0 (by kernel_rfl) .i64 (((j % 5) + 1) % 5) (by kernel_rfl) _ _ 1 Tryz.underlying255 (by kernel_rfl) (by omega))) ?_
     refine spq (uN (Kec.col s (((j % 5) + 1) % 5))) (exec_ld 26 (.tmp 64) gc (((j % 5) + 1) % 5) Tryz.underlying26 (rc (h28) (Wz_get' _ (((j % 5) + 1) % 5) _ (by rw [List.length_map, List.length_range]; omega) (g_map5 _ _ (by omega))))) <| scq 195 #[uN (Kec.col s (((j % 5) + 1) % 5)), .int .i64 1] (uN (Kec.rot (Kec.col s (((j % 5) + 1) % 5)) 1)) Tryz.func195 (rotl_ok (Kec.col s (((j % 5) + 1) % 5)) 1 _ (Kec.col_lt ws _) (by omega)) <| spq (uN ((Kec.col s (((j % 5) + 4) % 5)) ^^^ (Kec.rot (Kec.col s (((j % 5) + 1) % 5)) 1))) (exec_cast (xorU (Kec.col s (((j % 5) + 4) % 5)) (Kec.rot (Kec.col s (((j % 5) + 1) % 5)) 1) (Kec.col_lt ws _) (Kec.rot_lt (Kec.col_lt ws _) _)) (by kernel_rfl)) <| spq (uN ((Kec.g s j) ^^^ ((Kec.col s (((j % 5) + 4) % 5)) ^^^ (Kec.rot (Kec.col s (((j % 5) + 1) % 5)) 1)))) (exec_cast (xorU (Kec.g s j) ((Kec.col s (((j % 5) + 4) % 5)) ^^^ (Kec.rot (Kec.col s (((j % 5) + 1) % 5)) 1)) (ws _) (Kec.xor_lt (Kec.col_lt ws _) (Kec.rot_lt (Kec.col_lt ws _) _))) (by kernel_rfl)) <| skq (pT b 0) <| spq (pT b j) (exec_cast (v := pT b (0 + j * 1)) (by simp) (exec_indexAt_arr 229 (.tmp 69) (.tmp 52) (by kernel_rfl) b 0 (by kernel_rfl) .i64 j (by kernel_rfl) _ _ 1 Tryz.underlying229 (by kernel_rfl) (by omega))) <| st_end ?_
     obtain ⟨V30, eV30, kV30⟩ := cell_step V26 b j (.int .u64 (((Kec.g s j) ^^^ ((Kec.col s (((j % 5) + 4) % 5)) ^^^ (Kec.rot (Kec.col s (((j % 5) + 1) % 5)) 1)) : Nat) : Int))
     have h31 : V30.heap[b]? = some (.cells (Wz (stp (fun i => Kec.g s i ^^^ Kec.dd s (i % 5)) (j + 1) s)) 229 (0, 0)) := eV30 ▸ ((heap_setCell_same _ b j _ _ (.int .u64 (((Kec.g s j) ^^^ ((Kec.col s (((j % 5) + 4) % 5)) ^^^ (Kec.rot (Kec.col s (((j % 5) + 1) % 5)) 1)) : Nat) : Int)) h27).trans (congrArg (fun c => some (Obj.cells c 229 (0, 0))) (show (Wz (stp (fun i => Kec.g s i ^^^ Kec.dd s (i % 5)) j s) : Array Value).setIfInBounds j (.int .u64 (((Kec.g s j) ^^^ ((Kec.col s (((j % 5) + 4) % 5)) ^^^ (Kec.rot (Kec.col s (((j % 5) + 1) % 5)) 1)) : Nat) : Int)) = Wz (stp (fun i => Kec.g s i ^^^ Kec.dd s (i % 5)) (j + 1) s) from by rw [Wz_set]; exact congrArg Wz (by rw [stp_succ] <;> rfl))))
     refine ls_skip (qo82_0 3891 20) (w' := V30) (by kernel_rfl) (by rw [← eV30]; exact exec_store_cell 26 (.tmp 70) (.tmp 68) (by kernel_rfl) b j (by kernel_rfl) (.int .u64 (((Kec.g s j) ^^^ ((Kec.col s (((j % 5) + 4) % 5)) ^^^ (Kec.rot (Kec.col s (((j % 5) + 1) % 5)) 1)) : Nat) : Int)) (by kernel_rfl) (by kernel_rfl) (by kernel_rfl) (.int .u64 ((Kec.g s j : Nat) : Int)) (rc (h27) (Wz_get' _ j _ (by rw [stp_len, hs]; omega) (by rw [stp_get _ _ _ _ (by omega), if_neg (by omega)]))) (frozen_of_row _ _ _ _ _ h27) (by kernel_rfl)) ?_
     clear eV30
     have h32 := kV30.bO h28
     have K33 : Keeps (One b) w V30 := K29.then kV30 (fun i hi hm => by unfold Own.One at hm; subst hm; exact rfl)
     refine ls_end <| sy_a ⟨#[pT b 0, ud, pT gc 0, u3, iN j, iN (j % 5), iN k, .bool false, u8, u9, u10, u11, u12, u13, u14, u15, u16, u17, u18, u19, u20, u21, u22, u23, u24, u25, u26, u27, u28, u29, u30, u31, u32, u33, u34, u35, u36, u37, u38, u39, u40, u41, u42, u43, u44, u45, iN j, .bool true, iN j, iN j, iN (j % 5), pT b 0, iN j, pT b 0, pT b j, uN (Kec.g s j), iN (j % 5), iN ((j % 5) + 4), iN (((j % 5) + 4) % 5), pT gc (((j % 5) + 4) % 5), uN (Kec.col s (((j % 5) + 4) % 5)), iN (j % 5), iN ((j % 5) + 1), iN (((j % 5) + 1) % 5), pT gc (((j % 5) + 1) % 5), uN (Kec.col s (((j % 5) + 1) % 5)), uN (Kec.rot (Kec.col s (((j % 5) + 1) % 5)) 1), uN ((Kec.col s (((j % 5) + 4) % 5)) ^^^ (Kec.rot (Kec.col s (((j % 5) + 1) % 5)) 1)), uN ((Kec.g s j) ^^^ ((Kec.col s (((j % 5) + 4) % 5)) ^^^ (Kec.rot (Kec.col s (((j % 5) + 1) % 5)) 1))), pT b 0, pT b j, u71], []⟩ <| blk_n <| tr_ [0, 1] <| ppq (iN (j + 1)) (exec_cast (congrArg (Value.int .i64) (wrapN (j + 1) (by omega))) (by kernel_rfl)) <| pkq (iN (j + 1)) <| et_ ?_
     refine ⟨⟨j + 1, (iN j), (iN (j % 5)), (.bool true), (iN j), (iN j), (iN (j % 5)), (pT b 0), (iN j), (pT b 0), (pT b j), (uN (Kec.g s j)), (iN (j % 5)), (iN ((j % 5) + 4)), (iN (((j % 5) + 4) % 5)), (pT gc (((j % 5) + 4) % 5)), (uN (Kec.col s (((j % 5) + 4) % 5))), (iN (j % 5)), (iN ((j % 5) + 1)), (iN (((j % 5) + 1) % 5)), (pT gc (((j % 5) + 1) % 5)), (uN (Kec.col s (((j % 5) + 1) % 5))), (uN (Kec.rot (Kec.col s (((j % 5) + 1) % 5)) 1)), (uN ((Kec.col s (((j % 5) + 4) % 5)) ^^^ (Kec.rot (Kec.col s (((j % 5) + 1) % 5)) 1))), (uN ((Kec.g s j) ^^^ ((Kec.col s (((j % 5) + 4) % 5)) ^^^ (Kec.rot (Kec.col s (((j % 5) + 1) % 5)) 1)))), (pT b 0), (pT b j), (iN (j + 1)), by kernel_rfl, by omega, h31, h32, K33⟩, ?_⟩
     exact lt_meas (x := 25 - (j + 1)) (y := 25 - j) (by kernel_rfl) (by kernel_rfl) (by omega)
    ·have eq_j : j = 25 := by omega
     refine qr_ [0] <| ppq (.bool false) (dcf ((((j : Nat) : Int)) < ((25) : Int)) (by omega)) <| eq_ <| n_ <| sy_exit 2 (by kernel_rfl) <| then_e <| then_e <| blk_e <| sy_fall (.tuple #[]) rfl (by kernel_rfl) ?_
     exact ⟨rfl, h22.trans (by rw [eq_j, stp_all _ _ 25 hs]; rfl), K24⟩
noncomputable def qc82_1 (n : Nat) : Code := partOf Tryz.f196 n
theorem kturns_ok (w : World) :
  Calls Tryz.prog 196 #[] w (fun e w' => e = .returned (.agg Rz) ∧ Keeps Nob w w') := by
 have K0 : Keeps Nob w w := Keeps.refl _ _
 refine sy_enter (qc82_1 1) ⟨#[ud, ud], []⟩ Tryz.func196 (by kernel_rfl) (by kernel_rfl) <| qr_ [0] <| pal 256 (zr_i64_25) (.agg (zr_i64_25)) fun V1 g eg h2 kV1 => ?_
 have n3 := nk eg K0
 have K4 := K0.nn kV1
 refine eqr_ [0, 1] <| pkq (.agg zl5_) <| psk 256 g (zl5_) h2 fun V5 h6 kV5 => ?_
 have K7 := K4.nO kV5
 refine eu_ <| sy_out (.agg (zl5_)) rfl (results_cell_row (p := 0) (ty := 256) (by kernel_rfl) _ _ g 256 (zl5_) (0, 0) _ (by kernel_rfl) h6 Tryz.underlying256 rfl (by kernel_rfl)) ?_
 exact ⟨congrArg Ending.returned (show _ = Value.agg Rz by kernel_rfl), K7⟩
noncomputable def qc82_2 (n : Nat) : Code := partOf Tryz.f189 n
noncomputable abbrev qo82_2 (n k : Nat) : Oper := (opsAt (qc82_2 n)).getD k default
theorem kmoves_ok (b : Nat) (s : List Nat) (w : World) (hs : s.length = 25) (ws : Kec.Ws s) (hb : w.heap[b]? = some (.cells (Wz s) 229 (0, 0))) :
  Calls Tryz.prog 189 #[pT b 0] w (fun e w' => e = .returned (.tuple #[]) ∧ w'.heap[b]? = some (.cells (Wz (Kec.moves s)) 229 (0, 0)) ∧ Keeps (One b) w w') := by
 have K0 : Keeps (One b) w w := Keeps.refl _ _
 refine sy_enter (qc82_2 1) ⟨fr [pT b 0] 34, []⟩ Tryz.func189 (by kernel_rfl) (by kernel_rfl) <| qr_ [0, 1, 2, 3, 4] <| pkq (pT b 0) <| pkq (pT b 0) <| ppq (.agg (Wz s)) (ldr 229 b (hb) (by rw [Wz_size, hs]; kernel_rfl)) <| pal 229 (zr_u64_25) (.agg (zr_u64_25)) fun V1 gw egw h2 kV1 => ?_
 have n3 := nl egw hb
 have n4 := nk egw K0
 have ⟨K6, h5⟩ := kV1.K1 K0 hb
 refine pst 229 gw ((Wz s)) h2 (by rw [Wz_size, hs]; kernel_rfl) (by rw [Wz_size, hs]; rfl) (Wz_one _) fun V7 h8 kV7 => ?_
 have ⟨K10, h9⟩ := kV7.Ko1 K6 h5
 refine eqr_ [0, 1] ?_
 refine pcq 196 #[] Tryz.func196 ((kturns_ok _).mono ?_)
 rintro e V11 ⟨rfl, kV11⟩
 refine ⟨_, rfl, ?_⟩
 have ⟨K14, h12, h13⟩ := kV11.K2 K10 h9 h8
 refine pkq (.int .i64 0) <| et_ <| bl_ 0 ?_
 refine sy_loop (qc82_2 28) (fun a V => ∃ (k : Nat) (u3 u4 u5 u6 u12 u13 u14 u15 u16 u17 u18 u19 u20 u21 u22 u23 u24 u25 u26 u27 u28 u29 u30 u31 u32 u33 u34 : Value), (a = ⟨#[pT b 0, ud, pT gw 0, u3, u4, u5, u6, pT b 0, pT b 0, .agg (Wz s), .agg Rz, iN k, u12, u13, u14, u15, u16, u17, u18, u19, u20, u21, u22, u23, u24, u25, u26, u27, u28, u29, u30, u31, u32, u33, u34], []⟩) ∧ (k ≤ 25) ∧ (V.heap[b]? = some (.cells (Wz (Kec.stpD Kec.dest (fun i => Kec.rot (Kec.g s i) (Kec.g Kec.R i)) k s)) 229 (0, 0))) ∧ (V.heap[gw]? = some (.cells (Wz s) 229 (0, 0))) ∧ (Keeps (One b) w V)) (fun a _ => 25 - (intOf (a.tmps.getD 11 undef)).toNat) (by kernel_rfl) ?_ ?_
 ·exact ⟨0, undef, undef, undef, undef, undef, undef, undef, undef, undef, undef, undef, undef, undef, undef, undef, undef, undef, undef, undef, undef, undef, undef, undef, undef, undef, undef, undef, by kernel_rfl, by omega, h12, h13, K14⟩
 ·rintro a V15 ⟨k, u3, u4, u5, u6, u12, u13, u14, u15, u16, u17, u18, u19, u20, u21, u22, u23, u24, u25, u26, u27, u28, u29, u30, u31, u32, u33, u34, rfl, hk, h16, h17, K18⟩
  by_cases lt_k : k < 25
  ·have hdk := Kec.dest_lt k
   refine qr_ [0] <| ppq (.bool true) (dct ((((k : Nat) : Int)) < ((25) : Int)) (by omega)) <| eq_ <| y_ <| s_ <| tq_ <| bl_ 1 <| qr_ [0, 1, 2, 3] <| pkq (iN k) <| ppq (iN (Kec.g Kec.R k)) (exec_index_arr 256 (.tmp 10) (.tmp 11) (by kernel_rfl) Rz (by kernel_rfl) .i64 k (by kernel_rfl) 25 3 Tryz.underlying256 (by kernel_rfl) (by kernel_rfl) (by omega) _ (Rz_get k (by omega))) <| pkq (iN k) <| pkq (iN (Kec.g Kec.R k)) <| eqr_ [0, 1, 2, 3, 4, 5] <| pkq (iN k) ?_
   refine pkq (iN (k % 5)) <| pkq (iN k) <| ppq (iN (k / 5)) (exec_cast (congrArg (Value.int .i64) (wrapN (k / 5) (by omega))) (by kernel_rfl)) <| pkq (iN (k % 5)) <| pkq (iN (k / 5)) <| et_ <| sy_reg <| rg_still 5 15 (opsAt (qc82_2 1843)) [qo82_2 1843 0, qo82_2 1843 1, qo82_2 1843 2, qo82_2 1843 3, qo82_2 1843 4, qo82_2 1843 5, qo82_2 1843 6, qo82_2 1843 7, qo82_2 1843 8, qo82_2 1843 9, qo82_2 1843 10, qo82_2 1843 11, qo82_2 1843 12, qo82_2 1843 13, qo82_2 1843 14] [qo82_2 1843 15] (by kernel_rfl) (by kernel_rfl) (by kernel_rfl) (by kernel_rfl) (by kernel_rfl) ?_
   obtain ⟨V20, eV20, kV20⟩ := drew_step V15
   rw [eV20]
   clear eV20
   have ⟨K23, h21, h22⟩ := kV20.K2 K18 h16 h17
   refine skq (pT b 0) <| skq (iN (k / 5)) <| skq (iN (k % 5)) <| spq (iN (2 * (k % 5))) (exec_cast (congrArg (Value.int .i64) (wrapN (2 * (k % 5)) (by omega))) (by kernel_rfl)) <| skq (iN (k / 5)) <| spq (iN (3 * (k / 5))) (exec_cast (congrArg (Value.int .i64) (wrapN (3 * (k / 5)) (by omega))) (by kernel_rfl)) <| spq (iN ((2 * (k % 5)) + (3 * (k / 5)))) (exec_cast (congrArg (Value.int .i64) (wrapN ((2 * (k % 5)) + (3 * (k / 5))) (by omega))) (by kernel_rfl)) <| scq 194 #[iN (k / 5), iN ((2 * (k % 5)) + (3 * (k / 5)))] (iN (Kec.dest k)) Tryz.func194 (kat_as (k / 5) ((2 * (k % 5)) + (3 * (k / 5))) (Kec.dest k) _ (by omega) (by omega) (rfl)) <| skq (iN k) <| spq (pT gw k) (exec_cast (v := pT gw (0 + k * 1)) (by simp) (exec_indexAt_arr 229 (.tmp 2) (.tmp 27) (by kernel_rfl) gw 0 (by kernel_rfl) .i64 k (by kernel_rfl) _ _ 1 Tryz.underlying229 (by kernel_rfl) (by omega))) <| spq (uN (Kec.g s k)) (ldc 26 gw k (rc (h22) (Wz_get _ k (by rw [hs]; omega)))) <| skq (iN (Kec.g Kec.R k)) <| scq 195 #[uN (Kec.g s k), iN (Kec.g Kec.R k)] (uN (Kec.rot (Kec.g s k) (Kec.g Kec.R k))) Tryz.func195 (rotl_ok (Kec.g s k) (Kec.g Kec.R k) _ (ws _) (Kec.R_lt' _ (by omega))) <| skq (pT b 0) ?_
   refine spq (pT b (Kec.dest k)) (exec_cast (v := pT b (0 + (Kec.dest k) * 1)) (by simp) (exec_indexAt_arr 229 (.tmp 32) (.tmp 26) (by kernel_rfl) b 0 (by kernel_rfl) .i64 (Kec.dest k) (by kernel_rfl) _ _ 1 Tryz.underlying229 (by kernel_rfl) (by omega))) <| st_end ?_
   obtain ⟨V24, eV24, kV24⟩ := cell_step V20 b (Kec.dest k) (.int .u64 ((Kec.rot (Kec.g s k) (Kec.g Kec.R k) : Nat) : Int))
   have h25 : V24.heap[b]? = some (.cells (Wz (Kec.stpD Kec.dest (fun i => Kec.rot (Kec.g s i) (Kec.g Kec.R i)) (k + 1) s)) 229 (0, 0)) := eV24 ▸ ((heap_setCell_same _ b (Kec.dest k) _ _ (.int .u64 ((Kec.rot (Kec.g s k) (Kec.g Kec.R k) : Nat) : Int)) h21).trans (congrArg (fun c => some (Obj.cells c 229 (0, 0))) (show (Wz (Kec.stpD Kec.dest (fun i => Kec.rot (Kec.g s i) (Kec.g Kec.R i)) k s) : Array Value).setIfInBounds (Kec.dest k) (.int .u64 ((Kec.rot (Kec.g s k) (Kec.g Kec.R k) : Nat) : Int)) = Wz (Kec.stpD Kec.dest (fun i => Kec.rot (Kec.g s i) (Kec.g Kec.R i)) (k + 1) s) from by rw [Wz_set]; exact congrArg Wz (by rw [Kec.stpD_succ]))))
   refine ls_skip (qo82_2 1843 15) (w' := V24) (by kernel_rfl) (by rw [← eV24]; exact exec_store_cell 26 (.tmp 33) (.tmp 31) (by kernel_rfl) b (Kec.dest k) (by kernel_rfl) (.int .u64 ((Kec.rot (Kec.g s k) (Kec.g Kec.R k) : Nat) : Int)) (by kernel_rfl) (by kernel_rfl) (by kernel_rfl) (.int .u64 ((Kec.g (Kec.stpD Kec.dest (fun i => Kec.rot (Kec.g s i) (Kec.g Kec.R i)) k s) (Kec.dest k) : Nat) : Int)) (rc (h21) (Wz_get _ (Kec.dest k) (by rw [Kec.stpD_len, hs]; omega))) (frozen_of_row _ _ _ _ _ h21) (by kernel_rfl)) ?_
   clear eV24
   have h26 := kV24.bO h22
   have K27 : Keeps (One b) w V24 := K23.then kV24 (fun i hi hm => by unfold Own.One at hm; subst hm; exact rfl)
   refine ls_end <| sy_a ⟨#[pT b 0, ud, pT gw 0, iN k, iN (Kec.g Kec.R k), iN (k % 5), iN (k / 5), pT b 0, pT b 0, .agg (Wz s), .agg Rz, iN k, .bool true, iN k, iN (Kec.g Kec.R k), iN k, iN (k % 5), iN k, iN (k / 5), pT b 0, iN (k / 5), iN (k % 5), iN (2 * (k % 5)), iN (k / 5), iN (3 * (k / 5)), iN ((2 * (k % 5)) + (3 * (k / 5))), iN (Kec.dest k), iN k, pT gw k, uN (Kec.g s k), iN (Kec.g Kec.R k), uN (Kec.rot (Kec.g s k) (Kec.g Kec.R k)), pT b 0, pT b (Kec.dest k), u34], []⟩ <| blk_n <| tr_ [0, 1] <| ppq (iN (k + 1)) (exec_cast (congrArg (Value.int .i64) (wrapN (k + 1) (by omega))) (by kernel_rfl)) <| pkq (iN (k + 1)) <| et_ ?_
   refine ⟨⟨k + 1, (iN k), (iN (Kec.g Kec.R k)), (iN (k % 5)), (iN (k / 5)), (.bool true), (iN k), (iN (Kec.g Kec.R k)), (iN k), (iN (k % 5)), (iN k), (iN (k / 5)), (pT b 0), (iN (k / 5)), (iN (k % 5)), (iN (2 * (k % 5))), (iN (k / 5)), (iN (3 * (k / 5))), (iN ((2 * (k % 5)) + (3 * (k / 5)))), (iN (Kec.dest k)), (iN k), (pT gw k), (uN (Kec.g s k)), (iN (Kec.g Kec.R k)), (uN (Kec.rot (Kec.g s k) (Kec.g Kec.R k))), (pT b 0), (pT b (Kec.dest k)), (iN (k + 1)), by kernel_rfl, by omega, h25, h26, K27⟩, ?_⟩
   exact lt_meas (x := 25 - (k + 1)) (y := 25 - k) (by kernel_rfl) (by kernel_rfl) (by omega)
  ·have eq_k : k = 25 := by omega
   refine qr_ [0] <| ppq (.bool false) (dcf ((((k : Nat) : Int)) < ((25) : Int)) (by omega)) <| eq_ <| n_ <| sy_exit 0 (by kernel_rfl) <| then_e <| then_e <| blk_e <| sy_fall (.tuple #[]) rfl (by kernel_rfl) ?_
   exact ⟨rfl, h16.trans (by rw [eq_k, Kec.stpD_moves _ _ hs]; rfl), K18⟩
noncomputable def qc82_3 (n : Nat) : Code := partOf Tryz.f190 n
noncomputable abbrev qo82_3 (n k : Nat) : Oper := (opsAt (qc82_3 n)).getD k default
theorem kmixes_ok (b : Nat) (s : List Nat) (w : World) (hs : s.length = 25) (ws : Kec.Ws s) (hb : w.heap[b]? = some (.cells (Wz s) 229 (0, 0))) :
  Calls Tryz.prog 190 #[pT b 0] w (fun e w' => e = .returned (.tuple #[]) ∧ w'.heap[b]? = some (.cells (Wz (Kec.mixes s)) 229 (0, 0)) ∧ Keeps (One b) w w') := by
 have K0 : Keeps (One b) w w := Keeps.refl _ _
 refine sy_enter (qc82_3 1) ⟨fr [pT b 0] 38, []⟩ Tryz.func190 (by kernel_rfl) (by kernel_rfl) <| qr_ [0, 1, 2, 3, 4] <| pkq (pT b 0) <| pkq (pT b 0) <| ppq (.agg (Wz s)) (ldr 229 b (hb) (by rw [Wz_size, hs]; kernel_rfl)) <| pal 229 (zr_u64_25) (.agg (zr_u64_25)) fun V1 gw egw h2 kV1 => ?_
 have n3 := nl egw hb
 have n4 := nk egw K0
 have ⟨K6, h5⟩ := kV1.K1 K0 hb
 refine pst 229 gw ((Wz s)) h2 (by rw [Wz_size, hs]; kernel_rfl) (by rw [Wz_size, hs]; rfl) (Wz_one _) fun V7 h8 kV7 => ?_
 have ⟨K10, h9⟩ := kV7.Ko1 K6 h5
 refine eqr_ [0] <| pkq (.int .i64 0) <| et_ <| bl_ 0 ?_
 refine sy_loop (qc82_3 28) (fun a V => ∃ (k : Nat) (u3 u4 u5 u10 u11 u12 u13 u14 u15 u16 u17 u18 u19 u20 u21 u22 u23 u24 u25 u26 u27 u28 u29 u30 u31 u32 u33 u34 u35 u36 u37 u38 : Value), (a = ⟨#[pT b 0, ud, pT gw 0, u3, u4, u5, pT b 0, pT b 0, .agg (Wz s), iN k, u10, u11, u12, u13, u14, u15, u16, u17, u18, u19, u20, u21, u22, u23, u24, u25, u26, u27, u28, u29, u30, u31, u32, u33, u34, u35, u36, u37, u38], []⟩) ∧ (k ≤ 25) ∧ (V.heap[b]? = some (.cells (Wz (stp (fun i => Kec.g s i ^^^ ((Kec.W - 1 - Kec.g s (Kec.at_ (i % 5 + 1) (i / 5))) &&& Kec.g s (Kec.at_ (i % 5 + 2) (i / 5)))) k s)) 229 (0, 0))) ∧ (V.heap[gw]? = some (.cells (Wz s) 229 (0, 0))) ∧ (Keeps (One b) w V)) (fun a _ => 25 - (intOf (a.tmps.getD 9 undef)).toNat) (by kernel_rfl) ?_ ?_
 ·exact ⟨0, undef, undef, undef, undef, undef, undef, undef, undef, undef, undef, undef, undef, undef, undef, undef, undef, undef, undef, undef, undef, undef, undef, undef, undef, undef, undef, undef, undef, undef, undef, undef, undef, by kernel_rfl, by omega, h9, h8, K10⟩
 ·rintro a V11 ⟨k, u3, u4, u5, u10, u11, u12, u13, u14, u15, u16, u17, u18, u19, u20, u21, u22, u23, u24, u25, u26, u27, u28, u29, u30, u31, u32, u33, u34, u35, u36, u37, u38, rfl, hk, h12, h13, K14⟩
  by_cases lt_k : k < 25
  ·have ha1 := Kec.at_lt (k % 5 + 1) (k / 5)
   have ha2 := Kec.at_lt (k % 5 + 2) (k / 5)
   refine qr_ [0] <| ppq (.bool true) (dct ((((k : Nat) : Int)) < ((25) : Int)) (by omega)) <| eq_ <| y_ <| s_ <| tq_ <| bl_ 1 <| qr_ [0, 1] <| pkq (iN k) <| pkq (iN k) <| eqr_ [0, 1, 2, 3, 4, 5] <| pkq (iN k) <| pkq (iN (k % 5)) <| pkq (iN k) ?_
   refine ppq (iN (k / 5)) (exec_cast (congrArg (Value.int .i64) (wrapN (k / 5) (by omega))) (by kernel_rfl)) <| pkq (iN (k % 5)) <| pkq (iN (k / 5)) <| et_ <| sy_reg <| rg_still 5 22 (opsAt (qc82_3 1843)) [qo82_3 1843 0, qo82_3 1843 1, qo82_3 1843 2, qo82_3 1843 3, qo82_3 1843 4, qo82_3 1843 5, qo82_3 1843 6, qo82_3 1843 7, qo82_3 1843 8, qo82_3 1843 9, qo82_3 1843 10, qo82_3 1843 11, qo82_3 1843 12, qo82_3 1843 13, qo82_3 1843 14, qo82_3 1843 15, qo82_3 1843 16, qo82_3 1843 17, qo82_3 1843 18, qo82_3 1843 19, qo82_3 1843 20, qo82_3 1843 21] [qo82_3 1843 22] (by kernel_rfl) (by kernel_rfl) (by kernel_rfl) (by kernel_rfl) (by kernel_rfl) ?_
   obtain ⟨V16, eV16, kV16⟩ := drew_step V11
   rw [eV16]
   clear eV16
   have ⟨K19, h17, h18⟩ := kV16.K2 K14 h12 h13
   refine skq (pT b 0) <| skq (iN k) <| skq (pT b 0) <| spq (pT b k) (exec_cast (v := pT b (0 + k * 1)) (by simp) (exec_indexAt_arr 229 (.tmp 18) (.tmp 17) (by kernel_rfl) b 0 (by kernel_rfl) .i64 k (by kernel_rfl) _ _ 1 Tryz.underlying229 (by kernel_rfl) (by omega))) <| spq (uN (Kec.g s k)) (ldc 26 b k (rc (h17) (Wz_get' _ k _ (by rw [stp_len, hs]; omega) (by rw [stp_get _ _ _ _ (by omega), if_neg (by omega)])))) <| skq (iN (k % 5)) <| spq (iN ((k % 5) + 1)) (exec_cast (congrArg (Value.int .i64) (wrapN ((k % 5) + 1) (by omega))) (by kernel_rfl)) <| skq (iN (k / 5)) <| scq 194 #[iN ((k % 5) + 1), iN (k / 5)] (iN (Kec.at_ ((k % 5) + 1) (k / 5))) Tryz.func194 (kat_as ((k % 5) + 1) (k / 5) (Kec.at_ ((k % 5) + 1) (k / 5)) _ (by omega) (by omega) (rfl)) <| spq (pT gw (Kec.at_ ((k % 5) + 1) (k / 5))) (exec_cast (v := pT gw (0 + (Kec.at_ ((k % 5) + 1) (k / 5)) * 1)) (by simp) (exec_indexAt_arr 229 (.tmp 2) (.tmp 24) (by kernel_rfl) gw 0 (by kernel_rfl) .i64 (Kec.at_ ((k % 5) + 1) (k / 5)) (by kernel_rfl) _ _ 1 Tryz.underlying229 (by kernel_rfl) (by omega))) <| spq (uN (Kec.g s (Kec.at_ ((k % 5) + 1) (k / 5)))) (exec_ld 26 (.tmp 25) gw (Kec.at_ ((k % 5) + 1) (k / 5)) Tryz.underlying26 (rc (h18) (Wz_get _ (Kec.at_ ((k % 5) + 1) (k / 5)) (by rw [hs]; omega)))) <| spq (uN (Kec.W - 1 - (Kec.g s (Kec.at_ ((k % 5) + 1) (k / 5))))) (exec_cast (notU (Kec.g s (Kec.at_ ((k % 5) + 1) (k / 5))) (ws _)) (by kernel_rfl)) <| skq (iN (k % 5)) <| spq (iN ((k % 5) + 2)) (exec_cast (congrArg (Value.int .i64) (wrapN ((k % 5) + 2) (by omega))) (by kernel_rfl)) ?_
   refine skq (iN (k / 5)) <| scq 194 #[iN ((k % 5) + 2), iN (k / 5)] (iN (Kec.at_ ((k % 5) + 2) (k / 5))) Tryz.func194 (kat_as ((k % 5) + 2) (k / 5) (Kec.at_ ((k % 5) + 2) (k / 5)) _ (by omega) (by omega) (rfl)) <| spq (pT gw (Kec.at_ ((k % 5) + 2) (k / 5))) (exec_cast (v := pT gw (0 + (Kec.at_ ((k % 5) + 2) (k / 5)) * 1)) (by simp) (exec_indexAt_arr 229 (.tmp 2) (.tmp 31) (by kernel_rfl) gw 0 (by kernel_rfl) .i64 (Kec.at_ ((k % 5) + 2) (k / 5)) (by kernel_rfl) _ _ 1 Tryz.underlying229 (by kernel_rfl) (by omega))) <| spq (uN (Kec.g s (Kec.at_ ((k % 5) + 2) (k / 5)))) (exec_ld 26 (.tmp 32) gw (Kec.at_ ((k % 5) + 2) (k / 5)) Tryz.underlying26 (rc (h18) (Wz_get _ (Kec.at_ ((k % 5) + 2) (k / 5)) (by rw [hs]; omega)))) <| spq (uN ((Kec.W - 1 - (Kec.g s (Kec.at_ ((k % 5) + 1) (k / 5)))) &&& (Kec.g s (Kec.at_ ((k % 5) + 2) (k / 5))))) (exec_cast (andU (Kec.W - 1 - (Kec.g s (Kec.at_ ((k % 5) + 1) (k / 5)))) (Kec.g s (Kec.at_ ((k % 5) + 2) (k / 5))) (Kec.sub_lt _) (ws _)) (by kernel_rfl)) <| spq (uN ((Kec.g s k) ^^^ ((Kec.W - 1 - (Kec.g s (Kec.at_ ((k % 5) + 1) (k / 5)))) &&& (Kec.g s (Kec.at_ ((k % 5) + 2) (k / 5)))))) (exec_cast (xorU (Kec.g s k) ((Kec.W - 1 - (Kec.g s (Kec.at_ ((k % 5) + 1) (k / 5)))) &&& (Kec.g s (Kec.at_ ((k % 5) + 2) (k / 5)))) (ws _) (Kec.and_lt (ws _))) (by kernel_rfl)) <| skq (pT b 0) <| spq (pT b k) (exec_cast (v := pT b (0 + k * 1)) (by simp) (exec_indexAt_arr 229 (.tmp 36) (.tmp 17) (by kernel_rfl) b 0 (by kernel_rfl) .i64 k (by kernel_rfl) _ _ 1 Tryz.underlying229 (by kernel_rfl) (by omega))) <| st_end ?_
   obtain ⟨V20, eV20, kV20⟩ := cell_step V16 b k (.int .u64 (((Kec.g s k) ^^^ ((Kec.W - 1 - (Kec.g s (Kec.at_ ((k % 5) + 1) (k / 5)))) &&& (Kec.g s (Kec.at_ ((k % 5) + 2) (k / 5)))) : Nat) : Int))
   have h21 : V20.heap[b]? = some (.cells (Wz (stp (fun i => Kec.g s i ^^^ ((Kec.W - 1 - Kec.g s (Kec.at_ (i % 5 + 1) (i / 5))) &&& Kec.g s (Kec.at_ (i % 5 + 2) (i / 5)))) (k + 1) s)) 229 (0, 0)) := eV20 ▸ ((heap_setCell_same _ b k _ _ (.int .u64 (((Kec.g s k) ^^^ ((Kec.W - 1 - (Kec.g s (Kec.at_ ((k % 5) + 1) (k / 5)))) &&& (Kec.g s (Kec.at_ ((k % 5) + 2) (k / 5)))) : Nat) : Int)) h17).trans (congrArg (fun c => some (Obj.cells c 229 (0, 0))) (show (Wz (stp (fun i => Kec.g s i ^^^ ((Kec.W - 1 - Kec.g s (Kec.at_ (i % 5 + 1) (i / 5))) &&& Kec.g s (Kec.at_ (i % 5 + 2) (i / 5)))) k s) : Array Value).setIfInBounds k (.int .u64 (((Kec.g s k) ^^^ ((Kec.W - 1 - (Kec.g s (Kec.at_ ((k % 5) + 1) (k / 5)))) &&& (Kec.g s (Kec.at_ ((k % 5) + 2) (k / 5)))) : Nat) : Int)) = Wz (stp (fun i => Kec.g s i ^^^ ((Kec.W - 1 - Kec.g s (Kec.at_ (i % 5 + 1) (i / 5))) &&& Kec.g s (Kec.at_ (i % 5 + 2) (i / 5)))) (k + 1) s) from by rw [Wz_set]; exact congrArg Wz (by rw [stp_succ] <;> rfl))))
   refine ls_skip (qo82_3 1843 22) (w' := V20) (by kernel_rfl) (by rw [← eV20]; exact exec_store_cell 26 (.tmp 37) (.tmp 35) (by kernel_rfl) b k (by kernel_rfl) (.int .u64 (((Kec.g s k) ^^^ ((Kec.W - 1 - (Kec.g s (Kec.at_ ((k % 5) + 1) (k / 5)))) &&& (Kec.g s (Kec.at_ ((k % 5) + 2) (k / 5)))) : Nat) : Int)) (by kernel_rfl) (by kernel_rfl) (by kernel_rfl) (.int .u64 ((Kec.g s k : Nat) : Int)) (rc (h17) (Wz_get' _ k _ (by rw [stp_len, hs]; omega) (by rw [stp_get _ _ _ _ (by omega), if_neg (by omega)]))) (frozen_of_row _ _ _ _ _ h17) (by kernel_rfl)) ?_
   clear eV20
   have h22 := kV20.bO h18
   have K23 : Keeps (One b) w V20 := K19.then kV20 (fun i hi hm => by unfold Own.One at hm; subst hm; exact rfl)
   refine ls_end <| sy_a ⟨#[pT b 0, ud, pT gw 0, iN k, iN (k % 5), iN (k / 5), pT b 0, pT b 0, .agg (Wz s), iN k, .bool true, iN k, iN k, iN (k % 5), iN k, iN (k / 5), pT b 0, iN k, pT b 0, pT b k, uN (Kec.g s k), iN (k % 5), iN ((k % 5) + 1), iN (k / 5), iN (Kec.at_ ((k % 5) + 1) (k / 5)), pT gw (Kec.at_ ((k % 5) + 1) (k / 5)), uN (Kec.g s (Kec.at_ ((k % 5) + 1) (k / 5))), uN (Kec.W - 1 - (Kec.g s (Kec.at_ ((k % 5) + 1) (k / 5)))), iN (k % 5), iN ((k % 5) + 2), iN (k / 5), iN (Kec.at_ ((k % 5) + 2) (k / 5)), pT gw (Kec.at_ ((k % 5) + 2) (k / 5)), uN (Kec.g s (Kec.at_ ((k % 5) + 2) (k / 5))), uN ((Kec.W - 1 - (Kec.g s (Kec.at_ ((k % 5) + 1) (k / 5)))) &&& (Kec.g s (Kec.at_ ((k % 5) + 2) (k / 5)))), uN ((Kec.g s k) ^^^ ((Kec.W - 1 - (Kec.g s (Kec.at_ ((k % 5) + 1) (k / 5)))) &&& (Kec.g s (Kec.at_ ((k % 5) + 2) (k / 5))))), pT b 0, pT b k, u38], []⟩ <| blk_n <| tr_ [0, 1] <| ppq (iN (k + 1)) (exec_cast (congrArg (Value.int .i64) (wrapN (k + 1) (by omega))) (by kernel_rfl)) <| pkq (iN (k + 1)) <| et_ ?_
   refine ⟨⟨k + 1, (iN k), (iN (k % 5)), (iN (k / 5)), (.bool true), (iN k), (iN k), (iN (k % 5)), (iN k), (iN (k / 5)), (pT b 0), (iN k), (pT b 0), (pT b k), (uN (Kec.g s k)), (iN (k % 5)), (iN ((k % 5) + 1)), (iN (k / 5)), (iN (Kec.at_ ((k % 5) + 1) (k / 5))), (pT gw (Kec.at_ ((k % 5) + 1) (k / 5))), (uN (Kec.g s (Kec.at_ ((k % 5) + 1) (k / 5)))), (uN (Kec.W - 1 - (Kec.g s (Kec.at_ ((k % 5) + 1) (k / 5))))), (iN (k % 5)), (iN ((k % 5) + 2)), (iN (k / 5)), (iN (Kec.at_ ((k % 5) + 2) (k / 5))), (pT gw (Kec.at_ ((k % 5) + 2) (k / 5))), (uN (Kec.g s (Kec.at_ ((k % 5) + 2) (k / 5)))), (uN ((Kec.W - 1 - (Kec.g s (Kec.at_ ((k % 5) + 1) (k / 5)))) &&& (Kec.g s (Kec.at_ ((k % 5) + 2) (k / 5))))), (uN ((Kec.g s k) ^^^ ((Kec.W - 1 - (Kec.g s (Kec.at_ ((k % 5) + 1) (k / 5)))) &&& (Kec.g s (Kec.at_ ((k % 5) + 2) (k / 5)))))), (pT b 0), (pT b k), (iN (k + 1)), by kernel_rfl, by omega, h21, h22, K23⟩, ?_⟩
   exact lt_meas (x := 25 - (k + 1)) (y := 25 - k) (by kernel_rfl) (by kernel_rfl) (by omega)
  ·have eq_k : k = 25 := by omega
   refine qr_ [0] <| ppq (.bool false) (dcf ((((k : Nat) : Int)) < ((25) : Int)) (by omega)) <| eq_ <| n_ <| sy_exit 0 (by kernel_rfl) <| then_e <| then_e <| blk_e <| sy_fall (.tuple #[]) rfl (by kernel_rfl) ?_
   exact ⟨rfl, h12.trans (by rw [eq_k, stp_all _ _ 25 hs]; rfl), K14⟩
end Go.Proofs.YthmclmbeflbhhaaGreat
