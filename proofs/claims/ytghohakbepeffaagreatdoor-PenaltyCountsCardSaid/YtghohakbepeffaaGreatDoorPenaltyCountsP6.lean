/-
  PenaltyCounts proved: for every input the law returns true, and each argument reads as it did. Conditions: none.
-/
import Derived.Test.YtghohakbepeffaaGreatDoorPenaltyCountsP5
namespace Go.Proofs.YtghohakbepeffaaGreatDoor
set_option maxRecDepth 100000
set_option maxHeartbeats 4000000
open Go Go.RowKit Go.Own Go.Shelf
theorem nfault_guard : Tryz.prog.eqGuardType Tryz.prog.depth 31 = false := by kernel_rfl
theorem nfault_equal (x y a b : Int) (w : World) : (Op.equalIn 10000 31 (.agg #[.int .i64 x, .int .i64 y]) (.agg #[.int .i64 a, .int .i64 b])).run Tryz.prog w = .ok (decide (x = a ∧ y = b)) w := by
  rw [run_equalIn_struct w 9999 31 _ _ (by kernel_rfl) (by kernel_rfl)]
  simp only [Program.fieldsOf, Tryz.underlying31]
  rw [nq_int (d := 9998) (k := .i64) (a := x) (b := a) w (by decide) Tryz.underlying27 (by kernel_rfl) rfl rfl, nq_int (d := 9998) (k := .i64) (a := y) (b := b) w (by decide) Tryz.underlying3 (by kernel_rfl) rfl rfl]
  simp only [Op.eqFields, Sem.run_pure]
  by_cases h0 : x = a
  · by_cases h1 : y = b <;> simp [h0, h1]
  · simp [h0]
theorem nfault_eq (x y a b : Int) (w : World) : (binOp .eql 31 (.agg #[.int .i64 x, .int .i64 y]) (.agg #[.int .i64 a, .int .i64 b])).run Tryz.prog w = .ok (.bool (decide (x = a ∧ y = b))) w := by rw [run_eql_struct, nfault_equal]; rfl
theorem bytes_lit {w : World} {g n cap : Nat} {cs : Array Value} {T : TypeId} (l : List UInt8) (h : w.heap[g]? = some (.cells cs T (0, 0))) (hc : cs = (B l).toArray) (hn : n = l.length) (hcap : cap = l.length) (hm : l.length ≤ maxLen) : BytesAt w (.slice (some ⟨g, 0, none⟩) n cap) l := by
  subst hn; subst hcap
  exact ⟨⟨_, _, rfl, Nat.le_refl _, hm, fun h => by cases h⟩, fun k x hx => ⟨g, 0, _, rfl, lt_of_block h, by rw [Nat.zero_add]; exact rc h (by rw [hc, List.getElem?_toArray]; simp only [B, List.getElem?_map, hx, Option.map_some])⟩⟩
theorem nsame_bytes {w : World} {a b : Value} {l m : List UInt8} (r : Bool) (ha : BytesAt w a l) (hb : BytesAt w b m) (he : (l == m) = r) : Calls Tryz.prog 15 #[a, b] w fun e w' => e = .returned (.bool r) ∧ w = w' := he ▸ sameBytes_ok a b l m w ha hb
theorem nadd_is {l : List Nt} {x : Nt} {er : Int} {args : Array Value} {w : World} (h1 : (nadd l x).2 = er) (h : Calls Tryz.prog 56 args w (fun e w' => ∃ X, e = .returned (.tuple #[X, .int .i64 (nadd l x).2]) ∧ Row w' 46 2 X ((nadd l x).1).length (((nadd l x).1).flatMap Nt.cl) ∧ NewFrom w.heap.size X ∧ Keeps Nob w w')) : Calls Tryz.prog 56 args w (fun e w' => ∃ X, e = .returned (.tuple #[X, .int .i64 er]) ∧ Row w' 46 2 X ((nadd l x).1).length (((nadd l x).1).flatMap Nt.cl) ∧ NewFrom w.heap.size X ∧ Keeps Nob w w') := h1 ▸ h
noncomputable def qc78_2 (n : Nat) : Code := partOf Tryz.f23 n
theorem lnadds_ok (h : Int) (s : Nat) (er : Int) (her : (nadd ntwo ⟨h, s⟩).2 = er) (w : World) (het : ErrTab w) :
    Calls Tryz.prog 23 #[.int .i64 h, .int .u64 ((s : Nat) : Int)] w (fun e w' => e = .returned (.int .i64 er) ∧ Keeps Nob w w') := by
  have K0 : Keeps Nob w w := Keeps.refl _ _
  refine sy_enter (qc78_2 1) ⟨#[.int .i64 h, uN s, ud, ud, ud, ud, ud, ud, ud, ud, ud, ud, ud, ud, ud, ud], []⟩ Tryz.func23 (by kernel_rfl) (by kernel_rfl) <| qr_ [0] <| pkq (.int .i64 0) <| eqr_ [0, 1, 2, 3, 4, 5, 6, 7, 8, 9] ?_
  refine pcq 21 #[] Tryz.func21 ((lntwo_ok _).mono ?_)
  rintro e V1 ⟨ga, rfl, h2, nga, kV1⟩
  refine ⟨_, rfl, ?_⟩
  have K3 := K0.nn kV1
  have z4 := kV1.size
  refine pkq (.int .i64 h) <| pkq (uN s) <| pkq (.agg #[.int .i64 h, uN s]) ?_
  refine pcq 56 #[.slice (some ⟨ga, 0, none⟩) 2 2, .agg #[.int .i64 h, uN s]] Tryz.func56 ((nadd_is her (nAdd_all ntwo ⟨h, s⟩ _ _ (two_all h2) (ErrTab.keeps het K3))).mono ?_)
  rintro e V5 ⟨X, rfl, hX, hXn, kV5⟩
  refine ⟨_, rfl, ?_⟩
  have K7 := K3.nn kV5
  have z8 := kV5.size
  refine pkq (.tuple #[X, .int .i64 er]) <| pkq (X) <| pkq (.int .i64 er) <| pkq (X) <| pkq (.int .i64 er) <| eqr_ [0, 1] <| pkq (.int .i64 er) <| pkq (.int .i64 er) <| eu_ <| so_ (.int .i64 er) ?_
  exact ⟨rfl, K7⟩
theorem nread_is {l : List UInt8} {fe fp : Int} {args : Array Value} {w : World} (h1 : (nread l).2.1 = fe) (h2 : (nread l).2.2 = fp) (h : Calls Tryz.prog 13 args w (fun e w' => ∃ X, e = .returned (.tuple #[X, .agg #[.int .i64 (nread l).2.1, .int .i64 (nread l).2.2]]) ∧ Row w' 46 2 X (nread l).1.length ((nread l).1.flatMap Nt.cl) ∧ NewFrom w.heap.size X ∧ Keeps Nob w w')) : Calls Tryz.prog 13 args w (fun e w' => ∃ X, e = .returned (.tuple #[X, .agg #[.int .i64 fe, .int .i64 fp]]) ∧ Row w' 46 2 X (nread l).1.length ((nread l).1.flatMap Nt.cl) ∧ NewFrom w.heap.size X ∧ Keeps Nob w w') := h1 ▸ h2 ▸ h
theorem ncheck_is2 (l : List Nt) (v : Value) (x y : Int) (w : World) (hl : Sl w 2 Nt.cl v l) (het : ErrTab w) (hx : ncheck l = (x, y)) : Calls Tryz.prog 22 #[v] w (fun e w' => e = .returned (.tuple #[.int .i64 x, .int .i64 y]) ∧ Keeps Nob w w') := by have h := nCheck_ok l v w hl het; rw [hx] at h; exact h
noncomputable def qc78_1 (n : Nat) : Code := partOf Tryz.f24 n
theorem lnreads_ok (v0 : Value) (l : List UInt8) (fe fp : Int) (hr1 : (nread l).2.1 = fe) (hr2 : (nread l).2.2 = fp) (w : World) (hx : BytesAt w v0 l) (hl : l.length ≤ 100000000) :
    Calls Tryz.prog 24 #[v0] w (fun e w' => e = .returned (.agg #[.int .i64 fe, .int .i64 fp]) ∧ Keeps Nob w w') := by
  have K0 : Keeps Nob w w := Keeps.refl _ _
  refine sy_enter (qc78_1 1) ⟨#[v0, ud, ud, ud, ud, ud, ud, ud, ud, ud, ud], []⟩ Tryz.func24 (by kernel_rfl) (by kernel_rfl) <| qr_ [0] <| pal 31 (#[.int .i64 0, .int .i64 0]) (.agg (#[.int .i64 0, .int .i64 0])) fun V1 r2 er2 h2 kV1 => ?_
  have n3 : w.heap.size ≤ r2 := er2 ▸ K0.size
  have K4 := K0.nn kV1
  have z5 := kV1.size
  refine eqr_ [0, 1, 2, 3, 4, 5, 6, 7] <| pkq (v0) ?_
  refine pcq 13 #[v0] Tryz.func13 ((nread_is hr1 hr2 (nRead_ok v0 l _ (hx.keepsN K4) hl)).mono ?_)
  rintro e V6 ⟨X, rfl, hX, hXn, kV6⟩
  refine ⟨_, rfl, ?_⟩
  have h7 := kV6.bk h2
  have K8 := K4.nn kV6
  have z9 := kV6.size
  refine pkq (.tuple #[X, .agg #[.int .i64 fe, .int .i64 fp]]) <| pkq (X) <| pkq (.agg #[.int .i64 fe, .int .i64 fp]) <| pal 31 (#[.int .i64 0, .int .i64 0]) (.agg (#[.int .i64 0, .int .i64 0])) fun V10 gf egf h11 kV10 => ?_
  have n12 : r2 < gf := egf ▸ lt_of_block h7
  have n13 : w.heap.size ≤ gf := egf ▸ K8.size
  have h14 := kV10.bk h7
  have K15 := K8.nn kV10
  have z16 := kV10.size
  refine pkq (X) <| pst 31 gf (#[.int .i64 fe, .int .i64 fp]) h11 (by kernel_rfl) rfl (by kernel_rfl) fun V17 h18 kV17 => ?_
  have h19 := kV17.bO h14
  have K20 := K15.nO kV17
  have z21 := kV17.size
  refine eqr_ [0, 1] <| ppq (.agg #[.int .i64 fe, .int .i64 fp]) (ldr 31 gf (h18) (by kernel_rfl)) <| pst 31 r2 (#[.int .i64 fe, .int .i64 fp]) h19 (by kernel_rfl) rfl (by kernel_rfl) fun V22 h23 kV22 => ?_
  have K25 := K20.nO kV22
  have z26 := kV22.size
  refine eu_ <| sy_out (.agg (#[.int .i64 fe, .int .i64 fp])) rfl (results_cell_row (p := 2) (ty := 31) (by kernel_rfl) _ _ r2 31 (#[.int .i64 fe, .int .i64 fp]) (0, 0) _ (by kernel_rfl) h23 Tryz.underlying31 rfl (by kernel_rfl)) ?_
  exact ⟨rfl, K25⟩
theorem nbytes_is2 {l : List Nt} {bs : List UInt8} {er : Int} {args : Array Value} {w : World} (h1 : nbytes l = (bs, er)) (h : Calls Tryz.prog 11 args w (fun e w' => ∃ X, e = .returned (.tuple #[X, .int .i64 (nbytes l).2]) ∧ Row w' 5 1 X (nbytes l).1.length (B (nbytes l).1) ∧ NewFrom w.heap.size X ∧ Keeps Nob w w')) : Calls Tryz.prog 11 args w (fun e w' => ∃ X, e = .returned (.tuple #[X, .int .i64 er]) ∧ Row w' 5 1 X bs.length (B bs) ∧ NewFrom w.heap.size X ∧ Keeps Nob w w') := by rw [h1] at h; exact h
noncomputable def qc78_0 (n : Nat) : Code := partOf Tryz.f4 n
theorem known_ok (w : World) (het : ErrTab w) :
    Calls Tryz.prog 4 #[] w (fun e w' => e = .returned (.bool true) ∧ Keeps Nob w w') := by
  have K0 : Keeps Nob w w := Keeps.refl _ _
  refine sy_enter (qc78_0 1) ⟨#[ud, ud, ud, ud, ud, ud, ud, ud, ud, ud, ud, ud, ud, ud, ud, ud, ud, ud, ud, ud, ud, ud, ud, ud, ud, ud, ud, ud, ud, ud, ud, ud, ud, ud, ud, ud, ud, ud, ud, ud, ud, ud, ud, ud, ud, ud, ud, ud, ud, ud, ud, ud, ud, ud, ud, ud, ud, ud, ud, ud, ud, ud, ud, ud, ud, ud, ud, ud, ud, ud, ud, ud, ud, ud, ud, ud, ud, ud, ud, ud, ud, ud, ud, ud, ud, ud, ud, ud, ud, ud, ud, ud, ud, ud, ud, ud, ud, ud, ud, ud, ud, ud, ud, ud, ud, ud, ud, ud], []⟩ Tryz.func4 (by kernel_rfl) (by kernel_rfl) <| qr_ [0] <| pkq (.bool false) <| eqr_ [0, 1, 2, 3, 4, 5, 6, 7, 8, 9, 10, 11, 12, 13, 14, 15, 16, 17, 18] ?_
  refine pcq 18 #[.int .i64 9, .int .i64 0, .int .i64 0] Tryz.func18 ((lnlive_c _ (ErrTab.keeps het K0)).mono ?_)
  rintro e V1 ⟨rfl, kV1⟩
  refine ⟨_, rfl, ?_⟩
  have K2 := K0.nn kV1
  have z3 := kV1.size
  refine pkq (.bool true) ?_
  refine pcq 19 #[.int .i64 90, .int .u64 0] Tryz.func19 ((lnnoted_ok 90 0 (by unfold i64ok; omega) (by decide) (by decide) _ (ErrTab.keeps het K2)).mono ?_)
  rintro e V4 ⟨rfl, kV4⟩
  refine ⟨_, rfl, ?_⟩
  have K5 := K2.nn kV4
  have z6 := kV4.size
  refine pkq (.bool true) <| pkq (.bool true) ?_
  refine pcq 21 #[] Tryz.func21 ((lntwo_ok _).mono ?_)
  rintro e V7 ⟨ga, rfl, h8, nga, kV7⟩
  refine ⟨_, rfl, ?_⟩
  have K9 := K5.nn kV7
  have z10 := kV7.size
  refine pcq 20 #[.slice (some ⟨ga, 0, none⟩) 2 2, .int .i64 59, .int .u64 0, .int .u64 0, .int .u64 50000000, .int .i64 0] Tryz.func20 ((lncut_ok ntwo _ 59 0 0 50000000 0 (by unfold i64ok; omega) (by decide) (by decide) (by decide) _ (two_all h8) (ErrTab.keeps het K9)).mono ?_)
  rintro e V11 ⟨rfl, kV11⟩
  refine ⟨_, rfl, ?_⟩
  have h12 := kV11.bk h8
  have K13 := K9.nn kV11
  have z14 := kV11.size
  refine pkq (.bool true) <| pkq (.bool true) ?_
  refine pcq 20 #[.slice none 0 0, .int .i64 1, .int .u64 1, .int .u64 7, .int .u64 478571428, .int .i64 0] Tryz.func20 ((lncut_ok [] _ 1 1 7 478571428 0 (by unfold i64ok; omega) (by decide) (by decide) (by decide) _ (Sl.nil _ _ _) (ErrTab.keeps het K13)).mono ?_)
  rintro e V15 ⟨rfl, kV15⟩
  refine ⟨_, rfl, ?_⟩
  have h16 := kV15.bk h12
  have K17 := K13.nn kV15
  have z18 := kV15.size
  refine pkq (.bool true) <| pkq (.bool true) ?_
  refine pcq 20 #[.slice none 0 0, .int .i64 1, .int .u64 4611686018427387905, .int .u64 1, .int .u64 0, .int .i64 12] Tryz.func20 ((lncut_ok [] _ 1 4611686018427387905 1 0 12 (by unfold i64ok; omega) (by decide) (by decide) (by decide) _ (Sl.nil _ _ _) (ErrTab.keeps het K17)).mono ?_)
  rintro e V19 ⟨rfl, kV19⟩
  refine ⟨_, rfl, ?_⟩
  have h20 := kV19.bk h16
  have K21 := K17.nn kV19
  have z22 := kV19.size
  refine pkq (.bool true) <| pkq (.bool true) ?_
  refine pcq 21 #[] Tryz.func21 ((lntwo_ok _).mono ?_)
  rintro e V23 ⟨gb, rfl, h24, ngb, kV23⟩
  refine ⟨_, rfl, ?_⟩
  have h25 := kV23.bk h20
  have K26 := K21.nn kV23
  have z27 := kV23.size
  refine pcq 20 #[.slice (some ⟨gb, 0, none⟩) 2 2, .int .i64 0, .int .u64 1, .int .u64 1, .int .u64 0, .int .i64 3] Tryz.func20 ((lncut_ok ntwo _ 0 1 1 0 3 (by unfold i64ok; omega) (by decide) (by decide) (by decide) _ (two_all h24) (ErrTab.keeps het K26)).mono ?_)
  rintro e V28 ⟨rfl, kV28⟩
  refine ⟨_, rfl, ?_⟩
  have h29 := kV28.bk h25
  have h30 := kV28.bk h24
  have K31 := K26.nn kV28
  have z32 := kV28.size
  refine pkq (.bool true) <| pkq (.bool true) <| eqr_ [0, 1, 2, 3, 4, 5, 6, 7, 8] <| pkq (.agg #[.int .i64 10, .int .u64 1]) <| pkq (.agg #[.int .i64 9, .int .u64 1]) ?_
  obtain ⟨V33, eV33, qa, eqa, h34, kV33⟩ := alloc_step V28 #[.int .i64 10, .int .u64 1, .int .i64 9, .int .u64 1] 46
  have n35 : ga < qa := eqa ▸ lt_of_block h29
  have n36 : gb < qa := eqa ▸ lt_of_block h30
  have n37 : w.heap.size ≤ qa := eqa ▸ K31.size
  refine prq (.slice (some ⟨qa, 0, none⟩) 2 2) (w' := V33) (by rw [← eV33, ← eqa]; kernel_rfl) ?_
  clear eV33
  have h38 : V33.heap[qa]? = some (.cells ((([⟨10, 1⟩, ⟨9, 1⟩] : List Nt).flatMap Nt.cl).toArray) 46 (0, 0)) := h34
  have h39 := kV33.bk h29
  have h40 := kV33.bk h30
  have K41 := K31.nn kV33
  have z42 := kV33.size
  refine pcq 22 #[.slice (some ⟨qa, 0, none⟩) 2 2] Tryz.func22 ((ncheck_is2 [⟨10, 1⟩, ⟨9, 1⟩] _ 9 1 _ (notes_block (xs := [⟨10, 1⟩, ⟨9, 1⟩]) h38 rfl (by decide) (by decide)) (ErrTab.keeps het K41) (by decide)).mono ?_)
  rintro e V43 ⟨rfl, kV43⟩
  refine ⟨_, rfl, ?_⟩
  have h44 := kV43.bk h39
  have h45 := kV43.bk h40
  have h46 := kV43.bk h38
  have K47 := K41.nn kV43
  have z48 := kV43.size
  refine pkq (.tuple #[.int .i64 9, .int .i64 1]) <| pkq (.int .i64 9) <| pkq (.int .i64 1) <| pkq (.int .i64 9) <| pkq (.int .i64 1) <| ps_end <| sy_a ⟨#[.bool false, .bool true, .int .i64 9, .int .i64 1, ud, ud, ud, ud, ud, ud, .bool true, .bool true, .bool true, .bool true, .bool true, .slice (some ⟨ga, 0, none⟩) 2 2, .bool true, .bool true, .bool true, .bool true, .bool true, .bool true, .bool true, .bool true, .bool true, .slice (some ⟨gb, 0, none⟩) 2 2, .bool true, .bool true, .tuple #[.int .i64 9, .int .i64 1], .agg #[.int .i64 10, .int .u64 1], .agg #[.int .i64 9, .int .u64 1], .slice (some ⟨qa, 0, none⟩) 2 2, .tuple #[.int .i64 9, .int .i64 1], .int .i64 9, .int .i64 1, ud, ud, ud, ud, ud, ud, ud, ud, ud, ud, ud, ud, ud, ud, ud, ud, ud, ud, ud, ud, ud, ud, ud, ud, ud, ud, ud, ud, ud, ud, ud, ud, ud, ud, ud, ud, ud, ud, ud, ud, ud, ud, ud, ud, ud, ud, ud, ud, ud, ud, ud, ud, ud, ud, ud, ud, ud, ud, ud, ud, ud, ud, ud, ud, ud, ud, ud, ud, ud, ud, ud, ud, ud], []⟩ <| tqr_ [0, 1, 2, 3, 4, 5, 6, 7, 8] <| pkq (.agg #[.int .i64 0, .int .u64 1]) <| pkq (.agg #[.int .i64 0, .int .u64 1]) ?_
  obtain ⟨V49, eV49, qb, eqb, h50, kV49⟩ := alloc_step V43 #[.int .i64 0, .int .u64 1, .int .i64 0, .int .u64 1] 46
  have n51 : ga < qb := eqb ▸ lt_of_block h44
  have n52 : gb < qb := eqb ▸ lt_of_block h45
  have n53 : qa < qb := eqb ▸ lt_of_block h46
  have n54 : w.heap.size ≤ qb := eqb ▸ K47.size
  refine prq (.slice (some ⟨qb, 0, none⟩) 2 2) (w' := V49) (by rw [← eV49, ← eqb]; kernel_rfl) ?_
  clear eV49
  have h55 : V49.heap[qb]? = some (.cells ((([⟨0, 1⟩, ⟨0, 1⟩] : List Nt).flatMap Nt.cl).toArray) 46 (0, 0)) := h50
  have h56 := kV49.bk h44
  have h57 := kV49.bk h45
  have h58 := kV49.bk h46
  have K59 := K47.nn kV49
  have z60 := kV49.size
  refine pcq 22 #[.slice (some ⟨qb, 0, none⟩) 2 2] Tryz.func22 ((ncheck_is2 [⟨0, 1⟩, ⟨0, 1⟩] _ 3 0 _ (notes_block (xs := [⟨0, 1⟩, ⟨0, 1⟩]) h55 rfl (by decide) (by decide)) (ErrTab.keeps het K59) (by decide)).mono ?_)
  rintro e V61 ⟨rfl, kV61⟩
  refine ⟨_, rfl, ?_⟩
  have h62 := kV61.bk h56
  have h63 := kV61.bk h57
  have h64 := kV61.bk h58
  have h65 := kV61.bk h55
  have K66 := K59.nn kV61
  have z67 := kV61.size
  refine pkq (.tuple #[.int .i64 3, .int .i64 0]) <| pkq (.int .i64 3) <| pkq (.int .i64 0) <| pkq (.int .i64 3) <| pkq (.int .i64 0) <| eqr_ [0, 1, 2, 3, 4, 5, 6, 7, 8, 9, 10, 11, 12, 13, 14, 15, 16, 17, 18, 19, 20, 21, 22, 23, 24, 25, 26] <| pkq (.int .i64 9) <| pkq (.bool true) <| pkq (.bool true) <| pkq (.int .i64 1) <| pkq (.bool true) <| pkq (.bool true) <| pkq (.bool true) <| pkq (.int .i64 3) ?_
  refine pkq (.bool true) <| pkq (.bool true) <| pkq (.bool true) <| pkq (.int .i64 0) <| pkq (.bool true) <| pkq (.bool true) <| pkq (.bool true) ?_
  refine pcq 23 #[.int .i64 40, .int .u64 4611686018427387904] Tryz.func23 ((lnadds_ok 40 4611686018427387904 0 (by decide) _ (ErrTab.keeps het K66)).mono ?_)
  rintro e V68 ⟨rfl, kV68⟩
  refine ⟨_, rfl, ?_⟩
  have h69 := kV68.bk h62
  have h70 := kV68.bk h63
  have h71 := kV68.bk h64
  have h72 := kV68.bk h65
  have K73 := K66.nn kV68
  have z74 := kV68.size
  refine pkq (.bool true) <| pkq (.bool true) <| pkq (.bool true) ?_
  refine pcq 23 #[.int .i64 39, .int .u64 1] Tryz.func23 ((lnadds_ok 39 1 9 (by decide) _ (ErrTab.keeps het K73)).mono ?_)
  rintro e V75 ⟨rfl, kV75⟩
  refine ⟨_, rfl, ?_⟩
  have h76 := kV75.bk h69
  have h77 := kV75.bk h70
  have h78 := kV75.bk h71
  have h79 := kV75.bk h72
  have K80 := K73.nn kV75
  have z81 := kV75.size
  refine pkq (.bool true) <| pkq (.bool true) <| pkq (.bool true) ?_
  refine pcq 23 #[.int .i64 41, .int .u64 4611686018427387905] Tryz.func23 ((lnadds_ok 41 4611686018427387905 3 (by decide) _ (ErrTab.keeps het K80)).mono ?_)
  rintro e V82 ⟨rfl, kV82⟩
  refine ⟨_, rfl, ?_⟩
  have h83 := kV82.bk h76
  have h84 := kV82.bk h77
  have h85 := kV82.bk h78
  have h86 := kV82.bk h79
  have K87 := K80.nn kV82
  have z88 := kV82.size
  refine pkq (.bool true) <| pkq (.bool true) <| pkq (.bool true) <| ps_end <| sy_a ⟨#[.bool false, .bool true, .int .i64 9, .int .i64 1, .int .i64 3, .int .i64 0, .bool true, ud, ud, ud, .bool true, .bool true, .bool true, .bool true, .bool true, .slice (some ⟨ga, 0, none⟩) 2 2, .bool true, .bool true, .bool true, .bool true, .bool true, .bool true, .bool true, .bool true, .bool true, .slice (some ⟨gb, 0, none⟩) 2 2, .bool true, .bool true, .tuple #[.int .i64 9, .int .i64 1], .agg #[.int .i64 10, .int .u64 1], .agg #[.int .i64 9, .int .u64 1], .slice (some ⟨qa, 0, none⟩) 2 2, .tuple #[.int .i64 9, .int .i64 1], .int .i64 9, .int .i64 1, .tuple #[.int .i64 3, .int .i64 0], .agg #[.int .i64 0, .int .u64 1], .agg #[.int .i64 0, .int .u64 1], .slice (some ⟨qb, 0, none⟩) 2 2, .tuple #[.int .i64 3, .int .i64 0], .int .i64 3, .int .i64 0, .int .i64 9, .bool true, .bool true, .int .i64 1, .bool true, .bool true, .bool true, .int .i64 3, .bool true, .bool true, .bool true, .int .i64 0, .bool true, .bool true, .bool true, .int .i64 0, .bool true, .bool true, .bool true, .int .i64 9, .bool true, .bool true, .bool true, .int .i64 3, .bool true, .bool true, ud, ud, ud, ud, ud, ud, ud, ud, ud, ud, ud, ud, ud, ud, ud, ud, ud, ud, ud, ud, ud, ud, ud, ud, ud, ud, ud, ud, ud, ud, ud, ud, ud, ud, ud, ud, ud, ud, ud, ud], []⟩ <| tqr_ [0, 1, 2, 3, 4, 5, 6] ?_
  refine pcq 21 #[] Tryz.func21 ((lntwo_ok _).mono ?_)
  rintro e V89 ⟨gd, rfl, h90, ngd, kV89⟩
  refine ⟨_, rfl, ?_⟩
  have h91 := kV89.bk h83
  have h92 := kV89.bk h84
  have h93 := kV89.bk h85
  have h94 := kV89.bk h86
  have K95 := K87.nn kV89
  have z96 := kV89.size
  refine pcq 11 #[.slice (some ⟨gd, 0, none⟩) 2 2] Tryz.func11 ((nbytes_is2 (bs := [2, 10, 100, 40, 200, 1]) (er := 0) (by decide +kernel) (nBytes_all ntwo _ _ (two_all h90) (ErrTab.keeps het K95))).mono ?_)
  rintro e V97 ⟨X, rfl, hX, hXn, kV97⟩
  refine ⟨_, rfl, ?_⟩
  have h98 := kV97.bk h91
  have h99 := kV97.bk h92
  have h100 := kV97.bk h93
  have h101 := kV97.bk h94
  have h102 := kV97.bk h90
  have K103 := K95.nn kV97
  have z104 := kV97.size
  refine pkq (.tuple #[X, .int .i64 0]) <| pkq (X) <| pkq (.int .i64 0) <| pkq (X) <| pkq (.int .i64 0) <| eqr_ [0, 1, 2, 3, 4, 5, 6, 7, 8, 9, 10, 11, 12, 13, 14, 15, 16, 17, 18, 19, 20, 21, 22, 23, 24, 25] <| pkq (.int .i64 0) <| pkq (.bool true) <| pkq (.bool true) <| pkq (X) ?_
  obtain ⟨V105, eV105, y1, ey1, h106, kV105⟩ := alloc_step V97 (#[.int .u8 2, .int .u8 10, .int .u8 100, .int .u8 40, .int .u8 200, .int .u8 1]) 5
  have n107 : ga < y1 := ey1 ▸ lt_of_block h98
  have n108 : gb < y1 := ey1 ▸ lt_of_block h99
  have n109 : qa < y1 := ey1 ▸ lt_of_block h100
  have n110 : qb < y1 := ey1 ▸ lt_of_block h101
  have n111 : gd < y1 := ey1 ▸ lt_of_block h102
  have n112 : w.heap.size ≤ y1 := ey1 ▸ K103.size
  refine prq (.slice (some ⟨y1, 0, none⟩) 6 6) (w' := V105) (by rw [← eV105, ← ey1]; kernel_rfl) ?_
  have h113 := kV105.bk h98
  have h114 := kV105.bk h99
  have h115 := kV105.bk h100
  have h116 := kV105.bk h101
  have h117 := kV105.bk h102
  have h118 : Row V105 5 1 X 6 (B [2, 10, 100, 40, 200, 1]) := hX.keeps kV105 (fun _ _ x => x)
  have K119 := K103.nn kV105
  have z120 := kV105.size
  refine pcq 15 #[X, .slice (some ⟨y1, 0, none⟩) 6 6] Tryz.func15 ((nsame_bytes true (Row.bytes (l := [2, 10, 100, 40, 200, 1]) h118) (bytes_lit [2, 10, 100, 40, 200, 1] h106 (by kernel_rfl) rfl rfl (by decide)) (by decide)).mono ?_)
  rintro e w1 ⟨rfl, rfl⟩
  refine ⟨_, rfl, ?_⟩
  refine pkq (.bool true) <| pkq (.bool true) ?_
  obtain ⟨V121, eV121, y2, ey2, h122, kV121⟩ := alloc_step V105 (#[.int .u8 1, .int .u8 0]) 5
  have n123 : ga < y2 := ey2 ▸ lt_of_block h113
  have n124 : gb < y2 := ey2 ▸ lt_of_block h114
  have n125 : qa < y2 := ey2 ▸ lt_of_block h115
  have n126 : qb < y2 := ey2 ▸ lt_of_block h116
  have n127 : gd < y2 := ey2 ▸ lt_of_block h117
  have n128 : y1 < y2 := ey2 ▸ lt_of_block h106
  have n129 : w.heap.size ≤ y2 := ey2 ▸ K119.size
  refine prq (.slice (some ⟨y2, 0, none⟩) 2 2) (w' := V121) (by rw [← eV121, ← ey2]; kernel_rfl) ?_
  have h130 := kV121.bk h113
  have h131 := kV121.bk h114
  have h132 := kV121.bk h115
  have h133 := kV121.bk h116
  have h134 := kV121.bk h117
  have h136 := kV121.bk h106
  have K137 := K119.nn kV121
  have z138 := kV121.size
  refine pcq 24 #[.slice (some ⟨y2, 0, none⟩) 2 2] Tryz.func24 ((lnreads_ok _ [1, 0] 3 1 (by decide +kernel) (by decide +kernel) _ (bytes_lit [1, 0] h122 (by kernel_rfl) rfl rfl (by decide)) (by decide)).mono ?_)
  rintro e V139 ⟨rfl, kV139⟩
  refine ⟨_, rfl, ?_⟩
  have h140 := kV139.bk h130
  have h141 := kV139.bk h131
  have h142 := kV139.bk h132
  have h143 := kV139.bk h133
  have h144 := kV139.bk h134
  have h146 := kV139.bk h136
  have h147 := kV139.bk h122
  have K148 := K137.nn kV139
  have z149 := kV139.size
  refine pkq (.agg #[.int .i64 3, .int .i64 1]) <| ppq (.bool true) (exec_cast (congrArg Value.bool (by decide)) (exec_binop .eql 31 31 (.tmp 82) (.tmp 83) (by kernel_rfl) (.agg #[.int .i64 3, .int .i64 1]) (.agg #[.int .i64 3, .int .i64 1]) _ (by kernel_rfl) (by kernel_rfl) (run_eqGuard_agg _ _ _ _ _ _ _ nfault_guard) (nfault_eq _ _ _ _ _))) <| pkq (.bool true) <| pkq (.bool true) ?_
  obtain ⟨V150, eV150, y3, ey3, h151, kV150⟩ := alloc_step V139 (#[.int .u8 2, .int .u8 5, .int .u8 1, .int .u8 4, .int .u8 1]) 5
  have n152 : ga < y3 := ey3 ▸ lt_of_block h140
  have n153 : gb < y3 := ey3 ▸ lt_of_block h141
  have n154 : qa < y3 := ey3 ▸ lt_of_block h142
  have n155 : qb < y3 := ey3 ▸ lt_of_block h143
  have n156 : gd < y3 := ey3 ▸ lt_of_block h144
  have n157 : y1 < y3 := ey3 ▸ lt_of_block h146
  have n158 : y2 < y3 := ey3 ▸ lt_of_block h147
  have n159 : w.heap.size ≤ y3 := ey3 ▸ K148.size
  refine prq (.slice (some ⟨y3, 0, none⟩) 5 5) (w' := V150) (by rw [← eV150, ← ey3]; kernel_rfl) ?_
  have h160 := kV150.bk h140
  have h161 := kV150.bk h141
  have h162 := kV150.bk h142
  have h163 := kV150.bk h143
  have h164 := kV150.bk h144
  have h166 := kV150.bk h146
  have h167 := kV150.bk h147
  have K168 := K148.nn kV150
  have z169 := kV150.size
  refine pcq 24 #[.slice (some ⟨y3, 0, none⟩) 5 5] Tryz.func24 ((lnreads_ok _ [2, 5, 1, 4, 1] 9 3 (by decide +kernel) (by decide +kernel) _ (bytes_lit [2, 5, 1, 4, 1] h151 (by kernel_rfl) rfl rfl (by decide)) (by decide)).mono ?_)
  rintro e V170 ⟨rfl, kV170⟩
  refine ⟨_, rfl, ?_⟩
  have h171 := kV170.bk h160
  have h172 := kV170.bk h161
  have h173 := kV170.bk h162
  have h174 := kV170.bk h163
  have h175 := kV170.bk h164
  have h177 := kV170.bk h166
  have h178 := kV170.bk h167
  have h179 := kV170.bk h151
  have K180 := K168.nn kV170
  have z181 := kV170.size
  refine pkq (.agg #[.int .i64 9, .int .i64 3]) <| ppq (.bool true) (exec_cast (congrArg Value.bool (by decide)) (exec_binop .eql 31 31 (.tmp 88) (.tmp 89) (by kernel_rfl) (.agg #[.int .i64 9, .int .i64 3]) (.agg #[.int .i64 9, .int .i64 3]) _ (by kernel_rfl) (by kernel_rfl) (run_eqGuard_agg _ _ _ _ _ _ _ nfault_guard) (nfault_eq _ _ _ _ _))) <| pkq (.bool true) <| pkq (.bool true) ?_
  obtain ⟨V182, eV182, y4, ey4, h183, kV182⟩ := alloc_step V170 (#[.int .u8 1, .int .u8 5]) 5
  have n184 : ga < y4 := ey4 ▸ lt_of_block h171
  have n185 : gb < y4 := ey4 ▸ lt_of_block h172
  have n186 : qa < y4 := ey4 ▸ lt_of_block h173
  have n187 : qb < y4 := ey4 ▸ lt_of_block h174
  have n188 : gd < y4 := ey4 ▸ lt_of_block h175
  have n189 : y1 < y4 := ey4 ▸ lt_of_block h177
  have n190 : y2 < y4 := ey4 ▸ lt_of_block h178
  have n191 : y3 < y4 := ey4 ▸ lt_of_block h179
  have n192 : w.heap.size ≤ y4 := ey4 ▸ K180.size
  refine prq (.slice (some ⟨y4, 0, none⟩) 2 2) (w' := V182) (by rw [← eV182, ← ey4]; kernel_rfl) ?_
  have K202 := K180.nn kV182
  have z203 := kV182.size
  refine pcq 24 #[.slice (some ⟨y4, 0, none⟩) 2 2] Tryz.func24 ((lnreads_ok _ [1, 5] 6 2 (by decide +kernel) (by decide +kernel) _ (bytes_lit [1, 5] h183 (by kernel_rfl) rfl rfl (by decide)) (by decide)).mono ?_)
  rintro e V204 ⟨rfl, kV204⟩
  refine ⟨_, rfl, ?_⟩
  have K215 := K202.nn kV204
  have z216 := kV204.size
  refine pkq (.agg #[.int .i64 6, .int .i64 2]) <| ppq (.bool true) (exec_cast (congrArg Value.bool (by decide)) (exec_binop .eql 31 31 (.tmp 94) (.tmp 95) (by kernel_rfl) (.agg #[.int .i64 6, .int .i64 2]) (.agg #[.int .i64 6, .int .i64 2]) _ (by kernel_rfl) (by kernel_rfl) (run_eqGuard_agg _ _ _ _ _ _ _ nfault_guard) (nfault_eq _ _ _ _ _))) <| pkq (.bool true) <| pkq (.bool true) <| ps_end <| sy_a ⟨#[.bool false, .bool true, .int .i64 9, .int .i64 1, .int .i64 3, .int .i64 0, .bool true, X, .int .i64 0, .bool true, .bool true, .bool true, .bool true, .bool true, .bool true, .slice (some ⟨ga, 0, none⟩) 2 2, .bool true, .bool true, .bool true, .bool true, .bool true, .bool true, .bool true, .bool true, .bool true, .slice (some ⟨gb, 0, none⟩) 2 2, .bool true, .bool true, .tuple #[.int .i64 9, .int .i64 1], .agg #[.int .i64 10, .int .u64 1], .agg #[.int .i64 9, .int .u64 1], .slice (some ⟨qa, 0, none⟩) 2 2, .tuple #[.int .i64 9, .int .i64 1], .int .i64 9, .int .i64 1, .tuple #[.int .i64 3, .int .i64 0], .agg #[.int .i64 0, .int .u64 1], .agg #[.int .i64 0, .int .u64 1], .slice (some ⟨qb, 0, none⟩) 2 2, .tuple #[.int .i64 3, .int .i64 0], .int .i64 3, .int .i64 0, .int .i64 9, .bool true, .bool true, .int .i64 1, .bool true, .bool true, .bool true, .int .i64 3, .bool true, .bool true, .bool true, .int .i64 0, .bool true, .bool true, .bool true, .int .i64 0, .bool true, .bool true, .bool true, .int .i64 9, .bool true, .bool true, .bool true, .int .i64 3, .bool true, .bool true, .tuple #[X, .int .i64 0], .slice (some ⟨gd, 0, none⟩) 2 2, .tuple #[X, .int .i64 0], X, .int .i64 0, .int .i64 0, .bool true, .bool true, X, .slice (some ⟨y1, 0, none⟩) 6 6, .bool true, .bool true, .bool true, .slice (some ⟨y2, 0, none⟩) 2 2, .agg #[.int .i64 3, .int .i64 1], .agg #[.int .i64 3, .int .i64 1], .bool true, .bool true, .bool true, .slice (some ⟨y3, 0, none⟩) 5 5, .agg #[.int .i64 9, .int .i64 3], .agg #[.int .i64 9, .int .i64 3], .bool true, .bool true, .bool true, .slice (some ⟨y4, 0, none⟩) 2 2, .agg #[.int .i64 6, .int .i64 2], .agg #[.int .i64 6, .int .i64 2], .bool true, .bool true, ud, ud, ud, ud, ud, ud, ud, ud, ud, ud], []⟩ <| tqr_ [0, 1, 2, 3, 4, 5, 6, 7, 8, 9, 10] ?_
  refine pcq 8 #[] Tryz.func8 ((lnawake_ok _ (ErrTab.keeps het K215)).mono ?_)
  rintro e V217 ⟨rfl, kV217⟩
  refine ⟨_, rfl, ?_⟩
  have K228 := K215.nn kV217
  have z229 := kV217.size
  refine pkq (.bool true) <| pkq (.bool true) <| pkq (.bool true) <| pkq (.bool true) <| pkq (.bool true) <| pkq (.bool true) <| pkq (.bool true) <| pkq (.bool true) <| pkq (.bool true) <| pkq (.bool true) <| eu_ <| so_ (.bool true) ?_
  exact ⟨rfl, K228⟩
end Go.Proofs.YtghohakbepeffaaGreatDoor
namespace Go.Proofs.YtghohakbepeffaaGreatDoor
set_option maxRecDepth 100000
set_option maxHeartbeats 4000000
open Go Go.RowKit Go.Own Go.Shelf
theorem lnmade_all (v0 : Value) (ns : List Nat) (hnl : ∀ x ∈ ns, x < 18446744073709551616) (hl : ns.length ≤ 64) (w : World) (hns : Sl w 1 Gc v0 ns) (het : ErrTab w) : Calls Tryz.prog 26 #[v0] w (fun e w' => ∃ X, e = .returned (.tuple #[X, .bool true]) ∧ Sl w' 2 Nt.cl X (mgo ns 1) ∧ Keeps Nob w w') := by
  have h := lnmade_ok v0 ns hnl w hns het
  rw [List.take_of_length_le hl] at h; exact h
end Go.Proofs.YtghohakbepeffaaGreatDoor
namespace Go.Proofs.YtghohakbepeffaaGreatDoor
set_option maxRecDepth 100000
set_option maxHeartbeats 4000000
open Go Go.RowKit Go.Own Go.Shelf
theorem filt_yes {c : Nt → Bool} {l : List Nt} {i : Nat} {y : Nt} (hy : l[i]? = some y) (h : c y = true) : (l.take (i + 1)).filter c = (l.take i).filter c ++ [y] := by
  rw [List.take_add_one, hy, Option.toList_some, List.filter_append, List.filter_cons_of_pos h]; rfl
theorem filt_no {c : Nt → Bool} {l : List Nt} {i : Nat} {y : Nt} (hy : l[i]? = some y) (h : c y = false) : (l.take (i + 1)).filter c = (l.take i).filter c := by
  rw [List.take_add_one, hy, Option.toList_some, List.filter_append, List.filter_cons_of_neg (by rw [h]; decide)]; simp
theorem filt_at {c : Nt → Bool} {l : List Nt} {i : Nat} {y : Nt} (hy : l[i]? = some y) (h : c y = true) : (l.filter c)[((l.take i).filter c).length]? = some y := by
  have hi := (List.getElem?_eq_some_iff.1 hy).1
  have e : l = l.take i ++ (y :: l.drop (i + 1)) := by
    conv => lhs; rw [← List.take_append_drop i l, List.drop_eq_getElem_cons hi, (List.getElem?_eq_some_iff.1 hy).2]
  conv => lhs; lhs; rw [e]
  rw [List.filter_append, List.filter_cons_of_pos h, List.getElem?_append_right (Nat.le_refl _), Nat.sub_self]; rfl
theorem ncounts_dec (p : Par) (h : Int) (x : Nt) : ncounts p h x = decide (¬ (h < x.h ∨ x.h + p.corr ≤ h)) := by
  unfold ncounts
  rw [← Bool.decide_and]
  exact decide_eq_decide.2 (by omega)
/-- Which note this is. -/
theorem count_cases (p : Par) (h : Int) (l : List Nt) (i : Nat) (hi : i ≤ l.length) : (∃ y, i < l.length ∧ l[i]? = some y ∧ h < y.h ∧ ncounts p h y = false) ∨ (∃ y, i < l.length ∧ l[i]? = some y ∧ ¬ h < y.h ∧ y.h + p.corr ≤ h ∧ ncounts p h y = false) ∨ (∃ y, i < l.length ∧ l[i]? = some y ∧ ¬ h < y.h ∧ ¬ y.h + p.corr ≤ h ∧ ncounts p h y = true) ∨ i = l.length := by
  by_cases hlt : i < l.length
  · obtain ⟨y, hy⟩ : ∃ y, l[i]? = some y := ⟨_, List.getElem?_eq_getElem hlt⟩
    by_cases a : h < y.h
    · exact .inl ⟨y, hlt, hy, a, by rw [ncounts_dec]; exact decide_eq_false (fun e => e (.inl a))⟩
    · by_cases b : y.h + p.corr ≤ h
      · exact .inr (.inl ⟨y, hlt, hy, a, b, by rw [ncounts_dec]; exact decide_eq_false (fun e => e (.inr b))⟩)
      · exact .inr (.inr (.inl ⟨y, hlt, hy, a, b, by rw [ncounts_dec]; exact decide_eq_true (fun e => e.elim a b)⟩))
  · exact .inr (.inr (.inr (by omega)))
theorem mgo_mem : ∀ (l : List Nat) (a : Nat), ∀ y ∈ mgo l a, ((a : Nat) : Int) ≤ y.h ∧ y.h ≤ ((a + 29 * l.length : Nat) : Int) ∧ y.s ≤ 4611686018427387904
  | [], _, y, h => by cases h
  | n :: r, a, y, h => by
    rw [mgo] at h
    rcases List.mem_cons.1 h with rfl | h
    · unfold mNote; simp only [List.length_cons]; omega
    · have := mgo_mem r _ y h
      simp only [List.length_cons]; omega
theorem lnmade_is {ns : List Nat} {l : List Nt} {args : Array Value} {w : World} (h1 : mgo ns 1 = l) (h : Calls Tryz.prog 26 args w (fun e w' => ∃ X, e = .returned (.tuple #[X, .bool true]) ∧ Sl w' 2 Nt.cl X (mgo ns 1) ∧ Keeps Nob w w')) : Calls Tryz.prog 26 args w (fun e w' => ∃ X, e = .returned (.tuple #[X, .bool true]) ∧ Sl w' 2 Nt.cl X l ∧ Keeps Nob w w') := h1 ▸ h
noncomputable def qc80_0 (n : Nat) : Code := partOf Tryz.f6 n
noncomputable abbrev qo80_0 (n k : Nat) : Oper := (opsAt (qc80_0 n)).getD k default
theorem counts_long (window : Int) (v1 : Value) (ns : List Nat) (hw : Int) (hnl : ∀ x ∈ ns, x < 18446744073709551616) (w : World) (hns : Sl w 1 Gc v1 ns) (het : ErrTab w) (h20 : 20 < ns.length) :
    Calls Tryz.prog 6 #[.int .i64 window, v1, .int .i64 hw] w (fun e w' => e = .returned (.bool true) ∧ Keeps Nob w w') := by
  have hln := Sl.len_le hns
  have K0 : Keeps Nob w w := Keeps.refl _ _
  refine sy_enter (qc80_0 1) ⟨#[.int .i64 window, v1, .int .i64 hw, ud, ud, ud, ud, ud, ud, ud, ud, ud, ud, ud, ud, ud, ud, ud, ud, ud, ud, ud, ud, ud, ud, ud, ud, ud, ud, ud, ud, ud, ud, ud, ud, ud, ud, ud, ud, ud, ud, ud, ud, ud, ud, ud, ud, ud, ud, ud, ud, ud, ud, ud, ud, ud, ud, ud, ud, ud, ud, ud, ud, ud, ud, ud, ud, ud, ud, ud, ud, ud, ud, ud, ud, ud, ud, ud, ud, ud, ud, ud, ud, ud, ud, ud, ud, ud, ud, ud, ud, ud, ud, ud, ud, ud, ud, ud, ud, ud, ud, ud, ud, ud, ud, ud, ud, ud, ud, ud, ud, ud, ud, ud, ud, ud, ud, ud, ud], []⟩ Tryz.func6 (by kernel_rfl) (by kernel_rfl) <| qr_ [0] <| pkq (.bool false) <| eqr_ [0, 1] ?_
  refine pcq 4 #[] Tryz.func4 ((known_ok _ het).mono ?_)
  rintro e V1 ⟨rfl, kV1⟩
  refine ⟨_, rfl, ?_⟩
  have K2 := K0.nn kV1
  have z3 := kV1.size
  refine pkq (.bool true) <| eq_ <| qr_ [0, 1, 2] <| pkq (v1) <| ppq (iN ns.length) (exec_len_sl (.tmp 19) 49 40 (by kernel_rfl) Tryz.underlying49 (by kernel_rfl) (hns.keepsN K2)) <| ppq (.bool true) (dct ((((ns.length : Nat) : Int)) > ((20) : Int)) (by omega)) <| ey_ <| qr_ [0, 1] <| pkq (.bool true) <| pkq (.bool true) <| eu_ <| then_r <| so_ (.bool true) ?_
  exact ⟨rfl, K2⟩
theorem counts_short (window : Int) (v1 : Value) (ns : List Nat) (hw : Int) (hnl : ∀ x ∈ ns, x < 18446744073709551616) (w : World) (hns : Sl w 1 Gc v1 ns) (het : ErrTab w) (h20 : ¬ 20 < ns.length) :
    Calls Tryz.prog 6 #[.int .i64 window, v1, .int .i64 hw] w (fun e w' => e = .returned (.bool true) ∧ Keeps Nob w w') := by
  have hln := Sl.len_le hns
  obtain ⟨l, hle⟩ : ∃ y, mgo ns 1 = y := ⟨_, rfl⟩
  have hlen : l.length = ns.length := by rw [← hle, mgo_len]
  have hmem : ∀ y ∈ l, (1 : Int) ≤ y.h ∧ y.h ≤ 1000 ∧ y.s ≤ 4611686018427387904 := fun y hy => by
    have := mgo_mem ns 1 y (hle ▸ hy)
    omega
  have hlv := mlive 0 1 window (1 + hw % 700) (nums := ns) (by omega) (by omega) (by omega)
  have hnv := mnoted 0 1 window (1 + hw % 700) (nums := ns) (by omega) (by omega) (by omega)
  rw [hle] at hlv hnv
  obtain ⟨xs, hxs⟩ : ∃ y, l.filter (ncounts (pOf 0 1 window) (1 + hw % 700)) = y := ⟨_, rfl⟩
  rw [hxs] at hlv hnv
  obtain ⟨n, hnx⟩ : ∃ y, nsum xs = y := ⟨_, rfl⟩
  have hlv1 : (nlive (pOf 0 1 window) l (1 + hw % 700)).1 = xs := by rw [hlv]
  have hlv2 : (nlive (pOf 0 1 window) l (1 + hw % 700)).2 = 0 := by rw [hlv]
  have hn1 : (nnoted (pOf 0 1 window) l (1 + hw % 700)).1 = n := by rw [hnv]; exact hnx
  have hn2 : (nnoted (pOf 0 1 window) l (1 + hw % 700)).2 = 0 := by rw [hnv]
  replace hnx := hnx.symm
  have K0 : Keeps Nob w w := Keeps.refl _ _
  refine sy_enter (qc80_0 1) ⟨#[.int .i64 window, v1, .int .i64 hw, ud, ud, ud, ud, ud, ud, ud, ud, ud, ud, ud, ud, ud, ud, ud, ud, ud, ud, ud, ud, ud, ud, ud, ud, ud, ud, ud, ud, ud, ud, ud, ud, ud, ud, ud, ud, ud, ud, ud, ud, ud, ud, ud, ud, ud, ud, ud, ud, ud, ud, ud, ud, ud, ud, ud, ud, ud, ud, ud, ud, ud, ud, ud, ud, ud, ud, ud, ud, ud, ud, ud, ud, ud, ud, ud, ud, ud, ud, ud, ud, ud, ud, ud, ud, ud, ud, ud, ud, ud, ud, ud, ud, ud, ud, ud, ud, ud, ud, ud, ud, ud, ud, ud, ud, ud, ud, ud, ud, ud, ud, ud, ud, ud, ud, ud, ud], []⟩ Tryz.func6 (by kernel_rfl) (by kernel_rfl) <| qr_ [0] <| pkq (.bool false) <| eqr_ [0, 1] ?_
  refine pcq 4 #[] Tryz.func4 ((known_ok _ het).mono ?_)
  rintro e V1 ⟨rfl, kV1⟩
  refine ⟨_, rfl, ?_⟩
  have K2 := K0.nn kV1
  have z3 := kV1.size
  refine pkq (.bool true) <| eq_ <| qr_ [0, 1, 2] <| pkq (v1) <| ppq (iN ns.length) (exec_len_sl (.tmp 19) 49 40 (by kernel_rfl) Tryz.underlying49 (by kernel_rfl) (hns.keepsN K2)) <| ppq (.bool false) (dcf ((((ns.length : Nat) : Int)) > ((20) : Int)) (by omega)) <| en_ <| s_ <| tqr_ [0, 1, 2, 3] <| pkq (.int .i64 window) ?_
  refine pcq 25 #[.int .u64 0, .int .u64 1, .int .i64 window] Tryz.func25 ((lnof_ok 0 1 window (by decide) (by decide) _).mono ?_)
  rintro e V4 ⟨rfl, kV4⟩
  refine ⟨_, rfl, ?_⟩
  have K5 := K2.nn kV4
  have z6 := kV4.size
  refine pal 51 (#[.int .i64 0, .int .i64 0, .int .i64 0, .int .i64 0, .int .i64 0, .int .i64 0, .int .i64 0, .int .u64 0, .int .u64 0, .int .i64 0, .int .u64 0]) (.agg (#[.int .i64 0, .int .i64 0, .int .i64 0, .int .i64 0, .int .i64 0, .int .i64 0, .int .i64 0, .int .u64 0, .int .u64 0, .int .i64 0, .int .u64 0])) fun V7 gp egp h8 kV7 => ?_
  have n9 : w.heap.size ≤ gp := egp ▸ K5.size
  have K10 := K5.nn kV7
  have z11 := kV7.size
  refine pst 51 gp ((pOf 0 1 window).cells) h8 (by kernel_rfl) rfl (by kernel_rfl) fun V12 h13 kV12 => ?_
  have K14 := K10.nO kV12
  have z15 := kV12.size
  refine eqr_ [0, 1, 2, 3, 4, 5, 6] <| pkq (v1) ?_
  refine pcq 26 #[v1] Tryz.func26 ((lnmade_is hle (lnmade_all v1 ns hnl (by omega) _ (hns.keepsN K14) (ErrTab.keeps het K14))).mono ?_)
  rintro e V16 ⟨X, rfl, hX, kV16⟩
  refine ⟨_, rfl, ?_⟩
  have h17 := kV16.bk h13
  have K18 := K14.nn kV16
  have z19 := kV16.size
  refine pkq (.tuple #[X, .bool true]) <| pkq (X) <| pkq (.bool true) <| pkq (X) <| pkq (.bool true) <| eqr_ [0, 1, 2, 3] <| pkq (.int .i64 hw) ?_
  refine pcq 27 #[.int .i64 hw, .int .i64 700] Tryz.func27 ((kPick_ok hw 700 (by decide) (by decide) _).mono ?_)
  rintro e w1 ⟨rfl, rfl⟩
  refine ⟨_, rfl, ?_⟩
  refine ppq (.int .i64 (1 + (hw % 700))) (exec_cast (congrArg (Value.int .i64) (wrapI (1 + (hw % 700)) (1 + (hw % 700)) rfl (by omega) (by omega))) (by kernel_rfl)) <| pkq (.int .i64 (1 + (hw % 700))) <| eqr_ [0, 1, 2, 3, 4, 5, 6, 7, 8] <| ppq (.agg ((pOf 0 1 window).cells)) (ldr 51 gp (h17) (by kernel_rfl)) <| pkq (X) <| pkq (.int .i64 (1 + (hw % 700))) ?_
  refine pcq 34 #[.agg ((pOf 0 1 window).cells), X, .int .i64 (1 + (hw % 700))] Tryz.func34 ((live_is (pOf 0 1 window) (pOf_Ok _ _ _) l _ (1 + hw % 700) (by unfold i64ok; omega) 0 xs _ hX (ErrTab.keeps het K18) hlv2 hlv1).mono ?_)
  rintro e V20 ⟨Y, rfl, hY, hYn, kV20⟩
  refine ⟨_, rfl, ?_⟩
  have h21 := kV20.bk h17
  have h22 : Sl V20 2 Nt.cl X l := hX.keepsN kV20
  have K23 := K18.nn kV20
  have z24 := kV20.size
  refine pkq (.tuple #[Y, .int .i64 0]) <| pkq (Y) <| pkq (.int .i64 0) <| pkq (Y) <| pkq (.int .i64 0) <| ps_end <| sy_a ⟨#[.int .i64 window, v1, .int .i64 (1 + (hw % 700)), ud, ud, ud, .bool false, .bool true, pT gp 0, X, .bool true, Y, .int .i64 0, ud, ud, ud, ud, ud, .bool true, v1, iN ns.length, .bool false, ud, .int .i64 window, .agg (pOf 0 1 window).cells, .tuple #[X, .bool true], v1, .tuple #[X, .bool true], X, .bool true, .int .i64 hw, .int .i64 (hw % 700), .int .i64 (1 + (hw % 700)), .tuple #[Y, .int .i64 0], .agg ((pOf 0 1 window).cells), X, .int .i64 (1 + (hw % 700)), .tuple #[Y, .int .i64 0], Y, .int .i64 0, ud, ud, ud, ud, ud, ud, ud, ud, ud, ud, ud, ud, ud, ud, ud, ud, ud, ud, ud, ud, ud, ud, ud, ud, ud, ud, ud, ud, ud, ud, ud, ud, ud, ud, ud, ud, ud, ud, ud, ud, ud, ud, ud, ud, ud, ud, ud, ud, ud, ud, ud, ud, ud, ud, ud, ud, ud, ud, ud, ud, ud, ud, ud, ud, ud, ud, ud, ud, ud, ud, ud, ud, ud, ud, ud, ud, ud, ud, ud], []⟩ <| tqr_ [0, 1, 2, 3, 4, 5, 6, 7, 8] <| ppq (.agg ((pOf 0 1 window).cells)) (ldr 51 gp (h21) (by kernel_rfl)) <| pkq (X) <| pkq (.int .i64 (1 + (hw % 700))) ?_
  refine pcq 29 #[.agg ((pOf 0 1 window).cells), X, .int .i64 (1 + (hw % 700))] Tryz.func29 ((nnoted_is hn1 hn2 (nNoted_all (pOf 0 1 window) (pOf_Ok _ _ _) l _ (1 + hw % 700) (by unfold i64ok; omega) _ h22 (ErrTab.keeps het K23))).mono ?_)
  rintro e V25 ⟨rfl, kV25⟩
  refine ⟨_, rfl, ?_⟩
  have h26 := kV25.bk h21
  have h27 : Sl V25 2 Nt.cl X l := h22.keepsN kV25
  have h28 : Sl V25 2 Nt.cl Y xs := (row_nts hY).keepsN kV25
  have K29 := K23.nn kV25
  have z30 := kV25.size
  refine pkq (.tuple #[uN n, .int .i64 0]) <| pkq (uN n) <| pkq (.int .i64 0) <| pkq (uN n) <| pkq (.int .i64 0) <| eq_ <| qr_ [0, 1, 2, 3, 4, 5, 6, 7, 8, 9] <| pkq (.bool true) <| pkq (.bool false) <| pkq (.bool false) <| pkq (.int .i64 0) <| pkq (.bool false) <| pkq (.bool false) <| pkq (.bool false) ?_
  refine pkq (.int .i64 0) <| pkq (.bool false) <| pkq (.bool false) <| en_ <| s_ <| tqr_ [0, 1] <| pkq (.int .i64 0) <| pkq (.int .u64 0) <| eq_ <| qr_ [0] <| pkq (.int .i64 0) <| et_ <| bl_ 0 ?_
  refine sy_loop (qc80_0 32756) (fun a V => ∃ (i : Nat) (k : Nat) (sm : Nat) (u6 u57 u58 u59 u60 u61 u62 u63 u64 u65 u66 u67 u68 u69 u70 u71 u72 u73 u74 u75 u76 u77 u78 u79 u80 u81 u82 u83 u84 u85 u86 u87 u88 u89 u90 u91 u92 u93 u94 u95 u96 u97 u98 u99 u100 u101 u102 u103 u104 u105 u106 : Value), (a = ⟨#[.int .i64 window, v1, .int .i64 (1 + (hw % 700)), ud, ud, ud, u6, .bool true, pT gp 0, X, .bool true, Y, .int .i64 0, uN n, .int .i64 0, iN k, uN sm, iN i, .bool true, v1, iN ns.length, .bool false, ud, .int .i64 window, .agg (pOf 0 1 window).cells, .tuple #[X, .bool true], v1, .tuple #[X, .bool true], X, .bool true, .int .i64 hw, .int .i64 (hw % 700), .int .i64 (1 + (hw % 700)), .tuple #[Y, .int .i64 0], .agg ((pOf 0 1 window).cells), X, .int .i64 (1 + (hw % 700)), .tuple #[Y, .int .i64 0], Y, .int .i64 0, .tuple #[uN n, .int .i64 0], .agg ((pOf 0 1 window).cells), X, .int .i64 (1 + (hw % 700)), .tuple #[uN n, .int .i64 0], uN n, .int .i64 0, .bool true, .bool false, .bool false, .int .i64 0, .bool false, .bool false, .bool false, .int .i64 0, .bool false, .bool false, u57, u58, u59, u60, u61, u62, u63, u64, u65, u66, u67, u68, u69, u70, u71, u72, u73, u74, u75, u76, u77, u78, u79, u80, u81, u82, u83, u84, u85, u86, u87, u88, u89, u90, u91, u92, u93, u94, u95, u96, u97, u98, u99, u100, u101, u102, u103, u104, u105, u106, ud, ud, ud, ud, ud, ud, ud, ud, ud, ud, ud, ud], []⟩) ∧ (i ≤ l.length) ∧ (k ≤ i) ∧ (sm ≤ 4611686018427387904) ∧ (((l.take i).filter (ncounts (pOf 0 1 window) (1 + hw % 700))).length = k) ∧ (nsum ((l.take i).filter (ncounts (pOf 0 1 window) (1 + hw % 700))) = sm) ∧ (V.heap[gp]? = some (.cells ((pOf 0 1 window).cells) 51 (0, 0))) ∧ (Sl V 2 Nt.cl X l) ∧ (Sl V 2 Nt.cl Y xs) ∧ (Keeps Nob w V)) (fun a _ => l.length - (intOf (a.tmps.getD 17 undef)).toNat) (by kernel_rfl) ?_ ?_
  · exact ⟨0, 0, 0, (.bool false), undef, undef, undef, undef, undef, undef, undef, undef, undef, undef, undef, undef, undef, undef, undef, undef, undef, undef, undef, undef, undef, undef, undef, undef, undef, undef, undef, undef, undef, undef, undef, undef, undef, undef, undef, undef, undef, undef, undef, undef, undef, undef, undef, undef, undef, undef, undef, undef, undef, undef, by kernel_rfl, by omega, by omega, by omega, rfl, rfl, h26, h27, h28, K29⟩
  · rintro a V31 ⟨i, k, sm, u6, u57, u58, u59, u60, u61, u62, u63, u64, u65, u66, u67, u68, u69, u70, u71, u72, u73, u74, u75, u76, u77, u78, u79, u80, u81, u82, u83, u84, u85, u86, u87, u88, u89, u90, u91, u92, u93, u94, u95, u96, u97, u98, u99, u100, u101, u102, u103, u104, u105, u106, rfl, hi, hki, hsl, hkl, hsm, h32, h33, h34, K35⟩
    rcases count_cases (pOf 0 1 window) (1 + hw % 700) l i hi with ⟨y, lt_i, hy, c1, hc⟩ | ⟨y, lt_i, hy, c1, c2, hc⟩ | ⟨y, lt_i, hy, c1, c2, hc⟩ | eq_i
    · have hyb := hmem y (List.mem_of_getElem? hy)
      obtain ⟨b_l, o_l, c_l, hv_l, hb_l, _⟩ := h33.at_ i _ hy
      have hkn : ((l.take (i + 1)).filter (ncounts (pOf 0 1 window) (1 + hw % 700))).length = k := by rw [filt_no hy hc]; exact hkl
      have hsn : nsum ((l.take (i + 1)).filter (ncounts (pOf 0 1 window) (1 + hw % 700))) = sm := by rw [filt_no hy hc]; exact hsm
      have hcorr : (pOf 0 1 window).corr = 1 + window % 60 := rfl
      refine q_ <| qr_ [0, 1, 2, 3] <| pkq (iN i) <| pkq (X) <| ppq (iN l.length) (exec_len_sl (.tmp 58) 22 46 (by kernel_rfl) Tryz.underlying22 (by kernel_rfl) h33) <| ppq (.bool true) (dct ((((i : Nat) : Int)) < (((l.length : Nat) : Int))) (by omega)) <| ey_ <| s_ <| tq_ <| bl_ 1 <| q_ <| q_ <| sy_reg <| rg_still 15 18 (opsAt (qc80_0 1048208)) [qo80_0 1048208 0, qo80_0 1048208 1, qo80_0 1048208 2, qo80_0 1048208 3, qo80_0 1048208 4, qo80_0 1048208 5, qo80_0 1048208 6, qo80_0 1048208 7, qo80_0 1048208 8, qo80_0 1048208 9, qo80_0 1048208 10, qo80_0 1048208 11, qo80_0 1048208 12, qo80_0 1048208 13, qo80_0 1048208 14, qo80_0 1048208 15, qo80_0 1048208 16, qo80_0 1048208 17] [qo80_0 1048208 18] (by kernel_rfl) (by kernel_rfl) (by kernel_rfl) (by kernel_rfl) (by kernel_rfl) ?_
      obtain ⟨V37, eV37, kV37⟩ := drew_step V31
      rw [eV37]
      clear eV37
      have h38 := kV37.bk h32
      have h39 : Sl V37 2 Nt.cl X l := h33.keepsN kV37
      have h40 : Sl V37 2 Nt.cl Y xs := h34.keepsN kV37
      have K41 := K35.nn kV37
      have z42 := kV37.size
      refine skq (.int .i64 (1 + (hw % 700))) <| skq (X) <| skq (iN i) <| spq (pT b_l (o_l + i * 2)) (exec_indexAt_slice 22 (.tmp 64) (.tmp 65) (by kernel_rfl) b_l o_l l.length c_l (Eq.trans (b := X) (by kernel_rfl) hv_l) .i64 i (by kernel_rfl) _ 2 Tryz.underlying22 (by kernel_rfl) (by omega)) <| skq (pT b_l (o_l + i * 2 + 0)) <| spq (.int .i64 y.h) (ldc 3 b_l (o_l + i * 2 + 0) (Sl.cell h39 hy hv_l rfl)) <| spq (.bool true) (dct (((1 + (hw % 700)) : Int) < ((y.h) : Int)) (by omega)) <| skq (.bool true) <| snq <| snq <| snq <| snq <| snq <| snq ?_
      refine snq <| snq <| snq <| snq <| st_end <| ls_run (qo80_0 1048208 18) (.bool true) (w' := V37) (by kernel_rfl) (by kernel_rfl) <| ls_end <| then_n <| y_ <| sy_exit 1 (by kernel_rfl) <| then_e <| blk_e <| tr_ [0, 1, 2] <| pkq (iN i) ?_
      refine ppq (iN (i + 1)) (exec_cast (congrArg (Value.int .i64) (wrapN (i + 1) (by omega))) (by kernel_rfl)) <| pkq (iN (i + 1)) <| ps_end <| sy_a ⟨#[.int .i64 window, v1, .int .i64 (1 + (hw % 700)), ud, ud, ud, u6, .bool true, pT gp 0, X, .bool true, Y, .int .i64 0, uN n, .int .i64 0, iN k, uN sm, iN (i + 1), .bool true, v1, iN ns.length, .bool false, ud, .int .i64 window, .agg (pOf 0 1 window).cells, .tuple #[X, .bool true], v1, .tuple #[X, .bool true], X, .bool true, .int .i64 hw, .int .i64 (hw % 700), .int .i64 (1 + (hw % 700)), .tuple #[Y, .int .i64 0], .agg ((pOf 0 1 window).cells), X, .int .i64 (1 + (hw % 700)), .tuple #[Y, .int .i64 0], Y, .int .i64 0, .tuple #[uN n, .int .i64 0], .agg ((pOf 0 1 window).cells), X, .int .i64 (1 + (hw % 700)), .tuple #[uN n, .int .i64 0], uN n, .int .i64 0, .bool true, .bool false, .bool false, .int .i64 0, .bool false, .bool false, .bool false, .int .i64 0, .bool false, .bool false, iN i, X, iN l.length, .bool true, iN i, iN (i + 1), .int .i64 (1 + (hw % 700)), X, iN i, pT b_l (o_l + i * 2), pT b_l (o_l + i * 2 + 0), .int .i64 y.h, .bool true, .bool true, ud, ud, ud, ud, ud, ud, ud, ud, ud, ud, .bool true, u82, u83, u84, u85, u86, u87, u88, u89, u90, u91, u92, u93, u94, u95, u96, u97, u98, u99, u100, u101, u102, u103, u104, u105, u106, ud, ud, ud, ud, ud, ud, ud, ud, ud, ud, ud, ud], []⟩ <| then_n ?_
      refine ⟨⟨i + 1, k, sm, u6, (iN i), X, (iN l.length), (.bool true), (iN i), (iN (i + 1)), (.int .i64 (1 + (hw % 700))), X, (iN i), (pT b_l (o_l + i * 2)), (pT b_l (o_l + i * 2 + 0)), (.int .i64 y.h), (.bool true), (.bool true), undef, undef, undef, undef, undef, undef, undef, undef, undef, undef, (.bool true), u82, u83, u84, u85, u86, u87, u88, u89, u90, u91, u92, u93, u94, u95, u96, u97, u98, u99, u100, u101, u102, u103, u104, u105, u106, by kernel_rfl, by omega, by omega, by omega, hkn, hsn, h38, h39, h40, K41⟩, ?_⟩
      exact lt_meas (x := l.length - (i + 1)) (y := l.length - i) (by kernel_rfl) (by kernel_rfl) (by omega)
    · have hyb := hmem y (List.mem_of_getElem? hy)
      obtain ⟨b_l, o_l, c_l, hv_l, hb_l, _⟩ := h33.at_ i _ hy
      have hkn : ((l.take (i + 1)).filter (ncounts (pOf 0 1 window) (1 + hw % 700))).length = k := by rw [filt_no hy hc]; exact hkl
      have hsn : nsum ((l.take (i + 1)).filter (ncounts (pOf 0 1 window) (1 + hw % 700))) = sm := by rw [filt_no hy hc]; exact hsm
      have hcorr : (pOf 0 1 window).corr = 1 + window % 60 := rfl
      refine q_ <| qr_ [0, 1, 2, 3] <| pkq (iN i) <| pkq (X) <| ppq (iN l.length) (exec_len_sl (.tmp 58) 22 46 (by kernel_rfl) Tryz.underlying22 (by kernel_rfl) h33) <| ppq (.bool true) (dct ((((i : Nat) : Int)) < (((l.length : Nat) : Int))) (by omega)) <| ey_ <| s_ <| tq_ <| bl_ 1 <| q_ <| q_ <| sy_reg <| rg_still 15 18 (opsAt (qc80_0 1048208)) [qo80_0 1048208 0, qo80_0 1048208 1, qo80_0 1048208 2, qo80_0 1048208 3, qo80_0 1048208 4, qo80_0 1048208 5, qo80_0 1048208 6, qo80_0 1048208 7, qo80_0 1048208 8, qo80_0 1048208 9, qo80_0 1048208 10, qo80_0 1048208 11, qo80_0 1048208 12, qo80_0 1048208 13, qo80_0 1048208 14, qo80_0 1048208 15, qo80_0 1048208 16, qo80_0 1048208 17] [qo80_0 1048208 18] (by kernel_rfl) (by kernel_rfl) (by kernel_rfl) (by kernel_rfl) (by kernel_rfl) ?_
      obtain ⟨V44, eV44, kV44⟩ := drew_step V31
      rw [eV44]
      clear eV44
      have h45 := kV44.bk h32
      have h46 : Sl V44 2 Nt.cl X l := h33.keepsN kV44
      have h47 : Sl V44 2 Nt.cl Y xs := h34.keepsN kV44
      have K48 := K35.nn kV44
      have z49 := kV44.size
      refine skq (.int .i64 (1 + (hw % 700))) <| skq (X) <| skq (iN i) <| spq (pT b_l (o_l + i * 2)) (exec_indexAt_slice 22 (.tmp 64) (.tmp 65) (by kernel_rfl) b_l o_l l.length c_l (Eq.trans (b := X) (by kernel_rfl) hv_l) .i64 i (by kernel_rfl) _ 2 Tryz.underlying22 (by kernel_rfl) (by omega)) <| skq (pT b_l (o_l + i * 2 + 0)) <| spq (.int .i64 y.h) (ldc 3 b_l (o_l + i * 2 + 0) (Sl.cell h46 hy hv_l rfl)) <| spq (.bool false) (dcf (((1 + (hw % 700)) : Int) < ((y.h) : Int)) (by omega)) <| skq (.bool false) <| skq (.int .i64 (1 + (hw % 700))) <| skq (X) <| skq (iN i) <| spq (pT b_l (o_l + i * 2)) (exec_indexAt_slice 22 (.tmp 72) (.tmp 73) (by kernel_rfl) b_l o_l l.length c_l (Eq.trans (b := X) (by kernel_rfl) hv_l) .i64 i (by kernel_rfl) _ 2 Tryz.underlying22 (by kernel_rfl) (by omega)) <| skq (pT b_l (o_l + i * 2 + 0)) <| spq (.int .i64 y.h) (ldc 3 b_l (o_l + i * 2 + 0) (Sl.cell h46 hy hv_l rfl)) ?_
      refine skq (pT gp 9) <| spq (.int .i64 (1 + window % 60)) (ldc 3 gp 9 (rc (h45) (rfl))) <| spq (.int .i64 (y.h + (1 + window % 60))) (exec_cast (congrArg (Value.int .i64) (wrapI (y.h + (1 + window % 60)) (y.h + (1 + window % 60)) rfl (by omega) (by omega))) (by kernel_rfl)) <| spq (.bool true) (dct (((1 + (hw % 700)) : Int) ≥ ((y.h + (1 + window % 60)) : Int)) (by omega)) <| st_end <| ls_run (qo80_0 1048208 18) (.bool true) (w' := V44) (by kernel_rfl) (by kernel_rfl) <| ls_end <| then_n <| y_ <| sy_exit 1 (by kernel_rfl) <| then_e <| blk_e <| tr_ [0, 1, 2] <| pkq (iN i) ?_
      refine ppq (iN (i + 1)) (exec_cast (congrArg (Value.int .i64) (wrapN (i + 1) (by omega))) (by kernel_rfl)) <| pkq (iN (i + 1)) <| ps_end <| sy_a ⟨#[.int .i64 window, v1, .int .i64 (1 + (hw % 700)), ud, ud, ud, u6, .bool true, pT gp 0, X, .bool true, Y, .int .i64 0, uN n, .int .i64 0, iN k, uN sm, iN (i + 1), .bool true, v1, iN ns.length, .bool false, ud, .int .i64 window, .agg (pOf 0 1 window).cells, .tuple #[X, .bool true], v1, .tuple #[X, .bool true], X, .bool true, .int .i64 hw, .int .i64 (hw % 700), .int .i64 (1 + (hw % 700)), .tuple #[Y, .int .i64 0], .agg ((pOf 0 1 window).cells), X, .int .i64 (1 + (hw % 700)), .tuple #[Y, .int .i64 0], Y, .int .i64 0, .tuple #[uN n, .int .i64 0], .agg ((pOf 0 1 window).cells), X, .int .i64 (1 + (hw % 700)), .tuple #[uN n, .int .i64 0], uN n, .int .i64 0, .bool true, .bool false, .bool false, .int .i64 0, .bool false, .bool false, .bool false, .int .i64 0, .bool false, .bool false, iN i, X, iN l.length, .bool true, iN i, iN (i + 1), .int .i64 (1 + (hw % 700)), X, iN i, pT b_l (o_l + i * 2), pT b_l (o_l + i * 2 + 0), .int .i64 y.h, .bool false, .bool false, .int .i64 (1 + (hw % 700)), X, iN i, pT b_l (o_l + i * 2), pT b_l (o_l + i * 2 + 0), .int .i64 y.h, pT gp 9, .int .i64 (1 + window % 60), .int .i64 (y.h + (1 + window % 60)), .bool true, .bool true, u82, u83, u84, u85, u86, u87, u88, u89, u90, u91, u92, u93, u94, u95, u96, u97, u98, u99, u100, u101, u102, u103, u104, u105, u106, ud, ud, ud, ud, ud, ud, ud, ud, ud, ud, ud, ud], []⟩ <| then_n ?_
      refine ⟨⟨i + 1, k, sm, u6, (iN i), X, (iN l.length), (.bool true), (iN i), (iN (i + 1)), (.int .i64 (1 + (hw % 700))), X, (iN i), (pT b_l (o_l + i * 2)), (pT b_l (o_l + i * 2 + 0)), (.int .i64 y.h), (.bool false), (.bool false), (.int .i64 (1 + (hw % 700))), X, (iN i), (pT b_l (o_l + i * 2)), (pT b_l (o_l + i * 2 + 0)), (.int .i64 y.h), (pT gp 9), (.int .i64 (1 + window % 60)), (.int .i64 (y.h + (1 + window % 60))), (.bool true), (.bool true), u82, u83, u84, u85, u86, u87, u88, u89, u90, u91, u92, u93, u94, u95, u96, u97, u98, u99, u100, u101, u102, u103, u104, u105, u106, by kernel_rfl, by omega, by omega, by omega, hkn, hsn, h45, h46, h47, K48⟩, ?_⟩
      exact lt_meas (x := l.length - (i + 1)) (y := l.length - i) (by kernel_rfl) (by kernel_rfl) (by omega)
    · have hyb := hmem y (List.mem_of_getElem? hy)
      obtain ⟨b_l, o_l, c_l, hv_l, hb_l, _⟩ := h33.at_ i _ hy
      obtain ⟨s1, hs1⟩ : ∃ y1, sm + y.s = y1 := ⟨_, rfl⟩
      obtain ⟨s2, hs2⟩ : ∃ y1, min s1 4611686018427387904 = y1 := ⟨_, rfl⟩
      have hkn : ((l.take (i + 1)).filter (ncounts (pOf 0 1 window) (1 + hw % 700))).length = k + 1 := by rw [filt_yes hy hc, List.length_append, hkl]; rfl
      have hsn : nsum ((l.take (i + 1)).filter (ncounts (pOf 0 1 window) (1 + hw % 700))) = s2 := by rw [filt_yes hy hc, nsum_snoc, hsm, hs1, hs2]
      have hcorr : (pOf 0 1 window).corr = 1 + window % 60 := rfl
      have hxk : xs[k]? = some y := by
        have e := filt_at hy hc
        rw [hkl, hxs] at e; exact e
      have hkx : k < xs.length := (List.getElem?_eq_some_iff.1 hxk).1
      obtain ⟨b_x, o_x, c_x, hv_x, hb_x, _⟩ := h34.at_ k _ hxk
      refine q_ <| qr_ [0, 1, 2, 3] <| pkq (iN i) <| pkq (X) <| ppq (iN l.length) (exec_len_sl (.tmp 58) 22 46 (by kernel_rfl) Tryz.underlying22 (by kernel_rfl) h33) <| ppq (.bool true) (dct ((((i : Nat) : Int)) < (((l.length : Nat) : Int))) (by omega)) <| ey_ <| s_ <| tq_ <| bl_ 1 <| q_ <| q_ <| sy_reg <| rg_still 15 18 (opsAt (qc80_0 1048208)) [qo80_0 1048208 0, qo80_0 1048208 1, qo80_0 1048208 2, qo80_0 1048208 3, qo80_0 1048208 4, qo80_0 1048208 5, qo80_0 1048208 6, qo80_0 1048208 7, qo80_0 1048208 8, qo80_0 1048208 9, qo80_0 1048208 10, qo80_0 1048208 11, qo80_0 1048208 12, qo80_0 1048208 13, qo80_0 1048208 14, qo80_0 1048208 15, qo80_0 1048208 16, qo80_0 1048208 17] [qo80_0 1048208 18] (by kernel_rfl) (by kernel_rfl) (by kernel_rfl) (by kernel_rfl) (by kernel_rfl) ?_
      obtain ⟨V51, eV51, kV51⟩ := drew_step V31
      rw [eV51]
      clear eV51
      have h52 := kV51.bk h32
      have h53 : Sl V51 2 Nt.cl X l := h33.keepsN kV51
      have h54 : Sl V51 2 Nt.cl Y xs := h34.keepsN kV51
      have K55 := K35.nn kV51
      have z56 := kV51.size
      refine skq (.int .i64 (1 + (hw % 700))) <| skq (X) <| skq (iN i) <| spq (pT b_l (o_l + i * 2)) (exec_indexAt_slice 22 (.tmp 64) (.tmp 65) (by kernel_rfl) b_l o_l l.length c_l (Eq.trans (b := X) (by kernel_rfl) hv_l) .i64 i (by kernel_rfl) _ 2 Tryz.underlying22 (by kernel_rfl) (by omega)) <| skq (pT b_l (o_l + i * 2 + 0)) <| spq (.int .i64 y.h) (ldc 3 b_l (o_l + i * 2 + 0) (Sl.cell h53 hy hv_l rfl)) <| spq (.bool false) (dcf (((1 + (hw % 700)) : Int) < ((y.h) : Int)) (by omega)) <| skq (.bool false) <| skq (.int .i64 (1 + (hw % 700))) <| skq (X) <| skq (iN i) <| spq (pT b_l (o_l + i * 2)) (exec_indexAt_slice 22 (.tmp 72) (.tmp 73) (by kernel_rfl) b_l o_l l.length c_l (Eq.trans (b := X) (by kernel_rfl) hv_l) .i64 i (by kernel_rfl) _ 2 Tryz.underlying22 (by kernel_rfl) (by omega)) <| skq (pT b_l (o_l + i * 2 + 0)) <| spq (.int .i64 y.h) (ldc 3 b_l (o_l + i * 2 + 0) (Sl.cell h53 hy hv_l rfl)) ?_
      refine skq (pT gp 9) <| spq (.int .i64 (1 + window % 60)) (ldc 3 gp 9 (rc (h52) (rfl))) <| spq (.int .i64 (y.h + (1 + window % 60))) (exec_cast (congrArg (Value.int .i64) (wrapI (y.h + (1 + window % 60)) (y.h + (1 + window % 60)) rfl (by omega) (by omega))) (by kernel_rfl)) <| spq (.bool false) (dcf (((1 + (hw % 700)) : Int) ≥ ((y.h + (1 + window % 60)) : Int)) (by omega)) <| st_end <| ls_run (qo80_0 1048208 18) (.bool false) (w' := V51) (by kernel_rfl) (by kernel_rfl) <| ls_end <| then_n <| n_ <| s_ <| tq_ <| q_ <| sy_reg <| rg_still 16 14 (opsAt (qc80_0 2096420)) [qo80_0 2096420 0, qo80_0 2096420 1, qo80_0 2096420 2, qo80_0 2096420 3, qo80_0 2096420 4, qo80_0 2096420 5, qo80_0 2096420 6, qo80_0 2096420 7, qo80_0 2096420 8, qo80_0 2096420 9, qo80_0 2096420 10, qo80_0 2096420 11, qo80_0 2096420 12, qo80_0 2096420 13] [qo80_0 2096420 14] (by kernel_rfl) (by kernel_rfl) (by kernel_rfl) (by kernel_rfl) (by kernel_rfl) ?_
      obtain ⟨V58, eV58, kV58⟩ := drew_step V51
      rw [eV58]
      clear eV58
      have h59 := kV58.bk h52
      have h60 : Sl V58 2 Nt.cl X l := h53.keepsN kV58
      have h61 : Sl V58 2 Nt.cl Y xs := h54.keepsN kV58
      have K62 := K55.nn kV58
      have z63 := kV58.size
      refine skq (iN k) <| skq (Y) <| spq (iN xs.length) (exec_len_sl (.tmp 83) 22 46 (by kernel_rfl) Tryz.underlying22 (by kernel_rfl) h61) <| spq (.bool false) (dcf ((((k : Nat) : Int)) ≥ (((xs.length : Nat) : Int))) (by omega)) <| skq (.bool false) <| skq (Y) <| skq (iN k) <| spq (pT b_x (o_x + k * 2)) (exec_indexAt_slice 22 (.tmp 87) (.tmp 88) (by kernel_rfl) b_x o_x xs.length c_x (Eq.trans (b := Y) (by kernel_rfl) hv_x) .i64 k (by kernel_rfl) _ 2 Tryz.underlying22 (by kernel_rfl) (by omega)) <| spq (.agg y.c) (exec_load_mid 46 (.tmp 89) (by kernel_rfl) b_x (o_x + k * 2) (by kernel_rfl) (Nt.cl y) _ (Sl.range h61 hxk hv_x) Tryz.underlying46 rfl (by kernel_rfl)) <| skq (X) <| skq (iN i) <| spq (pT b_l (o_l + i * 2)) (exec_indexAt_slice 22 (.tmp 91) (.tmp 92) (by kernel_rfl) b_l o_l l.length c_l (Eq.trans (b := X) (by kernel_rfl) hv_l) .i64 i (by kernel_rfl) _ 2 Tryz.underlying22 (by kernel_rfl) (by omega)) <| spq (.agg y.c) (exec_load_mid 46 (.tmp 93) (by kernel_rfl) b_l (o_l + i * 2) (by kernel_rfl) (Nt.cl y) _ (Sl.range h60 hy hv_l) Tryz.underlying46 rfl (by kernel_rfl)) <| spq (.bool false) (exec_cast (congrArg Value.bool (by rw [decide_eq_true rfl]; rfl)) (exec_binop .neq 46 46 (.tmp 90) (.tmp 94) (by kernel_rfl) (.agg y.c) (.agg y.c) _ (by kernel_rfl) (by kernel_rfl) (run_eqGuard_agg _ _ _ _ _ _ _ note_guard) (note_ne _ _ _))) ?_
      refine st_end <| ls_run (qo80_0 2096420 14) (.bool false) (w' := V58) (by kernel_rfl) (by kernel_rfl) <| ls_end <| sy_a ⟨#[.int .i64 window, v1, .int .i64 (1 + (hw % 700)), ud, ud, ud, u6, .bool true, pT gp 0, X, .bool true, Y, .int .i64 0, uN n, .int .i64 0, iN k, uN sm, iN i, .bool true, v1, iN ns.length, .bool false, ud, .int .i64 window, .agg (pOf 0 1 window).cells, .tuple #[X, .bool true], v1, .tuple #[X, .bool true], X, .bool true, .int .i64 hw, .int .i64 (hw % 700), .int .i64 (1 + (hw % 700)), .tuple #[Y, .int .i64 0], .agg ((pOf 0 1 window).cells), X, .int .i64 (1 + (hw % 700)), .tuple #[Y, .int .i64 0], Y, .int .i64 0, .tuple #[uN n, .int .i64 0], .agg ((pOf 0 1 window).cells), X, .int .i64 (1 + (hw % 700)), .tuple #[uN n, .int .i64 0], uN n, .int .i64 0, .bool true, .bool false, .bool false, .int .i64 0, .bool false, .bool false, .bool false, .int .i64 0, .bool false, .bool false, iN i, X, iN l.length, .bool true, u61, u62, .int .i64 (1 + (hw % 700)), X, iN i, pT b_l (o_l + i * 2), pT b_l (o_l + i * 2 + 0), .int .i64 y.h, .bool false, .bool false, .int .i64 (1 + (hw % 700)), X, iN i, pT b_l (o_l + i * 2), pT b_l (o_l + i * 2 + 0), .int .i64 y.h, pT gp 9, .int .i64 (1 + window % 60), .int .i64 (y.h + (1 + window % 60)), .bool false, .bool false, iN k, Y, iN xs.length, .bool false, .bool false, Y, iN k, pT b_x (o_x + k * 2), .agg y.c, X, iN i, pT b_l (o_l + i * 2), .agg y.c, .bool false, .bool false, u97, u98, u99, u100, u101, u102, u103, u104, u105, u106, ud, ud, ud, ud, ud, ud, ud, ud, ud, ud, ud, ud], []⟩ <| then_n <| n_ <| s_ <| tqr_ [0, 1, 2] <| pkq (iN k) <| ppq (iN (k + 1)) (exec_cast (congrArg (Value.int .i64) (wrapN (k + 1) (by omega))) (by kernel_rfl)) <| pkq (iN (k + 1)) <| er_ [0, 1, 2, 3, 4, 5, 6, 7, 8] <| pkq (uN sm) <| pkq (X) ?_
      refine pkq (iN i) <| ppq (pT b_l (o_l + i * 2)) (exec_indexAt_slice 22 (.tmp 100) (.tmp 101) (by kernel_rfl) b_l o_l l.length c_l (Eq.trans (b := X) (by kernel_rfl) hv_l) .i64 i (by kernel_rfl) _ 2 Tryz.underlying22 (by kernel_rfl) (by omega)) <| pkq (pT b_l (o_l + i * 2 + 1)) <| ppq (uN y.s) (ldc 40 b_l (o_l + i * 2 + 1) (Sl.cell h60 hy hv_l rfl)) <| ppq (uN s1) (exec_cast (congrArg (Value.int .u64) ((wrapU (sm + y.s) (by omega)).trans (congrArg (fun n : Nat => (n : Int)) hs1))) (by kernel_rfl)) <| ppq (uN s2) (exec_cast (congrArg (Value.int .u64) ((nat_min s1 4611686018427387904).trans (congrArg (fun n : Nat => (n : Int)) hs2))) (nexec_min (.tmp 105) (.const (.int .u64 4611686018427387904)) #[40, 40] (by kernel_rfl) .u64 ((s1 : Nat) : Int) 4611686018427387904 (by kernel_rfl) (by kernel_rfl))) <| pkq (uN s2) <| ps_end <| blk_n <| tr_ [0, 1, 2] <| pkq (iN i) <| ppq (iN (i + 1)) (exec_cast (congrArg (Value.int .i64) (wrapN (i + 1) (by omega))) (by kernel_rfl)) <| pkq (iN (i + 1)) <| et_ ?_
      refine ⟨⟨i + 1, k + 1, s2, u6, (iN i), X, (iN l.length), (.bool true), (iN i), (iN (i + 1)), (.int .i64 (1 + (hw % 700))), X, (iN i), (pT b_l (o_l + i * 2)), (pT b_l (o_l + i * 2 + 0)), (.int .i64 y.h), (.bool false), (.bool false), (.int .i64 (1 + (hw % 700))), X, (iN i), (pT b_l (o_l + i * 2)), (pT b_l (o_l + i * 2 + 0)), (.int .i64 y.h), (pT gp 9), (.int .i64 (1 + window % 60)), (.int .i64 (y.h + (1 + window % 60))), (.bool false), (.bool false), (iN k), Y, (iN xs.length), (.bool false), (.bool false), Y, (iN k), (pT b_x (o_x + k * 2)), (.agg y.c), X, (iN i), (pT b_l (o_l + i * 2)), (.agg y.c), (.bool false), (.bool false), (iN k), (iN (k + 1)), (uN sm), X, (iN i), (pT b_l (o_l + i * 2)), (pT b_l (o_l + i * 2 + 1)), (uN y.s), (uN s1), (uN s2), by kernel_rfl, by omega, by omega, by omega, hkn, hsn, h59, h60, h61, K62⟩, ?_⟩
      exact lt_meas (x := l.length - (i + 1)) (y := l.length - i) (by kernel_rfl) (by kernel_rfl) (by omega)
    · rw [eq_i, List.take_length, hxs] at hkl hsm
      have hns : n = sm := by rw [← hsm]; exact hnx
      refine q_ <| qr_ [0, 1, 2, 3] <| pkq (iN i) <| pkq (X) <| ppq (iN l.length) (exec_len_sl (.tmp 58) 22 46 (by kernel_rfl) Tryz.underlying22 (by kernel_rfl) h33) <| ppq (.bool false) (dcf ((((i : Nat) : Int)) < (((l.length : Nat) : Int))) (by omega)) <| en_ <| sy_exit 0 (by kernel_rfl) <| then_e <| then_e <| blk_e <| tqr_ [0, 1, 2, 3, 4, 5, 6, 7, 8, 9, 10, 11, 12] <| pkq (.bool true) <| pkq (.bool true) ?_
      refine pkq (iN k) <| pkq (Y) <| ppq (iN xs.length) (exec_len_sl (.tmp 110) 22 46 (by kernel_rfl) Tryz.underlying22 (by kernel_rfl) h34) <| ppq (.bool true) (eqt (((k : Nat) : Int)) (((xs.length : Nat) : Int)) (by omega)) <| pkq (.bool true) <| pkq (.bool true) <| pkq (uN n) <| pkq (uN sm) <| ppq (.bool true) (eqt (((n : Nat) : Int)) (((sm : Nat) : Int)) (by omega)) <| pkq (.bool true) <| pkq (.bool true) <| eu_ <| so_ (.bool true) ?_
      exact ⟨rfl, K35⟩
theorem counts_all (window : Int) (_ : -9223372036854775808 ≤ window ∧ window ≤ 9223372036854775807) (v1 : Value) (ns : List Nat) (hw : Int) (_ : -9223372036854775808 ≤ hw ∧ hw ≤ 9223372036854775807) (w : World) (hns : Sl w 1 Gc v1 ns ∧ ∀ x ∈ ns, x < 18446744073709551616) (het : ErrTab w) : Calls Tryz.prog 6 #[.int .i64 window, v1, .int .i64 hw] w (fun e w' => e = .returned (.bool true) ∧ Keeps Nob w w') := by
  by_cases h20 : 20 < ns.length
  · exact counts_long window v1 ns hw hns.2 w hns.1 het h20
  · exact counts_short window v1 ns hw hns.2 w hns.1 het h20
end Go.Proofs.YtghohakbepeffaaGreatDoor
namespace Go.Proofs.YtghohakbepeffaaGreatDoor.penaltyCounts
open Go.ChangeShapes Go.WideShapes Go.ChangeAt Go.RowKit Go.Own
open Go.ChangeMaps (open_string shut_string)
theorem own : ownKnob Tryz.prog.godebug = none := by kernel_rfl
theorem laid : laidOutB Tryz.prog = true := by kernel_rfl
set_option maxRecDepth 100000 in
theorem lifted (os : Os) (started : os.Started) (H : Type) (enc : TypeId × Value → H) :
    ReturnsInHanded {} Tryz.checked os 6 .any (fun w args => (Rows.penaltyCountsSpec.pre enc Tryz.prog Tryz.f6 Rows.penaltyCountsRow.domain false w args ∧ laidMetH Tryz.prog Rows.penaltyCountsRow.laid w) ∧ sizedMet enc Tryz.prog Tryz.f6 (OpenSpec.ofChange Rows.penaltyCountsSpec) false w args)
      (Rows.penaltyCountsSpec.post enc Tryz.prog Tryz.f6 false true false false) := by
  refine returnsInHanded_of_change_and (C := Tryz.checked) (X := fun w _ => laidMetH Tryz.prog Rows.penaltyCountsRow.laid w) (fun _ _ _ hh h => h.of_heap hh) own started (by kernel_rfl) Tryz.func6
    (ChangeSpec.witness_at (enc := enc) (C := Tryz.checked) (os := os) (X := fun w _ => laidMetH Tryz.prog Rows.penaltyCountsRow.laid w) false (laidWorld os) #[.int .i64 0, .slice none 0 0, .int .i64 0] 8 rfl (by kernel_rfl) (by kernel_rfl) (by kernel_rfl) (by kernel_rfl) (by kernel_rfl) (laidWorld_met os _)) ?_
  intro W base args ds gs before hval0 hW hcnd _ hL hsz0
  have hval : ∀ (j : Nat) t v, Tryz.f6.params[j]? = some t → args[j]? = some v → Value.okWide Tryz.prog W .any base t v := hval0
  have hW' := hW
  obtain ⟨p, q, hA0, hV, rfl, hfz, hnd⟩ := hW
  have hA : DataW.TrodAll enc Tryz.prog W 0 (fun _ => true) true Tryz.f6.params.toList args.toList ds p := hA0
  rw [Tryz.params6] at hA hval
  obtain ⟨v0, vs0, d0, ds0, p0, q0, hargs, rfl, rfl, h0, r0⟩ := trodAll_cons hA
  obtain ⟨v1, vs1, d1, ds1, p1, q1, rfl, rfl, rfl, h1, r1⟩ := trodAll_cons r0
  obtain ⟨v2, vs2, d2, ds2, p2, q2, rfl, rfl, rfl, h2, r2⟩ := trodAll_cons r1
  obtain ⟨rfl, rfl, rfl⟩ := trodAll_nil r2
  obtain rfl : args = #[v0, v1, v2] := by cases args; simp_all
  obtain ⟨rfl, rfl⟩ := trodVars_none hV
  obtain ⟨a0, rfl, rfl, rfl, w0⟩ := open_int Tryz.underlying3 (hval 0 3 v0 rfl rfl) h0
  obtain ⟨l1, hl1⟩ := open_words h1 (okWide_slice Tryz.underlying49 (hval 1 49 v1 rfl rfl))
  obtain ⟨a2, rfl, rfl, rfl, w2⟩ := open_int Tryz.underlying3 (hval 2 3 v2 rfl rfl) h2
  clear hA0 hval0
  refine (counts_all a0 (bounds_i64 w0) v1 l1 a2 (bounds_i64 w2) W hl1 (err_tab hL)).mono fun e W' ⟨he, hg⟩ => ?_
  subst he
  exact ⟨_, rfl, law_post laid (by kernel_rfl) rfl Tryz.underlying4 rfl rfl hW' (hg.below (Nat.le_refl _) (fun _ _ x => x))⟩
theorem row : Rows.PenaltyCountsSaid :=
  OpenClaim.holds_of_wide 6 Tryz.f6 rfl rfl rfl rfl rfl rfl rfl ⟨rfl, rfl, rfl, rfl, rfl⟩ rfl rfl rfl rfl rfl (by kernel_rfl) Tryz.func6 (by kernel_rfl)
    (of_decide_eq_true (by kernel_rfl)) (by unfold Func.isWrapper; first | (rw [if_pos (by decide +kernel)]; kernel_rfl) | (rw [if_neg (by decide +kernel)]; exact ⟨rfl, rfl⟩))
    (fun os started H enc _ => lifted os started H enc)
theorem proved : Rows.PenaltyCountsCardSaid :=
  Claim7.holds_tied_plain_at .later [] Rows.penaltyCountsCard.laidKinds true Rows.penaltyCountsCard.stood.harness Rows.penaltyCountsCard.stood.looks row (fun _ h => by cases h) (by kernel_rfl) (fun _ h => by cases h) penaltyCounts_row_tie rfl ⟨rfl, rfl⟩ (by kernel_rfl) rfl
    (fun f fn hf hfn => by
      obtain rfl : f = 6 := Option.some.inj ((show Tryz.prog.funcNamed Rows.penaltyCountsRow.func = some 6 by kernel_rfl).symm.trans hf) |>.symm
      obtain rfl : fn = Tryz.f6 := (Option.some.inj (Tryz.func6.symm.trans hfn)).symm
      exact ⟨by kernel_rfl, fun j t ht => by
        have hall : (Tryz.f6.params.toList.all fun u => !Tryz.prog.wantsStandIn u) = true := by kernel_rfl
        exact (show Tryz.prog.wantsStandIn t = false by simpa using List.all_eq_true.1 hall t (by simpa using Array.mem_of_getElem? ht))⟩)
    (by kernel_rfl)
end Go.Proofs.YtghohakbepeffaaGreatDoor.penaltyCounts
