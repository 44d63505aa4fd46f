/-
  PenaltyBack proved: for every input the law returns true, and each argument reads as it did. Conditions: none.
-/
import Derived.Test.YtghohakbepeffaaGreatDoorPenaltyBackP5
namespace Go.Proofs.YtghohakbepeffaaGreatDoor
set_option maxRecDepth 100000
set_option maxHeartbeats 4000000
open Go Go.RowKit Go.Own Go.Shelf
theorem nfault_guard : Tryz.prog.eqGuardType Tryz.prog.depth 31 = false := by kernel_rfl
theorem nfault_equal (x y a b : Int) (w : World) : (Op.equalIn 10000 31 (.agg #[.int .i64 x, .int .i64 y]) (.agg #[.int .i64 a, .int .i64 b])).run Tryz.prog w = .ok (decide (x = a ∧ y = b)) w := by
  rw [run_equalIn_struct w 9999 31 _ _ (by kernel_rfl) (by kernel_rfl)]
  simp only [Program.fieldsOf, Tryz.underlying31]
  rw [nq_int (d := 9998) (k := .i64) (a := x) (b := a) w (by decide) Tryz.underlying27 (by kernel_rfl) rfl rfl, nq_int (d := 9998) (k := .i64) (a := y) (b := b) w (by decide) Tryz.underlying3 (by kernel_rfl) rfl rfl]
  simp only [Op.eqFields, Sem.run_pure]
  by_cases h0 : x = a
  · by_cases h1 : y = b <;> simp [h0, h1]
  · simp [h0]
theorem nfault_eq (x y a b : Int) (w : World) : (binOp .eql 31 (.agg #[.int .i64 x, .int .i64 y]) (.agg #[.int .i64 a, .int .i64 b])).run Tryz.prog w = .ok (.bool (decide (x = a ∧ y = b))) w := by rw [run_eql_struct, nfault_equal]; rfl
theorem nfault_ne (x y a b : Int) (w : World) : (binOp .neq 31 (.agg #[.int .i64 x, .int .i64 y]) (.agg #[.int .i64 a, .int .i64 b])).run Tryz.prog w = .ok (.bool (!decide (x = a ∧ y = b))) w := by rw [run_neq_struct, nfault_equal]; rfl
theorem bytes_lit {w : World} {g n cap : Nat} {cs : Array Value} {T : TypeId} (l : List UInt8) (h : w.heap[g]? = some (.cells cs T (0, 0))) (hc : cs = (B l).toArray) (hn : n = l.length) (hcap : cap = l.length) (hm : l.length ≤ maxLen) : BytesAt w (.slice (some ⟨g, 0, none⟩) n cap) l := by
  subst hn; subst hcap
  exact ⟨⟨_, _, rfl, Nat.le_refl _, hm, fun h => by cases h⟩, fun k x hx => ⟨g, 0, _, rfl, lt_of_block h, by rw [Nat.zero_add]; exact rc h (by rw [hc, List.getElem?_toArray]; simp only [B, List.getElem?_map, hx, Option.map_some])⟩⟩
theorem nsame_bytes {w : World} {a b : Value} {l m : List UInt8} (r : Bool) (ha : BytesAt w a l) (hb : BytesAt w b m) (he : (l == m) = r) : Calls Tryz.prog 15 #[a, b] w fun e w' => e = .returned (.bool r) ∧ w = w' := he ▸ sameBytes_ok a b l m w ha hb
theorem nadd_is {l : List Nt} {x : Nt} {er : Int} {args : Array Value} {w : World} (h1 : (nadd l x).2 = er) (h : Calls Tryz.prog 56 args w (fun e w' => ∃ X, e = .returned (.tuple #[X, .int .i64 (nadd l x).2]) ∧ Row w' 46 2 X ((nadd l x).1).length (((nadd l x).1).flatMap Nt.cl) ∧ NewFrom w.heap.size X ∧ Keeps Nob w w')) : Calls Tryz.prog 56 args w (fun e w' => ∃ X, e = .returned (.tuple #[X, .int .i64 er]) ∧ Row w' 46 2 X ((nadd l x).1).length (((nadd l x).1).flatMap Nt.cl) ∧ NewFrom w.heap.size X ∧ Keeps Nob w w') := h1 ▸ h
noncomputable def qc78_2 (n : Nat) : Code := partOf Tryz.f23 n
theorem lnadds_ok (h : Int) (s : Nat) (er : Int) (her : (nadd ntwo ⟨h, s⟩).2 = er) (w : World) (het : ErrTab w) :
    Calls Tryz.prog 23 #[.int .i64 h, .int .u64 ((s : Nat) : Int)] w (fun e w' => e = .returned (.int .i64 er) ∧ Keeps Nob w w') := by
  have K0 : Keeps Nob w w := Keeps.refl _ _
  refine sy_enter (qc78_2 1) ⟨#[.int .i64 h, uN s, ud, ud, ud, ud, ud, ud, ud, ud, ud, ud, ud, ud, ud, ud], []⟩ Tryz.func23 (by kernel_rfl) (by kernel_rfl) <| qr_ [0] <| pkq (.int .i64 0) <| eqr_ [0, 1, 2, 3, 4, 5, 6, 7, 8, 9] ?_
  refine pcq 21 #[] Tryz.func21 ((lntwo_ok _).mono ?_)
  rintro e V1 ⟨ga, rfl, h2, nga, kV1⟩
  refine ⟨_, rfl, ?_⟩
  have K3 := K0.nn kV1
  have z4 := kV1.size
  refine pkq (.int .i64 h) <| pkq (uN s) <| pkq (.agg #[.int .i64 h, uN s]) ?_
  refine pcq 56 #[.slice (some ⟨ga, 0, none⟩) 2 2, .agg #[.int .i64 h, uN s]] Tryz.func56 ((nadd_is her (nAdd_all ntwo ⟨h, s⟩ _ _ (two_all h2) (ErrTab.keeps het K3))).mono ?_)
  rintro e V5 ⟨X, rfl, hX, hXn, kV5⟩
  refine ⟨_, rfl, ?_⟩
  have K7 := K3.nn kV5
  have z8 := kV5.size
  refine pkq (.tuple #[X, .int .i64 er]) <| pkq (X) <| pkq (.int .i64 er) <| pkq (X) <| pkq (.int .i64 er) <| eqr_ [0, 1] <| pkq (.int .i64 er) <| pkq (.int .i64 er) <| eu_ <| so_ (.int .i64 er) ?_
  exact ⟨rfl, K7⟩
theorem nread_is {l : List UInt8} {fe fp : Int} {args : Array Value} {w : World} (h1 : (nread l).2.1 = fe) (h2 : (nread l).2.2 = fp) (h : Calls Tryz.prog 13 args w (fun e w' => ∃ X, e = .returned (.tuple #[X, .agg #[.int .i64 (nread l).2.1, .int .i64 (nread l).2.2]]) ∧ Row w' 46 2 X (nread l).1.length ((nread l).1.flatMap Nt.cl) ∧ NewFrom w.heap.size X ∧ Keeps Nob w w')) : Calls Tryz.prog 13 args w (fun e w' => ∃ X, e = .returned (.tuple #[X, .agg #[.int .i64 fe, .int .i64 fp]]) ∧ Row w' 46 2 X (nread l).1.length ((nread l).1.flatMap Nt.cl) ∧ NewFrom w.heap.size X ∧ Keeps Nob w w') := h1 ▸ h2 ▸ h
theorem ncheck_is2 (l : List Nt) (v : Value) (x y : Int) (w : World) (hl : Sl w 2 Nt.cl v l) (het : ErrTab w) (hx : ncheck l = (x, y)) : Calls Tryz.prog 22 #[v] w (fun e w' => e = .returned (.tuple #[.int .i64 x, .int .i64 y]) ∧ Keeps Nob w w') := by have h := nCheck_ok l v w hl het; rw [hx] at h; exact h
noncomputable def qc78_1 (n : Nat) : Code := partOf Tryz.f24 n
theorem lnreads_ok (v0 : Value) (l : List UInt8) (fe fp : Int) (hr1 : (nread l).2.1 = fe) (hr2 : (nread l).2.2 = fp) (w : World) (hx : BytesAt w v0 l) (hl : l.length ≤ 100000000) :
    Calls Tryz.prog 24 #[v0] w (fun e w' => e = .returned (.agg #[.int .i64 fe, .int .i64 fp]) ∧ Keeps Nob w w') := by
  have K0 : Keeps Nob w w := Keeps.refl _ _
  refine sy_enter (qc78_1 1) ⟨#[v0, ud, ud, ud, ud, ud, ud, ud, ud, ud, ud], []⟩ Tryz.func24 (by kernel_rfl) (by kernel_rfl) <| qr_ [0] <| pal 31 (#[.int .i64 0, .int .i64 0]) (.agg (#[.int .i64 0, .int .i64 0])) fun V1 r2 er2 h2 kV1 => ?_
  have n3 : w.heap.size ≤ r2 := er2 ▸ K0.size
  have K4 := K0.nn kV1
  have z5 := kV1.size
  refine eqr_ [0, 1, 2, 3, 4, 5, 6, 7] <| pkq (v0) ?_
  refine pcq 13 #[v0] Tryz.func13 ((nread_is hr1 hr2 (nRead_ok v0 l _ (hx.keepsN K4) hl)).mono ?_)
  rintro e V6 ⟨X, rfl, hX, hXn, kV6⟩
  refine ⟨_, rfl, ?_⟩
  have h7 := kV6.bk h2
  have K8 := K4.nn kV6
  have z9 := kV6.size
  refine pkq (.tuple #[X, .agg #[.int .i64 fe, .int .i64 fp]]) <| pkq (X) <| pkq (.agg #[.int .i64 fe, .int .i64 fp]) <| pal 31 (#[.int .i64 0, .int .i64 0]) (.agg (#[.int .i64 0, .int .i64 0])) fun V10 gf egf h11 kV10 => ?_
  have n12 : r2 < gf := egf ▸ lt_of_block h7
  have n13 : w.heap.size ≤ gf := egf ▸ K8.size
  have h14 := kV10.bk h7
  have K15 := K8.nn kV10
  have z16 := kV10.size
  refine pkq (X) <| pst 31 gf (#[.int .i64 fe, .int .i64 fp]) h11 (by kernel_rfl) rfl (by kernel_rfl) fun V17 h18 kV17 => ?_
  have h19 := kV17.bO h14
  have K20 := K15.nO kV17
  have z21 := kV17.size
  refine eqr_ [0, 1] <| ppq (.agg #[.int .i64 fe, .int .i64 fp]) (ldr 31 gf (h18) (by kernel_rfl)) <| pst 31 r2 (#[.int .i64 fe, .int .i64 fp]) h19 (by kernel_rfl) rfl (by kernel_rfl) fun V22 h23 kV22 => ?_
  have K25 := K20.nO kV22
  have z26 := kV22.size
  refine eu_ <| sy_out (.agg (#[.int .i64 fe, .int .i64 fp])) rfl (results_cell_row (p := 2) (ty := 31) (by kernel_rfl) _ _ r2 31 (#[.int .i64 fe, .int .i64 fp]) (0, 0) _ (by kernel_rfl) h23 Tryz.underlying31 rfl (by kernel_rfl)) ?_
  exact ⟨rfl, K25⟩
theorem nbytes_is2 {l : List Nt} {bs : List UInt8} {er : Int} {args : Array Value} {w : World} (h1 : nbytes l = (bs, er)) (h : Calls Tryz.prog 11 args w (fun e w' => ∃ X, e = .returned (.tuple #[X, .int .i64 (nbytes l).2]) ∧ Row w' 5 1 X (nbytes l).1.length (B (nbytes l).1) ∧ NewFrom w.heap.size X ∧ Keeps Nob w w')) : Calls Tryz.prog 11 args w (fun e w' => ∃ X, e = .returned (.tuple #[X, .int .i64 er]) ∧ Row w' 5 1 X bs.length (B bs) ∧ NewFrom w.heap.size X ∧ Keeps Nob w w') := by rw [h1] at h; exact h
noncomputable def qc78_0 (n : Nat) : Code := partOf Tryz.f4 n
theorem known_ok (w : World) (het : ErrTab w) :
    Calls Tryz.prog 4 #[] w (fun e w' => e = .returned (.bool true) ∧ Keeps Nob w w') := by
  have K0 : Keeps Nob w w := Keeps.refl _ _
  refine sy_enter (qc78_0 1) ⟨#[ud, ud, ud, ud, ud, ud, ud, ud, ud, ud, ud, ud, ud, ud, ud, ud, ud, ud, ud, ud, ud, ud, ud, ud, ud, ud, ud, ud, ud, ud, ud, ud, ud, ud, ud, ud, ud, ud, ud, ud, ud, ud, ud, ud, ud, ud, ud, ud, ud, ud, ud, ud, ud, ud, ud, ud, ud, ud, ud, ud, ud, ud, ud, ud, ud, ud, ud, ud, ud, ud, ud, ud, ud, ud, ud, ud, ud, ud, ud, ud, ud, ud, ud, ud, ud, ud, ud, ud, ud, ud, ud, ud, ud, ud, ud, ud, ud, ud, ud, ud, ud, ud, ud, ud, ud, ud, ud, ud], []⟩ Tryz.func4 (by kernel_rfl) (by kernel_rfl) <| qr_ [0] <| pkq (.bool false) <| eqr_ [0, 1, 2, 3, 4, 5, 6, 7, 8, 9, 10, 11, 12, 13, 14, 15, 16, 17, 18] ?_
  refine pcq 18 #[.int .i64 9, .int .i64 0, .int .i64 0] Tryz.func18 ((lnlive_c _ (ErrTab.keeps het K0)).mono ?_)
  rintro e V1 ⟨rfl, kV1⟩
  refine ⟨_, rfl, ?_⟩
  have K2 := K0.nn kV1
  have z3 := kV1.size
  refine pkq (.bool true) ?_
  refine pcq 19 #[.int .i64 90, .int .u64 0] Tryz.func19 ((lnnoted_ok 90 0 (by unfold i64ok; omega) (by decide) (by decide) _ (ErrTab.keeps het K2)).mono ?_)
  rintro e V4 ⟨rfl, kV4⟩
  refine ⟨_, rfl, ?_⟩
  have K5 := K2.nn kV4
  have z6 := kV4.size
  refine pkq (.bool true) <| pkq (.bool true) ?_
  refine pcq 21 #[] Tryz.func21 ((lntwo_ok _).mono ?_)
  rintro e V7 ⟨ga, rfl, h8, nga, kV7⟩
  refine ⟨_, rfl, ?_⟩
  have K9 := K5.nn kV7
  have z10 := kV7.size
  refine pcq 20 #[.slice (some ⟨ga, 0, none⟩) 2 2, .int .i64 59, .int .u64 0, .int .u64 0, .int .u64 50000000, .int .i64 0] Tryz.func20 ((lncut_ok ntwo _ 59 0 0 50000000 0 (by unfold i64ok; omega) (by decide) (by decide) (by decide) _ (two_all h8) (ErrTab.keeps het K9)).mono ?_)
  rintro e V11 ⟨rfl, kV11⟩
  refine ⟨_, rfl, ?_⟩
  have h12 := kV11.bk h8
  have K13 := K9.nn kV11
  have z14 := kV11.size
  refine pkq (.bool true) <| pkq (.bool true) ?_
  refine pcq 20 #[.slice none 0 0, .int .i64 1, .int .u64 1, .int .u64 7, .int .u64 478571428, .int .i64 0] Tryz.func20 ((lncut_ok [] _ 1 1 7 478571428 0 (by unfold i64ok; omega) (by decide) (by decide) (by decide) _ (Sl.nil _ _ _) (ErrTab.keeps het K13)).mono ?_)
  rintro e V15 ⟨rfl, kV15⟩
  refine ⟨_, rfl, ?_⟩
  have h16 := kV15.bk h12
  have K17 := K13.nn kV15
  have z18 := kV15.size
  refine pkq (.bool true) <| pkq (.bool true) ?_
  refine pcq 20 #[.slice none 0 0, .int .i64 1, .int .u64 4611686018427387905, .int .u64 1, .int .u64 0, .int .i64 12] Tryz.func20 ((lncut_ok [] _ 1 4611686018427387905 1 0 12 (by unfold i64ok; omega) (by decide) (by decide) (by decide) _ (Sl.nil _ _ _) (ErrTab.keeps het K17)).mono ?_)
  rintro e V19 ⟨rfl, kV19⟩
  refine ⟨_, rfl, ?_⟩
  have h20 := kV19.bk h16
  have K21 := K17.nn kV19
  have z22 := kV19.size
  refine pkq (.bool true) <| pkq (.bool true) ?_
  refine pcq 21 #[] Tryz.func21 ((lntwo_ok _).mono ?_)
  rintro e V23 ⟨gb, rfl, h24, ngb, kV23⟩
  refine ⟨_, rfl, ?_⟩
  have h25 := kV23.bk h20
  have K26 := K21.nn kV23
  have z27 := kV23.size
  refine pcq 20 #[.slice (some ⟨gb, 0, none⟩) 2 2, .int .i64 0, .int .u64 1, .int .u64 1, .int .u64 0, .int .i64 3] Tryz.func20 ((lncut_ok ntwo _ 0 1 1 0 3 (by unfold i64ok; omega) (by decide) (by decide) (by decide) _ (two_all h24) (ErrTab.keeps het K26)).mono ?_)
  rintro e V28 ⟨rfl, kV28⟩
  refine ⟨_, rfl, ?_⟩
  have h29 := kV28.bk h25
  have h30 := kV28.bk h24
  have K31 := K26.nn kV28
  have z32 := kV28.size
  refine pkq (.bool true) <| pkq (.bool true) <| eqr_ [0, 1, 2, 3, 4, 5, 6, 7, 8] <| pkq (.agg #[.int .i64 10, .int .u64 1]) <| pkq (.agg #[.int .i64 9, .int .u64 1]) ?_
  obtain ⟨V33, eV33, qa, eqa, h34, kV33⟩ := alloc_step V28 #[.int .i64 10, .int .u64 1, .int .i64 9, .int .u64 1] 46
  have n35 : ga < qa := eqa ▸ lt_of_block h29
  have n36 : gb < qa := eqa ▸ lt_of_block h30
  have n37 : w.heap.size ≤ qa := eqa ▸ K31.size
  refine prq (.slice (some ⟨qa, 0, none⟩) 2 2) (w' := V33) (by rw [← eV33, ← eqa]; kernel_rfl) ?_
  clear eV33
  have h38 : V33.heap[qa]? = some (.cells ((([⟨10, 1⟩, ⟨9, 1⟩] : List Nt).flatMap Nt.cl).toArray) 46 (0, 0)) := h34
  have h39 := kV33.bk h29
  have h40 := kV33.bk h30
  have K41 := K31.nn kV33
  have z42 := kV33.size
  refine pcq 22 #[.slice (some ⟨qa, 0, none⟩) 2 2] Tryz.func22 ((ncheck_is2 [⟨10, 1⟩, ⟨9, 1⟩] _ 9 1 _ (notes_block (xs := [⟨10, 1⟩, ⟨9, 1⟩]) h38 rfl (by decide) (by decide)) (ErrTab.keeps het K41) (by decide)).mono ?_)
  rintro e V43 ⟨rfl, kV43⟩
  refine ⟨_, rfl, ?_⟩
  have h44 := kV43.bk h39
  have h45 := kV43.bk h40
  have h46 := kV43.bk h38
  have K47 := K41.nn kV43
  have z48 := kV43.size
  refine pkq (.tuple #[.int .i64 9, .int .i64 1]) <| pkq (.int .i64 9) <| pkq (.int .i64 1) <| pkq (.int .i64 9) <| pkq (.int .i64 1) <| ps_end <| sy_a ⟨#[.bool false, .bool true, .int .i64 9, .int .i64 1, ud, ud, ud, ud, ud, ud, .bool true, .bool true, .bool true, .bool true, .bool true, .slice (some ⟨ga, 0, none⟩) 2 2, .bool true, .bool true, .bool true, .bool true, .bool true, .bool true, .bool true, .bool true, .bool true, .slice (some ⟨gb, 0, none⟩) 2 2, .bool true, .bool true, .tuple #[.int .i64 9, .int .i64 1], .agg #[.int .i64 10, .int .u64 1], .agg #[.int .i64 9, .int .u64 1], .slice (some ⟨qa, 0, none⟩) 2 2, .tuple #[.int .i64 9, .int .i64 1], .int .i64 9, .int .i64 1, ud, ud, ud, ud, ud, ud, ud, ud, ud, ud, ud, ud, ud, ud, ud, ud, ud, ud, ud, ud, ud, ud, ud, ud, ud, ud, ud, ud, ud, ud, ud, ud, ud, ud, ud, ud, ud, ud, ud, ud, ud, ud, ud, ud, ud, ud, ud, ud, ud, ud, ud, ud, ud, ud, ud, ud, ud, ud, ud, ud, ud, ud, ud, ud, ud, ud, ud, ud, ud, ud, ud, ud, ud], []⟩ <| tqr_ [0, 1, 2, 3, 4, 5, 6, 7, 8] <| pkq (.agg #[.int .i64 0, .int .u64 1]) <| pkq (.agg #[.int .i64 0, .int .u64 1]) ?_
  obtain ⟨V49, eV49, qb, eqb, h50, kV49⟩ := alloc_step V43 #[.int .i64 0, .int .u64 1, .int .i64 0, .int .u64 1] 46
  have n51 : ga < qb := eqb ▸ lt_of_block h44
  have n52 : gb < qb := eqb ▸ lt_of_block h45
  have n53 : qa < qb := eqb ▸ lt_of_block h46
  have n54 : w.heap.size ≤ qb := eqb ▸ K47.size
  refine prq (.slice (some ⟨qb, 0, none⟩) 2 2) (w' := V49) (by rw [← eV49, ← eqb]; kernel_rfl) ?_
  clear eV49
  have h55 : V49.heap[qb]? = some (.cells ((([⟨0, 1⟩, ⟨0, 1⟩] : List Nt).flatMap Nt.cl).toArray) 46 (0, 0)) := h50
  have h56 := kV49.bk h44
  have h57 := kV49.bk h45
  have h58 := kV49.bk h46
  have K59 := K47.nn kV49
  have z60 := kV49.size
  refine pcq 22 #[.slice (some ⟨qb, 0, none⟩) 2 2] Tryz.func22 ((ncheck_is2 [⟨0, 1⟩, ⟨0, 1⟩] _ 3 0 _ (notes_block (xs := [⟨0, 1⟩, ⟨0, 1⟩]) h55 rfl (by decide) (by decide)) (ErrTab.keeps het K59) (by decide)).mono ?_)
  rintro e V61 ⟨rfl, kV61⟩
  refine ⟨_, rfl, ?_⟩
  have h62 := kV61.bk h56
  have h63 := kV61.bk h57
  have h64 := kV61.bk h58
  have h65 := kV61.bk h55
  have K66 := K59.nn kV61
  have z67 := kV61.size
  refine pkq (.tuple #[.int .i64 3, .int .i64 0]) <| pkq (.int .i64 3) <| pkq (.int .i64 0) <| pkq (.int .i64 3) <| pkq (.int .i64 0) <| eqr_ [0, 1, 2, 3, 4, 5, 6, 7, 8, 9, 10, 11, 12, 13, 14, 15, 16, 17, 18, 19, 20, 21, 22, 23, 24, 25, 26] <| pkq (.int .i64 9) <| pkq (.bool true) <| pkq (.bool true) <| pkq (.int .i64 1) <| pkq (.bool true) <| pkq (.bool true) <| pkq (.bool true) <| pkq (.int .i64 3) ?_
  refine pkq (.bool true) <| pkq (.bool true) <| pkq (.bool true) <| pkq (.int .i64 0) <| pkq (.bool true) <| pkq (.bool true) <| pkq (.bool true) ?_
  refine pcq 23 #[.int .i64 40, .int .u64 4611686018427387904] Tryz.func23 ((lnadds_ok 40 4611686018427387904 0 (by decide) _ (ErrTab.keeps het K66)).mono ?_)
  rintro e V68 ⟨rfl, kV68⟩
  refine ⟨_, rfl, ?_⟩
  have h69 := kV68.bk h62
  have h70 := kV68.bk h63
  have h71 := kV68.bk h64
  have h72 := kV68.bk h65
  have K73 := K66.nn kV68
  have z74 := kV68.size
  refine pkq (.bool true) <| pkq (.bool true) <| pkq (.bool true) ?_
  refine pcq 23 #[.int .i64 39, .int .u64 1] Tryz.func23 ((lnadds_ok 39 1 9 (by decide) _ (ErrTab.keeps het K73)).mono ?_)
  rintro e V75 ⟨rfl, kV75⟩
  refine ⟨_, rfl, ?_⟩
  have h76 := kV75.bk h69
  have h77 := kV75.bk h70
  have h78 := kV75.bk h71
  have h79 := kV75.bk h72
  have K80 := K73.nn kV75
  have z81 := kV75.size
  refine pkq (.bool true) <| pkq (.bool true) <| pkq (.bool true) ?_
  refine pcq 23 #[.int .i64 41, .int .u64 4611686018427387905] Tryz.func23 ((lnadds_ok 41 4611686018427387905 3 (by decide) _ (ErrTab.keeps het K80)).mono ?_)
  rintro e V82 ⟨rfl, kV82⟩
  refine ⟨_, rfl, ?_⟩
  have h83 := kV82.bk h76
  have h84 := kV82.bk h77
  have h85 := kV82.bk h78
  have h86 := kV82.bk h79
  have K87 := K80.nn kV82
  have z88 := kV82.size
  refine pkq (.bool true) <| pkq (.bool true) <| pkq (.bool true) <| ps_end <| sy_a ⟨#[.bool false, .bool true, .int .i64 9, .int .i64 1, .int .i64 3, .int .i64 0, .bool true, ud, ud, ud, .bool true, .bool true, .bool true, .bool true, .bool true, .slice (some ⟨ga, 0, none⟩) 2 2, .bool true, .bool true, .bool true, .bool true, .bool true, .bool true, .bool true, .bool true, .bool true, .slice (some ⟨gb, 0, none⟩) 2 2, .bool true, .bool true, .tuple #[.int .i64 9, .int .i64 1], .agg #[.int .i64 10, .int .u64 1], .agg #[.int .i64 9, .int .u64 1], .slice (some ⟨qa, 0, none⟩) 2 2, .tuple #[.int .i64 9, .int .i64 1], .int .i64 9, .int .i64 1, .tuple #[.int .i64 3, .int .i64 0], .agg #[.int .i64 0, .int .u64 1], .agg #[.int .i64 0, .int .u64 1], .slice (some ⟨qb, 0, none⟩) 2 2, .tuple #[.int .i64 3, .int .i64 0], .int .i64 3, .int .i64 0, .int .i64 9, .bool true, .bool true, .int .i64 1, .bool true, .bool true, .bool true, .int .i64 3, .bool true, .bool true, .bool true, .int .i64 0, .bool true, .bool true, .bool true, .int .i64 0, .bool true, .bool true, .bool true, .int .i64 9, .bool true, .bool true, .bool true, .int .i64 3, .bool true, .bool true, ud, ud, ud, ud, ud, ud, ud, ud, ud, ud, ud, ud, ud, ud, ud, ud, ud, ud, ud, ud, ud, ud, ud, ud, ud, ud, ud, ud, ud, ud, ud, ud, ud, ud, ud, ud, ud, ud, ud, ud], []⟩ <| tqr_ [0, 1, 2, 3, 4, 5, 6] ?_
  refine pcq 21 #[] Tryz.func21 ((lntwo_ok _).mono ?_)
  rintro e V89 ⟨gd, rfl, h90, ngd, kV89⟩
  refine ⟨_, rfl, ?_⟩
  have h91 := kV89.bk h83
  have h92 := kV89.bk h84
  have h93 := kV89.bk h85
  have h94 := kV89.bk h86
  have K95 := K87.nn kV89
  have z96 := kV89.size
  refine pcq 11 #[.slice (some ⟨gd, 0, none⟩) 2 2] Tryz.func11 ((nbytes_is2 (bs := [2, 10, 100, 40, 200, 1]) (er := 0) (by decide +kernel) (nBytes_all ntwo _ _ (two_all h90) (ErrTab.keeps het K95))).mono ?_)
  rintro e V97 ⟨X, rfl, hX, hXn, kV97⟩
  refine ⟨_, rfl, ?_⟩
  have h98 := kV97.bk h91
  have h99 := kV97.bk h92
  have h100 := kV97.bk h93
  have h101 := kV97.bk h94
  have h102 := kV97.bk h90
  have K103 := K95.nn kV97
  have z104 := kV97.size
  refine pkq (.tuple #[X, .int .i64 0]) <| pkq (X) <| pkq (.int .i64 0) <| pkq (X) <| pkq (.int .i64 0) <| eqr_ [0, 1, 2, 3, 4, 5, 6, 7, 8, 9, 10, 11, 12, 13, 14, 15, 16, 17, 18, 19, 20, 21, 22, 23, 24, 25] <| pkq (.int .i64 0) <| pkq (.bool true) <| pkq (.bool true) <| pkq (X) ?_
  obtain ⟨V105, eV105, y1, ey1, h106, kV105⟩ := alloc_step V97 (#[.int .u8 2, .int .u8 10, .int .u8 100, .int .u8 40, .int .u8 200, .int .u8 1]) 5
  have n107 : ga < y1 := ey1 ▸ lt_of_block h98
  have n108 : gb < y1 := ey1 ▸ lt_of_block h99
  have n109 : qa < y1 := ey1 ▸ lt_of_block h100
  have n110 : qb < y1 := ey1 ▸ lt_of_block h101
  have n111 : gd < y1 := ey1 ▸ lt_of_block h102
  have n112 : w.heap.size ≤ y1 := ey1 ▸ K103.size
  refine prq (.slice (some ⟨y1, 0, none⟩) 6 6) (w' := V105) (by rw [← eV105, ← ey1]; kernel_rfl) ?_
  have h113 := kV105.bk h98
  have h114 := kV105.bk h99
  have h115 := kV105.bk h100
  have h116 := kV105.bk h101
  have h117 := kV105.bk h102
  have h118 : Row V105 5 1 X 6 (B [2, 10, 100, 40, 200, 1]) := hX.keeps kV105 (fun _ _ x => x)
  have K119 := K103.nn kV105
  have z120 := kV105.size
  refine pcq 15 #[X, .slice (some ⟨y1, 0, none⟩) 6 6] Tryz.func15 ((nsame_bytes true (Row.bytes (l := [2, 10, 100, 40, 200, 1]) h118) (bytes_lit [2, 10, 100, 40, 200, 1] h106 (by kernel_rfl) rfl rfl (by decide)) (by decide)).mono ?_)
  rintro e w1 ⟨rfl, rfl⟩
  refine ⟨_, rfl, ?_⟩
  refine pkq (.bool true) <| pkq (.bool true) ?_
  obtain ⟨V121, eV121, y2, ey2, h122, kV121⟩ := alloc_step V105 (#[.int .u8 1, .int .u8 0]) 5
  have n123 : ga < y2 := ey2 ▸ lt_of_block h113
  have n124 : gb < y2 := ey2 ▸ lt_of_block h114
  have n125 : qa < y2 := ey2 ▸ lt_of_block h115
  have n126 : qb < y2 := ey2 ▸ lt_of_block h116
  have n127 : gd < y2 := ey2 ▸ lt_of_block h117
  have n128 : y1 < y2 := ey2 ▸ lt_of_block h106
  have n129 : w.heap.size ≤ y2 := ey2 ▸ K119.size
  refine prq (.slice (some ⟨y2, 0, none⟩) 2 2) (w' := V121) (by rw [← eV121, ← ey2]; kernel_rfl) ?_
  have h130 := kV121.bk h113
  have h131 := kV121.bk h114
  have h132 := kV121.bk h115
  have h133 := kV121.bk h116
  have h134 := kV121.bk h117
  have h136 := kV121.bk h106
  have K137 := K119.nn kV121
  have z138 := kV121.size
  refine pcq 24 #[.slice (some ⟨y2, 0, none⟩) 2 2] Tryz.func24 ((lnreads_ok _ [1, 0] 3 1 (by decide +kernel) (by decide +kernel) _ (bytes_lit [1, 0] h122 (by kernel_rfl) rfl rfl (by decide)) (by decide)).mono ?_)
  rintro e V139 ⟨rfl, kV139⟩
  refine ⟨_, rfl, ?_⟩
  have h140 := kV139.bk h130
  have h141 := kV139.bk h131
  have h142 := kV139.bk h132
  have h143 := kV139.bk h133
  have h144 := kV139.bk h134
  have h146 := kV139.bk h136
  have h147 := kV139.bk h122
  have K148 := K137.nn kV139
  have z149 := kV139.size
  refine pkq (.agg #[.int .i64 3, .int .i64 1]) <| ppq (.bool true) (exec_cast (congrArg Value.bool (by decide)) (exec_binop .eql 31 31 (.tmp 82) (.tmp 83) (by kernel_rfl) (.agg #[.int .i64 3, .int .i64 1]) (.agg #[.int .i64 3, .int .i64 1]) _ (by kernel_rfl) (by kernel_rfl) (run_eqGuard_agg _ _ _ _ _ _ _ nfault_guard) (nfault_eq _ _ _ _ _))) <| pkq (.bool true) <| pkq (.bool true) ?_
  obtain ⟨V150, eV150, y3, ey3, h151, kV150⟩ := alloc_step V139 (#[.int .u8 2, .int .u8 5, .int .u8 1, .int .u8 4, .int .u8 1]) 5
  have n152 : ga < y3 := ey3 ▸ lt_of_block h140
  have n153 : gb < y3 := ey3 ▸ lt_of_block h141
  have n154 : qa < y3 := ey3 ▸ lt_of_block h142
  have n155 : qb < y3 := ey3 ▸ lt_of_block h143
  have n156 : gd < y3 := ey3 ▸ lt_of_block h144
  have n157 : y1 < y3 := ey3 ▸ lt_of_block h146
  have n158 : y2 < y3 := ey3 ▸ lt_of_block h147
  have n159 : w.heap.size ≤ y3 := ey3 ▸ K148.size
  refine prq (.slice (some ⟨y3, 0, none⟩) 5 5) (w' := V150) (by rw [← eV150, ← ey3]; kernel_rfl) ?_
  have h160 := kV150.bk h140
  have h161 := kV150.bk h141
  have h162 := kV150.bk h142
  have h163 := kV150.bk h143
  have h164 := kV150.bk h144
  have h166 := kV150.bk h146
  have h167 := kV150.bk h147
  have K168 := K148.nn kV150
  have z169 := kV150.size
  refine pcq 24 #[.slice (some ⟨y3, 0, none⟩) 5 5] Tryz.func24 ((lnreads_ok _ [2, 5, 1, 4, 1] 9 3 (by decide +kernel) (by decide +kernel) _ (bytes_lit [2, 5, 1, 4, 1] h151 (by kernel_rfl) rfl rfl (by decide)) (by decide)).mono ?_)
  rintro e V170 ⟨rfl, kV170⟩
  refine ⟨_, rfl, ?_⟩
  have h171 := kV170.bk h160
  have h172 := kV170.bk h161
  have h173 := kV170.bk h162
  have h174 := kV170.bk h163
  have h175 := kV170.bk h164
  have h177 := kV170.bk h166
  have h178 := kV170.bk h167
  have h179 := kV170.bk h151
  have K180 := K168.nn kV170
  have z181 := kV170.size
  refine pkq (.agg #[.int .i64 9, .int .i64 3]) <| ppq (.bool true) (exec_cast (congrArg Value.bool (by decide)) (exec_binop .eql 31 31 (.tmp 88) (.tmp 89) (by kernel_rfl) (.agg #[.int .i64 9, .int .i64 3]) (.agg #[.int .i64 9, .int .i64 3]) _ (by kernel_rfl) (by kernel_rfl) (run_eqGuard_agg _ _ _ _ _ _ _ nfault_guard) (nfault_eq _ _ _ _ _))) <| pkq (.bool true) <| pkq (.bool true) ?_
  obtain ⟨V182, eV182, y4, ey4, h183, kV182⟩ := alloc_step V170 (#[.int .u8 1, .int .u8 5]) 5
  have n184 : ga < y4 := ey4 ▸ lt_of_block h171
  have n185 : gb < y4 := ey4 ▸ lt_of_block h172
  have n186 : qa < y4 := ey4 ▸ lt_of_block h173
  have n187 : qb < y4 := ey4 ▸ lt_of_block h174
  have n188 : gd < y4 := ey4 ▸ lt_of_block h175
  have n189 : y1 < y4 := ey4 ▸ lt_of_block h177
  have n190 : y2 < y4 := ey4 ▸ lt_of_block h178
  have n191 : y3 < y4 := ey4 ▸ lt_of_block h179
  have n192 : w.heap.size ≤ y4 := ey4 ▸ K180.size
  refine prq (.slice (some ⟨y4, 0, none⟩) 2 2) (w' := V182) (by rw [← eV182, ← ey4]; kernel_rfl) ?_
  have K202 := K180.nn kV182
  have z203 := kV182.size
  refine pcq 24 #[.slice (some ⟨y4, 0, none⟩) 2 2] Tryz.func24 ((lnreads_ok _ [1, 5] 6 2 (by decide +kernel) (by decide +kernel) _ (bytes_lit [1, 5] h183 (by kernel_rfl) rfl rfl (by decide)) (by decide)).mono ?_)
  rintro e V204 ⟨rfl, kV204⟩
  refine ⟨_, rfl, ?_⟩
  have K215 := K202.nn kV204
  have z216 := kV204.size
  refine pkq (.agg #[.int .i64 6, .int .i64 2]) <| ppq (.bool true) (exec_cast (congrArg Value.bool (by decide)) (exec_binop .eql 31 31 (.tmp 94) (.tmp 95) (by kernel_rfl) (.agg #[.int .i64 6, .int .i64 2]) (.agg #[.int .i64 6, .int .i64 2]) _ (by kernel_rfl) (by kernel_rfl) (run_eqGuard_agg _ _ _ _ _ _ _ nfault_guard) (nfault_eq _ _ _ _ _))) <| pkq (.bool true) <| pkq (.bool true) <| ps_end <| sy_a ⟨#[.bool false, .bool true, .int .i64 9, .int .i64 1, .int .i64 3, .int .i64 0, .bool true, X, .int .i64 0, .bool true, .bool true, .bool true, .bool true, .bool true, .bool true, .slice (some ⟨ga, 0, none⟩) 2 2, .bool true, .bool true, .bool true, .bool true, .bool true, .bool true, .bool true, .bool true, .bool true, .slice (some ⟨gb, 0, none⟩) 2 2, .bool true, .bool true, .tuple #[.int .i64 9, .int .i64 1], .agg #[.int .i64 10, .int .u64 1], .agg #[.int .i64 9, .int .u64 1], .slice (some ⟨qa, 0, none⟩) 2 2, .tuple #[.int .i64 9, .int .i64 1], .int .i64 9, .int .i64 1, .tuple #[.int .i64 3, .int .i64 0], .agg #[.int .i64 0, .int .u64 1], .agg #[.int .i64 0, .int .u64 1], .slice (some ⟨qb, 0, none⟩) 2 2, .tuple #[.int .i64 3, .int .i64 0], .int .i64 3, .int .i64 0, .int .i64 9, .bool true, .bool true, .int .i64 1, .bool true, .bool true, .bool true, .int .i64 3, .bool true, .bool true, .bool true, .int .i64 0, .bool true, .bool true, .bool true, .int .i64 0, .bool true, .bool true, .bool true, .int .i64 9, .bool true, .bool true, .bool true, .int .i64 3, .bool true, .bool true, .tuple #[X, .int .i64 0], .slice (some ⟨gd, 0, none⟩) 2 2, .tuple #[X, .int .i64 0], X, .int .i64 0, .int .i64 0, .bool true, .bool true, X, .slice (some ⟨y1, 0, none⟩) 6 6, .bool true, .bool true, .bool true, .slice (some ⟨y2, 0, none⟩) 2 2, .agg #[.int .i64 3, .int .i64 1], .agg #[.int .i64 3, .int .i64 1], .bool true, .bool true, .bool true, .slice (some ⟨y3, 0, none⟩) 5 5, .agg #[.int .i64 9, .int .i64 3], .agg #[.int .i64 9, .int .i64 3], .bool true, .bool true, .bool true, .slice (some ⟨y4, 0, none⟩) 2 2, .agg #[.int .i64 6, .int .i64 2], .agg #[.int .i64 6, .int .i64 2], .bool true, .bool true, ud, ud, ud, ud, ud, ud, ud, ud, ud, ud], []⟩ <| tqr_ [0, 1, 2, 3, 4, 5, 6, 7, 8, 9, 10] ?_
  refine pcq 8 #[] Tryz.func8 ((lnawake_ok _ (ErrTab.keeps het K215)).mono ?_)
  rintro e V217 ⟨rfl, kV217⟩
  refine ⟨_, rfl, ?_⟩
  have K228 := K215.nn kV217
  have z229 := kV217.size
  refine pkq (.bool true) <| pkq (.bool true) <| pkq (.bool true) <| pkq (.bool true) <| pkq (.bool true) <| pkq (.bool true) <| pkq (.bool true) <| pkq (.bool true) <| pkq (.bool true) <| pkq (.bool true) <| eu_ <| so_ (.bool true) ?_
  exact ⟨rfl, K228⟩
end Go.Proofs.YtghohakbepeffaaGreatDoor
namespace Go.Proofs.YtghohakbepeffaaGreatDoor
set_option maxRecDepth 100000
set_option maxHeartbeats 4000000
open Go Go.RowKit Go.Own Go.Shelf
theorem lnmade_all (v0 : Value) (ns : List Nat) (hnl : ∀ x ∈ ns, x < 18446744073709551616) (hl : ns.length ≤ 64) (w : World) (hns : Sl w 1 Gc v0 ns) (het : ErrTab w) : Calls Tryz.prog 26 #[v0] w (fun e w' => ∃ X, e = .returned (.tuple #[X, .bool true]) ∧ Sl w' 2 Nt.cl X (mgo ns 1) ∧ Keeps Nob w w') := by
  have h := lnmade_ok v0 ns hnl w hns het
  rw [List.take_of_length_le hl] at h; exact h
end Go.Proofs.YtghohakbepeffaaGreatDoor
namespace Go.Own
set_option maxRecDepth 100000
set_option maxHeartbeats 4000000
open Go Go.RowKit
variable {P : Program}
end Go.Own
namespace Go.Proofs.YtghohakbepeffaaGreatDoor
set_option maxRecDepth 100000
set_option maxHeartbeats 4000000
open Go Go.RowKit Go.Own Go.Shelf
end Go.Proofs.YtghohakbepeffaaGreatDoor
namespace Go.Proofs.YtghohakbepeffaaGreatDoor
set_option maxRecDepth 100000
set_option maxHeartbeats 4000000
open Go Go.RowKit Go.Own Go.Shelf
abbrev rs (p : Nat) : RS := ⟨0, (p : Int)⟩
theorem rs_num {l r : List UInt8} {p n : Nat} (h : l.drop p = Cod.enc n ++ r) (hn : n < 2 ^ 64) : (rs p).num l = (n, (Cod.enc n).length, 0) := by
  unfold RS.num
  rw [show (rs p).pos.toNat = p from Int.toNat_natCast p, h]
  exact Cod.num_enc n r hn
theorem read_ok (p k : Nat) : (rs p).read k 0 = rs (p + k) := by
  unfold RS.read
  rw [if_pos rfl, if_pos rfl]
  simp
theorem errN_in {n k : Nat} {lo hi : Int} (h1 : lo ≤ (n : Int)) (h2 : (n : Int) ≤ hi) : errN (n, k, 0) lo hi = 0 := by
  unfold errN
  rw [if_neg]
  rintro ⟨_, h⟩
  unfold outN at h
  omega
theorem rdN_at {l r : List UInt8} {p n : Nat} {lo hi : Int} (h : l.drop p = Cod.enc n ++ r) (hn : n < 2 ^ 64) (h1 : lo ≤ (n : Int)) (h2 : (n : Int) ≤ hi) : rdN l (rs p) lo hi = ((n : Int), rs (p + (Cod.enc n).length)) := by
  unfold rdN
  rw [rs_num h hn]
  simp only [errN_in h1 h2]
  rw [if_pos ⟨trivial, trivial⟩, read_ok]
theorem rdU_at {l r : List UInt8} {p n : Nat} (h : l.drop p = Cod.enc n ++ r) (hn : n < 2 ^ 64) : rdU l (rs p) = ((n : Int), rs (p + (Cod.enc n).length)) := by
  unfold rdU
  rw [rs_num h hn]
  rw [if_pos ⟨rfl, rfl⟩, read_ok]
theorem fin_at {l : List UInt8} {p : Nat} (h : l.length ≤ p) : (rs p).fin l = (0, 0) := by
  unfold RS.fin
  rw [if_pos rfl, if_neg (by show ¬ (p : Int) < (l.length : Int); omega)]
theorem drop_more {l x r : List UInt8} {p : Nat} (h : l.drop p = x ++ r) : l.drop (p + x.length) = r := by rw [← List.drop_drop, h, List.drop_left]
/-- An error stays. -/
theorem read_err {s : RS} {k : Nat} {e : Int} (h : (s.read k e).err = 0) : s.err = 0 ∧ e = 0 := by
  unfold RS.read at h
  by_cases h0 : s.err = 0
  · rw [if_pos h0] at h
    by_cases h1 : e = 0
    · exact ⟨h0, h1⟩
    · rw [if_neg h1] at h; exact absurd h h1
  · rw [if_neg h0] at h; exact absurd h h0
theorem rdN_err {l : List UInt8} {s : RS} {lo hi : Int} (h : (rdN l s lo hi).2.err = 0) : s.err = 0 ∧ errN (s.num l) lo hi = 0 := read_err h
theorem rdU_err {l : List UInt8} {s : RS} (h : (rdU l s).2.err = 0) : s.err = 0 ∧ (s.num l).2.2 = 0 := read_err h
theorem fin_err {l : List UInt8} {s : RS} (h : (s.fin l).1 = 0) : s.err = 0 ∧ (l.length : Int) ≤ s.pos := by
  unfold RS.fin at h
  by_cases h0 : s.err = 0
  · rw [if_pos h0] at h
    refine ⟨h0, ?_⟩
    by_cases h1 : s.pos < l.length
    · rw [if_pos h1] at h; cases h
    · omega
  · rw [if_neg h0] at h; exact absurd h h0
/-- A number that was read stands there. -/
theorem num_inv {l : List UInt8} {p : Nat} (hp : p ≤ l.length) (h : ((rs p).num l).2.2 = 0) : ∃ n r, n < 2 ^ 64 ∧ l.drop p = Cod.enc n ++ r ∧ (rs p).num l = (n, (Cod.enc n).length, 0) ∧ p + (Cod.enc n).length ≤ l.length := by
  have e : (rs p).num l = Cod.num (l.drop p) := by unfold RS.num; rw [show (rs p).pos.toNat = p from Int.toNat_natCast p]
  obtain ⟨x, k, z⟩ : ∃ x k, (rs p).num l = (x, k, 0) := ⟨((rs p).num l).1, ((rs p).num l).2.1, by rw [← h]⟩
  obtain ⟨h1, h2, r, h3⟩ := Cod.num_one (l.drop p) x k (e.symm.trans z)
  refine ⟨x, r, h1, h3, by rw [z, h2], ?_⟩
  have := congrArg List.length h3
  rw [List.length_drop, List.length_append] at this
  omega
theorem rdN_inv {l : List UInt8} {p : Nat} {lo hi : Int} (hp : p ≤ l.length) (h : (rdN l (rs p) lo hi).2.err = 0) : ∃ n r, n < 2 ^ 64 ∧ l.drop p = Cod.enc n ++ r ∧ rdN l (rs p) lo hi = ((n : Int), rs (p + (Cod.enc n).length)) ∧ (n : Int) ≤ hi ∧ (0 < lo → lo ≤ (n : Int)) ∧ p + (Cod.enc n).length ≤ l.length := by
  obtain ⟨_, h2⟩ := rdN_err h
  obtain ⟨z1, z2, z3, z4⟩ := errN_zero h2
  obtain ⟨n, r, hn, hd, e, hle⟩ := num_inv hp z1
  rw [e] at z3 z4 h2
  refine ⟨n, r, hn, hd, ?_, z3, z4, hle⟩
  unfold rdN
  rw [e, if_pos ⟨rfl, h2⟩, h2, read_ok]
theorem rdU_inv {l : List UInt8} {p : Nat} (hp : p ≤ l.length) (h : (rdU l (rs p)).2.err = 0) : ∃ n r, n < 2 ^ 64 ∧ l.drop p = Cod.enc n ++ r ∧ rdU l (rs p) = ((n : Int), rs (p + (Cod.enc n).length)) ∧ p + (Cod.enc n).length ≤ l.length := by
  obtain ⟨_, h2⟩ := rdU_err h
  obtain ⟨n, r, hn, hd, e, hle⟩ := num_inv hp h2
  exact ⟨n, r, hn, hd, rdU_at hd hn, hle⟩
end Go.Proofs.YtghohakbepeffaaGreatDoor
namespace Go.Proofs.YtghohakbepeffaaGreatDoor
set_option maxRecDepth 100000
set_option maxHeartbeats 4000000
open Go Go.RowKit Go.Own Go.Shelf
theorem nb1_flat (x : Nt) (r : List Nt) : (x :: r).flatMap nb1 = Cod.enc x.h.toNat ++ (Cod.enc x.s ++ r.flatMap nb1) := by
  rw [List.flatMap_cons, nb1, List.append_assoc]
theorem nmay_zero {x : Nt} {a : List Nt} (h : nmay x a = 0) : ¬ x.bad ∧ ∀ y, a.getLast? = some y → ¬ x.h < y.h := by
  unfold nmay at h
  by_cases hb : x.bad
  · rw [if_pos hb] at h; cases h
  · rw [if_neg hb] at h
    refine ⟨hb, fun y hy hlt => ?_⟩
    rw [hy] at h
    simp only [if_pos hlt] at h
    cases h
theorem nmay_mk {x : Nt} {a : List Nt} (hb : ¬ x.bad) (h : ∀ y, a.getLast? = some y → ¬ x.h < y.h) : nmay x a = 0 := by
  unfold nmay
  rw [if_neg hb]
  split
  · rename_i y hy; rw [if_neg (h y hy)]
  · rfl
theorem nrS_fine {l : List UInt8} {out : List Nt} {s : RS} (h : ∀ y, out.getLast? = some y → ¬ nrH l s < y.h) : nrS l out s = (rdN l s 1 4294967296).2 := by
  unfold nrS
  split
  · rename_i y hy; rw [if_neg (h y hy)]
  · rfl
theorem nrT_fine {l : List UInt8} {s : RS} (h : ¬ 4611686018427387904 < nrK l s) : nrT l s = (rdU l s).2 := by unfold nrT; rw [if_neg h]
theorem nrgo_at : ∀ (r out : List Nt) (b : List UInt8) (p : Nat), (nchk out r).1 = 0 → b.drop p = r.flatMap nb1 → nrgo r.length out b (rs p) = (out ++ r, rs (p + (r.flatMap nb1).length))
  | [], out, b, p, _, _ => by simp [nrgo]
  | x :: r, out, b, p, h, hd => by
    rw [nchk] at h
    by_cases hx : nmay x out = 0
    · rw [if_pos hx] at h
      obtain ⟨hb, ho⟩ := nmay_zero hx
      have hb2 : 1 ≤ x.h ∧ x.h ≤ 4294967296 ∧ x.s ≤ 4611686018427387904 := by unfold Nt.bad at hb; omega
      have hu : ((x.h.toNat : Nat) : Int) = x.h := by omega
      rw [nb1_flat] at hd
      have e1 : rdN b (rs p) 1 4294967296 = (((x.h.toNat : Nat) : Int), rs (p + (Cod.enc x.h.toNat).length)) := rdN_at hd (by omega) (by omega) (by omega)
      have eh : nrH b (rs p) = x.h := by unfold nrH; rw [e1, hu]
      have es : nrS b out (rs p) = rs (p + (Cod.enc x.h.toNat).length) := by rw [nrS_fine (by rw [eh]; exact ho), e1]
      have e2 : rdU b (rs (p + (Cod.enc x.h.toNat).length)) = (((x.s : Nat) : Int), rs (p + (Cod.enc x.h.toNat).length + (Cod.enc x.s).length)) := rdU_at (drop_more hd) (by omega)
      have ek : nrK b (rs (p + (Cod.enc x.h.toNat).length)) = x.s := by unfold nrK; rw [e2]; rfl
      have et : nrT b (rs (p + (Cod.enc x.h.toNat).length)) = rs (p + (Cod.enc x.h.toNat).length + (Cod.enc x.s).length) := by rw [nrT_fine (by rw [ek]; omega), e2]
      have ih := nrgo_at r (out ++ [x]) b (p + (Cod.enc x.h.toNat).length + (Cod.enc x.s).length) h (drop_more (drop_more hd))
      rw [List.length_cons, nrgo, eh, es, ek, et, ih, nb1_flat, List.append_assoc, List.length_append, List.length_append]
      simp only [Nat.add_assoc]
      rfl
    · rw [if_neg hx] at h; exact absurd h hx
theorem nread_nby {l : List Nt} (h : (ncheck l).1 = 0) : nread (nby l) = (l, 0, 0) := by
  have hl := (ncheck_fine h).1
  have hc : (nchk [] l).1 = 0 := by unfold ncheck at h; rwa [if_neg (by omega)] at h
  have e1 : rdN (nby l) ⟨0, 0⟩ 0 64 = (((l.length : Nat) : Int), rs (0 + (Cod.enc l.length).length)) := rdN_at (p := 0) (r := l.flatMap nb1) rfl (by omega) (by omega) (by omega)
  have en : nrN (nby l) = l.length := by unfold nrN; rw [e1]; rfl
  have e2 : nres (nby l) = (l, rs (0 + (Cod.enc l.length).length + (l.flatMap nb1).length)) := by
    unfold nres
    rw [en, e1]
    exact nrgo_at l [] (nby l) _ hc (drop_more (p := 0) (x := Cod.enc l.length) rfl)
  unfold nread
  rw [e2]
  simp only
  rw [fin_at (by unfold nby; rw [List.length_append]; omega)]
  rfl
theorem nfail_err {s : RS} {e p : Int} (he : e ≠ 0) : (s.fail e p).err ≠ 0 := by
  unfold RS.fail
  by_cases h : s.err = 0
  · rw [if_pos ⟨h, he⟩]; exact he
  · rw [if_neg (fun x => h x.1)]; exact h
theorem nrT_err {l : List UInt8} {s : RS} (h : (nrT l s).err = 0) : s.err = 0 ∧ ¬ 4611686018427387904 < nrK l s ∧ (rdU l s).2.err = 0 := by
  by_cases h1 : 4611686018427387904 < nrK l s
  · unfold nrT at h; rw [if_pos h1] at h; exact absurd h (nfail_err (by decide))
  · rw [nrT_fine h1] at h; exact ⟨(rdU_err h).1, h1, h⟩
theorem nrS_err {l : List UInt8} {out : List Nt} {s : RS} (h : (nrS l out s).err = 0) : s.err = 0 ∧ (rdN l s 1 4294967296).2.err = 0 ∧ (∀ y, out.getLast? = some y → ¬ nrH l s < y.h) ∧ nrS l out s = (rdN l s 1 4294967296).2 := by
  have hy : ∀ y, out.getLast? = some y → ¬ nrH l s < y.h := fun y hy hlt => by
    rw [nrS_yes hy hlt] at h; exact absurd h (nfail_err (by decide))
  have e := nrS_fine hy
  rw [e] at h
  exact ⟨(rdN_err h).1, h, hy, e⟩
theorem nrgo_err : ∀ (m : Nat) (out : List Nt) (l : List UInt8) (s : RS), (nrgo m out l s).2.err = 0 → s.err = 0
  | 0, _, _, _, h => h
  | m + 1, out, l, s, h => (nrS_err (nrT_err (nrgo_err m _ l _ h)).1).1
theorem nrgo_inv : ∀ (m : Nat) (out : List Nt) (l : List UInt8) (p : Nat), (nrgo m out l (rs p)).2.err = 0 → p ≤ l.length → (nchk [] out).1 = 0 → ∃ (us : List Nt) (p' : Nat), us.length = m ∧ nrgo m out l (rs p) = (out ++ us, rs p') ∧ p' ≤ l.length ∧ l.drop p = us.flatMap nb1 ++ l.drop p' ∧ (nchk [] (out ++ us)).1 = 0
  | 0, out, l, p, _, hp, hc => ⟨[], p, rfl, by rw [List.append_nil]; rfl, hp, rfl, by rw [List.append_nil]; exact hc⟩
  | m + 1, out, l, p, h, hp, hc => by
    rw [nrgo] at h
    have h0 := nrT_err (nrgo_err m _ l _ h)
    obtain ⟨_, g2, g3, g4⟩ := nrS_err h0.1
    obtain ⟨n, r, hn, hd, e, hhi, hlo, hle⟩ := rdN_inv hp g2
    have es : nrS l out (rs p) = rs (p + (Cod.enc n).length) := by rw [g4, e]
    have eh : nrH l (rs p) = (n : Int) := by unfold nrH; rw [e]
    rw [es] at h h0
    obtain ⟨k, r2, hk, hd2, e2, hle2⟩ := rdU_inv hle h0.2.2
    have ek : nrK l (rs (p + (Cod.enc n).length)) = k := by unfold nrK; rw [e2]; rfl
    have et : nrT l (rs (p + (Cod.enc n).length)) = rs (p + (Cod.enc n).length + (Cod.enc k).length) := by rw [nrT_fine h0.2.1, e2]
    rw [eh, ek, et] at h
    have hkl := h0.2.1
    rw [ek] at hkl
    have hlo' := hlo (by decide)
    have hmay : nmay ⟨(n : Int), k⟩ out = 0 := nmay_mk (by unfold Nt.bad; simp only; omega) (by rw [eh] at g3; exact g3)
    obtain ⟨us, p', u1, u2, u3, u4, u5⟩ := nrgo_inv m _ l _ h hle2 (nchk_snoc _ out [] hc (by rw [List.nil_append]; exact hmay))
    refine ⟨⟨(n : Int), k⟩ :: us, p', by rw [List.length_cons, u1], ?_, u3, ?_, ?_⟩
    · rw [nrgo, eh, es, ek, et, u2, List.append_assoc]; rfl
    · rw [nb1_flat]
      show l.drop p = (Cod.enc ((n : Int)).toNat ++ (Cod.enc k ++ us.flatMap nb1)) ++ l.drop p'
      rw [Int.toNat_natCast, List.append_assoc, List.append_assoc, ← u4, drop_more hd2, hd, ← hd2, drop_more hd]
    · rw [List.append_assoc] at u5; exact u5
theorem nread_inv {b : List UInt8} {q : List Nt} {e : Int} (h : nread b = (q, 0, e)) : e = 0 ∧ nbytes q = (b, 0) := by
  have h0 : ((nres b).2.fin b).1 = 0 := by
    by_cases h0 : ((nres b).2.fin b).1 = 0
    · exact h0
    · unfold nread at h; rw [if_neg h0] at h
      exact absurd (congrArg (fun x => x.2.1) h) h0
  have hq : (nres b).1 = q ∧ e = 0 := by
    unfold nread at h; rw [if_pos h0] at h
    exact ⟨congrArg Prod.fst h, (congrArg (fun x => x.2.2) h).symm⟩
  obtain ⟨h1, h2⟩ := fin_err h0
  have hr : (rdN b (rs 0) 0 64).2.err = 0 := by unfold nres at h1; exact nrgo_err _ _ _ _ h1
  obtain ⟨n, r, hn, hd, e1, hhi, _, hle⟩ := rdN_inv (Nat.zero_le _) hr
  have e1' : rdN b ⟨0, 0⟩ 0 64 = ((n : Int), rs (0 + (Cod.enc n).length)) := e1
  have en : nrN b = n := by unfold nrN; rw [e1']; rfl
  have hres : nres b = nrgo n [] b (rs (0 + (Cod.enc n).length)) := by unfold nres; rw [en, e1']
  rw [hres] at h1 h2 hq
  obtain ⟨us, p', u1, u2, u3, u4, u5⟩ := nrgo_inv n [] b _ h1 hle rfl
  rw [u2] at h2 hq
  rw [List.nil_append] at u5 hq
  have hu : us = q := hq.1
  subst hu
  have hp' : b.length ≤ p' := by
    have h2' : (b.length : Int) ≤ (p' : Int) := h2
    omega
  rw [List.drop_eq_nil_of_le hp', List.append_nil] at u4
  refine ⟨hq.2, ?_⟩
  have hc : (ncheck us).1 = 0 := by unfold ncheck; rw [if_neg (by omega)]; exact u5
  rw [nbytes_ok hc]
  unfold nby
  rw [u1, ← u4]
  have : b = Cod.enc n ++ r := hd
  rw [show b.drop (0 + (Cod.enc n).length) = r from drop_more hd, ← this]
end Go.Proofs.YtghohakbepeffaaGreatDoor
namespace Go.Proofs.YtghohakbepeffaaGreatDoor
set_option maxRecDepth 100000
set_option maxHeartbeats 4000000
open Go Go.RowKit Go.Own Go.Shelf
theorem nread_to {l : List UInt8} {q : List Nt} {fe fp : Int} {args : Array Value} {w : World} (h1 : nread l = (q, fe, fp)) (h : Calls Tryz.prog 13 args w (fun e w' => ∃ X, e = .returned (.tuple #[X, .agg #[.int .i64 (nread l).2.1, .int .i64 (nread l).2.2]]) ∧ Row w' 46 2 X (nread l).1.length ((nread l).1.flatMap Nt.cl) ∧ NewFrom w.heap.size X ∧ Keeps Nob w w')) : Calls Tryz.prog 13 args w (fun e w' => ∃ X, e = .returned (.tuple #[X, .agg #[.int .i64 fe, .int .i64 fp]]) ∧ Row w' 46 2 X q.length (q.flatMap Nt.cl) ∧ NewFrom w.heap.size X ∧ Keeps Nob w w') := by rw [h1] at h; exact h
theorem nby_len {l : List Nt} (h : l.length ≤ 64) : (nby l).length ≤ 100000000 := by
  have := nbi_le l l.length
  rw [nbi_all] at this; omega
theorem bytes_same (b : List UInt8) : (b == b) = true := beq_self_eq_true b
theorem bytes_len {w : World} {v : Value} {l : List UInt8} (h : BytesAt w v l) : l.length ≤ 9223372036854775807 := by
  obtain ⟨A, c, e, a1, a2, a3⟩ := h.form
  unfold maxLen at a2; omega
theorem nexec_len_bytes {P : Program} {o : Oper} {ρ : Operand → Value} {w w0 : World} (x : Operand) (t e : TypeId) (ho : o.op = .call { callee := .builtin .len, args := #[x], argTypes := #[t] }) (ht : P.underlying t = some (.slice e)) {v : Value} (hx : ρ x = v) {l : List UInt8} (hv : BytesAt w0 v l) :
    (execOp ρ o).run P w = .ok (.value (.int .i64 (l.length : Int))) w := by
  obtain ⟨A, cap, rfl, _⟩ := hv.form
  exact exec_len x t e ho ht A l.length cap hx
theorem ends_no {n : Int} (h : ¬ n = 0) : (n != 0) = true := by simpa using h
theorem lnmade_isB {ns : List Nat} {l : List Nt} {args : Array Value} {w : World} (h1 : mgo ns 1 = l) (h : Calls Tryz.prog 26 args w (fun e w' => ∃ X, e = .returned (.tuple #[X, .bool true]) ∧ Sl w' 2 Nt.cl X (mgo ns 1) ∧ Keeps Nob w w')) : Calls Tryz.prog 26 args w (fun e w' => ∃ X, e = .returned (.tuple #[X, .bool true]) ∧ Sl w' 2 Nt.cl X l ∧ Keeps Nob w w') := h1 ▸ h
noncomputable def qc84_0 (n : Nat) : Code := partOf Tryz.f7 n
theorem back_long1 (v0 v1 : Value) (ns : List Nat) (b : List UInt8) (hnl : ∀ x ∈ ns, x < 18446744073709551616) (w : World) (hns : Sl w 1 Gc v0 ns) (hx : BytesAt w v1 b) (het : ErrTab w) (q1 : 64 < ns.length) :
    Calls Tryz.prog 7 #[v0, v1] w (fun e w' => e = .returned (.bool true) ∧ Keeps Nob w w') := by
  have hln := Sl.len_le hns
  have hlb := bytes_len hx
  have K0 : Keeps Nob w w := Keeps.refl _ _
  refine sy_enter (qc84_0 1) ⟨#[v0, v1, ud, ud, ud, ud, ud, ud, ud, ud, ud, ud, ud, ud, ud, ud, ud, ud, ud, ud, ud, ud, ud, ud, ud, ud, ud, ud, ud, ud, ud, ud, ud, ud, ud, ud, ud, ud, ud, ud, ud, ud, ud, ud, ud, ud, ud, ud, ud, ud, ud, ud, ud, ud, ud, ud, ud, ud, ud, ud, ud, ud, ud, ud, ud, ud, ud, ud, ud, ud, ud, ud, ud, ud, ud, ud, ud, ud, ud, ud, ud, ud, ud, ud, ud, ud, ud], []⟩ Tryz.func7 (by kernel_rfl) (by kernel_rfl) <| qr_ [0] <| pkq (.bool false) <| eqr_ [0, 1] ?_
  refine pcq 4 #[] Tryz.func4 ((known_ok _ het).mono ?_)
  rintro e V1 ⟨rfl, kV1⟩
  refine ⟨_, rfl, ?_⟩
  have K2 := K0.nn kV1
  have z3 := kV1.size
  refine pkq (.bool true) <| eq_ <| qr_ [0, 1, 2, 3, 4, 5, 6, 7] <| pkq (v0) <| ppq (iN ns.length) (exec_len_sl (.tmp 17) 49 40 (by kernel_rfl) Tryz.underlying49 (by kernel_rfl) (hns.keepsN K2)) <| ppq (.bool true) (dct ((((ns.length : Nat) : Int)) > ((64) : Int)) (by omega)) <| pkq (.bool true) <| pnq <| pnq <| pnq <| pkq (.bool true) <| ey_ <| qr_ [0, 1] <| pkq (.bool true) ?_
  refine pkq (.bool true) <| eu_ <| then_r <| so_ (.bool true) ?_
  exact ⟨rfl, K2⟩
theorem back_long2 (v0 v1 : Value) (ns : List Nat) (b : List UInt8) (hnl : ∀ x ∈ ns, x < 18446744073709551616) (w : World) (hns : Sl w 1 Gc v0 ns) (hx : BytesAt w v1 b) (het : ErrTab w) (q1 : ¬ 64 < ns.length) (q2 : 600 < b.length) :
    Calls Tryz.prog 7 #[v0, v1] w (fun e w' => e = .returned (.bool true) ∧ Keeps Nob w w') := by
  have hln := Sl.len_le hns
  have hlb := bytes_len hx
  have K0 : Keeps Nob w w := Keeps.refl _ _
  refine sy_enter (qc84_0 1) ⟨#[v0, v1, ud, ud, ud, ud, ud, ud, ud, ud, ud, ud, ud, ud, ud, ud, ud, ud, ud, ud, ud, ud, ud, ud, ud, ud, ud, ud, ud, ud, ud, ud, ud, ud, ud, ud, ud, ud, ud, ud, ud, ud, ud, ud, ud, ud, ud, ud, ud, ud, ud, ud, ud, ud, ud, ud, ud, ud, ud, ud, ud, ud, ud, ud, ud, ud, ud, ud, ud, ud, ud, ud, ud, ud, ud, ud, ud, ud, ud, ud, ud, ud, ud, ud, ud, ud, ud], []⟩ Tryz.func7 (by kernel_rfl) (by kernel_rfl) <| qr_ [0] <| pkq (.bool false) <| eqr_ [0, 1] ?_
  refine pcq 4 #[] Tryz.func4 ((known_ok _ het).mono ?_)
  rintro e V1 ⟨rfl, kV1⟩
  refine ⟨_, rfl, ?_⟩
  have K2 := K0.nn kV1
  have z3 := kV1.size
  refine pkq (.bool true) <| eq_ <| qr_ [0, 1, 2, 3, 4, 5, 6, 7] <| pkq (v0) <| ppq (iN ns.length) (exec_len_sl (.tmp 17) 49 40 (by kernel_rfl) Tryz.underlying49 (by kernel_rfl) (hns.keepsN K2)) <| ppq (.bool false) (dcf ((((ns.length : Nat) : Int)) > ((64) : Int)) (by omega)) <| pkq (.bool false) <| pkq (v1) <| ppq (iN b.length) (nexec_len_bytes (.tmp 21) 23 5 (by kernel_rfl) Tryz.underlying23 (by kernel_rfl) hx) <| ppq (.bool true) (dct ((((b.length : Nat) : Int)) > ((600) : Int)) (by omega)) <| pkq (.bool true) <| ey_ <| qr_ [0, 1] <| pkq (.bool true) ?_
  refine pkq (.bool true) <| eu_ <| then_r <| so_ (.bool true) ?_
  exact ⟨rfl, K2⟩
theorem back_short (v0 v1 : Value) (ns : List Nat) (b : List UInt8) (hnl : ∀ x ∈ ns, x < 18446744073709551616) (w : World) (hns : Sl w 1 Gc v0 ns) (hx : BytesAt w v1 b) (het : ErrTab w) (q1 : ¬ 64 < ns.length) (q2 : ¬ 600 < b.length) :
    Calls Tryz.prog 7 #[v0, v1] w (fun e w' => e = .returned (.bool true) ∧ Keeps Nob w w') := by
  have hln := Sl.len_le hns
  have hlb := bytes_len hx
  obtain ⟨l, hle⟩ : ∃ y, mgo ns 1 = y := ⟨_, rfl⟩
  have hlen : l.length = ns.length := by rw [← hle, mgo_len]
  have hck : (ncheck l).1 = 0 := hle ▸ mcheck ns (by omega)
  have hby := nbytes_ok hck
  obtain ⟨q, fe, fp, hrd⟩ : ∃ q fe fp, nread b = (q, fe, fp) := ⟨_, _, _, rfl⟩
  have K0 : Keeps Nob w w := Keeps.refl _ _
  refine sy_enter (qc84_0 1) ⟨#[v0, v1, ud, ud, ud, ud, ud, ud, ud, ud, ud, ud, ud, ud, ud, ud, ud, ud, ud, ud, ud, ud, ud, ud, ud, ud, ud, ud, ud, ud, ud, ud, ud, ud, ud, ud, ud, ud, ud, ud, ud, ud, ud, ud, ud, ud, ud, ud, ud, ud, ud, ud, ud, ud, ud, ud, ud, ud, ud, ud, ud, ud, ud, ud, ud, ud, ud, ud, ud, ud, ud, ud, ud, ud, ud, ud, ud, ud, ud, ud, ud, ud, ud, ud, ud, ud, ud], []⟩ Tryz.func7 (by kernel_rfl) (by kernel_rfl) <| qr_ [0] <| pkq (.bool false) <| eqr_ [0, 1] ?_
  refine pcq 4 #[] Tryz.func4 ((known_ok _ het).mono ?_)
  rintro e V1 ⟨rfl, kV1⟩
  refine ⟨_, rfl, ?_⟩
  have K2 := K0.nn kV1
  have z3 := kV1.size
  refine pkq (.bool true) <| eq_ <| qr_ [0, 1, 2, 3, 4, 5, 6, 7] <| pkq (v0) <| ppq (iN ns.length) (exec_len_sl (.tmp 17) 49 40 (by kernel_rfl) Tryz.underlying49 (by kernel_rfl) (hns.keepsN K2)) <| ppq (.bool false) (dcf ((((ns.length : Nat) : Int)) > ((64) : Int)) (by omega)) <| pkq (.bool false) <| pkq (v1) <| ppq (iN b.length) (nexec_len_bytes (.tmp 21) 23 5 (by kernel_rfl) Tryz.underlying23 (by kernel_rfl) hx) <| ppq (.bool false) (dcf ((((b.length : Nat) : Int)) > ((600) : Int)) (by omega)) <| pkq (.bool false) <| en_ <| s_ <| tqr_ [0, 1, 2, 3, 4, 5, 6] ?_
  refine pkq (v0) ?_
  refine pcq 26 #[v0] Tryz.func26 ((lnmade_isB hle (lnmade_all v0 ns hnl (by omega) _ (hns.keepsN K2) (ErrTab.keeps het K2))).mono ?_)
  rintro e V4 ⟨X, rfl, hX, kV4⟩
  refine ⟨_, rfl, ?_⟩
  have K5 := K2.nn kV4
  have z6 := kV4.size
  refine pkq (.tuple #[X, .bool true]) <| pkq (X) <| pkq (.bool true) <| pkq (X) <| pkq (.bool true) <| eqr_ [0, 1, 2, 3, 4, 5, 6] <| pkq (X) ?_
  refine pcq 11 #[X] Tryz.func11 ((nbytes_is2 hby (nBytes_all l _ _ hX (ErrTab.keeps het K5))).mono ?_)
  rintro e V7 ⟨Y, rfl, hY, hYn, kV7⟩
  refine ⟨_, rfl, ?_⟩
  have h8 : Sl V7 2 Nt.cl X l := hX.keepsN kV7
  have K9 := K5.nn kV7
  have z10 := kV7.size
  refine pkq (.tuple #[Y, .int .i64 0]) <| pkq (Y) <| pkq (.int .i64 0) <| pkq (Y) <| pkq (.int .i64 0) <| ps_end <| sy_a ⟨#[v0, v1, ud, ud, .bool false, .bool true, X, .bool true, Y, .int .i64 0, ud, ud, ud, ud, ud, ud, .bool true, v0, iN ns.length, .bool false, .bool false, v1, iN b.length, .bool false, .bool false, ud, .tuple #[X, .bool true], v0, .tuple #[X, .bool true], X, .bool true, .tuple #[Y, .int .i64 0], X, .tuple #[Y, .int .i64 0], Y, .int .i64 0, ud, ud, ud, ud, ud, ud, ud, ud, ud, ud, ud, ud, ud, ud, ud, ud, ud, ud, ud, ud, ud, ud, ud, ud, ud, ud, ud, ud, ud, ud, ud, ud, ud, ud, ud, ud, ud, ud, ud, ud, ud, ud, ud, ud, ud, ud, ud, ud, ud, ud, ud], []⟩ <| tqr_ [0, 1, 2, 3, 4, 5, 6, 7] <| pkq (Y) ?_
  refine pcq 13 #[Y] Tryz.func13 ((nread_to (nread_nby hck) (nRead_ok Y (nby l) _ (Row.bytes hY) (nby_len (by omega)))).mono ?_)
  rintro e V11 ⟨Z, rfl, hZ, hZn, kV11⟩
  refine ⟨_, rfl, ?_⟩
  have h12 : Sl V11 2 Nt.cl X l := h8.keepsN kV11
  have K13 := K9.nn kV11
  have z14 := kV11.size
  refine pkq (.tuple #[Z, .agg #[.int .i64 0, .int .i64 0]]) <| pkq (Z) <| pkq (.agg #[.int .i64 0, .int .i64 0]) <| pal 31 (#[.int .i64 0, .int .i64 0]) (.agg (#[.int .i64 0, .int .i64 0])) fun V15 gf egf h16 kV15 => ?_
  have n17 : w.heap.size ≤ gf := egf ▸ K13.size
  have h18 : Sl V15 2 Nt.cl X l := h12.keepsN kV15
  have h19 : Sl V15 2 Nt.cl Z l := (row_nts hZ).keepsN kV15
  have K20 := K13.nn kV15
  have z21 := kV15.size
  refine pkq (Z) <| pst 31 gf (#[.int .i64 0, .int .i64 0]) h16 (by kernel_rfl) rfl (by kernel_rfl) fun V22 h23 kV22 => ?_
  have h24 : Sl V22 2 Nt.cl X l := Sl.keepsB hX h18 kV22 (fun j e => by first | (unfold Own.One at e; omega) | omega)
  have h25 : Sl V22 2 Nt.cl Z l := Sl.keepsB (row_nts hZ) h19 kV22 (fun j e => by first | (unfold Own.One at e; omega) | omega)
  have K26 := K20.nO kV22
  have z27 := kV22.size
  refine eq_ <| qr_ [0, 1, 2, 3, 4, 5, 6, 7, 8, 9, 10, 11, 12, 13, 14, 15, 16] <| pkq (.bool true) <| pkq (.bool false) <| pkq (.bool false) <| pkq (.int .i64 0) <| pkq (.bool false) <| pkq (.bool false) <| pkq (.bool false) <| ppq (.agg #[.int .i64 0, .int .i64 0]) (ldr 31 gf (h23) (by kernel_rfl)) <| pkq (.agg #[.int .i64 0, .int .i64 0]) <| ppq (.bool false) (exec_cast (congrArg Value.bool (by decide)) (exec_binop .neq 31 31 (.tmp 48) (.tmp 49) (by kernel_rfl) (.agg #[.int .i64 0, .int .i64 0]) (.agg #[.int .i64 0, .int .i64 0]) _ (by kernel_rfl) (by kernel_rfl) (run_eqGuard_agg _ _ _ _ _ _ _ nfault_guard) (nfault_ne _ _ _ _ _))) <| pkq (.bool false) <| pkq (.bool false) ?_
  refine pkq (X) <| pkq (Z) ?_
  refine pcq 17 #[X, Z] Tryz.func17 ((kSameNotes_is true _ h24 h25 (decide_eq_true rfl)).mono ?_)
  rintro e V28 ⟨rfl, kV28⟩
  refine ⟨_, rfl, ?_⟩
  have h31 := kV28.bk h23
  have K32 := K26.nn kV28
  have z33 := kV28.size
  refine pkq (.bool false) <| pkq (.bool false) <| ps_end <| sy_a ⟨#[v0, v1, ud, ud, .bool false, .bool true, X, .bool true, Y, .int .i64 0, Z, pT gf 0, ud, ud, ud, ud, .bool true, v0, iN ns.length, .bool false, .bool false, v1, iN b.length, .bool false, .bool false, ud, .tuple #[X, .bool true], v0, .tuple #[X, .bool true], X, .bool true, .tuple #[Y, .int .i64 0], X, .tuple #[Y, .int .i64 0], Y, .int .i64 0, .tuple #[Z, .agg #[.int .i64 0, .int .i64 0]], Y, .tuple #[Z, .agg #[.int .i64 0, .int .i64 0]], Z, .agg #[.int .i64 0, .int .i64 0], .bool true, .bool false, .bool false, .int .i64 0, .bool false, .bool false, .bool false, .agg #[.int .i64 0, .int .i64 0], .agg #[.int .i64 0, .int .i64 0], .bool false, .bool false, .bool false, X, Z, .bool true, .bool false, .bool false, ud, ud, ud, ud, ud, ud, ud, ud, ud, ud, ud, ud, ud, ud, ud, ud, ud, ud, ud, ud, ud, ud, ud, ud, ud, ud, ud, ud, ud], []⟩ <| then_n <| n_ <| s_ <| tqr_ [0, 1, 2, 3, 4, 5, 6, 7] <| pkq (v1) ?_
  refine pcq 13 #[v1] Tryz.func13 ((nread_to hrd (nRead_ok v1 b _ (hx.keepsN K32) (by omega))).mono ?_)
  rintro e V34 ⟨P, rfl, hP, hPn, kV34⟩
  refine ⟨_, rfl, ?_⟩
  have h35 := kV34.bk h31
  have K36 := K32.nn kV34
  have z37 := kV34.size
  refine pkq (.tuple #[P, .agg #[.int .i64 fe, .int .i64 fp]]) <| pkq (P) <| pkq (.agg #[.int .i64 fe, .int .i64 fp]) <| pal 31 (#[.int .i64 0, .int .i64 0]) (.agg (#[.int .i64 0, .int .i64 0])) fun V38 gf2 egf2 h39 kV38 => ?_
  have n40 : gf < gf2 := egf2 ▸ lt_of_block h35
  have n41 : w.heap.size ≤ gf2 := egf2 ▸ K36.size
  have h43 : Sl V38 2 Nt.cl P q := (row_nts hP).keepsN kV38
  have K44 := K36.nn kV38
  have z45 := kV38.size
  refine pkq (P) <| pst 31 gf2 (#[.int .i64 fe, .int .i64 fp]) h39 (by kernel_rfl) rfl (by kernel_rfl) fun V46 h47 kV46 => ?_
  have h49 : Sl V46 2 Nt.cl P q := Sl.keepsB (row_nts hP) h43 kV46 (fun j e => by first | (unfold Own.One at e; omega) | omega)
  have K50 := K44.nO kV46
  have z51 := kV46.size
  refine eq_ <| qr_ [0, 1, 2] <| pkq (pT gf2 0) <| ppq (.int .i64 fe) (ldk 27 gf2 0 h47) ?_
  by_cases hfe : fe = 0
  · have hby2 : nbytes q = (b, 0) := (nread_inv (hfe ▸ hrd)).2
    refine ppq (.bool false) (exec_cast (congrArg Value.bool (show ((((fe) : Int) != ((0) : Int))) = false from by rw [hfe]; rfl)) (by kernel_rfl)) <| en_ <| s_ <| tqr_ [0, 1, 2, 3, 4, 5, 6] <| pkq (P) ?_
    refine pcq 11 #[P] Tryz.func11 ((nbytes_is2 hby2 (nBytes_all q _ _ h49 (ErrTab.keeps het K50))).mono ?_)
    rintro e V52 ⟨Q, rfl, hQ, hQn, kV52⟩
    refine ⟨_, rfl, ?_⟩
    have K56 := K50.nn kV52
    have z57 := kV52.size
    refine pkq (.tuple #[Q, .int .i64 0]) <| pkq (Q) <| pkq (.int .i64 0) <| pkq (Q) <| pkq (.int .i64 0) <| eqr_ [0, 1, 2, 3, 4, 5, 6, 7, 8, 9, 10] <| pkq (.bool true) <| pkq (.bool true) <| pkq (.int .i64 0) <| pkq (.bool true) <| pkq (.bool true) <| pkq (.bool true) <| pkq (Q) <| pkq (v1) ?_
    refine pcq 15 #[Q, v1] Tryz.func15 ((nsame_bytes true (Row.bytes hQ) (hx.keepsN K56) (bytes_same b)).mono ?_)
    rintro e w1 ⟨rfl, rfl⟩
    refine ⟨_, rfl, ?_⟩
    refine pkq (.bool true) <| pkq (.bool true) <| ps_end <| sy_a ⟨#[v0, v1, ud, ud, .bool true, .bool true, X, .bool true, Y, .int .i64 0, Z, pT gf 0, P, pT gf2 0, Q, .int .i64 0, .bool true, v0, iN ns.length, .bool false, .bool false, v1, iN b.length, .bool false, .bool false, ud, .tuple #[X, .bool true], v0, .tuple #[X, .bool true], X, .bool true, .tuple #[Y, .int .i64 0], X, .tuple #[Y, .int .i64 0], Y, .int .i64 0, .tuple #[Z, .agg #[.int .i64 0, .int .i64 0]], Y, .tuple #[Z, .agg #[.int .i64 0, .int .i64 0]], Z, .agg #[.int .i64 0, .int .i64 0], .bool true, .bool false, .bool false, .int .i64 0, .bool false, .bool false, .bool false, .agg #[.int .i64 0, .int .i64 0], .agg #[.int .i64 0, .int .i64 0], .bool false, .bool false, .bool false, X, Z, .bool true, .bool false, .bool false, .tuple #[P, .agg #[.int .i64 fe, .int .i64 fp]], v1, .tuple #[P, .agg #[.int .i64 fe, .int .i64 fp]], P, .agg #[.int .i64 fe, .int .i64 fp], pT gf2 0, .int .i64 fe, .bool false, ud, ud, ud, ud, ud, ud, .tuple #[Q, .int .i64 0], P, .tuple #[Q, .int .i64 0], Q, .int .i64 0, .bool true, .bool true, .int .i64 0, .bool true, .bool true, .bool true, Q, v1, .bool true, .bool true], []⟩ <| then_n <| u_ <| so_ (.bool true) ?_
    exact ⟨rfl, K56⟩
  · have hq0 : q.length = 0 := by
      unfold nread at hrd
      split at hrd
      · exact absurd (congrArg (fun x => x.2.1) hrd).symm hfe
      · have := (congrArg Prod.fst hrd).symm
        simp only at this
        rw [this]; rfl
    refine ppq (.bool true) (exec_cast (congrArg Value.bool (show ((((fe) : Int) != ((0) : Int))) = true from ends_no hfe)) (by kernel_rfl)) <| ey_ <| qr_ [0, 1, 2, 3, 4, 5, 6] <| pkq (.bool true) <| pkq (.bool true) <| pkq (P) <| ppq (iN q.length) (exec_len_sl (.tmp 68) 22 46 (by kernel_rfl) Tryz.underlying22 (by kernel_rfl) h49) <| ppq (.bool true) (exec_cast (congrArg Value.bool (show ((((q.length : Nat) : Int)) == 0) = true from by rw [hq0]; rfl)) (by kernel_rfl)) <| pkq (.bool true) <| pkq (.bool true) <| eu_ <| then_r <| so_ (.bool true) ?_
    exact ⟨rfl, K50⟩
theorem back_all (v0 : Value) (ns : List Nat) (v1 : Value) (b : List UInt8) (w : World) (hns : Sl w 1 Gc v0 ns ∧ ∀ x ∈ ns, x < 18446744073709551616) (hx : BytesAt w v1 b) (het : ErrTab w) : Calls Tryz.prog 7 #[v0, v1] w (fun e w' => e = .returned (.bool true) ∧ Keeps Nob w w') := by
  by_cases g1 : 64 < ns.length
  · exact back_long1 v0 v1 ns b hns.2 w hns.1 hx het g1
  · by_cases g2 : 600 < b.length
    · exact back_long2 v0 v1 ns b hns.2 w hns.1 hx het g1 g2
    · exact back_short v0 v1 ns b hns.2 w hns.1 hx het g1 g2
end Go.Proofs.YtghohakbepeffaaGreatDoor
namespace Go.Proofs.YtghohakbepeffaaGreatDoor.penaltyBack
open Go.ChangeShapes Go.WideShapes Go.ChangeAt Go.RowKit Go.Own
open Go.ChangeMaps (open_string shut_string)
theorem own : ownKnob Tryz.prog.godebug = none := by kernel_rfl
theorem laid : laidOutB Tryz.prog = true := by kernel_rfl
set_option maxRecDepth 100000 in
theorem lifted (os : Os) (started : os.Started) (H : Type) (enc : TypeId × Value → H) :
    ReturnsInHanded {} Tryz.checked os 7 .any (fun w args => (Rows.penaltyBackSpec.pre enc Tryz.prog Tryz.f7 Rows.penaltyBackRow.domain false w args ∧ laidMetH Tryz.prog Rows.penaltyBackRow.laid w) ∧ sizedMet enc Tryz.prog Tryz.f7 (OpenSpec.ofChange Rows.penaltyBackSpec) false w args)
      (Rows.penaltyBackSpec.post enc Tryz.prog Tryz.f7 false true false false) := by
  refine returnsInHanded_of_change_and (C := Tryz.checked) (X := fun w _ => laidMetH Tryz.prog Rows.penaltyBackRow.laid w) (fun _ _ _ hh h => h.of_heap hh) own started (by kernel_rfl) Tryz.func7
    (ChangeSpec.witness_at (enc := enc) (C := Tryz.checked) (os := os) (X := fun w _ => laidMetH Tryz.prog Rows.penaltyBackRow.laid w) false (laidWorld os) #[.slice none 0 0, .slice none 0 0] 8 rfl (by kernel_rfl) (by kernel_rfl) (by kernel_rfl) (by kernel_rfl) (by kernel_rfl) (laidWorld_met os _)) ?_
  intro W base args ds gs before hval0 hW hcnd _ hL hsz0
  have hval : ∀ (j : Nat) t v, Tryz.f7.params[j]? = some t → args[j]? = some v → Value.okWide Tryz.prog W .any base t v := hval0
  have hW' := hW
  obtain ⟨p, q, hA0, hV, rfl, hfz, hnd⟩ := hW
  have hA : DataW.TrodAll enc Tryz.prog W 0 (fun _ => true) true Tryz.f7.params.toList args.toList ds p := hA0
  rw [Tryz.params7] at hA hval
  obtain ⟨v0, vs0, d0, ds0, p0, q0, hargs, rfl, rfl, h0, r0⟩ := trodAll_cons hA
  obtain ⟨v1, vs1, d1, ds1, p1, q1, rfl, rfl, rfl, h1, r1⟩ := trodAll_cons r0
  obtain ⟨rfl, rfl, rfl⟩ := trodAll_nil r1
  obtain rfl : args = #[v0, v1] := by cases args; simp_all
  obtain ⟨rfl, rfl⟩ := trodVars_none hV
  obtain ⟨l0, hl0⟩ := open_words h0 (okWide_slice Tryz.underlying49 (hval 0 49 v0 rfl rfl))
  obtain ⟨l1, hl1⟩ := open_bytesAt Tryz.underlying23 Tryz.underlying5 (by kernel_rfl) h1 (okWide_slice Tryz.underlying23 (hval 1 23 v1 rfl rfl))
  clear hA0 hval0
  refine (back_all v0 l0 v1 l1 W hl0 hl1 (err_tab hL)).mono fun e W' ⟨he, hg⟩ => ?_
  subst he
  exact ⟨_, rfl, law_post laid (by kernel_rfl) rfl Tryz.underlying4 rfl rfl hW' (hg.below (Nat.le_refl _) (fun _ _ x => x))⟩
theorem row : Rows.PenaltyBackSaid :=
  OpenClaim.holds_of_wide 7 Tryz.f7 rfl rfl rfl rfl rfl rfl rfl ⟨rfl, rfl, rfl, rfl, rfl⟩ rfl rfl rfl rfl rfl (by kernel_rfl) Tryz.func7 (by kernel_rfl)
    (of_decide_eq_true (by kernel_rfl)) (by unfold Func.isWrapper; first | (rw [if_pos (by decide +kernel)]; kernel_rfl) | (rw [if_neg (by decide +kernel)]; exact ⟨rfl, rfl⟩))
    (fun os started H enc _ => lifted os started H enc)
theorem proved : Rows.PenaltyBackCardSaid :=
  Claim7.holds_tied_plain_at .later [] Rows.penaltyBackCard.laidKinds true Rows.penaltyBackCard.stood.harness Rows.penaltyBackCard.stood.looks row (fun _ h => by cases h) (by kernel_rfl) (fun _ h => by cases h) penaltyBack_row_tie rfl ⟨rfl, rfl⟩ (by kernel_rfl) rfl
    (fun f fn hf hfn => by
      obtain rfl : f = 7 := Option.some.inj ((show Tryz.prog.funcNamed Rows.penaltyBackRow.func = some 7 by kernel_rfl).symm.trans hf) |>.symm
      obtain rfl : fn = Tryz.f7 := (Option.some.inj (Tryz.func7.symm.trans hfn)).symm
      exact ⟨by kernel_rfl, fun j t ht => by
        have hall : (Tryz.f7.params.toList.all fun u => !Tryz.prog.wantsStandIn u) = true := by kernel_rfl
        exact (show Tryz.prog.wantsStandIn t = false by simpa using List.all_eq_true.1 hall t (by simpa using Array.mem_of_getElem? ht))⟩)
    (by kernel_rfl)
end Go.Proofs.YtghohakbepeffaaGreatDoor.penaltyBack
