/-
  ParamsKnown proved: for every input the law returns true, and each argument reads as it did. Conditions: none.
-/
import Derived.Test.YtpflmldmbpnllaaDoorParamsKnownP4
namespace Go.Proofs.YtpflmldmbpnllaaDoor
set_option maxRecDepth 100000
set_option maxHeartbeats 4000000
open Go Go.RowKit Go.Own Go.Shelf
section
variable {P : Program} {o : Oper} {ρ : Operand → Value} {w : World}
theorem exec_slice_mid (t : TypeId) (x y z : Operand) (ho : o.op = .slice t x (some y) (some z) none) (l : List UInt8) (hx : ρ x = .string ⟨l.toArray⟩) (k1 k2 : IntKind) (i j : Nat) (hy : ρ y = .int k1 (i : Int)) (hz : ρ z = .int k2 (j : Int)) (hu : P.underlying t = some .string) (h1 : i ≤ j) (h2 : j ≤ l.length) :
    (execOp ρ o).run P w = .ok (.value (.string ⟨((l.drop i).take (j - i)).toArray⟩)) w := by
  have h := run_slice_string (P := P) w t ⟨l.toArray⟩ k1 k2 (i : Int) (j : Int) hu (by omega) (by omega) (by simp [ByteArray.size]; omega)
  unfold execOp
  simp only [ho, hx, Option.map_some, Option.map_none, hy, hz, Instr.sliceAt, Sem.run_bind, run_underlying hu, h, Result.andThen_ok, Sem.run_pure, Int.toNat_natCast, ByteArray.extract_mk]
end
def parOld : Par := ⟨100, 101, 10, 8, 7, 8, 20, 50000000, 3, 50, 100000000⟩
def parLow1 : Par := ⟨0, 100, 10, 8, 7, 8, 20, 50000000, 3, 50, 100000000⟩
def parLow : Par := ⟨0, -1, 10, 8, 7, 8, 20, 50000000, 3, 50, 100000000⟩
def parRew : Par := ⟨100, 100, 10, 8, 7, 8, 20, 50000000, 3, 50, 0⟩
theorem parOld_Ok : parOld.Ok := by constructor <;> (simp only [parOld, i64ok, u64ok]; omega)
theorem parLow_Ok : parLow.Ok := by constructor <;> (simp only [parLow, i64ok, u64ok]; omega)
theorem parOld_c : parOld.check = (9, 1) := by kernel_rfl
theorem parLow_c : parLow.check = (3, 0) := by kernel_rfl
theorem g_Base : pget parDef ⟨#[66, 97, 115, 101]⟩ = (0, 10) := by kernel_rfl
theorem s_unb : pset parDef ⟨#[117, 110, 98, 111, 110, 100, 105, 110, 103]⟩ 99 = (parZ, 9) := by kernel_rfl
theorem s_mult : pset parDef ⟨#[109, 117, 108, 116]⟩ 1001 = (parZ, 3) := by kernel_rfl
theorem s_rew : pset parDef ⟨#[114, 101, 119, 97, 114, 100]⟩ 0 = (parRew, 0) := by kernel_rfl
def txd : List UInt8 := [117, 110, 98, 111, 110, 100, 105, 110, 103, 32, 49, 48, 48, 10, 109, 97, 120, 97, 103, 101, 32, 49, 48, 48, 10, 101, 112, 111, 99, 104, 108, 101, 110, 32, 49, 48, 10, 119, 105, 110, 100, 111, 119, 32, 56, 10, 101, 110, 116, 114, 105, 101, 115, 32, 55, 10, 109, 97, 120, 97, 99, 116, 105, 118, 101, 32, 56, 10, 106, 97, 105, 108, 116, 105, 109, 101, 32, 50, 48, 10, 98, 97, 115, 101, 32, 53, 48, 48, 48, 48, 48, 48, 48, 10, 109, 117, 108, 116, 32, 51, 10, 99, 111, 114, 114, 119, 105, 110, 100, 111, 119, 32, 53, 48, 10, 114, 101, 119, 97, 114, 100, 32, 49, 48, 48, 48, 48, 48, 48, 48, 48, 10]
def txdS : List UInt8 := [117, 110, 98, 111, 110, 100, 105, 110, 103, 32, 49, 48, 48, 10, 109, 97, 120, 97, 103, 101, 32, 49, 48, 48, 10, 101, 112, 111, 99, 104, 108, 101, 110, 32, 49, 48, 10, 119, 105, 110, 100, 111, 119, 32, 56, 10, 101, 110, 116, 114, 105, 101, 115, 32, 55, 10, 109, 97, 120, 97, 99, 116, 105, 118, 101, 32, 56, 10, 106, 97, 105, 108, 116, 105, 109, 101, 32, 50, 48, 10, 98, 97, 115, 101, 32, 53, 48, 48, 48, 48, 48, 48, 48, 10, 109, 117, 108, 116, 32, 51, 10, 99, 111, 114, 114, 119, 105, 110, 100, 111, 119, 32, 53, 48, 10, 114, 101, 119, 97, 114, 100, 32, 49, 48, 48, 48, 48, 48, 48, 48, 48]
def txdL : List UInt8 := [117, 110, 98, 111, 110, 100, 105, 110, 103, 32, 49, 48, 48, 10, 109, 97, 120, 97, 103, 101, 32, 49, 48, 48, 10, 101, 112, 111, 99, 104, 108, 101, 110, 32, 49, 48, 10, 119, 105, 110, 100, 111, 119, 32, 56, 10, 101, 110, 116, 114, 105, 101, 115, 32, 55, 10, 109, 97, 120, 97, 99, 116, 105, 118, 101, 32, 56, 10, 106, 97, 105, 108, 116, 105, 109, 101, 32, 50, 48, 10, 98, 97, 115, 101, 32, 53, 48, 48, 48, 48, 48, 48, 48, 10, 109, 117, 108, 116, 32, 51, 10, 99, 111, 114, 114, 119, 105, 110, 100, 111, 119, 32, 53, 48, 10, 114, 101, 119, 97, 114, 100, 32, 49, 48, 48, 48, 48, 48, 48, 48, 48, 10, 120]
def txF : List UInt8 := [117, 110, 98, 111, 110, 100, 105, 110, 103, 32, 48, 49, 48, 48, 10]
def txR : List UInt8 := [117, 110, 98, 111, 110, 100, 105, 110, 103, 32, 48, 10]
def txM : List UInt8 := [109, 97, 120, 97, 103, 101, 32, 49, 48, 48, 10]
theorem ptx_d : ptx parDef = ⟨txd.toArray⟩ := by decide +kernel
theorem take_S : txd.take 131 = txdS := by kernel_rfl
theorem mid_M : (txd.drop 14).take (25 - 14) = txM := by kernel_rfl
theorem cat_L : txd ++ [120] = txdL := by kernel_rfl
theorem p_S : (pparse txdS).2 = (6, 10) := by decide +kernel
theorem p_L : (pparse txdL).2 = (4, 11) := by decide +kernel
theorem p_F : (pparse txF).2 = (5, 0) := by decide +kernel
theorem p_R : (pparse txR).2 = (3, 0) := by decide +kernel
theorem r_0 : (pbread []).2 = (6, 0) := by kernel_rfl
theorem r_1 : (pbread [5, 6]).2 = (9, 1) := by kernel_rfl
theorem r_2 : (pbread [0]).2 = (3, 0) := by kernel_rfl
theorem pSet_is (p q : Par) (s : ByteArray) (n : Nat) (y : Int) (w : World) (hp : p.Ok) (h : pset p s n = (q, y)) : Calls Tryd.prog 13 #[.agg p.cells, .string s, .int .u64 ((n : Nat) : Int)] w (fun e w' => e = .returned (.tuple #[.agg q.cells, .int .i64 y]) ∧ Keeps Nob w w') := by
  have := pSet_ok p s n w hp
  rw [h] at this; exact this
theorem pParse_is (l : List UInt8) (q : Par) (x y : Int) (w : World) (hl : l.length ≤ 100000000) (hq : (pparse l).1 = q) (h : (pparse l).2 = (x, y)) : Calls Tryd.prog 26 #[.string ⟨l.toArray⟩] w (fun e w' => e = .returned (.tuple #[.agg q.cells, .agg #[.int .i64 x, .int .i64 y]]) ∧ Keeps Nob w w') := by
  have := pParse_ok l w hl
  rw [hq, h] at this; exact this
theorem pRead_is (v : Value) (l : List UInt8) (q : Par) (x y : Int) (w : World) (hx : BytesAt w v l) (hl : l.length ≤ 100000000) (hq : (pbread l).1 = q) (h : (pbread l).2 = (x, y)) : Calls Tryd.prog 29 #[v] w (fun e w' => e = .returned (.tuple #[.agg q.cells, .agg #[.int .i64 x, .int .i64 y]]) ∧ Keeps Nob w w') := by
  have := pRead_ok v l w hx hl
  rw [hq, h] at this; exact this
theorem bytes_none (w : World) : BytesAt w (.slice none 0 0) [] := Row.bytes (e := 5) (World.ownsRow_nil _ _ _ _)
noncomputable def qc65_1 (n : Nat) : Code := partOf Tryd.f32 n
theorem lpparses_ok (l : List UInt8) (x y : Int) (w : World) (hl : l.length ≤ 100000000) (hf : (pparse l).2 = (x, y)) :
    Calls Tryd.prog 32 #[.string ⟨l.toArray⟩] w (fun e w' => e = .returned (.agg #[.int .i64 x, .int .i64 y]) ∧ Keeps Nob w w') := by
  obtain ⟨q, hq⟩ : ∃ q, (pparse l).1 = q := ⟨_, rfl⟩
  have K0 : Keeps Nob w w := Keeps.refl _ _
  refine sy_enter (qc65_1 1) ⟨#[.string ⟨l.toArray⟩, ud, ud, ud, ud, ud, ud, ud, ud, ud, ud], []⟩ Tryd.func32 (by kernel_rfl) (by kernel_rfl) <| qr_ [0] <| pal 46 (#[.int .i64 0, .int .i64 0]) (.agg (#[.int .i64 0, .int .i64 0])) fun V1 r2 er2 h2 kV1 => ?_
  have n3 : w.heap.size ≤ r2 := er2 ▸ K0.size
  have K4 := K0.nn kV1
  have z5 := kV1.size
  refine eqr_ [0, 1, 2, 3, 4, 5, 6, 7, 8] <| pkq (.string ⟨l.toArray⟩) ?_
  refine pcq 26 #[.string ⟨l.toArray⟩] Tryd.func26 ((pParse_is l q x y _ hl hq hf).mono ?_)
  rintro e V6 ⟨rfl, kV6⟩
  refine ⟨_, rfl, ?_⟩
  have h7 := kV6.bk h2
  have K8 := K4.nn kV6
  have z9 := kV6.size
  refine pkq (.tuple #[.agg q.cells, .agg #[.int .i64 x, .int .i64 y]]) <| pkq (.agg q.cells) <| pkq (.agg #[.int .i64 x, .int .i64 y]) <| pal 24 (#[.int .i64 0, .int .i64 0, .int .i64 0, .int .i64 0, .int .i64 0, .int .i64 0, .int .i64 0, .int .u64 0, .int .u64 0, .int .i64 0, .int .u64 0]) (.agg (#[.int .i64 0, .int .i64 0, .int .i64 0, .int .i64 0, .int .i64 0, .int .i64 0, .int .i64 0, .int .u64 0, .int .u64 0, .int .i64 0, .int .u64 0])) fun V10 ga ega h11 kV10 => ?_
  have n12 : r2 < ga := ega ▸ lt_of_block h7
  have n13 : w.heap.size ≤ ga := ega ▸ K8.size
  have h14 := kV10.bk h7
  have K15 := K8.nn kV10
  have z16 := kV10.size
  refine pal 46 (#[.int .i64 0, .int .i64 0]) (.agg (#[.int .i64 0, .int .i64 0])) fun V17 gb egb h18 kV17 => ?_
  have n19 : r2 < gb := egb ▸ lt_of_block h14
  have n20 : ga < gb := egb ▸ lt_of_block h11
  have n21 : w.heap.size ≤ gb := egb ▸ K15.size
  have h22 := kV17.bk h14
  have h23 := kV17.bk h11
  have K24 := K15.nn kV17
  have z25 := kV17.size
  obtain ⟨V26, eV26, kV26⟩ := rowset_step V17 ga q.cells
  refine pzq (w' := V26) (by rw [← eV26]; exact exec_store_row 24 (.tmp 3) (.tmp 8) (by kernel_rfl) ga q.cells (by kernel_rfl) (by kernel_rfl) 24 (#[.int .i64 0, .int .i64 0, .int .i64 0, .int .i64 0, .int .i64 0, .int .i64 0, .int .i64 0, .int .u64 0, .int .u64 0, .int .i64 0, .int .u64 0]) h23 (by kernel_rfl) rfl (by kernel_rfl)) ?_
  clear eV26
  have h28 := kV26.bO h22
  have h29 := kV26.bO h18
  have K30 := K24.nO kV26
  have z31 := kV26.size
  refine pst 46 gb (#[.int .i64 x, .int .i64 y]) h29 (by kernel_rfl) rfl (by kernel_rfl) fun V32 h33 kV32 => ?_
  have h34 := kV32.bO h28
  have K36 := K30.nO kV32
  have z37 := kV32.size
  refine eqr_ [0, 1] <| ppq (.agg #[.int .i64 x, .int .i64 y]) (ldr 46 gb (h33) (by kernel_rfl)) <| pst 46 r2 (#[.int .i64 x, .int .i64 y]) h34 (by kernel_rfl) rfl (by kernel_rfl) fun V38 h39 kV38 => ?_
  have K42 := K36.nO kV38
  have z43 := kV38.size
  refine eu_ <| sy_out (.agg (#[.int .i64 x, .int .i64 y])) rfl (results_cell_row (p := 2) (ty := 46) (by kernel_rfl) _ _ r2 46 (#[.int .i64 x, .int .i64 y]) (0, 0) _ (by kernel_rfl) h39 Tryd.underlying46 rfl (by kernel_rfl)) ?_
  exact ⟨rfl, K42⟩
noncomputable def qc65_2 (n : Nat) : Code := partOf Tryd.f33 n
theorem lpreads_ok (v : Value) (l : List UInt8) (x y : Int) (w : World) (hx : BytesAt w v l) (hl : l.length ≤ 100000000) (hf : (pbread l).2 = (x, y)) :
    Calls Tryd.prog 33 #[v] w (fun e w' => e = .returned (.agg #[.int .i64 x, .int .i64 y]) ∧ Keeps Nob w w') := by
  obtain ⟨q, hq⟩ : ∃ q, (pbread l).1 = q := ⟨_, rfl⟩
  have K0 : Keeps Nob w w := Keeps.refl _ _
  refine sy_enter (qc65_2 1) ⟨#[v, ud, ud, ud, ud, ud, ud, ud, ud, ud, ud], []⟩ Tryd.func33 (by kernel_rfl) (by kernel_rfl) <| qr_ [0] <| pal 46 (#[.int .i64 0, .int .i64 0]) (.agg (#[.int .i64 0, .int .i64 0])) fun V1 r2 er2 h2 kV1 => ?_
  have n3 : w.heap.size ≤ r2 := er2 ▸ K0.size
  have K4 := K0.nn kV1
  have z5 := kV1.size
  refine eqr_ [0, 1, 2, 3, 4, 5, 6, 7, 8] <| pkq (v) ?_
  refine pcq 29 #[v] Tryd.func29 ((pRead_is v l q x y _ (hx.keepsN K4) hl hq hf).mono ?_)
  rintro e V6 ⟨rfl, kV6⟩
  refine ⟨_, rfl, ?_⟩
  have h7 := kV6.bk h2
  have K8 := K4.nn kV6
  have z9 := kV6.size
  refine pkq (.tuple #[.agg q.cells, .agg #[.int .i64 x, .int .i64 y]]) <| pkq (.agg q.cells) <| pkq (.agg #[.int .i64 x, .int .i64 y]) <| pal 24 (#[.int .i64 0, .int .i64 0, .int .i64 0, .int .i64 0, .int .i64 0, .int .i64 0, .int .i64 0, .int .u64 0, .int .u64 0, .int .i64 0, .int .u64 0]) (.agg (#[.int .i64 0, .int .i64 0, .int .i64 0, .int .i64 0, .int .i64 0, .int .i64 0, .int .i64 0, .int .u64 0, .int .u64 0, .int .i64 0, .int .u64 0])) fun V10 ga ega h11 kV10 => ?_
  have n12 : r2 < ga := ega ▸ lt_of_block h7
  have n13 : w.heap.size ≤ ga := ega ▸ K8.size
  have h14 := kV10.bk h7
  have K15 := K8.nn kV10
  have z16 := kV10.size
  refine pal 46 (#[.int .i64 0, .int .i64 0]) (.agg (#[.int .i64 0, .int .i64 0])) fun V17 gb egb h18 kV17 => ?_
  have n19 : r2 < gb := egb ▸ lt_of_block h14
  have n20 : ga < gb := egb ▸ lt_of_block h11
  have n21 : w.heap.size ≤ gb := egb ▸ K15.size
  have h22 := kV17.bk h14
  have h23 := kV17.bk h11
  have K24 := K15.nn kV17
  have z25 := kV17.size
  obtain ⟨V26, eV26, kV26⟩ := rowset_step V17 ga q.cells
  refine pzq (w' := V26) (by rw [← eV26]; exact exec_store_row 24 (.tmp 3) (.tmp 8) (by kernel_rfl) ga q.cells (by kernel_rfl) (by kernel_rfl) 24 (#[.int .i64 0, .int .i64 0, .int .i64 0, .int .i64 0, .int .i64 0, .int .i64 0, .int .i64 0, .int .u64 0, .int .u64 0, .int .i64 0, .int .u64 0]) h23 (by kernel_rfl) rfl (by kernel_rfl)) ?_
  clear eV26
  have h28 := kV26.bO h22
  have h29 := kV26.bO h18
  have K30 := K24.nO kV26
  have z31 := kV26.size
  refine pst 46 gb (#[.int .i64 x, .int .i64 y]) h29 (by kernel_rfl) rfl (by kernel_rfl) fun V32 h33 kV32 => ?_
  have h34 := kV32.bO h28
  have K36 := K30.nO kV32
  have z37 := kV32.size
  refine eqr_ [0, 1] <| ppq (.agg #[.int .i64 x, .int .i64 y]) (ldr 46 gb (h33) (by kernel_rfl)) <| pst 46 r2 (#[.int .i64 x, .int .i64 y]) h34 (by kernel_rfl) rfl (by kernel_rfl) fun V38 h39 kV38 => ?_
  have K42 := K36.nO kV38
  have z43 := kV38.size
  refine eu_ <| sy_out (.agg (#[.int .i64 x, .int .i64 y])) rfl (results_cell_row (p := 2) (ty := 46) (by kernel_rfl) _ _ r2 46 (#[.int .i64 x, .int .i64 y]) (0, 0) _ (by kernel_rfl) h39 Tryd.underlying46 rfl (by kernel_rfl)) ?_
  exact ⟨rfl, K42⟩
noncomputable def qc65_0 (n : Nat) : Code := partOf Tryd.f5 n
theorem known_ok (w : World) (htab : PowTab w) :
    Calls Tryd.prog 5 #[] w (fun e w' => e = .returned (.bool true) ∧ Keeps Nob w w') := by
  have K0 : Keeps Nob w w := Keeps.refl _ _
  refine sy_enter (qc65_0 1) ⟨#[ud, ud, ud, ud, ud, ud, ud, ud, ud, ud, ud, ud, ud, ud, ud, ud, ud, ud, ud, ud, ud, ud, ud, ud, ud, ud, ud, ud, ud, ud, ud, ud, ud, ud, ud, ud, ud, ud, ud, ud, ud, ud, ud, ud, ud, ud, ud, ud, ud, ud, ud, ud, ud, ud, ud, ud, ud, ud, ud, ud, ud, ud, ud, ud, ud, ud, ud, ud, ud, ud, ud, ud, ud, ud, ud, ud, ud, ud, ud, ud, ud, ud, ud, ud, ud, ud, ud, ud, ud, ud, ud, ud, ud, ud, ud, ud, ud, ud, ud, ud, ud, ud, ud, ud, ud, ud, ud, ud, ud, ud, ud, ud, ud, ud, ud, ud, ud, ud, ud, ud, ud, ud, ud, ud, ud, ud, ud, ud, ud, ud, ud, ud, ud, ud, ud, ud, ud, ud, ud], []⟩ Tryd.func5 (by kernel_rfl) (by kernel_rfl) <| qr_ [0] <| pkq (.bool false) <| eqr_ [0, 1, 2] ?_
  refine pcq 18 #[] Tryd.func18 ((pDefault_ok _).mono ?_)
  rintro e V1 ⟨rfl, kV1⟩
  refine ⟨_, rfl, ?_⟩
  have K2 := K0.nn kV1
  have z3 := kV1.size
  refine pal 24 (#[.int .i64 0, .int .i64 0, .int .i64 0, .int .i64 0, .int .i64 0, .int .i64 0, .int .i64 0, .int .u64 0, .int .u64 0, .int .i64 0, .int .u64 0]) (.agg (#[.int .i64 0, .int .i64 0, .int .i64 0, .int .i64 0, .int .i64 0, .int .i64 0, .int .i64 0, .int .u64 0, .int .u64 0, .int .i64 0, .int .u64 0])) fun V4 gd egd h5 kV4 => ?_
  have n6 : w.heap.size ≤ gd := egd ▸ K2.size
  have K7 := K2.nn kV4
  have z8 := kV4.size
  refine pst 24 gd parDef.cells h5 (by kernel_rfl) rfl (by kernel_rfl) fun V9 h10 kV9 => ?_
  have K11 := K7.nO kV9
  have z12 := kV9.size
  refine eq_ ?_
  refine sy_cut (fun aQ VQ => ∃ (g2 g3 : Nat), (aQ = ⟨#[.bool false, .pointer (some ⟨gd, 0, none⟩), .pointer (some ⟨g2, 0, none⟩), .pointer (some ⟨g3, 0, none⟩), ud, ud, ud, ud, ud, ud, ud, ud, ud, ud, ud, ud, ud, ud, .agg parDef.cells, .agg (parDef.cells), .agg (parDef.cells), ud, ud, ud, ud, ud, ud, ud, ud, ud, ud, ud, ud, ud, ud, ud, ud, ud, ud, ud, ud, ud, ud, ud, ud, ud, ud, ud, ud, ud, ud, ud, ud, ud, ud, ud, ud, ud, ud, ud, ud, ud, ud, ud, ud, ud, ud, ud, ud, ud, ud, ud, ud, ud, ud, ud, ud, ud, ud, ud, ud, ud, ud, ud, ud, ud, ud, ud, ud, ud, ud, ud, ud, ud, ud, ud, ud, ud, ud, ud, ud, ud, ud, ud, ud, ud, ud, ud, ud, ud, ud, ud, ud, ud, ud, ud, ud, ud, ud, ud, ud, ud, ud, ud, ud, ud, ud, ud, ud, ud, ud, ud, ud, ud, ud, ud, ud, ud, ud], []⟩) ∧ (VQ.heap[gd]? = some (.cells parDef.cells 24 (0, 0))) ∧ (VQ.heap[g2]? = some (.cells parDef.cells 24 (0, 0))) ∧ (VQ.heap[g3]? = some (.cells parDef.cells 24 (0, 0))) ∧ (g2 ≠ g3 ∧ g2 ≠ gd ∧ g3 ≠ gd ∧ w.heap.size ≤ g2 ∧ w.heap.size ≤ g3 ∧ V9.heap.size ≤ g2 ∧ V9.heap.size ≤ g3) ∧ (Keeps Nob w VQ)) ?_ ?_
  · refine sy_np <| sy_reg <| an_begin 2 6 (opsAt (qc65_0 14)) (fun W => (W.heap[gd]? = some (.cells parDef.cells 24 (0, 0)))) #[false, false, false, false, false, false] (by kernel_rfl) (by kernel_rfl) (by kernel_rfl) (by kernel_rfl) ?_
    obtain ⟨V13, eV13, kV13⟩ := drew_step V9
    rw [eV13]
    clear eV13
    have h14 := kV13.bk h10
    have K15 := K11.nn kV13
    have z16 := kV13.size
    refine avq 0 (.agg (parDef.cells)) (fun W hS => ldr 24 gd (hS) (by kernel_rfl)) h14 <| avq 1 (.agg (parDef.cells)) (fun W hS => ldr 24 gd (hS) (by kernel_rfl)) h14 ?_
    refine an_two 2 3 (by kernel_rfl) ?_ ?_
    · refine nal 24 (#[.int .i64 0, .int .i64 0, .int .i64 0, .int .i64 0, .int .i64 0, .int .i64 0, .int .i64 0, .int .u64 0, .int .u64 0, .int .i64 0, .int .u64 0]) (.agg (#[.int .i64 0, .int .i64 0, .int .i64 0, .int .i64 0, .int .i64 0, .int .i64 0, .int .i64 0, .int .u64 0, .int .u64 0, .int .i64 0, .int .u64 0])) fun V17 g2 eg2 h18 kV17 => ?_
      have n19 : gd < g2 := eg2 ▸ lt_of_block h14
      have n20 : w.heap.size ≤ g2 := eg2 ▸ K15.size
      have h21 := kV17.bk h14
      have K22 := K15.nn kV17
      have z23 := kV17.size
      refine ⟨h21, ?_⟩
      refine an_o 3 <| nal 24 (#[.int .i64 0, .int .i64 0, .int .i64 0, .int .i64 0, .int .i64 0, .int .i64 0, .int .i64 0, .int .u64 0, .int .u64 0, .int .i64 0, .int .u64 0]) (.agg (#[.int .i64 0, .int .i64 0, .int .i64 0, .int .i64 0, .int .i64 0, .int .i64 0, .int .i64 0, .int .u64 0, .int .u64 0, .int .i64 0, .int .u64 0])) fun V24 g3 eg3 h25 kV24 => ?_
      have n26 : gd < g3 := eg3 ▸ lt_of_block h21
      have n27 : g2 < g3 := eg3 ▸ lt_of_block h18
      have n28 : w.heap.size ≤ g3 := eg3 ▸ K22.size
      have h29 := kV24.bk h21
      have h30 := kV24.bk h18
      have K31 := K22.nn kV24
      have z32 := kV24.size
      refine ⟨h29, ?_⟩
      refine an_o 4 <| nst 24 g2 ((parDef.cells)) h30 (by kernel_rfl) rfl (by kernel_rfl) fun V33 h34 kV33 => ?_
      have h35 := kV33.bO h29
      have h36 := kV33.bO h25
      have K37 := K31.nO kV33
      have z38 := kV33.size
      refine ⟨h35, ?_⟩
      refine an_o 5 <| nst 24 g3 ((parDef.cells)) h36 (by kernel_rfl) rfl (by kernel_rfl) fun V39 h40 kV39 => ?_
      have h41 := kV39.bO h35
      have h42 := kV39.bO h34
      have K43 := K37.nO kV39
      have z44 := kV39.size
      refine ⟨h41, ?_⟩
      refine an_end (by kernel_rfl) ?_
      exact ⟨rfl, g2, g3, by kernel_rfl, h41, h42, h40, by omega, K43⟩
    · refine nal 24 (#[.int .i64 0, .int .i64 0, .int .i64 0, .int .i64 0, .int .i64 0, .int .i64 0, .int .i64 0, .int .u64 0, .int .u64 0, .int .i64 0, .int .u64 0]) (.agg (#[.int .i64 0, .int .i64 0, .int .i64 0, .int .i64 0, .int .i64 0, .int .i64 0, .int .i64 0, .int .u64 0, .int .u64 0, .int .i64 0, .int .u64 0])) fun V45 g3 eg3 h46 kV45 => ?_
      have n47 : gd < g3 := eg3 ▸ lt_of_block h14
      have n48 : w.heap.size ≤ g3 := eg3 ▸ K15.size
      have h49 := kV45.bk h14
      have K50 := K15.nn kV45
      have z51 := kV45.size
      refine ⟨h49, ?_⟩
      refine an_o 2 <| nal 24 (#[.int .i64 0, .int .i64 0, .int .i64 0, .int .i64 0, .int .i64 0, .int .i64 0, .int .i64 0, .int .u64 0, .int .u64 0, .int .i64 0, .int .u64 0]) (.agg (#[.int .i64 0, .int .i64 0, .int .i64 0, .int .i64 0, .int .i64 0, .int .i64 0, .int .i64 0, .int .u64 0, .int .u64 0, .int .i64 0, .int .u64 0])) fun V52 g2 eg2 h53 kV52 => ?_
      have n54 : gd < g2 := eg2 ▸ lt_of_block h49
      have n55 : g3 < g2 := eg2 ▸ lt_of_block h46
      have n56 : w.heap.size ≤ g2 := eg2 ▸ K50.size
      have h57 := kV52.bk h49
      have h58 := kV52.bk h46
      have K59 := K50.nn kV52
      have z60 := kV52.size
      refine ⟨h57, ?_⟩
      refine an_o 4 <| nst 24 g2 ((parDef.cells)) h53 (by kernel_rfl) rfl (by kernel_rfl) fun V61 h62 kV61 => ?_
      have h63 := kV61.bO h57
      have h64 := kV61.bO h58
      have K65 := K59.nO kV61
      have z66 := kV61.size
      refine ⟨h63, ?_⟩
      refine an_o 5 <| nst 24 g3 ((parDef.cells)) h64 (by kernel_rfl) rfl (by kernel_rfl) fun V67 h68 kV67 => ?_
      have h69 := kV67.bO h63
      have h70 := kV67.bO h62
      have K71 := K65.nO kV67
      have z72 := kV67.size
      refine ⟨h69, ?_⟩
      refine an_end (by kernel_rfl) ?_
      exact ⟨rfl, g2, g3, by kernel_rfl, h69, h70, h68, by omega, K71⟩
  rintro aQ V73 ⟨g2, g3, rfl, h74, h75, h76, hd77, K78⟩
  have z79 := lt_of_block h75
  refine tqr_ [0, 1] <| pkq (pT g2 1) <| pce 3 g2 1 (.int .i64 101) parOld.cells h75 (rc (h75) (rfl)) (by kernel_rfl) fun V80 h81 kV80 => ?_
  have h82 := kV80.bO h74
  have h83 := kV80.bO h76
  have K84 := K78.nO kV80
  have z85 := kV80.size
  refine eqr_ [0, 1] <| pkq (pT g3 0) <| pce 3 g3 0 (.int .i64 0) parLow1.cells h83 (rc (h83) (rfl)) (by kernel_rfl) fun V86 h87 kV86 => ?_
  have h88 := kV86.bO h82
  have h89 := kV86.bO h81
  have K90 := K84.nO kV86
  have z91 := kV86.size
  refine eqr_ [0, 1] <| pkq (pT g3 1) <| pce 3 g3 1 (.int .i64 (-1)) parLow.cells h87 (rc (h87) (rfl)) (by kernel_rfl) fun V92 h93 kV92 => ?_
  have h94 := kV92.bO h88
  have h95 := kV92.bO h89
  have K96 := K90.nO kV92
  have z97 := kV92.size
  refine eqr_ [0, 1, 2, 3, 4, 5, 6] <| ppq (.agg (parOld.cells)) (ldr 24 g2 (h95) (by kernel_rfl)) ?_
  refine pcq 31 #[.agg (parOld.cells), .int .i64 9, .int .i64 1] Tryd.func31 ((lpchecks_ok parOld 9 1 _ parOld_Ok (by rw [parOld_c]) (by rw [parOld_c])).mono ?_)
  rintro e V98 ⟨rfl, kV98⟩
  refine ⟨_, rfl, ?_⟩
  have h99 := kV98.bk h94
  have h100 := kV98.bk h95
  have h101 := kV98.bk h93
  have K102 := K96.nn kV98
  have z103 := kV98.size
  refine pkq (.bool true) <| ppq (.agg (parLow.cells)) (ldr 24 g3 (h101) (by kernel_rfl)) ?_
  refine pcq 31 #[.agg (parLow.cells), .int .i64 3, .int .i64 0] Tryd.func31 ((lpchecks_ok parLow 3 0 _ parLow_Ok (by rw [parLow_c]) (by rw [parLow_c])).mono ?_)
  rintro e V104 ⟨rfl, kV104⟩
  refine ⟨_, rfl, ?_⟩
  have h105 := kV104.bk h99
  have h106 := kV104.bk h100
  have h107 := kV104.bk h101
  have K108 := K102.nn kV104
  have z109 := kV104.size
  refine pkq (.bool true) <| pkq (.bool true) <| eqr_ [0, 1, 2, 3, 4, 5, 6] <| ppq (.agg (parDef.cells)) (ldr 24 gd (h105) (by kernel_rfl)) ?_
  refine pcq 11 #[.agg (parDef.cells), .string { data := #[66, 97, 115, 101] }] Tryd.func11 ((pGet_is parDef _ _ _ _ parDef_Ok g_Base).mono ?_)
  rintro e V110 ⟨rfl, kV110⟩
  refine ⟨_, rfl, ?_⟩
  have h111 := kV110.bk h105
  have h112 := kV110.bk h106
  have h113 := kV110.bk h107
  have K114 := K108.nn kV110
  have z115 := kV110.size
  refine pkq (.tuple #[.int .u64 0, .int .i64 10]) <| pkq (.int .u64 0) <| pkq (.int .i64 10) <| pkq (.int .u64 0) <| pkq (.int .i64 10) <| eqr_ [0, 1, 2, 3, 4, 5, 6, 7] <| ppq (.agg (parDef.cells)) (ldr 24 gd (h111) (by kernel_rfl)) ?_
  refine pcq 13 #[.agg (parDef.cells), .string { data := #[117, 110, 98, 111, 110, 100, 105, 110, 103] }, .int .u64 99] Tryd.func13 ((pSet_is parDef parZ _ 99 9 _ parDef_Ok s_unb).mono ?_)
  rintro e V116 ⟨rfl, kV116⟩
  refine ⟨_, rfl, ?_⟩
  have h117 := kV116.bk h111
  have h118 := kV116.bk h112
  have h119 := kV116.bk h113
  have K120 := K114.nn kV116
  have z121 := kV116.size
  refine pkq (.tuple #[.agg parZ.cells, .int .i64 9]) <| pkq (.agg parZ.cells) <| pkq (.int .i64 9) <| pal 24 (#[.int .i64 0, .int .i64 0, .int .i64 0, .int .i64 0, .int .i64 0, .int .i64 0, .int .i64 0, .int .u64 0, .int .u64 0, .int .i64 0, .int .u64 0]) (.agg (#[.int .i64 0, .int .i64 0, .int .i64 0, .int .i64 0, .int .i64 0, .int .i64 0, .int .i64 0, .int .u64 0, .int .u64 0, .int .i64 0, .int .u64 0])) fun V122 g7 eg7 h123 kV122 => ?_
  have n124 : gd < g7 := eg7 ▸ lt_of_block h117
  have n125 : g2 < g7 := eg7 ▸ lt_of_block h118
  have n126 : g3 < g7 := eg7 ▸ lt_of_block h119
  have n127 : w.heap.size ≤ g7 := eg7 ▸ K120.size
  have h128 := kV122.bk h117
  have h129 := kV122.bk h118
  have h130 := kV122.bk h119
  have K131 := K120.nn kV122
  have z132 := kV122.size
  refine pst 24 g7 parZ.cells h123 (by kernel_rfl) rfl (by kernel_rfl) fun V133 h134 kV133 => ?_
  have h135 := kV133.bO h128
  have h136 := kV133.bO h129
  have h137 := kV133.bO h130
  have K138 := K131.nO kV133
  have z139 := kV133.size
  refine pkq (.int .i64 9) <| ps_end <| sy_a ⟨#[.bool false, pT gd 0, pT g2 0, pT g3 0, .bool true, .int .u64 0, .int .i64 10, pT g7 0, .int .i64 9, ud, ud, ud, ud, ud, ud, ud, ud, ud, .agg parDef.cells, .agg (parDef.cells), .agg (parDef.cells), pT g2 1, pT g3 0, pT g3 1, .agg (parOld.cells), .bool true, .bool true, .agg (parLow.cells), .bool true, .bool true, .tuple #[.int .u64 0, .int .i64 10], .agg (parDef.cells), .tuple #[.int .u64 0, .int .i64 10], .int .u64 0, .int .i64 10, .tuple #[.agg parZ.cells, .int .i64 9], .agg (parDef.cells), .tuple #[.agg parZ.cells, .int .i64 9], .agg parZ.cells, .int .i64 9, ud, ud, ud, ud, ud, ud, ud, ud, ud, ud, ud, ud, ud, ud, ud, ud, ud, ud, ud, ud, ud, ud, ud, ud, ud, ud, ud, ud, ud, ud, ud, ud, ud, ud, ud, ud, ud, ud, ud, ud, ud, ud, ud, ud, ud, ud, ud, ud, ud, ud, ud, ud, ud, ud, ud, ud, ud, ud, ud, ud, ud, ud, ud, ud, ud, ud, ud, ud, ud, ud, ud, ud, ud, ud, ud, ud, ud, ud, ud, ud, ud, ud, ud, ud, ud, ud, ud, ud, ud, ud, ud, ud, ud, ud, ud, ud, ud, ud, ud], []⟩ <| tqr_ [0, 1, 2, 3, 4, 5, 6, 7] <| ppq (.agg (parDef.cells)) (ldr 24 gd (h135) (by kernel_rfl)) ?_
  refine pcq 13 #[.agg (parDef.cells), .string { data := #[109, 117, 108, 116] }, .int .u64 1001] Tryd.func13 ((pSet_is parDef parZ _ 1001 3 _ parDef_Ok s_mult).mono ?_)
  rintro e V140 ⟨rfl, kV140⟩
  refine ⟨_, rfl, ?_⟩
  have h141 := kV140.bk h135
  have h142 := kV140.bk h136
  have h143 := kV140.bk h137
  have h144 := kV140.bk h134
  have K145 := K138.nn kV140
  have z146 := kV140.size
  refine pkq (.tuple #[.agg parZ.cells, .int .i64 3]) <| pkq (.agg parZ.cells) <| pkq (.int .i64 3) <| pal 24 (#[.int .i64 0, .int .i64 0, .int .i64 0, .int .i64 0, .int .i64 0, .int .i64 0, .int .i64 0, .int .u64 0, .int .u64 0, .int .i64 0, .int .u64 0]) (.agg (#[.int .i64 0, .int .i64 0, .int .i64 0, .int .i64 0, .int .i64 0, .int .i64 0, .int .i64 0, .int .u64 0, .int .u64 0, .int .i64 0, .int .u64 0])) fun V147 g9 eg9 h148 kV147 => ?_
  have n149 : gd < g9 := eg9 ▸ lt_of_block h141
  have n150 : g2 < g9 := eg9 ▸ lt_of_block h142
  have n151 : g3 < g9 := eg9 ▸ lt_of_block h143
  have n152 : g7 < g9 := eg9 ▸ lt_of_block h144
  have n153 : w.heap.size ≤ g9 := eg9 ▸ K145.size
  have h154 := kV147.bk h141
  have h155 := kV147.bk h142
  have h156 := kV147.bk h143
  have h157 := kV147.bk h144
  have K158 := K145.nn kV147
  have z159 := kV147.size
  refine pst 24 g9 parZ.cells h148 (by kernel_rfl) rfl (by kernel_rfl) fun V160 h161 kV160 => ?_
  have h162 := kV160.bO h154
  have h163 := kV160.bO h155
  have h164 := kV160.bO h156
  have h165 := kV160.bO h157
  have K166 := K158.nO kV160
  have z167 := kV160.size
  refine pkq (.int .i64 3) <| eqr_ [0, 1, 2, 3, 4, 5, 6, 7] <| ppq (.agg (parDef.cells)) (ldr 24 gd (h162) (by kernel_rfl)) ?_
  refine pcq 13 #[.agg (parDef.cells), .string { data := #[114, 101, 119, 97, 114, 100] }, .int .u64 0] Tryd.func13 ((pSet_is parDef parRew _ 0 0 _ parDef_Ok s_rew).mono ?_)
  rintro e V168 ⟨rfl, kV168⟩
  refine ⟨_, rfl, ?_⟩
  have h169 := kV168.bk h162
  have h170 := kV168.bk h163
  have h171 := kV168.bk h164
  have h172 := kV168.bk h165
  have h173 := kV168.bk h161
  have K174 := K166.nn kV168
  have z175 := kV168.size
  refine pkq (.tuple #[.agg parRew.cells, .int .i64 0]) <| pkq (.agg parRew.cells) <| pkq (.int .i64 0) <| pal 24 (#[.int .i64 0, .int .i64 0, .int .i64 0, .int .i64 0, .int .i64 0, .int .i64 0, .int .i64 0, .int .u64 0, .int .u64 0, .int .i64 0, .int .u64 0]) (.agg (#[.int .i64 0, .int .i64 0, .int .i64 0, .int .i64 0, .int .i64 0, .int .i64 0, .int .i64 0, .int .u64 0, .int .u64 0, .int .i64 0, .int .u64 0])) fun V176 g11 eg11 h177 kV176 => ?_
  have n178 : gd < g11 := eg11 ▸ lt_of_block h169
  have n179 : g2 < g11 := eg11 ▸ lt_of_block h170
  have n180 : g3 < g11 := eg11 ▸ lt_of_block h171
  have n181 : g7 < g11 := eg11 ▸ lt_of_block h172
  have n182 : g9 < g11 := eg11 ▸ lt_of_block h173
  have n183 : w.heap.size ≤ g11 := eg11 ▸ K174.size
  have h184 := kV176.bk h169
  have h185 := kV176.bk h170
  have h186 := kV176.bk h171
  have h187 := kV176.bk h172
  have h188 := kV176.bk h173
  have K189 := K174.nn kV176
  have z190 := kV176.size
  refine pst 24 g11 parRew.cells h177 (by kernel_rfl) rfl (by kernel_rfl) fun V191 h192 kV191 => ?_
  have h193 := kV191.bO h184
  have h194 := kV191.bO h185
  have h195 := kV191.bO h186
  have h196 := kV191.bO h187
  have h197 := kV191.bO h188
  have K198 := K189.nO kV191
  have z199 := kV191.size
  refine pkq (.int .i64 0) <| eqr_ [0, 1, 2, 3, 4, 5, 6, 7, 8, 9, 10, 11, 12, 13, 14, 15, 16, 17, 18, 19, 20, 21, 22, 23, 24, 25, 26] <| pkq (.int .i64 10) <| pkq (.bool true) <| pkq (.bool true) <| pkq (.int .i64 9) <| pkq (.bool true) <| pkq (.bool true) <| pkq (.bool true) <| pkq (.int .i64 3) <| pkq (.bool true) <| pkq (.bool true) <| pkq (.bool true) <| pkq (.int .i64 0) ?_
  refine pkq (.bool true) <| pkq (.bool true) <| pkq (.bool true) <| pkq (pT g11 10) <| ppq (.int .u64 0) (ldc 22 g11 10 (rc (h192) (rfl))) <| pkq (.bool true) <| pkq (.bool true) <| pkq (.bool true) <| pkq (pT g11 7) <| ppq (.int .u64 50000000) (ldc 22 g11 7 (rc (h192) (rfl))) <| pkq (pT gd 7) <| ppq (.int .u64 50000000) (ldc 22 gd 7 (rc (h193) (rfl))) <| pkq (.bool true) <| pkq (.bool true) ?_
  refine pkq (.bool true) <| ps_end <| sy_a ⟨#[.bool false, pT gd 0, pT g2 0, pT g3 0, .bool true, .int .u64 0, .int .i64 10, pT g7 0, .int .i64 9, pT g9 0, .int .i64 3, pT g11 0, .int .i64 0, .bool true, ud, ud, ud, ud, .agg parDef.cells, .agg (parDef.cells), .agg (parDef.cells), pT g2 1, pT g3 0, pT g3 1, .agg (parOld.cells), .bool true, .bool true, .agg (parLow.cells), .bool true, .bool true, .tuple #[.int .u64 0, .int .i64 10], .agg (parDef.cells), .tuple #[.int .u64 0, .int .i64 10], .int .u64 0, .int .i64 10, .tuple #[.agg parZ.cells, .int .i64 9], .agg (parDef.cells), .tuple #[.agg parZ.cells, .int .i64 9], .agg parZ.cells, .int .i64 9, .tuple #[.agg parZ.cells, .int .i64 3], .agg (parDef.cells), .tuple #[.agg parZ.cells, .int .i64 3], .agg parZ.cells, .int .i64 3, .tuple #[.agg parRew.cells, .int .i64 0], .agg (parDef.cells), .tuple #[.agg parRew.cells, .int .i64 0], .agg parRew.cells, .int .i64 0, .int .i64 10, .bool true, .bool true, .int .i64 9, .bool true, .bool true, .bool true, .int .i64 3, .bool true, .bool true, .bool true, .int .i64 0, .bool true, .bool true, .bool true, pT g11 10, .int .u64 0, .bool true, .bool true, .bool true, pT g11 7, .int .u64 50000000, pT gd 7, .int .u64 50000000, .bool true, .bool true, ud, ud, ud, ud, ud, ud, ud, ud, ud, ud, ud, ud, ud, ud, ud, ud, ud, ud, ud, ud, ud, ud, ud, ud, ud, ud, ud, ud, ud, ud, ud, ud, ud, ud, ud, ud, ud, ud, ud, ud, ud, ud, ud, ud, ud, ud, ud, ud, ud, ud, ud, ud, ud, ud, ud, ud, ud, ud, ud, ud, ud, ud, ud], []⟩ <| tqr_ [0, 1, 2, 3, 4, 5, 6] <| ppq (.agg (parDef.cells)) (ldr 24 gd (h193) (by kernel_rfl)) ?_
  refine pcq 21 #[.agg (parDef.cells)] Tryd.func21 ((ptx_d ▸ pText_ok parDef _ parDef_Ok (by rw [parDef_c]) (PowTab.keeps htab K198)).mono ?_)
  rintro e V200 ⟨rfl, kV200⟩
  refine ⟨_, rfl, ?_⟩
  have h201 := kV200.bk h193
  have h202 := kV200.bk h194
  have h203 := kV200.bk h195
  have h204 := kV200.bk h196
  have h205 := kV200.bk h197
  have h206 := kV200.bk h192
  have K207 := K198.nn kV200
  have z208 := kV200.size
  refine pkq (.tuple #[.string ⟨txd.toArray⟩, .int .i64 0]) <| pkq (.string ⟨txd.toArray⟩) <| pkq (.int .i64 0) <| pkq (.string ⟨txd.toArray⟩) <| pkq (.int .i64 0) <| eq_ <| qr_ [0, 1, 2, 3, 4, 5, 6, 7] <| pkq (.string ⟨txd.toArray⟩) <| ppq (.int .i64 132) (exec_len_str (.tmp 81) 9 (by kernel_rfl) Tryd.underlying9 ⟨txd.toArray⟩ (by kernel_rfl)) <| pkq (.bool false) <| pkq (.bool false) <| pkq (.string ⟨txd.toArray⟩) <| ppq (.string ⟨txM.toArray⟩) (exec_cast (congrArg (fun l : List UInt8 => Value.string ⟨l.toArray⟩) mid_M) (exec_slice_mid 9 (.tmp 85) (.const (.int .i64 14)) (.const (.int .i64 25)) (by kernel_rfl) txd (by kernel_rfl) .i64 .i64 14 25 (by kernel_rfl) (by kernel_rfl) Tryd.underlying9 (by decide) (by decide))) <| ppq (.bool false) (exec_binop .neq 9 9 (.tmp 86) (.const (.string ⟨#[109, 97, 120, 97, 103, 101, 32, 49, 48, 48, 10]⟩)) (by kernel_rfl) (.string ⟨txM.toArray⟩) (.string ⟨txM.toArray⟩) _ (by kernel_rfl) (by kernel_rfl) (by kernel_rfl) (str_same _ _)) ?_
  refine pkq (.bool false) <| en_ <| s_ <| tqr_ [0, 1, 2, 3, 4, 5, 6, 7, 8, 9, 10, 11, 12, 13, 14, 15, 16, 17, 18, 19, 20, 21, 22] <| pkq (.string ⟨txd.toArray⟩) <| ppq (.string ⟨txdS.toArray⟩) (exec_cast (congrArg (fun l : List UInt8 => Value.string ⟨l.toArray⟩) take_S) (exec_slice_to 9 (.tmp 89) (.const (.int .i64 131)) (by kernel_rfl) txd (by kernel_rfl) .i64 131 (by kernel_rfl) Tryd.underlying9 (by decide))) ?_
  refine pcq 32 #[.string ⟨txdS.toArray⟩] Tryd.func32 ((lpparses_ok txdS 6 10 _ (by decide) p_S).mono ?_)
  rintro e V209 ⟨rfl, kV209⟩
  refine ⟨_, rfl, ?_⟩
  have h210 := kV209.bk h201
  have h211 := kV209.bk h202
  have h212 := kV209.bk h203
  have h213 := kV209.bk h204
  have h214 := kV209.bk h205
  have h215 := kV209.bk h206
  have K216 := K207.nn kV209
  have z217 := kV209.size
  refine pkq (.agg #[.int .i64 6, .int .i64 10]) <| ppq (.bool true) (exec_cast (congrArg Value.bool (by simp)) (exec_binop .eql 46 46 (.tmp 91) (.tmp 92) (by kernel_rfl) (.agg #[.int .i64 6, .int .i64 10]) (.agg #[.int .i64 6, .int .i64 10]) _ (by kernel_rfl) (by kernel_rfl) (run_eqGuard_agg _ _ _ _ _ _ _ pfault_guard) (pfault_eq _ _ _ _ _))) <| pkq (.bool true) <| pkq (.string ⟨txd.toArray⟩) <| ppq (.string ⟨txdL.toArray⟩) (exec_cast (congrArg (fun l : List UInt8 => Value.string ⟨l.toArray⟩) cat_L) (exec_cat 9 (.tmp 95) (.const (.string ⟨#[120]⟩)) (by kernel_rfl) txd [120] (by kernel_rfl) (by kernel_rfl) (by decide))) ?_
  refine pcq 32 #[.string ⟨txdL.toArray⟩] Tryd.func32 ((lpparses_ok txdL 4 11 _ (by decide) p_L).mono ?_)
  rintro e V218 ⟨rfl, kV218⟩
  refine ⟨_, rfl, ?_⟩
  have h219 := kV218.bk h210
  have h220 := kV218.bk h211
  have h221 := kV218.bk h212
  have h222 := kV218.bk h213
  have h223 := kV218.bk h214
  have h224 := kV218.bk h215
  have K225 := K216.nn kV218
  have z226 := kV218.size
  refine pkq (.agg #[.int .i64 4, .int .i64 11]) <| ppq (.bool true) (exec_cast (congrArg Value.bool (by simp)) (exec_binop .eql 46 46 (.tmp 97) (.tmp 98) (by kernel_rfl) (.agg #[.int .i64 4, .int .i64 11]) (.agg #[.int .i64 4, .int .i64 11]) _ (by kernel_rfl) (by kernel_rfl) (run_eqGuard_agg _ _ _ _ _ _ _ pfault_guard) (pfault_eq _ _ _ _ _))) <| pkq (.bool true) <| pkq (.bool true) ?_
  refine pcq 32 #[.string { data := #[117, 110, 98, 111, 110, 100, 105, 110, 103, 32, 48, 49, 48, 48, 10] }] Tryd.func32 ((lpparses_ok txF 5 0 _ (by decide) p_F).mono ?_)
  rintro e V227 ⟨rfl, kV227⟩
  refine ⟨_, rfl, ?_⟩
  have h228 := kV227.bk h219
  have h229 := kV227.bk h220
  have h230 := kV227.bk h221
  have h231 := kV227.bk h222
  have h232 := kV227.bk h223
  have h233 := kV227.bk h224
  have K234 := K225.nn kV227
  have z235 := kV227.size
  refine pkq (.agg #[.int .i64 5, .int .i64 0]) <| ppq (.bool true) (exec_cast (congrArg Value.bool (by simp)) (exec_binop .eql 46 46 (.tmp 102) (.tmp 103) (by kernel_rfl) (.agg #[.int .i64 5, .int .i64 0]) (.agg #[.int .i64 5, .int .i64 0]) _ (by kernel_rfl) (by kernel_rfl) (run_eqGuard_agg _ _ _ _ _ _ _ pfault_guard) (pfault_eq _ _ _ _ _))) <| pkq (.bool true) <| pkq (.bool true) ?_
  refine pcq 32 #[.string { data := #[117, 110, 98, 111, 110, 100, 105, 110, 103, 32, 48, 10] }] Tryd.func32 ((lpparses_ok txR 3 0 _ (by decide) p_R).mono ?_)
  rintro e V236 ⟨rfl, kV236⟩
  refine ⟨_, rfl, ?_⟩
  have h237 := kV236.bk h228
  have h238 := kV236.bk h229
  have h239 := kV236.bk h230
  have h240 := kV236.bk h231
  have h241 := kV236.bk h232
  have h242 := kV236.bk h233
  have K243 := K234.nn kV236
  have z244 := kV236.size
  refine pkq (.agg #[.int .i64 3, .int .i64 0]) <| ppq (.bool true) (exec_cast (congrArg Value.bool (by simp)) (exec_binop .eql 46 46 (.tmp 107) (.tmp 108) (by kernel_rfl) (.agg #[.int .i64 3, .int .i64 0]) (.agg #[.int .i64 3, .int .i64 0]) _ (by kernel_rfl) (by kernel_rfl) (run_eqGuard_agg _ _ _ _ _ _ _ pfault_guard) (pfault_eq _ _ _ _ _))) <| pkq (.bool true) <| pkq (.bool true) <| ps_end <| sy_a ⟨#[.bool false, pT gd 0, pT g2 0, pT g3 0, .bool true, .int .u64 0, .int .i64 10, pT g7 0, .int .i64 9, pT g9 0, .int .i64 3, pT g11 0, .int .i64 0, .bool true, .string ⟨txd.toArray⟩, .int .i64 0, .bool true, ud, .agg parDef.cells, .agg (parDef.cells), .agg (parDef.cells), pT g2 1, pT g3 0, pT g3 1, .agg (parOld.cells), .bool true, .bool true, .agg (parLow.cells), .bool true, .bool true, .tuple #[.int .u64 0, .int .i64 10], .agg (parDef.cells), .tuple #[.int .u64 0, .int .i64 10], .int .u64 0, .int .i64 10, .tuple #[.agg parZ.cells, .int .i64 9], .agg (parDef.cells), .tuple #[.agg parZ.cells, .int .i64 9], .agg parZ.cells, .int .i64 9, .tuple #[.agg parZ.cells, .int .i64 3], .agg (parDef.cells), .tuple #[.agg parZ.cells, .int .i64 3], .agg parZ.cells, .int .i64 3, .tuple #[.agg parRew.cells, .int .i64 0], .agg (parDef.cells), .tuple #[.agg parRew.cells, .int .i64 0], .agg parRew.cells, .int .i64 0, .int .i64 10, .bool true, .bool true, .int .i64 9, .bool true, .bool true, .bool true, .int .i64 3, .bool true, .bool true, .bool true, .int .i64 0, .bool true, .bool true, .bool true, pT g11 10, .int .u64 0, .bool true, .bool true, .bool true, pT g11 7, .int .u64 50000000, pT gd 7, .int .u64 50000000, .bool true, .bool true, .tuple #[.string ⟨txd.toArray⟩, .int .i64 0], .agg (parDef.cells), .tuple #[.string ⟨txd.toArray⟩, .int .i64 0], .string ⟨txd.toArray⟩, .int .i64 0, .string ⟨txd.toArray⟩, .int .i64 132, .bool false, .bool false, .string ⟨txd.toArray⟩, .string ⟨txM.toArray⟩, .bool false, .bool false, .string ⟨txd.toArray⟩, .string ⟨txdS.toArray⟩, .agg #[.int .i64 6, .int .i64 10], .agg #[.int .i64 6, .int .i64 10], .bool true, .bool true, .string ⟨txd.toArray⟩, .string ⟨txdL.toArray⟩, .agg #[.int .i64 4, .int .i64 11], .agg #[.int .i64 4, .int .i64 11], .bool true, .bool true, .bool true, .agg #[.int .i64 5, .int .i64 0], .agg #[.int .i64 5, .int .i64 0], .bool true, .bool true, .bool true, .agg #[.int .i64 3, .int .i64 0], .agg #[.int .i64 3, .int .i64 0], .bool true, .bool true, ud, ud, ud, ud, ud, ud, ud, ud, ud, ud, ud, ud, ud, ud, ud, ud, ud, ud, ud, ud, ud, ud, ud, ud, ud, ud, ud, ud], []⟩ <| tqr_ [0, 1, 2, 3, 4, 5, 6, 7, 8, 9, 10, 11, 12, 13, 14, 15] ?_
  refine pcq 33 #[.slice none 0 0] Tryd.func33 ((lpreads_ok _ [] 6 0 _ (bytes_none _) (by decide) r_0).mono ?_)
  rintro e V245 ⟨rfl, kV245⟩
  refine ⟨_, rfl, ?_⟩
  have h246 := kV245.bk h237
  have h247 := kV245.bk h238
  have h248 := kV245.bk h239
  have h249 := kV245.bk h240
  have h250 := kV245.bk h241
  have h251 := kV245.bk h242
  have K252 := K243.nn kV245
  have z253 := kV245.size
  refine pkq (.agg #[.int .i64 6, .int .i64 0]) <| ppq (.bool true) (exec_cast (congrArg Value.bool (by simp)) (exec_binop .eql 46 46 (.tmp 111) (.tmp 112) (by kernel_rfl) (.agg #[.int .i64 6, .int .i64 0]) (.agg #[.int .i64 6, .int .i64 0]) _ (by kernel_rfl) (by kernel_rfl) (run_eqGuard_agg _ _ _ _ _ _ _ pfault_guard) (pfault_eq _ _ _ _ _))) <| pkq (.bool true) ?_
  obtain ⟨V254, eV254, b1, eb1, h255, kV254⟩ := alloc_step V245 (#[.int .u8 5, .int .u8 6]) 5
  have n256 : gd < b1 := eb1 ▸ lt_of_block h246
  have n257 : g2 < b1 := eb1 ▸ lt_of_block h247
  have n258 : g3 < b1 := eb1 ▸ lt_of_block h248
  have n259 : g7 < b1 := eb1 ▸ lt_of_block h249
  have n260 : g9 < b1 := eb1 ▸ lt_of_block h250
  have n261 : g11 < b1 := eb1 ▸ lt_of_block h251
  have n262 : w.heap.size ≤ b1 := eb1 ▸ K252.size
  refine prq (.slice (some ⟨b1, 0, none⟩) 2 2) (w' := V254) (by rw [← eV254, ← eb1]; kernel_rfl) ?_
  have h263 := kV254.bk h246
  have h264 := kV254.bk h247
  have h265 := kV254.bk h248
  have h266 := kV254.bk h249
  have h267 := kV254.bk h250
  have h268 := kV254.bk h251
  have K269 := K252.nn kV254
  have z270 := kV254.size
  refine pcq 33 #[.slice (some ⟨b1, 0, none⟩) 2 2] Tryd.func33 ((lpreads_ok _ [5, 6] 9 1 _ (Own.bytes_of_block (l := [5, 6]) h255 (by kernel_rfl) rfl (by decide)) (by decide) r_1).mono ?_)
  rintro e V271 ⟨rfl, kV271⟩
  refine ⟨_, rfl, ?_⟩
  have h272 := kV271.bk h263
  have h273 := kV271.bk h264
  have h274 := kV271.bk h265
  have h275 := kV271.bk h266
  have h276 := kV271.bk h267
  have h277 := kV271.bk h268
  have h278 := kV271.bk h255
  have K279 := K269.nn kV271
  have z280 := kV271.size
  refine pkq (.agg #[.int .i64 9, .int .i64 1]) <| ppq (.bool true) (exec_cast (congrArg Value.bool (by simp)) (exec_binop .eql 46 46 (.tmp 116) (.tmp 117) (by kernel_rfl) (.agg #[.int .i64 9, .int .i64 1]) (.agg #[.int .i64 9, .int .i64 1]) _ (by kernel_rfl) (by kernel_rfl) (run_eqGuard_agg _ _ _ _ _ _ _ pfault_guard) (pfault_eq _ _ _ _ _))) <| pkq (.bool true) <| pkq (.bool true) ?_
  obtain ⟨V281, eV281, b2, eb2, h282, kV281⟩ := alloc_step V271 (#[.int .u8 0]) 5
  have n283 : gd < b2 := eb2 ▸ lt_of_block h272
  have n284 : g2 < b2 := eb2 ▸ lt_of_block h273
  have n285 : g3 < b2 := eb2 ▸ lt_of_block h274
  have n286 : g7 < b2 := eb2 ▸ lt_of_block h275
  have n287 : g9 < b2 := eb2 ▸ lt_of_block h276
  have n288 : g11 < b2 := eb2 ▸ lt_of_block h277
  have n289 : b1 < b2 := eb2 ▸ lt_of_block h278
  have n290 : w.heap.size ≤ b2 := eb2 ▸ K279.size
  refine prq (.slice (some ⟨b2, 0, none⟩) 1 1) (w' := V281) (by rw [← eV281, ← eb2]; kernel_rfl) ?_
  have K298 := K279.nn kV281
  have z299 := kV281.size
  refine pcq 33 #[.slice (some ⟨b2, 0, none⟩) 1 1] Tryd.func33 ((lpreads_ok _ [0] 3 0 _ (Own.bytes_of_block (l := [0]) h282 (by kernel_rfl) rfl (by decide)) (by decide) r_2).mono ?_)
  rintro e V300 ⟨rfl, kV300⟩
  refine ⟨_, rfl, ?_⟩
  have K309 := K298.nn kV300
  have z310 := kV300.size
  refine pkq (.agg #[.int .i64 3, .int .i64 0]) <| ppq (.bool true) (exec_cast (congrArg Value.bool (by simp)) (exec_binop .eql 46 46 (.tmp 122) (.tmp 123) (by kernel_rfl) (.agg #[.int .i64 3, .int .i64 0]) (.agg #[.int .i64 3, .int .i64 0]) _ (by kernel_rfl) (by kernel_rfl) (run_eqGuard_agg _ _ _ _ _ _ _ pfault_guard) (pfault_eq _ _ _ _ _))) <| pkq (.bool true) <| pkq (.bool true) <| eqr_ [0, 1, 2, 3, 4, 5, 6, 7, 8, 9, 10, 11, 12, 13] ?_
  refine pcq 8 #[] Tryd.func8 ((lpawake_ok _ (PowTab.keeps htab K309)).mono ?_)
  rintro e V311 ⟨rfl, kV311⟩
  refine ⟨_, rfl, ?_⟩
  have K320 := K309.nn kV311
  have z321 := kV311.size
  refine pkq (.bool true) <| pkq (.bool true) <| pkq (.bool true) <| pkq (.bool true) <| pkq (.bool true) <| pkq (.bool true) <| pkq (.bool true) <| pkq (.bool true) <| pkq (.bool true) <| pkq (.bool true) <| pkq (.bool true) <| pkq (.bool true) <| pkq (.bool true) <| ps_end ?_
  refine sy_a ⟨#[.bool true, pT gd 0, pT g2 0, pT g3 0, .bool true, .int .u64 0, .int .i64 10, pT g7 0, .int .i64 9, pT g9 0, .int .i64 3, pT g11 0, .int .i64 0, .bool true, .string ⟨txd.toArray⟩, .int .i64 0, .bool true, .bool true, .agg parDef.cells, .agg (parDef.cells), .agg (parDef.cells), pT g2 1, pT g3 0, pT g3 1, .agg (parOld.cells), .bool true, .bool true, .agg (parLow.cells), .bool true, .bool true, .tuple #[.int .u64 0, .int .i64 10], .agg (parDef.cells), .tuple #[.int .u64 0, .int .i64 10], .int .u64 0, .int .i64 10, .tuple #[.agg parZ.cells, .int .i64 9], .agg (parDef.cells), .tuple #[.agg parZ.cells, .int .i64 9], .agg parZ.cells, .int .i64 9, .tuple #[.agg parZ.cells, .int .i64 3], .agg (parDef.cells), .tuple #[.agg parZ.cells, .int .i64 3], .agg parZ.cells, .int .i64 3, .tuple #[.agg parRew.cells, .int .i64 0], .agg (parDef.cells), .tuple #[.agg parRew.cells, .int .i64 0], .agg parRew.cells, .int .i64 0, .int .i64 10, .bool true, .bool true, .int .i64 9, .bool true, .bool true, .bool true, .int .i64 3, .bool true, .bool true, .bool true, .int .i64 0, .bool true, .bool true, .bool true, pT g11 10, .int .u64 0, .bool true, .bool true, .bool true, pT g11 7, .int .u64 50000000, pT gd 7, .int .u64 50000000, .bool true, .bool true, .tuple #[.string ⟨txd.toArray⟩, .int .i64 0], .agg (parDef.cells), .tuple #[.string ⟨txd.toArray⟩, .int .i64 0], .string ⟨txd.toArray⟩, .int .i64 0, .string ⟨txd.toArray⟩, .int .i64 132, .bool false, .bool false, .string ⟨txd.toArray⟩, .string ⟨txM.toArray⟩, .bool false, .bool false, .string ⟨txd.toArray⟩, .string ⟨txdS.toArray⟩, .agg #[.int .i64 6, .int .i64 10], .agg #[.int .i64 6, .int .i64 10], .bool true, .bool true, .string ⟨txd.toArray⟩, .string ⟨txdL.toArray⟩, .agg #[.int .i64 4, .int .i64 11], .agg #[.int .i64 4, .int .i64 11], .bool true, .bool true, .bool true, .agg #[.int .i64 5, .int .i64 0], .agg #[.int .i64 5, .int .i64 0], .bool true, .bool true, .bool true, .agg #[.int .i64 3, .int .i64 0], .agg #[.int .i64 3, .int .i64 0], .bool true, .bool true, .agg #[.int .i64 6, .int .i64 0], .agg #[.int .i64 6, .int .i64 0], .bool true, .bool true, .slice (some ⟨b1, 0, none⟩) 2 2, .agg #[.int .i64 9, .int .i64 1], .agg #[.int .i64 9, .int .i64 1], .bool true, .bool true, .bool true, .slice (some ⟨b2, 0, none⟩) 1 1, .agg #[.int .i64 3, .int .i64 0], .agg #[.int .i64 3, .int .i64 0], .bool true, .bool true, .bool true, .bool true, .bool true, .bool true, .bool true, .bool true, .bool true, .bool true, .bool true, .bool true, .bool true, .bool true, .bool true], []⟩ <| then_n <| u_ <| so_ (.bool true) ?_
  exact ⟨rfl, K320⟩
theorem pow_known {W : World} (h : laidMetH Tryd.prog Rows.paramsKnownRow.laid W) : PowTab W := by
  rw [MakeChecks.laidMetH_plain _ _ _ (by kernel_rfl)] at h
  exact pow_of h (List.Mem.tail _ (List.Mem.tail _ (List.Mem.head _)))
end Go.Proofs.YtpflmldmbpnllaaDoor
namespace Go.Own
set_option maxRecDepth 100000
set_option maxHeartbeats 4000000
open Go Go.ChangeShapes Go.WideShapes Go.ChangeAt Go.RowKit Go.WideElems
variable {H : Type} {enc : TypeId × Value → H} {P : Program}
theorem trodAll_stays (hl : laidOutB P = true) {W W' : World} {sp : Nat → Bool} : ∀ (ts : List TypeId) (vs : List Value) (ds : List (DataW H)) (ps : List MemPlace),
    ts.all (fun t => P.readableRec t && decide (t < P.types.size)) = true → DataW.TrodAll enc P W 0 (fun _ => true) true ts vs ds ps → (∀ p ∈ ps, W.sameAt W' p) → (∀ p ∈ ps, sp p.block = true) →
    DataW.TrodAll enc P W' 0 sp true ts vs ds ps
  | [], vs, ds, ps, _, h, _, _ => by
    obtain ⟨rfl, rfl, rfl⟩ := trodAll_nil h
    exact trodAll_mk0
  | t :: ts, vs, ds, ps, hr, h, hs, hsp => by
    obtain ⟨v, vs', d, ds', p, q, rfl, rfl, rfl, h0, r⟩ := trodAll_cons h
    simp only [List.all_cons, Bool.and_eq_true, decide_eq_true_eq] at hr
    exact trodAll_cons_mk (Trod_stays hl hr.1.1 hr.1.2 h0 (fun x hx => hs x (by simp [hx])) (fun x hx => hsp x (by simp [hx])))
      (trodAll_stays hl ts vs' ds' q hr.2 r (fun x hx => hs x (by simp [hx])) (fun x hx => hsp x (by simp [hx])))
theorem law_post {f : Func} {s : ChangeSpec} {W W' : World} {args : Array Value} {ds gs : List (DataW H)} {before : List MemPlace} {tb : TypeId} (hl : laidOutB P = true) (hr : f.params.toList.all (fun t => P.readableRec t && decide (t < P.types.size)) = true)
    (hres : f.resultTypes = #[tb]) (hb : P.underlying tb = some .bool) (hvars : s.vars = []) (hfn : s.fn H (ds ++ gs) = { results := [.lit (.bool true)], args := ds })
    (hW : DataW.Whole enc P f.params.toList s.vars false W args.toList ds gs before) (hB : Below W.heap.size W W') : s.post enc P f false true false false W args (.bool true) W' := by
  have hlt := hW.lt
  have hW0 := hW
  obtain ⟨p, q, hA, hV, rfl, hfz, hnd⟩ := hW
  rw [hvars] at hV
  obtain ⟨rfl, rfl⟩ := trodVars_none hV
  refine ⟨ds, [], p ++ [], [], p, [], hW0, ?_, ?_, ?_, hB.frame _, fun h => by cases h⟩
  · rw [hfn, hres]
    exact trodAll_mk1 (shut_bool hb _)
  · rw [hfn]
    exact trodAll_stays hl _ _ _ _ hr hA (fun x hx => hB.same (hlt x (by simp [hx]))) (fun x hx => by simpa using hlt x (by simp [hx]))
  · rw [hfn, hvars]
    rfl
end Go.Own
namespace Go.Proofs.YtpflmldmbpnllaaDoor
set_option maxRecDepth 100000
set_option maxHeartbeats 4000000
set_option maxRecDepth 100000
open Go Go.RowKit Go.Own Go.ChangeShapes Go.WideShapes Go.ChangeAt Go.WideElems
end Go.Proofs.YtpflmldmbpnllaaDoor
namespace Go.Proofs.YtpflmldmbpnllaaDoor.paramsKnown
open Go.ChangeShapes Go.WideShapes Go.ChangeAt Go.RowKit Go.Own
open Go.ChangeMaps (open_string shut_string)
theorem own : ownKnob Tryd.prog.godebug = none := by kernel_rfl
theorem laid : laidOutB Tryd.prog = true := by kernel_rfl
set_option maxRecDepth 100000 in
theorem lifted (os : Os) (started : os.Started) (H : Type) (enc : TypeId × Value → H) :
    ReturnsInHanded {} Tryd.checked os 5 .any (fun w args => (Rows.paramsKnownSpec.pre enc Tryd.prog Tryd.f5 Rows.paramsKnownRow.domain false w args ∧ laidMetH Tryd.prog Rows.paramsKnownRow.laid w) ∧ sizedMet enc Tryd.prog Tryd.f5 (OpenSpec.ofChange Rows.paramsKnownSpec) false w args)
      (Rows.paramsKnownSpec.post enc Tryd.prog Tryd.f5 false true false false) := by
  refine returnsInHanded_of_change_and (C := Tryd.checked) (X := fun w _ => laidMetH Tryd.prog Rows.paramsKnownRow.laid w) (fun _ _ _ hh h => h.of_heap hh) own started (by kernel_rfl) Tryd.func5
    (ChangeSpec.witness_shaped (enc := enc) (C := Tryd.checked) (os := os) (X := fun w _ => laidMetH Tryd.prog Rows.paramsKnownRow.laid w) false (World.laidAll Tryd.prog os Rows.paramsKnownRow.laid) #[] 8 (World.laidAll_os _ _ _)
      (World.shaped_of_ZipB (by kernel_rfl) (by kernel_rfl)) (by kernel_rfl) (by kernel_rfl) (by kernel_rfl)
      (by rw [MakeChecks.laidMetH_plain _ _ _ (by kernel_rfl)]; exact laidMet_laidAll _ (by kernel_rfl) (by kernel_rfl))) ?_
  intro W base args ds gs before hval0 hW hcnd _ hL hsz0
  have hval : ∀ (j : Nat) t v, Tryd.f5.params[j]? = some t → args[j]? = some v → Value.okWide Tryd.prog W .any base t v := hval0
  have hW' := hW
  obtain ⟨p, q, hA0, hV, rfl, hfz, hnd⟩ := hW
  have hA : DataW.TrodAll enc Tryd.prog W 0 (fun _ => true) true Tryd.f5.params.toList args.toList ds p := hA0
  rw [Tryd.params5] at hA hval
  obtain ⟨hargs, rfl, rfl⟩ := trodAll_nil hA
  obtain rfl : args = #[] := by cases args; simp_all
  obtain ⟨rfl, rfl⟩ := trodVars_none hV
  clear hA0 hval0
  refine (known_ok  W  (pow_known hL)).mono fun e W' ⟨he, hg⟩ => ?_
  subst he
  exact ⟨_, rfl, law_post laid (by kernel_rfl) rfl Tryd.underlying4 rfl rfl hW' (hg.below (Nat.le_refl _) (fun _ _ x => x))⟩
theorem row : Rows.ParamsKnownSaid :=
  OpenClaim.holds_of_wide 5 Tryd.f5 rfl rfl rfl rfl rfl rfl rfl ⟨rfl, rfl, rfl, rfl, rfl⟩ rfl rfl rfl rfl rfl (by kernel_rfl) Tryd.func5 (by kernel_rfl)
    (of_decide_eq_true (by kernel_rfl)) (by unfold Func.isWrapper; first | (rw [if_pos (by decide +kernel)]; kernel_rfl) | (rw [if_neg (by decide +kernel)]; exact ⟨rfl, rfl⟩))
    (fun os started H enc _ => lifted os started H enc)
theorem proved : Rows.ParamsKnownCardSaid :=
  Claim7.holds_tied_plain_at .later [] Rows.paramsKnownCard.laidKinds true Rows.paramsKnownCard.stood.harness false row (fun _ h => by cases h) (by kernel_rfl) (fun _ h => by cases h) paramsKnown_row_tie rfl ⟨rfl, rfl⟩ (by kernel_rfl) rfl
    (fun f fn hf hfn => by
      obtain rfl : f = 5 := Option.some.inj ((show Tryd.prog.funcNamed Rows.paramsKnownRow.func = some 5 by kernel_rfl).symm.trans hf) |>.symm
      obtain rfl : fn = Tryd.f5 := (Option.some.inj (Tryd.func5.symm.trans hfn)).symm
      exact ⟨by kernel_rfl, fun j t ht => by
        have hall : (Tryd.f5.params.toList.all fun u => !Tryd.prog.wantsStandIn u) = true := by kernel_rfl
        exact (show Tryd.prog.wantsStandIn t = false by simpa using List.all_eq_true.1 hall t (by simpa using Array.mem_of_getElem? ht))⟩)
    (by kernel_rfl)
end Go.Proofs.YtpflmldmbpnllaaDoor.paramsKnown
