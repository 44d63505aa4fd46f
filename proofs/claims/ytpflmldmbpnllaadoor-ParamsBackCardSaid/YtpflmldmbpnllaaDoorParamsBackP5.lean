/-
  ParamsBack proved: for every input the law returns true, and each argument reads as it did. Conditions: none.
-/
import Derived.Test.YtpflmldmbpnllaaDoorParamsBackP4
namespace Go.Proofs.YtpflmldmbpnllaaDoor
set_option maxRecDepth 100000
set_option maxHeartbeats 4000000
open Go Go.RowKit Go.Own Go.Shelf
section
variable {P : Program} {o : Oper} {ρ : Operand → Value} {w : World}
theorem exec_slice_mid (t : TypeId) (x y z : Operand) (ho : o.op = .slice t x (some y) (some z) none) (l : List UInt8) (hx : ρ x = .string ⟨l.toArray⟩) (k1 k2 : IntKind) (i j : Nat) (hy : ρ y = .int k1 (i : Int)) (hz : ρ z = .int k2 (j : Int)) (hu : P.underlying t = some .string) (h1 : i ≤ j) (h2 : j ≤ l.length) :
    (execOp ρ o).run P w = .ok (.value (.string ⟨((l.drop i).take (j - i)).toArray⟩)) w := by
  have h := run_slice_string (P := P) w t ⟨l.toArray⟩ k1 k2 (i : Int) (j : Int) hu (by omega) (by omega) (by simp [ByteArray.size]; omega)
  unfold execOp
  simp only [ho, hx, Option.map_some, Option.map_none, hy, hz, Instr.sliceAt, Sem.run_bind, run_underlying hu, h, Result.andThen_ok, Sem.run_pure, Int.toNat_natCast, ByteArray.extract_mk]
end
def parOld : Par := ⟨100, 101, 10, 8, 7, 8, 20, 50000000, 3, 50, 100000000⟩
def parLow1 : Par := ⟨0, 100, 10, 8, 7, 8, 20, 50000000, 3, 50, 100000000⟩
def parLow : Par := ⟨0, -1, 10, 8, 7, 8, 20, 50000000, 3, 50, 100000000⟩
def parRew : Par := ⟨100, 100, 10, 8, 7, 8, 20, 50000000, 3, 50, 0⟩
theorem parOld_Ok : parOld.Ok := by constructor <;> (simp only [parOld, i64ok, u64ok]; omega)
theorem parLow_Ok : parLow.Ok := by constructor <;> (simp only [parLow, i64ok, u64ok]; omega)
theorem parOld_c : parOld.check = (9, 1) := by kernel_rfl
theorem parLow_c : parLow.check = (3, 0) := by kernel_rfl
theorem g_Base : pget parDef ⟨#[66, 97, 115, 101]⟩ = (0, 10) := by kernel_rfl
theorem s_unb : pset parDef ⟨#[117, 110, 98, 111, 110, 100, 105, 110, 103]⟩ 99 = (parZ, 9) := by kernel_rfl
theorem s_mult : pset parDef ⟨#[109, 117, 108, 116]⟩ 1001 = (parZ, 3) := by kernel_rfl
theorem s_rew : pset parDef ⟨#[114, 101, 119, 97, 114, 100]⟩ 0 = (parRew, 0) := by kernel_rfl
def txd : List UInt8 := [117, 110, 98, 111, 110, 100, 105, 110, 103, 32, 49, 48, 48, 10, 109, 97, 120, 97, 103, 101, 32, 49, 48, 48, 10, 101, 112, 111, 99, 104, 108, 101, 110, 32, 49, 48, 10, 119, 105, 110, 100, 111, 119, 32, 56, 10, 101, 110, 116, 114, 105, 101, 115, 32, 55, 10, 109, 97, 120, 97, 99, 116, 105, 118, 101, 32, 56, 10, 106, 97, 105, 108, 116, 105, 109, 101, 32, 50, 48, 10, 98, 97, 115, 101, 32, 53, 48, 48, 48, 48, 48, 48, 48, 10, 109, 117, 108, 116, 32, 51, 10, 99, 111, 114, 114, 119, 105, 110, 100, 111, 119, 32, 53, 48, 10, 114, 101, 119, 97, 114, 100, 32, 49, 48, 48, 48, 48, 48, 48, 48, 48, 10]
def txdS : List UInt8 := [117, 110, 98, 111, 110, 100, 105, 110, 103, 32, 49, 48, 48, 10, 109, 97, 120, 97, 103, 101, 32, 49, 48, 48, 10, 101, 112, 111, 99, 104, 108, 101, 110, 32, 49, 48, 10, 119, 105, 110, 100, 111, 119, 32, 56, 10, 101, 110, 116, 114, 105, 101, 115, 32, 55, 10, 109, 97, 120, 97, 99, 116, 105, 118, 101, 32, 56, 10, 106, 97, 105, 108, 116, 105, 109, 101, 32, 50, 48, 10, 98, 97, 115, 101, 32, 53, 48, 48, 48, 48, 48, 48, 48, 10, 109, 117, 108, 116, 32, 51, 10, 99, 111, 114, 114, 119, 105, 110, 100, 111, 119, 32, 53, 48, 10, 114, 101, 119, 97, 114, 100, 32, 49, 48, 48, 48, 48, 48, 48, 48, 48]
def txdL : List UInt8 := [117, 110, 98, 111, 110, 100, 105, 110, 103, 32, 49, 48, 48, 10, 109, 97, 120, 97, 103, 101, 32, 49, 48, 48, 10, 101, 112, 111, 99, 104, 108, 101, 110, 32, 49, 48, 10, 119, 105, 110, 100, 111, 119, 32, 56, 10, 101, 110, 116, 114, 105, 101, 115, 32, 55, 10, 109, 97, 120, 97, 99, 116, 105, 118, 101, 32, 56, 10, 106, 97, 105, 108, 116, 105, 109, 101, 32, 50, 48, 10, 98, 97, 115, 101, 32, 53, 48, 48, 48, 48, 48, 48, 48, 10, 109, 117, 108, 116, 32, 51, 10, 99, 111, 114, 114, 119, 105, 110, 100, 111, 119, 32, 53, 48, 10, 114, 101, 119, 97, 114, 100, 32, 49, 48, 48, 48, 48, 48, 48, 48, 48, 10, 120]
def txF : List UInt8 := [117, 110, 98, 111, 110, 100, 105, 110, 103, 32, 48, 49, 48, 48, 10]
def txR : List UInt8 := [117, 110, 98, 111, 110, 100, 105, 110, 103, 32, 48, 10]
def txM : List UInt8 := [109, 97, 120, 97, 103, 101, 32, 49, 48, 48, 10]
theorem ptx_d : ptx parDef = ⟨txd.toArray⟩ := by decide +kernel
theorem take_S : txd.take 131 = txdS := by kernel_rfl
theorem mid_M : (txd.drop 14).take (25 - 14) = txM := by kernel_rfl
theorem cat_L : txd ++ [120] = txdL := by kernel_rfl
theorem p_S : (pparse txdS).2 = (6, 10) := by decide +kernel
theorem p_L : (pparse txdL).2 = (4, 11) := by decide +kernel
theorem p_F : (pparse txF).2 = (5, 0) := by decide +kernel
theorem p_R : (pparse txR).2 = (3, 0) := by decide +kernel
theorem r_0 : (pbread []).2 = (6, 0) := by kernel_rfl
theorem r_1 : (pbread [5, 6]).2 = (9, 1) := by kernel_rfl
theorem r_2 : (pbread [0]).2 = (3, 0) := by kernel_rfl
theorem pSet_is (p q : Par) (s : ByteArray) (n : Nat) (y : Int) (w : World) (hp : p.Ok) (h : pset p s n = (q, y)) : Calls Tryd.prog 13 #[.agg p.cells, .string s, .int .u64 ((n : Nat) : Int)] w (fun e w' => e = .returned (.tuple #[.agg q.cells, .int .i64 y]) ∧ Keeps Nob w w') := by
  have := pSet_ok p s n w hp
  rw [h] at this; exact this
theorem pParse_is (l : List UInt8) (q : Par) (x y : Int) (w : World) (hl : l.length ≤ 100000000) (hq : (pparse l).1 = q) (h : (pparse l).2 = (x, y)) : Calls Tryd.prog 26 #[.string ⟨l.toArray⟩] w (fun e w' => e = .returned (.tuple #[.agg q.cells, .agg #[.int .i64 x, .int .i64 y]]) ∧ Keeps Nob w w') := by
  have := pParse_ok l w hl
  rw [hq, h] at this; exact this
theorem pRead_is (v : Value) (l : List UInt8) (q : Par) (x y : Int) (w : World) (hx : BytesAt w v l) (hl : l.length ≤ 100000000) (hq : (pbread l).1 = q) (h : (pbread l).2 = (x, y)) : Calls Tryd.prog 29 #[v] w (fun e w' => e = .returned (.tuple #[.agg q.cells, .agg #[.int .i64 x, .int .i64 y]]) ∧ Keeps Nob w w') := by
  have := pRead_ok v l w hx hl
  rw [hq, h] at this; exact this
theorem bytes_none (w : World) : BytesAt w (.slice none 0 0) [] := Row.bytes (e := 5) (World.ownsRow_nil _ _ _ _)
noncomputable def qc65_1 (n : Nat) : Code := partOf Tryd.f32 n
theorem lpparses_ok (l : List UInt8) (x y : Int) (w : World) (hl : l.length ≤ 100000000) (hf : (pparse l).2 = (x, y)) :
    Calls Tryd.prog 32 #[.string ⟨l.toArray⟩] w (fun e w' => e = .returned (.agg #[.int .i64 x, .int .i64 y]) ∧ Keeps Nob w w') := by
  obtain ⟨q, hq⟩ : ∃ q, (pparse l).1 = q := ⟨_, rfl⟩
  have K0 : Keeps Nob w w := Keeps.refl _ _
  refine sy_enter (qc65_1 1) ⟨#[.string ⟨l.toArray⟩, ud, ud, ud, ud, ud, ud, ud, ud, ud, ud], []⟩ Tryd.func32 (by kernel_rfl) (by kernel_rfl) <| qr_ [0] <| pal 46 (#[.int .i64 0, .int .i64 0]) (.agg (#[.int .i64 0, .int .i64 0])) fun V1 r2 er2 h2 kV1 => ?_
  have n3 : w.heap.size ≤ r2 := er2 ▸ K0.size
  have K4 := K0.nn kV1
  have z5 := kV1.size
  refine eqr_ [0, 1, 2, 3, 4, 5, 6, 7, 8] <| pkq (.string ⟨l.toArray⟩) ?_
  refine pcq 26 #[.string ⟨l.toArray⟩] Tryd.func26 ((pParse_is l q x y _ hl hq hf).mono ?_)
  rintro e V6 ⟨rfl, kV6⟩
  refine ⟨_, rfl, ?_⟩
  have h7 := kV6.bk h2
  have K8 := K4.nn kV6
  have z9 := kV6.size
  refine pkq (.tuple #[.agg q.cells, .agg #[.int .i64 x, .int .i64 y]]) <| pkq (.agg q.cells) <| pkq (.agg #[.int .i64 x, .int .i64 y]) <| pal 24 (#[.int .i64 0, .int .i64 0, .int .i64 0, .int .i64 0, .int .i64 0, .int .i64 0, .int .i64 0, .int .u64 0, .int .u64 0, .int .i64 0, .int .u64 0]) (.agg (#[.int .i64 0, .int .i64 0, .int .i64 0, .int .i64 0, .int .i64 0, .int .i64 0, .int .i64 0, .int .u64 0, .int .u64 0, .int .i64 0, .int .u64 0])) fun V10 ga ega h11 kV10 => ?_
  have n12 : r2 < ga := ega ▸ lt_of_block h7
  have n13 : w.heap.size ≤ ga := ega ▸ K8.size
  have h14 := kV10.bk h7
  have K15 := K8.nn kV10
  have z16 := kV10.size
  refine pal 46 (#[.int .i64 0, .int .i64 0]) (.agg (#[.int .i64 0, .int .i64 0])) fun V17 gb egb h18 kV17 => ?_
  have n19 : r2 < gb := egb ▸ lt_of_block h14
  have n20 : ga < gb := egb ▸ lt_of_block h11
  have n21 : w.heap.size ≤ gb := egb ▸ K15.size
  have h22 := kV17.bk h14
  have h23 := kV17.bk h11
  have K24 := K15.nn kV17
  have z25 := kV17.size
  obtain ⟨V26, eV26, kV26⟩ := rowset_step V17 ga q.cells
  refine pzq (w' := V26) (by rw [← eV26]; exact exec_store_row 24 (.tmp 3) (.tmp 8) (by kernel_rfl) ga q.cells (by kernel_rfl) (by kernel_rfl) 24 (#[.int .i64 0, .int .i64 0, .int .i64 0, .int .i64 0, .int .i64 0, .int .i64 0, .int .i64 0, .int .u64 0, .int .u64 0, .int .i64 0, .int .u64 0]) h23 (by kernel_rfl) rfl (by kernel_rfl)) ?_
  clear eV26
  have h28 := kV26.bO h22
  have h29 := kV26.bO h18
  have K30 := K24.nO kV26
  have z31 := kV26.size
  refine pst 46 gb (#[.int .i64 x, .int .i64 y]) h29 (by kernel_rfl) rfl (by kernel_rfl) fun V32 h33 kV32 => ?_
  have h34 := kV32.bO h28
  have K36 := K30.nO kV32
  have z37 := kV32.size
  refine eqr_ [0, 1] <| ppq (.agg #[.int .i64 x, .int .i64 y]) (ldr 46 gb (h33) (by kernel_rfl)) <| pst 46 r2 (#[.int .i64 x, .int .i64 y]) h34 (by kernel_rfl) rfl (by kernel_rfl) fun V38 h39 kV38 => ?_
  have K42 := K36.nO kV38
  have z43 := kV38.size
  refine eu_ <| sy_out (.agg (#[.int .i64 x, .int .i64 y])) rfl (results_cell_row (p := 2) (ty := 46) (by kernel_rfl) _ _ r2 46 (#[.int .i64 x, .int .i64 y]) (0, 0) _ (by kernel_rfl) h39 Tryd.underlying46 rfl (by kernel_rfl)) ?_
  exact ⟨rfl, K42⟩
noncomputable def qc65_2 (n : Nat) : Code := partOf Tryd.f33 n
theorem lpreads_ok (v : Value) (l : List UInt8) (x y : Int) (w : World) (hx : BytesAt w v l) (hl : l.length ≤ 100000000) (hf : (pbread l).2 = (x, y)) :
    Calls Tryd.prog 33 #[v] w (fun e w' => e = .returned (.agg #[.int .i64 x, .int .i64 y]) ∧ Keeps Nob w w') := by
  obtain ⟨q, hq⟩ : ∃ q, (pbread l).1 = q := ⟨_, rfl⟩
  have K0 : Keeps Nob w w := Keeps.refl _ _
  refine sy_enter (qc65_2 1) ⟨#[v, ud, ud, ud, ud, ud, ud, ud, ud, ud, ud], []⟩ Tryd.func33 (by kernel_rfl) (by kernel_rfl) <| qr_ [0] <| pal 46 (#[.int .i64 0, .int .i64 0]) (.agg (#[.int .i64 0, .int .i64 0])) fun V1 r2 er2 h2 kV1 => ?_
  have n3 : w.heap.size ≤ r2 := er2 ▸ K0.size
  have K4 := K0.nn kV1
  have z5 := kV1.size
  refine eqr_ [0, 1, 2, 3, 4, 5, 6, 7, 8] <| pkq (v) ?_
  refine pcq 29 #[v] Tryd.func29 ((pRead_is v l q x y _ (hx.keepsN K4) hl hq hf).mono ?_)
  rintro e V6 ⟨rfl, kV6⟩
  refine ⟨_, rfl, ?_⟩
  have h7 := kV6.bk h2
  have K8 := K4.nn kV6
  have z9 := kV6.size
  refine pkq (.tuple #[.agg q.cells, .agg #[.int .i64 x, .int .i64 y]]) <| pkq (.agg q.cells) <| pkq (.agg #[.int .i64 x, .int .i64 y]) <| pal 24 (#[.int .i64 0, .int .i64 0, .int .i64 0, .int .i64 0, .int .i64 0, .int .i64 0, .int .i64 0, .int .u64 0, .int .u64 0, .int .i64 0, .int .u64 0]) (.agg (#[.int .i64 0, .int .i64 0, .int .i64 0, .int .i64 0, .int .i64 0, .int .i64 0, .int .i64 0, .int .u64 0, .int .u64 0, .int .i64 0, .int .u64 0])) fun V10 ga ega h11 kV10 => ?_
  have n12 : r2 < ga := ega ▸ lt_of_block h7
  have n13 : w.heap.size ≤ ga := ega ▸ K8.size
  have h14 := kV10.bk h7
  have K15 := K8.nn kV10
  have z16 := kV10.size
  refine pal 46 (#[.int .i64 0, .int .i64 0]) (.agg (#[.int .i64 0, .int .i64 0])) fun V17 gb egb h18 kV17 => ?_
  have n19 : r2 < gb := egb ▸ lt_of_block h14
  have n20 : ga < gb := egb ▸ lt_of_block h11
  have n21 : w.heap.size ≤ gb := egb ▸ K15.size
  have h22 := kV17.bk h14
  have h23 := kV17.bk h11
  have K24 := K15.nn kV17
  have z25 := kV17.size
  obtain ⟨V26, eV26, kV26⟩ := rowset_step V17 ga q.cells
  refine pzq (w' := V26) (by rw [← eV26]; exact exec_store_row 24 (.tmp 3) (.tmp 8) (by kernel_rfl) ga q.cells (by kernel_rfl) (by kernel_rfl) 24 (#[.int .i64 0, .int .i64 0, .int .i64 0, .int .i64 0, .int .i64 0, .int .i64 0, .int .i64 0, .int .u64 0, .int .u64 0, .int .i64 0, .int .u64 0]) h23 (by kernel_rfl) rfl (by kernel_rfl)) ?_
  clear eV26
  have h28 := kV26.bO h22
  have h29 := kV26.bO h18
  have K30 := K24.nO kV26
  have z31 := kV26.size
  refine pst 46 gb (#[.int .i64 x, .int .i64 y]) h29 (by kernel_rfl) rfl (by kernel_rfl) fun V32 h33 kV32 => ?_
  have h34 := kV32.bO h28
  have K36 := K30.nO kV32
  have z37 := kV32.size
  refine eqr_ [0, 1] <| ppq (.agg #[.int .i64 x, .int .i64 y]) (ldr 46 gb (h33) (by kernel_rfl)) <| pst 46 r2 (#[.int .i64 x, .int .i64 y]) h34 (by kernel_rfl) rfl (by kernel_rfl) fun V38 h39 kV38 => ?_
  have K42 := K36.nO kV38
  have z43 := kV38.size
  refine eu_ <| sy_out (.agg (#[.int .i64 x, .int .i64 y])) rfl (results_cell_row (p := 2) (ty := 46) (by kernel_rfl) _ _ r2 46 (#[.int .i64 x, .int .i64 y]) (0, 0) _ (by kernel_rfl) h39 Tryd.underlying46 rfl (by kernel_rfl)) ?_
  exact ⟨rfl, K42⟩
noncomputable def qc65_0 (n : Nat) : Code := partOf Tryd.f5 n
theorem known_ok (w : World) (htab : PowTab w) :
    Calls Tryd.prog 5 #[] w (fun e w' => e = .returned (.bool true) ∧ Keeps Nob w w') := by
  have K0 : Keeps Nob w w := Keeps.refl _ _
  refine sy_enter (qc65_0 1) ⟨#[ud, ud, ud, ud, ud, ud, ud, ud, ud, ud, ud, ud, ud, ud, ud, ud, ud, ud, ud, ud, ud, ud, ud, ud, ud, ud, ud, ud, ud, ud, ud, ud, ud, ud, ud, ud, ud, ud, ud, ud, ud, ud, ud, ud, ud, ud, ud, ud, ud, ud, ud, ud, ud, ud, ud, ud, ud, ud, ud, ud, ud, ud, ud, ud, ud, ud, ud, ud, ud, ud, ud, ud, ud, ud, ud, ud, ud, ud, ud, ud, ud, ud, ud, ud, ud, ud, ud, ud, ud, ud, ud, ud, ud, ud, ud, ud, ud, ud, ud, ud, ud, ud, ud, ud, ud, ud, ud, ud, ud, ud, ud, ud, ud, ud, ud, ud, ud, ud, ud, ud, ud, ud, ud, ud, ud, ud, ud, ud, ud, ud, ud, ud, ud, ud, ud, ud, ud, ud, ud], []⟩ Tryd.func5 (by kernel_rfl) (by kernel_rfl) <| qr_ [0] <| pkq (.bool false) <| eqr_ [0, 1, 2] ?_
  refine pcq 18 #[] Tryd.func18 ((pDefault_ok _).mono ?_)
  rintro e V1 ⟨rfl, kV1⟩
  refine ⟨_, rfl, ?_⟩
  have K2 := K0.nn kV1
  have z3 := kV1.size
  refine pal 24 (#[.int .i64 0, .int .i64 0, .int .i64 0, .int .i64 0, .int .i64 0, .int .i64 0, .int .i64 0, .int .u64 0, .int .u64 0, .int .i64 0, .int .u64 0]) (.agg (#[.int .i64 0, .int .i64 0, .int .i64 0, .int .i64 0, .int .i64 0, .int .i64 0, .int .i64 0, .int .u64 0, .int .u64 0, .int .i64 0, .int .u64 0])) fun V4 gd egd h5 kV4 => ?_
  have n6 : w.heap.size ≤ gd := egd ▸ K2.size
  have K7 := K2.nn kV4
  have z8 := kV4.size
  refine pst 24 gd parDef.cells h5 (by kernel_rfl) rfl (by kernel_rfl) fun V9 h10 kV9 => ?_
  have K11 := K7.nO kV9
  have z12 := kV9.size
  refine eq_ ?_
  refine sy_cut (fun aQ VQ => ∃ (g2 g3 : Nat), (aQ = ⟨#[.bool false, .pointer (some ⟨gd, 0, none⟩), .pointer (some ⟨g2, 0, none⟩), .pointer (some ⟨g3, 0, none⟩), ud, ud, ud, ud, ud, ud, ud, ud, ud, ud, ud, ud, ud, ud, .agg parDef.cells, .agg (parDef.cells), .agg (parDef.cells), ud, ud, ud, ud, ud, ud, ud, ud, ud, ud, ud, ud, ud, ud, ud, ud, ud, ud, ud, ud, ud, ud, ud, ud, ud, ud, ud, ud, ud, ud, ud, ud, ud, ud, ud, ud, ud, ud, ud, ud, ud, ud, ud, ud, ud, ud, ud, ud, ud, ud, ud, ud, ud, ud, ud, ud, ud, ud, ud, ud, ud, ud, ud, ud, ud, ud, ud, ud, ud, ud, ud, ud, ud, ud, ud, ud, ud, ud, ud, ud, ud, ud, ud, ud, ud, ud, ud, ud, ud, ud, ud, ud, ud, ud, ud, ud, ud, ud, ud, ud, ud, ud, ud, ud, ud, ud, ud, ud, ud, ud, ud, ud, ud, ud, ud, ud, ud, ud], []⟩) ∧ (VQ.heap[gd]? = some (.cells parDef.cells 24 (0, 0))) ∧ (VQ.heap[g2]? = some (.cells parDef.cells 24 (0, 0))) ∧ (VQ.heap[g3]? = some (.cells parDef.cells 24 (0, 0))) ∧ (g2 ≠ g3 ∧ g2 ≠ gd ∧ g3 ≠ gd ∧ w.heap.size ≤ g2 ∧ w.heap.size ≤ g3 ∧ V9.heap.size ≤ g2 ∧ V9.heap.size ≤ g3) ∧ (Keeps Nob w VQ)) ?_ ?_
  · refine sy_np <| sy_reg <| an_begin 2 6 (opsAt (qc65_0 14)) (fun W => (W.heap[gd]? = some (.cells parDef.cells 24 (0, 0)))) #[false, false, false, false, false, false] (by kernel_rfl) (by kernel_rfl) (by kernel_rfl) (by kernel_rfl) ?_
    obtain ⟨V13, eV13, kV13⟩ := drew_step V9
    rw [eV13]
    clear eV13
    have h14 := kV13.bk h10
    have K15 := K11.nn kV13
    have z16 := kV13.size
    refine avq 0 (.agg (parDef.cells)) (fun W hS => ldr 24 gd (hS) (by kernel_rfl)) h14 <| avq 1 (.agg (parDef.cells)) (fun W hS => ldr 24 gd (hS) (by kernel_rfl)) h14 ?_
    refine an_two 2 3 (by kernel_rfl) ?_ ?_
    · refine nal 24 (#[.int .i64 0, .int .i64 0, .int .i64 0, .int .i64 0, .int .i64 0, .int .i64 0, .int .i64 0, .int .u64 0, .int .u64 0, .int .i64 0, .int .u64 0]) (.agg (#[.int .i64 0, .int .i64 0, .int .i64 0, .int .i64 0, .int .i64 0, .int .i64 0, .int .i64 0, .int .u64 0, .int .u64 0, .int .i64 0, .int .u64 0])) fun V17 g2 eg2 h18 kV17 => ?_
      have n19 : gd < g2 := eg2 ▸ lt_of_block h14
      have n20 : w.heap.size ≤ g2 := eg2 ▸ K15.size
      have h21 := kV17.bk h14
      have K22 := K15.nn kV17
      have z23 := kV17.size
      refine ⟨h21, ?_⟩
      refine an_o 3 <| nal 24 (#[.int .i64 0, .int .i64 0, .int .i64 0, .int .i64 0, .int .i64 0, .int .i64 0, .int .i64 0, .int .u64 0, .int .u64 0, .int .i64 0, .int .u64 0]) (.agg (#[.int .i64 0, .int .i64 0, .int .i64 0, .int .i64 0, .int .i64 0, .int .i64 0, .int .i64 0, .int .u64 0, .int .u64 0, .int .i64 0, .int .u64 0])) fun V24 g3 eg3 h25 kV24 => ?_
      have n26 : gd < g3 := eg3 ▸ lt_of_block h21
      have n27 : g2 < g3 := eg3 ▸ lt_of_block h18
      have n28 : w.heap.size ≤ g3 := eg3 ▸ K22.size
      have h29 := kV24.bk h21
      have h30 := kV24.bk h18
      have K31 := K22.nn kV24
      have z32 := kV24.size
      refine ⟨h29, ?_⟩
      refine an_o 4 <| nst 24 g2 ((parDef.cells)) h30 (by kernel_rfl) rfl (by kernel_rfl) fun V33 h34 kV33 => ?_
      have h35 := kV33.bO h29
      have h36 := kV33.bO h25
      have K37 := K31.nO kV33
      have z38 := kV33.size
      refine ⟨h35, ?_⟩
      refine an_o 5 <| nst 24 g3 ((parDef.cells)) h36 (by kernel_rfl) rfl (by kernel_rfl) fun V39 h40 kV39 => ?_
      have h41 := kV39.bO h35
      have h42 := kV39.bO h34
      have K43 := K37.nO kV39
      have z44 := kV39.size
      refine ⟨h41, ?_⟩
      refine an_end (by kernel_rfl) ?_
      exact ⟨rfl, g2, g3, by kernel_rfl, h41, h42, h40, by omega, K43⟩
    · refine nal 24 (#[.int .i64 0, .int .i64 0, .int .i64 0, .int .i64 0, .int .i64 0, .int .i64 0, .int .i64 0, .int .u64 0, .int .u64 0, .int .i64 0, .int .u64 0]) (.agg (#[.int .i64 0, .int .i64 0, .int .i64 0, .int .i64 0, .int .i64 0, .int .i64 0, .int .i64 0, .int .u64 0, .int .u64 0, .int .i64 0, .int .u64 0])) fun V45 g3 eg3 h46 kV45 => ?_
      have n47 : gd < g3 := eg3 ▸ lt_of_block h14
      have n48 : w.heap.size ≤ g3 := eg3 ▸ K15.size
      have h49 := kV45.bk h14
      have K50 := K15.nn kV45
      have z51 := kV45.size
      refine ⟨h49, ?_⟩
      refine an_o 2 <| nal 24 (#[.int .i64 0, .int .i64 0, .int .i64 0, .int .i64 0, .int .i64 0, .int .i64 0, .int .i64 0, .int .u64 0, .int .u64 0, .int .i64 0, .int .u64 0]) (.agg (#[.int .i64 0, .int .i64 0, .int .i64 0, .int .i64 0, .int .i64 0, .int .i64 0, .int .i64 0, .int .u64 0, .int .u64 0, .int .i64 0, .int .u64 0])) fun V52 g2 eg2 h53 kV52 => ?_
      have n54 : gd < g2 := eg2 ▸ lt_of_block h49
      have n55 : g3 < g2 := eg2 ▸ lt_of_block h46
      have n56 : w.heap.size ≤ g2 := eg2 ▸ K50.size
      have h57 := kV52.bk h49
      have h58 := kV52.bk h46
      have K59 := K50.nn kV52
      have z60 := kV52.size
      refine ⟨h57, ?_⟩
      refine an_o 4 <| nst 24 g2 ((parDef.cells)) h53 (by kernel_rfl) rfl (by kernel_rfl) fun V61 h62 kV61 => ?_
      have h63 := kV61.bO h57
      have h64 := kV61.bO h58
      have K65 := K59.nO kV61
      have z66 := kV61.size
      refine ⟨h63, ?_⟩
      refine an_o 5 <| nst 24 g3 ((parDef.cells)) h64 (by kernel_rfl) rfl (by kernel_rfl) fun V67 h68 kV67 => ?_
      have h69 := kV67.bO h63
      have h70 := kV67.bO h62
      have K71 := K65.nO kV67
      have z72 := kV67.size
      refine ⟨h69, ?_⟩
      refine an_end (by kernel_rfl) ?_
      exact ⟨rfl, g2, g3, by kernel_rfl, h69, h70, h68, by omega, K71⟩
  rintro aQ V73 ⟨g2, g3, rfl, h74, h75, h76, hd77, K78⟩
  have z79 := lt_of_block h75
  refine tqr_ [0, 1] <| pkq (pT g2 1) <| pce 3 g2 1 (.int .i64 101) parOld.cells h75 (rc (h75) (rfl)) (by kernel_rfl) fun V80 h81 kV80 => ?_
  have h82 := kV80.bO h74
  have h83 := kV80.bO h76
  have K84 := K78.nO kV80
  have z85 := kV80.size
  refine eqr_ [0, 1] <| pkq (pT g3 0) <| pce 3 g3 0 (.int .i64 0) parLow1.cells h83 (rc (h83) (rfl)) (by kernel_rfl) fun V86 h87 kV86 => ?_
  have h88 := kV86.bO h82
  have h89 := kV86.bO h81
  have K90 := K84.nO kV86
  have z91 := kV86.size
  refine eqr_ [0, 1] <| pkq (pT g3 1) <| pce 3 g3 1 (.int .i64 (-1)) parLow.cells h87 (rc (h87) (rfl)) (by kernel_rfl) fun V92 h93 kV92 => ?_
  have h94 := kV92.bO h88
  have h95 := kV92.bO h89
  have K96 := K90.nO kV92
  have z97 := kV92.size
  refine eqr_ [0, 1, 2, 3, 4, 5, 6] <| ppq (.agg (parOld.cells)) (ldr 24 g2 (h95) (by kernel_rfl)) ?_
  refine pcq 31 #[.agg (parOld.cells), .int .i64 9, .int .i64 1] Tryd.func31 ((lpchecks_ok parOld 9 1 _ parOld_Ok (by rw [parOld_c]) (by rw [parOld_c])).mono ?_)
  rintro e V98 ⟨rfl, kV98⟩
  refine ⟨_, rfl, ?_⟩
  have h99 := kV98.bk h94
  have h100 := kV98.bk h95
  have h101 := kV98.bk h93
  have K102 := K96.nn kV98
  have z103 := kV98.size
  refine pkq (.bool true) <| ppq (.agg (parLow.cells)) (ldr 24 g3 (h101) (by kernel_rfl)) ?_
  refine pcq 31 #[.agg (parLow.cells), .int .i64 3, .int .i64 0] Tryd.func31 ((lpchecks_ok parLow 3 0 _ parLow_Ok (by rw [parLow_c]) (by rw [parLow_c])).mono ?_)
  rintro e V104 ⟨rfl, kV104⟩
  refine ⟨_, rfl, ?_⟩
  have h105 := kV104.bk h99
  have h106 := kV104.bk h100
  have h107 := kV104.bk h101
  have K108 := K102.nn kV104
  have z109 := kV104.size
  refine pkq (.bool true) <| pkq (.bool true) <| eqr_ [0, 1, 2, 3, 4, 5, 6] <| ppq (.agg (parDef.cells)) (ldr 24 gd (h105) (by kernel_rfl)) ?_
  refine pcq 11 #[.agg (parDef.cells), .string { data := #[66, 97, 115, 101] }] Tryd.func11 ((pGet_is parDef _ _ _ _ parDef_Ok g_Base).mono ?_)
  rintro e V110 ⟨rfl, kV110⟩
  refine ⟨_, rfl, ?_⟩
  have h111 := kV110.bk h105
  have h112 := kV110.bk h106
  have h113 := kV110.bk h107
  have K114 := K108.nn kV110
  have z115 := kV110.size
  refine pkq (.tuple #[.int .u64 0, .int .i64 10]) <| pkq (.int .u64 0) <| pkq (.int .i64 10) <| pkq (.int .u64 0) <| pkq (.int .i64 10) <| eqr_ [0, 1, 2, 3, 4, 5, 6, 7] <| ppq (.agg (parDef.cells)) (ldr 24 gd (h111) (by kernel_rfl)) ?_
  refine pcq 13 #[.agg (parDef.cells), .string { data := #[117, 110, 98, 111, 110, 100, 105, 110, 103] }, .int .u64 99] Tryd.func13 ((pSet_is parDef parZ _ 99 9 _ parDef_Ok s_unb).mono ?_)
  rintro e V116 ⟨rfl, kV116⟩
  refine ⟨_, rfl, ?_⟩
  have h117 := kV116.bk h111
  have h118 := kV116.bk h112
  have h119 := kV116.bk h113
  have K120 := K114.nn kV116
  have z121 := kV116.size
  refine pkq (.tuple #[.agg parZ.cells, .int .i64 9]) <| pkq (.agg parZ.cells) <| pkq (.int .i64 9) <| pal 24 (#[.int .i64 0, .int .i64 0, .int .i64 0, .int .i64 0, .int .i64 0, .int .i64 0, .int .i64 0, .int .u64 0, .int .u64 0, .int .i64 0, .int .u64 0]) (.agg (#[.int .i64 0, .int .i64 0, .int .i64 0, .int .i64 0, .int .i64 0, .int .i64 0, .int .i64 0, .int .u64 0, .int .u64 0, .int .i64 0, .int .u64 0])) fun V122 g7 eg7 h123 kV122 => ?_
  have n124 : gd < g7 := eg7 ▸ lt_of_block h117
  have n125 : g2 < g7 := eg7 ▸ lt_of_block h118
  have n126 : g3 < g7 := eg7 ▸ lt_of_block h119
  have n127 : w.heap.size ≤ g7 := eg7 ▸ K120.size
  have h128 := kV122.bk h117
  have h129 := kV122.bk h118
  have h130 := kV122.bk h119
  have K131 := K120.nn kV122
  have z132 := kV122.size
  refine pst 24 g7 parZ.cells h123 (by kernel_rfl) rfl (by kernel_rfl) fun V133 h134 kV133 => ?_
  have h135 := kV133.bO h128
  have h136 := kV133.bO h129
  have h137 := kV133.bO h130
  have K138 := K131.nO kV133
  have z139 := kV133.size
  refine pkq (.int .i64 9) <| ps_end <| sy_a ⟨#[.bool false, pT gd 0, pT g2 0, pT g3 0, .bool true, .int .u64 0, .int .i64 10, pT g7 0, .int .i64 9, ud, ud, ud, ud, ud, ud, ud, ud, ud, .agg parDef.cells, .agg (parDef.cells), .agg (parDef.cells), pT g2 1, pT g3 0, pT g3 1, .agg (parOld.cells), .bool true, .bool true, .agg (parLow.cells), .bool true, .bool true, .tuple #[.int .u64 0, .int .i64 10], .agg (parDef.cells), .tuple #[.int .u64 0, .int .i64 10], .int .u64 0, .int .i64 10, .tuple #[.agg parZ.cells, .int .i64 9], .agg (parDef.cells), .tuple #[.agg parZ.cells, .int .i64 9], .agg parZ.cells, .int .i64 9, ud, ud, ud, ud, ud, ud, ud, ud, ud, ud, ud, ud, ud, ud, ud, ud, ud, ud, ud, ud, ud, ud, ud, ud, ud, ud, ud, ud, ud, ud, ud, ud, ud, ud, ud, ud, ud, ud, ud, ud, ud, ud, ud, ud, ud, ud, ud, ud, ud, ud, ud, ud, ud, ud, ud, ud, ud, ud, ud, ud, ud, ud, ud, ud, ud, ud, ud, ud, ud, ud, ud, ud, ud, ud, ud, ud, ud, ud, ud, ud, ud, ud, ud, ud, ud, ud, ud, ud, ud, ud, ud, ud, ud, ud, ud, ud, ud, ud, ud], []⟩ <| tqr_ [0, 1, 2, 3, 4, 5, 6, 7] <| ppq (.agg (parDef.cells)) (ldr 24 gd (h135) (by kernel_rfl)) ?_
  refine pcq 13 #[.agg (parDef.cells), .string { data := #[109, 117, 108, 116] }, .int .u64 1001] Tryd.func13 ((pSet_is parDef parZ _ 1001 3 _ parDef_Ok s_mult).mono ?_)
  rintro e V140 ⟨rfl, kV140⟩
  refine ⟨_, rfl, ?_⟩
  have h141 := kV140.bk h135
  have h142 := kV140.bk h136
  have h143 := kV140.bk h137
  have h144 := kV140.bk h134
  have K145 := K138.nn kV140
  have z146 := kV140.size
  refine pkq (.tuple #[.agg parZ.cells, .int .i64 3]) <| pkq (.agg parZ.cells) <| pkq (.int .i64 3) <| pal 24 (#[.int .i64 0, .int .i64 0, .int .i64 0, .int .i64 0, .int .i64 0, .int .i64 0, .int .i64 0, .int .u64 0, .int .u64 0, .int .i64 0, .int .u64 0]) (.agg (#[.int .i64 0, .int .i64 0, .int .i64 0, .int .i64 0, .int .i64 0, .int .i64 0, .int .i64 0, .int .u64 0, .int .u64 0, .int .i64 0, .int .u64 0])) fun V147 g9 eg9 h148 kV147 => ?_
  have n149 : gd < g9 := eg9 ▸ lt_of_block h141
  have n150 : g2 < g9 := eg9 ▸ lt_of_block h142
  have n151 : g3 < g9 := eg9 ▸ lt_of_block h143
  have n152 : g7 < g9 := eg9 ▸ lt_of_block h144
  have n153 : w.heap.size ≤ g9 := eg9 ▸ K145.size
  have h154 := kV147.bk h141
  have h155 := kV147.bk h142
  have h156 := kV147.bk h143
  have h157 := kV147.bk h144
  have K158 := K145.nn kV147
  have z159 := kV147.size
  refine pst 24 g9 parZ.cells h148 (by kernel_rfl) rfl (by kernel_rfl) fun V160 h161 kV160 => ?_
  have h162 := kV160.bO h154
  have h163 := kV160.bO h155
  have h164 := kV160.bO h156
  have h165 := kV160.bO h157
  have K166 := K158.nO kV160
  have z167 := kV160.size
  refine pkq (.int .i64 3) <| eqr_ [0, 1, 2, 3, 4, 5, 6, 7] <| ppq (.agg (parDef.cells)) (ldr 24 gd (h162) (by kernel_rfl)) ?_
  refine pcq 13 #[.agg (parDef.cells), .string { data := #[114, 101, 119, 97, 114, 100] }, .int .u64 0] Tryd.func13 ((pSet_is parDef parRew _ 0 0 _ parDef_Ok s_rew).mono ?_)
  rintro e V168 ⟨rfl, kV168⟩
  refine ⟨_, rfl, ?_⟩
  have h169 := kV168.bk h162
  have h170 := kV168.bk h163
  have h171 := kV168.bk h164
  have h172 := kV168.bk h165
  have h173 := kV168.bk h161
  have K174 := K166.nn kV168
  have z175 := kV168.size
  refine pkq (.tuple #[.agg parRew.cells, .int .i64 0]) <| pkq (.agg parRew.cells) <| pkq (.int .i64 0) <| pal 24 (#[.int .i64 0, .int .i64 0, .int .i64 0, .int .i64 0, .int .i64 0, .int .i64 0, .int .i64 0, .int .u64 0, .int .u64 0, .int .i64 0, .int .u64 0]) (.agg (#[.int .i64 0, .int .i64 0, .int .i64 0, .int .i64 0, .int .i64 0, .int .i64 0, .int .i64 0, .int .u64 0, .int .u64 0, .int .i64 0, .int .u64 0])) fun V176 g11 eg11 h177 kV176 => ?_
  have n178 : gd < g11 := eg11 ▸ lt_of_block h169
  have n179 : g2 < g11 := eg11 ▸ lt_of_block h170
  have n180 : g3 < g11 := eg11 ▸ lt_of_block h171
  have n181 : g7 < g11 := eg11 ▸ lt_of_block h172
  have n182 : g9 < g11 := eg11 ▸ lt_of_block h173
  have n183 : w.heap.size ≤ g11 := eg11 ▸ K174.size
  have h184 := kV176.bk h169
  have h185 := kV176.bk h170
  have h186 := kV176.bk h171
  have h187 := kV176.bk h172
  have h188 := kV176.bk h173
  have K189 := K174.nn kV176
  have z190 := kV176.size
  refine pst 24 g11 parRew.cells h177 (by kernel_rfl) rfl (by kernel_rfl) fun V191 h192 kV191 => ?_
  have h193 := kV191.bO h184
  have h194 := kV191.bO h185
  have h195 := kV191.bO h186
  have h196 := kV191.bO h187
  have h197 := kV191.bO h188
  have K198 := K189.nO kV191
  have z199 := kV191.size
  refine pkq (.int .i64 0) <| eqr_ [0, 1, 2, 3, 4, 5, 6, 7, 8, 9, 10, 11, 12, 13, 14, 15, 16, 17, 18, 19, 20, 21, 22, 23, 24, 25, 26] <| pkq (.int .i64 10) <| pkq (.bool true) <| pkq (.bool true) <| pkq (.int .i64 9) <| pkq (.bool true) <| pkq (.bool true) <| pkq (.bool true) <| pkq (.int .i64 3) <| pkq (.bool true) <| pkq (.bool true) <| pkq (.bool true) <| pkq (.int .i64 0) ?_
  refine pkq (.bool true) <| pkq (.bool true) <| pkq (.bool true) <| pkq (pT g11 10) <| ppq (.int .u64 0) (ldc 22 g11 10 (rc (h192) (rfl))) <| pkq (.bool true) <| pkq (.bool true) <| pkq (.bool true) <| pkq (pT g11 7) <| ppq (.int .u64 50000000) (ldc 22 g11 7 (rc (h192) (rfl))) <| pkq (pT gd 7) <| ppq (.int .u64 50000000) (ldc 22 gd 7 (rc (h193) (rfl))) <| pkq (.bool true) <| pkq (.bool true) ?_
  refine pkq (.bool true) <| ps_end <| sy_a ⟨#[.bool false, pT gd 0, pT g2 0, pT g3 0, .bool true, .int .u64 0, .int .i64 10, pT g7 0, .int .i64 9, pT g9 0, .int .i64 3, pT g11 0, .int .i64 0, .bool true, ud, ud, ud, ud, .agg parDef.cells, .agg (parDef.cells), .agg (parDef.cells), pT g2 1, pT g3 0, pT g3 1, .agg (parOld.cells), .bool true, .bool true, .agg (parLow.cells), .bool true, .bool true, .tuple #[.int .u64 0, .int .i64 10], .agg (parDef.cells), .tuple #[.int .u64 0, .int .i64 10], .int .u64 0, .int .i64 10, .tuple #[.agg parZ.cells, .int .i64 9], .agg (parDef.cells), .tuple #[.agg parZ.cells, .int .i64 9], .agg parZ.cells, .int .i64 9, .tuple #[.agg parZ.cells, .int .i64 3], .agg (parDef.cells), .tuple #[.agg parZ.cells, .int .i64 3], .agg parZ.cells, .int .i64 3, .tuple #[.agg parRew.cells, .int .i64 0], .agg (parDef.cells), .tuple #[.agg parRew.cells, .int .i64 0], .agg parRew.cells, .int .i64 0, .int .i64 10, .bool true, .bool true, .int .i64 9, .bool true, .bool true, .bool true, .int .i64 3, .bool true, .bool true, .bool true, .int .i64 0, .bool true, .bool true, .bool true, pT g11 10, .int .u64 0, .bool true, .bool true, .bool true, pT g11 7, .int .u64 50000000, pT gd 7, .int .u64 50000000, .bool true, .bool true, ud, ud, ud, ud, ud, ud, ud, ud, ud, ud, ud, ud, ud, ud, ud, ud, ud, ud, ud, ud, ud, ud, ud, ud, ud, ud, ud, ud, ud, ud, ud, ud, ud, ud, ud, ud, ud, ud, ud, ud, ud, ud, ud, ud, ud, ud, ud, ud, ud, ud, ud, ud, ud, ud, ud, ud, ud, ud, ud, ud, ud, ud, ud], []⟩ <| tqr_ [0, 1, 2, 3, 4, 5, 6] <| ppq (.agg (parDef.cells)) (ldr 24 gd (h193) (by kernel_rfl)) ?_
  refine pcq 21 #[.agg (parDef.cells)] Tryd.func21 ((ptx_d ▸ pText_ok parDef _ parDef_Ok (by rw [parDef_c]) (PowTab.keeps htab K198)).mono ?_)
  rintro e V200 ⟨rfl, kV200⟩
  refine ⟨_, rfl, ?_⟩
  have h201 := kV200.bk h193
  have h202 := kV200.bk h194
  have h203 := kV200.bk h195
  have h204 := kV200.bk h196
  have h205 := kV200.bk h197
  have h206 := kV200.bk h192
  have K207 := K198.nn kV200
  have z208 := kV200.size
  refine pkq (.tuple #[.string ⟨txd.toArray⟩, .int .i64 0]) <| pkq (.string ⟨txd.toArray⟩) <| pkq (.int .i64 0) <| pkq (.string ⟨txd.toArray⟩) <| pkq (.int .i64 0) <| eq_ <| qr_ [0, 1, 2, 3, 4, 5, 6, 7] <| pkq (.string ⟨txd.toArray⟩) <| ppq (.int .i64 132) (exec_len_str (.tmp 81) 9 (by kernel_rfl) Tryd.underlying9 ⟨txd.toArray⟩ (by kernel_rfl)) <| pkq (.bool false) <| pkq (.bool false) <| pkq (.string ⟨txd.toArray⟩) <| ppq (.string ⟨txM.toArray⟩) (exec_cast (congrArg (fun l : List UInt8 => Value.string ⟨l.toArray⟩) mid_M) (exec_slice_mid 9 (.tmp 85) (.const (.int .i64 14)) (.const (.int .i64 25)) (by kernel_rfl) txd (by kernel_rfl) .i64 .i64 14 25 (by kernel_rfl) (by kernel_rfl) Tryd.underlying9 (by decide) (by decide))) <| ppq (.bool false) (exec_binop .neq 9 9 (.tmp 86) (.const (.string ⟨#[109, 97, 120, 97, 103, 101, 32, 49, 48, 48, 10]⟩)) (by kernel_rfl) (.string ⟨txM.toArray⟩) (.string ⟨txM.toArray⟩) _ (by kernel_rfl) (by kernel_rfl) (by kernel_rfl) (str_same _ _)) ?_
  refine pkq (.bool false) <| en_ <| s_ <| tqr_ [0, 1, 2, 3, 4, 5, 6, 7, 8, 9, 10, 11, 12, 13, 14, 15, 16, 17, 18, 19, 20, 21, 22] <| pkq (.string ⟨txd.toArray⟩) <| ppq (.string ⟨txdS.toArray⟩) (exec_cast (congrArg (fun l : List UInt8 => Value.string ⟨l.toArray⟩) take_S) (exec_slice_to 9 (.tmp 89) (.const (.int .i64 131)) (by kernel_rfl) txd (by kernel_rfl) .i64 131 (by kernel_rfl) Tryd.underlying9 (by decide))) ?_
  refine pcq 32 #[.string ⟨txdS.toArray⟩] Tryd.func32 ((lpparses_ok txdS 6 10 _ (by decide) p_S).mono ?_)
  rintro e V209 ⟨rfl, kV209⟩
  refine ⟨_, rfl, ?_⟩
  have h210 := kV209.bk h201
  have h211 := kV209.bk h202
  have h212 := kV209.bk h203
  have h213 := kV209.bk h204
  have h214 := kV209.bk h205
  have h215 := kV209.bk h206
  have K216 := K207.nn kV209
  have z217 := kV209.size
  refine pkq (.agg #[.int .i64 6, .int .i64 10]) <| ppq (.bool true) (exec_cast (congrArg Value.bool (by simp)) (exec_binop .eql 46 46 (.tmp 91) (.tmp 92) (by kernel_rfl) (.agg #[.int .i64 6, .int .i64 10]) (.agg #[.int .i64 6, .int .i64 10]) _ (by kernel_rfl) (by kernel_rfl) (run_eqGuard_agg _ _ _ _ _ _ _ pfault_guard) (pfault_eq _ _ _ _ _))) <| pkq (.bool true) <| pkq (.string ⟨txd.toArray⟩) <| ppq (.string ⟨txdL.toArray⟩) (exec_cast (congrArg (fun l : List UInt8 => Value.string ⟨l.toArray⟩) cat_L) (exec_cat 9 (.tmp 95) (.const (.string ⟨#[120]⟩)) (by kernel_rfl) txd [120] (by kernel_rfl) (by kernel_rfl) (by decide))) ?_
  refine pcq 32 #[.string ⟨txdL.toArray⟩] Tryd.func32 ((lpparses_ok txdL 4 11 _ (by decide) p_L).mono ?_)
  rintro e V218 ⟨rfl, kV218⟩
  refine ⟨_, rfl, ?_⟩
  have h219 := kV218.bk h210
  have h220 := kV218.bk h211
  have h221 := kV218.bk h212
  have h222 := kV218.bk h213
  have h223 := kV218.bk h214
  have h224 := kV218.bk h215
  have K225 := K216.nn kV218
  have z226 := kV218.size
  refine pkq (.agg #[.int .i64 4, .int .i64 11]) <| ppq (.bool true) (exec_cast (congrArg Value.bool (by simp)) (exec_binop .eql 46 46 (.tmp 97) (.tmp 98) (by kernel_rfl) (.agg #[.int .i64 4, .int .i64 11]) (.agg #[.int .i64 4, .int .i64 11]) _ (by kernel_rfl) (by kernel_rfl) (run_eqGuard_agg _ _ _ _ _ _ _ pfault_guard) (pfault_eq _ _ _ _ _))) <| pkq (.bool true) <| pkq (.bool true) ?_
  refine pcq 32 #[.string { data := #[117, 110, 98, 111, 110, 100, 105, 110, 103, 32, 48, 49, 48, 48, 10] }] Tryd.func32 ((lpparses_ok txF 5 0 _ (by decide) p_F).mono ?_)
  rintro e V227 ⟨rfl, kV227⟩
  refine ⟨_, rfl, ?_⟩
  have h228 := kV227.bk h219
  have h229 := kV227.bk h220
  have h230 := kV227.bk h221
  have h231 := kV227.bk h222
  have h232 := kV227.bk h223
  have h233 := kV227.bk h224
  have K234 := K225.nn kV227
  have z235 := kV227.size
  refine pkq (.agg #[.int .i64 5, .int .i64 0]) <| ppq (.bool true) (exec_cast (congrArg Value.bool (by simp)) (exec_binop .eql 46 46 (.tmp 102) (.tmp 103) (by kernel_rfl) (.agg #[.int .i64 5, .int .i64 0]) (.agg #[.int .i64 5, .int .i64 0]) _ (by kernel_rfl) (by kernel_rfl) (run_eqGuard_agg _ _ _ _ _ _ _ pfault_guard) (pfault_eq _ _ _ _ _))) <| pkq (.bool true) <| pkq (.bool true) ?_
  refine pcq 32 #[.string { data := #[117, 110, 98, 111, 110, 100, 105, 110, 103, 32, 48, 10] }] Tryd.func32 ((lpparses_ok txR 3 0 _ (by decide) p_R).mono ?_)
  rintro e V236 ⟨rfl, kV236⟩
  refine ⟨_, rfl, ?_⟩
  have h237 := kV236.bk h228
  have h238 := kV236.bk h229
  have h239 := kV236.bk h230
  have h240 := kV236.bk h231
  have h241 := kV236.bk h232
  have h242 := kV236.bk h233
  have K243 := K234.nn kV236
  have z244 := kV236.size
  refine pkq (.agg #[.int .i64 3, .int .i64 0]) <| ppq (.bool true) (exec_cast (congrArg Value.bool (by simp)) (exec_binop .eql 46 46 (.tmp 107) (.tmp 108) (by kernel_rfl) (.agg #[.int .i64 3, .int .i64 0]) (.agg #[.int .i64 3, .int .i64 0]) _ (by kernel_rfl) (by kernel_rfl) (run_eqGuard_agg _ _ _ _ _ _ _ pfault_guard) (pfault_eq _ _ _ _ _))) <| pkq (.bool true) <| pkq (.bool true) <| ps_end <| sy_a ⟨#[.bool false, pT gd 0, pT g2 0, pT g3 0, .bool true, .int .u64 0, .int .i64 10, pT g7 0, .int .i64 9, pT g9 0, .int .i64 3, pT g11 0, .int .i64 0, .bool true, .string ⟨txd.toArray⟩, .int .i64 0, .bool true, ud, .agg parDef.cells, .agg (parDef.cells), .agg (parDef.cells), pT g2 1, pT g3 0, pT g3 1, .agg (parOld.cells), .bool true, .bool true, .agg (parLow.cells), .bool true, .bool true, .tuple #[.int .u64 0, .int .i64 10], .agg (parDef.cells), .tuple #[.int .u64 0, .int .i64 10], .int .u64 0, .int .i64 10, .tuple #[.agg parZ.cells, .int .i64 9], .agg (parDef.cells), .tuple #[.agg parZ.cells, .int .i64 9], .agg parZ.cells, .int .i64 9, .tuple #[.agg parZ.cells, .int .i64 3], .agg (parDef.cells), .tuple #[.agg parZ.cells, .int .i64 3], .agg parZ.cells, .int .i64 3, .tuple #[.agg parRew.cells, .int .i64 0], .agg (parDef.cells), .tuple #[.agg parRew.cells, .int .i64 0], .agg parRew.cells, .int .i64 0, .int .i64 10, .bool true, .bool true, .int .i64 9, .bool true, .bool true, .bool true, .int .i64 3, .bool true, .bool true, .bool true, .int .i64 0, .bool true, .bool true, .bool true, pT g11 10, .int .u64 0, .bool true, .bool true, .bool true, pT g11 7, .int .u64 50000000, pT gd 7, .int .u64 50000000, .bool true, .bool true, .tuple #[.string ⟨txd.toArray⟩, .int .i64 0], .agg (parDef.cells), .tuple #[.string ⟨txd.toArray⟩, .int .i64 0], .string ⟨txd.toArray⟩, .int .i64 0, .string ⟨txd.toArray⟩, .int .i64 132, .bool false, .bool false, .string ⟨txd.toArray⟩, .string ⟨txM.toArray⟩, .bool false, .bool false, .string ⟨txd.toArray⟩, .string ⟨txdS.toArray⟩, .agg #[.int .i64 6, .int .i64 10], .agg #[.int .i64 6, .int .i64 10], .bool true, .bool true, .string ⟨txd.toArray⟩, .string ⟨txdL.toArray⟩, .agg #[.int .i64 4, .int .i64 11], .agg #[.int .i64 4, .int .i64 11], .bool true, .bool true, .bool true, .agg #[.int .i64 5, .int .i64 0], .agg #[.int .i64 5, .int .i64 0], .bool true, .bool true, .bool true, .agg #[.int .i64 3, .int .i64 0], .agg #[.int .i64 3, .int .i64 0], .bool true, .bool true, ud, ud, ud, ud, ud, ud, ud, ud, ud, ud, ud, ud, ud, ud, ud, ud, ud, ud, ud, ud, ud, ud, ud, ud, ud, ud, ud, ud], []⟩ <| tqr_ [0, 1, 2, 3, 4, 5, 6, 7, 8, 9, 10, 11, 12, 13, 14, 15] ?_
  refine pcq 33 #[.slice none 0 0] Tryd.func33 ((lpreads_ok _ [] 6 0 _ (bytes_none _) (by decide) r_0).mono ?_)
  rintro e V245 ⟨rfl, kV245⟩
  refine ⟨_, rfl, ?_⟩
  have h246 := kV245.bk h237
  have h247 := kV245.bk h238
  have h248 := kV245.bk h239
  have h249 := kV245.bk h240
  have h250 := kV245.bk h241
  have h251 := kV245.bk h242
  have K252 := K243.nn kV245
  have z253 := kV245.size
  refine pkq (.agg #[.int .i64 6, .int .i64 0]) <| ppq (.bool true) (exec_cast (congrArg Value.bool (by simp)) (exec_binop .eql 46 46 (.tmp 111) (.tmp 112) (by kernel_rfl) (.agg #[.int .i64 6, .int .i64 0]) (.agg #[.int .i64 6, .int .i64 0]) _ (by kernel_rfl) (by kernel_rfl) (run_eqGuard_agg _ _ _ _ _ _ _ pfault_guard) (pfault_eq _ _ _ _ _))) <| pkq (.bool true) ?_
  obtain ⟨V254, eV254, b1, eb1, h255, kV254⟩ := alloc_step V245 (#[.int .u8 5, .int .u8 6]) 5
  have n256 : gd < b1 := eb1 ▸ lt_of_block h246
  have n257 : g2 < b1 := eb1 ▸ lt_of_block h247
  have n258 : g3 < b1 := eb1 ▸ lt_of_block h248
  have n259 : g7 < b1 := eb1 ▸ lt_of_block h249
  have n260 : g9 < b1 := eb1 ▸ lt_of_block h250
  have n261 : g11 < b1 := eb1 ▸ lt_of_block h251
  have n262 : w.heap.size ≤ b1 := eb1 ▸ K252.size
  refine prq (.slice (some ⟨b1, 0, none⟩) 2 2) (w' := V254) (by rw [← eV254, ← eb1]; kernel_rfl) ?_
  have h263 := kV254.bk h246
  have h264 := kV254.bk h247
  have h265 := kV254.bk h248
  have h266 := kV254.bk h249
  have h267 := kV254.bk h250
  have h268 := kV254.bk h251
  have K269 := K252.nn kV254
  have z270 := kV254.size
  refine pcq 33 #[.slice (some ⟨b1, 0, none⟩) 2 2] Tryd.func33 ((lpreads_ok _ [5, 6] 9 1 _ (Own.bytes_of_block (l := [5, 6]) h255 (by kernel_rfl) rfl (by decide)) (by decide) r_1).mono ?_)
  rintro e V271 ⟨rfl, kV271⟩
  refine ⟨_, rfl, ?_⟩
  have h272 := kV271.bk h263
  have h273 := kV271.bk h264
  have h274 := kV271.bk h265
  have h275 := kV271.bk h266
  have h276 := kV271.bk h267
  have h277 := kV271.bk h268
  have h278 := kV271.bk h255
  have K279 := K269.nn kV271
  have z280 := kV271.size
  refine pkq (.agg #[.int .i64 9, .int .i64 1]) <| ppq (.bool true) (exec_cast (congrArg Value.bool (by simp)) (exec_binop .eql 46 46 (.tmp 116) (.tmp 117) (by kernel_rfl) (.agg #[.int .i64 9, .int .i64 1]) (.agg #[.int .i64 9, .int .i64 1]) _ (by kernel_rfl) (by kernel_rfl) (run_eqGuard_agg _ _ _ _ _ _ _ pfault_guard) (pfault_eq _ _ _ _ _))) <| pkq (.bool true) <| pkq (.bool true) ?_
  obtain ⟨V281, eV281, b2, eb2, h282, kV281⟩ := alloc_step V271 (#[.int .u8 0]) 5
  have n283 : gd < b2 := eb2 ▸ lt_of_block h272
  have n284 : g2 < b2 := eb2 ▸ lt_of_block h273
  have n285 : g3 < b2 := eb2 ▸ lt_of_block h274
  have n286 : g7 < b2 := eb2 ▸ lt_of_block h275
  have n287 : g9 < b2 := eb2 ▸ lt_of_block h276
  have n288 : g11 < b2 := eb2 ▸ lt_of_block h277
  have n289 : b1 < b2 := eb2 ▸ lt_of_block h278
  have n290 : w.heap.size ≤ b2 := eb2 ▸ K279.size
  refine prq (.slice (some ⟨b2, 0, none⟩) 1 1) (w' := V281) (by rw [← eV281, ← eb2]; kernel_rfl) ?_
  have K298 := K279.nn kV281
  have z299 := kV281.size
  refine pcq 33 #[.slice (some ⟨b2, 0, none⟩) 1 1] Tryd.func33 ((lpreads_ok _ [0] 3 0 _ (Own.bytes_of_block (l := [0]) h282 (by kernel_rfl) rfl (by decide)) (by decide) r_2).mono ?_)
  rintro e V300 ⟨rfl, kV300⟩
  refine ⟨_, rfl, ?_⟩
  have K309 := K298.nn kV300
  have z310 := kV300.size
  refine pkq (.agg #[.int .i64 3, .int .i64 0]) <| ppq (.bool true) (exec_cast (congrArg Value.bool (by simp)) (exec_binop .eql 46 46 (.tmp 122) (.tmp 123) (by kernel_rfl) (.agg #[.int .i64 3, .int .i64 0]) (.agg #[.int .i64 3, .int .i64 0]) _ (by kernel_rfl) (by kernel_rfl) (run_eqGuard_agg _ _ _ _ _ _ _ pfault_guard) (pfault_eq _ _ _ _ _))) <| pkq (.bool true) <| pkq (.bool true) <| eqr_ [0, 1, 2, 3, 4, 5, 6, 7, 8, 9, 10, 11, 12, 13] ?_
  refine pcq 8 #[] Tryd.func8 ((lpawake_ok _ (PowTab.keeps htab K309)).mono ?_)
  rintro e V311 ⟨rfl, kV311⟩
  refine ⟨_, rfl, ?_⟩
  have K320 := K309.nn kV311
  have z321 := kV311.size
  refine pkq (.bool true) <| pkq (.bool true) <| pkq (.bool true) <| pkq (.bool true) <| pkq (.bool true) <| pkq (.bool true) <| pkq (.bool true) <| pkq (.bool true) <| pkq (.bool true) <| pkq (.bool true) <| pkq (.bool true) <| pkq (.bool true) <| pkq (.bool true) <| ps_end ?_
  refine sy_a ⟨#[.bool true, pT gd 0, pT g2 0, pT g3 0, .bool true, .int .u64 0, .int .i64 10, pT g7 0, .int .i64 9, pT g9 0, .int .i64 3, pT g11 0, .int .i64 0, .bool true, .string ⟨txd.toArray⟩, .int .i64 0, .bool true, .bool true, .agg parDef.cells, .agg (parDef.cells), .agg (parDef.cells), pT g2 1, pT g3 0, pT g3 1, .agg (parOld.cells), .bool true, .bool true, .agg (parLow.cells), .bool true, .bool true, .tuple #[.int .u64 0, .int .i64 10], .agg (parDef.cells), .tuple #[.int .u64 0, .int .i64 10], .int .u64 0, .int .i64 10, .tuple #[.agg parZ.cells, .int .i64 9], .agg (parDef.cells), .tuple #[.agg parZ.cells, .int .i64 9], .agg parZ.cells, .int .i64 9, .tuple #[.agg parZ.cells, .int .i64 3], .agg (parDef.cells), .tuple #[.agg parZ.cells, .int .i64 3], .agg parZ.cells, .int .i64 3, .tuple #[.agg parRew.cells, .int .i64 0], .agg (parDef.cells), .tuple #[.agg parRew.cells, .int .i64 0], .agg parRew.cells, .int .i64 0, .int .i64 10, .bool true, .bool true, .int .i64 9, .bool true, .bool true, .bool true, .int .i64 3, .bool true, .bool true, .bool true, .int .i64 0, .bool true, .bool true, .bool true, pT g11 10, .int .u64 0, .bool true, .bool true, .bool true, pT g11 7, .int .u64 50000000, pT gd 7, .int .u64 50000000, .bool true, .bool true, .tuple #[.string ⟨txd.toArray⟩, .int .i64 0], .agg (parDef.cells), .tuple #[.string ⟨txd.toArray⟩, .int .i64 0], .string ⟨txd.toArray⟩, .int .i64 0, .string ⟨txd.toArray⟩, .int .i64 132, .bool false, .bool false, .string ⟨txd.toArray⟩, .string ⟨txM.toArray⟩, .bool false, .bool false, .string ⟨txd.toArray⟩, .string ⟨txdS.toArray⟩, .agg #[.int .i64 6, .int .i64 10], .agg #[.int .i64 6, .int .i64 10], .bool true, .bool true, .string ⟨txd.toArray⟩, .string ⟨txdL.toArray⟩, .agg #[.int .i64 4, .int .i64 11], .agg #[.int .i64 4, .int .i64 11], .bool true, .bool true, .bool true, .agg #[.int .i64 5, .int .i64 0], .agg #[.int .i64 5, .int .i64 0], .bool true, .bool true, .bool true, .agg #[.int .i64 3, .int .i64 0], .agg #[.int .i64 3, .int .i64 0], .bool true, .bool true, .agg #[.int .i64 6, .int .i64 0], .agg #[.int .i64 6, .int .i64 0], .bool true, .bool true, .slice (some ⟨b1, 0, none⟩) 2 2, .agg #[.int .i64 9, .int .i64 1], .agg #[.int .i64 9, .int .i64 1], .bool true, .bool true, .bool true, .slice (some ⟨b2, 0, none⟩) 1 1, .agg #[.int .i64 3, .int .i64 0], .agg #[.int .i64 3, .int .i64 0], .bool true, .bool true, .bool true, .bool true, .bool true, .bool true, .bool true, .bool true, .bool true, .bool true, .bool true, .bool true, .bool true, .bool true, .bool true], []⟩ <| then_n <| u_ <| so_ (.bool true) ?_
  exact ⟨rfl, K320⟩
end Go.Proofs.YtpflmldmbpnllaaDoor
namespace Go.Proofs.YtpflmldmbpnllaaDoor
set_option maxRecDepth 100000
set_option maxHeartbeats 4000000
open Go Go.RowKit Go.Own Go.Shelf
theorem dig_nat {k : Nat} (h : k < 10) : (UInt8.ofNat (48 + k)).toNat = 48 + k := by
  have h' : k = 0 ∨ k = 1 ∨ k = 2 ∨ k = 3 ∨ k = 4 ∨ k = 5 ∨ k = 6 ∨ k = 7 ∨ k = 8 ∨ k = 9 := by omega
  rcases h' with rfl | rfl | rfl | rfl | rfl | rfl | rfl | rfl | rfl | rfl <;> rfl
theorem dec_isd (n : Nat) : (Lib.decDigits n).all isd = true := by
  induction n using Nat.strongRecOn with
  | _ n ih =>
    rw [Lib.decDigits]
    by_cases h : n < 10
    · rw [dif_pos h]
      simp only [List.all_cons, List.all_nil, Bool.and_true, isd, decide_eq_true_eq, dig_nat h]; omega
    · rw [dif_neg h, List.all_append, ih (n / 10) (by omega)]
      simp only [List.all_cons, List.all_nil, Bool.and_true, Bool.true_and, isd, decide_eq_true_eq, dig_nat (show n % 10 < 10 by omega)]; omega
theorem dval_dec (n : Nat) : dval (Lib.decDigits n) = n := by
  induction n using Nat.strongRecOn with
  | _ n ih =>
    rw [Lib.decDigits]
    by_cases h : n < 10
    · rw [dif_pos h]
      have := dval_snoc [] (UInt8.ofNat (48 + n))
      rw [List.nil_append] at this
      rw [this, dig_nat h]; show 10 * 0 + _ = _; omega
    · rw [dif_neg h, dval_snoc, ih (n / 10) (by omega), dig_nat (show n % 10 < 10 by omega)]; omega
theorem dec_head (n : Nat) (h1 : 1 ≤ n) : ∃ c r, Lib.decDigits n = c :: r ∧ c ≠ 48 := by
  induction n using Nat.strongRecOn with
  | _ n ih =>
    rw [Lib.decDigits]
    by_cases h : n < 10
    · rw [dif_pos h]
      refine ⟨_, _, rfl, fun e => ?_⟩
      have := congrArg UInt8.toNat e
      rw [dig_nat h] at this
      have e2 : (48 : UInt8).toNat = 48 := rfl
      omega
    · rw [dif_neg h]
      obtain ⟨c, r, e, hc⟩ := ih (n / 10) (by omega) (by omega)
      exact ⟨c, r ++ [UInt8.ofNat (48 + n % 10)], by rw [e]; rfl, hc⟩
theorem dec_size (k : Nat) : ∀ n, n < 10 ^ (k + 1) → (Lib.decDigits n).length ≤ k + 1 := by
  induction k with
  | zero => intro n h; rw [Lib.decDigits, dif_pos (by simpa using h)]; simp
  | succ k ih =>
    intro n h
    rw [Lib.decDigits]
    by_cases h2 : n < 10
    · rw [dif_pos h2]; simp
    · rw [dif_neg h2, List.length_append]
      have := ih (n / 10) (by rw [Nat.pow_succ] at h; omega)
      simp; omega
theorem dec_pos (n : Nat) : 1 ≤ (Lib.decDigits n).length := by
  rw [Lib.decDigits]; split <;> simp
theorem pnum_dec {n : Nat} (h : n < 10000000000) : pnum (Lib.decDigits n) = (n, true) := by
  have := pnum_good (l := Lib.decDigits n) (by have := dec_pos n; omega) (by have := dec_size 9 n h; omega) ?_ (dec_isd n)
  · rw [this, dval_dec]
  · by_cases h2 : n < 10
    · left; rw [Lib.decDigits, dif_pos h2]; simp
    · right
      obtain ⟨c, r, e, hc⟩ := dec_head n (by omega)
      refine ⟨c, by rw [e]; rfl, fun e2 => hc ?_⟩
      apply UInt8.toNat_inj.1; rw [e2]; rfl
theorem dval_pos : ∀ (k : Nat) (l : List UInt8), l.length = k + 1 → l.all isd = true → l[0]? ≠ some 48 → 1 ≤ dval l := by
  intro k
  induction k with
  | zero =>
    intro l h hd h0
    match l, h with
    | [c], _ =>
      have := dval_snoc [] c
      rw [List.nil_append] at this
      simp only [List.all_cons, List.all_nil, Bool.and_true, isd, decide_eq_true_eq] at hd
      rw [this]
      have : c.toNat ≠ 48 := fun e => h0 (by rw [show c = 48 by apply UInt8.toNat_inj.1; rw [e]; rfl]; rfl)
      omega
  | succ k ih =>
    intro l h hd h0
    obtain ⟨m, c, rfl⟩ : ∃ m c, l = m ++ [c] := ⟨l.dropLast, l.getLast (by intro e; rw [e] at h; simp at h), (List.dropLast_concat_getLast _).symm⟩
    rw [List.length_append] at h
    have hm : m.length = k + 1 := by simpa using h
    simp only [List.all_append, Bool.and_eq_true] at hd
    have := ih m hm hd.1 (by rw [List.getElem?_append_left (by omega)] at h0; exact h0)
    rw [dval_snoc]; omega
theorem dec_dval : ∀ (k : Nat) (l : List UInt8), l.length = k + 1 → l.all isd = true → (l.length ≤ 1 ∨ l[0]? ≠ some 48) → Lib.decDigits (dval l) = l := by
  intro k
  induction k with
  | zero =>
    intro l h hd h0
    match l, h with
    | [c], _ =>
      have := dval_snoc [] c
      rw [List.nil_append] at this
      simp only [List.all_cons, List.all_nil, Bool.and_true, isd, decide_eq_true_eq] at hd
      have e : dval [c] = c.toNat - 48 := by rw [this]; show 10 * 0 + _ = _; omega
      rw [e, Lib.decDigits, dif_pos (by omega)]
      congr 1
      apply UInt8.toNat_inj.1
      rw [dig_nat (by omega)]; omega
  | succ k ih =>
    intro l h hd h0
    obtain ⟨m, c, rfl⟩ : ∃ m c, l = m ++ [c] := ⟨l.dropLast, l.getLast (by intro e; rw [e] at h; simp at h), (List.dropLast_concat_getLast _).symm⟩
    rw [List.length_append] at h
    have hm : m.length = k + 1 := by simpa using h
    simp only [List.all_append, Bool.and_eq_true, List.all_cons, List.all_nil, Bool.and_true] at hd
    have hc := hd.2
    simp only [isd, decide_eq_true_eq] at hc
    have h0' : m[0]? ≠ some 48 := by
      rcases h0 with h0 | h0
      · rw [List.length_append, hm] at h0; simp at h0
      · rw [List.getElem?_append_left (by omega)] at h0; exact h0
    have hp := dval_pos k m hm hd.1 h0'
    rw [dval_snoc, Lib.decDigits, dif_neg (by omega)]
    rw [show (10 * dval m + (c.toNat - 48)) / 10 = dval m by omega, show (10 * dval m + (c.toNat - 48)) % 10 = c.toNat - 48 by omega, ih m hm hd.1 (.inr h0')]
    congr 2
    apply UInt8.toNat_inj.1
    rw [dig_nat (by omega)]; omega
theorem pnum_inv {l : List UInt8} (h : (pnum l).2 = true) : l = Lib.decDigits (pnum l).1 := by
  unfold pnum at h ⊢
  by_cases hg : pgood l = true
  · rw [if_pos hg]
    unfold pgood at hg
    simp only [Bool.and_eq_true, Bool.or_eq_true, decide_eq_true_eq] at hg
    refine (dec_dval (l.length - 1) l (by omega) hg.2 ?_).symm
    rcases hg.1.2 with h1 | h1
    · exact .inl h1
    · refine .inr fun e => ?_
      rw [e] at h1; simp at h1
  · rw [if_neg hg] at h; cases h
/-- A field's line. -/
def pl (i n : Nat) : List UInt8 := nml i ++ [32] ++ Lib.decDigits n ++ [10]
def lns : Nat → List Int → List UInt8
  | _, [] => []
  | i, u :: r => pl i u.toNat ++ lns (i + 1) r
theorem ptI_lns (p : Par) : ptI p 11 = lns 0 p.l := rfl
theorem feed_line : ∀ (a r : List UInt8), (10 : UInt8) ∉ a → feedAt (a ++ 10 :: r) = some a.length
  | [], r, _ => by simp [feedAt]
  | c :: a, r, h => by
    rw [List.cons_append, feedAt, if_neg (fun e => h (by rw [e]; exact List.mem_cons_self)), feed_line a r (fun e => h (List.mem_cons_of_mem _ e))]; rfl
theorem feed_cut {l : List UInt8} {j : Nat} (h : feedAt l = some j) : l = l.take j ++ 10 :: l.drop (j + 1) := by
  have h1 := feed_get l j h
  have h2 := (List.take_append_drop (j + 1) l).symm
  rw [h1, List.append_assoc] at h2
  exact h2
theorem name_nolf {i : Nat} (hi : i < 11) : (10 : UInt8) ∉ nml i := by
  have h : i = 0 ∨ i = 1 ∨ i = 2 ∨ i = 3 ∨ i = 4 ∨ i = 5 ∨ i = 6 ∨ i = 7 ∨ i = 8 ∨ i = 9 ∨ i = 10 := by omega
  rcases h with rfl | rfl | rfl | rfl | rfl | rfl | rfl | rfl | rfl | rfl | rfl <;> decide
theorem line_nolf {i n : Nat} (hi : i < 11) : (10 : UInt8) ∉ nmh i ++ Lib.decDigits n := by
  unfold nmh
  simp only [List.mem_append, List.mem_singleton, not_or]
  refine ⟨⟨name_nolf hi, by decide⟩, fun h => ?_⟩
  have := List.all_eq_true.1 (dec_isd n) _ h
  revert this; decide
theorem pl_nmh (i n : Nat) : pl i n = (nmh i ++ Lib.decDigits n) ++ [10] := rfl
theorem pln_line {i n : Nat} (hn : n < 10000000000) : pln i (nmh i ++ Lib.decDigits n) = (n, true) := by
  rw [pln_yes (by simp) (by simp), List.drop_left, pnum_dec hn]
theorem pln_inv {i : Nat} {a : List UInt8} (h : (pln i a).2 = true) : a = nmh i ++ Lib.decDigits (pln i a).1 := by
  by_cases hh : (nmh i).length ≤ a.length ∧ a.take (nmh i).length = nmh i
  · rw [pln_yes hh.1 hh.2] at h ⊢
    rw [← pnum_inv h]
    have := (List.take_append_drop (nmh i).length a).symm
    rw [hh.2] at this; exact this
  · rw [pln_no hh] at h; cases h
theorem perr_zero {i : Nat} {vs : List Int} {a : List UInt8} (h : perr i vs a = 0) : (pln i a).2 = true ∧ (parLo[i]?.getD 0 ≤ ((pln i a).1 : Int) ∧ ((pln i a).1 : Int) ≤ parHi[i]?.getD 0) ∧ ¬ (i = 1 ∧ vs[0]?.getD 0 < ((pln i a).1 : Int)) := by
  unfold perr at h
  by_cases h1 : (pln i a).2 = false
  · rw [if_pos h1] at h; cases h
  · rw [if_neg h1] at h
    by_cases h2 : parLo[i]?.getD 0 ≤ ((pln i a).1 : Int) ∧ ((pln i a).1 : Int) ≤ parHi[i]?.getD 0
    · rw [if_neg (fun x => x h2)] at h
      by_cases h3 : i = 1 ∧ vs[0]?.getD 0 < ((pln i a).1 : Int)
      · rw [if_pos h3] at h; cases h
      · exact ⟨by simpa using h1, h2, h3⟩
    · rw [if_pos h2] at h; cases h
/-- Numbers of the fields from i on may be. -/
def within (i : Nat) (us : List Int) : Prop := ∀ j u, us[j]? = some u → parLo[i + j]?.getD 0 ≤ u ∧ u ≤ parHi[i + j]?.getD 0
theorem within.tail {i : Nat} {u : Int} {us : List Int} (h : within i (u :: us)) : within (i + 1) us := fun j x hx => by
  have := h (j + 1) x (by simpa using hx)
  rw [show i + (j + 1) = i + 1 + j by omega] at this; exact this
theorem within.cons {i : Nat} {u : Int} {us : List Int} (h0 : parLo[i]?.getD 0 ≤ u ∧ u ≤ parHi[i]?.getD 0) (h : within (i + 1) us) : within i (u :: us) := fun j x hx => by
  match j with
  | 0 => obtain rfl : u = x := by simpa using hx
         exact h0
  | j + 1 =>
    have := h j x (by simpa using hx)
    rw [show i + 1 + j = i + (j + 1) by omega] at this; exact this
/-- The second number is not above the first. -/
def inord (l : List Int) : Prop := ¬ l[0]?.getD 0 < l[1]?.getD 0
theorem lo_nn0 (i : Nat) : 0 ≤ parLo[i]?.getD 0 := by
  by_cases h : i < 11
  · have h : i = 0 ∨ i = 1 ∨ i = 2 ∨ i = 3 ∨ i = 4 ∨ i = 5 ∨ i = 6 ∨ i = 7 ∨ i = 8 ∨ i = 9 ∨ i = 10 := by omega
    rcases h with rfl | rfl | rfl | rfl | rfl | rfl | rfl | rfl | rfl | rfl | rfl <;> decide
  · rw [List.getElem?_eq_none (show parLo.length ≤ i by show 11 ≤ i; omega)]; decide
theorem pgo_lines : ∀ (us vs : List Int), vs.length + us.length = 11 → within vs.length us → inord (vs ++ us) → pgo us.length vs (lns vs.length us) = (parOfL (vs ++ us), 0, 0)
  | [], vs, _, _, _ => by rw [List.append_nil]; rfl
  | u :: r, vs, hl, hw, ho => by
    have h0 := hw 0 u rfl
    rw [Nat.add_zero] at h0
    have hlo := lo_nn0 vs.length
    have hhi := parHi_le vs.length
    have hu : ((u.toNat : Nat) : Int) = u := by omega
    have hi : vs.length < 11 := by rw [List.length_cons] at hl; omega
    have hln : lns vs.length (u :: r) = (nmh vs.length ++ Lib.decDigits u.toNat) ++ 10 :: lns (vs.length + 1) r := by
      rw [lns, pl_nmh, List.append_assoc]; rfl
    have hp : pln vs.length (nmh vs.length ++ Lib.decDigits u.toNat) = (u.toNat, true) := pln_line (by omega)
    have hf := feed_line (nmh vs.length ++ Lib.decDigits u.toNat) (lns (vs.length + 1) r) (line_nolf hi)
    rw [hln, List.length_cons]
    have he : perr vs.length vs (nmh vs.length ++ Lib.decDigits u.toNat) = 0 := by
      unfold perr
      rw [hp]
      rw [if_neg (by simp), if_neg (by simp only [hu]; exact fun x => x h0), if_neg]
      rintro ⟨h1, h2⟩
      simp only [hu] at h2
      match vs, h1 with
      | [v], _ => exact ho h2
    have hg := pgo_go (m := r.length) (vs := vs) hf (by rw [List.take_left]; exact he)
    rw [List.take_left, hp, hu] at hg
    rw [hg, show (nmh vs.length ++ Lib.decDigits u.toNat ++ 10 :: lns (vs.length + 1) r).drop ((nmh vs.length ++ Lib.decDigits u.toNat).length + 1) = lns (vs.length + 1) r by rw [← List.drop_drop, List.drop_left]; rfl]
    have ih := pgo_lines r (vs ++ [u]) (by rw [List.length_append]; rw [List.length_cons] at hl; simp; omega) (by rw [List.length_append]; exact hw.tail) (by rw [List.append_assoc]; exact ho)
    rw [List.append_assoc, List.length_append] at ih
    exact ih
theorem pgo_inv : ∀ (m : Nat) (vs : List Int) (l : List UInt8) (q : Par) (e : Int), pgo m vs l = (q, 0, e) → vs.length + m = 11 → (2 ≤ vs.length → inord vs) → e = 0 ∧ ∃ us : List Int, us.length = m ∧ q = parOfL (vs ++ us) ∧ l = lns vs.length us ∧ within vs.length us ∧ inord (vs ++ us)
  | 0, vs, l, q, e, h, hv, ho => by
    unfold pgo at h
    by_cases hl : l = []
    · rw [if_pos hl] at h
      have h1 := congrArg Prod.fst h
      have h2 := congrArg (fun x => x.2.2) h
      exact ⟨h2.symm, [], rfl, by rw [List.append_nil]; exact h1.symm, hl, fun j u hj => by simp at hj, by rw [List.append_nil]; exact ho (by omega)⟩
    · rw [if_neg hl] at h
      have h1 := congrArg (fun x => x.2.1) h
      exact absurd (show (4 : Int) = 0 from h1) (by decide)
  | m + 1, vs, l, q, e, h, hv, ho => by
    cases hf : feedAt l with
    | none =>
      rw [pgo_none hf] at h
      have h1 := congrArg (fun x => x.2.1) h
      exact absurd (show (6 : Int) = 0 from h1) (by decide)
    | some j =>
      by_cases he : perr vs.length vs (l.take j) = 0
      · rw [pgo_go hf he] at h
        obtain ⟨g1, g2, g3⟩ := perr_zero he
        have hvl : (vs ++ [((pln vs.length (l.take j)).1 : Int)]).length = vs.length + 1 := by rw [List.length_append]; rfl
        obtain ⟨e0, us, u1, u2, u3, u4, u5⟩ := pgo_inv m _ _ q e h (by rw [hvl]; omega) (fun h2 => by
          rw [hvl] at h2
          by_cases h1 : vs.length = 1
          · match vs, h1 with
            | [v], _ => exact fun x => g3 ⟨rfl, x⟩
          · have := ho (by omega)
            unfold inord at this ⊢
            rw [List.getElem?_append_left (by omega), List.getElem?_append_left (by omega)]; exact this)
        rw [hvl] at u3 u4
        rw [List.append_assoc] at u2 u5
        refine ⟨e0, ((pln vs.length (l.take j)).1 : Int) :: us, by rw [List.length_cons, u1], u2, ?_, u4.cons g2, u5⟩
        have hc := feed_cut hf
        rw [u3, pln_inv g1] at hc
        rw [lns, Int.toNat_natCast, pl_nmh]
        exact hc.trans (by simp)
      · rw [pgo_bad hf rfl he] at h
        exact absurd (congrArg (fun x => x.2.1) h) he
/-- Params that may be. -/
def Par.fit (p : Par) : Prop := within 0 p.l ∧ inord p.l
theorem Par.fit_check {p : Par} (h : p.fit) : p.check = (0, 0) := by
  rw [Par.check_good p (fun j hj => by
    have hl : j < p.l.length := hj
    have := h.1 j (p.l[j]?.getD 0) (by rw [List.getElem?_eq_getElem hl]; rfl)
    rw [Nat.zero_add] at this; exact this)]
  exact if_neg h.2
theorem parse_text {p : Par} (h : p.fit) : pparse (ptI p 11) = (p, 0, 0) := by
  have := pgo_lines p.l [] rfl h.1 h.2
  rw [ptI_lns]
  exact this
theorem list_l {us : List Int} (h : us.length = 11) : (parOfL us).l = us := (eleven h).symm
theorem text_parse {l : List UInt8} {q : Par} {e : Int} (h : pparse l = (q, 0, e)) : e = 0 ∧ q.fit ∧ ptI q 11 = l := by
  obtain ⟨e0, us, u1, u2, u3, u4, u5⟩ := pgo_inv 11 [] l q e h rfl (fun h => absurd h (by decide))
  rw [List.nil_append] at u2 u5
  have hq : q.l = us := by rw [u2, list_l u1]
  exact ⟨e0, ⟨by rw [hq]; exact u4, by rw [hq]; exact u5⟩, by rw [ptI_lns, hq]; exact u3.symm⟩
end Go.Proofs.YtpflmldmbpnllaaDoor
namespace Go.Proofs.YtpflmldmbpnllaaDoor
set_option maxRecDepth 100000
set_option maxHeartbeats 4000000
open Go Go.RowKit Go.Own Go.Shelf
def bns (us : List Int) : List UInt8 := us.flatMap fun x => Cod.enc x.toNat
theorem pby_bns (p : Par) : pby p = bns p.l := rfl
theorem bns_cons (u : Int) (r : List Int) : bns (u :: r) = Cod.enc u.toNat ++ bns r := by simp [bns]
theorem bgo_at : ∀ (us vs : List Int) (l : List UInt8) (p : Nat), vs.length + us.length = 11 → within vs.length us → inord (vs ++ us) → l.drop p = bns us → bgo us.length vs l (rs p) = (vs ++ us, rs (p + (bns us).length))
  | [], vs, l, p, _, _, _, _ => by simp [bgo, bns]
  | u :: r, vs, l, p, hl, hw, ho, hd => by
    have h0 := hw 0 u rfl
    rw [Nat.add_zero] at h0
    have hlo := (lo_nn vs.length).1
    have hhi := parHi_le vs.length
    have hu : ((u.toNat : Nat) : Int) = u := by omega
    rw [bns_cons] at hd
    have hb : brd l vs.length (rs p) = (((u.toNat : Nat) : Int), rs (p + (Cod.enc u.toNat).length)) := rdN_at hd (by omega) (by omega) (by omega)
    have hn : ((brn l vs.length (rs p) : Nat) : Int) = u := by rw [← brd_nat, hb, hu]
    have hs : bst l vs vs.length (rs p) = rs (p + (Cod.enc u.toNat).length) := by
      rw [bst_not, hb]
      rintro ⟨h1, h2⟩
      rw [hn] at h2
      match vs, h1 with
      | [v], _ => exact ho h2
    have ih := bgo_at r (vs ++ [u]) l (p + (Cod.enc u.toNat).length) (by rw [List.length_append]; rw [List.length_cons] at hl; simp; omega) (by rw [List.length_append]; exact hw.tail) (by rw [List.append_assoc]; exact ho) (drop_more hd)
    rw [List.length_cons, bgo, hn, hs, ih, bns_cons, List.length_append, List.append_assoc, Nat.add_assoc]
    rfl
theorem fail_err {s : RS} {e p : Int} (he : e ≠ 0) : (s.fail e p).err ≠ 0 := by
  unfold RS.fail
  by_cases h : s.err = 0
  · rw [if_pos ⟨h, he⟩]; exact he
  · rw [if_neg (fun x => h x.1)]; exact h
theorem bst_err {l : List UInt8} {vs : List Int} {i : Nat} {s : RS} (h : (bst l vs i s).err = 0) : s.err = 0 ∧ (brd l i s).2.err = 0 ∧ ¬ (i = 1 ∧ vs[0]?.getD 0 < ((brn l i s : Nat) : Int)) := by
  by_cases h1 : i = 1 ∧ vs[0]?.getD 0 < ((brn l i s : Nat) : Int)
  · rw [bst_ord h1.1 h1.2] at h; exact absurd h (fail_err (by decide))
  · rw [bst_not h1] at h; exact ⟨(rdN_err h).1, h, h1⟩
theorem bgo_err : ∀ (m : Nat) (vs : List Int) (l : List UInt8) (s : RS), (bgo m vs l s).2.err = 0 → s.err = 0
  | 0, _, _, _, h => h
  | m + 1, vs, l, s, h => (bst_err (bgo_err m _ l _ h)).1
theorem bgo_inv : ∀ (m : Nat) (vs : List Int) (l : List UInt8) (p : Nat), (bgo m vs l (rs p)).2.err = 0 → p ≤ l.length → vs.length + m = 11 → (2 ≤ vs.length → inord vs) → ∃ (us : List Int) (p' : Nat), us.length = m ∧ bgo m vs l (rs p) = (vs ++ us, rs p') ∧ p' ≤ l.length ∧ l.drop p = bns us ++ l.drop p' ∧ within vs.length us ∧ inord (vs ++ us)
  | 0, vs, l, p, _, hp, hv, ho => ⟨[], p, rfl, by rw [List.append_nil]; rfl, hp, rfl, fun j u hj => by simp at hj, by rw [List.append_nil]; exact ho (by omega)⟩
  | m + 1, vs, l, p, h, hp, hv, ho => by
    have h0 := bgo_err m _ l _ h
    obtain ⟨_, g2, g3⟩ := bst_err h0
    obtain ⟨n, r, hn, hd, e, hhi, hlo, hle⟩ := rdN_inv hp g2
    have e' : brd l vs.length (rs p) = ((n : Int), rs (p + (Cod.enc n).length)) := e
    have hbn : brn l vs.length (rs p) = n := by unfold brn; rw [e']; rfl
    have hs : bst l vs vs.length (rs p) = rs (p + (Cod.enc n).length) := by rw [bst_not g3, e']
    rw [bgo, hbn, hs] at h
    rw [hbn] at g3
    have hvl : (vs ++ [(n : Int)]).length = vs.length + 1 := by rw [List.length_append]; rfl
    obtain ⟨us, p', u1, u2, u3, u4, u5, u6⟩ := bgo_inv m _ l _ h hle (by rw [hvl]; omega) (fun h2 => by
      rw [hvl] at h2
      by_cases h1 : vs.length = 1
      · match vs, h1 with
        | [v], _ => exact fun x => g3 ⟨rfl, x⟩
      · have := ho (by omega)
        unfold inord at this ⊢
        rw [List.getElem?_append_left (by omega), List.getElem?_append_left (by omega)]; exact this)
    rw [hvl] at u5
    rw [List.append_assoc] at u2 u6
    refine ⟨(n : Int) :: us, p', by rw [List.length_cons, u1], by rw [bgo, hbn, hs]; exact u2, u3, ?_, u5.cons ⟨?_, hhi⟩, u6⟩
    · rw [bns_cons, Int.toNat_natCast, List.append_assoc, ← u4]
      rw [drop_more hd, hd]
    · have := lo_nn vs.length
      by_cases h3 : 0 < parLo[vs.length]?.getD 0
      · exact hlo h3
      · omega
theorem read_bytes {p : Par} (h : p.fit) : pbread (pby p) = (p, 0, 0) := by
  have h1 := bgo_at p.l [] (pby p) 0 rfl h.1 h.2 rfl
  rw [List.nil_append] at h1
  have h2 : bgo (11 - 11) p.l (pby p) (rs (0 + (bns p.l).length)) = bres (pby p) := h1.symm
  rw [bread_ok rfl h2 (by rw [fin_at (by rw [pby_bns]; omega)])]
  rfl
theorem bytes_read {l : List UInt8} {q : Par} {e : Int} (h : pbread l = (q, 0, e)) : e = 0 ∧ q.fit ∧ pby q = l := by
  have h0 : (bfin l).1 = 0 := by
    by_cases h0 : (bfin l).1 = 0
    · exact h0
    · unfold pbread at h; rw [if_neg h0] at h
      exact absurd (congrArg (fun x => x.2.1) h) h0
  obtain ⟨h1, h2⟩ := fin_err h0
  obtain ⟨us, p', u1, u2, u3, u4, u5, u6⟩ := bgo_inv 11 [] l 0 h1 (by omega) rfl (fun h => absurd h (by decide))
  rw [List.nil_append] at u2 u6
  have hb : bres l = (us, rs p') := u2
  rw [hb] at h2
  have h2' : (l.length : Int) ≤ (p' : Int) := h2
  unfold pbread at h
  rw [if_pos h0, hb] at h
  have hq : q.l = us := by rw [show q = parOfL us from (congrArg Prod.fst h).symm, list_l u1]
  refine ⟨(congrArg (fun x => x.2.2) h).symm, ⟨by rw [hq]; exact u5, by rw [hq]; exact u6⟩, ?_⟩
  rw [List.drop_eq_nil_of_le (show l.length ≤ p' by omega), List.append_nil] at u4
  rw [pby_bns, hq, ← u4]; rfl
end Go.Proofs.YtpflmldmbpnllaaDoor
namespace Go.Proofs.YtpflmldmbpnllaaDoor
set_option maxRecDepth 100000
set_option maxHeartbeats 4000000
open Go Go.RowKit Go.Own
/-- Pick: the number's remainder, from 0 on; 0 of none. -/
theorem pick_ok (x n : Int) (w : World) (hx : -9223372036854775808 ≤ x ∧ x ≤ 9223372036854775807) (hn : n ≤ 9223372036854775807) :
    Calls Tryd.prog 35 #[.int .i64 x, .int .i64 n] w fun e w' => e = .returned (.int .i64 (if n ≤ 0 then 0 else x % n)) ∧ w = w' := by
  obtain ⟨hx1, hx2⟩ := hx
  by_cases h0 : n ≤ 0
  · rw [if_pos h0]
    have d0 : decide (n ≤ 0) = true := by simpa using h0
    go_enter Tryd.func35, Tryd.ntmps35
    go_wp2
    go_ret
    exact ⟨rfl, rfl⟩
  · rw [if_neg h0]
    have d0 : decide (n ≤ 0) = false := by simpa using h0
    have hnz : (n == 0) = false := by simp; omega
    have hnz2 : n ≠ 0 := by omega
    have e1 : x.tmod n = if x < 0 ∧ x % n ≠ 0 then x % n - n else x % n := by
      have h1 := Int.emod_nonneg x (show n ≠ 0 by omega)
      have h2 := Int.emod_lt_of_pos x (show 0 < n by omega)
      rw [Int.tmod_eq_emod]
      split
      · rename_i h
        rw [if_neg]
        · simp
        · intro h3
          rcases h with h | h
          · omega
          · exact h3.2 (Int.emod_eq_zero_of_dvd h)
      · rename_i h
        have h4 : ¬ n ∣ x := fun hd => h (.inr hd)
        rw [if_pos ⟨by omega, fun he => h4 (Int.dvd_of_emod_eq_zero he)⟩]
        omega
    have h1 := Int.emod_nonneg x (show n ≠ 0 by omega)
    have h2 := Int.emod_lt_of_pos x (show 0 < n by omega)
    by_cases hc : x < 0 ∧ x % n ≠ 0
    · have e2 : x.tmod n = x % n - n := by rw [e1, if_pos hc]
      have d1 : decide (x.tmod n < 0) = true := by simp; omega
      have w1 : wrap64 (x.tmod n + n) = x.tmod n + n := IntWalk.wrap64_in _ ⟨by omega, by omega⟩
      have E2 := Lib.hid e2
      clear e1 e2 hc h1 h2
      go_enter Tryd.func35, Tryd.ntmps35
      go_wp2
      go_ret
      exact ⟨ret_int (by rw [E2.out]; omega), rfl⟩
    · have e2 : x.tmod n = x % n := by rw [e1, if_neg hc]
      have d1 : decide (x.tmod n < 0) = false := by simp; omega
      have E2 := Lib.hid e2
      clear e1 e2 hc h1 h2
      go_enter Tryd.func35, Tryd.ntmps35
      go_wp2
      go_ret
      exact ⟨ret_int (by rw [E2.out]), rfl⟩
end Go.Proofs.YtpflmldmbpnllaaDoor
namespace Go.Own
set_option maxRecDepth 100000
set_option maxHeartbeats 4000000
open Go Go.ChangeShapes Go.WideShapes Go.ChangeAt Go.RowKit Go.WideElems
variable {H : Type} {enc : TypeId × Value → H} {P : Program}
theorem trodAll_stays (hl : laidOutB P = true) {W W' : World} {sp : Nat → Bool} : ∀ (ts : List TypeId) (vs : List Value) (ds : List (DataW H)) (ps : List MemPlace),
    ts.all (fun t => P.readableRec t && decide (t < P.types.size)) = true → DataW.TrodAll enc P W 0 (fun _ => true) true ts vs ds ps → (∀ p ∈ ps, W.sameAt W' p) → (∀ p ∈ ps, sp p.block = true) →
    DataW.TrodAll enc P W' 0 sp true ts vs ds ps
  | [], vs, ds, ps, _, h, _, _ => by
    obtain ⟨rfl, rfl, rfl⟩ := trodAll_nil h
    exact trodAll_mk0
  | t :: ts, vs, ds, ps, hr, h, hs, hsp => by
    obtain ⟨v, vs', d, ds', p, q, rfl, rfl, rfl, h0, r⟩ := trodAll_cons h
    simp only [List.all_cons, Bool.and_eq_true, decide_eq_true_eq] at hr
    exact trodAll_cons_mk (Trod_stays hl hr.1.1 hr.1.2 h0 (fun x hx => hs x (by simp [hx])) (fun x hx => hsp x (by simp [hx])))
      (trodAll_stays hl ts vs' ds' q hr.2 r (fun x hx => hs x (by simp [hx])) (fun x hx => hsp x (by simp [hx])))
theorem law_post {f : Func} {s : ChangeSpec} {W W' : World} {args : Array Value} {ds gs : List (DataW H)} {before : List MemPlace} {tb : TypeId} (hl : laidOutB P = true) (hr : f.params.toList.all (fun t => P.readableRec t && decide (t < P.types.size)) = true)
    (hres : f.resultTypes = #[tb]) (hb : P.underlying tb = some .bool) (hvars : s.vars = []) (hfn : s.fn H (ds ++ gs) = { results := [.lit (.bool true)], args := ds })
    (hW : DataW.Whole enc P f.params.toList s.vars false W args.toList ds gs before) (hB : Below W.heap.size W W') : s.post enc P f false true false false W args (.bool true) W' := by
  have hlt := hW.lt
  have hW0 := hW
  obtain ⟨p, q, hA, hV, rfl, hfz, hnd⟩ := hW
  rw [hvars] at hV
  obtain ⟨rfl, rfl⟩ := trodVars_none hV
  refine ⟨ds, [], p ++ [], [], p, [], hW0, ?_, ?_, ?_, hB.frame _, fun h => by cases h⟩
  · rw [hfn, hres]
    exact trodAll_mk1 (shut_bool hb _)
  · rw [hfn]
    exact trodAll_stays hl _ _ _ _ hr hA (fun x hx => hB.same (hlt x (by simp [hx]))) (fun x hx => by simpa using hlt x (by simp [hx]))
  · rw [hfn, hvars]
    rfl
/-- A slice that came in: its length, and each element's cells with the element's own reading. -/
theorem open_elems {t e : TypeId} {W : World} {sp : Nat → Bool} {held : Bool} {v : Value} {d : DataW H} {ps : List MemPlace} (ht : P.underlying t = some (.slice e)) (hpos : 0 < P.cellsOf e) (h : DataW.Trod enc P W 0 sp held t v d ps) (hv : ∃ a len cap, v = .slice a len cap) :
    ∃ (a : Option Addr) (len cap : Nat), v = .slice a len cap ∧ len ≤ cap ∧ cap ≤ maxLen ∧ ∀ i, i < len → ∃ b o cs n y, a = some ⟨b, o, none⟩ ∧ cs.length = P.cellsOf e ∧
      (∀ j, j < P.cellsOf e → W.cell? ⟨b, o + i * P.cellsOf e + j, none⟩ = cs[j]?) ∧ DataW.trod enc P W 0 sp held n e cs = some y := by
  obtain ⟨fuel, hf⟩ := h
  obtain ⟨a0, len0, cap0, rfl⟩ := hv
  rcases Go.Deep.open_slice ht (by simpa [Value.cells] using hf) with ⟨h0, _⟩ | ⟨a, len, cap, m, n, D, Pl, hcs, _, hl, hm, hmm, _, hi⟩
  · simp only [List.cons.injEq, Value.slice.injEq, and_true] at h0
    obtain ⟨rfl, rfl, rfl⟩ := h0
    exact ⟨_, _, _, rfl, Nat.le_refl _, Nat.zero_le _, fun i h => absurd h (Nat.not_lt_zero i)⟩
  · simp only [List.cons.injEq, Value.slice.injEq, and_true] at hcs
    obtain ⟨rfl, rfl, rfl⟩ := hcs
    refine ⟨_, _, _, rfl, hl, hm, fun i hlt => ?_⟩
    have him : i < m := by rw [hmm]; split <;> omega
    obtain ⟨cs', hc, ht'⟩ := hi i him
    obtain ⟨_, hcl, hat⟩ := World.cells?_some hc
    have hsp : a.spot = none := by
      obtain ⟨cs0, hc0, _⟩ := hi 0 (by omega)
      obtain ⟨_, hcl0, hat0⟩ := World.cells?_some hc0
      have h0 := hat0 0 hpos
      have e1 : (a.add (0 * P.cellsOf e)).add 0 = a := by simp [Addr.add]
      rw [e1, List.getElem?_eq_getElem (by omega)] at h0
      cases hs : a.spot with
      | none => rfl
      | some s =>
        exfalso
        unfold World.cell? at h0
        split at h0
        · rw [if_pos (by simp [hs])] at h0; cases h0
        · cases h0
    obtain ⟨b, o, s⟩ := a
    cases hsp
    refine ⟨b, o, cs', n, _, rfl, hcl, fun j hj => ?_, ht'⟩
    have h2 := hat j hj
    have e2 : ((⟨b, o, none⟩ : Addr).add (i * P.cellsOf e)).add j = ⟨b, o + i * P.cellsOf e + j, none⟩ := by simp [Addr.add_lit]
    rw [e2] at h2
    exact h2
/-- A slice that came in: its length, and each element's cells with the element's own reading. -/
theorem open_elemsN {t e : TypeId} {W : World} {sp : Nat → Bool} {held : Bool} {v : Value} {d : DataW H} {ps : List MemPlace} (ht : P.underlying t = some (.slice e)) (hpos : 0 < P.cellsOf e) (h : DataW.Trod enc P W 0 sp held t v d ps) (hv : ∃ a len cap, v = .slice a len cap) :
    ∃ (a : Option Addr) (len cap : Nat), v = .slice a len cap ∧ len ≤ cap ∧ cap ≤ maxLen ∧ (a = none → cap = 0) ∧ ∀ i, i < len → ∃ b o cs n y, a = some ⟨b, o, none⟩ ∧ cs.length = P.cellsOf e ∧
      (∀ j, j < P.cellsOf e → W.cell? ⟨b, o + i * P.cellsOf e + j, none⟩ = cs[j]?) ∧ DataW.trod enc P W 0 sp held n e cs = some y := by
  obtain ⟨fuel, hf⟩ := h
  obtain ⟨a0, len0, cap0, rfl⟩ := hv
  rcases Go.Deep.open_slice ht (by simpa [Value.cells] using hf) with ⟨h0, _⟩ | ⟨a, len, cap, m, n, D, Pl, hcs, _, hl, hm, hmm, _, hi⟩
  · simp only [List.cons.injEq, Value.slice.injEq, and_true] at h0
    obtain ⟨rfl, rfl, rfl⟩ := h0
    exact ⟨_, _, _, rfl, Nat.le_refl _, Nat.zero_le _, fun _ => rfl, fun i h => absurd h (Nat.not_lt_zero i)⟩
  · simp only [List.cons.injEq, Value.slice.injEq, and_true] at hcs
    obtain ⟨rfl, rfl, rfl⟩ := hcs
    refine ⟨_, _, _, rfl, hl, hm, (fun h => by cases h), fun i hlt => ?_⟩
    have him : i < m := by rw [hmm]; split <;> omega
    obtain ⟨cs', hc, ht'⟩ := hi i him
    obtain ⟨_, hcl, hat⟩ := World.cells?_some hc
    have hsp : a.spot = none := by
      obtain ⟨cs0, hc0, _⟩ := hi 0 (by omega)
      obtain ⟨_, hcl0, hat0⟩ := World.cells?_some hc0
      have h0 := hat0 0 hpos
      have e1 : (a.add (0 * P.cellsOf e)).add 0 = a := by simp [Addr.add]
      rw [e1, List.getElem?_eq_getElem (by omega)] at h0
      cases hs : a.spot with
      | none => rfl
      | some s =>
        exfalso
        unfold World.cell? at h0
        split at h0
        · rw [if_pos (by simp [hs])] at h0; cases h0
        · cases h0
    obtain ⟨b, o, s⟩ := a
    cases hsp
    refine ⟨b, o, cs', n, _, rfl, hcl, fun j hj => ?_, ht'⟩
    have h2 := hat j hj
    have e2 : ((⟨b, o, none⟩ : Addr).add (i * P.cellsOf e)).add j = ⟨b, o + i * P.cellsOf e + j, none⟩ := by simp [Addr.add_lit]
    rw [e2] at h2
    exact h2
theorem list_of {α : Type} (Q : Nat → α → Prop) (n : Nat) (h : ∀ i, i < n → ∃ x, Q i x) : ∃ l : List α, l.length = n ∧ ∀ k x, l[k]? = some x → Q k x := by
  induction n with
  | zero => exact ⟨[], rfl, fun k x hk => by simp at hk⟩
  | succ n ih =>
    obtain ⟨l, hl, hq⟩ := ih (fun i hi => h i (by omega))
    obtain ⟨x, hx⟩ := h n (by omega)
    refine ⟨l ++ [x], by simp [hl], fun k y hk => ?_⟩
    rw [List.getElem?_append] at hk
    split at hk
    · exact hq k y hk
    · rename_i hlt
      obtain ⟨hk1, hk2⟩ := List.getElem?_eq_some_iff.1 hk
      have : k = n := by simp at hk1; omega
      subst this
      simp at hk2
      rw [← hk2]; exact hx
/-- A slice of ints that came in. -/
structure IntsAt (w : World) (v : Value) (l : List Int) : Prop where
  len : ∃ a cap, v = .slice a l.length cap
  at_ : ∀ k x, l[k]? = some x → -9223372036854775808 ≤ x ∧ x ≤ 9223372036854775807 ∧ ∃ b o cap, v = .slice (some ⟨b, o, none⟩) l.length cap ∧ b < w.heap.size ∧ w.cell? ⟨b, o + k, none⟩ = some (.int .i64 x)
theorem open_intsAt {t e : TypeId} {W : World} {sp : Nat → Bool} {held : Bool} {v : Value} {d : DataW H} {ps : List MemPlace} (ht : P.underlying t = some (.slice e)) (he : P.underlying e = some (.int .i64)) (hC : P.cellsOf e = 1)
    (h : DataW.Trod enc P W 0 sp held t v d ps) (hv : ∃ a len cap, v = .slice a len cap) : ∃ l, IntsAt W v l := by
  obtain ⟨a, len, cap, rfl, hl, hm, hi⟩ := open_elems ht (by rw [hC]; omega) h hv
  rw [hC] at hi
  obtain ⟨l, hll, hq⟩ := list_of (fun i (x : Int) => -9223372036854775808 ≤ x ∧ x ≤ 9223372036854775807 ∧ ∃ b o, a = some ⟨b, o, none⟩ ∧ W.cell? ⟨b, o + i, none⟩ = some (.int .i64 x)) len (fun i hlt => by
    obtain ⟨b, o, cs, n, y, ha, hcl, hcell, ht'⟩ := hi i hlt
    obtain ⟨q, e1, _, e3⟩ := DataW.trod_int he ht'
    have h0 := hcell 0 (by omega)
    rw [e1] at h0
    have hb := bounds_i64 e3
    exact ⟨q, hb.1, hb.2, b, o, ha, by simpa using h0⟩)
  subst hll
  refine ⟨l, ⟨a, cap, rfl⟩, fun k x hk => ?_⟩
  obtain ⟨b1, b2, b, o, rfl, c0⟩ := hq k x hk
  exact ⟨b1, b2, b, o, cap, rfl, World.block_lt_of_cell? W _ c0, c0⟩
theorem IntsAt.keeps {w w' : World} {v : Value} {l : List Int} (h : IntsAt w v l) (k : Keeps Nob w w') : IntsAt w' v l :=
  ⟨h.len, fun i x hi => by
    obtain ⟨b1, b2, b, o, cap, e, hb, hc⟩ := h.at_ i x hi
    exact ⟨b1, b2, b, o, cap, e, Nat.lt_of_lt_of_le hb k.size, (k.cell hb (fun x => x)).trans hc⟩⟩
theorem u8_nat {a : Int} (h : (Lit.int .u8 a).wf = true) : ∃ c : UInt8, a = (c.toNat : Int) := by
  have h1 : 0 ≤ a ∧ a < 256 := by
    simp [Lit.wf, IntKind.min, IntKind.max, IntKind.bits, IntKind.signed] at h
    omega
  exact ⟨UInt8.ofNat a.toNat, by simp; omega⟩
/-- A slice of bytes that came in. -/
theorem open_bytesAt {t e : TypeId} {W : World} {sp : Nat → Bool} {held : Bool} {v : Value} {d : DataW H} {ps : List MemPlace} (ht : P.underlying t = some (.slice e)) (he : P.underlying e = some (.int .u8)) (hC : P.cellsOf e = 1)
    (h : DataW.Trod enc P W 0 sp held t v d ps) (hv : ∃ a len cap, v = .slice a len cap) : ∃ l, BytesAt W v l := by
  obtain ⟨a, len, cap, rfl, hl, hm, hn, hi⟩ := open_elemsN ht (by rw [hC]; omega) h hv
  rw [hC] at hi
  obtain ⟨l, hll, hq⟩ := list_of (fun i (x : UInt8) => ∃ b o, a = some ⟨b, o, none⟩ ∧ W.cell? ⟨b, o + i, none⟩ = some (.int .u8 (x.toNat : Int))) len (fun i hlt => by
    obtain ⟨b, o, cs, n, y, ha, hcl, hcell, ht'⟩ := hi i hlt
    obtain ⟨q, e1, _, e3⟩ := DataW.trod_int he ht'
    obtain ⟨c, rfl⟩ := u8_nat e3
    have h0 := hcell 0 (by omega)
    rw [e1] at h0
    exact ⟨c, b, o, ha, by simpa using h0⟩)
  subst hll
  refine ⟨l, ⟨a, cap, rfl, hl, hm, hn⟩, fun k x hk => ?_⟩
  obtain ⟨b, o, rfl, c0⟩ := hq k x hk
  exact ⟨b, o, cap, rfl, World.block_lt_of_cell? W _ c0, c0⟩
end Go.Own
namespace Go.Proofs.YtpflmldmbpnllaaDoor
set_option maxRecDepth 100000
set_option maxHeartbeats 4000000
open Go Go.RowKit Go.Own Go.Shelf
def i64b (x : Int) : Prop := -9223372036854775808 ≤ x ∧ x ≤ 9223372036854775807
theorem IntsAt.keepsN {w w' : World} {v : Value} {l : List Int} (h : IntsAt w v l) (k : Keeps Nob w w') : IntsAt w' v l :=
  ⟨h.len, fun j x hj => by
    obtain ⟨h1, h2, b, o, cap, h3, h4, h5⟩ := h.at_ j x hj
    exact ⟨h1, h2, b, o, cap, h3, Nat.lt_of_lt_of_le h4 k.size, (k.cell h4 (fun x => x)).trans h5⟩⟩
/-- The laws' copy: eleven cells, some of them from the numbers that came in. -/
theorem copy_eleven {w : World} {v : Value} {l : List Int} {g : Nat} (h : IntsAt w v l) (hg : w.heap[g]? = some (.cells (I [0, 0, 0, 0, 0, 0, 0, 0, 0, 0, 0]).toArray 3 (0, 0))) :
    ∃ (w' : World) (c : Value) (x0 x1 x2 x3 x4 x5 x6 x7 x8 x9 x10 : Int), (∀ (o : Oper) (ρ : Operand → Value) (x y : Operand), o.op = .call { callee := .builtin .copy, args := #[x, y], argTypes := #[55, 55] } → ρ x = .slice (some ⟨g, 0, none⟩) 11 11 → ρ y = v → (execOp ρ o).run Tryd.prog w = .ok (.value c) w') ∧
      (i64b x0 ∧ i64b x1 ∧ i64b x2 ∧ i64b x3 ∧ i64b x4 ∧ i64b x5 ∧ i64b x6 ∧ i64b x7 ∧ i64b x8 ∧ i64b x9 ∧ i64b x10) ∧ w'.heap[g]? = some (.cells (I [x0, x1, x2, x3, x4, x5, x6, x7, x8, x9, x10]).toArray 3 (0, 0)) ∧ Keeps (One g) w w' := by
  obtain ⟨a, cap, hv⟩ := h.len
  have hu : Tryd.prog.underlying 55 = some (.slice 3) := Tryd.underlying55
  have hs : (Tryd.prog.info? 3).map (·.size) = some 1 := by kernel_rfl
  have hz : i64b 0 := by unfold i64b; omega
  by_cases hl : l = []
  · refine ⟨w, goInt 0, 0, 0, 0, 0, 0, 0, 0, 0, 0, 0, 0, fun o ρ x y ho hx hy => ?_, ⟨hz, hz, hz, hz, hz, hz, hz, hz, hz, hz, hz⟩, hg, Keeps.refl _ _⟩
    have := run_copy_none (P := Tryd.prog) w 55 55 o.type 3 (some ⟨g, 0, none⟩) a 11 11 l.length cap hu hs (by rw [hl]; decide)
    unfold execOp
    simp only [ho, hx, hy, hv, resolve, invoke, builtin, Sem.run_bind, Sem.run_pure, Result.andThen_ok, List.map_toArray, List.map_cons, List.map_nil, this]
  · obtain ⟨x0, hx0⟩ : ∃ x, l[0]? = some x := ⟨l[0]'(List.length_pos_iff.2 hl), List.getElem?_eq_getElem _⟩
    obtain ⟨_, _, b, o, cap', hv', hb, _⟩ := h.at_ 0 x0 hx0
    have hsrc : ∀ (j : Nat) (u : Value), (I (l.take 11))[j]? = some u → w.cell? ((⟨b, o, none⟩ : Addr).add j) = some u := fun j u hj => by
      unfold I at hj
      rw [List.getElem?_map] at hj
      obtain ⟨y, hy, rfl⟩ := Option.map_eq_some_iff.1 hj
      have hy2 : l[j]? = some y := by
        rw [List.getElem?_take] at hy
        split at hy
        · exact hy
        · cases hy
      obtain ⟨_, _, b', o', cap2, hv2, _, h5⟩ := h.at_ j y hy2
      rw [hv'] at hv2
      simp only [Value.slice.injEq, Option.some.injEq, Addr.mk.injEq, and_true, true_and] at hv2
      obtain ⟨⟨rfl, rfl⟩, rfl⟩ := hv2
      rw [Addr.add_lit]; exact h5
    have hlen : (I (l.take 11)).length = Nat.min l.length 11 := by simp [I, Nat.min_comm]
    obtain ⟨ys, hys, hyl⟩ : ∃ ys : List Int, (I [0, 0, 0, 0, 0, 0, 0, 0, 0, 0, 0]).take 0 ++ I (l.take 11) ++ (I [0, 0, 0, 0, 0, 0, 0, 0, 0, 0, 0]).drop (0 + (I (l.take 11)).length) = I ys ∧ ys = l.take 11 ++ (List.replicate 11 0).drop (l.take 11).length := by
      refine ⟨_, ?_, rfl⟩
      rw [show ([0, 0, 0, 0, 0, 0, 0, 0, 0, 0, 0] : List Int) = List.replicate 11 0 from rfl]
      simp only [I, List.take_zero, List.nil_append, List.map_append, List.map_drop, List.length_map, Nat.zero_add]
    have hlt : (l.take 11).length ≤ 11 := by rw [List.length_take]; omega
    have hy11 : ys.length = 11 := by rw [hyl, List.length_append, List.length_drop, List.length_replicate]; omega
    have hyb : ∀ y ∈ ys, i64b y := fun y hy => by
      rw [hyl] at hy
      rcases List.mem_append.1 hy with h1 | h1
      · obtain ⟨j, hj⟩ := List.getElem?_of_mem (List.mem_of_mem_take h1)
        obtain ⟨q1, q2, _⟩ := h.at_ j y hj
        exact ⟨q1, q2⟩
      · have := List.eq_of_mem_replicate (List.mem_of_mem_drop h1); rw [this]; exact hz
    have he := eleven hy11
    have hb2 : ∀ i, i < 11 → i64b (ys[i]?.getD 0) := fun i hi => by rw [List.getElem?_eq_getElem (by omega)]; exact hyb _ (List.getElem_mem _)
    refine ⟨w.setRow g (I ys).toArray, goInt ((I (l.take 11)).length : Nat), _, _, _, _, _, _, _, _, _, _, _, fun o2 ρ x y ho hx hy => ?_, ⟨hb2 0 (by omega), hb2 1 (by omega), hb2 2 (by omega), hb2 3 (by omega), hb2 4 (by omega), hb2 5 (by omega), hb2 6 (by omega), hb2 7 (by omega), hb2 8 (by omega), hb2 9 (by omega), hb2 10 (by omega)⟩, by rw [← he]; exact setRow_heap _ _ _ _ _ _ hg, Keeps.setRow (M := One g) (Keeps.refl _ _) (fun _ => rfl) _⟩
    have := run_copy_row (P := Tryd.prog) w 55 55 o2.type 3 g 0 11 11 ⟨b, o, none⟩ l.length cap' _ 3 (I (l.take 11)) hu hs hg hlen hsrc (by rw [hlen]; exact Nat.le_trans (by rw [Nat.zero_add]; exact Nat.min_le_right _ _) (Nat.le_refl 11)) (I_one _)
    unfold execOp
    simp only [ho, hx, hy, hv', resolve, invoke, builtin, Sem.run_bind, Sem.run_pure, Result.andThen_ok, List.map_toArray, List.map_cons, List.map_nil, this]
    rw [hys]
theorem pick_lt (x : Int) (n : Nat) (w : World) (hx : i64b x) (h0 : 0 < n) (hn : n ≤ 9223372036854775807) : Calls Tryd.prog 35 #[.int .i64 x, .int .i64 (n : Int)] w fun e w' => ∃ t : Nat, t < n ∧ e = .returned (.int .i64 ((t : Nat) : Int)) ∧ w = w' :=
  (pick_ok x (n : Int) w ⟨by have := hx.1; omega, by have := hx.2; omega⟩ (by omega)).mono fun e w' ⟨h1, h2⟩ => by
    rw [if_neg (by omega)] at h1
    have h3 := Int.emod_nonneg x (show (n : Int) ≠ 0 by omega)
    have h4 := Int.emod_lt_of_pos x (show (0 : Int) < (n : Int) by omega)
    exact ⟨(x % (n : Int)).toNat, by omega, by rw [h1, Int.toNat_of_nonneg h3], h2⟩
theorem pick_to (x : Int) (n : Nat) (m : Int) (w : World) (hx : i64b x) (hm : m = (n : Int)) (h0 : 0 < n) (hn : n ≤ 9223372036854775807) : Calls Tryd.prog 35 #[.int .i64 x, .int .i64 m] w fun e w' => ∃ t : Nat, t < n ∧ e = .returned (.int .i64 ((t : Nat) : Int)) ∧ w = w' := hm ▸ pick_lt x n w hx h0 hn
theorem fit_of (y0 y1 y2 y3 y4 y5 y6 y7 y8 y9 y10 : Int) (hy0 : 1 ≤ y0 ∧ y0 ≤ 1048576) (hy1 : 0 ≤ y1 ∧ y1 ≤ 1048576) (hy2 : 1 ≤ y2 ∧ y2 ≤ 1000) (hy3 : 1 ≤ y3 ∧ y3 ≤ 256) (hy4 : 1 ≤ y4 ∧ y4 ≤ 16) (hy5 : 1 ≤ y5 ∧ y5 ≤ 32) (hy6 : 1 ≤ y6 ∧ y6 ≤ 1048576) (hy7 : 0 ≤ y7 ∧ y7 ≤ 1000000000) (hy8 : 0 ≤ y8 ∧ y8 ≤ 1000) (hy9 : 1 ≤ y9 ∧ y9 ≤ 1048576) (hy10 : 0 ≤ y10 ∧ y10 ≤ 1000000000) (ho : y1 ≤ y0) : (parOf y0 y1 y2 y3 y4 y5 y6 y7 y8 y9 y10).fit := by
  refine ⟨fun j u hj => ?_, fun x => absurd (show y0 < y1 from x) (by omega)⟩
  have hl : j < 11 := (List.getElem?_eq_some_iff.1 hj).1
  rw [Nat.zero_add]
  have h : j = 0 ∨ j = 1 ∨ j = 2 ∨ j = 3 ∨ j = 4 ∨ j = 5 ∨ j = 6 ∨ j = 7 ∨ j = 8 ∨ j = 9 ∨ j = 10 := by omega
  rcases h with rfl | rfl | rfl | rfl | rfl | rfl | rfl | rfl | rfl | rfl | rfl <;> (cases hj; assumption)
theorem Par.fit_in {p : Par} (h : p.fit) (i : Nat) (hi : i < 11) : parLo[i]?.getD 0 ≤ p.l[i]?.getD 0 ∧ p.l[i]?.getD 0 ≤ parHi[i]?.getD 0 := by
  have := h.1 i (p.l[i]?.getD 0) (by rw [List.getElem?_eq_getElem (show i < p.l.length from hi)]; rfl)
  rw [Nat.zero_add] at this; exact this
theorem Par.fit_ok {p : Par} (h : p.fit) : p.Ok := by
  have h0 := Par.fit_in h
  have q0 := h0 0 (by omega); have q1 := h0 1 (by omega); have q2 := h0 2 (by omega); have q3 := h0 3 (by omega); have q4 := h0 4 (by omega); have q5 := h0 5 (by omega); have q6 := h0 6 (by omega); have q7 := h0 7 (by omega); have q8 := h0 8 (by omega); have q9 := h0 9 (by omega); have q10 := h0 10 (by omega)
  simp [Par.l, parLo, parHi] at q0 q1 q2 q3 q4 q5 q6 q7 q8 q9 q10
  constructor <;> (simp only [i64ok, u64ok]; omega)
noncomputable def qc70_0 (n : Nat) : Code := partOf Tryd.f34 n
theorem near_ok (v : Value) (l : List Int) (w : World) (hx : IntsAt w v l) :
    Calls Tryd.prog 34 #[v] w (fun e w' => ∃ q : Par, e = .returned (.agg q.cells) ∧ q.fit ∧ Keeps Nob w w') := by
  obtain ⟨i0, hi0, hz0, hz1, hz2⟩ := info_parts int_info0
  have K0 : Keeps Nob w w := Keeps.refl _ _
  refine sy_enter (qc70_0 1) ⟨#[v, ud, ud, ud, ud, ud, ud, ud, ud, ud, ud, ud, ud, ud, ud, ud, ud, ud, ud, ud, ud, ud, ud, ud, ud, ud, ud, ud, ud, ud, ud, ud, ud, ud, ud, ud, ud, ud, ud, ud, ud, ud, ud, ud, ud, ud, ud, ud, ud, ud, ud, ud, ud, ud, ud, ud, ud, ud, ud, ud, ud, ud, ud, ud, ud], []⟩ Tryd.func34 (by kernel_rfl) (by kernel_rfl) <| qr_ [0] <| pal 24 (#[.int .i64 0, .int .i64 0, .int .i64 0, .int .i64 0, .int .i64 0, .int .i64 0, .int .i64 0, .int .u64 0, .int .u64 0, .int .i64 0, .int .u64 0]) (.agg (#[.int .i64 0, .int .i64 0, .int .i64 0, .int .i64 0, .int .i64 0, .int .i64 0, .int .i64 0, .int .u64 0, .int .u64 0, .int .i64 0, .int .u64 0])) fun V1 gr egr h2 kV1 => ?_
  have n3 : w.heap.size ≤ gr := egr ▸ K0.size
  have h4 : IntsAt V1 v l := IntsAt.keepsN hx kV1
  have K5 := K0.nn kV1
  have z6 := kV1.size
  refine eqr_ [0, 1] ?_
  obtain ⟨V7, eV7, s, es, h8, kV7⟩ := alloc_step V1 (madeCells (Value.int .i64 0).cells (11 * i0.size)) 3
  have h9 : V7.heap[s]? = some (.cells ((I [0, 0, 0, 0, 0, 0, 0, 0, 0, 0, 0]).toArray) 3 (0, 0)) := h8.trans (by rw [hz1]; exact congrArg (fun c => some (Obj.cells c 3 (0, 0))) ints_made)
  refine prq (.slice (some ⟨s, 0, none⟩) 11 11) (w' := V7) (by rw [← eV7, ← es]; exact exec_makeSlice 55 (.const (.int .i64 11)) (.const (.int .i64 11)) (by kernel_rfl) 3 i0 (.int .i64 0) Tryd.underlying55 hi0 hz0 11 (by kernel_rfl) (by kernel_rfl) (by rw [hz2]; omega) (by omega)) ?_
  clear eV7
  have ns : w.heap.size ≤ s := es ▸ K5.size
  have ngs : gr < s := es ▸ lt_of_block h2
  have h10 : IntsAt V7 v l := IntsAt.keepsN h4 kV7
  have h11 := kV7.bk h2
  have K12 := K5.nn kV7
  have z13 := kV7.size
  refine pkq (.slice (some ⟨s, 0, none⟩) 11 11) <| eqr_ [0, 1, 2] <| pkq (.slice (some ⟨s, 0, none⟩) 11 11) <| pkq (v) ?_
  obtain ⟨V14, cv, x0, x1, x2, x3, x4, x5, x6, x7, x8, x9, x10, hrun, ⟨bx0, bx1, bx2, bx3, bx4, bx5, bx6, bx7, bx8, bx9, bx10⟩, h15, kV14⟩ := copy_eleven h10 h9
  refine prq cv (w' := V14) (by exact hrun _ _ (.tmp 6) (.tmp 7) (by kernel_rfl) (by kernel_rfl) (by kernel_rfl)) ?_
  have h16 := kV14.bO h11
  have K17 := K12.nO kV14
  have z18 := kV14.size
  refine eqr_ [0, 1, 2, 3, 4, 5] <| pkq (.slice (some ⟨s, 0, none⟩) 11 11) <| ppq (pT s 0) (exec_cast (v := pT s (0 + 0 * 1)) (by simp) (exec_indexAt_slice 55 (.tmp 9) (.const (.int .i64 0)) (by kernel_rfl) s 0 11 11 (by kernel_rfl) .i64 0 (by kernel_rfl) _ 1 Tryd.underlying55 (by kernel_rfl) (by omega))) <| ppq (.int .i64 x0) (ldc 3 s 0 (rc (h15) (rfl))) ?_
  refine pcq 35 #[.int .i64 x0, .int .i64 1048576] Tryd.func35 ((pick_to x0 1048576 1048576 _ bx0 (by rfl) (by omega) (by omega)).mono ?_)
  rintro e w1 ⟨t0, ht0, rfl, rfl⟩
  obtain ⟨u0, hu0⟩ : ∃ u : Nat, 1 + t0 = u := ⟨_, rfl⟩
  obtain ⟨v0, hv0⟩ : ∃ v : Nat, u0 + 1 = v := ⟨_, rfl⟩
  refine ⟨_, rfl, ?_⟩
  refine ppq (iN u0) (exec_cast (congrArg (Value.int .i64) ((wrapN (1 + t0) (by omega)).trans (congrArg (fun n : Nat => (n : Int)) hu0))) (by kernel_rfl)) <| pkq (iN u0) <| eq_ <| sy_np <| sy_reg <| an_begin 4 52 (opsAt (qc70_0 62)) (fun W => (W.heap[s]? = some (.cells ((I [x0, x1, x2, x3, x4, x5, x6, x7, x8, x9, x10]).toArray) 3 (0, 0)))) #[false, false, false, false, false, false, false, false, false, false, false, false, false, false, false, false, false, false, false, false, false, false, false, false, false, false, false, false, false, false, false, false, false, false, false, false, false, false, false, false, false, false, false, false, false, false, false, false, false, false, false, false] (by kernel_rfl) (by kernel_rfl) (by kernel_rfl) (by kernel_rfl) ?_
  obtain ⟨V19, eV19, kV19⟩ := drew_step V14
  rw [eV19]
  clear eV19
  have h20 := kV19.bk h16
  have h21 := kV19.bk h15
  have K22 := K17.nn kV19
  have z23 := kV19.size
  refine akq 0 (iN u0) h21 <| akq 1 (.slice (some ⟨s, 0, none⟩) 11 11) h21 <| avq 2 (pT s 1) (fun W hS => exec_cast (v := pT s (0 + 1 * 1)) (by simp) (exec_indexAt_slice 55 (.tmp 15) (.const (.int .i64 1)) (by kernel_rfl) s 0 11 11 (by kernel_rfl) .i64 1 (by kernel_rfl) _ 1 Tryd.underlying55 (by kernel_rfl) (by omega))) h21 <| avq 3 (.int .i64 x1) (fun W hS => ldc 3 s 1 (rc (hS) (rfl))) h21 <| akq 4 (iN u0) h21 <| avq 5 (iN v0) (fun W hS => exec_cast (congrArg (Value.int .i64) ((wrapN (u0 + 1) (by omega)).trans (congrArg (fun n : Nat => (n : Int)) hv0))) (by kernel_rfl)) h21 <| akq 7 (.slice (some ⟨s, 0, none⟩) 11 11) h21 <| avq 8 (pT s 2) (fun W hS => exec_cast (v := pT s (0 + 2 * 1)) (by simp) (exec_indexAt_slice 55 (.tmp 21) (.const (.int .i64 2)) (by kernel_rfl) s 0 11 11 (by kernel_rfl) .i64 2 (by kernel_rfl) _ 1 Tryd.underlying55 (by kernel_rfl) (by omega))) h21 <| avq 9 (.int .i64 x2) (fun W hS => ldc 3 s 2 (rc (hS) (rfl))) h21 <| akq 12 (.slice (some ⟨s, 0, none⟩) 11 11) h21 <| avq 13 (pT s 3) (fun W hS => exec_cast (v := pT s (0 + 3 * 1)) (by simp) (exec_indexAt_slice 55 (.tmp 26) (.const (.int .i64 3)) (by kernel_rfl) s 0 11 11 (by kernel_rfl) .i64 3 (by kernel_rfl) _ 1 Tryd.underlying55 (by kernel_rfl) (by omega))) h21 <| avq 14 (.int .i64 x3) (fun W hS => ldc 3 s 3 (rc (hS) (rfl))) h21 <| akq 17 (.slice (some ⟨s, 0, none⟩) 11 11) h21 <| avq 18 (pT s 4) (fun W hS => exec_cast (v := pT s (0 + 4 * 1)) (by simp) (exec_indexAt_slice 55 (.tmp 31) (.const (.int .i64 4)) (by kernel_rfl) s 0 11 11 (by kernel_rfl) .i64 4 (by kernel_rfl) _ 1 Tryd.underlying55 (by kernel_rfl) (by omega))) h21 ?_
  refine avq 19 (.int .i64 x4) (fun W hS => ldc 3 s 4 (rc (hS) (rfl))) h21 <| akq 22 (.slice (some ⟨s, 0, none⟩) 11 11) h21 <| avq 23 (pT s 5) (fun W hS => exec_cast (v := pT s (0 + 5 * 1)) (by simp) (exec_indexAt_slice 55 (.tmp 36) (.const (.int .i64 5)) (by kernel_rfl) s 0 11 11 (by kernel_rfl) .i64 5 (by kernel_rfl) _ 1 Tryd.underlying55 (by kernel_rfl) (by omega))) h21 <| avq 24 (.int .i64 x5) (fun W hS => ldc 3 s 5 (rc (hS) (rfl))) h21 <| akq 27 (.slice (some ⟨s, 0, none⟩) 11 11) h21 <| avq 28 (pT s 6) (fun W hS => exec_cast (v := pT s (0 + 6 * 1)) (by simp) (exec_indexAt_slice 55 (.tmp 41) (.const (.int .i64 6)) (by kernel_rfl) s 0 11 11 (by kernel_rfl) .i64 6 (by kernel_rfl) _ 1 Tryd.underlying55 (by kernel_rfl) (by omega))) h21 <| avq 29 (.int .i64 x6) (fun W hS => ldc 3 s 6 (rc (hS) (rfl))) h21 <| akq 32 (.slice (some ⟨s, 0, none⟩) 11 11) h21 <| avq 33 (pT s 7) (fun W hS => exec_cast (v := pT s (0 + 7 * 1)) (by simp) (exec_indexAt_slice 55 (.tmp 46) (.const (.int .i64 7)) (by kernel_rfl) s 0 11 11 (by kernel_rfl) .i64 7 (by kernel_rfl) _ 1 Tryd.underlying55 (by kernel_rfl) (by omega))) h21 <| avq 34 (.int .i64 x7) (fun W hS => ldc 3 s 7 (rc (hS) (rfl))) h21 <| akq 36 (.slice (some ⟨s, 0, none⟩) 11 11) h21 <| avq 37 (pT s 8) (fun W hS => exec_cast (v := pT s (0 + 8 * 1)) (by simp) (exec_indexAt_slice 55 (.tmp 50) (.const (.int .i64 8)) (by kernel_rfl) s 0 11 11 (by kernel_rfl) .i64 8 (by kernel_rfl) _ 1 Tryd.underlying55 (by kernel_rfl) (by omega))) h21 <| avq 38 (.int .i64 x8) (fun W hS => ldc 3 s 8 (rc (hS) (rfl))) h21 <| akq 40 (.slice (some ⟨s, 0, none⟩) 11 11) h21 ?_
  refine avq 41 (pT s 9) (fun W hS => exec_cast (v := pT s (0 + 9 * 1)) (by simp) (exec_indexAt_slice 55 (.tmp 54) (.const (.int .i64 9)) (by kernel_rfl) s 0 11 11 (by kernel_rfl) .i64 9 (by kernel_rfl) _ 1 Tryd.underlying55 (by kernel_rfl) (by omega))) h21 <| avq 42 (.int .i64 x9) (fun W hS => ldc 3 s 9 (rc (hS) (rfl))) h21 <| akq 45 (.slice (some ⟨s, 0, none⟩) 11 11) h21 <| avq 46 (pT s 10) (fun W hS => exec_cast (v := pT s (0 + 10 * 1)) (by simp) (exec_indexAt_slice 55 (.tmp 59) (.const (.int .i64 10)) (by kernel_rfl) s 0 11 11 (by kernel_rfl) .i64 10 (by kernel_rfl) _ 1 Tryd.underlying55 (by kernel_rfl) (by omega))) h21 <| avq 47 (.int .i64 x10) (fun W hS => ldc 3 s 10 (rc (hS) (rfl))) h21 <| an_o 6 ?_
  refine ncq 35 #[.int .i64 x1, iN v0] Tryd.func35 ((pick_to x1 v0 ((v0 : Nat) : Int) _ bx1 (by omega) (by omega) (by omega)).mono ?_)
  rintro e w1 ⟨t1, ht1, rfl, rfl⟩
  refine ⟨_, rfl, ?_⟩
  refine ⟨h21, ?_⟩
  refine an_o 10 ?_
  refine ncq 35 #[.int .i64 x2, .int .i64 1000] Tryd.func35 ((pick_to x2 1000 1000 _ bx2 (by rfl) (by omega) (by omega)).mono ?_)
  rintro e w1 ⟨t2, ht2, rfl, rfl⟩
  obtain ⟨u2, hu2⟩ : ∃ u : Nat, 1 + t2 = u := ⟨_, rfl⟩
  refine ⟨_, rfl, ?_⟩
  refine ⟨h21, ?_⟩
  refine avq 11 (iN u2) (fun W hS => exec_cast (congrArg (Value.int .i64) ((wrapN (1 + t2) (by omega)).trans (congrArg (fun n : Nat => (n : Int)) hu2))) (by kernel_rfl)) h21 <| an_o 15 ?_
  refine ncq 35 #[.int .i64 x3, .int .i64 256] Tryd.func35 ((pick_to x3 256 256 _ bx3 (by rfl) (by omega) (by omega)).mono ?_)
  rintro e w1 ⟨t3, ht3, rfl, rfl⟩
  obtain ⟨u3, hu3⟩ : ∃ u : Nat, 1 + t3 = u := ⟨_, rfl⟩
  refine ⟨_, rfl, ?_⟩
  refine ⟨h21, ?_⟩
  refine avq 16 (iN u3) (fun W hS => exec_cast (congrArg (Value.int .i64) ((wrapN (1 + t3) (by omega)).trans (congrArg (fun n : Nat => (n : Int)) hu3))) (by kernel_rfl)) h21 <| an_o 20 ?_
  refine ncq 35 #[.int .i64 x4, .int .i64 16] Tryd.func35 ((pick_to x4 16 16 _ bx4 (by rfl) (by omega) (by omega)).mono ?_)
  rintro e w1 ⟨t4, ht4, rfl, rfl⟩
  obtain ⟨u4, hu4⟩ : ∃ u : Nat, 1 + t4 = u := ⟨_, rfl⟩
  refine ⟨_, rfl, ?_⟩
  refine ⟨h21, ?_⟩
  refine avq 21 (iN u4) (fun W hS => exec_cast (congrArg (Value.int .i64) ((wrapN (1 + t4) (by omega)).trans (congrArg (fun n : Nat => (n : Int)) hu4))) (by kernel_rfl)) h21 <| an_o 25 ?_
  refine ncq 35 #[.int .i64 x5, .int .i64 32] Tryd.func35 ((pick_to x5 32 32 _ bx5 (by rfl) (by omega) (by omega)).mono ?_)
  rintro e w1 ⟨t5, ht5, rfl, rfl⟩
  obtain ⟨u5, hu5⟩ : ∃ u : Nat, 1 + t5 = u := ⟨_, rfl⟩
  refine ⟨_, rfl, ?_⟩
  refine ⟨h21, ?_⟩
  refine avq 26 (iN u5) (fun W hS => exec_cast (congrArg (Value.int .i64) ((wrapN (1 + t5) (by omega)).trans (congrArg (fun n : Nat => (n : Int)) hu5))) (by kernel_rfl)) h21 <| an_o 30 ?_
  refine ncq 35 #[.int .i64 x6, .int .i64 1048576] Tryd.func35 ((pick_to x6 1048576 1048576 _ bx6 (by rfl) (by omega) (by omega)).mono ?_)
  rintro e w1 ⟨t6, ht6, rfl, rfl⟩
  obtain ⟨u6, hu6⟩ : ∃ u : Nat, 1 + t6 = u := ⟨_, rfl⟩
  refine ⟨_, rfl, ?_⟩
  refine ⟨h21, ?_⟩
  refine avq 31 (iN u6) (fun W hS => exec_cast (congrArg (Value.int .i64) ((wrapN (1 + t6) (by omega)).trans (congrArg (fun n : Nat => (n : Int)) hu6))) (by kernel_rfl)) h21 <| an_o 35 ?_
  refine ncq 35 #[.int .i64 x7, .int .i64 1000000001] Tryd.func35 ((pick_to x7 1000000001 1000000001 _ bx7 (by rfl) (by omega) (by omega)).mono ?_)
  rintro e w1 ⟨t7, ht7, rfl, rfl⟩
  refine ⟨_, rfl, ?_⟩
  refine ⟨h21, ?_⟩
  refine an_o 39 ?_
  refine ncq 35 #[.int .i64 x8, .int .i64 1001] Tryd.func35 ((pick_to x8 1001 1001 _ bx8 (by rfl) (by omega) (by omega)).mono ?_)
  rintro e w1 ⟨t8, ht8, rfl, rfl⟩
  refine ⟨_, rfl, ?_⟩
  refine ⟨h21, ?_⟩
  refine an_o 43 ?_
  refine ncq 35 #[.int .i64 x9, .int .i64 1048576] Tryd.func35 ((pick_to x9 1048576 1048576 _ bx9 (by rfl) (by omega) (by omega)).mono ?_)
  rintro e w1 ⟨t9, ht9, rfl, rfl⟩
  obtain ⟨u9, hu9⟩ : ∃ u : Nat, 1 + t9 = u := ⟨_, rfl⟩
  refine ⟨_, rfl, ?_⟩
  refine ⟨h21, ?_⟩
  refine avq 44 (iN u9) (fun W hS => exec_cast (congrArg (Value.int .i64) ((wrapN (1 + t9) (by omega)).trans (congrArg (fun n : Nat => (n : Int)) hu9))) (by kernel_rfl)) h21 <| an_o 48 ?_
  refine ncq 35 #[.int .i64 x10, .int .i64 1000000001] Tryd.func35 ((pick_to x10 1000000001 1000000001 _ bx10 (by rfl) (by omega) (by omega)).mono ?_)
  rintro e w1 ⟨t10, ht10, rfl, rfl⟩
  refine ⟨_, rfl, ?_⟩
  refine ⟨h21, ?_⟩
  refine an_o 49 ?_
  obtain ⟨V24, eV24, gl, egl, h25, kV24⟩ := alloc_step V19 (#[.int .i64 ((u0 : Nat) : Int), .int .i64 ((t1 : Nat) : Int), .int .i64 ((u2 : Nat) : Int), .int .i64 ((u3 : Nat) : Int), .int .i64 ((u4 : Nat) : Int), .int .i64 ((u5 : Nat) : Int), .int .i64 ((u6 : Nat) : Int), .int .i64 ((t7 : Nat) : Int), .int .i64 ((t8 : Nat) : Int), .int .i64 ((u9 : Nat) : Int), .int .i64 ((t10 : Nat) : Int)]) 3
  have n26 : gr < gl := egl ▸ lt_of_block h20
  have n27 : s < gl := egl ▸ lt_of_block h21
  have n28 : w.heap.size ≤ gl := egl ▸ K22.size
  refine nrq (.slice (some ⟨gl, 0, none⟩) 11 11) (w' := V24) (by rw [← eV24, ← egl]; kernel_rfl) ?_
  have h29 := kV24.bk h20
  have h30 := kV24.bk h21
  have K31 := K22.nn kV24
  have z32 := kV24.size
  refine ⟨h30, ?_⟩
  refine an_o 50 ?_
  obtain ⟨q, hq⟩ : ∃ q, parOf ((u0 : Nat) : Int) ((t1 : Nat) : Int) ((u2 : Nat) : Int) ((u3 : Nat) : Int) ((u4 : Nat) : Int) ((u5 : Nat) : Int) ((u6 : Nat) : Int) ((t7 : Nat) : Int) ((t8 : Nat) : Int) ((u9 : Nat) : Int) ((t10 : Nat) : Int) = q := ⟨_, rfl⟩
  have hfit : q.fit := hq ▸ fit_of ((u0 : Nat) : Int) ((t1 : Nat) : Int) ((u2 : Nat) : Int) ((u3 : Nat) : Int) ((u4 : Nat) : Int) ((u5 : Nat) : Int) ((u6 : Nat) : Int) ((t7 : Nat) : Int) ((t8 : Nat) : Int) ((u9 : Nat) : Int) ((t10 : Nat) : Int) (by omega) (by omega) (by omega) (by omega) (by omega) (by omega) (by omega) (by omega) (by omega) (by omega) (by omega) (by omega)
  refine ncq 41 #[.slice (some ⟨gl, 0, none⟩) 11 11] Tryd.func41 ((hq ▸ kRecord_ok gl ((u0 : Nat) : Int) ((t1 : Nat) : Int) ((u2 : Nat) : Int) ((u3 : Nat) : Int) ((u4 : Nat) : Int) ((u5 : Nat) : Int) ((u6 : Nat) : Int) ((t7 : Nat) : Int) ((t8 : Nat) : Int) ((u9 : Nat) : Int) ((t10 : Nat) : Int) _ h25 (by omega) (by omega) (by omega)).mono ?_)
  rintro e V33 ⟨rfl, kV33⟩
  refine ⟨_, rfl, ?_⟩
  have h34 := kV33.bk h29
  have h35 := kV33.bk h30
  have K37 := K31.nn kV33
  have z38 := kV33.size
  refine ⟨h35, ?_⟩
  refine an_o 51 <| nst 24 gr q.cells h34 (by kernel_rfl) rfl (by kernel_rfl) fun V39 h40 kV39 => ?_
  have h41 := kV39.bO h35
  have K43 := K37.nO kV39
  have z44 := kV39.size
  refine ⟨h41, ?_⟩
  refine an_end (by kernel_rfl) <| sy_a ⟨#[v, ud, pT gr 0, .slice (some ⟨s, 0, none⟩) 11 11, iN u0, .slice (some ⟨s, 0, none⟩) 11 11, .slice (some ⟨s, 0, none⟩) 11 11, v, cv, .slice (some ⟨s, 0, none⟩) 11 11, pT s 0, .int .i64 x0, iN t0, iN u0, iN u0, .slice (some ⟨s, 0, none⟩) 11 11, pT s 1, .int .i64 x1, iN u0, iN v0, iN t1, .slice (some ⟨s, 0, none⟩) 11 11, pT s 2, .int .i64 x2, iN t2, iN u2, .slice (some ⟨s, 0, none⟩) 11 11, pT s 3, .int .i64 x3, iN t3, iN u3, .slice (some ⟨s, 0, none⟩) 11 11, pT s 4, .int .i64 x4, iN t4, iN u4, .slice (some ⟨s, 0, none⟩) 11 11, pT s 5, .int .i64 x5, iN t5, iN u5, .slice (some ⟨s, 0, none⟩) 11 11, pT s 6, .int .i64 x6, iN t6, iN u6, .slice (some ⟨s, 0, none⟩) 11 11, pT s 7, .int .i64 x7, iN t7, .slice (some ⟨s, 0, none⟩) 11 11, pT s 8, .int .i64 x8, iN t8, .slice (some ⟨s, 0, none⟩) 11 11, pT s 9, .int .i64 x9, iN t9, iN u9, .slice (some ⟨s, 0, none⟩) 11 11, pT s 10, .int .i64 x10, iN t10, .slice (some ⟨gl, 0, none⟩) 11 11, .agg q.cells], []⟩ <| then_n <| u_ <| sy_out (.agg q.cells) rfl (results_cell_row (p := 2) (ty := 24) (by kernel_rfl) _ _ gr 24 q.cells (0, 0) _ (by kernel_rfl) h40 Tryd.underlying24 rfl (by kernel_rfl)) ?_
  exact ⟨q, rfl, hfit, K43⟩
end Go.Proofs.YtpflmldmbpnllaaDoor
namespace Go.Proofs.YtpflmldmbpnllaaDoor
set_option maxRecDepth 100000
set_option maxHeartbeats 4000000
open Go Go.RowKit Go.Own Go.Shelf
theorem text_is {p : Par} {tp : List UInt8} (w : World) (h : p.fit) (htp : ptI p 11 = tp) (htab : PowTab w) : Calls Tryd.prog 21 #[.agg p.cells] w (fun e w' => e = .returned (.tuple #[.string ⟨tp.toArray⟩, .int .i64 0]) ∧ Keeps Nob w w') := by
  have := pText_ok p w (Par.fit_ok h) (by rw [Par.fit_check h]) htab
  rw [show ptx p = ⟨tp.toArray⟩ by unfold ptx; rw [htp]] at this; exact this
theorem bytes_is {p : Par} {bp : List UInt8} (w : World) (h : p.fit) (hbp : pby p = bp) : Calls Tryd.prog 23 #[.agg p.cells] w fun e w' => ∃ X, e = .returned (.tuple #[X, .int .i64 0]) ∧ BytesAt w' X bp ∧ (∀ j, X.ownBlock = some j → j < w'.heap.size) ∧ Keeps Nob w w' := by
  refine (pBytes_all p w (Par.fit_ok h)).mono fun e w' ⟨X, h1, h2, _, h4⟩ => ?_
  have ht : ptold p = (bp, 0) := by unfold ptold; rw [Par.fit_check h, if_pos rfl, hbp]
  rw [ht] at h1 h2
  exact ⟨X, h1, Row.bytes h2, fun j hj => Row.lt h2 hj, h4⟩
theorem ptI_len {p : Par} (h : p.fit) : (ptI p 11).length ≤ 100000000 := by
  have h1 := (Par.check_0 (p := p) (by rw [Par.fit_check h])).1
  have := ptI_le h1 11 (Nat.le_refl _)
  omega
theorem pby_len (p : Par) : (pby p).length ≤ 100000000 := by
  have := pbI_le p 11 (Nat.le_refl _)
  rw [pbI_all] at this; omega
noncomputable def qc71_0 (n : Nat) : Code := partOf Tryd.f6 n
theorem back_text (v0 : Value) (l0 : List Int) (s : List UInt8) (v : Value) (l : List UInt8) (w : World) (hx0 : IntsAt w v0 l0) (hx : BytesAt w v l) (hs : 400 < s.length) (htab : PowTab w) :
    Calls Tryd.prog 6 #[v0, .string ⟨s.toArray⟩, v] w (fun e w' => e = .returned (.bool true) ∧ Keeps Nob w w') := by
  have K0 : Keeps Nob w w := Keeps.refl _ _
  refine sy_enter (qc71_0 1) ⟨#[v0, .string ⟨s.toArray⟩, v, ud, ud, ud, ud, ud, ud, ud, ud, ud, ud, ud, ud, ud, ud, ud, ud, ud, ud, ud, ud, ud, ud, ud, ud, ud, ud, ud, ud, ud, ud, ud, ud, ud, ud, ud, ud, ud, ud, ud, ud, ud, ud, ud, ud, ud, ud, ud, ud, ud, ud, ud, ud, ud, ud, ud, ud, ud, ud, ud, ud, ud, ud, ud, ud, ud, ud, ud, ud, ud, ud, ud, ud, ud, ud, ud, ud, ud, ud, ud, ud, ud, ud, ud, ud, ud, ud, ud, ud, ud, ud, ud, ud, ud, ud, ud, ud, ud, ud, ud, ud, ud, ud, ud, ud, ud, ud, ud, ud, ud, ud, ud, ud, ud, ud, ud, ud, ud, ud, ud, ud, ud, ud, ud], []⟩ Tryd.func6 (by kernel_rfl) (by kernel_rfl) <| qr_ [0] <| pkq (.bool false) <| eqr_ [0, 1] ?_
  refine pcq 5 #[] Tryd.func5 ((known_ok _ (PowTab.keeps htab K0)).mono ?_)
  rintro e V1 ⟨rfl, kV1⟩
  refine ⟨_, rfl, ?_⟩
  have K3 := K0.nn kV1
  have z4 := kV1.size
  refine pkq (.bool true) <| eq_ <| qr_ [0, 1, 2, 3, 4, 5, 6, 7] <| pkq (.string ⟨s.toArray⟩) <| ppq (iN s.length) (exec_cast (congrArg (Value.int .i64) (by simp [ByteArray.size])) (exec_len_str (.tmp 22) 9 (by kernel_rfl) Tryd.underlying9 ⟨s.toArray⟩ (by kernel_rfl))) <| ppq (.bool true) (dct ((((s.length : Nat) : Int)) > ((400) : Int)) (by omega)) <| pkq (.bool true) <| pnq <| pnq <| pnq <| pkq (.bool true) <| ey_ <| qr_ [0, 1] <| pkq (.bool true) ?_
  refine pkq (.bool true) <| eu_ <| then_r <| so_ (.bool true) ?_
  exact ⟨rfl, K3⟩
theorem back_bytes (v0 : Value) (l0 : List Int) (s : List UInt8) (v : Value) (l : List UInt8) (w : World) (hx0 : IntsAt w v0 l0) (hx : BytesAt w v l) (hs : ¬ 400 < s.length) (hb : 100 < l.length) (htab : PowTab w) :
    Calls Tryd.prog 6 #[v0, .string ⟨s.toArray⟩, v] w (fun e w' => e = .returned (.bool true) ∧ Keeps Nob w w') := by
  have K0 : Keeps Nob w w := Keeps.refl _ _
  refine sy_enter (qc71_0 1) ⟨#[v0, .string ⟨s.toArray⟩, v, ud, ud, ud, ud, ud, ud, ud, ud, ud, ud, ud, ud, ud, ud, ud, ud, ud, ud, ud, ud, ud, ud, ud, ud, ud, ud, ud, ud, ud, ud, ud, ud, ud, ud, ud, ud, ud, ud, ud, ud, ud, ud, ud, ud, ud, ud, ud, ud, ud, ud, ud, ud, ud, ud, ud, ud, ud, ud, ud, ud, ud, ud, ud, ud, ud, ud, ud, ud, ud, ud, ud, ud, ud, ud, ud, ud, ud, ud, ud, ud, ud, ud, ud, ud, ud, ud, ud, ud, ud, ud, ud, ud, ud, ud, ud, ud, ud, ud, ud, ud, ud, ud, ud, ud, ud, ud, ud, ud, ud, ud, ud, ud, ud, ud, ud, ud, ud, ud, ud, ud, ud, ud, ud], []⟩ Tryd.func6 (by kernel_rfl) (by kernel_rfl) <| qr_ [0] <| pkq (.bool false) <| eqr_ [0, 1] ?_
  refine pcq 5 #[] Tryd.func5 ((known_ok _ (PowTab.keeps htab K0)).mono ?_)
  rintro e V1 ⟨rfl, kV1⟩
  refine ⟨_, rfl, ?_⟩
  have K3 := K0.nn kV1
  have z4 := kV1.size
  refine pkq (.bool true) <| eq_ <| qr_ [0, 1, 2, 3, 4, 5, 6, 7] <| pkq (.string ⟨s.toArray⟩) <| ppq (iN s.length) (exec_cast (congrArg (Value.int .i64) (by simp [ByteArray.size])) (exec_len_str (.tmp 22) 9 (by kernel_rfl) Tryd.underlying9 ⟨s.toArray⟩ (by kernel_rfl))) <| ppq (.bool false) (dcf ((((s.length : Nat) : Int)) > ((400) : Int)) (by omega)) <| pkq (.bool false) <| pkq (v) <| ppq (iN l.length) (plen_bytes (.tmp 26) 39 5 (by kernel_rfl) Tryd.underlying39 (by kernel_rfl) hx) <| ppq (.bool true) (dct ((((l.length : Nat) : Int)) > ((100) : Int)) (by omega)) <| pkq (.bool true) <| ey_ <| qr_ [0, 1] <| pkq (.bool true) ?_
  refine pkq (.bool true) <| eu_ <| then_r <| so_ (.bool true) ?_
  exact ⟨rfl, K3⟩
theorem back_00 (v0 : Value) (l0 : List Int) (s : List UInt8) (v : Value) (l : List UInt8) (w : World) (hx0 : IntsAt w v0 l0) (hx : BytesAt w v l) (hs : ¬ 400 < s.length) (hb : ¬ 100 < l.length) (hpe : ¬ (pparse s).2.1 = 0) (hre : ¬ (pbread l).2.1 = 0) (htab : PowTab w) :
    Calls Tryd.prog 6 #[v0, .string ⟨s.toArray⟩, v] w (fun e w' => e = .returned (.bool true) ∧ Keeps Nob w w') := by
  have hsl : s.length ≤ 100000000 := by omega
  obtain ⟨pp, hpp⟩ : ∃ x, pparse s = x := ⟨_, rfl⟩
  obtain ⟨rd, hrd⟩ : ∃ x, pbread l = x := ⟨_, rfl⟩
  rw [hpp] at hpe
  rw [hrd] at hre
  have K0 : Keeps Nob w w := Keeps.refl _ _
  refine sy_enter (qc71_0 1) ⟨#[v0, .string ⟨s.toArray⟩, v, ud, ud, ud, ud, ud, ud, ud, ud, ud, ud, ud, ud, ud, ud, ud, ud, ud, ud, ud, ud, ud, ud, ud, ud, ud, ud, ud, ud, ud, ud, ud, ud, ud, ud, ud, ud, ud, ud, ud, ud, ud, ud, ud, ud, ud, ud, ud, ud, ud, ud, ud, ud, ud, ud, ud, ud, ud, ud, ud, ud, ud, ud, ud, ud, ud, ud, ud, ud, ud, ud, ud, ud, ud, ud, ud, ud, ud, ud, ud, ud, ud, ud, ud, ud, ud, ud, ud, ud, ud, ud, ud, ud, ud, ud, ud, ud, ud, ud, ud, ud, ud, ud, ud, ud, ud, ud, ud, ud, ud, ud, ud, ud, ud, ud, ud, ud, ud, ud, ud, ud, ud, ud, ud], []⟩ Tryd.func6 (by kernel_rfl) (by kernel_rfl) <| qr_ [0] <| pkq (.bool false) <| eqr_ [0, 1] ?_
  refine pcq 5 #[] Tryd.func5 ((known_ok _ (PowTab.keeps htab K0)).mono ?_)
  rintro e V1 ⟨rfl, kV1⟩
  refine ⟨_, rfl, ?_⟩
  have h2 : IntsAt V1 v0 l0 := IntsAt.keepsN hx0 kV1
  have K3 := K0.nn kV1
  have z4 := kV1.size
  refine pkq (.bool true) <| eq_ <| qr_ [0, 1, 2, 3, 4, 5, 6, 7] <| pkq (.string ⟨s.toArray⟩) <| ppq (iN s.length) (exec_cast (congrArg (Value.int .i64) (by simp [ByteArray.size])) (exec_len_str (.tmp 22) 9 (by kernel_rfl) Tryd.underlying9 ⟨s.toArray⟩ (by kernel_rfl))) <| ppq (.bool false) (dcf ((((s.length : Nat) : Int)) > ((400) : Int)) (by omega)) <| pkq (.bool false) <| pkq (v) <| ppq (iN l.length) (plen_bytes (.tmp 26) 39 5 (by kernel_rfl) Tryd.underlying39 (by kernel_rfl) hx) <| ppq (.bool false) (dcf ((((l.length : Nat) : Int)) > ((100) : Int)) (by omega)) <| pkq (.bool false) <| en_ <| s_ <| tqr_ [0, 1, 2, 3] ?_
  refine pkq (v0) ?_
  refine pcq 34 #[v0] Tryd.func34 ((near_ok v0 l0 _ h2).mono ?_)
  rintro e V5 ⟨p, rfl, hfit, kV5⟩
  obtain ⟨tp, htp⟩ : ∃ x, ptI p 11 = x := ⟨_, rfl⟩
  obtain ⟨bp, hbp⟩ : ∃ x, pby p = x := ⟨_, rfl⟩
  have htl : tp.length ≤ 100000000 := htp ▸ ptI_len hfit
  have hbl : bp.length ≤ 100000000 := hbp ▸ pby_len p
  have hpt : pparse tp = (p, 0, 0) := htp ▸ parse_text hfit
  have hpb : pbread bp = (p, 0, 0) := hbp ▸ read_bytes hfit
  refine ⟨_, rfl, ?_⟩
  have K6 := K3.nn kV5
  have z7 := kV5.size
  refine pal 24 (#[.int .i64 0, .int .i64 0, .int .i64 0, .int .i64 0, .int .i64 0, .int .i64 0, .int .i64 0, .int .u64 0, .int .u64 0, .int .i64 0, .int .u64 0]) (.agg (#[.int .i64 0, .int .i64 0, .int .i64 0, .int .i64 0, .int .i64 0, .int .i64 0, .int .i64 0, .int .u64 0, .int .u64 0, .int .i64 0, .int .u64 0])) fun V8 gp egp h9 kV8 => ?_
  have n10 : w.heap.size ≤ gp := egp ▸ K6.size
  have K11 := K6.nn kV8
  have z12 := kV8.size
  refine pst 24 gp p.cells h9 (by kernel_rfl) rfl (by kernel_rfl) fun V13 h14 kV13 => ?_
  have K15 := K11.nO kV13
  have z16 := kV13.size
  refine eqr_ [0, 1, 2, 3, 4, 5, 6] <| ppq (.agg (p.cells)) (ldr 24 gp (h14) (by kernel_rfl)) ?_
  refine pcq 21 #[.agg (p.cells)] Tryd.func21 ((text_is _ hfit htp (PowTab.keeps htab K15)).mono ?_)
  rintro e V17 ⟨rfl, kV17⟩
  refine ⟨_, rfl, ?_⟩
  have h18 := kV17.bk h14
  have K19 := K15.nn kV17
  have z20 := kV17.size
  refine pkq (.tuple #[.string ⟨tp.toArray⟩, .int .i64 0]) <| pkq (.string ⟨tp.toArray⟩) <| pkq (.int .i64 0) <| pkq (.string ⟨tp.toArray⟩) <| pkq (.int .i64 0) <| eqr_ [0, 1, 2, 3, 4, 5, 6] <| ppq (.agg (p.cells)) (ldr 24 gp (h18) (by kernel_rfl)) ?_
  refine pcq 23 #[.agg (p.cells)] Tryd.func23 ((bytes_is _ hfit hbp).mono ?_)
  rintro e V21 ⟨X, rfl, hX, hltX, kV21⟩
  refine ⟨_, rfl, ?_⟩
  have h22 := kV21.bk h18
  have K23 := K19.nn kV21
  have z24 := kV21.size
  refine pkq (.tuple #[X, .int .i64 0]) <| pkq (X) <| pkq (.int .i64 0) <| pkq (X) <| pkq (.int .i64 0) <| ps_end <| sy_a ⟨#[v0, .string ⟨s.toArray⟩, v, ud, ud, ud, .bool false, .bool true, pT gp 0, .string ⟨tp.toArray⟩, .int .i64 0, X, .int .i64 0, ud, ud, ud, ud, ud, ud, ud, ud, .bool true, .string ⟨s.toArray⟩, iN s.length, .bool false, .bool false, v, iN l.length, .bool false, .bool false, ud, v0, .agg p.cells, .tuple #[.string ⟨tp.toArray⟩, .int .i64 0], .agg (p.cells), .tuple #[.string ⟨tp.toArray⟩, .int .i64 0], .string ⟨tp.toArray⟩, .int .i64 0, .tuple #[X, .int .i64 0], .agg (p.cells), .tuple #[X, .int .i64 0], X, .int .i64 0, ud, ud, ud, ud, ud, ud, ud, ud, ud, ud, ud, ud, ud, ud, ud, ud, ud, ud, ud, ud, ud, ud, ud, ud, ud, ud, ud, ud, ud, ud, ud, ud, ud, ud, ud, ud, ud, ud, ud, ud, ud, ud, ud, ud, ud, ud, ud, ud, ud, ud, ud, ud, ud, ud, ud, ud, ud, ud, ud, ud, ud, ud, ud, ud, ud, ud, ud, ud, ud, ud, ud, ud, ud, ud, ud, ud, ud, ud, ud, ud, ud, ud, ud], []⟩ <| tqr_ [0, 1, 2, 3, 4, 5, 6, 7, 8] <| pkq (.string ⟨tp.toArray⟩) ?_
  refine pcq 26 #[.string ⟨tp.toArray⟩] Tryd.func26 ((pParse_is tp p 0 0 _ htl (by rw [hpt]) (by rw [hpt])).mono ?_)
  rintro e V25 ⟨rfl, kV25⟩
  refine ⟨_, rfl, ?_⟩
  have h26 := kV25.bk h22
  have h27 : BytesAt V25 X bp := hX.keepsN kV25
  have K28 := K23.nn kV25
  have z29 := kV25.size
  refine pkq (.tuple #[.agg p.cells, .agg #[.int .i64 0, .int .i64 0]]) <| pkq (.agg p.cells) <| pkq (.agg #[.int .i64 0, .int .i64 0]) <| pal 24 (#[.int .i64 0, .int .i64 0, .int .i64 0, .int .i64 0, .int .i64 0, .int .i64 0, .int .i64 0, .int .u64 0, .int .u64 0, .int .i64 0, .int .u64 0]) (.agg (#[.int .i64 0, .int .i64 0, .int .i64 0, .int .i64 0, .int .i64 0, .int .i64 0, .int .i64 0, .int .u64 0, .int .u64 0, .int .i64 0, .int .u64 0])) fun V30 q1 eq1 h31 kV30 => ?_
  have n32 : gp < q1 := eq1 ▸ lt_of_block h26
  have n33 : w.heap.size ≤ q1 := eq1 ▸ K28.size
  have h34 := kV30.bk h26
  have h35 : BytesAt V30 X bp := h27.keepsN kV30
  have K36 := K28.nn kV30
  have z37 := kV30.size
  refine pal 46 (#[.int .i64 0, .int .i64 0]) (.agg (#[.int .i64 0, .int .i64 0])) fun V38 q2 eq2 h39 kV38 => ?_
  have n40 : gp < q2 := eq2 ▸ lt_of_block h34
  have n41 : q1 < q2 := eq2 ▸ lt_of_block h31
  have n42 : w.heap.size ≤ q2 := eq2 ▸ K36.size
  have h43 := kV38.bk h34
  have h44 : BytesAt V38 X bp := h35.keepsN kV38
  have h45 := kV38.bk h31
  have K46 := K36.nn kV38
  have z47 := kV38.size
  refine pst 24 q1 p.cells h45 (by kernel_rfl) rfl (by kernel_rfl) fun V48 h49 kV48 => ?_
  have h50 := kV48.bO h43
  have h51 : BytesAt V48 X bp := h44.keeps kV48 (fun j hj e => by have := hltX j hj; unfold Own.One at e; omega)
  have h52 := kV48.bO h39
  have K53 := K46.nO kV48
  have z54 := kV48.size
  refine pst 46 q2 (#[.int .i64 0, .int .i64 0]) h52 (by kernel_rfl) rfl (by kernel_rfl) fun V55 h56 kV55 => ?_
  have h57 := kV55.bO h50
  have h58 : BytesAt V55 X bp := h51.keeps kV55 (fun j hj e => by have := hltX j hj; unfold Own.One at e; omega)
  have h59 := kV55.bO h49
  have K60 := K53.nO kV55
  have z61 := kV55.size
  refine eqr_ [0, 1, 2, 3, 4, 5, 6, 7, 8] <| pkq (X) ?_
  refine pcq 29 #[X] Tryd.func29 ((pRead_is X bp p 0 0 _ h58 hbl (by rw [hpb]) (by rw [hpb])).mono ?_)
  rintro e V62 ⟨rfl, kV62⟩
  refine ⟨_, rfl, ?_⟩
  have h63 := kV62.bk h57
  have h64 := kV62.bk h59
  have h65 := kV62.bk h56
  have K66 := K60.nn kV62
  have z67 := kV62.size
  refine pkq (.tuple #[.agg p.cells, .agg #[.int .i64 0, .int .i64 0]]) <| pkq (.agg p.cells) <| pkq (.agg #[.int .i64 0, .int .i64 0]) <| pal 24 (#[.int .i64 0, .int .i64 0, .int .i64 0, .int .i64 0, .int .i64 0, .int .i64 0, .int .i64 0, .int .u64 0, .int .u64 0, .int .i64 0, .int .u64 0]) (.agg (#[.int .i64 0, .int .i64 0, .int .i64 0, .int .i64 0, .int .i64 0, .int .i64 0, .int .i64 0, .int .u64 0, .int .u64 0, .int .i64 0, .int .u64 0])) fun V68 q3 eq3 h69 kV68 => ?_
  have n70 : gp < q3 := eq3 ▸ lt_of_block h63
  have n71 : q1 < q3 := eq3 ▸ lt_of_block h64
  have n72 : q2 < q3 := eq3 ▸ lt_of_block h65
  have n73 : w.heap.size ≤ q3 := eq3 ▸ K66.size
  have h74 := kV68.bk h63
  have h75 := kV68.bk h64
  have h76 := kV68.bk h65
  have K77 := K66.nn kV68
  have z78 := kV68.size
  refine pal 46 (#[.int .i64 0, .int .i64 0]) (.agg (#[.int .i64 0, .int .i64 0])) fun V79 q4 eq4 h80 kV79 => ?_
  have n81 : gp < q4 := eq4 ▸ lt_of_block h74
  have n82 : q1 < q4 := eq4 ▸ lt_of_block h75
  have n83 : q2 < q4 := eq4 ▸ lt_of_block h76
  have n84 : q3 < q4 := eq4 ▸ lt_of_block h69
  have n85 : w.heap.size ≤ q4 := eq4 ▸ K77.size
  have h86 := kV79.bk h74
  have h87 := kV79.bk h75
  have h88 := kV79.bk h76
  have h89 := kV79.bk h69
  have K90 := K77.nn kV79
  have z91 := kV79.size
  refine pst 24 q3 p.cells h89 (by kernel_rfl) rfl (by kernel_rfl) fun V92 h93 kV92 => ?_
  have h94 := kV92.bO h86
  have h95 := kV92.bO h87
  have h96 := kV92.bO h88
  have h97 := kV92.bO h80
  have K98 := K90.nO kV92
  have z99 := kV92.size
  refine pst 46 q4 (#[.int .i64 0, .int .i64 0]) h97 (by kernel_rfl) rfl (by kernel_rfl) fun V100 h101 kV100 => ?_
  have h102 := kV100.bO h94
  have h103 := kV100.bO h95
  have h104 := kV100.bO h96
  have h105 := kV100.bO h93
  have K106 := K98.nO kV100
  have z107 := kV100.size
  refine eq_ <| qr_ [0, 1, 2, 3, 4, 5, 6, 7, 8, 9, 10, 11, 12, 13, 14, 15, 16, 17, 18, 19, 20, 21, 22, 23, 24, 25] <| pkq (.int .i64 0) <| pkq (.bool false) <| pkq (.bool false) <| pkq (.int .i64 0) <| pkq (.bool false) <| pkq (.bool false) <| pkq (.bool false) <| ppq (.agg #[.int .i64 0, .int .i64 0]) (ldr 46 q2 (h104) (by kernel_rfl)) <| pkq (.agg #[.int .i64 0, .int .i64 0]) <| ppq (.bool false) (exec_cast (congrArg Value.bool (by simp)) (exec_binop .neq 46 46 (.tmp 60) (.tmp 61) (by kernel_rfl) (.agg #[.int .i64 0, .int .i64 0]) (.agg #[.int .i64 0, .int .i64 0]) _ (by kernel_rfl) (by kernel_rfl) (run_eqGuard_agg _ _ _ _ _ _ _ pfault_guard) (pfault_ne _ _ _ _ _))) <| pkq (.bool false) <| pkq (.bool false) ?_
  refine ppq (.agg #[.int .i64 0, .int .i64 0]) (ldr 46 q4 (h101) (by kernel_rfl)) <| pkq (.agg #[.int .i64 0, .int .i64 0]) <| ppq (.bool false) (exec_cast (congrArg Value.bool (by simp)) (exec_binop .neq 46 46 (.tmp 65) (.tmp 66) (by kernel_rfl) (.agg #[.int .i64 0, .int .i64 0]) (.agg #[.int .i64 0, .int .i64 0]) _ (by kernel_rfl) (by kernel_rfl) (run_eqGuard_agg _ _ _ _ _ _ _ pfault_guard) (pfault_ne _ _ _ _ _))) <| pkq (.bool false) <| pkq (.bool false) <| ppq (.agg (p.cells)) (ldr 24 q1 (h103) (by kernel_rfl)) <| ppq (.agg (p.cells)) (ldr 24 gp (h102) (by kernel_rfl)) <| ppq (.bool false) (exec_cast (congrArg Value.bool (by simp)) (exec_binop .neq 24 24 (.tmp 70) (.tmp 71) (by kernel_rfl) (.agg p.cells) (.agg p.cells) _ (by kernel_rfl) (by kernel_rfl) (run_eqGuard_agg _ _ _ _ _ _ _ par_guard) (par_ne _ _ _))) <| pkq (.bool false) <| pkq (.bool false) <| ppq (.agg (p.cells)) (ldr 24 q3 (h105) (by kernel_rfl)) <| ppq (.agg (p.cells)) (ldr 24 gp (h102) (by kernel_rfl)) <| ppq (.bool false) (exec_cast (congrArg Value.bool (by simp)) (exec_binop .neq 24 24 (.tmp 75) (.tmp 76) (by kernel_rfl) (.agg p.cells) (.agg p.cells) _ (by kernel_rfl) (by kernel_rfl) (run_eqGuard_agg _ _ _ _ _ _ _ par_guard) (par_ne _ _ _))) <| pkq (.bool false) ?_
  refine ps_end <| sy_a ⟨#[v0, .string ⟨s.toArray⟩, v, ud, ud, ud, .bool false, .bool true, pT gp 0, .string ⟨tp.toArray⟩, .int .i64 0, X, .int .i64 0, pT q1 0, pT q2 0, pT q3 0, pT q4 0, ud, ud, ud, ud, .bool true, .string ⟨s.toArray⟩, iN s.length, .bool false, .bool false, v, iN l.length, .bool false, .bool false, ud, v0, .agg p.cells, .tuple #[.string ⟨tp.toArray⟩, .int .i64 0], .agg (p.cells), .tuple #[.string ⟨tp.toArray⟩, .int .i64 0], .string ⟨tp.toArray⟩, .int .i64 0, .tuple #[X, .int .i64 0], .agg (p.cells), .tuple #[X, .int .i64 0], X, .int .i64 0, .tuple #[.agg p.cells, .agg #[.int .i64 0, .int .i64 0]], .string ⟨tp.toArray⟩, .tuple #[.agg p.cells, .agg #[.int .i64 0, .int .i64 0]], .agg p.cells, .agg #[.int .i64 0, .int .i64 0], .tuple #[.agg p.cells, .agg #[.int .i64 0, .int .i64 0]], X, .tuple #[.agg p.cells, .agg #[.int .i64 0, .int .i64 0]], .agg p.cells, .agg #[.int .i64 0, .int .i64 0], .int .i64 0, .bool false, .bool false, .int .i64 0, .bool false, .bool false, .bool false, .agg #[.int .i64 0, .int .i64 0], .agg #[.int .i64 0, .int .i64 0], .bool false, .bool false, .bool false, .agg #[.int .i64 0, .int .i64 0], .agg #[.int .i64 0, .int .i64 0], .bool false, .bool false, .bool false, .agg (p.cells), .agg (p.cells), .bool false, .bool false, .bool false, .agg (p.cells), .agg (p.cells), .bool false, .bool false, ud, ud, ud, ud, ud, ud, ud, ud, ud, ud, ud, ud, ud, ud, ud, ud, ud, ud, ud, ud, ud, ud, ud, ud, ud, ud, ud, ud, ud, ud, ud, ud, ud, ud, ud, ud, ud, ud, ud, ud, ud, ud, ud, ud, ud, ud, ud], []⟩ <| then_n <| n_ <| s_ <| tqr_ [0, 1, 2, 3, 4, 5, 6] <| pkq (.string ⟨s.toArray⟩) ?_
  refine pcq 26 #[.string ⟨s.toArray⟩] Tryd.func26 ((hpp ▸ pParse_ok s _ hsl).mono ?_)
  rintro e V108 ⟨rfl, kV108⟩
  refine ⟨_, rfl, ?_⟩
  have h110 := kV108.bk h103
  have h111 := kV108.bk h104
  have h112 := kV108.bk h105
  have h113 := kV108.bk h101
  have K114 := K106.nn kV108
  have z115 := kV108.size
  refine pkq (.tuple #[.agg pp.1.cells, .agg #[.int .i64 pp.2.1, .int .i64 pp.2.2]]) <| pkq (.agg pp.1.cells) <| pkq (.agg #[.int .i64 pp.2.1, .int .i64 pp.2.2]) ?_
  obtain ⟨V116, eV116, kV116⟩ := rowset_step V108 q1 pp.1.cells
  refine pzq (w' := V116) (by rw [← eV116]; exact exec_store_row 24 (.tmp 13) (.tmp 82) (by kernel_rfl) q1 pp.1.cells (by kernel_rfl) (by kernel_rfl) 24 p.cells h110 (by kernel_rfl) rfl (by kernel_rfl)) ?_
  clear eV116
  have h119 := kV116.bO h111
  have h120 := kV116.bO h112
  have h121 := kV116.bO h113
  have K122 := K114.nO kV116
  have z123 := kV116.size
  refine pst 46 q2 (#[.int .i64 pp.2.1, .int .i64 pp.2.2]) h119 (by kernel_rfl) rfl (by kernel_rfl) fun V124 h125 kV124 => ?_
  have h127 := kV124.bO h120
  have h128 := kV124.bO h121
  have K130 := K122.nO kV124
  have z131 := kV124.size
  refine eq_ <| qr_ [0, 1, 2] <| pkq (pT q2 0) <| ppq (.int .i64 pp.2.1) (ldk 26 q2 0 h125) <| ppq (.bool false) (eqf ((pp.2.1) : Int) ((0) : Int) (by omega)) <| en_ <| s_ <| tqr_ [0, 1, 2, 3, 4, 5, 6] <| pkq (v) ?_
  refine pcq 29 #[v] Tryd.func29 ((hrd ▸ pRead_ok v l _ (hx.keepsN K130) (by omega)).mono ?_)
  rintro e V132 ⟨rfl, kV132⟩
  refine ⟨_, rfl, ?_⟩
  have h134 := kV132.bk h127
  have h135 := kV132.bk h128
  have K138 := K130.nn kV132
  have z139 := kV132.size
  refine pkq (.tuple #[.agg rd.1.cells, .agg #[.int .i64 rd.2.1, .int .i64 rd.2.2]]) <| pkq (.agg rd.1.cells) <| pkq (.agg #[.int .i64 rd.2.1, .int .i64 rd.2.2]) ?_
  obtain ⟨V140, eV140, kV140⟩ := rowset_step V132 q3 rd.1.cells
  refine pzq (w' := V140) (by rw [← eV140]; exact exec_store_row 24 (.tmp 15) (.tmp 105) (by kernel_rfl) q3 rd.1.cells (by kernel_rfl) (by kernel_rfl) 24 p.cells h134 (by kernel_rfl) rfl (by kernel_rfl)) ?_
  clear eV140
  have h143 := kV140.bO h135
  have K146 := K138.nO kV140
  have z147 := kV140.size
  refine pst 46 q4 (#[.int .i64 rd.2.1, .int .i64 rd.2.2]) h143 (by kernel_rfl) rfl (by kernel_rfl) fun V148 h149 kV148 => ?_
  have K154 := K146.nO kV148
  have z155 := kV148.size
  refine eq_ <| qr_ [0, 1, 2] <| pkq (pT q4 0) <| ppq (.int .i64 rd.2.1) (ldk 26 q4 0 h149) <| ppq (.bool false) (eqf ((rd.2.1) : Int) ((0) : Int) (by omega)) <| en_ <| s_ <| tqr_ [0, 1] <| pkq (.bool true) <| pkq (.bool true) <| eu_ <| so_ (.bool true) ?_
  exact ⟨rfl, K154⟩
theorem back_01 (v0 : Value) (l0 : List Int) (s : List UInt8) (v : Value) (l : List UInt8) (w : World) (hx0 : IntsAt w v0 l0) (hx : BytesAt w v l) (hs : ¬ 400 < s.length) (hb : ¬ 100 < l.length) (hpe : ¬ (pparse s).2.1 = 0) (hre : (pbread l).2.1 = 0) (htab : PowTab w) :
    Calls Tryd.prog 6 #[v0, .string ⟨s.toArray⟩, v] w (fun e w' => e = .returned (.bool true) ∧ Keeps Nob w w') := by
  have hsl : s.length ≤ 100000000 := by omega
  obtain ⟨pp, hpp⟩ : ∃ x, pparse s = x := ⟨_, rfl⟩
  obtain ⟨rd, hrd⟩ : ∃ x, pbread l = x := ⟨_, rfl⟩
  rw [hpp] at hpe
  rw [hrd] at hre
  obtain ⟨-, hrf, hrt⟩ := bytes_read (q := rd.1) (e := rd.2.2) (l := l) (by rw [hrd, ← hre])
  have K0 : Keeps Nob w w := Keeps.refl _ _
  refine sy_enter (qc71_0 1) ⟨#[v0, .string ⟨s.toArray⟩, v, ud, ud, ud, ud, ud, ud, ud, ud, ud, ud, ud, ud, ud, ud, ud, ud, ud, ud, ud, ud, ud, ud, ud, ud, ud, ud, ud, ud, ud, ud, ud, ud, ud, ud, ud, ud, ud, ud, ud, ud, ud, ud, ud, ud, ud, ud, ud, ud, ud, ud, ud, ud, ud, ud, ud, ud, ud, ud, ud, ud, ud, ud, ud, ud, ud, ud, ud, ud, ud, ud, ud, ud, ud, ud, ud, ud, ud, ud, ud, ud, ud, ud, ud, ud, ud, ud, ud, ud, ud, ud, ud, ud, ud, ud, ud, ud, ud, ud, ud, ud, ud, ud, ud, ud, ud, ud, ud, ud, ud, ud, ud, ud, ud, ud, ud, ud, ud, ud, ud, ud, ud, ud, ud], []⟩ Tryd.func6 (by kernel_rfl) (by kernel_rfl) <| qr_ [0] <| pkq (.bool false) <| eqr_ [0, 1] ?_
  refine pcq 5 #[] Tryd.func5 ((known_ok _ (PowTab.keeps htab K0)).mono ?_)
  rintro e V1 ⟨rfl, kV1⟩
  refine ⟨_, rfl, ?_⟩
  have h2 : IntsAt V1 v0 l0 := IntsAt.keepsN hx0 kV1
  have K3 := K0.nn kV1
  have z4 := kV1.size
  refine pkq (.bool true) <| eq_ <| qr_ [0, 1, 2, 3, 4, 5, 6, 7] <| pkq (.string ⟨s.toArray⟩) <| ppq (iN s.length) (exec_cast (congrArg (Value.int .i64) (by simp [ByteArray.size])) (exec_len_str (.tmp 22) 9 (by kernel_rfl) Tryd.underlying9 ⟨s.toArray⟩ (by kernel_rfl))) <| ppq (.bool false) (dcf ((((s.length : Nat) : Int)) > ((400) : Int)) (by omega)) <| pkq (.bool false) <| pkq (v) <| ppq (iN l.length) (plen_bytes (.tmp 26) 39 5 (by kernel_rfl) Tryd.underlying39 (by kernel_rfl) hx) <| ppq (.bool false) (dcf ((((l.length : Nat) : Int)) > ((100) : Int)) (by omega)) <| pkq (.bool false) <| en_ <| s_ <| tqr_ [0, 1, 2, 3] ?_
  refine pkq (v0) ?_
  refine pcq 34 #[v0] Tryd.func34 ((near_ok v0 l0 _ h2).mono ?_)
  rintro e V5 ⟨p, rfl, hfit, kV5⟩
  obtain ⟨tp, htp⟩ : ∃ x, ptI p 11 = x := ⟨_, rfl⟩
  obtain ⟨bp, hbp⟩ : ∃ x, pby p = x := ⟨_, rfl⟩
  have htl : tp.length ≤ 100000000 := htp ▸ ptI_len hfit
  have hbl : bp.length ≤ 100000000 := hbp ▸ pby_len p
  have hpt : pparse tp = (p, 0, 0) := htp ▸ parse_text hfit
  have hpb : pbread bp = (p, 0, 0) := hbp ▸ read_bytes hfit
  refine ⟨_, rfl, ?_⟩
  have K6 := K3.nn kV5
  have z7 := kV5.size
  refine pal 24 (#[.int .i64 0, .int .i64 0, .int .i64 0, .int .i64 0, .int .i64 0, .int .i64 0, .int .i64 0, .int .u64 0, .int .u64 0, .int .i64 0, .int .u64 0]) (.agg (#[.int .i64 0, .int .i64 0, .int .i64 0, .int .i64 0, .int .i64 0, .int .i64 0, .int .i64 0, .int .u64 0, .int .u64 0, .int .i64 0, .int .u64 0])) fun V8 gp egp h9 kV8 => ?_
  have n10 : w.heap.size ≤ gp := egp ▸ K6.size
  have K11 := K6.nn kV8
  have z12 := kV8.size
  refine pst 24 gp p.cells h9 (by kernel_rfl) rfl (by kernel_rfl) fun V13 h14 kV13 => ?_
  have K15 := K11.nO kV13
  have z16 := kV13.size
  refine eqr_ [0, 1, 2, 3, 4, 5, 6] <| ppq (.agg (p.cells)) (ldr 24 gp (h14) (by kernel_rfl)) ?_
  refine pcq 21 #[.agg (p.cells)] Tryd.func21 ((text_is _ hfit htp (PowTab.keeps htab K15)).mono ?_)
  rintro e V17 ⟨rfl, kV17⟩
  refine ⟨_, rfl, ?_⟩
  have h18 := kV17.bk h14
  have K19 := K15.nn kV17
  have z20 := kV17.size
  refine pkq (.tuple #[.string ⟨tp.toArray⟩, .int .i64 0]) <| pkq (.string ⟨tp.toArray⟩) <| pkq (.int .i64 0) <| pkq (.string ⟨tp.toArray⟩) <| pkq (.int .i64 0) <| eqr_ [0, 1, 2, 3, 4, 5, 6] <| ppq (.agg (p.cells)) (ldr 24 gp (h18) (by kernel_rfl)) ?_
  refine pcq 23 #[.agg (p.cells)] Tryd.func23 ((bytes_is _ hfit hbp).mono ?_)
  rintro e V21 ⟨X, rfl, hX, hltX, kV21⟩
  refine ⟨_, rfl, ?_⟩
  have h22 := kV21.bk h18
  have K23 := K19.nn kV21
  have z24 := kV21.size
  refine pkq (.tuple #[X, .int .i64 0]) <| pkq (X) <| pkq (.int .i64 0) <| pkq (X) <| pkq (.int .i64 0) <| ps_end <| sy_a ⟨#[v0, .string ⟨s.toArray⟩, v, ud, ud, ud, .bool false, .bool true, pT gp 0, .string ⟨tp.toArray⟩, .int .i64 0, X, .int .i64 0, ud, ud, ud, ud, ud, ud, ud, ud, .bool true, .string ⟨s.toArray⟩, iN s.length, .bool false, .bool false, v, iN l.length, .bool false, .bool false, ud, v0, .agg p.cells, .tuple #[.string ⟨tp.toArray⟩, .int .i64 0], .agg (p.cells), .tuple #[.string ⟨tp.toArray⟩, .int .i64 0], .string ⟨tp.toArray⟩, .int .i64 0, .tuple #[X, .int .i64 0], .agg (p.cells), .tuple #[X, .int .i64 0], X, .int .i64 0, ud, ud, ud, ud, ud, ud, ud, ud, ud, ud, ud, ud, ud, ud, ud, ud, ud, ud, ud, ud, ud, ud, ud, ud, ud, ud, ud, ud, ud, ud, ud, ud, ud, ud, ud, ud, ud, ud, ud, ud, ud, ud, ud, ud, ud, ud, ud, ud, ud, ud, ud, ud, ud, ud, ud, ud, ud, ud, ud, ud, ud, ud, ud, ud, ud, ud, ud, ud, ud, ud, ud, ud, ud, ud, ud, ud, ud, ud, ud, ud, ud, ud, ud], []⟩ <| tqr_ [0, 1, 2, 3, 4, 5, 6, 7, 8] <| pkq (.string ⟨tp.toArray⟩) ?_
  refine pcq 26 #[.string ⟨tp.toArray⟩] Tryd.func26 ((pParse_is tp p 0 0 _ htl (by rw [hpt]) (by rw [hpt])).mono ?_)
  rintro e V25 ⟨rfl, kV25⟩
  refine ⟨_, rfl, ?_⟩
  have h26 := kV25.bk h22
  have h27 : BytesAt V25 X bp := hX.keepsN kV25
  have K28 := K23.nn kV25
  have z29 := kV25.size
  refine pkq (.tuple #[.agg p.cells, .agg #[.int .i64 0, .int .i64 0]]) <| pkq (.agg p.cells) <| pkq (.agg #[.int .i64 0, .int .i64 0]) <| pal 24 (#[.int .i64 0, .int .i64 0, .int .i64 0, .int .i64 0, .int .i64 0, .int .i64 0, .int .i64 0, .int .u64 0, .int .u64 0, .int .i64 0, .int .u64 0]) (.agg (#[.int .i64 0, .int .i64 0, .int .i64 0, .int .i64 0, .int .i64 0, .int .i64 0, .int .i64 0, .int .u64 0, .int .u64 0, .int .i64 0, .int .u64 0])) fun V30 q1 eq1 h31 kV30 => ?_
  have n32 : gp < q1 := eq1 ▸ lt_of_block h26
  have n33 : w.heap.size ≤ q1 := eq1 ▸ K28.size
  have h34 := kV30.bk h26
  have h35 : BytesAt V30 X bp := h27.keepsN kV30
  have K36 := K28.nn kV30
  have z37 := kV30.size
  refine pal 46 (#[.int .i64 0, .int .i64 0]) (.agg (#[.int .i64 0, .int .i64 0])) fun V38 q2 eq2 h39 kV38 => ?_
  have n40 : gp < q2 := eq2 ▸ lt_of_block h34
  have n41 : q1 < q2 := eq2 ▸ lt_of_block h31
  have n42 : w.heap.size ≤ q2 := eq2 ▸ K36.size
  have h43 := kV38.bk h34
  have h44 : BytesAt V38 X bp := h35.keepsN kV38
  have h45 := kV38.bk h31
  have K46 := K36.nn kV38
  have z47 := kV38.size
  refine pst 24 q1 p.cells h45 (by kernel_rfl) rfl (by kernel_rfl) fun V48 h49 kV48 => ?_
  have h50 := kV48.bO h43
  have h51 : BytesAt V48 X bp := h44.keeps kV48 (fun j hj e => by have := hltX j hj; unfold Own.One at e; omega)
  have h52 := kV48.bO h39
  have K53 := K46.nO kV48
  have z54 := kV48.size
  refine pst 46 q2 (#[.int .i64 0, .int .i64 0]) h52 (by kernel_rfl) rfl (by kernel_rfl) fun V55 h56 kV55 => ?_
  have h57 := kV55.bO h50
  have h58 : BytesAt V55 X bp := h51.keeps kV55 (fun j hj e => by have := hltX j hj; unfold Own.One at e; omega)
  have h59 := kV55.bO h49
  have K60 := K53.nO kV55
  have z61 := kV55.size
  refine eqr_ [0, 1, 2, 3, 4, 5, 6, 7, 8] <| pkq (X) ?_
  refine pcq 29 #[X] Tryd.func29 ((pRead_is X bp p 0 0 _ h58 hbl (by rw [hpb]) (by rw [hpb])).mono ?_)
  rintro e V62 ⟨rfl, kV62⟩
  refine ⟨_, rfl, ?_⟩
  have h63 := kV62.bk h57
  have h64 := kV62.bk h59
  have h65 := kV62.bk h56
  have K66 := K60.nn kV62
  have z67 := kV62.size
  refine pkq (.tuple #[.agg p.cells, .agg #[.int .i64 0, .int .i64 0]]) <| pkq (.agg p.cells) <| pkq (.agg #[.int .i64 0, .int .i64 0]) <| pal 24 (#[.int .i64 0, .int .i64 0, .int .i64 0, .int .i64 0, .int .i64 0, .int .i64 0, .int .i64 0, .int .u64 0, .int .u64 0, .int .i64 0, .int .u64 0]) (.agg (#[.int .i64 0, .int .i64 0, .int .i64 0, .int .i64 0, .int .i64 0, .int .i64 0, .int .i64 0, .int .u64 0, .int .u64 0, .int .i64 0, .int .u64 0])) fun V68 q3 eq3 h69 kV68 => ?_
  have n70 : gp < q3 := eq3 ▸ lt_of_block h63
  have n71 : q1 < q3 := eq3 ▸ lt_of_block h64
  have n72 : q2 < q3 := eq3 ▸ lt_of_block h65
  have n73 : w.heap.size ≤ q3 := eq3 ▸ K66.size
  have h74 := kV68.bk h63
  have h75 := kV68.bk h64
  have h76 := kV68.bk h65
  have K77 := K66.nn kV68
  have z78 := kV68.size
  refine pal 46 (#[.int .i64 0, .int .i64 0]) (.agg (#[.int .i64 0, .int .i64 0])) fun V79 q4 eq4 h80 kV79 => ?_
  have n81 : gp < q4 := eq4 ▸ lt_of_block h74
  have n82 : q1 < q4 := eq4 ▸ lt_of_block h75
  have n83 : q2 < q4 := eq4 ▸ lt_of_block h76
  have n84 : q3 < q4 := eq4 ▸ lt_of_block h69
  have n85 : w.heap.size ≤ q4 := eq4 ▸ K77.size
  have h86 := kV79.bk h74
  have h87 := kV79.bk h75
  have h88 := kV79.bk h76
  have h89 := kV79.bk h69
  have K90 := K77.nn kV79
  have z91 := kV79.size
  refine pst 24 q3 p.cells h89 (by kernel_rfl) rfl (by kernel_rfl) fun V92 h93 kV92 => ?_
  have h94 := kV92.bO h86
  have h95 := kV92.bO h87
  have h96 := kV92.bO h88
  have h97 := kV92.bO h80
  have K98 := K90.nO kV92
  have z99 := kV92.size
  refine pst 46 q4 (#[.int .i64 0, .int .i64 0]) h97 (by kernel_rfl) rfl (by kernel_rfl) fun V100 h101 kV100 => ?_
  have h102 := kV100.bO h94
  have h103 := kV100.bO h95
  have h104 := kV100.bO h96
  have h105 := kV100.bO h93
  have K106 := K98.nO kV100
  have z107 := kV100.size
  refine eq_ <| qr_ [0, 1, 2, 3, 4, 5, 6, 7, 8, 9, 10, 11, 12, 13, 14, 15, 16, 17, 18, 19, 20, 21, 22, 23, 24, 25] <| pkq (.int .i64 0) <| pkq (.bool false) <| pkq (.bool false) <| pkq (.int .i64 0) <| pkq (.bool false) <| pkq (.bool false) <| pkq (.bool false) <| ppq (.agg #[.int .i64 0, .int .i64 0]) (ldr 46 q2 (h104) (by kernel_rfl)) <| pkq (.agg #[.int .i64 0, .int .i64 0]) <| ppq (.bool false) (exec_cast (congrArg Value.bool (by simp)) (exec_binop .neq 46 46 (.tmp 60) (.tmp 61) (by kernel_rfl) (.agg #[.int .i64 0, .int .i64 0]) (.agg #[.int .i64 0, .int .i64 0]) _ (by kernel_rfl) (by kernel_rfl) (run_eqGuard_agg _ _ _ _ _ _ _ pfault_guard) (pfault_ne _ _ _ _ _))) <| pkq (.bool false) <| pkq (.bool false) ?_
  refine ppq (.agg #[.int .i64 0, .int .i64 0]) (ldr 46 q4 (h101) (by kernel_rfl)) <| pkq (.agg #[.int .i64 0, .int .i64 0]) <| ppq (.bool false) (exec_cast (congrArg Value.bool (by simp)) (exec_binop .neq 46 46 (.tmp 65) (.tmp 66) (by kernel_rfl) (.agg #[.int .i64 0, .int .i64 0]) (.agg #[.int .i64 0, .int .i64 0]) _ (by kernel_rfl) (by kernel_rfl) (run_eqGuard_agg _ _ _ _ _ _ _ pfault_guard) (pfault_ne _ _ _ _ _))) <| pkq (.bool false) <| pkq (.bool false) <| ppq (.agg (p.cells)) (ldr 24 q1 (h103) (by kernel_rfl)) <| ppq (.agg (p.cells)) (ldr 24 gp (h102) (by kernel_rfl)) <| ppq (.bool false) (exec_cast (congrArg Value.bool (by simp)) (exec_binop .neq 24 24 (.tmp 70) (.tmp 71) (by kernel_rfl) (.agg p.cells) (.agg p.cells) _ (by kernel_rfl) (by kernel_rfl) (run_eqGuard_agg _ _ _ _ _ _ _ par_guard) (par_ne _ _ _))) <| pkq (.bool false) <| pkq (.bool false) <| ppq (.agg (p.cells)) (ldr 24 q3 (h105) (by kernel_rfl)) <| ppq (.agg (p.cells)) (ldr 24 gp (h102) (by kernel_rfl)) <| ppq (.bool false) (exec_cast (congrArg Value.bool (by simp)) (exec_binop .neq 24 24 (.tmp 75) (.tmp 76) (by kernel_rfl) (.agg p.cells) (.agg p.cells) _ (by kernel_rfl) (by kernel_rfl) (run_eqGuard_agg _ _ _ _ _ _ _ par_guard) (par_ne _ _ _))) <| pkq (.bool false) ?_
  refine ps_end <| sy_a ⟨#[v0, .string ⟨s.toArray⟩, v, ud, ud, ud, .bool false, .bool true, pT gp 0, .string ⟨tp.toArray⟩, .int .i64 0, X, .int .i64 0, pT q1 0, pT q2 0, pT q3 0, pT q4 0, ud, ud, ud, ud, .bool true, .string ⟨s.toArray⟩, iN s.length, .bool false, .bool false, v, iN l.length, .bool false, .bool false, ud, v0, .agg p.cells, .tuple #[.string ⟨tp.toArray⟩, .int .i64 0], .agg (p.cells), .tuple #[.string ⟨tp.toArray⟩, .int .i64 0], .string ⟨tp.toArray⟩, .int .i64 0, .tuple #[X, .int .i64 0], .agg (p.cells), .tuple #[X, .int .i64 0], X, .int .i64 0, .tuple #[.agg p.cells, .agg #[.int .i64 0, .int .i64 0]], .string ⟨tp.toArray⟩, .tuple #[.agg p.cells, .agg #[.int .i64 0, .int .i64 0]], .agg p.cells, .agg #[.int .i64 0, .int .i64 0], .tuple #[.agg p.cells, .agg #[.int .i64 0, .int .i64 0]], X, .tuple #[.agg p.cells, .agg #[.int .i64 0, .int .i64 0]], .agg p.cells, .agg #[.int .i64 0, .int .i64 0], .int .i64 0, .bool false, .bool false, .int .i64 0, .bool false, .bool false, .bool false, .agg #[.int .i64 0, .int .i64 0], .agg #[.int .i64 0, .int .i64 0], .bool false, .bool false, .bool false, .agg #[.int .i64 0, .int .i64 0], .agg #[.int .i64 0, .int .i64 0], .bool false, .bool false, .bool false, .agg (p.cells), .agg (p.cells), .bool false, .bool false, .bool false, .agg (p.cells), .agg (p.cells), .bool false, .bool false, ud, ud, ud, ud, ud, ud, ud, ud, ud, ud, ud, ud, ud, ud, ud, ud, ud, ud, ud, ud, ud, ud, ud, ud, ud, ud, ud, ud, ud, ud, ud, ud, ud, ud, ud, ud, ud, ud, ud, ud, ud, ud, ud, ud, ud, ud, ud], []⟩ <| then_n <| n_ <| s_ <| tqr_ [0, 1, 2, 3, 4, 5, 6] <| pkq (.string ⟨s.toArray⟩) ?_
  refine pcq 26 #[.string ⟨s.toArray⟩] Tryd.func26 ((hpp ▸ pParse_ok s _ hsl).mono ?_)
  rintro e V108 ⟨rfl, kV108⟩
  refine ⟨_, rfl, ?_⟩
  have h110 := kV108.bk h103
  have h111 := kV108.bk h104
  have h112 := kV108.bk h105
  have h113 := kV108.bk h101
  have K114 := K106.nn kV108
  have z115 := kV108.size
  refine pkq (.tuple #[.agg pp.1.cells, .agg #[.int .i64 pp.2.1, .int .i64 pp.2.2]]) <| pkq (.agg pp.1.cells) <| pkq (.agg #[.int .i64 pp.2.1, .int .i64 pp.2.2]) ?_
  obtain ⟨V116, eV116, kV116⟩ := rowset_step V108 q1 pp.1.cells
  refine pzq (w' := V116) (by rw [← eV116]; exact exec_store_row 24 (.tmp 13) (.tmp 82) (by kernel_rfl) q1 pp.1.cells (by kernel_rfl) (by kernel_rfl) 24 p.cells h110 (by kernel_rfl) rfl (by kernel_rfl)) ?_
  clear eV116
  have h119 := kV116.bO h111
  have h120 := kV116.bO h112
  have h121 := kV116.bO h113
  have K122 := K114.nO kV116
  have z123 := kV116.size
  refine pst 46 q2 (#[.int .i64 pp.2.1, .int .i64 pp.2.2]) h119 (by kernel_rfl) rfl (by kernel_rfl) fun V124 h125 kV124 => ?_
  have h127 := kV124.bO h120
  have h128 := kV124.bO h121
  have K130 := K122.nO kV124
  have z131 := kV124.size
  refine eq_ <| qr_ [0, 1, 2] <| pkq (pT q2 0) <| ppq (.int .i64 pp.2.1) (ldk 26 q2 0 h125) <| ppq (.bool false) (eqf ((pp.2.1) : Int) ((0) : Int) (by omega)) <| en_ <| s_ <| tqr_ [0, 1, 2, 3, 4, 5, 6] <| pkq (v) ?_
  refine pcq 29 #[v] Tryd.func29 ((hrd ▸ pRead_ok v l _ (hx.keepsN K130) (by omega)).mono ?_)
  rintro e V132 ⟨rfl, kV132⟩
  refine ⟨_, rfl, ?_⟩
  have h134 := kV132.bk h127
  have h135 := kV132.bk h128
  have K138 := K130.nn kV132
  have z139 := kV132.size
  refine pkq (.tuple #[.agg rd.1.cells, .agg #[.int .i64 rd.2.1, .int .i64 rd.2.2]]) <| pkq (.agg rd.1.cells) <| pkq (.agg #[.int .i64 rd.2.1, .int .i64 rd.2.2]) <| pst 24 q3 rd.1.cells h134 (by kernel_rfl) rfl (by kernel_rfl) fun V140 h141 kV140 => ?_
  have h143 := kV140.bO h135
  have K146 := K138.nO kV140
  have z147 := kV140.size
  refine pst 46 q4 (#[.int .i64 rd.2.1, .int .i64 rd.2.2]) h143 (by kernel_rfl) rfl (by kernel_rfl) fun V148 h149 kV148 => ?_
  have h153 := kV148.bO h141
  have K154 := K146.nO kV148
  have z155 := kV148.size
  refine eq_ <| qr_ [0, 1, 2] <| pkq (pT q4 0) <| ppq (.int .i64 rd.2.1) (ldk 26 q4 0 h149) <| ppq (.bool true) (eqt ((rd.2.1) : Int) ((0) : Int) (by omega)) <| ey_ <| qr_ [0, 1, 2, 3, 4, 5, 6] <| ppq (.agg (rd.1.cells)) (ldr 24 q3 (h153) (by kernel_rfl)) ?_
  refine pcq 23 #[.agg (rd.1.cells)] Tryd.func23 ((bytes_is _ hrf hrt).mono ?_)
  rintro e V156 ⟨Y, rfl, hY, hltY, kV156⟩
  refine ⟨_, rfl, ?_⟩
  have K162 := K154.nn kV156
  have z163 := kV156.size
  refine pkq (.tuple #[Y, .int .i64 0]) <| pkq (Y) <| pkq (.int .i64 0) <| pkq (Y) <| pkq (.int .i64 0) <| ps_end <| sy_a ⟨#[v0, .string ⟨s.toArray⟩, v, ud, ud, ud, .bool false, .bool true, pT gp 0, .string ⟨tp.toArray⟩, .int .i64 0, X, .int .i64 0, pT q1 0, pT q2 0, pT q3 0, pT q4 0, ud, ud, Y, .int .i64 0, .bool true, .string ⟨s.toArray⟩, iN s.length, .bool false, .bool false, v, iN l.length, .bool false, .bool false, ud, v0, .agg p.cells, .tuple #[.string ⟨tp.toArray⟩, .int .i64 0], .agg (p.cells), .tuple #[.string ⟨tp.toArray⟩, .int .i64 0], .string ⟨tp.toArray⟩, .int .i64 0, .tuple #[X, .int .i64 0], .agg (p.cells), .tuple #[X, .int .i64 0], X, .int .i64 0, .tuple #[.agg p.cells, .agg #[.int .i64 0, .int .i64 0]], .string ⟨tp.toArray⟩, .tuple #[.agg p.cells, .agg #[.int .i64 0, .int .i64 0]], .agg p.cells, .agg #[.int .i64 0, .int .i64 0], .tuple #[.agg p.cells, .agg #[.int .i64 0, .int .i64 0]], X, .tuple #[.agg p.cells, .agg #[.int .i64 0, .int .i64 0]], .agg p.cells, .agg #[.int .i64 0, .int .i64 0], .int .i64 0, .bool false, .bool false, .int .i64 0, .bool false, .bool false, .bool false, .agg #[.int .i64 0, .int .i64 0], .agg #[.int .i64 0, .int .i64 0], .bool false, .bool false, .bool false, .agg #[.int .i64 0, .int .i64 0], .agg #[.int .i64 0, .int .i64 0], .bool false, .bool false, .bool false, .agg (p.cells), .agg (p.cells), .bool false, .bool false, .bool false, .agg (p.cells), .agg (p.cells), .bool false, .bool false, .tuple #[.agg pp.1.cells, .agg #[.int .i64 pp.2.1, .int .i64 pp.2.2]], .string ⟨s.toArray⟩, .tuple #[.agg pp.1.cells, .agg #[.int .i64 pp.2.1, .int .i64 pp.2.2]], .agg pp.1.cells, .agg #[.int .i64 pp.2.1, .int .i64 pp.2.2], pT q2 0, .int .i64 pp.2.1, .bool false, ud, ud, ud, ud, ud, ud, ud, ud, ud, ud, ud, ud, ud, ud, ud, .tuple #[.agg rd.1.cells, .agg #[.int .i64 rd.2.1, .int .i64 rd.2.2]], v, .tuple #[.agg rd.1.cells, .agg #[.int .i64 rd.2.1, .int .i64 rd.2.2]], .agg rd.1.cells, .agg #[.int .i64 rd.2.1, .int .i64 rd.2.2], pT q4 0, .int .i64 rd.2.1, .bool true, .tuple #[Y, .int .i64 0], .agg (rd.1.cells), .tuple #[Y, .int .i64 0], Y, .int .i64 0, ud, ud, ud, ud, ud, ud, ud, ud, ud, ud, ud], []⟩ <| tr_ [0, 1, 2, 3, 4, 5, 6, 7, 8, 9, 10] <| pkq (.bool true) <| pkq (.bool true) <| pkq (.int .i64 0) <| pkq (.bool true) <| pkq (.bool true) <| pkq (.bool true) ?_
  refine pkq (Y) <| pkq (v) ?_
  refine pcq 25 #[Y, v] Tryd.func25 ((bytes_same hY (hx.keepsN K162) rfl).mono ?_)
  rintro e w1 ⟨rfl, rfl⟩
  refine ⟨_, rfl, ?_⟩
  refine pkq (.bool true) <| pkq (.bool true) <| eqr_ [0, 1] <| pkq (.bool true) <| pkq (.bool true) <| eu_ <| so_ (.bool true) ?_
  exact ⟨rfl, K162⟩
theorem back_10 (v0 : Value) (l0 : List Int) (s : List UInt8) (v : Value) (l : List UInt8) (w : World) (hx0 : IntsAt w v0 l0) (hx : BytesAt w v l) (hs : ¬ 400 < s.length) (hb : ¬ 100 < l.length) (hpe : (pparse s).2.1 = 0) (hre : ¬ (pbread l).2.1 = 0) (htab : PowTab w) :
    Calls Tryd.prog 6 #[v0, .string ⟨s.toArray⟩, v] w (fun e w' => e = .returned (.bool true) ∧ Keeps Nob w w') := by
  have hsl : s.length ≤ 100000000 := by omega
  obtain ⟨pp, hpp⟩ : ∃ x, pparse s = x := ⟨_, rfl⟩
  obtain ⟨rd, hrd⟩ : ∃ x, pbread l = x := ⟨_, rfl⟩
  rw [hpp] at hpe
  rw [hrd] at hre
  obtain ⟨-, hqf, hqt⟩ := text_parse (q := pp.1) (e := pp.2.2) (l := s) (by rw [hpp, ← hpe])
  have K0 : Keeps Nob w w := Keeps.refl _ _
  refine sy_enter (qc71_0 1) ⟨#[v0, .string ⟨s.toArray⟩, v, ud, ud, ud, ud, ud, ud, ud, ud, ud, ud, ud, ud, ud, ud, ud, ud, ud, ud, ud, ud, ud, ud, ud, ud, ud, ud, ud, ud, ud, ud, ud, ud, ud, ud, ud, ud, ud, ud, ud, ud, ud, ud, ud, ud, ud, ud, ud, ud, ud, ud, ud, ud, ud, ud, ud, ud, ud, ud, ud, ud, ud, ud, ud, ud, ud, ud, ud, ud, ud, ud, ud, ud, ud, ud, ud, ud, ud, ud, ud, ud, ud, ud, ud, ud, ud, ud, ud, ud, ud, ud, ud, ud, ud, ud, ud, ud, ud, ud, ud, ud, ud, ud, ud, ud, ud, ud, ud, ud, ud, ud, ud, ud, ud, ud, ud, ud, ud, ud, ud, ud, ud, ud, ud], []⟩ Tryd.func6 (by kernel_rfl) (by kernel_rfl) <| qr_ [0] <| pkq (.bool false) <| eqr_ [0, 1] ?_
  refine pcq 5 #[] Tryd.func5 ((known_ok _ (PowTab.keeps htab K0)).mono ?_)
  rintro e V1 ⟨rfl, kV1⟩
  refine ⟨_, rfl, ?_⟩
  have h2 : IntsAt V1 v0 l0 := IntsAt.keepsN hx0 kV1
  have K3 := K0.nn kV1
  have z4 := kV1.size
  refine pkq (.bool true) <| eq_ <| qr_ [0, 1, 2, 3, 4, 5, 6, 7] <| pkq (.string ⟨s.toArray⟩) <| ppq (iN s.length) (exec_cast (congrArg (Value.int .i64) (by simp [ByteArray.size])) (exec_len_str (.tmp 22) 9 (by kernel_rfl) Tryd.underlying9 ⟨s.toArray⟩ (by kernel_rfl))) <| ppq (.bool false) (dcf ((((s.length : Nat) : Int)) > ((400) : Int)) (by omega)) <| pkq (.bool false) <| pkq (v) <| ppq (iN l.length) (plen_bytes (.tmp 26) 39 5 (by kernel_rfl) Tryd.underlying39 (by kernel_rfl) hx) <| ppq (.bool false) (dcf ((((l.length : Nat) : Int)) > ((100) : Int)) (by omega)) <| pkq (.bool false) <| en_ <| s_ <| tqr_ [0, 1, 2, 3] ?_
  refine pkq (v0) ?_
  refine pcq 34 #[v0] Tryd.func34 ((near_ok v0 l0 _ h2).mono ?_)
  rintro e V5 ⟨p, rfl, hfit, kV5⟩
  obtain ⟨tp, htp⟩ : ∃ x, ptI p 11 = x := ⟨_, rfl⟩
  obtain ⟨bp, hbp⟩ : ∃ x, pby p = x := ⟨_, rfl⟩
  have htl : tp.length ≤ 100000000 := htp ▸ ptI_len hfit
  have hbl : bp.length ≤ 100000000 := hbp ▸ pby_len p
  have hpt : pparse tp = (p, 0, 0) := htp ▸ parse_text hfit
  have hpb : pbread bp = (p, 0, 0) := hbp ▸ read_bytes hfit
  refine ⟨_, rfl, ?_⟩
  have K6 := K3.nn kV5
  have z7 := kV5.size
  refine pal 24 (#[.int .i64 0, .int .i64 0, .int .i64 0, .int .i64 0, .int .i64 0, .int .i64 0, .int .i64 0, .int .u64 0, .int .u64 0, .int .i64 0, .int .u64 0]) (.agg (#[.int .i64 0, .int .i64 0, .int .i64 0, .int .i64 0, .int .i64 0, .int .i64 0, .int .i64 0, .int .u64 0, .int .u64 0, .int .i64 0, .int .u64 0])) fun V8 gp egp h9 kV8 => ?_
  have n10 : w.heap.size ≤ gp := egp ▸ K6.size
  have K11 := K6.nn kV8
  have z12 := kV8.size
  refine pst 24 gp p.cells h9 (by kernel_rfl) rfl (by kernel_rfl) fun V13 h14 kV13 => ?_
  have K15 := K11.nO kV13
  have z16 := kV13.size
  refine eqr_ [0, 1, 2, 3, 4, 5, 6] <| ppq (.agg (p.cells)) (ldr 24 gp (h14) (by kernel_rfl)) ?_
  refine pcq 21 #[.agg (p.cells)] Tryd.func21 ((text_is _ hfit htp (PowTab.keeps htab K15)).mono ?_)
  rintro e V17 ⟨rfl, kV17⟩
  refine ⟨_, rfl, ?_⟩
  have h18 := kV17.bk h14
  have K19 := K15.nn kV17
  have z20 := kV17.size
  refine pkq (.tuple #[.string ⟨tp.toArray⟩, .int .i64 0]) <| pkq (.string ⟨tp.toArray⟩) <| pkq (.int .i64 0) <| pkq (.string ⟨tp.toArray⟩) <| pkq (.int .i64 0) <| eqr_ [0, 1, 2, 3, 4, 5, 6] <| ppq (.agg (p.cells)) (ldr 24 gp (h18) (by kernel_rfl)) ?_
  refine pcq 23 #[.agg (p.cells)] Tryd.func23 ((bytes_is _ hfit hbp).mono ?_)
  rintro e V21 ⟨X, rfl, hX, hltX, kV21⟩
  refine ⟨_, rfl, ?_⟩
  have h22 := kV21.bk h18
  have K23 := K19.nn kV21
  have z24 := kV21.size
  refine pkq (.tuple #[X, .int .i64 0]) <| pkq (X) <| pkq (.int .i64 0) <| pkq (X) <| pkq (.int .i64 0) <| ps_end <| sy_a ⟨#[v0, .string ⟨s.toArray⟩, v, ud, ud, ud, .bool false, .bool true, pT gp 0, .string ⟨tp.toArray⟩, .int .i64 0, X, .int .i64 0, ud, ud, ud, ud, ud, ud, ud, ud, .bool true, .string ⟨s.toArray⟩, iN s.length, .bool false, .bool false, v, iN l.length, .bool false, .bool false, ud, v0, .agg p.cells, .tuple #[.string ⟨tp.toArray⟩, .int .i64 0], .agg (p.cells), .tuple #[.string ⟨tp.toArray⟩, .int .i64 0], .string ⟨tp.toArray⟩, .int .i64 0, .tuple #[X, .int .i64 0], .agg (p.cells), .tuple #[X, .int .i64 0], X, .int .i64 0, ud, ud, ud, ud, ud, ud, ud, ud, ud, ud, ud, ud, ud, ud, ud, ud, ud, ud, ud, ud, ud, ud, ud, ud, ud, ud, ud, ud, ud, ud, ud, ud, ud, ud, ud, ud, ud, ud, ud, ud, ud, ud, ud, ud, ud, ud, ud, ud, ud, ud, ud, ud, ud, ud, ud, ud, ud, ud, ud, ud, ud, ud, ud, ud, ud, ud, ud, ud, ud, ud, ud, ud, ud, ud, ud, ud, ud, ud, ud, ud, ud, ud, ud], []⟩ <| tqr_ [0, 1, 2, 3, 4, 5, 6, 7, 8] <| pkq (.string ⟨tp.toArray⟩) ?_
  refine pcq 26 #[.string ⟨tp.toArray⟩] Tryd.func26 ((pParse_is tp p 0 0 _ htl (by rw [hpt]) (by rw [hpt])).mono ?_)
  rintro e V25 ⟨rfl, kV25⟩
  refine ⟨_, rfl, ?_⟩
  have h26 := kV25.bk h22
  have h27 : BytesAt V25 X bp := hX.keepsN kV25
  have K28 := K23.nn kV25
  have z29 := kV25.size
  refine pkq (.tuple #[.agg p.cells, .agg #[.int .i64 0, .int .i64 0]]) <| pkq (.agg p.cells) <| pkq (.agg #[.int .i64 0, .int .i64 0]) <| pal 24 (#[.int .i64 0, .int .i64 0, .int .i64 0, .int .i64 0, .int .i64 0, .int .i64 0, .int .i64 0, .int .u64 0, .int .u64 0, .int .i64 0, .int .u64 0]) (.agg (#[.int .i64 0, .int .i64 0, .int .i64 0, .int .i64 0, .int .i64 0, .int .i64 0, .int .i64 0, .int .u64 0, .int .u64 0, .int .i64 0, .int .u64 0])) fun V30 q1 eq1 h31 kV30 => ?_
  have n32 : gp < q1 := eq1 ▸ lt_of_block h26
  have n33 : w.heap.size ≤ q1 := eq1 ▸ K28.size
  have h34 := kV30.bk h26
  have h35 : BytesAt V30 X bp := h27.keepsN kV30
  have K36 := K28.nn kV30
  have z37 := kV30.size
  refine pal 46 (#[.int .i64 0, .int .i64 0]) (.agg (#[.int .i64 0, .int .i64 0])) fun V38 q2 eq2 h39 kV38 => ?_
  have n40 : gp < q2 := eq2 ▸ lt_of_block h34
  have n41 : q1 < q2 := eq2 ▸ lt_of_block h31
  have n42 : w.heap.size ≤ q2 := eq2 ▸ K36.size
  have h43 := kV38.bk h34
  have h44 : BytesAt V38 X bp := h35.keepsN kV38
  have h45 := kV38.bk h31
  have K46 := K36.nn kV38
  have z47 := kV38.size
  refine pst 24 q1 p.cells h45 (by kernel_rfl) rfl (by kernel_rfl) fun V48 h49 kV48 => ?_
  have h50 := kV48.bO h43
  have h51 : BytesAt V48 X bp := h44.keeps kV48 (fun j hj e => by have := hltX j hj; unfold Own.One at e; omega)
  have h52 := kV48.bO h39
  have K53 := K46.nO kV48
  have z54 := kV48.size
  refine pst 46 q2 (#[.int .i64 0, .int .i64 0]) h52 (by kernel_rfl) rfl (by kernel_rfl) fun V55 h56 kV55 => ?_
  have h57 := kV55.bO h50
  have h58 : BytesAt V55 X bp := h51.keeps kV55 (fun j hj e => by have := hltX j hj; unfold Own.One at e; omega)
  have h59 := kV55.bO h49
  have K60 := K53.nO kV55
  have z61 := kV55.size
  refine eqr_ [0, 1, 2, 3, 4, 5, 6, 7, 8] <| pkq (X) ?_
  refine pcq 29 #[X] Tryd.func29 ((pRead_is X bp p 0 0 _ h58 hbl (by rw [hpb]) (by rw [hpb])).mono ?_)
  rintro e V62 ⟨rfl, kV62⟩
  refine ⟨_, rfl, ?_⟩
  have h63 := kV62.bk h57
  have h64 := kV62.bk h59
  have h65 := kV62.bk h56
  have K66 := K60.nn kV62
  have z67 := kV62.size
  refine pkq (.tuple #[.agg p.cells, .agg #[.int .i64 0, .int .i64 0]]) <| pkq (.agg p.cells) <| pkq (.agg #[.int .i64 0, .int .i64 0]) <| pal 24 (#[.int .i64 0, .int .i64 0, .int .i64 0, .int .i64 0, .int .i64 0, .int .i64 0, .int .i64 0, .int .u64 0, .int .u64 0, .int .i64 0, .int .u64 0]) (.agg (#[.int .i64 0, .int .i64 0, .int .i64 0, .int .i64 0, .int .i64 0, .int .i64 0, .int .i64 0, .int .u64 0, .int .u64 0, .int .i64 0, .int .u64 0])) fun V68 q3 eq3 h69 kV68 => ?_
  have n70 : gp < q3 := eq3 ▸ lt_of_block h63
  have n71 : q1 < q3 := eq3 ▸ lt_of_block h64
  have n72 : q2 < q3 := eq3 ▸ lt_of_block h65
  have n73 : w.heap.size ≤ q3 := eq3 ▸ K66.size
  have h74 := kV68.bk h63
  have h75 := kV68.bk h64
  have h76 := kV68.bk h65
  have K77 := K66.nn kV68
  have z78 := kV68.size
  refine pal 46 (#[.int .i64 0, .int .i64 0]) (.agg (#[.int .i64 0, .int .i64 0])) fun V79 q4 eq4 h80 kV79 => ?_
  have n81 : gp < q4 := eq4 ▸ lt_of_block h74
  have n82 : q1 < q4 := eq4 ▸ lt_of_block h75
  have n83 : q2 < q4 := eq4 ▸ lt_of_block h76
  have n84 : q3 < q4 := eq4 ▸ lt_of_block h69
  have n85 : w.heap.size ≤ q4 := eq4 ▸ K77.size
  have h86 := kV79.bk h74
  have h87 := kV79.bk h75
  have h88 := kV79.bk h76
  have h89 := kV79.bk h69
  have K90 := K77.nn kV79
  have z91 := kV79.size
  refine pst 24 q3 p.cells h89 (by kernel_rfl) rfl (by kernel_rfl) fun V92 h93 kV92 => ?_
  have h94 := kV92.bO h86
  have h95 := kV92.bO h87
  have h96 := kV92.bO h88
  have h97 := kV92.bO h80
  have K98 := K90.nO kV92
  have z99 := kV92.size
  refine pst 46 q4 (#[.int .i64 0, .int .i64 0]) h97 (by kernel_rfl) rfl (by kernel_rfl) fun V100 h101 kV100 => ?_
  have h102 := kV100.bO h94
  have h103 := kV100.bO h95
  have h104 := kV100.bO h96
  have h105 := kV100.bO h93
  have K106 := K98.nO kV100
  have z107 := kV100.size
  refine eq_ <| qr_ [0, 1, 2, 3, 4, 5, 6, 7, 8, 9, 10, 11, 12, 13, 14, 15, 16, 17, 18, 19, 20, 21, 22, 23, 24, 25] <| pkq (.int .i64 0) <| pkq (.bool false) <| pkq (.bool false) <| pkq (.int .i64 0) <| pkq (.bool false) <| pkq (.bool false) <| pkq (.bool false) <| ppq (.agg #[.int .i64 0, .int .i64 0]) (ldr 46 q2 (h104) (by kernel_rfl)) <| pkq (.agg #[.int .i64 0, .int .i64 0]) <| ppq (.bool false) (exec_cast (congrArg Value.bool (by simp)) (exec_binop .neq 46 46 (.tmp 60) (.tmp 61) (by kernel_rfl) (.agg #[.int .i64 0, .int .i64 0]) (.agg #[.int .i64 0, .int .i64 0]) _ (by kernel_rfl) (by kernel_rfl) (run_eqGuard_agg _ _ _ _ _ _ _ pfault_guard) (pfault_ne _ _ _ _ _))) <| pkq (.bool false) <| pkq (.bool false) ?_
  refine ppq (.agg #[.int .i64 0, .int .i64 0]) (ldr 46 q4 (h101) (by kernel_rfl)) <| pkq (.agg #[.int .i64 0, .int .i64 0]) <| ppq (.bool false) (exec_cast (congrArg Value.bool (by simp)) (exec_binop .neq 46 46 (.tmp 65) (.tmp 66) (by kernel_rfl) (.agg #[.int .i64 0, .int .i64 0]) (.agg #[.int .i64 0, .int .i64 0]) _ (by kernel_rfl) (by kernel_rfl) (run_eqGuard_agg _ _ _ _ _ _ _ pfault_guard) (pfault_ne _ _ _ _ _))) <| pkq (.bool false) <| pkq (.bool false) <| ppq (.agg (p.cells)) (ldr 24 q1 (h103) (by kernel_rfl)) <| ppq (.agg (p.cells)) (ldr 24 gp (h102) (by kernel_rfl)) <| ppq (.bool false) (exec_cast (congrArg Value.bool (by simp)) (exec_binop .neq 24 24 (.tmp 70) (.tmp 71) (by kernel_rfl) (.agg p.cells) (.agg p.cells) _ (by kernel_rfl) (by kernel_rfl) (run_eqGuard_agg _ _ _ _ _ _ _ par_guard) (par_ne _ _ _))) <| pkq (.bool false) <| pkq (.bool false) <| ppq (.agg (p.cells)) (ldr 24 q3 (h105) (by kernel_rfl)) <| ppq (.agg (p.cells)) (ldr 24 gp (h102) (by kernel_rfl)) <| ppq (.bool false) (exec_cast (congrArg Value.bool (by simp)) (exec_binop .neq 24 24 (.tmp 75) (.tmp 76) (by kernel_rfl) (.agg p.cells) (.agg p.cells) _ (by kernel_rfl) (by kernel_rfl) (run_eqGuard_agg _ _ _ _ _ _ _ par_guard) (par_ne _ _ _))) <| pkq (.bool false) ?_
  refine ps_end <| sy_a ⟨#[v0, .string ⟨s.toArray⟩, v, ud, ud, ud, .bool false, .bool true, pT gp 0, .string ⟨tp.toArray⟩, .int .i64 0, X, .int .i64 0, pT q1 0, pT q2 0, pT q3 0, pT q4 0, ud, ud, ud, ud, .bool true, .string ⟨s.toArray⟩, iN s.length, .bool false, .bool false, v, iN l.length, .bool false, .bool false, ud, v0, .agg p.cells, .tuple #[.string ⟨tp.toArray⟩, .int .i64 0], .agg (p.cells), .tuple #[.string ⟨tp.toArray⟩, .int .i64 0], .string ⟨tp.toArray⟩, .int .i64 0, .tuple #[X, .int .i64 0], .agg (p.cells), .tuple #[X, .int .i64 0], X, .int .i64 0, .tuple #[.agg p.cells, .agg #[.int .i64 0, .int .i64 0]], .string ⟨tp.toArray⟩, .tuple #[.agg p.cells, .agg #[.int .i64 0, .int .i64 0]], .agg p.cells, .agg #[.int .i64 0, .int .i64 0], .tuple #[.agg p.cells, .agg #[.int .i64 0, .int .i64 0]], X, .tuple #[.agg p.cells, .agg #[.int .i64 0, .int .i64 0]], .agg p.cells, .agg #[.int .i64 0, .int .i64 0], .int .i64 0, .bool false, .bool false, .int .i64 0, .bool false, .bool false, .bool false, .agg #[.int .i64 0, .int .i64 0], .agg #[.int .i64 0, .int .i64 0], .bool false, .bool false, .bool false, .agg #[.int .i64 0, .int .i64 0], .agg #[.int .i64 0, .int .i64 0], .bool false, .bool false, .bool false, .agg (p.cells), .agg (p.cells), .bool false, .bool false, .bool false, .agg (p.cells), .agg (p.cells), .bool false, .bool false, ud, ud, ud, ud, ud, ud, ud, ud, ud, ud, ud, ud, ud, ud, ud, ud, ud, ud, ud, ud, ud, ud, ud, ud, ud, ud, ud, ud, ud, ud, ud, ud, ud, ud, ud, ud, ud, ud, ud, ud, ud, ud, ud, ud, ud, ud, ud], []⟩ <| then_n <| n_ <| s_ <| tqr_ [0, 1, 2, 3, 4, 5, 6] <| pkq (.string ⟨s.toArray⟩) ?_
  refine pcq 26 #[.string ⟨s.toArray⟩] Tryd.func26 ((hpp ▸ pParse_ok s _ hsl).mono ?_)
  rintro e V108 ⟨rfl, kV108⟩
  refine ⟨_, rfl, ?_⟩
  have h110 := kV108.bk h103
  have h111 := kV108.bk h104
  have h112 := kV108.bk h105
  have h113 := kV108.bk h101
  have K114 := K106.nn kV108
  have z115 := kV108.size
  refine pkq (.tuple #[.agg pp.1.cells, .agg #[.int .i64 pp.2.1, .int .i64 pp.2.2]]) <| pkq (.agg pp.1.cells) <| pkq (.agg #[.int .i64 pp.2.1, .int .i64 pp.2.2]) <| pst 24 q1 pp.1.cells h110 (by kernel_rfl) rfl (by kernel_rfl) fun V116 h117 kV116 => ?_
  have h119 := kV116.bO h111
  have h120 := kV116.bO h112
  have h121 := kV116.bO h113
  have K122 := K114.nO kV116
  have z123 := kV116.size
  refine pst 46 q2 (#[.int .i64 pp.2.1, .int .i64 pp.2.2]) h119 (by kernel_rfl) rfl (by kernel_rfl) fun V124 h125 kV124 => ?_
  have h127 := kV124.bO h120
  have h128 := kV124.bO h121
  have h129 := kV124.bO h117
  have K130 := K122.nO kV124
  have z131 := kV124.size
  refine eq_ <| qr_ [0, 1, 2] <| pkq (pT q2 0) <| ppq (.int .i64 pp.2.1) (ldk 26 q2 0 h125) <| ppq (.bool true) (eqt ((pp.2.1) : Int) ((0) : Int) (by omega)) <| ey_ <| qr_ [0, 1, 2, 3, 4, 5, 6] <| ppq (.agg (pp.1.cells)) (ldr 24 q1 (h129) (by kernel_rfl)) ?_
  refine pcq 21 #[.agg (pp.1.cells)] Tryd.func21 ((text_is _ hqf hqt (PowTab.keeps htab K130)).mono ?_)
  rintro e V132 ⟨rfl, kV132⟩
  refine ⟨_, rfl, ?_⟩
  have h134 := kV132.bk h127
  have h135 := kV132.bk h128
  have K138 := K130.nn kV132
  have z139 := kV132.size
  refine pkq (.tuple #[.string ⟨s.toArray⟩, .int .i64 0]) <| pkq (.string ⟨s.toArray⟩) <| pkq (.int .i64 0) <| pkq (.string ⟨s.toArray⟩) <| pkq (.int .i64 0) <| er_ [0, 1, 2, 3, 4, 5, 6, 7, 8, 9, 10] <| pkq (.bool true) <| pkq (.bool true) <| pkq (.int .i64 0) <| pkq (.bool true) <| pkq (.bool true) <| pkq (.bool true) <| pkq (.string ⟨s.toArray⟩) <| pkq (.string ⟨s.toArray⟩) ?_
  refine ppq (.bool true) (exec_binop .eql 9 9 (.tmp 98) (.tmp 99) (by kernel_rfl) (.string ⟨s.toArray⟩) (.string ⟨s.toArray⟩) _ (by kernel_rfl) (by kernel_rfl) (by kernel_rfl) (eq_strB _ _)) <| pkq (.bool true) <| pkq (.bool true) <| ps_end <| sy_a ⟨#[v0, .string ⟨s.toArray⟩, v, ud, ud, ud, .bool false, .bool true, pT gp 0, .string ⟨tp.toArray⟩, .int .i64 0, X, .int .i64 0, pT q1 0, pT q2 0, pT q3 0, pT q4 0, .string ⟨s.toArray⟩, .int .i64 0, ud, ud, .bool true, .string ⟨s.toArray⟩, iN s.length, .bool false, .bool false, v, iN l.length, .bool false, .bool false, ud, v0, .agg p.cells, .tuple #[.string ⟨tp.toArray⟩, .int .i64 0], .agg (p.cells), .tuple #[.string ⟨tp.toArray⟩, .int .i64 0], .string ⟨tp.toArray⟩, .int .i64 0, .tuple #[X, .int .i64 0], .agg (p.cells), .tuple #[X, .int .i64 0], X, .int .i64 0, .tuple #[.agg p.cells, .agg #[.int .i64 0, .int .i64 0]], .string ⟨tp.toArray⟩, .tuple #[.agg p.cells, .agg #[.int .i64 0, .int .i64 0]], .agg p.cells, .agg #[.int .i64 0, .int .i64 0], .tuple #[.agg p.cells, .agg #[.int .i64 0, .int .i64 0]], X, .tuple #[.agg p.cells, .agg #[.int .i64 0, .int .i64 0]], .agg p.cells, .agg #[.int .i64 0, .int .i64 0], .int .i64 0, .bool false, .bool false, .int .i64 0, .bool false, .bool false, .bool false, .agg #[.int .i64 0, .int .i64 0], .agg #[.int .i64 0, .int .i64 0], .bool false, .bool false, .bool false, .agg #[.int .i64 0, .int .i64 0], .agg #[.int .i64 0, .int .i64 0], .bool false, .bool false, .bool false, .agg (p.cells), .agg (p.cells), .bool false, .bool false, .bool false, .agg (p.cells), .agg (p.cells), .bool false, .bool false, .tuple #[.agg pp.1.cells, .agg #[.int .i64 pp.2.1, .int .i64 pp.2.2]], .string ⟨s.toArray⟩, .tuple #[.agg pp.1.cells, .agg #[.int .i64 pp.2.1, .int .i64 pp.2.2]], .agg pp.1.cells, .agg #[.int .i64 pp.2.1, .int .i64 pp.2.2], pT q2 0, .int .i64 pp.2.1, .bool true, .tuple #[.string ⟨s.toArray⟩, .int .i64 0], .agg (pp.1.cells), .tuple #[.string ⟨s.toArray⟩, .int .i64 0], .string ⟨s.toArray⟩, .int .i64 0, .bool true, .bool true, .int .i64 0, .bool true, .bool true, .bool true, .string ⟨s.toArray⟩, .string ⟨s.toArray⟩, .bool true, .bool true, ud, ud, ud, ud, ud, ud, ud, ud, ud, ud, ud, ud, ud, ud, ud, ud, ud, ud, ud, ud, ud, ud, ud, ud], []⟩ <| tqr_ [0, 1, 2, 3, 4, 5, 6] <| pkq (v) ?_
  refine pcq 29 #[v] Tryd.func29 ((hrd ▸ pRead_ok v l _ (hx.keepsN K138) (by omega)).mono ?_)
  rintro e V140 ⟨rfl, kV140⟩
  refine ⟨_, rfl, ?_⟩
  have h142 := kV140.bk h134
  have h143 := kV140.bk h135
  have K146 := K138.nn kV140
  have z147 := kV140.size
  refine pkq (.tuple #[.agg rd.1.cells, .agg #[.int .i64 rd.2.1, .int .i64 rd.2.2]]) <| pkq (.agg rd.1.cells) <| pkq (.agg #[.int .i64 rd.2.1, .int .i64 rd.2.2]) ?_
  obtain ⟨V148, eV148, kV148⟩ := rowset_step V140 q3 rd.1.cells
  refine pzq (w' := V148) (by rw [← eV148]; exact exec_store_row 24 (.tmp 15) (.tmp 105) (by kernel_rfl) q3 rd.1.cells (by kernel_rfl) (by kernel_rfl) 24 p.cells h142 (by kernel_rfl) rfl (by kernel_rfl)) ?_
  clear eV148
  have h151 := kV148.bO h143
  have K154 := K146.nO kV148
  have z155 := kV148.size
  refine pst 46 q4 (#[.int .i64 rd.2.1, .int .i64 rd.2.2]) h151 (by kernel_rfl) rfl (by kernel_rfl) fun V156 h157 kV156 => ?_
  have K162 := K154.nO kV156
  have z163 := kV156.size
  refine eq_ <| qr_ [0, 1, 2] <| pkq (pT q4 0) <| ppq (.int .i64 rd.2.1) (ldk 26 q4 0 h157) <| ppq (.bool false) (eqf ((rd.2.1) : Int) ((0) : Int) (by omega)) <| en_ <| s_ <| tqr_ [0, 1] <| pkq (.bool true) <| pkq (.bool true) <| eu_ <| so_ (.bool true) ?_
  exact ⟨rfl, K162⟩
theorem back_11 (v0 : Value) (l0 : List Int) (s : List UInt8) (v : Value) (l : List UInt8) (w : World) (hx0 : IntsAt w v0 l0) (hx : BytesAt w v l) (hs : ¬ 400 < s.length) (hb : ¬ 100 < l.length) (hpe : (pparse s).2.1 = 0) (hre : (pbread l).2.1 = 0) (htab : PowTab w) :
    Calls Tryd.prog 6 #[v0, .string ⟨s.toArray⟩, v] w (fun e w' => e = .returned (.bool true) ∧ Keeps Nob w w') := by
  have hsl : s.length ≤ 100000000 := by omega
  obtain ⟨pp, hpp⟩ : ∃ x, pparse s = x := ⟨_, rfl⟩
  obtain ⟨rd, hrd⟩ : ∃ x, pbread l = x := ⟨_, rfl⟩
  rw [hpp] at hpe
  rw [hrd] at hre
  obtain ⟨-, hqf, hqt⟩ := text_parse (q := pp.1) (e := pp.2.2) (l := s) (by rw [hpp, ← hpe])
  obtain ⟨-, hrf, hrt⟩ := bytes_read (q := rd.1) (e := rd.2.2) (l := l) (by rw [hrd, ← hre])
  have K0 : Keeps Nob w w := Keeps.refl _ _
  refine sy_enter (qc71_0 1) ⟨#[v0, .string ⟨s.toArray⟩, v, ud, ud, ud, ud, ud, ud, ud, ud, ud, ud, ud, ud, ud, ud, ud, ud, ud, ud, ud, ud, ud, ud, ud, ud, ud, ud, ud, ud, ud, ud, ud, ud, ud, ud, ud, ud, ud, ud, ud, ud, ud, ud, ud, ud, ud, ud, ud, ud, ud, ud, ud, ud, ud, ud, ud, ud, ud, ud, ud, ud, ud, ud, ud, ud, ud, ud, ud, ud, ud, ud, ud, ud, ud, ud, ud, ud, ud, ud, ud, ud, ud, ud, ud, ud, ud, ud, ud, ud, ud, ud, ud, ud, ud, ud, ud, ud, ud, ud, ud, ud, ud, ud, ud, ud, ud, ud, ud, ud, ud, ud, ud, ud, ud, ud, ud, ud, ud, ud, ud, ud, ud, ud, ud], []⟩ Tryd.func6 (by kernel_rfl) (by kernel_rfl) <| qr_ [0] <| pkq (.bool false) <| eqr_ [0, 1] ?_
  refine pcq 5 #[] Tryd.func5 ((known_ok _ (PowTab.keeps htab K0)).mono ?_)
  rintro e V1 ⟨rfl, kV1⟩
  refine ⟨_, rfl, ?_⟩
  have h2 : IntsAt V1 v0 l0 := IntsAt.keepsN hx0 kV1
  have K3 := K0.nn kV1
  have z4 := kV1.size
  refine pkq (.bool true) <| eq_ <| qr_ [0, 1, 2, 3, 4, 5, 6, 7] <| pkq (.string ⟨s.toArray⟩) <| ppq (iN s.length) (exec_cast (congrArg (Value.int .i64) (by simp [ByteArray.size])) (exec_len_str (.tmp 22) 9 (by kernel_rfl) Tryd.underlying9 ⟨s.toArray⟩ (by kernel_rfl))) <| ppq (.bool false) (dcf ((((s.length : Nat) : Int)) > ((400) : Int)) (by omega)) <| pkq (.bool false) <| pkq (v) <| ppq (iN l.length) (plen_bytes (.tmp 26) 39 5 (by kernel_rfl) Tryd.underlying39 (by kernel_rfl) hx) <| ppq (.bool false) (dcf ((((l.length : Nat) : Int)) > ((100) : Int)) (by omega)) <| pkq (.bool false) <| en_ <| s_ <| tqr_ [0, 1, 2, 3] ?_
  refine pkq (v0) ?_
  refine pcq 34 #[v0] Tryd.func34 ((near_ok v0 l0 _ h2).mono ?_)
  rintro e V5 ⟨p, rfl, hfit, kV5⟩
  obtain ⟨tp, htp⟩ : ∃ x, ptI p 11 = x := ⟨_, rfl⟩
  obtain ⟨bp, hbp⟩ : ∃ x, pby p = x := ⟨_, rfl⟩
  have htl : tp.length ≤ 100000000 := htp ▸ ptI_len hfit
  have hbl : bp.length ≤ 100000000 := hbp ▸ pby_len p
  have hpt : pparse tp = (p, 0, 0) := htp ▸ parse_text hfit
  have hpb : pbread bp = (p, 0, 0) := hbp ▸ read_bytes hfit
  refine ⟨_, rfl, ?_⟩
  have K6 := K3.nn kV5
  have z7 := kV5.size
  refine pal 24 (#[.int .i64 0, .int .i64 0, .int .i64 0, .int .i64 0, .int .i64 0, .int .i64 0, .int .i64 0, .int .u64 0, .int .u64 0, .int .i64 0, .int .u64 0]) (.agg (#[.int .i64 0, .int .i64 0, .int .i64 0, .int .i64 0, .int .i64 0, .int .i64 0, .int .i64 0, .int .u64 0, .int .u64 0, .int .i64 0, .int .u64 0])) fun V8 gp egp h9 kV8 => ?_
  have n10 : w.heap.size ≤ gp := egp ▸ K6.size
  have K11 := K6.nn kV8
  have z12 := kV8.size
  refine pst 24 gp p.cells h9 (by kernel_rfl) rfl (by kernel_rfl) fun V13 h14 kV13 => ?_
  have K15 := K11.nO kV13
  have z16 := kV13.size
  refine eqr_ [0, 1, 2, 3, 4, 5, 6] <| ppq (.agg (p.cells)) (ldr 24 gp (h14) (by kernel_rfl)) ?_
  refine pcq 21 #[.agg (p.cells)] Tryd.func21 ((text_is _ hfit htp (PowTab.keeps htab K15)).mono ?_)
  rintro e V17 ⟨rfl, kV17⟩
  refine ⟨_, rfl, ?_⟩
  have h18 := kV17.bk h14
  have K19 := K15.nn kV17
  have z20 := kV17.size
  refine pkq (.tuple #[.string ⟨tp.toArray⟩, .int .i64 0]) <| pkq (.string ⟨tp.toArray⟩) <| pkq (.int .i64 0) <| pkq (.string ⟨tp.toArray⟩) <| pkq (.int .i64 0) <| eqr_ [0, 1, 2, 3, 4, 5, 6] <| ppq (.agg (p.cells)) (ldr 24 gp (h18) (by kernel_rfl)) ?_
  refine pcq 23 #[.agg (p.cells)] Tryd.func23 ((bytes_is _ hfit hbp).mono ?_)
  rintro e V21 ⟨X, rfl, hX, hltX, kV21⟩
  refine ⟨_, rfl, ?_⟩
  have h22 := kV21.bk h18
  have K23 := K19.nn kV21
  have z24 := kV21.size
  refine pkq (.tuple #[X, .int .i64 0]) <| pkq (X) <| pkq (.int .i64 0) <| pkq (X) <| pkq (.int .i64 0) <| ps_end <| sy_a ⟨#[v0, .string ⟨s.toArray⟩, v, ud, ud, ud, .bool false, .bool true, pT gp 0, .string ⟨tp.toArray⟩, .int .i64 0, X, .int .i64 0, ud, ud, ud, ud, ud, ud, ud, ud, .bool true, .string ⟨s.toArray⟩, iN s.length, .bool false, .bool false, v, iN l.length, .bool false, .bool false, ud, v0, .agg p.cells, .tuple #[.string ⟨tp.toArray⟩, .int .i64 0], .agg (p.cells), .tuple #[.string ⟨tp.toArray⟩, .int .i64 0], .string ⟨tp.toArray⟩, .int .i64 0, .tuple #[X, .int .i64 0], .agg (p.cells), .tuple #[X, .int .i64 0], X, .int .i64 0, ud, ud, ud, ud, ud, ud, ud, ud, ud, ud, ud, ud, ud, ud, ud, ud, ud, ud, ud, ud, ud, ud, ud, ud, ud, ud, ud, ud, ud, ud, ud, ud, ud, ud, ud, ud, ud, ud, ud, ud, ud, ud, ud, ud, ud, ud, ud, ud, ud, ud, ud, ud, ud, ud, ud, ud, ud, ud, ud, ud, ud, ud, ud, ud, ud, ud, ud, ud, ud, ud, ud, ud, ud, ud, ud, ud, ud, ud, ud, ud, ud, ud, ud], []⟩ <| tqr_ [0, 1, 2, 3, 4, 5, 6, 7, 8] <| pkq (.string ⟨tp.toArray⟩) ?_
  refine pcq 26 #[.string ⟨tp.toArray⟩] Tryd.func26 ((pParse_is tp p 0 0 _ htl (by rw [hpt]) (by rw [hpt])).mono ?_)
  rintro e V25 ⟨rfl, kV25⟩
  refine ⟨_, rfl, ?_⟩
  have h26 := kV25.bk h22
  have h27 : BytesAt V25 X bp := hX.keepsN kV25
  have K28 := K23.nn kV25
  have z29 := kV25.size
  refine pkq (.tuple #[.agg p.cells, .agg #[.int .i64 0, .int .i64 0]]) <| pkq (.agg p.cells) <| pkq (.agg #[.int .i64 0, .int .i64 0]) <| pal 24 (#[.int .i64 0, .int .i64 0, .int .i64 0, .int .i64 0, .int .i64 0, .int .i64 0, .int .i64 0, .int .u64 0, .int .u64 0, .int .i64 0, .int .u64 0]) (.agg (#[.int .i64 0, .int .i64 0, .int .i64 0, .int .i64 0, .int .i64 0, .int .i64 0, .int .i64 0, .int .u64 0, .int .u64 0, .int .i64 0, .int .u64 0])) fun V30 q1 eq1 h31 kV30 => ?_
  have n32 : gp < q1 := eq1 ▸ lt_of_block h26
  have n33 : w.heap.size ≤ q1 := eq1 ▸ K28.size
  have h34 := kV30.bk h26
  have h35 : BytesAt V30 X bp := h27.keepsN kV30
  have K36 := K28.nn kV30
  have z37 := kV30.size
  refine pal 46 (#[.int .i64 0, .int .i64 0]) (.agg (#[.int .i64 0, .int .i64 0])) fun V38 q2 eq2 h39 kV38 => ?_
  have n40 : gp < q2 := eq2 ▸ lt_of_block h34
  have n41 : q1 < q2 := eq2 ▸ lt_of_block h31
  have n42 : w.heap.size ≤ q2 := eq2 ▸ K36.size
  have h43 := kV38.bk h34
  have h44 : BytesAt V38 X bp := h35.keepsN kV38
  have h45 := kV38.bk h31
  have K46 := K36.nn kV38
  have z47 := kV38.size
  refine pst 24 q1 p.cells h45 (by kernel_rfl) rfl (by kernel_rfl) fun V48 h49 kV48 => ?_
  have h50 := kV48.bO h43
  have h51 : BytesAt V48 X bp := h44.keeps kV48 (fun j hj e => by have := hltX j hj; unfold Own.One at e; omega)
  have h52 := kV48.bO h39
  have K53 := K46.nO kV48
  have z54 := kV48.size
  refine pst 46 q2 (#[.int .i64 0, .int .i64 0]) h52 (by kernel_rfl) rfl (by kernel_rfl) fun V55 h56 kV55 => ?_
  have h57 := kV55.bO h50
  have h58 : BytesAt V55 X bp := h51.keeps kV55 (fun j hj e => by have := hltX j hj; unfold Own.One at e; omega)
  have h59 := kV55.bO h49
  have K60 := K53.nO kV55
  have z61 := kV55.size
  refine eqr_ [0, 1, 2, 3, 4, 5, 6, 7, 8] <| pkq (X) ?_
  refine pcq 29 #[X] Tryd.func29 ((pRead_is X bp p 0 0 _ h58 hbl (by rw [hpb]) (by rw [hpb])).mono ?_)
  rintro e V62 ⟨rfl, kV62⟩
  refine ⟨_, rfl, ?_⟩
  have h63 := kV62.bk h57
  have h64 := kV62.bk h59
  have h65 := kV62.bk h56
  have K66 := K60.nn kV62
  have z67 := kV62.size
  refine pkq (.tuple #[.agg p.cells, .agg #[.int .i64 0, .int .i64 0]]) <| pkq (.agg p.cells) <| pkq (.agg #[.int .i64 0, .int .i64 0]) <| pal 24 (#[.int .i64 0, .int .i64 0, .int .i64 0, .int .i64 0, .int .i64 0, .int .i64 0, .int .i64 0, .int .u64 0, .int .u64 0, .int .i64 0, .int .u64 0]) (.agg (#[.int .i64 0, .int .i64 0, .int .i64 0, .int .i64 0, .int .i64 0, .int .i64 0, .int .i64 0, .int .u64 0, .int .u64 0, .int .i64 0, .int .u64 0])) fun V68 q3 eq3 h69 kV68 => ?_
  have n70 : gp < q3 := eq3 ▸ lt_of_block h63
  have n71 : q1 < q3 := eq3 ▸ lt_of_block h64
  have n72 : q2 < q3 := eq3 ▸ lt_of_block h65
  have n73 : w.heap.size ≤ q3 := eq3 ▸ K66.size
  have h74 := kV68.bk h63
  have h75 := kV68.bk h64
  have h76 := kV68.bk h65
  have K77 := K66.nn kV68
  have z78 := kV68.size
  refine pal 46 (#[.int .i64 0, .int .i64 0]) (.agg (#[.int .i64 0, .int .i64 0])) fun V79 q4 eq4 h80 kV79 => ?_
  have n81 : gp < q4 := eq4 ▸ lt_of_block h74
  have n82 : q1 < q4 := eq4 ▸ lt_of_block h75
  have n83 : q2 < q4 := eq4 ▸ lt_of_block h76
  have n84 : q3 < q4 := eq4 ▸ lt_of_block h69
  have n85 : w.heap.size ≤ q4 := eq4 ▸ K77.size
  have h86 := kV79.bk h74
  have h87 := kV79.bk h75
  have h88 := kV79.bk h76
  have h89 := kV79.bk h69
  have K90 := K77.nn kV79
  have z91 := kV79.size
  refine pst 24 q3 p.cells h89 (by kernel_rfl) rfl (by kernel_rfl) fun V92 h93 kV92 => ?_
  have h94 := kV92.bO h86
  have h95 := kV92.bO h87
  have h96 := kV92.bO h88
  have h97 := kV92.bO h80
  have K98 := K90.nO kV92
  have z99 := kV92.size
  refine pst 46 q4 (#[.int .i64 0, .int .i64 0]) h97 (by kernel_rfl) rfl (by kernel_rfl) fun V100 h101 kV100 => ?_
  have h102 := kV100.bO h94
  have h103 := kV100.bO h95
  have h104 := kV100.bO h96
  have h105 := kV100.bO h93
  have K106 := K98.nO kV100
  have z107 := kV100.size
  refine eq_ <| qr_ [0, 1, 2, 3, 4, 5, 6, 7, 8, 9, 10, 11, 12, 13, 14, 15, 16, 17, 18, 19, 20, 21, 22, 23, 24, 25] <| pkq (.int .i64 0) <| pkq (.bool false) <| pkq (.bool false) <| pkq (.int .i64 0) <| pkq (.bool false) <| pkq (.bool false) <| pkq (.bool false) <| ppq (.agg #[.int .i64 0, .int .i64 0]) (ldr 46 q2 (h104) (by kernel_rfl)) <| pkq (.agg #[.int .i64 0, .int .i64 0]) <| ppq (.bool false) (exec_cast (congrArg Value.bool (by simp)) (exec_binop .neq 46 46 (.tmp 60) (.tmp 61) (by kernel_rfl) (.agg #[.int .i64 0, .int .i64 0]) (.agg #[.int .i64 0, .int .i64 0]) _ (by kernel_rfl) (by kernel_rfl) (run_eqGuard_agg _ _ _ _ _ _ _ pfault_guard) (pfault_ne _ _ _ _ _))) <| pkq (.bool false) <| pkq (.bool false) ?_
  refine ppq (.agg #[.int .i64 0, .int .i64 0]) (ldr 46 q4 (h101) (by kernel_rfl)) <| pkq (.agg #[.int .i64 0, .int .i64 0]) <| ppq (.bool false) (exec_cast (congrArg Value.bool (by simp)) (exec_binop .neq 46 46 (.tmp 65) (.tmp 66) (by kernel_rfl) (.agg #[.int .i64 0, .int .i64 0]) (.agg #[.int .i64 0, .int .i64 0]) _ (by kernel_rfl) (by kernel_rfl) (run_eqGuard_agg _ _ _ _ _ _ _ pfault_guard) (pfault_ne _ _ _ _ _))) <| pkq (.bool false) <| pkq (.bool false) <| ppq (.agg (p.cells)) (ldr 24 q1 (h103) (by kernel_rfl)) <| ppq (.agg (p.cells)) (ldr 24 gp (h102) (by kernel_rfl)) <| ppq (.bool false) (exec_cast (congrArg Value.bool (by simp)) (exec_binop .neq 24 24 (.tmp 70) (.tmp 71) (by kernel_rfl) (.agg p.cells) (.agg p.cells) _ (by kernel_rfl) (by kernel_rfl) (run_eqGuard_agg _ _ _ _ _ _ _ par_guard) (par_ne _ _ _))) <| pkq (.bool false) <| pkq (.bool false) <| ppq (.agg (p.cells)) (ldr 24 q3 (h105) (by kernel_rfl)) <| ppq (.agg (p.cells)) (ldr 24 gp (h102) (by kernel_rfl)) <| ppq (.bool false) (exec_cast (congrArg Value.bool (by simp)) (exec_binop .neq 24 24 (.tmp 75) (.tmp 76) (by kernel_rfl) (.agg p.cells) (.agg p.cells) _ (by kernel_rfl) (by kernel_rfl) (run_eqGuard_agg _ _ _ _ _ _ _ par_guard) (par_ne _ _ _))) <| pkq (.bool false) ?_
  refine ps_end <| sy_a ⟨#[v0, .string ⟨s.toArray⟩, v, ud, ud, ud, .bool false, .bool true, pT gp 0, .string ⟨tp.toArray⟩, .int .i64 0, X, .int .i64 0, pT q1 0, pT q2 0, pT q3 0, pT q4 0, ud, ud, ud, ud, .bool true, .string ⟨s.toArray⟩, iN s.length, .bool false, .bool false, v, iN l.length, .bool false, .bool false, ud, v0, .agg p.cells, .tuple #[.string ⟨tp.toArray⟩, .int .i64 0], .agg (p.cells), .tuple #[.string ⟨tp.toArray⟩, .int .i64 0], .string ⟨tp.toArray⟩, .int .i64 0, .tuple #[X, .int .i64 0], .agg (p.cells), .tuple #[X, .int .i64 0], X, .int .i64 0, .tuple #[.agg p.cells, .agg #[.int .i64 0, .int .i64 0]], .string ⟨tp.toArray⟩, .tuple #[.agg p.cells, .agg #[.int .i64 0, .int .i64 0]], .agg p.cells, .agg #[.int .i64 0, .int .i64 0], .tuple #[.agg p.cells, .agg #[.int .i64 0, .int .i64 0]], X, .tuple #[.agg p.cells, .agg #[.int .i64 0, .int .i64 0]], .agg p.cells, .agg #[.int .i64 0, .int .i64 0], .int .i64 0, .bool false, .bool false, .int .i64 0, .bool false, .bool false, .bool false, .agg #[.int .i64 0, .int .i64 0], .agg #[.int .i64 0, .int .i64 0], .bool false, .bool false, .bool false, .agg #[.int .i64 0, .int .i64 0], .agg #[.int .i64 0, .int .i64 0], .bool false, .bool false, .bool false, .agg (p.cells), .agg (p.cells), .bool false, .bool false, .bool false, .agg (p.cells), .agg (p.cells), .bool false, .bool false, ud, ud, ud, ud, ud, ud, ud, ud, ud, ud, ud, ud, ud, ud, ud, ud, ud, ud, ud, ud, ud, ud, ud, ud, ud, ud, ud, ud, ud, ud, ud, ud, ud, ud, ud, ud, ud, ud, ud, ud, ud, ud, ud, ud, ud, ud, ud], []⟩ <| then_n <| n_ <| s_ <| tqr_ [0, 1, 2, 3, 4, 5, 6] <| pkq (.string ⟨s.toArray⟩) ?_
  refine pcq 26 #[.string ⟨s.toArray⟩] Tryd.func26 ((hpp ▸ pParse_ok s _ hsl).mono ?_)
  rintro e V108 ⟨rfl, kV108⟩
  refine ⟨_, rfl, ?_⟩
  have h110 := kV108.bk h103
  have h111 := kV108.bk h104
  have h112 := kV108.bk h105
  have h113 := kV108.bk h101
  have K114 := K106.nn kV108
  have z115 := kV108.size
  refine pkq (.tuple #[.agg pp.1.cells, .agg #[.int .i64 pp.2.1, .int .i64 pp.2.2]]) <| pkq (.agg pp.1.cells) <| pkq (.agg #[.int .i64 pp.2.1, .int .i64 pp.2.2]) <| pst 24 q1 pp.1.cells h110 (by kernel_rfl) rfl (by kernel_rfl) fun V116 h117 kV116 => ?_
  have h119 := kV116.bO h111
  have h120 := kV116.bO h112
  have h121 := kV116.bO h113
  have K122 := K114.nO kV116
  have z123 := kV116.size
  refine pst 46 q2 (#[.int .i64 pp.2.1, .int .i64 pp.2.2]) h119 (by kernel_rfl) rfl (by kernel_rfl) fun V124 h125 kV124 => ?_
  have h127 := kV124.bO h120
  have h128 := kV124.bO h121
  have h129 := kV124.bO h117
  have K130 := K122.nO kV124
  have z131 := kV124.size
  refine eq_ <| qr_ [0, 1, 2] <| pkq (pT q2 0) <| ppq (.int .i64 pp.2.1) (ldk 26 q2 0 h125) <| ppq (.bool true) (eqt ((pp.2.1) : Int) ((0) : Int) (by omega)) <| ey_ <| qr_ [0, 1, 2, 3, 4, 5, 6] <| ppq (.agg (pp.1.cells)) (ldr 24 q1 (h129) (by kernel_rfl)) ?_
  refine pcq 21 #[.agg (pp.1.cells)] Tryd.func21 ((text_is _ hqf hqt (PowTab.keeps htab K130)).mono ?_)
  rintro e V132 ⟨rfl, kV132⟩
  refine ⟨_, rfl, ?_⟩
  have h134 := kV132.bk h127
  have h135 := kV132.bk h128
  have K138 := K130.nn kV132
  have z139 := kV132.size
  refine pkq (.tuple #[.string ⟨s.toArray⟩, .int .i64 0]) <| pkq (.string ⟨s.toArray⟩) <| pkq (.int .i64 0) <| pkq (.string ⟨s.toArray⟩) <| pkq (.int .i64 0) <| er_ [0, 1, 2, 3, 4, 5, 6, 7, 8, 9, 10] <| pkq (.bool true) <| pkq (.bool true) <| pkq (.int .i64 0) <| pkq (.bool true) <| pkq (.bool true) <| pkq (.bool true) <| pkq (.string ⟨s.toArray⟩) <| pkq (.string ⟨s.toArray⟩) ?_
  refine ppq (.bool true) (exec_binop .eql 9 9 (.tmp 98) (.tmp 99) (by kernel_rfl) (.string ⟨s.toArray⟩) (.string ⟨s.toArray⟩) _ (by kernel_rfl) (by kernel_rfl) (by kernel_rfl) (eq_strB _ _)) <| pkq (.bool true) <| pkq (.bool true) <| ps_end <| sy_a ⟨#[v0, .string ⟨s.toArray⟩, v, ud, ud, ud, .bool false, .bool true, pT gp 0, .string ⟨tp.toArray⟩, .int .i64 0, X, .int .i64 0, pT q1 0, pT q2 0, pT q3 0, pT q4 0, .string ⟨s.toArray⟩, .int .i64 0, ud, ud, .bool true, .string ⟨s.toArray⟩, iN s.length, .bool false, .bool false, v, iN l.length, .bool false, .bool false, ud, v0, .agg p.cells, .tuple #[.string ⟨tp.toArray⟩, .int .i64 0], .agg (p.cells), .tuple #[.string ⟨tp.toArray⟩, .int .i64 0], .string ⟨tp.toArray⟩, .int .i64 0, .tuple #[X, .int .i64 0], .agg (p.cells), .tuple #[X, .int .i64 0], X, .int .i64 0, .tuple #[.agg p.cells, .agg #[.int .i64 0, .int .i64 0]], .string ⟨tp.toArray⟩, .tuple #[.agg p.cells, .agg #[.int .i64 0, .int .i64 0]], .agg p.cells, .agg #[.int .i64 0, .int .i64 0], .tuple #[.agg p.cells, .agg #[.int .i64 0, .int .i64 0]], X, .tuple #[.agg p.cells, .agg #[.int .i64 0, .int .i64 0]], .agg p.cells, .agg #[.int .i64 0, .int .i64 0], .int .i64 0, .bool false, .bool false, .int .i64 0, .bool false, .bool false, .bool false, .agg #[.int .i64 0, .int .i64 0], .agg #[.int .i64 0, .int .i64 0], .bool false, .bool false, .bool false, .agg #[.int .i64 0, .int .i64 0], .agg #[.int .i64 0, .int .i64 0], .bool false, .bool false, .bool false, .agg (p.cells), .agg (p.cells), .bool false, .bool false, .bool false, .agg (p.cells), .agg (p.cells), .bool false, .bool false, .tuple #[.agg pp.1.cells, .agg #[.int .i64 pp.2.1, .int .i64 pp.2.2]], .string ⟨s.toArray⟩, .tuple #[.agg pp.1.cells, .agg #[.int .i64 pp.2.1, .int .i64 pp.2.2]], .agg pp.1.cells, .agg #[.int .i64 pp.2.1, .int .i64 pp.2.2], pT q2 0, .int .i64 pp.2.1, .bool true, .tuple #[.string ⟨s.toArray⟩, .int .i64 0], .agg (pp.1.cells), .tuple #[.string ⟨s.toArray⟩, .int .i64 0], .string ⟨s.toArray⟩, .int .i64 0, .bool true, .bool true, .int .i64 0, .bool true, .bool true, .bool true, .string ⟨s.toArray⟩, .string ⟨s.toArray⟩, .bool true, .bool true, ud, ud, ud, ud, ud, ud, ud, ud, ud, ud, ud, ud, ud, ud, ud, ud, ud, ud, ud, ud, ud, ud, ud, ud], []⟩ <| tqr_ [0, 1, 2, 3, 4, 5, 6] <| pkq (v) ?_
  refine pcq 29 #[v] Tryd.func29 ((hrd ▸ pRead_ok v l _ (hx.keepsN K138) (by omega)).mono ?_)
  rintro e V140 ⟨rfl, kV140⟩
  refine ⟨_, rfl, ?_⟩
  have h142 := kV140.bk h134
  have h143 := kV140.bk h135
  have K146 := K138.nn kV140
  have z147 := kV140.size
  refine pkq (.tuple #[.agg rd.1.cells, .agg #[.int .i64 rd.2.1, .int .i64 rd.2.2]]) <| pkq (.agg rd.1.cells) <| pkq (.agg #[.int .i64 rd.2.1, .int .i64 rd.2.2]) <| pst 24 q3 rd.1.cells h142 (by kernel_rfl) rfl (by kernel_rfl) fun V148 h149 kV148 => ?_
  have h151 := kV148.bO h143
  have K154 := K146.nO kV148
  have z155 := kV148.size
  refine pst 46 q4 (#[.int .i64 rd.2.1, .int .i64 rd.2.2]) h151 (by kernel_rfl) rfl (by kernel_rfl) fun V156 h157 kV156 => ?_
  have h161 := kV156.bO h149
  have K162 := K154.nO kV156
  have z163 := kV156.size
  refine eq_ <| qr_ [0, 1, 2] <| pkq (pT q4 0) <| ppq (.int .i64 rd.2.1) (ldk 26 q4 0 h157) <| ppq (.bool true) (eqt ((rd.2.1) : Int) ((0) : Int) (by omega)) <| ey_ <| qr_ [0, 1, 2, 3, 4, 5, 6] <| ppq (.agg (rd.1.cells)) (ldr 24 q3 (h161) (by kernel_rfl)) ?_
  refine pcq 23 #[.agg (rd.1.cells)] Tryd.func23 ((bytes_is _ hrf hrt).mono ?_)
  rintro e V164 ⟨Y, rfl, hY, hltY, kV164⟩
  refine ⟨_, rfl, ?_⟩
  have K170 := K162.nn kV164
  have z171 := kV164.size
  refine pkq (.tuple #[Y, .int .i64 0]) <| pkq (Y) <| pkq (.int .i64 0) <| pkq (Y) <| pkq (.int .i64 0) <| er_ [0, 1, 2, 3, 4, 5, 6, 7, 8, 9, 10] <| pkq (.bool true) <| pkq (.bool true) <| pkq (.int .i64 0) <| pkq (.bool true) <| pkq (.bool true) <| pkq (.bool true) <| pkq (Y) <| pkq (v) ?_
  refine pcq 25 #[Y, v] Tryd.func25 ((bytes_same hY (hx.keepsN K170) rfl).mono ?_)
  rintro e w1 ⟨rfl, rfl⟩
  refine ⟨_, rfl, ?_⟩
  refine pkq (.bool true) <| pkq (.bool true) <| ps_end <| sy_a ⟨#[v0, .string ⟨s.toArray⟩, v, ud, ud, ud, .bool false, .bool true, pT gp 0, .string ⟨tp.toArray⟩, .int .i64 0, X, .int .i64 0, pT q1 0, pT q2 0, pT q3 0, pT q4 0, .string ⟨s.toArray⟩, .int .i64 0, Y, .int .i64 0, .bool true, .string ⟨s.toArray⟩, iN s.length, .bool false, .bool false, v, iN l.length, .bool false, .bool false, ud, v0, .agg p.cells, .tuple #[.string ⟨tp.toArray⟩, .int .i64 0], .agg (p.cells), .tuple #[.string ⟨tp.toArray⟩, .int .i64 0], .string ⟨tp.toArray⟩, .int .i64 0, .tuple #[X, .int .i64 0], .agg (p.cells), .tuple #[X, .int .i64 0], X, .int .i64 0, .tuple #[.agg p.cells, .agg #[.int .i64 0, .int .i64 0]], .string ⟨tp.toArray⟩, .tuple #[.agg p.cells, .agg #[.int .i64 0, .int .i64 0]], .agg p.cells, .agg #[.int .i64 0, .int .i64 0], .tuple #[.agg p.cells, .agg #[.int .i64 0, .int .i64 0]], X, .tuple #[.agg p.cells, .agg #[.int .i64 0, .int .i64 0]], .agg p.cells, .agg #[.int .i64 0, .int .i64 0], .int .i64 0, .bool false, .bool false, .int .i64 0, .bool false, .bool false, .bool false, .agg #[.int .i64 0, .int .i64 0], .agg #[.int .i64 0, .int .i64 0], .bool false, .bool false, .bool false, .agg #[.int .i64 0, .int .i64 0], .agg #[.int .i64 0, .int .i64 0], .bool false, .bool false, .bool false, .agg (p.cells), .agg (p.cells), .bool false, .bool false, .bool false, .agg (p.cells), .agg (p.cells), .bool false, .bool false, .tuple #[.agg pp.1.cells, .agg #[.int .i64 pp.2.1, .int .i64 pp.2.2]], .string ⟨s.toArray⟩, .tuple #[.agg pp.1.cells, .agg #[.int .i64 pp.2.1, .int .i64 pp.2.2]], .agg pp.1.cells, .agg #[.int .i64 pp.2.1, .int .i64 pp.2.2], pT q2 0, .int .i64 pp.2.1, .bool true, .tuple #[.string ⟨s.toArray⟩, .int .i64 0], .agg (pp.1.cells), .tuple #[.string ⟨s.toArray⟩, .int .i64 0], .string ⟨s.toArray⟩, .int .i64 0, .bool true, .bool true, .int .i64 0, .bool true, .bool true, .bool true, .string ⟨s.toArray⟩, .string ⟨s.toArray⟩, .bool true, .bool true, .tuple #[.agg rd.1.cells, .agg #[.int .i64 rd.2.1, .int .i64 rd.2.2]], v, .tuple #[.agg rd.1.cells, .agg #[.int .i64 rd.2.1, .int .i64 rd.2.2]], .agg rd.1.cells, .agg #[.int .i64 rd.2.1, .int .i64 rd.2.2], pT q4 0, .int .i64 rd.2.1, .bool true, .tuple #[Y, .int .i64 0], .agg (rd.1.cells), .tuple #[Y, .int .i64 0], Y, .int .i64 0, .bool true, .bool true, .int .i64 0, .bool true, .bool true, .bool true, Y, v, .bool true, .bool true, ud], []⟩ <| tqr_ [0, 1] <| pkq (.bool true) <| pkq (.bool true) <| eu_ <| so_ (.bool true) ?_
  exact ⟨rfl, K170⟩
theorem back_all (v0 : Value) (l0 : List Int) (s : List UInt8) (v : Value) (l : List UInt8) (w : World) (hx0 : IntsAt w v0 l0) (hx : BytesAt w v l) (htab : PowTab w) : Calls Tryd.prog 6 #[v0, .string ⟨⟨s⟩⟩, v] w (fun e w' => e = .returned (.bool true) ∧ Keeps Nob w w') := by
  by_cases hs : 400 < s.length
  · exact back_text v0 l0 s v l w hx0 hx hs htab
  · by_cases hb : 100 < l.length
    · exact back_bytes v0 l0 s v l w hx0 hx hs hb htab
    · by_cases hpe : (pparse s).2.1 = 0
      · by_cases hre : (pbread l).2.1 = 0
        · exact back_11 v0 l0 s v l w hx0 hx hs hb hpe hre htab
        · exact back_10 v0 l0 s v l w hx0 hx hs hb hpe hre htab
      · by_cases hre : (pbread l).2.1 = 0
        · exact back_01 v0 l0 s v l w hx0 hx hs hb hpe hre htab
        · exact back_00 v0 l0 s v l w hx0 hx hs hb hpe hre htab
theorem pow_back {W : World} (h : laidMetH Tryd.prog Rows.paramsBackRow.laid W) : PowTab W := by
  rw [MakeChecks.laidMetH_plain _ _ _ (by kernel_rfl)] at h
  exact pow_of h (List.Mem.tail _ (List.Mem.tail _ (List.Mem.head _)))
end Go.Proofs.YtpflmldmbpnllaaDoor
namespace Go.Proofs.YtpflmldmbpnllaaDoor
set_option maxRecDepth 100000
set_option maxHeartbeats 4000000
set_option maxRecDepth 100000
open Go Go.RowKit Go.Own Go.ChangeShapes Go.WideShapes Go.ChangeAt Go.WideElems
end Go.Proofs.YtpflmldmbpnllaaDoor
namespace Go.Proofs.YtpflmldmbpnllaaDoor.paramsBack
open Go.ChangeShapes Go.WideShapes Go.ChangeAt Go.RowKit Go.Own
open Go.ChangeMaps (open_string shut_string)
theorem own : ownKnob Tryd.prog.godebug = none := by kernel_rfl
theorem laid : laidOutB Tryd.prog = true := by kernel_rfl
set_option maxRecDepth 100000 in
theorem lifted (os : Os) (started : os.Started) (H : Type) (enc : TypeId × Value → H) :
    ReturnsInHanded {} Tryd.checked os 6 .any (fun w args => (Rows.paramsBackSpec.pre enc Tryd.prog Tryd.f6 Rows.paramsBackRow.domain false w args ∧ laidMetH Tryd.prog Rows.paramsBackRow.laid w) ∧ sizedMet enc Tryd.prog Tryd.f6 (OpenSpec.ofChange Rows.paramsBackSpec) false w args)
      (Rows.paramsBackSpec.post enc Tryd.prog Tryd.f6 false true false false) := by
  refine returnsInHanded_of_change_and (C := Tryd.checked) (X := fun w _ => laidMetH Tryd.prog Rows.paramsBackRow.laid w) (fun _ _ _ hh h => h.of_heap hh) own started (by kernel_rfl) Tryd.func6
    (ChangeSpec.witness_shaped (enc := enc) (C := Tryd.checked) (os := os) (X := fun w _ => laidMetH Tryd.prog Rows.paramsBackRow.laid w) false (World.laidAll Tryd.prog os Rows.paramsBackRow.laid) #[.slice none 0 0, .string ⟨#[]⟩, .slice none 0 0] 8 (World.laidAll_os _ _ _)
      (World.shaped_of_ZipB (by kernel_rfl) (by kernel_rfl)) (by kernel_rfl) (by kernel_rfl) (by kernel_rfl)
      (by rw [MakeChecks.laidMetH_plain _ _ _ (by kernel_rfl)]; exact laidMet_laidAll _ (by kernel_rfl) (by kernel_rfl))) ?_
  intro W base args ds gs before hval0 hW hcnd _ hL hsz0
  have hval : ∀ (j : Nat) t v, Tryd.f6.params[j]? = some t → args[j]? = some v → Value.okWide Tryd.prog W .any base t v := hval0
  have hW' := hW
  obtain ⟨p, q, hA0, hV, rfl, hfz, hnd⟩ := hW
  have hA : DataW.TrodAll enc Tryd.prog W 0 (fun _ => true) true Tryd.f6.params.toList args.toList ds p := hA0
  rw [Tryd.params6] at hA hval
  obtain ⟨v0, vs0, d0, ds0, p0, q0, hargs, rfl, rfl, h0, r0⟩ := trodAll_cons hA
  obtain ⟨v1, vs1, d1, ds1, p1, q1, rfl, rfl, rfl, h1, r1⟩ := trodAll_cons r0
  obtain ⟨v2, vs2, d2, ds2, p2, q2, rfl, rfl, rfl, h2, r2⟩ := trodAll_cons r1
  obtain ⟨rfl, rfl, rfl⟩ := trodAll_nil r2
  obtain rfl : args = #[v0, v1, v2] := by cases args; simp_all
  obtain ⟨rfl, rfl⟩ := trodVars_none hV
  obtain ⟨l0, hl0⟩ := open_intsAt Tryd.underlying55 Tryd.underlying3 (by kernel_rfl) h0 (okWide_slice Tryd.underlying55 (hval 0 55 v0 rfl rfl))
  obtain ⟨⟨⟨s1⟩⟩, rfl, rfl, rfl, w1⟩ := open_string Tryd.underlying9 (hval 1 9 v1 rfl rfl) h1
  obtain ⟨l2, hl2⟩ := open_bytesAt Tryd.underlying39 Tryd.underlying5 (by kernel_rfl) h2 (okWide_slice Tryd.underlying39 (hval 2 39 v2 rfl rfl))
  clear hA0 hval0
  refine (back_all v0 l0 s1 v2 l2 W hl0 hl2 (pow_back hL)).mono fun e W' ⟨he, hg⟩ => ?_
  subst he
  exact ⟨_, rfl, law_post laid (by kernel_rfl) rfl Tryd.underlying4 rfl rfl hW' (hg.below (Nat.le_refl _) (fun _ _ x => x))⟩
theorem row : Rows.ParamsBackSaid :=
  OpenClaim.holds_of_wide 6 Tryd.f6 rfl rfl rfl rfl rfl rfl rfl ⟨rfl, rfl, rfl, rfl, rfl⟩ rfl rfl rfl rfl rfl (by kernel_rfl) Tryd.func6 (by kernel_rfl)
    (of_decide_eq_true (by kernel_rfl)) (by unfold Func.isWrapper; first | (rw [if_pos (by decide +kernel)]; kernel_rfl) | (rw [if_neg (by decide +kernel)]; exact ⟨rfl, rfl⟩))
    (fun os started H enc _ => lifted os started H enc)
theorem proved : Rows.ParamsBackCardSaid :=
  Claim7.holds_tied_plain_at .later [] Rows.paramsBackCard.laidKinds true Rows.paramsBackCard.stood.harness false row (fun _ h => by cases h) (by kernel_rfl) (fun _ h => by cases h) paramsBack_row_tie rfl ⟨rfl, rfl⟩ (by kernel_rfl) rfl
    (fun f fn hf hfn => by
      obtain rfl : f = 6 := Option.some.inj ((show Tryd.prog.funcNamed Rows.paramsBackRow.func = some 6 by kernel_rfl).symm.trans hf) |>.symm
      obtain rfl : fn = Tryd.f6 := (Option.some.inj (Tryd.func6.symm.trans hfn)).symm
      exact ⟨by kernel_rfl, fun j t ht => by
        have hall : (Tryd.f6.params.toList.all fun u => !Tryd.prog.wantsStandIn u) = true := by kernel_rfl
        exact (show Tryd.prog.wantsStandIn t = false by simpa using List.all_eq_true.1 hall t (by simpa using Array.mem_of_getElem? ht))⟩)
    (by kernel_rfl)
end Go.Proofs.YtpflmldmbpnllaaDoor.paramsBack
